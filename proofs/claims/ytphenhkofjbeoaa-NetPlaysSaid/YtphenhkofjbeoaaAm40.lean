import Derived.Test.YtphenhkofjbeoaaAm36
import Derived.Deep.Slices
import Derived.Below
/-! From what a row reads to what the abstract machine knows, and back. -/
namespace Go.Am
open Go.Deep Go.WideShapes Go.ChangeShapes Go.RowKit
set_option linter.unusedSimpArgs false

section
variable {H : Type} {enc : TypeId × Value → H} {P : Program} {w : World} {base : Nat} {spare : Nat → Bool} {held : Bool}

/-- Ahead of the call all that is there stays as it is. -/
def imm0 (w : World) : Ghost := fun b _ => if b < w.heap.size then .imm else .free

theorem imm0_cell {a : Addr} {v : Value} (h : w.cell? a = some v) : ∀ o, imm0 w a.block o = .imm := fun o => by
  unfold imm0
  rw [if_pos]
  unfold World.cell? at h
  rcases Nat.lt_or_ge a.block w.heap.size with hb | hb
  · exact hb
  · rw [Array.getElem?_eq_none hb] at h; cases h

/-- Cells that hold nothing but plain values. -/
def Plain (X : AVal) (cs : List Value) : Prop := X.cells = cs.map AVal.raw

/-- An argument that is a slice of structs, or of values, that hold nothing but plain values. -/
theorem open_flat {α : Type} (f : α → AVal) (told : α → DataW H) (wf : α → Prop) {t e : TypeId} {n : Nat} (ht : P.underlying t = some (.slice e)) (hn : P.cellsOf e = n) (h0 : 0 < n)
    (elem : ∀ m cs d pl, DataW.trod enc P w 0 spare held m e cs = some (d, pl) → cs.length = n → ∃ a, wf a ∧ d = told a ∧ Plain (f a) cs ∧ pl = [])
    {v : Value} {d : DataW H} {ps : List MemPlace} (hv : Value.okWide P w .any base t v) (h : DataW.Trod enc P w 0 spare held t v d ps) :
    ∃ l : List α, Rep P (imm0 w) w (.sl (l.map f) false) v ∧ (∀ a ∈ l, wf a) ∧ ((d = .nil ∧ l = []) ∨ ∃ r, d = .slice (l.map told) r) ∧ l.length ≤ maxLen ∧ ∀ x ∈ ps, x.block < w.heap.size := by
  have hlt : ∀ x ∈ ps, x.block < w.heap.size := by obtain ⟨m, hm⟩ := h; exact DataW.trod_lt m _ _ _ hm
  obtain ⟨a₀, len₀, cap₀, rfl⟩ := okWide_slice ht hv
  obtain ⟨fuel, hf⟩ := h
  rcases open_slice ht hf with ⟨hc, hx⟩ | ⟨a, len, cap, m, n', D, Pl, hc, hb, hl, hm, hmm, hx, hel⟩
  · simp only [Value.cells, List.cons.injEq, Value.slice.injEq, and_true] at hc
    obtain ⟨rfl, rfl, rfl⟩ := hc
    cases hx
    exact ⟨[], .nil false, (fun _ h => by cases h), .inl ⟨rfl, rfl⟩, Nat.zero_le _, hlt⟩
  · simp only [Value.cells, List.cons.injEq, Value.slice.injEq, and_true] at hc
    obtain ⟨rfl, rfl, rfl⟩ := hc
    have hspot : a.spot = none := by
      simp only [Value.okWide, ht, Cell.okWide, Cell.ok] at hv
      exact hv.2.2.2.1
    obtain ⟨b, off, sp⟩ := a
    subst hspot
    rw [hn] at hel
    have hlm : len₀ ≤ m := by rw [hmm]; split <;> omega
    have hch : ∀ i, i < len₀ → ∃ a cs', wf a ∧ D i = told a ∧ Plain (f a) cs' ∧ cs'.length = n ∧ ∀ j, j < n → w.cell? ⟨b, off + (i * n + j), none⟩ = cs'[j]? := by
      intro i hi
      obtain ⟨cs', h1, h2⟩ := hel i (by omega)
      obtain ⟨_, h3, h4⟩ := World.cells?_some h1
      obtain ⟨a, h5, h6, h7, -⟩ := elem _ _ _ _ h2 h3
      refine ⟨a, cs', h5, h6, h7, h3, fun j hj => ?_⟩
      have := h4 j hj
      rw [addr_add, addr_add, Nat.add_assoc] at this
      exact this
    obtain ⟨l, hll, hlg⟩ : ∃ l : List α, l.length = len₀ ∧ ∀ i a, l[i]? = some a → ∃ cs', wf a ∧ D i = told a ∧ Plain (f a) cs' ∧ cs'.length = n ∧ ∀ j, j < n → w.cell? ⟨b, off + (i * n + j), none⟩ = cs'[j]? := by
      clear hx hf hv hl hlm hmm hel
      induction len₀ with
      | zero => exact ⟨[], rfl, fun i a h => by simp at h⟩
      | succ k ih =>
        obtain ⟨l, h1, h2⟩ := ih (fun i hi => hch i (by omega))
        obtain ⟨a, cs', h3⟩ := hch k (by omega)
        refine ⟨l ++ [a], by simp [h1], fun i x hx => ?_⟩
        rcases Nat.lt_or_ge i l.length with hi | hi
        · rw [List.getElem?_append_left hi] at hx; exact h2 i x hx
        · rw [List.getElem?_append_right hi] at hx
          have : i = k := by
            rcases Nat.lt_or_ge (i - l.length) 1 with h | h
            · omega
            · rw [List.getElem?_eq_none (by simpa using h)] at hx; cases hx
          subst this
          rw [show i - l.length = 0 by omega] at hx
          simp only [List.getElem?_cons_zero, Option.some.injEq] at hx
          subst hx
          exact ⟨cs', h3⟩
    have hsz : ∀ e ∈ l.map f, e.cells.length = n := by
      intro e he
      obtain ⟨a, ha, rfl⟩ := List.mem_map.1 he
      obtain ⟨i, hi⟩ := List.mem_iff_getElem?.1 ha
      obtain ⟨cs', -, -, h3, h4, -⟩ := hlg i a hi
      rw [h3, List.length_map, h4]
    have hcell : ∀ j, j < (flat (l.map f)).length → ∃ v, w.cell? ⟨b, off + j, none⟩ = some v ∧ (flat (l.map f))[j]? = some (.raw v) := by
      intro j hj
      rw [flat_length hsz, List.length_map, hll] at hj
      have hi : j / n < len₀ := (Nat.div_lt_iff_lt_mul h0).2 hj
      have hr : j % n < n := Nat.mod_lt _ h0
      have e : j = j / n * n + j % n := by have := Nat.div_add_mod j n; rw [Nat.mul_comm] at this; omega
      obtain ⟨a, ha⟩ : ∃ a, l[j / n]? = some a := ⟨_, List.getElem?_eq_getElem (by omega)⟩
      obtain ⟨cs', -, -, h3, h4, h5⟩ := hlg _ a ha
      have h6 := h5 _ hr
      rw [← e] at h6
      have h7 : cs'[j % n]? = some cs'[j % n] := List.getElem?_eq_getElem (by omega)
      refine ⟨cs'[j % n], h6.trans h7, ?_⟩
      have h8 := flat_get hsz (i := j / n) (e := f a) (by simp [ha]) hr
      rw [← e] at h8
      rw [h8, h3, List.getElem?_map, h7]; rfl
    have hlen : len₀ = (l.map f).length := by simp [hll]
    refine ⟨l, ?_, ?_, .inr ⟨_, by
      have h1 : d = .slice ((List.range len₀).map D) _ := congrArg Prod.fst hx
      rw [h1]
      congr 1
      refine List.ext_getElem? fun i => ?_
      rcases Nat.lt_or_ge i len₀ with hi | hi
      · obtain ⟨a, ha⟩ : ∃ a, l[i]? = some a := ⟨_, List.getElem?_eq_getElem (by omega)⟩
        obtain ⟨cs', -, h2, -⟩ := hlg i a ha
        simp [hi, ha, h2]
      · rw [List.getElem?_eq_none (by simpa using hi), List.getElem?_eq_none (by simp [hll]; exact hi)]⟩, by omega, hlt⟩
    · rw [hlen]
      refine .sl (l.map f) false b off cap₀ n (fun j => (w.cell? ⟨b, off + j, none⟩).getD undef) (by omega) hsz (fun j hj => ?_) (fun j hj => ?_) (fun j c hc => ?_) (fun h => by cases h)
      · obtain ⟨v, h1, -⟩ := hcell j hj
        exact imm0_cell h1 _
      · obtain ⟨v, h1, -⟩ := hcell j hj
        rw [h1]; rfl
      · have hj : j < (flat (l.map f)).length := by
          rcases Nat.lt_or_ge j (flat (l.map f)).length with h | h
          · exact h
          · rw [List.getElem?_eq_none h] at hc; cases hc
        obtain ⟨v, h1, h2⟩ := hcell j hj
        rw [h2] at hc
        obtain rfl := Option.some.inj hc
        rw [h1]
        exact .raw v
    · intro a ha
      obtain ⟨i, hi⟩ := List.mem_iff_getElem?.1 ha
      obtain ⟨cs', h1, -⟩ := hlg i a hi
      exact h1

/-- An argument that is a struct of plain values. -/
theorem open_flat1 {α : Type} (f : α → AVal) (told : α → DataW H) (wf : α → Prop) {t : TypeId} {fs : Array Field} {n : Nat} (ht : P.underlying t = some (.struct fs)) (hn : P.cellsOf t = n)
    (elem : ∀ m cs d pl, DataW.trod enc P w 0 spare held m t cs = some (d, pl) → cs.length = n → ∃ a, wf a ∧ d = told a ∧ Plain (f a) cs ∧ pl = []) (hf : ∀ a, ∃ cs, f a = .agg cs)
    {v : Value} {d : DataW H} {ps : List MemPlace} (hv : Value.okWide P w .any base t v) (h : DataW.Trod enc P w 0 spare held t v d ps) :
    ∃ a : α, Rep P (imm0 w) w (f a) v ∧ wf a ∧ d = told a ∧ ∀ x ∈ ps, x.block < w.heap.size := by
  have hlt : ∀ x ∈ ps, x.block < w.heap.size := by obtain ⟨m, hm⟩ := h; exact DataW.trod_lt m _ _ _ hm
  simp only [Value.okWide, ht] at hv
  obtain ⟨cs, rfl, hsz, -⟩ := hv
  obtain ⟨fuel, hfu⟩ := h
  obtain ⟨a, h1, h2, h3, -⟩ := elem _ _ _ _ hfu (by show cs.toList.length = n; rw [Array.length_toList, hsz, hn])
  obtain ⟨l, hl⟩ := hf a
  refine ⟨a, ?_, h1, h2, hlt⟩
  rw [hl]
  have h4 : l = cs.toList.map AVal.raw := by
    have : (f a).cells = cs.toList.map AVal.raw := h3
    rw [hl] at this
    exact this
  subst h4
  refine .agg _ _ (by simp) fun i c v hc hv => ?_
  rw [List.getElem?_map, Array.getElem?_toList, hv] at hc
  obtain rfl := Option.some.inj hc
  exact .raw v

/-- The call, from what is shown of the function. -/
theorem call_of_sound {f : FuncId} {args : List AVal} {vs : Array Value} {X : Value} (hlen : vs.size = args.length) (hs : SoundCall P f args (fun _ => none) fun r M' => r = .raw X ∧ M' = fun _ => none)
    (hr : ∀ (i : Nat) A v, args[i]? = some A → vs[i]? = some v → Rep P (imm0 w) w A v ∧ A.free) : Calls P f vs w fun e w' => e = .returned X ∧ Below w.heap.size w w' := by
  have hT : ∀ t, Rep P (imm0 w) w (argT args t) (vs.getD t undef) ∧ (argT args t).free := by
    intro t
    unfold argT
    rw [List.getD_eq_getElem?_getD]
    rcases Nat.lt_or_ge t args.length with h | h
    · have h1 : args[t]? = some args[t] := List.getElem?_eq_getElem h
      have h2 : vs[t]? = some vs[t] := Array.getElem?_eq_getElem (by omega)
      rw [h1]
      have := hr t _ _ h1 h2
      have e : vs.getD t undef = vs[t] := by simp [Array.getD, show t < vs.size by omega]
      rw [e]; exact this
    · rw [List.getElem?_eq_none h]
      exact ⟨.undef _, by simp [AVal.free]⟩
  refine (hs (imm0 w) w vs hlen ⟨(fun t => (hT t).1), (fun b o h => by cases h), (fun b o h => ⟨?_, rfl⟩), (fun t b o hsp => absurd hsp (Spare.not_free (hT t).2)), (fun b o t h => ?_), (fun b o c j h => ?_)⟩).mono ?_
  · unfold imm0 at h
    split at h
    · assumption
    · exact absurd rfl h
  · unfold imm0 at h; split at h <;> cases h
  · unfold imm0 at h; split at h <;> cases h
  · rintro e w' ⟨v, κ', r, M', rfl, ⟨rfl, rfl⟩, hH, hK⟩
    have h0 := hH.tmp 0
    have : Rep P κ' w' (.raw X) v := by simpa [argT] using h0
    have hv : v = X := rep_raw this
    subst hv
    exact ⟨rfl, hK.os, hK.tape, hK.output, hK.size, fun k hk => hK.block k hk fun o => .inl (by unfold imm0; rw [if_pos hk])⟩

end
end Go.Am
