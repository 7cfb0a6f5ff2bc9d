import Derived.Test.YticeppepdlgbhaaGreatDoorAmC
import Derived.SizedLaws
import Derived.Below
import Derived.Laws.AppendOwn
import Derived.Sort.KeysCollected
import Derived.Maps.Range
/-! Rows: how large what stands in slices may be. -/
namespace Go.Am
end Go.Am

/-! A slice of an array that lies in memory. -/
namespace Go.Am
set_option linter.unusedSimpArgs false
set_option linter.unusedVariables false
set_option linter.unusedSectionVars false

end Go.Am

set_option linter.unusedSimpArgs false
set_option linter.unusedVariables false
/-! Lemmas for a walk: a struct of parts that keep the right to append; a call that reads a block while others may be under way. -/
namespace Go.Am
end Go.Am

set_option linter.unusedSimpArgs false
/-! Lemmas for a walk: slices in memory that is known: fresh copies, and copies of them. -/
namespace Go.Am
set_option linter.unusedVariables false
section
variable {P : Program} {tkr : Nat → Option Nat} {ops : Array Oper} {K : St → Prop} {i : Nat} {rest : List Oper} {d : Nat} {T : Nat → AVal} {M : Mem} {ty : TypeId} {pos : String} {af : Array Edge} {x y : Operand} {ats : Array TypeId}
  {α : Type} {f : α → AVal} {z0 : α}

theorem shut_map (hf : ∀ a, (f a).shut = f a) (l : List α) : (l.map f).map AVal.shut = l.map f := by
  rw [List.map_map]; exact List.map_congr_left fun a _ => hf a
theorem src_sl {ys : List AVal} {own : Bool} (hy : ev T y = .sl ys own) : srcM M (ev T y) = some (.sl ys own) := by rw [hy]; rfl
end
end Go.Am

/-! Maps that are known to the last: keys, values, and when each entry was born. -/
namespace Go.Am
set_option linter.unusedVariables false
set_option linter.unusedSimpArgs false
set_option linter.unusedSectionVars false
/-- A map's entries. -/
structure En (α : Type) where
  k : α
  v : Value
  s : Nat
def entsX {α : Type} (ek : α → Value) (l : List (En α)) : Array MapEntry := (l.map fun e => ⟨ek e.k, e.v, e.s⟩).toArray
section
variable {P : Program} {tkr : Nat → Option Nat} {ops : Array Oper} {K : St → Prop} {i : Nat} {rest : List Oper} {d : Nat} {T : Nat → AVal} {M : Mem} {ty mt kt et : TypeId} {pos : String} {af : Array Edge} {x y z : Operand} {ats : Array TypeId}
  {α : Type} [DecidableEq α] {ek : α → Value} {r clk : Nat} {l : List (En α)} {k : α} {g : Option (Nat × Bool)}

theorem Fixed.raw (v : Value) : Fixed P (.raw v) v := ⟨fun _ _ => .raw v, fun _ _ _ => Spare.not_raw⟩

theorem set_self {β : Type} {l : List β} {j : Nat} {e : β} (h : l[j]? = some e) : l.set j e = l := by
  apply List.ext_getElem?
  intro i
  rw [List.getElem?_set]
  by_cases hi : j = i
  · subst hi
    rw [if_pos rfl, if_pos (List.getElem?_eq_some_iff.1 h).1, h]
  · rw [if_neg hi]
end

section
variable {P : Program} {tkr : Nat → Option Nat} {ops : Array Oper} {K : St → Prop} {i : Nat} {rest : List Oper} {d : Nat} {dst : Option Nat} {T : Nat → AVal} {M : Mem} {ty st e : TypeId} {pos : String} {af : Array Edge} {x y z : Operand} {ats : Array TypeId}
  {β : Type} {f : β → AVal} {z0 : β} {g : Option (Nat × Bool)}

end
end Go.Am

/-! From the kit's contracts to ours: what a callee leaves below its own blocks; maps that are known to the last as the kit's owned maps. -/
namespace Go.Am
set_option linter.unusedVariables false
set_option linter.unusedSimpArgs false
set_option linter.unusedSectionVars false
section
variable {P : Program} {κ : Ghost} {w w' : World} {M : Mem}

/-- Nothing that lay before has turned. -/
theorem Holds.below {T : Nat → AVal} {V : Nat → Value} (h : Holds P κ T V M w) (hb : Go.RowKit.Below w.heap.size w w') : Holds P κ T V M w' ∧ Keep κ w κ w' := by
  have hb' : ∀ b, b < w.heap.size → w'.heap[b]? = w.heap[b]? := hb.block
  have hk : Keep κ w κ w' := ⟨hb.os, hb.tape, hb.output, hb.size, fun b hb => shape_of_block (hb' b hb), fun b x hx => ⟨hx, cell_of_block (hb' b (h.tag b x (by rw [hx]; simp)).1)⟩,
    fun b x hx => ⟨hx, cell_of_block (hb' b (h.tag b x (by rw [hx]; simp)).1), frozen_of_block (hb' b (h.tag b x (by rw [hx]; simp)).1)⟩, fun b hb _ => hb' b hb⟩
  refine ⟨⟨fun t => hk.rep (h.tmp t), fun b o hb => ?_, fun b o hb => ⟨Nat.lt_of_lt_of_le (h.tag b o hb).1 hk.size, (h.tag b o hb).2⟩, fun t b o hsp => h.sp t b o (hsp.keep (h.tmp t) hk.shape), fun b o t hb => ?_, fun b o c j hb => ?_⟩, hk⟩
  · have hlt' := h.lt hb
    have := h.obj b o hb
    cases o with
    | it o => exact ⟨(hb' b hlt').trans this.1, this.2⟩
    | cells l =>
      obtain ⟨c, e, fr, a1, a2, a3, a4⟩ := this
      exact ⟨c, e, fr, (hb' b hlt').trans a1, a2, fun x hx => (frozen_of_block (hb' b hlt')).trans (a3 x hx), fun j X x e1 e2 => ⟨hk.rep (a4 j X x e1 e2).1, (a4 j X x e1 e2).2.1, fun b' o' hs => (a4 j X x e1 e2).2.2 b' o' (hs.keep (a4 j X x e1 e2).1 hk.shape)⟩⟩
    | map es =>
      obtain ⟨ents, clock, a1, a2, a3, a4, a5⟩ := this
      exact ⟨ents, clock, (hb' b hlt').trans a1, a2, fun j e ent e1 e2 => ⟨(a3 j e ent e1 e2).1, hk.rep (a3 j e ent e1 e2).2.1, fun b' o' hs => (a3 j e ent e1 e2).2.2 b' o' (hs.keep (a3 j e ent e1 e2).2.1 hk.shape)⟩, a4, a5⟩
  · have := h.wr b o t hb
    have hlt' := (h.tag b o (by rw [hb]; simp)).1
    exact ⟨by rw [cell_of_block (hb' b hlt')]; exact this.1, by rw [frozen_of_block (hb' b hlt')]; exact this.2⟩
  · have := h.mwr b o c j hb
    have hlt' := (h.tag b o (by rw [hb]; simp)).1
    exact ⟨by rw [cell_of_block (hb' b hlt')]; exact this.1, by rw [frozen_of_block (hb' b hlt')]; exact this.2⟩

/-- A row of texts that nobody else knows of is one that stays. -/
theorem Holds.row {T : Nat → AVal} {V : Nat → Value} (h : Holds P κ T V M w) (hb : Go.RowKit.Below w.heap.size w w') {g cap : Nat} {cur : Array Value} {e : TypeId} (hg : w.heap.size ≤ g) (hblk : w'.heap[g]? = some (.cells cur e (0, 0))) {l : List AVal} (hcap : l.length ≤ cap) (hsz : cap = cur.size) (hl : ∀ X ∈ l, X.cells = [X]) (hv : ∀ (j : Nat) X v, l[j]? = some X → cur[j]? = some v → Rep P κ w' X v) :
    ∃ κ', Holds P κ' (argT [.sl l false]) (fun t => if t = 0 then .slice (some ⟨g, 0, none⟩) l.length cap else undef) M w' ∧ Keep κ w κ' w' := by
  obtain ⟨h1, hk1⟩ := h.below hb
  have hfree : ∀ o, κ g o = .free := fun o => by
    cases hq : κ g o with
    | free => rfl
    | _ => exact absurd (h.tag g o (by rw [hq]; simp)).1 (by omega)
  let κ' : Ghost := fun b o => if b = g ∧ o < l.length then .imm else κ b o
  have hne : ∀ b o, κ b o ≠ .free → κ' b o = κ b o := fun b o hq => by
    show (if b = g ∧ o < l.length then Tag.imm else κ b o) = _
    rw [if_neg]
    rintro ⟨rfl, -⟩
    exact hq (hfree o)
  have hk2 : Keep κ w' κ' w' := ⟨rfl, rfl, rfl, Nat.le_refl _, fun _ _ => rfl, fun b o hq => ⟨by rw [hne b o (by rw [hq]; simp)]; exact hq, rfl⟩, fun b o hq => ⟨by rw [hne b o (by rw [hq]; simp)]; exact hq, rfl, rfl⟩, fun _ _ _ => rfl⟩
  have hgl : g < w'.heap.size := (Array.getElem?_eq_some_iff.1 hblk).1
  have hMg : M g = none := by
    cases hm : M g with
    | none => rfl
    | some o => exact absurd (h.lt hm) (by omega)
  have hfl : flat l = l := flat_units hl
  refine ⟨κ', ⟨fun t => ?_, fun b o hb => ?_, fun b o hq => ?_, fun t b o hsp => ?_, fun b o t hq => ?_, fun b o c j hq => ?_⟩, hk1.trans hk2⟩
  · by_cases ht : t = 0
    · subst ht
      have hcs : ∀ j, j < l.length → w'.cell? ⟨g, 0 + j, none⟩ = some (cur.getD j undef) := fun j hj => by
        rw [cell_of_cells hblk]
        have : j < cur.size := by omega
        simp [Array.getD, this]
      refine .sl l false g 0 cap 1 (fun j => cur.getD j undef) hcap (fun X hX => by rw [hl X hX]; rfl) (fun j hj => ?_) (fun j hj => hcs j (by rwa [hfl] at hj)) (fun j c hc => ?_) (fun e => by cases e)
      · rw [hfl] at hj
        show (if g = g ∧ 0 + j < l.length then Tag.imm else _) = _
        rw [if_pos ⟨rfl, by omega⟩]
      · rw [hfl] at hc
        have hj : j < l.length := (List.getElem?_eq_some_iff.1 hc).1
        have hj2 : j < cur.size := by omega
        have e : cur.getD j undef = cur[j] := by simp [Array.getD, hj2]
        rw [e]
        exact hk2.rep (hv j c cur[j] hc (by simp [hj2]))
    · obtain ⟨k, rfl⟩ : ∃ k, t = k + 1 := ⟨t - 1, by omega⟩
      exact .undef _
  · have := h1.obj b o hb
    cases o with
    | it o => exact this
    | cells l =>
      obtain ⟨c, e, fr, a1, a2, a3, a4⟩ := this
      exact ⟨c, e, fr, a1, a2, a3, fun j X x e1 e2 => ⟨hk2.rep (a4 j X x e1 e2).1, (a4 j X x e1 e2).2.1, fun b' o' hs => by
        have := (a4 j X x e1 e2).2.2 b' o' hs
        rw [hne b' o' (by rw [this]; simp)]; exact this⟩⟩
    | map es =>
      obtain ⟨ents, clock, a1, a2, a3, a4, a5⟩ := this
      exact ⟨ents, clock, a1, a2, fun j e ent e1 e2 => ⟨(a3 j e ent e1 e2).1, hk2.rep (a3 j e ent e1 e2).2.1, fun b' o' hs => by
        have := (a3 j e ent e1 e2).2.2 b' o' hs
        rw [hne b' o' (by rw [this]; simp)]; exact this⟩, a4, a5⟩
  · by_cases hq' : κ b o = .free
    · have : b = g ∧ o < l.length := by
        refine Classical.byContradiction fun hn => hq ?_
        show (if b = g ∧ o < l.length then Tag.imm else κ b o) = _
        rw [if_neg hn]; exact hq'
      exact ⟨by rw [this.1]; exact hgl, by rw [this.1, hMg]; exact .none _⟩
    · rw [hne b o hq']; exact h1.tag b o hq'
  · by_cases ht : t = 0
    · subst ht
      rcases hsp with ⟨l', o1, c1, g1, -⟩ | ⟨Vs, vs', i, X, x, g1, -⟩ <;> cases g1
    · obtain ⟨k, rfl⟩ : ∃ k, t = k + 1 := ⟨t - 1, by omega⟩
      rcases hsp with ⟨l', o1, c1, g1, -⟩ | ⟨Vs, vs', i, X, x, g1, -⟩ <;> cases g1
  · have hq2 : κ b o = .slot t := by
      by_cases hf : κ b o = .free
      · have : b = g ∧ o < l.length ∨ ¬ (b = g ∧ o < l.length) := Classical.em _
        rcases this with h' | h'
        · have : κ' b o = .imm := if_pos h'
          rw [this] at hq; cases hq
        · have : κ' b o = κ b o := if_neg h'
          rw [← this]; exact hq
      · rw [← hne b o hf]; exact hq
    exact h1.wr b o t hq2
  · have hq2 : κ b o = .mslot c j := by
      by_cases hf : κ b o = .free
      · have : b = g ∧ o < l.length ∨ ¬ (b = g ∧ o < l.length) := Classical.em _
        rcases this with h' | h'
        · have : κ' b o = .imm := if_pos h'
          rw [this] at hq; cases hq
        · have : κ' b o = κ b o := if_neg h'
          rw [← this]; exact hq
      · rw [← hne b o hf]; exact hq
    exact h1.mwr b o c j hq2
end

/-- Go's order of texts. -/
def sortS (l : List ByteArray) : List ByteArray := l.mergeSort fun x y => decide (x.data.toList ≤ y.data.toList)
def anyR (v : Value) : Option (DataW Unit × List MemPlace) := some (.lit (.bool true), [])
def keysD (l : List (En ByteArray)) : DataW Unit := .map (((entsX Value.string l).toList.map fun x => ((match x.key with | .string s => .string s.data.toList | _ => .bool false : Lit), (DataW.lit (.bool true) : DataW Unit))).foldr DataW.insert [])
theorem owns_keys {P : Program} {kt r clk : Nat} {l : List (En ByteArray)} {w : World} (hk : P.underlying kt = some .string) (hr : w.heap[r]? = some (.map (entsX Value.string l) clk)) (hl : l.length ≤ maxLen) (hs : ∀ e ∈ l, e.k.size ≤ maxLen) (hst : ∀ e ∈ l, e.s < clk) (hsn : (l.map En.s).Nodup) (hnd : (l.map En.k).Nodup) :
    w.ownsMap P kt anyR r l.length (keysD l) ∧ (l.map fun e => e.k.data.toList).Perm (strKeys (keysD l)) ∧ Go.Maps.size (keysD l) = l.length := by
  have hkey : ∀ s : ByteArray, s.size ≤ maxLen → keyOf P kt (.string s) = some (.string s.data.toList) := fun s hs => by
    unfold keyOf
    rw [hk]
    simp only [mapKey, hk]
    rw [if_pos hs]
  have hrd : ∀ e ∈ l, Go.WideElems.rd P kt anyR (⟨.string e.k, e.v, e.s⟩ : MapEntry) = some (.string e.k.data.toList, .lit (.bool true)) := fun e he => by
    unfold Go.WideElems.rd
    rw [hkey e.k (hs e he)]; rfl
  have hmem : ∀ x, x ∈ (entsX Value.string l).toList ↔ ∃ e ∈ l, (⟨.string e.k, e.v, e.s⟩ : MapEntry) = x := fun x => by simp [entsX]
  have hkeyinj : ∀ {a b : ByteArray}, a.data.toList = b.data.toList → a = b := fun {a b} h => by
    cases a; cases b
    simp only [ByteArray.mk.injEq]
    exact Array.ext' h
  have hfit : Go.WideElems.Fit P kt anyR (entsX Value.string l) clk := by
    refine ⟨by simpa [entsX] using hl, ⟨fun x hx => ?_, ?_, ?_⟩, fun x hx => ?_⟩
    · obtain ⟨e, he, rfl⟩ := (hmem x).1 hx
      exact hst e he
    · have : (entsX Value.string l).toList.map (·.born) = l.map En.s := by simp [entsX]
      rw [this]; exact hsn
    · have : (entsX Value.string l).toList.map (·.key) = (l.map En.k).map Value.string := by simp [entsX]
      rw [this]
      exact (List.Pairwise.map _ (fun a b hab => fun e => hab (by cases e; rfl)) hnd)
    · obtain ⟨e, he, rfl⟩ := (hmem x).1 hx
      exact ⟨_, hrd e he⟩
  have hD : keysD l = .map (((entsX Value.string l).toList.map (Go.WideElems.rg P kt anyR)).foldr DataW.insert []) := by
    unfold keysD
    congr 2
    apply List.map_congr_left
    intro x hx
    obtain ⟨e, he, rfl⟩ := (hmem x).1 hx
    unfold Go.WideElems.rg
    rw [hrd e he]; rfl
  have hown : w.ownsMap P kt anyR r l.length (keysD l) := ⟨_, clk, hr, hfit, by simp [entsX], hD⟩
  refine ⟨hown, ?_, ?_⟩
  · obtain ⟨es, he1, hpw, -⟩ := hown.entries (Go.Maps.string_keyed hk)
    obtain ⟨es', he2, hko⟩ := hown.keysOf
    rw [he1] at he2; cases he2
    rw [he1]
    refine perm_strKeys hpw (fun p hp => by obtain ⟨v, hv⟩ := hko p hp; obtain ⟨x, _, hx, _⟩ := Go.Maps.keyOf_str hk hv; exact ⟨x, hx⟩) ?_ fun x => ?_
    · rw [show (l.map fun e => e.k.data.toList) = (l.map En.k).map fun k => k.data.toList by simp]
      exact List.Pairwise.map _ (fun a b hab => fun e => hab (hkeyinj e)) hnd
    · rw [Go.Maps.has_eq, List.any_eq_true]
      have hes : ∀ p, p ∈ es ↔ ∃ e ∈ l, (Lit.string e.k.data.toList, (DataW.lit (.bool true) : DataW Unit)) = p := fun p => by
        have : (DataW.map es : DataW Unit) = .map (((entsX Value.string l).toList.map fun x => ((match x.key with | .string s => .string s.data.toList | _ => .bool false : Lit), (DataW.lit (.bool true) : DataW Unit))).foldr DataW.insert []) := he1.symm
        injection this with this
        rw [this, mem_sorted, List.mem_map]
        constructor
        · rintro ⟨x, hx, rfl⟩
          obtain ⟨e, he, rfl⟩ := (hmem x).1 hx
          exact ⟨e, he, rfl⟩
        · rintro ⟨e, he, rfl⟩
          exact ⟨_, (hmem _).2 ⟨e, he, rfl⟩, rfl⟩
      rw [List.mem_map]
      constructor
      · rintro ⟨e, he, rfl⟩
        exact ⟨_, (hes _).2 ⟨e, he, rfl⟩, by simp [Lit.sameKey]⟩
      · rintro ⟨p, hp, hsk⟩
        obtain ⟨e, he, rfl⟩ := (hes p).1 hp
        exact ⟨e, he, by simpa [Lit.sameKey] using hsk⟩
  · unfold keysD
    rw [Go.Maps.size_eq]
    have := (Go.WideShapes.sorted_perm ((entsX Value.string l).toList.map fun x => ((match x.key with | .string s => .string s.data.toList | _ => .bool false : Lit), (DataW.lit (.bool true) : DataW Unit)))).length_eq
    rw [this]
    simp [entsX]
theorem sort_keys {l : List ByteArray} {ss : List (List UInt8)} (h : ss.Perm (l.map fun k => k.data.toList)) : ss.mergeSort leB = (sortS l).map fun k => k.data.toList := by
  rw [mergeSort_of_perm h]
  unfold sortS
  exact (List.map_mergeSort (r := fun x y : ByteArray => decide (x.data.toList ≤ y.data.toList)) (s := leB) (f := fun k : ByteArray => k.data.toList) (fun a _ b _ => rfl)).symm

end Go.Am
