import Derived.Test.YtkjdclhhmgjfbaaAmF
import Derived.Test.YtkjdclhhmgjfbaaAmE
import Derived.Test.YtkjdclhhmgjfbaaAmD
/-! Slices in memory of elements of several cells: what is appended, read, and written. -/
namespace Go.Am
set_option linter.unusedVariables false
set_option linter.unusedSimpArgs false
set_option linter.unusedSectionVars false
section
variable {P : Program} {tkr : Nat → Option Nat} {ops : Array Oper} {K : St → Prop} {i : Nat} {rest : List Oper} {d : Nat} {T : Nat → AVal} {M M' : Mem} {ty : TypeId} {pos : String} {af : Array Edge} {x y : Operand} {ats : Array TypeId}
  {α : Type} {f : α → AVal} {zs : List AVal} {sz : Nat}
/-- The cells of such elements. -/
def fl (f : α → AVal) (l : List α) : List AVal := l.flatMap fun a => (f a).cells
theorem fl_append (l m : List α) : fl f (l ++ m) = fl f l ++ fl f m := List.flatMap_append
theorem fl_len (hf : ∀ a, (f a).cells.length = sz) : ∀ l : List α, (fl f l).length = l.length * sz
  | [] => by simp [fl]
  | a :: l => by
    show ((f a).cells ++ fl f l).length = _
    rw [List.length_append, hf, fl_len hf l, List.length_cons, Nat.succ_mul, Nat.add_comm]
theorem flat_fl (l : List α) : flat (l.map f) = fl f l := flat_map_cells l
/-- What holds of such an element. -/
structure Uw (f : α → AVal) (sz : Nat) : Prop where
  ok : ∀ a, (f a).ok = true
  len : ∀ a, (f a).cells.length = sz
  shut : ∀ a, (f a).cells.map AVal.shut = (f a).cells
  unit : ∀ a, ∀ X ∈ (f a).cells, X.unit = true
/-- A slice in memory of such elements. -/
def Ws (f : α → AVal) (sz : Nat) (M : Mem) (v : Value) (l : List α) : Prop := (∃ base, v = .slice base 0 0 ∧ okB base ∧ l = []) ∨ ∃ b k R, v = .slice (some ⟨b, 0, none⟩) l.length (l.length + k) ∧ R.length = k * sz ∧ M b = some (.cells (fl f l ++ R))
/-- The block that it has. -/
def bOf (v : Value) (b : Nat) : Prop := ∃ n c, v = .slice (some ⟨b, 0, none⟩) n c ∧ c ≠ 0
theorem Ws.keep {v : Value} {l : List α} (h : Ws f sz M v l) (hb : ∀ b, bOf v b → M b ≠ none → M' b = M b) (hz : 0 < sz) : Ws f sz M' v l := by
  rcases h with h | ⟨b, k, R, rfl, h1, h2⟩
  · exact .inl h
  · by_cases h0 : l.length + k = 0
    · obtain rfl : l = [] := List.eq_nil_of_length_eq_zero (by omega)
      obtain rfl : k = 0 := by omega
      exact .inl ⟨_, rfl, okB.any _, rfl⟩
    · exact .inr ⟨b, k, R, rfl, h1, by rw [hb b ⟨_, _, rfl, h0⟩ (by rw [h2]; exact fun h => by cases h)]; exact h2⟩
theorem Ws.len {v : Value} {l : List α} (h : Ws f sz M v l) : ∃ base c, v = .slice base l.length c := by
  rcases h with ⟨base, rfl, -, rfl⟩ | ⟨b, k, R, rfl, -, -⟩
  · exact ⟨base, 0, rfl⟩
  · exact ⟨_, _, rfl⟩
theorem Ws.get {v : Value} {l : List α} (h : Ws f sz M v l) (hl : 0 < l.length) : ∃ b k R, v = .slice (some ⟨b, 0, none⟩) l.length (l.length + k) ∧ R.length = k * sz ∧ M b = some (.cells (fl f l ++ R)) := by
  rcases h with ⟨base, rfl, -, rfl⟩ | h
  · exact absurd hl (Nat.lt_irrefl _)
  · exact h
theorem Ws.ok {v : Value} {l : List α} (h : Ws f sz M v l) {b : Nat} (hb : bOf v b) : M b ≠ none := by
  obtain ⟨n, c, rfl, hc⟩ := hb
  rcases h with ⟨base, h1, -, -⟩ | ⟨b2, k, R, h1, -, h2⟩
  · cases h1; exact absurd rfl hc
  · cases h1; rw [h2]; exact fun h => by cases h
/-- Where an element lies. -/
theorem fl_get (hf : ∀ a, (f a).cells.length = sz) : ∀ (l : List α) (R : List AVal) {j : Nat} (hj : j < l.length), ((fl f l ++ R).drop (j * sz)).take sz = (f l[j]).cells
  | [], R, j, hj => absurd hj (Nat.not_lt_zero j)
  | a :: l, R, 0, hj => by
    show (((f a).cells ++ fl f l ++ R).drop (0 * sz)).take sz = _
    rw [Nat.zero_mul, List.drop_zero, List.append_assoc, List.take_left' (hf a)]; rfl
  | a :: l, R, j + 1, hj => by
    show (((f a).cells ++ fl f l ++ R).drop ((j + 1) * sz)).take sz = _
    rw [List.append_assoc, Nat.succ_mul, Nat.add_comm, ← List.drop_drop, List.drop_left' (hf a)]
    exact fl_get hf l R (by rw [List.length_cons] at hj; omega)
theorem fl_get1 (hf : ∀ a, (f a).cells.length = sz) (l : List α) (R : List AVal) {j o q : Nat} (hj : j < l.length) (hq : q < sz) (ho : o = j * sz + q) : (fl f l ++ R)[o]? = (f l[j]).cells[q]? := by
  rw [← fl_get hf l R hj, List.getElem?_take, if_pos hq, List.getElem?_drop, ho]
theorem piece_f1 (hf : ∀ a, (f a).cells.length = sz) {l : List α} {R : List AVal} {j o q : Nat} {Y : AVal} (hj : j < l.length) (hq : q < sz) (ho : o = j * sz + q) (hY : (f l[j]).cells[q]? = some Y) : piece false (fl f l ++ R) o 1 = some Y := by
  show (fl f l ++ R)[o]? = _
  rw [fl_get1 hf l R hj hq ho, hY]
theorem piece_fl (hf : ∀ a, (f a).cells.length = sz) {l : List α} {R : List AVal} {j o : Nat} (hj : j < l.length) (ho : o = j * sz) : piece true (fl f l ++ R) o sz = some (.agg (f l[j]).cells) := by
  unfold piece
  have h1 : (j + 1) * sz ≤ l.length * sz := Nat.mul_le_mul_right _ hj
  rw [Nat.succ_mul] at h1
  rw [if_pos rfl, if_pos (by rw [List.length_append, fl_len hf, ho]; omega), ho, fl_get hf l R hj]
/-- An element is written. -/
theorem fl_set (hf : ∀ a, (f a).cells.length = sz) : ∀ (l : List α) (R : List AVal) {j : Nat} (a : α), j < l.length → splice (fl f l ++ R) (j * sz) (f a).cells = fl f (l.set j a) ++ R
  | [], R, j, a, hj => absurd hj (Nat.not_lt_zero j)
  | b :: l, R, 0, a, hj => by
    show splice ((f b).cells ++ fl f l ++ R) (0 * sz) _ = (f a).cells ++ fl f l ++ R
    unfold splice
    rw [Nat.zero_mul, List.take_zero, List.nil_append, Nat.zero_add, hf a, List.append_assoc, List.drop_left' (hf b), List.append_assoc]
  | b :: l, R, j + 1, a, hj => by
    show splice ((f b).cells ++ fl f l ++ R) ((j + 1) * sz) _ = (f b).cells ++ fl f (l.set j a) ++ R
    have ih := fl_set hf l R (j := j) a (by rw [List.length_cons] at hj; omega)
    unfold splice at ih ⊢
    have e1 : ((f b).cells ++ fl f l ++ R).take ((j + 1) * sz) = (f b).cells ++ (fl f l ++ R).take (j * sz) := by
      rw [List.append_assoc, List.take_append, hf b, List.take_of_length_le (by rw [hf b, Nat.succ_mul]; omega)]
      congr 2
      rw [Nat.succ_mul]; omega
    have e2 : ((f b).cells ++ fl f l ++ R).drop ((j + 1) * sz + (f a).cells.length) = (fl f l ++ R).drop (j * sz + (f a).cells.length) := by
      rw [List.append_assoc, show (j + 1) * sz + (f a).cells.length = (f b).cells.length + (j * sz + (f a).cells.length) by rw [Nat.succ_mul, hf b]; omega, ← List.drop_drop, List.drop_left]
    rw [e1, e2]
    simp only [List.append_assoc] at ih ⊢
    rw [ih]
theorem fl_shut (hu : Uw f sz) : ∀ l : List α, (fl f l).map AVal.shut = fl f l := shut_flat hu.shut
theorem fl_unit (hu : Uw f sz) {l : List α} {X : AVal} (h : X ∈ fl f l) : X.unit = true := by
  obtain ⟨a, -, ha⟩ := List.mem_flatMap.1 h
  exact hu.unit a X ha
/-- An append onto it. -/
theorem o_appx {st e : TypeId} {by_ : Nat} {l m : List α} {own : Bool} {v : Value} (ht : SlT P st e sz by_) (h0 : ats[0]? = some st) (h1 : ats[1]? = some st) (hz : zeroCellsT P e = some zs) (hzu : ∀ z ∈ zs, z.unit = true) (hz0 : 0 < zs.length) (hzs : zs.length = sz) (hf : Uw f sz) (hx : ev T x = .raw v) (hB : Ws f sz M v l) (hy : srcM M (ev T y) = some (.sl (m.map f) own)) (hm : m ≠ []) (hlen : (l.length + m.length) * by_ ≤ 2 ^ 47)
    (h : ∀ b k R, R.length = k * sz → (M b = none ∨ bOf v b) → aOps P tkr ops K (i + 1) rest ⟨setT T d (.raw (.slice (some ⟨b, 0, none⟩) (l.length + m.length) (l.length + m.length + k))), M.upd b (.cells (fl f (l ++ m) ++ R))⟩) : aOps P tkr ops K i (mkO (some d) (.call { callee := .builtin .append, args := #[x, y], argTypes := ats }) ty pos af none :: rest) ⟨T, M⟩ := by
  rcases hB with ⟨base, rfl, hok, rfl⟩ | ⟨b, k, R, rfl, hR, hb⟩
  · refine o_appw (f := f) ht h0 h1 hz hzu hz0 (fun a => ⟨hf.ok a, hf.len a, hf.shut a⟩) (.inr ⟨base, hx, hok⟩) hy (by simpa using hlen) fun base' c M1 hF => ?_
    obtain ⟨b', q, rfl, hb', rfl, rfl⟩ := hF.new hm
    have := h b' q ((List.replicate q zs).flatten) (by rw [List.length_flatten]; simp [hzs]) (.inl hb')
    simpa [wcells, fl] using this
  · refine o_xs rfl (.inr ⟨rfl, .inr (.inr ⟨_, st, e, zs, b, _, _, _, l.map f, m.map f, hy, h0, ht.u, hz, hzu, hz0, hx, hb, List.length_map _, Nat.le_add_right _ _, ?_, ?_, ?_, ?_, ?_, ?_⟩)⟩)
    · rw [List.length_append, fl_len hf.len, hR, hzs, Nat.add_mul]; exact Nat.le_refl _
    · rw [flat_fl, hzs, List.take_left' (fl_len hf.len l)]
    · rw [flat_fl]; exact fun X hX => fl_unit hf hX
    · rw [aAppend_eq ht h0 h1 (Els.map fun a => ⟨hf.ok a, hf.len a⟩) (Els.map fun a => ⟨hf.ok a, hf.len a⟩) (by simpa using hlen)]
    · intro hr
      rw [List.length_map] at hr ⊢
      have hmk : m.length * sz ≤ k * sz := Nat.mul_le_mul_right _ (by omega)
      have hc0 : l.length + k ≠ 0 := by
        have : m.length ≠ 0 := fun h => hm (List.eq_nil_of_length_eq_zero h)
        omega
      have := h b (k - m.length) (R.drop (m.length * sz)) (by rw [List.length_drop, hR, Nat.sub_mul]) (.inr ⟨_, _, rfl, hc0⟩)
      have e1 : splice (fl f l ++ R) (l.length * zs.length) ((flat (m.map f)).map AVal.shut) = fl f (l ++ m) ++ R.drop (m.length * sz) := by
        rw [flat_fl, fl_shut hf, hzs]
        unfold splice
        rw [List.take_left' (fl_len hf.len l), fl_len hf.len m, ← List.drop_drop, List.drop_left' (fl_len hf.len l), fl_append]
      rw [e1]
      rw [show l.length + m.length + (k - m.length) = l.length + k by omega] at this
      exact this
    · intro hr b' q hb'
      rw [List.length_map] at hr ⊢
      have := h b' q ((List.replicate q zs).flatten) (by rw [List.length_flatten]; simp [hzs]) (.inl hb')
      have e1 : (flat (l.map f) ++ flat (m.map f)).map AVal.shut = fl f (l ++ m) := by
        rw [flat_fl, flat_fl, ← fl_append, fl_shut hf]
      rw [e1]
      exact this
end
end Go.Am

/-! A slice in memory that is not turned any more, and lies in a cell, may be told as a list there. -/
namespace Go.Am
set_option linter.unusedVariables false
set_option linter.unusedSimpArgs false
end Go.Am
namespace Go.Am
set_option linter.unusedVariables false
set_option linter.unusedSimpArgs false
end Go.Am

/-! A part of a struct that is handed back, an empty slice, is one that lies somewhere. -/
namespace Go.Am
set_option linter.unusedVariables false
set_option linter.unusedSimpArgs false
end Go.Am

/-! Rows: a slice inside an argument, element for element. -/
namespace Go.Am
open Go.Deep Go.WideShapes Go.ChangeShapes Go.RowKit
set_option linter.unusedSimpArgs false
section
variable {H : Type} {enc : TypeId × Value → H} {P : Program} {w : World} {spare : Nat → Bool} {held : Bool}
/-- A slice that lies in a cell of an argument: its elements are one cell each. -/
theorem inner_sl {α : Type} (f : α → AVal) (wf : α → Prop) {t e : TypeId} (ht : P.underlying t = some (.slice e)) (hc : P.cellsOf e = 1)
    (elem : ∀ m v d pl, DataW.trod enc P w 0 spare held m e [v] = some (d, pl) → ∃ a, wf a ∧ Rep P (imm0 w) w (f a) v ∧ (f a).cells = [f a])
    {fuel : Nat} {v : Value} {x : DataW H × List MemPlace} (h : DataW.trod enc P w 0 spare held fuel t [v] = some x) :
    ∃ l : List α, Rep P (imm0 w) w (.sl (l.map f) false) v ∧ (∀ a ∈ l, wf a) ∧ ((x.1 = .nil ∧ l = []) ∨ ∃ y r, x.1 = .slice y r ∧ l.length = y.length) := by
  rcases open_slice1 ht hc h with ⟨hv, hx⟩ | ⟨a, len, cap, m, n, V, D, Pl, hv, hb, hl, hm, hmm, hx, hel⟩
  · obtain rfl := (List.cons.inj hv).1
    exact ⟨[], .nil false, (fun a h => by cases h), .inl ⟨congrArg Prod.fst hx, rfl⟩⟩
  · obtain rfl := (List.cons.inj hv).1
    have hlm : len ≤ m := by rw [hmm]; split <;> omega
    have hd : x.1 = .slice ((List.range len).map D) ((List.range (m - len)).map fun j => D (len + j)) := congrArg Prod.fst hx
    have hch : ∀ i : Fin len, ∃ a, wf a ∧ Rep P (imm0 w) w (f a) (V i) ∧ (f a).cells = [f a] := fun i => elem _ _ _ _ (hel i (by omega)).2
    obtain ⟨g, hg⟩ := Classical.axiomOfChoice hch
    have hll : (List.ofFn g).length = len := List.length_ofFn
    have hget : ∀ (j : Nat) c, ((List.ofFn g).map f)[j]? = some c → ∃ hj : j < len, c = f (g ⟨j, hj⟩) := fun j c h => by
      have hj : j < len := by
        rcases Nat.lt_or_ge j len with h1 | h1
        · exact h1
        · rw [List.getElem?_eq_none (by rw [List.length_map, hll]; exact h1)] at h; cases h
      refine ⟨hj, ?_⟩
      rw [List.getElem?_map, List.getElem?_ofFn, dif_pos hj] at h
      exact (Option.some.inj h).symm
    have hun : ∀ e ∈ (List.ofFn g).map f, e.cells = [e] := fun e he => by
      obtain ⟨j, hj⟩ := List.mem_iff_getElem?.1 he
      obtain ⟨h1, rfl⟩ := hget j e hj
      exact (hg _).2.2
    refine ⟨List.ofFn g, ?_, ?_, .inr ⟨_, _, hd, by rw [hll]; simp⟩⟩
    · by_cases h0 : len = 0
      · subst h0
        exact .emp false (some a) cap fun h => by cases h
      · obtain ⟨b, off, sp⟩ := a
        have hsp : sp = none := by simpa [Addr.add] using World.cell?_spot (hel 0 (by omega)).1
        subst hsp
        have hf := flat_units hun
        have hn : ((List.ofFn g).map f).length = len := by rw [List.length_map, hll]
        have : Rep P (imm0 w) w (.sl ((List.ofFn g).map f) false) (.slice (some ⟨b, off, none⟩) ((List.ofFn g).map f).length cap) := by
          have hcl : ∀ j, j < len → w.cell? ⟨b, off + j, none⟩ = some (V j) := fun j hj => by
            have := (hel j (by omega)).1
            rw [addr_add] at this
            exact this
          refine .sl _ false b off cap 1 V (by rw [hn]; exact hl) (fun e he => by rw [hun e he]; rfl) (fun j hj => ?_) (fun j hj => ?_) (fun j c hc => ?_) fun h => by cases h
          · rw [hf, hn] at hj
            exact imm0_cell (hcl j hj) _
          · rw [hf, hn] at hj
            exact hcl j hj
          · rw [hf] at hc
            obtain ⟨h1, rfl⟩ := hget j c hc
            exact (hg _).2.1
        rw [hn] at this
        exact this
    · intro a ha
      obtain ⟨j, hj⟩ := List.mem_iff_getElem?.1 ha
      rw [List.getElem?_ofFn] at hj
      split at hj
      · rw [← Option.some.inj hj]; exact (hg _).1
      · cases hj
end
section
variable {H : Type} {P : Program} {ts : List TypeId} {ds : List (DataW H)}
/-- How many elements it has. -/
theorem sized_inner (h : (DataW.weightsEach P ts ds).all (· ≤ reachBytes) = true) {j : Nat} {t e : TypeId} {elems spare : List (DataW H)} (ht : ts[j]? = some t) (hd : ds[j]? = some (.slice elems spare)) (hu : P.underlying t = some (.slice e)) {fs : Array Field} (hs : P.underlying e = some (.struct fs))
    {parts : List (DataW H)} (hm : DataW.agg parts ∈ elems) {q : Nat} {tq e2 : TypeId} (hq : (fs.toList.map (·.type))[q]? = some tq) (hu2 : P.underlying tq = some (.slice e2)) {y r : List (DataW H)} (hp : parts[q]? = some (.slice y r)) : y.length * P.bytesOf e2 ≤ 140737488351232 := by
  have h1 := sized_elem h ht hd hu hm (n := (y.length + r.length) * P.bytesOf e2) (by
    simp only [DataW.weights, hs]
    exact DataW.weights_mem_each hq hp _ (by
      simp only [DataW.weights, hu2, List.mem_cons, List.mem_append]
      exact .inl (by first | trivial | rfl)))
  have h3 : reachBytes = 140737488351232 := rfl
  have h4 : y.length * P.bytesOf e2 ≤ (y.length + r.length) * P.bytesOf e2 := Nat.mul_le_mul_right _ (Nat.le_add_right _ _)
  omega
end
end Go.Am
