import Derived.Test.YtkjdclhhmgjfbaaAmE
/-! Chapter 4, plain: directories as sorted lists. -/
open Go Go.Proofs Go.Am
set_option linter.unusedVariables false
set_option linter.unusedSimpArgs false
set_option autoImplicit false
namespace C04
def bLt (a b : ByteArray) : Prop := a.data.toList < b.data.toList
instance (a b : ByteArray) : Decidable (bLt a b) := inferInstanceAs (Decidable (a.data.toList < b.data.toList))
theorem bLt_trans {a b c : ByteArray} (h : bLt a b) (h2 : bLt b c) : bLt a c := List.lt_trans h h2
theorem bLt_irrefl (a : ByteArray) : ¬ bLt a a := List.lt_irrefl _
theorem ba_ext {a b : ByteArray} (h : a.data.toList = b.data.toList) : a = b := by
  cases a; cases b; simp at h; rw [h]
theorem bLt_tri {a b : ByteArray} (h : ¬ bLt a b) (h2 : a ≠ b) : bLt b a := by
  rcases List.le_iff_lt_or_eq.1 (List.not_lt.1 h) with h3 | h3
  · exact h3
  · exact absurd (ba_ext h3.symm) h2
abbrev Dir := List (ByteArray × Nat)
def Srtd (l : Dir) : Prop := l.Pairwise fun a b => bLt a.1 b.1
theorem Srtd.nd {l : Dir} (h : Srtd l) : (l.map (·.1)).Nodup := by
  rw [List.Nodup, List.pairwise_map]
  refine h.imp ?_
  intro a b hab e
  rw [e] at hab
  exact bLt_irrefl _ hab
def delS (l : Dir) (k : ByteArray) : Dir := l.filter fun p => decide (p.1 ≠ k)
def insS (l : Dir) (k : ByteArray) (v : Nat) : Dir := ((delS l k).takeWhile fun p => decide (bLt p.1 k)) ++ (k, v) :: (delS l k).dropWhile fun p => decide (bLt p.1 k)
theorem mem_delS {l : Dir} {k : ByteArray} {p : ByteArray × Nat} : p ∈ delS l k ↔ p ∈ l ∧ p.1 ≠ k := by simp [delS]
theorem delS_srtd {l : Dir} (h : Srtd l) (k : ByteArray) : Srtd (delS l k) := h.filter _
theorem insS_perm (l : Dir) (k : ByteArray) (v : Nat) : (insS l k v).Perm ((k, v) :: delS l k) := by
  have := List.takeWhile_append_dropWhile (p := fun p : ByteArray × Nat => decide (bLt p.1 k)) (l := delS l k)
  refine List.perm_middle.trans ?_
  rw [this]
theorem drop_gt : ∀ {l : Dir} {k : ByteArray}, Srtd l → (∀ p ∈ l, p.1 ≠ k) → ∀ p ∈ l.dropWhile (fun p => decide (bLt p.1 k)), bLt k p.1
  | [], k, _, _, p, hp => by simp at hp
  | q :: l, k, h, hk, p, hp => by
    rw [List.dropWhile_cons] at hp
    split at hp
    · exact drop_gt (List.pairwise_cons.1 h).2 (fun p hp => hk p (by simp [hp])) p hp
    · rename_i hq
      have hq' : bLt k q.1 := bLt_tri (by simpa using hq) (hk q (by simp))
      rcases List.mem_cons.1 hp with rfl | hp
      · exact hq'
      · exact bLt_trans hq' ((List.pairwise_cons.1 h).1 p hp)
theorem take_lt {l : Dir} {k : ByteArray} : ∀ p ∈ l.takeWhile (fun p => decide (bLt p.1 k)), bLt p.1 k := fun p hp => by
  have := List.all_takeWhile (p := fun p : ByteArray × Nat => decide (bLt p.1 k)) (l := l)
  rw [List.all_eq_true] at this
  simpa using this p hp
theorem insS_srtd {l : Dir} (h : Srtd l) (k : ByteArray) (v : Nat) : Srtd (insS l k v) := by
  have h1 := delS_srtd h k
  have hk : ∀ p ∈ delS l k, p.1 ≠ k := fun p hp => (mem_delS.1 hp).2
  refine List.pairwise_append.2 ⟨h1.sublist (List.takeWhile_sublist _), List.pairwise_cons.2 ⟨fun p hp => drop_gt h1 hk p hp, h1.sublist (List.dropWhile_sublist _)⟩, fun p hp q hq => ?_⟩
  have hpk := take_lt p hp
  rcases List.mem_cons.1 hq with rfl | hq
  · exact hpk
  · exact bLt_trans hpk (drop_gt h1 hk q hq)
theorem mem_insS {l : Dir} {k : ByteArray} {v : Nat} {p : ByteArray × Nat} : p ∈ insS l k v ↔ p = (k, v) ∨ (p ∈ l ∧ p.1 ≠ k) := by
  rw [(insS_perm l k v).mem_iff, List.mem_cons, mem_delS]
section
variable {β : Type}
theorem gets_iff {l : List (ByteArray × β)} (h : (l.map (·.1)).Nodup) {k : ByteArray} {v : β} : gets l k = some v ↔ (k, v) ∈ l := by
  induction l with
  | nil => simp [gets]
  | cons p l ih =>
    have hn : (l.map (·.1)).Nodup := by simp at h; simpa using h.2
    have hp : p.1 ∉ l.map (·.1) := by rw [List.map_cons, List.nodup_cons] at h; exact h.1
    rw [show gets (p :: l) k = if p.1 = k then some p.2 else gets l k by simp only [gets, List.find?_cons]; by_cases e : p.1 = k <;> simp [e]]
    by_cases e : p.1 = k
    · rw [if_pos e]
      constructor
      · intro h2
        obtain rfl := Option.some.inj h2
        subst e; simp
      · intro h2
        rcases List.mem_cons.1 h2 with h2 | h2
        · rw [← h2]
        · exact absurd (List.mem_map.2 ⟨_, h2, rfl⟩) (e ▸ hp)
    · rw [if_neg e, ih hn]
      constructor
      · intro h2; exact List.mem_cons_of_mem _ h2
      · intro h2
        rcases List.mem_cons.1 h2 with h2 | h2
        · exact absurd (by rw [← h2]) e
        · exact h2
theorem gets_none {l : List (ByteArray × β)} {k : ByteArray} : gets l k = none ↔ ∀ p ∈ l, p.1 ≠ k := by
  simp [gets]
theorem gets_perm {l l' : List (ByteArray × β)} (h : l.Perm l') (hn : (l'.map (·.1)).Nodup) (k : ByteArray) : gets l k = gets l' k := by
  have hn' : (l.map (·.1)).Nodup := (h.map _).nodup_iff.2 hn
  cases e : gets l' k with
  | some v => exact (gets_iff hn').2 (h.mem_iff.2 ((gets_iff hn).1 e))
  | none => exact gets_none.2 fun p hp => gets_none.1 e p (h.mem_iff.1 hp)
theorem gets_map {γ : Type} (f : β → γ) (l : List (ByteArray × β)) (k : ByteArray) : gets (l.map fun p => (p.1, f p.2)) k = (gets l k).map f := by
  unfold gets
  rw [List.find?_map, Option.map_map, Option.map_map]
  rfl
theorem del_eq {l : List (ByteArray × β)} (h : (l.map (·.1)).Nodup) (k : ByteArray) : del l k = l.filter fun p => decide (p.1 ≠ k) := by
  unfold del
  induction l with
  | nil => rfl
  | cons p l ih =>
    have hn : (l.map (·.1)).Nodup := by rw [List.map_cons, List.nodup_cons] at h; exact h.2
    have hp : p.1 ∉ l.map (·.1) := by rw [List.map_cons, List.nodup_cons] at h; exact h.1
    rw [List.findIdx?_cons]
    by_cases e : p.1 = k
    · simp only [e, decide_true, if_true, List.eraseIdx_zero, List.tail_cons, ne_eq, not_true_eq_false, decide_false, Bool.false_eq_true, List.filter_cons, if_false]
      refine (List.filter_eq_self.2 fun q hq => ?_).symm
      simp only [ne_eq, decide_not, Bool.not_eq_true', decide_eq_false_iff_not]
      exact fun e2 => hp (List.mem_map.2 ⟨q, hq, by rw [e2, e]⟩)
    · have ih := ih hn
      simp only [e, decide_false, Bool.false_eq_true, if_false, List.filter_cons, ne_eq, not_false_eq_true, decide_true, if_true]
      cases hj : l.findIdx? (fun p => decide (p.1 = k)) with
      | none => rw [hj] at ih; simp only [Option.map_none]; congr 1
      | some j => rw [hj] at ih; simp only [Option.map_some, List.eraseIdx_cons_succ]; congr 1
theorem ins_perm {l : List (ByteArray × β)} (h : (l.map (·.1)).Nodup) (k : ByteArray) (v : β) : (ins l k v).Perm ((k, v) :: l.filter fun p => decide (p.1 ≠ k)) := by
  unfold ins
  cases hj : l.findIdx? (fun p => decide (p.1 = k)) with
  | none =>
    dsimp only
    have := idx_no hj
    rw [List.filter_eq_self.2 fun q hq => by simpa using this q hq]
    exact List.perm_append_singleton _ _
  | some j =>
    dsimp only
    rw [← del_eq h]
    unfold del
    rw [hj]
    dsimp only
    obtain ⟨hlt, -, -⟩ := List.findIdx?_eq_some_iff_getElem.1 hj
    rw [List.eraseIdx_eq_take_drop_succ, List.set_eq_take_append_cons_drop, if_pos hlt]
    exact List.perm_middle
end
/-- A map's entries and a directory. -/
theorem perm_ins {dm : Dir} {dir : Dir} {adr : Nat → Nat} (h : dm.Perm (dir.map fun p => (p.1, adr p.2))) (hs : Srtd dir) (k : ByteArray) (i : Nat) : (ins dm k (adr i)).Perm ((insS dir k i).map fun p => (p.1, adr p.2)) := by
  have hn : (dm.map (·.1)).Nodup := ((h.map _).nodup_iff).2 (by rw [List.map_map]; exact hs.nd)
  refine (ins_perm hn k _).trans (List.Perm.trans ?_ ((insS_perm dir k i).map _).symm)
  rw [List.map_cons]
  refine List.Perm.cons _ ?_
  refine (h.filter _).trans ?_
  rw [List.filter_map]; exact List.Perm.refl _
theorem perm_del {dm : Dir} {dir : Dir} {adr : Nat → Nat} (h : dm.Perm (dir.map fun p => (p.1, adr p.2))) (hs : Srtd dir) (k : ByteArray) : (del dm k).Perm ((delS dir k).map fun p => (p.1, adr p.2)) := by
  have hn : (dm.map (·.1)).Nodup := ((h.map _).nodup_iff).2 (by rw [List.map_map]; exact hs.nd)
  rw [del_eq hn]
  refine (h.filter _).trans ?_
  rw [List.filter_map]; exact List.Perm.refl _
theorem perm_gets {dm : Dir} {dir : Dir} {adr : Nat → Nat} (h : dm.Perm (dir.map fun p => (p.1, adr p.2))) (hs : Srtd dir) (k : ByteArray) : gets dm k = (gets dir k).map adr := by
  rw [gets_perm h (by rw [List.map_map]; exact hs.nd), gets_map]
theorem sortS_names {l : List ByteArray} {dir : Dir} (h : l.Perm (dir.map (·.1))) (hs : Srtd dir) : sortS l = dir.map (·.1) := by
  unfold sortS
  have hle : ∀ a b : ByteArray, decide (a.data.toList ≤ b.data.toList) = true ↔ a.data.toList ≤ b.data.toList := fun a b => by simp
  refine List.Perm.eq_of_pairwise (le := fun a b : ByteArray => a.data.toList ≤ b.data.toList) (fun a b _ _ h1 h2 => ba_ext (List.le_antisymm h1 h2)) ?_ ?_ ((List.mergeSort_perm _ _).trans h)
  · have := List.pairwise_mergeSort (le := fun x y : ByteArray => decide (x.data.toList ≤ y.data.toList)) (fun a b c h1 h2 => by simp only [decide_eq_true_eq] at *; exact List.le_trans h1 h2) (fun a b => by simp only [Bool.or_eq_true, decide_eq_true_eq]; exact List.le_total _ _) l
    exact this.imp fun {a b} h => by simpa using h
  · rw [List.pairwise_map]
    exact hs.imp fun {a b} h => List.le_of_lt h
end C04
