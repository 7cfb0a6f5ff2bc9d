import Derived.Test.YtphenhkofjbeoaaAm9
/-! Stores into what is known. -/
namespace Go.Am

def splice (l : List AVal) (k : Nat) (xs : List AVal) : List AVal := l.take k ++ xs ++ l.drop (k + xs.length)

theorem splice_length {l : List AVal} {k : Nat} {xs : List AVal} (h : k + xs.length ≤ l.length) : (splice l k xs).length = l.length := by
  unfold splice; simp; omega

theorem Mem.upd_upd (M : Mem) (b : Nat) (x y : AObj) : (M.upd b x).upd b y = M.upd b y := by
  funext c; unfold Mem.upd; split <;> rfl

theorem Mem.upd_self (M : Mem) (b : Nat) (x : AObj) : M.upd b x b = some x := by simp [Mem.upd]

section
variable {P : Program} {κ : Ghost} {w : World}

theorem run_store {b o : Nat} {x : Value} (h1 : (w.cell? ⟨b, o, none⟩).isSome = true) (h2 : w.frozen? ⟨b, o, none⟩ = false) (hx : one x = true) : (store ⟨b, o, none⟩ x).run P w = .ok () (w.setCell ⟨b, o, none⟩ x) := by
  obtain ⟨v, hv⟩ := Option.isSome_iff_exists.1 h1
  show (Sem.store .plain ⟨b, o, none⟩ x (.pure ())).run P w = _
  cases x <;> first | (simp [one] at hx; done) | simp [Sem.run, hv, h2]

theorem Holds.free_of {T : Nat → AVal} {V : Nat → Value} {M : Mem} (h : Holds P κ T V M w) {b : Nat} {o : AObj} (hb : M b = some o) (x : Nat) : κ b x = .free := by
  cases hk : κ b x with
  | free => rfl
  | _ => have := (h.tag b x (by rw [hk]; simp)).2; rw [hb] at this; cases this

theorem setCell_other {b o : Nat} {x : Value} {c : Nat} (h : c ≠ b) : (w.setCell ⟨b, o, none⟩ x).heap[c]? = w.heap[c]? := setCell_heap_ne w _ x h

theorem Holds.setM {T : Nat → AVal} {V : Nat → Value} {M : Mem} (h : Holds P κ T V M w) {b o : Nat} {l : List AVal} (hb : M b = some (.cells l)) (ho : o < l.length) {X : AVal} {x : Value} (hr : Rep P κ w X x) (hone : one x = true)
    (hs : ∀ b' o', Spare P w X x b' o' → κ b' o' = .mslot b o) :
    (store ⟨b, o, none⟩ x).run P w = .ok () (w.setCell ⟨b, o, none⟩ x) ∧ Holds P κ T V (M.upd b (.cells (l.set o X))) (w.setCell ⟨b, o, none⟩ x) ∧ Keep κ w κ (w.setCell ⟨b, o, none⟩ x) := by
  obtain ⟨c, e, fr, a1, a2, a3, a4⟩ := h.obj b _ hb
  have hfree := h.free_of hb o
  have hk : Keep κ w κ (w.setCell ⟨b, o, none⟩ x) := Keep.setCell x (by rw [hfree]; simp) (by rw [hfree]; simp)
  have hcell : (w.cell? ⟨b, o, none⟩).isSome = true := by
    rw [cell_of_cells a1]; simp; omega
  refine ⟨run_store hcell (a3 o (by omega)) hone, ⟨fun t => hk.rep (h.tmp t), fun d p hd => ?_, fun d y hd => ?_, fun t d y hsp => h.sp t d y (hsp.keep (h.tmp t) hk.shape), fun d y t hd => ?_, fun d y c' j hd => ?_⟩, hk⟩
  · unfold Mem.upd at hd
    split at hd
    · rename_i e'; subst e'
      cases hd
      refine ⟨c.setIfInBounds o x, e, fr, setCell_heap w d o x a1, by simp [a2], fun y hy => ?_, fun j Y y e1 e2 => ?_⟩
      · rw [setCell_frozen]; exact a3 y (by simpa using hy)
      · by_cases hj : j = o
        · subst hj
          rw [List.getElem?_set_self ho] at e1
          rw [Array.getElem?_setIfInBounds_self_of_lt (by omega)] at e2
          cases e1; cases e2
          exact ⟨hk.rep hr, hone, fun b' o' hsp => hs b' o' (hsp.keep hr hk.shape)⟩
        · rw [List.getElem?_set_ne (Ne.symm hj)] at e1
          rw [Array.getElem?_setIfInBounds_ne (Ne.symm hj)] at e2
          have := a4 j Y y e1 e2
          exact ⟨hk.rep this.1, this.2.1, fun b' o' hsp => this.2.2 b' o' (hsp.keep this.1 hk.shape)⟩
    · rename_i e'
      have hblk := setCell_other (w := w) (o := o) (x := x) e'
      have := h.obj d p hd
      cases p with
      | it o => exact ⟨hblk.trans this.1, this.2⟩
      | cells l' =>
        obtain ⟨c', e, fr, b1, b2, b3, b4⟩ := this
        exact ⟨c', e, fr, hblk.trans b1, b2, fun y hy => (frozen_of_block (a := ⟨d, y, none⟩) hblk).trans (b3 y hy), fun j Y y e1 e2 => ⟨hk.rep (b4 j Y y e1 e2).1, (b4 j Y y e1 e2).2.1, fun b' o' hsp => (b4 j Y y e1 e2).2.2 b' o' (hsp.keep (b4 j Y y e1 e2).1 hk.shape)⟩⟩
      | map es =>
        obtain ⟨ents, clock, b1, b2, b3, b4, b5⟩ := this
        exact ⟨ents, clock, hblk.trans b1, b2, fun j e ent e1 e2 => ⟨(b3 j e ent e1 e2).1, hk.rep (b3 j e ent e1 e2).2.1, fun b' o' hsp => (b3 j e ent e1 e2).2.2 b' o' (hsp.keep (b3 j e ent e1 e2).2.1 hk.shape)⟩, b4, b5⟩
  · refine ⟨by rw [setCell_size]; exact (h.tag d y hd).1, ?_⟩
    unfold Mem.upd
    split
    · rename_i e'; subst e'; exact absurd (h.free_of hb y) hd
    · exact (h.tag d y hd).2
  · have := h.wr d y t hd
    exact ⟨by rw [setCell_isSome]; exact this.1, by rw [setCell_frozen]; exact this.2⟩
  · have := h.mwr d y c' j hd
    exact ⟨by rw [setCell_isSome]; exact this.1, by rw [setCell_frozen]; exact this.2⟩

theorem run_storeCells {T : Nat → AVal} {V : Nat → Value} {b o : Nat} : ∀ (xs : List AVal) (vs : List Value) (i : Nat) (w : World) (M : Mem) (l : List AVal), Holds P κ T V M w → M b = some (.cells l) → o + i + xs.length ≤ l.length →
    xs.length = vs.length → (∀ (j : Nat) X v, xs[j]? = some X → vs[j]? = some v → Rep P κ w X v ∧ X.unit = true) →
    ∃ w', (storeCells ⟨b, o, none⟩ vs i).run P w = .ok () w' ∧ Holds P κ T V (M.upd b (.cells (splice l (o + i) (xs.map AVal.shut)))) w' ∧ Keep κ w κ w'
  | [], vs, i, w, M, l, h, hb, hle, hl, _ => by
    have : vs = [] := by cases vs <;> simp_all
    subst this
    refine ⟨w, rfl, ?_, Keep.refl κ w⟩
    have e1 : splice l (o + i) (([] : List AVal).map AVal.shut) = l := by simp [splice]
    rw [e1]
    have e2 : M.upd b (.cells l) = M := by
      funext c; unfold Mem.upd; split
      · rename_i e; subst e; exact hb.symm
      · rfl
    rw [e2]; exact h
  | X :: xs, vs, i, w, M, l, h, hb, hle, hl, hr => by
    cases vs with
    | nil => simp at hl
    | cons v vs =>
      simp only [List.length_cons] at hle
      obtain ⟨hX, hu⟩ := hr 0 X v rfl rfl
      obtain ⟨h1, h2, h3⟩ := h.setM hb (show o + i < l.length by omega) hX.shut (unit_one hX hu) (fun b' o' hsp => absurd hsp Spare.not_shut)
      obtain ⟨w', h4, h5, h6⟩ := run_storeCells (b := b) (o := o) xs vs (i + 1) _ _ (l.set (o + i) X.shut) h2 (Mem.upd_self M b _) (by simp; omega) (by simpa using hl) (fun j Y y e1 e2 => by
        obtain ⟨h7, h8⟩ := hr (j + 1) Y y (by simpa using e1) (by simpa using e2)
        exact ⟨h3.rep h7, h8⟩)
      refine ⟨w', ?_, ?_, h3.trans h6⟩
      · show ((store ((⟨b, o, none⟩ : Addr).add i) v) >>= fun _ => storeCells ⟨b, o, none⟩ vs (i + 1)).run P w = _
        rw [addr_add, Sem.run_bind, h1]; exact h4
      · rw [Mem.upd_upd] at h5
        have e1 : splice (l.set (o + i) X.shut) (o + (i + 1)) (xs.map AVal.shut) = splice l (o + i) ((X :: xs).map AVal.shut) := by
          have hlt : o + i < l.length := by omega
          unfold splice
          simp only [List.map_cons, List.length_cons, List.length_map]
          rw [show o + (i + 1) = o + i + 1 from by omega, List.take_set, List.drop_set, if_pos (by omega)]
          rw [show List.take (o + i + 1) l = List.take (o + i) l ++ [l[o + i]] from List.take_succ_eq_append_getElem hlt]
          rw [List.set_append_right _ _ (by simp; omega)]
          simp only [List.length_take, Nat.min_eq_left (Nat.le_of_lt hlt), Nat.sub_self, List.set_cons_zero, List.append_assoc, List.cons_append, List.nil_append]
          rw [show o + i + 1 + xs.length = o + i + (xs.length + 1) from by omega]
        rw [← e1]; exact h5

end
end Go.Am
