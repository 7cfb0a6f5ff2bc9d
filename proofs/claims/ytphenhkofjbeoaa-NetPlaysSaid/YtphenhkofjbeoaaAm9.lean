import Derived.Test.YtphenhkofjbeoaaAm8
/-! States; what stores, new blocks and moves keep. -/
namespace Go.Am

def setT (T : Nat → AVal) (d : Nat) (V : AVal) : Nat → AVal := fun t => if t = d then V else T t

structure St where
  T : Nat → AVal
  M : Mem

def St.put (S : St) (dst : Option Tmp) (V : AVal) : St :=
  match dst with
  | some d => { S with T := setT S.T d V }
  | none => S

/-- The operand loses the right to append. -/
def St.lose (S : St) : Operand → St
  | .tmp t => { S with T := setT S.T t (S.T t).shut }
  | _ => S

def tv (a : Act) : Nat → Value := fun t => a.eval (.tmp t)

section
variable {P : Program} {κ : Ghost} {w : World}

theorem tv_put {a : Act} {d : Nat} (v : Value) (hd : d < a.tmps.size) : tv (a.put (some d) v) = fun t => if t = d then v else tv a t := by
  funext t
  show ((a.tmps.setIfInBounds d v).getD t undef) = _
  simp only [Array.getD_eq_getD_getElem?]
  by_cases h : t = d
  · subst h
    rw [if_pos rfl, Array.getElem?_setIfInBounds_self_of_lt hd]; rfl
  · rw [if_neg h, Array.getElem?_setIfInBounds_ne (Ne.symm h)]
    show _ = a.tmps.getD t undef
    rw [Array.getD_eq_getD_getElem?]

/-- A value that owns no spare room is laid into a temporary. -/
theorem Holds.put {T : Nat → AVal} {V : Nat → Value} {M : Mem} (h : Holds P κ T V M w) (d : Nat) {X : AVal} {x : Value} (hr : Rep P κ w X x) (hs : ∀ b o, ¬ Spare P w X x b o) :
    Holds P κ (setT T d X) (fun t => if t = d then x else V t) M w where
  tmp t := by
    unfold setT
    split
    · exact hr
    · exact h.tmp t
  obj := h.obj
  tag := h.tag
  sp t b o hsp := by
    unfold setT at hsp
    split at hsp
    · exact absurd hsp (hs b o)
    · exact h.sp t b o hsp
  wr := h.wr
  mwr := h.mwr

/-- A part of what a temporary holds takes its place. -/
theorem Holds.sub {T : Nat → AVal} {V : Nat → Value} {M : Mem} (h : Holds P κ T V M w) (d : Nat) {X : AVal} {x : Value} (hr : Rep P κ w X x) (hs : ∀ b o, Spare P w X x b o → Spare P w (T d) (V d) b o) :
    Holds P κ (setT T d X) (fun t => if t = d then x else V t) M w where
  tmp t := by
    unfold setT
    split
    · exact hr
    · exact h.tmp t
  obj := h.obj
  tag := h.tag
  sp t b o hsp := by
    unfold setT at hsp
    split at hsp
    · rename_i e; subst e; exact h.sp t b o (hs b o hsp)
    · exact h.sp t b o hsp
  wr := h.wr
  mwr := h.mwr

/-- A temporary loses the right to append. -/
theorem Holds.lose {T : Nat → AVal} {V : Nat → Value} {M : Mem} (h : Holds P κ T V M w) (d : Nat) : Holds P κ (setT T d (T d).shut) V M w where
  tmp t := by
    unfold setT
    split
    · rename_i e; subst e; exact (h.tmp t).shut
    · exact h.tmp t
  obj := h.obj
  tag := h.tag
  sp t b o hsp := by
    unfold setT at hsp
    split at hsp
    · exact absurd hsp Spare.not_shut
    · exact h.sp t b o hsp
  wr := h.wr
  mwr := h.mwr

/-- The tags behind a move from one temporary to another. -/
def mvTag (κ : Ghost) (s d : Nat) : Ghost := fun b o => match κ b o with
  | .slot t => if t = s then .slot d else .slot t
  | x => x

theorem mvTag_imm {s d b o : Nat} : mvTag κ s d b o = .imm ↔ κ b o = .imm := by
  unfold mvTag; split
  · rename_i h; split <;> simp [h]
  · rename_i h; rfl

theorem mvTag_frame {s d b o : Nat} : mvTag κ s d b o = .frame ↔ κ b o = .frame := by
  unfold mvTag; split
  · rename_i h; split <;> simp [h]
  · rename_i h; rfl

theorem mvTag_free {s d b o : Nat} : mvTag κ s d b o = .free ↔ κ b o = .free := by
  unfold mvTag; split
  · rename_i h; split <;> simp [h]
  · rename_i h; rfl

theorem mvTag_mslot {s d b o c j : Nat} : mvTag κ s d b o = .mslot c j ↔ κ b o = .mslot c j := by
  unfold mvTag; split
  · rename_i h; split <;> simp [h]
  · rename_i h; rfl

/-- Tags alone have turned, and the immutable cells are as they were. -/
theorem Keep.tags {κ κ' : Ghost} (h1 : ∀ b o, κ b o = .imm → κ' b o = .imm) (h2 : ∀ b o, κ b o = .frame → κ' b o = .frame) : Keep κ w κ' w :=
  ⟨rfl, rfl, rfl, Nat.le_refl _, fun _ _ => rfl, fun b o h => ⟨h1 b o h, rfl⟩, fun b o h => ⟨h2 b o h, rfl, rfl⟩, fun _ _ _ => rfl⟩

theorem RepO.tags {κ κ' : Ghost} {b : Nat} {o : AObj} (h : RepO P κ w b o) (h1 : ∀ b o, κ b o = .imm → κ' b o = .imm) (h3 : ∀ b' o' j, κ b' o' = .mslot b j → κ' b' o' = .mslot b j) : RepO P κ' w b o := by
  have K : ∀ {V v}, Rep P κ w V v → Rep P κ' w V v := fun hr => hr.keep (fun b o hb => ⟨h1 b o hb, rfl⟩) (fun _ _ => rfl) (Nat.le_refl _)
  cases o with
  | it o => exact h
  | cells l =>
    obtain ⟨c, e, fr, a1, a2, a3, a4⟩ := h
    exact ⟨c, e, fr, a1, a2, a3, fun j V v e1 e2 => ⟨K (a4 j V v e1 e2).1, (a4 j V v e1 e2).2.1, fun b' o' hs => h3 _ _ _ ((a4 j V v e1 e2).2.2 b' o' hs)⟩⟩
  | map es =>
    obtain ⟨ents, clock, a1, a2, a3, a4, a5⟩ := h
    exact ⟨ents, clock, a1, a2, fun j e ent e1 e2 => ⟨(a3 j e ent e1 e2).1, K (a3 j e ent e1 e2).2.1, fun b' o' hs => h3 _ _ _ ((a3 j e ent e1 e2).2.2 b' o' hs)⟩, a4, a5⟩

theorem Holds.move {T : Nat → AVal} {V : Nat → Value} {M : Mem} (h : Holds P κ T V M w) (s d : Nat) (hne : s ≠ d) :
    Holds P (mvTag κ s d) (setT (setT T s (T s).shut) d (T s)) (fun t => if t = d then V s else V t) M w where
  tmp t := by
    have K : ∀ {X x}, Rep P κ w X x → Rep P (mvTag κ s d) w X x := fun hr => hr.keep (fun b o hb => ⟨mvTag_imm.2 hb, rfl⟩) (fun _ _ => rfl) (Nat.le_refl _)
    unfold setT
    split
    · exact K (h.tmp s)
    · split
      · rename_i e; subst e; exact K (h.tmp t).shut
      · exact K (h.tmp t)
  obj b o hb := (h.obj b o hb).tags (fun _ _ => mvTag_imm.2) (fun _ _ _ => mvTag_mslot.2)
  tag b o hb := h.tag b o fun e => hb (mvTag_free.2 e)
  sp t b o hsp := by
    unfold setT at hsp
    split at hsp
    · rename_i e; subst e
      have := h.sp s b o hsp
      unfold mvTag; rw [this]; simp
    · rename_i e
      split at hsp
      · exact absurd hsp Spare.not_shut
      · rename_i e'
        have := h.sp t b o hsp
        unfold mvTag; rw [this]; simp [e']
  wr b o t hb := by
    unfold mvTag at hb
    split at hb
    · rename_i h1; exact h.wr b o _ h1
    · exact h.wr b o t hb
  mwr b o c j hb := h.mwr b o c j (mvTag_mslot.1 hb)

/-- A new block, of which nothing is known. -/
theorem Holds.push {T : Nat → AVal} {V : Nat → Value} {M : Mem} (h : Holds P κ T V M w) (ob : Obj) : Holds P κ T V M (push w ob) := by
  have hk : Keep κ w κ (Am.push w ob) := Keep.push ob fun b o hb => (h.tag b o hb).1
  have hlt : ∀ b o, M b = some o → b < w.heap.size := fun b o hb => by
    have := h.obj b o hb
    rcases Nat.lt_or_ge b w.heap.size with h' | h'
    · exact h'
    · cases o with
      | it o => have a1 := this.1; rw [Array.getElem?_eq_none h'] at a1; cases a1
      | cells l => obtain ⟨c, e, fr, a1, -⟩ := this; rw [Array.getElem?_eq_none h'] at a1; cases a1
      | map es => obtain ⟨c, e, a1, -⟩ := this; rw [Array.getElem?_eq_none h'] at a1; cases a1
  have hb' : ∀ b, b < w.heap.size → (Am.push w ob).heap[b]? = w.heap[b]? := fun b hb => push_old w ob hb
  refine ⟨fun t => hk.rep (h.tmp t), fun b o hb => ?_, fun b o hb => ⟨Nat.lt_of_lt_of_le (h.tag b o hb).1 hk.size, (h.tag b o hb).2⟩, fun t b o hsp => h.sp t b o (hsp.keep (h.tmp t) hk.shape), fun b o t hb => ?_, fun b o c j hb => ?_⟩
  · have hlt' := hlt b o hb
    have := h.obj b o hb
    cases o with
    | it o => exact ⟨(hb' b hlt').trans this.1, this.2⟩
    | cells l =>
      obtain ⟨c, e, fr, a1, a2, a3, a4⟩ := this
      exact ⟨c, e, fr, (hb' b hlt').trans a1, a2, fun x hx => (frozen_of_block (hb' b hlt')).trans (a3 x hx), fun j X x e1 e2 => ⟨hk.rep (a4 j X x e1 e2).1, (a4 j X x e1 e2).2.1, fun b' o' hs => (a4 j X x e1 e2).2.2 b' o' (hs.keep (a4 j X x e1 e2).1 hk.shape)⟩⟩
    | map es =>
      obtain ⟨ents, clock, a1, a2, a3, a4, a5⟩ := this
      exact ⟨ents, clock, (hb' b hlt').trans a1, a2, fun j e ent e1 e2 => ⟨(a3 j e ent e1 e2).1, hk.rep (a3 j e ent e1 e2).2.1, fun b' o' hs => (a3 j e ent e1 e2).2.2 b' o' (hs.keep (a3 j e ent e1 e2).2.1 hk.shape)⟩, a4, a5⟩
  · have := h.wr b o t hb
    have hlt' := (h.tag b o (by rw [hb]; simp)).1
    exact ⟨by rw [cell_of_block (hb' b hlt')]; exact this.1, by rw [frozen_of_block (hb' b hlt')]; exact this.2⟩
  · have := h.mwr b o c j hb
    have hlt' := (h.tag b o (by rw [hb]; simp)).1
    exact ⟨by rw [cell_of_block (hb' b hlt')]; exact this.1, by rw [frozen_of_block (hb' b hlt')]; exact this.2⟩

theorem Holds.lt {T : Nat → AVal} {V : Nat → Value} {M : Mem} (h : Holds P κ T V M w) {b : Nat} {o : AObj} (hb : M b = some o) : b < w.heap.size := by
  have := h.obj b o hb
  rcases Nat.lt_or_ge b w.heap.size with h' | h'
  · exact h'
  · cases o with
    | it o => have a1 := this.1; rw [Array.getElem?_eq_none h'] at a1; cases a1
    | cells l => obtain ⟨c, e, fr, a1, -⟩ := this; rw [Array.getElem?_eq_none h'] at a1; cases a1
    | map es => obtain ⟨c, e, a1, -⟩ := this; rw [Array.getElem?_eq_none h'] at a1; cases a1

theorem Holds.fresh {T : Nat → AVal} {V : Nat → Value} {M : Mem} (h : Holds P κ T V M w) : M w.heap.size = none := by
  cases hb : M w.heap.size with
  | none => rfl
  | some o => exact absurd (h.lt hb) (by omega)

theorem Holds.untagged {T : Nat → AVal} {V : Nat → Value} {M : Mem} (h : Holds P κ T V M w) (o : Nat) : κ w.heap.size o = .free := by
  cases hb : κ w.heap.size o with
  | free => rfl
  | _ => exact absurd (h.tag w.heap.size o (by rw [hb]; simp)).1 (by omega)

/-- What a block holds becomes known. -/
theorem Holds.know {T : Nat → AVal} {V : Nat → Value} {M : Mem} (h : Holds P κ T V M w) {b : Nat} {o : AObj} (hr : RepO P κ w b o) (ht : ∀ x, κ b x = .free) : Holds P κ T V (M.upd b o) w where
  tmp := h.tmp
  obj c p hc := by
    unfold Mem.upd at hc
    split at hc
    · rename_i e; subst e; cases hc; exact hr
    · exact h.obj c p hc
  tag c x hc := by
    refine ⟨(h.tag c x hc).1, ?_⟩
    unfold Mem.upd
    split
    · rename_i e; subst e; exact absurd (ht x) hc
    · exact (h.tag c x hc).2
  sp := h.sp
  wr := h.wr
  mwr := h.mwr

/-- What is known of memory may be forgotten. -/
theorem Holds.forget {T : Nat → AVal} {V : Nat → Value} {M M' : Mem} (h : Holds P κ T V M w) (hm : ∀ b o, M' b = some o → M b = some o) : Holds P κ T V M' w where
  tmp := h.tmp
  obj c p hc := h.obj c p (hm c p hc)
  tag c x hc := by
    refine ⟨(h.tag c x hc).1, ?_⟩
    cases hb : M' c with
    | none => rfl
    | some o => rw [← (h.tag c x hc).2]; exact (hm c o hb).symm
  sp := h.sp
  wr := h.wr
  mwr := h.mwr

end
end Go.Am
