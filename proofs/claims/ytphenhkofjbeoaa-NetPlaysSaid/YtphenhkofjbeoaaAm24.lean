import Derived.Test.YtphenhkofjbeoaaAm23
set_option linter.unusedVariables false
/-! Regions that draw their order: one walk, in one order, serves for all. -/
namespace Go.Am
set_option linter.unusedSimpArgs false

structure QEff where
  lz : Option Tmp
  V : AVal

def QEff.app (q : QEff) (S : St) (dst : Option Tmp) : St := Eff.apply ⟨q.lz, S.M, q.V⟩ S dst

/-- An operation under its guard. -/
def aGuard (ops : Array Oper) (T : Nat → AVal) (o : Oper) (yes no : Prop) : Prop :=
  match o.guard with
  | none => yes
  | some (j, want) =>
    match (ops[j]?).bind (·.dst) with
    | some d => (match T d with | .raw (.bool t) => (t = want → yes) ∧ (t = !want → no) | .raw _ => no | _ => False)
    | none => False

theorem aGuard_mono {ops : Array Oper} {T : Nat → AVal} {o : Oper} {y n y' n' : Prop} (hy : y → y') (hn : n → n') (h : aGuard ops T o y n) : aGuard ops T o y' n' := by
  unfold aGuard at h ⊢
  split at h
  · exact hy h
  · split at h
    · split at h
      · exact ⟨fun e => hy (h.1 e), fun e => hn (h.2 e)⟩
      · exact hn h
      · exact h
    · exact h

/-- In whatever state agrees on the operands, and on these blocks, the operation comes to this, and memory stays. -/
def Quiet (P : Program) (tk : Option Nat) (o : Oper) (T : Nat → AVal) (M : Mem) (q : QEff) (B : List Nat) : Prop :=
  (q.lz = none ∨ q.lz = lzOf tk o) ∧ ∀ T' M', (∀ x ∈ o.op.operands.toList, ev T x = ev T' x) → (∀ b ∈ B, M b = M' b) → ∀ N : Eff → Prop, N ⟨q.lz, M', q.V⟩ → estep P tk o T' M' N

def aOp (P : Program) (tk : Nat → Option Nat) (ops : Array Oper) (i : Nat) (S : St) (K : St → Prop) : Prop :=
  match ops[i]? with
  | none => K S
  | some o => aGuard ops S.T o (dstep P (tk i) o S K) (K (S.put o.dst (.raw undef)))

/-- An operation that is carried out comes to q; one that is not, to nothing. -/
def Comes (P : Program) (tk : Nat → Option Nat) (ops : Array Oper) (i : Nat) (o : Oper) (S : St) (q : QEff) (B : List Nat) : Prop :=
  aGuard ops S.T o (Quiet P (tk i) o S.T S.M q B) (q = ⟨none, .raw undef⟩)

/-- Which temporaries an operation may write. -/
def writesOf (tk : Option Nat) (o : Oper) : List Tmp := o.dst.toList ++ (lzOf tk o).toList

def apartD (ops : Array Oper) (tk : Nat → Option Nat) (i j : Nat) (oi oj : Oper) : Bool :=
  ((writesOf (tk i) oi).all fun t => !(oj.looksAt ops).contains t && !(writesOf (tk j) oj).contains t) && ((writesOf (tk j) oj).all fun t => !(oi.looksAt ops).contains t)

def waitsOn (o : Oper) (i : Nat) : Bool := o.after.any fun e => Region.binds .any e && e.on == i

section
variable {P : Program} {ops : Array Oper} {tk : Nat → Option Nat}

theorem ev_look {o : Oper} {T T' : Nat → AVal} (h : ∀ t ∈ o.looksAt ops, T t = T' t) : ∀ x ∈ o.op.operands.toList, ev T x = ev T' x := by
  intro x hx
  cases x with
  | tmp t =>
    refine h t ?_
    unfold Oper.looksAt
    refine List.mem_append.2 (.inl (List.mem_filterMap.2 ⟨_, hx, rfl⟩))
  | _ => rfl

theorem aGuard_look {o : Oper} {T T' : Nat → AVal} {y n : Prop} (h : ∀ t ∈ o.looksAt ops, T t = T' t) (hg : aGuard ops T o y n) : aGuard ops T' o y n := by
  unfold aGuard at hg ⊢
  split at hg
  · exact hg
  · rename_i j want hgd
    split at hg
    · rename_i d hd
      have : T d = T' d := h d (by unfold Oper.looksAt; rw [hgd]; simp [hd])
      rw [← this]; exact hg
    · exact hg

theorem put_T (S : St) (dst : Option Tmp) (V : AVal) (t : Nat) : (S.put dst V).T t = if dst = some t then V else S.T t := by
  cases dst with
  | none => simp [St.put]
  | some d =>
    simp only [St.put, setT, Option.some.injEq]
    by_cases h : t = d
    · rw [if_pos h, if_pos h.symm]
    · rw [if_neg h, if_neg fun e => h e.symm]

theorem put_M (S : St) (dst : Option Tmp) (V : AVal) : (S.put dst V).M = S.M := by cases dst <;> rfl

theorem loseO_T (S : St) (lz : Option Tmp) (t : Nat) : (S.loseO lz).T t = if lz = some t then (S.T t).shut else S.T t := by
  cases lz with
  | none => simp [St.loseO]
  | some d =>
    simp only [St.loseO, St.lose, setT, Option.some.injEq]
    by_cases h : t = d
    · subst h; simp
    · rw [if_neg h, if_neg fun e => h e.symm]

theorem apply_T (e : Eff) (S : St) (dst : Option Tmp) (t : Nat) : (e.apply S dst).T t = if dst = some t then e.V else if e.lz = some t then (S.T t).shut else S.T t := by
  unfold Eff.apply
  rw [put_T]
  split
  · rfl
  · exact loseO_T S e.lz t

theorem apply_M (e : Eff) (S : St) (dst : Option Tmp) : (e.apply S dst).M = e.M := by unfold Eff.apply; rw [put_M]

theorem St.ext' {S S' : St} (h1 : ∀ t, S.T t = S'.T t) (h2 : S.M = S'.M) : S = S' := by
  cases S; cases S'
  simp only [St.mk.injEq]
  exact ⟨funext h1, h2⟩

theorem apartD_spec {i j : Nat} {oi oj : Oper} (h : apartD ops tk i j oi oj = true) : (∀ t ∈ writesOf (tk i) oi, t ∉ oj.looksAt ops ∧ t ∉ writesOf (tk j) oj) ∧ ∀ t ∈ writesOf (tk j) oj, t ∉ oi.looksAt ops := by
  unfold apartD at h
  simp only [Bool.and_eq_true, List.all_eq_true, Bool.not_eq_true', List.contains_eq_mem, decide_eq_false_iff_not] at h
  exact ⟨fun t ht => h.1 t ht, fun t ht => h.2 t ht⟩

theorem mem_writes {o : Oper} {tk : Option Nat} {t : Tmp} {lz : Option Tmp} (hl : lz = none ∨ lz = lzOf tk o) : (o.dst = some t ∨ lz = some t) → t ∈ writesOf tk o := by
  intro h
  unfold writesOf
  rcases h with h | h
  · simp [h]
  · rcases hl with e | e
    · rw [e] at h; cases h
    · rw [← e, h]; simp

/-- What another operation does, it does as well before: and nothing that this one looks at has turned. -/
theorem aOp_comm {i j : Nat} {oi oj : Oper} {q : QEff} {S : St} {K : St → Prop} (hj : ops[j]? = some oj) (hq : q.lz = none ∨ q.lz = lzOf (tk i) oi) (ha : apartD ops tk i j oi oj = true) (h : aOp P tk ops j (q.app S oi.dst) K) :
    aOp P tk ops j S fun S' => K (q.app S' oi.dst) ∧ ∀ t ∈ oi.looksAt ops, S'.T t = S.T t := by
  obtain ⟨h1, h2⟩ := apartD_spec ha
  have hlook : ∀ t ∈ oj.looksAt ops, (q.app S oi.dst).T t = S.T t := fun t ht => by
    unfold QEff.app
    rw [apply_T]
    rw [if_neg fun e => (h1 t (mem_writes hq (.inl e))).1 ht, if_neg fun e => (h1 t (mem_writes hq (.inr e))).1 ht]
  have hcomm : ∀ e : Eff, (e.lz = none ∨ e.lz = lzOf (tk j) oj) → e.apply (q.app S oi.dst) oj.dst = q.app (e.apply S oj.dst) oi.dst ∧ ∀ t ∈ oi.looksAt ops, (e.apply S oj.dst).T t = S.T t := fun e he => by
    refine ⟨St.ext' (fun t => ?_) ?_, fun t ht => ?_⟩
    · unfold QEff.app
      simp only [apply_T]
      by_cases c1 : oj.dst = some t
      · have n1 : ¬ oi.dst = some t := fun e' => (h1 t (mem_writes hq (.inl e'))).2 (mem_writes he (.inl c1))
        have n2 : ¬ q.lz = some t := fun e' => (h1 t (mem_writes hq (.inr e'))).2 (mem_writes he (.inl c1))
        simp only [if_pos c1, if_neg n1, if_neg n2]
      · by_cases c2 : e.lz = some t
        · have n1 : ¬ oi.dst = some t := fun e' => (h1 t (mem_writes hq (.inl e'))).2 (mem_writes he (.inr c2))
          have n2 : ¬ q.lz = some t := fun e' => (h1 t (mem_writes hq (.inr e'))).2 (mem_writes he (.inr c2))
          simp only [if_neg c1, if_pos c2, if_neg n1, if_neg n2]
        · simp only [if_neg c1, if_neg c2]
    · unfold QEff.app
      simp only [apply_M]
    · rw [apply_T, if_neg fun e' => h2 t (mem_writes he (.inl e')) ht, if_neg fun e' => h2 t (mem_writes he (.inr e')) ht]
  unfold aOp at h ⊢
  rw [hj] at h ⊢
  dsimp only at h ⊢
  refine aGuard_mono (fun hy => ?_) (fun hn => ?_) (aGuard_look hlook h)
  · unfold dstep at hy ⊢
    have hM : (q.app S oi.dst).M = S.M := by unfold QEff.app; rw [apply_M]
    rw [hM] at hy
    refine hy.imp (fun hy => estep_mono (fun e he hK => ?_) (estep_congr (ev_look hlook) hy)) fun hy => xstep_mono (fun M1 V hK => ?_) (xstep_congr (ev_look hlook) hy)
    · obtain ⟨c1, c2⟩ := hcomm e he
      exact ⟨by rw [← c1]; exact hK, c2⟩
    · obtain ⟨c1, c2⟩ := hcomm ⟨none, M1, V⟩ (.inl rfl)
      exact ⟨by rw [← c1]; exact hK, c2⟩
  · obtain ⟨c1, c2⟩ := hcomm ⟨none, S.M, .raw undef⟩ (.inl rfl)
    have e1 : (S.put oj.dst (.raw undef)) = Eff.apply ⟨none, S.M, .raw undef⟩ S oj.dst := rfl
    have e2 : ((q.app S oi.dst).put oj.dst (.raw undef)) = Eff.apply ⟨none, S.M, .raw undef⟩ (q.app S oi.dst) oj.dst := by
      have hM : (q.app S oi.dst).M = S.M := by unfold QEff.app; rw [apply_M]
      unfold Eff.apply St.loseO
      dsimp only
      rw [← hM]
    rw [e1, ← c1, ← e2]
    exact ⟨hn, c2⟩

theorem aOp_mono {i : Nat} {S : St} {K K' : St → Prop} (hK : ∀ S', K S' → K' S') (h : aOp P tk ops i S K) : aOp P tk ops i S K' := by
  unfold aOp at h ⊢
  split at h
  · exact hK _ h
  · exact aGuard_mono (fun hy => dstep_mono (fun S' he => hK _ he) hy) (fun hn => hK _ hn) h

/-- Whatever order is drawn; and the blocks that quiet operations have read stay for those that do not wait for them. -/
def aAny (P : Program) (tk : Nat → Option Nat) (ops : Array Oper) (Q : St → Prop) (H : List (Nat × Nat)) : Nat → Array Bool → St → Prop
  | 0, listed, S => Region.ready .any ops listed = [] ∧ Q S
  | fuel + 1, listed, S => (Region.ready .any ops listed = [] → Q S) ∧
      ∀ i ∈ Region.ready .any ops listed, aOp P tk ops i S fun S' => (∀ p ∈ H, (∀ o, ops[i]? = some o → waitsOn o p.1 = false) → S'.M p.2 = S.M p.2) ∧ aAny P tk ops Q H fuel (listed.setIfInBounds i true) S'

theorem aAny_sub {Q : St → Prop} {H H' : List (Nat × Nat)} (hs : ∀ p ∈ H, p ∈ H') : ∀ (fuel : Nat) (listed : Array Bool) (S : St), aAny P tk ops Q H' fuel listed S → aAny P tk ops Q H fuel listed S
  | 0, _, _, h => h
  | fuel + 1, _, _, h => ⟨h.1, fun i hi => aOp_mono (fun _ hx => ⟨fun p hp => hx.1 p (hs p hp), aAny_sub hs fuel _ _ hx.2⟩) (h.2 i hi)⟩

theorem comes_aOp {i : Nat} {o : Oper} {S : St} {q : QEff} {B : List Nat} {K : St → Prop} (hi : ops[i]? = some o) (hc : Comes P tk ops i o S q B) (h : K (q.app S o.dst)) : aOp P tk ops i S K := by
  unfold aOp
  rw [hi]
  refine aGuard_mono (fun hy => .inl <| hy.2 S.T S.M (fun _ _ => rfl) (fun _ _ => rfl) _ h) (fun hn => ?_) hc
  subst hn
  exact h

theorem comes_stays {i : Nat} {o : Oper} {S S' : St} {q : QEff} {B : List Nat} (hc : Comes P tk ops i o S q B) (hT : ∀ t ∈ o.looksAt ops, S'.T t = S.T t) (hM : ∀ b ∈ B, S'.M b = S.M b) : Comes P tk ops i o S' q B := by
  unfold Comes at hc ⊢
  refine aGuard_look (fun t ht => (hT t ht).symm) (aGuard_mono (fun hy => ⟨hy.1, fun T' M' h1 h2 N hN => hy.2 T' M' (fun x hx => ?_) (fun b hb => ?_) N hN⟩) id hc)
  · rw [ev_look (ops := ops) (T := S.T) (T' := S'.T) (fun t ht => (hT t ht).symm) x hx]; exact h1 x hx
  · rw [← hM b hb]; exact h2 b hb

/-- A quiet operation that may come up now may be taken first. -/
theorem aAny_first {Q : St → Prop} {H : List (Nat × Nat)} {i : Nat} {oi : Oper} {q : QEff} {B : List Nat} (hi : ops[i]? = some oi) (hq : q.lz = none ∨ q.lz = lzOf (tk i) oi) : ∀ (fuel : Nat) (listed : Array Bool) (S : St),
    (∀ j oj, ops[j]? = some oj → j ≠ i → listed.getD j true = false → waitsOn oj i = false → apartD ops tk i j oi oj = true) → i ∈ Region.ready .any ops listed → Comes P tk ops i oi S q B →
    aAny P tk ops Q (B.map (fun b => (i, b)) ++ H) fuel (listed.setIfInBounds i true) (q.app S oi.dst) → aAny P tk ops Q H (fuel + 1) listed S := by
  intro fuel
  have hself : ∀ (fuel : Nat) (listed : Array Bool) (S : St), Comes P tk ops i oi S q B → aAny P tk ops Q (B.map (fun b => (i, b)) ++ H) fuel (listed.setIfInBounds i true) (q.app S oi.dst) →
      aOp P tk ops i S fun S' => (∀ p ∈ H, (∀ o, ops[i]? = some o → waitsOn o p.1 = false) → S'.M p.2 = S.M p.2) ∧ aAny P tk ops Q H fuel (listed.setIfInBounds i true) S' := fun fuel listed S hc hH =>
    comes_aOp hi hc ⟨fun p _ _ => by unfold QEff.app; rw [apply_M], aAny_sub (fun p hp => List.mem_append.2 (.inr hp)) _ _ _ hH⟩
  induction fuel with
  | zero =>
    intro listed S _ hr hc hH
    refine ⟨fun h => (by rw [h] at hr; cases hr), fun j hj => ?_⟩
    by_cases hji : j = i
    · subst hji; exact hself 0 listed S hc hH
    · have := ready_mono hj hji
      rw [hH.1] at this
      cases this
  | succ fuel ih =>
    intro listed S hfree hr hc hH
    refine ⟨fun h => (by rw [h] at hr; cases hr), fun j hj => ?_⟩
    by_cases hji : j = i
    · subst hji; exact hself _ listed S hc hH
    · have h1 := hH.2 j (ready_mono hj hji)
      obtain ⟨hjun, oj, hoj, hall⟩ := mem_ready.1 hj
      have hnot : waitsOn oj i = false := by
        cases hw : waitsOn oj i with
        | false => rfl
        | true =>
          unfold waitsOn at hw
          obtain ⟨e, he, hb⟩ := Array.any_eq_true'.1 hw
          simp only [Bool.and_eq_true, beq_iff_eq] at hb
          have h1 := hall e he hb.1
          have h0 := (mem_ready.1 hr).1
          rw [hb.2] at h1
          rcases Nat.lt_or_ge i listed.size with h' | h'
          · simp [h'] at h0 h1; rw [h0] at h1; cases h1
          · simp [Array.getElem?_eq_none h'] at h1
      refine aOp_mono (fun S' h3 => ?_) (aOp_comm hoj hq (hfree j oj hoj hji hjun hnot) h1)
      obtain ⟨⟨h4, h5⟩, h6⟩ := h3
      have hMapp : ∀ S : St, (q.app S oi.dst).M = S.M := fun S => by unfold QEff.app; rw [apply_M]
      rw [hMapp, hMapp] at h4
      refine ⟨fun p hp hw => h4 p (List.mem_append.2 (.inr hp)) hw, ih _ S' (fun k ok hk hki hun hno => ?_) (ready_mono hr (Ne.symm hji)) (comes_stays hc h6 fun b hb => ?_) ?_⟩
      · refine hfree k ok hk hki ?_ hno
        by_cases hjk : j = k
        · subst hjk; exact hjun
        · rw [getD_set_ne true hjk] at hun; exact hun
      · exact h4 (i, b) (List.mem_append.2 (.inl (List.mem_map.2 ⟨b, hb, rfl⟩))) fun o ho => by rw [hoj] at ho; cases ho; exact hnot
      · rw [Array.setIfInBounds_comm _ _ hji]
        exact h5

end
end Go.Am
