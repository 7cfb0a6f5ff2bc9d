import Derived.Test.YtphenhkofjbeoaaAm31
set_option linter.unusedVariables false
/-! The walk: a stack of what is still to be done; each step is one equation. -/
namespace Go.Am
set_option linter.unusedSimpArgs false

inductive It where
  | code (c : Code)
  | blk (id : Nat)
  | inv (J : St → Prop)
  | scp (l : Nat) (c : Code)
  | nog

section
variable (P : Program) (tk : Nat → Nat → Option Nat) (pl : Nat → List PStep)

def unw : List It → (Exit → St → Prop) → Exit → St → Prop
  | [], R, e, S => R e S
  | .code c :: k, R, .normal, S => aCode P tk pl c S (unw k R)
  | .code _ :: k, R, e, S => unw k R e S
  | .blk id :: k, R, .exit id', S => if id' = id then unw k R .normal S else unw k R (.exit id') S
  | .blk _ :: k, R, e, S => unw k R e S
  | .inv J :: _, _, .normal, S => J S
  | .inv _ :: k, R, e, S => unw k R e S
  | .scp l c :: k, R, .goto l', S => l' = l ∧ aFrom P tk pl c l S (noG (unw k R))
  | .scp _ _ :: k, R, e, S => unw k R e S
  | .nog :: _, _, .goto _, _ => False
  | .nog :: k, R, e, S => unw k R e S

variable {P tk pl} {k : List It} {R : Exit → St → Prop} {S : St}

theorem unw_nil {e : Exit} : unw P tk pl [] R e S = R e S := by cases e <;> rfl

theorem unw_seq {x y : Code} : unw P tk pl (.code (.seq x y) :: k) R .normal S = unw P tk pl (.code x :: .code y :: k) R .normal S := by
  show aCode P tk pl (.seq x y) S (unw P tk pl k R) = aCode P tk pl x S (unw P tk pl (.code y :: k) R)
  show aCode P tk pl x S _ = aCode P tk pl x S _
  congr 1
  funext e S'
  cases e <;> rfl

theorem unw_block {id : Nat} {c : Code} : unw P tk pl (.code (.block id c) :: k) R .normal S = unw P tk pl (.code c :: .blk id :: k) R .normal S := by
  show aCode P tk pl (.block id c) S (unw P tk pl k R) = aCode P tk pl c S (unw P tk pl (.blk id :: k) R)
  show aCode P tk pl c S _ = aCode P tk pl c S _
  congr 1
  funext e S'
  cases e <;> rfl

theorem unw_scope {c : Code} (l : Nat) (hl : (findLabel c l).isSome = true) (h : unw P tk pl (.code c :: .scp l c :: k) R .normal S) : unw P tk pl (.code (.scope c) :: k) R .normal S := by
  refine ⟨l, hl, ?_⟩
  have h' : aCode P tk pl c S (unw P tk pl (.scp l c :: k) R) := h
  have e : (unw P tk pl (.scp l c :: k) R) = (fun e S' => match e with | .goto l' => l' = l ∧ aFrom P tk pl c l S' (noG (unw P tk pl k R)) | e => unw P tk pl k R e S') := by
    funext e S'
    cases e <;> rfl
  rw [e] at h'
  exact h'
theorem noG_unw : noG (unw P tk pl k R) = unw P tk pl (.nog :: k) R := by
  funext e S'
  cases e <;> rfl
theorem unw_goto_here {c : Code} {l : Nat} (h : aFrom P tk pl c l S (unw P tk pl (.nog :: k) R)) : unw P tk pl (.scp l c :: k) R (.goto l) S := ⟨rfl, noG_unw ▸ h⟩
theorem aFrom_left {x y : Code} {l : Nat} (hl : (findLabel x l).isSome = true) (h : aFrom P tk pl x l S (unw P tk pl (.code y :: k) R)) : aFrom P tk pl (.seq x y) l S (unw P tk pl k R) := by
  show if (findLabel x l).isSome then aFrom P tk pl x l S (fun e S' => match e with | .normal => aCode P tk pl y S' (unw P tk pl k R) | e => unw P tk pl k R e S') else _
  rw [if_pos hl]
  have e : (unw P tk pl (.code y :: k) R) = (fun e S' => match e with | .normal => aCode P tk pl y S' (unw P tk pl k R) | e => unw P tk pl k R e S') := by
    funext e S'
    cases e <;> rfl
  rw [e] at h
  exact h
theorem aFrom_right {x y : Code} {l : Nat} (hl : (findLabel x l).isSome = false) (h : aFrom P tk pl y l S (unw P tk pl k R)) : aFrom P tk pl (.seq x y) l S (unw P tk pl k R) := by
  show if (findLabel x l).isSome then _ else aFrom P tk pl y l S _
  rw [if_neg (by rw [hl]; exact Bool.false_ne_true)]
  exact h
theorem aFrom_here {l : Nat} (h : unw P tk pl k R .normal S) : aFrom P tk pl (.label l) l S (unw P tk pl k R) := by
  show if l == l then unw P tk pl k R .normal S else False
  rw [if_pos (by simp)]; exact h
theorem unw_goto {l : Nat} : unw P tk pl (.code (.goto l) :: k) R .normal S = unw P tk pl k R (.goto l) S := rfl
theorem unw_skip : unw P tk pl (.code .skip :: k) R .normal S = unw P tk pl k R .normal S := rfl
theorem unw_label {l : Nat} : unw P tk pl (.code (.label l) :: k) R .normal S = unw P tk pl k R .normal S := rfl
theorem unw_exit {id : Nat} : unw P tk pl (.code (.exit id) :: k) R .normal S = unw P tk pl k R (.exit id) S := rfl
theorem unw_ret : unw P tk pl (.code .ret :: k) R .normal S = unw P tk pl k R .ret S := rfl
theorem unw_cond {c : Operand} {x y : Code} {t : Bool} (h : ev S.T c = .raw (.bool t)) : unw P tk pl (.code (.cond c x y) :: k) R .normal S = ((t = true → unw P tk pl (.code x :: k) R .normal S) ∧ (t = false → unw P tk pl (.code y :: k) R .normal S)) := by
  show (match ev S.T c with | .raw (.bool t) => _ | _ => False) = _
  rw [h]; rfl
theorem unw_region {id : Nat} {ops : List Oper} : unw P tk pl (.code (.region id ops.toArray false) :: k) R .normal S = ∃ n, aSeg P (tk id) ops.toArray (unw P tk pl k R .normal) n 0 ops S := rfl
theorem unw_draw {id : Nat} {ops : List Oper} : unw P tk pl (.code (.region id ops.toArray true) :: k) R .normal S = aDr P (tk id) ops.toArray (unw P tk pl k R .normal) (pl id) S := rfl

theorem unw_code_ret {c : Code} : unw P tk pl (.code c :: k) R .ret S = unw P tk pl k R .ret S := rfl
theorem unw_code_exit {c : Code} {id : Nat} : unw P tk pl (.code c :: k) R (.exit id) S = unw P tk pl k R (.exit id) S := rfl
theorem unw_blk_normal {id : Nat} : unw P tk pl (.blk id :: k) R .normal S = unw P tk pl k R .normal S := rfl
theorem unw_blk_ret {id : Nat} : unw P tk pl (.blk id :: k) R .ret S = unw P tk pl k R .ret S := rfl
theorem unw_blk_exit {id id' : Nat} : unw P tk pl (.blk id :: k) R (.exit id') S = if id' = id then unw P tk pl k R .normal S else unw P tk pl k R (.exit id') S := rfl
theorem unw_inv_normal {J : St → Prop} : unw P tk pl (.inv J :: k) R .normal S = J S := rfl
theorem unw_inv_ret {J : St → Prop} : unw P tk pl (.inv J :: k) R .ret S = unw P tk pl k R .ret S := rfl
theorem unw_inv_exit {J : St → Prop} {id : Nat} : unw P tk pl (.inv J :: k) R (.exit id) S = unw P tk pl k R (.exit id) S := rfl

theorem aBoth_mono : ∀ (c : Code), (∀ (S : St) {K K' : Exit → St → Prop}, (∀ e S, K e S → K' e S) → aCode P tk pl c S K → aCode P tk pl c S K') ∧ (∀ (l : Nat) (S : St) {K K' : Exit → St → Prop}, (∀ e S, K e S → K' e S) → aFrom P tk pl c l S K → aFrom P tk pl c l S K') := by
  have hops : ∀ (tk : Nat → Option Nat) (ops : Array Oper) {K K' : St → Prop}, (∀ S, K S → K' S) → ∀ (rest : List Oper) (i : Nat) (S : St), aOps P tk ops K i rest S → aOps P tk ops K' i rest S := by
    intro tk ops K K' hK rest
    induction rest with
    | nil => exact fun i S h => hK S h
    | cons o rest ih => exact fun i S h => aGuard_mono (fun hy => dstep_mono (fun S' he => ih _ _ he) hy) (fun hn => ih _ _ hn) h
  have hseg : ∀ (tk : Nat → Option Nat) (ops : Array Oper) {K K' : St → Prop}, (∀ S, K S → K' S) → ∀ (n i : Nat) (l : List Oper) (S : St), aSeg P tk ops K n i l S → aSeg P tk ops K' n i l S := by
    intro tk ops K K' hK n
    induction n with
    | zero => exact fun i l S h => hops tk ops hK l i S h
    | succ n ih =>
      intro i l S h
      obtain ⟨pre, o, o', rest, s, off, e, h⟩ := h
      exact ⟨pre, o, o', rest, s, off, e, hops tk ops (fun S' h' => aFuse_mono (fun S'' h'' => ih _ _ _ h'') h') _ _ _ h⟩
  have hdraw : ∀ (tk : Nat → Option Nat) (ops : Array Oper) {K K' : St → Prop}, (∀ S, K S → K' S) → ∀ (plan : List PStep) (H : List (Nat × Nat)) (S : St), aDraw P tk ops K plan H S → aDraw P tk ops K' plan H S := by
    intro tk ops K K' hK plan
    induction plan with
    | nil => exact fun H S h => hK S h
    | cons p plan ih =>
      intro H S h
      cases p with
      | q i =>
        simp only [aDraw] at h ⊢
        split at h
        · refine aGuard_mono (fun hy => ?_) (fun hn => ih _ _ hn) h
          split at hy
          · exact ih _ _ hy
          · exact hy
        · exact h
      | c i =>
        simp only [aDraw] at h ⊢
        split at h
        · exact aGuard_mono (fun ⟨q, B, h1, h2⟩ => ⟨q, B, h1, ih _ _ h2⟩) (fun hn => ih _ _ hn) h
        · exact h
      | s i ks => exact aOp_mono (fun S' hS => ⟨hS.1, ih _ _ hS.2⟩) h
  have hany : ∀ (tk : Nat → Option Nat) (ops : Array Oper) {K K' : St → Prop}, (∀ S, K S → K' S) → ∀ (H : List (Nat × Nat)) (fuel : Nat) (l : Array Bool) (S : St), aAny P tk ops K H fuel l S → aAny P tk ops K' H fuel l S := by
    intro tk ops K K' hK H fuel
    induction fuel with
    | zero => exact fun l S h => ⟨h.1, hK _ h.2⟩
    | succ n ih => exact fun l S h => ⟨fun h0 => hK _ (h.1 h0), fun i hi => aOp_mono (fun S' hx => ⟨hx.1, ih _ _ hx.2⟩) (h.2 i hi)⟩
  intro c
  induction c with
  | skip => exact ⟨fun S K K' hK h => hK _ _ h, fun l S K K' hK h => h.elim⟩
  | region id ops draw =>
    refine ⟨?_, fun l S K K' hK h => h.elim⟩
    intro S K K' hK h
    cases draw with
    | true =>
      have h' : aDr P (tk id) ops (K .normal) (pl id) S := h
      show aDr P (tk id) ops (K' .normal) (pl id) S
      cases hp : pl id with
      | nil =>
        rw [hp] at h'
        exact hany _ _ (fun S h => hK _ S h) _ _ _ _ h'
      | cons p l =>
        rw [hp] at h'
        exact hdraw _ _ (fun S h => hK _ S h) _ _ _ h'
    | false =>
      obtain ⟨n, h⟩ := h
      exact ⟨n, hseg _ _ (fun S h => hK _ S h) _ _ _ _ h⟩
  | seq x y ihx ihy =>
    refine ⟨?_, fun l S K K' hK h => ?_⟩
    rotate_left
    · have h' : if (findLabel x l).isSome then aFrom P tk pl x l S (fun e S' => match e with | .normal => aCode P tk pl y S' K | e => K e S') else aFrom P tk pl y l S K := h
      show if (findLabel x l).isSome then aFrom P tk pl x l S (fun e S' => match e with | .normal => aCode P tk pl y S' K' | e => K' e S') else aFrom P tk pl y l S K'
      split at h'
      · rename_i e; rw [if_pos e]
        refine ihx.2 l S (fun e S' h' => ?_) h'
        cases e with
        | normal => exact ihy.1 S' hK h'
        | _ => exact hK _ _ h'
      · rename_i e; rw [if_neg e]; exact ihy.2 l S hK h'
    intro S K K' hK h
    refine ihx.1 S (fun e S' h' => ?_) h
    cases e with
    | normal => exact ihy.1 S' hK h'
    | _ => exact hK _ _ h'
  | cond c x y ihx ihy =>
    refine ⟨?_, fun l S K K' hK h => h.elim⟩
    intro S K K' hK h
    simp only [aCode] at h ⊢
    split at h
    · exact ⟨fun e => ihx.1 S hK (h.1 e), fun e => ihy.1 S hK (h.2 e)⟩
    · exact h
  | block id c ih =>
    refine ⟨?_, fun l S K K' hK h => h.elim⟩
    intro S K K' hK h
    refine ih.1 S (fun e S' h' => ?_) h
    cases e with
    | exit id' =>
      simp only at h' ⊢
      split at h'
      · rename_i e; rw [if_pos e]; exact hK _ _ h'
      · rename_i e; rw [if_neg e]; exact hK _ _ h'
    | _ => exact hK _ _ h'
  | loop c ih =>
    refine ⟨?_, fun l S K K' hK h => h.elim⟩
    rintro S K K' hK ⟨n, h⟩
    refine ⟨n, ?_⟩
    induction n generalizing S with
    | zero => exact h
    | succ n ihn =>
      refine ih.1 S (fun e S' h' => ?_) h
      cases e with
      | normal => exact ihn S' h'
      | _ => exact hK _ _ h'
  | exit id => exact ⟨fun S K K' hK h => hK _ _ h, fun l S K K' hK h => h.elim⟩
  | ret => exact ⟨fun S K K' hK h => hK _ _ h, fun l S K K' hK h => h.elim⟩
  | label l' =>
    refine ⟨fun S K K' hK h => hK _ _ h, fun l S K K' hK h => ?_⟩
    have h' : if l' == l then K .normal S else False := h
    show if l' == l then K' .normal S else False
    split at h'
    · rename_i e; rw [if_pos e]; exact hK _ _ h'
    · exact h'.elim
  | goto l => exact ⟨fun S K K' hK h => hK _ _ h, fun l S K K' hK h => h.elim⟩
  | rangeFunc f ps x y _ _ => exact ⟨fun S K K' hK h => h, fun l S K K' hK h => h.elim⟩
  | scope c ih =>
    refine ⟨?_, fun l S K K' hK h => h.elim⟩
    rintro S K K' hK ⟨l, hs, h⟩
    refine ⟨l, hs, ih.1 S (fun e S' h' => ?_) h⟩
    cases e with
    | goto l' =>
      refine ⟨h'.1, ih.2 l S' (fun e S'' h'' => ?_) h'.2⟩
      cases e with
      | goto _ => exact h''
      | _ => exact hK _ _ h''
    | _ => exact hK _ _ h'
  | refuse why => exact ⟨fun S K K' hK h => h, fun l S K K' hK h => h.elim⟩

theorem aCode_mono (c : Code) (S : St) {K K' : Exit → St → Prop} (hK : ∀ e S, K e S → K' e S) (h : aCode P tk pl c S K) : aCode P tk pl c S K' := (aBoth_mono c).1 S hK h

/-- A loop: 'I m' holds at its head, and each round that comes to its end lowers m. -/
theorem unw_loop {c : Code} (I : Nat → St → Prop) (m : Nat) (h0 : I m S) (step : ∀ m S', I m S' → unw P tk pl (.code c :: .inv (fun S'' => ∃ m', m' < m ∧ I m' S'') :: k) R .normal S') : unw P tk pl (.code (.loop c) :: k) R .normal S := by
  show ∃ n, aRounds (aCode P tk pl c) n S (unw P tk pl k R)
  refine ⟨m + 1, ?_⟩
  have key : ∀ b m S, m ≤ b → I m S → aRounds (aCode P tk pl c) (b + 1) S (unw P tk pl k R) := by
    intro b
    induction b with
    | zero =>
      intro m S hm hI
      refine aCode_mono c S (fun e S' h' => ?_) (step m S hI)
      cases e with
      | normal => obtain ⟨m', h1, -⟩ := h'; omega
      | _ => exact h'
    | succ b ih =>
      intro m S hm hI
      refine aCode_mono c S (fun e S' h' => ?_) (step m S hI)
      cases e with
      | normal => obtain ⟨m', h1, h2⟩ := h'; exact ih m' S' (by omega) h2
      | _ => exact h'
  exact key m m S (Nat.le_refl _) h0

theorem SoundCall.walk {f : FuncId} {fn : Func} {c : Code} {args : List AVal} {M : Mem} {Post : AVal → Mem → Prop} (tk : Nat → Nat → Option Nat) (pl : Nat → List PStep) (hm : P.follows .mixedOrders = true) (hf : P.funcs[f]? = some fn) (hb : fn.body = some c) (hB : codeB P fn.ntmps tk pl c = true) (hlen : args.length ≤ fn.ntmps)
    (hc : unw P tk pl [.code c] (aRet P fn Post) .normal ⟨argT args, M⟩) : SoundCall P f args M Post := by
  refine SoundCall.of_code tk pl hm hf hb hB hlen (aCode_mono c _ (fun e S h => ?_) hc)
  rw [unw_nil] at h
  exact h

end
end Go.Am
