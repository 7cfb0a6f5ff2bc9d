import Derived.Test.YtphenhkofjbeoaaAm32
import Derived.Laws.Strings
set_option linter.unusedVariables false
/-! The walk, operation by operation: one lemma for each kind, whose side conditions are closed by 'rfl'. -/
namespace Go.Am
set_option linter.unusedSimpArgs false

section
variable {P : Program} {tkr : Nat → Option Nat} {ops : Array Oper} {K : St → Prop} {i : Nat} {rest : List Oper} {o : Oper} {d : Nat} {V X : AVal} {B : List Nat} {T : Nat → AVal} {M : Mem} {k : Option Nat}

theorem o_q (hq : qstep P k o T M = some (⟨none, V⟩, B)) (hg : o.guard = none) (hd : o.dst = some d) (htk : tkr i = k) (h : aOps P tkr ops K (i + 1) rest ⟨setT T d V, M⟩) : aOps P tkr ops K i (o :: rest) ⟨T, M⟩ := by
  show aGuard ops T o _ _
  unfold aGuard
  rw [hg, htk]
  refine .inl <| (quiet_qstep hq).2 T M (fun _ _ => rfl) (fun _ _ => rfl) _ ?_
  simp only [hd]
  exact h

theorem o_qs {t : Nat} (hq : qstep P k o T M = some (⟨some t, V⟩, B)) (hg : o.guard = none) (hd : o.dst = some d) (htk : tkr i = k) (hX : (T t).shut = X) (h : aOps P tkr ops K (i + 1) rest ⟨setT (setT T t X) d V, M⟩) : aOps P tkr ops K i (o :: rest) ⟨T, M⟩ := by
  show aGuard ops T o _ _
  unfold aGuard
  rw [hg, htk]
  refine .inl <| (quiet_qstep hq).2 T M (fun _ _ => rfl) (fun _ _ => rfl) _ ?_
  simp only [hd]
  subst hX
  exact h

/-- One whose effect is known. -/
theorem o_e (he : ∀ N : Eff → Prop, N ⟨none, M, V⟩ → estep P k o T M N) (hg : o.guard = none) (hd : o.dst = some d) (htk : tkr i = k) (h : aOps P tkr ops K (i + 1) rest ⟨setT T d V, M⟩) : aOps P tkr ops K i (o :: rest) ⟨T, M⟩ := by
  show aGuard ops T o _ _
  unfold aGuard
  rw [hg, htk]
  refine .inl <| he _ ?_
  simp only [hd]
  exact h

/-- One that does what it does. -/
theorem o_x (hg : o.guard = none) (h : estep P (tkr i) o T M fun e => aOps P tkr ops K (i + 1) rest (e.apply ⟨T, M⟩ o.dst)) : aOps P tkr ops K i (o :: rest) ⟨T, M⟩ := by
  show aGuard ops T o _ _
  unfold aGuard
  rw [hg]
  exact .inl h
theorem o_xs (hg : o.guard = none) (h : xstep P o T M fun M1 V => aOps P tkr ops K (i + 1) rest (Eff.apply ⟨none, M1, V⟩ ⟨T, M⟩ o.dst)) : aOps P tkr ops K i (o :: rest) ⟨T, M⟩ := by
  show aGuard ops T o _ _
  unfold aGuard
  rw [hg]
  exact .inr h

theorem o_nil {S : St} (h : K S) : aOps P tkr ops K i [] S := h

theorem o_guard {j : Nat} {want t : Bool} {g d' : Nat} (hg : o.guard = some (j, want)) (hj : (ops[j]?).bind (·.dst) = some g) (ht : T g = .raw (.bool t)) (hd : o.dst = some d')
    (yes : t = want → aOps P tkr ops K i ({ o with guard := none } :: rest) ⟨T, M⟩) (no : t = !want → aOps P tkr ops K (i + 1) rest ⟨setT T d' (.raw undef), M⟩) : aOps P tkr ops K i (o :: rest) ⟨T, M⟩ := by
  show aGuard ops T o _ _
  unfold aGuard
  rw [hg]
  simp only [hj, ht]
  refine ⟨fun e => ?_, fun e => ?_⟩
  · have := yes e
    exact this
  · have := no e
    simp only [hd]
    exact this

theorem o_yes {j : Nat} {want t : Bool} {g : Nat} (hg : o.guard = some (j, want)) (hj : (ops[j]?).bind (·.dst) = some g) (ht : T g = .raw (.bool t)) (e : t = want)
    (yes : aOps P tkr ops K i ({ o with guard := none } :: rest) ⟨T, M⟩) : aOps P tkr ops K i (o :: rest) ⟨T, M⟩ := by
  show aGuard ops T o _ _
  unfold aGuard
  rw [hg]
  simp only [hj, ht]
  refine ⟨fun _ => yes, fun e' => ?_⟩
  rw [e] at e'; cases want <;> cases e'

theorem o_no {j : Nat} {want t : Bool} {g d' : Nat} (hg : o.guard = some (j, want)) (hj : (ops[j]?).bind (·.dst) = some g) (ht : T g = .raw (.bool t)) (hd : o.dst = some d') (e : t = !want)
    (no : aOps P tkr ops K (i + 1) rest ⟨setT T d' (.raw undef), M⟩) : aOps P tkr ops K i (o :: rest) ⟨T, M⟩ := by
  show aGuard ops T o _ _
  unfold aGuard
  rw [hg]
  simp only [hj, ht]
  refine ⟨fun e' => ?_, fun _ => ?_⟩
  · rw [e] at e'; cases want <;> cases e'
  · simp only [hd]; exact no

/-! ### Regions that draw -/

variable {plan : List PStep} {H : List (Nat × Nat)}

theorem d_q (ho : ops[i]? = some o) (hq : qstep P k o T M = some (⟨none, V⟩, B)) (hg : o.guard = none) (hd : o.dst = some d) (htk : tkr i = k) (h : aDraw P tkr ops K plan (B.map (fun b => (i, b)) ++ H) ⟨setT T d V, M⟩) : aDraw P tkr ops K (.q i :: plan) H ⟨T, M⟩ := by
  simp only [aDraw, ho, htk, aGuard, hg, hq]
  simp only [QEff.app, hd]
  exact h

theorem d_qs {t : Nat} (ho : ops[i]? = some o) (hq : qstep P k o T M = some (⟨some t, V⟩, B)) (hg : o.guard = none) (hd : o.dst = some d) (htk : tkr i = k) (hX : (T t).shut = X) (h : aDraw P tkr ops K plan (B.map (fun b => (i, b)) ++ H) ⟨setT (setT T t X) d V, M⟩) : aDraw P tkr ops K (.q i :: plan) H ⟨T, M⟩ := by
  simp only [aDraw, ho, htk, aGuard, hg, hq]
  simp only [QEff.app, hd]
  subst hX
  exact h

theorem d_gq {j : Nat} {want t : Bool} {g : Nat} (ho : ops[i]? = some o) (hg : o.guard = some (j, want)) (hj : (ops[j]?).bind (·.dst) = some g) (ht : T g = .raw (.bool t)) (hd : o.dst = some d)
    (hq : t = want → ∃ V B, qstep P (tkr i) o T M = some (⟨none, V⟩, B) ∧ aDraw P tkr ops K plan (B.map (fun b => (i, b)) ++ H) ⟨setT T d V, M⟩) (no : t = !want → aDraw P tkr ops K plan H ⟨setT T d (.raw undef), M⟩) : aDraw P tkr ops K (.q i :: plan) H ⟨T, M⟩ := by
  simp only [aDraw, ho, aGuard, hg, hj, ht]
  refine ⟨fun e => ?_, fun e => ?_⟩
  · obtain ⟨V, B, h1, h2⟩ := hq e
    simp only [h1, QEff.app, hd]
    exact h2
  · simp only [hd]
    exact no e

theorem d_yes {j : Nat} {want t : Bool} {g : Nat} (ho : ops[i]? = some o) (hq : qstep P k o T M = some (⟨none, V⟩, B)) (hg : o.guard = some (j, want)) (hj : (ops[j]?).bind (·.dst) = some g) (ht : T g = .raw (.bool t)) (e : t = want) (hd : o.dst = some d) (htk : tkr i = k)
    (h : aDraw P tkr ops K plan (B.map (fun b => (i, b)) ++ H) ⟨setT T d V, M⟩) : aDraw P tkr ops K (.q i :: plan) H ⟨T, M⟩ :=
  d_gq ho hg hj ht hd (fun _ => ⟨V, B, by rw [htk]; exact hq, h⟩) fun e' => by rw [e] at e'; cases want <;> cases e'

theorem d_no {j : Nat} {want t : Bool} {g : Nat} (ho : ops[i]? = some o) (hg : o.guard = some (j, want)) (hj : (ops[j]?).bind (·.dst) = some g) (ht : T g = .raw (.bool t)) (e : t = !want) (hd : o.dst = some d)
    (h : aDraw P tkr ops K plan H ⟨setT T d (.raw undef), M⟩) : aDraw P tkr ops K (.q i :: plan) H ⟨T, M⟩ :=
  d_gq ho hg hj ht hd (fun e' => by rw [e] at e'; cases want <;> cases e') fun _ => h

theorem d_nil {S : St} (h : K S) : aDraw P tkr ops K [] H S := h

/-! ### Code -/

variable {tk : Nat → Nat → Option Nat} {pl : Nat → List PStep} {ks : List It} {R : Exit → St → Prop} {S : St}

theorem s_seq {x y : Code} (h : unw P tk pl (.code x :: .code y :: ks) R .normal S) : unw P tk pl (.code (.seq x y) :: ks) R .normal S := unw_seq ▸ h
theorem s_block {id : Nat} {c : Code} (h : unw P tk pl (.code c :: .blk id :: ks) R .normal S) : unw P tk pl (.code (.block id c) :: ks) R .normal S := unw_block ▸ h
theorem s_skip (h : unw P tk pl ks R .normal S) : unw P tk pl (.code .skip :: ks) R .normal S := h
theorem s_exit {id : Nat} (h : unw P tk pl ks R (.exit id) S) : unw P tk pl (.code (.exit id) :: ks) R .normal S := h
theorem s_ret (h : unw P tk pl ks R .ret S) : unw P tk pl (.code .ret :: ks) R .normal S := h
theorem s_cond {c : Operand} {x y : Code} {t : Bool} (hc : ev S.T c = .raw (.bool t)) (h1 : t = true → unw P tk pl (.code x :: ks) R .normal S) (h2 : t = false → unw P tk pl (.code y :: ks) R .normal S) : unw P tk pl (.code (.cond c x y) :: ks) R .normal S := by
  rw [unw_cond hc]; exact ⟨h1, h2⟩
theorem s_then {c : Operand} {x y : Code} {t : Bool} (hc : ev S.T c = .raw (.bool t)) (e : t = true) (h1 : unw P tk pl (.code x :: ks) R .normal S) : unw P tk pl (.code (.cond c x y) :: ks) R .normal S :=
  s_cond hc (fun _ => h1) fun e' => by rw [e] at e'; cases e'
theorem s_else {c : Operand} {x y : Code} {t : Bool} (hc : ev S.T c = .raw (.bool t)) (e : t = false) (h1 : unw P tk pl (.code y :: ks) R .normal S) : unw P tk pl (.code (.cond c x y) :: ks) R .normal S :=
  s_cond hc (fun e' => by rw [e] at e'; cases e') fun _ => h1
theorem s_region {id : Nat} {l : List Oper} (h : aOps P (tk id) l.toArray (unw P tk pl ks R .normal) 0 l S) : unw P tk pl (.code (.region id l.toArray false) :: ks) R .normal S := ⟨0, h⟩
theorem s_draw {id : Nat} {l : List Oper} {a : PStep} {p : List PStep} (hp : pl id = a :: p) (h : aDraw P (tk id) l.toArray (unw P tk pl ks R .normal) (a :: p) [] S) : unw P tk pl (.code (.region id l.toArray true) :: ks) R .normal S := by
  show aDr P (tk id) l.toArray (unw P tk pl ks R .normal) (pl id) S
  rw [hp]; exact h
/-- In every order. -/
theorem s_any {id : Nat} {l : List Oper} (hp : pl id = []) (h : aAny P (tk id) l.toArray (unw P tk pl ks R .normal) [] l.length (Array.replicate l.length false) S) : unw P tk pl (.code (.region id l.toArray true) :: ks) R .normal S := by
  show aDr P (tk id) l.toArray (unw P tk pl ks R .normal) (pl id) S
  rw [hp]; exact h
theorem s_code_ret {c : Code} (h : unw P tk pl ks R .ret S) : unw P tk pl (.code c :: ks) R .ret S := h
theorem s_code_exit {c : Code} {id : Nat} (h : unw P tk pl ks R (.exit id) S) : unw P tk pl (.code c :: ks) R (.exit id) S := h
theorem s_blk_normal {id : Nat} (h : unw P tk pl ks R .normal S) : unw P tk pl (.blk id :: ks) R .normal S := h
theorem s_blk_ret {id : Nat} (h : unw P tk pl ks R .ret S) : unw P tk pl (.blk id :: ks) R .ret S := h
theorem s_blk_here {id : Nat} (h : unw P tk pl ks R .normal S) : unw P tk pl (.blk id :: ks) R (.exit id) S := by
  rw [unw_blk_exit, if_pos rfl]; exact h
theorem s_blk_exit {id id' : Nat} (e : Nat.beq id' id = false) (h : unw P tk pl ks R (.exit id') S) : unw P tk pl (.blk id :: ks) R (.exit id') S := by
  rw [unw_blk_exit, if_neg (fun h => by subst h; rw [Nat.beq_refl] at e; cases e)]; exact h
theorem s_inv {J : St → Prop} (h : J S) : unw P tk pl (.inv J :: ks) R .normal S := h
theorem s_inv_ret {J : St → Prop} (h : unw P tk pl ks R .ret S) : unw P tk pl (.inv J :: ks) R .ret S := h
theorem s_inv_exit {J : St → Prop} {id : Nat} (h : unw P tk pl ks R (.exit id) S) : unw P tk pl (.inv J :: ks) R (.exit id) S := h
theorem s_scope {c : Code} (l : Nat) (hl : (findLabel c l).isSome = true) (h : unw P tk pl (.code c :: .scp l c :: ks) R .normal S) : unw P tk pl (.code (.scope c) :: ks) R .normal S := unw_scope l hl h
theorem s_label {l : Nat} (h : unw P tk pl ks R .normal S) : unw P tk pl (.code (.label l) :: ks) R .normal S := h
theorem s_goto {l : Nat} (h : unw P tk pl ks R (.goto l) S) : unw P tk pl (.code (.goto l) :: ks) R .normal S := h
theorem s_code_goto {c : Code} {l : Nat} (h : unw P tk pl ks R (.goto l) S) : unw P tk pl (.code c :: ks) R (.goto l) S := h
theorem s_blk_goto {id l : Nat} (h : unw P tk pl ks R (.goto l) S) : unw P tk pl (.blk id :: ks) R (.goto l) S := h
theorem s_inv_goto {J : St → Prop} {l : Nat} (h : unw P tk pl ks R (.goto l) S) : unw P tk pl (.inv J :: ks) R (.goto l) S := h
theorem s_goto_here {c : Code} {l : Nat} (h : aFrom P tk pl c l S (unw P tk pl (.nog :: ks) R)) : unw P tk pl (.scp l c :: ks) R (.goto l) S := unw_goto_here h
theorem s_scp_normal {c : Code} {l : Nat} (h : unw P tk pl ks R .normal S) : unw P tk pl (.scp l c :: ks) R .normal S := h
theorem s_scp_ret {c : Code} {l : Nat} (h : unw P tk pl ks R .ret S) : unw P tk pl (.scp l c :: ks) R .ret S := h
theorem s_scp_exit {c : Code} {l id : Nat} (h : unw P tk pl ks R (.exit id) S) : unw P tk pl (.scp l c :: ks) R (.exit id) S := h
theorem s_nog_normal (h : unw P tk pl ks R .normal S) : unw P tk pl (.nog :: ks) R .normal S := h
theorem s_nog_ret (h : unw P tk pl ks R .ret S) : unw P tk pl (.nog :: ks) R .ret S := h
theorem s_nog_exit {id : Nat} (h : unw P tk pl ks R (.exit id) S) : unw P tk pl (.nog :: ks) R (.exit id) S := h
theorem s_end {e : Exit} (h : R e S) : unw P tk pl [] R e S := by rw [unw_nil]; exact h

theorem SoundCall.go {f : FuncId} {fn : Func} {c : Code} {args : List AVal} {M : Mem} {Post : AVal → Mem → Prop} (tk : Nat → Nat → Option Nat) (pl : Nat → List PStep) (hm : P.follows .mixedOrders = true) (hf : P.funcs[f]? = some fn) (hB : fn.body.map (codeB P fn.ntmps tk pl) = some true) (hb : fn.body = some c) (hlen : args.length ≤ fn.ntmps)
    (hc : unw P tk pl [.code c] (aRet P fn Post) .normal ⟨argT args, M⟩) : SoundCall P f args M Post :=
  SoundCall.walk tk pl hm hf hb (by rw [hb] at hB; exact Option.some.inj hB) hlen hc

theorem setT_self {T : Nat → AVal} {d : Nat} {V : AVal} (h : T d = V) : setT T d V = T := by
  funext t; unfold setT; split
  · subst_vars; rfl
  · rfl

/-- What is known of a state, told anew. -/
theorem kp {T T' : Nat → AVal} {d : Nat} {V : AVal} (h : T' = T) (hd : T d = V) : setT T' d V = T := by
  subst h; exact setT_self hd

/-- Behind code, all that is known is J. -/
theorem s_cut {c : Code} (J : St → Prop) (h1 : unw P tk pl (.code c :: .inv J :: ks) R .normal S) (h2 : ∀ S', J S' → unw P tk pl ks R .normal S') : unw P tk pl (.code c :: ks) R .normal S := by
  refine aCode_mono c S (fun e S' h => ?_) h1
  cases e with
  | normal => exact h2 S' h
  | _ => exact h

/-- Behind a block. -/
theorem s_cutb {id : Nat} (J : St → Prop) {c : Code} (h1 : unw P tk pl (.code (.block id c) :: .inv J :: ks) R .normal S) (h2 : ∀ S', J S' → unw P tk pl ks R .normal S') : unw P tk pl (.code (.block id c) :: ks) R .normal S := s_cut J h1 h2

theorem s_loop {c : Code} (I : Nat → St → Prop) (m : Nat) (h0 : I m S) (step : ∀ m S', I m S' → unw P tk pl (.code c :: .inv (fun S'' => ∃ m', m' < m ∧ I m' S'') :: ks) R .normal S') : unw P tk pl (.code (.loop c) :: ks) R .normal S := unw_loop I m h0 step

theorem St.mkT {T T' : Nat → AVal} {M : Mem} (h : T = T') : (⟨T, M⟩ : St) = ⟨T', M⟩ := by rw [h]

end

/-! ### Quiet operations -/

section
variable {P : Program} {T : Nat → AVal} {M : Mem} {dst : Option Nat} {x y z : Operand} {v : Value} {ty ty' : TypeId} {pos : String} {af : Array Edge} {g : Option (Nat × Bool)} {cs : List AVal} {own : Bool} {a b : Int} {k : IntKind} {s t : Bool} {V : AVal}

abbrev mkO (dst : Option Nat) (op : Op) (ty : TypeId) (pos : String) (af : Array Edge) (g : Option (Nat × Bool)) : Oper := ⟨dst, op, ty, pos, af, g⟩

theorem q_mv (h : (ev T x).shut = V) : qstep P none (mkO dst (.move x) ty pos af g) T M = some (⟨none, V⟩, []) := by subst h; rfl
theorem q_as (h : (ev T x).shut = V) : qstep P none (mkO dst (.assign x) ty pos af g) T M = some (⟨none, V⟩, []) := by subst h; rfl
theorem v_raw {X : AVal} (h : X = .raw v) : X.shut = .raw v := by subst h; rfl
theorem v_sl {X : AVal} (h : X = .sl cs own) : X.shut = .sl cs false := by subst h; rfl
theorem v_agg {X : AVal} (h : X = .agg cs) : X.shut = .agg cs := by subst h; rfl
theorem v_tup {X : AVal} (h : X = .tup cs) : X.shut = .tup (cs.map AVal.shut1) := by subst h; rfl
theorem v_sptr {X : AVal} {i o : Nat} (h : X = .sptr cs i o) : X.shut = .sptr cs i o := by subst h; rfl
theorem v_undef {X : AVal} (h : X = .undef) : X.shut = .undef := by subst h; rfl
theorem v_int {X : AVal} (h : X = .raw (.int k a)) : X.shut = .raw (.int k a) := by subst h; rfl

/-- The right to append goes along. -/
theorem q_mv_own {t n : Nat} (h : T t = V) : qstep P (some n) (mkO dst (.move (.tmp t)) ty pos af g) T M = some (⟨some t, V⟩, []) := by subst h; rfl
theorem q_as_own {t n : Nat} (h : T t = V) : qstep P (some n) (mkO dst (.assign (.tmp t)) ty pos af g) T M = some (⟨some t, V⟩, []) := by subst h; rfl
theorem q_mv_const {n : Nat} (h : ofConst v = V) : qstep P (some n) (mkO dst (.move (.const v)) ty pos af g) T M = some (⟨none, V⟩, []) := by subst h; rfl
theorem q_as_const {n : Nat} (h : ofConst v = V) : qstep P (some n) (mkO dst (.assign (.const v)) ty pos af g) T M = some (⟨none, V⟩, []) := by subst h; rfl

theorem q_pick_t (hc : ev T x = .raw (.bool true)) (h : (ev T y).shut = V) : qstep P none (mkO dst (.pick x y z) ty pos af g) T M = some (⟨none, V⟩, []) := by
  subst h; simp only [qstep, aop, hc, if_true, Option.map_some, readsOf]
theorem q_pick_f (hc : ev T x = .raw (.bool false)) (h : (ev T z).shut = V) : qstep P none (mkO dst (.pick x y z) ty pos af g) T M = some (⟨none, V⟩, []) := by
  subst h; simp [qstep, aop, hc, readsOf]
theorem q_pick_c (hc : ev T x = .raw (.bool s)) (e : s = t) (h : (if t then ev T y else ev T z).shut = V) : qstep P none (mkO dst (.pick x y z) ty pos af g) T M = some (⟨none, V⟩, []) := by
  subst e; subst h; simp only [qstep, aop, hc, Option.map_some, readsOf]

theorem q_bin {op : BinOp} {A A' : AVal} {V : Value} (hx : ev T x = A) (hy : ev T y = A') (h : aBin P op ty x y A A' = some (.raw V)) : qstep P none (mkO dst (.binOp op ty x y ty') ty pos af g) T M = some (⟨none, .raw V⟩, []) := by
  subst hx; subst hy
  simp only [qstep, aop, h, Option.map_some, readsOf, AVal.shut, AVal.shut1]
end

section
variable {P : Program} {T : Nat → AVal} {M : Mem} {dst : Option Nat} {x y z : Operand} {v : Value} {ty ty₁ ty' : TypeId} {pos : String} {af : Array Edge} {g : Option (Nat × Bool)} {cs : List AVal} {own : Bool} {a b : Int} {k : IntKind} {s t : Bool} {V : AVal} {u u' : ByteArray}

theorem ba_beq (a b : ByteArray) : (a == b) = decide (a = b) := by
  have e : (a == b) = (a.data == b.data) := rfl
  have h : (a == b) = true ↔ a = b := by
    rw [e]
    constructor
    · intro h; cases a; cases b; simpa using h
    · intro h; subst h; simp
  cases hb : (a == b)
  · symm; rw [decide_eq_false_iff_not]; intro h'; rw [← h, hb] at h'; cases h'
  · symm; rw [decide_eq_true_eq]; exact h.1 hb
theorem ba_list (a b : ByteArray) : (a.toList == b.toList) = decide (a = b) := by
  have h : (a.toList == b.toList) = true ↔ a = b := by
    rw [beq_iff_eq, ByteArray.toList_eq, ByteArray.toList_eq]
    constructor
    · intro h; cases a; cases b; simpa using h
    · intro h; subst h; rfl
  cases hb : (a.toList == b.toList)
  · symm; rw [decide_eq_false_iff_not]; intro h'; rw [← h, hb] at h'; cases h'
  · symm; rw [decide_eq_true_eq]; exact h.1 hb

/-- Any binary operation. -/
theorem q_bin' {op : BinOp} {A A' : AVal} {V : Value} (hx : ev T x = A) (hy : ev T y = A') (h : aBin P op ty₁ x y A A' = some (.raw V)) : qstep P none (mkO dst (.binOp op ty₁ x y ty') ty pos af g) T M = some (⟨none, .raw V⟩, []) := by
  subst hx; subst hy
  simp only [qstep, aop, h, Option.map_some, readsOf, AVal.shut, AVal.shut1]

theorem q_lss (hx : ev T x = .raw (.int k a)) (hy : ev T y = .raw (.int k b)) : qstep P none (mkO dst (.binOp .lss ty₁ x y ty') ty pos af g) T M = some (⟨none, .raw (.bool (decide (a < b)))⟩, []) := q_bin' hx hy (by cases k <;> rfl)
theorem q_leq (hx : ev T x = .raw (.int k a)) (hy : ev T y = .raw (.int k b)) : qstep P none (mkO dst (.binOp .leq ty₁ x y ty') ty pos af g) T M = some (⟨none, .raw (.bool (decide (a ≤ b)))⟩, []) := q_bin' hx hy (by cases k <;> rfl)
theorem q_gtr (hx : ev T x = .raw (.int k a)) (hy : ev T y = .raw (.int k b)) : qstep P none (mkO dst (.binOp .gtr ty₁ x y ty') ty pos af g) T M = some (⟨none, .raw (.bool (decide (b < a)))⟩, []) := q_bin' hx hy (by cases k <;> rfl)
theorem q_geq (hx : ev T x = .raw (.int k a)) (hy : ev T y = .raw (.int k b)) : qstep P none (mkO dst (.binOp .geq ty₁ x y ty') ty pos af g) T M = some (⟨none, .raw (.bool (decide (b ≤ a)))⟩, []) := q_bin' hx hy (by cases k <;> rfl)
theorem q_eql (hx : ev T x = .raw (.int k a)) (hy : ev T y = .raw (.int k b)) : qstep P none (mkO dst (.binOp .eql ty₁ x y ty') ty pos af g) T M = some (⟨none, .raw (.bool (decide (a = b)))⟩, []) := q_bin' hx hy (by cases k <;> rfl)
theorem q_neq (hx : ev T x = .raw (.int k a)) (hy : ev T y = .raw (.int k b)) : qstep P none (mkO dst (.binOp .neq ty₁ x y ty') ty pos af g) T M = some (⟨none, .raw (.bool (!decide (a = b)))⟩, []) := q_bin' hx hy (by cases k <;> rfl)
theorem q_seql (hx : ev T x = .raw (.string u)) (hy : ev T y = .raw (.string u')) : qstep P none (mkO dst (.binOp .eql ty₁ x y ty') ty pos af g) T M = some (⟨none, .raw (.bool (decide (u = u')))⟩, []) := by rw [← ba_list]; exact q_bin' hx hy rfl
theorem q_sneq (hx : ev T x = .raw (.string u)) (hy : ev T y = .raw (.string u')) : qstep P none (mkO dst (.binOp .neq ty₁ x y ty') ty pos af g) T M = some (⟨none, .raw (.bool (!decide (u = u')))⟩, []) := by rw [← ba_list]; exact q_bin' hx hy rfl

theorem q_arith {op : BinOp} {f : Int} (hx : ev T x = .raw (.int k a)) (hy : ev T y = .raw (.int k b)) (hop : (op = .add ∧ f = a + b) ∨ (op = .sub ∧ f = a - b) ∨ (op = .mul ∧ f = a * b)) (hw : k.wrap f = f) : qstep P none (mkO dst (.binOp op ty₁ x y ty') ty pos af g) T M = some (⟨none, .raw (.int k f)⟩, []) := by
  refine q_bin' hx hy ?_
  rcases hop with ⟨rfl, rfl⟩ | ⟨rfl, rfl⟩ | ⟨rfl, rfl⟩
  · show _ = some (AVal.raw (.int k (a + b)))
    conv => rhs; rw [← hw]
    cases k <;> rfl
  · show _ = some (AVal.raw (.int k (a - b)))
    conv => rhs; rw [← hw]
    cases k <;> rfl
  · show _ = some (AVal.raw (.int k (a * b)))
    conv => rhs; rw [← hw]
    cases k <;> rfl

theorem q_add (hx : ev T x = .raw (.int k a)) (hy : ev T y = .raw (.int k b)) (hw : k.wrap (a + b) = a + b) : qstep P none (mkO dst (.binOp .add ty₁ x y ty') ty pos af g) T M = some (⟨none, .raw (.int k (a + b))⟩, []) := q_arith hx hy (.inl ⟨rfl, rfl⟩) hw
theorem q_sub (hx : ev T x = .raw (.int k a)) (hy : ev T y = .raw (.int k b)) (hw : k.wrap (a - b) = a - b) : qstep P none (mkO dst (.binOp .sub ty₁ x y ty') ty pos af g) T M = some (⟨none, .raw (.int k (a - b))⟩, []) := q_arith hx hy (.inr (.inl ⟨rfl, rfl⟩)) hw
theorem q_mul (hx : ev T x = .raw (.int k a)) (hy : ev T y = .raw (.int k b)) (hw : k.wrap (a * b) = a * b) : qstep P none (mkO dst (.binOp .mul ty₁ x y ty') ty pos af g) T M = some (⟨none, .raw (.int k (a * b))⟩, []) := q_arith hx hy (.inr (.inr ⟨rfl, rfl⟩)) hw

theorem q_not (hx : ev T x = .raw (.bool s)) : qstep P none (mkO dst (.unOp .not ty₁ x) ty pos af g) T M = some (⟨none, .raw (.bool (!s))⟩, []) := by
  simp only [qstep, aop, hx, raw1]; rfl

theorem wrap64 {a : Int} (h1 : -2 ^ 63 ≤ a) (h2 : a < 2 ^ 63) : IntKind.i64.wrap a = a := by
  simp only [IntKind.wrap, IntKind.signed, IntKind.bits]
  have e : (2 : Int) ^ (64 - 1) = 9223372036854775808 := rfl
  simp only [Bool.true_and, decide_eq_true_eq, e]
  split <;> omega

theorem q_len {st e : TypeId} {ats : Array TypeId} (h0 : ats[0]? = some st) (hu : P.underlying st = some (.slice e)) (hx : ev T x = .sl cs own) : qstep P none (mkO dst (.call { callee := .builtin .len, args := #[x], argTypes := ats }) ty pos af g) T M = some (⟨none, .raw (.int .i64 cs.length)⟩, []) := by
  have h : aop P T M ty (.call { callee := .builtin .len, args := #[x], argTypes := ats }) = some (.raw (.int .i64 cs.length)) := by
    simp only [aop, List.map, aBuiltin, hx, h0, Option.bind_some, hu]
  have : qstep P none (mkO dst (.call { callee := .builtin .len, args := #[x], argTypes := ats }) ty pos af g) T M = (aop P T M ty (.call { callee := .builtin .len, args := #[x], argTypes := ats })).map fun V => (⟨none, V.shut⟩, readsOf T (.call { callee := .builtin .len, args := #[x], argTypes := ats })) := rfl
  rw [this, h]
  simp only [readsOf, List.map, hx, Option.map_some, AVal.shut, AVal.shut1]

theorem q_idx {st e : TypeId} {sz : Nat} {W : AVal} (hu : P.underlying st = some (.slice e)) (hs : sizeT P e = some sz) (hx : ev T x = .sl cs own) (hy : ev T y = .raw (.int k a)) (h0 : 0 ≤ a) (hV : cs[a.toNat]? = some W) (hW : W.cells.length = sz) : qstep P none (mkO dst (.indexAddr st x y) ty pos af g) T M = some (⟨none, .sptr cs a.toNat 0⟩, []) := by
  have hlt : a < (cs.length : Int) := by
    have : a.toNat < cs.length := by
      rcases Nat.lt_or_ge a.toNat cs.length with h | h
      · exact h
      · rw [List.getElem?_eq_none h] at hV; cases hV
    omega
  simp only [qstep, aop, aIndexAddr, hx, hy, hu, hs, hV, hW, h0, hlt, and_self, if_true, Option.map_some, readsOf, AVal.shut, AVal.shut1, AVal.shut1]

theorem q_fld {i o : Nat} {fd : Field} {n : Nat} (hf : fieldT P ty₁ i = some fd) (hs : sizeT P fd.type = some (n + 1)) {j : Nat} (hx : ev T x = .sptr cs j o) : qstep P none (mkO dst (.fieldAddr ty₁ x i) ty pos af g) T M = some (⟨none, .sptr cs j (o + fd.offset)⟩, []) := by
  simp only [qstep, aop, aFieldAddr, hx, hf, hs, Option.map_some, readsOf, AVal.shut, AVal.shut1]

/-- A whole element, or what stands in one cell of it. -/
theorem q_ld {j o : Nat} {W : AVal} {ag : Bool} {n : Nat} {Y : AVal} (ha : aggT P ty₁ = some ag) (hs : sizeT P ty₁ = some n) (hx : ev T x = .sptr cs j o) (hV : cs[j]? = some W) (hp : piece ag W.cells o n = some Y) (hY : Y.shut = V) : qstep P none (mkO dst (.load ty₁ x) ty pos af g) T M = some (⟨none, V⟩, []) := by
  subst hY
  simp only [qstep, aop, hx, hV, loadP, ha, hs, hp, Option.map_some, readsOf, Option.isSome]
  rfl

theorem q_ldm {b o : Nat} {l : List AVal} {ag : Bool} {n : Nat} {Y : AVal} (ha : aggT P ty₁ = some ag) (hs : sizeT P ty₁ = some n) (hx : ev T x = .raw (.pointer (some ⟨b, o, none⟩))) (hM : M b = some (.cells l)) (hp : piece ag l o n = some Y) (hY : Y.shut = V) : qstep P none (mkO dst (.load ty₁ x) ty pos af g) T M = some (⟨none, V⟩, [b]) := by
  subst hY
  simp only [qstep, aop, hx, hM, loadP, ha, hs, hp, Option.map_some, readsOf, Option.isSome]
  rfl

theorem q_ext {i : Nat} {vs : List AVal} {Y : AVal} (hx : ev T x = .tup vs) (hi : vs[i]? = some Y) (hY : Y.shut = V) : qstep P none (mkO dst (.extract x i) ty pos af g) T M = some (⟨none, V⟩, []) := by
  subst hY
  simp only [qstep, aop, hx, hi, Option.map_some, readsOf, Option.isSome_none, Bool.false_eq_true, if_false]

theorem q_fldr {b i o : Nat} {fd : Field} {n : Nat} (hf : fieldT P ty₁ i = some fd) (hs : sizeT P fd.type = some (n + 1)) (hx : ev T x = .raw (.pointer (some ⟨b, o, none⟩))) : qstep P none (mkO dst (.fieldAddr ty₁ x i) ty pos af g) T M = some (⟨none, .raw (.pointer (some ⟨b, o + fd.offset, none⟩))⟩, []) := by
  simp only [qstep, aop, aFieldAddr, hx, hf, hs, Option.map_some, readsOf, AVal.shut, AVal.shut1]

theorem q_build {parts : Array (Nat × Operand)} (h : aBuild P T ty₁ parts.toList = some (.agg cs)) : qstep P none (mkO dst (.build ty₁ parts) ty pos af g) T M = some (⟨none, .agg cs⟩, []) := by
  simp only [qstep, aop, h, Option.map_some, readsOf, AVal.shut, AVal.shut1]

/-! ### Structs of plain fields, held against each other -/

theorem pr_b {P : Program} {α β : Type} (s : Sem α) (f : α → Sem β) : pr P (s >>= f) = (pr P s).bind fun a => pr P (f a) := pr_bind s f
theorem pr_prog {P : Program} : pr P program = some P := rfl
theorem eq_int {P : Program} {t : TypeId} {k : IntKind} (h : P.underlying t = some (.int k)) (a b : Int) : pr P (Op.equalIn 9999 t (.int k a) (.int k b)) = some (decide (a = b)) := by
  show pr P (underlying t >>= _) = _
  rw [pr_b, pr_underlying h]
  cases k <;> rfl
theorem eq_bool {P : Program} {t : TypeId} (h : P.underlying t = some .bool) (a b : Bool) : pr P (Op.equalIn 9999 t (.bool a) (.bool b)) = some (decide (a = b)) := by
  show pr P (underlying t >>= _) = _
  rw [pr_b, pr_underlying h]
  cases a <;> cases b <;> rfl
theorem eq_str {P : Program} {t : TypeId} (h : P.underlying t = some .string) (a b : ByteArray) : pr P (Op.equalIn 9999 t (.string a) (.string b)) = some (decide (a = b)) := by
  show pr P (underlying t >>= _) = _
  rw [pr_b, pr_underlying h, ← ba_beq]; rfl
theorem part_one {P : Program} {t : TypeId} {cs : Array Value} {o : Nat} {v : Value} (ha : aggT P t = some false) (h : cs[o]? = some v) : pr P (part t cs o) = some v := by
  unfold part
  rw [pr_b, pr_aggT ha]
  simp [h, pr_pure]
theorem fldEq {P : Program} {α : Type} {n : String} {t : TypeId} {xs ys : Array Value} {o d : Nat} {v v' : Value} {b : Bool} {f : ForInStep (Option Bool × Unit) → Sem α} (hn : n ≠ "_") (h1 : pr P (part t xs o) = some v) (h2 : pr P (part t ys o) = some v') (he : pr P (Op.equalIn d t v v') = some b) :
    pr P ((if n ≠ "_" then do
        let x ← part t xs o
        let y ← part t ys o
        let c ← Op.equalIn d t x y
        if (!c) = true then pure (ForInStep.done (some false, ())) else pure (ForInStep.yield (none, ()))
      else pure (ForInStep.yield (none, ()))) >>= f) = pr P (f (if b then .yield (none, ()) else .done (some false, ()))) := by
  rw [if_pos hn]
  simp only [pr_b, h1, h2, he, Option.bind_some]
  cases b <;> rfl
/-- One field of two structs that are held against each other. -/
theorem fldEq' {P : Program} {n : String} {t : TypeId} {xs ys : Array Value} {o d : Nat} {v v' : Value} {p : Prop} [Decidable p] {f : ForInStep (Option Bool × Unit) → Sem (Option Bool × Unit)} {g : Option Bool × Unit → Sem Bool} {q : Prop} [Decidable q] (hn : n ≠ "_") (h1 : pr P (part t xs o) = some v) (h2 : pr P (part t ys o) = some v') (he : pr P (Op.equalIn d t v v') = some (decide p))
    (hf : ∀ x, f (.done x) = pure x) (hg : g (some false, ()) = pure false) (hb : q → p) (hR : p → pr P (f (.yield (none, ())) >>= g) = some (decide q)) :
    pr P (((if n ≠ "_" then do
        let x ← part t xs o
        let y ← part t ys o
        let c ← Op.equalIn d t x y
        if (!c) = true then pure (ForInStep.done (some false, ())) else pure (ForInStep.yield (none, ()))
      else pure (ForInStep.yield (none, ()))) >>= f) >>= g) = some (decide q) := by
  rw [pr_b, fldEq hn h1 h2 he]
  by_cases hp : p
  · simp only [hp, decide_true, if_true]; rw [← pr_b]; exact hR hp
  · simp only [hp, decide_false, Bool.false_eq_true, if_false, hf]
    rw [decide_eq_false fun h => hp (hb h)]
    show (some (some false, ())).bind _ = _
    simp only [Option.bind_some, hg]; rfl
theorem eqStruct {P : Program} {t : TypeId} {fs : List Field} {xs ys : Array Value} {b : Bool} (hu : P.underlying t = some (.struct fs.toArray)) (hs : P.stoodInHeld t = false)
    (h : pr P ((forIn fs (none, ()) fun (f : Field) (_ : Option Bool × Unit) => (if f.name ≠ "_" then do
        let x ← part f.type xs f.offset
        let y ← part f.type ys f.offset
        let c ← Op.equalIn 9999 f.type x y
        if (!c) = true then pure (ForInStep.done (some false, ())) else pure (ForInStep.yield (none, ()))
      else pure (ForInStep.yield (none, ())) : Sem (ForInStep (Option Bool × Unit)))) >>= fun s => match s.1 with | some r => pure r | none => pure true) = some b) :
    pr P (Op.equal t (.agg xs) (.agg ys)) = some b := by
  unfold Op.equal Op.maxDepth
  unfold Op.equalIn
  rw [pr_b, pr_underlying hu]
  simp only [Option.bind_some]
  rw [pr_b, pr_prog]
  simp only [Option.bind_some, hs]
  simp only [Bool.false_eq_true, if_false, List.forIn_toArray]
  refine Eq.trans (congrArg (pr P) ?_) h
  congr 1
  funext f
  rcases f with ⟨_ | _, _⟩ <;> rfl
theorem aBin_structNeq {P : Program} {t : TypeId} {x y : Operand} {X Y : AVal} {xs ys : Array Value} {b : Bool} (he : P.eqGuardType P.depth t = false) (hX : rawOf X = some (.agg xs)) (hY : rawOf Y = some (.agg ys)) (hne : ∀ l o, X ≠ .sl l o) (h : pr P (Op.equal t (.agg xs) (.agg ys)) = some b) : aBin P .neq t x y X Y = some (.raw (.bool (!b))) := by
  unfold aBin
  split
  · rename_i l o; exact absurd rfl (hne l o)
  · simp only [hX, hY]
    have e : pr P (eqGuard .neq t x y (.agg xs) (.agg ys)) = some () := by
      show pr P (program >>= _) = _
      rw [pr_b, pr_prog, Option.bind_some]
      show pr P (program >>= _) = _
      rw [pr_b, pr_prog, Option.bind_some, he]; rfl
    rw [e, Option.bind_some]
    show (pr P (Op.equal t (.agg xs) (.agg ys) >>= _)).map AVal.raw = _
    rw [pr_b, h]; rfl
theorem aBin_structEq {P : Program} {t : TypeId} {x y : Operand} {X Y : AVal} {xs ys : Array Value} {b : Bool} (he : P.eqGuardType P.depth t = false) (hX : rawOf X = some (.agg xs)) (hY : rawOf Y = some (.agg ys)) (hne : ∀ l o, X ≠ .sl l o) (h : pr P (Op.equal t (.agg xs) (.agg ys)) = some b) : aBin P .eql t x y X Y = some (.raw (.bool b)) := by
  unfold aBin
  split
  · rename_i l o; exact absurd rfl (hne l o)
  · simp only [hX, hY]
    have e : pr P (eqGuard .eql t x y (.agg xs) (.agg ys)) = some () := by
      show pr P (program >>= _) = _
      rw [pr_b, pr_prog, Option.bind_some]
      show pr P (program >>= _) = _
      rw [pr_b, pr_prog, Option.bind_some, he]; rfl
    rw [e, Option.bind_some]
    show (pr P (Op.equal t (.agg xs) (.agg ys) >>= _)).map AVal.raw = _
    rw [pr_b, h]; rfl

/-- What is known of a type of slices. -/
structure SlT (P : Program) (st e : TypeId) (sz by_ : Nat) : Prop where
  u : P.underlying st = some (.slice e)
  s : sizeT P e = some sz
  b : bytesT P e = some by_
  z' : (zeroT P e).map (·.cells.size) = some sz
  one : 1 ≤ by_

theorem SlT.zs {P : Program} {st e : TypeId} {sz by_ : Nat} (h : SlT P st e sz by_) : ∃ z, zeroT P e = some z ∧ z.cells.size = sz := by
  have := h.z'
  simpa [Option.map_eq_some_iff] using this

def Els (sz : Nat) (l : List AVal) : Prop := ∀ V ∈ l, V.ok = true ∧ V.cells.length = sz

theorem Els.nil {sz : Nat} : Els sz [] := fun _ h => by cases h
theorem Els.cons {sz : Nat} {l : List AVal} (h1 : V.ok = true) (h2 : V.cells.length = sz) (h : Els sz l) : Els sz (V :: l) := fun W hW => by
  rcases List.mem_cons.1 hW with rfl | hW
  · exact ⟨h1, h2⟩
  · exact h W hW
theorem Els.append {sz : Nat} {l l' : List AVal} (h : Els sz l) (h' : Els sz l') : Els sz (l ++ l') := fun W hW => by
  rcases List.mem_append.1 hW with hW | hW
  · exact h W hW
  · exact h' W hW
theorem Els.map {sz : Nat} {α : Type} {f : α → AVal} {l : List α} (h : ∀ a, (f a).ok = true ∧ (f a).cells.length = sz) : Els sz (l.map f) := fun W hW => by
  obtain ⟨a, -, rfl⟩ := List.mem_map.1 hW
  exact h a

theorem aAppend_eq {st e : TypeId} {sz by_ : Nat} {l ys : List AVal} {own : Bool} {ats : Array TypeId} (ht : SlT P st e sz by_) (h0 : ats[0]? = some st) (h1 : ats[1]? = some st) (hl : Els sz l) (hy : Els sz ys) (hb : (l.length + ys.length) * by_ ≤ 2 ^ 47) : aAppend P ats (.sl l true) (.sl ys own) = some (l ++ ys) := by
  obtain ⟨z, hz, hzs⟩ := ht.zs
  have e1 : (l.all fun V => V.cells.length == sz) = true := List.all_eq_true.2 fun V hV => by simp [(hl V hV).2]
  have e2 : (ys.all fun V => V.ok && V.cells.length == sz) = true := List.all_eq_true.2 fun V hV => by simp [(hy V hV).1, (hy V hV).2]
  simp only [aAppend, h0, h1, ht.u, isRow, ht.s, ht.b, hz, spread, hzs, ht.one, hb, e1, e2, and_self, if_true]
  simp

theorem q_app {st e : TypeId} {sz by_ : Nat} {t : Nat} {l ys : List AVal} {ats : Array TypeId} {d : Nat} (ht : SlT P st e sz by_) (h0 : ats[0]? = some st) (h1 : ats[1]? = some st) (hx : T t = .sl l true) (hy : ev T y = .sl ys own) (hl : Els sz l) (hys : Els sz ys) (hb : (l.length + ys.length) * by_ ≤ 2 ^ 47) :
    qstep P none (mkO (some d) (.call { callee := .builtin .append, args := #[.tmp t, y], argTypes := ats }) ty pos af g) T M = some (⟨some t, .sl (l ++ ys) true⟩, []) := by
  simp only [qstep, Option.isSome, if_true]
  have : ev T (.tmp t) = .sl l true := hx
  rw [this, hy, aAppend_eq ht h0 h1 hl hys hb]
  rfl

theorem q_bs1 {st e : TypeId} {sz by_ : Nat} {Y : AVal} (ht : SlT P st e sz by_) (hx : (ev T x).shut = Y) (hok : Y.ok = true) (hc : Y.cells.length = sz) (hsz : sz ≤ 2 ^ 24) : qstep P none (mkO dst (.buildSlice st 1 #[(0, x)]) ty pos af g) T M = some (⟨none, .sl [Y] true⟩, []) := by
  obtain ⟨z, hz, hzs⟩ := ht.zs
  subst hx
  simp only [qstep, qBuild, ht.u, ht.s, hz, aParts, if_true, Option.map_some, hzs, List.length_singleton, List.all_cons, List.all_nil, hok, hc, beq_self_eq_true, Bool.and_self, true_and, Nat.one_mul, hsz, and_self]

end
end Go.Am
