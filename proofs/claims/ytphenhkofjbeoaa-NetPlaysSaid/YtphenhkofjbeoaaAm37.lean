import Derived.Test.YtphenhkofjbeoaaAm36
/-! The walk: pointers to structs, arrays, closures; effects in regions that draw. -/
namespace Go.Am
set_option linter.unusedSimpArgs false

section
variable {P : Program} {tkr : Nat → Option Nat} {ops : Array Oper} {K : St → Prop} {i : Nat} {rest : List Oper} {d : Nat} {V X : AVal} {T : Nat → AVal} {M : Mem} {ty ty₁ e : TypeId} {pos : String} {af : Array Edge} {x y z : Operand} {args : Array Operand} {ats : Array TypeId} {f : FuncId} {avs : List AVal}
  {plan : List PStep} {H : List (Nat × Nat)} {o : Oper} {dst : Option Nat} {g : Option (Nat × Bool)} {cs : List AVal} {k : IntKind} {a b : Int} {Q : St → Prop}

theorem q_nil {p : Addr} (hx : ev T x = .raw (.pointer (some p))) : qstep P none (mkO dst (.nilCheck x) ty pos af g) T M = some (⟨none, .raw (.pointer (some p))⟩, []) := by
  simp only [qstep, aop, hx, Option.map_some, readsOf, AVal.shut, AVal.shut1]
theorem q_nils {l : List AVal} {j off : Nat} (hx : ev T x = .sptr l j off) : qstep P none (mkO dst (.nilCheck x) ty pos af g) T M = some (⟨none, .sptr l j off⟩, []) := by
  simp only [qstep, aop, hx, Option.map_some, readsOf, AVal.shut, AVal.shut1]

/-- An element of an array that a pointer leads to. -/
theorem q_idxa {n sz : Nat} {p off : Nat} (hu : P.underlying ty₁ = some (.array n e)) (hs : sizeT P e = some sz) (hx : ev T x = .raw (.pointer (some ⟨p, off, none⟩))) (hy : ev T y = .raw (.int k a)) (h0 : 0 ≤ a) (h1 : a < (n : Int)) : qstep P none (mkO dst (.indexAddr ty₁ x y) ty pos af g) T M = some (⟨none, .raw (.pointer (some ⟨p, off + a.toNat * sz, none⟩))⟩, []) := by
  simp only [qstep, aop, aIndexAddr, hx, hy, hu, hs, h0, h1, and_self, if_true, Option.map_some, readsOf, AVal.shut, AVal.shut1, AVal.shut1]

/-- An element of a slice that lies in a known block. -/
theorem q_idxr {sz n cap : Nat} {p off : Nat} (hu : P.underlying ty₁ = some (.slice e)) (hs : sizeT P e = some sz) (hx : ev T x = .raw (.slice (some ⟨p, off, none⟩) n cap)) (hy : ev T y = .raw (.int k a)) (h0 : 0 ≤ a) (h1 : a < (n : Int)) : qstep P none (mkO dst (.indexAddr ty₁ x y) ty pos af g) T M = some (⟨none, .raw (.pointer (some ⟨p, off + a.toNat * sz, none⟩))⟩, []) := by
  simp only [qstep, aop, aIndexAddr, hx, hy, hu, hs, h0, h1, and_self, if_true, Option.map_some, readsOf, AVal.shut, AVal.shut1, AVal.shut1]

/-- An element of an array that is at hand. -/
theorem q_ix {n sz : Nat} {Y : AVal} {ag : Bool} (hu : P.underlying ty₁ = some (.array n e)) (hs : sizeT P e = some sz) (hag : aggT P e = some ag) (hx : ev T x = .agg cs) (hy : ev T y = .raw (.int k a)) (h0 : 0 ≤ a) (h1 : a < (n : Int)) (hp : piece ag cs (a.toNat * sz) sz = some Y) (hY : Y.shut = V) : qstep P none (mkO dst (.index ty₁ x y) ty pos af g) T M = some (⟨none, V⟩, []) := by
  subst hY
  simp only [qstep, aop, aIndex, hx, hy, hu, hs, h0, h1, and_self, if_true, loadP, hag, hp, Option.map_some, readsOf]

theorem q_mkf0 {fn : Fn} : qstep P none (mkO dst (.makeFunc fn #[] #[]) ty pos af g) T M = some (⟨none, .raw (.func fn #[] #[])⟩, []) := rfl
theorem q_mkf1 {fn : Fn} {v : Value} (hx : ev T x = .raw v) : qstep P none (mkO dst (.makeFunc fn #[] #[x]) ty pos af g) T M = some (⟨none, .raw (.func fn #[] #[v])⟩, []) := by
  simp only [qstep, aop, List.map, hx]; rfl
theorem q_mkf2 {fn : Fn} {v u : Value} (hx : ev T x = .raw v) (hy : ev T y = .raw u) : qstep P none (mkO dst (.makeFunc fn #[] #[x, y]) ty pos af g) T M = some (⟨none, .raw (.func fn #[] #[v, u])⟩, []) := by
  simp only [qstep, aop, List.map, hx, hy]; rfl

/-- A call of a function value. -/
theorem o_callv {Post : AVal → Mem → Prop} {first captured : Array Value} {avs' : List AVal} (hF : ev T x = .raw (.func (.func f) first captured)) (hc : SoundCall P f avs M Post) (hg : goesB P f = true) (ha : aArgs T none 0 args.toList = avs') (hav : first.toList.map .raw ++ avs' ++ captured.toList.map .raw = avs) (htk : tkr i = none) (h : ∀ r M', Post r M' → aOps P tkr ops K (i + 1) rest ⟨setT T d r, M'⟩) :
    aOps P tkr ops K i (mkO (some d) (.call { callee := .value x, args, argTypes := ats }) ty pos af none :: rest) ⟨T, M⟩ := by
  refine o_x rfl ?_
  rw [htk]
  show estep P none _ T M _
  unfold estep
  dsimp only
  rw [hF]
  dsimp only [eCall]
  refine ⟨rfl, hg, trivial, Post, ?_, ?_⟩
  · rw [ha, hav]; exact hc
  · intro r M' hp
    exact h r M' hp

theorem o_makeSlice {n c : Int} {sz by_ : Nat} {zs : List AVal} (hu : P.underlying ty₁ = some (.slice e)) (hs : sizeT P e = some sz) (hb : bytesT P e = some by_) (hz : zeroCellsT P e = some zs) (hzl : zs.length = sz) (h1 : 1 ≤ sz) (hx : ev T x = .raw (.int .i64 n)) (hy : ev T y = .raw (.int .i64 c)) (hn : 1 ≤ n) (hc : n ≤ c) (hbc : by_ * c ≤ 2 ^ 46) (hc2 : c ≤ 2 ^ 46)
    (h : ∀ b, M b = none → aOps P tkr ops K (i + 1) rest ⟨setT T d (.raw (.slice (some ⟨b, 0, none⟩) n.toNat c.toNat)), M.upd b (.cells (List.replicate c.toNat zs).flatten)⟩) : aOps P tkr ops K i (mkO (some d) (.makeSlice ty₁ x y) ty pos af none :: rest) ⟨T, M⟩ := by
  refine o_x rfl ?_
  show estep P (tkr i) _ T M _
  unfold estep
  dsimp only
  rw [hx, hy]
  unfold eMakeSlice
  simp only [hu, hs, hb, hz]
  exact ⟨hzl, h1, hn, hc, hbc, hc2, fun b hb => h b hb⟩

/-- An effect in a region that draws. -/
theorem d_s {ks : List Nat} {S : St} (ho : ops[i]? = some o) (h : aOps P tkr ops (fun S' => (∀ p ∈ H, p.1 ∈ ks → S'.M p.2 = S.M p.2) ∧ aDraw P tkr ops Q plan H S') i [o] S) : aDraw P tkr ops Q (.s i ks :: plan) H S := by
  show aOp P tkr ops i S _
  unfold aOp
  rw [ho]
  exact h

/-- One step in a region that is taken in every order. -/
theorem any_step {fuel : Nat} {l : Array Bool} {S : St} {r : List Nat} (hr : Region.ready .any ops l = r) (hne : r ≠ []) (h : ∀ j ∈ r, aOp P tkr ops j S fun S' => aAny P tkr ops Q [] fuel (l.setIfInBounds j true) S') : aAny P tkr ops Q [] (fuel + 1) l S := by
  refine ⟨fun h0 => absurd (hr.symm.trans h0) hne, fun j hj => aOp_mono (fun S' hx => ⟨(fun p hp => by cases hp), hx⟩) (h j (hr ▸ hj))⟩

theorem any_done {fuel : Nat} {l : Array Bool} {S : St} (hr : Region.ready .any ops l = []) (h : Q S) : aAny P tkr ops Q [] fuel l S := by
  cases fuel with
  | zero => exact ⟨hr, h⟩
  | succ n => exact ⟨fun _ => h, fun j hj => by rw [hr] at hj; cases hj⟩

theorem any_o {j : Nat} {S : St} (ho : ops[j]? = some o) (h : aOps P tkr ops K j [o] S) : aOp P tkr ops j S K := by
  unfold aOp
  rw [ho]
  exact h

theorem Mem.fresh_ne {b c : Nat} {o : AObj} (h : M b = none) (h' : M c = some o) : c ≠ b := fun e => by subst e; rw [h] at h'; cases h'

theorem Mem.upd_same {b : Nat} {o : AObj} (h : M b = some o) : M.upd b o = M := by
  funext c
  unfold Mem.upd
  split
  · subst_vars; exact h.symm
  · rfl

theorem Mem.upd_comm {b c : Nat} {o p : AObj} (h : b ≠ c) : (M.upd b o).upd c p = (M.upd c p).upd b o := by
  funext x
  unfold Mem.upd
  by_cases h1 : x = c
  · by_cases h2 : x = b
    · exact absurd (h2.symm.trans h1) h
    · simp [h1, h2, Ne.symm h]
  · simp [h1]

/-- A function that leaves this, and more that is forgotten. -/
theorem SoundCall.leaves {M₁ : Mem} {rT : AVal} (h : SoundCall P f avs M fun r L => r = rT ∧ M₁.le L) : SoundCall P f avs M fun r M' => r = rT ∧ M' = M₁ :=
  fun κ w vs hs hh => (h κ w vs hs hh).mono fun _ _ ⟨v, κ', r, _, e, hq, hH, hK⟩ => ⟨v, κ', r, M₁, e, ⟨hq.1, rfl⟩, hH.forget hq.2, hK⟩

/-- What is said of what is left, said of less. -/
theorem SoundCall.forgets {Post Post' : AVal → Mem → Prop} (h : SoundCall P f avs M Post) (hp : ∀ r M', Post r M' → ∃ M₁ : Mem, M₁.le M' ∧ Post' r M₁) : SoundCall P f avs M Post' :=
  fun κ w vs hs hh => (h κ w vs hs hh).mono fun _ _ ⟨v, κ', r, M', e, hq, hH, hK⟩ => by
    obtain ⟨M₁, h1, h2⟩ := hp r M' hq
    exact ⟨v, κ', r, M₁, e, h2, hH.forget h1, hK⟩

theorem Mem.le_upds {M' : Mem} {b : Nat} {o : AObj} (h : M.le M') : (M.upd b o).le (M'.upd b o) := fun c p hc => by
  unfold Mem.upd at hc ⊢
  split
  · rename_i e; rw [if_pos e] at hc; exact hc
  · rename_i e; rw [if_neg e] at hc; exact h c p hc
/-- What is made anew beside it does not matter. -/
theorem Mem.le_new {M' : Mem} {b : Nat} {o : AObj} (h : M.le M') (hb : M b = none) : M.le (M'.upd b o) := Mem.le_upd h hb

/-! ### Held against each other: bools, and pointers against nil -/

theorem aBin_bool {s t : Bool} (hu : P.underlying ty₁ = some .bool) : aBin P .eql ty₁ x y (.raw (.bool s)) (.raw (.bool t)) = some (.raw (.bool (decide (s = t)))) ∧ aBin P .neq ty₁ x y (.raw (.bool s)) (.raw (.bool t)) = some (.raw (.bool (!decide (s = t)))) := by
  have h := eq_bool (P := P) hu s t
  constructor
  · show (pr P (Op.equal ty₁ (.bool s) (.bool t) >>= _)).map AVal.raw = _
    rw [pr_b]
    have : pr P (Op.equal ty₁ (.bool s) (.bool t)) = some (decide (s = t)) := by
      show pr P (underlying ty₁ >>= _) = _
      rw [pr_b, pr_underlying hu]
      cases s <;> cases t <;> rfl
    rw [this]; rfl
  · show (pr P (Op.equal ty₁ (.bool s) (.bool t) >>= _)).map AVal.raw = _
    rw [pr_b]
    have : pr P (Op.equal ty₁ (.bool s) (.bool t)) = some (decide (s = t)) := by
      show pr P (underlying ty₁ >>= _) = _
      rw [pr_b, pr_underlying hu]
      cases s <;> cases t <;> rfl
    rw [this]; rfl

theorem q_beql {s t : Bool} {ty' : TypeId} (hu : P.underlying ty₁ = some .bool) (hx : ev T x = .raw (.bool s)) (hy : ev T y = .raw (.bool t)) : qstep P none (mkO dst (.binOp .eql ty₁ x y ty') ty pos af g) T M = some (⟨none, .raw (.bool (decide (s = t)))⟩, []) := q_bin' hx hy (aBin_bool hu).1
theorem q_bneq {s t : Bool} {ty' : TypeId} (hu : P.underlying ty₁ = some .bool) (hx : ev T x = .raw (.bool s)) (hy : ev T y = .raw (.bool t)) : qstep P none (mkO dst (.binOp .neq ty₁ x y ty') ty pos af g) T M = some (⟨none, .raw (.bool (!decide (s = t)))⟩, []) := q_bin' hx hy (aBin_bool hu).2

theorem equal_nil {p : Option Addr} (hu : P.underlying ty₁ = some (.pointer e)) : pr P (Op.equal ty₁ (.pointer p) (.pointer none)) = some p.isNone := by
  show pr P (underlying ty₁ >>= _) = _
  rw [pr_b, pr_underlying hu]
  cases p <;> rfl
theorem q_peql {p : Option Addr} {ty' : TypeId} (hu : P.underlying ty₁ = some (.pointer e)) (hx : ev T x = .raw (.pointer p)) (hy : ev T y = .raw (.pointer none)) : qstep P none (mkO dst (.binOp .eql ty₁ x y ty') ty pos af g) T M = some (⟨none, .raw (.bool p.isNone)⟩, []) := by
  refine q_bin' hx hy ?_
  show (pr P (Op.equal ty₁ (.pointer p) (.pointer none) >>= _)).map AVal.raw = _
  rw [pr_b, equal_nil hu]; rfl
theorem q_pneq {p : Option Addr} {ty' : TypeId} (hu : P.underlying ty₁ = some (.pointer e)) (hx : ev T x = .raw (.pointer p)) (hy : ev T y = .raw (.pointer none)) : qstep P none (mkO dst (.binOp .neq ty₁ x y ty') ty pos af g) T M = some (⟨none, .raw (.bool (!p.isNone))⟩, []) := by
  refine q_bin' hx hy ?_
  show (pr P (Op.equal ty₁ (.pointer p) (.pointer none) >>= _)).map AVal.raw = _
  rw [pr_b, equal_nil hu]; rfl

/-- Either way. -/
theorem o_cases {j : Nat} {gd : Nat} {t : Bool} {S : St} {want : Bool} {os : List Oper} (_ : (ops[j]?).bind (·.dst) = some gd) (_ : S.T gd = .raw (.bool t)) (h1 : t = want → aOps P tkr ops K i os S) (h2 : t = !want → aOps P tkr ops K i os S) : aOps P tkr ops K i os S := by
  by_cases h : t = want
  · exact h1 h
  · exact h2 (by cases t <;> cases want <;> simp_all)
theorem o_nod {j : Nat} {want t : Bool} {gd : Nat} (hg : o.guard = some (j, want)) (hj : (ops[j]?).bind (·.dst) = some gd) (ht : T gd = .raw (.bool t)) (hd : o.dst = none) (e : t = !want)
    (no : aOps P tkr ops K (i + 1) rest ⟨T, M⟩) : aOps P tkr ops K i (o :: rest) ⟨T, M⟩ := by
  show aGuard ops T o _ _
  unfold aGuard
  rw [hg]
  simp only [hj, ht]
  refine ⟨fun e' => ?_, fun _ => ?_⟩
  · rw [e] at e'; cases want <;> cases e'
  · simp only [hd]; exact no

/-- A quiet call under its guard. -/
theorem d_cyes {j : Nat} {want t : Bool} {gd : Nat} {rT : AVal} (ho : ops[i]? = some (mkO (some d) (.call { callee := .value (.func f), args, argTypes := ats }) ty pos af (some (j, want)))) (hj : (ops[j]?).bind (·.dst) = some gd) (ht : T gd = .raw (.bool t)) (e : t = want) (hc : ∀ M', SoundCall P f avs M' fun r M'' => r = rT ∧ M'' = M') (hg : goesB P f = true) (ha : aArgs T none 0 args.toList = avs) (htk : tkr i = none) (h : aDraw P tkr ops K plan H ⟨setT T d rT, M⟩) :
    aDraw P tkr ops K (.c i :: plan) H ⟨T, M⟩ := by
  simp only [aDraw, ho, htk, aGuard, hj, ht]
  refine ⟨fun _ => ⟨⟨none, rT⟩, [], quiet_call rfl rfl rfl hg fun M' _ => ?_, h⟩, fun e' => ?_⟩
  · subst ha
    simpa using hc M'
  · rw [e] at e'; cases want <;> cases e'
theorem d_cno {j : Nat} {want t : Bool} {gd : Nat} (ho : ops[i]? = some o) (hg : o.guard = some (j, want)) (hj : (ops[j]?).bind (·.dst) = some gd) (ht : T gd = .raw (.bool t)) (e : t = !want) (hd : o.dst = some d)
    (h : aDraw P tkr ops K plan H ⟨setT T d (.raw undef), M⟩) : aDraw P tkr ops K (.c i :: plan) H ⟨T, M⟩ := by
  simp only [aDraw, ho, aGuard, hg, hj, ht]
  refine ⟨fun e' => ?_, fun _ => ?_⟩
  · rw [e] at e'; cases want <;> cases e'
  · simp only [hd]; exact h
/-- One whose guard was itself not carried out. -/
theorem o_skip {j : Nat} {want : Bool} {gd d' : Nat} (hg : o.guard = some (j, want)) (hj : (ops[j]?).bind (·.dst) = some gd) (ht : T gd = .raw undef) (hd : o.dst = some d')
    (no : aOps P tkr ops K (i + 1) rest ⟨setT T d' (.raw undef), M⟩) : aOps P tkr ops K i (o :: rest) ⟨T, M⟩ := by
  show aGuard ops T o _ _
  unfold aGuard
  rw [hg]
  simp only [hj, ht, hd]
  exact no
theorem o_skipd {j : Nat} {want : Bool} {gd : Nat} (hg : o.guard = some (j, want)) (hj : (ops[j]?).bind (·.dst) = some gd) (ht : T gd = .raw undef) (hd : o.dst = none)
    (no : aOps P tkr ops K (i + 1) rest ⟨T, M⟩) : aOps P tkr ops K i (o :: rest) ⟨T, M⟩ := by
  show aGuard ops T o _ _
  unfold aGuard
  rw [hg]
  simp only [hj, ht, hd]
  exact no
theorem d_skip {j : Nat} {want : Bool} {gd : Nat} (ho : ops[i]? = some o) (hg : o.guard = some (j, want)) (hj : (ops[j]?).bind (·.dst) = some gd) (ht : T gd = .raw undef) (hd : o.dst = some d)
    (h : aDraw P tkr ops K plan H ⟨setT T d (.raw undef), M⟩) : aDraw P tkr ops K (.q i :: plan) H ⟨T, M⟩ := by
  simp only [aDraw, ho, aGuard, hg, hj, ht, hd]
  exact h
theorem d_cskip {j : Nat} {want : Bool} {gd : Nat} (ho : ops[i]? = some o) (hg : o.guard = some (j, want)) (hj : (ops[j]?).bind (·.dst) = some gd) (ht : T gd = .raw undef) (hd : o.dst = some d)
    (h : aDraw P tkr ops K plan H ⟨setT T d (.raw undef), M⟩) : aDraw P tkr ops K (.c i :: plan) H ⟨T, M⟩ := by
  simp only [aDraw, ho, aGuard, hg, hj, ht, hd]
  exact h
/-- Either way. -/
theorem d_cases {j : Nat} {gd : Nat} {t : Bool} {S : St} {want : Bool} {p : PStep} (_ : (ops[j]?).bind (·.dst) = some gd) (_ : S.T gd = .raw (.bool t)) (h1 : t = want → aDraw P tkr ops K (p :: plan) H S) (h2 : t = !want → aDraw P tkr ops K (p :: plan) H S) : aDraw P tkr ops K (p :: plan) H S := by
  by_cases h : t = want
  · exact h1 h
  · exact h2 (by cases t <;> cases want <;> simp_all)

/-! ### More on integers -/

theorem q_rem {ty' : TypeId} (hx : ev T x = .raw (.int k a)) (hy : ev T y = .raw (.int k b)) (h0 : b ≠ 0) : qstep P none (mkO dst (.binOp .rem ty₁ x y ty') ty pos af g) T M = some (⟨none, .raw (.int k (a.tmod b))⟩, []) := by
  refine q_bin' hx hy ?_
  have h : pr P (binOp .rem ty₁ (.int k a) (.int k b)) = some (.int k (a.tmod b)) := by
    have e : binOp .rem ty₁ (.int k a) (.int k b) = Op.intDiv .rem k a b := by cases k <;> rfl
    rw [e]
    unfold Op.intDiv
    rw [if_neg h0]
    rfl
  show (pr P (binOp .rem ty₁ (.int k a) (.int k b))).map AVal.raw = _
  rw [h]; rfl

theorem q_quo {ty' : TypeId} (hx : ev T x = .raw (.int k a)) (hy : ev T y = .raw (.int k b)) (h0 : b ≠ 0) (hw : k.wrap (a.tdiv b) = a.tdiv b) : qstep P none (mkO dst (.binOp .quo ty₁ x y ty') ty pos af g) T M = some (⟨none, .raw (.int k (a.tdiv b))⟩, []) := by
  refine q_bin' hx hy ?_
  have h : pr P (binOp .quo ty₁ (.int k a) (.int k b)) = some (.int k (a.tdiv b)) := by
    have e : binOp .quo ty₁ (.int k a) (.int k b) = Op.intDiv .quo k a b := by cases k <;> rfl
    rw [e]
    unfold Op.intDiv
    rw [if_neg h0]
    show some (Value.int k (k.wrap (a.tdiv b))) = _
    rw [hw]
  show (pr P (binOp .quo ty₁ (.int k a) (.int k b))).map AVal.raw = _
  rw [h]; rfl

theorem q_neg (hx : ev T x = .raw (.int k a)) (hw : k.wrap (-a) = -a) : qstep P none (mkO dst (.unOp .neg ty₁ x) ty pos af g) T M = some (⟨none, .raw (.int k (-a))⟩, []) := by
  simp only [qstep, aop, hx, raw1]
  have h : pr P (Op.unary .neg (.int k a)) = some (.int k (-a)) := by
    show some (Value.int k (k.wrap (0 - a))) = _
    rw [Int.zero_sub, hw]
  rw [h]; rfl

end
end Go.Am
