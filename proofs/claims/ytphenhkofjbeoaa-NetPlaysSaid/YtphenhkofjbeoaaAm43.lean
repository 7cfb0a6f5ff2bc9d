import Derived.Test.YtphenhkofjbeoaaAm42
import Derived.Test.YtphenhkofjbeoaaAm41
set_option linter.unusedSimpArgs false
set_option linter.unusedVariables false
/-! Lemmas for a walk: a struct of parts that keep the right to append; a call that reads a block while others may be under way. -/
namespace Go.Am
section
variable {P : Program} {tk : Nat → Nat → Option Nat} {pl : Nat → List PStep} {ks : List It} {R : Exit → St → Prop} {S : St} {T : Nat → AVal} {M : Mem}

theorem s_regf {id : Nat} {l : List Oper} (k s off : Nat) {o o' : Oper} {rest : List Oper} (hl : l.drop k = o :: o' :: rest) (h : aOps P (tk id) l.toArray (aFuse P s off o o' (aOps P (tk id) l.toArray (unw P tk pl ks R .normal) (k + 2) rest)) 0 (l.take k) S) :
    unw P tk pl (.code (.region id l.toArray false) :: ks) R .normal S := by
  refine ⟨1, l.take k, o, o', rest, s, off, by rw [← hl, List.take_append_drop], ?_⟩
  have hk : k ≤ l.length := by
    rcases Nat.lt_or_ge l.length k with h' | h'
    · rw [List.drop_of_length_le (by omega)] at hl; cases hl
    · exact h'
  have : 0 + (l.take k).length + 2 = k + 2 := by rw [List.length_take]; omega
  rw [this]
  exact h

/-- A call that reads one block, and comes to one value; no other operation of the region that may be under way writes that block. -/
theorem d_cm {rT : AVal} (b : Nat) {tkr : Nat → Option Nat} {ops : Array Oper} {K : St → Prop} {i d : Nat} {plan : List PStep} {H : List (Nat × Nat)} {f : FuncId} {avs : List AVal} {args : Array Operand} {ats : Array TypeId} {ty : TypeId} {pos : String} {af : Array Edge} (ho : ops[i]? = some (mkO (some d) (.call { callee := .value (.func f), args, argTypes := ats }) ty pos af none))
    (hc : ∀ M', M b = M' b → SoundCall P f avs M' fun r M'' => r = rT ∧ M'' = M') (hg : goesB P f = true) (ha : aArgs T none 0 args.toList = avs) (htk : tkr i = none) (h : aDraw P tkr ops K plan ((i, b) :: H) ⟨setT T d rT, M⟩) :
    aDraw P tkr ops K (.c i :: plan) H ⟨T, M⟩ := by
  simp only [aDraw, ho, htk, aGuard]
  refine ⟨⟨none, rT⟩, [b], quiet_call rfl rfl rfl hg fun M' hM => ?_, h⟩
  subst ha
  simpa using hc M' (hM b (by simp))

theorem agg_of_shut {V : AVal} {cs : List AVal} (h : V.shut = .agg cs) : V = .agg cs := by
  cases V <;> simp [AVal.shut, AVal.shut1] at h
  rw [h]

theorem f_bb {s off d e : Nat} {t ty ty' : TypeId} {pos pos' : String} {af af' : Array Edge} {parts : Array (Nat × Operand)} {xs cs : List AVal} {K : St → Prop} (hs : T s = .sl xs true) (hne : s ≠ d)
    (h1 : qstep P none (mkO (some d) (.build t parts) ty pos af none) T M = some (⟨none, .agg cs⟩, []))
    (h2 : ∀ v n c, ∃ cv, qstep P none (mkO (some d) (.build t parts) ty pos af none) (setT T s (.raw (.slice v n c))) M = some (⟨none, .agg cv⟩, []) ∧ cv[off]? = some (.raw (.slice v n c)))
    (hok : (AVal.agg cs).ok = true) (hoff : off < cs.length) {cs' : List AVal} (hcs : (cs.map AVal.shut).set off (.sl xs true) = cs')
    (h : ∀ b, M b = none → K ⟨setT (setT (setT T d (.agg cs)) s (.sl xs false)) e (.raw (.pointer (some ⟨b, 0, none⟩))), M.upd b (.cells cs')⟩) :
    aFuse P s off (mkO (some d) (.build t parts) ty pos af none) (mkO (some e) (.box t (.tmp d)) ty' pos' af' none) K ⟨T, M⟩ := by
  subst hcs
  have key : ∀ (T' : Nat → AVal) (cv : List AVal), qstep P none (mkO (some d) (.build t parts) ty pos af none) T' M = some (⟨none, .agg cv⟩, []) → aop P T' M ty (.build t parts) = some (.agg cv) := fun T' cv hq => by
    have : (aop P T' M ty (.build t parts)).map (fun V => ((⟨none, V.shut⟩, readsOf T' (.build t parts)) : QEff × List Nat)) = some (⟨none, .agg cv⟩, []) := hq
    obtain ⟨V, hV, e1⟩ := Option.map_eq_some_iff.1 this
    rw [hV, agg_of_shut (congrArg (fun x => x.1.V) e1)]
  refine ⟨t, parts, d, e, cs, xs, rfl, rfl, rfl, rfl, rfl, rfl, hne, hs, key T cs h1, hok, hoff, fun v n c => ?_, h⟩
  obtain ⟨cv, e1, e2⟩ := h2 v n c
  exact ⟨cv, key _ cv e1, e2⟩
end
section
variable {H : Type} {P : Program} {ts : List TypeId} {ds : List (DataW H)}
/-- A string in a struct in a slice. -/
theorem sized_sfld (h : (DataW.weightsEach P ts ds).all (· ≤ reachBytes) = true) {j : Nat} {t e : TypeId} {elems spare : List (DataW H)} (ht : ts[j]? = some t) (hd : ds[j]? = some (.slice elems spare)) (hu : P.underlying t = some (.slice e)) {fs : Array Field} (hs : P.underlying e = some (.struct fs))
    {parts : List (DataW H)} (hm : DataW.agg parts ∈ elems) {q : Nat} {tq : TypeId} (hq : (fs.toList.map (·.type))[q]? = some tq) {s : ByteArray} (hp : parts[q]? = some (.lit (.string s.data.toList))) : s.size ≤ 140737488351232 := by
  have h1 := sized_elem h ht hd hu hm (n := s.data.toList.length) (by
    simp only [DataW.weights, hs]
    exact DataW.weights_mem_each hq hp _ (by simp [DataW.weights]))
  have h2 : s.data.toList.length = s.size := Array.length_toList
  have h3 : reachBytes = 140737488351232 := rfl
  omega
theorem i64w {n : Int} (h : (Lit.int .i64 n).wf = true) : -2 ^ 63 ≤ n ∧ n < 2 ^ 63 := by
  simp [Lit.wf, IntKind.min, IntKind.max, IntKind.signed, IntKind.bits] at h
  omega
end
end Go.Am
