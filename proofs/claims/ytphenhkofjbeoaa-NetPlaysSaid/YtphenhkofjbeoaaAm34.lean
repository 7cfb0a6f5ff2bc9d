import Derived.Test.YtphenhkofjbeoaaAm33
/-! The walk: calls, and operations that write. -/
namespace Go.Am
set_option linter.unusedSimpArgs false

section
variable {P : Program} {tkr : Nat → Option Nat} {ops : Array Oper} {K : St → Prop} {i : Nat} {rest : List Oper} {d : Nat} {V X : AVal} {T : Nat → AVal} {M : Mem} {ty ty₁ : TypeId} {pos : String} {af : Array Edge} {x y z : Operand} {args : Array Operand} {ats : Array TypeId} {f : FuncId} {avs : List AVal}
  {plan : List PStep} {H : List (Nat × Nat)} {o : Oper}

theorem ac_nil {k : Nat} : aArgs T none k [] = [] := rfl
theorem ac {k : Nat} {xs : List Operand} {Vs : List AVal} (h : (ev T x).shut = V) (hs : aArgs T none (k + 1) xs = Vs) : aArgs T none k (x :: xs) = V :: Vs := by
  subst h; subst hs; rfl

/-- A call that leaves memory as it is, and comes to one value. -/
theorem o_call {rT : AVal} (hc : SoundCall P f avs M fun r M' => r = rT ∧ M' = M) (hg : goesB P f = true) (ha : aArgs T none 0 args.toList = avs) (htk : tkr i = none) (h : aOps P tkr ops K (i + 1) rest ⟨setT T d rT, M⟩) :
    aOps P tkr ops K i (mkO (some d) (.call { callee := .value (.func f), args, argTypes := ats }) ty pos af none :: rest) ⟨T, M⟩ := by
  refine o_x rfl ?_
  rw [htk]
  show estep P none _ T M _
  unfold estep
  dsimp only [eCall, ev]
  refine ⟨rfl, hg, trivial, (fun r M' => r = rT ∧ M' = M), ?_, ?_⟩
  · show SoundCall P f ([] ++ aArgs T none 0 args.toList ++ []) M fun r M' => r = rT ∧ M' = M
    rw [ha]; simpa using hc
  · rintro r M' ⟨rfl, rfl⟩
    exact h

/-- A call of which more, or less, is known. -/
theorem o_callx {Post : AVal → Mem → Prop} (hc : SoundCall P f avs M Post) (hg : goesB P f = true) (ha : aArgs T none 0 args.toList = avs) (htk : tkr i = none) (h : ∀ r M', Post r M' → aOps P tkr ops K (i + 1) rest ⟨setT T d r, M'⟩) :
    aOps P tkr ops K i (mkO (some d) (.call { callee := .value (.func f), args, argTypes := ats }) ty pos af none :: rest) ⟨T, M⟩ := by
  refine o_x rfl ?_
  rw [htk]
  show estep P none _ T M _
  unfold estep
  dsimp only [eCall, ev]
  refine ⟨rfl, hg, trivial, Post, ?_, ?_⟩
  · show SoundCall P f ([] ++ aArgs T none 0 args.toList ++ []) M Post
    rw [ha]; simpa using hc
  · intro r M' hp
    exact h r M' hp

/-- The same in a region that draws. -/
theorem d_c {rT : AVal} (ho : ops[i]? = some (mkO (some d) (.call { callee := .value (.func f), args, argTypes := ats }) ty pos af none)) (hc : ∀ M', SoundCall P f avs M' fun r M'' => r = rT ∧ M'' = M') (hg : goesB P f = true) (ha : aArgs T none 0 args.toList = avs) (htk : tkr i = none) (h : aDraw P tkr ops K plan H ⟨setT T d rT, M⟩) :
    aDraw P tkr ops K (.c i :: plan) H ⟨T, M⟩ := by
  simp only [aDraw, ho, htk, aGuard]
  refine ⟨⟨none, rT⟩, [], quiet_call rfl rfl rfl hg fun M' _ => ?_, h⟩
  subst ha
  simpa using hc M'

theorem o_alloc {zs : List AVal} (hz : zeroCellsT P ty₁ = some zs) (h : ∀ b, M b = none → aOps P tkr ops K (i + 1) rest ⟨setT T d (.raw (.pointer (some ⟨b, 0, none⟩))), M.upd b (.cells zs)⟩) : aOps P tkr ops K i (mkO (some d) (.alloc ty₁) ty pos af none :: rest) ⟨T, M⟩ := by
  refine o_x rfl ?_
  show estep P (tkr i) _ T M _
  unfold estep
  dsimp only
  rw [hz]
  exact fun b hb => h b hb

theorem o_box (hV : ev T x = V) (hok : V.ok = true) {cs : List AVal} (hc : V.cells.map AVal.shut = cs) (h : ∀ b, M b = none → aOps P tkr ops K (i + 1) rest ⟨setT T d (.raw (.pointer (some ⟨b, 0, none⟩))), M.upd b (.cells cs)⟩) : aOps P tkr ops K i (mkO (some d) (.box ty₁ x) ty pos af none :: rest) ⟨T, M⟩ := by
  refine o_x rfl ?_
  show estep P (tkr i) _ T M _
  unfold estep
  dsimp only
  subst hV; subst hc
  exact ⟨hok, fun b hb => h b hb⟩

def AVal.own : AVal → Bool
  | .sl _ true => true
  | _ => false

theorem o_store {b off n : Nat} {l l' : List AVal} (ha : ev T x = .raw (.pointer (some ⟨b, off, none⟩))) (hM : M b = some (.cells l)) (hV : ev T y = V) (hok : V.ok = true) (hs : sizeT P ty₁ = some n) (hn : V.cells.length = n) (hl : off + n ≤ l.length) (hown : V.own = false) (he : splice l off (V.cells.map AVal.shut) = l')
    (h : aOps P tkr ops K (i + 1) rest ⟨T, M.upd b (.cells l')⟩) : aOps P tkr ops K i (mkO none (.store ty₁ x y) ty pos af none :: rest) ⟨T, M⟩ := by
  refine o_x rfl ?_
  show estep P (tkr i) _ T M _
  unfold estep
  dsimp only
  rw [ha, hV]
  unfold eStore
  simp only [hM]
  refine ⟨hok, by rw [hn]; exact hs, by rw [hn]; exact hl, ?_⟩
  subst he
  split
  · simp [AVal.own] at hown
  · exact h

/-- A slice that may be appended to is laid into memory. -/
theorem o_store_own {b off t : Nat} {l xs : List AVal} (ha : ev T x = .raw (.pointer (some ⟨b, off, none⟩))) (hM : M b = some (.cells l)) (hV : T t = .sl xs true) (hs : sizeT P ty₁ = some 1) (hl : off + 1 ≤ l.length)
    (h : aOps P tkr ops K (i + 1) rest ⟨setT T t (.sl xs false), M.upd b (.cells (l.set off (.sl xs true)))⟩) : aOps P tkr ops K i (mkO none (.store ty₁ x (.tmp t)) ty pos af none :: rest) ⟨T, M⟩ := by
  refine o_x rfl ?_
  show estep P (tkr i) _ T M _
  unfold estep
  dsimp only
  have hV' : ev T (.tmp t) = .sl xs true := hV
  rw [ha, hV']
  unfold eStore
  simp only [hM]
  refine ⟨rfl, hs, hl, ?_⟩
  have : Eff.apply ⟨tmpOf (.tmp t), M.upd b (.cells (l.set off (.sl xs true))), .undef⟩ (⟨T, M⟩ : St) none = ⟨setT T t (.sl xs false), M.upd b (.cells (l.set off (.sl xs true)))⟩ := by
    show (⟨setT T t (T t).shut, _⟩ : St) = _
    rw [hV]; rfl
  rw [this]
  exact h

/-- It is taken out again. -/
theorem o_take {n b off : Nat} {l xs : List AVal} (htk : tkr i = some n) (ha : ev T x = .raw (.pointer (some ⟨b, off, none⟩))) (hM : M b = some (.cells l)) (hx : l[off]? = some (.sl xs true)) (hag : aggT P ty₁ = some false) (hs : sizeT P ty₁ = some 1)
    (h : aOps P tkr ops K (i + 1) rest ⟨setT T d (.sl xs true), M.upd b (.cells (l.set off (.sl xs false)))⟩) : aOps P tkr ops K i (mkO (some d) (.load ty₁ x) ty pos af none :: rest) ⟨T, M⟩ := by
  refine o_x rfl ?_
  rw [htk]
  show estep P (some n) _ T M _
  unfold estep
  dsimp only
  rw [ha]
  unfold eTake
  simp only [hM, hx]
  exact ⟨hag, hs, h⟩

theorem o_makeMap (h : ∀ b, M b = none → aOps P tkr ops K (i + 1) rest ⟨setT T d (.raw (.map (some b))), M.upd b (.map [])⟩) : aOps P tkr ops K i (mkO (some d) (.makeMap ty₁ none) ty pos af none :: rest) ⟨T, M⟩ := by
  refine o_x rfl ?_
  show estep P (tkr i) _ T M _
  unfold estep
  exact fun b hb => h b hb

theorem o_mapUpdate {kt et : TypeId} {b : Nat} {k : Value} {es : List (Value × AVal)} {u : Unit} {at? : Option Nat} (hu : P.underlying ty₁ = some (.map kt et)) (hm : ev T x = .raw (.map (some b))) (hk : ev T y = .raw k) (hM : M b = some (.map es)) (hc : pr P (Instr.checkKey false 10000 kt k) = some u) (hat : keyAt P kt k (es.map (·.1)) = some at?)
    (hsame : ∀ j, at? = some j → Instr.sameBits 10000 (((es[j]?).map (·.1)).getD k) k = true) (hV : (ev T z).shut = V) (h : aOps P tkr ops K (i + 1) rest ⟨T, M.upd b (.map (putEntry es at? k V))⟩) : aOps P tkr ops K i (mkO none (.mapUpdate ty₁ x y z) ty pos af none :: rest) ⟨T, M⟩ := by
  refine o_x rfl ?_
  show estep P (tkr i) _ T M _
  unfold estep
  dsimp only
  unfold eMapUpdate
  rw [hm, hk, hu]
  subst hV
  simp only [rawOf, hM, hc, hat]
  exact ⟨hsame, h⟩

/-! ### More quiet ones -/

variable {dst : Option Nat} {g : Option (Nat × Bool)} {cs : List AVal} {own : Bool} {k : IntKind} {a b : Int}

/-- Where a field lies. -/
def fo (P : Program) (t : TypeId) (i : Nat) : Option (Nat × Nat) := (fieldT P t i).bind fun fd => (sizeT P fd.type).map fun n => (fd.offset, n)

theorem fo_spec {t : TypeId} {i off n : Nat} (h : fo P t i = some (off, n)) : ∃ fd, fieldT P t i = some fd ∧ sizeT P fd.type = some n ∧ fd.offset = off := by
  unfold fo at h
  cases hf : fieldT P t i with
  | none => rw [hf] at h; cases h
  | some fd =>
    rw [hf] at h
    simp only [Option.bind_some, Option.map_eq_some_iff, Prod.mk.injEq] at h
    obtain ⟨m, h1, h2, h3⟩ := h
    exact ⟨fd, rfl, by rw [h1, h3], h2⟩

theorem q_f {i off n : Nat} {j o : Nat} (hf : fo P ty₁ i = some (off, n + 1)) (hx : ev T x = .sptr cs j o) : qstep P none (mkO dst (.fieldAddr ty₁ x i) ty pos af g) T M = some (⟨none, .sptr cs j (o + off)⟩, []) := by
  obtain ⟨fd, h1, h2, rfl⟩ := fo_spec hf
  exact q_fld h1 h2 hx

theorem q_fr {i off n : Nat} {b o : Nat} (hf : fo P ty₁ i = some (off, n + 1)) (hx : ev T x = .raw (.pointer (some ⟨b, o, none⟩))) : qstep P none (mkO dst (.fieldAddr ty₁ x i) ty pos af g) T M = some (⟨none, .raw (.pointer (some ⟨b, o + off, none⟩))⟩, []) := by
  obtain ⟨fd, h1, h2, rfl⟩ := fo_spec hf
  exact q_fldr h1 h2 hx

theorem pn {k : Nat} : aParts T k [] = some [] := rfl
theorem pc {k : Nat} {l : List AVal} {r : List (Nat × Operand)} (h : (ev T x).shut = V) (hr : aParts T (k + 1) r = some l) : aParts T k ((k, x) :: r) = some (V :: l) := by
  subst h
  simp only [aParts, if_true, hr, Option.map_some]

theorem q_bs {st e : TypeId} {sz by_ n : Nat} {l : List AVal} {parts : Array (Nat × Operand)} (ht : SlT P st e sz by_) (hp : aParts T 0 parts.toList = some l) (hl : l.length = n) (hall : Els sz l) (hsz : n * sz ≤ 2 ^ 24) : qstep P none (mkO dst (.buildSlice st n parts) ty pos af g) T M = some (⟨none, .sl l true⟩, []) := by
  obtain ⟨z, hz, hzs⟩ := ht.zs
  have e : (l.all fun V => V.ok && V.cells.length == sz) = true := List.all_eq_true.2 fun V hV => by simp [(hall V hV).1, (hall V hV).2]
  simp only [qstep, qBuild, ht.u, ht.s, hz, hp, hzs, hl, hsz, e, and_self, if_true, Option.map_some]

theorem q_app_nil {st e : TypeId} {sz by_ : Nat} {ys : List AVal} (ht : SlT P st e sz by_) (h0 : ats[0]? = some st) (h1 : ats[1]? = some st) (hy : ev T y = .sl ys own) (hys : Els sz ys) (hb : ys.length * by_ ≤ 2 ^ 47) :
    qstep P none (mkO (some d) (.call { callee := .builtin .append, args := #[.const (.slice none 0 0), y], argTypes := ats }) ty pos af g) T M = some (⟨none, .sl ys true⟩, []) := by
  simp only [qstep, Option.isSome, if_true]
  have : ev T (.const (.slice none 0 0)) = .sl [] true := rfl
  rw [this, hy, aAppend_eq ht h0 h1 Els.nil hys (by simpa using hb)]
  rfl

/-- A whole block. -/
theorem q_ldmw {b n : Nat} {W : AVal} {ws : List AVal} (ha : aggT P ty₁ = some true) (hs : sizeT P ty₁ = some n) (hx : ev T x = .raw (.pointer (some ⟨b, 0, none⟩))) (hM : M b = some (.cells W.cells)) (hW : W = .agg ws) (hn : ws.length = n) : qstep P none (mkO dst (.load ty₁ x) ty pos af g) T M = some (⟨none, W⟩, [b]) := by
  subst hn; subst hW
  exact q_ldm ha hs hx hM (Y := .agg ws) (by simp [piece, AVal.cells]) rfl

theorem o_storew {b n : Nat} {l : List AVal} {W : AVal} (ha : ev T x = .raw (.pointer (some ⟨b, 0, none⟩))) (hM : M b = some (.cells l)) (hV : ev T y = W) (hok : W.ok = true) (hs : sizeT P ty₁ = some n) (hn : W.cells.length = n) (hl : l.length = n) (hown : W.own = false) (he : W.cells.map AVal.shut = W.cells)
    (h : aOps P tkr ops K (i + 1) rest ⟨T, M.upd b (.cells W.cells)⟩) : aOps P tkr ops K i (mkO none (.store ty₁ x y) ty pos af none :: rest) ⟨T, M⟩ := by
  refine o_store ha hM hV hok hs hn (by omega) hown ?_ h
  rw [he]
  unfold splice
  rw [List.drop_eq_nil_of_le (by omega)]
  simp

/-- A whole element. -/
theorem q_lde {j n : Nat} {W : AVal} {ws : List AVal} (ha : aggT P ty₁ = some true) (hs : sizeT P ty₁ = some n) (hx : ev T x = .sptr cs j 0) (hV : cs[j]? = some W) (hW : W = .agg ws) (hn : ws.length = n) : qstep P none (mkO dst (.load ty₁ x) ty pos af g) T M = some (⟨none, W⟩, []) := by
  subst hn; subst hW
  exact q_ld ha hs hx hV (Y := .agg ws) (by simp [piece, AVal.cells]) rfl

/-- An element of a list that is told by a function. -/
theorem gm {α : Type} {f : α → AVal} {l : List α} (n : Nat) (h : n < l.length) : (l.map f)[n]? = some (f l[n]) := by simp [h]

end
end Go.Am
