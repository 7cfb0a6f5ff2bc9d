import Derived.Test.YtphenhkofjbeoaaAm38
/-! The walk: slices held against nil, strings ranged over, parts of several results that may be appended to; least and greatest. -/
namespace Go.Am
set_option linter.unusedSimpArgs false
set_option linter.unusedVariables false
set_option linter.unusedSectionVars false

section
variable {P : Program} {tkr : Nat → Option Nat} {ops : Array Oper} {K : St → Prop} {i : Nat} {rest : List Oper} {d : Nat} {V X : AVal} {T : Nat → AVal} {M : Mem} {ty t₁ t₂ : TypeId} {pos : String} {af : Array Edge} {x y z : Operand} {g : Option (Nat × Bool)} {dst : Option Nat} {a b : Int} {k : IntKind}

theorem o_nilcmp {op : BinOp} {e : TypeId} {l : List AVal} {own : Bool} (hu : P.underlying t₁ = some (.slice e)) (hx : ev T x = .sl l own) (hy : isNilSlice y = true) (hop : op = .eql ∨ op = .neq)
    (h : ∀ b, (l ≠ [] → b = decide (op = .neq)) → aOps P tkr ops K (i + 1) rest ⟨setT T d (.raw (.bool b)), M⟩) : aOps P tkr ops K i (mkO (some d) (.binOp op t₁ x y t₂) ty pos af none :: rest) ⟨T, M⟩ := by
  refine o_x rfl ?_
  show estep P (tkr i) _ T M _
  unfold estep
  refine .inr ?_
  unfold eNil
  rw [hx, hu]
  exact ⟨hy, hop, fun b hb => h b hb⟩

theorem o_range {s : ByteArray} (hu : P.underlying t₁ = some .string) (hx : ev T x = .raw (.string s)) (h : ∀ b, M b = none → aOps P tkr ops K (i + 1) rest ⟨setT T d (.raw (.pointer (some ⟨b, 0, none⟩))), M.upd b (.it (.stringIter s 0))⟩) :
    aOps P tkr ops K i (mkO (some d) (.range t₁ x) ty pos af none :: rest) ⟨T, M⟩ := by
  refine o_x rfl ?_
  show estep P (tkr i) _ T M _
  unfold estep
  dsimp only
  unfold eRange
  rw [hx, hu]
  exact fun b hb => h b hb

theorem o_next {s : ByteArray} {p r : Nat} (hx : ev T x = .raw (.pointer (some ⟨r, 0, none⟩))) (hM : M r = some (.it (.stringIter s p)))
    (h1 : p < s.size → aOps P tkr ops K (i + 1) rest ⟨setT T d (.raw (.tuple #[.bool true, goInt p, .int .i32 (Utf8.decode s p).1])), M.upd r (.it (.stringIter s (p + (Utf8.decode s p).2)))⟩)
    (h2 : ¬ p < s.size → aOps P tkr ops K (i + 1) rest ⟨setT T d (.raw (.tuple #[.bool false])), M⟩) :
    aOps P tkr ops K i (mkO (some d) (.next x true) ty pos af none :: rest) ⟨T, M⟩ := by
  refine o_x rfl ?_
  show estep P (tkr i) _ T M _
  unfold estep
  dsimp only
  unfold eNext
  rw [hx]
  simp only [hM]
  split
  · rename_i h; exact h1 h
  · rename_i h; exact h2 h

theorem q_extr {n : Nat} {vs : Array Value} {v : Value} (hx : ev T x = .raw (.tuple vs)) (hi : vs[n]? = some v) : qstep P none (mkO dst (.extract x n) ty pos af g) T M = some (⟨none, .raw v⟩, []) := by
  simp only [qstep, aop, hx, hi, Option.map_some, readsOf, Option.isSome_none, Bool.false_eq_true, if_false]
  rfl

/-- A part that may be appended to. -/
theorem o_ext {n t j : Nat} {vs l : List AVal} {own : Bool} (htk : tkr i = some n) (hx : T t = .tup vs) (hi : vs[j]? = some (.sl l own)) (hX : (T t).shut = X) (h : aOps P tkr ops K (i + 1) rest ⟨setT (setT T t X) d (.sl l own), M⟩) :
    aOps P tkr ops K i (mkO (some d) (.extract (.tmp t) j) ty pos af none :: rest) ⟨T, M⟩ := by
  refine o_x rfl ?_
  rw [htk]
  show estep P (some n) _ T M _
  unfold estep
  have hx' : ev T (.tmp t) = .tup vs := hx
  simp only [Option.isSome_some, if_true, hx', hi]
  subst hX
  exact h

theorem q_max {ats : Array TypeId} (hx : ev T x = .raw (.int k a)) (hy : ev T y = .raw (.int k b)) : qstep P none (mkO dst (.call { callee := .builtin .max, args := #[x, y], argTypes := ats }) ty pos af g) T M = some (⟨none, .raw (.int k (max a b))⟩, []) := by
  have e : aop P T M ty (.call { callee := .builtin .max, args := #[x, y], argTypes := ats }) = some (.raw (.int k (max a b))) := by
    have h : pr P (Builtin.max_ ats ty #[.int k a, .int k b]) = some (.int k (if b > a then b else a)) := rfl
    have hm : (if b > a then b else a) = max a b := by split <;> omega
    rw [hm] at h
    simp only [aop, List.map, aBuiltin, hx, hy, rawsOf, List.mapM_cons, List.mapM_nil, rawOf, Option.bind_eq_bind, Option.bind_some, Option.pure_def, h, Option.map_some]
  show (aop P T M ty (.call { callee := .builtin .max, args := #[x, y], argTypes := ats })).map _ = _
  rw [e]; rfl

theorem q_min {ats : Array TypeId} (hx : ev T x = .raw (.int k a)) (hy : ev T y = .raw (.int k b)) : qstep P none (mkO dst (.call { callee := .builtin .min, args := #[x, y], argTypes := ats }) ty pos af g) T M = some (⟨none, .raw (.int k (min a b))⟩, []) := by
  have e : aop P T M ty (.call { callee := .builtin .min, args := #[x, y], argTypes := ats }) = some (.raw (.int k (min a b))) := by
    have h : pr P (Builtin.min_ ats ty #[.int k a, .int k b]) = some (.int k (if b < a then b else a)) := rfl
    have hm : (if b < a then b else a) = min a b := by split <;> omega
    rw [hm] at h
    simp only [aop, List.map, aBuiltin, hx, hy, rawsOf, List.mapM_cons, List.mapM_nil, rawOf, Option.bind_eq_bind, Option.bind_some, Option.pure_def, h, Option.map_some]
  show (aop P T M ty (.call { callee := .builtin .min, args := #[x, y], argTypes := ats })).map _ = _
  rw [e]; rfl

/-! ### Pieces of slices -/

/-- A piece of a list. -/
theorem q_slice {st e : TypeId} {sz n m : Nat} {l : List AVal} {own : Bool} {lo hi : Option Operand} (hu : P.underlying st = some (.slice e)) (hs : sizeT P e = some sz) (hx : ev T x = .sl l own) (hl : Els sz l)
    (hlo : aBound T 0 lo = some n) (hhi : aBound T l.length hi = some m) (h1 : n ≤ m) (h2 : m ≤ l.length) : qstep P none (mkO dst (.slice st x lo hi none) ty pos af g) T M = some (⟨none, .sl ((l.take m).drop n) false⟩, []) := by
  have e1 : (l.all fun V => V.cells.length == sz) = true := List.all_eq_true.2 fun V hV => by simp [(hl V hV).2]
  have e : aop P T M ty (.slice st x lo hi none) = some (.sl ((l.take m).drop n) false) := by
    have hm : aBound T l.length none = some l.length := rfl
    simp only [aop, hx, aSlice, hu, hs, e1, if_true, hlo, hhi, hm]
    simp [h1, h2]
  show (aop P T M ty (.slice st x lo hi none)).map _ = _
  rw [e]; rfl
theorem ab_none {d : Nat} : aBound T d none = some d := rfl
theorem ab {d n : Nat} (hx : ev T x = .raw (.int k a)) (ha : a = (n : Int)) : aBound T d (some x) = some n := by
  subst ha
  simp only [aBound, hx]
  rw [if_pos (Int.natCast_nonneg n)]
  simp

/-! ### What is left in memory, told otherwise -/

/-- What the one knows, the other one knows as well. -/
def Mem.imp (M M' : Mem) : Prop := ∀ b o', M' b = some o' → ∃ o, M b = some o ∧ ∀ (P : Program) (κ : Ghost) (w : World), RepO P κ w b o → RepO P κ w b o'

theorem Mem.imp_refl (M : Mem) : M.imp M := fun b o h => ⟨o, h, fun _ _ _ h => h⟩
theorem Mem.imp_of_le {M M' : Mem} (h : M.le M') : M'.imp M := fun b o hb => ⟨o, h b o hb, fun _ _ _ h => h⟩
theorem Mem.imp_trans {M M' M'' : Mem} (h : M.imp M') (h' : M'.imp M'') : M.imp M'' := fun b o hb => by
  obtain ⟨o1, h1, h2⟩ := h' b o hb
  obtain ⟨o2, h3, h4⟩ := h b o1 h1
  exact ⟨o2, h3, fun P κ w hr => h2 P κ w (h4 P κ w hr)⟩

theorem Holds.imp {P : Program} {κ : Ghost} {w : World} {T : Nat → AVal} {V : Nat → Value} {M M' : Mem} (h : Holds P κ T V M w) (hi : M.imp M') : Holds P κ T V M' w where
  tmp := h.tmp
  obj b o' hb := by
    obtain ⟨o, h1, h2⟩ := hi b o' hb
    exact h2 P κ w (h.obj b o h1)
  tag b x hx := by
    obtain ⟨h1, h2⟩ := h.tag b x hx
    refine ⟨h1, ?_⟩
    cases hm : M' b with
    | none => rfl
    | some o' =>
      obtain ⟨o, h3, -⟩ := hi b o' hm
      rw [h2] at h3; cases h3
  sp := h.sp
  wr := h.wr
  mwr := h.mwr

theorem SoundCall.recast {f : FuncId} {avs : List AVal} {Post Post' : AVal → Mem → Prop} (h : SoundCall P f avs M Post) (hp : ∀ r M', Post r M' → ∃ M₁ : Mem, M'.imp M₁ ∧ Post' r M₁) : SoundCall P f avs M Post' :=
  fun κ w vs hs hh => (h κ w vs hs hh).mono fun _ _ ⟨v, κ', r, M', e, hq, hH, hK⟩ => by
    obtain ⟨M₁, h1, h2⟩ := hp r M' hq
    exact ⟨v, κ', r, M₁, e, h2, hH.imp h1, hK⟩

/-- A nil slice is one that may be appended to. -/
def nilOwn : AVal → AVal
  | .raw (.slice none 0 0) => .sl [] true
  | V => V
theorem rep_nilOwn {P : Program} {κ : Ghost} {w : World} {V : AVal} {v : Value} (h : Rep P κ w V v) : Rep P κ w (nilOwn V) v := by
  unfold nilOwn
  split
  · rw [rep_raw h]; exact .nil true
  · exact h
theorem spare_nilOwn {P : Program} {w : World} {V : AVal} {v : Value} {b o : Nat} {κ : Ghost} (hr : Rep P κ w V v) (h : Spare P w (nilOwn V) v b o) : Spare P w V v b o := by
  unfold nilOwn at h
  split at h
  · have := rep_raw hr
    subst this
    obtain ⟨_, _, _, _, e, _⟩ := h.sl
    cases e
  · exact h
theorem Mem.imp_nil {M : Mem} {b : Nat} {l : List AVal} (hM : M b = some (.cells l)) : M.imp (M.upd b (.cells (l.map nilOwn))) := fun c o' hc => by
  unfold Mem.upd at hc
  split at hc
  · rename_i e; subst e; cases hc
    refine ⟨_, hM, fun P κ w hr => ?_⟩
    obtain ⟨cs, e, fr, a1, a2, a3, a4⟩ := hr
    refine ⟨cs, e, fr, a1, by rw [List.length_map]; exact a2, a3, fun j V v e1 e2 => ?_⟩
    rw [List.getElem?_map] at e1
    simp only [Option.map_eq_some_iff] at e1
    obtain ⟨W, e1, rfl⟩ := e1
    obtain ⟨h1, h2, h3⟩ := a4 j W v e1 e2
    exact ⟨rep_nilOwn h1, h2, fun b' o' hs => h3 b' o' (spare_nilOwn h1 hs)⟩
  · exact ⟨o', hc, fun _ _ _ h => h⟩
end
end Go.Am
