import Derived.Test.YtkjdclhhmgjfbaaAmC
import Derived.SizedLaws
import Derived.Below
import Derived.Laws.AppendOwn
import Derived.Sort.KeysCollected
import Derived.Maps.Range
/-! Rows: how large what stands in slices may be. -/
namespace Go.Am
section
variable {H : Type} {P : Program} {ts : List TypeId} {ds : List (DataW H)}

theorem weightsAll_mem {e : TypeId} : ∀ {elems : List (DataW H)} {d : DataW H}, d ∈ elems → ∀ n ∈ d.weights P e, n ∈ DataW.weightsAll P e elems
  | d0 :: elems, d, hd, n, hn => by
    simp only [DataW.weightsAll, List.mem_append]
    rcases List.mem_cons.1 hd with rfl | hd
    · exact .inl hn
    · exact .inr (weightsAll_mem hd n hn)

theorem sized_elem (h : (DataW.weightsEach P ts ds).all (· ≤ reachBytes) = true) {j : Nat} {t e : TypeId} {elems spare : List (DataW H)} (ht : ts[j]? = some t) (hd : ds[j]? = some (.slice elems spare)) (hu : P.underlying t = some (.slice e)) {d : DataW H} (hm : d ∈ elems) {n : Nat} (hn : n ∈ d.weights P e) : n ≤ reachBytes := by
  have := List.all_eq_true.1 h n (DataW.weights_mem_each ht hd n (by
    simp only [DataW.weights, hu, List.mem_cons, List.mem_append]
    exact .inr (.inl (weightsAll_mem hm n hn))))
  simpa using this

/-- A string in a slice of strings. -/
theorem sized_str (h : (DataW.weightsEach P ts ds).all (· ≤ reachBytes) = true) {j : Nat} {t e : TypeId} {elems spare : List (DataW H)} (ht : ts[j]? = some t) (hd : ds[j]? = some (.slice elems spare)) (hu : P.underlying t = some (.slice e)) {s : ByteArray} (hm : DataW.lit (.string s.data.toList) ∈ elems) : s.size ≤ 140737488351232 := by
  have h1 := sized_elem h ht hd hu hm (n := s.data.toList.length) (by simp [DataW.weights])
  have h2 : s.data.toList.length = s.size := Array.length_toList
  have h3 : reachBytes = 140737488351232 := rfl
  omega
end
end Go.Am

/-! A slice of an array that lies in memory. -/
namespace Go.Am
set_option linter.unusedSimpArgs false
set_option linter.unusedVariables false
set_option linter.unusedSectionVars false

section
variable {P : Program} {dst : Option Nat} {T : Nat → AVal} {M : Mem} {ty t : TypeId} {pos : String} {af : Array Edge} {x y : Operand} {g : Option (Nat × Bool)} {k : IntKind}

theorem pr_boundsHi {n m : Nat} (h : m ≤ n) : pr P (Instr.sliceBounds false n n none (some (.int k m)) none) = some (0, m, n) := by
  simp only [Instr.sliceBounds, pr_bind', pr_pure, Option.bind_some, pr_sliceBound (Int.natCast_nonneg m) (show (m : Int).toNat ≤ n by omega), Int.toNat_natCast]
theorem q_slarr {n m sz b off : Nat} {e : TypeId} (hu : P.underlying t = some (.array n e)) (hs : sizeT P e = some sz) (hx : ev T x = .raw (.pointer (some ⟨b, off, none⟩))) (hy : ev T y = .raw (.int k (m : Int))) (h : m ≤ n) :
    qstep P none (mkO dst (.slice t x none (some y) none) ty pos af g) T M = some (⟨none, .raw (.slice (some ⟨b, off, none⟩) m n)⟩, []) := by
  have e1 : pr P (Instr.sliceAt t (.pointer (some ⟨b, off, none⟩)) none (some (.int k m)) none) = some (.slice (some ⟨b, off, none⟩) m n) := by
    unfold Instr.sliceAt
    rw [pr_b, pr_underlying hu]
    show pr P (Instr.sureAddr (.pointer (some ⟨b, off, none⟩)) >>= _) = _
    rw [pr_b]
    show pr P (Instr.sliceBounds false n n none (some (.int k m)) none >>= _) = _
    rw [pr_b, pr_boundsHi h]
    show pr P (sizeOf e >>= _) = _
    rw [pr_b, pr_sizeT hs]
    show some (Value.slice (some (if n = 0 then (⟨b, off, none⟩ : Addr) else (⟨b, off, none⟩ : Addr).add (0 * sz))) (m - 0) (n - 0)) = _
    have : (⟨b, off, none⟩ : Addr).add (0 * sz) = ⟨b, off, none⟩ := by
      rw [Nat.zero_mul]; rfl
    rw [this, ite_self]
    rfl
  have e2 : aop P T M ty (.slice t x none (some y) none) = some (.raw (.slice (some ⟨b, off, none⟩) m n)) := by
    simp only [aop, aSlice, hx]
    show (match (some none : Option (Option Value)), (some y).mapM (fun x => rawOf (ev T x)), (some none : Option (Option Value)) with | some a, some b, some m => _ | _, _, _ => none) = _
    have : (some y).mapM (fun x => rawOf (ev T x)) = some (some (.int k m)) := by
      show (rawOf (ev T y)).map some = _
      rw [hy]; rfl
    rw [this]
    show (pr P (Instr.sliceAt t (.pointer (some ⟨b, off, none⟩)) none (some (.int k m)) none)).map AVal.raw = _
    rw [e1]; rfl
  simp only [qstep, e2, Option.map_some, readsOf, AVal.shut, AVal.shut1]
end
end Go.Am

set_option linter.unusedSimpArgs false
set_option linter.unusedVariables false
/-! Lemmas for a walk: a struct of parts that keep the right to append; a call that reads a block while others may be under way. -/
namespace Go.Am
section
variable {P : Program} {tk : Nat → Nat → Option Nat} {pl : Nat → List PStep} {ks : List It} {R : Exit → St → Prop} {S : St} {T : Nat → AVal} {M : Mem}

theorem s_regf {id : Nat} {l : List Oper} (k s off : Nat) {o o' : Oper} {rest : List Oper} (hl : l.drop k = o :: o' :: rest) (h : aOps P (tk id) l.toArray (aFuse P s off o o' (aOps P (tk id) l.toArray (unw P tk pl ks R .normal) (k + 2) rest)) 0 (l.take k) S) :
    unw P tk pl (.code (.region id l.toArray false) :: ks) R .normal S := by
  refine ⟨1, l.take k, o, o', rest, s, off, by rw [← hl, List.take_append_drop], ?_⟩
  have hk : k ≤ l.length := by
    rcases Nat.lt_or_ge l.length k with h' | h'
    · rw [List.drop_of_length_le (by omega)] at hl; cases hl
    · exact h'
  have : 0 + (l.take k).length + 2 = k + 2 := by rw [List.length_take]; omega
  rw [this]
  exact h

/-- A call that reads one block, and comes to one value; no other operation of the region that may be under way writes that block. -/
theorem d_cm {rT : AVal} (b : Nat) {tkr : Nat → Option Nat} {ops : Array Oper} {K : St → Prop} {i d : Nat} {plan : List PStep} {H : List (Nat × Nat)} {f : FuncId} {avs : List AVal} {args : Array Operand} {ats : Array TypeId} {ty : TypeId} {pos : String} {af : Array Edge} (ho : ops[i]? = some (mkO (some d) (.call { callee := .value (.func f), args, argTypes := ats }) ty pos af none))
    (hc : ∀ M', M b = M' b → SoundCall P f avs M' fun r M'' => r = rT ∧ M'' = M') (hg : goesB P f = true) (ha : aArgs T none 0 args.toList = avs) (htk : tkr i = none) (h : aDraw P tkr ops K plan ((i, b) :: H) ⟨setT T d rT, M⟩) :
    aDraw P tkr ops K (.c i :: plan) H ⟨T, M⟩ := by
  simp only [aDraw, ho, htk, aGuard]
  refine ⟨⟨none, rT⟩, [b], quiet_call rfl rfl rfl hg fun M' hM => ?_, h⟩
  subst ha
  simpa using hc M' (hM b (by simp))

theorem agg_of_shut {V : AVal} {cs : List AVal} (h : V.shut = .agg cs) : V = .agg cs := by
  cases V <;> simp [AVal.shut, AVal.shut1] at h
  rw [h]

theorem f_bb {s off d e : Nat} {t ty ty' : TypeId} {pos pos' : String} {af af' : Array Edge} {parts : Array (Nat × Operand)} {xs cs : List AVal} {K : St → Prop} (hs : T s = .sl xs true) (hne : s ≠ d)
    (h1 : qstep P none (mkO (some d) (.build t parts) ty pos af none) T M = some (⟨none, .agg cs⟩, []))
    (h2 : ∀ v n c, ∃ cv, qstep P none (mkO (some d) (.build t parts) ty pos af none) (setT T s (.raw (.slice v n c))) M = some (⟨none, .agg cv⟩, []) ∧ cv[off]? = some (.raw (.slice v n c)))
    (hok : (AVal.agg cs).ok = true) (hoff : off < cs.length) {cs' : List AVal} (hcs : (cs.map AVal.shut).set off (.sl xs true) = cs')
    (h : ∀ b, M b = none → K ⟨setT (setT (setT T d (.agg cs)) s (.sl xs false)) e (.raw (.pointer (some ⟨b, 0, none⟩))), M.upd b (.cells cs')⟩) :
    aFuse P s off (mkO (some d) (.build t parts) ty pos af none) (mkO (some e) (.box t (.tmp d)) ty' pos' af' none) K ⟨T, M⟩ := by
  subst hcs
  have key : ∀ (T' : Nat → AVal) (cv : List AVal), qstep P none (mkO (some d) (.build t parts) ty pos af none) T' M = some (⟨none, .agg cv⟩, []) → aop P T' M ty (.build t parts) = some (.agg cv) := fun T' cv hq => by
    have : (aop P T' M ty (.build t parts)).map (fun V => ((⟨none, V.shut⟩, readsOf T' (.build t parts)) : QEff × List Nat)) = some (⟨none, .agg cv⟩, []) := hq
    obtain ⟨V, hV, e1⟩ := Option.map_eq_some_iff.1 this
    rw [hV, agg_of_shut (congrArg (fun x => x.1.V) e1)]
  refine ⟨t, parts, d, e, cs, xs, rfl, rfl, rfl, rfl, rfl, rfl, hne, hs, key T cs h1, hok, hoff, fun v n c => ?_, h⟩
  obtain ⟨cv, e1, e2⟩ := h2 v n c
  exact ⟨cv, key _ cv e1, e2⟩
end
section
variable {H : Type} {P : Program} {ts : List TypeId} {ds : List (DataW H)}
/-- A string in a struct in a slice. -/
theorem sized_sfld (h : (DataW.weightsEach P ts ds).all (· ≤ reachBytes) = true) {j : Nat} {t e : TypeId} {elems spare : List (DataW H)} (ht : ts[j]? = some t) (hd : ds[j]? = some (.slice elems spare)) (hu : P.underlying t = some (.slice e)) {fs : Array Field} (hs : P.underlying e = some (.struct fs))
    {parts : List (DataW H)} (hm : DataW.agg parts ∈ elems) {q : Nat} {tq : TypeId} (hq : (fs.toList.map (·.type))[q]? = some tq) {s : ByteArray} (hp : parts[q]? = some (.lit (.string s.data.toList))) : s.size ≤ 140737488351232 := by
  have h1 := sized_elem h ht hd hu hm (n := s.data.toList.length) (by
    simp only [DataW.weights, hs]
    exact DataW.weights_mem_each hq hp _ (by simp [DataW.weights]))
  have h2 : s.data.toList.length = s.size := Array.length_toList
  have h3 : reachBytes = 140737488351232 := rfl
  omega
theorem i64w {n : Int} (h : (Lit.int .i64 n).wf = true) : -2 ^ 63 ≤ n ∧ n < 2 ^ 63 := by
  simp [Lit.wf, IntKind.min, IntKind.max, IntKind.signed, IntKind.bits] at h
  omega
end
end Go.Am

set_option linter.unusedSimpArgs false
/-! Lemmas for a walk: slices in memory that is known: fresh copies, and copies of them. -/
namespace Go.Am
set_option linter.unusedVariables false
section
variable {P : Program} {tkr : Nat → Option Nat} {ops : Array Oper} {K : St → Prop} {i : Nat} {rest : List Oper} {d : Nat} {T : Nat → AVal} {M : Mem} {ty : TypeId} {pos : String} {af : Array Edge} {x y : Operand} {ats : Array TypeId}
  {α : Type} {f : α → AVal} {z0 : α}

/-- A slice that lies in memory, from a block's beginning on. -/
structure At (f : α → AVal) (z0 : α) (M : Mem) (base : Option Addr) (l : List α) : Prop where
  at_ : l ≠ [] → ∃ b k, base = some ⟨b, 0, none⟩ ∧ M b = some (.cells ((l ++ List.replicate k z0).map f))
/-- A slice that was made anew. -/
structure Fr (f : α → AVal) (z0 : α) (M M1 : Mem) (base : Option Addr) (c : Nat) (l : List α) : Prop where
  nil : l = [] → M1 = M
  nil2 : l = [] → c = 0 ∧ okB base
  new : l ≠ [] → ∃ b k, base = some ⟨b, 0, none⟩ ∧ M b = none ∧ c = l.length + k ∧ M1 = M.upd b (.cells ((l ++ List.replicate k z0).map f))
theorem Fr.le {M M1 : Mem} {base : Option Addr} {c : Nat} {l : List α} (h : Fr f z0 M M1 base c l) : M.le M1 := by
  by_cases e : l = []
  · rw [h.nil e]; exact Mem.le_refl M
  · obtain ⟨b, k, -, hb, -, rfl⟩ := h.new e
    exact Mem.le_upd (Mem.le_refl M) hb
theorem Fr.here {M M1 : Mem} {base : Option Addr} {c : Nat} {l : List α} (h : Fr f z0 M M1 base c l) : At f z0 M1 base l :=
  ⟨fun e => by
    obtain ⟨b, k, h1, -, -, rfl⟩ := h.new e
    exact ⟨b, k, h1, Mem.upd_self _ _ _⟩⟩
theorem shut_map (hf : ∀ a, (f a).shut = f a) (l : List α) : (l.map f).map AVal.shut = l.map f := by
  rw [List.map_map]; exact List.map_congr_left fun a _ => hf a
theorem src_sl {ys : List AVal} {own : Bool} (hy : ev T y = .sl ys own) : srcM M (ev T y) = some (.sl ys own) := by rw [hy]; rfl
theorem src_at {base : Option Addr} {c : Nat} {l : List α} (hf : ∀ a, (f a).shut = f a) (h : At f z0 M base l) (hy : ev T y = .raw (.slice base l.length c)) : srcM M (ev T y) = some (.sl (l.map f) false) := by
  rw [hy]
  unfold srcM
  dsimp only
  by_cases e : l = []
  · subst e; rfl
  · obtain ⟨b, k, rfl, hb⟩ := h.at_ e
    rw [if_neg (fun h => e (List.eq_nil_of_length_eq_zero h))]
    dsimp only
    rw [hb]
    dsimp only
    rw [if_pos (by simp), List.drop_zero, ← List.map_take, List.take_left, shut_map hf]

/-- What is copied lies in memory that is known. -/
theorem o_appf {st e : TypeId} {by_ : Nat} {l : List α} {own : Bool} (ht : SlT P st e 1 by_) (h0 : ats[0]? = some st) (h1 : ats[1]? = some st) (hz : zeroCellsT P e = some [f z0]) (hf : ∀ a, (f a).shut = f a ∧ (f a).cells = [f a] ∧ (f a).ok = true ∧ (f a).unit = true) (hx : emptyX (ev T x)) (hy : srcM M (ev T y) = some (.sl (l.map f) own)) (hn : l.length * by_ ≤ 2 ^ 47)
    (h : ∀ base c M1, Fr f z0 M M1 base c l → aOps P tkr ops K (i + 1) rest ⟨setT T d (.raw (.slice base l.length c)), M1⟩) : aOps P tkr ops K i (mkO (some d) (.call { callee := .builtin .append, args := #[x, y], argTypes := ats }) ty pos af none :: rest) ⟨T, M⟩ := by
  refine o_xs rfl ?_
  refine .inr ⟨rfl, .inl ⟨_, st, e, f z0, hy, h0, ht.u, hz, (hf z0).2.2.2, .inl ⟨hx, ?_⟩⟩⟩
  have happ : aAppend P ats (.sl [] true) (.sl (l.map f) own) = some (l.map f) := by
    rw [aAppend_eq ht h0 h1 Els.nil (Els.map fun a => ⟨(hf a).2.2.1, by rw [(hf a).2.1]; rfl⟩) (by simpa using hn)]; rfl
  refine ⟨l.map f, fun e he => ?_, happ, fun base c M1 k1 k2 => ?_⟩
  · obtain ⟨a, -, rfl⟩ := List.mem_map.1 he
    exact (hf a).2.1
  · rw [List.length_map] at k2 ⊢
    refine h base c M1 ⟨fun e => (k1 (by rw [e]; rfl)).2.1, fun e => ⟨(k1 (by rw [e]; rfl)).1, (k1 (by rw [e]; rfl)).2.2⟩, fun e => ?_⟩
    obtain ⟨b, hb, hM, hc, e2⟩ := k2 (fun h' => e (List.map_eq_nil_iff.1 h'))
    refine ⟨b, c - l.length, hb, hM, by omega, ?_⟩
    rw [e2, shut_map (fun a => (hf a).1), List.map_append, List.map_replicate]

/-- A slice in memory is held against nil. -/
theorem o_nilraw {op : BinOp} {e t₁ t₂ : TypeId} {p : Option Addr} {n c : Nat} (hu : P.underlying t₁ = some (.slice e)) (hx : ev T x = .raw (.slice p n c)) (hy : isNilSlice y = true) (hop : op = .eql ∨ op = .neq)
    (h : ∀ b, (op = .eql → b = p.isNone) → (op = .neq → b = !p.isNone) → aOps P tkr ops K (i + 1) rest ⟨setT T d (.raw (.bool b)), M⟩) : aOps P tkr ops K i (mkO (some d) (.binOp op t₁ x y t₂) ty pos af none :: rest) ⟨T, M⟩ := by
  refine o_x rfl ?_
  show estep P (tkr i) _ T M _
  unfold estep
  refine .inr ?_
  unfold eNil
  rw [hx, hu]
  exact ⟨hy, hop, fun b h1 h2 => h b h1 h2⟩
theorem At.nil_of {M : Mem} {p : Option Addr} {l : List α} (h : At f z0 M p l) (hp : p.isNone = true) : l = [] := by
  by_cases e : l = []
  · exact e
  · obtain ⟨b, k, rfl, -⟩ := h.at_ e
    cases hp

/-- A copy that may be appended to. -/
theorem o_apps {st e : TypeId} {sz by_ : Nat} {ys : List AVal} {own : Bool} (ht : SlT P st e sz by_) (h0 : ats[0]? = some st) (h1 : ats[1]? = some st) (hx : emptyX (ev T x)) (hy : srcM M (ev T y) = some (.sl ys own)) (hys : Els sz ys) (hn : ys.length * by_ ≤ 2 ^ 47)
    (h : aOps P tkr ops K (i + 1) rest ⟨setT T d (.sl ys true), M⟩) : aOps P tkr ops K i (mkO (some d) (.call { callee := .builtin .append, args := #[x, y], argTypes := ats }) ty pos af none :: rest) ⟨T, M⟩ := by
  refine o_xs rfl ?_
  refine .inr ⟨rfl, .inr ⟨_, ys, hy, hx, ?_, h⟩⟩
  rw [aAppend_eq ht h0 h1 Els.nil hys (by simpa using hn)]; rfl

/-- An empty slice is one that lies somewhere. -/
theorem SoundCall.rawnil {P : Program} {f : FuncId} {args : List AVal} {M : Mem} {Post Post' : AVal → Mem → Prop} (h : SoundCall P f args M Post) (hp : ∀ r M', Post r M' → Post' r M' ∨ ∃ o, r = .sl [] o ∧ ∀ base c, Post' (.raw (.slice base 0 c)) M') : SoundCall P f args M Post' := fun κ w vs hs hh => (h κ w vs hs hh).mono fun _ _ ⟨v, κ', r, M', e, hq, hH, hK⟩ => by
  rcases hp r M' hq with h1 | ⟨o, rfl, h1⟩
  · exact ⟨v, κ', r, M', e, h1, hH, hK⟩
  · have hr := hH.tmp 0
    have hr' : Rep P κ' _ (.sl [] o) v := hr
    obtain ⟨base, c, rfl⟩ : ∃ base c, v = .slice base 0 c := by
      rcases rep_sl_inv hr' with ⟨-, e⟩ | ⟨b, off, cap, sz, cv, e, -⟩
      · exact ⟨none, 0, e⟩
      · exact ⟨_, cap, e⟩
    refine ⟨_, κ', _, M', e, h1 base c, ?_, hK⟩
    have hput := hH.put 0 (X := .raw (.slice base 0 c)) (x := .slice base 0 c) (.raw _) fun _ _ => Spare.not_raw
    have e1 : setT (argT [AVal.sl [] o]) 0 (.raw (.slice base 0 c)) = argT [.raw (.slice base 0 c)] := by
      funext t
      unfold setT argT
      by_cases ht : t = 0
      · subst ht; rfl
      · rw [if_neg ht]
        obtain ⟨k, rfl⟩ : ∃ k, t = k + 1 := ⟨t - 1, by omega⟩
        rfl
    have e2 : (fun t => if t = 0 then Value.slice base 0 c else (fun t => if t = 0 then Value.slice base 0 c else undef) t) = fun t => if t = 0 then Value.slice base 0 c else undef := by
      funext t
      by_cases ht : t = 0
      · simp [ht]
      · simp [ht]
    rw [e1, e2] at hput
    exact hput
/-- The same, of the last one of two results. -/
theorem SoundCall.rawnil2 {P : Program} {f : FuncId} {args : List AVal} {M : Mem} {Post Post' : AVal → Mem → Prop} (h : SoundCall P f args M Post) (hp : ∀ r M', Post r M' → Post' r M' ∨ ∃ a o, r = .tup [.raw a, .sl [] o] ∧ ∀ base c, Post' (.tup [.raw a, .raw (.slice base 0 c)]) M') : SoundCall P f args M Post' := fun κ w vs hs hh => (h κ w vs hs hh).mono fun _ _ ⟨v, κ', r, M', e, hq, hH, hK⟩ => by
  rcases hp r M' hq with h1 | ⟨a, o, rfl, h1⟩
  · exact ⟨v, κ', r, M', e, h1, hH, hK⟩
  · have hr' : Rep P κ' _ (.tup [.raw a, .sl [] o]) v := hH.tmp 0
    cases hr' with
    | tup _ us hl hr =>
      match us, hl, hr with
      | ⟨[u0, u1]⟩, _, hr =>
        have r0 := hr 0 _ u0 rfl rfl
        have r1 := hr 1 _ u1 rfl rfl
        obtain rfl := rep_raw r0
        obtain ⟨base, c, rfl⟩ : ∃ base c, u1 = .slice base 0 c := by
          rcases rep_sl_inv r1 with ⟨-, e⟩ | ⟨b, off, cap, sz, cv, e, -⟩
          · exact ⟨none, 0, e⟩
          · exact ⟨_, cap, e⟩
        refine ⟨_, κ', _, M', e, h1 base c, ?_, hK⟩
        have hput := hH.put 0 (X := .tup [.raw u0, .raw (.slice base 0 c)]) (x := .tuple ⟨[u0, .slice base 0 c]⟩) (.tup _ _ rfl fun i c' v' g1 g2 => by
          match i, g1, g2 with
          | 0, g1, g2 => cases g1; cases g2; exact .raw _
          | 1, g1, g2 => cases g1; cases g2; exact .raw _
          | i + 2, g1, _ => simp at g1) fun b o' hsp => by
            rcases hsp with ⟨l, o1, c1, g1, -⟩ | ⟨Vs, vs', i, X, x, g1, g2, g3, g4, g5⟩
            · cases g1
            · cases g1
              obtain ⟨l, o1, c1, g6, -⟩ := g5
              match i, g3 with
              | 0, g3 => cases g3; cases g6
              | 1, g3 => cases g3; cases g6
              | i + 2, g3 => simp at g3
        have e1 : setT (argT [AVal.tup [.raw u0, .sl [] o]]) 0 (.tup [.raw u0, .raw (.slice base 0 c)]) = argT [.tup [.raw u0, .raw (.slice base 0 c)]] := by
          funext t
          unfold setT argT
          by_cases ht : t = 0
          · subst ht; rfl
          · rw [if_neg ht]
            obtain ⟨k, rfl⟩ : ∃ k, t = k + 1 := ⟨t - 1, by omega⟩
            rfl
        have e2 : ∀ X : Value, (fun t => if t = 0 then X else (fun t => if t = 0 then X else undef) t) = fun t => if t = 0 then X else undef := fun X => by
          funext t
          by_cases ht : t = 0
          · simp [ht]
          · simp [ht]
        rw [e1, e2] at hput
        exact hput
end
end Go.Am

/-! Maps that are known to the last: keys, values, and when each entry was born. -/
namespace Go.Am
set_option linter.unusedVariables false
set_option linter.unusedSimpArgs false
set_option linter.unusedSectionVars false
def keyV (k : Int × Int) : Value := .agg #[.int .i64 k.1, .int .i64 k.2]
theorem eq_arr2 {P : Program} {kt e : TypeId} (hu : P.underlying kt = some (.array 2 e)) (he : P.underlying e = some (.int .i64)) (hs : sizeT P e = some 1) (ha : aggT P e = some false) (k k' : Int × Int) : pr P (Op.equal kt (keyV k) (keyV k')) = some (decide (k = k')) := by
  show pr P (underlying kt >>= _) = _
  rw [pr_b, pr_underlying hu]
  show pr P (sizeOf e >>= _) = _
  rw [pr_b, pr_sizeT hs]
  simp only [Option.bind_some, Std.Legacy.Range.forIn_eq_forIn_range', Std.Legacy.Range.size, List.range', Nat.sub_zero, Nat.add_one_sub_one, Nat.div_one, Nat.add_sub_cancel, List.forIn_cons, List.forIn_nil]
  have p : ∀ (k : Int × Int), pr P (part e #[Value.int .i64 k.1, .int .i64 k.2] (0 * 1)) = some (.int .i64 k.1) ∧ pr P (part e #[Value.int .i64 k.1, .int .i64 k.2] ((0 + 1) * 1)) = some (.int .i64 k.2) := fun k => ⟨part_one ha rfl, part_one ha rfl⟩
  simp only [pr_bind', (p k).1, (p k').1, (p k).2, (p k').2, Option.bind_some, eq_int he]
  have p2 : ∀ x y : Int, pr P (part e #[Value.int .i64 x, .int .i64 y] 1) = some (.int .i64 y) := fun x y => part_one ha rfl
  by_cases h1 : k.1 = k'.1
  · by_cases h2 : k.2 = k'.2
    · have : k = k' := Prod.ext h1 h2
      subst this
      simp [pr_pure, pr_bind', p2, eq_int he]
    · have : ¬ k = k' := fun e => h2 (by rw [e])
      simp [h1, h2, this, pr_pure, pr_bind', p2, eq_int he]
  · have : ¬ k = k' := fun e => h1 (by rw [e])
    simp [h1, this, pr_pure, pr_bind']
theorem keyT_arr2 {P : Program} {kt e : TypeId} (hu : P.underlying kt = some (.array 2 e)) (he : P.underlying e = some (.int .i64)) (hs : sizeT P e = some 1) (ha : aggT P e = some false) : KeyT P kt keyV where
  check b k := by
    show pr P (underlying kt >>= _) = _
    rw [pr_b, pr_underlying hu]
    have p : ∀ (k : Int × Int), pr P (part e #[Value.int .i64 k.1, .int .i64 k.2] (0 * 1)) = some (.int .i64 k.1) ∧ pr P (part e #[Value.int .i64 k.1, .int .i64 k.2] ((0 + 1) * 1)) = some (.int .i64 k.2) := fun k => ⟨part_one ha rfl, part_one ha rfl⟩
    have c : ∀ n : Int, pr P (Instr.checkKey b 9999 e (.int .i64 n)) = some () := fun n => by
      show pr P (underlying e >>= _) = _
      rw [pr_b, pr_underlying he]; rfl
    show pr P (do for i in [0:2] do Instr.checkKey b 9999 e (← part e #[Value.int .i64 k.1, .int .i64 k.2] (i * (← sizeOf e)))) = _
    simp only [Std.Legacy.Range.forIn_eq_forIn_range', Std.Legacy.Range.size, List.range', Nat.sub_zero, Nat.add_one_sub_one, Nat.div_one, List.forIn_cons, List.forIn_nil, pr_bind', pr_sizeT hs, Option.bind_some, (p k).1, (p k).2, c, pr_pure]
  find k keys := by
    unfold keyAt
    have e1 : ∀ (keys : List (Int × Int)) (i : Nat), pr P (Instr.findAsking kt (keyV k) ((keys.map keyV).map fun x => ⟨x, undef, 0⟩) i) = some ((keys.findIdx? fun x => x = k).map fun j => (i + j, undef)) := by
      intro keys
      induction keys with
      | nil => intro i; rfl
      | cons x keys ih =>
        intro i
        show pr P (Op.equal kt (keyV k) (keyV x) >>= _) = _
        rw [pr_b, eq_arr2 hu he hs ha, List.findIdx?_cons]
        by_cases h : k = x
        · subst h; simp [pr_pure]
        · have h' : ¬ x = k := fun e => h e.symm
          simp only [h, h', decide_false, Option.bind_some, Bool.false_eq_true, if_false]
          rw [ih (i + 1)]
          cases keys.findIdx? (fun x => decide (x = k)) <;> simp; omega
    have e2 : pr P (Instr.findKey kt (keyV k) ((keys.map keyV).map fun x => ⟨x, undef, 0⟩)) = some ((keys.findIdx? fun x => x = k).map fun j => (j, undef)) := by
      show pr P (underlying kt >>= _) = _
      rw [pr_b, pr_underlying hu, Option.bind_some]
      cases keys with
      | nil => rfl
      | cons x keys =>
        have := e1 (x :: keys) 0
        simp only [Nat.zero_add] at this
        exact this
    rw [e2]
    cases keys.findIdx? (fun x => decide (x = k)) <;> rfl
  same k := by
    show ((2 : Nat) == 2 && _) = true
    simp [List.zip, List.zipWith, Instr.sameBits]

/-- A map's entries. -/
structure En (α : Type) where
  k : α
  v : Value
  s : Nat
def entsX {α : Type} (ek : α → Value) (l : List (En α)) : Array MapEntry := (l.map fun e => ⟨ek e.k, e.v, e.s⟩).toArray
def enGet {α : Type} [DecidableEq α] (l : List (En α)) (k : α) : Option (En α) := l.find? fun e => e.k = k
def enIdx {α : Type} [DecidableEq α] (l : List (En α)) (k : α) : Option Nat := l.findIdx? fun e => e.k = k

section
variable {P : Program} {tkr : Nat → Option Nat} {ops : Array Oper} {K : St → Prop} {i : Nat} {rest : List Oper} {d : Nat} {T : Nat → AVal} {M : Mem} {ty mt kt et : TypeId} {pos : String} {af : Array Edge} {x y z : Operand} {ats : Array TypeId}
  {α : Type} [DecidableEq α] {ek : α → Value} {r clk : Nat} {l : List (En α)} {k : α} {g : Option (Nat × Bool)}

theorem Fixed.raw (v : Value) : Fixed P (.raw v) v := ⟨fun _ _ => .raw v, fun _ _ _ => Spare.not_raw⟩

theorem enX_find (hk : KeyT P kt ek) : pr P (Instr.findKey kt (ek k) (entsX ek l).toList) = some ((enIdx l k).map fun j => (j, ((l[j]?).map (·.v)).getD undef)) := by
  have h1 := hk.find k (l.map (·.k))
  have h2 : (l.map (·.k)).findIdx? (fun x => decide (x = k)) = enIdx l k := by rw [List.findIdx?_map]; rfl
  rw [h2] at h1
  have hkeys : (entsX ek l).toList.map (·.key) = (l.map (·.k)).map ek := by simp [entsX]
  obtain ⟨a, b⟩ := keyAt_run h1 hkeys
  cases hi : enIdx l k with
  | none => exact a hi
  | some j =>
    obtain ⟨e, he, hf⟩ := b j hi
    rw [hf]
    simp only [entsX, List.getElem?_toArray, List.getElem?_map, Option.map_eq_some_iff] at he
    obtain ⟨e', he', rfl⟩ := he
    simp [he']
theorem enIdx_get : (enIdx l k).bind (fun j => l[j]?) = enGet l k := by
  unfold enIdx enGet
  induction l with
  | nil => rfl
  | cons a l ih =>
    rw [List.findIdx?_cons, List.find?_cons]
    by_cases h : a.k = k
    · simp [h]
    · simp only [h, decide_false, Bool.false_eq_true, if_false]
      rw [← ih]
      cases l.findIdx? (fun e => decide (e.k = k)) <;> rfl
theorem enIdx_some {j : Nat} (h : enIdx l k = some j) : ∃ e, l[j]? = some e ∧ e.k = k ∧ enGet l k = some e := by
  have h1 := enIdx_get (l := l) (k := k)
  rw [h] at h1
  have h2 := List.findIdx?_eq_some_iff_getElem.1 h
  obtain ⟨hlt, hp, -⟩ := h2
  exact ⟨l[j], List.getElem?_eq_getElem hlt, by simpa using hp, by rw [← h1]; exact List.getElem?_eq_getElem hlt⟩
theorem enIdx_none (h : enIdx l k = none) : enGet l k = none := by rw [← enIdx_get, h]; rfl

/-- What is looked up. -/
theorem x_lookup {zv : Value} (hu : P.underlying mt = some (.map kt et)) (hk : KeyT P kt ek) (hz : zeroT P et = some zv) (hm : ev T x = .raw (.map (some r))) (hy : rawOf (ev T y) = some (ek k)) (hM : M r = some (.it (.map (entsX ek l) clk)))
    (h : aOps P tkr ops K (i + 1) rest ⟨setT T d (.raw (((enGet l k).map En.v).getD zv)), M⟩) : aOps P tkr ops K i (mkO (some d) (.lookup mt x y false) ty pos af none :: rest) ⟨T, M⟩ := by
  refine o_xs rfl (.inl fun ρ w h1 h2 _ => .inl ⟨((enGet l k).map En.v).getD zv, _, ?_, Fixed.raw _, h⟩)
  have e1 : ρ x = .map (some r) := h1 x (by simp [Op.operands]) _ (by rw [hm]; rfl)
  have e2 : ρ y = ek k := h1 y (by simp [Op.operands]) _ hy
  refine run_val (s := Instr.lookup mt (ρ x) (ρ y) false) ?_
  rw [e1, e2]
  show ((underlying mt) >>= _).run P w = _
  rw [run_bind_pr (pr_underlying hu)]
  show ((getObj r) >>= _).run P w = _
  rw [run_getObj (h2 r _ hM)]
  show ((Instr.checkKey (entsX ek l).isEmpty 10000 kt (ek k)) >>= _).run P w = _
  rw [run_bind_pr (hk.check _ _)]
  show ((Instr.findKey kt (ek k) (entsX ek l).toList) >>= _).run P w = _
  have hf := enX_find (P := P) (kt := kt) (ek := ek) (l := l) (k := k) hk
  cases hi : enIdx l k with
  | none =>
    rw [hi] at hf
    rw [run_bind_pr hf, enIdx_none hi]
    show ((zeroValue et) >>= _).run P w = _
    rw [run_bind_pr (pr_zeroT hz)]; rfl
  | some j =>
    obtain ⟨e, he, hek, hget⟩ := enIdx_some hi
    rw [hi] at hf
    rw [run_bind_pr hf, hget]
    simp only [Option.map_some, he, Option.getD_some]; rfl

theorem run_setMap {w : World} {ob ob' : Obj} (h : w.heap[r]? = some ob) (hob : ∀ c e fr, ob ≠ .cells c e fr) : (setObj r ob').run P w = .ok () (putObj w r ob') := by
  show (Sem.setObj r ob' (.pure ())).run P w = _
  simp only [Sem.run, h]
  cases ob <;> first | exact absurd rfl (hob _ _ _) | rfl
theorem set_self {β : Type} {l : List β} {j : Nat} {e : β} (h : l[j]? = some e) : l.set j e = l := by
  apply List.ext_getElem?
  intro i
  rw [List.getElem?_set]
  by_cases hi : j = i
  · subst hi
    rw [if_pos rfl, if_pos (List.getElem?_eq_some_iff.1 h).1, h]
  · rw [if_neg hi]
theorem entsX_modify {j : Nat} {e : En α} (he : l[j]? = some e) (f : MapEntry → MapEntry) (e' : En α) (hf : f ⟨ek e.k, e.v, e.s⟩ = ⟨ek e'.k, e'.v, e'.s⟩) : (entsX ek l).modify j f = entsX ek (l.set j e') := by
  apply Array.ext'
  apply List.ext_getElem?
  intro i
  simp only [entsX, Array.getElem?_toList, Array.getElem?_modify, List.getElem?_toArray, List.getElem?_map, List.getElem?_set]
  by_cases h : j = i
  · subst h
    have hlt := (List.getElem?_eq_some_iff.1 he).1
    have he2 : l[j] = e := (List.getElem?_eq_some_iff.1 he).2
    simp [he2, hf, hlt]
  · simp [h]
theorem entsX_push {e : En α} : (entsX ek l).push ⟨ek e.k, e.v, e.s⟩ = entsX ek (l ++ [e]) := by
  apply Array.ext'
  simp [entsX]
theorem keeps_key {α : Type} {ek : α → Value} {kt : TypeId} {P : Program} [DecidableEq α] (hk : KeyT P kt ek) (k : α) (w : World) : (Instr.keyThatStays (ek k) (ek k)).run P w = .ok (ek k) w := by
  unfold Instr.keyThatStays
  rw [hk.same]; rfl

/-- An entry of a key that is there. -/
theorem x_entryOld {e : En α} {j : Nat} (hu : P.underlying mt = some (.map kt et)) (hk : KeyT P kt ek) (hm : ev T x = .raw (.map (some r))) (hy : rawOf (ev T y) = some (ek k)) (hM : M r = some (.it (.map (entsX ek l) clk))) (hj : enIdx l k = some j) (he : l[j]? = some e)
    (h : aOps P tkr ops K (i + 1) rest ⟨setT T d (.raw (.tuple #[e.v, goInt e.s])), M⟩) : aOps P tkr ops K i (mkO (some d) (.mapEntry mt x y) ty pos af none :: rest) ⟨T, M⟩ := by
  have hek : e.k = k := by
    obtain ⟨e', h1, h2, -⟩ := enIdx_some hj
    rw [he] at h1; cases h1; exact h2
  have hset : l.set j e = l := set_self he
  have hsame : M.upd r (.it (.map (entsX ek l) clk)) = M := Mem.upd_same hM
  refine o_xs rfl (.inl fun ρ w h1 h2 _ => .inr (.inl ⟨.tuple #[e.v, goInt e.s], .raw (.tuple #[e.v, goInt e.s]), r, _, .map (entsX ek l) clk, w.drawn, hM, (fun _ _ _ h => by cases h), ?_, Fixed.raw _, by rw [hsame]; exact h⟩))
  have e1 : ρ x = .map (some r) := h1 x (by simp [Op.operands]) _ (by rw [hm]; rfl)
  have e2 : ρ y = ek k := h1 y (by simp [Op.operands]) _ hy
  refine run_val (s := Instr.mapEntry mt (ρ x) (ρ y)) ?_
  rw [e1, e2]
  have hw := h2 r _ hM
  show ((underlying mt) >>= _).run P w = _
  rw [run_bind_pr (pr_underlying hu)]
  show ((getObj r) >>= _).run P w = _
  rw [run_getObj hw]
  show ((Instr.checkKey false 10000 kt (ek k)) >>= _).run P w = _
  rw [run_bind_pr (hk.check _ _)]
  show ((Instr.findKey kt (ek k) (entsX ek l).toList) >>= _).run P w = _
  have hf := enX_find (P := P) (kt := kt) (ek := ek) (l := l) (k := k) hk
  rw [hj] at hf
  rw [run_bind_pr hf]
  have hent : (entsX ek l)[j]? = some ⟨ek e.k, e.v, e.s⟩ := by simp [entsX, he]
  simp only [Option.map_some, he, Option.getD_some, hent, hek]
  show ((Instr.keyThatStays (ek k) (ek k)) >>= _).run P w = _
  rw [Sem.run_bind, keeps_key hk, Result.andThen_ok, entsX_modify he (e' := e) _ (by rw [hek]), hset]
  show ((setObj r _) >>= _).run P w = _
  rw [Sem.run_bind, run_setMap hw (fun _ _ _ h => by cases h)]; rfl

/-- An entry of a key that is not there yet. -/
theorem x_entryNew {zv : Value} (hu : P.underlying mt = some (.map kt et)) (hk : KeyT P kt ek) (hz : zeroT P et = some zv) (hm : ev T x = .raw (.map (some r))) (hy : rawOf (ev T y) = some (ek k)) (hM : M r = some (.it (.map (entsX ek l) clk))) (hj : enIdx l k = none)
    (h : aOps P tkr ops K (i + 1) rest ⟨setT T d (.raw (.tuple #[zv, goInt clk])), M.upd r (.it (.map (entsX ek (l ++ [⟨k, zv, clk⟩])) (clk + 1)))⟩) : aOps P tkr ops K i (mkO (some d) (.mapEntry mt x y) ty pos af none :: rest) ⟨T, M⟩ := by
  have h' : aOps P tkr ops K (i + 1) rest ((Eff.mk none (M.upd r (.it (.map (entsX ek (l ++ [(⟨k, zv, clk⟩ : En α)])) (clk + 1)))) (.raw (.tuple #[zv, goInt clk]))).apply ⟨T, M⟩ (some d)) := h
  refine o_xs rfl (.inl fun ρ w h1 h2 _ => .inr (.inl ⟨.tuple #[zv, goInt clk], .raw (.tuple #[zv, goInt clk]), r, _, .map (entsX ek (l ++ [(⟨k, zv, clk⟩ : En α)])) (clk + 1), w.drawn, hM, (fun _ _ _ h => by cases h), ?_, Fixed.raw _, h'⟩))
  have e1 : ρ x = .map (some r) := h1 x (by simp [Op.operands]) _ (by rw [hm]; rfl)
  have e2 : ρ y = ek k := h1 y (by simp [Op.operands]) _ hy
  refine run_val (s := Instr.mapEntry mt (ρ x) (ρ y)) ?_
  rw [e1, e2]
  have hw := h2 r _ hM
  show ((underlying mt) >>= _).run P w = _
  rw [run_bind_pr (pr_underlying hu)]
  show ((getObj r) >>= _).run P w = _
  rw [run_getObj hw]
  show ((Instr.checkKey false 10000 kt (ek k)) >>= _).run P w = _
  rw [run_bind_pr (hk.check _ _)]
  show ((Instr.findKey kt (ek k) (entsX ek l).toList) >>= _).run P w = _
  have hf := enX_find (P := P) (kt := kt) (ek := ek) (l := l) (k := k) hk
  rw [hj] at hf
  rw [run_bind_pr hf]
  show ((zeroValue et) >>= _).run P w = _
  rw [run_bind_pr (pr_zeroT hz)]
  show ((setObj r (.map ((entsX ek l).push ⟨ek k, zv, clk⟩) (clk + 1))) >>= _).run P w = _
  rw [show (entsX ek l).push ⟨ek k, zv, clk⟩ = entsX ek (l ++ [⟨k, zv, clk⟩]) from entsX_push (e := ⟨k, zv, clk⟩)]
  rw [Sem.run_bind, run_setMap hw (fun _ _ _ h => by cases h)]; rfl

/-- The value of an entry that was asked for. -/
theorem x_entryStore {e : En α} {j s : Nat} {v : Value} (hm : ev T x = .raw (.map (some r))) (hs : ev T y = .raw (goInt s)) (hv : rawOf (ev T z) = some v) (hM : M r = some (.it (.map (entsX ek l) clk))) (hj : l.findIdx? (fun e => e.s = s) = some j) (he : l[j]? = some e)
    (h : aOps P tkr ops K (i + 1) rest ⟨T, M.upd r (.it (.map (entsX ek (l.set j ⟨e.k, v, e.s⟩)) clk))⟩) : aOps P tkr ops K i (mkO none (.entryStore mt x y z) ty pos af none :: rest) ⟨T, M⟩ := by
  refine o_xs rfl (.inl fun ρ w h1 h2 _ => .inr (.inr (.inl ⟨r, _, .map (entsX ek (l.set j ⟨e.k, v, e.s⟩)) clk, hM, (fun _ _ _ h => by cases h), ?_, h⟩)))
  have e1 : ρ x = .map (some r) := h1 x (by simp [Op.operands]) _ (by rw [hm]; rfl)
  have e2 : ρ y = goInt s := h1 y (by simp [Op.operands]) _ (by rw [hs]; rfl)
  have e3 : ρ z = v := h1 z (by simp [Op.operands]) _ hv
  have hw := h2 r _ hM
  show ((Instr.entryStore mt (ρ x) (ρ y) (ρ z)) >>= fun _ => (pure Next.skip : Sem Go.Next)).run P w = _
  have hrun : (Instr.entryStore mt (ρ x) (ρ y) (ρ z)).run P w = .ok () (putObj w r (.map (entsX ek (l.set j ⟨e.k, v, e.s⟩)) clk)) := by
    rw [e1, e2, e3]
    show ((getObj r) >>= _).run P w = _
    rw [run_getObj hw]
    show (match (entsX ek l).findIdx? (fun (e : MapEntry) => (e.born : Int) == (s : Int)) with | some i => setObj r (.map ((entsX ek l).modify i fun e => { e with val := v }) clk) | none => unsupported (.noEntry "instr/MapEntry.the entry is gone")).run P w = _
    have hfi : (entsX ek l).findIdx? (fun (e : MapEntry) => (e.born : Int) == (s : Int)) = some j := by
      have : (entsX ek l).findIdx? (fun (e : MapEntry) => (e.born : Int) == (s : Int)) = l.findIdx? (fun e => e.s = s) := by
        unfold entsX
        rw [List.findIdx?_toArray, List.findIdx?_map]
        congr 1
        funext q
        show ((q.s : Int) == (s : Int)) = decide (q.s = s)
        by_cases hq : q.s = s
        · subst hq; simp
        · have : ¬ (q.s : Int) = s := by omega
          simp [hq, this]
      rw [this, hj]
    rw [hfi]
    show (setObj r (.map ((entsX ek l).modify j fun e => { e with val := v }) clk)).run P w = _
    rw [entsX_modify he (e' := ⟨e.k, v, e.s⟩) _ rfl]
    exact run_setMap hw (fun _ _ _ h => by cases h)
  rw [Sem.run_bind, hrun]; rfl

/-- A new value of a key that is there. -/
theorem x_updOld {e : En α} {j : Nat} {v : Value} (hu : P.underlying mt = some (.map kt et)) (hk : KeyT P kt ek) (hm : ev T x = .raw (.map (some r))) (hy : rawOf (ev T y) = some (ek k)) (hv : rawOf (ev T z) = some v) (hM : M r = some (.it (.map (entsX ek l) clk))) (hj : enIdx l k = some j) (he : l[j]? = some e)
    (h : aOps P tkr ops K (i + 1) rest ⟨T, M.upd r (.it (.map (entsX ek (l.set j ⟨e.k, v, e.s⟩)) clk))⟩) : aOps P tkr ops K i (mkO none (.mapUpdate mt x y z) ty pos af none :: rest) ⟨T, M⟩ := by
  have hek : e.k = k := by
    obtain ⟨e', h1, h2, -⟩ := enIdx_some hj
    rw [he] at h1; cases h1; exact h2
  refine o_xs rfl (.inl fun ρ w h1 h2 _ => .inr (.inr (.inl ⟨r, _, .map (entsX ek (l.set j ⟨e.k, v, e.s⟩)) clk, hM, (fun _ _ _ h => by cases h), ?_, h⟩)))
  have e1 : ρ x = .map (some r) := h1 x (by simp [Op.operands]) _ (by rw [hm]; rfl)
  have e2 : ρ y = ek k := h1 y (by simp [Op.operands]) _ hy
  have e3 : ρ z = v := h1 z (by simp [Op.operands]) _ hv
  have hw := h2 r _ hM
  show ((Instr.mapUpdate mt (ρ x) (ρ y) (ρ z)) >>= fun _ => (pure Next.skip : Sem Go.Next)).run P w = _
  have hrun : (Instr.mapUpdate mt (ρ x) (ρ y) (ρ z)).run P w = .ok () (putObj w r (.map (entsX ek (l.set j ⟨e.k, v, e.s⟩)) clk)) := by
    rw [e1, e2, e3]
    show ((underlying mt) >>= _).run P w = _
    rw [run_bind_pr (pr_underlying hu)]
    show ((getObj r) >>= _).run P w = _
    rw [run_getObj hw]
    show ((Instr.checkKey false 10000 kt (ek k)) >>= _).run P w = _
    rw [run_bind_pr (hk.check _ _)]
    show ((Instr.findKey kt (ek k) (entsX ek l).toList) >>= _).run P w = _
    have hf := enX_find (P := P) (kt := kt) (ek := ek) (l := l) (k := k) hk
    rw [hj] at hf
    rw [run_bind_pr hf]
    have hent : (entsX ek l)[j]? = some ⟨ek e.k, e.v, e.s⟩ := by simp [entsX, he]
    simp only [Option.map_some, he, Option.getD_some, hent, hek]
    show ((Instr.keyThatStays (ek k) (ek k)) >>= _).run P w = _
    rw [Sem.run_bind, keeps_key hk, Result.andThen_ok, entsX_modify he (e' := ⟨e.k, v, e.s⟩) _ (by rw [hek])]
    rw [hek]
    exact run_setMap hw (fun _ _ _ h => by cases h)
  rw [Sem.run_bind, hrun]; rfl

/-- A key is taken away. -/
theorem x_delete {j : Nat} (h0 : ats[0]? = some mt) (hu : P.underlying mt = some (.map kt et)) (hk : KeyT P kt ek) (hm : ev T x = .raw (.map (some r))) (hy : rawOf (ev T y) = some (ek k)) (hM : M r = some (.it (.map (entsX ek l) clk))) (hj : enIdx l k = some j) {dst : Option Nat}
    (h : aOps P tkr ops K (i + 1) rest (Eff.apply ⟨none, M.upd r (.it (.map (entsX ek (l.eraseIdx j)) clk)), .raw (.tuple #[])⟩ ⟨T, M⟩ dst)) : aOps P tkr ops K i (mkO dst (.call { callee := .builtin .delete, args := #[x, y], argTypes := ats }) ty pos af none :: rest) ⟨T, M⟩ := by
  refine o_xs rfl (.inl fun ρ w h1 h2 _ => .inr (.inl ⟨.tuple #[], .raw (.tuple #[]), r, _, .map (entsX ek (l.eraseIdx j)) clk, w.drawn, hM, (fun _ _ _ h => by cases h), ?_, Fixed.raw _, h⟩))
  have e1 : ρ x = .map (some r) := h1 x (by simp [Op.operands, Call.operands]) _ (by rw [hm]; rfl)
  have e2 : ρ y = ek k := h1 y (by simp [Op.operands, Call.operands]) _ hy
  have hw := h2 r _ hM
  have hrun : (Builtin.delete_ ats ty #[ρ x, ρ y]).run P w = .ok (.tuple #[]) (putObj w r (.map (entsX ek (l.eraseIdx j)) clk)) := by
    rw [e1, e2]
    have hf := enX_find (P := P) (kt := kt) (ek := ek) (l := l) (k := k) hk
    rw [hj] at hf
    have herase : (entsX ek l).eraseIdxIfInBounds j = entsX ek (l.eraseIdx j) := by
      have hlt : j < l.length := by
        obtain ⟨e', h1, -⟩ := enIdx_some hj
        exact (List.getElem?_eq_some_iff.1 h1).1
      unfold entsX
      rw [List.eraseIdxIfInBounds_toArray]
      congr 1
      apply List.ext_getElem?
      intro q
      simp only [List.getElem?_map, List.getElem?_eraseIdx]
      split <;> rfl
    simp only [Builtin.delete_, h0, List.getElem?_toArray, List.getElem?_cons_zero, List.getElem?_cons_succ]
    show ((underlying mt) >>= _).run P w = _
    rw [run_bind_pr (pr_underlying hu)]
    show ((getObj r) >>= _).run P w = _
    rw [run_getObj hw]
    show ((Instr.checkKey (entsX ek l).isEmpty 10000 kt (ek k)) >>= _).run P w = _
    rw [run_bind_pr (hk.check _ _)]
    show ((Instr.findKey kt (ek k) (entsX ek l).toList) >>= _).run P w = _
    rw [run_bind_pr hf]
    show ((setObj r (.map ((entsX ek l).eraseIdxIfInBounds j) clk)) >>= _).run P w = _
    rw [herase, Sem.run_bind, run_setMap hw (fun _ _ _ h => by cases h)]; rfl
  unfold execOp
  show (do let v ← Builtin.delete_ ats ty (#[x, y].map ρ); pure (Go.Next.value v)).run P w = _
  rw [show (#[x, y] : Array Operand).map ρ = #[ρ x, ρ y] by simp]
  exact run_val hrun

/-- A new map. -/
theorem x_makeMap (h : ∀ b, M b = none → aOps P tkr ops K (i + 1) rest ⟨setT T d (.raw (.map (some b))), M.upd b (.it (.map (entsX ek ([] : List (En α))) 0))⟩) : aOps P tkr ops K i (mkO (some d) (.makeMap mt none) ty pos af none :: rest) ⟨T, M⟩ := by
  refine o_xs rfl (.inl fun ρ w h1 h2 h3 => .inr (.inr (.inr ⟨.map (some w.heap.size), .map #[] 0, (fun _ _ _ h => by cases h), ?_, h _ h3⟩)))
  exact run_val (s := Instr.makeMap mt none) rfl

/-- A walk through a map begins. -/
theorem x_range (hu : P.underlying mt = some (.map kt et)) (hm : ev T x = .raw (.map (some r))) (hM : M r = some (.it (.map (entsX ek l) clk)))
    (h : ∀ b, M b = none → aOps P tkr ops K (i + 1) rest ⟨setT T d (.raw (.pointer (some ⟨b, 0, none⟩))), M.upd b (.it (.mapIter (some r) clk #[] clk))⟩) : aOps P tkr ops K i (mkO (some d) (.range mt x) ty pos af none :: rest) ⟨T, M⟩ := by
  refine o_xs rfl (.inl fun ρ w h1 h2 h3 => .inr (.inr (.inr ⟨.pointer (some ⟨w.heap.size, 0, none⟩), .mapIter (some r) clk #[] clk, (fun _ _ _ h => by cases h), ?_, h _ h3⟩)))
  have e1 : ρ x = .map (some r) := h1 x (by simp [Op.operands]) _ (by rw [hm]; rfl)
  have hw := h2 r _ hM
  refine run_val (s := Instr.range mt (ρ x)) ?_
  rw [e1]
  show ((underlying mt) >>= _).run P w = _
  rw [run_bind_pr (pr_underlying hu)]
  show ((getObj r) >>= _).run P w = _
  rw [run_getObj hw]
  rfl

/-- A value of a key that is not there yet. -/
theorem x_updNew {v : Value} (hu : P.underlying mt = some (.map kt et)) (hk : KeyT P kt ek) (hm : ev T x = .raw (.map (some r))) (hy : rawOf (ev T y) = some (ek k)) (hv : rawOf (ev T z) = some v) (hM : M r = some (.it (.map (entsX ek l) clk))) (hj : enIdx l k = none)
    (h : aOps P tkr ops K (i + 1) rest ⟨T, M.upd r (.it (.map (entsX ek (l ++ [⟨k, v, clk⟩])) (clk + 1)))⟩) : aOps P tkr ops K i (mkO none (.mapUpdate mt x y z) ty pos af none :: rest) ⟨T, M⟩ := by
  refine o_xs rfl (.inl fun ρ w h1 h2 _ => .inr (.inr (.inl ⟨r, _, .map (entsX ek (l ++ [(⟨k, v, clk⟩ : En α)])) (clk + 1), hM, (fun _ _ _ h => by cases h), ?_, h⟩)))
  have e1 : ρ x = .map (some r) := h1 x (by simp [Op.operands]) _ (by rw [hm]; rfl)
  have e2 : ρ y = ek k := h1 y (by simp [Op.operands]) _ hy
  have e3 : ρ z = v := h1 z (by simp [Op.operands]) _ hv
  have hw := h2 r _ hM
  show ((Instr.mapUpdate mt (ρ x) (ρ y) (ρ z)) >>= fun _ => (pure Next.skip : Sem Go.Next)).run P w = _
  have hrun : (Instr.mapUpdate mt (ρ x) (ρ y) (ρ z)).run P w = .ok () (putObj w r (.map (entsX ek (l ++ [⟨k, v, clk⟩])) (clk + 1))) := by
    rw [e1, e2, e3]
    show ((underlying mt) >>= _).run P w = _
    rw [run_bind_pr (pr_underlying hu)]
    show ((getObj r) >>= _).run P w = _
    rw [run_getObj hw]
    show ((Instr.checkKey false 10000 kt (ek k)) >>= _).run P w = _
    rw [run_bind_pr (hk.check _ _)]
    show ((Instr.findKey kt (ek k) (entsX ek l).toList) >>= _).run P w = _
    have hf := enX_find (P := P) (kt := kt) (ek := ek) (l := l) (k := k) hk
    rw [hj] at hf
    rw [run_bind_pr hf]
    show (setObj r (.map ((entsX ek l).push ⟨ek k, v, clk⟩) (clk + 1))).run P w = _
    rw [show (entsX ek l).push ⟨ek k, v, clk⟩ = entsX ek (l ++ [⟨k, v, clk⟩]) from entsX_push (e := ⟨k, v, clk⟩)]
    exact run_setMap hw (fun _ _ _ h => by cases h)
  rw [Sem.run_bind, hrun]; rfl

theorem run_choose {β : Type} {n : Nat} (hn : 0 < n) (f : Nat → Sem β) (w : World) : ∃ i n', i < n ∧ ((choose (.mapNext n)) >>= f).run P w = (f i).run P { w with drawn := n' } := by
  by_cases h : (Question.mapNext n).forced = true
  · refine ⟨0, w.drawn, hn, ?_⟩
    show (Sem.choose (.mapNext n) fun n => (Sem.pure n).bind f).run P w = _
    rw [Sem.run, if_pos h]; rfl
  · refine ⟨w.tape w.drawn (.mapNext n) % n, w.drawn + 1, Nat.mod_lt _ hn, ?_⟩
    show (Sem.choose (.mapNext n) fun n => (Sem.pure n).bind f).run P w = _
    rw [Sem.run, if_neg h]; rfl
theorem run_getIt {w : World} {b : Nat} {ob : Obj} (h : w.heap[b]? = some ob) (hob : ∀ c e fr, ob ≠ .cells c e fr) {β : Type} (f : Obj → Sem β) : ((getObj b) >>= f).run P w = (f ob).run P w := by
  show (Sem.getObj b fun o => (Sem.pure o).bind f).run P w = _
  simp only [Sem.run, h]
  cases ob <;> first | exact absurd rfl (hob _ _ _) | rfl
theorem putObj_same {w : World} {b : Nat} {ob : Obj} (h : w.heap[b]? = some ob) : putObj w b ob = w := by
  unfold putObj
  have : w.heap.setIfInBounds b ob = w.heap := by
    apply Array.ext'
    rw [Array.toList_setIfInBounds]
    exact set_self (by rw [Array.getElem?_toList]; exact h)
  rw [this]
theorem Fixed.tup {Vs : List AVal} {vs : Array Value} (hl : Vs.length = vs.size) (h : ∀ (i : Nat) X x, Vs[i]? = some X → vs[i]? = some x → Fixed P X x ∧ ∀ l o, X ≠ .sl l o) : Fixed P (.tup Vs) (.tuple vs) :=
  ⟨fun κ w => .tup _ _ hl fun i X x h1 h2 => (h i X x h1 h2).1.1 κ w, fun w b o hs => by
    rcases hs with ⟨l, o1, c, g1, -⟩ | ⟨Vs', vs', i, X, x, g1, g2, g3, g4, l, o1, c, g5, -⟩
    · cases g1
    · cases g1; cases g2
      exact (h i X x g3 g4).2 _ _ g5⟩
theorem Fixed.agg2 (a b : Value) : Fixed P (.agg [.raw a, .raw b]) (.agg #[a, b]) :=
  ⟨fun κ w => .agg _ _ rfl fun i X x h1 h2 => by
    match i, h1, h2 with
    | 0, h1, h2 => cases h1; cases h2; exact .raw _
    | 1, h1, h2 => cases h1; cases h2; exact .raw _
    | i + 2, h1, _ => simp at h1, fun w b o hs => by
    rcases hs with ⟨l, o1, c, g1, -⟩ | ⟨Vs', vs', i, X, x, g1, -⟩ <;> cases g1⟩

/-- A step of a walk through a map. -/
theorem x_next {q since last : Nat} {seen : Array Nat} (hx : ev T x = .raw (.pointer (some ⟨q, 0, none⟩))) (hq : M q = some (.it (.mapIter (some r) since seen last))) (hM : M r = some (.it (.map (entsX ek l) clk))) (hb : ∀ e ∈ l, e.s < since ∧ e.s < last)
    (hover : (∀ e ∈ l, e.s ∈ seen) → aOps P tkr ops K (i + 1) rest ⟨setT T d (.tup [.raw (.bool false)]), M⟩)
    (hstep : ∀ e ∈ l, e.s ∉ seen → aOps P tkr ops K (i + 1) rest ⟨setT T d (.tup [.raw (.bool true), .raw (ek e.k), .raw e.v]), M.upd q (.it (.mapIter (some r) since (seen.push e.s) clk))⟩) :
    aOps P tkr ops K i (mkO (some d) (.next x false) ty pos af none :: rest) ⟨T, M⟩ := by
  refine o_xs rfl (.inl fun ρ w h1 h2 _ => .inr (.inl ?_))
  have e1 : ρ x = .pointer (some ⟨q, 0, none⟩) := h1 x (by simp [Op.operands]) _ (by rw [hx]; rfl)
  have hwq := h2 q _ hq
  have hwr := h2 r _ hM
  generalize hleft : ((entsX ek l).filter fun e => !seen.contains e.born) = left
  have hmem : ∀ en, en ∈ left ↔ ∃ e ∈ l, e.s ∉ seen ∧ en = ⟨ek e.k, e.v, e.s⟩ := fun en => by
    rw [← hleft]
    simp only [entsX, List.filter_toArray, List.mem_toArray, List.mem_filter, List.mem_map, Bool.not_eq_true', Array.contains_eq_mem, decide_eq_false_iff_not]
    constructor
    · rintro ⟨⟨e, he, rfl⟩, h⟩; exact ⟨e, he, h, rfl⟩
    · rintro ⟨e, he, h, rfl⟩; exact ⟨⟨e, he, rfl⟩, h⟩
  have hold : (left.filter fun e => decide (e.born < since)) = left := by
    rw [Array.filter_eq_self]
    intro en hen
    obtain ⟨e, he, -, rfl⟩ := (hmem en).1 hen
    simpa using (hb e he).1
  have hnew : (left.filter fun e => decide (e.born ≥ since)) = #[] := by
    rw [Array.filter_eq_empty_iff]
    intro en hen
    obtain ⟨e, he, -, rfl⟩ := (hmem en).1 hen
    have := (hb e he).1
    simp; omega
  let cand : Array (Option MapEntry) := (if left.isEmpty then #[none] else #[]) ++ (left ++ #[]).map some
  have hcs : 0 < cand.size := by
    show 0 < ((if left.isEmpty then #[none] else #[]) ++ (left ++ #[]).map some : Array (Option MapEntry)).size
    by_cases h : left.isEmpty
    · simp [h]; omega
    · have : left.size ≠ 0 := fun e => h (by simpa using e)
      simp [h]; omega
  obtain ⟨j, n', hj, hrunc⟩ := run_choose (P := P) hcs (fun j => match cand[j]? with
      | some (some e) => do
        setObj q (.mapIter (some r) since (seen.push e.born) clk)
        pure (Value.tuple #[.bool true, e.key, e.val])
      | some none => pure (Value.tuple #[.bool false])
      | none => stuck "Next: no such candidate") w
  have hguard : (!seen.isEmpty && !(entsX ek l).isEmpty && (entsX ek l).all (fun e => decide (e.born ≥ last))) = false := by
    cases hl : l with
    | nil => simp [entsX]
    | cons e l' =>
      have := (hb e (by rw [hl]; exact List.mem_cons_self)).2
      simp only [entsX, List.map_cons, List.isEmpty_toArray, List.isEmpty_cons, Bool.not_false, Bool.and_true, List.all_toArray, List.all_cons]
      rw [decide_eq_false (show ¬ e.s ≥ last by omega)]
      simp
  have hrun0 : ∀ (v : Value) (w' : World), ((match cand[j]? with
      | some (some e) => do
        setObj q (.mapIter (some r) since (seen.push e.born) clk)
        pure (Value.tuple #[.bool true, e.key, e.val])
      | some none => pure (Value.tuple #[.bool false])
      | none => stuck "Next: no such candidate") : Sem Value).run P { w with drawn := n' } = .ok v w' → (execOp ρ (mkO (some d) (.next x false) ty pos af none)).run P w = .ok (.value v) w' := fun v w' hv => by
    refine run_val (s := Instr.next (ρ x) false ty) ?_
    rw [e1]
    show ((getObj q) >>= _).run P w = _
    rw [run_getIt hwq (fun _ _ _ h => by cases h)]
    show ((getObj r) >>= _).run P w = _
    rw [run_getIt hwr (fun _ _ _ h => by cases h)]
    dsimp only
    rw [if_neg (by rw [hguard]; decide)]
    simp only [hleft, hold, hnew]
    exact hrunc.trans hv
  have hgetc : cand[j]? = some cand[j] := by simp [hj]
  cases hc : cand[j] with
  | none =>
    have hem : left.isEmpty = true := by
      have hin : none ∈ cand := by rw [← hc]; exact Array.getElem_mem hj
      by_cases h : left.isEmpty
      · exact h
      · exfalso
        have : none ∈ ((if left.isEmpty then #[none] else #[]) ++ (left ++ #[]).map some : Array (Option MapEntry)) := hin
        simp [h] at this
    refine ⟨_, .tup [.raw (.bool false)], q, _, .mapIter (some r) since seen last, n', hq, (fun _ _ _ h => by cases h), ?_, Fixed.tup (vs := #[.bool false]) rfl (fun i X x h1 h2 => ?_), ?_⟩
    · rw [putObj_same hwq]
      refine hrun0 (.tuple #[.bool false]) _ ?_
      rw [hgetc, hc]; rfl
    · match i, h1, h2 with
      | 0, h1, h2 => cases h1; cases h2; exact ⟨Fixed.raw _, fun _ _ h => by cases h⟩
      | i + 1, h1, _ => simp at h1
    · rw [Mem.upd_same hq]
      refine hover fun e he => ?_
      by_cases hs : e.s ∈ seen
      · exact hs
      · exfalso
        have : (⟨ek e.k, e.v, e.s⟩ : MapEntry) ∈ left := (hmem _).2 ⟨e, he, hs, rfl⟩
        rw [Array.isEmpty_iff] at hem
        rw [hem] at this
        simp at this
  | some en =>
    have hin : some en ∈ cand := by rw [← hc]; exact Array.getElem_mem hj
    have hin' : en ∈ left := by
      have : some en ∈ ((if left.isEmpty then #[none] else #[]) ++ (left ++ #[]).map some : Array (Option MapEntry)) := hin
      simp only [Array.append_empty, Array.mem_append, Array.mem_map, Option.some.injEq, exists_eq_right] at this
      rcases this with h | h
      · split at h <;> simp at h
      · exact h
    obtain ⟨e, he, hs, rfl⟩ := (hmem en).1 hin'
    refine ⟨_, .tup [.raw (.bool true), .raw (ek e.k), .raw e.v], q, _, .mapIter (some r) since (seen.push e.s) clk, n', hq, (fun _ _ _ h => by cases h), ?_, Fixed.tup (vs := #[.bool true, ek e.k, e.v]) rfl (fun i X x h1 h2 => ?_), hstep e he hs⟩
    · refine hrun0 (.tuple #[.bool true, ek e.k, e.v]) _ ?_
      rw [hgetc, hc]
      show ((setObj q (.mapIter (some r) since (seen.push e.s) clk)) >>= _).run P { w with drawn := n' } = _
      rw [Sem.run_bind, run_setMap (w := { w with drawn := n' }) hwq (fun _ _ _ h => by cases h)]
      rfl
    · match i, h1, h2 with
      | 0, h1, h2 => cases h1; cases h2; exact ⟨Fixed.raw _, fun _ _ h => by cases h⟩
      | 1, h1, h2 => cases h1; cases h2; exact ⟨Fixed.raw _, fun _ _ h => by cases h⟩
      | 2, h1, h2 => cases h1; cases h2; exact ⟨Fixed.raw _, fun _ _ h => by cases h⟩
      | i + 3, h1, _ => simp at h1

/-- The entry at which a walk through a map stands. -/
theorem x_entry {q since s : Nat} {seen : Array Nat} {e : En α} {KA : AVal} (hx : ev T x = .raw (.pointer (some ⟨q, 0, none⟩))) (hq : M q = some (.it (.mapIter (some r) since (seen.push s) clk))) (hM : M r = some (.it (.map (entsX ek l) clk))) (he : l.find? (fun e => e.s = s) = some e) (hK : Fixed P KA (ek e.k)) (hK2 : ∀ l o, KA ≠ .sl l o)
    (h : aOps P tkr ops K (i + 1) rest ⟨setT T d (.tup [KA, .raw e.v]), M⟩) : aOps P tkr ops K i (mkO (some d) (.entry x) ty pos af none :: rest) ⟨T, M⟩ := by
  refine o_xs rfl (.inl fun ρ w h1 h2 _ => .inl ⟨.tuple #[ek e.k, e.v], .tup [KA, .raw e.v], ?_, Fixed.tup rfl (fun i X x h1 h2 => ?_), h⟩)
  · have e1 : ρ x = .pointer (some ⟨q, 0, none⟩) := h1 x (by simp [Op.operands]) _ (by rw [hx]; rfl)
    have hwq := h2 q _ hq
    have hwr := h2 r _ hM
    refine run_val (s := Instr.entry (ρ x)) ?_
    rw [e1]
    show ((getObj q) >>= _).run P w = _
    rw [run_getIt hwq (fun _ _ _ h => by cases h)]
    simp only [Array.back?_push]
    show ((getObj r) >>= _).run P w = _
    rw [run_getIt hwr (fun _ _ _ h => by cases h)]
    have hf : (entsX ek l).find? (fun en => en.born == s) = some ⟨ek e.k, e.v, e.s⟩ := by
      unfold entsX
      rw [List.find?_toArray, List.find?_map]
      have : ((fun (en : MapEntry) => en.born == s) ∘ fun (e : En α) => (⟨ek e.k, e.v, e.s⟩ : MapEntry)) = fun e => decide (e.s = s) := by
        funext q
        show (q.s == s) = _
        by_cases h : q.s = s <;> simp [h]
      rw [this, he]; rfl
    simp only [hf, bne_self_eq_false, Bool.false_eq_true, if_false]
    rfl
  · match i, h1, h2 with
    | 0, h1, h2 => cases h1; cases h2; exact ⟨hK, hK2⟩
    | 1, h1, h2 => cases h1; cases h2; exact ⟨Fixed.raw _, fun _ _ h => by cases h⟩
    | i + 2, h1, _ => simp at h1
end

section
variable {P : Program} {tkr : Nat → Option Nat} {ops : Array Oper} {K : St → Prop} {i : Nat} {rest : List Oper} {d : Nat} {dst : Option Nat} {T : Nat → AVal} {M : Mem} {ty st e : TypeId} {pos : String} {af : Array Edge} {x y z : Operand} {ats : Array TypeId}
  {β : Type} {f : β → AVal} {z0 : β} {g : Option (Nat × Bool)}

/-- An append onto a slice in memory. -/
theorem o_appr {by_ b n c : Nat} {l m : List β} {own : Bool} (ht : SlT P st e 1 by_) (h0 : ats[0]? = some st) (h1 : ats[1]? = some st) (hz : zeroCellsT P e = some [f z0]) (hf : ∀ a, (f a).shut = f a ∧ (f a).cells = [f a] ∧ (f a).ok = true ∧ (f a).unit = true)
    (hx : ev T x = .raw (.slice (some ⟨b, 0, none⟩) n c)) (hb : M b = some (.cells (l.map f))) (hc : c ≤ l.length) (hn : n ≤ c) (hy : srcM M (ev T y) = some (.sl (m.map f) own)) (hle : (n + m.length) * by_ ≤ 2 ^ 47)
    (k1 : n + m.length ≤ c → aOps P tkr ops K (i + 1) rest ⟨setT T d (.raw (.slice (some ⟨b, 0, none⟩) (n + m.length) c)), M.upd b (.cells ((l.take n ++ m ++ l.drop (n + m.length)).map f))⟩)
    (k2 : ¬ n + m.length ≤ c → ∀ b' q, M b' = none → aOps P tkr ops K (i + 1) rest ⟨setT T d (.raw (.slice (some ⟨b', 0, none⟩) (n + m.length) (n + m.length + q))), M.upd b' (.cells ((l.take n ++ m ++ List.replicate q z0).map f))⟩) :
    aOps P tkr ops K i (mkO (some d) (.call { callee := .builtin .append, args := #[x, y], argTypes := ats }) ty pos af none :: rest) ⟨T, M⟩ := by
  refine o_xs rfl (.inr ⟨rfl, .inl ⟨_, st, e, f z0, hy, h0, ht.u, hz, (hf z0).2.2.2, .inr ⟨b, 0, n, c, hx, l.map f, m.map f, hb, by simp; omega, hn, ?_, fun a ha => ?_, ?_, fun hr => ?_, fun hr b' c' hb' hc' => ?_⟩⟩⟩)
  · rw [List.drop_zero, ← List.map_take, List.all_map, List.all_eq_true]
    exact fun a _ => (hf a).2.2.2
  · obtain ⟨a, -, rfl⟩ := List.mem_map.1 ha
    exact (hf a).2.1
  · rw [List.drop_zero, ← List.map_take, shut_map fun a => (hf a).1]
    have el : ∀ l : List β, Els 1 (l.map f) := fun l => Els.map fun a => ⟨(hf a).2.2.1, by rw [(hf a).2.1]; rfl⟩
    rw [aAppend_eq ht h0 h1 (el _) (el _) (by rw [List.length_map, List.length_map, List.length_take, Nat.min_eq_left (by omega)]; exact hle)]
  · rw [List.length_map] at hr ⊢
    have : splice (l.map f) (0 + n) ((m.map f).map AVal.shut) = (l.take n ++ m ++ l.drop (n + m.length)).map f := by
      rw [shut_map fun a => (hf a).1]
      simp only [splice, Nat.zero_add, List.length_map, List.map_append, List.map_take, List.map_drop]
    rw [this]
    exact k1 hr
  · rw [List.length_map] at hr hc' ⊢
    have := k2 hr b' (c' - (n + m.length)) hb'
    rw [show n + m.length + (c' - (n + m.length)) = c' by omega] at this
    rw [List.drop_zero, ← List.map_take, shut_map fun a => (hf a).1, shut_map fun a => (hf a).1]
    simp only [List.map_append, List.map_replicate] at this
    exact this

/-- A slice in memory is cleared. -/
theorem o_clr {b off n c : Nat} {l : List β} (h0 : ats[0]? = some st) (hu : P.underlying st = some (.slice e)) (hz : zeroCellsT P e = some [f z0]) (hf : ∀ a, (f a).shut = f a ∧ (f a).cells = [f a] ∧ (f a).ok = true ∧ (f a).unit = true)
    (hx : ev T x = .raw (.slice (some ⟨b, off, none⟩) n c)) (hb : M b = some (.cells (l.map f))) (hc : off + n ≤ l.length)
    (k : aOps P tkr ops K (i + 1) rest (Eff.apply ⟨none, M.upd b (.cells ((l.take off ++ List.replicate n z0 ++ l.drop (off + n)).map f)), .raw (.tuple #[])⟩ ⟨T, M⟩ dst)) : aOps P tkr ops K i (mkO dst (.call { callee := .builtin .clear, args := #[x], argTypes := ats }) ty pos af none :: rest) ⟨T, M⟩ := by
  refine o_xs rfl (.inr ⟨st, e, f z0, h0, hu, hz, (hf z0).2.2.2, ?_⟩)
  by_cases hn : n = 0
  · subst hn
    refine .inl ⟨_, _, hx, ?_⟩
    rw [show l.take off ++ List.replicate 0 z0 ++ l.drop (off + 0) = l by simp, Mem.upd_same hb] at k
    exact k
  · refine .inr ⟨b, off, n, c, _, hx, hn, hb, by simpa using hc, ?_⟩
    rw [(hf z0).1]
    have : splice (l.map f) off (List.replicate n (f z0)) = (l.take off ++ List.replicate n z0 ++ l.drop (off + n)).map f := by
      simp only [splice, List.length_replicate, List.map_append, List.map_take, List.map_drop, List.map_replicate]
    rw [this]
    exact k

/-- A slice of a slice in memory. -/
theorem q_slr {t : TypeId} {sz b off n c a h m : Nat} {lo hi mx : Option Operand} {lo' hi' mx' : Option Value} (hu : P.underlying t = some (.slice e)) (hs : sizeT P e = some sz) (hx : ev T x = .raw (.slice (some ⟨b, off, none⟩) n c)) (hlo : (lo.mapM fun x => rawOf (ev T x)) = some lo') (hhi : (hi.mapM fun x => rawOf (ev T x)) = some hi') (hmx : (mx.mapM fun x => rawOf (ev T x)) = some mx')
    (hb : pr P (Instr.sliceBounds true n c lo' hi' mx') = some (a, h, m)) :
    qstep P none (mkO dst (.slice t x lo hi mx) ty pos af g) T M = some (⟨none, .raw (.slice (some ⟨b, if m = a then off else off + a * sz, none⟩) (h - a) (m - a))⟩, []) := by
  have e1 : pr P (Instr.sliceAt t (.slice (some ⟨b, off, none⟩) n c) lo' hi' mx') = some (.slice (some ⟨b, if m = a then off else off + a * sz, none⟩) (h - a) (m - a)) := by
    unfold Instr.sliceAt
    rw [pr_b, pr_underlying hu]
    show pr P (Instr.slice t (.slice (some ⟨b, off, none⟩) n c) lo' hi' mx') = _
    unfold Instr.slice
    rw [pr_b, pr_underlying hu]
    show pr P (Instr.sliceBounds true n c lo' hi' mx' >>= _) = _
    rw [pr_b, hb]
    show pr P (sizeOf e >>= _) = _
    rw [pr_b, pr_sizeT hs]
    show some (Value.slice (if m = a then some ⟨b, off, none⟩ else (some (⟨b, off, none⟩ : Addr)).map (·.add (a * sz))) (h - a) (m - a)) = _
    by_cases hm : m = a
    · simp [hm]
    · simp [hm, addr_add]
  have e2 : aop P T M ty (.slice t x lo hi mx) = some (.raw (.slice (some ⟨b, if m = a then off else off + a * sz, none⟩) (h - a) (m - a))) := by
    simp only [aop, aSlice, hx, hlo, hhi, hmx, e1]; rfl
  simp only [qstep, e2, Option.map_some, readsOf, AVal.shut, AVal.shut1]
theorem bnd_l {n c a : Nat} {k : IntKind} (h : a ≤ n) (hc : n ≤ c) : pr P (Instr.sliceBounds true n c (some (.int k a)) none none) = some (a, n, c) :=
  pr_sliceBounds _ _ _ (fun v e => ⟨k, a, by cases e; rfl, by omega, by omega⟩) (fun e => by cases e) (fun v e => by cases e) (fun _ => rfl) (fun v e => by cases e) (fun _ => rfl) (fun e => by cases e) h hc (Nat.le_refl _)
theorem bnd_h {n c h : Nat} {k : IntKind} (hc : h ≤ c) : pr P (Instr.sliceBounds true n c none (some (.int k h)) none) = some (0, h, c) :=
  pr_sliceBounds _ _ _ (fun v e => by cases e) (fun _ => rfl) (fun v e => ⟨k, h, by cases e; rfl, by omega, by omega⟩) (fun e => by cases e) (fun v e => by cases e) (fun _ => rfl) (fun e => by cases e) (by omega) hc (Nat.le_refl _)
theorem bnd_lh {n c a h : Nat} {k k' : IntKind} (ha : a ≤ h) (hc : h ≤ c) : pr P (Instr.sliceBounds true n c (some (.int k a)) (some (.int k' h)) none) = some (a, h, c) :=
  pr_sliceBounds _ _ _ (fun v e => ⟨k, a, by cases e; rfl, by omega, by omega⟩) (fun e => by cases e) (fun v e => ⟨k', h, by cases e; rfl, by omega, by omega⟩) (fun e => by cases e) (fun v e => by cases e) (fun _ => rfl) (fun e => by cases e) ha hc (Nat.le_refl _)
theorem bnd_lhm {n c a h m : Nat} {k k' k'' : IntKind} (ha : a ≤ h) (hm : h ≤ m) (hc : m ≤ c) : pr P (Instr.sliceBounds true n c (some (.int k a)) (some (.int k' h)) (some (.int k'' m))) = some (a, h, m) :=
  pr_sliceBounds _ _ _ (fun v e => ⟨k, a, by cases e; rfl, by omega, by omega⟩) (fun e => by cases e) (fun v e => ⟨k', h, by cases e; rfl, by omega, by omega⟩) (fun e => by cases e) (fun v e => ⟨k'', m, by cases e; rfl, by omega, by omega⟩) (fun e => by cases e) (fun _ => rfl) ha hm hc

theorem q_shrn {kk : IntKind} {m : Nat} {a : Int} {t₁ t₂ : TypeId} (hx : ev T x = .raw (.int .i64 (m : Int))) (hy : ev T y = .raw (.int kk a)) (h0 : 0 ≤ a) (ha : a ≤ 64) : qstep P none (mkO dst (.binOp .shr t₁ x y t₂) ty pos af g) T M = some (⟨none, .raw (.int .i64 ((m / 2 ^ a.toNat : Nat) : Int))⟩, []) := by
  obtain ⟨n, rfl⟩ := Int.eq_ofNat_of_zero_le h0
  rw [q_shr hx hy (show n ≤ 64 by omega)]
  simp
theorem q_xorn {m n : Nat} {t₁ t₂ : TypeId} (hx : ev T x = .raw (.int .i64 (m : Int))) (hy : ev T y = .raw (.int .i64 (n : Int))) (hm : m < 2 ^ 63) (hn : n < 2 ^ 63) : qstep P none (mkO dst (.binOp .xor t₁ x y t₂) ty pos af g) T M = some (⟨none, .raw (.int .i64 ((m ^^^ n : Nat) : Int))⟩, []) := by
  have := Nat.xor_lt_two_pow hm hn
  exact q_bits (op := .xor) (m := m) (n := n) (r := m ^^^ n) hx hy (by show m < 2 ^ 64; omega) (by show n < 2 ^ 64; omega) (.inr (.inr ⟨rfl, rfl⟩)) (wrap64 (by omega) (by omega))
theorem q_and1n {m : Nat} {t₁ t₂ : TypeId} (hx : ev T x = .raw (.int .i64 (m : Int))) (hy : ev T y = .raw (.int .i64 1)) (hm : m < 2 ^ 63) : qstep P none (mkO dst (.binOp .and t₁ x y t₂) ty pos af g) T M = some (⟨none, .raw (.int .i64 ((m % 2 : Nat) : Int))⟩, []) := by
  rw [q_and1 hx hy ⟨by omega, by omega⟩]
  simp
theorem xor_mod2 (m n : Nat) : ((m ^^^ n) % 2 = 0) ↔ m % 2 = n % 2 := by
  rw [show (m ^^^ n) % 2 = ((m ^^^ n) &&& 1) from (Nat.and_one_is_mod _).symm, Nat.and_comm]
  have h : (1 &&& (m ^^^ n)) = (1 &&& m) ^^^ (1 &&& n) := Nat.and_xor_distrib_left
  rw [h, Nat.and_comm 1 m, Nat.and_comm 1 n, Nat.and_one_is_mod, Nat.and_one_is_mod]
  have h1 : m % 2 = 0 ∨ m % 2 = 1 := by omega
  have h2 : n % 2 = 0 ∨ n % 2 = 1 := by omega
  rcases h1 with h1 | h1 <;> rcases h2 with h2 | h2 <;> rw [h1, h2] <;> decide
theorem xor_mod2i (m n : Nat) : (((m ^^^ n : Nat) : Int) % 2 = 0) ↔ m % 2 = n % 2 := by
  rw [← xor_mod2]; omega
theorem src_off {b off n c : Nat} {l : List β} (hf : ∀ a, (f a).shut = f a) (hb : M b = some (.cells (l.map f))) (h : n = 0 ∨ off + n ≤ l.length) (hy : ev T y = .raw (.slice (some ⟨b, off, none⟩) n c)) : srcM M (ev T y) = some (.sl (((l.drop off).take n).map f) false) := by
  rw [hy]
  unfold srcM
  dsimp only
  by_cases e : n = 0
  · subst e; rfl
  · rw [if_neg e, hb]
    dsimp only
    rw [if_pos (by simp; omega), ← List.map_drop, ← List.map_take, shut_map hf]

theorem bfa {t : TypeId} {i m n : Nat} {V : AVal} {cells cells' out : List AVal} {rest : List (Nat × Operand)} (hu : P.underlying t = some (.array m e)) (hs : sizeT P e = some n) (hV : ev T x = V) (hok : V.ok = true) (hn : V.cells.length = n) (hl : i * n + n ≤ cells.length) (hc : cells.take (i * n) ++ V.cells ++ cells.drop (i * n + n) = cells') (h : BF P t T cells' rest out) : BF P t T cells ((i, x) :: rest) out := by
  intro place hp
  subst hV; subst hc; subst hn
  have h1 := h place hp
  have hf : place i = some (i * (ev T x).cells.length, (ev T x).cells.length) := by
    unfold aPlaces at hp
    rw [hu] at hp
    dsimp only at hp
    rw [hs] at hp
    obtain rfl := Option.some.inj hp
    rfl
  simp only [List.map_cons, aFill, hf]
  rw [if_neg (by simp [hok]; omega)]
  exact h1
end
end Go.Am

/-! From the kit's contracts to ours: what a callee leaves below its own blocks; maps that are known to the last as the kit's owned maps. -/
namespace Go.Am
set_option linter.unusedVariables false
set_option linter.unusedSimpArgs false
set_option linter.unusedSectionVars false
section
variable {P : Program} {κ : Ghost} {w w' : World} {M : Mem}

/-- Nothing that lay before has turned. -/
theorem Holds.below {T : Nat → AVal} {V : Nat → Value} (h : Holds P κ T V M w) (hb : Go.RowKit.Below w.heap.size w w') : Holds P κ T V M w' ∧ Keep κ w κ w' := by
  have hb' : ∀ b, b < w.heap.size → w'.heap[b]? = w.heap[b]? := hb.block
  have hk : Keep κ w κ w' := ⟨hb.os, hb.tape, hb.output, hb.size, fun b hb => shape_of_block (hb' b hb), fun b x hx => ⟨hx, cell_of_block (hb' b (h.tag b x (by rw [hx]; simp)).1)⟩,
    fun b x hx => ⟨hx, cell_of_block (hb' b (h.tag b x (by rw [hx]; simp)).1), frozen_of_block (hb' b (h.tag b x (by rw [hx]; simp)).1)⟩, fun b hb _ => hb' b hb⟩
  refine ⟨⟨fun t => hk.rep (h.tmp t), fun b o hb => ?_, fun b o hb => ⟨Nat.lt_of_lt_of_le (h.tag b o hb).1 hk.size, (h.tag b o hb).2⟩, fun t b o hsp => h.sp t b o (hsp.keep (h.tmp t) hk.shape), fun b o t hb => ?_, fun b o c j hb => ?_⟩, hk⟩
  · have hlt' := h.lt hb
    have := h.obj b o hb
    cases o with
    | it o => exact ⟨(hb' b hlt').trans this.1, this.2⟩
    | cells l =>
      obtain ⟨c, e, fr, a1, a2, a3, a4⟩ := this
      exact ⟨c, e, fr, (hb' b hlt').trans a1, a2, fun x hx => (frozen_of_block (hb' b hlt')).trans (a3 x hx), fun j X x e1 e2 => ⟨hk.rep (a4 j X x e1 e2).1, (a4 j X x e1 e2).2.1, fun b' o' hs => (a4 j X x e1 e2).2.2 b' o' (hs.keep (a4 j X x e1 e2).1 hk.shape)⟩⟩
    | map es =>
      obtain ⟨ents, clock, a1, a2, a3, a4, a5⟩ := this
      exact ⟨ents, clock, (hb' b hlt').trans a1, a2, fun j e ent e1 e2 => ⟨(a3 j e ent e1 e2).1, hk.rep (a3 j e ent e1 e2).2.1, fun b' o' hs => (a3 j e ent e1 e2).2.2 b' o' (hs.keep (a3 j e ent e1 e2).2.1 hk.shape)⟩, a4, a5⟩
  · have := h.wr b o t hb
    have hlt' := (h.tag b o (by rw [hb]; simp)).1
    exact ⟨by rw [cell_of_block (hb' b hlt')]; exact this.1, by rw [frozen_of_block (hb' b hlt')]; exact this.2⟩
  · have := h.mwr b o c j hb
    have hlt' := (h.tag b o (by rw [hb]; simp)).1
    exact ⟨by rw [cell_of_block (hb' b hlt')]; exact this.1, by rw [frozen_of_block (hb' b hlt')]; exact this.2⟩

/-- A row of texts that nobody else knows of is one that stays. -/
theorem Holds.row {T : Nat → AVal} {V : Nat → Value} (h : Holds P κ T V M w) (hb : Go.RowKit.Below w.heap.size w w') {g cap : Nat} {cur : Array Value} {e : TypeId} (hg : w.heap.size ≤ g) (hblk : w'.heap[g]? = some (.cells cur e (0, 0))) {l : List AVal} (hcap : l.length ≤ cap) (hsz : cap = cur.size) (hl : ∀ X ∈ l, X.cells = [X]) (hv : ∀ (j : Nat) X v, l[j]? = some X → cur[j]? = some v → Rep P κ w' X v) :
    ∃ κ', Holds P κ' (argT [.sl l false]) (fun t => if t = 0 then .slice (some ⟨g, 0, none⟩) l.length cap else undef) M w' ∧ Keep κ w κ' w' := by
  obtain ⟨h1, hk1⟩ := h.below hb
  have hfree : ∀ o, κ g o = .free := fun o => by
    cases hq : κ g o with
    | free => rfl
    | _ => exact absurd (h.tag g o (by rw [hq]; simp)).1 (by omega)
  let κ' : Ghost := fun b o => if b = g ∧ o < l.length then .imm else κ b o
  have hne : ∀ b o, κ b o ≠ .free → κ' b o = κ b o := fun b o hq => by
    show (if b = g ∧ o < l.length then Tag.imm else κ b o) = _
    rw [if_neg]
    rintro ⟨rfl, -⟩
    exact hq (hfree o)
  have hk2 : Keep κ w' κ' w' := ⟨rfl, rfl, rfl, Nat.le_refl _, fun _ _ => rfl, fun b o hq => ⟨by rw [hne b o (by rw [hq]; simp)]; exact hq, rfl⟩, fun b o hq => ⟨by rw [hne b o (by rw [hq]; simp)]; exact hq, rfl, rfl⟩, fun _ _ _ => rfl⟩
  have hgl : g < w'.heap.size := (Array.getElem?_eq_some_iff.1 hblk).1
  have hMg : M g = none := by
    cases hm : M g with
    | none => rfl
    | some o => exact absurd (h.lt hm) (by omega)
  have hfl : flat l = l := flat_units hl
  refine ⟨κ', ⟨fun t => ?_, fun b o hb => ?_, fun b o hq => ?_, fun t b o hsp => ?_, fun b o t hq => ?_, fun b o c j hq => ?_⟩, hk1.trans hk2⟩
  · by_cases ht : t = 0
    · subst ht
      have hcs : ∀ j, j < l.length → w'.cell? ⟨g, 0 + j, none⟩ = some (cur.getD j undef) := fun j hj => by
        rw [cell_of_cells hblk]
        have : j < cur.size := by omega
        simp [Array.getD, this]
      refine .sl l false g 0 cap 1 (fun j => cur.getD j undef) hcap (fun X hX => by rw [hl X hX]; rfl) (fun j hj => ?_) (fun j hj => hcs j (by rwa [hfl] at hj)) (fun j c hc => ?_) (fun e => by cases e)
      · rw [hfl] at hj
        show (if g = g ∧ 0 + j < l.length then Tag.imm else _) = _
        rw [if_pos ⟨rfl, by omega⟩]
      · rw [hfl] at hc
        have hj : j < l.length := (List.getElem?_eq_some_iff.1 hc).1
        have hj2 : j < cur.size := by omega
        have e : cur.getD j undef = cur[j] := by simp [Array.getD, hj2]
        rw [e]
        exact hk2.rep (hv j c cur[j] hc (by simp [hj2]))
    · obtain ⟨k, rfl⟩ : ∃ k, t = k + 1 := ⟨t - 1, by omega⟩
      exact .undef _
  · have := h1.obj b o hb
    cases o with
    | it o => exact this
    | cells l =>
      obtain ⟨c, e, fr, a1, a2, a3, a4⟩ := this
      exact ⟨c, e, fr, a1, a2, a3, fun j X x e1 e2 => ⟨hk2.rep (a4 j X x e1 e2).1, (a4 j X x e1 e2).2.1, fun b' o' hs => by
        have := (a4 j X x e1 e2).2.2 b' o' hs
        rw [hne b' o' (by rw [this]; simp)]; exact this⟩⟩
    | map es =>
      obtain ⟨ents, clock, a1, a2, a3, a4, a5⟩ := this
      exact ⟨ents, clock, a1, a2, fun j e ent e1 e2 => ⟨(a3 j e ent e1 e2).1, hk2.rep (a3 j e ent e1 e2).2.1, fun b' o' hs => by
        have := (a3 j e ent e1 e2).2.2 b' o' hs
        rw [hne b' o' (by rw [this]; simp)]; exact this⟩, a4, a5⟩
  · by_cases hq' : κ b o = .free
    · have : b = g ∧ o < l.length := by
        refine Classical.byContradiction fun hn => hq ?_
        show (if b = g ∧ o < l.length then Tag.imm else κ b o) = _
        rw [if_neg hn]; exact hq'
      exact ⟨by rw [this.1]; exact hgl, by rw [this.1]; exact hMg⟩
    · exact h1.tag b o hq'
  · by_cases ht : t = 0
    · subst ht
      rcases hsp with ⟨l', o1, c1, g1, -⟩ | ⟨Vs, vs', i, X, x, g1, -⟩ <;> cases g1
    · obtain ⟨k, rfl⟩ : ∃ k, t = k + 1 := ⟨t - 1, by omega⟩
      rcases hsp with ⟨l', o1, c1, g1, -⟩ | ⟨Vs, vs', i, X, x, g1, -⟩ <;> cases g1
  · have hq2 : κ b o = .slot t := by
      by_cases hf : κ b o = .free
      · have : b = g ∧ o < l.length ∨ ¬ (b = g ∧ o < l.length) := Classical.em _
        rcases this with h' | h'
        · have : κ' b o = .imm := if_pos h'
          rw [this] at hq; cases hq
        · have : κ' b o = κ b o := if_neg h'
          rw [← this]; exact hq
      · rw [← hne b o hf]; exact hq
    exact h1.wr b o t hq2
  · have hq2 : κ b o = .mslot c j := by
      by_cases hf : κ b o = .free
      · have : b = g ∧ o < l.length ∨ ¬ (b = g ∧ o < l.length) := Classical.em _
        rcases this with h' | h'
        · have : κ' b o = .imm := if_pos h'
          rw [this] at hq; cases hq
        · have : κ' b o = κ b o := if_neg h'
          rw [← this]; exact hq
      · rw [← hne b o hf]; exact hq
    exact h1.mwr b o c j hq2
end

/-- Go's order of texts. -/
def sortS (l : List ByteArray) : List ByteArray := l.mergeSort fun x y => decide (x.data.toList ≤ y.data.toList)
def anyR (v : Value) : Option (DataW Unit × List MemPlace) := some (.lit (.bool true), [])
def keysD (l : List (En ByteArray)) : DataW Unit := .map (((entsX Value.string l).toList.map fun x => ((match x.key with | .string s => .string s.data.toList | _ => .bool false : Lit), (DataW.lit (.bool true) : DataW Unit))).foldr DataW.insert [])
theorem owns_keys {P : Program} {kt r clk : Nat} {l : List (En ByteArray)} {w : World} (hk : P.underlying kt = some .string) (hr : w.heap[r]? = some (.map (entsX Value.string l) clk)) (hl : l.length ≤ maxLen) (hs : ∀ e ∈ l, e.k.size ≤ maxLen) (hst : ∀ e ∈ l, e.s < clk) (hsn : (l.map En.s).Nodup) (hnd : (l.map En.k).Nodup) :
    w.ownsMap P kt anyR r l.length (keysD l) ∧ (l.map fun e => e.k.data.toList).Perm (strKeys (keysD l)) ∧ Go.Maps.size (keysD l) = l.length := by
  have hkey : ∀ s : ByteArray, s.size ≤ maxLen → keyOf P kt (.string s) = some (.string s.data.toList) := fun s hs => by
    unfold keyOf
    rw [hk]
    simp only [mapKey, hk]
    rw [if_pos hs]
  have hrd : ∀ e ∈ l, Go.WideElems.rd P kt anyR (⟨.string e.k, e.v, e.s⟩ : MapEntry) = some (.string e.k.data.toList, .lit (.bool true)) := fun e he => by
    unfold Go.WideElems.rd
    rw [hkey e.k (hs e he)]; rfl
  have hmem : ∀ x, x ∈ (entsX Value.string l).toList ↔ ∃ e ∈ l, (⟨.string e.k, e.v, e.s⟩ : MapEntry) = x := fun x => by simp [entsX]
  have hkeyinj : ∀ {a b : ByteArray}, a.data.toList = b.data.toList → a = b := fun {a b} h => by
    cases a; cases b
    simp only [ByteArray.mk.injEq]
    exact Array.ext' h
  have hfit : Go.WideElems.Fit P kt anyR (entsX Value.string l) clk := by
    refine ⟨by simpa [entsX] using hl, ⟨fun x hx => ?_, ?_, ?_⟩, fun x hx => ?_⟩
    · obtain ⟨e, he, rfl⟩ := (hmem x).1 hx
      exact hst e he
    · have : (entsX Value.string l).toList.map (·.born) = l.map En.s := by simp [entsX]
      rw [this]; exact hsn
    · have : (entsX Value.string l).toList.map (·.key) = (l.map En.k).map Value.string := by simp [entsX]
      rw [this]
      exact (List.Pairwise.map _ (fun a b hab => fun e => hab (by cases e; rfl)) hnd)
    · obtain ⟨e, he, rfl⟩ := (hmem x).1 hx
      exact ⟨_, hrd e he⟩
  have hD : keysD l = .map (((entsX Value.string l).toList.map (Go.WideElems.rg P kt anyR)).foldr DataW.insert []) := by
    unfold keysD
    congr 2
    apply List.map_congr_left
    intro x hx
    obtain ⟨e, he, rfl⟩ := (hmem x).1 hx
    unfold Go.WideElems.rg
    rw [hrd e he]; rfl
  have hown : w.ownsMap P kt anyR r l.length (keysD l) := ⟨_, clk, hr, hfit, by simp [entsX], hD⟩
  refine ⟨hown, ?_, ?_⟩
  · obtain ⟨es, he1, hpw, -⟩ := hown.entries (Go.Maps.string_keyed hk)
    obtain ⟨es', he2, hko⟩ := hown.keysOf
    rw [he1] at he2; cases he2
    rw [he1]
    refine perm_strKeys hpw (fun p hp => by obtain ⟨v, hv⟩ := hko p hp; obtain ⟨x, _, hx, _⟩ := Go.Maps.keyOf_str hk hv; exact ⟨x, hx⟩) ?_ fun x => ?_
    · rw [show (l.map fun e => e.k.data.toList) = (l.map En.k).map fun k => k.data.toList by simp]
      exact List.Pairwise.map _ (fun a b hab => fun e => hab (hkeyinj e)) hnd
    · rw [Go.Maps.has_eq, List.any_eq_true]
      have hes : ∀ p, p ∈ es ↔ ∃ e ∈ l, (Lit.string e.k.data.toList, (DataW.lit (.bool true) : DataW Unit)) = p := fun p => by
        have : (DataW.map es : DataW Unit) = .map (((entsX Value.string l).toList.map fun x => ((match x.key with | .string s => .string s.data.toList | _ => .bool false : Lit), (DataW.lit (.bool true) : DataW Unit))).foldr DataW.insert []) := he1.symm
        injection this with this
        rw [this, mem_sorted, List.mem_map]
        constructor
        · rintro ⟨x, hx, rfl⟩
          obtain ⟨e, he, rfl⟩ := (hmem x).1 hx
          exact ⟨e, he, rfl⟩
        · rintro ⟨e, he, rfl⟩
          exact ⟨_, (hmem _).2 ⟨e, he, rfl⟩, rfl⟩
      rw [List.mem_map]
      constructor
      · rintro ⟨e, he, rfl⟩
        exact ⟨_, (hes _).2 ⟨e, he, rfl⟩, by simp [Lit.sameKey]⟩
      · rintro ⟨p, hp, hsk⟩
        obtain ⟨e, he, rfl⟩ := (hes p).1 hp
        exact ⟨e, he, by simpa [Lit.sameKey] using hsk⟩
  · unfold keysD
    rw [Go.Maps.size_eq]
    have := (Go.WideShapes.sorted_perm ((entsX Value.string l).toList.map fun x => ((match x.key with | .string s => .string s.data.toList | _ => .bool false : Lit), (DataW.lit (.bool true) : DataW Unit)))).length_eq
    rw [this]
    simp [entsX]
theorem sort_keys {l : List ByteArray} {ss : List (List UInt8)} (h : ss.Perm (l.map fun k => k.data.toList)) : ss.mergeSort leB = (sortS l).map fun k => k.data.toList := by
  rw [mergeSort_of_perm h]
  unfold sortS
  exact (List.map_mergeSort (r := fun x y : ByteArray => decide (x.data.toList ≤ y.data.toList)) (s := leB) (f := fun k : ByteArray => k.data.toList) (fun a _ b _ => rfl)).symm

section
variable {P : Program} {tkr : Nat → Option Nat} {ops : Array Oper} {K : St → Prop} {i : Nat} {rest : List Oper} {d : Nat} {T : Nat → AVal} {M : Mem} {ty : TypeId} {pos : String} {af : Array Edge} {x y : Operand} {ats : Array TypeId}
/-- A value is put into an interface. -/
theorem x_iface {t : TypeId} {v : Value} {u : TypeDesc} (hu : P.underlying t = some u) (hi : ∀ ms, u ≠ .interface ms) (hx : ev T x = .raw v)
    (h : aOps P tkr ops K (i + 1) rest ⟨setT T d (.raw (.iface t v)), M⟩) : aOps P tkr ops K i (mkO (some d) (.makeInterface t x) ty pos af none :: rest) ⟨T, M⟩ := by
  refine o_xs rfl (.inl fun ρ w h1 h2 _ => .inl ⟨.iface t v, _, ?_, Fixed.raw _, h⟩)
  have e1 : ρ x = v := h1 x (by simp [Op.operands]) _ (by rw [hx]; rfl)
  refine run_val (s := Instr.makeInterface t (ρ x)) ?_
  rw [e1]
  show ((underlying t) >>= _).run P w = _
  rw [run_bind_pr (pr_underlying hu)]
  cases u <;> first | rfl | exact absurd rfl (hi _)
/-- And taken out again. -/
theorem x_assert {t xt kt et : TypeId} {v : Value} (hu : P.underlying t = some (.map kt et)) (hx : ev T x = .raw (.iface t v))
    (h : aOps P tkr ops K (i + 1) rest ⟨setT T d (.raw v), M⟩) : aOps P tkr ops K i (mkO (some d) (.typeAssert x xt t false) ty pos af none :: rest) ⟨T, M⟩ := by
  refine o_xs rfl (.inl fun ρ w h1 h2 _ => .inl ⟨v, _, ?_, Fixed.raw _, h⟩)
  have e1 : ρ x = .iface t v := h1 x (by simp [Op.operands]) _ (by rw [hx]; rfl)
  refine run_val (s := Instr.typeAssert (ρ x) xt t false) ?_
  rw [e1]
  unfold Instr.typeAssert
  show ((underlying t) >>= _).run P w = _
  rw [run_bind_pr (pr_underlying hu)]
  show (if t = t then _ else _ : Sem Value).run P w = _
  rw [if_pos rfl]; rfl
theorem pr_mapnil {t kt et : TypeId} {p : Option Nat} (hu : P.underlying t = some (.map kt et)) : pr P (Op.equal t (.map p) (.map none)) = some p.isNone := by
  show pr P (underlying t >>= _) = _
  rw [pr_b, pr_underlying hu]
  cases p <;> rfl
/-- A map is held against nil. -/
theorem q_meql {t t' kt et : TypeId} {p : Option Nat} {dst : Option Nat} {g : Option (Nat × Bool)} (hu : P.underlying t = some (.map kt et)) (hx : ev T x = .raw (.map p)) (hy : ev T y = .raw (.map none)) : qstep P none (mkO dst (.binOp .eql t x y t') ty pos af g) T M = some (⟨none, .raw (.bool p.isNone)⟩, []) := by
  refine q_bin' hx hy ?_
  show (pr P (Op.equal t (.map p) (.map none) >>= _)).map AVal.raw = _
  rw [pr_b, pr_mapnil hu]; rfl
/-- The model's own copy of a map. -/
theorem x_clone {f : FuncId} {fn : Func} {t : TypeId} {r clk : Nat} {es : Array MapEntry} (hf : P.funcs[f]? = some fn) (hname : (fn.name == "runtime.NumGoroutine") = false) (hb : fn.body.isNone = true) (hn : Extern.findNext fn = none) (he : Extern.find fn = some Extern.MapsClone.clone)
    (hx : ev T x = .raw (.iface t (.map (some r)))) (hM : M r = some (.it (.map es clk)))
    (h : ∀ b, M b = none → aOps P tkr ops K (i + 1) rest ⟨setT T d (.raw (.iface t (.map (some b)))), M.upd b (.it (.map es clk))⟩) : aOps P tkr ops K i (mkO (some d) (.call { callee := .value (.func f), args := #[x], argTypes := ats }) ty pos af none :: rest) ⟨T, M⟩ := by
  refine o_xs rfl (.inl fun ρ w h1 h2 h3 => .inr (.inr (.inr ⟨.iface t (.map (some w.heap.size)), .map es clk, (fun _ _ _ h => by cases h), ?_, h _ h3⟩)))
  have e1 : ρ x = .iface t (.map (some r)) := h1 x (by simp [Op.operands, Call.operands]) _ (by rw [hx]; rfl)
  have e0 : ρ (.func f) = .func (.func f) #[] #[] := h1 (.func f) (by simp [Op.operands, Call.operands]) _ rfl
  show ((Deferred.ofValue (ρ (.func f)) (#[x].map ρ)) >>= fun d => invoke d.target d.args).run P w = _
  rw [show (#[x] : Array Operand).map ρ = #[ρ x] by simp, e0, e1]
  show (callFunc f #[.iface t (.map (some r))]).run P w = _
  have h4 : fn.name ≠ "runtime.NumGoroutine" := by simpa using hname
  have h5 : fn.body = none := by simpa using hb
  have hrun : (Extern.MapsClone.clone #[.iface t (.map (some r))]).run P w = .ok (.iface t (.map (some w.heap.size))) (Am.push w (.map es clk)) := by
    show ((getObj r) >>= _).run P w = _
    rw [run_getObj (h2 r _ hM)]; rfl
  unfold callFunc
  rw [Sem.run_bind, run_program, Result.andThen_ok, hf]
  simp only [hname, hb, Bool.false_eq_true, if_false, if_true]
  show (Sem.mark _ _).run P w = _
  simp only [Sem.run, hn, he]
  exact run_val hrun
end
end Go.Am
