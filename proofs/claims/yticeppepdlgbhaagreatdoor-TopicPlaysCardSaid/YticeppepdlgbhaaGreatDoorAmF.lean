import Derived.Test.YticeppepdlgbhaaGreatDoorAmE
/-! Lemmas for a walk: numbers of 64 bits without a sign; where a byte lies in a text. -/
namespace Go.Am
set_option linter.unusedVariables false
set_option linter.unusedSimpArgs false
set_option linter.unusedSectionVars false
section
variable {P : Program} {tkr : Nat → Option Nat} {ops : Array Oper} {K : St → Prop} {i : Nat} {rest : List Oper} {d : Nat} {dst : Option Nat} {T : Nat → AVal} {M : Mem} {ty t₁ t₂ : TypeId} {pos : String} {af : Array Edge} {x y z : Operand} {ats : Array TypeId} {g : Option (Nat × Bool)} {m n : Nat} {kk : IntKind}

theorem u64_wrap {a : Int} (h1 : 0 ≤ a) (h2 : a < 2 ^ 64) : IntKind.u64.wrap a = a := by
  simp only [IntKind.wrap, IntKind.signed, IntKind.bits]
  simp
  omega

/-- A number of 64 bits, shifted up. -/
theorem q_shlu (hx : ev T x = .raw (.int .u64 (m : Int))) (hy : ev T y = .raw (.int kk (n : Int))) (hn : n ≤ 64) (h : m * 2 ^ n < 2 ^ 64) : qstep P none (mkO dst (.binOp .shl t₁ x y t₂) ty pos af g) T M = some (⟨none, .raw (.int .u64 ((m * 2 ^ n : Nat) : Int))⟩, []) := by
  refine q_bin' hx hy ?_
  have e : pr P (binOp .shl t₁ (.int .u64 (m : Int)) (.int kk (n : Int))) = some (.int .u64 ((m * 2 ^ n : Nat) : Int)) := by
    show pr P (Op.shift .shl .u64 m kk n) = _
    unfold Op.shift
    rw [if_neg (by omega)]
    simp only [Int.toNat_natCast]
    rw [Nat.min_eq_left (show n ≤ IntKind.u64.bits from hn)]
    show some (Value.int .u64 (IntKind.u64.wrap ((m : Int) * 2 ^ n))) = _
    have e1 : ((m : Int) * 2 ^ n) = ((m * 2 ^ n : Nat) : Int) := by push_cast; rfl
    rw [e1, u64_wrap (by omega) (by have : ((m * 2 ^ n : Nat) : Int) < ((2 ^ 64 : Nat) : Int) := Int.ofNat_lt.2 h; simpa using this)]
  show (pr P (binOp .shl t₁ (.int .u64 (m : Int)) (.int kk (n : Int)))).map AVal.raw = _
  rw [e]; rfl
/-- A byte laid below. -/
theorem q_orb (hx : ev T x = .raw (.int .u64 ((m * 2 ^ 8 : Nat) : Int))) (hy : ev T y = .raw (.int .u64 (n : Int))) (hm : m * 2 ^ 8 < 2 ^ 64) (hn : n < 256) : qstep P none (mkO dst (.binOp .or t₁ x y t₂) ty pos af g) T M = some (⟨none, .raw (.int .u64 ((m * 256 + n : Nat) : Int))⟩, []) := by
  have h1 : m * 256 + n = (m * 2 ^ 8) ||| n := by
    have := Nat.shiftLeft_add_eq_or_of_lt (b := n) (i := 8) hn m
    rw [Nat.shiftLeft_eq] at this
    exact this
  have h4 : m < 2 ^ 56 := Nat.lt_of_mul_lt_mul_right (a := 2 ^ 8) hm
  have h5 : (m + 1) * 256 ≤ 2 ^ 56 * 256 := Nat.mul_le_mul_right 256 h4
  have h2 : m * 256 + n < 2 ^ 64 := Nat.lt_of_lt_of_le (by rw [Nat.succ_mul]; exact Nat.add_lt_add_left hn _) h5
  have h3 : n < 2 ^ 64 := Nat.lt_trans hn (by decide)
  exact q_bits (op := .or) (m := m * 2 ^ 8) (n := n) (r := m * 256 + n) hx hy hm h3 (.inr (.inl ⟨rfl, h1⟩)) (u64_wrap (Int.natCast_nonneg _) (by exact_mod_cast h2))
theorem q_shru (hx : ev T x = .raw (.int .u64 (m : Int))) (hy : ev T y = .raw (.int kk (n : Int))) (hn : n ≤ 64) : qstep P none (mkO dst (.binOp .shr t₁ x y t₂) ty pos af g) T M = some (⟨none, .raw (.int .u64 ((m / 2 ^ n : Nat) : Int))⟩, []) := by
  rw [q_shr hx hy (show n ≤ IntKind.u64.bits from hn)]
  simp
theorem q_remn (hx : ev T x = .raw (.int kk (m : Int))) (hy : ev T y = .raw (.int kk (n : Int))) (h0 : n ≠ 0) : qstep P none (mkO dst (.binOp .rem t₁ x y t₂) ty pos af g) T M = some (⟨none, .raw (.int kk ((m % n : Nat) : Int))⟩, []) := by
  rw [q_rem hx hy (by omega)]
  rfl
theorem q_quou (hx : ev T x = .raw (.int .u64 (m : Int))) (hy : ev T y = .raw (.int .u64 (n : Int))) (h0 : n ≠ 0) (hm : m < 2 ^ 64) : qstep P none (mkO dst (.binOp .quo t₁ x y t₂) ty pos af g) T M = some (⟨none, .raw (.int .u64 ((m / n : Nat) : Int))⟩, []) := by
  have h1 : (m : Int).tdiv (n : Int) = ((m / n : Nat) : Int) := rfl
  have h2 : m / n < 2 ^ 64 := Nat.lt_of_le_of_lt (Nat.div_le_self _ _) hm
  have h3 : IntKind.u64.wrap ((m / n : Nat) : Int) = ((m / n : Nat) : Int) := by
    generalize m / n = q at h2
    exact u64_wrap (by omega) (by omega)
  rw [q_quo hx hy (by omega) (by rw [h1]; exact h3), h1]

/-- Where a byte lies first in a text; -1: nowhere. -/
def idxB (s : ByteArray) (c : UInt8) : Int := match (List.range s.size).find? fun i => s[i]! == c with | some i => (i : Int) | none => -1
theorem x_indexByte {f : FuncId} {fn : Func} {s : ByteArray} {c : UInt8} (hf : P.funcs[f]? = some fn) (hname : (fn.name == "runtime.NumGoroutine") = false) (hb : fn.body.isNone = true) (hn : Extern.findNext fn = none) (he : Extern.find fn = some Extern.BytealgIndexByte.indexByte)
    (hx : ev T x = .raw (.string s)) (hy : ev T y = .raw (.int .u8 c.toNat))
    (h : aOps P tkr ops K (i + 1) rest ⟨setT T d (.raw (.int .i64 (idxB s c))), M⟩) : aOps P tkr ops K i (mkO (some d) (.call { callee := .value (.func f), args := #[x, y], argTypes := ats }) ty pos af none :: rest) ⟨T, M⟩ := by
  refine o_xs rfl (.inl fun ρ w h1 h2 _ => .inl ⟨.int .i64 (idxB s c), _, ?_, Fixed.raw _, h⟩)
  have e1 : ρ x = .string s := h1 x (by simp [Op.operands, Call.operands]) _ (by rw [hx]; rfl)
  have e2 : ρ y = .int .u8 c.toNat := h1 y (by simp [Op.operands, Call.operands]) _ (by rw [hy]; rfl)
  have e0 : ρ (.func f) = .func (.func f) #[] #[] := h1 (.func f) (by simp [Op.operands, Call.operands]) _ rfl
  show ((Deferred.ofValue (ρ (.func f)) (#[x, y].map ρ)) >>= fun d => invoke d.target d.args).run P w = _
  rw [show (#[x, y] : Array Operand).map ρ = #[ρ x, ρ y] by simp, e0, e1, e2]
  show (callFunc f #[.string s, .int .u8 c.toNat]).run P w = _
  have hrun : (Extern.BytealgIndexByte.indexByte #[.string s, .int .u8 c.toNat]).run P w = .ok (.int .i64 (idxB s c)) w := by
    have hc : ((c.toNat : Int).toNat).toUInt8 = c := by simp
    show (match (List.range s.size).find? fun i => s[i]! == ((c.toNat : Int).toNat).toUInt8 with | some i => (pure (goInt i) : Sem Value) | none => pure (goInt (-1))).run P w = _
    rw [hc]
    unfold idxB
    cases (List.range s.size).find? fun i => s[i]! == c <;> rfl
  unfold callFunc
  rw [Sem.run_bind, run_program, Result.andThen_ok, hf]
  simp only [hname, hb, Bool.false_eq_true, if_false, if_true]
  show (Sem.mark _ _).run P w = _
  simp only [Sem.run, hn, he]
  exact run_val hrun
/-- The rest of a text. -/
theorem q_slslo {t : TypeId} {s : ByteArray} {k' : IntKind} (hu : P.underlying t = some .string) (hx : ev T x = .raw (.string s)) (hy : ev T y = .raw (.int k' (n : Int))) (hn : n ≤ s.size) :
    qstep P none (mkO dst (.slice t x (some y) none none) ty pos af g) T M = some (⟨none, .raw (.string (s.extract n s.size))⟩, []) := by
  have hsb : pr P (Instr.sliceBounds false s.size s.size (some (.int k' (n : Int))) none none) = some (n, s.size, s.size) := by
    simp only [Instr.sliceBounds, pr_bind', pr_pure, Option.bind_some, pr_sliceBound (Int.natCast_nonneg n) (show (n : Int).toNat ≤ s.size by omega), Int.toNat_natCast]
  have e1 : pr P (Instr.sliceAt t (.string s) (some (.int k' (n : Int))) none none) = some (.string (s.extract n s.size)) := by
    unfold Instr.sliceAt
    rw [pr_b, pr_underlying hu]
    show pr P (Instr.slice t (.string s) (some (.int k' (n : Int))) none none) = _
    unfold Instr.slice
    rw [pr_b, pr_underlying hu]
    show pr P (Instr.sliceBounds false s.size s.size (some (.int k' (n : Int))) none none >>= _) = _
    rw [pr_b, hsb]; rfl
  have hlo : ((some y : Option Operand).mapM fun x => rawOf (ev T x)) = some (some (.int k' (n : Int))) := by
    show (rawOf (ev T y)).map some = _
    rw [hy]; rfl
  have hhi : ((none : Option Operand).mapM fun x => rawOf (ev T x)) = some none := rfl
  have e2 : aop P T M ty (.slice t x (some y) none none) = some (.raw (.string (s.extract n s.size))) := by
    simp only [aop, aSlice, hx, hlo, hhi, e1]; rfl
  simp only [qstep, e2, Option.map_some, readsOf, AVal.shut, AVal.shut1]
end
section
variable {P : Program} {tk : Nat → Nat → Option Nat} {pl : Nat → List PStep} {ks : List It} {R : Exit → St → Prop} {S : St}
/-- A scope in which the run jumps back, walked but once from the label on: what stands there behind it (Y) is found by going to it. -/
theorem s_scopel {c : Code} {Y : Nat → List It} (l : Nat) (I : Nat → St → Prop) (N0 : Nat) (hl : (findLabel c l).isSome = true)
    (hfrom : ∀ N S', unw P tk pl (Y N) R .normal S' → aFrom P tk pl c l S' (unw P tk pl (.scj l (fun S'' => ∃ m', m' < N ∧ I m' S'') :: ks) R))
    (key : ∀ N m S', m ≤ N → I m S' → unw P tk pl (Y N) R .normal S')
    (first : (∀ N m S', m ≤ N → I m S' → unw P tk pl (Y N) R .normal S') → unw P tk pl (.code c :: .scj l (fun S' => ∃ m, m < N0 ∧ I m S') :: ks) R .normal S) : unw P tk pl (.code (.scope c) :: ks) R .normal S :=
  unw_scopej l I N0 hl (first key) fun m S' h => hfrom m S' (key m m S' (Nat.le_refl _) h)
end
end Go.Am

/-! Guards that are carried along: what stands under a guard is told by it, and the walk does not part. -/
namespace Go.Am
set_option linter.unusedVariables false
set_option linter.unusedSimpArgs false
set_option linter.unusedSectionVars false
/-- A value that is there just if the guard holds. -/
def gv : Bool → AVal → AVal
  | true, V => V
  | false, _ => .raw undef
theorem gv_on {G : Bool} {V W : AVal} (h : G = true) (hV : W = gv G V) : W = V := by subst h; exact hV
theorem gv_and {G c w : Bool} (hG : G = true) (hc : c = w) : (G && (c == w)) = true := by subst hG; subst hc; simp
section
variable {P : Program} {tkr : Nat → Option Nat} {ops : Array Oper} {K : St → Prop} {i : Nat} {rest : List Oper} {o : Oper} {d : Nat} {dst : Option Nat} {B : List Nat} {T : Nat → AVal} {M : Mem} {ty t₁ t₂ : TypeId} {pos : String} {af : Array Edge} {x y z : Operand} {g : Option (Nat × Bool)} {V : AVal}
theorem o_g {j gd : Nat} {want G c : Bool} (hg : o.guard = some (j, want)) (hj : (ops[j]?).bind (·.dst) = some gd) (ht : T gd = gv G (.raw (.bool c))) (hd : o.dst = some d) (htk : tkr i = none)
    (hq : G = true → c = want → qstep P none { o with guard := none } T M = some (⟨none, V⟩, B))
    (h : aOps P tkr ops K (i + 1) rest ⟨setT T d (gv (G && (c == want)) V), M⟩) : aOps P tkr ops K i (o :: rest) ⟨T, M⟩ := by
  cases G with
  | false => exact o_skip hg hj ht hd h
  | true =>
    by_cases hc : c = want
    · refine o_yes hg hj ht hc (o_q (hq rfl hc) rfl hd htk ?_)
      have e : (true && (c == want)) = true := gv_and rfl hc
      rw [e] at h
      exact h
    · have e : (true && (c == want)) = false := by cases c <;> cases want <;> simp_all
      rw [e] at h
      exact o_no hg hj ht hd (by cases c <;> cases want <;> simp_all) h
/-- Either. -/
theorem q_por {G c b : Bool} (hG : G = true) (hx : ev T x = gv G (.raw (.bool c))) (hz : ev T z = gv (G && (c == false)) (.raw (.bool b))) : qstep P none (mkO dst (.pick x (.const (.bool true)) z) ty pos af g) T M = some (⟨none, .raw (.bool (c || b))⟩, []) := by
  subst hG
  cases c with
  | true => exact q_pick_t hx rfl
  | false => exact q_pick_f hx (by rw [hz]; rfl)
/-- Both. -/
theorem q_pand {G c b : Bool} (hG : G = true) (hx : ev T x = gv G (.raw (.bool c))) (hy : ev T y = gv (G && (c == true)) (.raw (.bool b))) : qstep P none (mkO dst (.pick x y (.const (.bool false))) ty pos af g) T M = some (⟨none, .raw (.bool (c && b))⟩, []) := by
  subst hG
  cases c with
  | true => exact q_pick_t hx (by rw [hy]; rfl)
  | false => exact q_pick_f hx rfl
end
end Go.Am

namespace Go.Am
theorem mmQ {p : Prop} (h : p := by repeat first | exact Mem.upd_self _ _ _ | assumption | refine Mem.upd_ne (by assumption) ?_) : p := h
theorem mvQ {p : Prop} (h : p := by first | exact v_raw rfl | exact v_sptr rfl) : p := h
theorem meQ {p : Prop} (h : p := by first | exact e_raw rfl | exact e_agg rfl | exact e_sl rfl | rfl) : p := h
theorem mfQ {p : Prop} (h : p := by first | exact e_agg rfl | rfl) : p := h
theorem kk {p q : Prop} (h : p) (e : p → q := by intro h; try simp only [decide_eq_true_eq, decide_eq_false_iff_not, Bool.not_eq_true', Bool.not_eq_false', Bool.not_true, Bool.not_false, List.length_map, Decidable.not_not] at h; exact h) : q := e h
end Go.Am

/-! A part of a struct that is handed back may be a nil slice: it is one without elements. -/
namespace Go.Am
set_option linter.unusedVariables false
set_option linter.unusedSimpArgs false
section
variable {P : Program} {T : Nat → AVal} {M : Mem} {dst : Option Nat} {x : Operand} {ty : TypeId} {pos : String} {af : Array Edge} {g : Option (Nat × Bool)}
/-- How many entries a map has. -/
theorem q_lenm {ats : Array TypeId} {t kt et : TypeId} {r : Nat} {es : List (Value × AVal)} (h0 : ats[0]? = some t) (hu : P.underlying t = some (.map kt et)) (hx : ev T x = .raw (.map (some r))) (hM : M r = some (.map es)) : qstep P none (mkO dst (.call { callee := .builtin .len, args := #[x], argTypes := ats }) ty pos af g) T M = some (⟨none, .raw (.int .i64 es.length)⟩, [r]) := by
  have e : aop P T M ty (.call { callee := .builtin .len, args := #[x], argTypes := ats }) = some (.raw (.int .i64 es.length)) := by
    simp only [aop, List.map, aBuiltin, hx, h0, Option.bind_some, hu, hM]
  have e2 : readsOf T (.call { callee := .builtin .len, args := #[x], argTypes := ats }) = [r] := by simp only [readsOf, List.map, hx]
  show (aop P T M ty (.call { callee := .builtin .len, args := #[x], argTypes := ats })).map _ = _
  rw [e, Option.map_some, e2]; rfl
end
end Go.Am

/-! Lemmas for a walk: numbers shifted up; parts of a text. -/
namespace Go.Am
set_option linter.unusedVariables false
set_option linter.unusedSimpArgs false
set_option linter.unusedSectionVars false
end Go.Am
namespace Go.Am
end Go.Am
namespace Go.Am
end Go.Am

/-! Lemmas for a walk: copies of elements of several cells, told by where they lie. -/
namespace Go.Am
set_option linter.unusedVariables false
set_option linter.unusedSimpArgs false
set_option linter.unusedSectionVars false
section
variable {P : Program} {tkr : Nat → Option Nat} {ops : Array Oper} {K : St → Prop} {i : Nat} {rest : List Oper} {d : Nat} {T : Nat → AVal} {M : Mem} {ty : TypeId} {pos : String} {af : Array Edge} {x y : Operand} {ats : Array TypeId}
  {α : Type} {f : α → AVal} {zs : List AVal}
/-- The cells of a block with such elements, and room. -/
def wcells (f : α → AVal) (zs : List AVal) (l : List α) (k : Nat) : List AVal := (l.flatMap fun a => (f a).cells) ++ (List.replicate k zs).flatten
/-- A slice of such elements that was made anew. -/
structure FrW (f : α → AVal) (zs : List AVal) (M M1 : Mem) (base : Option Addr) (c : Nat) (l : List α) : Prop where
  nil : l = [] → M1 = M ∧ c = 0 ∧ okB base
  new : l ≠ [] → ∃ b k, base = some ⟨b, 0, none⟩ ∧ M b = none ∧ c = l.length + k ∧ M1 = M.upd b (.cells (wcells f zs l k))
theorem FrW.le {M M1 : Mem} {base : Option Addr} {c : Nat} {l : List α} (h : FrW f zs M M1 base c l) : M.le M1 := by
  by_cases e : l = []
  · rw [(h.nil e).1]; exact Mem.le_refl M
  · obtain ⟨b, k, -, hb, -, rfl⟩ := h.new e
    exact Mem.le_upd (Mem.le_refl M) hb
theorem flat_map_cells (l : List α) : flat (l.map f) = l.flatMap fun a => (f a).cells := by
  unfold flat
  rw [List.flatMap_map]
theorem wcells_len {sz : Nat} (hf : ∀ a, (f a).cells.length = sz) (hz : zs.length = sz) (l : List α) (k : Nat) : (wcells f zs l k).length = (l.length + k) * sz := by
  unfold wcells
  rw [List.length_append, replicate_length, hz, Nat.add_mul]
  congr 1
  induction l with
  | nil => simp
  | cons a l ih => rw [List.flatMap_cons, List.length_append, hf, ih, List.length_cons, Nat.succ_mul]; omega
theorem shut_flat (hf : ∀ a, (f a).cells.map AVal.shut = (f a).cells) : ∀ (l : List α), (l.flatMap fun a => (f a).cells).map AVal.shut = l.flatMap fun a => (f a).cells
  | [] => rfl
  | a :: l => by rw [List.flatMap_cons, List.map_append, hf a, shut_flat hf l]
theorem o_appw {st e : TypeId} {sz by_ : Nat} {l : List α} {own : Bool} (ht : SlT P st e sz by_) (h0 : ats[0]? = some st) (h1 : ats[1]? = some st) (hz : zeroCellsT P e = some zs) (hzu : ∀ z ∈ zs, z.unit = true) (hz0 : 0 < zs.length) (hf : ∀ a, (f a).ok = true ∧ (f a).cells.length = sz ∧ (f a).cells.map AVal.shut = (f a).cells) (hx : emptyX (ev T x)) (hy : srcM M (ev T y) = some (.sl (l.map f) own)) (hn : l.length * by_ ≤ 2 ^ 47)
    (h : ∀ base c M1, FrW f zs M M1 base c l → aOps P tkr ops K (i + 1) rest ⟨setT T d (.raw (.slice base l.length c)), M1⟩) : aOps P tkr ops K i (mkO (some d) (.call { callee := .builtin .append, args := #[x, y], argTypes := ats }) ty pos af none :: rest) ⟨T, M⟩ := by
  refine o_xs rfl ?_
  have happ : aAppend P ats (.sl [] true) (.sl (l.map f) own) = some (l.map f) := by
    rw [aAppend_eq ht h0 h1 Els.nil (Els.map fun a => ⟨(hf a).1, (hf a).2.1⟩) (by simpa using hn)]; rfl
  refine .inr ⟨rfl, .inr ⟨_, l.map f, hy, hx, happ, .inr ⟨st, e, zs, h0, ht.u, hz, hzu, hz0, fun base c M1 k1 k2 => ?_⟩⟩⟩
  rw [List.length_map] at k2 ⊢
  refine h base c M1 ⟨fun e => ?_, fun e => ?_⟩
  · obtain ⟨g1, g2, g3⟩ := k1 (by rw [e]; rfl)
    exact ⟨g2, g1, g3⟩
  · obtain ⟨b, hb, hM, hc, e2⟩ := k2 (fun h' => e (List.map_eq_nil_iff.1 h'))
    refine ⟨b, c - l.length, hb, hM, by omega, ?_⟩
    rw [e2, flat_map_cells]
    have hs : (l.flatMap fun a => (f a).cells).map AVal.shut = l.flatMap fun a => (f a).cells := shut_flat (fun a => (hf a).2.2) l
    rw [hs]; rfl
/-- Where such an element lies. -/
theorem wcells_get {sz : Nat} (hf : ∀ a, (f a).cells.length = sz) (l : List α) (k : Nat) {j : Nat} (hj : j < l.length) : ((wcells f zs l k).drop (j * sz)).take sz = (f l[j]).cells := by
  unfold wcells
  induction l generalizing j with
  | nil => exact absurd hj (Nat.not_lt_zero j)
  | cons a l ih =>
    rw [List.flatMap_cons, List.append_assoc]
    cases j with
    | zero =>
      rw [Nat.zero_mul, List.drop_zero, List.take_left' (hf a)]; rfl
    | succ j =>
      rw [Nat.succ_mul, Nat.add_comm, ← List.drop_drop, List.drop_left' (hf a)]
      exact ih (by rw [List.length_cons] at hj; omega)
end
end Go.Am
