import Derived.Test.YtkjdclhhmgjfbaaAmE
/-! Lemmas for a walk: numbers of 64 bits without a sign; where a byte lies in a text. -/
namespace Go.Am
set_option linter.unusedVariables false
set_option linter.unusedSimpArgs false
set_option linter.unusedSectionVars false
end Go.Am

/-! Guards that are carried along: what stands under a guard is told by it, and the walk does not part. -/
namespace Go.Am
set_option linter.unusedVariables false
set_option linter.unusedSimpArgs false
set_option linter.unusedSectionVars false
/-- A value that is there just if the guard holds. -/
def gv : Bool → AVal → AVal
  | true, V => V
  | false, _ => .raw undef
theorem gv_on {G : Bool} {V W : AVal} (h : G = true) (hV : W = gv G V) : W = V := by subst h; exact hV
theorem gv_and {G c w : Bool} (hG : G = true) (hc : c = w) : (G && (c == w)) = true := by subst hG; subst hc; simp
section
variable {P : Program} {tkr : Nat → Option Nat} {ops : Array Oper} {K : St → Prop} {i : Nat} {rest : List Oper} {o : Oper} {d : Nat} {dst : Option Nat} {B : List Nat} {T : Nat → AVal} {M : Mem} {ty t₁ t₂ : TypeId} {pos : String} {af : Array Edge} {x y z : Operand} {g : Option (Nat × Bool)} {V : AVal}
theorem o_g {j gd : Nat} {want G c : Bool} (hg : o.guard = some (j, want)) (hj : (ops[j]?).bind (·.dst) = some gd) (ht : T gd = gv G (.raw (.bool c))) (hd : o.dst = some d) (htk : tkr i = none)
    (hq : G = true → c = want → qstep P none { o with guard := none } T M = some (⟨none, V⟩, B))
    (h : aOps P tkr ops K (i + 1) rest ⟨setT T d (gv (G && (c == want)) V), M⟩) : aOps P tkr ops K i (o :: rest) ⟨T, M⟩ := by
  cases G with
  | false => exact o_skip hg hj ht hd h
  | true =>
    by_cases hc : c = want
    · refine o_yes hg hj ht hc (o_q (hq rfl hc) rfl hd htk ?_)
      have e : (true && (c == want)) = true := gv_and rfl hc
      rw [e] at h
      exact h
    · have e : (true && (c == want)) = false := by cases c <;> cases want <;> simp_all
      rw [e] at h
      exact o_no hg hj ht hd (by cases c <;> cases want <;> simp_all) h
/-- Both. -/
theorem q_pand {G c b : Bool} (hG : G = true) (hx : ev T x = gv G (.raw (.bool c))) (hy : ev T y = gv (G && (c == true)) (.raw (.bool b))) : qstep P none (mkO dst (.pick x y (.const (.bool false))) ty pos af g) T M = some (⟨none, .raw (.bool (c && b))⟩, []) := by
  subst hG
  cases c with
  | true => exact q_pick_t hx (by rw [hy]; rfl)
  | false => exact q_pick_f hx rfl
end
end Go.Am

/-! A part of a struct that is handed back may be a nil slice: it is one without elements. -/
namespace Go.Am
set_option linter.unusedVariables false
set_option linter.unusedSimpArgs false
end Go.Am

/-! Lemmas for a walk: numbers shifted up; parts of a text. -/
namespace Go.Am
set_option linter.unusedVariables false
set_option linter.unusedSimpArgs false
set_option linter.unusedSectionVars false
end Go.Am
namespace Go.Am
section
variable {P : Program} {dst : Option Nat} {T : Nat → AVal} {M : Mem} {ty t₁ t₂ : TypeId} {pos : String} {af : Array Edge} {x y z : Operand} {g : Option (Nat × Bool)} {m n : Nat} {kk : IntKind}
/-- A difference that is a number from 0 on. -/
theorem q_subn {r : Nat} {ty' : TypeId} (hx : ev T x = .raw (.int .i64 (m : Int))) (hy : ev T y = .raw (.int .i64 (n : Int))) (h : r + n = m) (hr : m < 2 ^ 63) : qstep P none (mkO dst (.binOp .sub t₁ x y ty') ty pos af g) T M = some (⟨none, .raw (.int .i64 (r : Int))⟩, []) := by
  have e : (m : Int) - n = r := by omega
  have := q_sub (P := P) (dst := dst) (ty₁ := t₁) (ty' := ty') (ty := ty) (pos := pos) (af := af) (g := g) (M := M) hx hy (wrap64 (by omega) (by omega))
  rw [this, e]
end
end Go.Am
namespace Go.Am
end Go.Am

/-! Lemmas for a walk: copies of elements of several cells, told by where they lie. -/
namespace Go.Am
set_option linter.unusedVariables false
set_option linter.unusedSimpArgs false
set_option linter.unusedSectionVars false
section
variable {P : Program} {tkr : Nat → Option Nat} {ops : Array Oper} {K : St → Prop} {i : Nat} {rest : List Oper} {d : Nat} {T : Nat → AVal} {M : Mem} {ty : TypeId} {pos : String} {af : Array Edge} {x y : Operand} {ats : Array TypeId}
  {α : Type} {f : α → AVal} {zs : List AVal}
/-- The cells of a block with such elements, and room. -/
def wcells (f : α → AVal) (zs : List AVal) (l : List α) (k : Nat) : List AVal := (l.flatMap fun a => (f a).cells) ++ (List.replicate k zs).flatten
/-- A slice of such elements that was made anew. -/
structure FrW (f : α → AVal) (zs : List AVal) (M M1 : Mem) (base : Option Addr) (c : Nat) (l : List α) : Prop where
  nil : l = [] → M1 = M ∧ c = 0 ∧ okB base
  new : l ≠ [] → ∃ b k, base = some ⟨b, 0, none⟩ ∧ M b = none ∧ c = l.length + k ∧ M1 = M.upd b (.cells (wcells f zs l k))
theorem flat_map_cells (l : List α) : flat (l.map f) = l.flatMap fun a => (f a).cells := by
  unfold flat
  rw [List.flatMap_map]
theorem shut_flat (hf : ∀ a, (f a).cells.map AVal.shut = (f a).cells) : ∀ (l : List α), (l.flatMap fun a => (f a).cells).map AVal.shut = l.flatMap fun a => (f a).cells
  | [] => rfl
  | a :: l => by rw [List.flatMap_cons, List.map_append, hf a, shut_flat hf l]
theorem o_appw {st e : TypeId} {sz by_ : Nat} {l : List α} {own : Bool} (ht : SlT P st e sz by_) (h0 : ats[0]? = some st) (h1 : ats[1]? = some st) (hz : zeroCellsT P e = some zs) (hzu : ∀ z ∈ zs, z.unit = true) (hz0 : 0 < zs.length) (hf : ∀ a, (f a).ok = true ∧ (f a).cells.length = sz ∧ (f a).cells.map AVal.shut = (f a).cells) (hx : emptyX (ev T x)) (hy : srcM M (ev T y) = some (.sl (l.map f) own)) (hn : l.length * by_ ≤ 2 ^ 47)
    (h : ∀ base c M1, FrW f zs M M1 base c l → aOps P tkr ops K (i + 1) rest ⟨setT T d (.raw (.slice base l.length c)), M1⟩) : aOps P tkr ops K i (mkO (some d) (.call { callee := .builtin .append, args := #[x, y], argTypes := ats }) ty pos af none :: rest) ⟨T, M⟩ := by
  refine o_xs rfl ?_
  have happ : aAppend P ats (.sl [] true) (.sl (l.map f) own) = some (l.map f) := by
    rw [aAppend_eq ht h0 h1 Els.nil (Els.map fun a => ⟨(hf a).1, (hf a).2.1⟩) (by simpa using hn)]; rfl
  refine .inr ⟨rfl, .inr (.inl ⟨_, l.map f, hy, hx, happ, .inr ⟨st, e, zs, h0, ht.u, hz, hzu, hz0, fun base c M1 k1 k2 => ?_⟩⟩)⟩
  rw [List.length_map] at k2 ⊢
  refine h base c M1 ⟨fun e => ?_, fun e => ?_⟩
  · obtain ⟨g1, g2, g3⟩ := k1 (by rw [e]; rfl)
    exact ⟨g2, g1, g3⟩
  · obtain ⟨b, hb, hM, hc, e2⟩ := k2 (fun h' => e (List.map_eq_nil_iff.1 h'))
    refine ⟨b, c - l.length, hb, hM, by omega, ?_⟩
    rw [e2, flat_map_cells]
    have hs : (l.flatMap fun a => (f a).cells).map AVal.shut = l.flatMap fun a => (f a).cells := shut_flat (fun a => (hf a).2.2) l
    rw [hs]; rfl
end
end Go.Am
