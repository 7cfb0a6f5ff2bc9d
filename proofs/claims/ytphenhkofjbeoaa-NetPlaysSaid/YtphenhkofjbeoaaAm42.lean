import Derived.Test.YtphenhkofjbeoaaAm39
/-! A slice of an array that lies in memory. -/
namespace Go.Am
set_option linter.unusedSimpArgs false
set_option linter.unusedVariables false
set_option linter.unusedSectionVars false

section
variable {P : Program} {dst : Option Nat} {T : Nat → AVal} {M : Mem} {ty t : TypeId} {pos : String} {af : Array Edge} {x y : Operand} {g : Option (Nat × Bool)} {k : IntKind}

theorem pr_boundsHi {n m : Nat} (h : m ≤ n) : pr P (Instr.sliceBounds false n n none (some (.int k m)) none) = some (0, m, n) := by
  simp only [Instr.sliceBounds, pr_bind', pr_pure, Option.bind_some, pr_sliceBound (Int.natCast_nonneg m) (show (m : Int).toNat ≤ n by omega), Int.toNat_natCast]
theorem q_slarr {n m sz b off : Nat} {e : TypeId} (hu : P.underlying t = some (.array n e)) (hs : sizeT P e = some sz) (hx : ev T x = .raw (.pointer (some ⟨b, off, none⟩))) (hy : ev T y = .raw (.int k (m : Int))) (h : m ≤ n) :
    qstep P none (mkO dst (.slice t x none (some y) none) ty pos af g) T M = some (⟨none, .raw (.slice (some ⟨b, off, none⟩) m n)⟩, []) := by
  have e1 : pr P (Instr.sliceAt t (.pointer (some ⟨b, off, none⟩)) none (some (.int k m)) none) = some (.slice (some ⟨b, off, none⟩) m n) := by
    unfold Instr.sliceAt
    rw [pr_b, pr_underlying hu]
    show pr P (Instr.sureAddr (.pointer (some ⟨b, off, none⟩)) >>= _) = _
    rw [pr_b]
    show pr P (Instr.sliceBounds false n n none (some (.int k m)) none >>= _) = _
    rw [pr_b, pr_boundsHi h]
    show pr P (sizeOf e >>= _) = _
    rw [pr_b, pr_sizeT hs]
    show some (Value.slice (some (if n = 0 then (⟨b, off, none⟩ : Addr) else (⟨b, off, none⟩ : Addr).add (0 * sz))) (m - 0) (n - 0)) = _
    have : (⟨b, off, none⟩ : Addr).add (0 * sz) = ⟨b, off, none⟩ := by
      rw [Nat.zero_mul]; rfl
    rw [this, ite_self]
    rfl
  have e2 : aop P T M ty (.slice t x none (some y) none) = some (.raw (.slice (some ⟨b, off, none⟩) m n)) := by
    simp only [aop, aSlice, hx]
    show (match (some none : Option (Option Value)), (some y).mapM (fun x => rawOf (ev T x)), (some none : Option (Option Value)) with | some a, some b, some m => _ | _, _, _ => none) = _
    have : (some y).mapM (fun x => rawOf (ev T x)) = some (some (.int k m)) := by
      show (rawOf (ev T y)).map some = _
      rw [hy]; rfl
    rw [this]
    show (pr P (Instr.sliceAt t (.pointer (some ⟨b, off, none⟩)) none (some (.int k m)) none)).map AVal.raw = _
    rw [e1]; rfl
  simp only [qstep, e2, Option.map_some, readsOf, AVal.shut, AVal.shut1]
end
end Go.Am
