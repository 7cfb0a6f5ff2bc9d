import Derived.Test.YticeppepdlgbhaaGreatDoorFl
import Derived.Test.YticeppepdlgbhaaGreatDoorProg
/-! Chapter 3: what its functions compute. -/
open Go Go.Proofs Go.Am Fl
set_option linter.unusedVariables false
set_option linter.unusedSimpArgs false
namespace C3
theorem ag3 : aggT Tryz.prog 3 = some false := by kernel_rfl
theorem ag5 : aggT Tryz.prog 5 = some false := by kernel_rfl
theorem s2b9_181 : s2b Tryz.prog 9 181 = true := by kernel_rfl
theorem sz3 : sizeT Tryz.prog 3 = some 1 := by kernel_rfl
theorem sz5 : sizeT Tryz.prog 5 = some 1 := by kernel_rfl
theorem und3 : Tryz.prog.underlying 3 = some (.int .i64) := by kernel_rfl
theorem und5 : Tryz.prog.underlying 5 = some (.int .u8) := by kernel_rfl
theorem und9 : Tryz.prog.underlying 9 = some .string := by kernel_rfl
theorem und181 : Tryz.prog.underlying 181 = some (.slice 5) := by kernel_rfl
theorem mixed : Tryz.prog.follows .mixedOrders = true := by kernel_rfl
/-- A pair. -/
structure Pr where
 re : Int
 im : Int
 deriving DecidableEq, Inhabited
def ptr (b : Nat) : AVal := .raw (.pointer (some ⟨b, 0, none⟩))
def int (n : Int) : AVal := .raw (.int .i64 n)
def right (a : Pr) : Bool := decide (0 ≤ a.re) && decide (a.re < 33554383) && decide (0 ≤ a.im) && decide (a.im < 33554383)
theorem right_spec {a : Pr} : right a = true ↔ 0 ≤ a.re ∧ a.re < 33554383 ∧ 0 ≤ a.im ∧ a.im < 33554383 := by
 unfold right; simp [and_assoc]

end C3
