import Derived.Test.YticeppepdlgbhaaGreatDoorZa2
import Derived.Test.YticeppepdlgbhaaGreatDoorZa3
import Derived.Test.YticeppepdlgbhaaGreatDoorZa4
import Derived.Test.YticeppepdlgbhaaGreatDoorAmF
/-! Chapter 17: the machine: what its functions compute. -/
open Go Go.Proofs Go.Am
set_option linter.unusedVariables false
set_option linter.unusedSimpArgs false
set_option autoImplicit false
namespace C17
theorem und24 : Tryz.prog.underlying 24 = some (.pointer 87) := by kernel_rfl

def mapV (r : Nat) : AVal := .raw (.map (some r))
theorem upd_other {M : Mem} {b c : Nat} {o : AObj} (h : c ≠ b) : M.upd b o c = M c := if_neg h


end C17
