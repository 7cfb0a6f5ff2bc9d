import Derived.Test.YticeppepdlgbhaaDoorMa2
import Derived.Test.YticeppepdlgbhaaDoorMa3
import Derived.Test.YticeppepdlgbhaaDoorMa4
import Derived.Test.YticeppepdlgbhaaDoorAmF
/-! Chapter 17: the machine: what its functions compute. -/
open Go Go.Proofs Go.Am
set_option linter.unusedVariables false
set_option linter.unusedSimpArgs false
set_option autoImplicit false
namespace C17
theorem und23 : Tryd.prog.underlying 23 = some (.pointer 77) := by kernel_rfl
theorem und66 : Tryd.prog.underlying 66 = some (.slice 3) := by kernel_rfl

def mapV (r : Nat) : AVal := .raw (.map (some r))
theorem upd_other {M : Mem} {b c : Nat} {o : AObj} (h : c ≠ b) : M.upd b o c = M c := if_neg h


end C17
