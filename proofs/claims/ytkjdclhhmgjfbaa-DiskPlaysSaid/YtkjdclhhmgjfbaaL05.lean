import Derived.Test.YtkjdclhhmgjfbaaL04
import Derived.Test.YtkjdclhhmgjfbaaAmE
/-! Chapter 4, the plain law: a fuse. -/
open Go Go.Proofs Go.Am
set_option linter.unusedVariables false
set_option linter.unusedSimpArgs false
set_option autoImplicit false
namespace C04
end C04
