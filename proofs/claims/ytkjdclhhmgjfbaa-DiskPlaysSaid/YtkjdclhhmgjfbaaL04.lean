import Derived.Test.YtkjdclhhmgjfbaaW04
/-! Chapter 4, the plain law: what a disk does. -/
open Go Go.Proofs Go.Am
set_option linter.unusedVariables false
set_option linter.unusedSimpArgs false
set_option autoImplicit false
namespace C04
/-! DiskRoom -/
def pick (c n : Int) : Int := if c < 0 then (-(c + 1)) % n else c % n
/-! DiskSwaps -/
end C04
