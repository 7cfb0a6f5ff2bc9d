import Derived.Test.YticeppepdlgbhaaGreatDoorZa6
/-! Chapter 17: a machine in memory; a command changes it as it should. -/
open Go Go.Proofs Go.Am
set_option linter.unusedVariables false
set_option linter.unusedSimpArgs false
set_option autoImplicit false
namespace C17
end C17
