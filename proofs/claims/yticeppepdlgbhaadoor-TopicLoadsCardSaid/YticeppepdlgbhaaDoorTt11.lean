import Derived.Test.YticeppepdlgbhaaDoorTt10
/-! topic.Load of what topic.Dump told. -/
open Go Go.Proofs Go.Am
set_option linter.unusedVariables false
set_option autoImplicit false
namespace C17
end C17
