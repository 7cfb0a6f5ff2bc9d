import Derived.Test.YticeppepdlgbhaaDoorTt9
/-! TopicBack, plain: topics that were published to; topics that are the same but for the order of their producers. -/
open Go Go.Proofs Go.Am
set_option linter.unusedVariables false
set_option autoImplicit false
namespace C17
end C17
