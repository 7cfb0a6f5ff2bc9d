import Derived.Test.YticeppepdlgbhaaGreatDoorAmC
/-! Whole numbers as floats: below 2^53 they are reckoned exactly. -/
open Go Go.Am
set_option linter.unusedVariables false
set_option linter.unusedSimpArgs false
namespace Fl

end Fl
