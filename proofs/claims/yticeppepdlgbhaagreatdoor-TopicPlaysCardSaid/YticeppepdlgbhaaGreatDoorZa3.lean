import Derived.Test.YticeppepdlgbhaaGreatDoorZa1
/-! Chapter 16: subscriptions: what their functions compute; the laws of both chapters, walked. -/
open Go Go.Proofs Go.Am
set_option linter.unusedVariables false
set_option linter.unusedSimpArgs false
set_option autoImplicit false
namespace C17

def mk (a b : Int) : AVal := .agg [int a, int b]
theorem sorted_sub {a b : List Rec} (h : Sorted b) (hs : List.Sublist a b) : Sorted a := List.Pairwise.sublist hs h

end C17
