/-
  No cell of these rows narrows 'for every input' (looked for: loops, veiled, ifaces, maps, wideKeys, modest, calm, conditions, laid).
  DERIVED. THE GIVEN ROWS OF THIS SEAT. 8 by the template 'for every input the law returns true; each argument reads behind the call as it read before'; 0 by the template 'total and deterministic' (their statements: YtlfghpdopponaaaTotals.lean).
  GIVEN WITH THE SEED: the statements are not yours to turn. If you find one false, say at which input.
  Laid BY PROGRAM, IN A SANDBOX (cutbox-rows.mjs): the forced cells as the released guide's own fill.sh prints them over the translation 3c4e62f6cde8537e… (all of the seat's roots in one cut). By AI agents, Wed Nov 11 2026. No macro, syntax, notation, axiom, sorry.
-/
import Derived.Test.YtlfghpdopponaaaChecked
import GoSem.Claim
import GoSem.ClaimJoined
import GoSem.ClaimMapViews
import Derived.JoinedTies
import Derived.KernelRfl
namespace Go.Proofs.Ytlfghpdopponaaa
/- THE CELL 'sum', in the pinned program and in every row, IS THE sha256 OF THE DUMP (.gsa) THAT YtlfghpdopponaaaProg.lean LOADS. Nothing in Lean hashes anything: it is a label: what it is worth is what the hold of that sum in a sandbox is worth. -/
noncomputable def Try.pinned : Pinned := { name := "ytlfghpdopponaaa", sum := "3c4e62f6cde8537e4fab95f4f754d38891bb6da20c1167141577c6b31166b760", checked := Try.checked }
namespace Rows
def none {H : Type} : Left H := { results := [], args := [] }

/-- 'carillonlaw03.GaussTells': WHATEVER THE INPUT: true; the input reads as it did. -/
def gaussTellsSpec : ChangeSpec := { name := "gaussTells", fn := fun _ => fun
  | [d1, d2, d3, d4] => { results := [.lit (.bool true)], args := [d1, d2, d3, d4] }
  | _ => none }
def gaussTellsRow : OpenClaim := { program := "ytlfghpdopponaaa", sum := "3c4e62f6cde8537e4fab95f4f754d38891bb6da20c1167141577c6b31166b760", func := "carillon/carillonlaw03.GaussTells", spec := "gaussTells", unfollowed := true, recurses := true, apart := false }
def GaussTellsSaid : Prop := gaussTellsRow.holds Try.pinned (OpenSpec.ofChange gaussTellsSpec)

/-- ITS FALSE NEIGHBOUR: 'it returns false'. Refute it at one input. -/
def gaussTellsWrong : ChangeSpec := { name := "gaussTells", fn := fun _ => fun
  | [d1, d2, d3, d4] => { results := [.lit (.bool false)], args := [d1, d2, d3, d4] }
  | _ => none }
def GaussTellsWrongFalsely : Prop := gaussTellsRow.holds Try.pinned (OpenSpec.ofChange gaussTellsWrong)

/-- 'carillonlaw03.GaussNorms': WHATEVER THE INPUT: true; the input reads as it did. -/
def gaussNormsSpec : ChangeSpec := { name := "gaussNorms", fn := fun _ => fun
  | [d1, d2] => { results := [.lit (.bool true)], args := [d1, d2] }
  | _ => none }
def gaussNormsRow : OpenClaim := { program := "ytlfghpdopponaaa", sum := "3c4e62f6cde8537e4fab95f4f754d38891bb6da20c1167141577c6b31166b760", func := "carillon/carillonlaw03.GaussNorms", spec := "gaussNorms", unfollowed := true, recurses := true, apart := false }
def GaussNormsSaid : Prop := gaussNormsRow.holds Try.pinned (OpenSpec.ofChange gaussNormsSpec)

/-- ITS FALSE NEIGHBOUR: 'it returns false'. Refute it at one input. -/
def gaussNormsWrong : ChangeSpec := { name := "gaussNorms", fn := fun _ => fun
  | [d1, d2] => { results := [.lit (.bool false)], args := [d1, d2] }
  | _ => none }
def GaussNormsWrongFalsely : Prop := gaussNormsRow.holds Try.pinned (OpenSpec.ofChange gaussNormsWrong)

/-- 'carillonlaw03.GaussReckons': WHATEVER THE INPUT: true; the input reads as it did. -/
def gaussReckonsSpec : ChangeSpec := { name := "gaussReckons", fn := fun _ => fun
  | [d1, d2] => { results := [.lit (.bool true)], args := [d1, d2] }
  | _ => none }
def gaussReckonsRow : OpenClaim := { program := "ytlfghpdopponaaa", sum := "3c4e62f6cde8537e4fab95f4f754d38891bb6da20c1167141577c6b31166b760", func := "carillon/carillonlaw03.GaussReckons", spec := "gaussReckons", unfollowed := true, recurses := true, apart := false }
def GaussReckonsSaid : Prop := gaussReckonsRow.holds Try.pinned (OpenSpec.ofChange gaussReckonsSpec)

/-- ITS FALSE NEIGHBOUR: 'it returns false'. Refute it at one input. -/
def gaussReckonsWrong : ChangeSpec := { name := "gaussReckons", fn := fun _ => fun
  | [d1, d2] => { results := [.lit (.bool false)], args := [d1, d2] }
  | _ => none }
def GaussReckonsWrongFalsely : Prop := gaussReckonsRow.holds Try.pinned (OpenSpec.ofChange gaussReckonsWrong)

/-- 'carillonlaw03.GaussPowers': WHATEVER THE INPUT: true; the input reads as it did. -/
def gaussPowersSpec : ChangeSpec := { name := "gaussPowers", fn := fun _ => fun
  | [d1, d2] => { results := [.lit (.bool true)], args := [d1, d2] }
  | _ => none }
def gaussPowersRow : OpenClaim := { program := "ytlfghpdopponaaa", sum := "3c4e62f6cde8537e4fab95f4f754d38891bb6da20c1167141577c6b31166b760", func := "carillon/carillonlaw03.GaussPowers", spec := "gaussPowers", unfollowed := true, recurses := true, apart := false }
def GaussPowersSaid : Prop := gaussPowersRow.holds Try.pinned (OpenSpec.ofChange gaussPowersSpec)

/-- ITS FALSE NEIGHBOUR: 'it returns false'. Refute it at one input. -/
def gaussPowersWrong : ChangeSpec := { name := "gaussPowers", fn := fun _ => fun
  | [d1, d2] => { results := [.lit (.bool false)], args := [d1, d2] }
  | _ => none }
def GaussPowersWrongFalsely : Prop := gaussPowersRow.holds Try.pinned (OpenSpec.ofChange gaussPowersWrong)

/-- 'carillonlaw03.GaussLaws': WHATEVER THE INPUT: true; the input reads as it did. -/
def gaussLawsSpec : ChangeSpec := { name := "gaussLaws", fn := fun _ => fun
  | [d1, d2, d3] => { results := [.lit (.bool true)], args := [d1, d2, d3] }
  | _ => none }
def gaussLawsRow : OpenClaim := { program := "ytlfghpdopponaaa", sum := "3c4e62f6cde8537e4fab95f4f754d38891bb6da20c1167141577c6b31166b760", func := "carillon/carillonlaw03.GaussLaws", spec := "gaussLaws", unfollowed := true, recurses := true, apart := false }
def GaussLawsSaid : Prop := gaussLawsRow.holds Try.pinned (OpenSpec.ofChange gaussLawsSpec)

/-- ITS FALSE NEIGHBOUR: 'it returns false'. Refute it at one input. -/
def gaussLawsWrong : ChangeSpec := { name := "gaussLaws", fn := fun _ => fun
  | [d1, d2, d3] => { results := [.lit (.bool false)], args := [d1, d2, d3] }
  | _ => none }
def GaussLawsWrongFalsely : Prop := gaussLawsRow.holds Try.pinned (OpenSpec.ofChange gaussLawsWrong)

/-- 'carillonlaw03.GaussInverses': WHATEVER THE INPUT: true; the input reads as it did. -/
def gaussInversesSpec : ChangeSpec := { name := "gaussInverses", fn := fun _ => fun
  | [d1, d2, d3] => { results := [.lit (.bool true)], args := [d1, d2, d3] }
  | _ => none }
def gaussInversesRow : OpenClaim := { program := "ytlfghpdopponaaa", sum := "3c4e62f6cde8537e4fab95f4f754d38891bb6da20c1167141577c6b31166b760", func := "carillon/carillonlaw03.GaussInverses", spec := "gaussInverses", unfollowed := true, recurses := true, apart := false }
def GaussInversesSaid : Prop := gaussInversesRow.holds Try.pinned (OpenSpec.ofChange gaussInversesSpec)

/-- ITS FALSE NEIGHBOUR: 'it returns false'. Refute it at one input. -/
def gaussInversesWrong : ChangeSpec := { name := "gaussInverses", fn := fun _ => fun
  | [d1, d2, d3] => { results := [.lit (.bool false)], args := [d1, d2, d3] }
  | _ => none }
def GaussInversesWrongFalsely : Prop := gaussInversesRow.holds Try.pinned (OpenSpec.ofChange gaussInversesWrong)

/-- 'carillonlaw03.GaussDigests': WHATEVER THE INPUT: true; the input reads as it did. -/
def gaussDigestsSpec : ChangeSpec := { name := "gaussDigests", fn := fun _ => fun
  | [d1, d2, d3, d4] => { results := [.lit (.bool true)], args := [d1, d2, d3, d4] }
  | _ => none }
def gaussDigestsRow : OpenClaim := { program := "ytlfghpdopponaaa", sum := "3c4e62f6cde8537e4fab95f4f754d38891bb6da20c1167141577c6b31166b760", func := "carillon/carillonlaw03.GaussDigests", spec := "gaussDigests", unfollowed := true, recurses := true, apart := false }
def GaussDigestsSaid : Prop := gaussDigestsRow.holds Try.pinned (OpenSpec.ofChange gaussDigestsSpec)

/-- ITS FALSE NEIGHBOUR: 'it returns false'. Refute it at one input. -/
def gaussDigestsWrong : ChangeSpec := { name := "gaussDigests", fn := fun _ => fun
  | [d1, d2, d3, d4] => { results := [.lit (.bool false)], args := [d1, d2, d3, d4] }
  | _ => none }
def GaussDigestsWrongFalsely : Prop := gaussDigestsRow.holds Try.pinned (OpenSpec.ofChange gaussDigestsWrong)

/-- 'carillonlaw03.GaussJoins': WHATEVER THE INPUT: true; the input reads as it did. -/
def gaussJoinsSpec : ChangeSpec := { name := "gaussJoins", fn := fun _ => fun
  | [d1, d2] => { results := [.lit (.bool true)], args := [d1, d2] }
  | _ => none }
def gaussJoinsRow : OpenClaim := { program := "ytlfghpdopponaaa", sum := "3c4e62f6cde8537e4fab95f4f754d38891bb6da20c1167141577c6b31166b760", func := "carillon/carillonlaw03.GaussJoins", spec := "gaussJoins", unfollowed := true, recurses := true, apart := false }
def GaussJoinsSaid : Prop := gaussJoinsRow.holds Try.pinned (OpenSpec.ofChange gaussJoinsSpec)

/-- ITS FALSE NEIGHBOUR: 'it returns false'. Refute it at one input. -/
def gaussJoinsWrong : ChangeSpec := { name := "gaussJoins", fn := fun _ => fun
  | [d1, d2] => { results := [.lit (.bool false)], args := [d1, d2] }
  | _ => none }
def GaussJoinsWrongFalsely : Prop := gaussJoinsRow.holds Try.pinned (OpenSpec.ofChange gaussJoinsWrong)

/- THE SECOND FORM. 'bulk': how many values and letters a reading holds, each counted each time it is reached (what is shared counts as often as it is met; a slice's spare places count too). A statement '..UptoSaid' is the law's where the arguments, and the package variables that the reading takes, are together of bulk at most 1048576: NARROWER than '..Said'. Prove '..Said' where nothing that the law and all that it calls make is longer than what came in: it says more and counts as full. Else prove '..UptoSaid'. A law counts once. -/
mutual
def uptoBulk {H : Type} : DataW H → Nat
  | .lit (.string bytes) => bytes.length + 1
  | .lit _ => 1
  | .nil => 1
  | .ptr d => uptoBulk d + 1
  | .slice elems spare => uptoBulkAll elems + uptoBulkAll spare + 1
  | .agg parts => uptoBulkAll parts + 1
  | .iface _ d => uptoBulk d + 1
  | .map entries => uptoBulkEntries entries + 1
  | .held _ => 1
def uptoBulkAll {H : Type} : List (DataW H) → Nat
  | [] => 0
  | d :: r => uptoBulk d + uptoBulkAll r
def uptoBulkEntries {H : Type} : List (Lit × DataW H) → Nat
  | [] => 0
  | x :: r => uptoBulkEntry x + uptoBulkEntries r
def uptoBulkEntry {H : Type} : Lit × DataW H → Nat
  | (.string bytes, d) => bytes.length + uptoBulk d + 1
  | (_, d) => uptoBulk d + 1
 end
def uptoSmall : (H : Type) → List (DataW H) → Bool := fun _ ds => decide (uptoBulkAll ds ≤ 1048576)
def OpenSpec.upto (s : _root_.Go.ChangeSpec) : _root_.Go.OpenSpec := { _root_.Go.OpenSpec.ofChange s with cond := some uptoSmall }

/-- 'carillonlaw03.GaussTells', WHERE WHAT IT READS IS OF BULK AT MOST 1048576: true; the input reads as it did. -/
def gaussTellsUptoRow : OpenClaim := { program := "ytlfghpdopponaaa", sum := "3c4e62f6cde8537e4fab95f4f754d38891bb6da20c1167141577c6b31166b760", func := "carillon/carillonlaw03.GaussTells", spec := "gaussTells", unfollowed := true, recurses := true, apart := false, narrowed := true }
def GaussTellsUptoSaid : Prop := gaussTellsUptoRow.holds Try.pinned (OpenSpec.upto gaussTellsSpec)

/-- 'carillonlaw03.GaussNorms', WHERE WHAT IT READS IS OF BULK AT MOST 1048576: true; the input reads as it did. -/
def gaussNormsUptoRow : OpenClaim := { program := "ytlfghpdopponaaa", sum := "3c4e62f6cde8537e4fab95f4f754d38891bb6da20c1167141577c6b31166b760", func := "carillon/carillonlaw03.GaussNorms", spec := "gaussNorms", unfollowed := true, recurses := true, apart := false, narrowed := true }
def GaussNormsUptoSaid : Prop := gaussNormsUptoRow.holds Try.pinned (OpenSpec.upto gaussNormsSpec)

/-- 'carillonlaw03.GaussReckons', WHERE WHAT IT READS IS OF BULK AT MOST 1048576: true; the input reads as it did. -/
def gaussReckonsUptoRow : OpenClaim := { program := "ytlfghpdopponaaa", sum := "3c4e62f6cde8537e4fab95f4f754d38891bb6da20c1167141577c6b31166b760", func := "carillon/carillonlaw03.GaussReckons", spec := "gaussReckons", unfollowed := true, recurses := true, apart := false, narrowed := true }
def GaussReckonsUptoSaid : Prop := gaussReckonsUptoRow.holds Try.pinned (OpenSpec.upto gaussReckonsSpec)

/-- 'carillonlaw03.GaussPowers', WHERE WHAT IT READS IS OF BULK AT MOST 1048576: true; the input reads as it did. -/
def gaussPowersUptoRow : OpenClaim := { program := "ytlfghpdopponaaa", sum := "3c4e62f6cde8537e4fab95f4f754d38891bb6da20c1167141577c6b31166b760", func := "carillon/carillonlaw03.GaussPowers", spec := "gaussPowers", unfollowed := true, recurses := true, apart := false, narrowed := true }
def GaussPowersUptoSaid : Prop := gaussPowersUptoRow.holds Try.pinned (OpenSpec.upto gaussPowersSpec)

/-- 'carillonlaw03.GaussLaws', WHERE WHAT IT READS IS OF BULK AT MOST 1048576: true; the input reads as it did. -/
def gaussLawsUptoRow : OpenClaim := { program := "ytlfghpdopponaaa", sum := "3c4e62f6cde8537e4fab95f4f754d38891bb6da20c1167141577c6b31166b760", func := "carillon/carillonlaw03.GaussLaws", spec := "gaussLaws", unfollowed := true, recurses := true, apart := false, narrowed := true }
def GaussLawsUptoSaid : Prop := gaussLawsUptoRow.holds Try.pinned (OpenSpec.upto gaussLawsSpec)

/-- 'carillonlaw03.GaussInverses', WHERE WHAT IT READS IS OF BULK AT MOST 1048576: true; the input reads as it did. -/
def gaussInversesUptoRow : OpenClaim := { program := "ytlfghpdopponaaa", sum := "3c4e62f6cde8537e4fab95f4f754d38891bb6da20c1167141577c6b31166b760", func := "carillon/carillonlaw03.GaussInverses", spec := "gaussInverses", unfollowed := true, recurses := true, apart := false, narrowed := true }
def GaussInversesUptoSaid : Prop := gaussInversesUptoRow.holds Try.pinned (OpenSpec.upto gaussInversesSpec)

/-- 'carillonlaw03.GaussDigests', WHERE WHAT IT READS IS OF BULK AT MOST 1048576: true; the input reads as it did. -/
def gaussDigestsUptoRow : OpenClaim := { program := "ytlfghpdopponaaa", sum := "3c4e62f6cde8537e4fab95f4f754d38891bb6da20c1167141577c6b31166b760", func := "carillon/carillonlaw03.GaussDigests", spec := "gaussDigests", unfollowed := true, recurses := true, apart := false, narrowed := true }
def GaussDigestsUptoSaid : Prop := gaussDigestsUptoRow.holds Try.pinned (OpenSpec.upto gaussDigestsSpec)

/-- 'carillonlaw03.GaussJoins', WHERE WHAT IT READS IS OF BULK AT MOST 1048576: true; the input reads as it did. -/
def gaussJoinsUptoRow : OpenClaim := { program := "ytlfghpdopponaaa", sum := "3c4e62f6cde8537e4fab95f4f754d38891bb6da20c1167141577c6b31166b760", func := "carillon/carillonlaw03.GaussJoins", spec := "gaussJoins", unfollowed := true, recurses := true, apart := false, narrowed := true }
def GaussJoinsUptoSaid : Prop := gaussJoinsUptoRow.holds Try.pinned (OpenSpec.upto gaussJoinsSpec)

end Rows
end Go.Proofs.Ytlfghpdopponaaa
