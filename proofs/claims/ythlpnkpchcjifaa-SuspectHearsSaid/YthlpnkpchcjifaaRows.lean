/-
  No cell of these rows narrows 'for every input' (looked for: loops, veiled, ifaces, maps, wideKeys, modest, calm, conditions, laid).
  DERIVED. THE GIVEN ROWS OF THIS SEAT. 3 by the template 'for every input the law returns true; each argument reads behind the call as it read before'; 0 by the template 'total and deterministic' (their statements: YthlpnkpchcjifaaTotals.lean).
  GIVEN WITH THE SEED: the statements are not yours to turn. If you find one false, say at which input.
  Laid BY PROGRAM, IN A SANDBOX (cutbox-rows.mjs): the forced cells as the released guide's own fill.sh prints them over the translation 6b41b8dfa80d232e… (all of the seat's roots in one cut). By AI agents, Wed Nov 11 2026. No macro, syntax, notation, axiom, sorry.
-/
import Derived.Test.YthlpnkpchcjifaaChecked
import GoSem.Claim
import GoSem.ClaimJoined
import GoSem.ClaimMapViews
import Derived.JoinedTies
import Derived.KernelRfl
namespace Go.Proofs.Ythlpnkpchcjifaa
/- THE CELL 'sum', in the pinned program and in every row, IS THE sha256 OF THE DUMP (.gsa) THAT YthlpnkpchcjifaaProg.lean LOADS. Nothing in Lean hashes anything: it is a label: what it is worth is what the hold of that sum in a sandbox is worth. -/
noncomputable def Try.pinned : Pinned := { name := "ythlpnkpchcjifaa", sum := "6b41b8dfa80d232e38125917836cf79e2f1d8cb99ee62a3e1cd5f74d8d68328b", checked := Try.checked }
namespace Rows
def none {H : Type} : Left H := { results := [], args := [] }

/-- 'carillonlaw13.SuspectPlays': WHATEVER THE INPUT: true; the input reads as it did. -/
def suspectPlaysSpec : ChangeSpec := { name := "suspectPlays", fn := fun _ => fun
  | [d1, d2] => { results := [.lit (.bool true)], args := [d1, d2] }
  | _ => none }
def suspectPlaysRow : OpenClaim := { program := "ythlpnkpchcjifaa", sum := "6b41b8dfa80d232e38125917836cf79e2f1d8cb99ee62a3e1cd5f74d8d68328b", func := "carillon/carillonlaw13.SuspectPlays", spec := "suspectPlays", unfollowed := true, recurses := true, apart := false }
def SuspectPlaysSaid : Prop := suspectPlaysRow.holds Try.pinned (OpenSpec.ofChange suspectPlaysSpec)

/-- ITS FALSE NEIGHBOUR: 'it returns false'. Refute it at one input. -/
def suspectPlaysWrong : ChangeSpec := { name := "suspectPlays", fn := fun _ => fun
  | [d1, d2] => { results := [.lit (.bool false)], args := [d1, d2] }
  | _ => none }
def SuspectPlaysWrongFalsely : Prop := suspectPlaysRow.holds Try.pinned (OpenSpec.ofChange suspectPlaysWrong)

/-- 'carillonlaw13.SuspectHears': WHATEVER THE INPUT: true; the input reads as it did. -/
def suspectHearsSpec : ChangeSpec := { name := "suspectHears", fn := fun _ => fun
  | [d1, d2, d3] => { results := [.lit (.bool true)], args := [d1, d2, d3] }
  | _ => none }
def suspectHearsRow : OpenClaim := { program := "ythlpnkpchcjifaa", sum := "6b41b8dfa80d232e38125917836cf79e2f1d8cb99ee62a3e1cd5f74d8d68328b", func := "carillon/carillonlaw13.SuspectHears", spec := "suspectHears", unfollowed := true, recurses := true, apart := false }
def SuspectHearsSaid : Prop := suspectHearsRow.holds Try.pinned (OpenSpec.ofChange suspectHearsSpec)

/-- ITS FALSE NEIGHBOUR: 'it returns false'. Refute it at one input. -/
def suspectHearsWrong : ChangeSpec := { name := "suspectHears", fn := fun _ => fun
  | [d1, d2, d3] => { results := [.lit (.bool false)], args := [d1, d2, d3] }
  | _ => none }
def SuspectHearsWrongFalsely : Prop := suspectHearsRow.holds Try.pinned (OpenSpec.ofChange suspectHearsWrong)

/-- 'carillonlaw13.SuspectOne': WHATEVER THE INPUT: true; the input reads as it did. -/
def suspectOneSpec : ChangeSpec := { name := "suspectOne", fn := fun _ => fun
  | [d1, d2] => { results := [.lit (.bool true)], args := [d1, d2] }
  | _ => none }
def suspectOneRow : OpenClaim := { program := "ythlpnkpchcjifaa", sum := "6b41b8dfa80d232e38125917836cf79e2f1d8cb99ee62a3e1cd5f74d8d68328b", func := "carillon/carillonlaw13.SuspectOne", spec := "suspectOne", unfollowed := true, recurses := true, apart := false }
def SuspectOneSaid : Prop := suspectOneRow.holds Try.pinned (OpenSpec.ofChange suspectOneSpec)

/-- ITS FALSE NEIGHBOUR: 'it returns false'. Refute it at one input. -/
def suspectOneWrong : ChangeSpec := { name := "suspectOne", fn := fun _ => fun
  | [d1, d2] => { results := [.lit (.bool false)], args := [d1, d2] }
  | _ => none }
def SuspectOneWrongFalsely : Prop := suspectOneRow.holds Try.pinned (OpenSpec.ofChange suspectOneWrong)

/- THE SECOND FORM. 'bulk': how many values and letters a reading holds, each counted each time it is reached (what is shared counts as often as it is met; a slice's spare places count too). A statement '..UptoSaid' is the law's where the arguments, and the package variables that the reading takes, are together of bulk at most 1048576: NARROWER than '..Said'. Prove '..Said' where nothing that the law and all that it calls make is longer than what came in: it says more and counts as full. Else prove '..UptoSaid'. A law counts once. -/
mutual
def uptoBulk {H : Type} : DataW H → Nat
  | .lit (.string bytes) => bytes.length + 1
  | .lit _ => 1
  | .nil => 1
  | .ptr d => uptoBulk d + 1
  | .slice elems spare => uptoBulkAll elems + uptoBulkAll spare + 1
  | .agg parts => uptoBulkAll parts + 1
  | .iface _ d => uptoBulk d + 1
  | .map entries => uptoBulkEntries entries + 1
  | .held _ => 1
def uptoBulkAll {H : Type} : List (DataW H) → Nat
  | [] => 0
  | d :: r => uptoBulk d + uptoBulkAll r
def uptoBulkEntries {H : Type} : List (Lit × DataW H) → Nat
  | [] => 0
  | x :: r => uptoBulkEntry x + uptoBulkEntries r
def uptoBulkEntry {H : Type} : Lit × DataW H → Nat
  | (.string bytes, d) => bytes.length + uptoBulk d + 1
  | (_, d) => uptoBulk d + 1
 end
def uptoSmall : (H : Type) → List (DataW H) → Bool := fun _ ds => decide (uptoBulkAll ds ≤ 1048576)
def OpenSpec.upto (s : _root_.Go.ChangeSpec) : _root_.Go.OpenSpec := { _root_.Go.OpenSpec.ofChange s with cond := some uptoSmall }

/-- 'carillonlaw13.SuspectPlays', WHERE WHAT IT READS IS OF BULK AT MOST 1048576: true; the input reads as it did. -/
def suspectPlaysUptoRow : OpenClaim := { program := "ythlpnkpchcjifaa", sum := "6b41b8dfa80d232e38125917836cf79e2f1d8cb99ee62a3e1cd5f74d8d68328b", func := "carillon/carillonlaw13.SuspectPlays", spec := "suspectPlays", unfollowed := true, recurses := true, apart := false, narrowed := true }
def SuspectPlaysUptoSaid : Prop := suspectPlaysUptoRow.holds Try.pinned (OpenSpec.upto suspectPlaysSpec)

/-- 'carillonlaw13.SuspectHears', WHERE WHAT IT READS IS OF BULK AT MOST 1048576: true; the input reads as it did. -/
def suspectHearsUptoRow : OpenClaim := { program := "ythlpnkpchcjifaa", sum := "6b41b8dfa80d232e38125917836cf79e2f1d8cb99ee62a3e1cd5f74d8d68328b", func := "carillon/carillonlaw13.SuspectHears", spec := "suspectHears", unfollowed := true, recurses := true, apart := false, narrowed := true }
def SuspectHearsUptoSaid : Prop := suspectHearsUptoRow.holds Try.pinned (OpenSpec.upto suspectHearsSpec)

/-- 'carillonlaw13.SuspectOne', WHERE WHAT IT READS IS OF BULK AT MOST 1048576: true; the input reads as it did. -/
def suspectOneUptoRow : OpenClaim := { program := "ythlpnkpchcjifaa", sum := "6b41b8dfa80d232e38125917836cf79e2f1d8cb99ee62a3e1cd5f74d8d68328b", func := "carillon/carillonlaw13.SuspectOne", spec := "suspectOne", unfollowed := true, recurses := true, apart := false, narrowed := true }
def SuspectOneUptoSaid : Prop := suspectOneUptoRow.holds Try.pinned (OpenSpec.upto suspectOneSpec)

end Rows
end Go.Proofs.Ythlpnkpchcjifaa
