/-
  No cell of these rows narrows 'for every input' (looked for: loops, veiled, ifaces, maps, wideKeys, modest, calm, conditions, laid).
  DERIVED. THE GIVEN ROWS OF THIS SEAT. 8 by the template 'for every input the law returns true; each argument reads behind the call as it read before'; 0 by the template 'total and deterministic' (their statements: YtikalbdphkmclaaTotals.lean).
  GIVEN WITH THE SEED: the statements are not yours to turn. If you find one false, say at which input.
  Laid BY PROGRAM, IN A SANDBOX (cutbox-rows.mjs): the forced cells as the released guide's own fill.sh prints them over the translation 77bb1281558b129f… (all of the seat's roots in one cut). By AI agents, Wed Nov 11 2026. No macro, syntax, notation, axiom, sorry.
-/
import Derived.Test.YtikalbdphkmclaaChecked
import GoSem.Claim
import GoSem.ClaimJoined
import GoSem.ClaimMapViews
import Derived.JoinedTies
import Derived.KernelRfl
namespace Go.Proofs.Ytikalbdphkmclaa
/- THE CELL 'sum', in the pinned program and in every row, IS THE sha256 OF THE DUMP (.gsa) THAT YtikalbdphkmclaaProg.lean LOADS. Nothing in Lean hashes anything: it is a label: what it is worth is what the hold of that sum in a sandbox is worth. -/
noncomputable def Try.pinned : Pinned := { name := "ytikalbdphkmclaa", sum := "77bb1281558b129f8110f7d16ad4e40f050555598d7e6c7e79b11129d04111c7", checked := Try.checked }
namespace Rows
def none {H : Type} : Left H := { results := [], args := [] }

/-- 'carillonlaw15.TopicOnce': WHATEVER THE INPUT: true; the input reads as it did. -/
def topicOnceSpec : ChangeSpec := { name := "topicOnce", fn := fun _ => fun
  | [d] => { results := [.lit (.bool true)], args := [d] }
  | _ => none }
def topicOnceRow : OpenClaim := { program := "ytikalbdphkmclaa", sum := "77bb1281558b129f8110f7d16ad4e40f050555598d7e6c7e79b11129d04111c7", func := "carillon/carillonlaw15.TopicOnce", spec := "topicOnce", unfollowed := true, recurses := true, apart := false }
def TopicOnceSaid : Prop := topicOnceRow.holds Try.pinned (OpenSpec.ofChange topicOnceSpec)

/-- ITS FALSE NEIGHBOUR: 'it returns false'. Refute it at one input. -/
def topicOnceWrong : ChangeSpec := { name := "topicOnce", fn := fun _ => fun
  | [d] => { results := [.lit (.bool false)], args := [d] }
  | _ => none }
def TopicOnceWrongFalsely : Prop := topicOnceRow.holds Try.pinned (OpenSpec.ofChange topicOnceWrong)

/-- 'carillonlaw15.TopicTrims': WHATEVER THE INPUT: true; the input reads as it did. -/
def topicTrimsSpec : ChangeSpec := { name := "topicTrims", fn := fun _ => fun
  | [d1, d2, d3] => { results := [.lit (.bool true)], args := [d1, d2, d3] }
  | _ => none }
def topicTrimsRow : OpenClaim := { program := "ytikalbdphkmclaa", sum := "77bb1281558b129f8110f7d16ad4e40f050555598d7e6c7e79b11129d04111c7", func := "carillon/carillonlaw15.TopicTrims", spec := "topicTrims", unfollowed := true, recurses := true, apart := false }
def TopicTrimsSaid : Prop := topicTrimsRow.holds Try.pinned (OpenSpec.ofChange topicTrimsSpec)

/-- ITS FALSE NEIGHBOUR: 'it returns false'. Refute it at one input. -/
def topicTrimsWrong : ChangeSpec := { name := "topicTrims", fn := fun _ => fun
  | [d1, d2, d3] => { results := [.lit (.bool false)], args := [d1, d2, d3] }
  | _ => none }
def TopicTrimsWrongFalsely : Prop := topicTrimsRow.holds Try.pinned (OpenSpec.ofChange topicTrimsWrong)

/-- 'carillonlaw15.TopicReads': WHATEVER THE INPUT: true; the input reads as it did. -/
def topicReadsSpec : ChangeSpec := { name := "topicReads", fn := fun _ => fun
  | [d1, d2, d3] => { results := [.lit (.bool true)], args := [d1, d2, d3] }
  | _ => none }
def topicReadsRow : OpenClaim := { program := "ytikalbdphkmclaa", sum := "77bb1281558b129f8110f7d16ad4e40f050555598d7e6c7e79b11129d04111c7", func := "carillon/carillonlaw15.TopicReads", spec := "topicReads", unfollowed := true, recurses := true, apart := false }
def TopicReadsSaid : Prop := topicReadsRow.holds Try.pinned (OpenSpec.ofChange topicReadsSpec)

/-- ITS FALSE NEIGHBOUR: 'it returns false'. Refute it at one input. -/
def topicReadsWrong : ChangeSpec := { name := "topicReads", fn := fun _ => fun
  | [d1, d2, d3] => { results := [.lit (.bool false)], args := [d1, d2, d3] }
  | _ => none }
def TopicReadsWrongFalsely : Prop := topicReadsRow.holds Try.pinned (OpenSpec.ofChange topicReadsWrong)

/-- 'carillonlaw16.SubsAll': WHATEVER THE INPUT: true; the input reads as it did. -/
def subsAllSpec : ChangeSpec := { name := "subsAll", fn := fun _ => fun
  | [d1, d2, d3] => { results := [.lit (.bool true)], args := [d1, d2, d3] }
  | _ => none }
def subsAllRow : OpenClaim := { program := "ytikalbdphkmclaa", sum := "77bb1281558b129f8110f7d16ad4e40f050555598d7e6c7e79b11129d04111c7", func := "carillon/carillonlaw16.SubsAll", spec := "subsAll", unfollowed := true, recurses := true, apart := false }
def SubsAllSaid : Prop := subsAllRow.holds Try.pinned (OpenSpec.ofChange subsAllSpec)

/-- ITS FALSE NEIGHBOUR: 'it returns false'. Refute it at one input. -/
def subsAllWrong : ChangeSpec := { name := "subsAll", fn := fun _ => fun
  | [d1, d2, d3] => { results := [.lit (.bool false)], args := [d1, d2, d3] }
  | _ => none }
def SubsAllWrongFalsely : Prop := subsAllRow.holds Try.pinned (OpenSpec.ofChange subsAllWrong)

/-- 'carillonlaw16.SubsCredit': WHATEVER THE INPUT: true; the input reads as it did. -/
def subsCreditSpec : ChangeSpec := { name := "subsCredit", fn := fun _ => fun
  | [d1, d2, d3] => { results := [.lit (.bool true)], args := [d1, d2, d3] }
  | _ => none }
def subsCreditRow : OpenClaim := { program := "ytikalbdphkmclaa", sum := "77bb1281558b129f8110f7d16ad4e40f050555598d7e6c7e79b11129d04111c7", func := "carillon/carillonlaw16.SubsCredit", spec := "subsCredit", unfollowed := true, recurses := true, apart := false }
def SubsCreditSaid : Prop := subsCreditRow.holds Try.pinned (OpenSpec.ofChange subsCreditSpec)

/-- ITS FALSE NEIGHBOUR: 'it returns false'. Refute it at one input. -/
def subsCreditWrong : ChangeSpec := { name := "subsCredit", fn := fun _ => fun
  | [d1, d2, d3] => { results := [.lit (.bool false)], args := [d1, d2, d3] }
  | _ => none }
def SubsCreditWrongFalsely : Prop := subsCreditRow.holds Try.pinned (OpenSpec.ofChange subsCreditWrong)

/-- 'carillonlaw16.SubsSeeks': WHATEVER THE INPUT: true; the input reads as it did. -/
def subsSeeksSpec : ChangeSpec := { name := "subsSeeks", fn := fun _ => fun
  | [d1, d2, d3, d4] => { results := [.lit (.bool true)], args := [d1, d2, d3, d4] }
  | _ => none }
def subsSeeksRow : OpenClaim := { program := "ytikalbdphkmclaa", sum := "77bb1281558b129f8110f7d16ad4e40f050555598d7e6c7e79b11129d04111c7", func := "carillon/carillonlaw16.SubsSeeks", spec := "subsSeeks", unfollowed := true, recurses := true, apart := false }
def SubsSeeksSaid : Prop := subsSeeksRow.holds Try.pinned (OpenSpec.ofChange subsSeeksSpec)

/-- ITS FALSE NEIGHBOUR: 'it returns false'. Refute it at one input. -/
def subsSeeksWrong : ChangeSpec := { name := "subsSeeks", fn := fun _ => fun
  | [d1, d2, d3, d4] => { results := [.lit (.bool false)], args := [d1, d2, d3, d4] }
  | _ => none }
def SubsSeeksWrongFalsely : Prop := subsSeeksRow.holds Try.pinned (OpenSpec.ofChange subsSeeksWrong)

/-- 'carillonlaw16.SubsPlays': WHATEVER THE INPUT: true; the input reads as it did. -/
def subsPlaysSpec : ChangeSpec := { name := "subsPlays", fn := fun _ => fun
  | [d1, d2, d3, d4, d5, d6] => { results := [.lit (.bool true)], args := [d1, d2, d3, d4, d5, d6] }
  | _ => none }
def subsPlaysRow : OpenClaim := { program := "ytikalbdphkmclaa", sum := "77bb1281558b129f8110f7d16ad4e40f050555598d7e6c7e79b11129d04111c7", func := "carillon/carillonlaw16.SubsPlays", spec := "subsPlays", unfollowed := true, recurses := true, apart := false }
def SubsPlaysSaid : Prop := subsPlaysRow.holds Try.pinned (OpenSpec.ofChange subsPlaysSpec)

/-- ITS FALSE NEIGHBOUR: 'it returns false'. Refute it at one input. -/
def subsPlaysWrong : ChangeSpec := { name := "subsPlays", fn := fun _ => fun
  | [d1, d2, d3, d4, d5, d6] => { results := [.lit (.bool false)], args := [d1, d2, d3, d4, d5, d6] }
  | _ => none }
def SubsPlaysWrongFalsely : Prop := subsPlaysRow.holds Try.pinned (OpenSpec.ofChange subsPlaysWrong)

/-- 'carillonlaw16.SubsRise': WHATEVER THE INPUT: true; the input reads as it did. -/
def subsRiseSpec : ChangeSpec := { name := "subsRise", fn := fun _ => fun
  | [d1, d2, d3] => { results := [.lit (.bool true)], args := [d1, d2, d3] }
  | _ => none }
def subsRiseRow : OpenClaim := { program := "ytikalbdphkmclaa", sum := "77bb1281558b129f8110f7d16ad4e40f050555598d7e6c7e79b11129d04111c7", func := "carillon/carillonlaw16.SubsRise", spec := "subsRise", unfollowed := true, recurses := true, apart := false }
def SubsRiseSaid : Prop := subsRiseRow.holds Try.pinned (OpenSpec.ofChange subsRiseSpec)

/-- ITS FALSE NEIGHBOUR: 'it returns false'. Refute it at one input. -/
def subsRiseWrong : ChangeSpec := { name := "subsRise", fn := fun _ => fun
  | [d1, d2, d3] => { results := [.lit (.bool false)], args := [d1, d2, d3] }
  | _ => none }
def SubsRiseWrongFalsely : Prop := subsRiseRow.holds Try.pinned (OpenSpec.ofChange subsRiseWrong)

/- THE SECOND FORM. 'bulk': how many values and letters a reading holds, each counted each time it is reached (what is shared counts as often as it is met; a slice's spare places count too). A statement '..UptoSaid' is the law's where the arguments, and the package variables that the reading takes, are together of bulk at most 1048576: NARROWER than '..Said'. Prove '..Said' where nothing that the law and all that it calls make is longer than what came in: it says more and counts as full. Else prove '..UptoSaid'. A law counts once. -/
mutual
def uptoBulk {H : Type} : DataW H → Nat
  | .lit (.string bytes) => bytes.length + 1
  | .lit _ => 1
  | .nil => 1
  | .ptr d => uptoBulk d + 1
  | .slice elems spare => uptoBulkAll elems + uptoBulkAll spare + 1
  | .agg parts => uptoBulkAll parts + 1
  | .iface _ d => uptoBulk d + 1
  | .map entries => uptoBulkEntries entries + 1
  | .held _ => 1
def uptoBulkAll {H : Type} : List (DataW H) → Nat
  | [] => 0
  | d :: r => uptoBulk d + uptoBulkAll r
def uptoBulkEntries {H : Type} : List (Lit × DataW H) → Nat
  | [] => 0
  | x :: r => uptoBulkEntry x + uptoBulkEntries r
def uptoBulkEntry {H : Type} : Lit × DataW H → Nat
  | (.string bytes, d) => bytes.length + uptoBulk d + 1
  | (_, d) => uptoBulk d + 1
 end
def uptoSmall : (H : Type) → List (DataW H) → Bool := fun _ ds => decide (uptoBulkAll ds ≤ 1048576)
def OpenSpec.upto (s : _root_.Go.ChangeSpec) : _root_.Go.OpenSpec := { _root_.Go.OpenSpec.ofChange s with cond := some uptoSmall }

/-- 'carillonlaw15.TopicOnce', WHERE WHAT IT READS IS OF BULK AT MOST 1048576: true; the input reads as it did. -/
def topicOnceUptoRow : OpenClaim := { program := "ytikalbdphkmclaa", sum := "77bb1281558b129f8110f7d16ad4e40f050555598d7e6c7e79b11129d04111c7", func := "carillon/carillonlaw15.TopicOnce", spec := "topicOnce", unfollowed := true, recurses := true, apart := false, narrowed := true }
def TopicOnceUptoSaid : Prop := topicOnceUptoRow.holds Try.pinned (OpenSpec.upto topicOnceSpec)

/-- 'carillonlaw15.TopicTrims', WHERE WHAT IT READS IS OF BULK AT MOST 1048576: true; the input reads as it did. -/
def topicTrimsUptoRow : OpenClaim := { program := "ytikalbdphkmclaa", sum := "77bb1281558b129f8110f7d16ad4e40f050555598d7e6c7e79b11129d04111c7", func := "carillon/carillonlaw15.TopicTrims", spec := "topicTrims", unfollowed := true, recurses := true, apart := false, narrowed := true }
def TopicTrimsUptoSaid : Prop := topicTrimsUptoRow.holds Try.pinned (OpenSpec.upto topicTrimsSpec)

/-- 'carillonlaw15.TopicReads', WHERE WHAT IT READS IS OF BULK AT MOST 1048576: true; the input reads as it did. -/
def topicReadsUptoRow : OpenClaim := { program := "ytikalbdphkmclaa", sum := "77bb1281558b129f8110f7d16ad4e40f050555598d7e6c7e79b11129d04111c7", func := "carillon/carillonlaw15.TopicReads", spec := "topicReads", unfollowed := true, recurses := true, apart := false, narrowed := true }
def TopicReadsUptoSaid : Prop := topicReadsUptoRow.holds Try.pinned (OpenSpec.upto topicReadsSpec)

/-- 'carillonlaw16.SubsAll', WHERE WHAT IT READS IS OF BULK AT MOST 1048576: true; the input reads as it did. -/
def subsAllUptoRow : OpenClaim := { program := "ytikalbdphkmclaa", sum := "77bb1281558b129f8110f7d16ad4e40f050555598d7e6c7e79b11129d04111c7", func := "carillon/carillonlaw16.SubsAll", spec := "subsAll", unfollowed := true, recurses := true, apart := false, narrowed := true }
def SubsAllUptoSaid : Prop := subsAllUptoRow.holds Try.pinned (OpenSpec.upto subsAllSpec)

/-- 'carillonlaw16.SubsCredit', WHERE WHAT IT READS IS OF BULK AT MOST 1048576: true; the input reads as it did. -/
def subsCreditUptoRow : OpenClaim := { program := "ytikalbdphkmclaa", sum := "77bb1281558b129f8110f7d16ad4e40f050555598d7e6c7e79b11129d04111c7", func := "carillon/carillonlaw16.SubsCredit", spec := "subsCredit", unfollowed := true, recurses := true, apart := false, narrowed := true }
def SubsCreditUptoSaid : Prop := subsCreditUptoRow.holds Try.pinned (OpenSpec.upto subsCreditSpec)

/-- 'carillonlaw16.SubsSeeks', WHERE WHAT IT READS IS OF BULK AT MOST 1048576: true; the input reads as it did. -/
def subsSeeksUptoRow : OpenClaim := { program := "ytikalbdphkmclaa", sum := "77bb1281558b129f8110f7d16ad4e40f050555598d7e6c7e79b11129d04111c7", func := "carillon/carillonlaw16.SubsSeeks", spec := "subsSeeks", unfollowed := true, recurses := true, apart := false, narrowed := true }
def SubsSeeksUptoSaid : Prop := subsSeeksUptoRow.holds Try.pinned (OpenSpec.upto subsSeeksSpec)

/-- 'carillonlaw16.SubsPlays', WHERE WHAT IT READS IS OF BULK AT MOST 1048576: true; the input reads as it did. -/
def subsPlaysUptoRow : OpenClaim := { program := "ytikalbdphkmclaa", sum := "77bb1281558b129f8110f7d16ad4e40f050555598d7e6c7e79b11129d04111c7", func := "carillon/carillonlaw16.SubsPlays", spec := "subsPlays", unfollowed := true, recurses := true, apart := false, narrowed := true }
def SubsPlaysUptoSaid : Prop := subsPlaysUptoRow.holds Try.pinned (OpenSpec.upto subsPlaysSpec)

/-- 'carillonlaw16.SubsRise', WHERE WHAT IT READS IS OF BULK AT MOST 1048576: true; the input reads as it did. -/
def subsRiseUptoRow : OpenClaim := { program := "ytikalbdphkmclaa", sum := "77bb1281558b129f8110f7d16ad4e40f050555598d7e6c7e79b11129d04111c7", func := "carillon/carillonlaw16.SubsRise", spec := "subsRise", unfollowed := true, recurses := true, apart := false, narrowed := true }
def SubsRiseUptoSaid : Prop := subsRiseUptoRow.holds Try.pinned (OpenSpec.upto subsRiseSpec)

end Rows
end Go.Proofs.Ytikalbdphkmclaa
