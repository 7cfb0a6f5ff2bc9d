/-
  NARROWER THAN 'FOR EVERY INPUT', by the rows' own cells (each row's printed sentence says how): NodeBytes: laid · NodeBack: laid · NodeElder: laid · NodeAlone: laid · NodeSaves: laid · NodeOne: laid · NodeAgrees: laid · NodeTwice: laid.
  DERIVED. THE GIVEN ROWS OF THIS SEAT. 8 by the template 'for every input the law returns true; each argument reads behind the call as it read before'; 0 by the template 'total and deterministic' (their statements: YthmhdhmfkegpiaaGreatDoorTotals.lean).
  GIVEN WITH THE SEED: the statements are not yours to turn. If you find one false, say at which input.
  Laid BY PROGRAM, IN A SANDBOX (cutbox-rows.mjs): the forced cells as the released guide's own fill.sh prints them over the translation 2a86a71ecf41367a… (all of the seat's roots in one cut). By AI agents, Wed Nov 11 2026. No macro, syntax, notation, axiom, sorry.
-/
import Derived.Test.YthmhdhmfkegpiaaGreatDoorChecked
import GoSem.Claim
import GoSem.ClaimJoined
import GoSem.ClaimMapViews
import Derived.JoinedTies
import Derived.KernelRfl
namespace Go.Proofs.YthmhdhmfkegpiaaGreatDoor
/- THE CELL 'sum', in the pinned program and in every row, IS THE sha256 OF THE DUMP (.gsa) THAT YthmhdhmfkegpiaaGreatDoorProg.lean LOADS. Nothing in Lean hashes anything: it is a label: what it is worth is what the hold of that sum in a sandbox is worth. -/
noncomputable def Tryz.pinned : Pinned := { name := "ythmhdhmfkegpiaagreatdoor", sum := "2a86a71ecf41367aae9278f76942dc4d8e820819cc623cc100c2d387d2a7b83c", checked := Tryz.checked }
namespace Rows
def none {H : Type} : Left H := { results := [], args := [] }

/- WHAT THE LISTED PACKAGE-LEVEL VARIABLES READ AS WHEN THE CALL BEGINS. Each datum BY PROGRAM (the guide's laid-datum.mjs) off the statement by which the dump's own 'gosem.cut.vars' lays the variable. In a bare row this is a premise. The card (YthmhdhmfkegpiaaGreatDoorCards.lean) ties it to the program's text. -/
def laid_carillon_codec_sizes {H : Type} : DataW H := .agg [.lit (.int .i64 0), .lit (.int .i64 1), .lit (.int .i64 4), .lit (.int .i64 8), .lit (.int .i64 0)]

/-- 'carillonlaw20.NodeBytes': WHATEVER THE INPUT: true; the input reads as it did. -/
def nodeBytesSpec : ChangeSpec := { name := "nodeBytes", fn := fun _ => fun
  | [d1, d2] => { results := [.lit (.bool true)], args := [d1, d2] }
  | _ => none }
def nodeBytesRow : OpenClaim := { program := "ythmhdhmfkegpiaagreatdoor", sum := "2a86a71ecf41367aae9278f76942dc4d8e820819cc623cc100c2d387d2a7b83c", func := "carillon/carillonlaw20.NodeBytes", spec := "nodeBytes", inPlace := ["internal/bytealg.IndexByteString", "internal/bytealg.IndexString"], unfollowed := true, recurses := true, named := ["carillon/codec.sizes", "internal/bytealg.MaxLen"], apart := false, laid := [("carillon/codec.sizes", laid_carillon_codec_sizes)] }
def NodeBytesSaid : Prop := nodeBytesRow.holds Tryz.pinned (OpenSpec.ofChange nodeBytesSpec)

/-- ITS FALSE NEIGHBOUR: 'it returns false'. Refute it at one input. -/
def nodeBytesWrong : ChangeSpec := { name := "nodeBytes", fn := fun _ => fun
  | [d1, d2] => { results := [.lit (.bool false)], args := [d1, d2] }
  | _ => none }
def NodeBytesWrongFalsely : Prop := nodeBytesRow.holds Tryz.pinned (OpenSpec.ofChange nodeBytesWrong)

/-- 'carillonlaw20.NodeBack': WHATEVER THE INPUT: true; the input reads as it did. -/
def nodeBackSpec : ChangeSpec := { name := "nodeBack", fn := fun _ => fun
  | [d1, d2] => { results := [.lit (.bool true)], args := [d1, d2] }
  | _ => none }
def nodeBackRow : OpenClaim := { program := "ythmhdhmfkegpiaagreatdoor", sum := "2a86a71ecf41367aae9278f76942dc4d8e820819cc623cc100c2d387d2a7b83c", func := "carillon/carillonlaw20.NodeBack", spec := "nodeBack", inPlace := ["internal/bytealg.IndexByteString", "internal/bytealg.IndexString"], unfollowed := true, recurses := true, named := ["carillon/codec.sizes", "internal/bytealg.MaxLen"], apart := false, laid := [("carillon/codec.sizes", laid_carillon_codec_sizes)] }
def NodeBackSaid : Prop := nodeBackRow.holds Tryz.pinned (OpenSpec.ofChange nodeBackSpec)

/-- ITS FALSE NEIGHBOUR: 'it returns false'. Refute it at one input. -/
def nodeBackWrong : ChangeSpec := { name := "nodeBack", fn := fun _ => fun
  | [d1, d2] => { results := [.lit (.bool false)], args := [d1, d2] }
  | _ => none }
def NodeBackWrongFalsely : Prop := nodeBackRow.holds Tryz.pinned (OpenSpec.ofChange nodeBackWrong)

/-- 'carillonlaw20.NodeElder': WHATEVER THE INPUT: true; the input reads as it did. -/
def nodeElderSpec : ChangeSpec := { name := "nodeElder", fn := fun _ => fun
  | [d] => { results := [.lit (.bool true)], args := [d] }
  | _ => none }
def nodeElderRow : OpenClaim := { program := "ythmhdhmfkegpiaagreatdoor", sum := "2a86a71ecf41367aae9278f76942dc4d8e820819cc623cc100c2d387d2a7b83c", func := "carillon/carillonlaw20.NodeElder", spec := "nodeElder", inPlace := ["internal/bytealg.IndexByteString", "internal/bytealg.IndexString"], unfollowed := true, recurses := true, named := ["carillon/codec.sizes", "internal/bytealg.MaxLen"], apart := false, laid := [("carillon/codec.sizes", laid_carillon_codec_sizes)] }
def NodeElderSaid : Prop := nodeElderRow.holds Tryz.pinned (OpenSpec.ofChange nodeElderSpec)

/-- ITS FALSE NEIGHBOUR: 'it returns false'. Refute it at one input. -/
def nodeElderWrong : ChangeSpec := { name := "nodeElder", fn := fun _ => fun
  | [d] => { results := [.lit (.bool false)], args := [d] }
  | _ => none }
def NodeElderWrongFalsely : Prop := nodeElderRow.holds Tryz.pinned (OpenSpec.ofChange nodeElderWrong)

/-- 'carillonlaw20.NodeAlone': WHATEVER THE INPUT: true; the input reads as it did. -/
def nodeAloneSpec : ChangeSpec := { name := "nodeAlone", fn := fun _ => fun
  | [d1, d2, d3, d4] => { results := [.lit (.bool true)], args := [d1, d2, d3, d4] }
  | _ => none }
def nodeAloneRow : OpenClaim := { program := "ythmhdhmfkegpiaagreatdoor", sum := "2a86a71ecf41367aae9278f76942dc4d8e820819cc623cc100c2d387d2a7b83c", func := "carillon/carillonlaw20.NodeAlone", spec := "nodeAlone", inPlace := ["internal/bytealg.IndexByteString", "internal/bytealg.IndexString"], unfollowed := true, recurses := true, named := ["carillon/codec.sizes", "internal/bytealg.MaxLen"], apart := false, laid := [("carillon/codec.sizes", laid_carillon_codec_sizes)] }
def NodeAloneSaid : Prop := nodeAloneRow.holds Tryz.pinned (OpenSpec.ofChange nodeAloneSpec)

/-- ITS FALSE NEIGHBOUR: 'it returns false'. Refute it at one input. -/
def nodeAloneWrong : ChangeSpec := { name := "nodeAlone", fn := fun _ => fun
  | [d1, d2, d3, d4] => { results := [.lit (.bool false)], args := [d1, d2, d3, d4] }
  | _ => none }
def NodeAloneWrongFalsely : Prop := nodeAloneRow.holds Tryz.pinned (OpenSpec.ofChange nodeAloneWrong)

/-- 'carillonlaw20.NodeSaves': WHATEVER THE INPUT: true; the input reads as it did. -/
def nodeSavesSpec : ChangeSpec := { name := "nodeSaves", fn := fun _ => fun
  | [d1, d2, d3] => { results := [.lit (.bool true)], args := [d1, d2, d3] }
  | _ => none }
def nodeSavesRow : OpenClaim := { program := "ythmhdhmfkegpiaagreatdoor", sum := "2a86a71ecf41367aae9278f76942dc4d8e820819cc623cc100c2d387d2a7b83c", func := "carillon/carillonlaw20.NodeSaves", spec := "nodeSaves", inPlace := ["internal/bytealg.IndexByteString", "internal/bytealg.IndexString"], unfollowed := true, recurses := true, named := ["carillon/codec.sizes", "internal/bytealg.MaxLen"], apart := false, laid := [("carillon/codec.sizes", laid_carillon_codec_sizes)] }
def NodeSavesSaid : Prop := nodeSavesRow.holds Tryz.pinned (OpenSpec.ofChange nodeSavesSpec)

/-- ITS FALSE NEIGHBOUR: 'it returns false'. Refute it at one input. -/
def nodeSavesWrong : ChangeSpec := { name := "nodeSaves", fn := fun _ => fun
  | [d1, d2, d3] => { results := [.lit (.bool false)], args := [d1, d2, d3] }
  | _ => none }
def NodeSavesWrongFalsely : Prop := nodeSavesRow.holds Tryz.pinned (OpenSpec.ofChange nodeSavesWrong)

/-- 'carillonlaw20.NodeOne': WHATEVER THE INPUT: true; the input reads as it did. -/
def nodeOneSpec : ChangeSpec := { name := "nodeOne", fn := fun _ => fun
  | [d1, d2] => { results := [.lit (.bool true)], args := [d1, d2] }
  | _ => none }
def nodeOneRow : OpenClaim := { program := "ythmhdhmfkegpiaagreatdoor", sum := "2a86a71ecf41367aae9278f76942dc4d8e820819cc623cc100c2d387d2a7b83c", func := "carillon/carillonlaw20.NodeOne", spec := "nodeOne", inPlace := ["internal/bytealg.IndexByteString", "internal/bytealg.IndexString"], unfollowed := true, recurses := true, named := ["carillon/codec.sizes", "internal/bytealg.MaxLen"], apart := false, laid := [("carillon/codec.sizes", laid_carillon_codec_sizes)] }
def NodeOneSaid : Prop := nodeOneRow.holds Tryz.pinned (OpenSpec.ofChange nodeOneSpec)

/-- ITS FALSE NEIGHBOUR: 'it returns false'. Refute it at one input. -/
def nodeOneWrong : ChangeSpec := { name := "nodeOne", fn := fun _ => fun
  | [d1, d2] => { results := [.lit (.bool false)], args := [d1, d2] }
  | _ => none }
def NodeOneWrongFalsely : Prop := nodeOneRow.holds Tryz.pinned (OpenSpec.ofChange nodeOneWrong)

/-- 'carillonlaw20.NodeAgrees': WHATEVER THE INPUT: true; the input reads as it did. -/
def nodeAgreesSpec : ChangeSpec := { name := "nodeAgrees", fn := fun _ => fun
  | [d1, d2] => { results := [.lit (.bool true)], args := [d1, d2] }
  | _ => none }
def nodeAgreesRow : OpenClaim := { program := "ythmhdhmfkegpiaagreatdoor", sum := "2a86a71ecf41367aae9278f76942dc4d8e820819cc623cc100c2d387d2a7b83c", func := "carillon/carillonlaw20.NodeAgrees", spec := "nodeAgrees", inPlace := ["internal/bytealg.IndexByteString", "internal/bytealg.IndexString"], unfollowed := true, recurses := true, named := ["carillon/codec.sizes", "internal/bytealg.MaxLen"], apart := false, laid := [("carillon/codec.sizes", laid_carillon_codec_sizes)] }
def NodeAgreesSaid : Prop := nodeAgreesRow.holds Tryz.pinned (OpenSpec.ofChange nodeAgreesSpec)

/-- ITS FALSE NEIGHBOUR: 'it returns false'. Refute it at one input. -/
def nodeAgreesWrong : ChangeSpec := { name := "nodeAgrees", fn := fun _ => fun
  | [d1, d2] => { results := [.lit (.bool false)], args := [d1, d2] }
  | _ => none }
def NodeAgreesWrongFalsely : Prop := nodeAgreesRow.holds Tryz.pinned (OpenSpec.ofChange nodeAgreesWrong)

/-- 'carillonlaw20.NodeTwice': WHATEVER THE INPUT: true; the input reads as it did. -/
def nodeTwiceSpec : ChangeSpec := { name := "nodeTwice", fn := fun _ => fun
  | [d1, d2] => { results := [.lit (.bool true)], args := [d1, d2] }
  | _ => none }
def nodeTwiceRow : OpenClaim := { program := "ythmhdhmfkegpiaagreatdoor", sum := "2a86a71ecf41367aae9278f76942dc4d8e820819cc623cc100c2d387d2a7b83c", func := "carillon/carillonlaw20.NodeTwice", spec := "nodeTwice", inPlace := ["internal/bytealg.IndexByteString", "internal/bytealg.IndexString"], unfollowed := true, recurses := true, named := ["carillon/codec.sizes", "internal/bytealg.MaxLen"], apart := false, laid := [("carillon/codec.sizes", laid_carillon_codec_sizes)] }
def NodeTwiceSaid : Prop := nodeTwiceRow.holds Tryz.pinned (OpenSpec.ofChange nodeTwiceSpec)

/-- ITS FALSE NEIGHBOUR: 'it returns false'. Refute it at one input. -/
def nodeTwiceWrong : ChangeSpec := { name := "nodeTwice", fn := fun _ => fun
  | [d1, d2] => { results := [.lit (.bool false)], args := [d1, d2] }
  | _ => none }
def NodeTwiceWrongFalsely : Prop := nodeTwiceRow.holds Tryz.pinned (OpenSpec.ofChange nodeTwiceWrong)

/- THE SECOND FORM. 'bulk': how many values and letters a reading holds, each counted each time it is reached (what is shared counts as often as it is met; a slice's spare places count too). A statement '..UptoSaid' is the law's where the arguments, and the package variables that the reading takes, are together of bulk at most 1048576: NARROWER than '..Said'. Prove '..Said' where nothing that the law and all that it calls make is longer than what came in: it says more and counts as full. Else prove '..UptoSaid'. A law counts once. -/
mutual
def uptoBulk {H : Type} : DataW H → Nat
  | .lit (.string bytes) => bytes.length + 1
  | .lit _ => 1
  | .nil => 1
  | .ptr d => uptoBulk d + 1
  | .slice elems spare => uptoBulkAll elems + uptoBulkAll spare + 1
  | .agg parts => uptoBulkAll parts + 1
  | .iface _ d => uptoBulk d + 1
  | .map entries => uptoBulkEntries entries + 1
  | .held _ => 1
def uptoBulkAll {H : Type} : List (DataW H) → Nat
  | [] => 0
  | d :: r => uptoBulk d + uptoBulkAll r
def uptoBulkEntries {H : Type} : List (Lit × DataW H) → Nat
  | [] => 0
  | x :: r => uptoBulkEntry x + uptoBulkEntries r
def uptoBulkEntry {H : Type} : Lit × DataW H → Nat
  | (.string bytes, d) => bytes.length + uptoBulk d + 1
  | (_, d) => uptoBulk d + 1
 end
def uptoSmall : (H : Type) → List (DataW H) → Bool := fun _ ds => decide (uptoBulkAll ds ≤ 1048576)
def OpenSpec.upto (s : _root_.Go.ChangeSpec) : _root_.Go.OpenSpec := { _root_.Go.OpenSpec.ofChange s with cond := some uptoSmall }

/-- 'carillonlaw20.NodeBytes', WHERE WHAT IT READS IS OF BULK AT MOST 1048576: true; the input reads as it did. -/
def nodeBytesUptoRow : OpenClaim := { program := "ythmhdhmfkegpiaagreatdoor", sum := "2a86a71ecf41367aae9278f76942dc4d8e820819cc623cc100c2d387d2a7b83c", func := "carillon/carillonlaw20.NodeBytes", spec := "nodeBytes", inPlace := ["internal/bytealg.IndexByteString", "internal/bytealg.IndexString"], unfollowed := true, recurses := true, named := ["carillon/codec.sizes", "internal/bytealg.MaxLen"], apart := false, laid := [("carillon/codec.sizes", laid_carillon_codec_sizes)], narrowed := true }
def NodeBytesUptoSaid : Prop := nodeBytesUptoRow.holds Tryz.pinned (OpenSpec.upto nodeBytesSpec)

/-- 'carillonlaw20.NodeBack', WHERE WHAT IT READS IS OF BULK AT MOST 1048576: true; the input reads as it did. -/
def nodeBackUptoRow : OpenClaim := { program := "ythmhdhmfkegpiaagreatdoor", sum := "2a86a71ecf41367aae9278f76942dc4d8e820819cc623cc100c2d387d2a7b83c", func := "carillon/carillonlaw20.NodeBack", spec := "nodeBack", inPlace := ["internal/bytealg.IndexByteString", "internal/bytealg.IndexString"], unfollowed := true, recurses := true, named := ["carillon/codec.sizes", "internal/bytealg.MaxLen"], apart := false, laid := [("carillon/codec.sizes", laid_carillon_codec_sizes)], narrowed := true }
def NodeBackUptoSaid : Prop := nodeBackUptoRow.holds Tryz.pinned (OpenSpec.upto nodeBackSpec)

/-- 'carillonlaw20.NodeElder', WHERE WHAT IT READS IS OF BULK AT MOST 1048576: true; the input reads as it did. -/
def nodeElderUptoRow : OpenClaim := { program := "ythmhdhmfkegpiaagreatdoor", sum := "2a86a71ecf41367aae9278f76942dc4d8e820819cc623cc100c2d387d2a7b83c", func := "carillon/carillonlaw20.NodeElder", spec := "nodeElder", inPlace := ["internal/bytealg.IndexByteString", "internal/bytealg.IndexString"], unfollowed := true, recurses := true, named := ["carillon/codec.sizes", "internal/bytealg.MaxLen"], apart := false, laid := [("carillon/codec.sizes", laid_carillon_codec_sizes)], narrowed := true }
def NodeElderUptoSaid : Prop := nodeElderUptoRow.holds Tryz.pinned (OpenSpec.upto nodeElderSpec)

/-- 'carillonlaw20.NodeAlone', WHERE WHAT IT READS IS OF BULK AT MOST 1048576: true; the input reads as it did. -/
def nodeAloneUptoRow : OpenClaim := { program := "ythmhdhmfkegpiaagreatdoor", sum := "2a86a71ecf41367aae9278f76942dc4d8e820819cc623cc100c2d387d2a7b83c", func := "carillon/carillonlaw20.NodeAlone", spec := "nodeAlone", inPlace := ["internal/bytealg.IndexByteString", "internal/bytealg.IndexString"], unfollowed := true, recurses := true, named := ["carillon/codec.sizes", "internal/bytealg.MaxLen"], apart := false, laid := [("carillon/codec.sizes", laid_carillon_codec_sizes)], narrowed := true }
def NodeAloneUptoSaid : Prop := nodeAloneUptoRow.holds Tryz.pinned (OpenSpec.upto nodeAloneSpec)

/-- 'carillonlaw20.NodeSaves', WHERE WHAT IT READS IS OF BULK AT MOST 1048576: true; the input reads as it did. -/
def nodeSavesUptoRow : OpenClaim := { program := "ythmhdhmfkegpiaagreatdoor", sum := "2a86a71ecf41367aae9278f76942dc4d8e820819cc623cc100c2d387d2a7b83c", func := "carillon/carillonlaw20.NodeSaves", spec := "nodeSaves", inPlace := ["internal/bytealg.IndexByteString", "internal/bytealg.IndexString"], unfollowed := true, recurses := true, named := ["carillon/codec.sizes", "internal/bytealg.MaxLen"], apart := false, laid := [("carillon/codec.sizes", laid_carillon_codec_sizes)], narrowed := true }
def NodeSavesUptoSaid : Prop := nodeSavesUptoRow.holds Tryz.pinned (OpenSpec.upto nodeSavesSpec)

/-- 'carillonlaw20.NodeOne', WHERE WHAT IT READS IS OF BULK AT MOST 1048576: true; the input reads as it did. -/
def nodeOneUptoRow : OpenClaim := { program := "ythmhdhmfkegpiaagreatdoor", sum := "2a86a71ecf41367aae9278f76942dc4d8e820819cc623cc100c2d387d2a7b83c", func := "carillon/carillonlaw20.NodeOne", spec := "nodeOne", inPlace := ["internal/bytealg.IndexByteString", "internal/bytealg.IndexString"], unfollowed := true, recurses := true, named := ["carillon/codec.sizes", "internal/bytealg.MaxLen"], apart := false, laid := [("carillon/codec.sizes", laid_carillon_codec_sizes)], narrowed := true }
def NodeOneUptoSaid : Prop := nodeOneUptoRow.holds Tryz.pinned (OpenSpec.upto nodeOneSpec)

/-- 'carillonlaw20.NodeAgrees', WHERE WHAT IT READS IS OF BULK AT MOST 1048576: true; the input reads as it did. -/
def nodeAgreesUptoRow : OpenClaim := { program := "ythmhdhmfkegpiaagreatdoor", sum := "2a86a71ecf41367aae9278f76942dc4d8e820819cc623cc100c2d387d2a7b83c", func := "carillon/carillonlaw20.NodeAgrees", spec := "nodeAgrees", inPlace := ["internal/bytealg.IndexByteString", "internal/bytealg.IndexString"], unfollowed := true, recurses := true, named := ["carillon/codec.sizes", "internal/bytealg.MaxLen"], apart := false, laid := [("carillon/codec.sizes", laid_carillon_codec_sizes)], narrowed := true }
def NodeAgreesUptoSaid : Prop := nodeAgreesUptoRow.holds Tryz.pinned (OpenSpec.upto nodeAgreesSpec)

/-- 'carillonlaw20.NodeTwice', WHERE WHAT IT READS IS OF BULK AT MOST 1048576: true; the input reads as it did. -/
def nodeTwiceUptoRow : OpenClaim := { program := "ythmhdhmfkegpiaagreatdoor", sum := "2a86a71ecf41367aae9278f76942dc4d8e820819cc623cc100c2d387d2a7b83c", func := "carillon/carillonlaw20.NodeTwice", spec := "nodeTwice", inPlace := ["internal/bytealg.IndexByteString", "internal/bytealg.IndexString"], unfollowed := true, recurses := true, named := ["carillon/codec.sizes", "internal/bytealg.MaxLen"], apart := false, laid := [("carillon/codec.sizes", laid_carillon_codec_sizes)], narrowed := true }
def NodeTwiceUptoSaid : Prop := nodeTwiceUptoRow.holds Tryz.pinned (OpenSpec.upto nodeTwiceSpec)

end Rows
end Go.Proofs.YthmhdhmfkegpiaaGreatDoor
