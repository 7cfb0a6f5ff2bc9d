/-
  NARROWER THAN 'FOR EVERY INPUT', by the rows' own cells (each row's printed sentence says how): TopicLoads: laid · TopicBack: laid · MachineOnce: laid · MachineApart: laid · MachineWants: laid.
  DERIVED. THE GIVEN ROWS OF THIS SEAT. 5 by the template 'for every input the law returns true; each argument reads behind the call as it read before'; 0 by the template 'total and deterministic' (their statements: YticeppepdlgbhaaDoorTotals.lean).
  GIVEN WITH THE SEED: the statements are not yours to turn. If you find one false, say at which input.
  Laid BY PROGRAM, IN A SANDBOX (cutbox-rows.mjs): the forced cells as the released guide's own fill.sh prints them over the translation 1461aa4bdbc0fb6d… (all of the seat's roots in one cut). By AI agents, Wed Nov 11 2026. No macro, syntax, notation, axiom, sorry.
-/
import Derived.Test.YticeppepdlgbhaaDoorChecked
import GoSem.Claim
import GoSem.ClaimJoined
import GoSem.ClaimMapViews
import Derived.JoinedTies
import Derived.KernelRfl
namespace Go.Proofs.YticeppepdlgbhaaDoor
/- THE CELL 'sum', in the pinned program and in every row, IS THE sha256 OF THE DUMP (.gsa) THAT YticeppepdlgbhaaDoorProg.lean LOADS. Nothing in Lean hashes anything: it is a label: what it is worth is what the hold of that sum in a sandbox is worth. -/
noncomputable def Tryd.pinned : Pinned := { name := "yticeppepdlgbhaadoor", sum := "1461aa4bdbc0fb6df31ac2d5173f8c5867634a79403422021ce97b491a9b3f89", checked := Tryd.checked }
namespace Rows
def none {H : Type} : Left H := { results := [], args := [] }

/- WHAT THE LISTED PACKAGE-LEVEL VARIABLES READ AS WHEN THE CALL BEGINS. Each datum BY PROGRAM (the guide's laid-datum.mjs) off the statement by which the dump's own 'gosem.cut.vars' lays the variable. In a bare row this is a premise. The card (YticeppepdlgbhaaDoorCards.lean) ties it to the program's text. -/
def laid_carillon_codec_sizes {H : Type} : DataW H := .agg [.lit (.int .i64 0), .lit (.int .i64 1), .lit (.int .i64 4), .lit (.int .i64 8), .lit (.int .i64 0)]

/-- 'carillonlaw15.TopicLoads': WHATEVER THE INPUT: true; the input reads as it did. -/
def topicLoadsSpec : ChangeSpec := { name := "topicLoads", fn := fun _ => fun
  | [d] => { results := [.lit (.bool true)], args := [d] }
  | _ => none }
def topicLoadsRow : OpenClaim := { program := "yticeppepdlgbhaadoor", sum := "1461aa4bdbc0fb6df31ac2d5173f8c5867634a79403422021ce97b491a9b3f89", func := "carillon/carillonlaw15.TopicLoads", spec := "topicLoads", inPlace := ["internal/abi.NoEscape", "internal/bytealg.MakeNoZero", "internal/bytealg.IndexByteString", "internal/bytealg.IndexString"], unfollowed := true, recurses := true, named := ["carillon/codec.sizes", "internal/bytealg.MaxLen"], apart := false, laid := [("carillon/codec.sizes", laid_carillon_codec_sizes)] }
def TopicLoadsSaid : Prop := topicLoadsRow.holds Tryd.pinned (OpenSpec.ofChange topicLoadsSpec)

/-- ITS FALSE NEIGHBOUR: 'it returns false'. Refute it at one input. -/
def topicLoadsWrong : ChangeSpec := { name := "topicLoads", fn := fun _ => fun
  | [d] => { results := [.lit (.bool false)], args := [d] }
  | _ => none }
def TopicLoadsWrongFalsely : Prop := topicLoadsRow.holds Tryd.pinned (OpenSpec.ofChange topicLoadsWrong)

/-- 'carillonlaw15.TopicBack': WHATEVER THE INPUT: true; the input reads as it did. -/
def topicBackSpec : ChangeSpec := { name := "topicBack", fn := fun _ => fun
  | [d1, d2] => { results := [.lit (.bool true)], args := [d1, d2] }
  | _ => none }
def topicBackRow : OpenClaim := { program := "yticeppepdlgbhaadoor", sum := "1461aa4bdbc0fb6df31ac2d5173f8c5867634a79403422021ce97b491a9b3f89", func := "carillon/carillonlaw15.TopicBack", spec := "topicBack", inPlace := ["internal/abi.NoEscape", "internal/bytealg.MakeNoZero", "internal/bytealg.IndexByteString", "internal/bytealg.IndexString"], unfollowed := true, recurses := true, named := ["carillon/codec.sizes", "internal/bytealg.MaxLen"], apart := false, laid := [("carillon/codec.sizes", laid_carillon_codec_sizes)] }
def TopicBackSaid : Prop := topicBackRow.holds Tryd.pinned (OpenSpec.ofChange topicBackSpec)

/-- ITS FALSE NEIGHBOUR: 'it returns false'. Refute it at one input. -/
def topicBackWrong : ChangeSpec := { name := "topicBack", fn := fun _ => fun
  | [d1, d2] => { results := [.lit (.bool false)], args := [d1, d2] }
  | _ => none }
def TopicBackWrongFalsely : Prop := topicBackRow.holds Tryd.pinned (OpenSpec.ofChange topicBackWrong)

/-- 'carillonlaw17.MachineOnce': WHATEVER THE INPUT: true; the input reads as it did. -/
def machineOnceSpec : ChangeSpec := { name := "machineOnce", fn := fun _ => fun
  | [d1, d2, d3] => { results := [.lit (.bool true)], args := [d1, d2, d3] }
  | _ => none }
def machineOnceRow : OpenClaim := { program := "yticeppepdlgbhaadoor", sum := "1461aa4bdbc0fb6df31ac2d5173f8c5867634a79403422021ce97b491a9b3f89", func := "carillon/carillonlaw17.MachineOnce", spec := "machineOnce", inPlace := ["internal/bytealg.IndexByteString", "internal/bytealg.IndexString"], unfollowed := true, recurses := true, named := ["carillon/codec.sizes", "internal/bytealg.MaxLen"], apart := false, laid := [("carillon/codec.sizes", laid_carillon_codec_sizes)] }
def MachineOnceSaid : Prop := machineOnceRow.holds Tryd.pinned (OpenSpec.ofChange machineOnceSpec)

/-- ITS FALSE NEIGHBOUR: 'it returns false'. Refute it at one input. -/
def machineOnceWrong : ChangeSpec := { name := "machineOnce", fn := fun _ => fun
  | [d1, d2, d3] => { results := [.lit (.bool false)], args := [d1, d2, d3] }
  | _ => none }
def MachineOnceWrongFalsely : Prop := machineOnceRow.holds Tryd.pinned (OpenSpec.ofChange machineOnceWrong)

/-- 'carillonlaw17.MachineApart': WHATEVER THE INPUT: true; the input reads as it did. -/
def machineApartSpec : ChangeSpec := { name := "machineApart", fn := fun _ => fun
  | [d1, d2] => { results := [.lit (.bool true)], args := [d1, d2] }
  | _ => none }
def machineApartRow : OpenClaim := { program := "yticeppepdlgbhaadoor", sum := "1461aa4bdbc0fb6df31ac2d5173f8c5867634a79403422021ce97b491a9b3f89", func := "carillon/carillonlaw17.MachineApart", spec := "machineApart", inPlace := ["internal/bytealg.IndexByteString", "internal/bytealg.IndexString"], unfollowed := true, recurses := true, named := ["carillon/codec.sizes", "internal/bytealg.MaxLen"], apart := false, laid := [("carillon/codec.sizes", laid_carillon_codec_sizes)] }
def MachineApartSaid : Prop := machineApartRow.holds Tryd.pinned (OpenSpec.ofChange machineApartSpec)

/-- ITS FALSE NEIGHBOUR: 'it returns false'. Refute it at one input. -/
def machineApartWrong : ChangeSpec := { name := "machineApart", fn := fun _ => fun
  | [d1, d2] => { results := [.lit (.bool false)], args := [d1, d2] }
  | _ => none }
def MachineApartWrongFalsely : Prop := machineApartRow.holds Tryd.pinned (OpenSpec.ofChange machineApartWrong)

/-- 'carillonlaw17.MachineWants': WHATEVER THE INPUT: true; the input reads as it did. -/
def machineWantsSpec : ChangeSpec := { name := "machineWants", fn := fun _ => fun
  | [d1, d2, d3] => { results := [.lit (.bool true)], args := [d1, d2, d3] }
  | _ => none }
def machineWantsRow : OpenClaim := { program := "yticeppepdlgbhaadoor", sum := "1461aa4bdbc0fb6df31ac2d5173f8c5867634a79403422021ce97b491a9b3f89", func := "carillon/carillonlaw17.MachineWants", spec := "machineWants", inPlace := ["internal/bytealg.IndexByteString", "internal/bytealg.IndexString"], unfollowed := true, recurses := true, named := ["carillon/codec.sizes", "internal/bytealg.MaxLen"], apart := false, laid := [("carillon/codec.sizes", laid_carillon_codec_sizes)] }
def MachineWantsSaid : Prop := machineWantsRow.holds Tryd.pinned (OpenSpec.ofChange machineWantsSpec)

/-- ITS FALSE NEIGHBOUR: 'it returns false'. Refute it at one input. -/
def machineWantsWrong : ChangeSpec := { name := "machineWants", fn := fun _ => fun
  | [d1, d2, d3] => { results := [.lit (.bool false)], args := [d1, d2, d3] }
  | _ => none }
def MachineWantsWrongFalsely : Prop := machineWantsRow.holds Tryd.pinned (OpenSpec.ofChange machineWantsWrong)

/- THE SECOND FORM. 'bulk': how many values and letters a reading holds, each counted each time it is reached (what is shared counts as often as it is met; a slice's spare places count too). A statement '..UptoSaid' is the law's where the arguments, and the package variables that the reading takes, are together of bulk at most 1048576: NARROWER than '..Said'. Prove '..Said' where nothing that the law and all that it calls make is longer than what came in: it says more and counts as full. Else prove '..UptoSaid'. A law counts once. -/
mutual
def uptoBulk {H : Type} : DataW H → Nat
  | .lit (.string bytes) => bytes.length + 1
  | .lit _ => 1
  | .nil => 1
  | .ptr d => uptoBulk d + 1
  | .slice elems spare => uptoBulkAll elems + uptoBulkAll spare + 1
  | .agg parts => uptoBulkAll parts + 1
  | .iface _ d => uptoBulk d + 1
  | .map entries => uptoBulkEntries entries + 1
  | .held _ => 1
def uptoBulkAll {H : Type} : List (DataW H) → Nat
  | [] => 0
  | d :: r => uptoBulk d + uptoBulkAll r
def uptoBulkEntries {H : Type} : List (Lit × DataW H) → Nat
  | [] => 0
  | x :: r => uptoBulkEntry x + uptoBulkEntries r
def uptoBulkEntry {H : Type} : Lit × DataW H → Nat
  | (.string bytes, d) => bytes.length + uptoBulk d + 1
  | (_, d) => uptoBulk d + 1
 end
def uptoSmall : (H : Type) → List (DataW H) → Bool := fun _ ds => decide (uptoBulkAll ds ≤ 1048576)
def OpenSpec.upto (s : _root_.Go.ChangeSpec) : _root_.Go.OpenSpec := { _root_.Go.OpenSpec.ofChange s with cond := some uptoSmall }

/-- 'carillonlaw15.TopicLoads', WHERE WHAT IT READS IS OF BULK AT MOST 1048576: true; the input reads as it did. -/
def topicLoadsUptoRow : OpenClaim := { program := "yticeppepdlgbhaadoor", sum := "1461aa4bdbc0fb6df31ac2d5173f8c5867634a79403422021ce97b491a9b3f89", func := "carillon/carillonlaw15.TopicLoads", spec := "topicLoads", inPlace := ["internal/abi.NoEscape", "internal/bytealg.MakeNoZero", "internal/bytealg.IndexByteString", "internal/bytealg.IndexString"], unfollowed := true, recurses := true, named := ["carillon/codec.sizes", "internal/bytealg.MaxLen"], apart := false, laid := [("carillon/codec.sizes", laid_carillon_codec_sizes)], narrowed := true }
def TopicLoadsUptoSaid : Prop := topicLoadsUptoRow.holds Tryd.pinned (OpenSpec.upto topicLoadsSpec)

/-- 'carillonlaw15.TopicBack', WHERE WHAT IT READS IS OF BULK AT MOST 1048576: true; the input reads as it did. -/
def topicBackUptoRow : OpenClaim := { program := "yticeppepdlgbhaadoor", sum := "1461aa4bdbc0fb6df31ac2d5173f8c5867634a79403422021ce97b491a9b3f89", func := "carillon/carillonlaw15.TopicBack", spec := "topicBack", inPlace := ["internal/abi.NoEscape", "internal/bytealg.MakeNoZero", "internal/bytealg.IndexByteString", "internal/bytealg.IndexString"], unfollowed := true, recurses := true, named := ["carillon/codec.sizes", "internal/bytealg.MaxLen"], apart := false, laid := [("carillon/codec.sizes", laid_carillon_codec_sizes)], narrowed := true }
def TopicBackUptoSaid : Prop := topicBackUptoRow.holds Tryd.pinned (OpenSpec.upto topicBackSpec)

/-- 'carillonlaw17.MachineOnce', WHERE WHAT IT READS IS OF BULK AT MOST 1048576: true; the input reads as it did. -/
def machineOnceUptoRow : OpenClaim := { program := "yticeppepdlgbhaadoor", sum := "1461aa4bdbc0fb6df31ac2d5173f8c5867634a79403422021ce97b491a9b3f89", func := "carillon/carillonlaw17.MachineOnce", spec := "machineOnce", inPlace := ["internal/bytealg.IndexByteString", "internal/bytealg.IndexString"], unfollowed := true, recurses := true, named := ["carillon/codec.sizes", "internal/bytealg.MaxLen"], apart := false, laid := [("carillon/codec.sizes", laid_carillon_codec_sizes)], narrowed := true }
def MachineOnceUptoSaid : Prop := machineOnceUptoRow.holds Tryd.pinned (OpenSpec.upto machineOnceSpec)

/-- 'carillonlaw17.MachineApart', WHERE WHAT IT READS IS OF BULK AT MOST 1048576: true; the input reads as it did. -/
def machineApartUptoRow : OpenClaim := { program := "yticeppepdlgbhaadoor", sum := "1461aa4bdbc0fb6df31ac2d5173f8c5867634a79403422021ce97b491a9b3f89", func := "carillon/carillonlaw17.MachineApart", spec := "machineApart", inPlace := ["internal/bytealg.IndexByteString", "internal/bytealg.IndexString"], unfollowed := true, recurses := true, named := ["carillon/codec.sizes", "internal/bytealg.MaxLen"], apart := false, laid := [("carillon/codec.sizes", laid_carillon_codec_sizes)], narrowed := true }
def MachineApartUptoSaid : Prop := machineApartUptoRow.holds Tryd.pinned (OpenSpec.upto machineApartSpec)

/-- 'carillonlaw17.MachineWants', WHERE WHAT IT READS IS OF BULK AT MOST 1048576: true; the input reads as it did. -/
def machineWantsUptoRow : OpenClaim := { program := "yticeppepdlgbhaadoor", sum := "1461aa4bdbc0fb6df31ac2d5173f8c5867634a79403422021ce97b491a9b3f89", func := "carillon/carillonlaw17.MachineWants", spec := "machineWants", inPlace := ["internal/bytealg.IndexByteString", "internal/bytealg.IndexString"], unfollowed := true, recurses := true, named := ["carillon/codec.sizes", "internal/bytealg.MaxLen"], apart := false, laid := [("carillon/codec.sizes", laid_carillon_codec_sizes)], narrowed := true }
def MachineWantsUptoSaid : Prop := machineWantsUptoRow.holds Tryd.pinned (OpenSpec.upto machineWantsSpec)

end Rows
end Go.Proofs.YticeppepdlgbhaaDoor
