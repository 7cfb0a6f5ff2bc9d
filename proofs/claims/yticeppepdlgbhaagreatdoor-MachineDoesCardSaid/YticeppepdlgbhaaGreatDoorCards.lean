/-
  DERIVED. GIVEN WITH THE SEED: THE CARDS: each row of YticeppepdlgbhaaGreatDoorRows.lean that lists a variable, with what it lists TIED to the program's text (the seventh form; the later family's looks); each row that meets fmt, with fmt's text TOLD by the authors' own Lean function (tested against real Go, not proved from fmt's source: count such statements apart). THE CARD IS WHAT COUNTS. Prove the row's statement (the work); the ties are given (YticeppepdlgbhaaGreatDoorTie.lean); close each card by the builder's one call (the guide's Derived/Test/ToyasCard.lean, 'card_holds'). Laid BY PROGRAM, IN A SANDBOX (cutbox-door.mjs). By AI agents, Wed Nov 11 2026. No macro, syntax, notation, axiom, sorry.
-/
import Derived.Test.YticeppepdlgbhaaGreatDoorRows
import GoSem.ClaimSeven
namespace Go.Proofs.YticeppepdlgbhaaGreatDoor
namespace Rows

/-- THE TIED CARD OF 'carillonlaw15.TopicPlays'. -/
def topicPlaysCard : Claim7 := { stood := { row := topicPlaysRow, standIns := [], harness := (true, "de0865a690010590d311cb8d66d520937aeefeeef29f6e2c9e3a16c7b0906f85"), looks := false }, kinds := [], alts := [], laidByText := true, laidKinds := [.data], laidTests := true, laidLooks := .later }
def TopicPlaysCardSaid : Prop := Claim7.holds Tryz.pinned (.plain (OpenSpec.ofChange topicPlaysSpec)) topicPlaysCard

/-- THE TIED CARD OF 'carillonlaw17.MachineAgree'. -/
def machineAgreeCard : Claim7 := { stood := { row := machineAgreeRow, standIns := [], harness := (true, "de0865a690010590d311cb8d66d520937aeefeeef29f6e2c9e3a16c7b0906f85"), looks := false }, kinds := [], alts := [], laidByText := true, laidKinds := [.data], laidTests := true, laidLooks := .later }
def MachineAgreeCardSaid : Prop := Claim7.holds Tryz.pinned (.plain (OpenSpec.ofChange machineAgreeSpec)) machineAgreeCard

/-- THE TIED CARD OF 'carillonlaw17.MachineDoes'. -/
def machineDoesCard : Claim7 := { stood := { row := machineDoesRow, standIns := [], harness := (true, "de0865a690010590d311cb8d66d520937aeefeeef29f6e2c9e3a16c7b0906f85"), looks := false }, kinds := [], alts := [], laidByText := true, laidKinds := [.data], laidTests := true, laidLooks := .later }
def MachineDoesCardSaid : Prop := Claim7.holds Tryz.pinned (.plain (OpenSpec.ofChange machineDoesSpec)) machineDoesCard

/-- THE TIED CARD OF 'carillonlaw20.NodeBytes'. -/
def nodeBytesCard : Claim7 := { stood := { row := nodeBytesRow, standIns := [], harness := (true, "de0865a690010590d311cb8d66d520937aeefeeef29f6e2c9e3a16c7b0906f85"), looks := false }, kinds := [], alts := [], laidByText := true, laidKinds := [.data], laidTests := true, laidLooks := .later }
def NodeBytesCardSaid : Prop := Claim7.holds Tryz.pinned (.plain (OpenSpec.ofChange nodeBytesSpec)) nodeBytesCard

/-- THE TIED CARD OF 'carillonlaw20.NodeBack'. -/
def nodeBackCard : Claim7 := { stood := { row := nodeBackRow, standIns := [], harness := (true, "de0865a690010590d311cb8d66d520937aeefeeef29f6e2c9e3a16c7b0906f85"), looks := false }, kinds := [], alts := [], laidByText := true, laidKinds := [.data], laidTests := true, laidLooks := .later }
def NodeBackCardSaid : Prop := Claim7.holds Tryz.pinned (.plain (OpenSpec.ofChange nodeBackSpec)) nodeBackCard

/-- THE SECOND FORM's CARD OF 'carillonlaw15.TopicPlays'. -/
def topicPlaysUptoCard : Claim7 := { stood := { row := topicPlaysUptoRow, standIns := [], harness := (true, "de0865a690010590d311cb8d66d520937aeefeeef29f6e2c9e3a16c7b0906f85"), looks := false }, kinds := [], alts := [], laidByText := true, laidKinds := [.data], laidTests := true, laidLooks := .later }
def TopicPlaysUptoCardSaid : Prop := Claim7.holds Tryz.pinned (.plain (OpenSpec.upto topicPlaysSpec)) topicPlaysUptoCard

/-- THE SECOND FORM's CARD OF 'carillonlaw17.MachineAgree'. -/
def machineAgreeUptoCard : Claim7 := { stood := { row := machineAgreeUptoRow, standIns := [], harness := (true, "de0865a690010590d311cb8d66d520937aeefeeef29f6e2c9e3a16c7b0906f85"), looks := false }, kinds := [], alts := [], laidByText := true, laidKinds := [.data], laidTests := true, laidLooks := .later }
def MachineAgreeUptoCardSaid : Prop := Claim7.holds Tryz.pinned (.plain (OpenSpec.upto machineAgreeSpec)) machineAgreeUptoCard

/-- THE SECOND FORM's CARD OF 'carillonlaw17.MachineDoes'. -/
def machineDoesUptoCard : Claim7 := { stood := { row := machineDoesUptoRow, standIns := [], harness := (true, "de0865a690010590d311cb8d66d520937aeefeeef29f6e2c9e3a16c7b0906f85"), looks := false }, kinds := [], alts := [], laidByText := true, laidKinds := [.data], laidTests := true, laidLooks := .later }
def MachineDoesUptoCardSaid : Prop := Claim7.holds Tryz.pinned (.plain (OpenSpec.upto machineDoesSpec)) machineDoesUptoCard

/-- THE SECOND FORM's CARD OF 'carillonlaw20.NodeBytes'. -/
def nodeBytesUptoCard : Claim7 := { stood := { row := nodeBytesUptoRow, standIns := [], harness := (true, "de0865a690010590d311cb8d66d520937aeefeeef29f6e2c9e3a16c7b0906f85"), looks := false }, kinds := [], alts := [], laidByText := true, laidKinds := [.data], laidTests := true, laidLooks := .later }
def NodeBytesUptoCardSaid : Prop := Claim7.holds Tryz.pinned (.plain (OpenSpec.upto nodeBytesSpec)) nodeBytesUptoCard

/-- THE SECOND FORM's CARD OF 'carillonlaw20.NodeBack'. -/
def nodeBackUptoCard : Claim7 := { stood := { row := nodeBackUptoRow, standIns := [], harness := (true, "de0865a690010590d311cb8d66d520937aeefeeef29f6e2c9e3a16c7b0906f85"), looks := false }, kinds := [], alts := [], laidByText := true, laidKinds := [.data], laidTests := true, laidLooks := .later }
def NodeBackUptoCardSaid : Prop := Claim7.holds Tryz.pinned (.plain (OpenSpec.upto nodeBackSpec)) nodeBackUptoCard
end Rows
end Go.Proofs.YticeppepdlgbhaaGreatDoor
