/-
  DERIVED. GIVEN WITH THE SEED: THE CARDS: each row of YthmhdhmfkegpiaaGreatDoorRows.lean that lists a variable, with what it lists TIED to the program's text (the seventh form; the later family's looks); each row that meets fmt, with fmt's text TOLD by the authors' own Lean function (tested against real Go, not proved from fmt's source: count such statements apart). THE CARD IS WHAT COUNTS. Prove the row's statement (the work); the ties are given (YthmhdhmfkegpiaaGreatDoorTie.lean); close each card by the builder's one call (the guide's Derived/Test/ToyasCard.lean, 'card_holds'). Laid BY PROGRAM, IN A SANDBOX (cutbox-door.mjs). By AI agents, Wed Nov 11 2026. No macro, syntax, notation, axiom, sorry.
-/
import Derived.Test.YthmhdhmfkegpiaaGreatDoorRows
import GoSem.ClaimSeven
namespace Go.Proofs.YthmhdhmfkegpiaaGreatDoor
namespace Rows

/-- THE TIED CARD OF 'carillonlaw20.NodeBytes'. -/
def nodeBytesCard : Claim7 := { stood := { row := nodeBytesRow, standIns := [], harness := (true, "da38afcfbfe9c75f3310befae645a95f6966bc4f4a7e88a52aee3fb9590a2e8f"), looks := false }, kinds := [], alts := [], laidByText := true, laidKinds := [.data], laidTests := true, laidLooks := .later }
def NodeBytesCardSaid : Prop := Claim7.holds Tryz.pinned (.plain (OpenSpec.ofChange nodeBytesSpec)) nodeBytesCard

/-- THE TIED CARD OF 'carillonlaw20.NodeBack'. -/
def nodeBackCard : Claim7 := { stood := { row := nodeBackRow, standIns := [], harness := (true, "da38afcfbfe9c75f3310befae645a95f6966bc4f4a7e88a52aee3fb9590a2e8f"), looks := false }, kinds := [], alts := [], laidByText := true, laidKinds := [.data], laidTests := true, laidLooks := .later }
def NodeBackCardSaid : Prop := Claim7.holds Tryz.pinned (.plain (OpenSpec.ofChange nodeBackSpec)) nodeBackCard

/-- THE TIED CARD OF 'carillonlaw20.NodeElder'. -/
def nodeElderCard : Claim7 := { stood := { row := nodeElderRow, standIns := [], harness := (true, "da38afcfbfe9c75f3310befae645a95f6966bc4f4a7e88a52aee3fb9590a2e8f"), looks := false }, kinds := [], alts := [], laidByText := true, laidKinds := [.data], laidTests := true, laidLooks := .later }
def NodeElderCardSaid : Prop := Claim7.holds Tryz.pinned (.plain (OpenSpec.ofChange nodeElderSpec)) nodeElderCard

/-- THE TIED CARD OF 'carillonlaw20.NodeAlone'. -/
def nodeAloneCard : Claim7 := { stood := { row := nodeAloneRow, standIns := [], harness := (true, "da38afcfbfe9c75f3310befae645a95f6966bc4f4a7e88a52aee3fb9590a2e8f"), looks := false }, kinds := [], alts := [], laidByText := true, laidKinds := [.data], laidTests := true, laidLooks := .later }
def NodeAloneCardSaid : Prop := Claim7.holds Tryz.pinned (.plain (OpenSpec.ofChange nodeAloneSpec)) nodeAloneCard

/-- THE TIED CARD OF 'carillonlaw20.NodeSaves'. -/
def nodeSavesCard : Claim7 := { stood := { row := nodeSavesRow, standIns := [], harness := (true, "da38afcfbfe9c75f3310befae645a95f6966bc4f4a7e88a52aee3fb9590a2e8f"), looks := false }, kinds := [], alts := [], laidByText := true, laidKinds := [.data], laidTests := true, laidLooks := .later }
def NodeSavesCardSaid : Prop := Claim7.holds Tryz.pinned (.plain (OpenSpec.ofChange nodeSavesSpec)) nodeSavesCard

/-- THE TIED CARD OF 'carillonlaw20.NodeOne'. -/
def nodeOneCard : Claim7 := { stood := { row := nodeOneRow, standIns := [], harness := (true, "da38afcfbfe9c75f3310befae645a95f6966bc4f4a7e88a52aee3fb9590a2e8f"), looks := false }, kinds := [], alts := [], laidByText := true, laidKinds := [.data], laidTests := true, laidLooks := .later }
def NodeOneCardSaid : Prop := Claim7.holds Tryz.pinned (.plain (OpenSpec.ofChange nodeOneSpec)) nodeOneCard

/-- THE TIED CARD OF 'carillonlaw20.NodeAgrees'. -/
def nodeAgreesCard : Claim7 := { stood := { row := nodeAgreesRow, standIns := [], harness := (true, "da38afcfbfe9c75f3310befae645a95f6966bc4f4a7e88a52aee3fb9590a2e8f"), looks := false }, kinds := [], alts := [], laidByText := true, laidKinds := [.data], laidTests := true, laidLooks := .later }
def NodeAgreesCardSaid : Prop := Claim7.holds Tryz.pinned (.plain (OpenSpec.ofChange nodeAgreesSpec)) nodeAgreesCard

/-- THE TIED CARD OF 'carillonlaw20.NodeTwice'. -/
def nodeTwiceCard : Claim7 := { stood := { row := nodeTwiceRow, standIns := [], harness := (true, "da38afcfbfe9c75f3310befae645a95f6966bc4f4a7e88a52aee3fb9590a2e8f"), looks := false }, kinds := [], alts := [], laidByText := true, laidKinds := [.data], laidTests := true, laidLooks := .later }
def NodeTwiceCardSaid : Prop := Claim7.holds Tryz.pinned (.plain (OpenSpec.ofChange nodeTwiceSpec)) nodeTwiceCard

/-- THE SECOND FORM's CARD OF 'carillonlaw20.NodeBytes'. -/
def nodeBytesUptoCard : Claim7 := { stood := { row := nodeBytesUptoRow, standIns := [], harness := (true, "da38afcfbfe9c75f3310befae645a95f6966bc4f4a7e88a52aee3fb9590a2e8f"), looks := false }, kinds := [], alts := [], laidByText := true, laidKinds := [.data], laidTests := true, laidLooks := .later }
def NodeBytesUptoCardSaid : Prop := Claim7.holds Tryz.pinned (.plain (OpenSpec.upto nodeBytesSpec)) nodeBytesUptoCard

/-- THE SECOND FORM's CARD OF 'carillonlaw20.NodeBack'. -/
def nodeBackUptoCard : Claim7 := { stood := { row := nodeBackUptoRow, standIns := [], harness := (true, "da38afcfbfe9c75f3310befae645a95f6966bc4f4a7e88a52aee3fb9590a2e8f"), looks := false }, kinds := [], alts := [], laidByText := true, laidKinds := [.data], laidTests := true, laidLooks := .later }
def NodeBackUptoCardSaid : Prop := Claim7.holds Tryz.pinned (.plain (OpenSpec.upto nodeBackSpec)) nodeBackUptoCard

/-- THE SECOND FORM's CARD OF 'carillonlaw20.NodeElder'. -/
def nodeElderUptoCard : Claim7 := { stood := { row := nodeElderUptoRow, standIns := [], harness := (true, "da38afcfbfe9c75f3310befae645a95f6966bc4f4a7e88a52aee3fb9590a2e8f"), looks := false }, kinds := [], alts := [], laidByText := true, laidKinds := [.data], laidTests := true, laidLooks := .later }
def NodeElderUptoCardSaid : Prop := Claim7.holds Tryz.pinned (.plain (OpenSpec.upto nodeElderSpec)) nodeElderUptoCard

/-- THE SECOND FORM's CARD OF 'carillonlaw20.NodeAlone'. -/
def nodeAloneUptoCard : Claim7 := { stood := { row := nodeAloneUptoRow, standIns := [], harness := (true, "da38afcfbfe9c75f3310befae645a95f6966bc4f4a7e88a52aee3fb9590a2e8f"), looks := false }, kinds := [], alts := [], laidByText := true, laidKinds := [.data], laidTests := true, laidLooks := .later }
def NodeAloneUptoCardSaid : Prop := Claim7.holds Tryz.pinned (.plain (OpenSpec.upto nodeAloneSpec)) nodeAloneUptoCard

/-- THE SECOND FORM's CARD OF 'carillonlaw20.NodeSaves'. -/
def nodeSavesUptoCard : Claim7 := { stood := { row := nodeSavesUptoRow, standIns := [], harness := (true, "da38afcfbfe9c75f3310befae645a95f6966bc4f4a7e88a52aee3fb9590a2e8f"), looks := false }, kinds := [], alts := [], laidByText := true, laidKinds := [.data], laidTests := true, laidLooks := .later }
def NodeSavesUptoCardSaid : Prop := Claim7.holds Tryz.pinned (.plain (OpenSpec.upto nodeSavesSpec)) nodeSavesUptoCard

/-- THE SECOND FORM's CARD OF 'carillonlaw20.NodeOne'. -/
def nodeOneUptoCard : Claim7 := { stood := { row := nodeOneUptoRow, standIns := [], harness := (true, "da38afcfbfe9c75f3310befae645a95f6966bc4f4a7e88a52aee3fb9590a2e8f"), looks := false }, kinds := [], alts := [], laidByText := true, laidKinds := [.data], laidTests := true, laidLooks := .later }
def NodeOneUptoCardSaid : Prop := Claim7.holds Tryz.pinned (.plain (OpenSpec.upto nodeOneSpec)) nodeOneUptoCard

/-- THE SECOND FORM's CARD OF 'carillonlaw20.NodeAgrees'. -/
def nodeAgreesUptoCard : Claim7 := { stood := { row := nodeAgreesUptoRow, standIns := [], harness := (true, "da38afcfbfe9c75f3310befae645a95f6966bc4f4a7e88a52aee3fb9590a2e8f"), looks := false }, kinds := [], alts := [], laidByText := true, laidKinds := [.data], laidTests := true, laidLooks := .later }
def NodeAgreesUptoCardSaid : Prop := Claim7.holds Tryz.pinned (.plain (OpenSpec.upto nodeAgreesSpec)) nodeAgreesUptoCard

/-- THE SECOND FORM's CARD OF 'carillonlaw20.NodeTwice'. -/
def nodeTwiceUptoCard : Claim7 := { stood := { row := nodeTwiceUptoRow, standIns := [], harness := (true, "da38afcfbfe9c75f3310befae645a95f6966bc4f4a7e88a52aee3fb9590a2e8f"), looks := false }, kinds := [], alts := [], laidByText := true, laidKinds := [.data], laidTests := true, laidLooks := .later }
def NodeTwiceUptoCardSaid : Prop := Claim7.holds Tryz.pinned (.plain (OpenSpec.upto nodeTwiceSpec)) nodeTwiceUptoCard
end Rows
end Go.Proofs.YthmhdhmfkegpiaaGreatDoor
