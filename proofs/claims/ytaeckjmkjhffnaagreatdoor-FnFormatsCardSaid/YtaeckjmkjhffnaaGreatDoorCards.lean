/-
  DERIVED. GIVEN WITH THE SEED: THE CARDS: each row of YtaeckjmkjhffnaaGreatDoorRows.lean that lists a variable, with what it lists TIED to the program's text (the seventh form; the later family's looks); each row that meets fmt, with fmt's text TOLD by the authors' own Lean function (tested against real Go, not proved from fmt's source: count such statements apart). THE CARD IS WHAT COUNTS. Prove the row's statement (the work); the ties are given (YtaeckjmkjhffnaaGreatDoorTie.lean); close each card by the builder's one call (the guide's Derived/Test/ToyasCard.lean, 'card_holds'). Laid BY PROGRAM, IN A SANDBOX (cutbox-door.mjs). By AI agents, Wed Nov 11 2026. No macro, syntax, notation, axiom, sorry.
-/
import Derived.Test.YtaeckjmkjhffnaaGreatDoorRows
import GoSem.ClaimSeven
namespace Go.Proofs.YtaeckjmkjhffnaaGreatDoor
namespace Rows

/-- THE TIED CARD OF 'laws.FnExactFormatPlacement'. -/
def fnExactFormatPlacementCard : Claim7 := { stood := { row := fnExactFormatPlacementRow, standIns := [], harness := (true, "be79788f6e2a41cb48d596c50becff7451f8c4a49d03d73ad688877dd28a982e"), looks := false }, kinds := [], alts := [], laidByText := true, laidKinds := [.data, .data, .data], laidTests := true, laidLooks := .later }
def FnExactFormatPlacementCardSaid : Prop := Claim7.holds Tryz.pinned (.plain (OpenSpec.ofChange fnExactFormatPlacementSpec)) fnExactFormatPlacementCard

/-- THE TIED CARD OF 'laws.FnExactFormatStep'. -/
def fnExactFormatStepCard : Claim7 := { stood := { row := fnExactFormatStepRow, standIns := [], harness := (true, "be79788f6e2a41cb48d596c50becff7451f8c4a49d03d73ad688877dd28a982e"), looks := false }, kinds := [], alts := [], laidByText := true, laidKinds := [.data, .data, .data], laidTests := true, laidLooks := .later }
def FnExactFormatStepCardSaid : Prop := Claim7.holds Tryz.pinned (.plain (OpenSpec.ofChange fnExactFormatStepSpec)) fnExactFormatStepCard

/-- THE TIED CARD OF 'laws.FnExactFormatMotion'. -/
def fnExactFormatMotionCard : Claim7 := { stood := { row := fnExactFormatMotionRow, standIns := [], harness := (true, "be79788f6e2a41cb48d596c50becff7451f8c4a49d03d73ad688877dd28a982e"), looks := false }, kinds := [], alts := [], laidByText := true, laidKinds := [.data, .data, .data], laidTests := true, laidLooks := .later }
def FnExactFormatMotionCardSaid : Prop := Claim7.holds Tryz.pinned (.plain (OpenSpec.ofChange fnExactFormatMotionSpec)) fnExactFormatMotionCard

/-- THE TIED CARD OF 'laws.FnExactParsePlacement'. -/
def fnExactParsePlacementCard : Claim7 := { stood := { row := fnExactParsePlacementRow, standIns := [], harness := (true, "be79788f6e2a41cb48d596c50becff7451f8c4a49d03d73ad688877dd28a982e"), looks := false }, kinds := [], alts := [], laidByText := true, laidKinds := [.data, .data, .data], laidTests := true, laidLooks := .later }
def FnExactParsePlacementCardSaid : Prop := Claim7.holds Tryz.pinned (.plain (OpenSpec.ofChange fnExactParsePlacementSpec)) fnExactParsePlacementCard

/-- THE TIED CARD OF 'laws.FnExactParseStep'. -/
def fnExactParseStepCard : Claim7 := { stood := { row := fnExactParseStepRow, standIns := [], harness := (true, "be79788f6e2a41cb48d596c50becff7451f8c4a49d03d73ad688877dd28a982e"), looks := false }, kinds := [], alts := [], laidByText := true, laidKinds := [.data, .data, .data], laidTests := true, laidLooks := .later }
def FnExactParseStepCardSaid : Prop := Claim7.holds Tryz.pinned (.plain (OpenSpec.ofChange fnExactParseStepSpec)) fnExactParseStepCard

/-- THE TIED CARD OF 'laws.FnFormats'. -/
def fnFormatsCard : Claim7 := { stood := { row := fnFormatsRow, standIns := [], harness := (true, "be79788f6e2a41cb48d596c50becff7451f8c4a49d03d73ad688877dd28a982e"), looks := false }, kinds := [], alts := [], laidByText := true, laidKinds := [.data, .data, .data, .data, .pinned], laidTests := true, laidLooks := .later }
def FnFormatsCardSaid : Prop := Claim7.holds Tryz.pinned (.plain (OpenSpec.ofChange fnFormatsSpec)) fnFormatsCard

/-- THE TIED CARD OF 'laws.FnExactParseMotion'. -/
def fnExactParseMotionCard : Claim7 := { stood := { row := fnExactParseMotionRow, standIns := [], harness := (true, "be79788f6e2a41cb48d596c50becff7451f8c4a49d03d73ad688877dd28a982e"), looks := false }, kinds := [], alts := [], laidByText := true, laidKinds := [.data, .data, .data, .data, .pinned], laidTests := true, laidLooks := .later }
def FnExactParseMotionCardSaid : Prop := Claim7.holds Tryz.pinned (.plain (OpenSpec.ofChange fnExactParseMotionSpec)) fnExactParseMotionCard

/-- THE SECOND FORM's CARD OF 'laws.FnExactFormatPlacement'. -/
def fnExactFormatPlacementUptoCard : Claim7 := { stood := { row := fnExactFormatPlacementUptoRow, standIns := [], harness := (true, "be79788f6e2a41cb48d596c50becff7451f8c4a49d03d73ad688877dd28a982e"), looks := false }, kinds := [], alts := [], laidByText := true, laidKinds := [.data, .data, .data], laidTests := true, laidLooks := .later }
def FnExactFormatPlacementUptoCardSaid : Prop := Claim7.holds Tryz.pinned (.plain (OpenSpec.upto fnExactFormatPlacementSpec)) fnExactFormatPlacementUptoCard

/-- THE SECOND FORM's CARD OF 'laws.FnExactFormatStep'. -/
def fnExactFormatStepUptoCard : Claim7 := { stood := { row := fnExactFormatStepUptoRow, standIns := [], harness := (true, "be79788f6e2a41cb48d596c50becff7451f8c4a49d03d73ad688877dd28a982e"), looks := false }, kinds := [], alts := [], laidByText := true, laidKinds := [.data, .data, .data], laidTests := true, laidLooks := .later }
def FnExactFormatStepUptoCardSaid : Prop := Claim7.holds Tryz.pinned (.plain (OpenSpec.upto fnExactFormatStepSpec)) fnExactFormatStepUptoCard

/-- THE SECOND FORM's CARD OF 'laws.FnExactFormatMotion'. -/
def fnExactFormatMotionUptoCard : Claim7 := { stood := { row := fnExactFormatMotionUptoRow, standIns := [], harness := (true, "be79788f6e2a41cb48d596c50becff7451f8c4a49d03d73ad688877dd28a982e"), looks := false }, kinds := [], alts := [], laidByText := true, laidKinds := [.data, .data, .data], laidTests := true, laidLooks := .later }
def FnExactFormatMotionUptoCardSaid : Prop := Claim7.holds Tryz.pinned (.plain (OpenSpec.upto fnExactFormatMotionSpec)) fnExactFormatMotionUptoCard

/-- THE SECOND FORM's CARD OF 'laws.FnExactParsePlacement'. -/
def fnExactParsePlacementUptoCard : Claim7 := { stood := { row := fnExactParsePlacementUptoRow, standIns := [], harness := (true, "be79788f6e2a41cb48d596c50becff7451f8c4a49d03d73ad688877dd28a982e"), looks := false }, kinds := [], alts := [], laidByText := true, laidKinds := [.data, .data, .data], laidTests := true, laidLooks := .later }
def FnExactParsePlacementUptoCardSaid : Prop := Claim7.holds Tryz.pinned (.plain (OpenSpec.upto fnExactParsePlacementSpec)) fnExactParsePlacementUptoCard

/-- THE SECOND FORM's CARD OF 'laws.FnExactParseStep'. -/
def fnExactParseStepUptoCard : Claim7 := { stood := { row := fnExactParseStepUptoRow, standIns := [], harness := (true, "be79788f6e2a41cb48d596c50becff7451f8c4a49d03d73ad688877dd28a982e"), looks := false }, kinds := [], alts := [], laidByText := true, laidKinds := [.data, .data, .data], laidTests := true, laidLooks := .later }
def FnExactParseStepUptoCardSaid : Prop := Claim7.holds Tryz.pinned (.plain (OpenSpec.upto fnExactParseStepSpec)) fnExactParseStepUptoCard

/-- THE SECOND FORM's CARD OF 'laws.FnFormats'. -/
def fnFormatsUptoCard : Claim7 := { stood := { row := fnFormatsUptoRow, standIns := [], harness := (true, "be79788f6e2a41cb48d596c50becff7451f8c4a49d03d73ad688877dd28a982e"), looks := false }, kinds := [], alts := [], laidByText := true, laidKinds := [.data, .data, .data, .data, .pinned], laidTests := true, laidLooks := .later }
def FnFormatsUptoCardSaid : Prop := Claim7.holds Tryz.pinned (.plain (OpenSpec.upto fnFormatsSpec)) fnFormatsUptoCard

/-- THE SECOND FORM's CARD OF 'laws.FnExactParseMotion'. -/
def fnExactParseMotionUptoCard : Claim7 := { stood := { row := fnExactParseMotionUptoRow, standIns := [], harness := (true, "be79788f6e2a41cb48d596c50becff7451f8c4a49d03d73ad688877dd28a982e"), looks := false }, kinds := [], alts := [], laidByText := true, laidKinds := [.data, .data, .data, .data, .pinned], laidTests := true, laidLooks := .later }
def FnExactParseMotionUptoCardSaid : Prop := Claim7.holds Tryz.pinned (.plain (OpenSpec.upto fnExactParseMotionSpec)) fnExactParseMotionUptoCard
end Rows
end Go.Proofs.YtaeckjmkjhffnaaGreatDoor
