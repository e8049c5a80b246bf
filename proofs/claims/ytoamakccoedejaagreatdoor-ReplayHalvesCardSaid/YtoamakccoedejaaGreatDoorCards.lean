/-
  DERIVED. GIVEN WITH THE SEED: THE CARDS: each row of YtoamakccoedejaaGreatDoorRows.lean that lists a variable, with what it lists TIED to the program's text (the seventh form; the later family's looks); each row that meets fmt, with fmt's text TOLD by the authors' own Lean function (tested against real Go, not proved from fmt's source: count such statements apart). THE CARD IS WHAT COUNTS. Prove the row's statement (the work); the ties are given (YtoamakccoedejaaGreatDoorTie.lean); close each card by the builder's one call (the guide's Derived/Test/ToyasCard.lean, 'card_holds'). Laid BY PROGRAM, IN A SANDBOX (cutbox-door.mjs). By AI agents, Wed Nov 11 2026. No macro, syntax, notation, axiom, sorry.
-/
import Derived.Test.YtoamakccoedejaaGreatDoorRows
import GoSem.ClaimSeven
namespace Go.Proofs.YtoamakccoedejaaGreatDoor
namespace Rows

/-- THE TIED CARD OF 'gerundlaw30.ReplayHalves'. -/
def replayHalvesCard : Claim7 := { stood := { row := replayHalvesRow, standIns := [], harness := (true, "bf8c8ecdc7c03bd63e9e8c1b9646bd50c4ef3bd3a43f79386fba2a5bc55b9df9"), looks := false }, kinds := [], alts := [], laidByText := true, laidKinds := [.data], laidTests := true, laidLooks := .later }
def ReplayHalvesCardSaid : Prop := Claim7.holds Tryz.pinned (.plain (OpenSpec.ofChange replayHalvesSpec)) replayHalvesCard

/-- THE SECOND FORM's CARD OF 'gerundlaw30.ReplayHalves'. -/
def replayHalvesUptoCard : Claim7 := { stood := { row := replayHalvesUptoRow, standIns := [], harness := (true, "bf8c8ecdc7c03bd63e9e8c1b9646bd50c4ef3bd3a43f79386fba2a5bc55b9df9"), looks := false }, kinds := [], alts := [], laidByText := true, laidKinds := [.data], laidTests := true, laidLooks := .later }
def ReplayHalvesUptoCardSaid : Prop := Claim7.holds Tryz.pinned (.plain (OpenSpec.upto replayHalvesSpec)) replayHalvesUptoCard
end Rows
end Go.Proofs.YtoamakccoedejaaGreatDoor
