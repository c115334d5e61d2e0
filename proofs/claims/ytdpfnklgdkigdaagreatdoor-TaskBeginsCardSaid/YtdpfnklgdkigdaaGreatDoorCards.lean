/-
  DERIVED. GIVEN WITH THE SEED: THE CARDS: each row of YtdpfnklgdkigdaaGreatDoorRows.lean that lists a variable, with what it lists TIED to the program's text (the seventh form; the later family's looks); each row that meets fmt, with fmt's text TOLD by the authors' own Lean function (tested against real Go, not proved from fmt's source: count such statements apart). THE CARD IS WHAT COUNTS. Prove the row's statement (the work); the ties are given (YtdpfnklgdkigdaaGreatDoorTie.lean); close each card by the builder's one call (the guide's Derived/Test/ToyasCard.lean, 'card_holds'). Laid BY PROGRAM, IN A SANDBOX (cutbox-door.mjs). By AI agents, Wed Nov 11 2026. No macro, syntax, notation, axiom, sorry.
-/
import Derived.Test.YtdpfnklgdkigdaaGreatDoorRows
import GoSem.ClaimSeven
namespace Go.Proofs.YtdpfnklgdkigdaaGreatDoor
namespace Rows

/-- THE TIED CARD OF 'portholelaw13.TaskBegins'. -/
def taskBeginsCard : Claim7 := { stood := { row := taskBeginsRow, standIns := [], harness := (true, "a25430956c352a291c4ccdba4adb18a6ab6bca87bac734f8325e7b4131eeca2f"), looks := false }, kinds := [], alts := [], laidByText := true, laidKinds := [.widerDeep], laidTests := true, laidLooks := .later }
def TaskBeginsCardSaid : Prop := Claim7.holds Tryz.pinned (.plain (OpenSpec.ofChange taskBeginsSpec)) taskBeginsCard

/-- THE SECOND FORM's CARD OF 'portholelaw13.TaskBegins'. -/
def taskBeginsUptoCard : Claim7 := { stood := { row := taskBeginsUptoRow, standIns := [], harness := (true, "a25430956c352a291c4ccdba4adb18a6ab6bca87bac734f8325e7b4131eeca2f"), looks := false }, kinds := [], alts := [], laidByText := true, laidKinds := [.widerDeep], laidTests := true, laidLooks := .later }
def TaskBeginsUptoCardSaid : Prop := Claim7.holds Tryz.pinned (.plain (OpenSpec.upto taskBeginsSpec)) taskBeginsUptoCard
end Rows
end Go.Proofs.YtdpfnklgdkigdaaGreatDoor
