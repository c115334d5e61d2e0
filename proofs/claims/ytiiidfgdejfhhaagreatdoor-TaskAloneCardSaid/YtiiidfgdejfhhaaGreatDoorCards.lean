/-
  DERIVED. GIVEN WITH THE SEED: THE CARDS: each row of YtiiidfgdejfhhaaGreatDoorRows.lean that lists a variable, with what it lists TIED to the program's text (the seventh form; the later family's looks); each row that meets fmt, with fmt's text TOLD by the authors' own Lean function (tested against real Go, not proved from fmt's source: count such statements apart). THE CARD IS WHAT COUNTS. Prove the row's statement (the work); the ties are given (YtiiidfgdejfhhaaGreatDoorTie.lean); close each card by the builder's one call (the guide's Derived/Test/ToyasCard.lean, 'card_holds'). Laid BY PROGRAM, IN A SANDBOX (cutbox-door.mjs). By AI agents, Wed Nov 11 2026. No macro, syntax, notation, axiom, sorry.
-/
import Derived.Test.YtiiidfgdejfhhaaGreatDoorRows
import GoSem.ClaimSeven
namespace Go.Proofs.YtiiidfgdejfhhaaGreatDoor
namespace Rows

/-- THE TIED CARD OF 'portholelaw20.OrderValid'. -/
def orderValidCard : Claim7 := { stood := { row := orderValidRow, standIns := [], harness := (true, "9f449221edfcf3b153b6db7a2d75ffb06a15cad8e7d048376572a8d9800d6a86"), looks := false }, kinds := [], alts := [], laidByText := true, laidKinds := [.widerDeep, .data], laidTests := true, laidLooks := .later }
def OrderValidCardSaid : Prop := Claim7.holds Tryz.pinned (.plain (OpenSpec.ofChange orderValidSpec)) orderValidCard

/-- THE TIED CARD OF 'portholelaw20.OrderLacks'. -/
def orderLacksCard : Claim7 := { stood := { row := orderLacksRow, standIns := [], harness := (true, "9f449221edfcf3b153b6db7a2d75ffb06a15cad8e7d048376572a8d9800d6a86"), looks := false }, kinds := [], alts := [], laidByText := true, laidKinds := [.widerDeep, .data], laidTests := true, laidLooks := .later }
def OrderLacksCardSaid : Prop := Claim7.holds Tryz.pinned (.plain (OpenSpec.ofChange orderLacksSpec)) orderLacksCard

/-- THE TIED CARD OF 'portholelaw20.OrderSwaps'. -/
def orderSwapsCard : Claim7 := { stood := { row := orderSwapsRow, standIns := [], harness := (true, "9f449221edfcf3b153b6db7a2d75ffb06a15cad8e7d048376572a8d9800d6a86"), looks := false }, kinds := [], alts := [], laidByText := true, laidKinds := [.widerDeep, .data], laidTests := true, laidLooks := .later }
def OrderSwapsCardSaid : Prop := Claim7.holds Tryz.pinned (.plain (OpenSpec.ofChange orderSwapsSpec)) orderSwapsCard

/-- THE TIED CARD OF 'portholelaw13.TaskBegins'. -/
def taskBeginsCard : Claim7 := { stood := { row := taskBeginsRow, standIns := [], harness := (true, "9f449221edfcf3b153b6db7a2d75ffb06a15cad8e7d048376572a8d9800d6a86"), looks := false }, kinds := [], alts := [], laidByText := true, laidKinds := [.widerDeep], laidTests := true, laidLooks := .later }
def TaskBeginsCardSaid : Prop := Claim7.holds Tryz.pinned (.plain (OpenSpec.ofChange taskBeginsSpec)) taskBeginsCard

/-- THE TIED CARD OF 'portholelaw13.TaskAlone'. -/
def taskAloneCard : Claim7 := { stood := { row := taskAloneRow, standIns := [], harness := (true, "9f449221edfcf3b153b6db7a2d75ffb06a15cad8e7d048376572a8d9800d6a86"), looks := false }, kinds := [], alts := [], laidByText := true, laidKinds := [.widerDeep], laidTests := true, laidLooks := .later }
def TaskAloneCardSaid : Prop := Claim7.holds Tryz.pinned (.plain (OpenSpec.ofChange taskAloneSpec)) taskAloneCard

/-- THE TIED CARD OF 'portholelaw13.TaskSteps'. -/
def taskStepsCard : Claim7 := { stood := { row := taskStepsRow, standIns := [], harness := (true, "9f449221edfcf3b153b6db7a2d75ffb06a15cad8e7d048376572a8d9800d6a86"), looks := false }, kinds := [], alts := [], laidByText := true, laidKinds := [.widerDeep], laidTests := true, laidLooks := .later }
def TaskStepsCardSaid : Prop := Claim7.holds Tryz.pinned (.plain (OpenSpec.ofChange taskStepsSpec)) taskStepsCard

/-- THE TIED CARD OF 'portholelaw13.TaskRuns'. -/
def taskRunsCard : Claim7 := { stood := { row := taskRunsRow, standIns := [], harness := (true, "9f449221edfcf3b153b6db7a2d75ffb06a15cad8e7d048376572a8d9800d6a86"), looks := false }, kinds := [], alts := [], laidByText := true, laidKinds := [.widerDeep], laidTests := true, laidLooks := .later }
def TaskRunsCardSaid : Prop := Claim7.holds Tryz.pinned (.plain (OpenSpec.ofChange taskRunsSpec)) taskRunsCard

/-- THE TIED CARD OF 'portholelaw14.PartGrows'. -/
def partGrowsCard : Claim7 := { stood := { row := partGrowsRow, standIns := [], harness := (true, "9f449221edfcf3b153b6db7a2d75ffb06a15cad8e7d048376572a8d9800d6a86"), looks := false }, kinds := [], alts := [], laidByText := true, laidKinds := [.widerDeep], laidTests := true, laidLooks := .later }
def PartGrowsCardSaid : Prop := Claim7.holds Tryz.pinned (.plain (OpenSpec.ofChange partGrowsSpec)) partGrowsCard

/-- THE TIED CARD OF 'portholelaw14.PartOrder'. -/
def partOrderCard : Claim7 := { stood := { row := partOrderRow, standIns := [], harness := (true, "9f449221edfcf3b153b6db7a2d75ffb06a15cad8e7d048376572a8d9800d6a86"), looks := false }, kinds := [], alts := [], laidByText := true, laidKinds := [.widerDeep], laidTests := true, laidLooks := .later }
def PartOrderCardSaid : Prop := Claim7.holds Tryz.pinned (.plain (OpenSpec.ofChange partOrderSpec)) partOrderCard

/-- THE TIED CARD OF 'portholelaw14.PartSteps'. -/
def partStepsCard : Claim7 := { stood := { row := partStepsRow, standIns := [], harness := (true, "9f449221edfcf3b153b6db7a2d75ffb06a15cad8e7d048376572a8d9800d6a86"), looks := false }, kinds := [], alts := [], laidByText := true, laidKinds := [.widerDeep], laidTests := true, laidLooks := .later }
def PartStepsCardSaid : Prop := Claim7.holds Tryz.pinned (.plain (OpenSpec.ofChange partStepsSpec)) partStepsCard

/-- THE SECOND FORM's CARD OF 'portholelaw20.OrderValid'. -/
def orderValidUptoCard : Claim7 := { stood := { row := orderValidUptoRow, standIns := [], harness := (true, "9f449221edfcf3b153b6db7a2d75ffb06a15cad8e7d048376572a8d9800d6a86"), looks := false }, kinds := [], alts := [], laidByText := true, laidKinds := [.widerDeep, .data], laidTests := true, laidLooks := .later }
def OrderValidUptoCardSaid : Prop := Claim7.holds Tryz.pinned (.plain (OpenSpec.upto orderValidSpec)) orderValidUptoCard

/-- THE SECOND FORM's CARD OF 'portholelaw20.OrderLacks'. -/
def orderLacksUptoCard : Claim7 := { stood := { row := orderLacksUptoRow, standIns := [], harness := (true, "9f449221edfcf3b153b6db7a2d75ffb06a15cad8e7d048376572a8d9800d6a86"), looks := false }, kinds := [], alts := [], laidByText := true, laidKinds := [.widerDeep, .data], laidTests := true, laidLooks := .later }
def OrderLacksUptoCardSaid : Prop := Claim7.holds Tryz.pinned (.plain (OpenSpec.upto orderLacksSpec)) orderLacksUptoCard

/-- THE SECOND FORM's CARD OF 'portholelaw20.OrderSwaps'. -/
def orderSwapsUptoCard : Claim7 := { stood := { row := orderSwapsUptoRow, standIns := [], harness := (true, "9f449221edfcf3b153b6db7a2d75ffb06a15cad8e7d048376572a8d9800d6a86"), looks := false }, kinds := [], alts := [], laidByText := true, laidKinds := [.widerDeep, .data], laidTests := true, laidLooks := .later }
def OrderSwapsUptoCardSaid : Prop := Claim7.holds Tryz.pinned (.plain (OpenSpec.upto orderSwapsSpec)) orderSwapsUptoCard

/-- THE SECOND FORM's CARD OF 'portholelaw13.TaskBegins'. -/
def taskBeginsUptoCard : Claim7 := { stood := { row := taskBeginsUptoRow, standIns := [], harness := (true, "9f449221edfcf3b153b6db7a2d75ffb06a15cad8e7d048376572a8d9800d6a86"), looks := false }, kinds := [], alts := [], laidByText := true, laidKinds := [.widerDeep], laidTests := true, laidLooks := .later }
def TaskBeginsUptoCardSaid : Prop := Claim7.holds Tryz.pinned (.plain (OpenSpec.upto taskBeginsSpec)) taskBeginsUptoCard

/-- THE SECOND FORM's CARD OF 'portholelaw13.TaskAlone'. -/
def taskAloneUptoCard : Claim7 := { stood := { row := taskAloneUptoRow, standIns := [], harness := (true, "9f449221edfcf3b153b6db7a2d75ffb06a15cad8e7d048376572a8d9800d6a86"), looks := false }, kinds := [], alts := [], laidByText := true, laidKinds := [.widerDeep], laidTests := true, laidLooks := .later }
def TaskAloneUptoCardSaid : Prop := Claim7.holds Tryz.pinned (.plain (OpenSpec.upto taskAloneSpec)) taskAloneUptoCard

/-- THE SECOND FORM's CARD OF 'portholelaw13.TaskSteps'. -/
def taskStepsUptoCard : Claim7 := { stood := { row := taskStepsUptoRow, standIns := [], harness := (true, "9f449221edfcf3b153b6db7a2d75ffb06a15cad8e7d048376572a8d9800d6a86"), looks := false }, kinds := [], alts := [], laidByText := true, laidKinds := [.widerDeep], laidTests := true, laidLooks := .later }
def TaskStepsUptoCardSaid : Prop := Claim7.holds Tryz.pinned (.plain (OpenSpec.upto taskStepsSpec)) taskStepsUptoCard

/-- THE SECOND FORM's CARD OF 'portholelaw13.TaskRuns'. -/
def taskRunsUptoCard : Claim7 := { stood := { row := taskRunsUptoRow, standIns := [], harness := (true, "9f449221edfcf3b153b6db7a2d75ffb06a15cad8e7d048376572a8d9800d6a86"), looks := false }, kinds := [], alts := [], laidByText := true, laidKinds := [.widerDeep], laidTests := true, laidLooks := .later }
def TaskRunsUptoCardSaid : Prop := Claim7.holds Tryz.pinned (.plain (OpenSpec.upto taskRunsSpec)) taskRunsUptoCard

/-- THE SECOND FORM's CARD OF 'portholelaw14.PartGrows'. -/
def partGrowsUptoCard : Claim7 := { stood := { row := partGrowsUptoRow, standIns := [], harness := (true, "9f449221edfcf3b153b6db7a2d75ffb06a15cad8e7d048376572a8d9800d6a86"), looks := false }, kinds := [], alts := [], laidByText := true, laidKinds := [.widerDeep], laidTests := true, laidLooks := .later }
def PartGrowsUptoCardSaid : Prop := Claim7.holds Tryz.pinned (.plain (OpenSpec.upto partGrowsSpec)) partGrowsUptoCard

/-- THE SECOND FORM's CARD OF 'portholelaw14.PartOrder'. -/
def partOrderUptoCard : Claim7 := { stood := { row := partOrderUptoRow, standIns := [], harness := (true, "9f449221edfcf3b153b6db7a2d75ffb06a15cad8e7d048376572a8d9800d6a86"), looks := false }, kinds := [], alts := [], laidByText := true, laidKinds := [.widerDeep], laidTests := true, laidLooks := .later }
def PartOrderUptoCardSaid : Prop := Claim7.holds Tryz.pinned (.plain (OpenSpec.upto partOrderSpec)) partOrderUptoCard

/-- THE SECOND FORM's CARD OF 'portholelaw14.PartSteps'. -/
def partStepsUptoCard : Claim7 := { stood := { row := partStepsUptoRow, standIns := [], harness := (true, "9f449221edfcf3b153b6db7a2d75ffb06a15cad8e7d048376572a8d9800d6a86"), looks := false }, kinds := [], alts := [], laidByText := true, laidKinds := [.widerDeep], laidTests := true, laidLooks := .later }
def PartStepsUptoCardSaid : Prop := Claim7.holds Tryz.pinned (.plain (OpenSpec.upto partStepsSpec)) partStepsUptoCard
end Rows
end Go.Proofs.YtiiidfgdejfhhaaGreatDoor
