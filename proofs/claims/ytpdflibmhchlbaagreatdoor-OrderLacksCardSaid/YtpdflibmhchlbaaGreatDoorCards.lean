/-
  DERIVED. GIVEN WITH THE SEED: THE CARDS: each row of YtpdflibmhchlbaaGreatDoorRows.lean that lists a variable, with what it lists TIED to the program's text (the seventh form; the later family's looks); each row that meets fmt, with fmt's text TOLD by the authors' own Lean function (tested against real Go, not proved from fmt's source: count such statements apart). THE CARD IS WHAT COUNTS. Prove the row's statement (the work); the ties are given (YtpdflibmhchlbaaGreatDoorTie.lean); close each card by the builder's one call (the guide's Derived/Test/ToyasCard.lean, 'card_holds'). Laid BY PROGRAM, IN A SANDBOX (cutbox-door.mjs). By AI agents, Wed Nov 11 2026. No macro, syntax, notation, axiom, sorry.
-/
import Derived.Test.YtpdflibmhchlbaaGreatDoorRows
import GoSem.ClaimSeven
namespace Go.Proofs.YtpdflibmhchlbaaGreatDoor
namespace Rows

/-- THE TIED CARD OF 'portholelaw20.OrderValid'. -/
def orderValidCard : Claim7 := { stood := { row := orderValidRow, standIns := [], harness := (true, "f74c02f128cd74357f8c1aed9a292291cf012e166baeabc19745d0664c1820dd"), looks := false }, kinds := [], alts := [], laidByText := true, laidKinds := [.widerDeep, .data], laidTests := true, laidLooks := .later }
def OrderValidCardSaid : Prop := Claim7.holds Tryz.pinned (.plain (OpenSpec.ofChange orderValidSpec)) orderValidCard

/-- THE TIED CARD OF 'portholelaw20.OrderLacks'. -/
def orderLacksCard : Claim7 := { stood := { row := orderLacksRow, standIns := [], harness := (true, "f74c02f128cd74357f8c1aed9a292291cf012e166baeabc19745d0664c1820dd"), looks := false }, kinds := [], alts := [], laidByText := true, laidKinds := [.widerDeep, .data], laidTests := true, laidLooks := .later }
def OrderLacksCardSaid : Prop := Claim7.holds Tryz.pinned (.plain (OpenSpec.ofChange orderLacksSpec)) orderLacksCard

/-- THE TIED CARD OF 'portholelaw20.OrderSwaps'. -/
def orderSwapsCard : Claim7 := { stood := { row := orderSwapsRow, standIns := [], harness := (true, "f74c02f128cd74357f8c1aed9a292291cf012e166baeabc19745d0664c1820dd"), looks := false }, kinds := [], alts := [], laidByText := true, laidKinds := [.widerDeep, .data], laidTests := true, laidLooks := .later }
def OrderSwapsCardSaid : Prop := Claim7.holds Tryz.pinned (.plain (OpenSpec.ofChange orderSwapsSpec)) orderSwapsCard

/-- THE SECOND FORM's CARD OF 'portholelaw20.OrderValid'. -/
def orderValidUptoCard : Claim7 := { stood := { row := orderValidUptoRow, standIns := [], harness := (true, "f74c02f128cd74357f8c1aed9a292291cf012e166baeabc19745d0664c1820dd"), looks := false }, kinds := [], alts := [], laidByText := true, laidKinds := [.widerDeep, .data], laidTests := true, laidLooks := .later }
def OrderValidUptoCardSaid : Prop := Claim7.holds Tryz.pinned (.plain (OpenSpec.upto orderValidSpec)) orderValidUptoCard

/-- THE SECOND FORM's CARD OF 'portholelaw20.OrderLacks'. -/
def orderLacksUptoCard : Claim7 := { stood := { row := orderLacksUptoRow, standIns := [], harness := (true, "f74c02f128cd74357f8c1aed9a292291cf012e166baeabc19745d0664c1820dd"), looks := false }, kinds := [], alts := [], laidByText := true, laidKinds := [.widerDeep, .data], laidTests := true, laidLooks := .later }
def OrderLacksUptoCardSaid : Prop := Claim7.holds Tryz.pinned (.plain (OpenSpec.upto orderLacksSpec)) orderLacksUptoCard

/-- THE SECOND FORM's CARD OF 'portholelaw20.OrderSwaps'. -/
def orderSwapsUptoCard : Claim7 := { stood := { row := orderSwapsUptoRow, standIns := [], harness := (true, "f74c02f128cd74357f8c1aed9a292291cf012e166baeabc19745d0664c1820dd"), looks := false }, kinds := [], alts := [], laidByText := true, laidKinds := [.widerDeep, .data], laidTests := true, laidLooks := .later }
def OrderSwapsUptoCardSaid : Prop := Claim7.holds Tryz.pinned (.plain (OpenSpec.upto orderSwapsSpec)) orderSwapsUptoCard
end Rows
end Go.Proofs.YtpdflibmhchlbaaGreatDoor
