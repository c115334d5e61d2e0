/-
  DERIVED. GIVEN WITH THE SEED: THE CARDS: each row of YtmchkeflhpojmaaDoorRows.lean that lists a variable, with what it lists TIED to the program's text (the seventh form; the later family's looks); each row that meets fmt, with fmt's text TOLD by the authors' own Lean function (tested against real Go, not proved from fmt's source: count such statements apart). THE CARD IS WHAT COUNTS. Prove the row's statement (the work); the ties are given (YtmchkeflhpojmaaDoorTie.lean); close each card by the builder's one call (the guide's Derived/Test/ToyasCard.lean, 'card_holds'). Laid BY PROGRAM, IN A SANDBOX (cutbox-door.mjs). By AI agents, Wed Nov 11 2026. No macro, syntax, notation, axiom, sorry.
-/
import Derived.Test.YtmchkeflhpojmaaDoorRows
import GoSem.ClaimSeven
namespace Go.Proofs.YtmchkeflhpojmaaDoor
namespace Rows

/-- THE TIED CARD OF 'portholelaw30.PackRuns'. -/
def packRunsCard : Claim7 := { stood := { row := packRunsRow, standIns := [], harness := (true, "e09289b07e28910f14cccadca0423a5c1228d5a4e0c55fd1fa6c964e5a7b2d71"), looks := true }, kinds := [], alts := [], laidByText := true, laidKinds := [.data, .data, .data, .sentinel, .sentinel], laidTests := true, laidLooks := .later }
def PackRunsCardSaid : Prop := Claim7.holds Tryd.pinned (.plain (OpenSpec.ofChange packRunsSpec)) packRunsCard

/-- THE TIED CARD OF 'portholelaw30.PackPrints'. -/
def packPrintsCard : Claim7 := { stood := { row := packPrintsRow, standIns := [], harness := (true, "e09289b07e28910f14cccadca0423a5c1228d5a4e0c55fd1fa6c964e5a7b2d71"), looks := true }, kinds := [], alts := [], laidByText := true, laidKinds := [.data, .data, .data, .sentinel, .sentinel], laidTests := true, laidLooks := .later }
def PackPrintsCardSaid : Prop := Claim7.holds Tryd.pinned (.plain (OpenSpec.ofChange packPrintsSpec)) packPrintsCard

/-- THE TIED CARD OF 'portholelaw30.PackParses'. -/
def packParsesCard : Claim7 := { stood := { row := packParsesRow, standIns := [], harness := (true, "e09289b07e28910f14cccadca0423a5c1228d5a4e0c55fd1fa6c964e5a7b2d71"), looks := true }, kinds := [], alts := [], laidByText := true, laidKinds := [.data, .data, .data, .sentinel, .sentinel], laidTests := true, laidLooks := .later }
def PackParsesCardSaid : Prop := Claim7.holds Tryd.pinned (.plain (OpenSpec.ofChange packParsesSpec)) packParsesCard

/-- THE SECOND FORM's CARD OF 'portholelaw30.PackRuns'. -/
def packRunsUptoCard : Claim7 := { stood := { row := packRunsUptoRow, standIns := [], harness := (true, "e09289b07e28910f14cccadca0423a5c1228d5a4e0c55fd1fa6c964e5a7b2d71"), looks := true }, kinds := [], alts := [], laidByText := true, laidKinds := [.data, .data, .data, .sentinel, .sentinel], laidTests := true, laidLooks := .later }
def PackRunsUptoCardSaid : Prop := Claim7.holds Tryd.pinned (.plain (OpenSpec.upto packRunsSpec)) packRunsUptoCard

/-- THE SECOND FORM's CARD OF 'portholelaw30.PackPrints'. -/
def packPrintsUptoCard : Claim7 := { stood := { row := packPrintsUptoRow, standIns := [], harness := (true, "e09289b07e28910f14cccadca0423a5c1228d5a4e0c55fd1fa6c964e5a7b2d71"), looks := true }, kinds := [], alts := [], laidByText := true, laidKinds := [.data, .data, .data, .sentinel, .sentinel], laidTests := true, laidLooks := .later }
def PackPrintsUptoCardSaid : Prop := Claim7.holds Tryd.pinned (.plain (OpenSpec.upto packPrintsSpec)) packPrintsUptoCard

/-- THE SECOND FORM's CARD OF 'portholelaw30.PackParses'. -/
def packParsesUptoCard : Claim7 := { stood := { row := packParsesUptoRow, standIns := [], harness := (true, "e09289b07e28910f14cccadca0423a5c1228d5a4e0c55fd1fa6c964e5a7b2d71"), looks := true }, kinds := [], alts := [], laidByText := true, laidKinds := [.data, .data, .data, .sentinel, .sentinel], laidTests := true, laidLooks := .later }
def PackParsesUptoCardSaid : Prop := Claim7.holds Tryd.pinned (.plain (OpenSpec.upto packParsesSpec)) packParsesUptoCard
end Rows
end Go.Proofs.YtmchkeflhpojmaaDoor
