/- The tied card of the law PackParses holds. Conditions: none. -/
import Derived.Test.YtmchkeflhpojmaaDoorLawPackParses
import Derived.Test.YtmchkeflhpojmaaDoorCards
import Derived.Test.YtmchkeflhpojmaaDoorTie
import Derived.SevenTiedAt
namespace Go.Proofs.YtmchkeflhpojmaaDoor
open Go
/-- The card of PackParses holds for every input. -/
theorem packParses_card : Rows.PackParsesCardSaid :=
  Claim7.holds_tied_plain_at .later [] [.data, .data, .data, .sentinel, .sentinel] true (true, "e09289b07e28910f14cccadca0423a5c1228d5a4e0c55fd1fa6c964e5a7b2d71") true
    packParses.over (fun _ h => by cases h) (by kernel_rfl) (fun _ h => by cases h) packParses_row_tie rfl ⟨rfl, rfl⟩ (by kernel_rfl) rfl
    (fun f fn hf hfn => by
      obtain rfl : f = 5 := Option.some.inj ((show Tryd.prog.funcNamed "porthole/portholelaw30.PackParses" = some 5 by kernel_rfl).symm.trans hf) |>.symm
      obtain rfl : fn = Tryd.f5 := (Option.some.inj (Tryd.func5.symm.trans hfn)).symm
      exact ⟨by kernel_rfl, fun j t ht => by
        rw [Tryd.params5] at ht
        have hm : t ∈ [9] := by simpa using Array.mem_of_getElem? ht
        have hall : ([9].all fun u => !Tryd.prog.wantsStandIn u) = true := by kernel_rfl
        exact (show Tryd.prog.wantsStandIn t = false by simpa using List.all_eq_true.1 hall t hm)⟩)
    (by kernel_rfl)
end Go.Proofs.YtmchkeflhpojmaaDoor
