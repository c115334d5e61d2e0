/- The tied card of the law PackRuns holds. Conditions: none. -/
import Derived.Test.YtmchkeflhpojmaaDoorLawPackRuns
import Derived.Test.YtmchkeflhpojmaaDoorCards
import Derived.Test.YtmchkeflhpojmaaDoorTie
import Derived.SevenTiedAt
namespace Go.Proofs.YtmchkeflhpojmaaDoor
open Go
/-- The card of PackRuns holds for every input. -/
theorem packRuns_card : Rows.PackRunsCardSaid :=
  Claim7.holds_tied_plain_at .later [] [.data, .data, .data, .sentinel, .sentinel] true (true, "e09289b07e28910f14cccadca0423a5c1228d5a4e0c55fd1fa6c964e5a7b2d71") true
    packRuns.over (fun _ h => by cases h) (by kernel_rfl) (fun _ h => by cases h) packRuns_row_tie rfl ⟨rfl, rfl⟩ (by kernel_rfl) rfl
    (fun f fn hf hfn => by
      obtain rfl : f = 3 := Option.some.inj ((show Tryd.prog.funcNamed "porthole/portholelaw30.PackRuns" = some 3 by kernel_rfl).symm.trans hf) |>.symm
      obtain rfl : fn = Tryd.f3 := (Option.some.inj (Tryd.func3.symm.trans hfn)).symm
      exact ⟨by kernel_rfl, fun j t ht => by
        rw [Tryd.params3] at ht
        have hm : t ∈ [22, 5] := by simpa using Array.mem_of_getElem? ht
        have hall : ([22, 5].all fun u => !Tryd.prog.wantsStandIn u) = true := by kernel_rfl
        exact (show Tryd.prog.wantsStandIn t = false by simpa using List.all_eq_true.1 hall t hm)⟩)
    (by kernel_rfl)
end Go.Proofs.YtmchkeflhpojmaaDoor
