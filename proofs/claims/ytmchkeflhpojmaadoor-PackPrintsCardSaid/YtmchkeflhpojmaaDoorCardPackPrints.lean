/- The tied card of the law PackPrints holds. Conditions: none. -/
import Derived.Test.YtmchkeflhpojmaaDoorLawPackPrints
import Derived.Test.YtmchkeflhpojmaaDoorCards
import Derived.Test.YtmchkeflhpojmaaDoorTie
import Derived.SevenTiedAt
namespace Go.Proofs.YtmchkeflhpojmaaDoor
open Go
/-- The card of PackPrints holds for every input. -/
theorem packPrints_card : Rows.PackPrintsCardSaid :=
  Claim7.holds_tied_plain_at .later [] [.data, .data, .data, .sentinel, .sentinel] true (true, "e09289b07e28910f14cccadca0423a5c1228d5a4e0c55fd1fa6c964e5a7b2d71") true
    packPrints.over (fun _ h => by cases h) (by kernel_rfl) (fun _ h => by cases h) packPrints_row_tie rfl ⟨rfl, rfl⟩ (by kernel_rfl) rfl
    (fun f fn hf hfn => by
      obtain rfl : f = 4 := Option.some.inj ((show Tryd.prog.funcNamed "porthole/portholelaw30.PackPrints" = some 4 by kernel_rfl).symm.trans hf) |>.symm
      obtain rfl : fn = Tryd.f4 := (Option.some.inj (Tryd.func4.symm.trans hfn)).symm
      exact ⟨by kernel_rfl, fun j t ht => by
        rw [Tryd.params4] at ht
        have hm : t ∈ [22] := by simpa using Array.mem_of_getElem? ht
        have hall : ([22].all fun u => !Tryd.prog.wantsStandIn u) = true := by kernel_rfl
        exact (show Tryd.prog.wantsStandIn t = false by simpa using List.all_eq_true.1 hall t hm)⟩)
    (by kernel_rfl)
end Go.Proofs.YtmchkeflhpojmaaDoor
