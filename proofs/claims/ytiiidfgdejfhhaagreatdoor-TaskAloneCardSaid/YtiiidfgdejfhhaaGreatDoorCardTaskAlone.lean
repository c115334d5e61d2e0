/- The tied card of the law TaskAlone holds. Conditions: none. -/
import Derived.Test.YtiiidfgdejfhhaaGreatDoorLawTaskAlone
import Derived.Test.YtiiidfgdejfhhaaGreatDoorCards
import Derived.Test.YtiiidfgdejfhhaaGreatDoorTie
import Derived.SevenTiedAt
namespace Go.Proofs.YtiiidfgdejfhhaaGreatDoor
open Go
/-- The card of TaskAlone holds for every input. -/
theorem taskAlone_card : Rows.TaskAloneCardSaid :=
  Claim7.holds_tied_plain_at .later [] [.widerDeep] true (true, "9f449221edfcf3b153b6db7a2d75ffb06a15cad8e7d048376572a8d9800d6a86") false
    taskAlone.over (fun _ h => by cases h) (by kernel_rfl) (fun _ h => by cases h) taskAlone_row_tie rfl ⟨rfl, rfl⟩ (by kernel_rfl) rfl
    (fun f fn hf hfn => by
      obtain rfl : f = 7 := Option.some.inj ((show Tryz.prog.funcNamed "porthole/portholelaw13.TaskAlone" = some 7 by kernel_rfl).symm.trans hf) |>.symm
      obtain rfl : fn = Tryz.f7 := (Option.some.inj (Tryz.func7.symm.trans hfn)).symm
      exact ⟨by kernel_rfl, fun j t ht => by
        rw [Tryz.params7] at ht
        have hm : t ∈ [5, 60] := by simpa using Array.mem_of_getElem? ht
        have hall : ([5, 60].all fun u => !Tryz.prog.wantsStandIn u) = true := by kernel_rfl
        exact (show Tryz.prog.wantsStandIn t = false by simpa using List.all_eq_true.1 hall t hm)⟩)
    (by kernel_rfl)
end Go.Proofs.YtiiidfgdejfhhaaGreatDoor
