/- The tied card of the law TaskBegins holds. Conditions: none. -/
import Derived.Test.YtdpfnklgdkigdaaGreatDoorLawTaskBegins
import Derived.Test.YtdpfnklgdkigdaaGreatDoorCards
import Derived.Test.YtdpfnklgdkigdaaGreatDoorTie
import Derived.SevenTiedAt
namespace Go.Proofs.YtdpfnklgdkigdaaGreatDoor
open Go
/-- The card of TaskBegins holds for every input. -/
theorem taskBegins_card:Rows.TaskBeginsCardSaid:=
  Claim7.holds_tied_plain_at .later [] [.widerDeep] true (true,"a25430956c352a291c4ccdba4adb18a6ab6bca87bac734f8325e7b4131eeca2f") false
    taskBegins.over (fun _ h=>by cases h) (by kernel_rfl) (fun _ h=>by cases h) taskBegins_row_tie rfl ⟨rfl,rfl⟩ (by kernel_rfl) rfl
    (fun f fn hf hfn=>by
      obtain rfl:f=3:=Option.some.inj ((show Tryz.prog.funcNamed "porthole/portholelaw13.TaskBegins" =some 3 by kernel_rfl).symm.trans hf)|>.symm;obtain rfl:fn=Tryz.f3:=(Option.some.inj (Tryz.func3.symm.trans hfn)).symm;exact ⟨by kernel_rfl,fun j t ht=>by
        rw [Tryz.params3] at ht;have hm:t∈[29,32,36]:=by simpa using Array.mem_of_getElem? ht
        have hall:([29,32,36].all fun u=>!Tryz.prog.wantsStandIn u)=true:=by kernel_rfl
        exact (show Tryz.prog.wantsStandIn t=false by simpa using List.all_eq_true.1 hall t hm)⟩)
    (by kernel_rfl)
end Go.Proofs.YtdpfnklgdkigdaaGreatDoor
