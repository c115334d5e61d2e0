/- The tied card of the law OrderLacks holds. Conditions: none. -/
import Derived.Test.YtpdflibmhchlbaaGreatDoorLawOrderLacks
import Derived.Test.YtpdflibmhchlbaaGreatDoorCards
import Derived.Test.YtpdflibmhchlbaaGreatDoorTie
import Derived.SevenTiedAt
namespace Go.Proofs.YtpdflibmhchlbaaGreatDoor
open Go
theorem orderLacks_card:Rows.OrderLacksCardSaid:=
  Claim7.holds_tied_plain_at .later [] [.widerDeep,.data] true (true,"f74c02f128cd74357f8c1aed9a292291cf012e166baeabc19745d0664c1820dd") false
    orderLacks.over (fun _ h=>by cases h) (by kernel_rfl) (fun _ h=>by cases h) orderLacks_row_tie rfl ⟨rfl,rfl⟩ (by kernel_rfl) rfl
    (fun f fn hf hfn=>by
      obtain rfl:f=4:=Option.some.inj ((show Tryz.prog.funcNamed "porthole/portholelaw20.OrderLacks" =some 4 by kernel_rfl).symm.trans hf)|>.symm;obtain rfl:fn=Tryz.f4:=(Option.some.inj (Tryz.func4.symm.trans hfn)).symm;exact ⟨by kernel_rfl,fun j t ht=>by
        rw [Tryz.params4] at ht;have hm:t∈[33,34,5]:=by simpa using Array.mem_of_getElem? ht
        have hall:([33,34,5].all fun u=>!Tryz.prog.wantsStandIn u)=true:=by kernel_rfl
        exact (show Tryz.prog.wantsStandIn t=false by simpa using List.all_eq_true.1 hall t hm)⟩)
    (by kernel_rfl)
end Go.Proofs.YtpdflibmhchlbaaGreatDoor
