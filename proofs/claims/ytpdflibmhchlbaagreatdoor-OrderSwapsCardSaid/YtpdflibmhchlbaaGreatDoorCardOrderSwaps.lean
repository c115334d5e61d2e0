/- The tied card of the law OrderSwaps holds. Conditions: none. -/
import Derived.Test.YtpdflibmhchlbaaGreatDoorLawOrderSwaps
import Derived.Test.YtpdflibmhchlbaaGreatDoorCards
import Derived.Test.YtpdflibmhchlbaaGreatDoorTie
import Derived.SevenTiedAt
namespace Go.Proofs.YtpdflibmhchlbaaGreatDoor
open Go
theorem orderSwaps_card:Rows.OrderSwapsCardSaid:=
  Claim7.holds_tied_plain_at .later [] [.widerDeep,.data] true (true,"f74c02f128cd74357f8c1aed9a292291cf012e166baeabc19745d0664c1820dd") false
    orderSwaps.over (fun _ h=>by cases h) (by kernel_rfl) (fun _ h=>by cases h) orderSwaps_row_tie rfl ⟨rfl,rfl⟩ (by kernel_rfl) rfl
    (fun f fn hf hfn=>by
      obtain rfl:f=5:=Option.some.inj ((show Tryz.prog.funcNamed "porthole/portholelaw20.OrderSwaps" =some 5 by kernel_rfl).symm.trans hf)|>.symm;obtain rfl:fn=Tryz.f5:=(Option.some.inj (Tryz.func5.symm.trans hfn)).symm;exact ⟨by kernel_rfl,fun j t ht=>by
        rw [Tryz.params5] at ht;have hm:t∈[33,34,5]:=by simpa using Array.mem_of_getElem? ht
        have hall:([33,34,5].all fun u=>!Tryz.prog.wantsStandIn u)=true:=by kernel_rfl
        exact (show Tryz.prog.wantsStandIn t=false by simpa using List.all_eq_true.1 hall t hm)⟩)
    (by kernel_rfl)
end Go.Proofs.YtpdflibmhchlbaaGreatDoor
