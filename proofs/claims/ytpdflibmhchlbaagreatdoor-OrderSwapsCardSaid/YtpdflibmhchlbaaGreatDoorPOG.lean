/- Orders that lack an item, or have one twice. No statement is proved here. Conditions: none. -/
import Derived.Test.YtpdflibmhchlbaaGreatDoorPureOrderValid
set_option linter.unusedVariables false
set_option linter.unusedSimpArgs false
namespace Go.Proofs.YtpdflibmhchlbaaGreatDoor
open Go Go.RowKit Go.Eng
section
variable {c:C1} {C:List I4} {B:List I5} {l:List E0}
theorem not_tim(h:Dom c C B l)(ht:tim C B l=false):C7 c C B l=some false:=by
  obtain ⟨b,h1,h2⟩:=A4y h;unfold D2 at h2;rw [A2h h.C40 h.B40 l (by have:=h.l100;omega),ht] at h2;rw [h1];exact h2.symm▸rfl
theorem B8p(h:Dom c C B l)(hv:D2 ⟨c,C,B⟩ l=some true):tim C B l=true:=by
  unfold D2 at hv;rw [A2h h.C40 h.B40 l (by have:=h.l100;omega)] at hv;cases ht:tim C B l
  · rw [ht] at hv;cases hv
  · rfl
theorem B4b{i:Nat}(hi:i<l.length):rd l (i:Int)=l[i]:=by
  unfold rd;rw [List.getD_eq_getElem?_getD,show ((i:Int)).toNat=i by omega,List.getElem?_eq_getElem hi];rfl
end
end Go.Proofs.YtpdflibmhchlbaaGreatDoor
