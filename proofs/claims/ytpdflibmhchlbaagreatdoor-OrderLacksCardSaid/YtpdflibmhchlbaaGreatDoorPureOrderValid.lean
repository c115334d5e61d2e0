/- Plain law: any order of any calls and deliveries could have been, or not, as the document says. Conditions: none. -/
import Derived.Test.YtpdflibmhchlbaaGreatDoorPOF
set_option linter.unusedVariables false
set_option linter.unusedSimpArgs false
namespace Go.Proofs.YtpdflibmhchlbaaGreatDoor
open Go Go.RowKit Go.Eng
theorem dom_of{x0:N0}(h0:A1a x0){l:List D8}(hg:grt x0.qa x0.kz=false)(ht:(((decide ((x0.C.r8.length:Int)>100)||decide ((x0.C.r6.length:Int)>100))||decide ((x0.C.r7.e0.r9.length:Int)>100))||decide ((x0.C.r7.e1.r9.length:Int)>100))=false)(ha:acc x0.C=true)(hl:l.length≤130):Dom x0.C x0.qa x0.kz l:=by
  obtain ⟨w1,w2,w3⟩:=h0;obtain ⟨c1,c2,c3,c4⟩:=grt_f hg;simp only [Bool.or_eq_false_iff,decide_eq_false_iff_not] at ht;exact ⟨B8y w1,ha,by omega,by omega,c1,c2,hl,fun x hx=>⟨(w2.2 x hx).2.1.2.1,(w2.2 x hx).2.1.2.2.1,c3 x hx⟩,c4⟩
end Go.Proofs.YtpdflibmhchlbaaGreatDoor
