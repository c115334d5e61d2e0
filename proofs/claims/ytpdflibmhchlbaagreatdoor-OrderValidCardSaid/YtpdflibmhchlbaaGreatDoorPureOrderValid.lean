/- Plain law: any order of any calls and deliveries could have been, or not, as the document says. Conditions: none. -/
import Derived.Test.YtpdflibmhchlbaaGreatDoorPOF
set_option linter.unusedVariables false
set_option linter.unusedSimpArgs false
namespace Go.Proofs.YtpdflibmhchlbaaGreatDoor
open Go Go.RowKit Go.Eng
theorem dom_of{x0:N2}(h0:A1b x0){l:List F5}(hg:grt x0.qg x0.qa=false)(ht:(((decide ((x0.C.r8.length:Int)>100)||decide ((x0.C.r6.length:Int)>100))||decide ((x0.C.r7.e0.r9.length:Int)>100))||decide ((x0.C.r7.e1.r9.length:Int)>100))=false)(ha:acc x0.C=true)(hl:l.length≤130):Dom x0.C x0.qg x0.qa l:=by
  obtain ⟨w1,w2,w3⟩:=h0;obtain ⟨c1,c2,c3,c4⟩:=grt_f hg;simp only [Bool.or_eq_false_iff,decide_eq_false_iff_not] at ht;exact ⟨B8v w1,ha,by omega,by omega,c1,c2,hl,fun x hx=>⟨(w2.2 x hx).2.1.2.1,(w2.2 x hx).2.1.2.2.1,c3 x hx⟩,c4⟩
theorem B0e(x0:N2)(l1:List F5)(h0:A1b x0)(h1:l1.length≤maxLen∧∀x∈l1,B6g x):U3 x0 l1=some true:=by
  unfold U3;rw [B8u];simp only [Option.bind_some,Bool.not_true,cond_false,B7u];cases hg:(grt x0.qg x0.qa||decide ((l1.length:Int)>100))
  · simp only [Bool.not_false,cal,cond_true,Bool.false_or];unfold A07;simp only [Option.bind_some];cases ht:(((decide ((x0.C.r8.length:Int)>100)||decide ((x0.C.r6.length:Int)>100))||decide ((x0.C.r7.e0.r9.length:Int)>100))||decide ((x0.C.r7.e1.r9.length:Int)>100))
    · simp only [Bool.not_false,cond_true,Bool.false_or,A45 _ (B8v h0.1),Option.bind_some];cases ha:acc x0.C
      · rfl
      · simp only [Bool.not_true,cond_false];simp only [Bool.or_eq_false_iff,decide_eq_false_iff_not] at hg;obtain ⟨b,e1,e2⟩:=A8a (dom_of (l:=l1) h0 hg.1 ht ha (by omega));rw [e1];show (some b).bind (fun t=>(E6 ⟨x0.C,x0.qg,x0.qa⟩ l1).bind _)=_;rw [Option.bind_some,e2];cases b<;>rfl
    · rfl
  · rfl
end Go.Proofs.YtpdflibmhchlbaaGreatDoor
