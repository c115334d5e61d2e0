/- Plain law: of an order that could have been none that lacks an item that is due could have been, nor one that has an item twice. Conditions: none. -/
import Derived.Test.YtpdflibmhchlbaaGreatDoorPOG
set_option linter.unusedVariables false
set_option linter.unusedSimpArgs false
namespace Go.Proofs.YtpdflibmhchlbaaGreatDoor
open Go Go.RowKit Go.Eng Go.IntKind
theorem tmod_n{a:Int}(h0:0≤a)(h1:a<256){n:Nat}(hn:0<n):∃k:Nat,k<n∧Int.tmod (i64.wrap a) (n:Int)=(k:Int):=by
  rw [w64 (by omega) (by omega),Int.tmod_eq_emod_of_nonneg h0];have h2:=Int.emod_nonneg a (show (n:Int)≠0 by omega);have h3:=Int.emod_lt_of_pos a (show (0:Int)<n by omega);exact ⟨(a % n).toNat,by omega,by omega⟩
theorem B0c(x0:N0)(l1:List D8)(a2:Int)(h0:A1a x0)(h1:l1.length≤maxLen∧∀x∈l1,B6h x)(h2:(InK .u8) a2):T8 x0 l1 a2=some true:=by
  unfold T8;rw [B8x];simp only [Option.bind_some,Bool.not_true,cond_false,B7w];cases hg:((grt x0.qa x0.kz||decide ((l1.length:Int)>100))||((l1.length:Int)==0))
  · simp only [Bool.not_false,cal,cond_true,Bool.false_or];unfold A07;simp only [Option.bind_some];cases ht:(((decide ((x0.C.r8.length:Int)>100)||decide ((x0.C.r6.length:Int)>100))||decide ((x0.C.r7.e0.r9.length:Int)>100))||decide ((x0.C.r7.e1.r9.length:Int)>100))
    · simp only [Bool.not_false,cond_true,Bool.false_or,A43 _ (B8y h0.1),Option.bind_some];cases ha:acc x0.C
      · rfl
      · simp only [Bool.not_true,Bool.not_false,cond_true];simp only [Bool.or_eq_false_iff,decide_eq_false_iff_not,beq_eq_false_iff_ne,ne_eq] at hg;obtain ⟨⟨hg1,hg2⟩,hg3⟩:=hg;have D:∀l:List D8,l.length≤130→Dom x0.C x0.qa x0.kz l:=fun l hl=>dom_of h0 hg1 ht ha hl;obtain ⟨b,e1,e2⟩:=A6a (D l1 (by omega));have e2':E3 x0 l1=some b:=e2;rw [e2',Option.bind_some];cases b
        · rfl
        · have htm:=is_tim (D l1 (by omega)) e2;have g2:=InK.u8 h2;obtain ⟨k,hk,hi⟩:=tmod_n (a:=a2) (by omega) (by omega) (show 0<l1.length by omega);have hB:=B8u htm k hk;have hx:rd l1 (k:Int)∈l1:=A0y hk;have hw:i64.wrap ((k:Int)+1)=((k+1:Nat):Int):=by rw [w64 (by omega) (by omega)];omega
          have i1:inb (k:Int) (l1.length+1)=true:=H4 (by omega);have i2:inb ((k+1:Nat):Int) (l1.length+1)=true:=H4 (by omega);have i3:inb (k:Int) l1.length=true:=H4 hk;have i4:imp (!((rd l1 (k:Int)).u6 !=1)) (inb ((rd l1 (k:Int)).Of) x0.qa.length)=true:=A1g fun h=>by
            rcases A3d hB with ⟨q,_⟩ | ⟨q,_⟩
            · rw [q] at h;cases h
            · exact q
          have d1:decide (¬(l1.length:Int)=0)=true:=decide_eq_true hg3;have d2:decide ((([]:List D8).length+(l1.take k).length)*16≤140737488355328)=true:=decide_eq_true (by simp;omega);have d3:decide (((([]:List D8)++(l1.take k)).length+(l1.drop (k+1)).length)*16≤140737488355328)=true:=decide_eq_true (by simp;omega);have d4:decide ((([]:List D8).length+l1.length)*16≤140737488355328)=true:=decide_eq_true (by simp;omega);have d5:decide (((([]:List D8)++l1).length+1)*16≤140737488355328)=true:=decide_eq_true (by simp;omega);have t2:=B52 (D (([]++l1)++[rd l1 (k:Int)]) (by simp;omega)) (B63 (l:=[]++l1) hx);have hn:=B8t htm k hk;have k1:((k:Int)).toNat=k:=by omega
          have k2:(((k+1:Nat):Int)).toNat=k+1:=by omega
          simp only [Bool.not_true,cond_false,hi,hw,k1,k2,i1,i2,i3,i4,d1,d2,d3,d4,d5,D7,A1g (fun _=>rfl),e1,Option.bind_some,Bool.true_and];cases hd:(((rd l1 (k:Int)).u6 !=1)||(rd x0.qa (rd l1 (k:Int)).Of).kt)
          · simp only [Bool.not_false,Bool.true_or,cond_true,t2,Option.bind_some,Bool.not_true,cond_false];rfl
          · have t1:=B52 (D (([]++l1.take k)++l1.drop (k+1)) (by simp;omega)) (B9c hB hd hn);simp only [Bool.not_true,Bool.not_false,cond_true,t1,Option.bind_some,Bool.false_or,t2];rfl
    · rfl
  · rfl
end Go.Proofs.YtpdflibmhchlbaaGreatDoor
