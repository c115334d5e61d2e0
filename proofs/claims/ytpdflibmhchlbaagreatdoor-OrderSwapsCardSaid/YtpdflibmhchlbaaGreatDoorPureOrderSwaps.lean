/- Plain law: in an order that could have been two effects that follow each other, of calls of unlike partitions that go by no channel, may change places, if none is ahead of the other one. Conditions: none. -/
import Derived.Test.YtpdflibmhchlbaaGreatDoorPOJ
set_option linter.unusedVariables false
set_option linter.unusedSimpArgs false
namespace Go.Proofs.YtpdflibmhchlbaaGreatDoor
open Go Go.RowKit Go.Eng Go.IntKind
theorem split2(l:List E0)(k:Nat)(hk:k+1<l.length):l=l.take k++rd l (k:Int)::rd l ((k+1:Nat):Int)::l.drop (k+2)∧(l.set k (rd l ((k+1:Nat):Int))).set (k+1) (rd l (k:Int))=l.take k++rd l ((k+1:Nat):Int)::rd l (k:Int)::l.drop (k+2):=by
  have e1:l=l.take k++rd l (k:Int)::rd l ((k+1:Nat):Int)::l.drop (k+2):=by
    rw [← B2c hk,← B2c (show k<l.length by omega),List.take_append_drop]
  refine ⟨e1,?_⟩;have hl:(l.take k).length=k:=by rw [List.length_take];omega
  generalize rd l (k:Int)=x at*
  generalize rd l ((k+1:Nat):Int)=y at*
  generalize l.take k=p at*
  generalize l.drop (k+2)=s at*
  subst e1;rw [List.set_append_right _ _ (by omega),List.set_append_right _ _ (by omega),hl,Nat.sub_self,show k+1 - k=1 by omega];rfl
theorem B0o(x0:N3)(l1:List E0)(a2:Int)(h0:A08 x0)(h1:l1.length≤maxLen∧∀x∈l1,B62 x)(h2:(InK .u8) a2):T8 x0 l1 a2=some true:=by
  unfold T8;rw [B9m];simp only [Option.bind_some,Bool.not_true,cond_false,B8k];cases hg:((grt x0.py x0.kz||decide ((l1.length:Int)>100))||decide ((l1.length:Int)<2))
  · simp only [Bool.not_false,cal,cond_true,Bool.false_or];unfold A05;simp only [Option.bind_some];cases ht:(((decide ((x0.C.r7.length:Int)>100)||decide ((x0.C.r6.length:Int)>100))||decide ((x0.C.r8.e0.u3.length:Int)>100))||decide ((x0.C.r8.e1.u3.length:Int)>100))
    · simp only [Bool.not_false,cond_true,Bool.false_or,A48 _ (B9n h0.1),Option.bind_some];cases ha:acc x0.C
      · rfl
      · simp only [Bool.not_true,Bool.not_false,cond_true];simp only [Bool.or_eq_false_iff,decide_eq_false_iff_not] at hg;obtain ⟨⟨hg1,hg2⟩,hg3⟩:=hg;have D:∀l:List E0,l.length≤130→Dom x0.C x0.py x0.kz l:=fun l hl=>dom_of h0 hg1 ht ha hl;obtain ⟨b,e1,e2⟩:=A4y (D l1 (by omega));have e2':D2 x0 l1=some b:=e2;rw [e2',Option.bind_some];cases b
        · rfl
        · have htm:=B8p (D l1 (by omega)) e2;have g2:=InK.u8 h2;have hn1:i64.wrap ((l1.length:Int) - 1)=((l1.length - 1:Nat):Int):=by rw [w64 (by omega) (by omega)];omega
          obtain ⟨k,hk,hi⟩:=tmod_n (a:=a2) (by omega) (by omega) (show 0<l1.length - 1 by omega);have hw:i64.wrap ((k:Int)+1)=((k+1:Nat):Int):=by rw [w64 (by omega) (by omega)];omega
          have i1:inb (k:Int) l1.length=true:=G6 (by omega);have i2:inb ((k+1:Nat):Int) l1.length=true:=G6 (by omega);have d1:decide (¬((l1.length - 1:Nat):Int)=0)=true:=decide_eq_true (by omega);have d2:decide ((([]:List E0).length+l1.length)*16≤140737488355328)=true:=decide_eq_true (by simp;omega);have k1:((k:Int)).toNat=k:=by omega
          have k2:(((k+1:Nat):Int)).toNat=k+1:=by omega
          have hB1:=B3b htm k (by omega);have hB2:=B3b htm (k+1) (by omega);have hah:=B87 hB1 hB2;obtain ⟨s1,s2⟩:=split2 l1 k (by omega);simp only [Bool.not_true,cond_false,Bool.or_false,hn1,hi,hw,i1,i2,d1,D5];generalize hu:rd l1 (k:Int)=u at*
          generalize hv:rd l1 ((k+1:Nat):Int)=v at*
          cases hk1:((u.u6 !=1)||(v.u6 !=1))
          · simp only [Bool.or_eq_false_iff,bne_eq_false_iff_eq] at hk1;obtain ⟨u1,v1⟩:=hk1;simp only [Bool.not_false,cond_true,hah,Option.bind_some,Bool.false_or];cases hA:ahB x0.py x0.kz u v
            · simp only [cond_false];obtain ⟨ju,hju,hju'⟩:=B6j hB1 u1;obtain ⟨jv,hjv,hjv'⟩:=B6j hB2 v1;have i3:inb u.Of x0.py.length=true:=by rw [hju];exact G6 hju'
              have i4:inb v.Of x0.py.length=true:=by rw [hjv];exact G6 hjv'
              simp only [i3,i4,D5];cases hq:(((rd x0.py u.Of).r9==(rd x0.py v.Of).r9)||(decide ((rd x0.py u.Of).u4.Op≥3)&&decide ((rd x0.py u.Of).u4.Op≤7)))
              · simp only [Bool.or_eq_false_iff,beq_eq_false_iff_ne,Bool.and_eq_false_iff,decide_eq_false_iff_not] at hq;have hD:=D l1 (by omega);rw [s1] at hD e2;have hfin:=B5z hD (by rw [← s1];omega) u1 v1 hA hq.1 (by omega) e2;rw [← s2] at hfin;simp only [cond_false,d2,D5,List.nil_append,i1,i2,k1,k2];show (C7 _ _ _ _).bind _=_;rw [hfin];rfl
              · rfl
            · rfl
          · simp only [Bool.not_true,cond_false,Option.bind_some,Bool.true_or,cond_true]
    · rfl
  · rfl
end Go.Proofs.YtpdflibmhchlbaaGreatDoor
