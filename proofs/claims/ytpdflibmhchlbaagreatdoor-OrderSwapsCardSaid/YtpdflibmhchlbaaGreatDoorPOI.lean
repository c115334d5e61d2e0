/- Orders in which two effects change places: how an order runs. No statement is proved here. Conditions: none. -/
import Derived.Test.YtpdflibmhchlbaaGreatDoorPOH
set_option linter.unusedVariables false
set_option linter.unusedSimpArgs false
namespace Go.Proofs.YtpdflibmhchlbaaGreatDoor
open Go Go.RowKit Go.Eng Go.IntKind
noncomputable section
section
variable {c:C1} {C:List I4} {B:List I5} {P P':List M2} {l:List E0}
def nx_(c:C1)(C:List I4)(B:List I5)(P:List M2)(x:E0):Option M2:=
  bif x.u6==1 then (J1 c P (rd C x.Of)).bind fun a=>bif (rd C x.Of).kt&&!decide (a=(rd C x.Of).qh) then none else some ⟨rd C x.Of,a,0,0⟩
  else bif x.u6==2 then (X2 c (rd C x.Of)).bind fun k=>bif k==0 then none else some (zp k 0)
  else (G8 c P (rd B x.Of).r9).bind fun q=>bif decide (q=(rd B x.Of).qg) then some (zp 0 (i64.wrap ((rd B x.Of).r9+1))) else none
def run(c:C1)(C:List I4)(B:List I5):List M2→List E0→Bool
  | _,[]=>true
  | P,x::r=>match nx_ c C B P x with | none=>false | some e=>run c C B (P++[e]) r
theorem B6m(h:Dom c C B l)(hP:Beh c P)(t3:Bool){i:Nat}(hi:i<l.length)(hb:isB C B (rd l (i:Int))=true):
    (nx_ c C B P (rd l (i:Int))=none∧D2.b1 ⟨c,C,B⟩ l t3 ((i:Int),P,false)=some (.out (.ret false)))∨
    ∃e,nx_ c C B P (rd l (i:Int))=some e∧D2.b1 ⟨c,C,B⟩ l t3 ((i:Int),P,false)=some (.next (((i+1:Nat):Int),P++[e],false))∧A2k c (P++[e])∧∃m,Sim c (P++[e]) m:=by
  have hl:=h.l100;have hw:=wp1 hi (by unfold maxLen;omega);have hm1:decide ((P.length+1)*256≤140737488355328)=true:=by have:=hP.l;simp;omega
  obtain ⟨hG,⟨m,hS⟩,hPl⟩:=hP;rcases A1z hb with ⟨h3,hin,i0,i1⟩ | ⟨hin,i0,i1,⟨h1,_⟩ | ⟨h2,_⟩⟩
  · obtain ⟨j,hj⟩:∃j:Nat,(rd l (i:Int)).Of=(j:Int):=⟨(rd l (i:Int)).Of.toNat,by omega⟩;have hmem:=X9 (l:=B) (i:=j) (by omega);obtain ⟨p1,p2⟩:=h.bp _ hmem;obtain ⟨q,m',r1,r2,r3,r4,r5⟩:=A82 h.ha hS hG (by omega) _ p1 p2;have s2:=eqS q (rd B (j:Int)).qg (by omega);unfold nx_;simp only [h3,Int.reduceBEq,cond_false,hj,r1,Option.bind_some];cases hd:decide (q=(rd B (j:Int)).qg)
    · refine .inl ⟨rfl,?_⟩;unfold D2.b1;simp only [P6 hi,cond_true,cond_false,G6 hi,D5,h3,Int.reduceBEq,hin,hj▸hin,hj,r1,Option.bind_some,s2,hd,Bool.not_false]
    · refine .inr ⟨_,rfl,?_,r5,m',r4⟩;unfold D2.b1;simp only [P6 hi,cond_true,cond_false,G6 hi,D5,h3,Int.reduceBEq,hin,hj▸hin,hj,r1,Option.bind_some,s2,hd,Bool.not_true,hw,hm1];rfl
  · obtain ⟨j,hj⟩:∃j:Nat,(rd l (i:Int)).Of=(j:Int):=⟨(rd l (i:Int)).Of.toNat,by omega⟩;have hmem:=X9 (l:=C) (i:=j) (by omega);obtain ⟨c1,c2,c3⟩:=h.cp _ hmem;obtain ⟨a,m',r1,r2,r3,r4,r5⟩:=B70 (x:=rd C (j:Int)) h.hc h.ha hS hG (by omega) c1 c2 (by omega);have s2:=B0t a (rd C (j:Int)).qh (by omega);unfold nx_;simp only [h1,Int.reduceBEq,cond_true,hj,r2,Option.bind_some];cases hD:(rd C (j:Int)).kt
    · refine .inr ⟨_,rfl,?_,r5,m',r4⟩;unfold D2.b1;simp only [P6 hi,cond_true,cond_false,G6 hi,D5,h1,Int.reduceBEq,hin,hj▸hin,hj,r2,Option.bind_some,hD,hw,cal,Bool.false_and,hm1]
    · cases hd:decide (a=(rd C (j:Int)).qh)
      · refine .inl ⟨rfl,?_⟩;unfold D2.b1;simp only [P6 hi,cond_true,cond_false,G6 hi,D5,h1,Int.reduceBEq,hin,hj▸hin,hj,r2,Option.bind_some,hD,hw,cal,Bool.true_and,s2,hd,Bool.not_false]
      · refine .inr ⟨_,rfl,?_,r5,m',r4⟩;unfold D2.b1;simp only [P6 hi,cond_true,cond_false,G6 hi,D5,h1,Int.reduceBEq,hin,hj▸hin,hj,r2,Option.bind_some,hD,hw,cal,Bool.true_and,s2,hd,Bool.not_true,hm1]
  · obtain ⟨j,hj⟩:∃j:Nat,(rd l (i:Int)).Of=(j:Int):=⟨(rd l (i:Int)).Of.toNat,by omega⟩;have hmem:=X9 (l:=C) (i:=j) (by omega);obtain ⟨c1,c2,c3⟩:=h.cp _ hmem;obtain ⟨q,m',r1,r2,r3⟩:=B4f (x:=rd C (j:Int)) h.hc h.ha hS hG c1;unfold nx_;simp only [h2,Int.reduceBEq,cond_true,cond_false,hj,r1,Option.bind_some];by_cases hq:q=0
    · subst hq;refine .inl ⟨rfl,?_⟩;unfold D2.b1;simp only [P6 hi,cond_true,cond_false,G6 hi,D5,h2,Int.reduceBEq,hin,hj▸hin,hj,r1,Option.bind_some]
    · obtain ⟨r4,r5⟩:=r3 hq;have hq0:(q==0)=false:=by simp [hq]
      refine .inr ⟨zp q 0,by rw [hq0];rfl,?_,r5,m',r4⟩;unfold D2.b1;simp only [P6 hi,cond_true,cond_false,G6 hi,D5,h2,Int.reduceBEq,hin,hj▸hin,hj,r1,Option.bind_some,hq0,hw,hm1];rfl
theorem B2c{i:Nat}(hi:i<l.length):l.drop i=rd l (i:Int)::l.drop (i+1):=by
  rw [B4b hi];exact List.drop_eq_getElem_cons hi
theorem B0g(h:Dom c C B l)(hl:l.length≤130)(hB:∀i:Nat,i<l.length→isB C B (rd l (i:Int))=true)(t3:Bool):∀(k i:Nat) (P:List M2),i+k=l.length→P.length≤i→Beh c P→
    ((F5 (D2.b1 ⟨c,C,B⟩ l t3) ((i:Int),P,false)).bind fun o=>o.on (fun s1=>some true) (fun r=>some r))=some (run c C B P (l.drop i))
  | 0,i,P,hik,hP,hS=>by
    have hi:i=l.length:=by omega
    subst hi;rw [K4];have:D2.b1 ⟨c,C,B⟩ l t3 ((l.length:Int),P,false)=some (.out (.brk ((l.length:Int),P,false))):=by unfold D2.b1;simp only [X1,cond_false]
    rw [this,List.drop_length];rfl
  | k +1,i,P,hik,hP,hS=>by
    have hi:i<l.length:=by omega
    rw [B2c hi];rcases B6m h hS t3 hi (hB i hi) with ⟨e1,e2⟩ | ⟨e,e1,e2,e3,e4⟩
    · rw [K4,e2];simp only [run,e1];rfl
    · rw [K4,e2];simp only [run,e1];exact B0g h hl hB t3 k (i+1) (P++[e]) (by omega) (by simp;omega) ⟨e3,e4,by simp;omega⟩
theorem B1x(h:Dom c C B l)(ht:tim C B l=true):D2 ⟨c,C,B⟩ l=some (run c C B [] l):=by
  have hl:=h.l100;unfold D2;rw [A2h h.C40 h.B40 l (by omega),ht];simp only [Option.bind_some,Bool.not_true,cond_false];obtain ⟨m,n1,n2⟩:=B2x h.ha h.w0 h.w1;have:=B0g h (by omega) (B3b ht) true l.length 0 [] (by omega) (Nat.le_refl _) ⟨⟨by simp,fun i hi=>absurd hi (by simp)⟩,⟨m,n2⟩,by simp⟩;rw [List.drop_zero] at this;exact this
end
end
end Go.Proofs.YtpdflibmhchlbaaGreatDoor
