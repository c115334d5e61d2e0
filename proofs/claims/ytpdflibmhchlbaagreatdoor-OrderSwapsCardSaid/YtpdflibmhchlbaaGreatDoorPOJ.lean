/- Orders in which two effects change places. No statement is proved here. Conditions: none. -/
import Derived.Test.YtpdflibmhchlbaaGreatDoorPOI
set_option linter.unusedVariables false
set_option linter.unusedSimpArgs false
namespace Go.Proofs.YtpdflibmhchlbaaGreatDoor
open Go Go.RowKit Go.Eng
section
variable {c:C1} {C:List I4} {B:List I5} {P P':List M2} {l r:List E0} {u v:E0}
theorem B6j{x:E0}(h:isB C B x=true)(h1:x.u6=1):∃j:Nat,x.Of=(j:Int)∧j<C.length:=by
  rcases A1z h with ⟨h3,_⟩ | ⟨_,i0,i1,_⟩
  · rw [h1] at h3;cases h3
  · exact ⟨x.Of.toNat,by omega,by omega⟩
theorem B7y(h:Dom c C B l){x:E0}(hb:isB C B x=true)(h3:x.u6≠3):InK .i64 (rd C x.Of).u4.u5∧InK .u64 (rd C x.Of).u4.z7:=by
  rcases A1z hb with ⟨h,_⟩ | ⟨_,i0,i1,_⟩
  · exact absurd h h3
  · obtain ⟨j,hj⟩:∃j:Nat,x.Of=(j:Int):=⟨x.Of.toNat,by omega⟩;rw [hj];have:=h.cp _ (X9 (l:=C) (i:=j) (by omega));exact ⟨this.1,this.2.1⟩
theorem Dom.of(h:Dom c C B l)(hr:r.length≤130):Dom c C B r:=⟨h.hc,h.ha,h.w0,h.w1,h.C40,h.B40,hr,h.cp,h.bp⟩
theorem A7n(h:Dom c C B l)(hP:Beh c P)(hl:P.length+1≤140)(hb:isB C B u=true){e:M2}(he:nx_ c C B P u=some e):Beh c (P++[e]):=by
  have hr:rd [u] ((0:Nat):Int)=u:=rfl;rcases B6m (l:=[u]) (h.of (by simp)) hP true (i:=0) (by simp) (by rw [hr];exact hb) with ⟨e1,_⟩ | ⟨e',e1,_,e3,e4⟩
  · rw [hr,he] at e1;cases e1
  · rw [hr,he] at e1;obtain rfl:=Option.some.inj e1;exact ⟨e3,e4,by simp;omega⟩
theorem B6l(h:Dom c C B l)(hP:Beh c P)(hP':Beh c P')(q:Eqp c P P')(hb:isB C B u=true):nx_ c C B P u=nx_ c C B P' u:=by
  unfold nx_;have q1:=hP.l;have q2:=hP'.l;by_cases h1:u.u6=1
  · rw [B9y h.hc h.ha hP hP' q (B7y h hb (by rw [h1];decide)).1];simp only [h1,Int.reduceBEq,cond_true]
  · have b1:(u.u6==1)=false:=by simp [h1]
    simp only [b1,cond_false];by_cases h2:u.u6=2
    · simp only [h2,Int.reduceBEq,cond_true]
    · have b2:(u.u6==2)=false:=by simp [h2]
      simp only [b2,cond_false];rcases A1z hb with ⟨h3,_,i0,i1⟩ | ⟨_,_,_,⟨h,_⟩ | ⟨h,_⟩⟩
      · obtain ⟨j,hj⟩:∃j:Nat,u.Of=(j:Int):=⟨u.Of.toNat,by omega⟩;rw [hj];obtain ⟨p1,p2⟩:=h.bp _ (X9 (l:=B) (i:=j) (by omega));rw [A6c (A5m h.ha).m8 P (by omega) _ p1 p2,A6c (A5m h.ha).m8 P' (by omega) _ p1 p2,show (fun k=>pnd P ((rd B (j:Int)).r9+1) (k+1))=(fun k=>pnd P' ((rd B (j:Int)).r9+1) (k+1)) from funext fun k=>q.pn _ _]
      · exact absurd h h1
      · exact absurd h h2
theorem B4i(h:Dom c C B l):∀(r:List E0) (P P':List M2),(∀x∈r,isB C B x=true)→Beh c P→Beh c P'→Eqp c P P'→P.length+r.length≤140→P'.length+r.length≤140→run c C B P r=run c C B P' r
  | [],_,_,_,_,_,_,_,_=>rfl
  | x ::r,P,P',hB,hP,hP',q,l1,l2=>by
    have hb:=hB x (by simp);simp only [List.length_cons] at l1 l2;simp only [run];rw [B6l h hP hP' q hb];cases he:nx_ c C B P' x with
    | none=>rfl
    | some e=>
      have he':nx_ c C B P x=some e:=by rw [B6l h hP hP' q hb];exact he
      exact B4i h r _ _ (fun y hy=>hB y (by simp [hy])) (A7n h hP (by omega) hb he') (A7n h hP' (by omega) hb he) (q.snoc e) (by simp;omega) (by simp;omega)
theorem nx1(h1:u.u6=1){e:M2}(he:nx_ c C B P u=some e):∃a,J1 c P (rd C u.Of)=some a∧e=⟨rd C u.Of,a,0,0⟩∧((rd C u.Of).kt&&!decide (a=(rd C u.Of).qh))=false:=by
  unfold nx_ at he;simp only [h1,Int.reduceBEq,cond_true] at he;cases hd:J1 c P (rd C u.Of) with
  | none=>rw [hd] at he;cases he
  | some a=>
    rw [hd,Option.bind_some] at he;cases hb:((rd C u.Of).kt&&!decide (a=(rd C u.Of).qh))<;>rw [hb] at he
    · exact ⟨a,rfl,(Option.some.inj he).symm,hb⟩
    · cases he
theorem B8x(h1:u.u6=1){a:E4}(hd:J1 c P (rd C u.Of)=some a)(hb:((rd C u.Of).kt&&!decide (a=(rd C u.Of).qh))=false):nx_ c C B P u=some ⟨rd C u.Of,a,0,0⟩:=by
  unfold nx_;simp only [h1,Int.reduceBEq,cond_true,hd,Option.bind_some,hb,cond_false]
theorem B9e(h:Dom c C B l)(hP:Beh c P)(hl:P.length+2+r.length≤140)(hB:∀x∈r,isB C B x=true)(hu:isB C B u=true)(hv:isB C B v=true)(u1:u.u6=1)(v1:v.u6=1)
    (hne:(rd C u.Of).r9≠(rd C v.Of).r9) (hop:¬(3≤(rd C u.Of).u4.Op∧(rd C u.Of).u4.Op≤7)) (hr:run c C B P (u::v::r)=true):run c C B P (v::u::r)=true:=by
  obtain ⟨wp,wa⟩:=B7y h hu (by rw [u1];decide);obtain ⟨wq,wb⟩:=B7y h hv (by rw [v1];decide);simp only [run] at hr ⊢;cases n1:nx_ c C B P u with
  | none=>rw [n1] at hr;cases hr
  | some e1 =>
    rw [n1] at hr;simp only at hr;have b1:=A7n h hP (by omega) hu n1;cases n2:nx_ c C B (P++[e1]) v with
    | none=>rw [n2] at hr;cases hr
    | some e2=>
      rw [n2] at hr;simp only at hr;have b2:=A7n h b1 (by simp;omega) hv n2;obtain ⟨a1,d1,rfl,g1⟩:=nx1 u1 n1;obtain ⟨a2,d2,rfl,g2⟩:=nx1 v1 n2;have d2':J1 c P (rd C v.Of)=some a2:=by
        rw [← d2];refine (B5v h.hc h.ha b1 hP wq ?_ ?_ ?_ ?_).symm
        · rw [A0a,A5b hne]
        · intro _ k;rw [A2z,B3d (.inr ⟨by omega,by omega⟩)]
        · intro _ k;rw [R8,B5d (.inr (by omega))];rfl
        · intro o8 hR;rw [R8];cases hc:isC (rd C v.Of).u4.z7 ⟨rd C u.Of,a1,0,0⟩ with
          | none=>rfl
          | some w=>
            obtain ⟨_,_,p0,p1,p2⟩:=A9o h.hc h.ha hP wp wa d1 hc;obtain ⟨q0,q1,q2⟩:=B0k h.hc h.ha b1 wq wb (.inl o8) hR;exact absurd (A8s h.ha p0 p1 q0 q1 p2 q2) hne
      have m1:=B8x (B:=B) v1 d2' g2;have b3:=A7n h hP (by omega) hv m1;have d1':J1 c (P++[⟨rd C v.Of,a2,0,0⟩]) (rd C u.Of)=some a1:=by
        rw [← d1];refine B5v h.hc h.ha b3 hP wp ?_ ?_ ?_ ?_
        · rw [A0a,A5b (Ne.symm hne)]
        · intro ho;exact absurd ho (by omega)
        · intro ho;exact absurd ho (by omega)
        · intro o8 hR;rw [R8];cases hc:isC (rd C u.Of).u4.z7 ⟨rd C v.Of,a2,0,0⟩ with
          | none=>rfl
          | some w=>
            obtain ⟨_,_,p0,p1,p2⟩:=A9o h.hc h.ha hP wq wb d2' hc;obtain ⟨q0,q1,q2⟩:=B0k h.hc h.ha b3 wp wa (.inl o8) hR;exact absurd (A8s h.ha p0 p1 q0 q1 p2 q2) (Ne.symm hne)
      have m2:=B8x (B:=B) u1 d1' g1;have b4:=A7n h b3 (by simp;omega) hu m2;rw [m1];simp only;rw [m2];simp only;rw [← hr];refine B4i h r _ _ hB b4 b2 ⟨fun p=>?_,fun k=>?_,fun k=>?_,fun t=>?_,fun t k=>?_⟩ (by simp;omega) (by simp;omega)
      · rw [A0a,A0a,A0a,A0a];by_cases hp:(rd C u.Of).r9=p
        · rw [A5b (x:=rd C v.Of) (fun e=>hne (hp.trans e.symm)),A5b (x:=rd C v.Of) (fun e=>hne (hp.trans e.symm))]
        · rw [A5b (x:=rd C u.Of) hp,A5b (x:=rd C u.Of) hp]
      · rw [A2z,A2z,A2z,A2z,B3d (x:=rd C u.Of) (.inr ⟨by omega,by omega⟩),B3d (x:=rd C u.Of) (.inr ⟨by omega,by omega⟩)]
      · rw [R8,R8,R8,R8,B5d (x:=rd C u.Of) (.inr (by omega))];rfl
      · rw [R8,R8,R8,R8];cases hc:isC t ⟨rd C u.Of,a1,0,0⟩ with
        | none=>rfl
        | some w=>
          cases hd:isC t ⟨rd C v.Of,a2,0,0⟩ with
          | none=>rfl
          | some w'=>
            obtain ⟨_,_,p0,p1,p2⟩:=A9o h.hc h.ha hP wp wa d1 hc;obtain ⟨_,_,q0,q1,q2⟩:=A9o h.hc h.ha hP wq wb d2' hd;exact absurd (A8s h.ha p0 p1 q0 q1 p2 q2) hne
      · rw [A3e,A3e,A3e,A3e];rfl
theorem B6s(h:Dom c C B l):∀(a:List E0) (P:List M2) (s s':List E0),(∀x∈a,isB C B x=true)→Beh c P→P.length+a.length≤130→(∀Q:List M2,Beh c Q→Q.length≤P.length+a.length→run c C B Q s=true→run c C B Q s'=true)→run c C B P (a++s)=true→run c C B P (a++s')=true
  | [],P,s,s',_,hP,hl,hs,hr=>hs P hP (by simp) hr
  | x ::a,P,s,s',hB,hP,hl,hs,hr=>by
    simp only [List.length_cons] at hl hs;simp only [List.cons_append,run] at hr ⊢;cases he:nx_ c C B P x with
    | none=>rw [he] at hr;cases hr
    | some e=>
      rw [he] at hr;exact B6s h a (P++[e]) s s' (fun y hy=>hB y (by simp [hy])) (A7n h hP (by omega) (hB x (by simp)) he) (by simp;omega) (fun Q hQ hq=>hs Q hQ (by simp at hq;omega)) hr
theorem B6x(l:List E0):tim C B l=true↔(∀x∈l,isB C B x=true)∧l.Pairwise (fun u v=>v≠u∧ahB C B v u=false)∧B03 C B l=true:=by
  unfold tim;rw [Bool.and_eq_true,← and_assoc];refine and_congr_left fun _=>?_;rw [Bool.not_eq_true',List.any_eq_false];constructor
  · intro h;have hb:∀(i:Nat) (hi:i<l.length),isB C B l[i]=true∧l[i]∉l.take i∧∀(j:Nat) (hj:j<i),ahB C B l[i] l[j]=false:=fun i hi=>by
      have:=h i (List.mem_range.2 hi);unfold bad A03 at this;simp only [Bool.or_eq_true,not_or,Bool.not_eq_true',Bool.not_eq_false,decide_eq_true_eq,Bool.not_eq_true,List.any_eq_false,List.mem_range,B4b hi] at this;refine ⟨this.1.1,this.1.2,fun j hj=>?_⟩;have:=this.2 j hj;rw [B4b (by omega)] at this
      simpa using this
    refine ⟨fun x hx=>?_,List.pairwise_iff_getElem.2 fun i j hi hj hij=>⟨fun e=>?_,(hb j hj).2.2 i hij⟩⟩
    · obtain ⟨i,hi,rfl⟩:=List.getElem_of_mem hx;exact (hb i hi).1
    · exact (hb j hj).2.1 (e▸List.mem_take_iff_getElem.2 ⟨i,by omega,rfl⟩)
  · rintro ⟨h1,h2⟩ i hi;rw [List.mem_range] at hi;have h3:=List.pairwise_iff_getElem.1 h2;unfold bad A03;simp only [Bool.or_eq_true,not_or,Bool.not_eq_true',Bool.not_eq_false,decide_eq_true_eq,Bool.not_eq_true,List.any_eq_false,List.mem_range,B4b hi];refine ⟨⟨h1 _ (List.getElem_mem hi),fun hm=>?_⟩,fun j hj=>?_⟩
    · obtain ⟨j,hj,he⟩:=List.mem_take_iff_getElem.1 hm;exact (h3 j i (by omega) hi (by omega)).1 he.symm
    · rw [B4b (by omega)];simpa using (h3 j i (by omega) hi hj).2
theorem B71{l l':List E0}(h:∀x,x∈l↔x∈l'):B03 C B l=B03 C B l':=by
  have:A03 l=A03 l':=funext fun x=>by unfold A03;rw [decide_eq_decide];exact h x
  unfold B03;rw [this]
theorem B5z{p s:List E0}(h:Dom c C B (p++u::v::s))(h100:(p++u::v::s).length≤100)(u1:u.u6=1)(v1:v.u6=1)(hah:ahB C B u v=false)
    (hne:(rd C u.Of).r9≠(rd C v.Of).r9) (hop:¬(3≤(rd C u.Of).u4.Op∧(rd C u.Of).u4.Op≤7)) (hv:D2 ⟨c,C,B⟩ (p++u::v::s)=some true):C7 c C B (p++v::u::s)=some true:=by
  have ht:=B8p h hv;rw [B1x h ht] at hv;obtain ⟨t1,t2,t3⟩:=(B6x _).1 ht;have hlen:(p++v::u::s).length≤130:=by simp at h100 ⊢; omega
  have hmem:∀x,x∈p++u::v::s↔x∈p++v::u::s:=fun x=>by simp only [List.mem_append,List.mem_cons];constructor<;>(rintro (h | h | h | h)<;>simp [h])
  have D:=h.of hlen;have ht':tim C B (p++v::u::s)=true:=by
    refine (B6x _).2 ⟨fun x hx=>t1 x ((hmem x).2 hx),?_,by rw [← B71 hmem];exact t3⟩;rw [List.pairwise_append] at t2 ⊢;obtain ⟨q1,q2,q3⟩:=t2;rw [List.pairwise_cons,List.pairwise_cons] at q2;obtain ⟨z1,z2,z3⟩:=q2;refine ⟨q1,?_,fun x hx y hy=>q3 x hx y (by simp only [List.mem_cons] at hy ⊢; rcases hy with h | h | h<;>simp [h])⟩;rw [List.pairwise_cons,List.pairwise_cons];exact ⟨fun x hx=>(List.mem_cons.1 hx).elim (fun e=>e▸⟨(z1 v (by simp)).1.symm,hah⟩) (z2 x),fun x hx=>z1 x (by simp [hx]),z3⟩
  obtain ⟨b,e1,e2⟩:=A4y D;rw [B1x D ht'] at e2;have hu:=t1 u (by simp);have hv':=t1 v (by simp);obtain ⟨m,_,n2⟩:=B2x h.ha h.w0 h.w1;simp only [List.length_append,List.length_cons] at h100;have:=B6s h p [] (u::v::s) (v::u::s) (fun x hx=>t1 x (by simp [hx])) ⟨⟨by simp,fun i hi=>absurd hi (by simp)⟩,⟨m,n2⟩,by simp⟩ (by simp;omega)
    (fun Q hQ hq hr=>B9e h hQ (by simp at hq;omega) (fun x hx=>t1 x (by simp [hx])) hu hv' u1 v1 hne hop hr) (Option.some.inj hv)
  rw [this] at e2;rw [e1,← e2]
end
end Go.Proofs.YtpdflibmhchlbaaGreatDoor
