/- One effect: reads, sends and receives; all of them. No statement is proved here. Conditions: none. -/
import Derived.Test.YtpdflibmhchlbaaGreatDoorPO9
set_option linter.unusedVariables false
set_option linter.unusedSimpArgs false
namespace Go.Proofs.YtpdflibmhchlbaaGreatDoor
open Go Go.RowKit Go.Eng Go.IntKind
section
variable {c:C1} {P:List Q1} {m:C3} {x:I5}
theorem B51{α:Type}{l:List α}(h:((l.length:Int)==0)=false):0<l.length:=by
  rw [beq_eq_false_iff_ne] at h;omega
theorem do5(h:Pre c P m x)(ho:x.u4.Op=5):A7i c P m x:=by
  obtain ⟨k,k1,k2,k3,k4,k5,k6⟩:=h.port (by omega) (by omega);have hk:=k6 (.inl ho);obtain ⟨r,r1,r2⟩:=h.hS.rows k k1 hk;have hdep:=((A7l h.ha).depth _ (A0y k1)).2 hk;obtain ⟨r',p1,p2⟩:=B9s r2 (by omega) x.u4.u9;have hdt:(((rd c.r6 (k:Int)).z8.toNat:Nat):Int)=(rd c.r6 (k:Int)).z8:=by omega
  rw [hdt] at p1 p2;have hl:=h.hl;refine ⟨⟨bif decide (((wts c P (k:Int)).length:Int)≥(rd c.r6 (k:Int)).z8) then 2 else 0,[],false,0⟩,⟨m.c,m.parts,m.last,m.rows.set k (some r'),m.cells,m.bells⟩,?_,?_,by simp,?_,A3o h.hG h.wp h.wd (fun _ _=>k3) (by omega) (by omega)⟩
  · unfold E4;simp only [h.e1,h.e2,h.e3,h.hS.cf,h.h1,D7,Option.bind_some,mne,ho,Int.reduceBEq,cond_true,cond_false,k4,H4 (show k<m.rows.length by rw [h.hS.nr];exact k1),r1,A4o _ h.wd,show ((k:Int)).toNat=k by omega];show ((M4 r x.u4.u9).bind fun t_420=>_)=_;rw [p1];rfl
  · rw [h.ref];simp only [ho,Int.reduceBEq,cond_true,cond_false,k2,H4 k1,D7,B0m h.hc h.ha P (by omega) h.hG.g1 h.hG.q,Option.bind_some];cases decide (((wts c P (k:Int)).length:Int)≥(rd c.r6 (k:Int)).z8)<;>rfl
  · refine h.hS.snoc h.ha _ rfl rfl rfl (h.hS.parts_no (.inr (by omega)) (.inl (by omega))) rfl (h.hS.last_no (.inr (by omega))) (by simp) (fun j hj hj2=>?_) (fun j hj hj2=>?_) h.hS.keys (h.hS.cells_no (.inr (by omega)))
    · show ∃r,rd (m.rows.set k (some r')) (j:Int)=some r∧_;rw [A53 _ _ (by rw [h.hS.nr];exact k1)];split
      · subst ‹k=j›;refine ⟨r',rfl,?_⟩;unfold wtS isQ;simp only [B3n,ho,k2];cases hf:decide (((wts c P (k:Int)).length:Int)≥(rd c.r6 (k:Int)).z8)
        · rw [hf] at p2;simpa using p2
        · rw [hf] at p2;simpa using p2
      · rename_i hne;obtain ⟨q,q1,q2⟩:=h.hS.rows j hj hj2;refine ⟨q,q1,?_⟩;unfold wtS;rw [show (chn c x !=(j:Int))=true by rw [k2];simp;omega,Bool.or_true];exact q2
    · show rd (m.rows.set k (some r')) (j:Int)=none;rw [A53 _ _ (by rw [h.hS.nr];exact k1),if_neg (by rintro rfl;exact hj2 hk)];exact h.hS.rown j hj hj2
theorem do6 (h:Pre c P m x)(ho:x.u4.Op=6):A7i c P m x:=by
  obtain ⟨k,k1,k2,k3,k4,k5,k6⟩:=h.port (by omega) (by omega);have hk:=k6 (.inr ho);obtain ⟨r,r1,r2⟩:=h.hS.rows k k1 hk;have hdep:=((A7l h.ha).depth _ (A0y k1)).2 hk;obtain ⟨r',p1,p2⟩:=B8s r2 (by omega);have hl:=h.hl;refine ⟨⟨bif (((wts c P (k:Int)).length:Int)==0) then 2 else 0,bif (((wts c P (k:Int)).length:Int)==0) then [] else rd (wts c P (k:Int)) 0,false,0⟩,⟨m.c,m.parts,m.last,m.rows.set k (some r'),m.cells,m.bells⟩,?_,?_,?_,?_,A3o h.hG h.wp h.wd (fun _ _=>k3) (by omega) (fun _ hc=>?_)⟩
  · unfold E4;simp only [h.e1,h.e2,h.e3,h.hS.cf,h.h1,D7,Option.bind_some,mne,ho,Int.reduceBEq,cond_true,cond_false,k4,H4 (show k<m.rows.length by rw [h.hS.nr];exact k1),r1,show ((k:Int)).toNat=k by omega];show ((L4 r).bind fun t_466=>_)=_;rw [p1];rfl
  · rw [h.ref];simp only [ho,Int.reduceBEq,cond_true,cond_false,k2,B0m h.hc h.ha P (by omega) h.hG.g1 h.hG.q,Option.bind_some];cases hz:((wts c P (k:Int)).length:Int)==0
    · have hp:(0:Int)<((wts c P (k:Int)).length:Int):=by have:=B51 hz;omega
      simp only [cond_false,A1v (i:=0) (n:=(wts c P (k:Int)).length) (by omega) hp,D7]
    · rfl
  · show (bif (((wts c P (k:Int)).length:Int)==0) then [] else rd (wts c P (k:Int)) 0).length≤1000;cases hz:((wts c P (k:Int)).length:Int)==0
    · have hp:=B51 hz;have:=B94 h.hG.g1 (k:Int) _ (A0y hp)
      simpa using this
    · simp
  · refine h.hS.snoc h.ha _ rfl rfl rfl (h.hS.parts_no (.inr (by omega)) (.inl (by omega))) rfl (h.hS.last_no (.inr (by omega))) (by simp) (fun j hj hj2=>?_) (fun j hj hj2=>?_) h.hS.keys (h.hS.cells_no (.inr (by omega)))
    · show ∃r,rd (m.rows.set k (some r')) (j:Int)=some r∧_;rw [A53 _ _ (by rw [h.hS.nr];exact k1)];split
      · subst ‹k=j›;refine ⟨r',rfl,?_⟩;unfold wtS isQ;simp only [B3n,ho,k2];cases hz:((wts c P (k:Int)).length:Int)==0
        · simpa using p2
        · have hn:wts c P (k:Int)=[]:=by
            have:=hz;simp at this;exact this
          rw [hn] at p2 ⊢
          simpa using p2
      · rename_i hne;obtain ⟨q,q1,q2⟩:=h.hS.rows j hj hj2;refine ⟨q,q1,?_⟩;unfold wtS;rw [show (chn c x !=(j:Int))=true by rw [k2];simp;omega,Bool.or_true];exact q2
    · show rd (m.rows.set k (some r')) (j:Int)=none;rw [A53 _ _ (by rw [h.hS.nr];exact k1),if_neg (by rintro rfl;exact hj2 hk)];exact h.hS.rown j hj hj2
  · rw [k2];intro hn;rw [hn] at hc;simp at hc
theorem do4(h:Pre c P m x)(ho:x.u4.Op=4):A7i c P m x:=by
  obtain ⟨k,k1,k2,k3,k4,k5,k6⟩:=h.port (by omega) (by omega);have hvl:=(A4s P x.u3).2;have hl:=h.hl;have hlast:=h.hS.last k k1;obtain ⟨t,t1,t2⟩:=B4s (J8 P x.u3).u7 (by omega) x.u4.u5;have hnd:=B35 P x.u3;have hread:=B9t h.hc h.ha P (by omega) h.hG.g1 x h.wp;have hpn:x.u3.toNat<c.r8.length:=by have:=h.p0;have:=h.p1;omega
  have hpx:x.u3=((x.u3.toNat:Nat):Int):=by have:=h.p0;omega
  have fin:∀(a:E5) (m':C3),(a.z6=0∨a.z6=1)→a.u9.length≤1000→E4 m x=some (a,m')→rdA c P x=a→m'.c=m.c→m'.bells=m.bells→m'.last=m.last→m'.rows=m.rows→m'.cells=m.cells→m'.parts.length=m.parts.length→
      (∀p:Nat,p<c.r8.length→rd m'.parts (p:Int)=stS (p:Int) (J8 P (p:Int)) ⟨x,a,0,0⟩)→A7i c P m x:=fun a m' q0 q1 q2 q3 q4 q5 q6 q7 q8 q9 q10=>by
    refine ⟨a,m',q2,?_,q1,?_,A3o h.hG h.wp h.wd (fun _ _=>k3) (by omega) (by omega)⟩
    · rw [h.ref];simp only [ho,Int.reduceBEq,cond_true,hread,Option.bind_some,q3]
    · refine h.hS.snoc h.ha m' q4 q5 q9 q10 (by rw [q6]) ?_ (by rw [q7]) ?_ ?_ (by rw [q8];exact h.hS.keys) ?_
      · rw [q6];exact h.hS.last_no (.inr (by omega))
      · rw [q7];exact h.hS.rows_no (.inr (by omega))
      · rw [q7];exact h.hS.rown
      · rw [q8];exact h.hS.cells_no (.inr (by omega))
  have hpre:inb (k:Int) m.last.length=true:=H4 (by rw [h.hS.nl];exact k1);unfold rdA at fin;rw [k2] at fin;have keep:∀a:E5,(a.z6=0∨a.z6=1)→A8p (J8 P x.u3).u7 x.u4.u5 a.u7=(J8 P x.u3).u7→∀p:Nat,p<c.r8.length→rd m.parts (p:Int)=stS (p:Int) (J8 P (p:Int)) ⟨x,a,0,0⟩:=fun a hc hv=>B49 h.hS (by rw [ans4 _ ho hc,hv]);have sett:∀(a:E5) (s:D0),(a.z6=0∨a.z6=1)→s=⟨(J8 P x.u3).u3,(J8 P x.u3).z7,(J8 P x.u3).z9,A8p (J8 P x.u3).u7 x.u4.u5 a.u7⟩→∀p:Nat,p<c.r8.length→rd (m.parts.set x.u3.toNat s) (p:Int)=stS (p:Int) (J8 P (p:Int)) ⟨x,a,0,0⟩:=fun a s hc hs=>A8h h.hS hpn hpx (by rw [ans4 _ ho hc,hs]);have hlen1:((J8 P x.u3).u7.length+([x.u4.u5]:List Int).length)*8≤140737488355328:=by simp;omega
  cases hw:lst (isW c (k:Int)) P with
  | none=>
    rw [hw] at hlast fin;rcases mark hnd false t2 with ⟨u1,u2⟩ | ⟨i,u0,u1,u2⟩
    · refine fin ⟨1,[],false,0⟩ m (.inr rfl) (by simp) ?_ rfl rfl rfl rfl rfl rfl rfl (keep _ (.inr rfl) u2);unfold E4;simp only [h.e1,h.e2,h.e3,h.hS.cf,h.h1,D7,Option.bind_some,mne,ho,Int.reduceBEq,cond_true,cond_false,k4,hpre,hlast,A6x,t1,u1,Bool.false_and,Bool.true_and];rfl
    · refine fin ⟨1,[],false,0⟩ ⟨m.c,m.parts.set x.u3.toNat ⟨(J8 P x.u3).u3,(J8 P x.u3).z7,(J8 P x.u3).z9,(J8 P x.u3).u7.eraseIdx i⟩,m.last,m.rows,m.cells,m.bells⟩ (.inr rfl) (by simp) ?_ rfl rfl rfl rfl rfl rfl (by simp) (sett _ _ (.inr rfl) (by rw [u2];rfl));unfold E4;simp only [h.e1,h.e2,h.e3,h.hS.cf,h.h1,D7,Option.bind_some,mne,ho,Int.reduceBEq,cond_true,cond_false,k4,hpre,hlast,A6x,t1,u1,Bool.false_and,Bool.true_and,show decide ((i:Int)≥0)=true by simp,H4 u0,show ((i:Int)).toNat=i by omega]
  | some w=>
    rw [hw] at hlast fin;obtain ⟨y,y1,y2⟩:=B9j hw;have hyw:y=w:=by
      unfold isW at y2;cases hb:(((((y.qb==0)&&(y.qf==0))&&(y.A.z6==0))&&(y.X.u4.Op==3))&&(chn c y.X==(k:Int)))
      · rw [hb] at y2;cases y2
      · rw [hb] at y2;exact Option.some.inj y2
    subst hyw;have hdl:=(h.hG.g1 y y1).dl;generalize hv:decide ((i64.wrap (x.T1 - y.X.qc))≤((rd c.r6 (k:Int)).kn))=v at fin;rcases mark hnd v t2 with ⟨u1,u2⟩ | ⟨i,u0,u1,u2⟩<;>cases v
    · refine fin ⟨0,y.X.u4.u9,false,0⟩ m (.inl rfl) hdl ?_ (by show (⟨0,y.X.u4.u9,decide (i64.wrap (x.T1 - y.X.qc)≤(rd c.r6 (k:Int)).kn),0⟩:E5)=_;rw [hv]) rfl rfl rfl rfl rfl rfl (keep _ (.inl rfl) u2);unfold E4;simp only [h.e1,h.e2,h.e3,h.hS.cf,h.h1,D7,Option.bind_some,mne,ho,Int.reduceBEq,cond_true,cond_false,k4,hpre,hlast,A6x,t1,u1,H4 k1,A4o _ hdl,hv,Bool.false_and,Bool.not_false,Bool.true_and];rfl
    · refine fin ⟨0,y.X.u4.u9,true,0⟩ ⟨m.c,m.parts.set x.u3.toNat ⟨(J8 P x.u3).u3,(J8 P x.u3).z7,(J8 P x.u3).z9,(J8 P x.u3).u7++[x.u4.u5]⟩,m.last,m.rows,m.cells,m.bells⟩ (.inl rfl) hdl ?_ (by show (⟨0,y.X.u4.u9,decide (i64.wrap (x.T1 - y.X.qc)≤(rd c.r6 (k:Int)).kn),0⟩:E5)=_;rw [hv]) rfl rfl rfl rfl rfl (by simp) (sett _ _ (.inl rfl) (by rw [u2];rfl));unfold E4;simp only [h.e1,h.e2,h.e3,h.hS.cf,h.h1,D7,Option.bind_some,mne,ho,Int.reduceBEq,cond_true,cond_false,k4,hpre,hlast,A6x,t1,u1,H4 k1,A4o _ hdl,hv,Bool.true_and,show decide ((-1:Int)<0)=true from rfl,show decide (((J8 P x.u3).u7.length+([x.u4.u5]:List Int).length)*8≤140737488355328)=true by simpa using hlen1]
    · refine fin ⟨0,y.X.u4.u9,false,0⟩ ⟨m.c,m.parts.set x.u3.toNat ⟨(J8 P x.u3).u3,(J8 P x.u3).z7,(J8 P x.u3).z9,(J8 P x.u3).u7.eraseIdx i⟩,m.last,m.rows,m.cells,m.bells⟩ (.inl rfl) hdl ?_ (by show (⟨0,y.X.u4.u9,decide (i64.wrap (x.T1 - y.X.qc)≤(rd c.r6 (k:Int)).kn),0⟩:E5)=_;rw [hv]) rfl rfl rfl rfl rfl (by simp) (sett _ _ (.inl rfl) (by rw [u2];rfl));unfold E4;simp only [h.e1,h.e2,h.e3,h.hS.cf,h.h1,D7,Option.bind_some,mne,ho,Int.reduceBEq,cond_true,cond_false,k4,hpre,hlast,A6x,t1,u1,H4 k1,A4o _ hdl,hv,Bool.false_and,Bool.not_false,Bool.true_and,show decide ((i:Int)≥0)=true by simp,H4 u0,show ((i:Int)).toNat=i by omega]
    · refine fin ⟨0,y.X.u4.u9,true,0⟩ m (.inl rfl) hdl ?_ (by show (⟨0,y.X.u4.u9,decide (i64.wrap (x.T1 - y.X.qc)≤(rd c.r6 (k:Int)).kn),0⟩:E5)=_;rw [hv]) rfl rfl rfl rfl rfl rfl (keep _ (.inl rfl) u2);unfold E4;simp only [h.e1,h.e2,h.e3,h.hS.cf,h.h1,D7,Option.bind_some,mne,ho,Int.reduceBEq,cond_true,cond_false,k4,hpre,hlast,A6x,t1,u1,H4 k1,A4o _ hdl,hv,Bool.true_and,show decide ((i:Int)<0)=false by simp,Bool.not_true,Bool.false_and]
theorem do_sim(hc:wfc c)(ha:acc c=true)(hS:Sim c P m)(hG:A2z c P)(hl:P.length≤150)(wp:InK .i64 x.u4.u5)(wa:InK .u64 x.u4.ke)(wd:x.u4.u9.length≤1000):A7i c P m x:=by
  have hsl:=A4s P x.u3;have hsp:=B5g P x.u3;have hst:=B0k P (by omega) x.u3;have hrb:∃e,F5 c (J8 P x.u3) x.u4=some e∧K4 c (J8 P x.u3) x.u4=some e∧_:=
    B2n hc ha (s:=J8 P x.u3) (by omega) (k:=x.u4.Op) (p:=x.u4.u5) (a:=x.u4.ke) (d:=x.u4.u9) (InK.i64 wp).1 (InK.i64 wp).2 (InK.u64 wa).1 (by have:=(InK.u64 wa).2;omega)
  obtain ⟨e,h1,h2,h3⟩:=hrb;rw [hsp] at h3;have bad:∀e:Int,e≠0→(x.u4.Op≠4∨e≠1)→K4 c (J8 P x.u3) x.u4=some e→E4 m x=some (⟨e,[],false,0⟩,m)→A7i c P m x:=fun e e0 e1 r1 r2=>by
    refine ⟨⟨e,[],false,0⟩,m,r2,?_,by simp,hS.same ha (.inl e0) (by rcases e1 with h | h;exact .inl h;exact .inr ⟨e0,h⟩),B9g hG wp wd e0⟩;unfold U2;rw [hst,Option.bind_some,r1,Option.bind_some,show (e !=0)=true by simp [e0]];rfl
  by_cases hp:0≤x.u3∧x.u3<(c.r8.length:Int)
  · have he2:inb x.u3 m.parts.length=true:=A1v hp.1 (by rw [hS.np];exact hp.2);have he1:(decide (x.u3<0)||decide (x.u3≥(m.parts.length:Int)))=false:=by rw [hS.np];simp;omega
    have he3:rd m.parts x.u3=J8 P x.u3:=by
      have:=hS.parts x.u3.toNat (by omega)
      rwa [show ((x.u3.toNat:Nat):Int)=x.u3 by omega] at this
    by_cases h0:e=0
    · subst h0;rcases h3 with ⟨_,hk,he⟩ | ⟨_,h3⟩ | ⟨h3,_⟩
      · have pre:Pre c P m x:=⟨hc,ha,hS,hG,hl,wp,wa,wd,hp.1,hp.2,h1,h2,he.symm⟩;have hh:x.u4.Op=1∨x.u4.Op=2∨x.u4.Op=3∨x.u4.Op=4∨x.u4.Op=5∨x.u4.Op=6∨x.u4.Op=7∨x.u4.Op=8∨x.u4.Op=9:=by omega
        rcases hh with ho | ho | ho | ho | ho | ho | ho | ho | ho
        · exact do1 pre ho
        · exact do2 pre ho
        · exact do3 pre ho
        · exact do4 pre ho
        · exact do5 pre ho
        · exact do6 pre ho
        · exact do7 pre ho
        · exact do8 pre ho
        · exact do9 pre ho
      · cases h3
      · exact absurd hp h3
    · refine bad e h0 ?_ h2 ?_
      · rcases h3 with ⟨_,hk,he⟩ | ⟨_,h3⟩ | ⟨h3,_⟩
        · by_cases h4:x.u4.Op=4
          · right;rw [he];exact refE4 _ _ _ h4
          · exact .inl h4
        · right;rw [h3];decide
        · exact absurd hp h3
      · unfold E4;simp only [he1,he2,he3,hS.cf,h1,D7,Option.bind_some,cond_false,show (e !=0)=true by simp [h0],cond_true]
  · have he:e=4:=by
      rcases h3 with ⟨h,_⟩ | ⟨h,_⟩ | ⟨_,h⟩
      · exact absurd h hp
      · exact absurd h hp
      · exact h
    subst he;refine bad 4 (by decide) (.inr (by decide)) h2 ?_;unfold E4;rw [show (decide (x.u3<0)||decide (x.u3≥(m.parts.length:Int)))=true by rw [hS.np];simp;omega];rfl
end
end Go.Proofs.YtpdflibmhchlbaaGreatDoor
