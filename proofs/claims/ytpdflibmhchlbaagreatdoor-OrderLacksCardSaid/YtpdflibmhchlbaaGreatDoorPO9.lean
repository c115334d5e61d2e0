/- One effect: the model does what the document says. No statement is proved here. Conditions: none. -/
import Derived.Test.YtpdflibmhchlbaaGreatDoorPO8
set_option linter.unusedVariables false
set_option linter.unusedSimpArgs false
namespace Go.Proofs.YtpdflibmhchlbaaGreatDoor
open Go Go.RowKit Go.Eng
def A7i(c:C1)(P:List Q1)(m:C3)(x:I5):Prop:=
  ∃a m',E4 m x=some (a,m')∧U2 c P x=some a∧a.u9.length≤1000∧Sim c (P++[⟨x,a,0,0⟩]) m'∧A2z c (P++[⟨x,a,0,0⟩])
section
variable {c:C1} {P:List Q1} {m:C3} {x:I5}
structure Pre (c:C1) (P:List Q1) (m:C3) (x:I5):Prop where
  hc:wfc c
  ha:acc c=true
  hS:Sim c P m
  hG:A2z c P
  hl:P.length≤150
  wp:InK .i64 x.u4.u5
  wa:InK .u64 x.u4.ke
  wd:x.u4.u9.length≤1000
  p0:0≤x.u3
  p1:x.u3<(c.r8.length:Int)
  h1:F5 c (J8 P x.u3) x.u4=some 0
  h2:K4 c (J8 P x.u3) x.u4=some 0
  he:A4g c (J8 P x.u3) x.u4=0
theorem Pre.e1(h:Pre c P m x):(decide (x.u3<0)||decide (x.u3≥(m.parts.length:Int)))=false:=by have:=h.p0;have:=h.p1;rw [h.hS.np];simp;omega
theorem Pre.e2(h:Pre c P m x):inb x.u3 m.parts.length=true:=A1v h.p0 (by rw [h.hS.np];exact h.p1)
theorem Pre.e3(h:Pre c P m x):rd m.parts x.u3=J8 P x.u3:=by
  have:=h.hS.parts x.u3.toNat (by have:=h.p0;have:=h.p1;omega)
  rwa [show ((x.u3.toNat:Nat):Int)=x.u3 by have:=h.p0;omega] at this
theorem Pre.ref(h:Pre c P m x):U2 c P x=(bif (x.u4.Op==4) then ((O4 c P x).bind fun t_32=>some t_32) else (bif (x.u4.Op==5) then (req (inb (chn c x) c.r6.length) ((I3 c P (chn c x)).bind fun t_48=>(bif decide ((t_48.length:Int)≥((rd c.r6 (chn c x)).z8)) then some (⟨2,[],false,0⟩:E5) else some (⟨0,[],false,0⟩:E5)))) else (bif (x.u4.Op==6) then ((I3 c P (chn c x)).bind fun t_64=>(bif ((t_64.length:Int)==0) then some (⟨2,[],false,0⟩:E5) else (req (inb 0 t_64.length) (some (⟨0,(rd t_64 0),false,0⟩:E5))))) else (bif (x.u4.Op==7) then (req (inb (chn c x) c.r6.length) (bif (((rd c.r6 (chn c x)).u6)==2) then ((I3 c P (chn c x)).bind fun t_94=>some (⟨0,[],false,(t_94.length:Int)⟩:E5)) else ((P6 (J8 P x.u3).u7 x.u4.u5).bind fun t_101=>some (⟨0,[],t_101,0⟩:E5)))) else (bif (x.u4.Op==8) then ((O3 P x.u4.ke).bind fun t_108=>some (⟨0,([t_108]:List Int),false,0⟩:E5)) else some (⟨0,[],false,0⟩:E5)))))):=by
  unfold U2;rw [B0k P (by have:=h.hl;omega),Option.bind_some,h.h2,Option.bind_some,show ((0:Int) !=0)=false from rfl,cond_false,A4x h.hc h.ha x h.wp,Option.bind_some]
theorem Pre.port(h:Pre c P m x)(h3:3≤x.u4.Op)(h7:x.u4.Op≤7):∃k:Nat,k<c.r6.length∧chn c x=(k:Int)∧prt c x.u4.u5=true∧S8 c x.u4.u5=some ((k:Int),ppt c x.u4.u5,psd x.u4.u5,true)∧
    (x.u4.Op=3∨x.u4.Op=4→(rd c.r6 (k:Int)).u6=1)∧(x.u4.Op=5∨x.u4.Op=6→(rd c.r6 (k:Int)).u6=2):=by
  obtain ⟨q1,q2,q3⟩:=B6x h3 h7 h.he;obtain ⟨r1,r2,r3⟩:=A8j q1;refine ⟨(x.u4.u5 / 2).toNat,by omega,?_,q1,?_,?_,?_⟩
  · unfold chn;rw [q1];simp only [cond_true];omega
  · rw [B0j h.hc h.ha (InK.i64 h.wp).1 (InK.i64 h.wp).2,q1];simp only [cond_true];rw [show (((x.u4.u5 / 2).toNat:Nat):Int)=x.u4.u5 / 2 by omega]
  · rw [show (((x.u4.u5 / 2).toNat:Nat):Int)=x.u4.u5 / 2 by omega];exact q2
  · rw [show (((x.u4.u5 / 2).toNat:Nat):Int)=x.u4.u5 / 2 by omega];exact q3
theorem mne:((0:Int) !=0)=false:=rfl
theorem do1(h:Pre c P m x)(ho:x.u4.Op=1):A7i c P m x:=by
  have hml:=(A4s P x.u3).1;have hl:=h.hl;refine ⟨⟨0,[],false,0⟩,⟨m.c,m.parts.set x.u3.toNat ⟨(J8 P x.u3).u3,(J8 P x.u3).z7,(J8 P x.u3).z9++[x.u4.u5],(J8 P x.u3).u7⟩,m.last,m.rows,m.cells,m.bells⟩,?_,?_,by simp,?_,A3o h.hG h.wp h.wd (by omega) (by omega) (by omega)⟩
  · unfold E4;simp only [h.e1,h.e2,h.e3,h.hS.cf,h.h1,D7,Option.bind_some,mne,ho,Int.reduceBEq,cond_true,cond_false];rw [show decide (((J8 P x.u3).z9.length+([x.u4.u5]:List Int).length)*8≤140737488355328)=true by simp;omega,D7]
  · rw [h.ref];simp only [ho,Int.reduceBEq,cond_true,cond_false]
  · refine h.hS.snoc h.ha _ rfl rfl (by simp) ?_ rfl (h.hS.last_no (.inr (by omega))) rfl (h.hS.rows_no (.inr (by omega))) h.hS.rown h.hS.keys (h.hS.cells_no (.inr (by omega)));refine A8h h.hS (n:=x.u3.toNat) (by have:=h.p0;have:=h.p1;omega) (by have:=h.p0;omega) ?_;unfold ans;simp [ho]
theorem do2(h:Pre c P m x)(ho:x.u4.Op=2):A7i c P m x:=by
  refine ⟨⟨0,[],false,0⟩,⟨m.c,m.parts.set x.u3.toNat ⟨(J8 P x.u3).u3,true,(J8 P x.u3).z9,(J8 P x.u3).u7⟩,m.last,m.rows,m.cells,m.bells⟩,?_,?_,by simp,?_,A3o h.hG h.wp h.wd (by omega) (by omega) (by omega)⟩
  · unfold E4;simp only [h.e1,h.e2,h.e3,h.hS.cf,h.h1,D7,Option.bind_some,mne,ho,Int.reduceBEq,cond_true,cond_false]
  · rw [h.ref];simp only [ho,Int.reduceBEq,cond_true,cond_false]
  · refine h.hS.snoc h.ha _ rfl rfl (by simp) ?_ rfl (h.hS.last_no (.inr (by omega))) rfl (h.hS.rows_no (.inr (by omega))) h.hS.rown h.hS.keys (h.hS.cells_no (.inr (by omega)));refine A8h h.hS (n:=x.u3.toNat) (by have:=h.p0;have:=h.p1;omega) (by have:=h.p0;omega) ?_;unfold ans;simp [ho]
theorem do8(h:Pre c P m x)(ho:x.u4.Op=8):A7i c P m x:=by
  refine ⟨⟨0,[celA P x.u4.ke],false,0⟩,m,?_,?_,by simp,?_,A3o h.hG h.wp h.wd (by omega) (by omega) (by omega)⟩
  · unfold E4;simp only [h.e1,h.e2,h.e3,h.hS.cf,h.h1,D7,Option.bind_some,mne,ho,Int.reduceBEq,cond_true,cond_false,h.hS.cells]
  · rw [h.ref];simp only [ho,Int.reduceBEq,cond_true,cond_false];rw [B87 P (by have:=h.hl;omega) h.hG.g1];rfl
  · exact h.hS.same h.ha (.inr (.inr ho)) (.inl (by omega))
theorem do9(h:Pre c P m x)(ho:x.u4.Op=9):A7i c P m x:=by
  have hd:=refE9 ho h.he;have hi:inb 0 x.u4.u9.length=true:=A1v (by omega) (by omega);have fin:∀m':C3,m'.c=m.c→m'.bells=m.bells→m'.parts=m.parts→m'.last=m.last→m'.rows=m.rows→(m'.cells.map Prod.fst).Nodup→(∀a,(A1i m'.cells a).getD 0=if a=x.u4.ke then rd x.u4.u9 0 else (A1i m.cells a).getD 0)→
      Sim c (P++[⟨x,⟨0,[],false,0⟩,0,0⟩]) m':=fun m' q1 q2 q3 q4 q5 q6 q7=>by
    refine h.hS.snoc h.ha m' q1 q2 (by rw [q3]) ?_ (by rw [q4]) ?_ (by rw [q5]) ?_ ?_ q6 ?_
    · rw [q3];exact h.hS.parts_no (.inr (by omega)) (.inl (by omega))
    · rw [q4];exact h.hS.last_no (.inr (by omega))
    · rw [q5];exact h.hS.rows_no (.inr (by omega))
    · rw [q5];exact h.hS.rown
    · intro a;rw [q7 a];by_cases hq:a=x.u4.ke
      · subst hq;have:isC x.u4.ke ⟨x,⟨0,[],false,0⟩,0,0⟩=some (rd x.u4.u9 0):=by unfold isC;simp [ho]
        rw [this];simp
      · have h0:(x.u4.ke==a)=false:=by simp;exact fun h=>hq h.symm
        have:isC a ⟨x,⟨0,[],false,0⟩,0,0⟩=none:=by unfold isC;simp [h0]
        rw [if_neg hq,this];exact h.hS.cells a
  have hr:U2 c P x=some ⟨0,[],false,0⟩:=by rw [h.ref];simp only [ho,Int.reduceBEq,cond_true,cond_false]
  have hm:∀m',E4 m x=some (⟨0,[],false,0⟩,m')→Sim c (P++[⟨x,⟨0,[],false,0⟩,0,0⟩]) m'→A7i c P m x:=fun m' q1 q2=>⟨_,m',q1,hr,by simp,q2,A3o h.hG h.wp h.wd (by omega) (fun _=>hd) (by omega)⟩;cases hz:(rd x.u4.u9 0)==0
  · refine hm _ ?_ (fin ⟨m.c,m.parts,m.last,m.rows,A33 m.cells x.u4.ke (rd x.u4.u9 0),m.bells⟩ rfl rfl rfl rfl rfl (A7b h.hS.keys _ _) (fun a=>?_))
    · unfold E4;simp only [h.e1,h.e2,h.e3,h.h1,h.hS.cf,D7,Option.bind_some,mne,ho,Int.reduceBEq,cond_true,cond_false,hi,hz]
    · show (A1i (A33 m.cells x.u4.ke (rd x.u4.u9 0)) a).getD 0=_;rw [A8g];split<;>rfl
  · refine hm _ ?_ (fin ⟨m.c,m.parts,m.last,m.rows,A5z (A33 m.cells x.u4.ke (rd x.u4.u9 0)) x.u4.ke,m.bells⟩ rfl rfl rfl rfl rfl ((A7b h.hS.keys _ _).sublist (B1a _ _)) (fun a=>?_))
    · unfold E4;simp only [h.e1,h.e2,h.e3,h.h1,h.hS.cf,D7,Option.bind_some,mne,ho,Int.reduceBEq,cond_true,cond_false,hi,hz]
    · show (A1i (A5z (A33 m.cells x.u4.ke (rd x.u4.u9 0)) x.u4.ke) a).getD 0=_;rw [B1b _ _ _ (A7b h.hS.keys _ _),A8g];split
      · rw [show rd x.u4.u9 0=0 by simpa using hz];rfl
      · rfl
theorem do3(h:Pre c P m x)(ho:x.u4.Op=3):A7i c P m x:=by
  obtain ⟨k,k1,k2,k3,k4,k5,k6⟩:=h.port (by omega) (by omega);refine ⟨⟨0,[],false,0⟩,⟨m.c,m.parts,m.last.set k ⟨x.u4.u9,x.qc,true⟩,m.rows,m.cells,m.bells⟩,?_,?_,by simp,?_,A3o h.hG h.wp h.wd (fun _ _=>k3) (by omega) (by omega)⟩
  · unfold E4;simp only [h.e1,h.e2,h.e3,h.hS.cf,h.h1,D7,Option.bind_some,mne,ho,Int.reduceBEq,cond_true,cond_false,k4,H4 (show k<m.last.length by rw [h.hS.nl];exact k1),A4o _ h.wd,show ((k:Int)).toNat=k by omega]
  · rw [h.ref];simp only [ho,Int.reduceBEq,cond_true,cond_false]
  · refine h.hS.snoc h.ha _ rfl rfl rfl (h.hS.parts_no (.inr (by omega)) (.inl (by omega))) (by simp) (fun j hj=>?_) rfl (h.hS.rows_no (.inr (by omega))) h.hS.rown h.hS.keys (h.hS.cells_no (.inr (by omega)));show rd (m.last.set k _) (j:Int)=_;rw [A53 _ _ (by rw [h.hS.nl];exact k1)];unfold isW;split
    · subst ‹k=j›; simp [ho,k2,A6x]
    · rename_i hne;have:(chn c x==(j:Int))=false:=by rw [k2];simp;omega
      simp only [this,Bool.and_false,cond_false,Option.none_or];exact h.hS.last j hj
theorem do7(h:Pre c P m x)(ho:x.u4.Op=7):A7i c P m x:=by
  obtain ⟨k,k1,k2,k3,k4,k5,k6⟩:=h.port (by omega) (by omega);have hvl:=(A4s P x.u3).2;have hl:=h.hl;have fin:∀a:E5,a.z6=0→a.u9=[]→E4 m x=some (a,m)→U2 c P x=some a→A7i c P m x:=fun a q0 q1 q2 q3=>⟨a,m,q2,q3,by rw [q1];simp,h.hS.same h.ha (.inr (.inl ho)) (.inl (by omega)),A3o h.hG h.wp h.wd (fun _ _=>k3) (by omega) (by omega)⟩;by_cases hk:(rd c.r6 (k:Int)).u6=2
  · obtain ⟨r,r1,r2⟩:=h.hS.rows k k1 hk;refine fin ⟨0,[],false,((wts c P (k:Int)).length:Int)⟩ rfl rfl ?_ ?_
    · unfold E4;simp only [h.e1,h.e2,h.e3,h.hS.cf,h.h1,D7,Option.bind_some,mne,ho,Int.reduceBEq,cond_true,cond_false,k4,H4 (show k<m.rows.length by rw [h.hS.nr];exact k1),r1];show ((N9 r).bind fun t_526=>_)=_;unfold N9;rw [Option.bind_some,r2.n];rfl
    · rw [h.ref];simp only [ho,Int.reduceBEq,cond_true,cond_false,k2,H4 k1,D7,hk,B0m h.hc h.ha P (by omega) h.hG.g1 h.hG.q,Option.bind_some]
  · have hn:=h.hS.rown k k1 hk;refine fin ⟨0,[],amg (J8 P x.u3).u7 x.u4.u5,0⟩ rfl rfl ?_ ?_
    · unfold E4;simp only [h.e1,h.e2,h.e3,h.hS.cf,h.h1,D7,Option.bind_some,mne,ho,Int.reduceBEq,cond_true,cond_false,k4,H4 (show k<m.rows.length by rw [h.hS.nr];exact k1),hn];show ((H9 (J8 P x.u3).u7 x.u4.u5).bind fun t_510=>_)=_;rw [B5q _ (by omega),Option.bind_some];rfl
    · rw [h.ref];simp only [ho,Int.reduceBEq,cond_true,cond_false,k2,H4 k1,D7,show ((rd c.r6 (k:Int)).u6==2)=false by simpa using hk,B6z _ (show (J8 P x.u3).u7.length≤300 by omega),Option.bind_some]
end
end Go.Proofs.YtpdflibmhchlbaaGreatDoor
