/- One effect: the model does what the document says. No statement is proved here. Conditions: none. -/
import Derived.Test.YtpdflibmhchlbaaGreatDoorPO8
set_option linter.unusedVariables false
set_option linter.unusedSimpArgs false
namespace Go.Proofs.YtpdflibmhchlbaaGreatDoor
open Go Go.RowKit Go.Eng
def A7t(c:C1)(P:List M2)(m:C3)(x:I4):Prop:=
  ∃a m',E2 m x=some (a,m')∧J1 c P x=some a∧a.u9.length≤1000∧Sim c (P++[⟨x,a,0,0⟩]) m'∧A2k c (P++[⟨x,a,0,0⟩])
section
variable {c:C1} {P:List M2} {m:C3} {x:I4}
structure Pre (c:C1) (P:List M2) (m:C3) (x:I4):Prop where
  hc:wfc c
  ha:acc c=true
  hS:Sim c P m
  hG:A2k c P
  hl:P.length≤150
  wp:InK .i64 x.u4.u5
  wa:InK .u64 x.u4.z7
  wd:x.u4.u9.length≤1000
  p0:0≤x.r9
  p1:x.r9<(c.r7.length:Int)
  h1:F4 c (I3 P x.r9) x.u4=some 0
  h2:H6 c (I3 P x.r9) x.u4=some 0
  he:A4a c (I3 P x.r9) x.u4=0
theorem Pre.e1(h:Pre c P m x):(decide (x.r9<0)||decide (x.r9≥(m.parts.length:Int)))=false:=by have:=h.p0;have:=h.p1;rw [h.hS.np];simp;omega
theorem Pre.e2(h:Pre c P m x):inb x.r9 m.parts.length=true:=A1q h.p0 (by rw [h.hS.np];exact h.p1)
theorem Pre.e3(h:Pre c P m x):rd m.parts x.r9=I3 P x.r9:=by
  have:=h.hS.parts x.r9.toNat (by have:=h.p0;have:=h.p1;omega)
  rwa [show ((x.r9.toNat:Nat):Int)=x.r9 by have:=h.p0;omega] at this
theorem Pre.ref(h:Pre c P m x):J1 c P x=(bif (x.u4.Op==4) then ((M6 c P x).bind fun t_32=>some t_32) else (bif (x.u4.Op==5) then (req (inb (chn c x) c.r6.length) ((I0 c P (chn c x)).bind fun t_48=>(bif decide ((t_48.length:Int)≥((rd c.r6 (chn c x)).z9)) then some (⟨2,[],false,0⟩:E4) else some (⟨0,[],false,0⟩:E4)))) else (bif (x.u4.Op==6) then ((I0 c P (chn c x)).bind fun t_64=>(bif ((t_64.length:Int)==0) then some (⟨2,[],false,0⟩:E4) else (req (inb 0 t_64.length) (some (⟨0,(rd t_64 0),false,0⟩:E4))))) else (bif (x.u4.Op==7) then (req (inb (chn c x) c.r6.length) (bif (((rd c.r6 (chn c x)).u6)==2) then ((I0 c P (chn c x)).bind fun t_94=>some (⟨0,[],false,(t_94.length:Int)⟩:E4)) else ((P9 (I3 P x.r9).u7 x.u4.u5).bind fun t_101=>some (⟨0,[],t_101,0⟩:E4)))) else (bif (x.u4.Op==8) then ((M5 P x.u4.z7).bind fun t_108=>some (⟨0,([t_108]:List Int),false,0⟩:E4)) else some (⟨0,[],false,0⟩:E4)))))):=by
  unfold J1;rw [A4w P (by have:=h.hl;omega),Option.bind_some,h.h2,Option.bind_some,show ((0:Int) !=0)=false from rfl,cond_false,A30 h.hc h.ha x h.wp,Option.bind_some]
theorem Pre.port(h:Pre c P m x)(h3:3≤x.u4.Op)(h7:x.u4.Op≤7):∃k:Nat,k<c.r6.length∧chn c x=(k:Int)∧prt c x.u4.u5=true∧S8 c x.u4.u5=some ((k:Int),ppt c x.u4.u5,psd x.u4.u5,true)∧
    (x.u4.Op=3∨x.u4.Op=4→(rd c.r6 (k:Int)).u6=1)∧(x.u4.Op=5∨x.u4.Op=6→(rd c.r6 (k:Int)).u6=2):=by
  obtain ⟨q1,q2,q3⟩:=B7i h3 h7 h.he;obtain ⟨r1,r2,r3⟩:=A8r q1;refine ⟨(x.u4.u5 / 2).toNat,by omega,?_,q1,?_,?_,?_⟩
  · unfold chn;rw [q1];simp only [cond_true];omega
  · rw [B0w h.hc h.ha (InK.i64 h.wp).1 (InK.i64 h.wp).2,q1];simp only [cond_true];rw [show (((x.u4.u5 / 2).toNat:Nat):Int)=x.u4.u5 / 2 by omega]
  · rw [show (((x.u4.u5 / 2).toNat:Nat):Int)=x.u4.u5 / 2 by omega];exact q2
  · rw [show (((x.u4.u5 / 2).toNat:Nat):Int)=x.u4.u5 / 2 by omega];exact q3
theorem mne:((0:Int) !=0)=false:=rfl
theorem do1(h:Pre c P m x)(ho:x.u4.Op=1):A7t c P m x:=by
  have hml:=(A3x P x.r9).1;have hl:=h.hl;refine ⟨⟨0,[],false,0⟩,⟨m.c,m.parts.set x.r9.toNat ⟨(I3 P x.r9).r9,(I3 P x.r9).z8,(I3 P x.r9).en++[x.u4.u5],(I3 P x.r9).u7⟩,m.last,m.rows,m.cells,m.bells⟩,?_,?_,by simp,?_,A3p h.hG h.wp h.wd (by omega) (by omega) (by omega)⟩
  · unfold E2;simp only [h.e1,h.e2,h.e3,h.hS.cf,h.h1,D5,Option.bind_some,mne,ho,Int.reduceBEq,cond_true,cond_false];rw [show decide (((I3 P x.r9).en.length+([x.u4.u5]:List Int).length)*8≤140737488355328)=true by simp;omega,D5]
  · rw [h.ref];simp only [ho,Int.reduceBEq,cond_true,cond_false]
  · refine h.hS.snoc h.ha _ rfl rfl (by simp) ?_ rfl (h.hS.last_no (.inr (by omega))) rfl (h.hS.rows_no (.inr (by omega))) h.hS.rown h.hS.keys (h.hS.cells_no (.inr (by omega)));refine A8p h.hS (n:=x.r9.toNat) (by have:=h.p0;have:=h.p1;omega) (by have:=h.p0;omega) ?_;unfold ans;simp [ho]
theorem do2(h:Pre c P m x)(ho:x.u4.Op=2):A7t c P m x:=by
  refine ⟨⟨0,[],false,0⟩,⟨m.c,m.parts.set x.r9.toNat ⟨(I3 P x.r9).r9,true,(I3 P x.r9).en,(I3 P x.r9).u7⟩,m.last,m.rows,m.cells,m.bells⟩,?_,?_,by simp,?_,A3p h.hG h.wp h.wd (by omega) (by omega) (by omega)⟩
  · unfold E2;simp only [h.e1,h.e2,h.e3,h.hS.cf,h.h1,D5,Option.bind_some,mne,ho,Int.reduceBEq,cond_true,cond_false]
  · rw [h.ref];simp only [ho,Int.reduceBEq,cond_true,cond_false]
  · refine h.hS.snoc h.ha _ rfl rfl (by simp) ?_ rfl (h.hS.last_no (.inr (by omega))) rfl (h.hS.rows_no (.inr (by omega))) h.hS.rown h.hS.keys (h.hS.cells_no (.inr (by omega)));refine A8p h.hS (n:=x.r9.toNat) (by have:=h.p0;have:=h.p1;omega) (by have:=h.p0;omega) ?_;unfold ans;simp [ho]
theorem do8(h:Pre c P m x)(ho:x.u4.Op=8):A7t c P m x:=by
  refine ⟨⟨0,[B4t P x.u4.z7],false,0⟩,m,?_,?_,by simp,?_,A3p h.hG h.wp h.wd (by omega) (by omega) (by omega)⟩
  · unfold E2;simp only [h.e1,h.e2,h.e3,h.hS.cf,h.h1,D5,Option.bind_some,mne,ho,Int.reduceBEq,cond_true,cond_false,h.hS.cells]
  · rw [h.ref];simp only [ho,Int.reduceBEq,cond_true,cond_false];rw [B19 P (by have:=h.hl;omega) h.hG.g1];rfl
  · exact h.hS.same h.ha (.inr (.inr ho)) (.inl (by omega))
theorem do9(h:Pre c P m x)(ho:x.u4.Op=9):A7t c P m x:=by
  have hd:=refE9 ho h.he;have hi:inb 0 x.u4.u9.length=true:=A1q (by omega) (by omega);have fin:∀m':C3,m'.c=m.c→m'.bells=m.bells→m'.parts=m.parts→m'.last=m.last→m'.rows=m.rows→(m'.cells.map Prod.fst).Nodup→(∀a,(A1e m'.cells a).getD 0=if a=x.u4.z7 then rd x.u4.u9 0 else (A1e m.cells a).getD 0)→
      Sim c (P++[⟨x,⟨0,[],false,0⟩,0,0⟩]) m':=fun m' q1 q2 q3 q4 q5 q6 q7=>by
    refine h.hS.snoc h.ha m' q1 q2 (by rw [q3]) ?_ (by rw [q4]) ?_ (by rw [q5]) ?_ ?_ q6 ?_
    · rw [q3];exact h.hS.parts_no (.inr (by omega)) (.inl (by omega))
    · rw [q4];exact h.hS.last_no (.inr (by omega))
    · rw [q5];exact h.hS.rows_no (.inr (by omega))
    · rw [q5];exact h.hS.rown
    · intro a;rw [q7 a];by_cases hq:a=x.u4.z7
      · subst hq;have:isC x.u4.z7 ⟨x,⟨0,[],false,0⟩,0,0⟩=some (rd x.u4.u9 0):=by unfold isC;simp [ho]
        rw [this];simp
      · have h0:(x.u4.z7==a)=false:=by simp;exact fun h=>hq h.symm
        have:isC a ⟨x,⟨0,[],false,0⟩,0,0⟩=none:=by unfold isC;simp [h0]
        rw [if_neg hq,this];exact h.hS.cells a
  have hr:J1 c P x=some ⟨0,[],false,0⟩:=by rw [h.ref];simp only [ho,Int.reduceBEq,cond_true,cond_false]
  have hm:∀m',E2 m x=some (⟨0,[],false,0⟩,m')→Sim c (P++[⟨x,⟨0,[],false,0⟩,0,0⟩]) m'→A7t c P m x:=fun m' q1 q2=>⟨_,m',q1,hr,by simp,q2,A3p h.hG h.wp h.wd (by omega) (fun _=>hd) (by omega)⟩;cases hz:(rd x.u4.u9 0)==0
  · refine hm _ ?_ (fin ⟨m.c,m.parts,m.last,m.rows,A37 m.cells x.u4.z7 (rd x.u4.u9 0),m.bells⟩ rfl rfl rfl rfl rfl (A7l h.hS.keys _ _) (fun a=>?_))
    · unfold E2;simp only [h.e1,h.e2,h.e3,h.h1,h.hS.cf,D5,Option.bind_some,mne,ho,Int.reduceBEq,cond_true,cond_false,hi,hz]
    · show (A1e (A37 m.cells x.u4.z7 (rd x.u4.u9 0)) a).getD 0=_;rw [A8o];split<;>rfl
  · refine hm _ ?_ (fin ⟨m.c,m.parts,m.last,m.rows,A57 (A37 m.cells x.u4.z7 (rd x.u4.u9 0)) x.u4.z7,m.bells⟩ rfl rfl rfl rfl rfl ((A7l h.hS.keys _ _).sublist (B1m _ _)) (fun a=>?_))
    · unfold E2;simp only [h.e1,h.e2,h.e3,h.h1,h.hS.cf,D5,Option.bind_some,mne,ho,Int.reduceBEq,cond_true,cond_false,hi,hz]
    · show (A1e (A57 (A37 m.cells x.u4.z7 (rd x.u4.u9 0)) x.u4.z7) a).getD 0=_;rw [B1n _ _ _ (A7l h.hS.keys _ _),A8o];split
      · rw [show rd x.u4.u9 0=0 by simpa using hz];rfl
      · rfl
theorem do3(h:Pre c P m x)(ho:x.u4.Op=3):A7t c P m x:=by
  obtain ⟨k,k1,k2,k3,k4,k5,k6⟩:=h.port (by omega) (by omega);refine ⟨⟨0,[],false,0⟩,⟨m.c,m.parts,m.last.set k ⟨x.u4.u9,x.qc,true⟩,m.rows,m.cells,m.bells⟩,?_,?_,by simp,?_,A3p h.hG h.wp h.wd (fun _ _=>k3) (by omega) (by omega)⟩
  · unfold E2;simp only [h.e1,h.e2,h.e3,h.hS.cf,h.h1,D5,Option.bind_some,mne,ho,Int.reduceBEq,cond_true,cond_false,k4,G6 (show k<m.last.length by rw [h.hS.nl];exact k1),A4s _ h.wd,show ((k:Int)).toNat=k by omega]
  · rw [h.ref];simp only [ho,Int.reduceBEq,cond_true,cond_false]
  · refine h.hS.snoc h.ha _ rfl rfl rfl (h.hS.parts_no (.inr (by omega)) (.inl (by omega))) (by simp) (fun j hj=>?_) rfl (h.hS.rows_no (.inr (by omega))) h.hS.rown h.hS.keys (h.hS.cells_no (.inr (by omega)));show rd (m.last.set k _) (j:Int)=_;rw [A6b _ _ (by rw [h.hS.nl];exact k1)];unfold isW;split
    · subst ‹k=j›; simp [ho,k2,A66]
    · rename_i hne;have:(chn c x==(j:Int))=false:=by rw [k2];simp;omega
      simp only [this,Bool.and_false,cond_false,Option.none_or];exact h.hS.last j hj
theorem do7(h:Pre c P m x)(ho:x.u4.Op=7):A7t c P m x:=by
  obtain ⟨k,k1,k2,k3,k4,k5,k6⟩:=h.port (by omega) (by omega);have hvl:=(A3x P x.r9).2;have hl:=h.hl;have fin:∀a:E4,a.z6=0→a.u9=[]→E2 m x=some (a,m)→J1 c P x=some a→A7t c P m x:=fun a q0 q1 q2 q3=>⟨a,m,q2,q3,by rw [q1];simp,h.hS.same h.ha (.inr (.inl ho)) (.inl (by omega)),A3p h.hG h.wp h.wd (fun _ _=>k3) (by omega) (by omega)⟩;by_cases hk:(rd c.r6 (k:Int)).u6=2
  · obtain ⟨r,r1,r2⟩:=h.hS.rows k k1 hk;refine fin ⟨0,[],false,((wts c P (k:Int)).length:Int)⟩ rfl rfl ?_ ?_
    · unfold E2;simp only [h.e1,h.e2,h.e3,h.hS.cf,h.h1,D5,Option.bind_some,mne,ho,Int.reduceBEq,cond_true,cond_false,k4,G6 (show k<m.rows.length by rw [h.hS.nr];exact k1),r1];show ((O3 r).bind fun t_526=>_)=_;unfold O3;rw [Option.bind_some,r2.n];rfl
    · rw [h.ref];simp only [ho,Int.reduceBEq,cond_true,cond_false,k2,G6 k1,D5,hk,A6j h.hc h.ha P (by omega) h.hG.g1 h.hG.q,Option.bind_some]
  · have hn:=h.hS.rown k k1 hk;refine fin ⟨0,[],amg (I3 P x.r9).u7 x.u4.u5,0⟩ rfl rfl ?_ ?_
    · unfold E2;simp only [h.e1,h.e2,h.e3,h.hS.cf,h.h1,D5,Option.bind_some,mne,ho,Int.reduceBEq,cond_true,cond_false,k4,G6 (show k<m.rows.length by rw [h.hS.nr];exact k1),hn];show ((I1 (I3 P x.r9).u7 x.u4.u5).bind fun t_510=>_)=_;rw [B59 _ (by omega),Option.bind_some];rfl
    · rw [h.ref];simp only [ho,Int.reduceBEq,cond_true,cond_false,k2,G6 k1,D5,show ((rd c.r6 (k:Int)).u6==2)=false by simpa using hk,B7k _ (show (I3 P x.r9).u7.length≤300 by omega),Option.bind_some]
end
end Go.Proofs.YtpdflibmhchlbaaGreatDoor
