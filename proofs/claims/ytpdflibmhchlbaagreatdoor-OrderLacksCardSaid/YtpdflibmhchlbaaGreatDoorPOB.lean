/- Bells rung, bells delivered, and a new model. No statement is proved here. Conditions: none. -/
import Derived.Test.YtpdflibmhchlbaaGreatDoorPOA
set_option linter.unusedVariables false
set_option linter.unusedSimpArgs false
namespace Go.Proofs.YtpdflibmhchlbaaGreatDoor
open Go Go.RowKit Go.Eng Go.IntKind
def zc:I5:=⟨0,⟨0,0,0,[]⟩,⟨0,[],false,0⟩,false,0,0,0,0,0,0,0,0,0,0⟩
def zp(r t:Int):Q1:=⟨zc,⟨0,[],false,0⟩,r,t⟩
section
variable {c:C1} {P:List Q1} {m:C3} {x:I5}
theorem stS_z(p r t:Int)(s:D0):stS p s (zp r t)=s:=by unfold stS;cases off (zp r t)||((zp r t).X.u3 !=p)<;>rfl
theorem isW_z(k r t:Int):isW c k (zp r t)=none:=by
  unfold isW;rw [show (((((zp r t).qb==0)&&((zp r t).qf==0))&&((zp r t).A.z6==0))&&((zp r t).X.u4.Op==3)&&(chn c (zp r t).X==k))=false by rw [show ((zp r t).X.u4.Op==3)=false from rfl];simp];rfl
theorem isC_z(k r t:Int):isC k (zp r t)=none:=by
  unfold isC;rw [show (((((zp r t).qb==0)&&((zp r t).qf==0))&&((zp r t).A.z6==0))&&((zp r t).X.u4.Op==9)&&((zp r t).X.u4.ke==k))=false by rw [show ((zp r t).X.u4.Op==9)=false from rfl];simp];rfl
theorem isQ_z(r t:Int):isQ (zp r t)=false:=by
  unfold isQ;rw [show (((zp r t).X.u4.Op !=5)&&((zp r t).X.u4.Op !=6))=true from rfl,Bool.or_true];rfl
theorem B7v(hG:A2z c P){r t:Int}(hr:0≤r)(ht:0≤t):A2z c (P++[zp r t]):=
  hG.snoc _ ⟨rfl,Nat.zero_le _,hr,ht,fun _ _ h=>absurd (show (3:Int)≤0 from h) (by decide),fun _ _ h=>absurd (show (0:Int)=9 from h) (by decide)⟩ (fun hq=>by rw [isQ_z] at hq;cases hq)
theorem sim_z(h:Sim c P m)(r t:Int)(b:Option I7)(hb:∃v:BitVec 64,b=some ⟨2*(c.r6.length:Int),(v.toNat:Int)⟩∧∀k:Nat,k<c.r6.length→v.getLsbD (2*k+1)=pS ((rd c.r6 (k:Int)).To+1) ((k:Int)+1) (pnd P ((rd c.r6 (k:Int)).To+1) ((k:Int)+1)) (zp r t)):
    Sim c (P++[zp r t]) ⟨m.c,m.parts,m.last,m.rows,m.cells,b⟩:=by
  refine ⟨h.cf,h.np,fun p hp=>?_,h.nl,fun k hk=>?_,h.nr,fun k hk hk2=>?_,h.rown,h.keys,fun a=>?_,?_⟩
  · rw [B0l,stS_z];exact h.parts p hp
  · rw [A7z,isW_z];exact h.last k hk
  · rw [B4a];unfold wtS;rw [isQ_z];exact h.rows k hk hk2
  · unfold celA;rw [A7z,isC_z];exact h.cells a
  · obtain ⟨v,v1,v2⟩:=hb;exact ⟨v,v1,fun k hk=>by rw [B3r];exact v2 k hk⟩
theorem B8k(hc:wfc c)(ha:acc c=true)(hS:Sim c P m)(hG:A2z c P)(wp:InK .i64 x.u4.u5):
    ∃k m',Z4 c x=some k∧Q4 m x=some (k !=0,m')∧(k≠0→Sim c (P++[zp k 0]) m'∧A2z c (P++[zp k 0])):=by
  have h8:=(A7l ha).m8;unfold Z4 Q4;rw [A55 hc ha (InK.i64 wp).1 (InK.i64 wp).2,hS.cf,B0j hc ha (InK.i64 wp).1 (InK.i64 wp).2];by_cases hp:prt c x.u4.u5=true∧x.u4.Op=5
  · obtain ⟨r1,r2,r3⟩:=A8j hp.1;obtain ⟨j,hj⟩:∃j:Nat,x.u4.u5 / 2=(j:Int):=⟨(x.u4.u5 / 2).toNat,by omega⟩;have hjn:j<c.r6.length:=by omega
    obtain ⟨v,v1,v2⟩:=hS.bells;simp only [hp.1,hp.2,cond_true,Option.bind_some,hj,Bool.not_true,Bool.false_or,bne_self_eq_false,cond_false,v1,wk hjn h8];rw [w64 (x:=(j:Int)+1) (by omega) (by omega)];refine ⟨(j:Int)+1,_,rfl,?_,fun _=>⟨sim_z hS _ _ _ ⟨v ||| BitVec.twoPow 64 (2*j+1),rfl,fun k hk=>?_⟩,B7v hG (by omega) (by omega)⟩⟩
    · show ((S6 _ (2*(j:Int)+1)).bind fun t_44=>_)=_;rw [B9v _ v (by omega) (by omega),Option.bind_some,show (((j:Int)+1) !=0)=true by simp;omega,hS.cf]
    · have:=((A7l ha).ends _ (A0y hk)).2.1;rw [BitVec.getLsbD_or,BitVec.getLsbD_twoPow,v2 k hk];unfold pS;rw [show ((zp ((j:Int)+1) 0).qf==((rd c.r6 (k:Int)).To+1))=false by show ((0:Int)==_)=false;simp;omega];by_cases hkj:k=j
      · subst hkj;rw [show ((zp ((k:Int)+1) 0).qb==((k:Int)+1))=true by show (((k:Int)+1)==((k:Int)+1))=true;simp];simp;omega
      · rw [show ((zp ((j:Int)+1) 0).qb==((k:Int)+1))=false by show (((j:Int)+1)==((k:Int)+1))=false;simp;omega];have:decide (2*j+1=2*k+1)=false:=by simp;omega
        simp [this];omega
  · refine ⟨0,m,?_,?_,fun h=>absurd rfl h⟩
    · cases hq:prt c x.u4.u5
      · rfl
      · have:(x.u4.Op !=5)=true:=by simp;exact fun h=>hp ⟨hq,h⟩
        simp only [cond_true,Option.bind_some,this,Bool.or_true]
    · cases hq:prt c x.u4.u5
      · rfl
      · have:(x.u4.Op !=5)=true:=by simp;exact fun h=>hp ⟨hq,h⟩
        simp only [cond_true,Option.bind_some,this,Bool.or_true];rfl
theorem B0a{p:Int}{q q':Int→Bool}:∀ {n:Nat},(∀k:Nat,k<n→(rd c.r6 (k:Int)).To=p→q (k:Int)=q' (k:Int))→A2i c p q n=A2i c p q' n
  | 0,_=>rfl
  | n+1,h=>by
    have ih:=B0a (n:=n) (q:=q) (q':=q') fun k hk=>h k (by omega);unfold A2i;rw [ih];cases ht:(rd c.r6 (n:Int)).To==p
    · rfl
    · rw [h n (by omega) (by simpa using ht)]
theorem B0b(p:Int)(q:Int→Bool):∀(n:Nat),∀y∈A2i c p q n,∃k:Nat,k<n∧y=2*(k:Int)+1
  | 0,y,h=>by simp [A2i] at h
  | n + 1,y,h=>by
    unfold A2i at h;cases hb:((rd c.r6 (n:Int)).To==p)&&q (n:Int)
    · rw [hb] at h;obtain ⟨k,h1,h2⟩:=B0b p q n y h;exact ⟨k,by omega,h2⟩
    · rw [hb] at h;rcases List.mem_append.1 h with h | h
      · obtain ⟨k,h1,h2⟩:=B0b p q n y h;exact ⟨k,by omega,h2⟩
      · exact ⟨n,by omega,List.mem_singleton.1 h⟩
theorem B22(ha:acc c=true)(hS:Sim c P m)(hG:A2z c P)(hl:P.length≤150)(p:Int)(p1: -1≤p)(p2:p≤100):
    ∃l m',G7 c P p=some l∧H2 m p=some (l,m')∧l.length≤8∧Sim c (P++[zp 0 (i64.wrap (p+1))]) m'∧A2z c (P++[zp 0 (i64.wrap (p+1))]):=by
  have h8:=(A7l ha).m8;obtain ⟨v,v1,v2⟩:=hS.bells;obtain ⟨t1,t2⟩:=B6e c p v c.r6.length h8;have hw:i64.wrap (p+1)=p+1:=w64 (by omega) (by omega);have hloop:F3 (H2.b1 m p) (0,([]:List Int))=some (.brk ((c.r6.length:Int),A2i c p (fun _=>true) c.r6.length)):=by
    obtain ⟨s,e1,e2⟩:=A0r (B:=H2.b1 m p) c.r6.length (fun i s=>s=A2i c p (fun _=>true) i) [] rfl (fun i s hi hI=>by
      have hlen:=A51 c p (fun _=>true) i;rw [← hI] at hlen;refine ⟨_,?_,rfl⟩;unfold H2.b1;simp only [hS.cf,Q6 hi,cond_true,H4 hi,D7,wp1 hi (by unfold maxLen;omega),wk hi h8];rw [show decide ((s.length+1)*8≤140737488355328)=true by simp;omega];unfold A2i;rw [← hI,Bool.and_true];cases (rd c.r6 (i:Int)).To==p<;>rfl) (fun s hI=>by
      unfold H2.b1;simp only [hS.cf,X2,cond_false])
    rw [e1,e2]
  have hpq:A2i c p (fun k=>v.getLsbD (2*k.toNat+1)) c.r6.length=A2i c p (fun k=>pnd P (p+1) (k+1)) c.r6.length:=B0a fun k hk ht=>by
    show v.getLsbD (2*((k:Int)).toNat+1)=_;rw [show ((k:Int)).toNat=k by omega,v2 k hk,ht]
  refine ⟨_,⟨m.c,m.parts,m.last,m.rows,m.cells,some ⟨2*(c.r6.length:Int),(((A2i c p (fun _=>true) c.r6.length).foldl tkS ([],v)).2.toNat:Int)⟩⟩,B3u h8 P (by omega) p p1 p2,?_,?_,sim_z hS _ _ _ ⟨_,rfl,fun k hk=>?_⟩,B7v hG (by omega) (by omega)⟩
  · unfold H2;rw [hloop,Option.bind_some];show (opt m.bells none fun y_71=>_)=_;rw [v1];show ((J3 _ _).bind fun t_80=>_)=_;rw [B61 _ v _ (show (A2i c p (fun _=>true) c.r6.length).length≤100 by have:=A51 c p (fun _=>true) c.r6.length;omega) (fun y hy=>by
      obtain ⟨k,k1,k2⟩:=B0b p _ _ y hy;exact ⟨k,by omega,k2,by omega⟩),Option.bind_some,t1,hpq]
  · have:=A51 c p (fun k=>pnd P (p+1) (k+1)) c.r6.length;omega
  · have hto:=((A7l ha).ends _ (A0y hk)).2.1;rw [t2 k (by omega),v2 k hk,hw];unfold pS;rw [show ((zp 0 (p+1)).qb==((k:Int)+1))=false by show ((0:Int)==_)=false;simp;omega];rw [show decide (k<c.r6.length)=true by simpa using hk,Bool.true_and];show _=bif (p+1)==((rd c.r6 (k:Int)).To+1) then false else _;by_cases ht:(rd c.r6 (k:Int)).To=p
    · rw [show ((rd c.r6 (k:Int)).To==p)=true by simpa using ht,ht];simp
    · rw [show ((rd c.r6 (k:Int)).To==p)=false by simpa using ht,show ((p+1)==((rd c.r6 (k:Int)).To+1))=false by simp;omega];simp
theorem B48(l:List S5)(h:l.length≤1000):Z0 l=some l:=by
  unfold Z0;rw [show decide ((([]:List S5).length+l.length)*16≤140737488355328)=true by simp;omega,D7];rfl
theorem B4b(l:List Q2)(h:l.length≤1000):Y9 l=some l:=by
  unfold Y9;rw [show decide ((([]:List Q2).length+l.length)*56≤140737488355328)=true by simp;omega,D7];rfl
theorem B1o(l:List F9)(h:l.length≤1000):N4 l=some l:=by
  unfold N4;rw [show decide ((([]:List F9).length+l.length)*24≤140737488355328)=true by simp;omega,D7];rfl
theorem B9l(ha:acc c=true)(w0:c.r7.e0.r9.length≤100)(w1:c.r7.e1.r9.length≤100):∃m,F4 c=some (some m)∧Sim c [] m:=by
  have H:=A7l ha;have h8:=H.m8;have h6:=H.n6;have hb1:F3 (F4.b1 c c.r8 c.r6) (0,c.r7.e0.r9,c.r7.e1.r9)=some (.brk (2,c.r7.e0.r9,c.r7.e1.r9)):=by
    rw [L9];have s1:F4.b1 c c.r8 c.r6 (0,c.r7.e0.r9,c.r7.e1.r9)=some (.next (1,c.r7.e0.r9,c.r7.e1.r9)):=by
      unfold F4.b1;show ((N4 c.r7.e0.r9).bind fun t_46=>_)=_;rw [B1o _ (by omega)];rfl
    rw [s1];show F3 _ _=_;rw [L9];have s2:F4.b1 c c.r8 c.r6 (1,c.r7.e0.r9,c.r7.e1.r9)=some (.next (2,c.r7.e0.r9,c.r7.e1.r9)):=by
      unfold F4.b1;show ((N4 c.r7.e1.r9).bind fun t_61=>_)=_;rw [B1o _ (by omega)];rfl
    rw [s2];show F3 _ _=_;rw [L9];have s3:F4.b1 c c.r8 c.r6 (2,c.r7.e0.r9,c.r7.e1.r9)=some (.out (.brk (2,c.r7.e0.r9,c.r7.e1.r9))):=rfl;rw [s3]
  let m0:C3:=⟨c,[],List.replicate c.r6.length ⟨[],0,false⟩,List.replicate c.r6.length none,[],none⟩
  have hb2:∀s1,∃m,F3 (F4.b2 c c.r8 c.r6 s1) (0,m0)=some (.brk ((c.r8.length:Int),m))∧m={m0 with parts:=(List.range c.r8.length).map fun p:Nat=>(⟨(p:Int),false,[],[]⟩:D0)}:=fun s1=>
    A0r (B:=F4.b2 c c.r8 c.r6 s1) c.r8.length (fun i m=>m={m0 with parts:=(List.range i).map fun p:Nat=>(⟨(p:Int),false,[],[]⟩:D0)}) m0 rfl (fun i m hi hI=>by
      subst hI;refine ⟨_,?_,rfl⟩;unfold F4.b2;simp only [Q6 hi,cond_true,wp1 hi (by unfold maxLen;omega)];rw [show decide ((((List.range i).map fun p:Nat=>(⟨(p:Int),false,[],[]⟩:D0)).length+1)*64≤140737488355328)=true by simp;omega,D7];rw [List.range_succ,List.map_append];rfl) (fun m hI=>by
      unfold F4.b2;simp only [X2,cond_false])
  obtain ⟨m1,e1,rfl⟩:=hb2 (2,c.r7.e0.r9,c.r7.e1.r9);have hb3 :∃m,F3 (F4.b3 c c.r8 c.r6 (2,c.r7.e0.r9,c.r7.e1.r9) ((c.r8.length:Int),{m0 with parts:=(List.range c.r8.length).map fun p:Nat=>(⟨(p:Int),false,[],[]⟩:D0)})) (0,{m0 with parts:=(List.range c.r8.length).map fun p:Nat=>(⟨(p:Int),false,[],[]⟩:D0)})=some (.brk ((c.r6.length:Int),m))∧
      (m.c=c∧m.parts=((List.range c.r8.length).map fun p:Nat=>(⟨(p:Int),false,[],[]⟩:D0))∧m.last=m0.last∧m.cells=[]∧m.rows.length=c.r6.length∧(∀k:Nat,k<c.r6.length→(rd c.r6 (k:Int)).u6=2→∃r,rd m.rows (k:Int)=some r∧Rep r (rd c.r6 (k:Int)).z8.toNat [])∧∀k:Nat,k<c.r6.length→(rd c.r6 (k:Int)).u6≠2→rd m.rows (k:Int)=none):=by
    obtain ⟨m,f1,f2⟩:=A0r (B:=F4.b3 c c.r8 c.r6 (2,c.r7.e0.r9,c.r7.e1.r9) ((c.r8.length:Int),{m0 with parts:=(List.range c.r8.length).map fun p:Nat=>(⟨(p:Int),false,[],[]⟩:D0)})) c.r6.length
      (fun i m=>m.c=c∧m.parts=((List.range c.r8.length).map fun p:Nat=>(⟨(p:Int),false,[],[]⟩:D0))∧m.last=m0.last∧m.cells=[]∧m.rows.length=c.r6.length∧(∀k:Nat,k<i→(rd c.r6 (k:Int)).u6=2→∃r,rd m.rows (k:Int)=some r∧Rep r (rd c.r6 (k:Int)).z8.toNat [])∧∀k:Nat,k<c.r6.length→(i≤k∨(rd c.r6 (k:Int)).u6≠2)→rd m.rows (k:Int)=none)
      { m0 with parts:=(List.range c.r8.length).map fun p:Nat=>(⟨(p:Int),false,[],[]⟩:D0)} ⟨rfl,rfl,rfl,rfl,List.length_replicate,fun k hk=>absurd hk (by omega),fun k hk _=>by
        show rd (List.replicate c.r6.length none) (k:Int)=none;unfold rd;rw [List.getD_eq_getElem?_getD,show ((k:Int)).toNat=k by omega,List.getElem?_replicate,if_pos hk];rfl⟩ (fun i m hi ⟨q1,q2,q3,q4,q5,q6,q7⟩=>by
        have hm:=A0y hi;unfold F4.b3;simp only [Q6 hi,cond_true,H4 hi,D7,wp1 hi (by unfold maxLen;omega)];cases hk:(rd c.r6 (i:Int)).u6==2
        · have hk':(rd c.r6 (i:Int)).u6≠2:=by simpa using hk
          refine ⟨m,rfl,q1,q2,q3,q4,q5,fun k hki hk2=>?_,fun k hkn hor=>?_⟩
          · by_cases hkk:k=i
            · subst hkk;exact absurd hk2 hk'
            · exact q6 k (by omega) hk2
          · by_cases hkk:k=i
            · subst hkk;exact q7 k hkn (.inl (Nat.le_refl _))
            · exact q7 k hkn (by rcases hor with h | h;exact .inl (by omega);exact .inr h)
        · have hk':(rd c.r6 (i:Int)).u6=2:=by simpa using hk
          have hd:=(H.depth _ hm).2 hk';obtain ⟨r,n1,n2⟩:=B9k (d:=(rd c.r6 (i:Int)).z8) (by omega) (by omega);simp only [cond_true,H4 (show i<m.rows.length by rw [q5];exact hi),D7,n1,Option.bind_some,show ((i:Int)).toNat=i by omega];refine ⟨_,rfl,q1,q2,q3,q4,by simpa using q5,fun k hki hk2=>?_,fun k hkn hor=>?_⟩
          · show ∃r',rd (m.rows.set i (some r)) (k:Int)=some r'∧_;rw [A53 _ _ (by rw [q5];exact hi)];split
            · subst ‹i=k›; exact ⟨r,rfl,n2⟩
            · exact q6 k (by omega) hk2
          · show rd (m.rows.set i (some r)) (k:Int)=none;rw [A53 _ _ (by rw [q5];exact hi),if_neg (by rintro rfl;rcases hor with h | h;omega;exact h hk')];exact q7 k hkn (by rcases hor with h | h;exact .inl (by omega);exact .inr h)) (fun m hI=>by
        unfold F4.b3;simp only [X2,cond_false])
    exact ⟨m,f1,f2.1,f2.2.1,f2.2.2.1,f2.2.2.2.1,f2.2.2.2.2.1,f2.2.2.2.2.2.1,fun k hk h2=>f2.2.2.2.2.2.2 k hk (.inr h2)⟩
  obtain ⟨m2,e2,q1,q2,q3,q4,q5,q6,q7⟩:=hb3;refine ⟨⟨m2.c,m2.parts,m2.last,m2.rows,m2.cells,some ⟨2*(c.r6.length:Int),((0:BitVec 64).toNat:Int)⟩⟩,?_,⟨q1,by rw [q2];simp,fun p hp=>?_,by rw [q3];exact List.length_replicate,fun k hk=>?_,q5,q6,q7,by rw [q4];simp,fun a=>by rw [q4];rfl,⟨0,rfl,fun k hk=>by simp [pnd]⟩⟩⟩
  · unfold F4;rw [B48 _ (by omega),Option.bind_some,B4b _ (by omega),Option.bind_some,hb1,Option.bind_some];show (req _ (req _ ((F3 _ _).bind _)))=_;rw [show (decide (0≤(c.r6.length:Int))&&decide (((c.r6.length:Int)).toNat*(3+40)≤16777216))=true by simp;omega,D7,show (decide (0≤(c.r6.length:Int))&&decide (((c.r6.length:Int)).toNat*(1+8)≤16777216))=true by simp;omega,D7];have hm0:(⟨⟨c.r8,c.r6,⟨⟨c.r7.e0.z5,c.r7.e0.r9⟩,⟨c.r7.e1.z5,c.r7.e1.r9⟩⟩⟩,[],List.replicate ((c.r6.length:Int)).toNat ⟨[],0,false⟩,List.replicate ((c.r6.length:Int)).toNat none,[],none⟩:C3)=m0:=rfl;show ((F3 (F4.b2 c c.r8 c.r6 (2,c.r7.e0.r9,c.r7.e1.r9)) (0,m0)).bind _)=_;rw [e1,Option.bind_some];show ((F3 (F4.b3 c c.r8 c.r6 _ _) (0,_)).bind _)=_;rw [e2,Option.bind_some];show ((Z1 _).bind _)=_;unfold Z1;rw [w64 (x:=2*(c.r6.length:Int)) (by omega) (by omega),show (decide (2*(c.r6.length:Int)<0)||decide (2*(c.r6.length:Int)>64))=false by simp;omega];rfl
  · show rd m2.parts (p:Int)=_;rw [q2];unfold rd;rw [List.getD_eq_getElem?_getD,show ((p:Int)).toNat=p by omega,List.getElem?_map,List.getElem?_range hp];rfl
  · show rd m2.last (k:Int)=_;rw [q3];show rd (List.replicate c.r6.length _) (k:Int)=_;unfold rd;rw [List.getD_eq_getElem?_getD,show ((k:Int)).toNat=k by omega,List.getElem?_replicate,if_pos hk];rfl
end
end Go.Proofs.YtpdflibmhchlbaaGreatDoor
