/- Orders in which two effects change places: what was done, told otherwise. No statement is proved here. Conditions: none. -/
import Derived.Test.YtpdflibmhchlbaaGreatDoorPureOrderLacks
set_option linter.unusedVariables false
set_option linter.unusedSimpArgs false
namespace Go.Proofs.YtpdflibmhchlbaaGreatDoor
open Go Go.RowKit Go.Eng
section
variable {c:C1} {C:List I4} {B:List I5} {P P':List M2} {x y:I4} {a b:E4}
structure Eqp (c:C1) (P P':List M2):Prop where
  st:∀p,I3 P p=I3 P' p
  wt:∀k,wts c P k=wts c P' k
  wr:∀k,lst (isW c k) P=lst (isW c k) P'
  cl:∀a,lst (isC a) P=lst (isC a) P'
  pn:∀t k,pnd P t k=pnd P' t k
theorem Eqp.snoc(h:Eqp c P P')(e:M2):Eqp c (P++[e]) (P'++[e]):=
  ⟨fun p=>by rw [A0a,A0a,h.st],fun k=>by rw [A2z,A2z,h.wt],fun k=>by rw [R8,R8,h.wr],fun k=>by rw [R8,R8,h.cl],fun t k=>by rw [A3e,A3e,h.pn]⟩
structure Beh (c:C1) (P:List M2):Prop where
  g:A2k c P
  m:∃m,Sim c P m
  l:P.length≤140
theorem B5v(hc:wfc c)(ha:acc c=true)(h:Beh c P)(h':Beh c P')(wp:InK .i64 x.u4.u5)(hs:I3 P x.r9=I3 P' x.r9)
    (hw:(x.u4.Op=5∨x.u4.Op=6∨x.u4.Op=7)→∀k,wts c P k=wts c P' k) (hr:x.u4.Op=4→∀k,lst (isW c k) P=lst (isW c k) P')
    (hl:x.u4.Op=8→H6 c (I3 P x.r9) x.u4=some 0→lst (isC x.u4.z7) P=lst (isC x.u4.z7) P'):J1 c P x=J1 c P' x:=by
  have q1:=h.l;have q2:=h'.l;unfold J1;rw [A4w P (by omega),A4w P' (by omega),← hs];simp only [Option.bind_some];have e4:x.u4.Op=4→M6 c P x=M6 c P' x:=fun ho=>by
    rw [B24 hc ha P (by omega) h.g.g1 x wp,B24 hc ha P' (by omega) h'.g.g1 x wp];unfold rdA;rw [hr ho]
  have ew:(x.u4.Op=5∨x.u4.Op=6∨x.u4.Op=7)→∀k,I0 c P k=I0 c P' k:=fun ho k=>by
    rw [A6j hc ha P (by omega) h.g.g1 h.g.q k,A6j hc ha P' (by omega) h'.g.g1 h'.g.q k,hw ho]
  cases hR:H6 c (I3 P x.r9) x.u4 with
  | none=>rfl
  | some e=>
    simp only [Option.bind_some];by_cases he:e=0
    · subst he;have e8:x.u4.Op=8→M5 P x.u4.z7=M5 P' x.u4.z7:=fun ho=>by
        rw [B19 P (by omega) h.g.g1,B19 P' (by omega) h'.g.g1];unfold B4t;rw [hl ho hR]
      rw [A30 hc ha x wp];simp only [Option.bind_some,show ((0:Int) !=0)=false from rfl,cond_false];by_cases o4:x.u4.Op=4
      · rw [e4 o4];simp only [o4,Int.reduceBEq,cond_true,cond_false]
      by_cases o5:x.u4.Op=5
      · simp only [ew (.inl o5),o5,Int.reduceBEq,cond_true,cond_false]
      by_cases o6:x.u4.Op=6
      · simp only [ew (.inr (.inl o6)),o6,Int.reduceBEq,cond_true,cond_false]
      by_cases o7:x.u4.Op=7
      · simp only [ew (.inr (.inr o7))];simp only [o7,Int.reduceBEq,cond_true,cond_false]
      by_cases o8:x.u4.Op=8
      · rw [e8 o8];simp only [o8,Int.reduceBEq,cond_true,cond_false]
      · have b4:(x.u4.Op==4)=false:=by simp [o4]
        have b5:(x.u4.Op==5)=false:=by simp [o5]
        have b6:(x.u4.Op==6)=false:=by simp [o6]
        have b7:(x.u4.Op==7)=false:=by simp [o7]
        have b8:(x.u4.Op==8)=false:=by simp [o8]
        simp only [b4,b5,b6,b7,b8,cond_false]
    · have:(e !=0)=true:=by simp [he]
      simp only [this,cond_true]
theorem B9y(hc:wfc c)(ha:acc c=true)(h:Beh c P)(h':Beh c P')(q:Eqp c P P')(wp:InK .i64 x.u4.u5):J1 c P x=J1 c P' x:=
  B5v hc ha h h' wp (q.st _) (fun _=>q.wt) (fun _=>q.wr) (fun _ _=>q.cl _)
theorem A8s(ha:acc c=true){p q at_:Int}(p0:0≤p)(p1:p<(c.r7.length:Int))(q0:0≤q)(q1:q<(c.r7.length:Int))(hp:prv c p at_=true)(hq:prv c q at_=true):p=q:=by
  have mono:∀(i d:Nat),i+d≤c.r7.length→ps c i≤ps c (i+d):=fun i d=>by
    induction d with
    | zero=>intro _;exact Int.le_refl _
    | succ d ih=>
      intro hd;have h1:=ih (by omega);have h2:=(A5m ha).priv _ (rdm (xs:=c.r7) (i:=i+d) (by omega));show ps c i≤ps c (i+d)+(rd c.r7 ((i+d:Nat):Int)).ka;omega
  have key:∀(i j:Nat),i<j→j<c.r7.length→prv c (i:Int) at_=true→prv c (j:Int) at_=true→False:=fun i j hij hj h1 h2=>by
    unfold prv at h1 h2;simp only [Bool.and_eq_true,decide_eq_true_eq,Int.toNat_natCast] at h1 h2;have h3:=mono (i+1) (j - (i+1)) (by omega);rw [show i+1+(j - (i+1))=j by omega] at h3;simp only [ps] at h3;omega
  obtain ⟨i,rfl⟩:=Int.eq_ofNat_of_zero_le p0;obtain ⟨j,rfl⟩:=Int.eq_ofNat_of_zero_le q0;rcases Nat.lt_trichotomy i j with h | h | h
  · exact (key i j h (by omega) hp hq).elim
  · rw [h]
  · exact (key j i h (by omega) hq hp).elim
theorem B0k(hc:wfc c)(ha:acc c=true)(h:Beh c P)(wp:InK .i64 x.u4.u5)(wa:InK .u64 x.u4.z7)(ho:x.u4.Op=8∨x.u4.Op=9)(hR:H6 c (I3 P x.r9) x.u4=some 0):
    0≤x.r9∧x.r9<(c.r7.length:Int)∧prv c x.r9 x.u4.z7=true:=by
  have hsl:=A3x P x.r9;have hsp:=B0x P x.r9;have q1:=h.l;obtain ⟨e,h1,h2,h3⟩:∃e,F4 c (I3 P x.r9) x.u4=some e∧H6 c (I3 P x.r9) x.u4=some e∧_:=
    A8b hc ha (s:=I3 P x.r9) (by omega) (k:=x.u4.Op) (p:=x.u4.u5) (a:=x.u4.z7) (d:=x.u4.u9) (InK.i64 wp).1 (InK.i64 wp).2 (InK.u64 wa).1 (by have:=(InK.u64 wa).2;omega)
  have he:e=0:=Option.some.inj (h2.symm.trans hR);subst he;rw [hsp] at h3;rcases h3 with ⟨hp,hk,he⟩ | ⟨_,h3⟩ | ⟨_,h3⟩
  · refine ⟨hp.1,hp.2,?_⟩;rcases ho with ho | ho
    · unfold A4a at he;simp only [ho,Int.reduceBEq,cond_true,cond_false,hsp] at he;cases hv:prv c x.r9 x.u4.z7
      · rw [hv] at he;cases he
      · rfl
    · unfold A4a at he;simp only [ho,Int.reduceBEq,cond_true,cond_false,hsp] at he;cases hv:prv c x.r9 x.u4.z7
      · rw [hv] at he;cases hd:((x.u4.u9.length:Int) !=1)<;>rw [hd] at he<;>cases he
      · rfl
  · cases h3
  · cases h3
theorem A9o(hc:wfc c)(ha:acc c=true)(h:Beh c P)(wp:InK .i64 x.u4.u5)(wa:InK .u64 x.u4.z7)(hA:J1 c P x=some a){at_ v:Int}(hv:isC at_ ⟨x,a,0,0⟩=some v):
    x.u4.Op=9∧x.u4.z7=at_∧0≤x.r9∧x.r9<(c.r7.length:Int)∧prv c x.r9 at_=true:=by
  have q1:=h.l;unfold isC at hv;cases hb:(((((((⟨x,a,0,0⟩:M2).qb==0)&&((⟨x,a,0,0⟩:M2).qf==0))&&((⟨x,a,0,0⟩:M2).A.z6==0))&&((⟨x,a,0,0⟩:M2).X.u4.Op==9))&&((⟨x,a,0,0⟩:M2).X.u4.z7==at_)))
  · rw [hb] at hv;cases hv
  · simp only [Bool.and_eq_true,beq_iff_eq] at hb;obtain ⟨⟨⟨_,h0⟩,h9⟩,hat⟩:=hb;have hR:H6 c (I3 P x.r9) x.u4=some 0:=by
      unfold J1 at hA;rw [A4w P (by omega),Option.bind_some] at hA;cases hR:H6 c (I3 P x.r9) x.u4 with
      | none=>rw [hR] at hA;cases hA
      | some e=>
        by_cases he:e=0
        · rw [he]
        · rw [hR,Option.bind_some,show (e !=0)=true by simp [he]] at hA;simp only [cond_true,Option.some.injEq] at hA;rw [← hA] at h0;exact absurd h0 he
    obtain ⟨o1,o2,o3⟩:=B0k hc ha h wp wa (.inr h9) hR;rw [hat] at o3;exact ⟨h9,hat,o1,o2,o3⟩
end
end Go.Proofs.YtpdflibmhchlbaaGreatDoor
