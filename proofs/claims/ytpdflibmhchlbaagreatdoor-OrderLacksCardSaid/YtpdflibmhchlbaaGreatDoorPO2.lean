/- Closed forms of the document's answers (layer 18): queues, buffers, cells. No statement is proved here. Conditions: none. -/
import Derived.Test.YtpdflibmhchlbaaGreatDoorPO1
set_option linter.unusedVariables false
set_option linter.unusedSimpArgs false
namespace Go.Proofs.YtpdflibmhchlbaaGreatDoor
open Go Go.RowKit Go.Eng Go.IntKind
def chn(c:C1)(x:I5):Int:=bif prt c x.u4.u5 then x.u4.u5 / 2 else 0
theorem A4x{c:C1}(hc:wfc c)(ha:acc c=true)(x:I5)(hp:InK .i64 x.u4.u5):K5 c x=some (chn c x):=by
  unfold K5;rw [A55 hc ha (InK.i64 hp).1 (InK.i64 hp).2];unfold chn;cases prt c x.u4.u5<;>rfl
structure A8r (c:C1) (x:Q1):Prop where
  pt:InK .i64 x.X.u4.u5
  dl:x.X.u4.u9.length≤1000
  r0:0≤x.qb
  t0:0≤x.qf
  tk:off x=false→x.A.z6=0→3≤x.X.u4.Op→x.X.u4.Op≤7→prt c x.X.u4.u5=true
  ck:off x=false→x.A.z6=0→x.X.u4.Op=9→x.X.u4.u9.length=1
theorem B78{c:C1}{x:Q1}(h:A8r c x):((x.qb==0)&&(x.qf==0))=!off x:=by
  have:=h.r0;have:=h.t0;unfold off;rw [Bool.eq_iff_iff];simp;omega
def isQ(x:Q1):Bool:=!((off x||(x.A.z6 !=0))||((x.X.u4.Op !=5)&&(x.X.u4.Op !=6)))
def wtS(c:C1)(k:Int)(out:List (List Int))(x:Q1):List (List Int):=bif !isQ x||(chn c x.X !=k) then out else bif x.X.u4.Op==5 then out++[x.X.u4.u9] else out.drop 1
def wts(c:C1)(P:List Q1)(k:Int):List (List Int):=P.foldl (wtS c k) []
def qOk(c:C1)(P:List Q1):Prop:=∀(i:Nat),i<P.length→isQ (rd P (i:Int))=true→(rd P (i:Int)).X.u4.Op≠5→wts c (P.take i) (chn c (rd P (i:Int)).X)≠[]
theorem B4a(c:C1)(P:List Q1)(x:Q1)(k:Int):wts c (P++[x]) k=wtS c k (wts c P k) x:=by unfold wts;rw [List.foldl_append];rfl
theorem B93(c:C1)(P:List Q1)(k:Int):(wts c P k).length≤P.length:=by
  unfold wts
  suffices h:∀(P:List Q1) (s:List (List Int)),(P.foldl (wtS c k) s).length≤s.length+P.length by simpa using h P []
  intro P
  induction P with
  | nil=>intro s;simp
  | cons x r ih=>
    intro s;have h1:=ih (wtS c k s x);have h2:(wtS c k s x).length≤s.length+1:=by
      unfold wtS;cases !isQ x||(chn c x.X !=k)
      · cases x.X.u4.Op==5<;>simp;omega
      · simp
    simp only [List.foldl_cons,List.length_cons];omega
theorem A0y{α:Type}[Inhabited α]{l:List α}{i:Nat}(h:i<l.length):rd l (i:Int)∈l:=by
  unfold rd;rw [List.getD_eq_getElem?_getD,show ((i:Int)).toNat=i by omega,List.getElem?_eq_getElem h];exact List.getElem_mem h
theorem B0m{c:C1}(hc:wfc c)(ha:acc c=true)(P:List Q1)(hl:P.length≤200)(hg:∀x∈P,A8r c x)(hq:qOk c P)(k:Int):I3 c P k=some (wts c P k):=by
  unfold I3;obtain ⟨s,h1,h2⟩:=A0r (B:=I3.b1 c P k) P.length (fun i s=>s=wts c (P.take i) k) [] rfl (fun i s hi hI=>by
    have hS:wts c (P.take (i+1)) k=wtS c k (wts c (P.take i) k) (rd P (i:Int)):=A77 P _ _ hi;have hlen:=B93 c (P.take i) k;rw [← hI] at hS hlen;rw [List.length_take] at hlen;have hm1:decide ((s.length+1)*24≤140737488355328)=true:=by simp;omega
    have hi1:=wp1 hi (by unfold maxLen;omega);have hch:=A4x hc ha (rd P (i:Int)).X (hg _ (A0y hi)).pt;have hq':=hq i hi;generalize hx:rd P (i:Int)=x at*
    refine ⟨_,?_,hS.symm⟩;unfold I3.b1;simp only [Q6 hi,cond_true,H4 hi,D7,hx,hi1,A1g (fun _=>rfl),hch];unfold wtS;have e0:isQ x=!((decide (x.qb>0)||decide (x.qf>0)||(x.A.z6 !=0))||((x.X.u4.Op !=5)&&(x.X.u4.Op !=6))):=rfl;cases hQ:isQ x
    · rw [← e0,hQ];rw [hQ] at e0;have e1:((decide (x.qb>0)||decide (x.qf>0)||(x.A.z6 !=0))||((x.X.u4.Op !=5)&&(x.X.u4.Op !=6)))=true:=by
        cases h:((decide (x.qb>0)||decide (x.qf>0)||(x.A.z6 !=0))||((x.X.u4.Op !=5)&&(x.X.u4.Op !=6)))
        · rw [h] at e0;cases e0
        · rfl
      rw [e1];rfl
    · rw [← e0,hQ];have e1:((decide (x.qb>0)||decide (x.qf>0)||(x.A.z6 !=0))||((x.X.u4.Op !=5)&&(x.X.u4.Op !=6)))=false:=by
        cases h:((decide (x.qb>0)||decide (x.qf>0)||(x.A.z6 !=0))||((x.X.u4.Op !=5)&&(x.X.u4.Op !=6)))
        · rfl
        · rw [hQ,h] at e0;cases e0
      rw [e1];simp only [cal,cond_true,Option.bind_some,Bool.false_or,Bool.not_true];cases hk:chn c x.X !=k
      · cases ho:x.X.u4.Op==5
        · have hne:=hq' hQ (by simpa using ho);rw [show chn c x.X=k by simpa using hk,← hI] at hne;have hpos:0<s.length:=List.length_pos_iff.2 hne;simp only [cond_false,A1v (i:=1) (n:=s.length+1) (by omega) (by omega),D7]
        · simp only [cond_false,cond_true,hm1,D7]
      · simp only [cond_true]) (fun s hI=>by
    unfold I3.b1;simp only [X2,cond_false])
  rw [h1,h2,List.take_length];rfl
def lst{α:Type}(f:Q1→Option α)(P:List Q1):Option α:=P.foldl (fun acc x=>(f x).or acc) none
theorem A7z{α:Type}(f:Q1→Option α)(P:List Q1)(x:Q1):lst f (P++[x])=(f x).or (lst f P):=by unfold lst;rw [List.foldl_append];rfl
theorem B75{α:Type}(f:Q1→Option α)(P:List Q1){i:Nat}(h:i<P.length):lst f (P.take (i+1))=(f (rd P (i:Int))).or (lst f (P.take i)):=A77 P (fun acc x=>(f x).or acc) none h
theorem B09{σ ρ α:Type}{B:Int×σ→Option (Stp (Int×σ) (Ex (Int×σ) ρ))}(P:List Q1)(hl:P.length≤1000)(f:Q1→Option α)(g:α→ρ)(s:σ)
    (h1:∀(i:Nat),i<P.length→B ((i:Int),s)=some (match f (rd P (i:Int)) with | some v=>.out (.ret (g v)) | none=>.next (i64.wrap ((i:Int) - 1),s))) (h2:B (-1,s)=some (.out (.brk (-1,s)))):
    F3 B (i64.wrap ((P.length:Int) - 1),s)=some (match lst f P with | some v=>.ret (g v) | none=>.brk (-1,s)):=by
  suffices h:∀i:Nat,i≤P.length→F3 B (i64.wrap ((i:Int) - 1),s)=some (match lst f (P.take i) with | some v=>.ret (g v) | none=>.brk (-1,s)) by
    have:=h P.length (Nat.le_refl _)
    rwa [List.take_length] at this
  intro i
  induction i with
  | zero=>intro _;rw [show i64.wrap (((0:Nat):Int) - 1)= -1 from rfl,L9,h2];rfl
  | succ i ih=>
    intro hi;have hw:i64.wrap (((i+1:Nat):Int) - 1)=(i:Int):=by rw [w64 (by omega) (by omega)];omega
    rw [hw,L9,h1 i (by omega),B75 f P (by omega)];cases hf:f (rd P (i:Int)) with
    | some v=>rfl
    | none=>exact ih (by omega)
def isW(c:C1)(k:Int)(x:Q1):Option Q1:=bif (((((x.qb==0)&&(x.qf==0))&&(x.A.z6==0))&&(x.X.u4.Op==3))&&(chn c x.X==k)) then some x else none
def rdA(c:C1)(P:List Q1)(x:I5):E5:=match lst (isW c (chn c x)) P with
  | some w=>⟨0,w.X.u4.u9,decide ((i64.wrap (x.T1 - w.X.qc))≤((rd c.r6 (chn c x)).kn)),0⟩
  | none=>⟨1,[],false,0⟩
theorem chn_in{c:C1}{x:I5}(h:prt c x.u4.u5=true):inb (chn c x) c.r6.length=true:=by
  unfold chn;rw [h];obtain ⟨h1,h2,h3⟩:=A8j h;exact A1v h1 (by simpa using h2)
theorem B9t{c:C1}(hc:wfc c)(ha:acc c=true)(P:List Q1)(hl:P.length≤200)(hg:∀x∈P,A8r c x)(x:I5)(hp:InK .i64 x.u4.u5):O4 c P x=some (rdA c P x):=by
  unfold O4;rw [A4x hc ha x hp,Option.bind_some];rw [B09 (B:=O4.b1 c P x (chn c x)) P (by omega) (isW c (chn c x)) (fun w=>(⟨0,w.X.u4.u9,decide ((i64.wrap (x.T1 - w.X.qc))≤((rd c.r6 (chn c x)).kn)),0⟩:E5)) (0,false,0) (fun i hi=>by
    have hch:=A4x hc ha (rd P (i:Int)).X (hg _ (A0y hi)).pt;have hg1:=hg _ (A0y hi);generalize hx:rd P (i:Int)=y at*
    unfold O4.b1;simp only [show decide ((i:Int)≥0)=true by simp,cond_true,H4 hi,D7,hx,A1g (fun _=>rfl),hch];unfold isW;cases hb:((((y.qb==0)&&(y.qf==0))&&(y.A.z6==0))&&(y.X.u4.Op==3))
    · rfl
    · simp only [cal,cond_true,Option.bind_some,Bool.true_and];cases hk:chn c y.X==chn c x
      · rfl
      · have hkk:chn c y.X=chn c x:=by simpa using hk
        rw [B78 hg1] at hb;simp only [Bool.and_eq_true,Bool.not_eq_true',beq_iff_eq] at hb;have:=chn_in (hg1.tk hb.1.1 hb.1.2 (by omega) (by omega));rw [hkk] at this;simp only [cond_true,this,D7]) (by
    unfold O4.b1;rfl)]
  unfold rdA;cases lst (isW c (chn c x)) P<;>rfl
def isC(at_:Int)(x:Q1):Option Int:=bif (((((x.qb==0)&&(x.qf==0))&&(x.A.z6==0))&&(x.X.u4.Op==9))&&(x.X.u4.ke==at_)) then some (rd x.X.u4.u9 0) else none
def celA(P:List Q1)(at_:Int):Int:=(lst (isC at_) P).getD 0
theorem B87{c:C1}(P:List Q1)(hl:P.length≤200)(hg:∀x∈P,A8r c x)(at_:Int):O3 P at_=some (celA P at_):=by
  unfold O3;rw [B09 (B:=O3.b1 P at_) P (by omega) (isC at_) (fun w=>w) 0 (fun i hi=>by
    have hg1:=hg _ (A0y hi);generalize hx:rd P (i:Int)=y at*
    unfold O3.b1;simp only [show decide ((i:Int)≥0)=true by simp,cond_true,H4 hi,D7,hx,A1g (fun _=>rfl)];unfold isC;cases hb:(((((y.qb==0)&&(y.qf==0))&&(y.A.z6==0))&&(y.X.u4.Op==9))&&(y.X.u4.ke==at_))
    · rfl
    · rw [B78 hg1] at hb;simp only [Bool.and_eq_true,Bool.not_eq_true',beq_iff_eq] at hb;have:=hg1.ck hb.1.1.1 hb.1.1.2 hb.1.2;simp only [cond_true,A1v (i:=0) (n:=y.X.u4.u9.length) (by omega) (by omega),D7]) (by
    unfold O3.b1;rfl)]
  unfold celA;cases lst (isC at_) P<;>rfl
theorem B6z(l:List Int)(hl:l.length≤300)(x:Int):P6 l x=some (amg l x):=by
  unfold P6;rw [A1p (B:=P6.b1 l x) (fun y=>y==x) l false true (fun i hi=>by
    unfold P6.b1;simp only [Q6 hi,cond_true,H4 hi,D7,wp1 hi (by unfold maxLen;omega)];cases rd l (i:Int)==x<;>rfl) (by
    unfold P6.b1;simp only [X2,cond_false])]
  rw [amg_c];cases amg l x<;>rfl
end Go.Proofs.YtpdflibmhchlbaaGreatDoor
