/- The model stands where the document says. No statement is proved here. Conditions: none. -/
import Derived.Test.YtpdflibmhchlbaaGreatDoorPO5
set_option linter.unusedVariables false
set_option linter.unusedSimpArgs false
namespace Go.Proofs.YtpdflibmhchlbaaGreatDoor
open Go Go.RowKit Go.Eng
def A6x(o:Option Q1):Q8:=match o with | some w=>⟨w.X.u4.u9,w.X.qc,true⟩ | none=>⟨[],0,false⟩
structure Sim (c:C1) (P:List Q1) (m:C3):Prop where
  cf:m.c=c
  np:m.parts.length=c.r8.length
  parts:∀p:Nat,p<c.r8.length→rd m.parts (p:Int)=J8 P (p:Int)
  nl:m.last.length=c.r6.length
  last:∀k:Nat,k<c.r6.length→rd m.last (k:Int)=A6x (lst (isW c (k:Int)) P)
  nr:m.rows.length=c.r6.length
  rows:∀k:Nat,k<c.r6.length→(rd c.r6 (k:Int)).u6=2→∃r,rd m.rows (k:Int)=some r∧Rep r (rd c.r6 (k:Int)).z8.toNat (wts c P (k:Int))
  rown:∀k:Nat,k<c.r6.length→(rd c.r6 (k:Int)).u6≠2→rd m.rows (k:Int)=none
  keys:(m.cells.map Prod.fst).Nodup
  cells:∀a,(A1i m.cells a).getD 0=celA P a
  bells:∃v:BitVec 64,m.bells=some ⟨2*(c.r6.length:Int),(v.toNat:Int)⟩∧∀k:Nat,k<c.r6.length→v.getLsbD (2*k+1)=pnd P ((rd c.r6 (k:Int)).To+1) ((k:Int)+1)
structure A2z (c:C1) (P:List Q1):Prop where
  g1:∀x∈P,A8r c x
  q:qOk c P
theorem A53{α:Type}[Inhabited α](l:List α){i j:Nat}(v:α)(h:i<l.length):rd (l.set i v) (j:Int)=if i=j then v else rd l (j:Int):=by
  unfold rd;rw [List.getD_eq_getElem?_getD,List.getD_eq_getElem?_getD,show ((j:Int)).toNat=j by omega];split
  · subst ‹i=j›; rw [List.getElem?_set_self h];rfl
  · rw [List.getElem?_set_ne ‹_›]
theorem B3n(x:I5)(a:E5):off ⟨x,a,0,0⟩=false:=rfl
section
variable {c:C1} {P:List Q1} {x:I5} {a:E5}
theorem isW_no{k:Int}(h:a.z6≠0∨x.u4.Op≠3):isW c k ⟨x,a,0,0⟩=none:=by
  unfold isW;rcases h with h | h
  · rw [show ((((((0:Int)==0)&&((0:Int)==0))&&(a.z6==0))&&(x.u4.Op==3))&&(chn c x==k))=false by simp [h]];rfl
  · rw [show ((((((0:Int)==0)&&((0:Int)==0))&&(a.z6==0))&&(x.u4.Op==3))&&(chn c x==k))=false by simp [h]];rfl
theorem isC_no{k:Int}(h:a.z6≠0∨x.u4.Op≠9):isC k ⟨x,a,0,0⟩=none:=by
  unfold isC;rcases h with h | h
  · rw [show ((((((0:Int)==0)&&((0:Int)==0))&&(a.z6==0))&&(x.u4.Op==9))&&(x.u4.ke==k))=false by simp [h]];rfl
  · rw [show ((((((0:Int)==0)&&((0:Int)==0))&&(a.z6==0))&&(x.u4.Op==9))&&(x.u4.ke==k))=false by simp [h]];rfl
theorem B2b(h:a.z6≠0∨(x.u4.Op≠5∧x.u4.Op≠6)):isQ ⟨x,a,0,0⟩=false:=by
  unfold isQ;rw [B3n];rcases h with h | h
  · simp [h]
  · simp [h.1,h.2]
theorem wtS_no{k:Int}{out:List (List Int)}(h:a.z6≠0∨(x.u4.Op≠5∧x.u4.Op≠6)):wtS c k out ⟨x,a,0,0⟩=out:=by
  unfold wtS;rw [B2b h];rfl
theorem pS_e{t k:Int}(ht:1≤t)(hk:1≤k)(b:Bool):pS t k b ⟨x,a,0,0⟩=b:=by
  unfold pS;rw [show ((0:Int)==t)=false by simp;omega,show ((0:Int)==k)=false by simp;omega];rfl
theorem ans_no(s:D0)(h1:a.z6≠0∨(x.u4.Op≠1∧x.u4.Op≠2))(h2:x.u4.Op≠4∨(a.z6≠0∧a.z6≠1)):ans s x.u4 a=s:=by
  unfold ans;have e1:((x.u4.Op==2)&&(a.z6==0))=false:=by rcases h1 with h | h<;>simp [h]
  have e2:((x.u4.Op==1)&&(a.z6==0))=false:=by rcases h1 with h | h<;>simp [h]
  have e3:((x.u4.Op !=4)||((a.z6 !=0)&&(a.z6 !=1)))=true:=by rcases h2 with h | h<;>simp [h]
  rw [e1,e2,e3];rfl
theorem B5f{s:D0}{p:Int}(h:x.u3≠p):stS p s ⟨x,a,0,0⟩=s:=by
  unfold stS;rw [show (off ⟨x,a,0,0⟩||(x.u3 !=p))=true by rw [B3n];simp [h]];rfl
theorem B5e{s:D0}:stS x.u3 s ⟨x,a,0,0⟩=ans s x.u4 a:=by
  unfold stS;rw [show (off ⟨x,a,0,0⟩||(x.u3 !=x.u3))=false by rw [B3n];simp];rfl
theorem A2z.snoc(h:A2z c P)(e:Q1)(h1:A8r c e)(h2:isQ e=true→e.X.u4.Op≠5→wts c P (chn c e.X)≠[]):A2z c (P++[e]):=by
  refine ⟨fun y hy=>?_,fun i hi hq ho=>?_⟩
  · rcases List.mem_append.1 hy with hy | hy
    · exact h.g1 y hy
    · rw [List.mem_singleton.1 hy];exact h1
  · have rdl:∀j:Nat,j<P.length→rd (P++[e]) (j:Int)=rd P (j:Int):=fun j hj=>by
      unfold rd;rw [List.getD_eq_getElem?_getD,List.getD_eq_getElem?_getD,show ((j:Int)).toNat=j by omega,List.getElem?_append_left hj]
    simp only [List.length_append,List.length_singleton] at hi;by_cases hl:i<P.length
    · rw [rdl i hl] at hq ho ⊢;rw [List.take_append_of_le_length (by omega)];exact h.q i hl hq ho
    · have hil:i=P.length:=by omega
      subst hil;have:rd (P++[e]) (P.length:Int)=e:=by unfold rd;rw [List.getD_eq_getElem?_getD,show ((P.length:Int)).toNat=P.length by omega,List.getElem?_append_right (Nat.le_refl _)];simp
      rw [this] at hq ho ⊢;rw [List.take_append_of_le_length (Nat.le_refl _),List.take_length];exact h2 hq ho
end
section
variable {c:C1} {P:List Q1} {m:C3} {x:I5} {a:E5}
theorem Sim.snoc(ha:acc c=true)(h:Sim c P m)(m':C3)(hc:m'.c=m.c)(hb:m'.bells=m.bells)
    (np:m'.parts.length=m.parts.length) (parts:∀p:Nat,p<c.r8.length→rd m'.parts (p:Int)=stS (p:Int) (J8 P (p:Int)) ⟨x,a,0,0⟩)
    (nl:m'.last.length=m.last.length) (last:∀k:Nat,k<c.r6.length→rd m'.last (k:Int)=A6x ((isW c (k:Int) ⟨x,a,0,0⟩).or (lst (isW c (k:Int)) P)))
    (nr:m'.rows.length=m.rows.length) (rows:∀k:Nat,k<c.r6.length→(rd c.r6 (k:Int)).u6=2→∃r,rd m'.rows (k:Int)=some r∧Rep r (rd c.r6 (k:Int)).z8.toNat (wtS c (k:Int) (wts c P (k:Int)) ⟨x,a,0,0⟩))
    (rown:∀k:Nat,k<c.r6.length→(rd c.r6 (k:Int)).u6≠2→rd m'.rows (k:Int)=none)
    (keys:(m'.cells.map Prod.fst).Nodup) (cells:∀at_,(A1i m'.cells at_).getD 0=((isC at_ ⟨x,a,0,0⟩).or (lst (isC at_) P)).getD 0):Sim c (P++[⟨x,a,0,0⟩]) m':=by
  refine ⟨hc.trans h.cf,np.trans h.np,fun p hp=>?_,nl.trans h.nl,fun k hk=>?_,nr.trans h.nr,fun k hk hk2=>?_,rown,keys,fun at_=>?_,?_⟩
  · rw [B0l];exact parts p hp
  · rw [A7z];exact last k hk
  · rw [B4a];exact rows k hk hk2
  · unfold celA;rw [A7z];exact cells at_
  · obtain ⟨v,v1,v2⟩:=h.bells;refine ⟨v,hb.trans v1,fun k hk=>?_⟩;have hm:=A0y hk;have:=((A7l ha).ends _ hm).2.1;rw [B3r,pS_e (by omega) (by omega)];exact v2 k hk
theorem Sim.parts_no(h:Sim c P m)(h1:a.z6≠0∨(x.u4.Op≠1∧x.u4.Op≠2))(h2:x.u4.Op≠4∨(a.z6≠0∧a.z6≠1))(p:Nat)(hp:p<c.r8.length):rd m.parts (p:Int)=stS (p:Int) (J8 P (p:Int)) ⟨x,a,0,0⟩:=by
  by_cases hx:x.u3=(p:Int)
  · rw [← hx,B5e,ans_no _ h1 h2,hx];exact h.parts p hp
  · rw [B5f hx];exact h.parts p hp
theorem Sim.last_no(h:Sim c P m)(h1:a.z6≠0∨x.u4.Op≠3)(k:Nat)(hk:k<c.r6.length):rd m.last (k:Int)=A6x ((isW c (k:Int) ⟨x,a,0,0⟩).or (lst (isW c (k:Int)) P)):=by
  rw [isW_no h1];exact h.last k hk
theorem Sim.rows_no(h:Sim c P m)(h1:a.z6≠0∨(x.u4.Op≠5∧x.u4.Op≠6))(k:Nat)(hk:k<c.r6.length)(hk2:(rd c.r6 (k:Int)).u6=2):∃r,rd m.rows (k:Int)=some r∧Rep r (rd c.r6 (k:Int)).z8.toNat (wtS c (k:Int) (wts c P (k:Int)) ⟨x,a,0,0⟩):=by
  rw [wtS_no h1];exact h.rows k hk hk2
theorem Sim.cells_no(h:Sim c P m)(h1:a.z6≠0∨x.u4.Op≠9)(at_:Int):(A1i m.cells at_).getD 0=((isC at_ ⟨x,a,0,0⟩).or (lst (isC at_) P)).getD 0:=by
  rw [isC_no h1];exact h.cells at_
theorem Sim.same(ha:acc c=true)(h:Sim c P m)(h0:a.z6≠0∨(x.u4.Op=7∨x.u4.Op=8))(h2:x.u4.Op≠4∨(a.z6≠0∧a.z6≠1)):Sim c (P++[⟨x,a,0,0⟩]) m:=
  h.snoc ha m rfl rfl rfl (h.parts_no (by omega) h2) rfl (h.last_no (by omega)) rfl (h.rows_no (by omega)) h.rown h.keys (h.cells_no (by omega))
end
end Go.Proofs.YtpdflibmhchlbaaGreatDoor
