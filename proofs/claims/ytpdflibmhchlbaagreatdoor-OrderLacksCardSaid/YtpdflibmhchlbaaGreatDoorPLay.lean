/- Plain law: what an accepted configuration is like; where its spans lie, in the program and in the document. No statement of the seat is proved here. Conditions: none. -/
import Derived.Test.YtpdflibmhchlbaaGreatDoorPDef
set_option linter.unusedVariables false
set_option linter.unusedSimpArgs false
namespace Go.Proofs.YtpdflibmhchlbaaGreatDoor
open Go Go.RowKit Go.Eng
theorem A95{S O:Type}{B:S→Option (Stp S O)}(g:Nat→S)(m:Nat)(o:O)(h1:∀j,j<m→B (g j)=some (.next (g (j+1))))(h2:B (g m)=some (.out o)):F3 B (g 0)=some o:=by
  have:∀k i,i+k=m→F3 B (g i)=some o:=by
    intro k
    induction k with
    | zero=>intro i h;rw [L9,show i=m by omega,h2]
    | succ k ih=>intro i h;rw [L9,h1 i (by omega)];exact ih (i+1) (by omega)
  exact this m 0 (by omega)
theorem accD{c:C1}(ha:acc c=true)(k:Nat)(h1:1≤k)(h2:k≤17):D c (k:Int)=false:=by
  unfold acc at ha;rw [Bool.not_eq_true',List.any_eq_false] at ha
  simpa using ha k (List.mem_range'_1.2 ⟨h1,by omega⟩)
theorem anyF{α:Type}{l:List α}{p:α→Bool}(h:l.any p=false):∀x∈l,p x=false:=by
  rw [List.any_eq_false] at h;intro x hx;simpa using h x hx
structure AccS (c:C1):Prop where
  n1:1≤c.r8.length
  n6:c.r8.length≤6
  core:∀p∈c.r8,p.pz=0∨p.pz=1
  priv:∀p∈c.r8,0≤p.ka∧p.ka≤64
  m8:c.r6.length≤8
  kind:∀x∈c.r6,x.u6=1∨x.u6=2
  ends:∀x∈c.r6,(0≤x.kr∧x.kr<c.r8.length)∧(0≤x.To∧x.To<c.r8.length)
  apart:∀x∈c.r6,x.kr≠x.To
  words:∀x∈c.r6,1≤x.py∧x.py≤16
  depth:∀x∈c.r6,(x.u6=1→x.z8=0)∧(x.u6=2→x.z8=1∨x.z8=2∨x.z8=4∨x.z8=8)
  period:∀x∈c.r6,(x.u6=1→0≤x.kn∧x.kn≤1048576)∧(x.u6=2→x.kn=0)
theorem A7l{c:C1}(ha:acc c=true):AccS c:=by
  have d1:=accD ha 1 (by omega) (by omega);have d2:=anyF (show c.r8.any b2=false from accD ha 2 (by omega) (by omega));have d3:=anyF (show c.r8.any b3=false from accD ha 3 (by omega) (by omega));have d4:decide ((c.r6.length:Int)>8)=false:=accD ha 4 (by omega) (by omega);have dk:∀k:Nat,5≤k→k≤11→∀x∈c.r6,chB c.r8.length (k:Int) x=false:=by
    intro k h1 h2;have h:=accD ha k (by omega) (by omega);have:D c (k:Int)=c.r6.any (chB c.r8.length (k:Int)):=by
      unfold D;rw [show ((k:Int)==1)=false by simp;omega,show ((k:Int)==2)=false by simp;omega,show ((k:Int)==3)=false by simp;omega,show ((k:Int)==17)=false by simp;omega,show ((k:Int)==4)=false by simp;omega,show (decide ((k:Int)≥5)&&decide ((k:Int)≤11))=true by simp;omega];rfl
    rw [this] at h;exact anyF h
  have d1':(decide ((c.r8.length:Int)<1)||decide ((c.r8.length:Int)>6))=false:=d1;simp at d1' d4;refine ⟨by omega,by omega,fun p hp=>?_,fun p hp=>?_,by omega,fun x hx=>?_,fun x hx=>?_,fun x hx=>?_,fun x hx=>?_,fun x hx=>?_,fun x hx=>?_⟩
  · have:=d2 p hp;unfold b2 at this;simp at this;by_cases h:p.pz=0
    · exact .inl h
    · exact .inr (this h)
  · have:=d3 p hp;unfold b3 at this;simp at this;omega
  · have h:(x.u6 !=1&&x.u6 !=2)=false:=dk 5 (by omega) (by omega) x hx;simp at h;by_cases h1:x.u6=1
    · exact .inl h1
    · exact .inr (h h1)
  · have h:(!inP c.r8.length x.kr||!inP c.r8.length x.To)=false:=dk 6 (by omega) (by omega) x hx;unfold inP at h;simp at h;exact h
  · have h:(x.kr==x.To)=false:=dk 7 (by omega) (by omega) x hx
    simpa using h
  · have h:(decide (x.py<1)||decide (x.py>16))=false:=dk 8 (by omega) (by omega) x hx;simp at h;omega
  · have h:(((x.u6==1)&&(x.z8 !=0))||(((((x.u6==2)&&(x.z8 !=1))&&(x.z8 !=2))&&(x.z8 !=4))&&(x.z8 !=8)))=false:=dk 9 (by omega) (by omega) x hx;constructor
    · intro hk;simp [hk] at h;exact h
    · intro hk;simp [hk] at h;omega
  · have h:(((x.u6==1)&&(decide (x.kn<0)||decide (x.kn>1048576)))||((x.u6==2)&&(x.kn !=0)))=false:=dk 10 (by omega) (by omega) x hx;constructor
    · intro hk;simp [hk] at h;exact h
    · intro hk;simp [hk] at h;exact h
def A76(x:Q2):Int:=if x.u6=1 then 11+4*x.py else 1+x.z8+x.z8*x.py
def ps(c:C1):Nat→Int
  | 0=>0
  | i+1=>ps c i+(rd c.r8 (i:Int)).ka
def bs(c:C1):Nat→Int
  | 0=>ps c c.r8.length
  | k+1=>bs c k+A76 (rd c.r6 (k:Int))+1
theorem rdm{α:Type}[Inhabited α]{xs:List α}{i:Nat}(h:i<xs.length):rd xs (i:Int)∈xs:=A0y (by omega) (by omega)
theorem B1g{c:C1}(h:AccS c):∀i,i≤c.r8.length→0≤ps c i∧ps c i≤64*i
  | 0,_=>by simp [ps]
  | i+1,hi=>by
    have h1:=B1g h i (by omega);have h2:=h.priv _ (rdm (xs:=c.r8) (i:=i) (by omega));simp only [ps];omega
theorem B34{c:C1}(h:AccS c){x:Q2}(hx:x∈c.r6):4≤A76 x+1∧A76 x≤137:=by
  have h1:=h.words x hx;have h2:=h.depth x hx;unfold A76;rcases h.kind x hx with hk | hk
  · rw [if_pos hk];omega
  · rw [if_neg (by omega)];rcases h2.2 hk with hd | hd | hd | hd<;>rw [hd]<;>omega
theorem bs_bd{c:C1}(h:AccS c):∀k,k≤c.r6.length→0≤bs c k∧bs c k≤384+138*k
  | 0,_=>by
    have h1:=B1g h c.r8.length (Nat.le_refl _);have:=h.n6;simp only [bs];omega
  | k+1,hk=>by
    have h1:=bs_bd h k (by omega);have h2:=B34 h (rdm (xs:=c.r6) (i:=k) (by omega));simp only [bs];omega
theorem B8p{c:C1}(h:AccS c){x:Q2}(hx:x∈c.r6):X5 x=some (A76 x):=by
  have h1:=h.words x hx;have h2:=h.depth x hx;unfold X5 A76;rcases h.kind x hx with hk | hk
  · rw [if_pos hk,show (x.u6==1)=true by simp [hk],cond_true]
    congr 1
    rw [w64 (x:=2+x.py) (by omega) (by omega),w64 (x:=4*(2+x.py)) (by omega) (by omega),w64 (by omega) (by omega)];omega
  · rw [if_neg (by omega),show (x.u6==1)=false by simp [hk],cond_false]
    congr 1
    have hh:0≤x.z8*(1+x.py)∧x.z8*(1+x.py)≤136:=by rcases h2.2 hk with hd | hd | hd | hd<;>rw [hd]<;>omega
    rw [w64 (x:=1+x.py) (by omega) (by omega),w64 (x:=x.z8*(1+x.py)) (by omega) (by omega),w64 (by omega) (by omega),Int.mul_add];omega
def pvS(c:C1)(i:Nat):R5:=⟨ps c i,(rd c.r8 (i:Int)).ka⟩
def scS(c:C1)(k:Nat):R5:=⟨bs c k,A76 (rd c.r6 (k:Int))⟩
def dsS(c:C1)(k:Nat):R5:=⟨bs c k+A76 (rd c.r6 (k:Int)),1⟩
def spn(c:C1)(i:Nat):R5:=if i<c.r8.length then pvS c i else if (i - c.r8.length) % 2=0 then scS c ((i - c.r8.length) / 2) else dsS c ((i - c.r8.length) / 2)
theorem B33{c:C1}{i:Nat}(h:i<c.r8.length):spn c i=pvS c i:=by unfold spn;rw [if_pos h]
theorem B9y(c:C1)(k:Nat):spn c (c.r8.length+2*k)=scS c k:=by
  unfold spn;rw [if_neg (by omega),if_pos (by omega),show (c.r8.length+2*k - c.r8.length) / 2=k by omega]
theorem B9x(c:C1)(k:Nat):spn c (c.r8.length+2*k+1)=dsS c k:=by
  unfold spn;rw [if_neg (by omega),if_neg (by omega),show (c.r8.length+2*k+1 - c.r8.length) / 2=k by omega]
def B8c(c:C1):P7:=⟨(c.r8.length:Int),(List.range (c.r8.length+2*c.r6.length)).map (spn c),bs c c.r6.length⟩
theorem of_eq{c:C1}(hc:wfc c)(ha:acc c=true):K8 c=some (B8c c):=by
  have h:=A7l ha;have hn:=h.n6;have hm:=h.m8;unfold K8;rw [A9i c hc,ha,Option.bind_some];simp only [Bool.not_true,cond_false];have l1:=A95 (B:=K8.b1 c true) (fun i=>((i:Int),(c.r8.length:Int),(List.range i).map (spn c),ps c i)) c.r8.length (.brk ((c.r8.length:Int),(c.r8.length:Int),(List.range c.r8.length).map (spn c),ps c c.r8.length)) (fun i hi=>by
    have hb:=B1g h i (by omega);have hp:=h.priv _ (rdm (xs:=c.r8) (i:=i) hi);unfold K8.b1;simp only [Q6 hi,H4 hi,cond_true,D7,wp1 hi hc.1,List.length_map,List.length_range];rw [show decide ((i+1)*16≤140737488355328)=true by simp;omega,D7,w64 (by omega) (by omega),List.range_succ,List.map_append,List.map_singleton,B33 hi];rfl) (by unfold K8.b1;simp only [X2,cond_false])
  have e0:((((0:Nat):Int),(c.r8.length:Int),(List.range 0).map (spn c),ps c 0):Int×Int×List R5×Int)=(0,(c.r8.length:Int),[],0):=rfl;rw [e0] at l1;rw [l1,Option.bind_some,Ex.on_brk];have l2:=A95 (B:=K8.b2 c true ((c.r8.length:Int),(c.r8.length:Int),(List.range c.r8.length).map (spn c),ps c c.r8.length)) (fun k=>((k:Int),(c.r8.length:Int),(List.range (c.r8.length+2*k)).map (spn c),bs c k)) c.r6.length (.brk ((c.r6.length:Int),(c.r8.length:Int),(List.range (c.r8.length+2*c.r6.length)).map (spn c),bs c c.r6.length)) (fun k hk=>by
    have hb:=bs_bd h k (by omega);have hx:=rdm (xs:=c.r6) (i:=k) hk;have hz:=B34 h hx;unfold K8.b2;simp only [Q6 hk,H4 hk,cond_true,D7,wp1 hk hc.2.1,List.length_map,List.length_range,B8p h hx,Option.bind_some,List.length_append,List.length_singleton];rw [show decide ((c.r8.length+2*k+1)*16≤140737488355328)=true by simp;omega,D7,show decide ((c.r8.length+2*k+1+1)*16≤140737488355328)=true by simp;omega,D7,w64 (x:=bs c k+A76 (rd c.r6 (k:Int))) (by omega) (by omega),w64 (by omega) (by omega)];rw [show c.r8.length+2*(k+1)=c.r8.length+2*k+1+1 by omega,List.range_succ,List.range_succ,List.map_append,List.map_append,List.map_singleton,List.map_singleton,B9y,B9x];rfl) (by unfold K8.b2;simp only [X2,cond_false])
  have e2:((((0:Nat):Int),(c.r8.length:Int),(List.range (c.r8.length+2*0)).map (spn c),bs c 0):Int×Int×List R5×Int)=(0,(c.r8.length:Int),(List.range c.r8.length).map (spn c),ps c c.r8.length):=rfl;rw [e2] at l2;rw [l2];rfl
theorem rd_map{α:Type}[Inhabited α](f:Nat→α){n i:Nat}(h:i<n):rd ((List.range n).map f) (i:Int)=f i:=by
  simp [rd,List.getD_eq_getElem?_getD,h]
def hasS(s:R5)(at_:Int):Bool:=decide (0≤s.kr)&&decide (0≤s.ql)&&decide (s.kr+s.ql≤2147483647)&&decide (s.kr≤at_)&&decide (at_<s.kr+s.ql)
theorem has_eq(s:R5)(at_:Int):A2f s at_=some (hasS s at_):=by
  unfold A2f A1l hasS;rw [Option.bind_some]
  congr 1
  by_cases h:0≤s.kr∧0≤s.ql∧s.kr≤2147483647∧s.ql≤2147483647 - s.kr
  · obtain ⟨h1,h2,h3,h4⟩:=h;rw [w64 (x:=2147483647 - s.kr) (by omega) (by omega),w64 (x:=s.kr+s.ql) (by omega) (by omega),Bool.eq_iff_iff];simp;omega
  · by_cases h1:0≤s.kr
    · by_cases h3:s.kr≤2147483647
      · rw [w64 (x:=2147483647 - s.kr) (by omega) (by omega),Bool.eq_iff_iff];simp;omega
      · rw [Bool.eq_iff_iff];simp;omega
    · rw [Bool.eq_iff_iff];simp;omega
theorem B8l{c:C1}(hc:wfc c)(ha:acc c=true)(p:Int):L3 c p=some (if 0≤p∧p<(c.r8.length:Int) then pvS c p.toNat else ⟨0,0⟩):=by
  have h:=A7l ha;have hn:=h.n6;unfold L3;simp only [A43 c hc,ha,Option.bind_some,Bool.not_true,Bool.false_or];by_cases hp:0≤p∧p<(c.r8.length:Int)
  · rw [if_pos hp];obtain ⟨q,rfl⟩:∃q:Nat,p=(q:Int):=⟨p.toNat,by omega⟩;have hq:q<c.r8.length:=by omega
    rw [show (decide ((q:Int)<0)||decide ((q:Int)≥(c.r8.length:Int)))=false by simp;omega];simp only [cond_false];have l1:=A95 (B:=L3.b1 c (q:Int) true) (fun i=>((i:Int),ps c i)) q (.brk ((q:Int),ps c q)) (fun i hi=>by
      have hb:=B1g h i (by omega);have hp:=h.priv _ (rdm (xs:=c.r8) (i:=i) (by omega));unfold L3.b1;simp only [Q6 hi,H4 (show i<c.r8.length by omega),cond_true,D7,wp1 (show i<c.r8.length by omega) hc.1];rw [w64 (by omega) (by omega)];rfl) (by unfold L3.b1;simp only [X2,cond_false])
    rw [show (((0:Nat):Int),ps c 0)=((0:Int),(0:Int)) from rfl] at l1;rw [l1,Option.bind_some,Ex.on_brk,H4 hq,D7];rfl
  · rw [if_neg hp,show (decide (p<0)||decide (p≥(c.r8.length:Int)))=true by simp;omega];rfl
end Go.Proofs.YtpdflibmhchlbaaGreatDoor
