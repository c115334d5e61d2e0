/- Plain law: what an accepted configuration is like; where its spans lie, in the program and in the document. No statement of the seat is proved here. Conditions: none. -/
import Derived.Test.YtpdflibmhchlbaaGreatDoorPDef
set_option linter.unusedVariables false
set_option linter.unusedSimpArgs false
namespace Go.Proofs.YtpdflibmhchlbaaGreatDoor
open Go Go.RowKit Go.Eng
theorem B0f{S O:Type}{B:S→Option (Stp S O)}(g:Nat→S)(m:Nat)(o:O)(h1:∀j,j<m→B (g j)=some (.next (g (j+1))))(h2:B (g m)=some (.out o)):F5 B (g 0)=some o:=by
  have:∀k i,i+k=m→F5 B (g i)=some o:=by
    intro k
    induction k with
    | zero=>intro i h;rw [K4,show i=m by omega,h2]
    | succ k ih=>intro i h;rw [K4,h1 i (by omega)];exact ih (i+1) (by omega)
  exact this m 0 (by omega)
theorem accD{c:C1}(ha:acc c=true)(k:Nat)(h1:1≤k)(h2:k≤17):D c (k:Int)=false:=by
  unfold acc at ha;rw [Bool.not_eq_true',List.any_eq_false] at ha
  simpa using ha k (List.mem_range'_1.2 ⟨h1,by omega⟩)
theorem anyF{α:Type}{l:List α}{p:α→Bool}(h:l.any p=false):∀x∈l,p x=false:=by
  rw [List.any_eq_false] at h;intro x hx;simpa using h x hx
structure AccS (c:C1):Prop where
  n1:1≤c.r7.length
  n6:c.r7.length≤6
  core:∀p∈c.r7,p.qa=0∨p.qa=1
  priv:∀p∈c.r7,0≤p.ka∧p.ka≤64
  m8:c.r6.length≤8
  kind:∀x∈c.r6,x.u6=1∨x.u6=2
  ends:∀x∈c.r6,(0≤x.kr∧x.kr<c.r7.length)∧(0≤x.To∧x.To<c.r7.length)
  apart:∀x∈c.r6,x.kr≠x.To
  words:∀x∈c.r6,1≤x.pz∧x.pz≤16
  depth:∀x∈c.r6,(x.u6=1→x.z9=0)∧(x.u6=2→x.z9=1∨x.z9=2∨x.z9=4∨x.z9=8)
  period:∀x∈c.r6,(x.u6=1→0≤x.kn∧x.kn≤1048576)∧(x.u6=2→x.kn=0)
theorem A5m{c:C1}(ha:acc c=true):AccS c:=by
  have d1:=accD ha 1 (by omega) (by omega);have d2:=anyF (show c.r7.any b2=false from accD ha 2 (by omega) (by omega));have d3:=anyF (show c.r7.any b3=false from accD ha 3 (by omega) (by omega));have d4:decide ((c.r6.length:Int)>8)=false:=accD ha 4 (by omega) (by omega);have dk:∀k:Nat,5≤k→k≤11→∀x∈c.r6,chB c.r7.length (k:Int) x=false:=by
    intro k h1 h2;have h:=accD ha k (by omega) (by omega);have:D c (k:Int)=c.r6.any (chB c.r7.length (k:Int)):=by
      unfold D;rw [show ((k:Int)==1)=false by simp;omega,show ((k:Int)==2)=false by simp;omega,show ((k:Int)==3)=false by simp;omega,show ((k:Int)==17)=false by simp;omega,show ((k:Int)==4)=false by simp;omega,show (decide ((k:Int)≥5)&&decide ((k:Int)≤11))=true by simp;omega];rfl
    rw [this] at h;exact anyF h
  have d1':(decide ((c.r7.length:Int)<1)||decide ((c.r7.length:Int)>6))=false:=d1;simp at d1' d4;refine ⟨by omega,by omega,fun p hp=>?_,fun p hp=>?_,by omega,fun x hx=>?_,fun x hx=>?_,fun x hx=>?_,fun x hx=>?_,fun x hx=>?_,fun x hx=>?_⟩
  · have:=d2 p hp;unfold b2 at this;simp at this;by_cases h:p.qa=0
    · exact .inl h
    · exact .inr (this h)
  · have:=d3 p hp;unfold b3 at this;simp at this;omega
  · have h:(x.u6 !=1&&x.u6 !=2)=false:=dk 5 (by omega) (by omega) x hx;simp at h;by_cases h1:x.u6=1
    · exact .inl h1
    · exact .inr (h h1)
  · have h:(!inP c.r7.length x.kr||!inP c.r7.length x.To)=false:=dk 6 (by omega) (by omega) x hx;unfold inP at h;simp at h;exact h
  · have h:(x.kr==x.To)=false:=dk 7 (by omega) (by omega) x hx
    simpa using h
  · have h:(decide (x.pz<1)||decide (x.pz>16))=false:=dk 8 (by omega) (by omega) x hx;simp at h;omega
  · have h:(((x.u6==1)&&(x.z9 !=0))||(((((x.u6==2)&&(x.z9 !=1))&&(x.z9 !=2))&&(x.z9 !=4))&&(x.z9 !=8)))=false:=dk 9 (by omega) (by omega) x hx;constructor
    · intro hk;simp [hk] at h;exact h
    · intro hk;simp [hk] at h;omega
  · have h:(((x.u6==1)&&(decide (x.kn<0)||decide (x.kn>1048576)))||((x.u6==2)&&(x.kn !=0)))=false:=dk 10 (by omega) (by omega) x hx;constructor
    · intro hk;simp [hk] at h;exact h
    · intro hk;simp [hk] at h;exact h
def A8e(x:Q4):Int:=if x.u6=1 then 11+4*x.pz else 1+x.z9+x.z9*x.pz
def ps(c:C1):Nat→Int
  | 0=>0
  | i+1=>ps c i+(rd c.r7 (i:Int)).ka
def bs(c:C1):Nat→Int
  | 0=>ps c c.r7.length
  | k+1=>bs c k+A8e (rd c.r6 (k:Int))+1
theorem rdm{α:Type}[Inhabited α]{xs:List α}{i:Nat}(h:i<xs.length):rd xs (i:Int)∈xs:=X9 (by omega) (by omega)
theorem B1s{c:C1}(h:AccS c):∀i,i≤c.r7.length→0≤ps c i∧ps c i≤64*i
  | 0,_=>by simp [ps]
  | i+1,hi=>by
    have h1:=B1s h i (by omega);have h2:=h.priv _ (rdm (xs:=c.r7) (i:=i) (by omega));simp only [ps];omega
theorem B4n{c:C1}(h:AccS c){x:Q4}(hx:x∈c.r6):4≤A8e x+1∧A8e x≤137:=by
  have h1:=h.words x hx;have h2:=h.depth x hx;unfold A8e;rcases h.kind x hx with hk | hk
  · rw [if_pos hk];omega
  · rw [if_neg (by omega)];rcases h2.2 hk with hd | hd | hd | hd<;>rw [hd]<;>omega
theorem bs_bd{c:C1}(h:AccS c):∀k,k≤c.r6.length→0≤bs c k∧bs c k≤384+138*k
  | 0,_=>by
    have h1:=B1s h c.r7.length (Nat.le_refl _);have:=h.n6;simp only [bs];omega
  | k+1,hk=>by
    have h1:=bs_bd h k (by omega);have h2:=B4n h (rdm (xs:=c.r6) (i:=k) (by omega));simp only [bs];omega
theorem B9f{c:C1}(h:AccS c){x:Q4}(hx:x∈c.r6):X7 x=some (A8e x):=by
  have h1:=h.words x hx;have h2:=h.depth x hx;unfold X7 A8e;rcases h.kind x hx with hk | hk
  · rw [if_pos hk,show (x.u6==1)=true by simp [hk],cond_true]
    congr 1
    rw [w64 (x:=2+x.pz) (by omega) (by omega),w64 (x:=4*(2+x.pz)) (by omega) (by omega),w64 (by omega) (by omega)];omega
  · rw [if_neg (by omega),show (x.u6==1)=false by simp [hk],cond_false]
    congr 1
    have hh:0≤x.z9*(1+x.pz)∧x.z9*(1+x.pz)≤136:=by rcases h2.2 hk with hd | hd | hd | hd<;>rw [hd]<;>omega
    rw [w64 (x:=1+x.pz) (by omega) (by omega),w64 (x:=x.z9*(1+x.pz)) (by omega) (by omega),w64 (by omega) (by omega),Int.mul_add];omega
def pvS(c:C1)(i:Nat):R6:=⟨ps c i,(rd c.r7 (i:Int)).ka⟩
def scS(c:C1)(k:Nat):R6:=⟨bs c k,A8e (rd c.r6 (k:Int))⟩
def dsS(c:C1)(k:Nat):R6:=⟨bs c k+A8e (rd c.r6 (k:Int)),1⟩
def spn(c:C1)(i:Nat):R6:=if i<c.r7.length then pvS c i else if (i - c.r7.length) % 2=0 then scS c ((i - c.r7.length) / 2) else dsS c ((i - c.r7.length) / 2)
theorem B4m{c:C1}{i:Nat}(h:i<c.r7.length):spn c i=pvS c i:=by unfold spn;rw [if_pos h]
theorem C0j(c:C1)(k:Nat):spn c (c.r7.length+2*k)=scS c k:=by
  unfold spn;rw [if_neg (by omega),if_pos (by omega),show (c.r7.length+2*k - c.r7.length) / 2=k by omega]
theorem C0i(c:C1)(k:Nat):spn c (c.r7.length+2*k+1)=dsS c k:=by
  unfold spn;rw [if_neg (by omega),if_neg (by omega),show (c.r7.length+2*k+1 - c.r7.length) / 2=k by omega]
def B82(c:C1):Q0:=⟨(c.r7.length:Int),(List.range (c.r7.length+2*c.r6.length)).map (spn c),bs c c.r6.length⟩
theorem of_eq{c:C1}(hc:wfc c)(ha:acc c=true):K8 c=some (B82 c):=by
  have h:=A5m ha;have hn:=h.n6;have hm:=h.m8;unfold K8;rw [A9s c hc,ha,Option.bind_some];simp only [Bool.not_true,cond_false];have l1:=B0f (B:=K8.b1 c true) (fun i=>((i:Int),(c.r7.length:Int),(List.range i).map (spn c),ps c i)) c.r7.length (.brk ((c.r7.length:Int),(c.r7.length:Int),(List.range c.r7.length).map (spn c),ps c c.r7.length)) (fun i hi=>by
    have hb:=B1s h i (by omega);have hp:=h.priv _ (rdm (xs:=c.r7) (i:=i) hi);unfold K8.b1;simp only [P6 hi,G6 hi,cond_true,D5,wp1 hi hc.1,List.length_map,List.length_range];rw [show decide ((i+1)*16≤140737488355328)=true by simp;omega,D5,w64 (by omega) (by omega),List.range_succ,List.map_append,List.map_singleton,B4m hi];rfl) (by unfold K8.b1;simp only [X1,cond_false])
  have e0:((((0:Nat):Int),(c.r7.length:Int),(List.range 0).map (spn c),ps c 0):Int×Int×List R6×Int)=(0,(c.r7.length:Int),[],0):=rfl;rw [e0] at l1;rw [l1,Option.bind_some,Ex.on_brk];have l2:=B0f (B:=K8.b2 c true ((c.r7.length:Int),(c.r7.length:Int),(List.range c.r7.length).map (spn c),ps c c.r7.length)) (fun k=>((k:Int),(c.r7.length:Int),(List.range (c.r7.length+2*k)).map (spn c),bs c k)) c.r6.length (.brk ((c.r6.length:Int),(c.r7.length:Int),(List.range (c.r7.length+2*c.r6.length)).map (spn c),bs c c.r6.length)) (fun k hk=>by
    have hb:=bs_bd h k (by omega);have hx:=rdm (xs:=c.r6) (i:=k) hk;have hz:=B4n h hx;unfold K8.b2;simp only [P6 hk,G6 hk,cond_true,D5,wp1 hk hc.2.1,List.length_map,List.length_range,B9f h hx,Option.bind_some,List.length_append,List.length_singleton];rw [show decide ((c.r7.length+2*k+1)*16≤140737488355328)=true by simp;omega,D5,show decide ((c.r7.length+2*k+1+1)*16≤140737488355328)=true by simp;omega,D5,w64 (x:=bs c k+A8e (rd c.r6 (k:Int))) (by omega) (by omega),w64 (by omega) (by omega)];rw [show c.r7.length+2*(k+1)=c.r7.length+2*k+1+1 by omega,List.range_succ,List.range_succ,List.map_append,List.map_append,List.map_singleton,List.map_singleton,C0j,C0i];rfl) (by unfold K8.b2;simp only [X1,cond_false])
  have e2:((((0:Nat):Int),(c.r7.length:Int),(List.range (c.r7.length+2*0)).map (spn c),bs c 0):Int×Int×List R6×Int)=(0,(c.r7.length:Int),(List.range c.r7.length).map (spn c),ps c c.r7.length):=rfl;rw [e2] at l2;rw [l2];rfl
theorem rd_map{α:Type}[Inhabited α](f:Nat→α){n i:Nat}(h:i<n):rd ((List.range n).map f) (i:Int)=f i:=by
  simp [rd,List.getD_eq_getElem?_getD,h]
def hasS(s:R6)(at_:Int):Bool:=decide (0≤s.kr)&&decide (0≤s.ql)&&decide (s.kr+s.ql≤2147483647)&&decide (s.kr≤at_)&&decide (at_<s.kr+s.ql)
theorem has_eq(s:R6)(at_:Int):A2c s at_=some (hasS s at_):=by
  unfold A2c A1g hasS;rw [Option.bind_some]
  congr 1
  by_cases h:0≤s.kr∧0≤s.ql∧s.kr≤2147483647∧s.ql≤2147483647 - s.kr
  · obtain ⟨h1,h2,h3,h4⟩:=h;rw [w64 (x:=2147483647 - s.kr) (by omega) (by omega),w64 (x:=s.kr+s.ql) (by omega) (by omega),Bool.eq_iff_iff];simp;omega
  · by_cases h1:0≤s.kr
    · by_cases h3:s.kr≤2147483647
      · rw [w64 (x:=2147483647 - s.kr) (by omega) (by omega),Bool.eq_iff_iff];simp;omega
      · rw [Bool.eq_iff_iff];simp;omega
    · rw [Bool.eq_iff_iff];simp;omega
theorem B9a{c:C1}(hc:wfc c)(ha:acc c=true)(p:Int):L3 c p=some (if 0≤p∧p<(c.r7.length:Int) then pvS c p.toNat else ⟨0,0⟩):=by
  have h:=A5m ha;have hn:=h.n6;unfold L3;simp only [A48 c hc,ha,Option.bind_some,Bool.not_true,Bool.false_or];by_cases hp:0≤p∧p<(c.r7.length:Int)
  · rw [if_pos hp];obtain ⟨q,rfl⟩:∃q:Nat,p=(q:Int):=⟨p.toNat,by omega⟩;have hq:q<c.r7.length:=by omega
    rw [show (decide ((q:Int)<0)||decide ((q:Int)≥(c.r7.length:Int)))=false by simp;omega];simp only [cond_false];have l1:=B0f (B:=L3.b1 c (q:Int) true) (fun i=>((i:Int),ps c i)) q (.brk ((q:Int),ps c q)) (fun i hi=>by
      have hb:=B1s h i (by omega);have hp:=h.priv _ (rdm (xs:=c.r7) (i:=i) (by omega));unfold L3.b1;simp only [P6 hi,G6 (show i<c.r7.length by omega),cond_true,D5,wp1 (show i<c.r7.length by omega) hc.1];rw [w64 (by omega) (by omega)];rfl) (by unfold L3.b1;simp only [X1,cond_false])
    rw [show (((0:Nat):Int),ps c 0)=((0:Int),(0:Int)) from rfl] at l1;rw [l1,Option.bind_some,Ex.on_brk,G6 hq,D5];rfl
  · rw [if_neg hp,show (decide (p<0)||decide (p≥(c.r7.length:Int)))=true by simp;omega];rfl
end Go.Proofs.YtpdflibmhchlbaaGreatDoor
