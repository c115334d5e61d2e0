/- Plain law: what an accepted configuration is like; where its spans lie, in the program and in the document. No statement of the seat is proved here. Conditions: none. -/
import Derived.Test.YtdpfnklgdkigdaaGreatDoorPDef
set_option linter.unusedVariables false
set_option linter.unusedSimpArgs false
namespace Go.Proofs.YtdpfnklgdkigdaaGreatDoor
open Go Go.RowKit Go.Eng
theorem loop_run{S O:Type}{B:S→Option (Stp S O)}(g:Nat→S)(m:Nat)(o:O)(h1:∀j,j<m→B (g j)=some (.next (g (j+1))))(h2:B (g m)=some (.out o)):loopω B (g 0)=some o:=by
  have:∀k i,i+k=m→loopω B (g i)=some o:=by
    intro k
    induction k with
    | zero=>intro i h;rw [loopω_eq,show i=m by omega,h2]
    | succ k ih=>intro i h;rw [loopω_eq,h1 i (by omega)];exact ih (i+1) (by omega)
  exact this m 0 (by omega)
theorem accD{c:Config}(ha:acc c=true)(k:Nat)(h1:1≤k)(h2:k≤17):D c (k:Int)=false:=by
  unfold acc at ha;rw [Bool.not_eq_true',List.any_eq_false] at ha
  simpa using ha k (List.mem_range'_1.2 ⟨h1,by omega⟩)
theorem anyF{α:Type}{l:List α}{p:α→Bool}(h:l.any p=false):∀x∈l,p x=false:=by
  rw [List.any_eq_false] at h;intro x hx;simpa using h x hx
structure AccS (c:Config):Prop where
  n1:1≤c.Parts.length
  n6:c.Parts.length≤6
  core:∀p∈c.Parts,p.Core=0∨p.Core=1
  priv:∀p∈c.Parts,0≤p.Private∧p.Private≤64
  m8:c.Chans.length≤8
  kind:∀x∈c.Chans,x.Kind=1∨x.Kind=2
  ends:∀x∈c.Chans,(0≤x.From∧x.From<c.Parts.length)∧(0≤x.To∧x.To<c.Parts.length)
  apart:∀x∈c.Chans,x.From≠x.To
  words:∀x∈c.Chans,1≤x.Words∧x.Words≤16
  depth:∀x∈c.Chans,(x.Kind=1→x.Depth=0)∧(x.Kind=2→x.Depth=1∨x.Depth=2∨x.Depth=4∨x.Depth=8)
  period:∀x∈c.Chans,(x.Kind=1→0≤x.Period∧x.Period≤1048576)∧(x.Kind=2→x.Period=0)
theorem accS{c:Config}(ha:acc c=true):AccS c:=by
  have d1:=accD ha 1 (by omega) (by omega);have d2:=anyF (show c.Parts.any b2=false from accD ha 2 (by omega) (by omega));have d3:=anyF (show c.Parts.any b3=false from accD ha 3 (by omega) (by omega));have d4:decide ((c.Chans.length:Int)>8)=false:=accD ha 4 (by omega) (by omega);have dk:∀k:Nat,5≤k→k≤11→∀x∈c.Chans,chB c.Parts.length (k:Int) x=false:=by
    intro k h1 h2;have h:=accD ha k (by omega) (by omega);have:D c (k:Int)=c.Chans.any (chB c.Parts.length (k:Int)):=by
      unfold D;rw [show ((k:Int)==1)=false by simp;omega,show ((k:Int)==2)=false by simp;omega,show ((k:Int)==3)=false by simp;omega,show ((k:Int)==17)=false by simp;omega,show ((k:Int)==4)=false by simp;omega,show (decide ((k:Int)≥5)&&decide ((k:Int)≤11))=true by simp;omega];rfl
    rw [this] at h;exact anyF h
  have d1':(decide ((c.Parts.length:Int)<1)||decide ((c.Parts.length:Int)>6))=false:=d1;simp at d1' d4;refine ⟨by omega,by omega,fun p hp=>?_,fun p hp=>?_,by omega,fun x hx=>?_,fun x hx=>?_,fun x hx=>?_,fun x hx=>?_,fun x hx=>?_,fun x hx=>?_⟩
  · have:=d2 p hp;unfold b2 at this;simp at this;by_cases h:p.Core=0
    · exact .inl h
    · exact .inr (this h)
  · have:=d3 p hp;unfold b3 at this;simp at this;omega
  · have h:(x.Kind !=1&&x.Kind !=2)=false:=dk 5 (by omega) (by omega) x hx;simp at h;by_cases h1:x.Kind=1
    · exact .inl h1
    · exact .inr (h h1)
  · have h:(!inP c.Parts.length x.From||!inP c.Parts.length x.To)=false:=dk 6 (by omega) (by omega) x hx;unfold inP at h;simp at h;exact h
  · have h:(x.From==x.To)=false:=dk 7 (by omega) (by omega) x hx
    simpa using h
  · have h:(decide (x.Words<1)||decide (x.Words>16))=false:=dk 8 (by omega) (by omega) x hx;simp at h;omega
  · have h:(((x.Kind==1)&&(x.Depth !=0))||(((((x.Kind==2)&&(x.Depth !=1))&&(x.Depth !=2))&&(x.Depth !=4))&&(x.Depth !=8)))=false:=dk 9 (by omega) (by omega) x hx;constructor
    · intro hk;simp [hk] at h;exact h
    · intro hk;simp [hk] at h;omega
  · have h:(((x.Kind==1)&&(decide (x.Period<0)||decide (x.Period>1048576)))||((x.Kind==2)&&(x.Period !=0)))=false:=dk 10 (by omega) (by omega) x hx;constructor
    · intro hk;simp [hk] at h;exact h
    · intro hk;simp [hk] at h;exact h
def srcSz(x:Chan):Int:=if x.Kind=1 then 11+4*x.Words else 1+x.Depth+x.Depth*x.Words
def ps(c:Config):Nat→Int
  | 0=>0
  | i+1=>ps c i+(rd c.Parts (i:Int)).Private
def bs(c:Config):Nat→Int
  | 0=>ps c c.Parts.length
  | k+1=>bs c k+srcSz (rd c.Chans (k:Int))+1
theorem rdm{α:Type}[Inhabited α]{xs:List α}{i:Nat}(h:i<xs.length):rd xs (i:Int)∈xs:=rd_mem (by omega) (by omega)
theorem ps_bd{c:Config}(h:AccS c):∀i,i≤c.Parts.length→0≤ps c i∧ps c i≤64*i
  | 0,_=>by simp [ps]
  | i+1,hi=>by
    have h1:=ps_bd h i (by omega);have h2:=h.priv _ (rdm (xs:=c.Parts) (i:=i) (by omega));simp only [ps];omega
theorem srcSz_bd{c:Config}(h:AccS c){x:Chan}(hx:x∈c.Chans):4≤srcSz x+1∧srcSz x≤137:=by
  have h1:=h.words x hx;have h2:=h.depth x hx;unfold srcSz;rcases h.kind x hx with hk | hk
  · rw [if_pos hk];omega
  · rw [if_neg (by omega)];rcases h2.2 hk with hd | hd | hd | hd<;>rw [hd]<;>omega
theorem bs_bd{c:Config}(h:AccS c):∀k,k≤c.Chans.length→0≤bs c k∧bs c k≤384+138*k
  | 0,_=>by
    have h1:=ps_bd h c.Parts.length (Nat.le_refl _);have:=h.n6;simp only [bs];omega
  | k+1,hk=>by
    have h1:=bs_bd h k (by omega);have h2:=srcSz_bd h (rdm (xs:=c.Chans) (i:=k) (by omega));simp only [bs];omega
theorem sized_eq{c:Config}(h:AccS c){x:Chan}(hx:x∈c.Chans):G_layout_sized x=some (srcSz x):=by
  have h1:=h.words x hx;have h2:=h.depth x hx;unfold G_layout_sized srcSz;rcases h.kind x hx with hk | hk
  · rw [if_pos hk,show (x.Kind==1)=true by simp [hk],cond_true]
    congr 1
    rw [w64 (x:=2+x.Words) (by omega) (by omega),w64 (x:=4*(2+x.Words)) (by omega) (by omega),w64 (by omega) (by omega)];omega
  · rw [if_neg (by omega),show (x.Kind==1)=false by simp [hk],cond_false]
    congr 1
    have hh:0≤x.Depth*(1+x.Words)∧x.Depth*(1+x.Words)≤136:=by rcases h2.2 hk with hd | hd | hd | hd<;>rw [hd]<;>omega
    rw [w64 (x:=1+x.Words) (by omega) (by omega),w64 (x:=x.Depth*(1+x.Words)) (by omega) (by omega),w64 (by omega) (by omega),Int.mul_add];omega
theorem rsource_eq{c:Config}(h:AccS c){x:Chan}(hx:x∈c.Chans):G_ref08_source x=some (srcSz x):=by
  have h1:=h.words x hx;have h2:=h.depth x hx;unfold G_ref08_source srcSz;rcases h.kind x hx with hk | hk
  · rw [if_pos hk,show (x.Kind==1)=true by simp [hk],cond_true]
    congr 1
    rw [w64 (x:=4*x.Words) (by omega) (by omega),w64 (by omega) (by omega)]
  · rw [if_neg (by omega),show (x.Kind==1)=false by simp [hk],cond_false]
    congr 1
    have hh:0≤x.Depth∧x.Depth≤8∧0≤x.Depth*x.Words∧x.Depth*x.Words≤128:=by rcases h2.2 hk with hd | hd | hd | hd<;>rw [hd]<;>omega
    rw [w64 (x:=1+x.Depth) (by omega) (by omega),w64 (x:=x.Depth*x.Words) (by omega) (by omega),w64 (by omega) (by omega)]
def pvS(c:Config)(i:Nat):Span:=⟨ps c i,(rd c.Parts (i:Int)).Private⟩
def scS(c:Config)(k:Nat):Span:=⟨bs c k,srcSz (rd c.Chans (k:Int))⟩
def dsS(c:Config)(k:Nat):Span:=⟨bs c k+srcSz (rd c.Chans (k:Int)),1⟩
def spn(c:Config)(i:Nat):Span:=if i<c.Parts.length then pvS c i else if (i - c.Parts.length) % 2=0 then scS c ((i - c.Parts.length) / 2) else dsS c ((i - c.Parts.length) / 2)
theorem spn_priv{c:Config}{i:Nat}(h:i<c.Parts.length):spn c i=pvS c i:=by unfold spn;rw [if_pos h]
theorem spn_src(c:Config)(k:Nat):spn c (c.Parts.length+2*k)=scS c k:=by
  unfold spn;rw [if_neg (by omega),if_pos (by omega),show (c.Parts.length+2*k - c.Parts.length) / 2=k by omega]
theorem spn_dst(c:Config)(k:Nat):spn c (c.Parts.length+2*k+1)=dsS c k:=by
  unfold spn;rw [if_neg (by omega),if_neg (by omega),show (c.Parts.length+2*k+1 - c.Parts.length) / 2=k by omega]
def planOf(c:Config):Layout_plan:=⟨(c.Parts.length:Int),(List.range (c.Parts.length+2*c.Chans.length)).map (spn c),bs c c.Chans.length⟩
theorem of_eq{c:Config}(hc:wfc c)(ha:acc c=true):G_layout_of c=some (planOf c):=by
  have h:=accS ha;have hn:=h.n6;have hm:=h.m8;unfold G_layout_of;rw [acc_eq c hc,ha,Option.bind_some];simp only [Bool.not_true,cond_false];have l1:=loop_run (B:=G_layout_of.b1 c true) (fun i=>((i:Int),(c.Parts.length:Int),(List.range i).map (spn c),ps c i)) c.Parts.length (.brk ((c.Parts.length:Int),(c.Parts.length:Int),(List.range c.Parts.length).map (spn c),ps c c.Parts.length)) (fun i hi=>by
    have hb:=ps_bd h i (by omega);have hp:=h.priv _ (rdm (xs:=c.Parts) (i:=i) hi);unfold G_layout_of.b1;simp only [lt_t hi,inb_n hi,cond_true,req_t,wp1 hi hc.1,List.length_map,List.length_range];rw [show decide ((i+1)*16≤140737488355328)=true by simp;omega,req_t,w64 (by omega) (by omega),List.range_succ,List.map_append,List.map_singleton,spn_priv hi];rfl) (by unfold G_layout_of.b1;simp only [lt_f,cond_false])
  have e0:((((0:Nat):Int),(c.Parts.length:Int),(List.range 0).map (spn c),ps c 0):Int×Int×List Span×Int)=(0,(c.Parts.length:Int),[],0):=rfl;rw [e0] at l1;rw [l1,Option.bind_some,Ex.on_brk];have l2:=loop_run (B:=G_layout_of.b2 c true ((c.Parts.length:Int),(c.Parts.length:Int),(List.range c.Parts.length).map (spn c),ps c c.Parts.length)) (fun k=>((k:Int),(c.Parts.length:Int),(List.range (c.Parts.length+2*k)).map (spn c),bs c k)) c.Chans.length (.brk ((c.Chans.length:Int),(c.Parts.length:Int),(List.range (c.Parts.length+2*c.Chans.length)).map (spn c),bs c c.Chans.length)) (fun k hk=>by
    have hb:=bs_bd h k (by omega);have hx:=rdm (xs:=c.Chans) (i:=k) hk;have hz:=srcSz_bd h hx;unfold G_layout_of.b2;simp only [lt_t hk,inb_n hk,cond_true,req_t,wp1 hk hc.2.1,List.length_map,List.length_range,sized_eq h hx,Option.bind_some,List.length_append,List.length_singleton];rw [show decide ((c.Parts.length+2*k+1)*16≤140737488355328)=true by simp;omega,req_t,show decide ((c.Parts.length+2*k+1+1)*16≤140737488355328)=true by simp;omega,req_t,w64 (x:=bs c k+srcSz (rd c.Chans (k:Int))) (by omega) (by omega),w64 (by omega) (by omega)];rw [show c.Parts.length+2*(k+1)=c.Parts.length+2*k+1+1 by omega,List.range_succ,List.range_succ,List.map_append,List.map_append,List.map_singleton,List.map_singleton,spn_src,spn_dst];rfl) (by unfold G_layout_of.b2;simp only [lt_f,cond_false])
  have e2:((((0:Nat):Int),(c.Parts.length:Int),(List.range (c.Parts.length+2*0)).map (spn c),bs c 0):Int×Int×List Span×Int)=(0,(c.Parts.length:Int),(List.range c.Parts.length).map (spn c),ps c c.Parts.length):=rfl;rw [e2] at l2;rw [l2];rfl
theorem rd_map{α:Type}[Inhabited α](f:Nat→α){n i:Nat}(h:i<n):rd ((List.range n).map f) (i:Int)=f i:=by
  simp [rd,List.getD_eq_getElem?_getD,h]
theorem chans_eq{c:Config}(hc:wfc c)(h:AccS c)(j:Nat)(hj:j<2):G_layout_plan_chans (planOf c) (j:Int)=some ⟨0,(List.range c.Chans.length).map (fun k=>spn c (c.Parts.length+2*k+j)),0⟩:=by
  have hn:=h.n6;have hm:=h.m8;unfold G_layout_plan_chans;have l1:=loop_run (B:=G_layout_plan_chans.b1 (planOf c) (j:Int)) (fun k=>(((c.Parts.length+2*k+j:Nat):Int),(0:Int),(List.range k).map (fun k=>spn c (c.Parts.length+2*k+j)),(0:Int))) c.Chans.length (.brk (((c.Parts.length+2*c.Chans.length+j:Nat):Int),0,(List.range c.Chans.length).map (fun k=>spn c (c.Parts.length+2*k+j)),0)) (fun k hk=>by
    have hlt:c.Parts.length+2*k+j<(planOf c).l.length:=by simp [planOf];omega
    unfold G_layout_plan_chans.b1;simp only [lt_t hlt,inb_n hlt,cond_true,req_t,List.length_map,List.length_range];rw [show decide ((k+1)*16≤140737488355328)=true by simp;omega,req_t,w64 (by omega) (by omega)];rw [show rd (planOf c).l ((c.Parts.length+2*k+j:Nat):Int)=spn c (c.Parts.length+2*k+j) from rd_map _ (by simp [planOf] at hlt;omega)];rw [List.range_succ,List.map_append,List.map_singleton,show ((c.Parts.length+2*k+j:Nat):Int)+2=((c.Parts.length+2*(k+1)+j:Nat):Int) by omega]) (by
    unfold G_layout_plan_chans.b1;rw [show decide (((c.Parts.length+2*c.Chans.length+j:Nat):Int)<((planOf c).l.length:Int))=false by simp [planOf];omega];rfl)
  have e0:IntKind.i64.wrap ((planOf c).parts+(j:Int))=((c.Parts.length+2*0+j:Nat):Int):=by rw [show (planOf c).parts=(c.Parts.length:Int) from rfl,w64]<;>omega
  rw [e0];rw [show (((c.Parts.length+2*0+j:Nat):Int),(0:Int),([]:List Span),(0:Int))=(((c.Parts.length+2*0+j:Nat):Int),(0:Int),(List.range 0).map (fun k=>spn c (c.Parts.length+2*k+j)),(0:Int)) from rfl];rw [l1];rfl
def hasS(s:Span)(at_:Int):Bool:=decide (0≤s.From)&&decide (0≤s.Size)&&decide (s.From+s.Size≤2147483647)&&decide (s.From≤at_)&&decide (at_<s.From+s.Size)
theorem has_eq(s:Span)(at_:Int):G_span_Has s at_=some (hasS s at_):=by
  unfold G_span_Has G_span_Right hasS;rw [Option.bind_some]
  congr 1
  by_cases h:0≤s.From∧0≤s.Size∧s.From≤2147483647∧s.Size≤2147483647 - s.From
  · obtain ⟨h1,h2,h3,h4⟩:=h;rw [w64 (x:=2147483647 - s.From) (by omega) (by omega),w64 (x:=s.From+s.Size) (by omega) (by omega),Bool.eq_iff_iff];simp;omega
  · by_cases h1:0≤s.From
    · by_cases h3:s.From≤2147483647
      · rw [w64 (x:=2147483647 - s.From) (by omega) (by omega),Bool.eq_iff_iff];simp;omega
      · rw [Bool.eq_iff_iff];simp;omega
    · rw [Bool.eq_iff_iff];simp;omega
theorem rpriv_eq{c:Config}(hc:wfc c)(ha:acc c=true)(p:Int):G_ref08_Private c p=some (if 0≤p∧p<(c.Parts.length:Int) then pvS c p.toNat else ⟨0,0⟩):=by
  have h:=accS ha;have hn:=h.n6;unfold G_ref08_Private;simp only [racc_eq c hc,ha,Option.bind_some,Bool.not_true,Bool.false_or];by_cases hp:0≤p∧p<(c.Parts.length:Int)
  · rw [if_pos hp];obtain ⟨q,rfl⟩:∃q:Nat,p=(q:Int):=⟨p.toNat,by omega⟩;have hq:q<c.Parts.length:=by omega
    rw [show (decide ((q:Int)<0)||decide ((q:Int)≥(c.Parts.length:Int)))=false by simp;omega];simp only [cond_false];have l1:=loop_run (B:=G_ref08_Private.b1 c (q:Int) true) (fun i=>((i:Int),ps c i)) q (.brk ((q:Int),ps c q)) (fun i hi=>by
      have hb:=ps_bd h i (by omega);have hp:=h.priv _ (rdm (xs:=c.Parts) (i:=i) (by omega));unfold G_ref08_Private.b1;simp only [lt_t hi,inb_n (show i<c.Parts.length by omega),cond_true,req_t,wp1 (show i<c.Parts.length by omega) hc.1];rw [w64 (by omega) (by omega)];rfl) (by unfold G_ref08_Private.b1;simp only [lt_f,cond_false])
    rw [show (((0:Nat):Int),ps c 0)=((0:Int),(0:Int)) from rfl] at l1;rw [l1,Option.bind_some,Ex.on_brk,inb_n hq,req_t];rfl
  · rw [if_neg hp,show (decide (p<0)||decide (p≥(c.Parts.length:Int)))=true by simp;omega];rfl
theorem before_eq{c:Config}(hc:wfc c)(h:AccS c)(k:Nat)(hk:k≤c.Chans.length):G_ref08_before c (k:Int)=some (bs c k):=by
  have hn:=h.n6;have hm:=h.m8;unfold G_ref08_before;have l1:=loop_run (B:=G_ref08_before.b1 c (k:Int)) (fun i=>((i:Int),ps c i)) c.Parts.length (.brk ((c.Parts.length:Int),ps c c.Parts.length)) (fun i hi=>by
    have hb:=ps_bd h i (by omega);have hp:=h.priv _ (rdm (xs:=c.Parts) (i:=i) (by omega));unfold G_ref08_before.b1;simp only [lt_t hi,inb_n hi,cond_true,req_t,wp1 hi hc.1];rw [w64 (by omega) (by omega)];rfl) (by unfold G_ref08_before.b1;simp only [lt_f,cond_false])
  rw [show (((0:Nat):Int),ps c 0)=((0:Int),(0:Int)) from rfl] at l1;rw [l1,Option.bind_some,Ex.on_brk];have l2:=loop_run (B:=G_ref08_before.b2 c (k:Int) ((c.Parts.length:Int),ps c c.Parts.length)) (fun i=>((i:Int),bs c i)) k (.brk ((k:Int),bs c k)) (fun i hi=>by
    have hb:=bs_bd h i (by omega);have hx:=rdm (xs:=c.Chans) (i:=i) (by omega);have hz:=srcSz_bd h hx;unfold G_ref08_before.b2;simp only [lt_t hi,inb_n (show i<c.Chans.length by omega),cond_true,req_t,wp1 (show i<c.Chans.length by omega) hc.2.1,rsource_eq h hx,Option.bind_some];rw [w64 (x:=bs c i+srcSz (rd c.Chans (i:Int))) (by omega) (by omega),w64 (by omega) (by omega)];rfl) (by unfold G_ref08_before.b2;simp only [lt_f,cond_false])
  rw [show (((0:Nat):Int),bs c 0)=((0:Int),ps c c.Parts.length) from rfl] at l2;rw [l2];rfl
end Go.Proofs.YtdpfnklgdkigdaaGreatDoor
