/- Plain law: a call that isn't refused begins as the document says. No statement of the seat is proved here. Conditions: none. -/
import Derived.Test.YtdpfnklgdkigdaaGreatDoorPRefC
set_option linter.unusedVariables false
set_option linter.unusedSimpArgs false
namespace Go.Proofs.YtdpfnklgdkigdaaGreatDoor
open Go Go.RowKit Go.Eng
theorem chan_at{c:Config}(hc:wfc c)(ha:acc c=true)(j:Nat)(hj:j<2)(k:Nat)(hk:k<c.Chans.length):
    ((G_layout_of c).bind fun t_5=>((G_layout_plan_chans t_5 (j:Int)).bind fun t_10=>((G_layout_plan_at t_10 0 (k:Int) (t_10.l.length:Int)).bind fun t_17=>some t_17)))=some (spn c (c.Parts.length+2*k+j)):=by
  have H:=accS ha;have hm:=H.m8;rw [of_eq hc ha];simp only [Option.bind_some];rw [chans_eq hc H j hj];simp only [Option.bind_some];unfold G_layout_plan_at;simp only [List.length_map,List.length_range];rw [show (decide ((k:Int)<0)||decide ((k:Int)≥(c.Chans.length:Int)))=false by simp;omega,w64 (by omega) (by omega),Int.zero_add,inb_of (by omega) (by omega)];simp only [cond_false,req_t,Option.bind_some];rw [rd_map (fun k=>spn c (c.Parts.length+2*k+j)) hk]
theorem lsrc_eq{c:Config}(hc:wfc c)(ha:acc c=true)(k:Nat)(hk:k<c.Chans.length):G_layout_Source c (k:Int)=some (scS c k):=by
  have:=chan_at hc ha 0 (by omega) k hk;rw [Nat.add_zero,spn_src] at this;exact this
theorem ldst_eq{c:Config}(hc:wfc c)(ha:acc c=true)(k:Nat)(hk:k<c.Chans.length):G_layout_Dest c (k:Int)=some (dsS c k):=by
  have:=chan_at hc ha 1 (by omega) k hk;rw [spn_dst] at this;exact this
theorem four_of_some{c:Config}(hc:wfc c)(ha:acc c=true)(k:Nat)(hk:k<c.Chans.length):∃q,G_four_of c (k:Int)=some q:=by
  unfold G_four_of;rw [lsrc_eq hc ha k hk,ldst_eq hc ha k hk];simp only [Option.bind_some];rw [inb_of (by omega) (by omega)];exact ⟨_,rfl⟩
theorem u32w{x:Int}(h1:0≤x)(h2:x<4294967296):IntKind.u32.wrap x=x:=by
  simp [IntKind.wrap,IntKind.signed,IntKind.bits];omega
theorem cell_some{c:Config}(hc:wfc c)(ha:acc c=true)(k:Nat)(hk:k<c.Chans.length)(i:Int):∃q,G_layout_Cell c (k:Int) i=some q:=by
  unfold G_layout_Cell;rw [inb_of (n:=c.Chans.length) (i:=(k:Int)) (by omega) (by omega),imp_tt];simp only [req_t];cases ((((decide ((k:Int)<0))||decide ((k:Int)≥(c.Chans.length:Int)))||decide (i<0))||decide (i≥((rd c.Chans (k:Int)).Depth)))
  · simp only [cond_false];unfold G_layout_within;rw [lsrc_eq hc ha k hk];simp only [Option.bind_some];rw [inb_of (n:=c.Chans.length) (i:=(k:Int)) (by omega) (by omega),imp_tt];simp only [req_t];cases (((scS c k).Size==0)||(((rd c.Chans (k:Int)).Kind) !=2))<;>exact ⟨_,rfl⟩
  · exact ⟨_,rfl⟩
theorem ring_of_some{c:Config}(hc:wfc c)(ha:acc c=true)(k:Nat)(hk:k<c.Chans.length)(h2:(rd c.Chans (k:Int)).Kind=2)(o:Int):∃q,G_ring_of c (k:Int) o=some q:=by
  have H:=accS ha;have hd:=(H.depth _ (rdm hk)).2 h2;unfold G_ring_of;rw [inb_of (n:=c.Chans.length) (i:=(k:Int)) (by omega) (by omega),u32w (x:=(rd c.Chans (k:Int)).Depth) (by omega) (by omega),show decide (¬(rd c.Chans (k:Int)).Depth=0)=true by simp;omega];simp only [req_t];rw [lsrc_eq hc ha k hk,ldst_eq hc ha k hk];simp only [Option.bind_some];obtain ⟨q,hq⟩:=cell_some hc ha k hk (IntKind.i64.wrap (Int.tmod o (rd c.Chans (k:Int)).Depth));rw [hq];exact ⟨_,rfl⟩
theorem clone_eq(l:List Int)(h:l.length≤100):G_slices_Clone_uint32_uint32 l=some l:=by
  unfold G_slices_Clone_uint32_uint32;rw [show decide ((([]:List Int).length+l.length)*4≤140737488355328)=true by simp;omega];rfl
theorem r1_eq(c:Config)(k o:Int)(d:List Int)(q:Ring_queue)(l:List Int)(z:Ring_queue×List Int)(s:Ring_Op)(y:Int×Int)(h:s.left≤300):G_ring_Send.r1 c k o d q l z s y=some (.next ⟨s.own,s.left+1⟩):=by
  unfold G_ring_Send.r1;rw [show decide ((s.left+1)*8≤140737488355328)=true by simp;omega];rfl
theorem send_eq{c:Config}(hc:wfc c)(ha:acc c=true)(k:Nat)(hk:k<c.Chans.length)(h2:(rd c.Chans (k:Int)).Kind=2)(o:Int)(d:List Int)(hd:d.length≤100):G_ring_Send c (k:Int) o d=some o:=by
  unfold G_ring_Send;obtain ⟨q,hq⟩:=ring_of_some hc ha k hk h2 o;rw [hq];simp only [Option.bind_some];rw [show decide ((0+1)*8≤140737488355328)=true from rfl];simp only [req_t];rw [clone_eq d hd];simp only [Option.bind_some];unfold G_ring_queue_message;simp only [Option.bind_some];unfold G_ring_queue_message_1;rw [r1_eq _ _ _ _ _ _ _ _ _ (by simp)];simp only [Option.bind_some];show ((((loopω (G_ring_queue_message_1.b1 (G_ring_Send.r1 c (k:Int) o d q d (q,d)) ⟨o,0+1⟩ q d ⟨o,0+1+1⟩) (0,⟨o,0+1+1⟩)).bind fun o=>o.on (fun s1=>some (.next s1.2)) (fun r=>some r))).bind _)=_;obtain ⟨e1,e2⟩:=loop_all0 (B:=G_ring_queue_message_1.b1 (G_ring_Send.r1 c (k:Int) o d q d (q,d)) ⟨o,0+1⟩ q d ⟨o,0+1+1⟩) d.length (fun i s=>s.own=o∧s.left=2+i) (fun i s=>⟨s.own,s.left+1⟩) ⟨o,0+1+1⟩ ⟨rfl,rfl⟩ (fun i s hi hI=>by
    obtain ⟨g1,g2⟩:=hI;unfold G_ring_queue_message_1.b1;rw [show decide (((i:Int),s).1<(d.length:Int))=true from lt_t hi,show inb ((i:Int),s).1 d.length=true from inb_n hi];simp only [cond_true,req_t];rw [r1_eq _ _ _ _ _ _ _ _ _ (by omega),wp1 hi (by simp only [maxLen];omega)];exact ⟨rfl,g1,by show s.left+1=_;omega⟩) (fun s hI=>by unfold G_ring_queue_message_1.b1;rw [show decide (((d.length:Int),s).1<(d.length:Int))=false from lt_f _];rfl)
  rw [e1];generalize (List.range d.length).foldl (fun s i=>(⟨s.own,s.left+1⟩:Ring_Op)) ⟨o,0+1+1⟩=z at*
  simp only [Option.bind_some,Ex.on_brk];show req (decide ((z.left+2)*8≤140737488355328)) (some z.own)=some o;rw [show decide ((z.left+2)*8≤140737488355328)=true by simp;omega,e2.1];rfl
theorem prtN{c:Config}{p:Int}(h:prt c p=true):∃k:Nat,p / 2=(k:Int)∧k<c.Chans.length:=by
  obtain ⟨h1,h2,_⟩:=prt_in h;exact ⟨(p / 2).toNat,by omega,by omega⟩
def okAns:Answer:=⟨0,[],false,0⟩
theorem talk0{c:Config}{s:Standing}{r:Request}{e:Int}(h:talkE c s r e=0):prt c r.Port=true∧e=0:=by
  unfold talkE at h;cases hp:prt c r.Port
  · rw [hp] at h;cases h
  · refine ⟨rfl,?_⟩;rw [hp] at h;revert h;cases (ppt c r.Port==s.Part)<;>cases amg s.Made r.Port<;>cases s.Normal<;>intro h<;>first | exact h | cases h
theorem both_mk(B:Option (Option Task_Task×Answer×Bool))(R:Option (Option Portholeref13_Task×Answer))(y:Task_Task)(hB:B=some (some y,okAns,false))(hR:∃z,R=some (some z,okAns))(h1:G_task_Task_Steps y=some 1)(h2:G_task_Task_Own y=some 9):
    ∃ (t:Option Task_Task) (an:Answer) (dn:Bool) (x:Option Portholeref13_Task),B=some (t,an,dn)∧R=some (x,an)∧an.Data=[]∧
      ((t=none∧x=none∧dn=true)∨(∃y z,t=some y∧x=some z∧dn=false∧G_task_Task_Steps y=some 1∧G_task_Task_Own y=some 9)):=by
  obtain ⟨z,hz⟩:=hR;exact ⟨some y,okAns,false,some z,hB,hz,rfl,.inr ⟨y,z,rfl,rfl,rfl,h1,h2⟩⟩
theorem begin_both{c:Config}(hc:wfc c)(ha:acc c=true){s:Standing}(hm:s.Made.length≤300)(hv:s.Valid.length≤300){k p a:Int}{d:List Int}(p1: -9223372036854775808≤p)(p2:p≤9223372036854775807)(g1:0≤a)(g2:a<18446744073709551616)(hd:d.length≤100):
    ∃ (t:Option Task_Task) (an:Answer) (dn:Bool) (x:Option Portholeref13_Task),G_task_Begin c s 9 ⟨k,p,a,d⟩=some (t,an,dn)∧G_ref13_Begin c s 9 ⟨k,p,a,d⟩=some (x,an)∧an.Data=[]∧
      ((t=none∧x=none∧dn=true)∨(∃y z,t=some y∧x=some z∧dn=false∧G_task_Task_Steps y=some 1∧G_task_Task_Own y=some 9)):=by
  obtain ⟨e,e1,e2,e3⟩:=refused_both hc ha hm (k:=k) (p:=p) (a:=a) (d:=d) p1 p2 g1 g2;unfold G_task_Begin G_ref13_Begin;rw [e1,e2,rport_eq hc ha p1 p2];simp only [Option.bind_some];by_cases he:e=0
  · subst he;obtain ⟨hp,hk,hr⟩:=e3 rfl;have H:=accS ha;simp only [bne_self_eq_false,cond_false];have hh:k=1∨k=2∨k=3∨k=4∨k=5∨k=6∨k=7∨k=8∨k=9:=by omega
    have hcl:decide ((([]:List Int).length+d.length)*4≤140737488355328)=true:=by simp;omega
    rcases hh with rfl | rfl | rfl | rfl | rfl | rfl | rfl | rfl | rfl
    · refine ⟨none,okAns,true,none,?_,rfl,rfl,.inl ⟨rfl,rfl,rfl⟩⟩;show ((G_sign_Port c p).bind fun t_24=>some Fn65.nil).bind _=_;rw [sport_eq hc ha p1 p2];rfl
    · refine ⟨none,okAns,true,none,?_,rfl,rfl,.inl ⟨rfl,rfl,rfl⟩⟩;show ((G_sign_Port c p).bind fun t_24=>some Fn65.nil).bind _=_;rw [sport_eq hc ha p1 p2];rfl
    · obtain ⟨hpt,_⟩:=talk0 (show talkE c s ⟨3,p,a,d⟩ _=0 from hr.symm);obtain ⟨n,hn,hnl⟩:=prtN hpt;obtain ⟨q,hq⟩:=four_of_some hc ha n hnl;refine both_mk _ _ ⟨⟨.t118 ⟨()⟩,1,false⟩,9⟩ ?_ ?_ rfl rfl
      · show ((G_sign_Port c p).bind fun t_24=>((G_four_NewWriter c t_24.1 d).bind fun t_35=>some (Fn65.t118 (⟨t_35⟩:Task_writing)))).bind _=_;rw [sport_eq hc ha p1 p2,show prt c p=true from hpt];simp only [Option.bind_some,cond_true];unfold G_four_NewWriter;rw [hn,hq,clone_eq d hd];rfl
      · show ∃z,req (decide ((([]:List Int).length+d.length)*4≤140737488355328)) _=some (some z,okAns);rw [hcl];exact ⟨_,rfl⟩
    · obtain ⟨hpt,_⟩:=talk0 (show talkE c s ⟨4,p,a,d⟩ _=0 from hr.symm);obtain ⟨n,hn,hnl⟩:=prtN hpt;obtain ⟨q,hq⟩:=four_of_some hc ha n hnl;refine both_mk _ _ ⟨⟨.t122 ⟨()⟩,1,false⟩,9⟩ ?_ ⟨_,rfl⟩ rfl rfl;show ((G_sign_Port c p).bind fun t_24=>((G_four_NewReader c t_24.1).bind fun t_47=>some (Fn65.t122 (⟨t_47⟩:Task_reading)))).bind _=_;rw [sport_eq hc ha p1 p2,show prt c p=true from hpt];simp only [Option.bind_some,cond_true];unfold G_four_NewReader;rw [hn,hq];rfl
    · obtain ⟨hpt,h5⟩:=talk0 (show talkE c s ⟨5,p,a,d⟩ _=0 from hr.symm);obtain ⟨n,hn,hnl⟩:=prtN hpt;have hkd:(rd c.Chans (n:Int)).Kind=2:=by
        have:(pch c p).Kind=2:=by
          by_cases hz:((pch c p).Kind==2)=true
          · exact eq_of_beq hz
          · rw [show ((pch c (⟨5,p,a,d⟩:Request).Port).Kind==2)=false by simpa using hz] at h5;cases h5
        rw [← hn];exact this
      refine both_mk _ _ ⟨⟨.t126 ⟨9⟩,1,false⟩,9⟩ ?_ ?_ rfl rfl
      · show ((G_sign_Port c p).bind fun t_24=>((G_ring_Send c t_24.1 9 d).bind fun t_59=>some (Fn65.t126 (⟨t_59⟩:Task_queued)))).bind _=_;rw [sport_eq hc ha p1 p2,show prt c p=true from hpt];simp only [Option.bind_some,cond_true];rw [hn,send_eq hc ha n hnl hkd 9 d hd];rfl
      · rw [show prt c p=true from hpt];simp only [cond_true];show ∃z,req (inb (p / 2) c.Chans.length) (bif ((rd c.Chans (p / 2)).Kind==1) then _ else req (decide ((([]:List Int).length+d.length)*4≤140737488355328)) _)=some (some z,okAns);rw [hn,inb_of (n:=c.Chans.length) (i:=(n:Int)) (by omega) (by omega),hkd,hcl];exact ⟨_,rfl⟩
    · obtain ⟨hpt,h5⟩:=talk0 (show talkE c s ⟨6,p,a,d⟩ _=0 from hr.symm);obtain ⟨n,hn,hnl⟩:=prtN hpt;have hkd:(rd c.Chans (n:Int)).Kind=2:=by
        have:(pch c p).Kind=2:=by
          by_cases hz:((pch c p).Kind==2)=true
          · exact eq_of_beq hz
          · rw [show ((pch c (⟨6,p,a,d⟩:Request).Port).Kind==2)=false by simpa using hz] at h5;cases h5
        rw [← hn];exact this
      obtain ⟨q,hq⟩:=ring_of_some hc ha n hnl hkd 9;refine both_mk _ _ ⟨⟨.t126 ⟨9⟩,1,false⟩,9⟩ ?_ ?_ rfl rfl
      · show ((G_sign_Port c p).bind fun t_24=>((G_ring_Receive c t_24.1 9).bind fun t_71=>some (Fn65.t126 (⟨t_71⟩:Task_queued)))).bind _=_;rw [sport_eq hc ha p1 p2,show prt c p=true from hpt];simp only [Option.bind_some,cond_true];unfold G_ring_Receive;rw [hn,hq];rfl
      · rw [show prt c p=true from hpt];simp only [cond_true];show ∃z,req (inb (p / 2) c.Chans.length) (bif ((rd c.Chans (p / 2)).Kind==1) then _ else _)=some (some z,okAns);rw [hn,inb_of (n:=c.Chans.length) (i:=(n:Int)) (by omega) (by omega),hkd];exact ⟨_,rfl⟩
    · obtain ⟨hpt,h5⟩:=talk0 (show talkE c s ⟨7,p,a,d⟩ _=0 from hr.symm);obtain ⟨n,hn,hnl⟩:=prtN hpt;rcases H.kind _ (rdm hnl) with hkd | hkd
      · refine ⟨none,⟨0,[],amg s.Valid p,0⟩,true,none,?_,?_,rfl,.inl ⟨rfl,rfl,rfl⟩⟩
        · show ((G_sign_Port c p).bind fun t_24=>(req (inb t_24.1 c.Chans.length) (bif (((rd c.Chans t_24.1).Kind)==2) then ((G_ring_Count c t_24.1 9 t_24.2.2.1).bind fun t_90=>some (Fn65.t126 (⟨t_90⟩:Task_queued))) else some Fn65.nil))).bind _=_;rw [sport_eq hc ha p1 p2,show prt c p=true from hpt];simp only [Option.bind_some,cond_true];rw [hn,inb_of (n:=c.Chans.length) (i:=(n:Int)) (by omega) (by omega),hkd];show ((cal ((7:Int)==7) (G_slices_Contains_int_int s.Valid p) default).bind fun t_26=>some ((none:Option Task_Task),(⟨0,[],(((7:Int)==7)&&t_26),0⟩:Answer),true))=_;rw [cont_eq _ hv];rfl
        · rw [show prt c p=true from hpt];simp only [cond_true];show req (inb (p / 2) c.Chans.length) (bif ((rd c.Chans (p / 2)).Kind==1) then ((G_ref13_has s.Valid p).bind fun t_223=>some ((none:Option Portholeref13_Task),(⟨0,[],t_223,0⟩:Answer))) else _)=_;rw [hn,inb_of (n:=c.Chans.length) (i:=(n:Int)) (by omega) (by omega),hkd,rhas_eq _ hv];rfl
      · obtain ⟨q,hq⟩:=ring_of_some hc ha n hnl hkd 9;refine both_mk _ _ ⟨⟨.t126 ⟨9⟩,1,false⟩,9⟩ ?_ ?_ rfl rfl
        · show ((G_sign_Port c p).bind fun t_24=>(req (inb t_24.1 c.Chans.length) (bif (((rd c.Chans t_24.1).Kind)==2) then ((G_ring_Count c t_24.1 9 t_24.2.2.1).bind fun t_90=>some (Fn65.t126 (⟨t_90⟩:Task_queued))) else some Fn65.nil))).bind _=_;rw [sport_eq hc ha p1 p2,show prt c p=true from hpt];simp only [Option.bind_some,cond_true];rw [hn,inb_of (n:=c.Chans.length) (i:=(n:Int)) (by omega) (by omega),hkd];unfold G_ring_Count;rw [hq];rfl
        · rw [show prt c p=true from hpt];simp only [cond_true];show ∃z,req (inb (p / 2) c.Chans.length) (bif ((rd c.Chans (p / 2)).Kind==1) then _ else _)=some (some z,okAns);rw [hn,inb_of (n:=c.Chans.length) (i:=(n:Int)) (by omega) (by omega),hkd];exact ⟨_,rfl⟩
    · exact both_mk _ _ ⟨⟨.t113 ⟨a,[]⟩,1,false⟩,9⟩ rfl ⟨_,rfl⟩ rfl rfl
    · refine both_mk _ _ ⟨⟨.t113 ⟨a,d⟩,1,false⟩,9⟩ ?_ ⟨_,rfl⟩ rfl rfl;show ((G_slices_Clone_uint32_uint32 d).bind fun t_15=>some (Fn65.t113 (⟨a,t_15⟩:Task_cell))).bind _=_;rw [clone_eq d hd];rfl
  · have hb:(e !=0)=true:=by simpa using he
    refine ⟨none,⟨e,[],false,0⟩,true,none,?_,?_,rfl,.inl ⟨rfl,rfl,rfl⟩⟩
    · rw [hb];rfl
    · rw [hb];rfl
end Go.Proofs.YtdpfnklgdkigdaaGreatDoor
