/- Plain law: the program's refusals and the document's are one, at configurations that are accepted. No statement of the seat is proved here. Conditions: none. -/
import Derived.Test.YtdpfnklgdkigdaaGreatDoorPLay
set_option linter.unusedVariables false
set_option linter.unusedSimpArgs false
namespace Go.Proofs.YtdpfnklgdkigdaaGreatDoor
open Go Go.RowKit Go.Eng
theorem cont_eq(l:List Int)(hl:l.length≤300)(x:Int):G_slices_Contains_int_int l x=some (l.any fun y=>x==y):=by
  unfold G_slices_Contains_int_int G_slices_Index_int_int;have h:=loop_find (B:=G_slices_Index_int_int.b1 l x) l.length 0 (fun i=>x==rd l (i:Int)) (fun i=>(i:Int)) (fun i hi=>by
    unfold G_slices_Index_int_int.b1;simp only [lt_t hi,inb_n hi,cond_true,req_t,wp1 hi (by simp only [maxLen];omega),Option.bind_some,bif_some]) (by unfold G_slices_Index_int_int.b1;rw [lt_f];rfl) l.length 0 (by omega)
  rw [show ((0:Nat):Int)=0 from rfl] at h;rw [h,← any_rd,List.range_eq_range'];cases h2:(List.range' 0 l.length).find? (fun i:Nat=>x==rd l (i:Int)) with
  | none=>simp only [Option.bind_some,Ex.on_brk,Option.some.injEq];rw [show (List.range' 0 l.length).any (fun i:Nat=>x==rd l (i:Int))=false by simpa using h2];rfl
  | some j=>simp only [Option.bind_some,Ex.on_ret,Option.some.injEq];rw [show (List.range' 0 l.length).any (fun i:Nat=>x==rd l (i:Int))=true by rw [List.any_eq_true];exact ⟨j,List.mem_of_find?_eq_some h2,List.find?_some (p:=fun i:Nat=>x==rd l (i:Int)) h2⟩];simp
theorem contb_eq(l:List Int)(hl:l.length≤300)(x:Int):G_slices_Contains_byte_byte l x=some (l.any fun y=>x==y):=by
  unfold G_slices_Contains_byte_byte G_slices_Index_byte_byte;have h:=loop_find (B:=G_slices_Index_byte_byte.b1 l x) l.length 0 (fun i=>x==rd l (i:Int)) (fun i=>(i:Int)) (fun i hi=>by
    unfold G_slices_Index_byte_byte.b1;simp only [lt_t hi,inb_n hi,cond_true,req_t,wp1 hi (by simp only [maxLen];omega),Option.bind_some,bif_some]) (by unfold G_slices_Index_byte_byte.b1;rw [lt_f];rfl) l.length 0 (by omega)
  rw [show ((0:Nat):Int)=0 from rfl] at h;rw [h,← any_rd,List.range_eq_range'];cases h2:(List.range' 0 l.length).find? (fun i:Nat=>x==rd l (i:Int)) with
  | none=>simp only [Option.bind_some,Ex.on_brk,Option.some.injEq];rw [show (List.range' 0 l.length).any (fun i:Nat=>x==rd l (i:Int))=false by simpa using h2];rfl
  | some j=>simp only [Option.bind_some,Ex.on_ret,Option.some.injEq];rw [show (List.range' 0 l.length).any (fun i:Nat=>x==rd l (i:Int))=true by rw [List.any_eq_true];exact ⟨j,List.mem_of_find?_eq_some h2,List.find?_some (p:=fun i:Nat=>x==rd l (i:Int)) h2⟩];simp
def amg(l:List Int)(x:Int):Bool:=l.any fun y=>x==y
theorem amg_c(l:List Int)(x:Int):(l.any fun y=>y==x)=amg l x:=any_congr fun y _=>by rw [Bool.eq_iff_iff,beq_iff_eq,beq_iff_eq];exact eq_comm
theorem rmade_eq(s:Standing)(hl:s.Made.length≤300)(x:Int):G_ref10_made s x=some (amg s.Made x):=by
  unfold G_ref10_made;rw [loop_anyL (fun y=>y==x) s.Made false true (fun i hi=>?_) (by unfold G_ref10_made.b1;rw [lt_f];rfl)]
  · rw [amg_c];cases amg s.Made x<;>rfl
  · unfold G_ref10_made.b1;simp only [lt_t hi,inb_n hi,cond_true,req_t,wp1 hi (by simp only [maxLen];omega),bif_some]
theorem rhas_eq(l:List Int)(hl:l.length≤300)(x:Int):G_ref13_has l x=some (amg l x):=by
  unfold G_ref13_has;rw [loop_anyL (fun y=>y==x) l false true (fun i hi=>?_) (by unfold G_ref13_has.b1;rw [lt_f];rfl)]
  · rw [amg_c];cases amg l x<;>rfl
  · unfold G_ref13_has.b1;simp only [lt_t hi,inb_n hi,cond_true,req_t,wp1 hi (by simp only [maxLen];omega),bif_some]
def prt(c:Config)(p:Int):Bool:=decide (0≤p)&&decide (p<2*(c.Chans.length:Int))
def pch(c:Config)(p:Int):Chan:=rd c.Chans (p / 2)
def psd(p:Int):Bool:=p % 2==0
def ppt(c:Config)(p:Int):Int:=bif psd p then (pch c p).From else (pch c p).To
theorem prt_in{c:Config}{p:Int}(h:prt c p=true):0≤p / 2∧p / 2<(c.Chans.length:Int)∧0≤p:=by
  unfold prt at h;simp at h;omega
theorem sport_eq{c:Config}(hc:wfc c)(ha:acc c=true){p:Int}(h1: -9223372036854775808≤p)(h2:p≤9223372036854775807):
    G_sign_Port c p=some (bif prt c p then (p / 2,ppt c p,psd p,true) else (0,0,false,false)):=by
  have H:=accS ha;have hm:=H.m8;unfold G_sign_Port;by_cases hp:0≤p
  · have e1:Int.tdiv p 2=p / 2:=Int.tdiv_eq_ediv_of_nonneg hp;have e2:Int.tmod p 2=p % 2:=Int.tmod_eq_emod_of_nonneg hp;rw [e1,e2,w64 (by omega) (by omega),show decide (p<0)=false by simp;omega,acc_eq c hc,ha];by_cases hk:p / 2<(c.Chans.length:Int)
    · rw [show prt c p=true by unfold prt;simp;omega,show decide (p / 2≥(c.Chans.length:Int))=false by simp;omega,inb_of (by omega) hk];simp only [Bool.or_false,Bool.not_false,cal_t,Option.bind_some,Bool.not_true,cond_false,req_t,cond_true];unfold ppt psd pch;by_cases hz:(p % 2==0)=true
      · rw [hz];rfl
      · rw [show (p % 2==0)=false by simpa using hz];rfl
    · rw [show prt c p=false by unfold prt;simp;omega,show decide (p / 2≥(c.Chans.length:Int))=true by simp;omega];rfl
  · rw [show prt c p=false by unfold prt;simp;omega,show decide (p<0)=true by simp;omega];rfl
theorem rport_eq{c:Config}(hc:wfc c)(ha:acc c=true){p:Int}(h1: -9223372036854775808≤p)(h2:p≤9223372036854775807):
    G_ref10_Port c p=some (bif prt c p then ⟨p / 2,ppt c p,psd p,true⟩ else ⟨0,0,false,false⟩):=by
  have H:=accS ha;have hm:=H.m8;unfold G_ref10_Port;rw [w64 (x:=2*(c.Chans.length:Int)) (by omega) (by omega),racc_eq c hc,ha];by_cases hp:0≤p
  · have e1:Int.tdiv p 2=p / 2:=Int.tdiv_eq_ediv_of_nonneg hp;have e2:Int.tmod p 2=p % 2:=Int.tmod_eq_emod_of_nonneg hp;rw [e1,e2,w64 (x:=p / 2) (by omega) (by omega),show decide (p<0)=false by simp;omega];by_cases hk:p<2*(c.Chans.length:Int)
    · rw [show prt c p=true by unfold prt;simp;omega,show decide (p≥2*(c.Chans.length:Int))=false by simp;omega,inb_of (by omega) (by omega)];simp only [Bool.or_false,Bool.not_false,cal_t,Option.bind_some,Bool.not_true,cond_false,req_t,cond_true];unfold ppt psd pch;by_cases hz:(p % 2==0)=true
      · rw [hz];rfl
      · rw [show (p % 2==0)=false by simpa using hz];rfl
    · rw [show prt c p=false by unfold prt;simp;omega,show decide (p≥2*(c.Chans.length:Int))=true by simp;omega];rfl
  · rw [show prt c p=false by unfold prt;simp;omega,show decide (p<0)=true by simp;omega];rfl
def prv(c:Config)(p a:Int):Bool:=decide (ps c p.toNat≤a)&&decide (a<ps c p.toNat+(rd c.Parts p).Private)
theorem aprv_eq{c:Config}(hc:wfc c)(ha:acc c=true){x:Sign_asked}(hx:x.c=c)(h0:0≤x.s.Part)(h1:x.s.Part<(c.Parts.length:Int))(g1:0≤x.Request.Addr):G_sign_asked_private x=some (prv c x.s.Part x.Request.Addr):=by
  have H:=accS ha;have hn:=H.n6;unfold G_sign_asked_private;obtain ⟨i,hi⟩:∃i:Nat,x.s.Part=(i:Int):=⟨x.s.Part.toNat,by omega⟩;have hil:i<c.Parts.length:=by omega
  have hb:=ps_bd H i (by omega);have hq:=H.priv _ (rdm hil);have e1:G_layout_Private x.c x.s.Part=some (pvS c i):=by
    unfold G_layout_Private;rw [hx,of_eq hc ha,hi];simp only [Option.bind_some];unfold G_layout_plan_at planOf;simp only;rw [show (decide ((i:Int)<0)||decide ((i:Int)≥(c.Parts.length:Int)))=false by simp;omega,w64 (by omega) (by omega),Int.zero_add,inb_of (by omega) (by simp;omega),rd_map _ (by omega),spn_priv hil];rfl
  rw [e1];by_cases hlt:x.Request.Addr<2147483648
  · rw [show decide (x.Request.Addr<2147483648)=true by simp;omega];simp only [cal_t,Option.bind_some,Bool.true_and];rw [w64 (by omega) (by omega),has_eq];simp only [Option.bind_some,Option.some.injEq];unfold hasS prv pvS;rw [hi,Int.toNat_natCast,Bool.eq_iff_iff];simp only [Bool.and_eq_true,decide_eq_true_eq];omega
  · rw [show decide (x.Request.Addr<2147483648)=false by simp;omega];simp only [cal_f,Option.bind_some,Bool.false_and,Option.some.injEq];unfold prv;rw [hi,Int.toNat_natCast];symm;rw [Bool.and_eq_false_iff];right;simp only [decide_eq_false_iff_not];omega
theorem u64w{x:Int}(h1:0≤x)(h2:x<18446744073709551616):IntKind.u64.wrap x=x:=by
  simp [IntKind.wrap,IntKind.signed,IntKind.bits];omega
theorem rprv_eq{c:Config}(hc:wfc c)(ha:acc c=true){p a:Int}(h0:0≤p)(h1:p<(c.Parts.length:Int))(g1:0≤a)(g2:a<18446744073709551616):G_ref10_Private c p a=some (prv c p a):=by
  have H:=accS ha;have hn:=H.n6;obtain ⟨i,rfl⟩:∃i:Nat,p=(i:Int):=⟨p.toNat,by omega⟩;have hil:i<c.Parts.length:=by omega
  have hb:=ps_bd H i (by omega);have hq:=H.priv _ (rdm hil);unfold G_ref10_Private;rw [rpriv_eq hc ha,if_pos ⟨h0,h1⟩];simp only [Option.bind_some,Option.some.injEq];unfold prv pvS;rw [Int.toNat_natCast];simp only;rw [u64w (x:=ps c i) (by omega) (by omega),u64w (x:=(rd c.Parts (i:Int)).Private) (by omega) (by omega)];by_cases hle:ps c i≤a
  · rw [u64w (x:=a - ps c i) (by omega) (by omega),Bool.eq_iff_iff];simp only [Bool.and_eq_true,decide_eq_true_eq];omega
  · rw [show decide (a≥ps c i)=false by simp;omega];rfl
end Go.Proofs.YtdpfnklgdkigdaaGreatDoor
