/- Plain law: the program's refusals and the document's are one, at configurations that are accepted. No statement of the seat is proved here. Conditions: none. -/
import Derived.Test.YtpdflibmhchlbaaGreatDoorPLay
set_option linter.unusedVariables false
set_option linter.unusedSimpArgs false
namespace Go.Proofs.YtpdflibmhchlbaaGreatDoor
open Go Go.RowKit Go.Eng Go.IntKind
theorem B59(l:List Int)(hl:l.length≤300)(x:Int):I1 l x=some (l.any fun y=>x==y):=by
  unfold I1 D7;have h:=A07 (B:=D7.b1 l x) l.length 0 (fun i=>x==rd l (i:Int)) (fun i=>(i:Int)) (fun i hi=>by
    unfold D7.b1;simp only [P6 hi,G6 hi,cond_true,D5,wp1 hi (by simp only [maxLen];omega),Option.bind_some,N0]) (by unfold D7.b1;rw [X1];rfl) l.length 0 (by omega)
  rw [show ((0:Nat):Int)=0 from rfl] at h;rw [h,← A5o,List.range_eq_range'];cases h2:(List.range' 0 l.length).find? (fun i:Nat=>x==rd l (i:Int)) with
  | none=>simp only [Option.bind_some,Ex.on_brk,Option.some.injEq];rw [show (List.range' 0 l.length).any (fun i:Nat=>x==rd l (i:Int))=false by simpa using h2];rfl
  | some j=>simp only [Option.bind_some,Ex.on_ret,Option.some.injEq];rw [show (List.range' 0 l.length).any (fun i:Nat=>x==rd l (i:Int))=true by rw [List.any_eq_true];exact ⟨j,List.mem_of_find?_eq_some h2,List.find?_some (p:=fun i:Nat=>x==rd l (i:Int)) h2⟩];simp
theorem B7x(l:List Int)(hl:l.length≤300)(x:Int):G7 l x=some (l.any fun y=>x==y):=by
  unfold G7 G9;have h:=A07 (B:=G9.b1 l x) l.length 0 (fun i=>x==rd l (i:Int)) (fun i=>(i:Int)) (fun i hi=>by
    unfold G9.b1;simp only [P6 hi,G6 hi,cond_true,D5,wp1 hi (by simp only [maxLen];omega),Option.bind_some,N0]) (by unfold G9.b1;rw [X1];rfl) l.length 0 (by omega)
  rw [show ((0:Nat):Int)=0 from rfl] at h;rw [h,← A5o,List.range_eq_range'];cases h2:(List.range' 0 l.length).find? (fun i:Nat=>x==rd l (i:Int)) with
  | none=>simp only [Option.bind_some,Ex.on_brk,Option.some.injEq];rw [show (List.range' 0 l.length).any (fun i:Nat=>x==rd l (i:Int))=false by simpa using h2];rfl
  | some j=>simp only [Option.bind_some,Ex.on_ret,Option.some.injEq];rw [show (List.range' 0 l.length).any (fun i:Nat=>x==rd l (i:Int))=true by rw [List.any_eq_true];exact ⟨j,List.mem_of_find?_eq_some h2,List.find?_some (p:=fun i:Nat=>x==rd l (i:Int)) h2⟩];simp
def amg(l:List Int)(x:Int):Bool:=l.any fun y=>x==y
theorem amg_c(l:List Int)(x:Int):(l.any fun y=>y==x)=amg l x:=A8j fun y _=>by rw [Bool.eq_iff_iff,beq_iff_eq,beq_iff_eq];exact eq_comm
theorem B4g(s:D0)(hl:s.en.length≤300)(x:Int):N2 s x=some (amg s.en x):=by
  unfold N2;rw [A1k (fun y=>y==x) s.en false true (fun i hi=>?_) (by unfold N2.b1;rw [X1];rfl)]
  · rw [amg_c];cases amg s.en x<;>rfl
  · unfold N2.b1;simp only [P6 hi,G6 hi,cond_true,D5,wp1 hi (by simp only [maxLen];omega),N0]
def prt(c:C1)(p:Int):Bool:=decide (0≤p)&&decide (p<2*(c.r6.length:Int))
def pch(c:C1)(p:Int):Q4:=rd c.r6 (p / 2)
def psd(p:Int):Bool:=p % 2==0
def ppt(c:C1)(p:Int):Int:=bif psd p then (pch c p).kr else (pch c p).To
theorem A8r{c:C1}{p:Int}(h:prt c p=true):0≤p / 2∧p / 2<(c.r6.length:Int)∧0≤p:=by
  unfold prt at h;simp at h;omega
theorem B0w{c:C1}(hc:wfc c)(ha:acc c=true){p:Int}(h1: -9223372036854775808≤p)(h2:p≤9223372036854775807):
    S8 c p=some (bif prt c p then (p / 2,ppt c p,psd p,true) else (0,0,false,false)):=by
  have H:=A5m ha;have hm:=H.m8;unfold S8;by_cases hp:0≤p
  · have e1:Int.tdiv p 2=p / 2:=Int.tdiv_eq_ediv_of_nonneg hp;have e2:Int.tmod p 2=p % 2:=Int.tmod_eq_emod_of_nonneg hp;rw [e1,e2,w64 (by omega) (by omega),show decide (p<0)=false by simp;omega,A9s c hc,ha];by_cases hk:p / 2<(c.r6.length:Int)
    · rw [show prt c p=true by unfold prt;simp;omega,show decide (p / 2≥(c.r6.length:Int))=false by simp;omega,A1q (by omega) hk];simp only [Bool.or_false,Bool.not_false,A4q,Option.bind_some,Bool.not_true,cond_false,D5,cond_true];unfold ppt psd pch;by_cases hz:(p % 2==0)=true
      · rw [hz];rfl
      · rw [show (p % 2==0)=false by simpa using hz];rfl
    · rw [show prt c p=false by unfold prt;simp;omega,show decide (p / 2≥(c.r6.length:Int))=true by simp;omega];rfl
  · rw [show prt c p=false by unfold prt;simp;omega,show decide (p<0)=true by simp;omega];rfl
theorem A6e{c:C1}(hc:wfc c)(ha:acc c=true){p:Int}(h1: -9223372036854775808≤p)(h2:p≤9223372036854775807):
    O5 c p=some (bif prt c p then ⟨p / 2,ppt c p,psd p,true⟩ else ⟨0,0,false,false⟩):=by
  have H:=A5m ha;have hm:=H.m8;unfold O5;rw [w64 (x:=2*(c.r6.length:Int)) (by omega) (by omega),A48 c hc,ha];by_cases hp:0≤p
  · have e1:Int.tdiv p 2=p / 2:=Int.tdiv_eq_ediv_of_nonneg hp;have e2:Int.tmod p 2=p % 2:=Int.tmod_eq_emod_of_nonneg hp;rw [e1,e2,w64 (x:=p / 2) (by omega) (by omega),show decide (p<0)=false by simp;omega];by_cases hk:p<2*(c.r6.length:Int)
    · rw [show prt c p=true by unfold prt;simp;omega,show decide (p≥2*(c.r6.length:Int))=false by simp;omega,A1q (by omega) (by omega)];simp only [Bool.or_false,Bool.not_false,A4q,Option.bind_some,Bool.not_true,cond_false,D5,cond_true];unfold ppt psd pch;by_cases hz:(p % 2==0)=true
      · rw [hz];rfl
      · rw [show (p % 2==0)=false by simpa using hz];rfl
    · rw [show prt c p=false by unfold prt;simp;omega,show decide (p≥2*(c.r6.length:Int))=true by simp;omega];rfl
  · rw [show prt c p=false by unfold prt;simp;omega,show decide (p<0)=true by simp;omega];rfl
def prv(c:C1)(p a:Int):Bool:=decide (ps c p.toNat≤a)&&decide (a<ps c p.toNat+(rd c.r7 p).ka)
theorem B9q{c:C1}(hc:wfc c)(ha:acc c=true){x:E6}(hx:x.c=c)(h0:0≤x.s.r9)(h1:x.s.r9<(c.r7.length:Int))(g1:0≤x.ke.z7):P3 x=some (prv c x.s.r9 x.ke.z7):=by
  have H:=A5m ha;have hn:=H.n6;unfold P3;obtain ⟨i,hi⟩:∃i:Nat,x.s.r9=(i:Int):=⟨x.s.r9.toNat,by omega⟩;have hil:i<c.r7.length:=by omega
  have hb:=B1s H i (by omega);have hq:=H.priv _ (rdm hil);have e1:T9 x.c x.s.r9=some (pvS c i):=by
    unfold T9;rw [hx,of_eq hc ha,hi];simp only [Option.bind_some];unfold X3 B82;simp only;rw [show (decide ((i:Int)<0)||decide ((i:Int)≥(c.r7.length:Int)))=false by simp;omega,w64 (by omega) (by omega),Int.zero_add,A1q (by omega) (by simp;omega),rd_map _ (by omega),B4m hil];rfl
  rw [e1];by_cases hlt:x.ke.z7<2147483648
  · rw [show decide (x.ke.z7<2147483648)=true by simp;omega];simp only [A4q,Option.bind_some,Bool.true_and];rw [w64 (by omega) (by omega),has_eq];simp only [Option.bind_some,Option.some.injEq];unfold hasS prv pvS;rw [hi,Int.toNat_natCast,Bool.eq_iff_iff];simp only [Bool.and_eq_true,decide_eq_true_eq];omega
  · rw [show decide (x.ke.z7<2147483648)=false by simp;omega];simp only [A7w,Option.bind_some,Bool.false_and,Option.some.injEq];unfold prv;rw [hi,Int.toNat_natCast];symm;rw [Bool.and_eq_false_iff];right;simp only [decide_eq_false_iff_not];omega
theorem B4s{x:Int}(h1:0≤x)(h2:x<18446744073709551616):u64.wrap x=x:=by
  simp [IntKind.wrap,IntKind.signed,IntKind.bits];omega
theorem B6r{c:C1}(hc:wfc c)(ha:acc c=true){p a:Int}(h0:0≤p)(h1:p<(c.r7.length:Int))(g1:0≤a)(g2:a<18446744073709551616):J8 c p a=some (prv c p a):=by
  have H:=A5m ha;have hn:=H.n6;obtain ⟨i,rfl⟩:∃i:Nat,p=(i:Int):=⟨p.toNat,by omega⟩;have hil:i<c.r7.length:=by omega
  have hb:=B1s H i (by omega);have hq:=H.priv _ (rdm hil);unfold J8;rw [B9a hc ha,if_pos ⟨h0,h1⟩];simp only [Option.bind_some,Option.some.injEq];unfold prv pvS;rw [Int.toNat_natCast];simp only;rw [B4s (x:=ps c i) (by omega) (by omega),B4s (x:=(rd c.r7 (i:Int)).ka) (by omega) (by omega)];by_cases hle:ps c i≤a
  · rw [B4s (x:=a - ps c i) (by omega) (by omega),Bool.eq_iff_iff];simp only [Bool.and_eq_true,decide_eq_true_eq];omega
  · rw [show decide (a≥ps c i)=false by simp;omega];rfl
end Go.Proofs.YtpdflibmhchlbaaGreatDoor
