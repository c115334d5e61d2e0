/- Plain law: the program's refusals and the document's are one, at configurations that are accepted. No statement of the seat is proved here. Conditions: none. -/
import Derived.Test.YtpdflibmhchlbaaGreatDoorPLay
set_option linter.unusedVariables false
set_option linter.unusedSimpArgs false
namespace Go.Proofs.YtpdflibmhchlbaaGreatDoor
open Go Go.RowKit Go.Eng Go.IntKind
theorem B5q(l:List Int)(hl:l.length≤300)(x:Int):H9 l x=some (l.any fun y=>x==y):=by
  unfold H9 D6;have h:=A09 (B:=D6.b1 l x) l.length 0 (fun i=>x==rd l (i:Int)) (fun i=>(i:Int)) (fun i hi=>by
    unfold D6.b1;simp only [Q6 hi,H4 hi,cond_true,D7,wp1 hi (by simp only [maxLen];omega),Option.bind_some,M7]) (by unfold D6.b1;rw [X2];rfl) l.length 0 (by omega)
  rw [show ((0:Nat):Int)=0 from rfl] at h;rw [h,← A5g,List.range_eq_range'];cases h2:(List.range' 0 l.length).find? (fun i:Nat=>x==rd l (i:Int)) with
  | none=>simp only [Option.bind_some,Ex.on_brk,Option.some.injEq];rw [show (List.range' 0 l.length).any (fun i:Nat=>x==rd l (i:Int))=false by simpa using h2];rfl
  | some j=>simp only [Option.bind_some,Ex.on_ret,Option.some.injEq];rw [show (List.range' 0 l.length).any (fun i:Nat=>x==rd l (i:Int))=true by rw [List.any_eq_true];exact ⟨j,List.mem_of_find?_eq_some h2,List.find?_some (p:=fun i:Nat=>x==rd l (i:Int)) h2⟩];simp
theorem B7d(l:List Int)(hl:l.length≤300)(x:Int):G6 l x=some (l.any fun y=>x==y):=by
  unfold G6 G8;have h:=A09 (B:=G8.b1 l x) l.length 0 (fun i=>x==rd l (i:Int)) (fun i=>(i:Int)) (fun i hi=>by
    unfold G8.b1;simp only [Q6 hi,H4 hi,cond_true,D7,wp1 hi (by simp only [maxLen];omega),Option.bind_some,M7]) (by unfold G8.b1;rw [X2];rfl) l.length 0 (by omega)
  rw [show ((0:Nat):Int)=0 from rfl] at h;rw [h,← A5g,List.range_eq_range'];cases h2:(List.range' 0 l.length).find? (fun i:Nat=>x==rd l (i:Int)) with
  | none=>simp only [Option.bind_some,Ex.on_brk,Option.some.injEq];rw [show (List.range' 0 l.length).any (fun i:Nat=>x==rd l (i:Int))=false by simpa using h2];rfl
  | some j=>simp only [Option.bind_some,Ex.on_ret,Option.some.injEq];rw [show (List.range' 0 l.length).any (fun i:Nat=>x==rd l (i:Int))=true by rw [List.any_eq_true];exact ⟨j,List.mem_of_find?_eq_some h2,List.find?_some (p:=fun i:Nat=>x==rd l (i:Int)) h2⟩];simp
def amg(l:List Int)(x:Int):Bool:=l.any fun y=>x==y
theorem amg_c(l:List Int)(x:Int):(l.any fun y=>y==x)=amg l x:=A8b fun y _=>by rw [Bool.eq_iff_iff,beq_iff_eq,beq_iff_eq];exact eq_comm
theorem B3y(s:D0)(hl:s.z9.length≤300)(x:Int):M9 s x=some (amg s.z9 x):=by
  unfold M9;rw [A1p (fun y=>y==x) s.z9 false true (fun i hi=>?_) (by unfold M9.b1;rw [X2];rfl)]
  · rw [amg_c];cases amg s.z9 x<;>rfl
  · unfold M9.b1;simp only [Q6 hi,H4 hi,cond_true,D7,wp1 hi (by simp only [maxLen];omega),M7]
def prt(c:C1)(p:Int):Bool:=decide (0≤p)&&decide (p<2*(c.r6.length:Int))
def pch(c:C1)(p:Int):Q2:=rd c.r6 (p / 2)
def psd(p:Int):Bool:=p % 2==0
def ppt(c:C1)(p:Int):Int:=bif psd p then (pch c p).kr else (pch c p).To
theorem A8j{c:C1}{p:Int}(h:prt c p=true):0≤p / 2∧p / 2<(c.r6.length:Int)∧0≤p:=by
  unfold prt at h;simp at h;omega
theorem B0j{c:C1}(hc:wfc c)(ha:acc c=true){p:Int}(h1: -9223372036854775808≤p)(h2:p≤9223372036854775807):
    S8 c p=some (bif prt c p then (p / 2,ppt c p,psd p,true) else (0,0,false,false)):=by
  have H:=A7l ha;have hm:=H.m8;unfold S8;by_cases hp:0≤p
  · have e1:Int.tdiv p 2=p / 2:=Int.tdiv_eq_ediv_of_nonneg hp;have e2:Int.tmod p 2=p % 2:=Int.tmod_eq_emod_of_nonneg hp;rw [e1,e2,w64 (by omega) (by omega),show decide (p<0)=false by simp;omega,A9i c hc,ha];by_cases hk:p / 2<(c.r6.length:Int)
    · rw [show prt c p=true by unfold prt;simp;omega,show decide (p / 2≥(c.r6.length:Int))=false by simp;omega,A1v (by omega) hk];simp only [Bool.or_false,Bool.not_false,A4m,Option.bind_some,Bool.not_true,cond_false,D7,cond_true];unfold ppt psd pch;by_cases hz:(p % 2==0)=true
      · rw [hz];rfl
      · rw [show (p % 2==0)=false by simpa using hz];rfl
    · rw [show prt c p=false by unfold prt;simp;omega,show decide (p / 2≥(c.r6.length:Int))=true by simp;omega];rfl
  · rw [show prt c p=false by unfold prt;simp;omega,show decide (p<0)=true by simp;omega];rfl
theorem A55{c:C1}(hc:wfc c)(ha:acc c=true){p:Int}(h1: -9223372036854775808≤p)(h2:p≤9223372036854775807):
    O1 c p=some (bif prt c p then ⟨p / 2,ppt c p,psd p,true⟩ else ⟨0,0,false,false⟩):=by
  have H:=A7l ha;have hm:=H.m8;unfold O1;rw [w64 (x:=2*(c.r6.length:Int)) (by omega) (by omega),A43 c hc,ha];by_cases hp:0≤p
  · have e1:Int.tdiv p 2=p / 2:=Int.tdiv_eq_ediv_of_nonneg hp;have e2:Int.tmod p 2=p % 2:=Int.tmod_eq_emod_of_nonneg hp;rw [e1,e2,w64 (x:=p / 2) (by omega) (by omega),show decide (p<0)=false by simp;omega];by_cases hk:p<2*(c.r6.length:Int)
    · rw [show prt c p=true by unfold prt;simp;omega,show decide (p≥2*(c.r6.length:Int))=false by simp;omega,A1v (by omega) (by omega)];simp only [Bool.or_false,Bool.not_false,A4m,Option.bind_some,Bool.not_true,cond_false,D7,cond_true];unfold ppt psd pch;by_cases hz:(p % 2==0)=true
      · rw [hz];rfl
      · rw [show (p % 2==0)=false by simpa using hz];rfl
    · rw [show prt c p=false by unfold prt;simp;omega,show decide (p≥2*(c.r6.length:Int))=true by simp;omega];rfl
  · rw [show prt c p=false by unfold prt;simp;omega,show decide (p<0)=true by simp;omega];rfl
def prv(c:C1)(p a:Int):Bool:=decide (ps c p.toNat≤a)&&decide (a<ps c p.toNat+(rd c.r8 p).ka)
theorem B81{c:C1}(hc:wfc c)(ha:acc c=true){x:E6}(hx:x.c=c)(h0:0≤x.s.u3)(h1:x.s.u3<(c.r8.length:Int))(g1:0≤x.en.ke):P1 x=some (prv c x.s.u3 x.en.ke):=by
  have H:=A7l ha;have hn:=H.n6;unfold P1;obtain ⟨i,hi⟩:∃i:Nat,x.s.u3=(i:Int):=⟨x.s.u3.toNat,by omega⟩;have hil:i<c.r8.length:=by omega
  have hb:=B1g H i (by omega);have hq:=H.priv _ (rdm hil);have e1:T9 x.c x.s.u3=some (pvS c i):=by
    unfold T9;rw [hx,of_eq hc ha,hi];simp only [Option.bind_some];unfold X0 B8c;simp only;rw [show (decide ((i:Int)<0)||decide ((i:Int)≥(c.r8.length:Int)))=false by simp;omega,w64 (by omega) (by omega),Int.zero_add,A1v (by omega) (by simp;omega),rd_map _ (by omega),B33 hil];rfl
  rw [e1];by_cases hlt:x.en.ke<2147483648
  · rw [show decide (x.en.ke<2147483648)=true by simp;omega];simp only [A4m,Option.bind_some,Bool.true_and];rw [w64 (by omega) (by omega),has_eq];simp only [Option.bind_some,Option.some.injEq];unfold hasS prv pvS;rw [hi,Int.toNat_natCast,Bool.eq_iff_iff];simp only [Bool.and_eq_true,decide_eq_true_eq];omega
  · rw [show decide (x.en.ke<2147483648)=false by simp;omega];simp only [A7m,Option.bind_some,Bool.false_and,Option.some.injEq];unfold prv;rw [hi,Int.toNat_natCast];symm;rw [Bool.and_eq_false_iff];right;simp only [decide_eq_false_iff_not];omega
theorem B39{x:Int}(h1:0≤x)(h2:x<18446744073709551616):u64.wrap x=x:=by
  simp [IntKind.wrap,IntKind.signed,IntKind.bits];omega
theorem B57{c:C1}(hc:wfc c)(ha:acc c=true){p a:Int}(h0:0≤p)(h1:p<(c.r8.length:Int))(g1:0≤a)(g2:a<18446744073709551616):J5 c p a=some (prv c p a):=by
  have H:=A7l ha;have hn:=H.n6;obtain ⟨i,rfl⟩:∃i:Nat,p=(i:Int):=⟨p.toNat,by omega⟩;have hil:i<c.r8.length:=by omega
  have hb:=B1g H i (by omega);have hq:=H.priv _ (rdm hil);unfold J5;rw [B8l hc ha,if_pos ⟨h0,h1⟩];simp only [Option.bind_some,Option.some.injEq];unfold prv pvS;rw [Int.toNat_natCast];simp only;rw [B39 (x:=ps c i) (by omega) (by omega),B39 (x:=(rd c.r8 (i:Int)).ka) (by omega) (by omega)];by_cases hle:ps c i≤a
  · rw [B39 (x:=a - ps c i) (by omega) (by omega),Bool.eq_iff_iff];simp only [Bool.and_eq_true,decide_eq_true_eq];omega
  · rw [show decide (a≥ps c i)=false by simp;omega];rfl
end Go.Proofs.YtpdflibmhchlbaaGreatDoor
