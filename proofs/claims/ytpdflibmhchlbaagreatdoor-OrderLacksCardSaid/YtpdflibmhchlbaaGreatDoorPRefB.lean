/- Plain law: the program's refusals and the document's are one, row by row. No statement of the seat is proved here. Conditions: none. -/
import Derived.Test.YtpdflibmhchlbaaGreatDoorPRef
set_option linter.unusedVariables false
set_option linter.unusedSimpArgs false
namespace Go.Proofs.YtpdflibmhchlbaaGreatDoor
open Go Go.RowKit Go.Eng Go.IntKind
def A1d:List E7:=[(⟨(⟨#[49]⟩:ByteArray),(K9.f81),4⟩:E7),(⟨(⟨#[49]⟩:ByteArray),(K9.f82),1⟩:E7),(⟨(⟨#[49,50]⟩:ByteArray),(K9.f83),5⟩:E7),(⟨(⟨#[51,52,53,54,55]⟩:ByteArray),(K9.f84),3⟩:E7),(⟨(⟨#[51,52,53,54,55]⟩:ByteArray),(K9.f85),5⟩:E7),(⟨(⟨#[51]⟩:ByteArray),.f79 1 true,5⟩:E7),(⟨(⟨#[52]⟩:ByteArray),.f79 1 false,5⟩:E7),(⟨(⟨#[53]⟩:ByteArray),.f79 2 true,5⟩:E7),(⟨(⟨#[54]⟩:ByteArray),.f79 2 false,5⟩:E7),(⟨(⟨#[51,53]⟩:ByteArray),(K9.f86),3⟩:E7),(⟨(⟨#[51,53]⟩:ByteArray),(K9.f87),4⟩:E7),(⟨(⟨#[57]⟩:ByteArray),(K9.f88),3⟩:E7),(⟨(⟨#[56,57]⟩:ByteArray),(K9.f89),6⟩:E7)]
theorem B56:A0v=some A1d:=rfl
def hol(a:E6)(m v:Bool)(i:Nat):Bool:=
  bif i==0 then !a.own else bif i==1 then m else bif i==2 then a.s.z7 else bif i==3 then (!a.own)||(!m) else bif i==4 then !a.s.z7 else
  bif i==5 then !((a.channel.u6==1)&&(a.source==true)) else bif i==6 then !((a.channel.u6==1)&&(a.source==false)) else bif i==7 then !((a.channel.u6==2)&&(a.source==true)) else bif i==8 then !((a.channel.u6==2)&&(a.source==false)) else
  bif i==9 then ((a.en.u9.length:Int)==0) else bif i==10 then decide ((a.en.u9.length:Int)>a.channel.py) else bif i==11 then ((a.en.u9.length:Int) !=1) else !v
theorem hol_eq{c:C1}(hc:wfc c)(ha:acc c=true){x:E6}(hx:x.c=c)(h0:0≤x.s.u3)(h1:x.s.u3<(c.r8.length:Int))(g1:0≤x.en.ke)(hm:x.s.z9.length≤300)(i:Nat)(hi:i<13):
    K9.run (rd A1d (i:Int)).holds x=some (hol x (amg x.s.z9 x.en.u5) (prv c x.s.u3 x.en.ke) i):=by
  have e1:O5 x=some (amg x.s.z9 x.en.u5):=by
    unfold O5;rw [B5q _ hm];rfl
  have e2:=B81 hc ha hx h0 h1 g1;have hh:i=0∨i=1∨i=2∨i=3∨i=4∨i=5∨i=6∨i=7∨i=8∨i=9∨i=10∨i=11∨i=12:=by omega
  rcases hh with rfl | rfl | rfl | rfl | rfl | rfl | rfl | rfl | rfl | rfl | rfl | rfl | rfl
  · rfl
  · exact e1
  · rfl
  · show Z6 x=_;unfold Z6;rw [e1];show _=some ((!x.own)||(!amg x.s.z9 x.en.u5));cases x.own<;>rfl
  · rfl
  · rfl
  · rfl
  · rfl
  · rfl
  · rfl
  · rfl
  · rfl
  · show Z7 x=_;unfold Z7;rw [e2];rfl
def h13(op:Int)(i:Nat):Bool:=(A1t (rd A1d (i:Int)).ops).any fun y=>u8.wrap (i64.wrap (48+op))==y
theorem h13_eq(op:Int)(i:Nat)(hi:i<13):G6 (A1t (rd A1d (i:Int)).ops) (u8.wrap (i64.wrap (48+op)))=some (h13 op i):=by
  refine B7d _ ?_ _;have hh:i=0∨i=1∨i=2∨i=3∨i=4∨i=5∨i=6∨i=7∨i=8∨i=9∨i=10∨i=11∨i=12:=by omega
  rcases hh with rfl | rfl | rfl | rfl | rfl | rfl | rfl | rfl | rfl | rfl | rfl | rfl | rfl<;>decide
def ask(c:C1)(s:D0)(r:L7):E6:=bif prt c r.u5 then ⟨r,c,s,pch c r.u5,psd r.u5,ppt c r.u5==s.u3⟩ else ⟨r,c,s,⟨0,0,0,0,0,0,0⟩,false,false⟩
theorem A9l(c:C1)(s:D0)(r:L7):(ask c s r).s=s:=by unfold ask;cases prt c r.u5<;>rfl
theorem B68(c:C1)(s:D0)(r:L7):(ask c s r).en=r:=by unfold ask;cases prt c r.u5<;>rfl
def A30(p:Nat→Bool):Int:=match (List.range' 0 13).find? p with
  | some j=>(rd A1d (j:Int)).code
  | none=>0
theorem B3x{c:C1}(hc:wfc c)(ha:acc c=true){s:D0}{r:L7}(h0:0≤s.u3)(h1:s.u3<(c.r8.length:Int))(g1:0≤r.ke)(hm:s.z9.length≤300){a:E6}(hac:a.c=c)(has:a.s=s)(har:a.en=r)(i:Nat)(hi:i<13){α:Type}(f:Bool→Bool→Option α)(hf:∀x y,f x y=f (x&&y) true∨True):
    ((G6 (A1t (rd A1d (i:Int)).ops) (u8.wrap (i64.wrap (48+r.Op)))).bind fun t1=>(cal t1 (K9.run (rd A1d (i:Int)).holds a) default).bind fun t2=>f t1 t2)=
    f (h13 r.Op i) (bif h13 r.Op i then hol a (amg s.z9 r.u5) (prv c s.u3 r.ke) i else default):=by
  rw [h13_eq _ _ hi];simp only [Option.bind_some];have:=hol_eq hc ha (x:=a) hac (by rw [has];exact h0) (by rw [has];exact h1) (by rw [har];exact g1) (by rw [has];exact hm) i hi;rw [has,har] at this;cases h13 r.Op i
  · rfl
  · simp only [A4m,this,Option.bind_some,cond_true]
theorem B3v{c:C1}(hc:wfc c)(ha:acc c=true){s:D0}{r:L7}(h0:0≤s.u3)(h1:s.u3<(c.r8.length:Int))(g1:0≤r.ke)(hm:s.z9.length≤300)(t3:Bool)(t10:ByteArray):
    ((F3 (F5.b1 c s r t3 t10 (r.u5 / 2,ppt c r.u5,psd r.u5,true) A1d) (0,0)).bind fun o=>o.on (fun _=>some 0) (fun r=>some r))=some (A30 fun i=>h13 r.Op i&&hol (⟨r,c,s,pch c r.u5,psd r.u5,ppt c r.u5==s.u3⟩:E6) (amg s.z9 r.u5) (prv c s.u3 r.ke) i):=by
  have h:=A09 (B:=F5.b1 c s r t3 t10 (r.u5 / 2,ppt c r.u5,psd r.u5,true) A1d) 13 0 (fun i=>h13 r.Op i&&hol (⟨r,c,s,pch c r.u5,psd r.u5,ppt c r.u5==s.u3⟩:E6) (amg s.z9 r.u5) (prv c s.u3 r.ke) i) (fun i=>(rd A1d (i:Int)).code) (fun i hi=>by
    unfold F5.b1;rw [show decide (((i:Int),(0:Int)).1<(A1d.length:Int))=true from Q6 (show i<A1d.length from hi),show inb ((i:Int),(0:Int)).1 A1d.length=true from H4 (show i<A1d.length from hi)];simp only [cond_true,D7];refine (B3x hc ha h0 h1 g1 hm (a:=(⟨r,c,s,pch c r.u5,psd r.u5,ppt c r.u5==s.u3⟩:E6)) rfl rfl rfl i hi (α:=Stp (Int×Int) (Ex (Int×Int) Int)) (fun t1 t2=>bif t1&&t2 then some (.out (.ret (rd A1d (i:Int)).code)) else some (.next (i64.wrap ((i:Int)+1),(0:Int)))) (fun _ _=>.inr trivial)).trans ?_;rw [wp1 (n:=13) hi (by decide)];cases h13 r.Op i
    · rfl
    · simp only [cond_true,Bool.true_and,M7]) (by unfold F5.b1;rfl) 13 0 rfl
  rw [show ((0:Nat):Int)=0 from rfl] at h;rw [h];unfold A30;cases (List.range' 0 13).find? (fun i=>h13 r.Op i&&hol (⟨r,c,s,pch c r.u5,psd r.u5,ppt c r.u5==s.u3⟩:E6) (amg s.z9 r.u5) (prv c s.u3 r.ke) i)<;>rfl
theorem B3w{c:C1}(hc:wfc c)(ha:acc c=true){s:D0}{r:L7}(h0:0≤s.u3)(h1:s.u3<(c.r8.length:Int))(g1:0≤r.ke)(hm:s.z9.length≤300)(t3:Bool)(t10:ByteArray):
    ((F3 (F5.b2 c s r t3 t10 (0,0,false,false) A1d) (0,0)).bind fun o=>o.on (fun _=>some 0) (fun r=>some r))=some (A30 fun i=>h13 r.Op i&&hol (⟨r,c,s,⟨0,0,0,0,0,0,0⟩,false,false⟩:E6) (amg s.z9 r.u5) (prv c s.u3 r.ke) i):=by
  have h:=A09 (B:=F5.b2 c s r t3 t10 (0,0,false,false) A1d) 13 0 (fun i=>h13 r.Op i&&hol (⟨r,c,s,⟨0,0,0,0,0,0,0⟩,false,false⟩:E6) (amg s.z9 r.u5) (prv c s.u3 r.ke) i) (fun i=>(rd A1d (i:Int)).code) (fun i hi=>by
    unfold F5.b2;rw [show decide (((i:Int),(0:Int)).1<(A1d.length:Int))=true from Q6 (show i<A1d.length from hi),show inb ((i:Int),(0:Int)).1 A1d.length=true from H4 (show i<A1d.length from hi)];simp only [cond_true,D7];refine (B3x hc ha h0 h1 g1 hm (a:=(⟨r,c,s,⟨0,0,0,0,0,0,0⟩,false,false⟩:E6)) rfl rfl rfl i hi (α:=Stp (Int×Int) (Ex (Int×Int) Int)) (fun t1 t2=>bif t1&&t2 then some (.out (.ret (rd A1d (i:Int)).code)) else some (.next (i64.wrap ((i:Int)+1),(0:Int)))) (fun _ _=>.inr trivial)).trans ?_;rw [wp1 (n:=13) hi (by decide)];cases h13 r.Op i
    · rfl
    · simp only [cond_true,Bool.true_and,M7]) (by unfold F5.b2;rfl) 13 0 rfl
  rw [show ((0:Nat):Int)=0 from rfl] at h;rw [h];unfold A30;cases (List.range' 0 13).find? (fun i=>h13 r.Op i&&hol (⟨r,c,s,⟨0,0,0,0,0,0,0⟩,false,false⟩:E6) (amg s.z9 r.u5) (prv c s.u3 r.ke) i)<;>rfl
theorem A2q(p:Nat→Bool):A30 p=bif p 0 then 4 else bif p 1 then 1 else bif p 2 then 5 else bif p 3 then 3 else bif p 4 then 5 else bif p 5 then 5 else bif p 6 then 5 else bif p 7 then 5 else bif p 8 then 5 else bif p 9 then 3 else bif p 10 then 4 else bif p 11 then 3 else bif p 12 then 6 else 0:=by
  show (match [0,1,2,3,4,5,6,7,8,9,10,11,12].find? p with
    | some j=>(rd A1d (j:Int)).code
    | none=>0)=_
  simp only [List.find?_cons,List.find?_nil];cases p 0
  case true=>rfl
  cases p 1
  case true=>rfl
  cases p 2
  case true=>rfl
  cases p 3
  case true=>rfl
  cases p 4
  case true=>rfl
  cases p 5
  case true=>rfl
  cases p 6
  case true=>rfl
  cases p 7
  case true=>rfl
  cases p 8
  case true=>rfl
  cases p 9
  case true=>rfl
  cases p 10
  case true=>rfl
  cases p 11
  case true=>rfl
  cases p 12
  case true=>rfl
  rfl
theorem B60{c:C1}(hc:wfc c)(ha:acc c=true){s:D0}{r:L7}(h0:0≤s.u3)(h1:s.u3<(c.r8.length:Int))(g1:0≤r.ke)(hm:s.z9.length≤300)(p1: -9223372036854775808≤r.u5)(p2:r.u5≤9223372036854775807)(o1:1≤r.Op)(o2:r.Op≤9):
    F5 c s r=some (A30 fun i=>h13 r.Op i&&hol (ask c s r) (amg s.z9 r.u5) (prv c s.u3 r.ke) i):=by
  unfold F5;have hn:∃b,A0u r.Op=some b∧(b.toList==(⟨#[]⟩:ByteArray).toList)=false:=by
    unfold A0u;rw [show (decide (r.Op<1)||decide (r.Op≥10))=false by simp;omega,A1v (by omega) (by omega)];refine ⟨_,rfl,?_⟩;have hh:r.Op=1∨r.Op=2∨r.Op=3∨r.Op=4∨r.Op=5∨r.Op=6∨r.Op=7∨r.Op=8∨r.Op=9:=by omega
    rcases hh with h | h | h | h | h | h | h | h | h
    · rw [h,ByteArray.toList_eq,ByteArray.toList_eq];rfl
    · rw [h,ByteArray.toList_eq,ByteArray.toList_eq];rfl
    · rw [h,ByteArray.toList_eq,ByteArray.toList_eq];rfl
    · rw [h,ByteArray.toList_eq,ByteArray.toList_eq];rfl
    · rw [h,ByteArray.toList_eq,ByteArray.toList_eq];rfl
    · rw [h,ByteArray.toList_eq,ByteArray.toList_eq];rfl
    · rw [h,ByteArray.toList_eq,ByteArray.toList_eq];rfl
    · rw [h,ByteArray.toList_eq,ByteArray.toList_eq];rfl
    · rw [h,ByteArray.toList_eq,ByteArray.toList_eq];rfl
  obtain ⟨b,hb,hb2⟩:=hn;rw [A9i c hc,ha];simp only [Option.bind_some];rw [show (((!true)||decide (s.u3<0))||decide (s.u3≥(c.r8.length:Int)))=false by simp;omega,hb];simp only [cond_false,Option.bind_some];rw [hb2,B0j hc ha p1 p2];simp only [cond_false,Option.bind_some];unfold ask;cases hp:prt c r.u5
  · simp only [cond_false,B56,Option.bind_some];exact B3w hc ha h0 h1 g1 hm true b
  · simp only [cond_true,B56,Option.bind_some];rw [A1v (A8j hp).1 (A8j hp).2.1];simp only [D7];exact B3v hc ha h0 h1 g1 hm true b
end Go.Proofs.YtpdflibmhchlbaaGreatDoor
