/- Plain law: the program's refusals and the document's are one, row by row. No statement of the seat is proved here. Conditions: none. -/
import Derived.Test.YtdpfnklgdkigdaaGreatDoorPRef
set_option linter.unusedVariables false
set_option linter.unusedSimpArgs false
namespace Go.Proofs.YtdpfnklgdkigdaaGreatDoor
open Go Go.RowKit Go.Eng
def rowsL:List Sign_row:=[(⟨(⟨#[49]⟩:ByteArray),(Fn105.f48),4⟩:Sign_row),(⟨(⟨#[49]⟩:ByteArray),(Fn105.f49),1⟩:Sign_row),(⟨(⟨#[49,50]⟩:ByteArray),(Fn105.f50),5⟩:Sign_row),(⟨(⟨#[51,52,53,54,55]⟩:ByteArray),(Fn105.f51),3⟩:Sign_row),(⟨(⟨#[51,52,53,54,55]⟩:ByteArray),(Fn105.f52),5⟩:Sign_row),(⟨(⟨#[51]⟩:ByteArray),.f46 1 true,5⟩:Sign_row),(⟨(⟨#[52]⟩:ByteArray),.f46 1 false,5⟩:Sign_row),(⟨(⟨#[53]⟩:ByteArray),.f46 2 true,5⟩:Sign_row),(⟨(⟨#[54]⟩:ByteArray),.f46 2 false,5⟩:Sign_row),(⟨(⟨#[51,53]⟩:ByteArray),(Fn105.f53),3⟩:Sign_row),(⟨(⟨#[51,53]⟩:ByteArray),(Fn105.f54),4⟩:Sign_row),(⟨(⟨#[57]⟩:ByteArray),(Fn105.f55),3⟩:Sign_row),(⟨(⟨#[56,57]⟩:ByteArray),(Fn105.f56),6⟩:Sign_row)]
theorem rows_eq:G_sign_rows=some rowsL:=rfl
def hol(a:Sign_asked)(m v:Bool)(i:Nat):Bool:=
  bif i==0 then !a.own else bif i==1 then m else bif i==2 then a.s.Normal else bif i==3 then (!a.own)||(!m) else bif i==4 then !a.s.Normal else
  bif i==5 then !((a.channel.Kind==1)&&(a.source==true)) else bif i==6 then !((a.channel.Kind==1)&&(a.source==false)) else bif i==7 then !((a.channel.Kind==2)&&(a.source==true)) else bif i==8 then !((a.channel.Kind==2)&&(a.source==false)) else
  bif i==9 then ((a.Request.Data.length:Int)==0) else bif i==10 then decide ((a.Request.Data.length:Int)>a.channel.Words) else bif i==11 then ((a.Request.Data.length:Int) !=1) else !v
theorem hol_eq{c:Config}(hc:wfc c)(ha:acc c=true){x:Sign_asked}(hx:x.c=c)(h0:0≤x.s.Part)(h1:x.s.Part<(c.Parts.length:Int))(g1:0≤x.Request.Addr)(hm:x.s.Made.length≤300)(i:Nat)(hi:i<13):
    Fn105.run (rd rowsL (i:Int)).holds x=some (hol x (amg x.s.Made x.Request.Port) (prv c x.s.Part x.Request.Addr) i):=by
  have e1:G_sign_asked_made x=some (amg x.s.Made x.Request.Port):=by
    unfold G_sign_asked_made;rw [cont_eq _ hm];rfl
  have e2:=aprv_eq hc ha hx h0 h1 g1;have hh:i=0∨i=1∨i=2∨i=3∨i=4∨i=5∨i=6∨i=7∨i=8∨i=9∨i=10∨i=11∨i=12:=by omega
  rcases hh with rfl | rfl | rfl | rfl | rfl | rfl | rfl | rfl | rfl | rfl | rfl | rfl | rfl
  · rfl
  · exact e1
  · rfl
  · show G_sign_rows_4 x=_;unfold G_sign_rows_4;rw [e1];show _=some ((!x.own)||(!amg x.s.Made x.Request.Port));cases x.own<;>rfl
  · rfl
  · rfl
  · rfl
  · rfl
  · rfl
  · rfl
  · rfl
  · rfl
  · show G_sign_rows_9 x=_;unfold G_sign_rows_9;rw [e2];rfl
def h13(op:Int)(i:Nat):Bool:=(bytesI (rd rowsL (i:Int)).ops).any fun y=>IntKind.u8.wrap (IntKind.i64.wrap (48+op))==y
theorem h13_eq(op:Int)(i:Nat)(hi:i<13):G_slices_Contains_byte_byte (bytesI (rd rowsL (i:Int)).ops) (IntKind.u8.wrap (IntKind.i64.wrap (48+op)))=some (h13 op i):=by
  refine contb_eq _ ?_ _;have hh:i=0∨i=1∨i=2∨i=3∨i=4∨i=5∨i=6∨i=7∨i=8∨i=9∨i=10∨i=11∨i=12:=by omega
  rcases hh with rfl | rfl | rfl | rfl | rfl | rfl | rfl | rfl | rfl | rfl | rfl | rfl | rfl<;>decide
def ask(c:Config)(s:Standing)(r:Request):Sign_asked:=bif prt c r.Port then ⟨r,c,s,pch c r.Port,psd r.Port,ppt c r.Port==s.Part⟩ else ⟨r,c,s,⟨0,0,0,0,0,0,0⟩,false,false⟩
theorem ask_s(c:Config)(s:Standing)(r:Request):(ask c s r).s=s:=by unfold ask;cases prt c r.Port<;>rfl
theorem ask_r(c:Config)(s:Standing)(r:Request):(ask c s r).Request=r:=by unfold ask;cases prt c r.Port<;>rfl
def fst13(p:Nat→Bool):Int:=match (List.range' 0 13).find? p with
  | some j=>(rd rowsL (j:Int)).code
  | none=>0
theorem ref_step{c:Config}(hc:wfc c)(ha:acc c=true){s:Standing}{r:Request}(h0:0≤s.Part)(h1:s.Part<(c.Parts.length:Int))(g1:0≤r.Addr)(hm:s.Made.length≤300){a:Sign_asked}(hac:a.c=c)(has:a.s=s)(har:a.Request=r)(i:Nat)(hi:i<13){α:Type}(f:Bool→Bool→Option α)(hf:∀x y,f x y=f (x&&y) true∨True):
    ((G_slices_Contains_byte_byte (bytesI (rd rowsL (i:Int)).ops) (IntKind.u8.wrap (IntKind.i64.wrap (48+r.Op)))).bind fun t1=>(cal t1 (Fn105.run (rd rowsL (i:Int)).holds a) default).bind fun t2=>f t1 t2)=
    f (h13 r.Op i) (bif h13 r.Op i then hol a (amg s.Made r.Port) (prv c s.Part r.Addr) i else default):=by
  rw [h13_eq _ _ hi];simp only [Option.bind_some];have:=hol_eq hc ha (x:=a) hac (by rw [has];exact h0) (by rw [has];exact h1) (by rw [har];exact g1) (by rw [has];exact hm) i hi;rw [has,har] at this;cases h13 r.Op i
  · rfl
  · simp only [cal_t,this,Option.bind_some,cond_true]
theorem ref_loop_b1{c:Config}(hc:wfc c)(ha:acc c=true){s:Standing}{r:Request}(h0:0≤s.Part)(h1:s.Part<(c.Parts.length:Int))(g1:0≤r.Addr)(hm:s.Made.length≤300)(t3:Bool)(t10:ByteArray):
    ((loopω (G_sign_Refused.b1 c s r t3 t10 (r.Port / 2,ppt c r.Port,psd r.Port,true) rowsL) (0,0)).bind fun o=>o.on (fun _=>some 0) (fun r=>some r))=some (fst13 fun i=>h13 r.Op i&&hol (⟨r,c,s,pch c r.Port,psd r.Port,ppt c r.Port==s.Part⟩:Sign_asked) (amg s.Made r.Port) (prv c s.Part r.Addr) i):=by
  have h:=loop_find (B:=G_sign_Refused.b1 c s r t3 t10 (r.Port / 2,ppt c r.Port,psd r.Port,true) rowsL) 13 0 (fun i=>h13 r.Op i&&hol (⟨r,c,s,pch c r.Port,psd r.Port,ppt c r.Port==s.Part⟩:Sign_asked) (amg s.Made r.Port) (prv c s.Part r.Addr) i) (fun i=>(rd rowsL (i:Int)).code) (fun i hi=>by
    unfold G_sign_Refused.b1;rw [show decide (((i:Int),(0:Int)).1<(rowsL.length:Int))=true from lt_t (show i<rowsL.length from hi),show inb ((i:Int),(0:Int)).1 rowsL.length=true from inb_n (show i<rowsL.length from hi)];simp only [cond_true,req_t];refine (ref_step hc ha h0 h1 g1 hm (a:=(⟨r,c,s,pch c r.Port,psd r.Port,ppt c r.Port==s.Part⟩:Sign_asked)) rfl rfl rfl i hi (α:=Stp (Int×Int) (Ex (Int×Int) Int)) (fun t1 t2=>bif t1&&t2 then some (.out (.ret (rd rowsL (i:Int)).code)) else some (.next (IntKind.i64.wrap ((i:Int)+1),(0:Int)))) (fun _ _=>.inr trivial)).trans ?_;rw [wp1 (n:=13) hi (by decide)];cases h13 r.Op i
    · rfl
    · simp only [cond_true,Bool.true_and,bif_some]) (by unfold G_sign_Refused.b1;rfl) 13 0 rfl
  rw [show ((0:Nat):Int)=0 from rfl] at h;rw [h];unfold fst13;cases (List.range' 0 13).find? (fun i=>h13 r.Op i&&hol (⟨r,c,s,pch c r.Port,psd r.Port,ppt c r.Port==s.Part⟩:Sign_asked) (amg s.Made r.Port) (prv c s.Part r.Addr) i)<;>rfl
theorem ref_loop_b2{c:Config}(hc:wfc c)(ha:acc c=true){s:Standing}{r:Request}(h0:0≤s.Part)(h1:s.Part<(c.Parts.length:Int))(g1:0≤r.Addr)(hm:s.Made.length≤300)(t3:Bool)(t10:ByteArray):
    ((loopω (G_sign_Refused.b2 c s r t3 t10 (0,0,false,false) rowsL) (0,0)).bind fun o=>o.on (fun _=>some 0) (fun r=>some r))=some (fst13 fun i=>h13 r.Op i&&hol (⟨r,c,s,⟨0,0,0,0,0,0,0⟩,false,false⟩:Sign_asked) (amg s.Made r.Port) (prv c s.Part r.Addr) i):=by
  have h:=loop_find (B:=G_sign_Refused.b2 c s r t3 t10 (0,0,false,false) rowsL) 13 0 (fun i=>h13 r.Op i&&hol (⟨r,c,s,⟨0,0,0,0,0,0,0⟩,false,false⟩:Sign_asked) (amg s.Made r.Port) (prv c s.Part r.Addr) i) (fun i=>(rd rowsL (i:Int)).code) (fun i hi=>by
    unfold G_sign_Refused.b2;rw [show decide (((i:Int),(0:Int)).1<(rowsL.length:Int))=true from lt_t (show i<rowsL.length from hi),show inb ((i:Int),(0:Int)).1 rowsL.length=true from inb_n (show i<rowsL.length from hi)];simp only [cond_true,req_t];refine (ref_step hc ha h0 h1 g1 hm (a:=(⟨r,c,s,⟨0,0,0,0,0,0,0⟩,false,false⟩:Sign_asked)) rfl rfl rfl i hi (α:=Stp (Int×Int) (Ex (Int×Int) Int)) (fun t1 t2=>bif t1&&t2 then some (.out (.ret (rd rowsL (i:Int)).code)) else some (.next (IntKind.i64.wrap ((i:Int)+1),(0:Int)))) (fun _ _=>.inr trivial)).trans ?_;rw [wp1 (n:=13) hi (by decide)];cases h13 r.Op i
    · rfl
    · simp only [cond_true,Bool.true_and,bif_some]) (by unfold G_sign_Refused.b2;rfl) 13 0 rfl
  rw [show ((0:Nat):Int)=0 from rfl] at h;rw [h];unfold fst13;cases (List.range' 0 13).find? (fun i=>h13 r.Op i&&hol (⟨r,c,s,⟨0,0,0,0,0,0,0⟩,false,false⟩:Sign_asked) (amg s.Made r.Port) (prv c s.Part r.Addr) i)<;>rfl
theorem fst13_eq(p:Nat→Bool):fst13 p=bif p 0 then 4 else bif p 1 then 1 else bif p 2 then 5 else bif p 3 then 3 else bif p 4 then 5 else bif p 5 then 5 else bif p 6 then 5 else bif p 7 then 5 else bif p 8 then 5 else bif p 9 then 3 else bif p 10 then 4 else bif p 11 then 3 else bif p 12 then 6 else 0:=by
  show (match [0,1,2,3,4,5,6,7,8,9,10,11,12].find? p with
    | some j=>(rd rowsL (j:Int)).code
    | none=>0)=_
  simp only [List.find?_cons,List.find?_nil];cases p 0
  case true=>rfl
  cases p 1
  case true=>rfl
  cases p 2
  case true=>rfl
  cases p 3
  case true=>rfl
  cases p 4
  case true=>rfl
  cases p 5
  case true=>rfl
  cases p 6
  case true=>rfl
  cases p 7
  case true=>rfl
  cases p 8
  case true=>rfl
  cases p 9
  case true=>rfl
  cases p 10
  case true=>rfl
  cases p 11
  case true=>rfl
  cases p 12
  case true=>rfl
  rfl
theorem sref_rows{c:Config}(hc:wfc c)(ha:acc c=true){s:Standing}{r:Request}(h0:0≤s.Part)(h1:s.Part<(c.Parts.length:Int))(g1:0≤r.Addr)(hm:s.Made.length≤300)(p1: -9223372036854775808≤r.Port)(p2:r.Port≤9223372036854775807)(o1:1≤r.Op)(o2:r.Op≤9):
    G_sign_Refused c s r=some (fst13 fun i=>h13 r.Op i&&hol (ask c s r) (amg s.Made r.Port) (prv c s.Part r.Addr) i):=by
  unfold G_sign_Refused;have hn:∃b,G_sign_Name r.Op=some b∧(b.toList==(⟨#[]⟩:ByteArray).toList)=false:=by
    unfold G_sign_Name;rw [show (decide (r.Op<1)||decide (r.Op≥10))=false by simp;omega,inb_of (by omega) (by omega)];refine ⟨_,rfl,?_⟩;have hh:r.Op=1∨r.Op=2∨r.Op=3∨r.Op=4∨r.Op=5∨r.Op=6∨r.Op=7∨r.Op=8∨r.Op=9:=by omega
    rcases hh with h | h | h | h | h | h | h | h | h
    · rw [h,ByteArray.toList_eq,ByteArray.toList_eq];rfl
    · rw [h,ByteArray.toList_eq,ByteArray.toList_eq];rfl
    · rw [h,ByteArray.toList_eq,ByteArray.toList_eq];rfl
    · rw [h,ByteArray.toList_eq,ByteArray.toList_eq];rfl
    · rw [h,ByteArray.toList_eq,ByteArray.toList_eq];rfl
    · rw [h,ByteArray.toList_eq,ByteArray.toList_eq];rfl
    · rw [h,ByteArray.toList_eq,ByteArray.toList_eq];rfl
    · rw [h,ByteArray.toList_eq,ByteArray.toList_eq];rfl
    · rw [h,ByteArray.toList_eq,ByteArray.toList_eq];rfl
  obtain ⟨b,hb,hb2⟩:=hn;rw [acc_eq c hc,ha];simp only [Option.bind_some];rw [show (((!true)||decide (s.Part<0))||decide (s.Part≥(c.Parts.length:Int)))=false by simp;omega,hb];simp only [cond_false,Option.bind_some];rw [hb2,sport_eq hc ha p1 p2];simp only [cond_false,Option.bind_some];unfold ask;cases hp:prt c r.Port
  · simp only [cond_false,rows_eq,Option.bind_some];exact ref_loop_b2 hc ha h0 h1 g1 hm true b
  · simp only [cond_true,rows_eq,Option.bind_some];rw [inb_of (prt_in hp).1 (prt_in hp).2.1];simp only [req_t];exact ref_loop_b1 hc ha h0 h1 g1 hm true b
end Go.Proofs.YtdpfnklgdkigdaaGreatDoor
