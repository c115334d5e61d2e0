/- Plain law: the program's acceptance of a configuration and the document's are one. No statement of the seat is proved here. Conditions: none. -/
import Derived.Test.YtpdflibmhchlbaaGreatDoorPLoop
import Derived.Test.YtpdflibmhchlbaaGreatDoorGL
set_option linter.unusedVariables false
set_option linter.unusedSimpArgs false
namespace Go.Proofs.YtpdflibmhchlbaaGreatDoor
open Go Go.RowKit Go.Eng Go.IntKind
def inP(n:Nat)(p:Int):Bool:=decide (p≥0)&&decide (p<(n:Int))
def A6b(z:Int):Bool:=decide (z≥0)&&decide (z≤4294967295)
def chB(n:Nat)(k:Int)(x:Q2):Bool:=
  bif k==5 then x.u6 !=1&&x.u6 !=2 else bif k==6 then !inP n x.kr||!inP n x.To else bif k==7 then x.kr==x.To else bif k==8 then decide (x.py<1)||decide (x.py>16) else
  bif k==9 then ((x.u6==1)&&(x.z8 !=0))||(((((x.u6==2)&&(x.z8 !=1))&&(x.z8 !=2))&&(x.z8 !=4))&&(x.z8 !=8)) else
  bif k==10 then ((x.u6==1)&&(decide (x.kn<0)||decide (x.kn>1048576)))||((x.u6==2)&&(x.kn !=0)) else
  bif k==11 then (x.u6==1)&&(x.qn !=0) else false
def w14(c:C1)(f:Int)(w:F9):Bool:=!inP c.r8.length w.u3||((rd c.r8 w.u3).pz !=f)
def w15(L:Int)(w:F9):Bool:=((decide (w.ko<0)||decide (w.qk<1))||decide (w.ko>L))||decide (w.qk>i64.wrap (L - w.ko))
def w16(v w:F9):Bool:=((A6b w.ko&&A6b v.ko)&&A6b v.qk)&&decide (w.ko<i64.wrap (v.ko+v.qk))
def crs(l:List F9):Bool:=(List.range l.length).any fun i=>decide (i>0)&&w16 (rd l ((i - 1:Nat):Int)) (rd l (i:Int))
def frB(c:C1)(f k:Int):Bool:=
  bif k==12 then decide ((D2 c.r7 f).z5<1)||decide ((D2 c.r7 f).z5>64) else
  bif k==13 then decide (((D2 c.r7 f).r9.length:Int)>16) else
  bif k==14 then (D2 c.r7 f).r9.any (w14 c f) else
  bif k==15 then (D2 c.r7 f).r9.any (w15 (D2 c.r7 f).z5) else
  bif k==16 then crs (D2 c.r7 f).r9 else false
def hasW(c:C1)(core:Int)(p:Int):Bool:=(D2 c.r7 core).r9.any fun w=>w.u3==p
def b2(p:S5):Bool:=p.pz !=0&&p.pz !=1
def b3(p:S5):Bool:=decide (p.ka<0)||decide (p.ka>64)
def b17(c:C1)(p:Nat):Bool:=b2 (rd c.r8 (p:Int))||!hasW c (rd c.r8 (p:Int)).pz (p:Int)
def D(c:C1)(k:Int):Bool:=
  bif k==1 then decide ((c.r8.length:Int)<1)||decide ((c.r8.length:Int)>6) else
  bif k==2 then c.r8.any b2 else bif k==3 then c.r8.any b3 else
  bif k==17 then (List.range c.r8.length).any (b17 c) else
  bif k==4 then decide ((c.r6.length:Int)>8) else
  bif decide (k≥5)&&decide (k≤11) then c.r6.any (chB c.r8.length k) else
  bif decide (k≥12)&&decide (k≤16) then frB c 0 k||frB c 1 k else false
def acc(c:C1):Bool:=!((List.range' 1 17).any fun k=>D c (k:Int))
def wfc(c:C1):Prop:=c.r8.length≤maxLen∧c.r6.length≤maxLen∧c.r7.e0.r9.length≤maxLen∧c.r7.e1.r9.length≤maxLen
theorem B8y{c:C1}(h:A8q c):wfc c:=by
  obtain ⟨h1,h2,h3⟩:=h;obtain ⟨h4,h5⟩:=h3;exact ⟨h1.1,h2.1,h4.2.1,h5.2.1⟩
theorem wfc.win{c:C1}(h:wfc c)(f:Int):(D2 c.r7 f).r9.length≤maxLen:=by
  unfold D2;split
  · exact h.2.2.1
  · exact h.2.2.2
theorem B53(c:C1)(p:Int):U6 c p=some (inP c.r8.length p):=rfl
theorem B92(z:Int):U7 z=some (A6b z):=rfl
theorem B6w(c:C1)(hc:wfc c)(k:Int):P3 c k=some (c.r6.any (chB c.r8.length k)):=by
  unfold P3;rw [A1p (chB c.r8.length k) c.r6 false true (fun i hi=>?_) (by unfold P3.b1;rw [X2];rfl)]
  · cases c.r6.any (chB c.r8.length k)<;>rfl
  · unfold P3.b1 chB;simp only [Q6 hi,H4 hi,cond_true,D7,wp1 hi hc.2.1];generalize rd c.r6 (i:Int)=x;by_cases h5:(k==5)=true<;>simp only [h5,cond_true,cond_false,M7];by_cases h6:(k==6)=true<;>simp only [h6,cond_true,cond_false,M7]
    · simp only [B53,Option.bind_some];cases inP c.r8.length x.kr<;>simp only [Bool.not_true,Bool.not_false,A4m,A7m,Option.bind_some,Bool.false_or,Bool.true_or,M7,cond_true]
    by_cases h7:(k==7)=true<;>simp only [h7,cond_true,cond_false,M7];by_cases h8:(k==8)=true<;>simp only [h8,cond_true,cond_false,M7];by_cases h9:(k==9)=true<;>simp only [h9,cond_true,cond_false,M7];by_cases h10:(k==10)=true<;>simp only [h10,cond_true,cond_false,M7]
theorem B5d(c:C1)(hc:wfc c)(p:Nat)(hp:p<c.r8.length):N6 c (p:Int)=some (!b17 c p):=by
  unfold N6 b17 b2;simp only [H4 hp,D7,A3g];cases h:((((rd c.r8 (p:Int)).pz) !=0)&&(((rd c.r8 (p:Int)).pz) !=1))
  · simp only [cond_false];have h01:(rd c.r8 (p:Int)).pz=0∨(rd c.r8 (p:Int)).pz=1:=by
      by_cases h0:(rd c.r8 (p:Int)).pz=0
      · exact .inl h0
      · right;simpa [h0] using h
    rw [show inb ((rd c.r8 (p:Int)).pz) 2=true by rcases h01 with h | h<;>rw [h]<;>rfl,D7];rw [A1p (fun w=>w.u3==(p:Int)) (D2 c.r7 ((rd c.r8 (p:Int)).pz)).r9 false true (fun i hi=>?_) (by unfold N6.b1;rw [X2];rfl)]
    · unfold hasW;cases (D2 c.r7 ((rd c.r8 (p:Int)).pz)).r9.any (fun w=>w.u3==(p:Int))<;>rfl
    · unfold N6.b1;simp only [Q6 hi,H4 hi,cond_true,D7,wp1 hi (hc.win _),M7]
  · rfl
theorem A83(c:C1)(hc:wfc c)(f:Int)(hf:f=0∨f=1)(k:Int):H5 c f k=some (frB c f k):=by
  unfold H5 frB;have hf2:inb f 2=true:=by rcases hf with rfl | rfl<;>rfl
  simp only [hf2,D7,A3g];by_cases h12:(k==12)=true<;>simp only [h12,cond_true,cond_false];by_cases h13:(k==13)=true<;>simp only [h13,cond_true,cond_false];have hw:=hc.win f;generalize hL:(D2 c.r7 f).r9=l at*
  by_cases h14:(k==14)=true
  · simp only [h14,cond_true];rw [A1p (w14 c f) l false true (fun i hi=>?_) (by unfold H5.b1;rw [hL,X2];rfl)]
    · cases l.any (w14 c f)<;>rfl
    · have e:k=14:=by simpa using h14
      subst e;unfold H5.b1 w14;simp only [hL,Q6 hi,H4 hi,cond_true,D7,wp1 hi hw,hf2,A3g];rw [show ((14:Int)==14)=true from rfl,show ((14:Int)==15)=false from rfl,show ((14:Int)==16)=false from rfl];simp only [A4m,A7m,B53,Option.bind_some,Bool.true_and,Bool.false_and,cond_false,imp];cases h:inP c.r8.length (rd l (i:Int)).u3
      · simp
      · have:inb (rd l (i:Int)).u3 c.r8.length=true:=h;simp [this,M7]
  · by_cases h15:(k==15)=true
    · simp only [h14,h15,cond_true,cond_false];rw [A1p (w15 (D2 c.r7 f).z5) l false true (fun i hi=>?_) (by unfold H5.b1;rw [hL,X2];rfl)]
      · cases l.any (w15 (D2 c.r7 f).z5)<;>rfl
      · have e:k=15:=by simpa using h15
        subst e;unfold H5.b1 w15;simp only [hL,Q6 hi,H4 hi,cond_true,D7,wp1 hi hw,hf2,A3g];rw [show ((15:Int)==14)=false from rfl,show ((15:Int)==15)=true from rfl,show ((15:Int)==16)=false from rfl];simp only [A4m,A7m,Option.bind_some,Bool.true_and,Bool.false_and,cond_false,imp,Bool.not_false,Bool.true_or,D7,M7]
    · by_cases h16:(k==16)=true
      · simp only [h14,h15,h16,cond_true,cond_false];rw [A2b l.length false true (fun i=>decide (i>0)&&w16 (rd l ((i - 1:Nat):Int)) (rd l (i:Int))) (fun i hi=>?_) (by unfold H5.b1;rw [hL,X2];rfl)]
        · unfold crs;cases (List.range l.length).any _<;>rfl
        · have e:k=16:=by simpa using h16
          subst e;unfold H5.b1 w16;simp only [hL,Q6 hi,H4 hi,cond_true,D7,wp1 hi hw,hf2,A3g];rw [show ((16:Int)==14)=false from rfl,show ((16:Int)==15)=false from rfl,show ((16:Int)==16)=true from rfl];simp only [A4m,A7m,Option.bind_some,Bool.true_and,Bool.false_and,cond_false,imp,Bool.not_false,Bool.true_or,D7,M7];by_cases h0:i=0
          · subst h0;simp
          · have e1:decide ((i:Int)>0)=true:=by simp;omega
            have e2:decide (i>0)=true:=by simp;omega
            have e3:i64.wrap ((i:Int) - 1)=((i - 1:Nat):Int):=by simp only [maxLen] at hw;rw [w64]<;>omega
            have e4:inb ((i - 1:Nat):Int) l.length=true:=H4 (by omega);simp only [e1,e2,e3,e4,A3g,B92,Bool.true_and,A4m,Option.bind_some,Bool.or_true,D7];cases A6b (rd l (i:Int)).ko<;>simp only [A4m,A7m,Option.bind_some,Bool.true_and,Bool.false_and,cond_false,M7];cases A6b (rd l ((i - 1:Nat):Int)).ko<;>simp only [A4m,A7m,Option.bind_some,Bool.true_and,Bool.false_and,cond_false,M7]
      · simp only [h14,h15,h16,cond_true,cond_false];have hany:(List.range l.length).any (fun _=>false)=false:=by simp
        rw [A2b l.length false true (fun i=>false) (fun i hi=>?_) (by unfold H5.b1;rw [hL,X2];rfl),hany]
        · rfl
        · unfold H5.b1;simp only [Bool.not_eq_true] at h14 h15 h16;simp only [hL,Q6 hi,H4 hi,cond_true,D7,wp1 hi hw,hf2,A3g,h14,h15,h16,A7m,Option.bind_some,Bool.false_and,cond_false,imp,Bool.not_false,Bool.true_or]
theorem B7x(c:C1)(hc:wfc c)(k:Int):N8 c k=some (D c k):=by
  unfold N8 D;by_cases h1:(k==1)=true<;>simp only [h1,cond_true,cond_false];have key:∀q:Nat→Bool,(∀i:Nat,i<c.r8.length→q i=((k==2)&&b2 (rd c.r8 (i:Int))||(k==3)&&b3 (rd c.r8 (i:Int))||(k==17)&&b17 c i))→
      ((F3 (N8.b1 c k) (0,false)).bind fun o=>o.on (fun s1=>some false) (fun r=>some r))=some ((List.range c.r8.length).any q):=by
    intro q hq;rw [A2b c.r8.length false true q (fun i hi=>?_) (by unfold N8.b1;rw [X2];rfl)]
    · cases (List.range c.r8.length).any q<;>rfl
    · unfold N8.b1;rw [hq i hi];simp only [Q6 hi,H4 hi,cond_true,D7,wp1 hi hc.1,B5d c hc i hi];unfold b2 b3;have assoc:∀a b d:Bool,((a&&b)&&d)=(a&&(b&&d)):=by decide
      simp only [assoc];cases (k==2)&&((rd c.r8 (i:Int)).pz !=0&&(rd c.r8 (i:Int)).pz !=1)<;>
        cases (k==3)&&(decide ((rd c.r8 (i:Int)).ka<0)||decide ((rd c.r8 (i:Int)).ka>64))<;>
        cases (k==17)<;>simp [cal,M7]
  by_cases h2:(k==2)=true
  · have e:k=2:=by simpa using h2
    subst e;simp only [h2,Bool.true_or,cond_true];rw [key (fun i=>b2 (rd c.r8 (i:Int))) (fun i hi=>by simp),A5g]
  by_cases h3:(k==3)=true
  · have e:k=3:=by simpa using h3
    subst e;simp only [h3,Bool.true_or,Bool.or_true,cond_true];rw [key (fun i=>b3 (rd c.r8 (i:Int))) (fun i hi=>by simp),A5g];rfl
  by_cases h17:(k==17)=true
  · have e:k=17:=by simpa using h17
    subst e;simp only [h17,Bool.or_true,cond_true];rw [key (fun i=>b17 c i) (fun i hi=>by simp)];rfl
  simp only [Bool.not_eq_true] at h2 h3 h17;simp only [h2,h3,h17,Bool.or_false,cond_false];by_cases h4:(k==4)=true<;>simp only [h4,cond_true,cond_false];cases h5:(decide (k≥5)&&decide (k≤11))<;>simp only [cond_true,cond_false]
  · cases h12:(decide (k≥12)&&decide (k≤16))<;>simp only [cond_true,cond_false];rw [A83 c hc 0 (.inl rfl),A83 c hc 1 (.inr rfl)];cases frB c 0 k<;>rfl
  · rw [B6w c hc];rfl
theorem A9k(c:C1)(hc:wfc c):∀(m k:Nat) (out:List Int),k+m=18→out.length+m≤17→F3 (S7.b1 c) ((k:Int),out)=some (.brk (18,out++((List.range' k m).filter fun k:Nat=>D c (k:Int)).map Int.ofNat))
  | 0,k,out,h,ho=>by
    rw [L9,show k=18 by omega];simp [S7.b1]
  | m +1,k,out,h,ho=>by
    have hw:i64.wrap ((k:Int)+1)=((k+1:Nat):Int):=by rw [w64]<;>omega
    rw [L9,List.range'_succ,List.filter_cons];simp only [S7.b1,show decide ((k:Int)≤17)=true by simp;omega,cond_true,B7x c hc,Option.bind_some,hw];cases D c (k:Int)
    · exact A9k c hc m (k+1) out (by omega) (by omega)
    · simp only [cond_true,if_true];rw [show decide ((out.length+1)*8≤140737488355328)=true by simp;omega];have:=A9k c hc m (k+1) (out++[(k:Int)]) (by omega) (by simp;omega)
      simpa using this
theorem A43(c:C1)(hc:wfc c):L2 c=some (acc c):=by
  unfold L2 S7 acc;have:=A9k c hc 17 1 [] (by omega) (by simp);rw [show ((1:Nat):Int)=1 from rfl] at this;rw [this];simp only [Option.bind_some,Ex.on_brk,List.nil_append,List.length_map,Option.some.injEq];cases h:(List.range' 1 17).any (fun k:Nat=>D c (k:Int))
  · have:(List.range' 1 17).filter (fun k:Nat=>D c (k:Int))=[]:=by rw [List.filter_eq_nil_iff];intro a ha;rw [List.any_eq_false] at h;exact h a ha
    rw [this];rfl
  · rw [List.any_eq_true] at h;obtain ⟨x,hx,hd⟩:=h;have:x∈(List.range' 1 17).filter (fun k:Nat=>D c (k:Int)):=List.mem_filter.2 ⟨hx,hd⟩;cases hf:(List.range' 1 17).filter (fun k:Nat=>D c (k:Int)) with
    | nil=>rw [hf] at this;cases this
    | cons y r=>simp;omega
theorem A6p(n low high:Int):G4 n low high=some (decide (n≥low)&&decide (n≤high)):=rfl
theorem B7z(l:List S5)(hl:l.length≤maxLen)(f:U4)(q:S5→Bool)(hq:∀x,U4.run f x=some (q x)):V2 l f=some (l.any q):=by
  unfold V2 N3;have h:=A09 (B:=N3.b1 l f) l.length 0 (fun i=>q (rd l (i:Int))) (fun i=>(i:Int)) (fun i hi=>by
    unfold N3.b1;simp only [Q6 hi,H4 hi,cond_true,D7,wp1 hi hl,hq,Option.bind_some,M7]) (by unfold N3.b1;rw [X2];rfl) l.length 0 (by omega)
  rw [show ((0:Nat):Int)=0 from rfl] at h;rw [h,← A5g,List.range_eq_range'];cases h2:(List.range' 0 l.length).find? (fun i:Nat=>q (rd l (i:Int))) with
  | none=>simp only [Option.bind_some,Ex.on_brk,Option.some.injEq];rw [show (List.range' 0 l.length).any (fun i:Nat=>q (rd l (i:Int)))=false by simpa using h2];rfl
  | some j=>simp only [Option.bind_some,Ex.on_ret,Option.some.injEq];rw [show (List.range' 0 l.length).any (fun i:Nat=>q (rd l (i:Int)))=true by rw [List.any_eq_true];exact ⟨j,List.mem_of_find?_eq_some h2,List.find?_some (p:=fun i:Nat=>q (rd l (i:Int))) h2⟩];simp
theorem B7y(l:List Q2)(hl:l.length≤maxLen)(f:A0d)(q:Q2→Bool)(hq:∀x,A0d.run f x=some (q x)):V1 l f=some (l.any q):=by
  unfold V1 N2;have h:=A09 (B:=N2.b1 l f) l.length 0 (fun i=>q (rd l (i:Int))) (fun i=>(i:Int)) (fun i hi=>by
    unfold N2.b1;simp only [Q6 hi,H4 hi,cond_true,D7,wp1 hi hl,hq,Option.bind_some,M7]) (by unfold N2.b1;rw [X2];rfl) l.length 0 (by omega)
  rw [show ((0:Nat):Int)=0 from rfl] at h;rw [h,← A5g,List.range_eq_range'];cases h2:(List.range' 0 l.length).find? (fun i:Nat=>q (rd l (i:Int))) with
  | none=>simp only [Option.bind_some,Ex.on_brk,Option.some.injEq];rw [show (List.range' 0 l.length).any (fun i:Nat=>q (rd l (i:Int)))=false by simpa using h2];rfl
  | some j=>simp only [Option.bind_some,Ex.on_ret,Option.some.injEq];rw [show (List.range' 0 l.length).any (fun i:Nat=>q (rd l (i:Int)))=true by rw [List.any_eq_true];exact ⟨j,List.mem_of_find?_eq_some h2,List.find?_some (p:=fun i:Nat=>q (rd l (i:Int))) h2⟩];simp
theorem B5z(l:List F9)(hl:l.length≤maxLen)(f:Y4)(q:F9→Bool)(hq:∀x,Y4.run f x=some (q x)):P4 l f=some (l.any q):=by
  unfold P4 L1;have h:=A09 (B:=L1.b1 l f) l.length 0 (fun i=>q (rd l (i:Int))) (fun i=>(i:Int)) (fun i hi=>by
    unfold L1.b1;simp only [Q6 hi,H4 hi,cond_true,D7,wp1 hi hl,hq,Option.bind_some,M7]) (by unfold L1.b1;rw [X2];rfl) l.length 0 (by omega)
  rw [show ((0:Nat):Int)=0 from rfl] at h;rw [h,← A5g,List.range_eq_range'];cases h2:(List.range' 0 l.length).find? (fun i:Nat=>q (rd l (i:Int))) with
  | none=>simp only [Option.bind_some,Ex.on_brk,Option.some.injEq];rw [show (List.range' 0 l.length).any (fun i:Nat=>q (rd l (i:Int)))=false by simpa using h2];rfl
  | some j=>simp only [Option.bind_some,Ex.on_ret,Option.some.injEq];rw [show (List.range' 0 l.length).any (fun i:Nat=>q (rd l (i:Int)))=true by rw [List.any_eq_true];exact ⟨j,List.mem_of_find?_eq_some h2,List.find?_some (p:=fun i:Nat=>q (rd l (i:Int))) h2⟩];simp
theorem A7g(c:C1)(hc:wfc c)(p:Int):M6 c p=some (!inP c.r8.length p):=by
  unfold M6;have:i64.wrap ((c.r8.length:Int) - 1)=(c.r8.length:Int) - 1:=by have:=hc.1;simp only [maxLen] at this;rw [w64]<;>omega
  rw [this,A6p,Option.bind_some]
  congr 3
  simp;omega
theorem A4p(n low high:Int):(!(decide (n≥low)&&decide (n≤high)))=(decide (n<low)||decide (n>high)):=by
  rw [Bool.not_and];congr 1<;>(rw [← decide_not];congr 1;simp [Int.not_le,Int.not_lt])
def rl:List H6:=[⟨.f105⟩,⟨.f132 .f108⟩,⟨.f132 .f109⟩,⟨.f110⟩,⟨.f134 .f112⟩,⟨.f134 .f113⟩,⟨.f134 .f115⟩,⟨.f134 .f116⟩,⟨.f134 .f117⟩,⟨.f134 .f119⟩,⟨.f134 .f121⟩,⟨.f137 .f123⟩,⟨.f137 .f124⟩,⟨.f137 (.f138 .f126)⟩,⟨.f137 (.f138 .f127)⟩,⟨.f137 .f128⟩,⟨.f129⟩]
theorem B8o:A0g=some rl:=rfl
theorem prule{c:C1}(hc:wfc c){f:U4}{q:S5→Bool}(hq:∀x,U4.run f x=some (q x)):A1s.run (.f132 f) c=some (c.r8.any q):=by
  show (V2 c.r8 f).bind _=_;rw [B7z c.r8 hc.1 f q hq];rfl
theorem A9o{c:C1}(hc:wfc c){f:O7}{q:Q2→Bool}(hq:∀x,O7.run f c x=some (q x)):A1s.run (.f134 f) c=some (c.r6.any q):=by
  show (V1 c.r6 (A0d.f136 f c)).bind _=_;rw [B7y c.r6 hc.2.1 _ q (fun x=>by show (O7.run f c x).bind _=_;rw [hq];rfl)];rfl
theorem B3b{c:C1}{f:A0t}{q:Int→Bool}(hq:∀i,i=0∨i=1→A0t.run f c i=some (q i)):A1s.run (.f137 f) c=some (q 0||q 1):=by
  show (A0t.run f c 0).bind _=_;rw [hq 0 (.inl rfl),Option.bind_some,hq 1 (.inr rfl)];cases q 0<;>rfl
theorem wrule{c:C1}(hc:wfc c){f:W5}{i:Int}(hi:i=0∨i=1){q:F9→Bool}(hq:∀x,W5.run f c i x=some (q x)):A0t.run (.f138 f) c i=some ((D2 c.r7 i).r9.any q):=by
  show R2 c i f=_;unfold R2;rw [show inb i 2=true by rcases hi with rfl | rfl<;>rfl,D7,B5z _ (hc.win i) _ q (fun x=>by show (W5.run f c i x).bind _=_;rw [hq];rfl)];rfl
theorem B8q(a b d:Int):N5 [a,b,d]=some ((A6b a&&A6b b)&&A6b d):=by
  unfold N5;have hw:∀z,G4 z 0 4294967295=some (A6b z):=fun z=>rfl;rw [A1p (fun z=>!A6b z) [a,b,d] false false (fun i hi=>?_) (by unfold N5.b1;rw [X2];rfl)]
  · cases h1:A6b a<;>cases h2:A6b b<;>cases h3:A6b d<;>simp [h1,h2,h3]
  · unfold N5.b1;simp only [Q6 hi,H4 hi,cond_true,D7,hw,Option.bind_some,wp1 hi (show [a,b,d].length≤maxLen by simp [maxLen]),M7]
theorem B4c(c:C1)(hc:wfc c)(f:Int)(hf:f=0∨f=1):I2 c f=some (crs (D2 c.r7 f).r9):=by
  unfold I2;rw [show inb f 2=true by rcases hf with rfl | rfl<;>rfl,D7];have hw:=hc.win f;generalize hL:(D2 c.r7 f).r9=l at*
  let p:Nat→Bool:=fun i=>decide (i>0)&&w16 (rd l ((i - 1:Nat):Int)) (rd l (i:Int))
  have hp:(List.range l.length).any p=crs l:=rfl;have hstep:∀i:Nat,1≤i→i<l.length→I2.b1 c f ((i:Int),false)=some (bif p i then .out (.ret true) else .next (((i+1:Nat):Int),false)):=by
    intro i h1 hi;unfold I2.b1;have e2:decide (i>0)=true:=by simp;omega
    have e3:i64.wrap ((i:Int) - 1)=((i - 1:Nat):Int):=by simp only [maxLen] at hw;rw [w64]<;>omega
    have e4:inb ((i - 1:Nat):Int) l.length=true:=H4 (by omega);simp only [hL,Q6 hi,H4 hi,cond_true,D7,e3,e4,wp1 hi hw,B8q,Option.bind_some,M7,p,e2,Bool.true_and];unfold w16
    congr 2
    cases A6b (rd l ((i - 1:Nat):Int)).ko<;>cases A6b (rd l ((i - 1:Nat):Int)).qk<;>cases A6b (rd l (i:Int)).ko<;>simp
  have hend:I2.b1 c f ((l.length:Int),false)=some (.out (.brk ((l.length:Int),false))):=by unfold I2.b1;rw [hL,X2];rfl
  by_cases h0:l.length=0
  · rw [L9];unfold I2.b1;have:l=[]:=List.length_eq_zero_iff.1 h0;subst this;simp only [hL];rfl
  · have key:∀(k i:Nat),1≤i→i+k=l.length→F3 (I2.b1 c f) ((i:Int),false)=some (bif (List.range' i k).any p then .ret true else .brk ((l.length:Int),false)):=by
      intro k
      induction k with
      | zero=>intro i h1 h;rw [L9,show i=l.length by omega,hend];rfl
      | succ k ih=>
        intro i h1 h;rw [L9,hstep i h1 (by omega),List.range'_succ,List.any_cons];cases p i
        · exact ih (i+1) (by omega) (by omega)
        · rfl
    have:=key (l.length - 1) 1 (by omega) (by omega);rw [show ((1:Nat):Int)=1 from rfl] at this;rw [this,← hp,List.range_eq_range',show l.length=(l.length - 1)+1 by omega,List.range'_succ,List.any_cons];have:p 0=false:=rfl;rw [this];simp only [Nat.add_sub_cancel,Bool.false_or];cases (List.range' (0+1) (l.length - 1)).any p<;>rfl
theorem B9h(c:C1)(hc:wfc c):P2 c=some ((List.range c.r8.length).any (b17 c)):=by
  unfold P2;rw [A2b c.r8.length false true (b17 c) (fun i hi=>?_) (by unfold P2.b1;rw [X2];rfl)]
  · cases (List.range c.r8.length).any (b17 c)<;>rfl
  · unfold P2.b1 b17 b2;simp only [Q6 hi,H4 hi,cond_true,D7,wp1 hi hc.1,A6p,Option.bind_some];have e:(!(decide ((rd c.r8 (i:Int)).pz≥0)&&decide ((rd c.r8 (i:Int)).pz≤1)))=((rd c.r8 (i:Int)).pz !=0&&(rd c.r8 (i:Int)).pz !=1):=by
      rw [Bool.eq_iff_iff];simp;omega
    rw [e];cases h:((rd c.r8 (i:Int)).pz !=0&&(rd c.r8 (i:Int)).pz !=1)
    · have h01:inb (rd c.r8 (i:Int)).pz 2=true:=by
        simp at h;by_cases h0:(rd c.r8 (i:Int)).pz=0
        · rw [h0];rfl
        · rw [h h0];rfl
      simp only [Bool.not_false,h01,A3g,D7,A4m];rw [B5z _ (hc.win _) _ (fun w=>w.u3==(i:Int)) (fun x=>rfl)];unfold hasW;simp only [Option.bind_some,Bool.false_or,M7]
    · simp [imp,cal,M7]
theorem run_eq(c:C1)(hc:wfc c)(k:Nat)(hk:k<17):A1s.run (rd rl (k:Int)).holds c=some (D c ((k+1:Nat):Int)):=by
  have hk:k=0∨k=1∨k=2∨k=3∨k=4∨k=5∨k=6∨k=7∨k=8∨k=9∨k=10∨k=11∨k=12∨k=13∨k=14∨k=15∨k=16:=by omega
  have ce:∀ {k:Int} {p:Q2→Bool},(∀x,p x=chB c.r8.length k x)→some (c.r6.any p)=some (c.r6.any (chB c.r8.length k)):=fun h=>congrArg some (A8b fun x _=>h x);rcases hk with rfl | rfl | rfl | rfl | rfl | rfl | rfl | rfl | rfl | rfl | rfl | rfl | rfl | rfl | rfl | rfl | rfl
  · show some _=some _;exact congrArg some (A4p _ _ _)
  · refine (prule hc (f:=.f108) (q:=b2) fun x=>?_).trans rfl;show some _=some _
    congr 1
    unfold b2;rw [Bool.eq_iff_iff];simp;omega
  · refine (prule hc (f:=.f109) (q:=b3) fun x=>?_).trans rfl;exact congrArg some (A4p x.ka 0 64)
  · rfl
  · exact (A9o hc (q:=chB c.r8.length 5) fun x=>rfl).trans rfl
  · refine (A9o hc (q:=chB c.r8.length 6) fun x=>?_).trans rfl;show T6 c x=_;unfold T6;rw [A7g c hc,Option.bind_some,A7g c hc];show _=some (!inP c.r8.length x.kr||!inP c.r8.length x.To);cases inP c.r8.length x.kr<;>rfl
  · exact (A9o hc (q:=chB c.r8.length 7) fun x=>rfl).trans rfl
  · refine (A9o hc (f:=.f116) (q:=chB c.r8.length 8) fun x=>?_).trans rfl;exact congrArg some (A4p x.py 1 16)
  · refine (A9o hc (q:=chB c.r8.length 9) fun x=>?_).trans rfl;show T7 c x=some (((x.u6==1)&&(x.z8 !=0))||(((((x.u6==2)&&(x.z8 !=1))&&(x.z8 !=2))&&(x.z8 !=4))&&(x.z8 !=8)));unfold T7 A06;by_cases h1:x.u6=1
    · simp [h1,bne]
    · by_cases h2:x.u6=2
      · simp [h2,bne,Bool.and_assoc]
      · have e1:(x.u6==1)=false:=by simpa using h1
        have e2:(x.u6==2)=false:=by simpa using h2
        simp [e1,e2]
  · refine (A9o hc (q:=chB c.r8.length 10) fun x=>?_).trans rfl;show Q9 c x=some (((x.u6==1)&&(decide (x.kn<0)||decide (x.kn>1048576)))||((x.u6==2)&&(x.kn !=0)));unfold Q9 A0f;by_cases h1:x.u6=1
    · have:=A4p x.kn 0 1048576;simp [h1,A6p] at this ⊢;exact this
    · by_cases h2:x.u6=2
      · simp [h2,bne]
      · have e1:(x.u6==1)=false:=by simpa using h1
        have e2:(x.u6==2)=false:=by simpa using h2
        simp [e1,e2]
  · exact (A9o hc (q:=chB c.r8.length 11) fun x=>rfl).trans rfl
  · refine (B3b (q:=fun f=>frB c f 12) fun i hi=>?_).trans rfl;show R0 c i=some (decide ((D2 c.r7 i).z5<1)||decide ((D2 c.r7 i).z5>64));unfold R0;rw [show inb i 2=true by rcases hi with rfl | rfl<;>rfl,D7,A6p,Option.bind_some,A4p]
  · refine (B3b (q:=fun f=>frB c f 13) fun i hi=>?_).trans rfl;show R1 c i=some (decide (((D2 c.r7 i).r9.length:Int)>16));unfold R1;rw [show inb i 2=true by rcases hi with rfl | rfl<;>rfl,D7]
  · refine (B3b (q:=fun f=>frB c f 14) fun i hi=>?_).trans rfl;refine (wrule hc hi (q:=w14 c i) fun x=>?_).trans rfl;show T4 c i x=_;unfold T4 w14;rw [A7g c hc,Option.bind_some];rw [show imp (!(!inP c.r8.length x.u3)) (inb x.u3 c.r8.length)=true from A1g fun h=>by rw [Bool.not_not] at h;exact h,D7]
  · refine (B3b (q:=fun f=>frB c f 15) fun i hi=>?_).trans rfl;refine (wrule hc hi (q:=w15 (D2 c.r7 i).z5) fun x=>?_).trans rfl;show T5 c i x=_;unfold T5 w15;rw [show inb i 2=true by rcases hi with rfl | rfl<;>rfl,A3g,D7];unfold Y0;cases (decide (x.ko<0)||decide (x.qk<1))<;>simp
  · refine (B3b (q:=fun f=>frB c f 16) fun i hi=>?_).trans rfl;exact B4c c hc i hi
  · exact B9h c hc
theorem A5k{σt R:Type}(bd:σt→Int→Option (Stp σt R))(s0:σt)(c:C1)(hc:wfc c):∀(m k:Nat) (s:σt),k+m=17→((F3 (I1.b1 bd s0 c rl) ((k:Int),s)).bind fun o=>o.on (fun s1=>some (.next s1.2)) (fun r=>some r))=B29 bd s (((List.range' (k+1) m).filter fun k:Nat=>D c (k:Int)).map Int.ofNat)
  | 0,k,s,h=>by
    rw [L9,show k=17 by omega];rfl
  | m + 1,k,s,h=>by
    have hw:i64.wrap ((k:Int)+1)=((k+1:Nat):Int):=by rw [w64]<;>omega
    rw [L9,List.range'_succ,List.filter_cons];simp only [I1.b1,show rl.length=17 from rfl,Q6 (show k<17 by omega),H4 (show k<17 by omega),cond_true,D7,run_eq c hc k (by omega),Option.bind_some,hw];cases D c ((k+1:Nat):Int)
    · exact A5k bd s0 c hc m (k+1) s (by omega)
    · simp only [cond_true,if_true,List.map_cons,B4m];rw [show Int.ofNat (k+1)=((k+1:Nat):Int) from rfl];cases bd s ((k+1:Nat):Int) with
      | none=>rfl
      | some z=>
        cases z with
        | next s'=>simp only [Option.bind_some,Stp.on_next];exact A5k bd s0 c hc m (k+1) s' (by omega)
        | out r=>rfl
theorem B6k{σt R:Type}(bd:σt→Int→Option (Stp σt R))(s0:σt)(c:C1)(hc:wfc c):I1 bd s0 c=B29 bd s0 (((List.range' 1 17).filter fun k:Nat=>D c (k:Int)).map Int.ofNat):=by
  unfold I1;rw [B8o,Option.bind_some];exact A5k bd s0 c hc 17 0 s0 (by omega)
def fstD(c:C1):Int:=match (List.range' 1 17).filter fun k:Nat=>D c (k:Int) with | []=>0 | k::_=>(k:Int)
theorem B7q(c:C1)(hc:wfc c):O9 c=some (fstD c):=by
  unfold O9 fstD;simp only [A1k,Option.bind_some,B6k _ _ c hc];cases (List.range' 1 17).filter fun k:Nat=>D c (k:Int) with
  | nil=>rfl
  | cons k l=>rfl
theorem A9i(c:C1)(hc:wfc c):M5 c=some (acc c):=by
  unfold M5 acc;rw [B7q c hc,Option.bind_some];unfold fstD
  congr 1
  cases h:(List.range' 1 17).any (fun k:Nat=>D c (k:Int))
  · have:(List.range' 1 17).filter (fun k:Nat=>D c (k:Int))=[]:=by rw [List.filter_eq_nil_iff];intro a ha;rw [List.any_eq_false] at h;exact h a ha
    rw [this];rfl
  · rw [List.any_eq_true] at h;obtain ⟨x,hx,hd⟩:=h;have:x∈(List.range' 1 17).filter (fun k:Nat=>D c (k:Int)):=List.mem_filter.2 ⟨hx,hd⟩;cases hf:(List.range' 1 17).filter (fun k:Nat=>D c (k:Int)) with
    | nil=>rw [hf] at this;cases this
    | cons y r=>
      have hy:y∈(List.range' 1 17).filter (fun k:Nat=>D c (k:Int)):=by rw [hf];simp
      have:=(List.mem_range'_1.1 (List.mem_filter.1 hy).1).1;simp;omega
end Go.Proofs.YtpdflibmhchlbaaGreatDoor
