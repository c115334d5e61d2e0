/- Plain law: the program's acceptance of a configuration and the document's are one. No statement of the seat is proved here. Conditions: none. -/
import Derived.Test.YtdpfnklgdkigdaaGreatDoorPLoop
import Derived.Test.YtdpfnklgdkigdaaGreatDoorGB
set_option linter.unusedVariables false
set_option linter.unusedSimpArgs false
namespace Go.Proofs.YtdpfnklgdkigdaaGreatDoor
open Go Go.RowKit Go.Eng
def inP(n:Nat)(p:Int):Bool:=decide (p≥0)&&decide (p<(n:Int))
def word(z:Int):Bool:=decide (z≥0)&&decide (z≤4294967295)
def chB(n:Nat)(k:Int)(x:Chan):Bool:=
  bif k==5 then x.Kind !=1&&x.Kind !=2 else bif k==6 then !inP n x.From||!inP n x.To else bif k==7 then x.From==x.To else bif k==8 then decide (x.Words<1)||decide (x.Words>16) else
  bif k==9 then ((x.Kind==1)&&(x.Depth !=0))||(((((x.Kind==2)&&(x.Depth !=1))&&(x.Depth !=2))&&(x.Depth !=4))&&(x.Depth !=8)) else
  bif k==10 then ((x.Kind==1)&&(decide (x.Period<0)||decide (x.Period>1048576)))||((x.Kind==2)&&(x.Period !=0)) else
  bif k==11 then (x.Kind==1)&&(x.Boot !=0) else false
def w14(c:Config)(f:Int)(w:Window):Bool:=!inP c.Parts.length w.Part||((rd c.Parts w.Part).Core !=f)
def w15(L:Int)(w:Window):Bool:=((decide (w.Start<0)||decide (w.Len<1))||decide (w.Start>L))||decide (w.Len>IntKind.i64.wrap (L - w.Start))
def w16(v w:Window):Bool:=((word w.Start&&word v.Start)&&word v.Len)&&decide (w.Start<IntKind.i64.wrap (v.Start+v.Len))
def crs(l:List Window):Bool:=(List.range l.length).any fun i=>decide (i>0)&&w16 (rd l ((i - 1:Nat):Int)) (rd l (i:Int))
def frB(c:Config)(f k:Int):Bool:=
  bif k==12 then decide ((rdA_St27 c.Frames f).Length<1)||decide ((rdA_St27 c.Frames f).Length>64) else
  bif k==13 then decide (((rdA_St27 c.Frames f).Windows.length:Int)>16) else
  bif k==14 then (rdA_St27 c.Frames f).Windows.any (w14 c f) else
  bif k==15 then (rdA_St27 c.Frames f).Windows.any (w15 (rdA_St27 c.Frames f).Length) else
  bif k==16 then crs (rdA_St27 c.Frames f).Windows else false
def hasW(c:Config)(core:Int)(p:Int):Bool:=(rdA_St27 c.Frames core).Windows.any fun w=>w.Part==p
def b2(p:Part):Bool:=p.Core !=0&&p.Core !=1
def b3(p:Part):Bool:=decide (p.Private<0)||decide (p.Private>64)
def b17(c:Config)(p:Nat):Bool:=b2 (rd c.Parts (p:Int))||!hasW c (rd c.Parts (p:Int)).Core (p:Int)
def D(c:Config)(k:Int):Bool:=
  bif k==1 then decide ((c.Parts.length:Int)<1)||decide ((c.Parts.length:Int)>6) else
  bif k==2 then c.Parts.any b2 else bif k==3 then c.Parts.any b3 else
  bif k==17 then (List.range c.Parts.length).any (b17 c) else
  bif k==4 then decide ((c.Chans.length:Int)>8) else
  bif decide (k≥5)&&decide (k≤11) then c.Chans.any (chB c.Parts.length k) else
  bif decide (k≥12)&&decide (k≤16) then frB c 0 k||frB c 1 k else false
def acc(c:Config):Bool:=!((List.range' 1 17).any fun k=>D c (k:Int))
def wfc(c:Config):Prop:=c.Parts.length≤maxLen∧c.Chans.length≤maxLen∧c.Frames.e0.Windows.length≤maxLen∧c.Frames.e1.Windows.length≤maxLen
theorem wfc_of{c:Config}(h:wf_Config c):wfc c:=by
  obtain ⟨h1,h2,h3⟩:=h;obtain ⟨h4,h5⟩:=h3;exact ⟨h1.1,h2.1,h4.2.1,h5.2.1⟩
theorem wfc.win{c:Config}(h:wfc c)(f:Int):(rdA_St27 c.Frames f).Windows.length≤maxLen:=by
  unfold rdA_St27;split
  · exact h.2.2.1
  · exact h.2.2.2
theorem part_eq(c:Config)(p:Int):G_ref07_part c p=some (inP c.Parts.length p):=rfl
theorem word_eq(z:Int):G_ref07_word z=some (word z):=rfl
theorem rchans_eq(c:Config)(hc:wfc c)(k:Int):G_ref07_chans c k=some (c.Chans.any (chB c.Parts.length k)):=by
  unfold G_ref07_chans;rw [loop_anyL (chB c.Parts.length k) c.Chans false true (fun i hi=>?_) (by unfold G_ref07_chans.b1;rw [lt_f];rfl)]
  · cases c.Chans.any (chB c.Parts.length k)<;>rfl
  · unfold G_ref07_chans.b1 chB;simp only [lt_t hi,inb_n hi,cond_true,req_t,wp1 hi hc.2.1];generalize rd c.Chans (i:Int)=x;by_cases h5:(k==5)=true<;>simp only [h5,cond_true,cond_false,bif_some];by_cases h6:(k==6)=true<;>simp only [h6,cond_true,cond_false,bif_some]
    · simp only [part_eq,Option.bind_some];cases inP c.Parts.length x.From<;>simp only [Bool.not_true,Bool.not_false,cal_t,cal_f,Option.bind_some,Bool.false_or,Bool.true_or,bif_some,cond_true]
    by_cases h7:(k==7)=true<;>simp only [h7,cond_true,cond_false,bif_some];by_cases h8:(k==8)=true<;>simp only [h8,cond_true,cond_false,bif_some];by_cases h9:(k==9)=true<;>simp only [h9,cond_true,cond_false,bif_some];by_cases h10:(k==10)=true<;>simp only [h10,cond_true,cond_false,bif_some]
theorem rwindow_eq(c:Config)(hc:wfc c)(p:Nat)(hp:p<c.Parts.length):G_ref07_window c (p:Int)=some (!b17 c p):=by
  unfold G_ref07_window b17 b2;simp only [inb_n hp,req_t,imp_tt];cases h:((((rd c.Parts (p:Int)).Core) !=0)&&(((rd c.Parts (p:Int)).Core) !=1))
  · simp only [cond_false];have h01:(rd c.Parts (p:Int)).Core=0∨(rd c.Parts (p:Int)).Core=1:=by
      by_cases h0:(rd c.Parts (p:Int)).Core=0
      · exact .inl h0
      · right;simpa [h0] using h
    rw [show inb ((rd c.Parts (p:Int)).Core) 2=true by rcases h01 with h | h<;>rw [h]<;>rfl,req_t];rw [loop_anyL (fun w=>w.Part==(p:Int)) (rdA_St27 c.Frames ((rd c.Parts (p:Int)).Core)).Windows false true (fun i hi=>?_) (by unfold G_ref07_window.b1;rw [lt_f];rfl)]
    · unfold hasW;cases (rdA_St27 c.Frames ((rd c.Parts (p:Int)).Core)).Windows.any (fun w=>w.Part==(p:Int))<;>rfl
    · unfold G_ref07_window.b1;simp only [lt_t hi,inb_n hi,cond_true,req_t,wp1 hi (hc.win _),bif_some]
  · rfl
theorem rwindows_eq(c:Config)(hc:wfc c)(f:Int)(hf:f=0∨f=1)(k:Int):G_ref07_windows c f k=some (frB c f k):=by
  unfold G_ref07_windows frB;have hf2:inb f 2=true:=by rcases hf with rfl | rfl<;>rfl
  simp only [hf2,req_t,imp_tt];by_cases h12:(k==12)=true<;>simp only [h12,cond_true,cond_false];by_cases h13:(k==13)=true<;>simp only [h13,cond_true,cond_false];have hw:=hc.win f;generalize hL:(rdA_St27 c.Frames f).Windows=l at*
  by_cases h14:(k==14)=true
  · simp only [h14,cond_true];rw [loop_anyL (w14 c f) l false true (fun i hi=>?_) (by unfold G_ref07_windows.b1;rw [hL,lt_f];rfl)]
    · cases l.any (w14 c f)<;>rfl
    · have e:k=14:=by simpa using h14
      subst e;unfold G_ref07_windows.b1 w14;simp only [hL,lt_t hi,inb_n hi,cond_true,req_t,wp1 hi hw,hf2,imp_tt];rw [show ((14:Int)==14)=true from rfl,show ((14:Int)==15)=false from rfl,show ((14:Int)==16)=false from rfl];simp only [cal_t,cal_f,part_eq,Option.bind_some,Bool.true_and,Bool.false_and,cond_false,imp];cases h:inP c.Parts.length (rd l (i:Int)).Part
      · simp
      · have:inb (rd l (i:Int)).Part c.Parts.length=true:=h;simp [this,bif_some]
  · by_cases h15:(k==15)=true
    · simp only [h14,h15,cond_true,cond_false];rw [loop_anyL (w15 (rdA_St27 c.Frames f).Length) l false true (fun i hi=>?_) (by unfold G_ref07_windows.b1;rw [hL,lt_f];rfl)]
      · cases l.any (w15 (rdA_St27 c.Frames f).Length)<;>rfl
      · have e:k=15:=by simpa using h15
        subst e;unfold G_ref07_windows.b1 w15;simp only [hL,lt_t hi,inb_n hi,cond_true,req_t,wp1 hi hw,hf2,imp_tt];rw [show ((15:Int)==14)=false from rfl,show ((15:Int)==15)=true from rfl,show ((15:Int)==16)=false from rfl];simp only [cal_t,cal_f,Option.bind_some,Bool.true_and,Bool.false_and,cond_false,imp,Bool.not_false,Bool.true_or,req_t,bif_some]
    · by_cases h16:(k==16)=true
      · simp only [h14,h15,h16,cond_true,cond_false];rw [loop_any l.length false true (fun i=>decide (i>0)&&w16 (rd l ((i - 1:Nat):Int)) (rd l (i:Int))) (fun i hi=>?_) (by unfold G_ref07_windows.b1;rw [hL,lt_f];rfl)]
        · unfold crs;cases (List.range l.length).any _<;>rfl
        · have e:k=16:=by simpa using h16
          subst e;unfold G_ref07_windows.b1 w16;simp only [hL,lt_t hi,inb_n hi,cond_true,req_t,wp1 hi hw,hf2,imp_tt];rw [show ((16:Int)==14)=false from rfl,show ((16:Int)==15)=false from rfl,show ((16:Int)==16)=true from rfl];simp only [cal_t,cal_f,Option.bind_some,Bool.true_and,Bool.false_and,cond_false,imp,Bool.not_false,Bool.true_or,req_t,bif_some];by_cases h0:i=0
          · subst h0;simp
          · have e1:decide ((i:Int)>0)=true:=by simp;omega
            have e2:decide (i>0)=true:=by simp;omega
            have e3:IntKind.i64.wrap ((i:Int) - 1)=((i - 1:Nat):Int):=by simp only [maxLen] at hw;rw [w64]<;>omega
            have e4:inb ((i - 1:Nat):Int) l.length=true:=inb_n (by omega);simp only [e1,e2,e3,e4,imp_tt,word_eq,Bool.true_and,cal_t,Option.bind_some,Bool.or_true,req_t];cases word (rd l (i:Int)).Start<;>simp only [cal_t,cal_f,Option.bind_some,Bool.true_and,Bool.false_and,cond_false,bif_some];cases word (rd l ((i - 1:Nat):Int)).Start<;>simp only [cal_t,cal_f,Option.bind_some,Bool.true_and,Bool.false_and,cond_false,bif_some]
      · simp only [h14,h15,h16,cond_true,cond_false];have hany:(List.range l.length).any (fun _=>false)=false:=by simp
        rw [loop_any l.length false true (fun i=>false) (fun i hi=>?_) (by unfold G_ref07_windows.b1;rw [hL,lt_f];rfl),hany]
        · rfl
        · unfold G_ref07_windows.b1;simp only [Bool.not_eq_true] at h14 h15 h16;simp only [hL,lt_t hi,inb_n hi,cond_true,req_t,wp1 hi hw,hf2,imp_tt,h14,h15,h16,cal_f,Option.bind_some,Bool.false_and,cond_false,imp,Bool.not_false,Bool.true_or]
theorem holds_eq(c:Config)(hc:wfc c)(k:Int):G_ref07_Holds c k=some (D c k):=by
  unfold G_ref07_Holds D;by_cases h1:(k==1)=true<;>simp only [h1,cond_true,cond_false];have key:∀q:Nat→Bool,(∀i:Nat,i<c.Parts.length→q i=((k==2)&&b2 (rd c.Parts (i:Int))||(k==3)&&b3 (rd c.Parts (i:Int))||(k==17)&&b17 c i))→
      ((loopω (G_ref07_Holds.b1 c k) (0,false)).bind fun o=>o.on (fun s1=>some false) (fun r=>some r))=some ((List.range c.Parts.length).any q):=by
    intro q hq;rw [loop_any c.Parts.length false true q (fun i hi=>?_) (by unfold G_ref07_Holds.b1;rw [lt_f];rfl)]
    · cases (List.range c.Parts.length).any q<;>rfl
    · unfold G_ref07_Holds.b1;rw [hq i hi];simp only [lt_t hi,inb_n hi,cond_true,req_t,wp1 hi hc.1,rwindow_eq c hc i hi];unfold b2 b3;have assoc:∀a b d:Bool,((a&&b)&&d)=(a&&(b&&d)):=by decide
      simp only [assoc];cases (k==2)&&((rd c.Parts (i:Int)).Core !=0&&(rd c.Parts (i:Int)).Core !=1)<;>
        cases (k==3)&&(decide ((rd c.Parts (i:Int)).Private<0)||decide ((rd c.Parts (i:Int)).Private>64))<;>
        cases (k==17)<;>simp [cal,bif_some]
  by_cases h2:(k==2)=true
  · have e:k=2:=by simpa using h2
    subst e;simp only [h2,Bool.true_or,cond_true];rw [key (fun i=>b2 (rd c.Parts (i:Int))) (fun i hi=>by simp),any_rd]
  by_cases h3:(k==3)=true
  · have e:k=3:=by simpa using h3
    subst e;simp only [h3,Bool.true_or,Bool.or_true,cond_true];rw [key (fun i=>b3 (rd c.Parts (i:Int))) (fun i hi=>by simp),any_rd];rfl
  by_cases h17:(k==17)=true
  · have e:k=17:=by simpa using h17
    subst e;simp only [h17,Bool.or_true,cond_true];rw [key (fun i=>b17 c i) (fun i hi=>by simp)];rfl
  simp only [Bool.not_eq_true] at h2 h3 h17;simp only [h2,h3,h17,Bool.or_false,cond_false];by_cases h4:(k==4)=true<;>simp only [h4,cond_true,cond_false];cases h5:(decide (k≥5)&&decide (k≤11))<;>simp only [cond_true,cond_false]
  · cases h12:(decide (k≥12)&&decide (k≤16))<;>simp only [cond_true,cond_false];rw [rwindows_eq c hc 0 (.inl rfl),rwindows_eq c hc 1 (.inr rfl)];cases frB c 0 k<;>rfl
  · rw [rchans_eq c hc];rfl
theorem all_loop(c:Config)(hc:wfc c):∀(m k:Nat) (out:List Int),k+m=18→out.length+m≤17→loopω (G_ref07_All.b1 c) ((k:Int),out)=some (.brk (18,out++((List.range' k m).filter fun k:Nat=>D c (k:Int)).map Int.ofNat))
  | 0,k,out,h,ho=>by
    rw [loopω_eq,show k=18 by omega];simp [G_ref07_All.b1]
  | m +1,k,out,h,ho=>by
    have hw:IntKind.i64.wrap ((k:Int)+1)=((k+1:Nat):Int):=by rw [w64]<;>omega
    rw [loopω_eq,List.range'_succ,List.filter_cons];simp only [G_ref07_All.b1,show decide ((k:Int)≤17)=true by simp;omega,cond_true,holds_eq c hc,Option.bind_some,hw];cases D c (k:Int)
    · exact all_loop c hc m (k+1) out (by omega) (by omega)
    · simp only [cond_true,if_true];rw [show decide ((out.length+1)*8≤140737488355328)=true by simp;omega];have:=all_loop c hc m (k+1) (out++[(k:Int)]) (by omega) (by simp;omega)
      simpa using this
theorem racc_eq(c:Config)(hc:wfc c):G_ref07_Accepts c=some (acc c):=by
  unfold G_ref07_Accepts G_ref07_All acc;have:=all_loop c hc 17 1 [] (by omega) (by simp);rw [show ((1:Nat):Int)=1 from rfl] at this;rw [this];simp only [Option.bind_some,Ex.on_brk,List.nil_append,List.length_map,Option.some.injEq];cases h:(List.range' 1 17).any (fun k:Nat=>D c (k:Int))
  · have:(List.range' 1 17).filter (fun k:Nat=>D c (k:Int))=[]:=by rw [List.filter_eq_nil_iff];intro a ha;rw [List.any_eq_false] at h;exact h a ha
    rw [this];rfl
  · rw [List.any_eq_true] at h;obtain ⟨x,hx,hd⟩:=h;have:x∈(List.range' 1 17).filter (fun k:Nat=>D c (k:Int)):=List.mem_filter.2 ⟨hx,hd⟩;cases hf:(List.range' 1 17).filter (fun k:Nat=>D c (k:Int)) with
    | nil=>rw [hf] at this;cases this
    | cons y r=>simp;omega
theorem within_eq(n low high:Int):G_defect_within n low high=some (decide (n≥low)&&decide (n≤high)):=rfl
theorem idx_part(l:List Part)(hl:l.length≤maxLen)(f:Fn197)(q:Part→Bool)(hq:∀x,Fn197.run f x=some (q x)):G_api_Part_138 l f=some (l.any q):=by
  unfold G_api_Part_138 G_api_Part_151;have h:=loop_find (B:=G_api_Part_151.b1 l f) l.length 0 (fun i=>q (rd l (i:Int))) (fun i=>(i:Int)) (fun i hi=>by
    unfold G_api_Part_151.b1;simp only [lt_t hi,inb_n hi,cond_true,req_t,wp1 hi hl,hq,Option.bind_some,bif_some]) (by unfold G_api_Part_151.b1;rw [lt_f];rfl) l.length 0 (by omega)
  rw [show ((0:Nat):Int)=0 from rfl] at h;rw [h,← any_rd,List.range_eq_range'];cases h2:(List.range' 0 l.length).find? (fun i:Nat=>q (rd l (i:Int))) with
  | none=>simp only [Option.bind_some,Ex.on_brk,Option.some.injEq];rw [show (List.range' 0 l.length).any (fun i:Nat=>q (rd l (i:Int)))=false by simpa using h2];rfl
  | some j=>simp only [Option.bind_some,Ex.on_ret,Option.some.injEq];rw [show (List.range' 0 l.length).any (fun i:Nat=>q (rd l (i:Int)))=true by rw [List.any_eq_true];exact ⟨j,List.mem_of_find?_eq_some h2,List.find?_some (p:=fun i:Nat=>q (rd l (i:Int))) h2⟩];simp
theorem idx_chan(l:List Chan)(hl:l.length≤maxLen)(f:Fn200)(q:Chan→Bool)(hq:∀x,Fn200.run f x=some (q x)):G_api_Chan_140 l f=some (l.any q):=by
  unfold G_api_Chan_140 G_api_Chan_152;have h:=loop_find (B:=G_api_Chan_152.b1 l f) l.length 0 (fun i=>q (rd l (i:Int))) (fun i=>(i:Int)) (fun i hi=>by
    unfold G_api_Chan_152.b1;simp only [lt_t hi,inb_n hi,cond_true,req_t,wp1 hi hl,hq,Option.bind_some,bif_some]) (by unfold G_api_Chan_152.b1;rw [lt_f];rfl) l.length 0 (by omega)
  rw [show ((0:Nat):Int)=0 from rfl] at h;rw [h,← any_rd,List.range_eq_range'];cases h2:(List.range' 0 l.length).find? (fun i:Nat=>q (rd l (i:Int))) with
  | none=>simp only [Option.bind_some,Ex.on_brk,Option.some.injEq];rw [show (List.range' 0 l.length).any (fun i:Nat=>q (rd l (i:Int)))=false by simpa using h2];rfl
  | some j=>simp only [Option.bind_some,Ex.on_ret,Option.some.injEq];rw [show (List.range' 0 l.length).any (fun i:Nat=>q (rd l (i:Int)))=true by rw [List.any_eq_true];exact ⟨j,List.mem_of_find?_eq_some h2,List.find?_some (p:=fun i:Nat=>q (rd l (i:Int))) h2⟩];simp
theorem idx_win(l:List Window)(hl:l.length≤maxLen)(f:Fn209)(q:Window→Bool)(hq:∀x,Fn209.run f x=some (q x)):G_api_Window_144 l f=some (l.any q):=by
  unfold G_api_Window_144 G_api_Window_153;have h:=loop_find (B:=G_api_Window_153.b1 l f) l.length 0 (fun i=>q (rd l (i:Int))) (fun i=>(i:Int)) (fun i hi=>by
    unfold G_api_Window_153.b1;simp only [lt_t hi,inb_n hi,cond_true,req_t,wp1 hi hl,hq,Option.bind_some,bif_some]) (by unfold G_api_Window_153.b1;rw [lt_f];rfl) l.length 0 (by omega)
  rw [show ((0:Nat):Int)=0 from rfl] at h;rw [h,← any_rd,List.range_eq_range'];cases h2:(List.range' 0 l.length).find? (fun i:Nat=>q (rd l (i:Int))) with
  | none=>simp only [Option.bind_some,Ex.on_brk,Option.some.injEq];rw [show (List.range' 0 l.length).any (fun i:Nat=>q (rd l (i:Int)))=false by simpa using h2];rfl
  | some j=>simp only [Option.bind_some,Ex.on_ret,Option.some.injEq];rw [show (List.range' 0 l.length).any (fun i:Nat=>q (rd l (i:Int)))=true by rw [List.any_eq_true];exact ⟨j,List.mem_of_find?_eq_some h2,List.find?_some (p:=fun i:Nat=>q (rd l (i:Int))) h2⟩];simp
theorem strange_eq(c:Config)(hc:wfc c)(p:Int):G_defect_strange c p=some (!inP c.Parts.length p):=by
  unfold G_defect_strange;have:IntKind.i64.wrap ((c.Parts.length:Int) - 1)=(c.Parts.length:Int) - 1:=by have:=hc.1;simp only [maxLen] at this;rw [w64]<;>omega
  rw [this,within_eq,Option.bind_some]
  congr 3
  simp;omega
theorem inside_eq(n low high:Int):(!(decide (n≥low)&&decide (n≤high)))=(decide (n<low)||decide (n>high)):=by
  rw [Bool.not_and];congr 1<;>(rw [← decide_not];congr 1;simp [Int.not_le,Int.not_lt])
def rl:List Defect_rule:=[⟨.f107⟩,⟨.f137 .f110⟩,⟨.f137 .f111⟩,⟨.f112⟩,⟨.f139 .f114⟩,⟨.f139 .f115⟩,⟨.f139 .f117⟩,⟨.f139 .f118⟩,⟨.f139 .f119⟩,⟨.f139 .f121⟩,⟨.f139 .f123⟩,⟨.f142 .f125⟩,⟨.f142 .f126⟩,⟨.f142 (.f143 .f128)⟩,⟨.f142 (.f143 .f129)⟩,⟨.f142 .f130⟩,⟨.f131⟩]
theorem rules_eq:G_defect_rules=some rl:=rfl
theorem prule{c:Config}(hc:wfc c){f:Fn197}{q:Part→Bool}(hq:∀x,Fn197.run f x=some (q x)):Fn63.run (.f137 f) c=some (c.Parts.any q):=by
  show (G_api_Part_138 c.Parts f).bind _=_;rw [idx_part c.Parts hc.1 f q hq];rfl
theorem crule{c:Config}(hc:wfc c){f:Fn199}{q:Chan→Bool}(hq:∀x,Fn199.run f c x=some (q x)):Fn63.run (.f139 f) c=some (c.Chans.any q):=by
  show (G_api_Chan_140 c.Chans (Fn200.f141 f c)).bind _=_;rw [idx_chan c.Chans hc.2.1 _ q (fun x=>by show (Fn199.run f c x).bind _=_;rw [hq];rfl)];rfl
theorem frule{c:Config}{f:Fn134}{q:Int→Bool}(hq:∀i,i=0∨i=1→Fn134.run f c i=some (q i)):Fn63.run (.f142 f) c=some (q 0||q 1):=by
  show (Fn134.run f c 0).bind _=_;rw [hq 0 (.inl rfl),Option.bind_some,hq 1 (.inr rfl)];cases q 0<;>rfl
theorem wrule{c:Config}(hc:wfc c){f:Fn203}{i:Int}(hi:i=0∨i=1){q:Window→Bool}(hq:∀x,Fn203.run f c i x=some (q x)):Fn134.run (.f143 f) c i=some ((rdA_St27 c.Frames i).Windows.any q):=by
  show G_defect_window_1 c i f=_;unfold G_defect_window_1;rw [show inb i 2=true by rcases hi with rfl | rfl<;>rfl,req_t,idx_win _ (hc.win i) _ q (fun x=>by show (Fn203.run f c i x).bind _=_;rw [hq];rfl)];rfl
theorem small_eq(a b d:Int):G_defect_small [a,b,d]=some ((word a&&word b)&&word d):=by
  unfold G_defect_small;have hw:∀z,G_defect_within z 0 4294967295=some (word z):=fun z=>rfl;rw [loop_anyL (fun z=>!word z) [a,b,d] false false (fun i hi=>?_) (by unfold G_defect_small.b1;rw [lt_f];rfl)]
  · cases h1:word a<;>cases h2:word b<;>cases h3:word d<;>simp [h1,h2,h3]
  · unfold G_defect_small.b1;simp only [lt_t hi,inb_n hi,cond_true,req_t,hw,Option.bind_some,wp1 hi (show [a,b,d].length≤maxLen by simp [maxLen]),bif_some]
theorem crossed_eq(c:Config)(hc:wfc c)(f:Int)(hf:f=0∨f=1):G_defect_crossed c f=some (crs (rdA_St27 c.Frames f).Windows):=by
  unfold G_defect_crossed;rw [show inb f 2=true by rcases hf with rfl | rfl<;>rfl,req_t];have hw:=hc.win f;generalize hL:(rdA_St27 c.Frames f).Windows=l at*
  let p:Nat→Bool:=fun i=>decide (i>0)&&w16 (rd l ((i - 1:Nat):Int)) (rd l (i:Int))
  have hp:(List.range l.length).any p=crs l:=rfl;have hstep:∀i:Nat,1≤i→i<l.length→G_defect_crossed.b1 c f ((i:Int),false)=some (bif p i then .out (.ret true) else .next (((i+1:Nat):Int),false)):=by
    intro i h1 hi;unfold G_defect_crossed.b1;have e2:decide (i>0)=true:=by simp;omega
    have e3:IntKind.i64.wrap ((i:Int) - 1)=((i - 1:Nat):Int):=by simp only [maxLen] at hw;rw [w64]<;>omega
    have e4:inb ((i - 1:Nat):Int) l.length=true:=inb_n (by omega);simp only [hL,lt_t hi,inb_n hi,cond_true,req_t,e3,e4,wp1 hi hw,small_eq,Option.bind_some,bif_some,p,e2,Bool.true_and];unfold w16
    congr 2
    cases word (rd l ((i - 1:Nat):Int)).Start<;>cases word (rd l ((i - 1:Nat):Int)).Len<;>cases word (rd l (i:Int)).Start<;>simp
  have hend:G_defect_crossed.b1 c f ((l.length:Int),false)=some (.out (.brk ((l.length:Int),false))):=by unfold G_defect_crossed.b1;rw [hL,lt_f];rfl
  by_cases h0:l.length=0
  · rw [loopω_eq];unfold G_defect_crossed.b1;have:l=[]:=List.length_eq_zero_iff.1 h0;subst this;simp only [hL];rfl
  · have key:∀(k i:Nat),1≤i→i+k=l.length→loopω (G_defect_crossed.b1 c f) ((i:Int),false)=some (bif (List.range' i k).any p then .ret true else .brk ((l.length:Int),false)):=by
      intro k
      induction k with
      | zero=>intro i h1 h;rw [loopω_eq,show i=l.length by omega,hend];rfl
      | succ k ih=>
        intro i h1 h;rw [loopω_eq,hstep i h1 (by omega),List.range'_succ,List.any_cons];cases p i
        · exact ih (i+1) (by omega) (by omega)
        · rfl
    have:=key (l.length - 1) 1 (by omega) (by omega);rw [show ((1:Nat):Int)=1 from rfl] at this;rw [this,← hp,List.range_eq_range',show l.length=(l.length - 1)+1 by omega,List.range'_succ,List.any_cons];have:p 0=false:=rfl;rw [this];simp only [Nat.add_sub_cancel,Bool.false_or];cases (List.range' (0+1) (l.length - 1)).any p<;>rfl
theorem idle_eq(c:Config)(hc:wfc c):G_defect_idle c=some ((List.range c.Parts.length).any (b17 c)):=by
  unfold G_defect_idle;rw [loop_any c.Parts.length false true (b17 c) (fun i hi=>?_) (by unfold G_defect_idle.b1;rw [lt_f];rfl)]
  · cases (List.range c.Parts.length).any (b17 c)<;>rfl
  · unfold G_defect_idle.b1 b17 b2;simp only [lt_t hi,inb_n hi,cond_true,req_t,wp1 hi hc.1,within_eq,Option.bind_some];have e:(!(decide ((rd c.Parts (i:Int)).Core≥0)&&decide ((rd c.Parts (i:Int)).Core≤1)))=((rd c.Parts (i:Int)).Core !=0&&(rd c.Parts (i:Int)).Core !=1):=by
      rw [Bool.eq_iff_iff];simp;omega
    rw [e];cases h:((rd c.Parts (i:Int)).Core !=0&&(rd c.Parts (i:Int)).Core !=1)
    · have h01:inb (rd c.Parts (i:Int)).Core 2=true:=by
        simp at h;by_cases h0:(rd c.Parts (i:Int)).Core=0
        · rw [h0];rfl
        · rw [h h0];rfl
      simp only [Bool.not_false,h01,imp_tt,req_t,cal_t];rw [idx_win _ (hc.win _) _ (fun w=>w.Part==(i:Int)) (fun x=>rfl)];unfold hasW;simp only [Option.bind_some,Bool.false_or,bif_some]
    · simp [imp,cal,bif_some]
theorem run_eq(c:Config)(hc:wfc c)(k:Nat)(hk:k<17):Fn63.run (rd rl (k:Int)).holds c=some (D c ((k+1:Nat):Int)):=by
  have hk:k=0∨k=1∨k=2∨k=3∨k=4∨k=5∨k=6∨k=7∨k=8∨k=9∨k=10∨k=11∨k=12∨k=13∨k=14∨k=15∨k=16:=by omega
  have ce:∀ {k:Int} {p:Chan→Bool},(∀x,p x=chB c.Parts.length k x)→some (c.Chans.any p)=some (c.Chans.any (chB c.Parts.length k)):=fun h=>congrArg some (any_congr fun x _=>h x);rcases hk with rfl | rfl | rfl | rfl | rfl | rfl | rfl | rfl | rfl | rfl | rfl | rfl | rfl | rfl | rfl | rfl | rfl
  · show some _=some _;exact congrArg some (inside_eq _ _ _)
  · refine (prule hc (f:=.f110) (q:=b2) fun x=>?_).trans rfl;show some _=some _
    congr 1
    unfold b2;rw [Bool.eq_iff_iff];simp;omega
  · refine (prule hc (f:=.f111) (q:=b3) fun x=>?_).trans rfl;exact congrArg some (inside_eq x.Private 0 64)
  · rfl
  · exact (crule hc (q:=chB c.Parts.length 5) fun x=>rfl).trans rfl
  · refine (crule hc (q:=chB c.Parts.length 6) fun x=>?_).trans rfl;show G_defect_rules_6 c x=_;unfold G_defect_rules_6;rw [strange_eq c hc,Option.bind_some,strange_eq c hc];show _=some (!inP c.Parts.length x.From||!inP c.Parts.length x.To);cases inP c.Parts.length x.From<;>rfl
  · exact (crule hc (q:=chB c.Parts.length 7) fun x=>rfl).trans rfl
  · refine (crule hc (f:=.f118) (q:=chB c.Parts.length 8) fun x=>?_).trans rfl;exact congrArg some (inside_eq x.Words 1 16)
  · refine (crule hc (q:=chB c.Parts.length 9) fun x=>?_).trans rfl;show G_defect_rules_9 c x=some (((x.Kind==1)&&(x.Depth !=0))||(((((x.Kind==2)&&(x.Depth !=1))&&(x.Depth !=2))&&(x.Depth !=4))&&(x.Depth !=8)));unfold G_defect_rules_9 G_defect_deep;by_cases h1:x.Kind=1
    · simp [h1,bne]
    · by_cases h2:x.Kind=2
      · simp [h2,bne,Bool.and_assoc]
      · have e1:(x.Kind==1)=false:=by simpa using h1
        have e2:(x.Kind==2)=false:=by simpa using h2
        simp [e1,e2]
  · refine (crule hc (q:=chB c.Parts.length 10) fun x=>?_).trans rfl;show G_defect_rules_10 c x=some (((x.Kind==1)&&(decide (x.Period<0)||decide (x.Period>1048576)))||((x.Kind==2)&&(x.Period !=0)));unfold G_defect_rules_10 G_defect_fresh;by_cases h1:x.Kind=1
    · have:=inside_eq x.Period 0 1048576;simp [h1,within_eq] at this ⊢;exact this
    · by_cases h2:x.Kind=2
      · simp [h2,bne]
      · have e1:(x.Kind==1)=false:=by simpa using h1
        have e2:(x.Kind==2)=false:=by simpa using h2
        simp [e1,e2]
  · exact (crule hc (q:=chB c.Parts.length 11) fun x=>rfl).trans rfl
  · refine (frule (q:=fun f=>frB c f 12) fun i hi=>?_).trans rfl;show G_defect_rules_12 c i=some (decide ((rdA_St27 c.Frames i).Length<1)||decide ((rdA_St27 c.Frames i).Length>64));unfold G_defect_rules_12;rw [show inb i 2=true by rcases hi with rfl | rfl<;>rfl,req_t,within_eq,Option.bind_some,inside_eq]
  · refine (frule (q:=fun f=>frB c f 13) fun i hi=>?_).trans rfl;show G_defect_rules_13 c i=some (decide (((rdA_St27 c.Frames i).Windows.length:Int)>16));unfold G_defect_rules_13;rw [show inb i 2=true by rcases hi with rfl | rfl<;>rfl,req_t]
  · refine (frule (q:=fun f=>frB c f 14) fun i hi=>?_).trans rfl;refine (wrule hc hi (q:=w14 c i) fun x=>?_).trans rfl;show G_defect_foreign c i x=_;unfold G_defect_foreign w14;rw [strange_eq c hc,Option.bind_some];rw [show imp (!(!inP c.Parts.length x.Part)) (inb x.Part c.Parts.length)=true from imp_of fun h=>by rw [Bool.not_not] at h;exact h,req_t]
  · refine (frule (q:=fun f=>frB c f 15) fun i hi=>?_).trans rfl;refine (wrule hc hi (q:=w15 (rdA_St27 c.Frames i).Length) fun x=>?_).trans rfl;show G_defect_outside c i x=_;unfold G_defect_outside w15;rw [show inb i 2=true by rcases hi with rfl | rfl<;>rfl,imp_tt,req_t];unfold G_defect_beyond;cases (decide (x.Start<0)||decide (x.Len<1))<;>simp
  · refine (frule (q:=fun f=>frB c f 16) fun i hi=>?_).trans rfl;exact crossed_eq c hc i hi
  · exact idle_eq c hc
theorem defAll_loop{σt R:Type}(bd:σt→Int→Option (Stp σt R))(s0:σt)(c:Config)(hc:wfc c):∀(m k:Nat) (s:σt),k+m=17→((loopω (G_defect_All_1.b1 bd s0 c rl) ((k:Int),s)).bind fun o=>o.on (fun s1=>some (.next s1.2)) (fun r=>some r))=foldS bd s (((List.range' (k+1) m).filter fun k:Nat=>D c (k:Int)).map Int.ofNat)
  | 0,k,s,h=>by
    rw [loopω_eq,show k=17 by omega];rfl
  | m + 1,k,s,h=>by
    have hw:IntKind.i64.wrap ((k:Int)+1)=((k+1:Nat):Int):=by rw [w64]<;>omega
    rw [loopω_eq,List.range'_succ,List.filter_cons];simp only [G_defect_All_1.b1,show rl.length=17 from rfl,lt_t (show k<17 by omega),inb_n (show k<17 by omega),cond_true,req_t,run_eq c hc k (by omega),Option.bind_some,hw];cases D c ((k+1:Nat):Int)
    · exact defAll_loop bd s0 c hc m (k+1) s (by omega)
    · simp only [cond_true,if_true,List.map_cons,foldS_cons];rw [show Int.ofNat (k+1)=((k+1:Nat):Int) from rfl];cases bd s ((k+1:Nat):Int) with
      | none=>rfl
      | some z=>
        cases z with
        | next s'=>simp only [Option.bind_some,Stp.on_next];exact defAll_loop bd s0 c hc m (k+1) s' (by omega)
        | out r=>rfl
theorem defAll_eq{σt R:Type}(bd:σt→Int→Option (Stp σt R))(s0:σt)(c:Config)(hc:wfc c):G_defect_All_1 bd s0 c=foldS bd s0 (((List.range' 1 17).filter fun k:Nat=>D c (k:Int)).map Int.ofNat):=by
  unfold G_defect_All_1;rw [rules_eq,Option.bind_some];exact defAll_loop bd s0 c hc 17 0 s0 (by omega)
def fstD(c:Config):Int:=match (List.range' 1 17).filter fun k:Nat=>D c (k:Int) with | []=>0 | k::_=>(k:Int)
theorem first_eq(c:Config)(hc:wfc c):G_defect_First c=some (fstD c):=by
  unfold G_defect_First fstD;simp only [G_defect_All,Option.bind_some,defAll_eq _ _ c hc];cases (List.range' 1 17).filter fun k:Nat=>D c (k:Int) with
  | nil=>rfl
  | cons k l=>rfl
theorem acc_eq(c:Config)(hc:wfc c):G_defect_Accepts c=some (acc c):=by
  unfold G_defect_Accepts acc;rw [first_eq c hc,Option.bind_some];unfold fstD
  congr 1
  cases h:(List.range' 1 17).any (fun k:Nat=>D c (k:Int))
  · have:(List.range' 1 17).filter (fun k:Nat=>D c (k:Int))=[]:=by rw [List.filter_eq_nil_iff];intro a ha;rw [List.any_eq_false] at h;exact h a ha
    rw [this];rfl
  · rw [List.any_eq_true] at h;obtain ⟨x,hx,hd⟩:=h;have:x∈(List.range' 1 17).filter (fun k:Nat=>D c (k:Int)):=List.mem_filter.2 ⟨hx,hd⟩;cases hf:(List.range' 1 17).filter (fun k:Nat=>D c (k:Int)) with
    | nil=>rw [hf] at this;cases this
    | cons y r=>
      have hy:y∈(List.range' 1 17).filter (fun k:Nat=>D c (k:Int)):=by rw [hf];simp
      have:=(List.mem_range'_1.1 (List.mem_filter.1 hy).1).1;simp;omega
end Go.Proofs.YtdpfnklgdkigdaaGreatDoor
