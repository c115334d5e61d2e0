/- Orders: what is not too great, and the example. No statement is proved here. Conditions: none. -/
import Derived.Test.YtpdflibmhchlbaaGreatDoorPOE
set_option linter.unusedVariables false
set_option linter.unusedSimpArgs false
namespace Go.Proofs.YtpdflibmhchlbaaGreatDoor
open Go Go.RowKit Go.Eng
section
variable {C:List I4} {B:List I5}
def gC(x:I4):Bool:=((((decide ((x.u4.u9.length:Int)>40)||decide ((x.qh.u9.length:Int)>40))||decide (x.qc<(-1)))||decide (x.qc>1099511627776))||decide (x.T1<(-1)))||decide (x.T1>1099511627776)
def gB(x:I5):Bool:=(decide ((x.qg.length:Int)>40)||decide (x.r9<(-1)))||decide (x.r9>100)
def grt(C:List I4)(B:List I5):Bool:=(decide ((C.length:Int)>40)||decide ((B.length:Int)>40))||((List.range C.length).any (fun i=>gC (rd C (i:Int)))||(List.range B.length).any (fun i=>gB (rd B (i:Int))))
theorem B8k(C:List I4)(B:List I5):I8 C B 40=some (grt C B):=by
  unfold I8 grt;cases h0:(decide ((C.length:Int)>40)||decide ((B.length:Int)>40))
  · simp only [cond_false,Bool.false_or];have hC:C.length≤40:=by simp at h0;omega
    have hB:B.length≤40:=by simp at h0;omega
    rcases A6r (B:=I8.b1 C B 40) C.length (fun _ _=>True) (fun i=>gC (rd C (i:Int))) true false trivial (fun i s hi _=>by
      unfold I8.b1;simp only [P6 hi,cond_true,G6 hi,D5,wp1 hi (by unfold maxLen;omega)];exact ⟨fun h=>by unfold gC at h;rw [h];rfl,fun h=>⟨s,by unfold gC at h;rw [h];rfl,trivial⟩⟩) (fun s _=>by unfold I8.b1;simp only [X1,cond_false]) with ⟨q1,q2⟩ | ⟨q1,s,q2,_⟩
    · rw [q2,q1];rfl
    · rw [q2,q1];simp only [Option.bind_some,Ex.on,Bool.false_or];rcases A6r (B:=I8.b2 C B 40 ((C.length:Int),s)) B.length (fun _ _=>True) (fun i=>gB (rd B (i:Int))) true s trivial (fun i s hi _=>by
        unfold I8.b2;simp only [P6 hi,cond_true,G6 hi,D5,A2e (fun _=>rfl),wp1 hi (by unfold maxLen;omega)];exact ⟨fun h=>by unfold gB at h;rw [h];rfl,fun h=>⟨s,by unfold gB at h;rw [h];rfl,trivial⟩⟩) (fun s _=>by unfold I8.b2;simp only [X1,cond_false]) with ⟨p1,p2⟩ | ⟨p1,s',p2,_⟩
      · rw [p2,p1];rfl
      · rw [p2,p1];rfl
  · rfl
theorem B1v{α:Type}[Inhabited α]{l:List α}{x:α}(h:x∈l):∃i:Nat,i<l.length∧rd l (i:Int)=x:=by
  obtain ⟨i,hi,he⟩:=List.getElem_of_mem h;refine ⟨i,hi,?_⟩;unfold rd;rw [List.getD_eq_getElem?_getD,show ((i:Int)).toNat=i by omega,List.getElem?_eq_getElem hi];exact he
theorem grt_f(h:grt C B=false):C.length≤40∧B.length≤40∧(∀x∈C,x.u4.u9.length≤40)∧∀x∈B,-1≤x.r9∧x.r9≤100:=by
  unfold grt at h;simp only [Bool.or_eq_false_iff,List.any_eq_false,List.mem_range,decide_eq_false_iff_not] at h;obtain ⟨⟨h1,h2⟩,h3,h4⟩:=h;refine ⟨by omega,by omega,fun x hx=>?_,fun x hx=>?_⟩
  · obtain ⟨i,hi,he⟩:=B1v hx;have:=h3 i hi;rw [he] at this;unfold gC at this;simp at this;omega
  · obtain ⟨i,hi,he⟩:=B1v hx;have:=h4 i hi;rw [he] at this;unfold gB at this;simp at this;omega
def exC:C1:=⟨([(⟨0,0⟩:S5),(⟨1,0⟩:S5)]:List S5),[],(⟨(⟨1,([(⟨0,0,1⟩:F8)]:List F8)⟩:A4n),(⟨1,([(⟨1,0,1⟩:F8)]:List F8)⟩:A4n)⟩:B02)⟩
def exX:I4:=⟨0,(⟨2,0,0,[]⟩:L7),(⟨0,[],false,0⟩:E4),true,0,0,0,0,1,1,0,(-1),0,(-1)⟩
theorem accX:acc exC=true:=by decide
theorem wfX:wfc exC:=by unfold wfc exC maxLen;simp
theorem B4x(C:List I4)(l:List E0)(hC:C.length≤1)(hx:∀x∈C,x=exX)(hl:l.length≤100):Dom exC C [] l:=
  ⟨wfX,accX,by simp [exC],by simp [exC],by omega,by simp,by omega,fun x h=>by rw [hx x h];exact ⟨rfl,rfl,by simp [exX]⟩,fun x h=>by simp at h⟩
theorem wk0:C7 exC [] [] []=some true:=by
  obtain ⟨b,h1,h2⟩:=A4y (B4x [] [] (by simp) (by simp) (by simp));unfold D2 at h2;rw [A2h (by simp) (by simp) [] (by simp),show tim [] [] []=true by decide] at h2;simp only [Option.bind_some,Bool.not_true,cond_false] at h2;rw [K4] at h2;unfold D2.b1 at h2;rw [h1];exact h2.symm▸rfl
theorem wk1:C7 exC [exX] [] []=some false:=by
  obtain ⟨b,h1,h2⟩:=A4y (B4x [exX] [] (by simp) (by simp) (by simp));unfold D2 at h2;rw [A2h (by simp) (by simp) [] (by simp),show tim [exX] [] []=false by decide] at h2;rw [h1];exact h2.symm▸rfl
theorem doX:J1 exC [] exX=some ⟨0,[],false,0⟩:=by
  unfold J1;rw [A4w [] (by simp),Option.bind_some,show H6 exC (I3 [] exX.r9) exX.u4=some 0 by
    unfold H6;rw [A48 _ wfX,accX];rfl,Option.bind_some]
  unfold K7;rw [A6e wfX accX (by decide) (by decide)];rfl
theorem wk2:C7 exC [exX] [] [⟨1,0⟩]=some true:=by
  obtain ⟨b,h1,h2⟩:=A4y (B4x [exX] [⟨1,0⟩] (by simp) (by simp) (by simp));unfold D2 at h2;rw [A2h (by simp) (by simp) [⟨1,0⟩] (by simp),show tim [exX] [] [⟨1,0⟩]=true by decide] at h2;simp only [Option.bind_some,Bool.not_true,cond_false] at h2;have e1:D2.b1 ⟨exC,[exX],[]⟩ [⟨1,0⟩] true (0,[],false)=some (.next (1,[⟨exX,⟨0,[],false,0⟩,0,0⟩],false)):=by
    unfold D2.b1;have r1:rd ([⟨1,0⟩]:List E0) 0=⟨1,0⟩:=rfl;have r2:rd [exX] 0=exX:=rfl;have r3:exX.kt=true:=rfl;have r4:exX.qh=⟨0,[],false,0⟩:=rfl;simp only [List.length_cons,List.length_nil,r1,r2,doX,Option.bind_some,r3,r4,cal,cond_true,B0t ⟨0,[],false,0⟩ ⟨0,[],false,0⟩ (by simp),Int.reduceBEq,decide_true,Bool.not_true,Bool.and_false,cond_false];rfl
  have e2:D2.b1 ⟨exC,[exX],[]⟩ [⟨1,0⟩] true (1,[⟨exX,⟨0,[],false,0⟩,0,0⟩],false)=some (.out (.brk (1,[⟨exX,⟨0,[],false,0⟩,0,0⟩],false))):=by
    unfold D2.b1;rfl
  rw [K4,e1] at h2;simp only [] at h2;rw [K4,e2] at h2;rw [h1];exact h2.symm▸rfl
theorem B9m:Z5=some true:=by
  unfold Z5 J7;simp only [Option.bind_some];show (C7 exC [] [] []).bind _=_;rw [wk0,Option.bind_some,cond_true];show (C7 exC [exX] [] []).bind _=_;rw [wk1,Option.bind_some];show (C7 exC [exX] [] [⟨1,0⟩]).bind _=_;rw [wk2];rfl
end
end Go.Proofs.YtpdflibmhchlbaaGreatDoor
