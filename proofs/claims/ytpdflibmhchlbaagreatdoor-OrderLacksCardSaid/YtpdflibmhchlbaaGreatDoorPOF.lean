/- Orders: what is not too great, and the example. No statement is proved here. Conditions: none. -/
import Derived.Test.YtpdflibmhchlbaaGreatDoorPOE
set_option linter.unusedVariables false
set_option linter.unusedSimpArgs false
namespace Go.Proofs.YtpdflibmhchlbaaGreatDoor
open Go Go.RowKit Go.Eng
section
variable {C:List I5} {B:List J0}
def gC(x:I5):Bool:=((((decide ((x.u4.u9.length:Int)>40)||decide ((x.qh.u9.length:Int)>40))||decide (x.qc<(-1)))||decide (x.qc>1099511627776))||decide (x.T1<(-1)))||decide (x.T1>1099511627776)
def gB(x:J0):Bool:=(decide ((x.qg.length:Int)>40)||decide (x.u3<(-1)))||decide (x.u3>100)
def grt(C:List I5)(B:List J0):Bool:=(decide ((C.length:Int)>40)||decide ((B.length:Int)>40))||((List.range C.length).any (fun i=>gC (rd C (i:Int)))||(List.range B.length).any (fun i=>gB (rd B (i:Int))))
theorem B7w(C:List I5)(B:List J0):I4 C B 40=some (grt C B):=by
  unfold I4 grt;cases h0:(decide ((C.length:Int)>40)||decide ((B.length:Int)>40))
  · simp only [cond_false,Bool.false_or];have hC:C.length≤40:=by simp at h0;omega
    have hB:B.length≤40:=by simp at h0;omega
    rcases A6i (B:=I4.b1 C B 40) C.length (fun _ _=>True) (fun i=>gC (rd C (i:Int))) true false trivial (fun i s hi _=>by
      unfold I4.b1;simp only [Q6 hi,cond_true,H4 hi,D7,wp1 hi (by unfold maxLen;omega)];exact ⟨fun h=>by unfold gC at h;rw [h];rfl,fun h=>⟨s,by unfold gC at h;rw [h];rfl,trivial⟩⟩) (fun s _=>by unfold I4.b1;simp only [X2,cond_false]) with ⟨q1,q2⟩ | ⟨q1,s,q2,_⟩
    · rw [q2,q1];rfl
    · rw [q2,q1];simp only [Option.bind_some,Ex.on,Bool.false_or];rcases A6i (B:=I4.b2 C B 40 ((C.length:Int),s)) B.length (fun _ _=>True) (fun i=>gB (rd B (i:Int))) true s trivial (fun i s hi _=>by
        unfold I4.b2;simp only [Q6 hi,cond_true,H4 hi,D7,A1g (fun _=>rfl),wp1 hi (by unfold maxLen;omega)];exact ⟨fun h=>by unfold gB at h;rw [h];rfl,fun h=>⟨s,by unfold gB at h;rw [h];rfl,trivial⟩⟩) (fun s _=>by unfold I4.b2;simp only [X2,cond_false]) with ⟨p1,p2⟩ | ⟨p1,s',p2,_⟩
      · rw [p2,p1];rfl
      · rw [p2,p1];rfl
  · rfl
theorem B1j{α:Type}[Inhabited α]{l:List α}{x:α}(h:x∈l):∃i:Nat,i<l.length∧rd l (i:Int)=x:=by
  obtain ⟨i,hi,he⟩:=List.getElem_of_mem h;refine ⟨i,hi,?_⟩;unfold rd;rw [List.getD_eq_getElem?_getD,show ((i:Int)).toNat=i by omega,List.getElem?_eq_getElem hi];exact he
theorem grt_f(h:grt C B=false):C.length≤40∧B.length≤40∧(∀x∈C,x.u4.u9.length≤40)∧∀x∈B,-1≤x.u3∧x.u3≤100:=by
  unfold grt at h;simp only [Bool.or_eq_false_iff,List.any_eq_false,List.mem_range,decide_eq_false_iff_not] at h;obtain ⟨⟨h1,h2⟩,h3,h4⟩:=h;refine ⟨by omega,by omega,fun x hx=>?_,fun x hx=>?_⟩
  · obtain ⟨i,hi,he⟩:=B1j hx;have:=h3 i hi;rw [he] at this;unfold gC at this;simp at this;omega
  · obtain ⟨i,hi,he⟩:=B1j hx;have:=h4 i hi;rw [he] at this;unfold gB at this;simp at this;omega
def exC:C1:=⟨([(⟨0,0⟩:S5),(⟨1,0⟩:S5)]:List S5),[],(⟨(⟨1,([(⟨0,0,1⟩:F9)]:List F9)⟩:A4j),(⟨1,([(⟨1,0,1⟩:F9)]:List F9)⟩:A4j)⟩:B0r)⟩
def exX:I5:=⟨0,(⟨2,0,0,[]⟩:L7),(⟨0,[],false,0⟩:E5),true,0,0,0,0,1,1,0,(-1),0,(-1)⟩
theorem accX:acc exC=true:=by decide
theorem wfX:wfc exC:=by unfold wfc exC maxLen;simp
theorem B4e(C:List I5)(l:List D8)(hC:C.length≤1)(hx:∀x∈C,x=exX)(hl:l.length≤100):Dom exC C [] l:=
  ⟨wfX,accX,by simp [exC],by simp [exC],by omega,by simp,by omega,fun x h=>by rw [hx x h];exact ⟨rfl,rfl,by simp [exX]⟩,fun x h=>by simp at h⟩
theorem wk0:C6 exC [] [] []=some true:=by
  obtain ⟨b,h1,h2⟩:=A6a (B4e [] [] (by simp) (by simp) (by simp));unfold E3 at h2;rw [A27 (by simp) (by simp) [] (by simp),show tim [] [] []=true by decide] at h2;simp only [Option.bind_some,Bool.not_true,cond_false] at h2;rw [L9] at h2;unfold E3.b1 at h2;rw [h1];exact h2.symm▸rfl
theorem wk1:C6 exC [exX] [] []=some false:=by
  obtain ⟨b,h1,h2⟩:=A6a (B4e [exX] [] (by simp) (by simp) (by simp));unfold E3 at h2;rw [A27 (by simp) (by simp) [] (by simp),show tim [exX] [] []=false by decide] at h2;rw [h1];exact h2.symm▸rfl
theorem doX:U2 exC [] exX=some ⟨0,[],false,0⟩:=by
  unfold U2;rw [B0k [] (by simp),Option.bind_some,show K4 exC (J8 [] exX.u3) exX.u4=some 0 by
    unfold K4;rw [A43 _ wfX,accX];rfl,Option.bind_some]
  unfold K5;rw [A55 wfX accX (by decide) (by decide)];rfl
theorem wk2:C6 exC [exX] [] [⟨1,0⟩]=some true:=by
  obtain ⟨b,h1,h2⟩:=A6a (B4e [exX] [⟨1,0⟩] (by simp) (by simp) (by simp));unfold E3 at h2;rw [A27 (by simp) (by simp) [⟨1,0⟩] (by simp),show tim [exX] [] [⟨1,0⟩]=true by decide] at h2;simp only [Option.bind_some,Bool.not_true,cond_false] at h2;have e1:E3.b1 ⟨exC,[exX],[]⟩ [⟨1,0⟩] true (0,[],false)=some (.next (1,[⟨exX,⟨0,[],false,0⟩,0,0⟩],false)):=by
    unfold E3.b1;have r1:rd ([⟨1,0⟩]:List D8) 0=⟨1,0⟩:=rfl;have r2:rd [exX] 0=exX:=rfl;have r3:exX.kt=true:=rfl;have r4:exX.qh=⟨0,[],false,0⟩:=rfl;simp only [List.length_cons,List.length_nil,r1,r2,doX,Option.bind_some,r3,r4,cal,cond_true,B30 ⟨0,[],false,0⟩ ⟨0,[],false,0⟩ (by simp),Int.reduceBEq,decide_true,Bool.not_true,Bool.and_false,cond_false];rfl
  have e2:E3.b1 ⟨exC,[exX],[]⟩ [⟨1,0⟩] true (1,[⟨exX,⟨0,[],false,0⟩,0,0⟩],false)=some (.out (.brk (1,[⟨exX,⟨0,[],false,0⟩,0,0⟩],false))):=by
    unfold E3.b1;rfl
  rw [L9,e1] at h2;simp only [] at h2;rw [L9,e2] at h2;rw [h1];exact h2.symm▸rfl
theorem B8x:Z3=some true:=by
  unfold Z3 J4;simp only [Option.bind_some];show (C6 exC [] [] []).bind _=_;rw [wk0,Option.bind_some,cond_true];show (C6 exC [exX] [] []).bind _=_;rw [wk1,Option.bind_some];show (C6 exC [exX] [] [⟨1,0⟩]).bind _=_;rw [wk2];rfl
end
end Go.Proofs.YtpdflibmhchlbaaGreatDoor
