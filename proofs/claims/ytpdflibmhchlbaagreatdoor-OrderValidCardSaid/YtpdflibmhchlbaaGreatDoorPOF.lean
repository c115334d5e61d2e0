/- Orders: what is not too great, and the example. No statement is proved here. Conditions: none. -/
import Derived.Test.YtpdflibmhchlbaaGreatDoorPOE
set_option linter.unusedVariables false
set_option linter.unusedSimpArgs false
namespace Go.Proofs.YtpdflibmhchlbaaGreatDoor
open Go Go.RowKit Go.Eng
section
variable {C:List I8} {B:List J4}
def gC(x:I8):Bool:=((((decide ((x.u4.u9.length:Int)>40)||decide ((x.qi.u9.length:Int)>40))||decide (x.qc<(-1)))||decide (x.qc>1099511627776))||decide (x.T1<(-1)))||decide (x.T1>1099511627776)
def gB(x:J4):Bool:=(decide ((x.qh.length:Int)>40)||decide (x.u3<(-1)))||decide (x.u3>100)
def grt(C:List I8)(B:List J4):Bool:=(decide ((C.length:Int)>40)||decide ((B.length:Int)>40))||((List.range C.length).any (fun i=>gC (rd C (i:Int)))||(List.range B.length).any (fun i=>gB (rd B (i:Int))))
theorem B7u(C:List I8)(B:List J4):I6 C B 40=some (grt C B):=by
  unfold I6 grt;cases h0:(decide ((C.length:Int)>40)||decide ((B.length:Int)>40))
  · simp only [cond_false,Bool.false_or];have hC:C.length≤40:=by simp at h0;omega
    have hB:B.length≤40:=by simp at h0;omega
    rcases A6k (B:=I6.b1 C B 40) C.length (fun _ _=>True) (fun i=>gC (rd C (i:Int))) true false trivial (fun i s hi _=>by
      unfold I6.b1;simp only [R2 hi,cond_true,H7 hi,D8,wp1 hi (by unfold maxLen;omega)];exact ⟨fun h=>by unfold gC at h;rw [h];rfl,fun h=>⟨s,by unfold gC at h;rw [h];rfl,trivial⟩⟩) (fun s _=>by unfold I6.b1;simp only [X7,cond_false]) with ⟨q1,q2⟩ | ⟨q1,s,q2,_⟩
    · rw [q2,q1];rfl
    · rw [q2,q1];simp only [Option.bind_some,Ex.on,Bool.false_or];rcases A6k (B:=I6.b2 C B 40 ((C.length:Int),s)) B.length (fun _ _=>True) (fun i=>gB (rd B (i:Int))) true s trivial (fun i s hi _=>by
        unfold I6.b2;simp only [R2 hi,cond_true,H7 hi,D8,A2g (fun _=>rfl),wp1 hi (by unfold maxLen;omega)];exact ⟨fun h=>by unfold gB at h;rw [h];rfl,fun h=>⟨s,by unfold gB at h;rw [h];rfl,trivial⟩⟩) (fun s _=>by unfold I6.b2;simp only [X7,cond_false]) with ⟨p1,p2⟩ | ⟨p1,s',p2,_⟩
      · rw [p2,p1];rfl
      · rw [p2,p1];rfl
  · rfl
theorem B1l{α:Type}[Inhabited α]{l:List α}{x:α}(h:x∈l):∃i:Nat,i<l.length∧rd l (i:Int)=x:=by
  obtain ⟨i,hi,he⟩:=List.getElem_of_mem h;refine ⟨i,hi,?_⟩;unfold rd;rw [List.getD_eq_getElem?_getD,show ((i:Int)).toNat=i by omega,List.getElem?_eq_getElem hi];exact he
theorem grt_f(h:grt C B=false):C.length≤40∧B.length≤40∧(∀x∈C,x.u4.u9.length≤40)∧∀x∈B,-1≤x.u3∧x.u3≤100:=by
  unfold grt at h;simp only [Bool.or_eq_false_iff,List.any_eq_false,List.mem_range,decide_eq_false_iff_not] at h;obtain ⟨⟨h1,h2⟩,h3,h4⟩:=h;refine ⟨by omega,by omega,fun x hx=>?_,fun x hx=>?_⟩
  · obtain ⟨i,hi,he⟩:=B1l hx;have:=h3 i hi;rw [he] at this;unfold gC at this;simp at this;omega
  · obtain ⟨i,hi,he⟩:=B1l hx;have:=h4 i hi;rw [he] at this;unfold gB at this;simp at this;omega
def exC:C2:=⟨([(⟨0,0⟩:S9),(⟨1,0⟩:S9)]:List S9),[],(⟨(⟨1,([(⟨0,0,1⟩:G4)]:List G4)⟩:A4k),(⟨1,([(⟨1,0,1⟩:G4)]:List G4)⟩:A4k)⟩:B0t)⟩
def exX:I8:=⟨0,(⟨2,0,0,[]⟩:M1),(⟨0,[],false,0⟩:E7),true,0,0,0,0,1,1,0,(-1),0,(-1)⟩
theorem accX:acc exC=true:=by decide
theorem wfX:wfc exC:=by unfold wfc exC maxLen;simp
theorem B4f(C:List I8)(l:List F5)(hC:C.length≤1)(hx:∀x∈C,x=exX)(hl:l.length≤100):Dom exC C [] l:=
  ⟨wfX,accX,by simp [exC],by simp [exC],by omega,by simp,by omega,fun x h=>by rw [hx x h];exact ⟨rfl,rfl,by simp [exX]⟩,fun x h=>by simp at h⟩
theorem wk0:C8 exC [] [] []=some true:=by
  obtain ⟨b,h1,h2⟩:=A8a (B4f [] [] (by simp) (by simp) (by simp));unfold E6 at h2;rw [A46 (by simp) (by simp) [] (by simp),show tim [] [] []=true by decide] at h2;simp only [Option.bind_some,Bool.not_true,cond_false] at h2;rw [M2] at h2;unfold E6.b1 at h2;rw [h1];exact h2.symm▸rfl
theorem wk1:C8 exC [exX] [] []=some false:=by
  obtain ⟨b,h1,h2⟩:=A8a (B4f [exX] [] (by simp) (by simp) (by simp));unfold E6 at h2;rw [A46 (by simp) (by simp) [] (by simp),show tim [exX] [] []=false by decide] at h2;rw [h1];exact h2.symm▸rfl
theorem doX:U7 exC [] exX=some ⟨0,[],false,0⟩:=by
  unfold U7;rw [B0m [] (by simp),Option.bind_some,show K8 exC (K4 [] exX.u3) exX.u4=some 0 by
    unfold K8;rw [A45 _ wfX,accX];rfl,Option.bind_some]
  unfold K9;rw [A58 wfX accX (by decide) (by decide)];rfl
theorem wk2:C8 exC [exX] [] [⟨1,0⟩]=some true:=by
  obtain ⟨b,h1,h2⟩:=A8a (B4f [exX] [⟨1,0⟩] (by simp) (by simp) (by simp));unfold E6 at h2;rw [A46 (by simp) (by simp) [⟨1,0⟩] (by simp),show tim [exX] [] [⟨1,0⟩]=true by decide] at h2;simp only [Option.bind_some,Bool.not_true,cond_false] at h2;have e1:E6.b1 ⟨exC,[exX],[]⟩ [⟨1,0⟩] true (0,[],false)=some (.next (1,[⟨exX,⟨0,[],false,0⟩,0,0⟩],false)):=by
    unfold E6.b1;have r1:rd ([⟨1,0⟩]:List F5) 0=⟨1,0⟩:=rfl;have r2:rd [exX] 0=exX:=rfl;have r3:exX.kz=true:=rfl;have r4:exX.qi=⟨0,[],false,0⟩:=rfl;simp only [List.length_cons,List.length_nil,r1,r2,doX,Option.bind_some,r3,r4,cal,cond_true,B30 ⟨0,[],false,0⟩ ⟨0,[],false,0⟩ (by simp),Int.reduceBEq,decide_true,Bool.not_true,Bool.and_false,cond_false];rfl
  have e2:E6.b1 ⟨exC,[exX],[]⟩ [⟨1,0⟩] true (1,[⟨exX,⟨0,[],false,0⟩,0,0⟩],false)=some (.out (.brk (1,[⟨exX,⟨0,[],false,0⟩,0,0⟩],false))):=by
    unfold E6.b1;rfl
  rw [M2,e1] at h2;simp only [] at h2;rw [M2,e2] at h2;rw [h1];exact h2.symm▸rfl
theorem B8u:Z7=some true:=by
  unfold Z7 K0;simp only [Option.bind_some];show (C8 exC [] [] []).bind _=_;rw [wk0,Option.bind_some,cond_true];show (C8 exC [exX] [] []).bind _=_;rw [wk1,Option.bind_some];show (C8 exC [exX] [] [⟨1,0⟩]).bind _=_;rw [wk2];rfl
end
end Go.Proofs.YtpdflibmhchlbaaGreatDoor
