/- Closed forms: the queues of the model. No statement is proved here. Conditions: none. -/
import Derived.Test.YtpdflibmhchlbaaGreatDoorPO4
set_option linter.unusedVariables false
set_option linter.unusedSimpArgs false
namespace Go.Proofs.YtpdflibmhchlbaaGreatDoor
open Go Go.RowKit Go.Eng Go.IntKind
structure Rep (r:D1) (d:Nat) (l:List (List Int)):Prop where
  len:r.ring.length=d
  n:r.n=(l.length:Int)
  le:l.length≤d
  ex:∃f:Nat,r.first=(f:Int)∧f<d∧∀i x,l[i]? =some x→r.ring[(f+i) % d]? =some x
theorem B44{a d:Nat}(h:a<2*d):a % d=if a<d then a else a - d:=by
  split
  · exact Nat.mod_eq_of_lt ‹_›
  · rw [Nat.mod_eq_sub_mod (by omega),Nat.mod_eq_of_lt (by omega)]
theorem at_eq{r:D1}{d f a:Nat}(hl:r.ring.length=d)(hf:r.first=(f:Int))(hd:0<d)(h8:d≤1000)(hlt:f<d)(ha:a≤1000):L5 r (a:Int)=some (((f+a) % d:Nat):Int):=by
  unfold L5;rw [hl,hf,show decide (¬(d:Int)=0)=true by simp;omega,D7,w64 (by omega) (by omega)]
  congr 1
theorem B9s{r:D1}{d:Nat}{l:List (List Int)}(h:Rep r d l)(h8:d≤1000)(x:List Int):
    ∃r',M4 r x=some (bif decide ((l.length:Int)≥(d:Int)) then 2 else 0,r')∧Rep r' d (bif decide ((l.length:Int)≥(d:Int)) then l else l++[x]):=by
  obtain ⟨h1,h2,h3,f,h4,h5,h6⟩:=h;unfold M4;rw [h2,h1];by_cases hfull:l.length=d
  · rw [show ((l.length:Int)==(d:Int))=true by simp [hfull],show decide ((l.length:Int)≥(d:Int))=true by simp;omega];exact ⟨r,rfl,h1,h2,h3,f,h4,h5,h6⟩
  · rw [show ((l.length:Int)==(d:Int))=false by simp;omega,show decide ((l.length:Int)≥(d:Int))=false by simp;omega];simp only [cond_false];rw [at_eq h1 h4 (by omega) h8 h5 (by omega),Option.bind_some];have hm:(f+l.length) % d<d:=Nat.mod_lt _ (by omega);rw [H4 hm,D7];refine ⟨_,rfl,by simp [h1],?_,by simp;omega,f,h4,h5,fun i y hy=>?_⟩
    · show i64.wrap ((l.length:Int)+1)=_;rw [w64 (by omega) (by omega)];simp
    · show (r.ring.set (((f+l.length) % d:Nat):Int).toNat x)[(f+i) % d]? =some y;rw [show ((((f+l.length) % d:Nat):Int)).toNat=(f+l.length) % d by omega];by_cases hi:i<l.length
      · rw [List.getElem?_append_left hi] at hy;rw [List.getElem?_set_ne]
        · exact h6 i y hy
        · rw [B44 (by omega:f+l.length<2*d),B44 (by omega:f+i<2*d)];split<;>split<;>omega
      · have hil:i=l.length:=by
          have:=(List.getElem?_eq_some_iff.1 hy).1;simp at this;omega
        subst hil;rw [List.getElem?_append_right (Nat.le_refl _)] at hy;simp at hy;subst hy;rw [List.getElem?_set_self (by rw [h1];exact hm)]
theorem B8s{r:D1}{d:Nat}{l:List (List Int)}(h:Rep r d l)(h8:d≤1000):
    ∃r',L4 r=some (bif ((l.length:Int)==0) then [] else rd l 0,bif ((l.length:Int)==0) then 2 else 0,r')∧Rep r' d (l.drop 1):=by
  obtain ⟨h1,h2,h3,f,h4,h5,h6⟩:=h;unfold L4;rw [h2];cases l with
  | nil=>exact ⟨r,rfl,h1,h2,h3,f,h4,h5,h6⟩
  | cons y l=>
    rw [show ((((y::l).length:Nat):Int)==0)=false by simp;omega];simp only [cond_false];have hd:0<d:=by simp at h3;omega
    rw [h4,h1,H4 h5,D7,D7];rw [show (1:Int)=((1:Nat):Int) from rfl,at_eq (r:=⟨r.ring.set (f:Int).toNat [],(f:Int),_⟩) (d:=d) (f:=f) (by simp [h1]) rfl hd h8 h5 (by omega),Option.bind_some];have hy:rd r.ring (f:Int)=y:=by
      have:=h6 0 y rfl;rw [Nat.add_zero,Nat.mod_eq_of_lt h5] at this;unfold rd;rw [List.getD_eq_getElem?_getD,show ((f:Int)).toNat=f by omega,this];rfl
    refine ⟨_,by rw [hy];rfl,by simp [h1],?_,by simp at h3 ⊢; omega,(f+1) % d,rfl,Nat.mod_lt _ hd,fun i x hx=>?_⟩
    · show i64.wrap (((y::l).length:Int) - 1)=_;simp at h3 ⊢;rw [w64 (by omega) (by omega)]
    · show (r.ring.set ((f:Int)).toNat [])[((f+1) % d+i) % d]? =some x;have hil:i<l.length:=by have:=(List.getElem?_eq_some_iff.1 hx).1;simpa using this
      simp at h3;rw [show ((f:Int)).toNat=f by omega,Nat.mod_add_mod,show f+1+i=f+(i+1) by omega];rw [List.getElem?_set_ne]
      · exact h6 (i+1) x (by simpa using hx)
      · rw [B44 (by omega:f+(i+1)<2*d)];split<;>omega
theorem B9k{d:Int}(h1:1≤d)(h2:d≤1000):∃r,R3 d=some (some r,0)∧Rep r d.toNat []:=by
  unfold R3;rw [show (decide (d<1)||decide (d>4096))=false by simp;omega];simp only [cond_false];rw [show (decide (0≤d)&&decide ((d:Int).toNat*(1+24)≤16777216))=true by simp;omega,D7];exact ⟨_,rfl,by simp,rfl,by simp,0,rfl,by omega,fun i x h=>by simp at h⟩
end Go.Proofs.YtpdflibmhchlbaaGreatDoor
