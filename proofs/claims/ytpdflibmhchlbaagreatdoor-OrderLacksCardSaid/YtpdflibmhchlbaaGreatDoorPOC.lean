/- Orders in time: both say the same. No statement is proved here. Conditions: none. -/
import Derived.Test.YtpdflibmhchlbaaGreatDoorPOB
set_option linter.unusedVariables false
set_option linter.unusedSimpArgs false
namespace Go.Proofs.YtpdflibmhchlbaaGreatDoor
open Go Go.RowKit Go.Eng
theorem B3j{σ ρ:Type}{B:Int×σ→Option (Stp (Int×σ) (Ex (Int×σ) ρ))}(n:Nat)(I:Nat→σ→Prop)(bad:Nat→Bool)(r:ρ)
    (h1:∀(i:Nat) s,i<n→I i s→(bad i=true→B ((i:Int),s)=some (.out (.ret r)))∧(bad i=false→∃s',B ((i:Int),s)=some (.next (((i+1:Nat):Int),s'))∧I (i+1) s')) (h2:∀s,I n s→B ((n:Int),s)=some (.out (.brk ((n:Int),s)))):
    ∀(k i:Nat) (s:σ),i+k=n→I i s→((List.range' i k).any bad=true∧F3 B ((i:Int),s)=some (.ret r))∨((List.range' i k).any bad=false∧∃s',F3 B ((i:Int),s)=some (.brk ((n:Int),s'))∧I n s')
  | 0,i,s,h,hI=>by
    have hi:i=n:=by omega
    subst hi;exact .inr ⟨rfl,s,by rw [L9,h2 s hI],hI⟩
  | k +1,i,s,h,hI=>by
    obtain ⟨q1,q2⟩:=h1 i s (by omega) hI;rw [L9,List.range'_succ,List.any_cons];cases hb:bad i
    · obtain ⟨s1,e,hI'⟩:=q2 hb;rw [e,Bool.false_or];exact B3j n I bad r h1 h2 k (i+1) s1 (by omega) hI'
    · rw [q1 hb];exact .inl ⟨rfl,rfl⟩
theorem A6i{σ ρ:Type}{B:Int×σ→Option (Stp (Int×σ) (Ex (Int×σ) ρ))}(n:Nat)(I:Nat→σ→Prop)(bad:Nat→Bool)(r:ρ)(s:σ)(h0:I 0 s)
    (h1:∀(i:Nat) s,i<n→I i s→(bad i=true→B ((i:Int),s)=some (.out (.ret r)))∧(bad i=false→∃s',B ((i:Int),s)=some (.next (((i+1:Nat):Int),s'))∧I (i+1) s')) (h2:∀s,I n s→B ((n:Int),s)=some (.out (.brk ((n:Int),s)))):
    ((List.range n).any bad=true∧F3 B (0,s)=some (.ret r))∨((List.range n).any bad=false∧∃s',F3 B (0,s)=some (.brk ((n:Int),s'))∧I n s'):=by
  have:=B3j n I bad r h1 h2 n 0 s (by omega) h0;rw [← List.range_eq_range'] at this;exact this
section
variable {C:List I5} {B:List J0}
def isB(C:List I5)(B:List J0)(x:D8):Bool:=bif x.u6==3 then decide (x.Of≥0)&&decide (x.Of<(B.length:Int)) else bif decide (x.Of<0)||decide (x.Of≥(C.length:Int)) then false else
  ((x.u6==1)&&((rd C x.Of).kt||decide ((rd C x.Of).qi≥0)))||((x.u6==2)&&decide ((rd C x.Of).qe≥0))
theorem B4r{i:Int}{n:Nat}(h:(decide (i<0)||decide (i≥(n:Int)))=false):inb i n=true:=by simp at h;exact A1v h.1 h.2
theorem tis_eq(x:D8):V7 ⟨C,B⟩ x=some (isB C B x):=by
  unfold V7 isB;cases x.u6==3
  · cases h:decide (x.Of<0)||decide (x.Of≥(C.length:Int))
    · simp only [cond_false,h,B4r h,D7]
    · simp only [cond_false,h,cond_true]
  · rfl
theorem ris_eq(x:D8):A2e C B x=some (isB C B x):=by
  unfold A2e isB;cases x.u6==3
  · cases h:decide (x.Of<0)||decide (x.Of≥(C.length:Int))
    · simp only [cond_false,h,B4r h,D7,A1g (fun _=>rfl)];cases h2:x.u6==2
      · simp only [cond_false,Bool.false_and,Bool.or_false]
      · rw [show (x.u6==1)=false by simp at h2;simp [h2]];simp only [cond_true,Bool.false_and,Bool.false_or,Bool.true_and]
    · simp only [cond_false,h,cond_true]
  · rfl
def frm(C:List I5)(B:List J0)(x:D8):Int:=bif x.u6==3 then (rd B x.Of).At else bif x.u6==2 then (rd C x.Of).qe else (rd C x.Of).kr
def ahB(C:List I5)(B:List J0)(x y:D8):Bool:=bif ((x.u6==1)&&(y.u6==2))&&(x.Of==y.Of) then true else bif x.u6==1 then (rd C x.Of).kt&&decide ((rd C x.Of).To<frm C B y) else decide (frm C B x<frm C B y)
theorem A3d{x:D8}(h:isB C B x=true):(x.u6=3∧inb x.Of B.length=true∧0≤x.Of∧x.Of<(B.length:Int))∨(inb x.Of C.length=true∧0≤x.Of∧x.Of<(C.length:Int)∧((x.u6=1∧((rd C x.Of).kt=true∨(rd C x.Of).qi≥0))∨(x.u6=2∧(rd C x.Of).qe≥0))):=by
  unfold isB at h;cases h3:x.u6==3
  · rw [h3] at h;cases hb:decide (x.Of<0)||decide (x.Of≥(C.length:Int))
    · rw [hb] at h;refine .inr ⟨B4r hb,by simp at hb;omega,by simp at hb;omega,?_⟩;simp only [cond_false,Bool.or_eq_true,Bool.and_eq_true,beq_iff_eq,decide_eq_true_eq] at h;exact h
    · rw [hb] at h;cases h
  · rw [h3] at h;simp only [cond_true,Bool.and_eq_true,decide_eq_true_eq] at h;exact .inl ⟨by simpa using h3,A1v h.1 h.2,h.1,h.2⟩
theorem A9m{x:D8}(h:isB C B x=true):P9 C B x=some (frm C B x):=by
  unfold P9 frm;rcases A3d h with ⟨h3,hi,_⟩ | ⟨hi,_,_,⟨h1,_⟩ | ⟨h2,_⟩⟩
  · simp only [h3,Int.reduceBEq,cond_true,hi,D7]
  · simp only [h1,Int.reduceBEq,cond_false,hi,D7]
  · simp only [h2,Int.reduceBEq,cond_false,cond_true,hi,D7]
theorem rah_eq{x y:D8}(hx:isB C B x=true)(hy:isB C B y=true):Z5 C B x y=some (ahB C B x y):=by
  unfold Z5 ahB;rw [A9m hy];cases ((x.u6==1)&&(y.u6==2))&&(x.Of==y.Of)
  · simp only [cond_false];rcases A3d hx with ⟨h3,hi,_⟩ | ⟨hi,_,_,⟨h1,_⟩ | ⟨h2,_⟩⟩
    · rw [A9m hx];simp only [h3,Int.reduceBEq,cond_false,Option.bind_some]
    · simp only [h1,Int.reduceBEq,cond_true,hi,D7,A1g (fun _=>rfl)];cases (rd C x.Of).kt<;>rfl
    · rw [A9m hx];simp only [h2,Int.reduceBEq,cond_false,Option.bind_some]
  · rfl
def tmO(C:List I5)(B:List J0)(x:D8):Int:=bif x.u6==1 then (bif (rd C x.Of).kt then (rd C x.Of).To else 9223372036854775807) else frm C B x
theorem B6d{x:D8}(h:isB C B x=true):O0 ⟨C,B⟩ x=some ⟨frm C B x,tmO C B x⟩:=by
  unfold O0 frm tmO frm;rcases A3d h with ⟨h3,hi,i0,i1⟩ | ⟨hi,i0,i1,⟨h1,hd⟩ | ⟨h2,hr⟩⟩
  · rw [show ((decide (x.Of<0)||((x.u6==3)&&decide (x.Of≥(B.length:Int))))||((x.u6 !=3)&&decide (x.Of≥(C.length:Int))))=false by simp [h3];omega];simp only [h3,Int.reduceBEq,cond_true,cond_false,hi,D7]
  · rw [show ((decide (x.Of<0)||((x.u6==3)&&decide (x.Of≥(B.length:Int))))||((x.u6 !=3)&&decide (x.Of≥(C.length:Int))))=false by simp [h1];omega];simp only [h1,Int.reduceBEq,cond_true,cond_false,hi,D7,Bool.false_and,Bool.true_and];cases hD:(rd C x.Of).kt
    · have hm:decide ((rd C x.Of).qi≥0)=true:=by
        rcases hd with h | h
        · rw [hD] at h;cases h
        · simpa using h
      simp only [cond_false,hm,cond_true]
    · rfl
  · rw [show ((decide (x.Of<0)||((x.u6==3)&&decide (x.Of≥(B.length:Int))))||((x.u6 !=3)&&decide (x.Of≥(C.length:Int))))=false by simp [h2];omega];simp only [h2,Int.reduceBEq,cond_true,cond_false,hi,D7,Bool.true_and,show decide ((rd C x.Of).qe≥0)=true by simpa using hr]
theorem tah_eq{x y:D8}(hx:isB C B x=true)(hy:isB C B y=true):Q5 ⟨C,B⟩ x y=some (ahB C B x y):=by
  unfold Q5 ahB;rw [B6d hx,B6d hy];cases ((x.u6==1)&&(y.u6==2))&&(x.Of==y.Of)
  · simp only [cond_false,Option.bind_some];unfold tmO;rcases A3d hx with ⟨h3,hi,_⟩ | ⟨hi,_,_,⟨h1,_⟩ | ⟨h2,_⟩⟩
    · simp only [h3,Int.reduceBEq,cond_false,Bool.false_and,imp,Bool.not_false,Bool.true_or,D7]
    · simp only [h1,Int.reduceBEq,cond_true,hi,A1g (fun _=>rfl),D7,Bool.true_and];cases (rd C x.Of).kt<;>rfl
    · simp only [h2,Int.reduceBEq,cond_false,Bool.false_and,imp,Bool.not_false,Bool.true_or,D7]
  · rfl
def A0p(l:List D8)(x:D8):Bool:=decide (x∈l)
theorem B7g(x y:D8):A2o x y=decide (x=y):=by
  obtain ⟨a,b⟩:=x;obtain ⟨d,e⟩:=y;unfold A2o;rw [Bool.eq_iff_iff];simp
theorem A8k(l:List D8)(hl:l.length≤1000)(x:D8):L6 l x=some (A0p l x):=by
  unfold L6;rw [A1p (B:=L6.b1 l x) (fun y=>A2o y x) l false true (fun i hi=>by
    unfold L6.b1;simp only [Q6 hi,cond_true,H4 hi,D7,wp1 hi (by unfold maxLen;omega)];cases A2o (rd l (i:Int)) x<;>rfl) (by
    unfold L6.b1;simp only [X2,cond_false])]
  have:l.any (fun y=>A2o y x)=A0p l x:=by
    unfold A0p;rw [Bool.eq_iff_iff];simp only [List.any_eq_true,B7g,decide_eq_true_eq];exact ⟨fun ⟨y,h1,h2⟩=>h2▸h1,fun h=>⟨x,h,rfl⟩⟩
  rw [this];cases A0p l x<;>rfl
def bad(C:List I5)(B:List J0)(l:List D8)(i:Nat):Bool:=(!isB C B (rd l (i:Int))||A0p (l.take i) (rd l (i:Int)))||(List.range i).any fun j=>ahB C B (rd l (i:Int)) (rd l (j:Int))
end
end Go.Proofs.YtpdflibmhchlbaaGreatDoor
