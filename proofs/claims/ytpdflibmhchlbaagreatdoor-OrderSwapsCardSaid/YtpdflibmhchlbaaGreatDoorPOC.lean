/- Orders in time: both say the same. No statement is proved here. Conditions: none. -/
import Derived.Test.YtpdflibmhchlbaaGreatDoorPOB
set_option linter.unusedVariables false
set_option linter.unusedSimpArgs false
namespace Go.Proofs.YtpdflibmhchlbaaGreatDoor
open Go Go.RowKit Go.Eng
theorem B31{σ ρ:Type}{B:Int×σ→Option (Stp (Int×σ) (Ex (Int×σ) ρ))}(n:Nat)(I:Nat→σ→Prop)(bad:Nat→Bool)(r:ρ)
    (h1:∀(i:Nat) s,i<n→I i s→(bad i=true→B ((i:Int),s)=some (.out (.ret r)))∧(bad i=false→∃s',B ((i:Int),s)=some (.next (((i+1:Nat):Int),s'))∧I (i+1) s')) (h2:∀s,I n s→B ((n:Int),s)=some (.out (.brk ((n:Int),s)))):
    ∀(k i:Nat) (s:σ),i+k=n→I i s→((List.range' i k).any bad=true∧F5 B ((i:Int),s)=some (.ret r))∨((List.range' i k).any bad=false∧∃s',F5 B ((i:Int),s)=some (.brk ((n:Int),s'))∧I n s')
  | 0,i,s,h,hI=>by
    have hi:i=n:=by omega
    subst hi;exact .inr ⟨rfl,s,by rw [K4,h2 s hI],hI⟩
  | k +1,i,s,h,hI=>by
    obtain ⟨q1,q2⟩:=h1 i s (by omega) hI;rw [K4,List.range'_succ,List.any_cons];cases hb:bad i
    · obtain ⟨s1,e,hI'⟩:=q2 hb;rw [e,Bool.false_or];exact B31 n I bad r h1 h2 k (i+1) s1 (by omega) hI'
    · rw [q1 hb];exact .inl ⟨rfl,rfl⟩
theorem A6r{σ ρ:Type}{B:Int×σ→Option (Stp (Int×σ) (Ex (Int×σ) ρ))}(n:Nat)(I:Nat→σ→Prop)(bad:Nat→Bool)(r:ρ)(s:σ)(h0:I 0 s)
    (h1:∀(i:Nat) s,i<n→I i s→(bad i=true→B ((i:Int),s)=some (.out (.ret r)))∧(bad i=false→∃s',B ((i:Int),s)=some (.next (((i+1:Nat):Int),s'))∧I (i+1) s')) (h2:∀s,I n s→B ((n:Int),s)=some (.out (.brk ((n:Int),s)))):
    ((List.range n).any bad=true∧F5 B (0,s)=some (.ret r))∨((List.range n).any bad=false∧∃s',F5 B (0,s)=some (.brk ((n:Int),s'))∧I n s'):=by
  have:=B31 n I bad r h1 h2 n 0 s (by omega) h0;rw [← List.range_eq_range'] at this;exact this
section
variable {C:List I4} {B:List I5}
def isB(C:List I4)(B:List I5)(x:E0):Bool:=bif x.u6==3 then decide (x.Of≥0)&&decide (x.Of<(B.length:Int)) else bif decide (x.Of<0)||decide (x.Of≥(C.length:Int)) then false else
  ((x.u6==1)&&((rd C x.Of).kt||decide ((rd C x.Of).qi≥0)))||((x.u6==2)&&decide ((rd C x.Of).qe≥0))
theorem B5a{i:Int}{n:Nat}(h:(decide (i<0)||decide (i≥(n:Int)))=false):inb i n=true:=by simp at h;exact A1q h.1 h.2
theorem tis_eq(x:E0):V9 ⟨C,B⟩ x=some (isB C B x):=by
  unfold V9 isB;cases x.u6==3
  · cases h:decide (x.Of<0)||decide (x.Of≥(C.length:Int))
    · simp only [cond_false,h,B5a h,D5]
    · simp only [cond_false,h,cond_true]
  · rfl
theorem ris_eq(x:E0):A2b C B x=some (isB C B x):=by
  unfold A2b isB;cases x.u6==3
  · cases h:decide (x.Of<0)||decide (x.Of≥(C.length:Int))
    · simp only [cond_false,h,B5a h,D5,A2e (fun _=>rfl)];cases h2:x.u6==2
      · simp only [cond_false,Bool.false_and,Bool.or_false]
      · rw [show (x.u6==1)=false by simp at h2;simp [h2]];simp only [cond_true,Bool.false_and,Bool.false_or,Bool.true_and]
    · simp only [cond_false,h,cond_true]
  · rfl
def frm(C:List I4)(B:List I5)(x:E0):Int:=bif x.u6==3 then (rd B x.Of).At else bif x.u6==2 then (rd C x.Of).qe else (rd C x.Of).kr
def ahB(C:List I4)(B:List I5)(x y:E0):Bool:=bif ((x.u6==1)&&(y.u6==2))&&(x.Of==y.Of) then true else bif x.u6==1 then (rd C x.Of).kt&&decide ((rd C x.Of).To<frm C B y) else decide (frm C B x<frm C B y)
theorem A1z{x:E0}(h:isB C B x=true):(x.u6=3∧inb x.Of B.length=true∧0≤x.Of∧x.Of<(B.length:Int))∨(inb x.Of C.length=true∧0≤x.Of∧x.Of<(C.length:Int)∧((x.u6=1∧((rd C x.Of).kt=true∨(rd C x.Of).qi≥0))∨(x.u6=2∧(rd C x.Of).qe≥0))):=by
  unfold isB at h;cases h3:x.u6==3
  · rw [h3] at h;cases hb:decide (x.Of<0)||decide (x.Of≥(C.length:Int))
    · rw [hb] at h;refine .inr ⟨B5a hb,by simp at hb;omega,by simp at hb;omega,?_⟩;simp only [cond_false,Bool.or_eq_true,Bool.and_eq_true,beq_iff_eq,decide_eq_true_eq] at h;exact h
    · rw [hb] at h;cases h
  · rw [h3] at h;simp only [cond_true,Bool.and_eq_true,decide_eq_true_eq] at h;exact .inl ⟨by simpa using h3,A1q h.1 h.2,h.1,h.2⟩
theorem A9w{x:E0}(h:isB C B x=true):Q2 C B x=some (frm C B x):=by
  unfold Q2 frm;rcases A1z h with ⟨h3,hi,_⟩ | ⟨hi,_,_,⟨h1,_⟩ | ⟨h2,_⟩⟩
  · simp only [h3,Int.reduceBEq,cond_true,hi,D5]
  · simp only [h1,Int.reduceBEq,cond_false,hi,D5]
  · simp only [h2,Int.reduceBEq,cond_false,cond_true,hi,D5]
theorem B87{x y:E0}(hx:isB C B x=true)(hy:isB C B y=true):U8 C B x y=some (ahB C B x y):=by
  unfold U8 ahB;rw [A9w hy];cases ((x.u6==1)&&(y.u6==2))&&(x.Of==y.Of)
  · simp only [cond_false];rcases A1z hx with ⟨h3,hi,_⟩ | ⟨hi,_,_,⟨h1,_⟩ | ⟨h2,_⟩⟩
    · rw [A9w hx];simp only [h3,Int.reduceBEq,cond_false,Option.bind_some]
    · simp only [h1,Int.reduceBEq,cond_true,hi,D5,A2e (fun _=>rfl)];cases (rd C x.Of).kt<;>rfl
    · rw [A9w hx];simp only [h2,Int.reduceBEq,cond_false,Option.bind_some]
  · rfl
def tmO(C:List I4)(B:List I5)(x:E0):Int:=bif x.u6==1 then (bif (rd C x.Of).kt then (rd C x.Of).To else 9223372036854775807) else frm C B x
theorem B6y{x:E0}(h:isB C B x=true):O4 ⟨C,B⟩ x=some ⟨frm C B x,tmO C B x⟩:=by
  unfold O4 frm tmO frm;rcases A1z h with ⟨h3,hi,i0,i1⟩ | ⟨hi,i0,i1,⟨h1,hd⟩ | ⟨h2,hr⟩⟩
  · rw [show ((decide (x.Of<0)||((x.u6==3)&&decide (x.Of≥(B.length:Int))))||((x.u6 !=3)&&decide (x.Of≥(C.length:Int))))=false by simp [h3];omega];simp only [h3,Int.reduceBEq,cond_true,cond_false,hi,D5]
  · rw [show ((decide (x.Of<0)||((x.u6==3)&&decide (x.Of≥(B.length:Int))))||((x.u6 !=3)&&decide (x.Of≥(C.length:Int))))=false by simp [h1];omega];simp only [h1,Int.reduceBEq,cond_true,cond_false,hi,D5,Bool.false_and,Bool.true_and];cases hD:(rd C x.Of).kt
    · have hm:decide ((rd C x.Of).qi≥0)=true:=by
        rcases hd with h | h
        · rw [hD] at h;cases h
        · simpa using h
      simp only [cond_false,hm,cond_true]
    · rfl
  · rw [show ((decide (x.Of<0)||((x.u6==3)&&decide (x.Of≥(B.length:Int))))||((x.u6 !=3)&&decide (x.Of≥(C.length:Int))))=false by simp [h2];omega];simp only [h2,Int.reduceBEq,cond_true,cond_false,hi,D5,Bool.true_and,show decide ((rd C x.Of).qe≥0)=true by simpa using hr]
theorem tah_eq{x y:E0}(hx:isB C B x=true)(hy:isB C B y=true):Q7 ⟨C,B⟩ x y=some (ahB C B x y):=by
  unfold Q7 ahB;rw [B6y hx,B6y hy];cases ((x.u6==1)&&(y.u6==2))&&(x.Of==y.Of)
  · simp only [cond_false,Option.bind_some];unfold tmO;rcases A1z hx with ⟨h3,hi,_⟩ | ⟨hi,_,_,⟨h1,_⟩ | ⟨h2,_⟩⟩
    · simp only [h3,Int.reduceBEq,cond_false,Bool.false_and,imp,Bool.not_false,Bool.true_or,D5]
    · simp only [h1,Int.reduceBEq,cond_true,hi,A2e (fun _=>rfl),D5,Bool.true_and];cases (rd C x.Of).kt<;>rfl
    · simp only [h2,Int.reduceBEq,cond_false,Bool.false_and,imp,Bool.not_false,Bool.true_or,D5]
  · rfl
def A03(l:List E0)(x:E0):Bool:=decide (x∈l)
theorem B74(x y:E0):A2p x y=decide (x=y):=by
  obtain ⟨a,b⟩:=x;obtain ⟨d,e⟩:=y;unfold A2p;rw [Bool.eq_iff_iff];simp
theorem A8t(l:List E0)(hl:l.length≤1000)(x:E0):L6 l x=some (A03 l x):=by
  unfold L6;rw [A1k (B:=L6.b1 l x) (fun y=>A2p y x) l false true (fun i hi=>by
    unfold L6.b1;simp only [P6 hi,cond_true,G6 hi,D5,wp1 hi (by unfold maxLen;omega)];cases A2p (rd l (i:Int)) x<;>rfl) (by
    unfold L6.b1;simp only [X1,cond_false])]
  have:l.any (fun y=>A2p y x)=A03 l x:=by
    unfold A03;rw [Bool.eq_iff_iff];simp only [List.any_eq_true,B74,decide_eq_true_eq];exact ⟨fun ⟨y,h1,h2⟩=>h2▸h1,fun h=>⟨x,h,rfl⟩⟩
  rw [this];cases A03 l x<;>rfl
def bad(C:List I4)(B:List I5)(l:List E0)(i:Nat):Bool:=(!isB C B (rd l (i:Int))||A03 (l.take i) (rd l (i:Int)))||(List.range i).any fun j=>ahB C B (rd l (i:Int)) (rd l (j:Int))
end
end Go.Proofs.YtpdflibmhchlbaaGreatDoor
