/- Closed forms of the document's answers (layer 18). No statement is proved here. Conditions: none. -/
import Derived.Test.YtpdflibmhchlbaaGreatDoorPRefC
set_option linter.unusedVariables false
set_option linter.unusedSimpArgs false
namespace Go.Proofs.YtpdflibmhchlbaaGreatDoor
open Go Go.RowKit Go.Eng
abbrev Q7:=C9
section
variable {σ ρ:Type} {B:Int×σ→Option (Stp (Int×σ) (Ex (Int×σ) ρ))}
theorem B3l(n:Nat)(I:Nat→σ→Prop)(h1:∀(i:Nat) s,i<n→I i s→∃s',B ((i:Int),s)=some (.next (((i+1:Nat):Int),s'))∧I (i+1) s')(h2:∀s,I n s→B ((n:Int),s)=some (.out (.brk ((n:Int),s)))):
    ∀(k i:Nat) (s:σ),i+k=n→I i s→∃s',F7 B ((i:Int),s)=some (.brk ((n:Int),s'))∧I n s'
  | 0,i,s,h,hI=>by
    have hi:i=n:=by omega
    subst hi;exact ⟨s,by rw [M2,h2 s hI],hI⟩
  | k+1,i,s,h,hI=>by
    obtain ⟨s1,e,hI'⟩:=h1 i s (by omega) hI;rw [M2,e];exact B3l n I h1 h2 k (i+1) s1 (by omega) hI'
theorem A0t(n:Nat)(I:Nat→σ→Prop)(s:σ)(h0:I 0 s)(h1:∀(i:Nat) s,i<n→I i s→∃s',B ((i:Int),s)=some (.next (((i+1:Nat):Int),s'))∧I (i+1) s')(h2:∀s,I n s→B ((n:Int),s)=some (.out (.brk ((n:Int),s)))):
    ∃s',F7 B (0,s)=some (.brk ((n:Int),s'))∧I n s':=B3l n I h1 h2 n 0 s (by omega) h0
end
theorem A78{α β:Type}[Inhabited α](xs:List α)(g:β→α→β)(b:β){i:Nat}(h:i<xs.length):(xs.take (i+1)).foldl g b=g ((xs.take i).foldl g b) (rd xs (i:Int)):=by
  rw [List.take_add_one,List.getElem?_eq_getElem h,List.foldl_append];show g _ xs[i]=_
  congr 1
  unfold rd;rw [List.getD_eq_getElem?_getD,show ((i:Int)).toNat=i by omega,List.getElem?_eq_getElem h];rfl
def wo(l:List Int)(p:Int):List Int:=l.filter (· !=p)
theorem B5n(l:List Int)(p:Int):(wo l p).length≤l.length:=List.length_filter_le _ _
theorem B5m(l:List Int)(hl:l.length≤300)(p:Int):K2 l p=some (wo l p):=by
  unfold K2;obtain ⟨s,h1,h2⟩:=A0t (B:=K2.b1 l p) l.length (fun i s=>s=wo (l.take i) p) [] rfl (fun i s hi hI=>by
    subst hI;have hw:(wo (l.take i) p).length≤300:=by have:=B5n (l.take i) p;rw [List.length_take] at this;omega
    have e:wo (l.take (i+1)) p=bif (rd l (i:Int)) !=p then wo (l.take i) p++[rd l (i:Int)] else wo (l.take i) p:=by
      unfold wo;rw [List.take_add_one,List.getElem?_eq_getElem hi,List.filter_append];have:rd l (i:Int)=l[i]:=by unfold rd;rw [List.getD_eq_getElem?_getD,show ((i:Int)).toNat=i by omega,List.getElem?_eq_getElem hi];rfl
      rw [this];cases h:(l[i] !=p)<;>simp [h]
    refine ⟨_,?_,e.symm⟩;unfold K2.b1;simp only [R2 hi,cond_true,H7 hi,D8,wp1 hi (by unfold maxLen;omega)];cases (rd l (i:Int)) !=p
    · rfl
    · simp only [cond_true];rw [show decide (((wo (l.take i) p).length+1)*8≤140737488355328)=true by simp;omega];rfl) (fun s hI=>by
    unfold K2.b1;simp only [X7,cond_false])
  rw [h1,h2,List.take_length];rfl
def A8s(l:List Int)(p:Int)(v:Bool):List Int:=bif !v then wo l p else bif ((wo l p).length:Int)==(l.length:Int) then wo l p++[p] else l
def ans(s:D1)(r:M1)(a:E7):D1:=⟨s.u3,bif (r.Op==2)&&(a.z6==0) then true else s.z7,bif (r.Op==1)&&(a.z6==0) then s.en++[r.u5] else s.en,
  bif (r.Op !=4)||((a.z6 !=0)&&(a.z6 !=1)) then s.u7 else A8s s.u7 r.u5 a.u7⟩
def off(x:Q7):Bool:=decide (x.qb>0)||decide (x.qf>0)
def stS(p:Int)(s:D1)(x:Q7):D1:=bif off x||(x.X.u3 !=p) then s else ans s x.X.u4 x.A
def K4(P:List Q7)(p:Int):D1:=P.foldl (stS p) ⟨p,false,[],[]⟩
theorem B8t(l:List Int)(p:Int)(v:Bool):(A8s l p v).length≤l.length+1:=by
  unfold A8s;have:=B5n l p;cases v
  · simp;omega
  · simp only [Bool.not_true,cond_false];cases (((wo l p).length:Int)==(l.length:Int))<;>simp<;>omega
theorem B9t(p:Int)(s:D1)(x:Q7):(stS p s x).en.length≤s.en.length+1∧(stS p s x).u7.length≤s.u7.length+1:=by
  unfold stS;cases off x||(x.X.u3 !=p)
  · simp only [cond_false,ans];refine ⟨?_,?_⟩
    · cases (x.X.u4.Op==1)&&(x.A.z6==0)<;>simp
    · cases (x.X.u4.Op !=4)||((x.A.z6 !=0)&&(x.A.z6 !=1))
      · exact B8t _ _ _
      · simp
  · simp
theorem A4u(P:List Q7)(p:Int):(K4 P p).en.length≤P.length∧(K4 P p).u7.length≤P.length:=by
  unfold K4
  suffices h:∀(P:List Q7) (s:D1),(P.foldl (stS p) s).en.length≤s.en.length+P.length∧(P.foldl (stS p) s).u7.length≤s.u7.length+P.length by
    have:=h P ⟨p,false,[],[]⟩;simpa using this
  intro P
  induction P with
  | nil=>intro s;simp
  | cons x r ih=>
    intro s;have h1:=ih (stS p s x);have h2:=B9t p s x;simp only [List.foldl_cons,List.length_cons];omega
theorem B5h(P:List Q7)(p:Int):(K4 P p).u3=p:=by
  unfold K4
  suffices h:∀(P:List Q7) (s:D1),(P.foldl (stS p) s).u3=s.u3 from h P _
  intro P
  induction P with
  | nil=>intro s;rfl
  | cons x r ih=>intro s;rw [List.foldl_cons,ih];unfold stS;cases off x||(x.X.u3 !=p)<;>rfl
theorem B0n(P:List Q7)(x:Q7)(p:Int):K4 (P++[x]) p=stS p (K4 P p) x:=by unfold K4;rw [List.foldl_append];rfl
theorem B0m(P:List Q7)(hl:P.length≤200)(p:Int):K7 P p=some (K4 P p):=by
  unfold K7;obtain ⟨s,h1,h2⟩:=A0t (B:=K7.b1 P p) P.length (fun i s=>K4 (P.take i) p=⟨p,s.1,s.2.1,s.2.2.1⟩) (false,([]:List Int),([]:List Int),0,0,0,([]:List Int)) rfl (fun i s hi hI=>by
    have hS:K4 (P.take (i+1)) p=stS p (K4 (P.take i) p) (rd P (i:Int)):=A78 P _ _ hi;have hlen:=A4u (P.take i) p;rw [hI] at hS hlen;rw [List.length_take] at hlen;simp only at hlen;have hm1:decide ((s.2.1.length+1)*8≤140737488355328)=true:=by simp;omega
    have hwo:=B5m s.2.2.1 (by omega) (rd P (i:Int)).X.u4.u5;have hwl:=B5n s.2.2.1 (rd P (i:Int)).X.u4.u5;have hm2:decide (((wo s.2.2.1 (rd P (i:Int)).X.u4.u5).length+1)*8≤140737488355328)=true:=by simp;omega
    have hi1:=wp1 hi (by unfold maxLen;omega);generalize hx:rd P (i:Int)=x at*
    obtain ⟨b,m,v,o1,o2,o3,o4⟩:=s;simp only at hS hm1 hm2 hwo hwl hI;unfold K7.b1;simp only [R2 hi,cond_true,H7 hi,D8,hx,hi1,A2g (fun _=>rfl)];unfold stS at hS;cases hs:off x||(x.X.u3 !=p)
    · rw [hs] at hS;simp only [cond_false,ans,A8s] at hS;unfold off at hs;rw [hs];simp only [cond_false,hm1,D8,hwo,Option.bind_some,hm2];cases c1:(x.X.u4.Op==1)&&(x.A.z6==0)<;>cases c2:(x.X.u4.Op !=4)||((x.A.z6 !=0)&&(x.A.z6 !=1))<;>cases c3:x.A.u7<;>
        cases c4:(((wo v x.X.u4.u5).length:Int)==(v.length:Int))<;>simp only [c1,c2,c3,c4,cond_true,cond_false,Bool.not_true,Bool.not_false,hm1,hm2,D8] at hS ⊢ <;>exact ⟨_,rfl,hS⟩
    · rw [hs] at hS;unfold off at hs;rw [hs];exact ⟨_,rfl,hS⟩) (fun s hI=>by
    unfold K7.b1;simp only [X7,cond_false])
  rw [h1];rw [List.take_length] at h2;rw [h2];rfl
end Go.Proofs.YtpdflibmhchlbaaGreatDoor
