/- Closed forms of the document's answers (layer 18). No statement is proved here. Conditions: none. -/
import Derived.Test.YtpdflibmhchlbaaGreatDoorPRefC
set_option linter.unusedVariables false
set_option linter.unusedSimpArgs false
namespace Go.Proofs.YtpdflibmhchlbaaGreatDoor
open Go Go.RowKit Go.Eng
abbrev Q1:=C9
section
variable {σ ρ:Type} {B:Int×σ→Option (Stp (Int×σ) (Ex (Int×σ) ρ))}
theorem B3k(n:Nat)(I:Nat→σ→Prop)(h1:∀(i:Nat) s,i<n→I i s→∃s',B ((i:Int),s)=some (.next (((i+1:Nat):Int),s'))∧I (i+1) s')(h2:∀s,I n s→B ((n:Int),s)=some (.out (.brk ((n:Int),s)))):
    ∀(k i:Nat) (s:σ),i+k=n→I i s→∃s',F3 B ((i:Int),s)=some (.brk ((n:Int),s'))∧I n s'
  | 0,i,s,h,hI=>by
    have hi:i=n:=by omega
    subst hi;exact ⟨s,by rw [L9,h2 s hI],hI⟩
  | k+1,i,s,h,hI=>by
    obtain ⟨s1,e,hI'⟩:=h1 i s (by omega) hI;rw [L9,e];exact B3k n I h1 h2 k (i+1) s1 (by omega) hI'
theorem A0r(n:Nat)(I:Nat→σ→Prop)(s:σ)(h0:I 0 s)(h1:∀(i:Nat) s,i<n→I i s→∃s',B ((i:Int),s)=some (.next (((i+1:Nat):Int),s'))∧I (i+1) s')(h2:∀s,I n s→B ((n:Int),s)=some (.out (.brk ((n:Int),s)))):
    ∃s',F3 B (0,s)=some (.brk ((n:Int),s'))∧I n s':=B3k n I h1 h2 n 0 s (by omega) h0
end
theorem A77{α β:Type}[Inhabited α](xs:List α)(g:β→α→β)(b:β){i:Nat}(h:i<xs.length):(xs.take (i+1)).foldl g b=g ((xs.take i).foldl g b) (rd xs (i:Int)):=by
  rw [List.take_add_one,List.getElem?_eq_getElem h,List.foldl_append];show g _ xs[i]=_
  congr 1
  unfold rd;rw [List.getD_eq_getElem?_getD,show ((i:Int)).toNat=i by omega,List.getElem?_eq_getElem h];rfl
def wo(l:List Int)(p:Int):List Int:=l.filter (· !=p)
theorem B5m(l:List Int)(p:Int):(wo l p).length≤l.length:=List.length_filter_le _ _
theorem B5l(l:List Int)(hl:l.length≤300)(p:Int):J6 l p=some (wo l p):=by
  unfold J6;obtain ⟨s,h1,h2⟩:=A0r (B:=J6.b1 l p) l.length (fun i s=>s=wo (l.take i) p) [] rfl (fun i s hi hI=>by
    subst hI;have hw:(wo (l.take i) p).length≤300:=by have:=B5m (l.take i) p;rw [List.length_take] at this;omega
    have e:wo (l.take (i+1)) p=bif (rd l (i:Int)) !=p then wo (l.take i) p++[rd l (i:Int)] else wo (l.take i) p:=by
      unfold wo;rw [List.take_add_one,List.getElem?_eq_getElem hi,List.filter_append];have:rd l (i:Int)=l[i]:=by unfold rd;rw [List.getD_eq_getElem?_getD,show ((i:Int)).toNat=i by omega,List.getElem?_eq_getElem hi];rfl
      rw [this];cases h:(l[i] !=p)<;>simp [h]
    refine ⟨_,?_,e.symm⟩;unfold J6.b1;simp only [Q6 hi,cond_true,H4 hi,D7,wp1 hi (by unfold maxLen;omega)];cases (rd l (i:Int)) !=p
    · rfl
    · simp only [cond_true];rw [show decide (((wo (l.take i) p).length+1)*8≤140737488355328)=true by simp;omega];rfl) (fun s hI=>by
    unfold J6.b1;simp only [X2,cond_false])
  rw [h1,h2,List.take_length];rfl
def A8p(l:List Int)(p:Int)(v:Bool):List Int:=bif !v then wo l p else bif ((wo l p).length:Int)==(l.length:Int) then wo l p++[p] else l
def ans(s:D0)(r:L7)(a:E5):D0:=⟨s.u3,bif (r.Op==2)&&(a.z6==0) then true else s.z7,bif (r.Op==1)&&(a.z6==0) then s.z9++[r.u5] else s.z9,
  bif (r.Op !=4)||((a.z6 !=0)&&(a.z6 !=1)) then s.u7 else A8p s.u7 r.u5 a.u7⟩
def off(x:Q1):Bool:=decide (x.qb>0)||decide (x.qf>0)
def stS(p:Int)(s:D0)(x:Q1):D0:=bif off x||(x.X.u3 !=p) then s else ans s x.X.u4 x.A
def J8(P:List Q1)(p:Int):D0:=P.foldl (stS p) ⟨p,false,[],[]⟩
theorem B8w(l:List Int)(p:Int)(v:Bool):(A8p l p v).length≤l.length+1:=by
  unfold A8p;have:=B5m l p;cases v
  · simp;omega
  · simp only [Bool.not_true,cond_false];cases (((wo l p).length:Int)==(l.length:Int))<;>simp<;>omega
theorem B9z(p:Int)(s:D0)(x:Q1):(stS p s x).z9.length≤s.z9.length+1∧(stS p s x).u7.length≤s.u7.length+1:=by
  unfold stS;cases off x||(x.X.u3 !=p)
  · simp only [cond_false,ans];refine ⟨?_,?_⟩
    · cases (x.X.u4.Op==1)&&(x.A.z6==0)<;>simp
    · cases (x.X.u4.Op !=4)||((x.A.z6 !=0)&&(x.A.z6 !=1))
      · exact B8w _ _ _
      · simp
  · simp
theorem A4s(P:List Q1)(p:Int):(J8 P p).z9.length≤P.length∧(J8 P p).u7.length≤P.length:=by
  unfold J8
  suffices h:∀(P:List Q1) (s:D0),(P.foldl (stS p) s).z9.length≤s.z9.length+P.length∧(P.foldl (stS p) s).u7.length≤s.u7.length+P.length by
    have:=h P ⟨p,false,[],[]⟩;simpa using this
  intro P
  induction P with
  | nil=>intro s;simp
  | cons x r ih=>
    intro s;have h1:=ih (stS p s x);have h2:=B9z p s x;simp only [List.foldl_cons,List.length_cons];omega
theorem B5g(P:List Q1)(p:Int):(J8 P p).u3=p:=by
  unfold J8
  suffices h:∀(P:List Q1) (s:D0),(P.foldl (stS p) s).u3=s.u3 from h P _
  intro P
  induction P with
  | nil=>intro s;rfl
  | cons x r ih=>intro s;rw [List.foldl_cons,ih];unfold stS;cases off x||(x.X.u3 !=p)<;>rfl
theorem B0l(P:List Q1)(x:Q1)(p:Int):J8 (P++[x]) p=stS p (J8 P p) x:=by unfold J8;rw [List.foldl_append];rfl
theorem B0k(P:List Q1)(hl:P.length≤200)(p:Int):K3 P p=some (J8 P p):=by
  unfold K3;obtain ⟨s,h1,h2⟩:=A0r (B:=K3.b1 P p) P.length (fun i s=>J8 (P.take i) p=⟨p,s.1,s.2.1,s.2.2.1⟩) (false,([]:List Int),([]:List Int),0,0,0,([]:List Int)) rfl (fun i s hi hI=>by
    have hS:J8 (P.take (i+1)) p=stS p (J8 (P.take i) p) (rd P (i:Int)):=A77 P _ _ hi;have hlen:=A4s (P.take i) p;rw [hI] at hS hlen;rw [List.length_take] at hlen;simp only at hlen;have hm1:decide ((s.2.1.length+1)*8≤140737488355328)=true:=by simp;omega
    have hwo:=B5l s.2.2.1 (by omega) (rd P (i:Int)).X.u4.u5;have hwl:=B5m s.2.2.1 (rd P (i:Int)).X.u4.u5;have hm2:decide (((wo s.2.2.1 (rd P (i:Int)).X.u4.u5).length+1)*8≤140737488355328)=true:=by simp;omega
    have hi1:=wp1 hi (by unfold maxLen;omega);generalize hx:rd P (i:Int)=x at*
    obtain ⟨b,m,v,o1,o2,o3,o4⟩:=s;simp only at hS hm1 hm2 hwo hwl hI;unfold K3.b1;simp only [Q6 hi,cond_true,H4 hi,D7,hx,hi1,A1g (fun _=>rfl)];unfold stS at hS;cases hs:off x||(x.X.u3 !=p)
    · rw [hs] at hS;simp only [cond_false,ans,A8p] at hS;unfold off at hs;rw [hs];simp only [cond_false,hm1,D7,hwo,Option.bind_some,hm2];cases c1:(x.X.u4.Op==1)&&(x.A.z6==0)<;>cases c2:(x.X.u4.Op !=4)||((x.A.z6 !=0)&&(x.A.z6 !=1))<;>cases c3:x.A.u7<;>
        cases c4:(((wo v x.X.u4.u5).length:Int)==(v.length:Int))<;>simp only [c1,c2,c3,c4,cond_true,cond_false,Bool.not_true,Bool.not_false,hm1,hm2,D7] at hS ⊢ <;>exact ⟨_,rfl,hS⟩
    · rw [hs] at hS;unfold off at hs;rw [hs];exact ⟨_,rfl,hS⟩) (fun s hI=>by
    unfold K3.b1;simp only [X2,cond_false])
  rw [h1];rw [List.take_length] at h2;rw [h2];rfl
end Go.Proofs.YtpdflibmhchlbaaGreatDoor
