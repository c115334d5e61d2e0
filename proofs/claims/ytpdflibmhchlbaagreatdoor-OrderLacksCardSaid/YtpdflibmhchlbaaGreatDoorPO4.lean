/- Closed forms: the bells of the model. No statement is proved here. Conditions: none. -/
import Derived.Test.YtpdflibmhchlbaaGreatDoorPO3
set_option linter.unusedVariables false
set_option linter.unusedSimpArgs false
namespace Go.Proofs.YtpdflibmhchlbaaGreatDoor
open Go Go.RowKit Go.Eng Go.IntKind
theorem lt8{k:Nat}(h:k<8):k=0∨k=1∨k=2∨k=3∨k=4∨k=5∨k=6∨k=7:=by omega
theorem shl_k{k:Nat}(h:k<8):A57 .u64 1 (u64.wrap (2*(k:Int)+1))=((BitVec.twoPow 64 (2*k+1)).toNat:Int):=by
  rcases lt8 h with rfl | rfl | rfl | rfl | rfl | rfl | rfl | rfl<;>decide
theorem bw(v:BitVec 64):u64.wrap ((v.toNat:Nat):Int)=(v.toNat:Int):=B39 (by omega) (by have:=v.isLt;omega)
theorem bofi(v:BitVec 64):BitVec.ofInt 64 ((v.toNat:Nat):Int)=v:=by rw [BitVec.ofInt_natCast,BitVec.ofNat_toNat,BitVec.setWidth_eq]
theorem B9v(n:Int)(v:BitVec 64){k:Nat}(h:k<8)(hn:2*(k:Int)+1<n):S6 ⟨n,(v.toNat:Int)⟩ (2*(k:Int)+1)=some (0,⟨n,((v ||| BitVec.twoPow 64 (2*k+1)).toNat:Int)⟩):=by
  unfold S6;rw [show (decide (2*(k:Int)+1<0)||decide (2*(k:Int)+1≥n))=false by simp;omega];simp only [cond_false];rw [shl_k h,B39 (x:=2*(k:Int)+1) (by omega) (by omega)];rw [show decide (0≤2*(k:Int)+1)=true by simp;omega,D7];unfold B1t;rw [show IntKind.u64.bits=64 from rfl,bofi,bofi,bw]
theorem has_k(n:Int)(v:BitVec 64){k:Nat}(h:k<8)(hn:2*(k:Int)+1<n):X3 ⟨n,(v.toNat:Int)⟩ (2*(k:Int)+1)=some (v.getLsbD (2*k+1)):=by
  unfold X3;rw [B39 (x:=2*(k:Int)+1) (by omega) (by omega)];rw [A1g (fun _=>by simp;omega),D7];rw [show (decide (2*(k:Int)+1≥0)&&decide (2*(k:Int)+1<n))=true by simp;omega,Bool.true_and]
  congr 1
  unfold B0i A9n;have e1:min (2*(k:Int)+1).toNat IntKind.u64.bits=2*k+1:=by rw [show IntKind.u64.bits=64 from rfl];omega
  rw [e1];have e2:((v.toNat:Int)).fdiv (2 ^ (2*k+1))=((v.toNat / 2 ^ (2*k+1):Nat):Int):=by
    rw [Int.fdiv_eq_ediv_of_nonneg _ (by exact Int.le_of_lt (Int.pow_pos (by omega)))];simp
  rw [e2,show IntKind.u64.bits=64 from rfl,BitVec.ofInt_natCast];have e3:(BitVec.ofNat 64 (v.toNat / 2 ^ (2*k+1)) &&& BitVec.ofInt 64 1).toNat=v.toNat / 2 ^ (2*k+1) % 2:=by
    rw [BitVec.toNat_and,show (BitVec.ofInt 64 1).toNat=1 from rfl,Nat.and_one_is_mod,BitVec.toNat_ofNat];have:v.toNat / 2 ^ (2*k+1)<2 ^ 64:=Nat.lt_of_le_of_lt (Nat.div_le_self _ _) v.isLt;rw [Nat.mod_eq_of_lt this]
  rw [e3,B39 (by omega) (by omega)];rw [← BitVec.testBit_toNat,Nat.testBit_eq_decide_div_mod_eq];rcases Nat.mod_two_eq_zero_or_one (v.toNat / 2 ^ (2*k+1)) with h | h<;>rw [h]<;>rfl
def tkS(st:List Int×BitVec 64)(x:Int):List Int×BitVec 64:=bif st.2.getLsbD x.toNat then (st.1++[x],st.2 &&& ~~~ BitVec.twoPow 64 x.toNat) else st
theorem tk_len(l:List Int):∀st:List Int×BitVec 64,(l.foldl tkS st).1.length≤st.1.length+l.length:=by
  induction l with
  | nil=>intro st;simp
  | cons x r ih=>
    intro st;have h1:=ih (tkS st x);have h2:(tkS st x).1.length≤st.1.length+1:=by unfold tkS;cases st.2.getLsbD x.toNat<;>simp
    simp only [List.foldl_cons,List.length_cons];omega
theorem B61(n:Int)(v:BitVec 64)(l:List Int)(hl:l.length≤100)(hp:∀x∈l,∃k:Nat,k<8∧x=2*(k:Int)+1∧x<n):J3 ⟨n,(v.toNat:Int)⟩ l=some ((l.foldl tkS ([],v)).1,⟨n,((l.foldl tkS ([],v)).2.toNat:Int)⟩):=by
  unfold J3;obtain ⟨s,e1,e2⟩:=A0r (B:=J3.b1 ⟨n,(v.toNat:Int)⟩ l) l.length (fun i s=>s=(((l.take i).foldl tkS ([],v)).1,(⟨n,(((l.take i).foldl tkS ([],v)).2.toNat:Int)⟩:I7))) ([],⟨n,(v.toNat:Int)⟩) rfl (fun i s hi hI=>by
    have hS:=A77 l tkS ([],v) hi;have hlen:=tk_len (l.take i) ([],v);rw [List.length_take] at hlen;simp only [List.length_nil] at hlen;obtain ⟨k,k1,k2,k3⟩:=hp _ (A0y hi);generalize (l.take i).foldl tkS ([],v)=st at*
    obtain ⟨o,u⟩:=st;refine ⟨_,?_,(by rw [hS])⟩;rw [hI];unfold J3.b1;simp only at hlen;simp only [Q6 hi,cond_true,H4 hi,D7,wp1 hi (by unfold maxLen;omega),k2];rw [has_k n u k1 (by omega),Option.bind_some];unfold tkS;simp only [k2,show (2*(k:Int)+1).toNat=2*k+1 by omega];cases u.getLsbD (2*k+1)
    · rfl
    · simp only [cond_true];rw [shl_k k1,B39 (x:=2*(k:Int)+1) (by omega) (by omega),show decide (0≤2*(k:Int)+1)=true by simp;omega,D7,show decide ((o.length+1)*8≤140737488355328)=true by simp;omega,D7];unfold A5i;rw [show IntKind.u64.bits=64 from rfl,bofi,bofi,bw]) (fun s hI=>by
    rw [hI];unfold J3.b1;simp only [X2,cond_false])
  rw [e1,e2,List.take_length];rfl
theorem B6e(c:C1)(p:Int)(v:BitVec 64):∀n:Nat,n≤8→((A2i c p (fun _=>true) n).foldl tkS ([],v)).1=A2i c p (fun k=>v.getLsbD (2*k.toNat+1)) n∧
    ∀k:Nat,k<8→((A2i c p (fun _=>true) n).foldl tkS ([],v)).2.getLsbD (2*k+1)=(v.getLsbD (2*k+1)&&!(decide (k<n)&&((rd c.r6 (k:Int)).To==p)))
  | 0,_=>⟨rfl,fun k _=>by simp [A2i]⟩
  | n + 1,h=>by
    obtain ⟨h1,h2⟩:=B6e c p v n (by omega);have hn:=h2 n (by omega);rw [show decide (n<n)=false by simp,Bool.false_and,Bool.not_false,Bool.and_true] at hn;have e1:A2i c p (fun _=>true) (n+1)=bif (rd c.r6 (n:Int)).To==p then A2i c p (fun _=>true) n++[2*(n:Int)+1] else A2i c p (fun _=>true) n:=by
      show (bif ((rd c.r6 (n:Int)).To==p)&&true then _ else _)=_;rw [Bool.and_true]
    have e2:A2i c p (fun k=>v.getLsbD (2*k.toNat+1)) (n+1)=bif ((rd c.r6 (n:Int)).To==p)&&v.getLsbD (2*n+1) then A2i c p (fun k=>v.getLsbD (2*k.toNat+1)) n++[2*(n:Int)+1] else A2i c p (fun k=>v.getLsbD (2*k.toNat+1)) n:=rfl;rw [e1,e2];generalize hst:(A2i c p (fun _=>true) n).foldl tkS ([],v)=st at*
    have hk:∀k:Nat,k≠n→decide (k<n+1)=decide (k<n):=fun k hk=>by rw [Bool.eq_iff_iff];simp;omega
    cases ht:(rd c.r6 (n:Int)).To==p
    · simp only [cond_false,Bool.false_and,hst];refine ⟨h1,fun k hk8=>?_⟩;rw [h2 k hk8];by_cases hkn:k=n
      · subst hkn;rw [ht];simp
      · rw [hk k hkn]
    · simp only [cond_true,Bool.true_and,List.foldl_append,List.foldl_cons,List.foldl_nil,hst];unfold tkS;rw [show (2*(n:Int)+1).toNat=2*n+1 by omega,hn];cases hv:v.getLsbD (2*n+1)
      · simp only [cond_false];refine ⟨h1,fun k hk8=>?_⟩;rw [h2 k hk8];by_cases hkn:k=n
        · subst hkn;rw [hv];simp
        · rw [hk k hkn]
      · simp only [cond_true,h1,true_and];intro k hk8;rw [BitVec.getLsbD_and,BitVec.getLsbD_not,BitVec.getLsbD_twoPow,h2 k hk8];by_cases hkn:k=n
        · subst hkn;rw [ht];simp
        · rw [hk k hkn];have:decide (2*k+1=2*n+1)=false:=by simp;omega
          simp [this];omega
end Go.Proofs.YtpdflibmhchlbaaGreatDoor
