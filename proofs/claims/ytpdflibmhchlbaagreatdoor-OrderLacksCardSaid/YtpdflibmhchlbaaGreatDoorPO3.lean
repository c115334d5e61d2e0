/- Closed forms: bells, and answers that are the same. No statement is proved here. Conditions: none. -/
import Derived.Test.YtpdflibmhchlbaaGreatDoorPO2
set_option linter.unusedVariables false
set_option linter.unusedSimpArgs false
namespace Go.Proofs.YtpdflibmhchlbaaGreatDoor
open Go Go.RowKit Go.Eng Go.IntKind
theorem A6n{σ ρ:Type}{B:Int×σ→Option (Stp (Int×σ) (Ex (Int×σ) ρ))}(a b:List Int)(hl:a.length≤1000000)(he:a.length=b.length)(s:σ)(r:ρ)
    (h1:∀i:Nat,i<a.length→B ((i:Int),s)=some (bif (rd a (i:Int)) !=(rd b (i:Int)) then .out (.ret r) else .next (i64.wrap ((i:Int)+1),s))) (h2:B ((a.length:Int),s)=some (.out (.brk ((a.length:Int),s)))):
    F3 B (0,s)=some (bif decide (a=b) then .brk ((a.length:Int),s) else .ret r):=by
  rw [A2b (B:=B) a.length s r (fun i=>(rd a (i:Int)) !=(rd b (i:Int))) (fun i hi=>by rw [h1 i hi,wp1 hi (by unfold maxLen;omega)]) h2];have:((List.range a.length).any fun i=>(rd a (i:Int)) !=(rd b (i:Int)))=!decide (a=b):=by
    rw [Bool.eq_iff_iff];simp only [List.any_eq_true,List.mem_range,bne_iff_ne,ne_eq,Bool.not_eq_true',decide_eq_false_iff_not];constructor
    · rintro ⟨i,hi,hne⟩ rfl;exact hne rfl
    · intro hne;apply Classical.byContradiction;intro hall;apply hne;apply List.ext_getElem he;intro i h1 h2;have hh:=fun hx=>hall ⟨i,h1,hx⟩;have e1:rd a (i:Int)=a[i]:=by unfold rd;rw [List.getD_eq_getElem?_getD,show ((i:Int)).toNat=i by omega,List.getElem?_eq_getElem h1];rfl
      have e2:rd b (i:Int)=b[i]:=by unfold rd;rw [List.getD_eq_getElem?_getD,show ((i:Int)).toNat=i by omega,List.getElem?_eq_getElem h2];rfl
      rw [e1,e2] at hh;exact Classical.byContradiction hh
  rw [this];cases decide (a=b)<;>rfl
theorem B4v{a b:List Int}(h:((a.length:Int) !=(b.length:Int))=true):decide (a=b)=false:=by
  rw [decide_eq_false_iff_not];rintro rfl;simp at h
theorem eqU(a b:List Int)(hl:a.length≤1000000):F1 a b=some (decide (a=b)):=by
  unfold F1;cases hn:((a.length:Int) !=(b.length:Int))
  · have he:a.length=b.length:=by have:=hn;simp at this;omega
    rw [A6n a b hl he false false (fun i hi=>by
      unfold F1.b1;simp only [Q6 hi,cond_true,H4 hi,H4 (he▸hi:i<b.length),D7];cases (rd a (i:Int)) !=(rd b (i:Int))<;>rfl) (by unfold F1.b1;simp only [X2,cond_false])]
    cases decide (a=b)<;>rfl
  · rw [B4v hn];rfl
theorem eqI(a b:List Int)(hl:a.length≤1000000):H8 a b=some (decide (a=b)):=by
  unfold H8;cases hn:((a.length:Int) !=(b.length:Int))
  · have he:a.length=b.length:=by have:=hn;simp at this;omega
    rw [A6n a b hl he false false (fun i hi=>by
      unfold H8.b1;simp only [Q6 hi,cond_true,H4 hi,H4 (he▸hi:i<b.length),D7];cases (rd a (i:Int)) !=(rd b (i:Int))<;>rfl) (by unfold H8.b1;simp only [X2,cond_false])]
    cases decide (a=b)<;>rfl
  · rw [B4v hn];rfl
theorem eqS(a b:List Int)(hl:a.length≤1000000):Q3 a b=some (decide (a=b)):=by
  unfold Q3;cases hn:((a.length:Int) !=(b.length:Int))
  · have he:a.length=b.length:=by have:=hn;simp at this;omega
    rw [A6n a b hl he false false (fun i hi=>by
      unfold Q3.b1;simp only [Q6 hi,cond_true,H4 hi,H4 (he▸hi:i<b.length),D7];cases (rd a (i:Int)) !=(rd b (i:Int))<;>rfl) (by unfold Q3.b1;simp only [X2,cond_false])]
    cases decide (a=b)<;>rfl
  · rw [B4v hn];rfl
theorem B2w(a b:E5)(hl:a.u9.length≤1000000):U0 a b=some (decide (a=b)):=by
  unfold U0;rw [eqU _ _ hl];obtain ⟨a1,a2,a3,a4⟩:=a;obtain ⟨b1,b2,b3,b4⟩:=b;simp only [E5.mk.injEq];cases h:(((a1==b1)&&(a3==b3))&&(a4==b4))
  · simp only [cal,cond_false,Option.bind_some,Bool.false_and]
    congr 1
    rw [eq_comm,decide_eq_false_iff_not];rintro ⟨rfl,_,rfl,rfl⟩;simp at h
  · simp only [cal,cond_true,Option.bind_some,Bool.true_and]
    congr 1
    simp only [Bool.and_eq_true,beq_iff_eq] at h;simp [h.1.1,h.1.2,h.2]
theorem B30(a b:E5)(hl:a.u9.length≤1000000):I6 a b=some (decide (a=b)):=by
  unfold I6;obtain ⟨a1,a2,a3,a4⟩:=a;obtain ⟨b1,b2,b3,b4⟩:=b;cases h:((((a1 !=b1)||(!(a3==b3)))||(a4 !=b4))||((a2.length:Int) !=(b2.length:Int)))
  · simp only [Bool.or_eq_false_iff,bne_eq_false_iff_eq,Bool.not_eq_false',beq_iff_eq] at h;obtain ⟨⟨⟨rfl,rfl⟩,rfl⟩,h4⟩:=h;have he:a2.length=b2.length:=by have:=h4;omega
    simp only [cond_false];rw [A6n (B:=I6.b1 ⟨a1,a2,a3,a4⟩ ⟨a1,b2,a3,a4⟩) a2 b2 hl he false false (fun i hi=>by
      unfold I6.b1;simp only [Q6 hi,cond_true,H4 hi,H4 (he▸hi:i<b2.length),D7];cases (rd a2 (i:Int)) !=(rd b2 (i:Int))<;>rfl) (by unfold I6.b1;simp only [X2,cond_false])]
    simp only [E5.mk.injEq,true_and,and_true];cases decide (a2=b2)<;>rfl
  · simp only [cond_true]
    congr 1
    rw [eq_comm,decide_eq_false_iff_not];simp only [E5.mk.injEq];rintro ⟨rfl,rfl,rfl,rfl⟩;simp at h
def pS(t:Int)(k:Int)(b:Bool)(x:Q1):Bool:=bif x.qf==t then false else bif x.qb==k then true else b
def pnd(P:List Q1)(t k:Int):Bool:=P.foldl (pS t k) false
theorem B3r(P:List Q1)(t k:Int)(x:Q1):pnd (P++[x]) t k=pS t k (pnd P t k) x:=by unfold pnd;rw [List.foldl_append];rfl
def A2i(c:C1)(p:Int)(q:Int→Bool):Nat→List Int
  | 0=>[]
  | k+1=>bif ((rd c.r6 (k:Int)).To==p)&&q (k:Int) then A2i c p q k++[2*(k:Int)+1] else A2i c p q k
theorem A51(c:C1)(p:Int)(q:Int→Bool):∀n,(A2i c p q n).length≤n
  | 0=>Nat.le_refl _
  | k+1=>by
    have:=A51 c p q k;unfold A2i;cases ((rd c.r6 (k:Int)).To==p)&&q (k:Int)<;>simp<;>omega
theorem wk{k n:Nat}(h:k<n)(hn:n≤8):i64.wrap (i64.wrap (2*(k:Int))+1)=2*(k:Int)+1:=by rw [w64 (x:=2*(k:Int)) (by omega) (by omega),w64 (by omega) (by omega)]
theorem B3u{c:C1}(h8:c.r6.length≤8)(P:List Q1)(hl:P.length≤200)(p:Int)(h1: -1≤p)(h2:p≤100):G7 c P p=some (A2i c p (fun k=>pnd P (p+1) (k+1)) c.r6.length):=by
  unfold G7;obtain ⟨s,e1,e2⟩:=A0r (B:=G7.b1 c P p) c.r6.length (fun i s=>s=A2i c p (fun k=>pnd P (p+1) (k+1)) i) [] rfl (fun i s hi hI=>by
    have hlen:=A51 c p (fun k=>pnd P (p+1) (k+1)) i;rw [← hI] at hlen;have hin:F3 (G7.b2 c P p ((i:Int),s)) (0,false)=some (.brk ((P.length:Int),pnd P (p+1) ((i:Int)+1))):=by
      obtain ⟨t,f1,f2⟩:=A0r (B:=G7.b2 c P p ((i:Int),s)) P.length (fun j b=>b=pnd (P.take j) (p+1) ((i:Int)+1)) false rfl (fun j b hj hJ=>by
        have hS:pnd (P.take (j+1)) (p+1) ((i:Int)+1)=pS (p+1) ((i:Int)+1) (pnd (P.take j) (p+1) ((i:Int)+1)) (rd P (j:Int)):=A77 P _ _ hj;refine ⟨_,?_,hS.symm⟩;unfold G7.b2;simp only [Q6 hj,cond_true,H4 hj,D7,wp1 hj (by unfold maxLen;omega)];rw [w64 (x:=p+1) (by omega) (by omega),w64 (x:=(i:Int)+1) (by omega) (by omega),hJ];rfl) (fun b hJ=>by
        unfold G7.b2;simp only [X2,cond_false])
      rw [f1,f2,List.take_length]
    refine ⟨_,?_,rfl⟩;unfold G7.b1;simp only [Q6 hi,cond_true,H4 hi,D7,wp1 hi (by unfold maxLen;omega),hin,Option.bind_some,Ex.on,wk hi h8];rw [show decide ((s.length+1)*8≤140737488355328)=true by simp;omega];unfold A2i;rw [← hI];cases ht:(rd c.r6 (i:Int)).To==p
    · rw [show ((rd c.r6 (i:Int)).To !=p)=true by unfold bne;rw [ht];rfl];rfl
    · rw [show ((rd c.r6 (i:Int)).To !=p)=false by unfold bne;rw [ht];rfl];cases pnd P (p+1) ((i:Int)+1)<;>rfl) (fun s hI=>by
    unfold G7.b1;simp only [X2,cond_false])
  rw [e1,e2];rfl
end Go.Proofs.YtpdflibmhchlbaaGreatDoor
