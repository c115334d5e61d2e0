/- Plain aids for loops over places: loops that A3h for one, loops that go through all. No statement of the seat is proved here. Conditions: none. -/
import Derived.Test.YtpdflibmhchlbaaGreatDoorEng
set_option linter.unusedVariables false
set_option linter.unusedSimpArgs false
namespace Go.Proofs.YtpdflibmhchlbaaGreatDoor
open Go Go.RowKit Go.Eng Go.IntKind
theorem Q6{i n:Nat}(h:i<n):decide ((i:Int)<(n:Int))=true:=by simp;omega
theorem X2(n:Nat):decide ((n:Int)<(n:Int))=false:=by simp
theorem H4{i n:Nat}(h:i<n):inb (i:Int) n=true:=A1v (by omega) (by omega)
theorem wp1{i n:Nat}(h:i<n)(hn:n≤maxLen):i64.wrap ((i:Int)+1)=((i+1:Nat):Int):=by
  simp only [maxLen] at hn;rw [w64]<;>omega
theorem A1g{g c:Bool}(h:g=true→c=true):imp g c=true:=by
  cases g
  · rfl
  · simp [imp,h rfl]
@[simp] theorem A3g(g:Bool):imp g true=true:=by simp [imp]
section
variable {σ ρ:Type} {B:Int×σ→Option (Stp (Int×σ) (Ex (Int×σ) ρ))}
theorem A09(n:Nat)(s:σ)(p:Nat→Bool)(r:Nat→ρ)(h1:∀i:Nat,i<n→B ((i:Int),s)=some (bif p i then .out (.ret (r i)) else .next (((i+1:Nat):Int),s)))
    (h2:B ((n:Int),s)=some (.out (.brk ((n:Int),s)))):∀(k i:Nat),i+k=n→F3 B ((i:Int),s)=some (match (List.range' i k).find? p with | some j=>.ret (r j) | none=>.brk ((n:Int),s))
  | 0,i,h=>by
    rw [L9,show i=n by omega,h2];rfl
  | k+1,i,h=>by
    rw [L9,h1 i (by omega),List.range'_succ,List.find?_cons];cases p i
    · exact A09 n s p r h1 h2 k (i+1) (by omega)
    · rfl
theorem B7p{r:ρ}{x:Ex (Int×σ) ρ}(p:Nat→Bool)(l:List Nat):(match l.find? p with | some _=>Ex.ret r | none=>x)=bif l.any p then .ret r else x:=by
  cases h:l.find? p with
  | none=>rw [show l.any p=false by simpa using h];rfl
  | some j=>
    have h1:=List.find?_some h;have h2:=List.mem_of_find?_eq_some h;rw [show l.any p=true by rw [List.any_eq_true];exact ⟨j,h2,h1⟩];rfl
theorem A2b(n:Nat)(s:σ)(r:ρ)(p:Nat→Bool)(h1:∀i:Nat,i<n→B ((i:Int),s)=some (bif p i then .out (.ret r) else .next (((i+1:Nat):Int),s)))
    (h2:B ((n:Int),s)=some (.out (.brk ((n:Int),s)))):F3 B (0,s)=some (bif (List.range n).any p then .ret r else .brk ((n:Int),s)):=by
  have:=A09 n s p (fun _=>r) h1 h2 n 0 (by omega);rw [show ((0:Nat):Int)=0 from rfl] at this;rw [this,List.range_eq_range'];exact congrArg some (B7p p _)
theorem A5g{α:Type}[Inhabited α](q:α→Bool)(xs:List α):(List.range xs.length).any (fun i=>q (rd xs (i:Int)))=xs.any q:=by
  rw [Bool.eq_iff_iff,List.any_eq_true,List.any_eq_true];constructor
  · rintro ⟨i,hi,h⟩;rw [List.mem_range] at hi;exact ⟨_,A0y (by omega) (by omega),h⟩
  · rintro ⟨x,hx,h⟩;obtain ⟨i,hi,rfl⟩:=List.getElem_of_mem hx;refine ⟨i,List.mem_range.2 hi,?_⟩
    simpa [rd,List.getD_eq_getElem?_getD,List.getElem?_eq_getElem hi] using h
theorem A1p{α:Type}[Inhabited α](q:α→Bool)(xs:List α)(s:σ)(r:ρ)(h1:∀i:Nat,i<xs.length→B ((i:Int),s)=some (bif q (rd xs (i:Int)) then .out (.ret r) else .next (((i+1:Nat):Int),s)))
    (h2:B ((xs.length:Int),s)=some (.out (.brk ((xs.length:Int),s)))):F3 B (0,s)=some (bif xs.any q then .ret r else .brk ((xs.length:Int),s)):=by
  rw [A2b xs.length s r (fun i=>q (rd xs (i:Int))) h1 h2,A5g]
end
theorem M7{α:Type}(c:Bool)(x y:α):(bif c then some x else some y)=some (bif c then x else y):=by cases c<;>rfl
theorem A8b{α:Type}{l:List α}{p q:α→Bool}(h:∀x∈l,p x=q x):l.any p=l.any q:=by
  induction l with
  | nil=>rfl
  | cons x r ih=>rw [List.any_cons,List.any_cons,h x (by simp),ih (fun y hy=>h y (List.mem_cons_of_mem _ hy))]
end Go.Proofs.YtpdflibmhchlbaaGreatDoor
