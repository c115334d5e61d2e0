/- Orders in time, as the document and the program A3h at them. No statement is proved here. Conditions: none. -/
import Derived.Test.YtpdflibmhchlbaaGreatDoorPOC
set_option linter.unusedVariables false
set_option linter.unusedSimpArgs false
namespace Go.Proofs.YtpdflibmhchlbaaGreatDoor
open Go Go.RowKit Go.Eng Go.IntKind
section
variable {C:List I4} {B:List I5}
def B03(C:List I4)(B:List I5)(l:List E0):Bool:=
  !((List.range C.length).any fun i=>((rd C (i:Int)).kt&&!A03 l ⟨1,(i:Int)⟩)||(decide ((rd C (i:Int)).qe≥0)&&!A03 l ⟨2,(i:Int)⟩))&&!((List.range B.length).any fun i=>!A03 l ⟨3,(i:Int)⟩)
def tim(C:List I4)(B:List I5)(l:List E0):Bool:=!((List.range l.length).any (bad C B l))&&B03 C B l
theorem due_eq(hC:C.length≤40)(hB:B.length≤40)(l:List E0)(hl:l.length≤1000):K0 C B l=some (B03 C B l):=by
  unfold K0 B03;rw [A18 (B:=K0.b1 C B l) C.length false false (fun i=>((rd C (i:Int)).kt&&!A03 l ⟨1,(i:Int)⟩)||(decide ((rd C (i:Int)).qe≥0)&&!A03 l ⟨2,(i:Int)⟩)) (fun i hi=>by
    unfold K0.b1;simp only [P6 hi,cond_true,G6 hi,D5,wp1 hi (by unfold maxLen;omega),A8t l hl,A2e (fun _=>rfl)];cases (rd C (i:Int)).kt<;>cases decide ((rd C (i:Int)).qe≥0)<;>cases A03 l ⟨1,(i:Int)⟩<;>cases A03 l ⟨2,(i:Int)⟩<;>rfl) (by
    unfold K0.b1;simp only [X1,cond_false])]
  generalize ((List.range C.length).any fun i=>((rd C (i:Int)).kt&&!A03 l ⟨1,(i:Int)⟩)||(decide ((rd C (i:Int)).qe≥0)&&!A03 l ⟨2,(i:Int)⟩))=b;cases b
  · simp only [cond_false,Option.bind_some,Ex.on,Bool.not_false,Bool.true_and];rw [A18 (B:=K0.b2 C B l ((C.length:Int),false)) B.length false false (fun i=>!A03 l ⟨3,(i:Int)⟩) (fun i hi=>by
      unfold K0.b2;simp only [P6 hi,cond_true,wp1 hi (by unfold maxLen;omega),A8t l hl,Option.bind_some];cases A03 l ⟨3,(i:Int)⟩<;>rfl) (by
      unfold K0.b2;simp only [X1,cond_false])]
    generalize ((List.range B.length).any fun i=>!A03 l ⟨3,(i:Int)⟩)=b;cases b<;>rfl
  · rfl
theorem B6i{i n:Nat}(h:i<n):inb (i:Int) (n+1)=true:=G6 (by omega)
theorem A2h(hC:C.length≤40)(hB:B.length≤40)(l:List E0)(hl:l.length≤200):H8 C B l=some (tim C B l):=by
  unfold H8 tim;have hL :=A6r (B:=H8.b1 C B l) l.length (fun i _=>∀j:Nat,j<i→isB C B (rd l (j:Int))=true) (bad C B l) false false (fun j hj=>absurd hj (by omega)) (fun i s hi hI=>by
    unfold bad;have htk:(l.take i).length≤1000:=by rw [List.length_take];omega
    have e0:H8.b1 C B l ((i:Int),s)=bif (!isB C B (rd l (i:Int))||A03 (l.take i) (rd l (i:Int))) then some (.out (.ret false)) else ((F5 (H8.b2 C B l ((i:Int),s) (isB C B (rd l (i:Int))) (bif isB C B (rd l (i:Int)) then A03 (l.take i) (rd l (i:Int)) else default)) (0,s)).bind fun o=>o.on (fun s2=>some (.next (((i+1:Nat):Int),s2.2))) (fun r=>some (.out (.ret r)))):=by
      unfold H8.b1;simp only [P6 hi,cond_true,G6 hi,D5,wp1 hi (by unfold maxLen;omega),ris_eq,Option.bind_some,A2e (fun _=>B6i hi),A2e (fun _=>rfl),show ((i:Int)).toNat=i by omega,A8t _ htk];cases isB C B (rd l (i:Int))<;>rfl
    rw [e0];cases hB1:isB C B (rd l (i:Int))
    · exact ⟨fun _=>rfl,fun h=>by simp at h⟩
    · cases hH:A03 (l.take i) (rd l (i:Int))
      · simp only [Bool.not_true,Bool.false_or,cond_true,cond_false];rw [A18 (B:=H8.b2 C B l ((i:Int),s) true false) i s false (fun j=>ahB C B (rd l (i:Int)) (rd l (j:Int))) (fun j hj=>by
          unfold H8.b2;simp only [P6 hj,cond_true,G6 hi,G6 (show j<l.length by omega),D5,B87 hB1 (hI j hj),Option.bind_some,wp1 hj (by unfold maxLen;omega)];cases ahB C B (rd l (i:Int)) (rd l (j:Int))<;>rfl) (by
          unfold H8.b2;simp only [X1,cond_false])]
        generalize hg:((List.range i).any fun j=>ahB C B (rd l (i:Int)) (rd l (j:Int)))=b;cases b
        · refine ⟨(fun h=>by cases h),fun _=>⟨s,rfl,fun j hj=>?_⟩⟩;by_cases hji:j=i
          · subst hji;exact hB1
          · exact hI j (by omega)
        · exact ⟨fun _=>rfl,(fun h=>by cases h)⟩
      · exact ⟨fun _=>rfl,fun h=>by simp at h⟩) (fun s hI=>by
    unfold H8.b1;simp only [X1,cond_false])
  rcases hL with ⟨h1,h2⟩ | ⟨h1,s,h2,_⟩
  · rw [h1,h2];rfl
  · rw [h1,h2,Option.bind_some];show ((K0 C B l).bind fun t=>some t)=_;rw [due_eq hC hB l (by omega)];simp
def B13(C:List I4)(i:Nat):List E0:=(bif (rd C (i:Int)).kt then [⟨1,(i:Int)⟩] else [])++(bif decide ((rd C (i:Int)).qe≥0) then [⟨2,(i:Int)⟩] else [])
def B14(C:List I4)(B:List I5):List E0:=(List.range C.length).flatMap (B13 C)++(List.range B.length).map fun i:Nat=>(⟨3,(i:Int)⟩:E0)
theorem A9t(C:List I4)(n:Nat):((List.range n).flatMap (B13 C)).length≤2*n:=by
  induction n with
  | zero=>simp
  | succ n ih=>
    rw [List.range_succ,List.flatMap_append,List.length_append];have:((List.flatMap (B13 C) [n])).length≤2:=by
      simp only [List.flatMap_cons,List.flatMap_nil,List.append_nil];unfold B13;cases (rd C (n:Int)).kt<;>cases decide ((rd C (n:Int)).qe≥0)<;>simp
    omega
theorem all_eq(hC:C.length≤40)(hB:B.length≤40):F3 ⟨C,B⟩=some (B14 C B):=by
  unfold F3 B14;obtain ⟨s,e1,e2⟩:=A0q (B:=F3.b1 ⟨C,B⟩) C.length (fun i s=>s=(List.range i).flatMap (B13 C)) [] rfl (fun i s hi hI=>by
    have hlen:=A9t C i;rw [← hI] at hlen;have e:(List.range (i+1)).flatMap (B13 C)=s++B13 C i:=by rw [hI,List.range_succ,List.flatMap_append];simp
    refine ⟨_,?_,e.symm⟩;unfold F3.b1 B13;simp only [P6 hi,cond_true,G6 hi,D5,wp1 hi (by unfold maxLen;omega)];have m1:decide ((s.length+1)*16≤140737488355328)=true:=by simp;omega
    have m2:decide (((s++[(⟨1,(i:Int)⟩:E0)]).length+1)*16≤140737488355328)=true:=by simp;omega
    rw [m1,m2];cases (rd C (i:Int)).kt<;>cases decide ((rd C (i:Int)).qe≥0)<;>simp [D5]) (fun s hI=>by
    unfold F3.b1;simp only [X1,cond_false])
  rw [e1,Option.bind_some];show ((F5 (F3.b2 ⟨C,B⟩ ((C.length:Int),s)) (0,s)).bind _)=_;have hlen:=A9t C C.length;rw [← e2] at hlen;obtain ⟨t,f1,f2⟩:=A0q (B:=F3.b2 ⟨C,B⟩ ((C.length:Int),s)) B.length (fun i t=>t=s++(List.range i).map fun i:Nat=>(⟨3,(i:Int)⟩:E0)) s (by simp) (fun i t hi hI=>by
    refine ⟨_,?_,(by rw [List.range_succ,List.map_append,← List.append_assoc,← hI])⟩;unfold F3.b2;simp only [P6 hi,cond_true,wp1 hi (by unfold maxLen;omega)];rw [show decide ((t.length+1)*16≤140737488355328)=true by rw [hI];simp;omega,D5];rfl) (fun t hI=>by
    unfold F3.b2;simp only [X1,cond_false])
  rw [f1,f2,e2];rfl
theorem B7a(m:List (E0×Int))(x y:E0)(v:Int):Z9 (A17 m x v) y=if y=x then some v else Z9 m y:=by
  induction m with
  | nil=>simp [A17,Z9]
  | cons p r ih=>
    obtain ⟨q,u⟩:=p;unfold A17;by_cases hq:x=q
    · rw [if_pos hq];subst hq;simp only [Z9];split<;>rfl
    · rw [if_neg hq];simp only [Z9,ih];by_cases hy:y=q
      · rw [if_pos hy,if_neg (by rintro rfl;exact hq hy)];rw [if_pos hy]
      · rw [if_neg hy,if_neg hy]
theorem B9z(l:List E0):((B14 C B).any fun x=>!A03 l x)=!B03 C B l:=by
  unfold B03 B14;rw [List.any_append,Bool.not_and,Bool.not_not,Bool.not_not,List.any_flatMap,List.any_map]
  congr 1
  · refine A8j fun i hi=>?_;unfold B13;rw [List.any_append];cases (rd C (i:Int)).kt<;>cases decide ((rd C (i:Int)).qe≥0)<;>simp
theorem B7n(hC:C.length≤40)(hB:B.length≤40)(l:List E0)(hl:l.length≤200):D4 ⟨C,B⟩ l=some (tim C B l):=by
  unfold D4 tim;have hL := A6r (B:=D4.b1 ⟨C,B⟩ l) l.length (fun i (s:Bool×List (E0×Int))=>(∀j:Nat,j<i→isB C B (rd l (j:Int))=true)∧∀x,(Z9 s.2 x).getD 0=bif A03 (l.take i) x then 1 else 0) (bad C B l) false (false,[]) ⟨fun j hj=>absurd hj (by omega),fun x=>by simp [Z9,A03]⟩ (fun i s hi ⟨hI,hM⟩=>by
    unfold bad;have e0:D4.b1 ⟨C,B⟩ l ((i:Int),s)=bif (!isB C B (rd l (i:Int))||A03 (l.take i) (rd l (i:Int))) then some (.out (.ret false)) else ((F5 (D4.b2 ⟨C,B⟩ l ((i:Int),s) (isB C B (rd l (i:Int)))) (0,s.1)).bind fun o=>o.on (fun s2=>some (.next (((i+1:Nat):Int),s2.2,(A17 s.2 (rd l (i:Int)) (i64.wrap (((Z9 s.2 (rd l (i:Int))).getD 0)+1)))))) (fun r=>some (.out (.ret r)))):=by
      unfold D4.b1;simp only [P6 hi,cond_true,G6 hi,D5,wp1 hi (by unfold maxLen;omega),tis_eq,Option.bind_some,B6i hi,hM];cases isB C B (rd l (i:Int))<;>cases A03 (l.take i) (rd l (i:Int))<;>rfl
    rw [e0];cases hB1:isB C B (rd l (i:Int))
    · exact ⟨fun _=>rfl,fun h=>by simp at h⟩
    · cases hH:A03 (l.take i) (rd l (i:Int))
      · simp only [Bool.not_true,Bool.false_or,cond_true,cond_false];have htl:(l.take i).length=i:=by rw [List.length_take];omega
        rw [A18 (B:=D4.b2 ⟨C,B⟩ l ((i:Int),s) true) i s.1 false (fun j=>ahB C B (rd l (i:Int)) (rd l (j:Int))) (fun j hj=>by
          have hrt:rd (l.take i) (j:Int)=rd l (j:Int):=by
            unfold rd;rw [List.getD_eq_getElem?_getD,List.getD_eq_getElem?_getD,show ((j:Int)).toNat=j by omega,List.getElem?_take,if_pos hj]
          unfold D4.b2;simp only [show ((i:Int)).toNat=i by omega,htl,P6 hj,cond_true,G6 hj,D5,hrt,tah_eq hB1 (hI j hj),Option.bind_some,wp1 hj (by unfold maxLen;omega)];cases ahB C B (rd l (i:Int)) (rd l (j:Int))<;>rfl) (by
          unfold D4.b2;simp only [show ((i:Int)).toNat=i by omega,htl,X1,cond_false])]
        generalize hg:((List.range i).any fun j=>ahB C B (rd l (i:Int)) (rd l (j:Int)))=b;cases b
        · refine ⟨(fun h=>by cases h),fun _=>⟨_,rfl,fun j hj=>?_,fun x=>?_⟩⟩
          · by_cases hji:j=i
            · subst hji;exact hB1
            · exact hI j (by omega)
          · show (Z9 (A17 s.2 (rd l (i:Int)) _) x).getD 0=_;rw [B7a,hM,hH];have htk:l.take (i+1)=l.take i++[rd l (i:Int)]:=by rw [List.take_add_one,List.getElem?_eq_getElem hi,rdN hi];rfl
            rw [htk];by_cases hx:x=rd l (i:Int)
            · rw [if_pos hx];rw [show A03 (l.take i++[rd l (i:Int)]) x=true by unfold A03;simp [hx]];rfl
            · rw [if_neg hx,hM];rw [show A03 (l.take i++[rd l (i:Int)]) x=A03 (l.take i) x by unfold A03;simp [hx]]
        · exact ⟨fun _=>rfl,(fun h=>by cases h)⟩
      · exact ⟨fun _=>rfl,fun h=>by simp at h⟩) (fun s hI=>by
    unfold D4.b1;simp only [X1,cond_false])
  rcases hL with ⟨h1,h2⟩ | ⟨h1,s,h2,_,hM⟩
  · rw [h1,h2];rfl
  · rw [h1,h2,Option.bind_some];show ((F3 ⟨C,B⟩).bind fun t_73=>_)=_;rw [all_eq hC hB,Option.bind_some,List.take_length] at*
    have hlen:(B14 C B).length≤200:=by
      unfold B14;have:=A9t C C.length;rw [List.length_append,List.length_map,List.length_range];omega
    rw [A1k (B:=D4.b3 ⟨C,B⟩ l ((l.length:Int),s) (B14 C B)) (fun x=>!A03 l x) (B14 C B) s.1 false (fun i hi=>by
      unfold D4.b3;simp only [P6 hi,cond_true,G6 hi,D5,wp1 hi (by unfold maxLen;omega),hM];cases A03 l (rd (B14 C B) (i:Int))<;>rfl) (by
      unfold D4.b3;simp only [X1,cond_false])]
    rw [B9z];cases B03 C B l<;>rfl
end
end Go.Proofs.YtpdflibmhchlbaaGreatDoor
