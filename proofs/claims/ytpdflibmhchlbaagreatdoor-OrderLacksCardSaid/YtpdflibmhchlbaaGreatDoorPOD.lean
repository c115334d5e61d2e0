/- Orders in time, as the document and the program A3h at them. No statement is proved here. Conditions: none. -/
import Derived.Test.YtpdflibmhchlbaaGreatDoorPOC
set_option linter.unusedVariables false
set_option linter.unusedSimpArgs false
namespace Go.Proofs.YtpdflibmhchlbaaGreatDoor
open Go Go.RowKit Go.Eng Go.IntKind
section
variable {C:List I5} {B:List J0}
def B4f(C:List I5)(B:List J0)(l:List D8):Bool:=
  !((List.range C.length).any fun i=>((rd C (i:Int)).kt&&!A0p l ⟨1,(i:Int)⟩)||(decide ((rd C (i:Int)).qe≥0)&&!A0p l ⟨2,(i:Int)⟩))&&!((List.range B.length).any fun i=>!A0p l ⟨3,(i:Int)⟩)
def tim(C:List I5)(B:List J0)(l:List D8):Bool:=!((List.range l.length).any (bad C B l))&&B4f C B l
theorem due_eq(hC:C.length≤40)(hB:B.length≤40)(l:List D8)(hl:l.length≤1000):J7 C B l=some (B4f C B l):=by
  unfold J7 B4f;rw [A2b (B:=J7.b1 C B l) C.length false false (fun i=>((rd C (i:Int)).kt&&!A0p l ⟨1,(i:Int)⟩)||(decide ((rd C (i:Int)).qe≥0)&&!A0p l ⟨2,(i:Int)⟩)) (fun i hi=>by
    unfold J7.b1;simp only [Q6 hi,cond_true,H4 hi,D7,wp1 hi (by unfold maxLen;omega),A8k l hl,A1g (fun _=>rfl)];cases (rd C (i:Int)).kt<;>cases decide ((rd C (i:Int)).qe≥0)<;>cases A0p l ⟨1,(i:Int)⟩<;>cases A0p l ⟨2,(i:Int)⟩<;>rfl) (by
    unfold J7.b1;simp only [X2,cond_false])]
  generalize ((List.range C.length).any fun i=>((rd C (i:Int)).kt&&!A0p l ⟨1,(i:Int)⟩)||(decide ((rd C (i:Int)).qe≥0)&&!A0p l ⟨2,(i:Int)⟩))=b;cases b
  · simp only [cond_false,Option.bind_some,Ex.on,Bool.not_false,Bool.true_and];rw [A2b (B:=J7.b2 C B l ((C.length:Int),false)) B.length false false (fun i=>!A0p l ⟨3,(i:Int)⟩) (fun i hi=>by
      unfold J7.b2;simp only [Q6 hi,cond_true,wp1 hi (by unfold maxLen;omega),A8k l hl,Option.bind_some];cases A0p l ⟨3,(i:Int)⟩<;>rfl) (by
      unfold J7.b2;simp only [X2,cond_false])]
    generalize ((List.range B.length).any fun i=>!A0p l ⟨3,(i:Int)⟩)=b;cases b<;>rfl
  · rfl
theorem B50{i n:Nat}(h:i<n):inb (i:Int) (n+1)=true:=H4 (by omega)
theorem A27(hC:C.length≤40)(hB:B.length≤40)(l:List D8)(hl:l.length≤200):H7 C B l=some (tim C B l):=by
  unfold H7 tim;have hL :=A6i (B:=H7.b1 C B l) l.length (fun i _=>∀j:Nat,j<i→isB C B (rd l (j:Int))=true) (bad C B l) false false (fun j hj=>absurd hj (by omega)) (fun i s hi hI=>by
    unfold bad;have htk:(l.take i).length≤1000:=by rw [List.length_take];omega
    have e0:H7.b1 C B l ((i:Int),s)=bif (!isB C B (rd l (i:Int))||A0p (l.take i) (rd l (i:Int))) then some (.out (.ret false)) else ((F3 (H7.b2 C B l ((i:Int),s) (isB C B (rd l (i:Int))) (bif isB C B (rd l (i:Int)) then A0p (l.take i) (rd l (i:Int)) else default)) (0,s)).bind fun o=>o.on (fun s2=>some (.next (((i+1:Nat):Int),s2.2))) (fun r=>some (.out (.ret r)))):=by
      unfold H7.b1;simp only [Q6 hi,cond_true,H4 hi,D7,wp1 hi (by unfold maxLen;omega),ris_eq,Option.bind_some,A1g (fun _=>B50 hi),A1g (fun _=>rfl),show ((i:Int)).toNat=i by omega,A8k _ htk];cases isB C B (rd l (i:Int))<;>rfl
    rw [e0];cases hB1:isB C B (rd l (i:Int))
    · exact ⟨fun _=>rfl,fun h=>by simp at h⟩
    · cases hH:A0p (l.take i) (rd l (i:Int))
      · simp only [Bool.not_true,Bool.false_or,cond_true,cond_false];rw [A2b (B:=H7.b2 C B l ((i:Int),s) true false) i s false (fun j=>ahB C B (rd l (i:Int)) (rd l (j:Int))) (fun j hj=>by
          unfold H7.b2;simp only [Q6 hj,cond_true,H4 hi,H4 (show j<l.length by omega),D7,rah_eq hB1 (hI j hj),Option.bind_some,wp1 hj (by unfold maxLen;omega)];cases ahB C B (rd l (i:Int)) (rd l (j:Int))<;>rfl) (by
          unfold H7.b2;simp only [X2,cond_false])]
        generalize hg:((List.range i).any fun j=>ahB C B (rd l (i:Int)) (rd l (j:Int)))=b;cases b
        · refine ⟨(fun h=>by cases h),fun _=>⟨s,rfl,fun j hj=>?_⟩⟩;by_cases hji:j=i
          · subst hji;exact hB1
          · exact hI j (by omega)
        · exact ⟨fun _=>rfl,(fun h=>by cases h)⟩
      · exact ⟨fun _=>rfl,fun h=>by simp at h⟩) (fun s hI=>by
    unfold H7.b1;simp only [X2,cond_false])
  rcases hL with ⟨h1,h2⟩ | ⟨h1,s,h2,_⟩
  · rw [h1,h2];rfl
  · rw [h1,h2,Option.bind_some];show ((J7 C B l).bind fun t=>some t)=_;rw [due_eq hC hB l (by omega)];simp
def B1q(C:List I5)(i:Nat):List D8:=(bif (rd C (i:Int)).kt then [⟨1,(i:Int)⟩] else [])++(bif decide ((rd C (i:Int)).qe≥0) then [⟨2,(i:Int)⟩] else [])
def B1r(C:List I5)(B:List J0):List D8:=(List.range C.length).flatMap (B1q C)++(List.range B.length).map fun i:Nat=>(⟨3,(i:Int)⟩:D8)
theorem A9j(C:List I5)(n:Nat):((List.range n).flatMap (B1q C)).length≤2*n:=by
  induction n with
  | zero=>simp
  | succ n ih=>
    rw [List.range_succ,List.flatMap_append,List.length_append];have:((List.flatMap (B1q C) [n])).length≤2:=by
      simp only [List.flatMap_cons,List.flatMap_nil,List.append_nil];unfold B1q;cases (rd C (n:Int)).kt<;>cases decide ((rd C (n:Int)).qe≥0)<;>simp
    omega
theorem all_eq(hC:C.length≤40)(hB:B.length≤40):F2 ⟨C,B⟩=some (B1r C B):=by
  unfold F2 B1r;obtain ⟨s,e1,e2⟩:=A0r (B:=F2.b1 ⟨C,B⟩) C.length (fun i s=>s=(List.range i).flatMap (B1q C)) [] rfl (fun i s hi hI=>by
    have hlen:=A9j C i;rw [← hI] at hlen;have e:(List.range (i+1)).flatMap (B1q C)=s++B1q C i:=by rw [hI,List.range_succ,List.flatMap_append];simp
    refine ⟨_,?_,e.symm⟩;unfold F2.b1 B1q;simp only [Q6 hi,cond_true,H4 hi,D7,wp1 hi (by unfold maxLen;omega)];have m1:decide ((s.length+1)*16≤140737488355328)=true:=by simp;omega
    have m2:decide (((s++[(⟨1,(i:Int)⟩:D8)]).length+1)*16≤140737488355328)=true:=by simp;omega
    rw [m1,m2];cases (rd C (i:Int)).kt<;>cases decide ((rd C (i:Int)).qe≥0)<;>simp [D7]) (fun s hI=>by
    unfold F2.b1;simp only [X2,cond_false])
  rw [e1,Option.bind_some];show ((F3 (F2.b2 ⟨C,B⟩ ((C.length:Int),s)) (0,s)).bind _)=_;have hlen:=A9j C C.length;rw [← e2] at hlen;obtain ⟨t,f1,f2⟩:=A0r (B:=F2.b2 ⟨C,B⟩ ((C.length:Int),s)) B.length (fun i t=>t=s++(List.range i).map fun i:Nat=>(⟨3,(i:Int)⟩:D8)) s (by simp) (fun i t hi hI=>by
    refine ⟨_,?_,(by rw [List.range_succ,List.map_append,← List.append_assoc,← hI])⟩;unfold F2.b2;simp only [Q6 hi,cond_true,wp1 hi (by unfold maxLen;omega)];rw [show decide ((t.length+1)*16≤140737488355328)=true by rw [hI];simp;omega,D7];rfl) (fun t hI=>by
    unfold F2.b2;simp only [X2,cond_false])
  rw [f1,f2,e2];rfl
theorem B6p(m:List (D8×Int))(x y:D8)(v:Int):Z9 (A2a m x v) y=if y=x then some v else Z9 m y:=by
  induction m with
  | nil=>simp [A2a,Z9]
  | cons p r ih=>
    obtain ⟨q,u⟩:=p;unfold A2a;by_cases hq:x=q
    · rw [if_pos hq];subst hq;simp only [Z9];split<;>rfl
    · rw [if_neg hq];simp only [Z9,ih];by_cases hy:y=q
      · rw [if_pos hy,if_neg (by rintro rfl;exact hq hy)];rw [if_pos hy]
      · rw [if_neg hy,if_neg hy]
theorem B9b(l:List D8):((B1r C B).any fun x=>!A0p l x)=!B4f C B l:=by
  unfold B4f B1r;rw [List.any_append,Bool.not_and,Bool.not_not,Bool.not_not,List.any_flatMap,List.any_map]
  congr 1
  · refine A8b fun i hi=>?_;unfold B1q;rw [List.any_append];cases (rd C (i:Int)).kt<;>cases decide ((rd C (i:Int)).qe≥0)<;>simp
theorem B62(hC:C.length≤40)(hB:B.length≤40)(l:List D8)(hl:l.length≤200):D3 ⟨C,B⟩ l=some (tim C B l):=by
  unfold D3 tim;have hL := A6i (B:=D3.b1 ⟨C,B⟩ l) l.length (fun i (s:Bool×List (D8×Int))=>(∀j:Nat,j<i→isB C B (rd l (j:Int))=true)∧∀x,(Z9 s.2 x).getD 0=bif A0p (l.take i) x then 1 else 0) (bad C B l) false (false,[]) ⟨fun j hj=>absurd hj (by omega),fun x=>by simp [Z9,A0p]⟩ (fun i s hi ⟨hI,hM⟩=>by
    unfold bad;have e0:D3.b1 ⟨C,B⟩ l ((i:Int),s)=bif (!isB C B (rd l (i:Int))||A0p (l.take i) (rd l (i:Int))) then some (.out (.ret false)) else ((F3 (D3.b2 ⟨C,B⟩ l ((i:Int),s) (isB C B (rd l (i:Int)))) (0,s.1)).bind fun o=>o.on (fun s2=>some (.next (((i+1:Nat):Int),s2.2,(A2a s.2 (rd l (i:Int)) (i64.wrap (((Z9 s.2 (rd l (i:Int))).getD 0)+1)))))) (fun r=>some (.out (.ret r)))):=by
      unfold D3.b1;simp only [Q6 hi,cond_true,H4 hi,D7,wp1 hi (by unfold maxLen;omega),tis_eq,Option.bind_some,B50 hi,hM];cases isB C B (rd l (i:Int))<;>cases A0p (l.take i) (rd l (i:Int))<;>rfl
    rw [e0];cases hB1:isB C B (rd l (i:Int))
    · exact ⟨fun _=>rfl,fun h=>by simp at h⟩
    · cases hH:A0p (l.take i) (rd l (i:Int))
      · simp only [Bool.not_true,Bool.false_or,cond_true,cond_false];have htl:(l.take i).length=i:=by rw [List.length_take];omega
        rw [A2b (B:=D3.b2 ⟨C,B⟩ l ((i:Int),s) true) i s.1 false (fun j=>ahB C B (rd l (i:Int)) (rd l (j:Int))) (fun j hj=>by
          have hrt:rd (l.take i) (j:Int)=rd l (j:Int):=by
            unfold rd;rw [List.getD_eq_getElem?_getD,List.getD_eq_getElem?_getD,show ((j:Int)).toNat=j by omega,List.getElem?_take,if_pos hj]
          unfold D3.b2;simp only [show ((i:Int)).toNat=i by omega,htl,Q6 hj,cond_true,H4 hj,D7,hrt,tah_eq hB1 (hI j hj),Option.bind_some,wp1 hj (by unfold maxLen;omega)];cases ahB C B (rd l (i:Int)) (rd l (j:Int))<;>rfl) (by
          unfold D3.b2;simp only [show ((i:Int)).toNat=i by omega,htl,X2,cond_false])]
        generalize hg:((List.range i).any fun j=>ahB C B (rd l (i:Int)) (rd l (j:Int)))=b;cases b
        · refine ⟨(fun h=>by cases h),fun _=>⟨_,rfl,fun j hj=>?_,fun x=>?_⟩⟩
          · by_cases hji:j=i
            · subst hji;exact hB1
            · exact hI j (by omega)
          · show (Z9 (A2a s.2 (rd l (i:Int)) _) x).getD 0=_;rw [B6p,hM,hH];have htk:l.take (i+1)=l.take i++[rd l (i:Int)]:=by rw [List.take_add_one,List.getElem?_eq_getElem hi,rdN hi];rfl
            rw [htk];by_cases hx:x=rd l (i:Int)
            · rw [if_pos hx];rw [show A0p (l.take i++[rd l (i:Int)]) x=true by unfold A0p;simp [hx]];rfl
            · rw [if_neg hx,hM];rw [show A0p (l.take i++[rd l (i:Int)]) x=A0p (l.take i) x by unfold A0p;simp [hx]]
        · exact ⟨fun _=>rfl,(fun h=>by cases h)⟩
      · exact ⟨fun _=>rfl,fun h=>by simp at h⟩) (fun s hI=>by
    unfold D3.b1;simp only [X2,cond_false])
  rcases hL with ⟨h1,h2⟩ | ⟨h1,s,h2,_,hM⟩
  · rw [h1,h2];rfl
  · rw [h1,h2,Option.bind_some];show ((F2 ⟨C,B⟩).bind fun t_73=>_)=_;rw [all_eq hC hB,Option.bind_some,List.take_length] at*
    have hlen:(B1r C B).length≤200:=by
      unfold B1r;have:=A9j C C.length;rw [List.length_append,List.length_map,List.length_range];omega
    rw [A1p (B:=D3.b3 ⟨C,B⟩ l ((l.length:Int),s) (B1r C B)) (fun x=>!A0p l x) (B1r C B) s.1 false (fun i hi=>by
      unfold D3.b3;simp only [Q6 hi,cond_true,H4 hi,D7,wp1 hi (by unfold maxLen;omega),hM];cases A0p l (rd (B1r C B) (i:Int))<;>rfl) (by
      unfold D3.b3;simp only [X2,cond_false])]
    rw [B9b];cases B4f C B l<;>rfl
end
end Go.Proofs.YtpdflibmhchlbaaGreatDoor
