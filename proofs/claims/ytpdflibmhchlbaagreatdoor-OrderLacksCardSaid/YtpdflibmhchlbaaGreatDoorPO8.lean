/- The model's maps, and where it stands behind an effect. No statement is proved here. Conditions: none. -/
import Derived.Test.YtpdflibmhchlbaaGreatDoorPO7
set_option linter.unusedVariables false
set_option linter.unusedSimpArgs false
namespace Go.Proofs.YtpdflibmhchlbaaGreatDoor
open Go Go.RowKit Go.Eng
theorem A8g:∀(l:List (Int×Int)) (k v a:Int),A1i (A33 l k v) a=if a=k then some v else A1i l a
  | [],k,v,a=>by simp [A33,A1i]
  | (q, u)::r,k,v,a=>by
    unfold A33;by_cases hq:k=q
    · rw [if_pos hq];subst hq;simp only [A1i];split<;>rfl
    · rw [if_neg hq];simp only [A1i,A8g r k v a];by_cases ha:a=q
      · rw [if_pos ha,if_neg (by rintro rfl;exact hq ha)];rw [if_pos ha]
      · rw [if_neg ha,if_neg ha]
theorem B1c:∀(l:List (Int×Int)) (k v:Int),((A33 l k v).map Prod.fst)=if k∈l.map Prod.fst then l.map Prod.fst else l.map Prod.fst++[k]
  | [],k,v=>by simp [A33]
  | (q,u)::r,k,v=>by
    unfold A33;by_cases hq:k=q
    · rw [if_pos hq];subst hq;simp
    · rw [if_neg hq];simp only [List.map_cons,B1c r k v,List.mem_cons,hq,false_or];split<;>rfl
theorem A7b{l:List (Int×Int)}(h:(l.map Prod.fst).Nodup)(k v:Int):((A33 l k v).map Prod.fst).Nodup:=by
  rw [B1c];split
  · exact h
  · rename_i hk;rw [List.nodup_append];exact ⟨h,by simp,fun a ha b hb=>by simp only [List.mem_singleton] at hb;subst hb;rintro rfl;exact hk ha⟩
theorem B6r{l:List (Int×Int)}{a:Int}(h:a∉l.map Prod.fst):A1i l a=none:=by
  induction l with
  | nil=>rfl
  | cons p r ih=>
    obtain ⟨q,u⟩:=p;simp only [List.map_cons,List.mem_cons,not_or] at h;simp only [A1i,if_neg h.1];exact ih h.2
theorem B1a:∀(l:List (Int×Int)) (k:Int),((A5z l k).map Prod.fst).Sublist (l.map Prod.fst)
  | [],k=>.slnil
  | (q,u)::r,k=>by
    unfold A5z;split
    · exact .cons _ (.refl _)
    · exact .cons_cons _ (B1a r k)
theorem B1b:∀(l:List (Int×Int)) (k a:Int),(l.map Prod.fst).Nodup→A1i (A5z l k) a=if a=k then none else A1i l a
  | [],k,a,_=>by simp [A5z,A1i]
  | (q,u)::r,k,a,h=>by
    have hn:=List.nodup_cons.1 h;unfold A5z;by_cases hq:k=q
    · rw [if_pos hq];subst hq;by_cases ha:a=k
      · subst ha;rw [if_pos rfl];exact B6r hn.1
      · rw [if_neg ha];simp only [A1i,if_neg ha]
    · rw [if_neg hq];simp only [A1i,B1b r k a hn.2];by_cases ha:a=q
      · rw [if_pos ha,if_neg (by rintro rfl;exact hq ha),if_pos ha]
      · rw [if_neg ha,if_neg ha]
theorem A4o(l:List Int)(h:l.length≤1000):G5 l=some l:=by
  unfold G5;rw [show decide ((([]:List Int).length+l.length)*4≤140737488355328)=true by simp;omega,D7];rfl
section
variable {c:C1} {P:List Q1} {x:I5} {a:E5}
theorem B9g(hG:A2z c P)(wp:InK .i64 x.u4.u5)(wd:x.u4.u9.length≤1000)(h:a.z6≠0):A2z c (P++[⟨x,a,0,0⟩]):=
  hG.snoc _ ⟨wp,wd,Int.le_refl _,Int.le_refl _,fun _ h0=>absurd h0 h,fun _ h0=>absurd h0 h⟩ (fun hq=>by rw [B2b (.inl h)] at hq;cases hq)
theorem A3o(hG:A2z c P)(wp:InK .i64 x.u4.u5)(wd:x.u4.u9.length≤1000)(h3:3≤x.u4.Op→x.u4.Op≤7→prt c x.u4.u5=true)(h9:x.u4.Op=9→x.u4.u9.length=1)(h6:x.u4.Op=6→a.z6=0→wts c P (chn c x)≠[]):A2z c (P++[⟨x,a,0,0⟩]):=
  hG.snoc _ ⟨wp,wd,Int.le_refl _,Int.le_refl _,fun _ _=>h3,fun _ _=>h9⟩ (fun hq h5=>by
    have hc:a.z6=0:=by
      rcases Classical.em (a.z6=0) with h | h
      · exact h
      · rw [B2b (.inl h)] at hq;cases hq
    have h6':x.u4.Op=6:=by
      rcases Classical.em (x.u4.Op=6) with h | h
      · exact h
      · rw [B2b (.inr ⟨h5,h⟩)] at hq;cases hq
    exact h6 h6' hc)
theorem A8h{m:C3}(hS:Sim c P m){n:Nat}(hn:n<c.r8.length)(hx:x.u3=(n:Int)){s:D0}(hs:s=ans (J8 P x.u3) x.u4 a)(p:Nat)(hp:p<c.r8.length):
    rd (m.parts.set x.u3.toNat s) (p:Int)=stS (p:Int) (J8 P (p:Int)) ⟨x,a,0,0⟩:=by
  rw [show x.u3.toNat=n by omega,A53 _ _ (by rw [hS.np];exact hn)];split
  · subst ‹n=p›; rw [hs,← hx,B5e]
  · rw [B5f (by omega)];exact hS.parts p hp
theorem B49{m:C3}(hS:Sim c P m)(hs:ans (J8 P x.u3) x.u4 a=J8 P x.u3)(p:Nat)(hp:p<c.r8.length):rd m.parts (p:Int)=stS (p:Int) (J8 P (p:Int)) ⟨x,a,0,0⟩:=by
  by_cases hx:x.u3=(p:Int)
  · rw [← hx,B5e,hs,hx];exact hS.parts p hp
  · rw [B5f hx];exact hS.parts p hp
theorem ans4(s:D0)(h4:x.u4.Op=4)(hc:a.z6=0∨a.z6=1):ans s x.u4 a=⟨s.u3,s.z7,s.z9,A8p s.u7 x.u4.u5 a.u7⟩:=by
  unfold ans;have e3:((x.u4.Op !=4)||((a.z6 !=0)&&(a.z6 !=1)))=false:=by rcases hc with h | h<;>simp [h4,h]
  rw [e3,show (x.u4.Op==2)=false by simp [h4],show (x.u4.Op==1)=false by simp [h4]];rfl
theorem mark{l:List Int}(hn:l.Nodup){p t:Int}(v:Bool)(ht:(t= -1∧p∉l)∨∃i:Nat,∃h:i<l.length,t=(i:Int)∧l[i]=p):
    (t= -1∧A8p l p v=bif v then l++[p] else l)∨∃i:Nat,i<l.length∧t=(i:Int)∧A8p l p v=bif v then l else l.eraseIdx i:=by
  rcases ht with ⟨h1,h2⟩ | ⟨i,h,h1,h2⟩
  · refine .inl ⟨h1,?_⟩;unfold A8p;rw [wo_no h2];cases v
    · rfl
    · simp
  · refine .inr ⟨i,h,h1,?_⟩;subst h2;have hm:l[i]∈l:=List.getElem_mem h;unfold A8p;cases v
    · exact (B26 l i h hn).symm
    · have:=wo_lt hm;simp only [Bool.not_true,cond_false,cond_true];rw [show (((wo l l[i]).length:Int)==(l.length:Int))=false by simp;omega];rfl
end
end Go.Proofs.YtpdflibmhchlbaaGreatDoor
