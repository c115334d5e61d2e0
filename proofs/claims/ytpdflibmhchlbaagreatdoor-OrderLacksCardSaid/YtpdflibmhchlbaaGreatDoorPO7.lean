/- The model does what the document says. No statement is proved here. Conditions: none. -/
import Derived.Test.YtpdflibmhchlbaaGreatDoorPO6
set_option linter.unusedVariables false
set_option linter.unusedSimpArgs false
namespace Go.Proofs.YtpdflibmhchlbaaGreatDoor
open Go Go.RowKit Go.Eng
theorem refE4(c:C1)(s:D0)(r:L7)(h:r.Op=4):A4g c s r≠1:=by
  unfold A4g A22;simp only [h,Int.reduceBEq,cond_true,cond_false];generalize ((!(prt c r.u5&&(ppt c r.u5==s.u3)))||(!amg s.z9 r.u5))=b1;generalize (!(((pch c r.u5).u6==1)&&!psd r.u5))=b2;cases b1<;>cases b2<;>cases s.z7<;>decide
theorem B6x{c:C1}{s:D0}{r:L7}(h3:3≤r.Op)(h7:r.Op≤7)(h:A4g c s r=0):prt c r.u5=true∧(r.Op=3∨r.Op=4→(pch c r.u5).u6=1)∧(r.Op=5∨r.Op=6→(pch c r.u5).u6=2):=by
  unfold A4g A22 at h;have hh:r.Op=3∨r.Op=4∨r.Op=5∨r.Op=6∨r.Op=7:=by omega
  have key:∀e:Int,(bif (!(prt c r.u5&&(ppt c r.u5==s.u3)))||(!amg s.z9 r.u5) then (3:Int) else bif !s.z7 then 5 else e)=0→prt c r.u5=true∧e=0:=fun e he=>by
    cases hp:prt c r.u5
    · rw [hp] at he;simp at he
    · refine ⟨rfl,?_⟩;rw [hp] at he;cases h1:((!(true&&(ppt c r.u5==s.u3)))||(!amg s.z9 r.u5))
      · rw [h1] at he;cases hn:s.z7
        · rw [hn] at he;simp at he
        · rw [hn] at he;simpa using he
      · rw [h1] at he;simp at he
  rcases hh with ho | ho | ho | ho | ho<;>simp only [ho,Int.reduceBEq,cond_true,cond_false] at h
  · obtain ⟨h1,h2⟩:=key _ h;refine ⟨h1,fun _=>?_,fun hx=>by omega⟩;cases hk:(pch c r.u5).u6==1
    · rw [hk] at h2;simp at h2
    · simpa using hk
  · obtain ⟨h1,h2⟩:=key _ h;refine ⟨h1,fun _=>?_,fun hx=>by omega⟩;cases hk:(pch c r.u5).u6==1
    · rw [hk] at h2;simp at h2
    · simpa using hk
  · obtain ⟨h1,h2⟩:=key _ h;refine ⟨h1,fun hx=>by omega,fun _=>?_⟩;cases hk:(pch c r.u5).u6==2
    · rw [hk] at h2;simp at h2
    · simpa using hk
  · obtain ⟨h1,h2⟩:=key _ h;refine ⟨h1,fun hx=>by omega,fun _=>?_⟩;cases hk:(pch c r.u5).u6==2
    · rw [hk] at h2;simp at h2
    · simpa using hk
  · obtain ⟨h1,h2⟩:=key _ h;exact ⟨h1,fun hx=>by omega,fun hx=>by omega⟩
theorem refE9{c:C1}{s:D0}{r:L7}(ho:r.Op=9)(h:A4g c s r=0):r.u9.length=1:=by
  unfold A4g at h;simp only [ho,Int.reduceBEq,cond_true,cond_false] at h;cases hd:((r.u9.length:Int) !=1)
  · have:=hd;simp at this;omega
  · rw [hd] at h;simp at h
theorem B9j{α:Type}{f:Q1→Option α}:∀ {P:List Q1} {v:α},lst f P=some v→∃x∈P,f x=some v:=by
  intro P;unfold lst
  suffices h:∀(P:List Q1) (acc:Option α) (v:α),P.foldl (fun acc x=>(f x).or acc) acc=some v→acc=some v∨∃x∈P,f x=some v by
    intro v hv;rcases h P none v hv with h | h
    · cases h
    · exact h
  intro P
  induction P with
  | nil=>intro acc v h;exact .inl h
  | cons x r ih=>
    intro acc v h;rcases ih _ v h with h | ⟨y,hy,h⟩
    · simp only at h;cases hx:f x with
      | none=>rw [hx] at h;exact .inl h
      | some u=>rw [hx] at h;exact .inr ⟨x,List.mem_cons_self ..,by rw [hx];exact h⟩
    · exact .inr ⟨y,List.mem_cons_of_mem _ hy,h⟩
theorem B94{c:C1}{P:List Q1}(hg:∀x∈P,A8r c x)(k:Int):∀d∈wts c P k,d.length≤1000:=by
  unfold wts
  suffices h:∀(P:List Q1) (s:List (List Int)),(∀x∈P,A8r c x)→(∀d∈s,d.length≤1000)→∀d∈P.foldl (wtS c k) s,d.length≤1000 from h P [] hg (by simp)
  intro P
  induction P with
  | nil=>intro s _ h;exact h
  | cons x r ih=>
    intro s hx hs;refine ih _ (fun y hy=>hx y (List.mem_cons_of_mem _ hy)) ?_;unfold wtS;cases !isQ x||(chn c x.X !=k)
    · cases x.X.u4.Op==5
      · exact fun d hd=>hs d (List.mem_of_mem_drop hd)
      · intro d hd;rcases List.mem_append.1 hd with hd | hd
        · exact hs d hd
        · rw [List.mem_singleton.1 hd];exact (hx x (List.mem_cons_self ..)).dl
    · exact hs
theorem rdN{α:Type}[Inhabited α]{l:List α}{i:Nat}(h:i<l.length):rd l (i:Int)=l[i]:=by
  unfold rd;rw [List.getD_eq_getElem?_getD,show ((i:Int)).toNat=i by omega,List.getElem?_eq_getElem h];rfl
theorem B4s(l:List Int)(hl:l.length≤300)(x:Int):∃t,D6 l x=some t∧((t= -1∧x∉l)∨∃i:Nat,∃h:i<l.length,t=(i:Int)∧l[i]=x):=by
  unfold D6;have hL:=A09 (B:=D6.b1 l x) l.length 0 (fun i=>x==rd l (i:Int)) (fun i=>(i:Int)) (fun i hi=>by
    unfold D6.b1;simp only [Q6 hi,cond_true,H4 hi,D7,wp1 hi (by unfold maxLen;omega)];cases x==rd l (i:Int)<;>rfl) (by
    unfold D6.b1;simp only [X2,cond_false]) l.length 0 (by omega)
  rw [show ((0:Nat):Int)=0 from rfl] at hL;rw [hL];cases hf:(List.range' 0 l.length).find? (fun i:Nat=>x==rd l (i:Int)) with
  | none=>
    refine ⟨-1,rfl,.inl ⟨rfl,fun hm=>?_⟩⟩;obtain ⟨i,hi,rfl⟩:=List.mem_iff_getElem.1 hm;have:=List.find?_eq_none.1 hf i (by simp;omega);rw [rdN hi] at this;simp at this
  | some i=>
    have h1:=List.find?_some hf;have h2:=List.mem_of_find?_eq_some hf;simp at h2;rw [rdN h2] at h1;exact ⟨_,rfl,.inr ⟨i,h2,rfl,by simpa using (beq_iff_eq.1 h1).symm⟩⟩
theorem B26:∀(l:List Int) (i:Nat) (h:i<l.length),l.Nodup→l.eraseIdx i=wo l l[i]
  | [],i,h,_=>by simp at h
  | y::r,0,h,hn=>by
    have hy:y∉r:=(List.nodup_cons.1 hn).1;show r=wo (y::r) y;unfold wo;rw [List.filter_cons,show (y !=y)=false by simp];simp only [Bool.false_eq_true,if_false];exact (List.filter_eq_self.2 fun z hz=>by simp;rintro rfl;exact hy hz).symm
  | y::r,i+1,h,hn=>by
    have hr:=List.nodup_cons.1 hn;have hi:i<r.length:=by simpa using h
    have ih:=B26 r i hi hr.2;show y::r.eraseIdx i=wo (y::r) r[i];rw [ih];unfold wo;rw [List.filter_cons,show (y !=r[i])=true by simp;rintro rfl;exact hr.1 (List.getElem_mem hi)];rfl
theorem wo_no{l:List Int}{p:Int}(h:p∉l):wo l p=l:=List.filter_eq_self.2 fun z hz=>by simp;rintro rfl;exact h hz
theorem wo_lt{l:List Int}{p:Int}(h:p∈l):(wo l p).length<l.length:=by
  unfold wo;rcases Nat.lt_or_ge (l.filter (· !=p)).length l.length with h1 | h1
  · exact h1
  · have:=(List.length_filter_eq_length_iff.1 (Nat.le_antisymm (List.length_filter_le _ _) h1)) p h;simp at this
theorem B5h{l:List Int}(h:l.Nodup)(p:Int)(v:Bool):(A8p l p v).Nodup:=by
  unfold A8p;cases v
  · exact h.filter _
  · simp only [Bool.not_true,cond_false];cases hk:((wo l p).length:Int)==(l.length:Int)
    · exact h
    · simp only [cond_true];rw [List.nodup_append];refine ⟨h.filter _,by simp,fun a ha b hb=>?_⟩;simp only [List.mem_singleton] at hb;subst hb;rintro rfl;simp [wo] at ha
theorem B35(P:List Q1)(p:Int):(J8 P p).u7.Nodup:=by
  unfold J8
  suffices h:∀(P:List Q1) (s:D0),s.u7.Nodup→(P.foldl (stS p) s).u7.Nodup from h P _ (by simp)
  intro P
  induction P with
  | nil=>intro s h;exact h
  | cons x r ih=>
    intro s h;refine ih _ ?_;unfold stS;cases off x||(x.X.u3 !=p)
    · simp only [cond_false,ans];cases (x.X.u4.Op !=4)||((x.A.z6 !=0)&&(x.A.z6 !=1))
      · exact B5h h _ _
      · exact h
    · exact h
end Go.Proofs.YtpdflibmhchlbaaGreatDoor
