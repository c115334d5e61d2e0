/- Orders: the program and the document say the same. No statement is proved here. Conditions: none. -/
import Derived.Test.YtpdflibmhchlbaaGreatDoorPOD
set_option linter.unusedVariables false
set_option linter.unusedSimpArgs false
namespace Go.Proofs.YtpdflibmhchlbaaGreatDoor
open Go Go.RowKit Go.Eng
structure Dom (c:C1) (C:List I4) (B:List I5) (l:List E0):Prop where
  hc:wfc c
  ha:acc c=true
  w0:c.r8.e0.u3.length≤100
  w1:c.r8.e1.u3.length≤100
  C40:C.length≤40
  B40:B.length≤40
  l100:l.length≤130
  cp:∀x∈C,InK .i64 x.u4.u5∧InK .u64 x.u4.z7∧x.u4.u9.length≤40
  bp:∀x∈B,-1≤x.r9∧x.r9≤100
section
variable {c:C1} {C:List I4} {B:List I5} {l:List E0}
theorem due_of{x:E0}(h:isB C B x=true):U1 ⟨C,B⟩ x=some ((x.u6 !=1)||(rd C x.Of).kt):=by
  unfold U1;rcases A1z h with ⟨h3,_⟩ | ⟨hi,_⟩
  · rw [A2e (fun h=>by rw [h3] at h;cases h),D5]
  · rw [A2e (fun _=>hi),D5]
theorem lock(h:Dom c C B l)(hB:∀i:Nat,i<l.length→isB C B (rd l (i:Int))=true)(t5:Bool)(t14:Option C3)(y:C3)(t3:Bool):∀(k i:Nat) (P:List M2) (m:C3),i+k=l.length→P.length≤i→Sim c P m→A2k c P→
    ∃b,((F5 (C7.b1 c C B l t5 t14 y) ((i:Int),false,m)).bind fun o=>o.on (fun s1=>some true) (fun r=>some r))=some b∧((F5 (D2.b1 ⟨c,C,B⟩ l t3) ((i:Int),P,false)).bind fun o=>o.on (fun s1=>some true) (fun r=>some r))=some b
  | 0,i,P,m,hik,hP,hS,hG=>by
    have hi:i=l.length:=by omega
    subst hi;refine ⟨true,?_,?_⟩
    · rw [K4];have:C7.b1 c C B l t5 t14 y ((l.length:Int),false,m)=some (.out (.brk ((l.length:Int),false,m))):=by unfold C7.b1;simp only [X1,cond_false]
      rw [this];rfl
    · rw [K4];have:D2.b1 ⟨c,C,B⟩ l t3 ((l.length:Int),P,false)=some (.out (.brk ((l.length:Int),P,false))):=by unfold D2.b1;simp only [X1,cond_false]
      rw [this];rfl
  | k + 1, i,P,m,hik,hP,hS,hG=>by
    have hi:i<l.length:=by omega
    have hl:=h.l100;have hw:=wp1 hi (by unfold maxLen;omega);have hb:=hB i hi;have hm1:decide ((P.length+1)*256≤140737488355328)=true:=by simp;omega
    have bye:C7.b1 c C B l t5 t14 y ((i:Int),false,m)=some (.out (.ret false))→D2.b1 ⟨c,C,B⟩ l t3 ((i:Int),P,false)=some (.out (.ret false))→∃b,((F5 (C7.b1 c C B l t5 t14 y) ((i:Int),false,m)).bind fun o=>o.on (fun s1=>some true) (fun r=>some r))=some b∧((F5 (D2.b1 ⟨c,C,B⟩ l t3) ((i:Int),P,false)).bind fun o=>o.on (fun s1=>some true) (fun r=>some r))=some b:=fun e1 e2=>by
      rw [K4,e1,K4,e2];exact ⟨false,rfl,rfl⟩
    have on:∀(P':List M2) (m':C3),P'.length≤i+1→Sim c P' m'→A2k c P'→C7.b1 c C B l t5 t14 y ((i:Int),false,m)=some (.next (((i+1:Nat):Int),false,m'))→D2.b1 ⟨c,C,B⟩ l t3 ((i:Int),P,false)=some (.next (((i+1:Nat):Int),P',false))→∃b,((F5 (C7.b1 c C B l t5 t14 y) ((i:Int),false,m)).bind fun o=>o.on (fun s1=>some true) (fun r=>some r))=some b∧((F5 (D2.b1 ⟨c,C,B⟩ l t3) ((i:Int),P,false)).bind fun o=>o.on (fun s1=>some true) (fun r=>some r))=some b:=fun P' m' q1 q2 q3 e1 e2=>by
      rw [K4,e1,K4,e2];exact lock h hB t5 t14 y t3 k (i+1) P' m' (by omega) q1 q2 q3
    have hdue:=due_of hb;rcases A1z hb with ⟨h3,hin,i0,i1⟩ | ⟨hin,i0,i1,⟨h1,_⟩ | ⟨h2,_⟩⟩
    · obtain ⟨j,hj⟩:∃j:Nat,(rd l (i:Int)).Of=(j:Int):=⟨(rd l (i:Int)).Of.toNat,by omega⟩;have hmem:=X9 (l:=B) (i:=j) (by omega);obtain ⟨p1,p2⟩:=h.bp _ hmem;obtain ⟨q,m',r1,r2,r3,r4,r5⟩:=A82 h.ha hS hG (by omega) _ p1 p2;have s1:=eqI q (rd B (j:Int)).qg (by omega);have s2:=eqS q (rd B (j:Int)).qg (by omega);cases hd:decide (q=(rd B (j:Int)).qg)
      · refine bye ?_ ?_
        · unfold C7.b1;simp only [P6 hi,cond_true,cond_false,G6 hi,D5,h3,Int.reduceBEq,hin,hj▸hin,hj,r2,Option.bind_some,s1,hd,Bool.not_false]
        · unfold D2.b1;simp only [P6 hi,cond_true,cond_false,G6 hi,D5,h3,Int.reduceBEq,hin,hj▸hin,hj,r1,Option.bind_some,s2,hd,Bool.not_false]
      · refine on _ m' (by simp;omega) r4 r5 ?_ ?_
        · unfold C7.b1;simp only [P6 hi,cond_true,cond_false,G6 hi,D5,h3,Int.reduceBEq,hin,hj▸hin,hj,r2,Option.bind_some,s1,hd,Bool.not_true,hw]
        · unfold D2.b1;simp only [P6 hi,cond_true,cond_false,G6 hi,D5,h3,Int.reduceBEq,hin,hj▸hin,hj,r1,Option.bind_some,s2,hd,Bool.not_true,hw,hm1];rfl
    · obtain ⟨j,hj⟩:∃j:Nat,(rd l (i:Int)).Of=(j:Int):=⟨(rd l (i:Int)).Of.toNat,by omega⟩;have hmem:=X9 (l:=C) (i:=j) (by omega);obtain ⟨c1,c2,c3⟩:=h.cp _ hmem;obtain ⟨a,m',r1,r2,r3,r4,r5⟩:=B70 (x:=rd C (j:Int)) h.hc h.ha hS hG (by omega) c1 c2 (by omega);have s1:=B3f a (rd C (j:Int)).qh (by omega);have s2:=B0t a (rd C (j:Int)).qh (by omega);rw [h1,hj] at hdue;rw [show (((1:Int) !=1)||(rd C (j:Int)).kt)=(rd C (j:Int)).kt from rfl] at hdue;cases hD:(rd C (j:Int)).kt<;>rw [hD] at hdue
      · refine on _ m' (by simp;omega) r4 r5 ?_ ?_
        · unfold C7.b1;simp only [P6 hi,cond_true,cond_false,G6 hi,D5,h1,Int.reduceBEq,hin,hj▸hin,hj,r1,Option.bind_some,hdue,A3g,hw,Bool.not_false,Bool.not_true,cal,Bool.true_or]
        · unfold D2.b1;simp only [P6 hi,cond_true,cond_false,G6 hi,D5,h1,Int.reduceBEq,hin,hj▸hin,hj,r2,Option.bind_some,hD,hw,cal,Bool.false_and,hm1]
      · cases hd:decide (a=(rd C (j:Int)).qh)
        · refine bye ?_ ?_
          · unfold C7.b1;simp only [P6 hi,cond_true,cond_false,G6 hi,D5,h1,Int.reduceBEq,hin,hj▸hin,hj,r1,Option.bind_some,hdue,A3g,hw,Bool.not_false,Bool.not_true,cal,s1,hd,Bool.false_or]
          · unfold D2.b1;simp only [P6 hi,cond_true,cond_false,G6 hi,D5,h1,Int.reduceBEq,hin,hj▸hin,hj,r2,Option.bind_some,hD,hw,cal,Bool.true_and,s2,hd,Bool.not_false]
        · refine on _ m' (by simp;omega) r4 r5 ?_ ?_
          · unfold C7.b1;simp only [P6 hi,cond_true,cond_false,G6 hi,D5,h1,Int.reduceBEq,hin,hj▸hin,hj,r1,Option.bind_some,hdue,A3g,hw,Bool.not_false,Bool.not_true,cal,s1,hd,Bool.false_or]
          · unfold D2.b1;simp only [P6 hi,cond_true,cond_false,G6 hi,D5,h1,Int.reduceBEq,hin,hj▸hin,hj,r2,Option.bind_some,hD,hw,cal,Bool.true_and,s2,hd,Bool.not_true,hm1]
    · obtain ⟨j,hj⟩:∃j:Nat,(rd l (i:Int)).Of=(j:Int):=⟨(rd l (i:Int)).Of.toNat,by omega⟩;have hmem:=X9 (l:=C) (i:=j) (by omega);obtain ⟨c1,c2,c3⟩:=h.cp _ hmem;obtain ⟨q,m',r1,r2,r3⟩:=B4f (x:=rd C (j:Int)) h.hc h.ha hS hG c1;by_cases hq:q=0
      · subst hq;refine bye ?_ ?_
        · unfold C7.b1;simp only [P6 hi,cond_true,cond_false,G6 hi,D5,h2,Int.reduceBEq,hin,hj▸hin,hj,r2,Option.bind_some];rfl
        · unfold D2.b1;simp only [P6 hi,cond_true,cond_false,G6 hi,D5,h2,Int.reduceBEq,hin,hj▸hin,hj,r1,Option.bind_some]
      · obtain ⟨r4,r5⟩:=r3 hq;refine on _ m' (by simp;omega) r4 r5 ?_ ?_
        · unfold C7.b1;simp only [P6 hi,cond_true,cond_false,G6 hi,D5,h2,Int.reduceBEq,hin,hj▸hin,hj,r2,Option.bind_some,show (q !=0)=true by simp [hq],Bool.not_true,hw]
        · unfold D2.b1;simp only [P6 hi,cond_true,cond_false,G6 hi,D5,h2,Int.reduceBEq,hin,hj▸hin,hj,r1,Option.bind_some,show (q==0)=false by simp [hq],hw,hm1];rfl
theorem B3b(h:tim C B l=true)(i:Nat)(hi:i<l.length):isB C B (rd l (i:Int))=true:=by
  unfold tim at h;simp only [Bool.and_eq_true,Bool.not_eq_true',List.any_eq_false,List.mem_range] at h;have:=h.1 i hi;unfold bad at this;cases hb:isB C B (rd l (i:Int))
  · rw [hb] at this;simp at this
  · rfl
theorem A4y(h:Dom c C B l):∃b,C7 c C B l=some b∧D2 ⟨c,C,B⟩ l=some b:=by
  have hl:=h.l100;unfold C7 D2;rw [B7n h.C40 h.B40 l (by omega),A2h h.C40 h.B40 l (by omega)];cases ht:tim C B l
  · exact ⟨false,rfl,rfl⟩
  · obtain ⟨m,n1,n2⟩:=B2x h.ha h.w0 h.w1;obtain ⟨b,b1,b2⟩:=lock h (B3b ht) true (some m) m true l.length 0 [] m (by omega) (Nat.le_refl _) n2 ⟨by simp,fun i hi=>absurd hi (by simp)⟩;refine ⟨b,?_,b2⟩;simp only [Option.bind_some,Bool.not_true,cond_false,n1];exact b1
end
end Go.Proofs.YtpdflibmhchlbaaGreatDoor
