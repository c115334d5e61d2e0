/- Orders: the program and the document say the same. No statement is proved here. Conditions: none. -/
import Derived.Test.YtpdflibmhchlbaaGreatDoorPOD
set_option linter.unusedVariables false
set_option linter.unusedSimpArgs false
namespace Go.Proofs.YtpdflibmhchlbaaGreatDoor
open Go Go.RowKit Go.Eng
structure Dom (c:C1) (C:List I5) (B:List J0) (l:List D8):Prop where
  hc:wfc c
  ha:acc c=true
  w0:c.r7.e0.r9.length≤100
  w1:c.r7.e1.r9.length≤100
  C40:C.length≤40
  B40:B.length≤40
  l100:l.length≤130
  cp:∀x∈C,InK .i64 x.u4.u5∧InK .u64 x.u4.ke∧x.u4.u9.length≤40
  bp:∀x∈B,-1≤x.u3∧x.u3≤100
section
variable {c:C1} {C:List I5} {B:List J0} {l:List D8}
theorem due_of{x:D8}(h:isB C B x=true):U1 ⟨C,B⟩ x=some ((x.u6 !=1)||(rd C x.Of).kt):=by
  unfold U1;rcases A3d h with ⟨h3,_⟩ | ⟨hi,_⟩
  · rw [A1g (fun h=>by rw [h3] at h;cases h),D7]
  · rw [A1g (fun _=>hi),D7]
theorem lock(h:Dom c C B l)(hB:∀i:Nat,i<l.length→isB C B (rd l (i:Int))=true)(t5:Bool)(t14:Option C3)(y:C3)(t3:Bool):∀(k i:Nat) (P:List Q1) (m:C3),i+k=l.length→P.length≤i→Sim c P m→A2z c P→
    ∃b,((F3 (C6.b1 c C B l t5 t14 y) ((i:Int),false,m)).bind fun o=>o.on (fun s1=>some true) (fun r=>some r))=some b∧((F3 (E3.b1 ⟨c,C,B⟩ l t3) ((i:Int),P,false)).bind fun o=>o.on (fun s1=>some true) (fun r=>some r))=some b
  | 0,i,P,m,hik,hP,hS,hG=>by
    have hi:i=l.length:=by omega
    subst hi;refine ⟨true,?_,?_⟩
    · rw [L9];have:C6.b1 c C B l t5 t14 y ((l.length:Int),false,m)=some (.out (.brk ((l.length:Int),false,m))):=by unfold C6.b1;simp only [X2,cond_false]
      rw [this];rfl
    · rw [L9];have:E3.b1 ⟨c,C,B⟩ l t3 ((l.length:Int),P,false)=some (.out (.brk ((l.length:Int),P,false))):=by unfold E3.b1;simp only [X2,cond_false]
      rw [this];rfl
  | k + 1, i,P,m,hik,hP,hS,hG=>by
    have hi:i<l.length:=by omega
    have hl:=h.l100;have hw:=wp1 hi (by unfold maxLen;omega);have hb:=hB i hi;have hm1:decide ((P.length+1)*256≤140737488355328)=true:=by simp;omega
    have bye:C6.b1 c C B l t5 t14 y ((i:Int),false,m)=some (.out (.ret false))→E3.b1 ⟨c,C,B⟩ l t3 ((i:Int),P,false)=some (.out (.ret false))→∃b,((F3 (C6.b1 c C B l t5 t14 y) ((i:Int),false,m)).bind fun o=>o.on (fun s1=>some true) (fun r=>some r))=some b∧((F3 (E3.b1 ⟨c,C,B⟩ l t3) ((i:Int),P,false)).bind fun o=>o.on (fun s1=>some true) (fun r=>some r))=some b:=fun e1 e2=>by
      rw [L9,e1,L9,e2];exact ⟨false,rfl,rfl⟩
    have on:∀(P':List Q1) (m':C3),P'.length≤i+1→Sim c P' m'→A2z c P'→C6.b1 c C B l t5 t14 y ((i:Int),false,m)=some (.next (((i+1:Nat):Int),false,m'))→E3.b1 ⟨c,C,B⟩ l t3 ((i:Int),P,false)=some (.next (((i+1:Nat):Int),P',false))→∃b,((F3 (C6.b1 c C B l t5 t14 y) ((i:Int),false,m)).bind fun o=>o.on (fun s1=>some true) (fun r=>some r))=some b∧((F3 (E3.b1 ⟨c,C,B⟩ l t3) ((i:Int),P,false)).bind fun o=>o.on (fun s1=>some true) (fun r=>some r))=some b:=fun P' m' q1 q2 q3 e1 e2=>by
      rw [L9,e1,L9,e2];exact lock h hB t5 t14 y t3 k (i+1) P' m' (by omega) q1 q2 q3
    have hdue:=due_of hb;rcases A3d hb with ⟨h3,hin,i0,i1⟩ | ⟨hin,i0,i1,⟨h1,_⟩ | ⟨h2,_⟩⟩
    · obtain ⟨j,hj⟩:∃j:Nat,(rd l (i:Int)).Of=(j:Int):=⟨(rd l (i:Int)).Of.toNat,by omega⟩;have hmem:=A0y (l:=B) (i:=j) (by omega);obtain ⟨p1,p2⟩:=h.bp _ hmem;obtain ⟨q,m',r1,r2,r3,r4,r5⟩:=B22 h.ha hS hG (by omega) _ p1 p2;have s1:=eqI q (rd B (j:Int)).qg (by omega);have s2:=eqS q (rd B (j:Int)).qg (by omega);cases hd:decide (q=(rd B (j:Int)).qg)
      · refine bye ?_ ?_
        · unfold C6.b1;simp only [Q6 hi,cond_true,cond_false,H4 hi,D7,h3,Int.reduceBEq,hin,hj▸hin,hj,r2,Option.bind_some,s1,hd,Bool.not_false]
        · unfold E3.b1;simp only [Q6 hi,cond_true,cond_false,H4 hi,D7,h3,Int.reduceBEq,hin,hj▸hin,hj,r1,Option.bind_some,s2,hd,Bool.not_false]
      · refine on _ m' (by simp;omega) r4 r5 ?_ ?_
        · unfold C6.b1;simp only [Q6 hi,cond_true,cond_false,H4 hi,D7,h3,Int.reduceBEq,hin,hj▸hin,hj,r2,Option.bind_some,s1,hd,Bool.not_true,hw]
        · unfold E3.b1;simp only [Q6 hi,cond_true,cond_false,H4 hi,D7,h3,Int.reduceBEq,hin,hj▸hin,hj,r1,Option.bind_some,s2,hd,Bool.not_true,hw,hm1];rfl
    · obtain ⟨j,hj⟩:∃j:Nat,(rd l (i:Int)).Of=(j:Int):=⟨(rd l (i:Int)).Of.toNat,by omega⟩;have hmem:=A0y (l:=C) (i:=j) (by omega);obtain ⟨c1,c2,c3⟩:=h.cp _ hmem;obtain ⟨a,m',r1,r2,r3,r4,r5⟩:=do_sim (x:=rd C (j:Int)) h.hc h.ha hS hG (by omega) c1 c2 (by omega);have s1:=B2w a (rd C (j:Int)).qh (by omega);have s2:=B30 a (rd C (j:Int)).qh (by omega);rw [h1,hj] at hdue;rw [show (((1:Int) !=1)||(rd C (j:Int)).kt)=(rd C (j:Int)).kt from rfl] at hdue;cases hD:(rd C (j:Int)).kt<;>rw [hD] at hdue
      · refine on _ m' (by simp;omega) r4 r5 ?_ ?_
        · unfold C6.b1;simp only [Q6 hi,cond_true,cond_false,H4 hi,D7,h1,Int.reduceBEq,hin,hj▸hin,hj,r1,Option.bind_some,hdue,A3g,hw,Bool.not_false,Bool.not_true,cal,Bool.true_or]
        · unfold E3.b1;simp only [Q6 hi,cond_true,cond_false,H4 hi,D7,h1,Int.reduceBEq,hin,hj▸hin,hj,r2,Option.bind_some,hD,hw,cal,Bool.false_and,hm1]
      · cases hd:decide (a=(rd C (j:Int)).qh)
        · refine bye ?_ ?_
          · unfold C6.b1;simp only [Q6 hi,cond_true,cond_false,H4 hi,D7,h1,Int.reduceBEq,hin,hj▸hin,hj,r1,Option.bind_some,hdue,A3g,hw,Bool.not_false,Bool.not_true,cal,s1,hd,Bool.false_or]
          · unfold E3.b1;simp only [Q6 hi,cond_true,cond_false,H4 hi,D7,h1,Int.reduceBEq,hin,hj▸hin,hj,r2,Option.bind_some,hD,hw,cal,Bool.true_and,s2,hd,Bool.not_false]
        · refine on _ m' (by simp;omega) r4 r5 ?_ ?_
          · unfold C6.b1;simp only [Q6 hi,cond_true,cond_false,H4 hi,D7,h1,Int.reduceBEq,hin,hj▸hin,hj,r1,Option.bind_some,hdue,A3g,hw,Bool.not_false,Bool.not_true,cal,s1,hd,Bool.false_or]
          · unfold E3.b1;simp only [Q6 hi,cond_true,cond_false,H4 hi,D7,h1,Int.reduceBEq,hin,hj▸hin,hj,r2,Option.bind_some,hD,hw,cal,Bool.true_and,s2,hd,Bool.not_true,hm1]
    · obtain ⟨j,hj⟩:∃j:Nat,(rd l (i:Int)).Of=(j:Int):=⟨(rd l (i:Int)).Of.toNat,by omega⟩;have hmem:=A0y (l:=C) (i:=j) (by omega);obtain ⟨c1,c2,c3⟩:=h.cp _ hmem;obtain ⟨q,m',r1,r2,r3⟩:=B8k (x:=rd C (j:Int)) h.hc h.ha hS hG c1;by_cases hq:q=0
      · subst hq;refine bye ?_ ?_
        · unfold C6.b1;simp only [Q6 hi,cond_true,cond_false,H4 hi,D7,h2,Int.reduceBEq,hin,hj▸hin,hj,r2,Option.bind_some];rfl
        · unfold E3.b1;simp only [Q6 hi,cond_true,cond_false,H4 hi,D7,h2,Int.reduceBEq,hin,hj▸hin,hj,r1,Option.bind_some]
      · obtain ⟨r4,r5⟩:=r3 hq;refine on _ m' (by simp;omega) r4 r5 ?_ ?_
        · unfold C6.b1;simp only [Q6 hi,cond_true,cond_false,H4 hi,D7,h2,Int.reduceBEq,hin,hj▸hin,hj,r2,Option.bind_some,show (q !=0)=true by simp [hq],Bool.not_true,hw]
        · unfold E3.b1;simp only [Q6 hi,cond_true,cond_false,H4 hi,D7,h2,Int.reduceBEq,hin,hj▸hin,hj,r1,Option.bind_some,show (q==0)=false by simp [hq],hw,hm1];rfl
theorem B8u(h:tim C B l=true)(i:Nat)(hi:i<l.length):isB C B (rd l (i:Int))=true:=by
  unfold tim at h;simp only [Bool.and_eq_true,Bool.not_eq_true',List.any_eq_false,List.mem_range] at h;have:=h.1 i hi;unfold bad at this;cases hb:isB C B (rd l (i:Int))
  · rw [hb] at this;simp at this
  · rfl
theorem A6a(h:Dom c C B l):∃b,C6 c C B l=some b∧E3 ⟨c,C,B⟩ l=some b:=by
  have hl:=h.l100;unfold C6 E3;rw [B62 h.C40 h.B40 l (by omega),A27 h.C40 h.B40 l (by omega)];cases ht:tim C B l
  · exact ⟨false,rfl,rfl⟩
  · obtain ⟨m,n1,n2⟩:=B9l h.ha h.w0 h.w1;obtain ⟨b,b1,b2⟩:=lock h (B8u ht) true (some m) m true l.length 0 [] m (by omega) (Nat.le_refl _) n2 ⟨by simp,fun i hi=>absurd hi (by simp)⟩;refine ⟨b,?_,b2⟩;simp only [Option.bind_some,Bool.not_true,cond_false,n1];exact b1
end
end Go.Proofs.YtpdflibmhchlbaaGreatDoor
