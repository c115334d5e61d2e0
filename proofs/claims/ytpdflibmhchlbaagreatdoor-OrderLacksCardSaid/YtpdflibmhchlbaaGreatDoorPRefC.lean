/- Plain law: what is refused, op by op. No statement of the seat is proved here. Conditions: none. -/
import Derived.Test.YtpdflibmhchlbaaGreatDoorPRefB
set_option linter.unusedVariables false
set_option linter.unusedSimpArgs false
namespace Go.Proofs.YtpdflibmhchlbaaGreatDoor
open Go Go.RowKit Go.Eng
theorem h13_1: [h13 1 0,h13 1 1,h13 1 2,h13 1 3,h13 1 4,h13 1 5,h13 1 6,h13 1 7,h13 1 8,h13 1 9,h13 1 10,h13 1 11,h13 1 12]=[true,true,true,false,false,false,false,false,false,false,false,false,false]:=by decide
theorem h13_2: [h13 2 0,h13 2 1,h13 2 2,h13 2 3,h13 2 4,h13 2 5,h13 2 6,h13 2 7,h13 2 8,h13 2 9,h13 2 10,h13 2 11,h13 2 12]=[false,false,true,false,false,false,false,false,false,false,false,false,false]:=by decide
theorem h13_3: [h13 3 0,h13 3 1,h13 3 2,h13 3 3,h13 3 4,h13 3 5,h13 3 6,h13 3 7,h13 3 8,h13 3 9,h13 3 10,h13 3 11,h13 3 12]=[false,false,false,true,true,true,false,false,false,true,true,false,false]:=by decide
theorem h13_4: [h13 4 0,h13 4 1,h13 4 2,h13 4 3,h13 4 4,h13 4 5,h13 4 6,h13 4 7,h13 4 8,h13 4 9,h13 4 10,h13 4 11,h13 4 12]=[false,false,false,true,true,false,true,false,false,false,false,false,false]:=by decide
theorem h13_5: [h13 5 0,h13 5 1,h13 5 2,h13 5 3,h13 5 4,h13 5 5,h13 5 6,h13 5 7,h13 5 8,h13 5 9,h13 5 10,h13 5 11,h13 5 12]=[false,false,false,true,true,false,false,true,false,true,true,false,false]:=by decide
theorem h13_6: [h13 6 0,h13 6 1,h13 6 2,h13 6 3,h13 6 4,h13 6 5,h13 6 6,h13 6 7,h13 6 8,h13 6 9,h13 6 10,h13 6 11,h13 6 12]=[false,false,false,true,true,false,false,false,true,false,false,false,false]:=by decide
theorem h13_7: [h13 7 0,h13 7 1,h13 7 2,h13 7 3,h13 7 4,h13 7 5,h13 7 6,h13 7 7,h13 7 8,h13 7 9,h13 7 10,h13 7 11,h13 7 12]=[false,false,false,true,true,false,false,false,false,false,false,false,false]:=by decide
theorem h13_8: [h13 8 0,h13 8 1,h13 8 2,h13 8 3,h13 8 4,h13 8 5,h13 8 6,h13 8 7,h13 8 8,h13 8 9,h13 8 10,h13 8 11,h13 8 12]=[false,false,false,false,false,false,false,false,false,false,false,false,true]:=by decide
theorem h13_9: [h13 9 0,h13 9 1,h13 9 2,h13 9 3,h13 9 4,h13 9 5,h13 9 6,h13 9 7,h13 9 8,h13 9 9,h13 9 10,h13 9 11,h13 9 12]=[false,false,false,false,false,false,false,false,false,false,false,true,true]:=by decide
theorem A6k(c:C1)(s:D0)(r:L7):(ask c s r).own=(prt c r.u5&&(ppt c r.u5==s.u3)):=by unfold ask;cases prt c r.u5<;>rfl
def A22(c:C1)(s:D0)(r:L7)(e:Int):Int:=bif (!(prt c r.u5&&(ppt c r.u5==s.u3)))||(!amg s.z9 r.u5) then 3 else bif !s.z7 then 5 else e
def B0q(c:C1)(r:L7):Int:=bif ((r.u9.length:Int)==0) then 3 else bif decide ((r.u9.length:Int)>(pch c r.u5).py) then 4 else 0
def A4g(c:C1)(s:D0)(r:L7):Int:=
  bif r.Op==1 then (bif !(prt c r.u5&&(ppt c r.u5==s.u3)) then 4 else bif amg s.z9 r.u5 then 1 else bif s.z7 then 5 else 0) else
  bif r.Op==2 then (bif s.z7 then 5 else 0) else
  bif r.Op==3 then A22 c s r (bif !(((pch c r.u5).u6==1)&&psd r.u5) then 5 else B0q c r) else
  bif r.Op==4 then A22 c s r (bif !(((pch c r.u5).u6==1)&&!psd r.u5) then 5 else 0) else
  bif r.Op==5 then A22 c s r (bif !(((pch c r.u5).u6==2)&&psd r.u5) then 5 else B0q c r) else
  bif r.Op==6 then A22 c s r (bif !(((pch c r.u5).u6==2)&&!psd r.u5) then 5 else 0) else
  bif r.Op==7 then A22 c s r 0 else
  bif r.Op==8 then (bif !prv c s.u3 r.ke then 6 else 0) else
  (bif ((r.u9.length:Int) !=1) then 3 else bif !prv c s.u3 r.ke then 6 else 0)
theorem eqT(b:Bool):(b==true)=b:=by cases b<;>rfl
theorem eqF(b:Bool):(b==false)=!b:=by cases b<;>rfl
theorem srow_1(c:C1)(s:D0)(p a:Int)(d:List Int):(A30 fun i=>h13 1 i&&hol (ask c s ⟨1,p,a,d⟩) (amg s.z9 p) (prv c s.u3 a) i)=A4g c s ⟨1,p,a,d⟩:=by
  have t:=h13_1;simp only [List.cons.injEq,and_true] at t;obtain ⟨t0,t1,t2,t3,t4,t5,t6,t7,t8,t9,t10,t11,t12⟩:=t;rw [A2q];simp only [t0,t1,t2,t3,t4,t5,t6,t7,t8,t9,t10,t11,t12,Bool.false_and,Bool.true_and,cond_false];show (bif !(ask c s ⟨1,p,a,d⟩).own then (4:Int) else bif amg s.z9 p then 1 else bif (ask c s ⟨1,p,a,d⟩).s.z7 then 5 else 0)=_;rw [A6k,A9l];rfl
theorem srow_2(c:C1)(s:D0)(p a:Int)(d:List Int):(A30 fun i=>h13 2 i&&hol (ask c s ⟨2,p,a,d⟩) (amg s.z9 p) (prv c s.u3 a) i)=A4g c s ⟨2,p,a,d⟩:=by
  have t:=h13_2;simp only [List.cons.injEq,and_true] at t;obtain ⟨t0,t1,t2,t3,t4,t5,t6,t7,t8,t9,t10,t11,t12⟩:=t;rw [A2q];simp only [t0,t1,t2,t3,t4,t5,t6,t7,t8,t9,t10,t11,t12,Bool.false_and,Bool.true_and,cond_false];show (bif (ask c s ⟨2,p,a,d⟩).s.z7 then (5:Int) else 0)=_;rw [A9l];rfl
theorem srow_3(c:C1)(s:D0)(p a:Int)(d:List Int):(A30 fun i=>h13 3 i&&hol (ask c s ⟨3,p,a,d⟩) (amg s.z9 p) (prv c s.u3 a) i)=A4g c s ⟨3,p,a,d⟩:=by
  have t:=h13_3;simp only [List.cons.injEq,and_true] at t;obtain ⟨t0,t1,t2,t3,t4,t5,t6,t7,t8,t9,t10,t11,t12⟩:=t;rw [A2q];simp only [t0,t1,t2,t3,t4,t5,t6,t7,t8,t9,t10,t11,t12,Bool.false_and,Bool.true_and,cond_false];show (bif (!(ask c s ⟨3,p,a,d⟩).own)||(!amg s.z9 p) then (3:Int) else bif !(ask c s ⟨3,p,a,d⟩).s.z7 then 5 else bif !(((ask c s ⟨3,p,a,d⟩).channel.u6==1)&&((ask c s ⟨3,p,a,d⟩).source==true)) then 5 else bif (((ask c s ⟨3,p,a,d⟩).en.u9.length:Int)==0) then 3 else bif decide (((ask c s ⟨3,p,a,d⟩).en.u9.length:Int)>(ask c s ⟨3,p,a,d⟩).channel.py) then 4 else 0)=A22 c s ⟨3,p,a,d⟩ _;rw [A6k,A9l];rw [B68];unfold A22 ask;cases hp:prt c p
  · rfl
  · simp only [hp,cond_true,eqT,eqF]<;>rfl
theorem srow_4(c:C1)(s:D0)(p a:Int)(d:List Int):(A30 fun i=>h13 4 i&&hol (ask c s ⟨4,p,a,d⟩) (amg s.z9 p) (prv c s.u3 a) i)=A4g c s ⟨4,p,a,d⟩:=by
  have t:=h13_4;simp only [List.cons.injEq,and_true] at t;obtain ⟨t0,t1,t2,t3,t4,t5,t6,t7,t8,t9,t10,t11,t12⟩:=t;rw [A2q];simp only [t0,t1,t2,t3,t4,t5,t6,t7,t8,t9,t10,t11,t12,Bool.false_and,Bool.true_and,cond_false];show (bif (!(ask c s ⟨4,p,a,d⟩).own)||(!amg s.z9 p) then (3:Int) else bif !(ask c s ⟨4,p,a,d⟩).s.z7 then 5 else bif !(((ask c s ⟨4,p,a,d⟩).channel.u6==1)&&((ask c s ⟨4,p,a,d⟩).source==false)) then 5 else 0)=A22 c s ⟨4,p,a,d⟩ _;rw [A6k,A9l];unfold A22 ask;cases hp:prt c p
  · rfl
  · simp only [hp,cond_true,eqT,eqF]<;>rfl
theorem srow_5(c:C1)(s:D0)(p a:Int)(d:List Int):(A30 fun i=>h13 5 i&&hol (ask c s ⟨5,p,a,d⟩) (amg s.z9 p) (prv c s.u3 a) i)=A4g c s ⟨5,p,a,d⟩:=by
  have t:=h13_5;simp only [List.cons.injEq,and_true] at t;obtain ⟨t0,t1,t2,t3,t4,t5,t6,t7,t8,t9,t10,t11,t12⟩:=t;rw [A2q];simp only [t0,t1,t2,t3,t4,t5,t6,t7,t8,t9,t10,t11,t12,Bool.false_and,Bool.true_and,cond_false];show (bif (!(ask c s ⟨5,p,a,d⟩).own)||(!amg s.z9 p) then (3:Int) else bif !(ask c s ⟨5,p,a,d⟩).s.z7 then 5 else bif !(((ask c s ⟨5,p,a,d⟩).channel.u6==2)&&((ask c s ⟨5,p,a,d⟩).source==true)) then 5 else bif (((ask c s ⟨5,p,a,d⟩).en.u9.length:Int)==0) then 3 else bif decide (((ask c s ⟨5,p,a,d⟩).en.u9.length:Int)>(ask c s ⟨5,p,a,d⟩).channel.py) then 4 else 0)=A22 c s ⟨5,p,a,d⟩ _;rw [A6k,A9l];rw [B68];unfold A22 ask;cases hp:prt c p
  · rfl
  · simp only [hp,cond_true,eqT,eqF]<;>rfl
theorem srow_6(c:C1)(s:D0)(p a:Int)(d:List Int):(A30 fun i=>h13 6 i&&hol (ask c s ⟨6,p,a,d⟩) (amg s.z9 p) (prv c s.u3 a) i)=A4g c s ⟨6,p,a,d⟩:=by
  have t:=h13_6;simp only [List.cons.injEq,and_true] at t;obtain ⟨t0,t1,t2,t3,t4,t5,t6,t7,t8,t9,t10,t11,t12⟩:=t;rw [A2q];simp only [t0,t1,t2,t3,t4,t5,t6,t7,t8,t9,t10,t11,t12,Bool.false_and,Bool.true_and,cond_false];show (bif (!(ask c s ⟨6,p,a,d⟩).own)||(!amg s.z9 p) then (3:Int) else bif !(ask c s ⟨6,p,a,d⟩).s.z7 then 5 else bif !(((ask c s ⟨6,p,a,d⟩).channel.u6==2)&&((ask c s ⟨6,p,a,d⟩).source==false)) then 5 else 0)=A22 c s ⟨6,p,a,d⟩ _;rw [A6k,A9l];unfold A22 ask;cases hp:prt c p
  · rfl
  · simp only [hp,cond_true,eqT,eqF]<;>rfl
theorem srow_7(c:C1)(s:D0)(p a:Int)(d:List Int):(A30 fun i=>h13 7 i&&hol (ask c s ⟨7,p,a,d⟩) (amg s.z9 p) (prv c s.u3 a) i)=A4g c s ⟨7,p,a,d⟩:=by
  have t:=h13_7;simp only [List.cons.injEq,and_true] at t;obtain ⟨t0,t1,t2,t3,t4,t5,t6,t7,t8,t9,t10,t11,t12⟩:=t;rw [A2q];simp only [t0,t1,t2,t3,t4,t5,t6,t7,t8,t9,t10,t11,t12,Bool.false_and,Bool.true_and,cond_false];show (bif (!(ask c s ⟨7,p,a,d⟩).own)||(!amg s.z9 p) then (3:Int) else bif !(ask c s ⟨7,p,a,d⟩).s.z7 then 5 else 0)=A22 c s ⟨7,p,a,d⟩ _;rw [A6k,A9l];rfl
theorem srow_8(c:C1)(s:D0)(p a:Int)(d:List Int):(A30 fun i=>h13 8 i&&hol (ask c s ⟨8,p,a,d⟩) (amg s.z9 p) (prv c s.u3 a) i)=A4g c s ⟨8,p,a,d⟩:=by
  have t:=h13_8;simp only [List.cons.injEq,and_true] at t;obtain ⟨t0,t1,t2,t3,t4,t5,t6,t7,t8,t9,t10,t11,t12⟩:=t;rw [A2q];simp only [t0,t1,t2,t3,t4,t5,t6,t7,t8,t9,t10,t11,t12,Bool.false_and,Bool.true_and,cond_false];rfl
theorem srow_9(c:C1)(s:D0)(p a:Int)(d:List Int):(A30 fun i=>h13 9 i&&hol (ask c s ⟨9,p,a,d⟩) (amg s.z9 p) (prv c s.u3 a) i)=A4g c s ⟨9,p,a,d⟩:=by
  have t:=h13_9;simp only [List.cons.injEq,and_true] at t;obtain ⟨t0,t1,t2,t3,t4,t5,t6,t7,t8,t9,t10,t11,t12⟩:=t;rw [A2q];simp only [t0,t1,t2,t3,t4,t5,t6,t7,t8,t9,t10,t11,t12,Bool.false_and,Bool.true_and,cond_false];show (bif (((ask c s ⟨9,p,a,d⟩).en.u9.length:Int) !=1) then (3:Int) else bif !prv c s.u3 a then 6 else 0)=_;rw [B68];rfl
theorem B8n{c:C1}(hc:wfc c)(ha:acc c=true){s:D0}(hm:s.z9.length≤300){k p a:Int}{d:List Int}(p1: -9223372036854775808≤p)(p2:p≤9223372036854775807)(hk:k=3∨k=4∨k=5∨k=6∨k=7):O2 c s ⟨k,p,a,d⟩=some (A4g c s ⟨k,p,a,d⟩):=by
  unfold O2;simp only;rw [A55 hc ha p1 p2];simp only [Option.bind_some];rw [B3y s hm];have hr:A4g c s ⟨k,p,a,d⟩=A22 c s ⟨k,p,a,d⟩ (bif k==3 then (bif !(((pch c p).u6==1)&&psd p) then 5 else B0q c ⟨k,p,a,d⟩) else bif k==4 then (bif !(((pch c p).u6==1)&&!psd p) then 5 else 0) else
      bif k==5 then (bif !(((pch c p).u6==2)&&psd p) then 5 else B0q c ⟨k,p,a,d⟩) else bif k==6 then (bif !(((pch c p).u6==2)&&!psd p) then 5 else 0) else 0):=by
    rcases hk with rfl | rfl | rfl | rfl | rfl<;>rfl
  rw [hr];unfold A22;simp only;cases hp:prt c p
  · rfl
  · simp only [cond_true,Bool.not_true,Bool.false_or,Bool.true_and];have hI:=A8j hp;rw [A1v hI.1 hI.2.1];simp only [D7];cases hpp:(ppt c p==s.u3)
    · simp only [bne,hpp,Bool.not_false,Bool.not_true,A7m,Option.bind_some,Bool.true_or,cond_true]
    · simp only [bne,hpp,Bool.not_false,Bool.not_true,A4m,Option.bind_some,Bool.false_or];cases amg s.z9 p
      · rfl
      · cases s.z7
        · rfl
        · simp only [Bool.not_true,cond_false];unfold B0q;show (bif ((k==3)&&((!((rd c.r6 (p / 2)).u6==1))||(!psd p)))||((k==4)&&((!((rd c.r6 (p / 2)).u6==1))||psd p)) then some (5:Int) else (bif ((k==5)&&((!((rd c.r6 (p / 2)).u6==2))||(!psd p)))||((k==6)&&((!((rd c.r6 (p / 2)).u6==2))||psd p)) then some 5 else (bif (k==3)||(k==5) then (bif ((d.length:Int)==0) then some 3 else (bif decide ((d.length:Int)>(rd c.r6 (p / 2)).py) then some 4 else some 0)) else some 0)))=some (bif k==3 then (bif !(((rd c.r6 (p / 2)).u6==1)&&psd p) then 5 else (bif ((d.length:Int)==0) then 3 else bif decide ((d.length:Int)>(rd c.r6 (p / 2)).py) then 4 else 0)) else bif k==4 then (bif !(((rd c.r6 (p / 2)).u6==1)&&!psd p) then 5 else 0) else bif k==5 then (bif !(((rd c.r6 (p / 2)).u6==2)&&psd p) then 5 else (bif ((d.length:Int)==0) then 3 else bif decide ((d.length:Int)>(rd c.r6 (p / 2)).py) then 4 else 0)) else bif k==6 then (bif !(((rd c.r6 (p / 2)).u6==2)&&!psd p) then 5 else 0) else 0);generalize rd c.r6 (p / 2)=x;rcases hk with rfl | rfl | rfl | rfl | rfl
          all_goals (cases (x.u6==1)<;>cases (x.u6==2)<;>cases psd p<;>cases ((d.length:Int)==0)<;>cases decide ((d.length:Int)>x.py)<;>rfl)
theorem B2n{c:C1}(hc:wfc c)(ha:acc c=true){s:D0}(hm:s.z9.length≤300){k p a:Int}{d:List Int}(p1: -9223372036854775808≤p)(p2:p≤9223372036854775807)(g1:0≤a)(g2:a<18446744073709551616):
    ∃e,F5 c s ⟨k,p,a,d⟩=some e∧K4 c s ⟨k,p,a,d⟩=some e∧((0≤s.u3∧s.u3<(c.r8.length:Int))∧(1≤k∧k≤9)∧e=A4g c s ⟨k,p,a,d⟩∨(0≤s.u3∧s.u3<(c.r8.length:Int))∧e=3∨¬(0≤s.u3∧s.u3<(c.r8.length:Int))∧e=4):=by
  by_cases hp:0≤s.u3∧s.u3<(c.r8.length:Int)
  · by_cases hk:1≤k∧k≤9
    · refine ⟨A4g c s ⟨k,p,a,d⟩,?_,?_,.inl ⟨hp,hk,rfl⟩⟩
      · rw [B60 hc ha (r:=⟨k,p,a,d⟩) hp.1 hp.2 g1 hm p1 p2 hk.1 hk.2];have hh:k=1∨k=2∨k=3∨k=4∨k=5∨k=6∨k=7∨k=8∨k=9:=by omega
        rcases hh with rfl | rfl | rfl | rfl | rfl | rfl | rfl | rfl | rfl
        · exact congrArg some (srow_1 c s p a d)
        · exact congrArg some (srow_2 c s p a d)
        · exact congrArg some (srow_3 c s p a d)
        · exact congrArg some (srow_4 c s p a d)
        · exact congrArg some (srow_5 c s p a d)
        · exact congrArg some (srow_6 c s p a d)
        · exact congrArg some (srow_7 c s p a d)
        · exact congrArg some (srow_8 c s p a d)
        · exact congrArg some (srow_9 c s p a d)
      · unfold K4;rw [A43 c hc,ha];simp only [Option.bind_some];rw [show (((!true)||decide (s.u3<0))||decide (s.u3≥(c.r8.length:Int)))=false by simp;omega];simp only [cond_false];have hh:k=1∨k=2∨k=3∨k=4∨k=5∨k=6∨k=7∨k=8∨k=9:=by omega
        have ht:∀ {k:Int},(k=3∨k=4∨k=5∨k=6∨k=7)→((O2 c s ⟨k,p,a,d⟩).bind fun t=>some t)=some (A4g c s ⟨k,p,a,d⟩):=fun hk=>by rw [B8n hc ha hm p1 p2 hk];rfl
        rcases hh with rfl | rfl | rfl | rfl | rfl | rfl | rfl | rfl | rfl
        · show ((O1 c p).bind fun t_15=>(bif ((!t_15.Is)||(t_15.u3 !=s.u3)) then some 4 else ((M9 s p).bind fun t_24=>(bif t_24 then some 1 else (bif s.z7 then some 5 else some 0)))))=some (bif !(prt c p&&(ppt c p==s.u3)) then 4 else bif amg s.z9 p then 1 else bif s.z7 then 5 else 0);rw [A55 hc ha p1 p2,B3y s hm];simp only [Option.bind_some];cases prt c p
          · rfl
          · simp only [cond_true,bne];cases (ppt c p==s.u3)<;>cases amg s.z9 p<;>cases s.z7<;>rfl
        · show (bif s.z7 then some 5 else some 0)=some (bif s.z7 then 5 else 0);cases s.z7<;>rfl
        · exact ht (by omega)
        · exact ht (by omega)
        · exact ht (by omega)
        · exact ht (by omega)
        · exact ht (by omega)
        · show ((J5 c s.u3 a).bind fun t_81=>(bif (!t_81) then some 6 else some 0))=some (bif !prv c s.u3 a then 6 else 0);rw [B57 hc ha hp.1 hp.2 g1 g2];cases prv c s.u3 a<;>rfl
        · show (bif ((d.length:Int) !=1) then some 3 else ((J5 c s.u3 a).bind fun t_81=>(bif (!t_81) then some 6 else some 0)))=some (bif ((d.length:Int) !=1) then 3 else bif !prv c s.u3 a then 6 else 0);rw [B57 hc ha hp.1 hp.2 g1 g2];cases ((d.length:Int) !=1)<;>cases prv c s.u3 a<;>rfl
    · refine ⟨3,?_,?_,.inr (.inl ⟨hp,rfl⟩)⟩
      · unfold F5;rw [A9i c hc,ha];simp only [Option.bind_some];rw [show (((!true)||decide (s.u3<0))||decide (s.u3≥(c.r8.length:Int)))=false by simp;omega];unfold A0u;rw [show (decide (k<1)||decide (k≥10))=true by simp;omega];simp only [cond_false,cond_true,Option.bind_some];rw [ByteArray.toList_eq];rfl
      · unfold K4;rw [A43 c hc,ha];simp only [Option.bind_some];rw [show (((!true)||decide (s.u3<0))||decide (s.u3≥(c.r8.length:Int)))=false by simp;omega];simp only [cond_false];have hne:∀n:Int,1≤n→n≤9→(k==n)=false:=fun n h1 h2=>by rw [beq_eq_false_iff_ne];omega
        rw [hne 1 (by omega) (by omega),hne 2 (by omega) (by omega),hne 3 (by omega) (by omega),hne 4 (by omega) (by omega),hne 5 (by omega) (by omega),hne 6 (by omega) (by omega),hne 7 (by omega) (by omega),hne 8 (by omega) (by omega),hne 9 (by omega) (by omega)];rfl
  · refine ⟨4,?_,?_,.inr (.inr ⟨hp,rfl⟩)⟩
    · unfold F5;rw [A9i c hc,ha];simp only [Option.bind_some];rw [show (((!true)||decide (s.u3<0))||decide (s.u3≥(c.r8.length:Int)))=true by simp;omega];rfl
    · unfold K4;rw [A43 c hc,ha];simp only [Option.bind_some];rw [show (((!true)||decide (s.u3<0))||decide (s.u3≥(c.r8.length:Int)))=true by simp;omega];rfl
end Go.Proofs.YtpdflibmhchlbaaGreatDoor
