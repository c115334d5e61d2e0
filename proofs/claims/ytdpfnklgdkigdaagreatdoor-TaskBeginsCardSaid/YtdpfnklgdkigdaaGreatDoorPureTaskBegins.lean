/- Plain law: any request at any standing is answered as it begins, or begins, as the document says. Conditions: none. -/
import Derived.Test.YtdpfnklgdkigdaaGreatDoorPBeg
set_option linter.unusedVariables false
set_option linter.unusedSimpArgs false
namespace Go.Proofs.YtdpfnklgdkigdaaGreatDoor
open Go Go.RowKit Go.Eng
theorem same_self(a:Answer)(h:a.Data=[]):G_ref11_SameAnswer a a=some true:=by
  obtain ⟨c,d,v,n⟩:=a;simp only at h;subst h;unfold G_ref11_SameAnswer;simp only [bne_self_eq_false,Bool.false_or,show (!(v==v))=false by cases v<;>rfl,cond_false];rw [loopω_eq];unfold G_ref11_SameAnswer.b1;rfl
def c0:Config:=(⟨([(⟨0,2⟩:Part),(⟨1,0⟩:Part)]:List Part),([(⟨1,0,1,3,0,0,0⟩:Chan)]:List Chan),(⟨(⟨1,([(⟨0,0,1⟩:Window)]:List Window)⟩:Frame),(⟨1,([(⟨1,0,1⟩:Window)]:List Window)⟩:Frame)⟩:St27)⟩:Config)
def s0:Standing:=⟨0,false,[],[]⟩
theorem wf0:wfc c0:=by unfold wfc;simp only [c0,maxLen];decide
theorem acc0:acc c0=true:=by decide
theorem ref1_0:G_sign_Refused c0 s0 ⟨1,0,0,[]⟩=some 0:=by
  rw [sref_rows wf0 acc0 (s:=s0) (r:=⟨1,0,0,[]⟩) (by decide) (by decide) (by decide) (by decide) (by decide) (by decide) (by decide) (by decide)];exact congrArg some ((srow_1 c0 s0 0 0 []).trans (by decide))
theorem ref8_0:G_sign_Refused c0 s0 ⟨8,0,1,[]⟩=some 0:=by
  rw [sref_rows wf0 acc0 (s:=s0) (r:=⟨8,0,1,[]⟩) (by decide) (by decide) (by decide) (by decide) (by decide) (by decide) (by decide) (by decide)];exact congrArg some ((srow_8 c0 s0 0 1 []).trans (by decide))
theorem beg1_0:G_task_Begin c0 s0 0 ⟨1,0,0,[]⟩=some (none,okAns,true):=by
  unfold G_task_Begin;rw [ref1_0];show ((G_sign_Port c0 0).bind fun t_24=>some Fn65.nil).bind _=_;rw [sport_eq wf0 acc0 (by decide) (by decide)];rfl
theorem beg8_0:G_task_Begin c0 s0 0 ⟨8,0,1,[]⟩=some (some ⟨⟨.t113 ⟨1,[]⟩,1,false⟩,0⟩,okAns,false):=by
  unfold G_task_Begin;rw [ref8_0];rfl
theorem size0:G_ref08_Size c0=some 26:=by
  unfold G_ref08_Size;rw [racc_eq c0 wf0,acc0];show ((G_ref08_before c0 ((1:Nat):Int)).bind fun t_10=>some t_10)=_;rw [before_eq wf0 (accS acc0) 1 (by decide)];exact congrArg some (by decide)
theorem wakes_eq:G_law13_wakes=some true:=by
  unfold G_law13_wakes;show ((G_task_Begin c0 s0 0 ⟨1,0,0,[]⟩).bind _)=_;rw [beg1_0];show ((G_task_Begin c0 s0 0 ⟨8,0,1,[]⟩).bind _)=_;rw [beg8_0];show ((G_ref08_Size c0).bind _)=_;rw [size0];rfl
theorem pureTaskBegins(x0:Config)(x1:Standing)(x2:Request)(h0:wf_Config x0)(h1:wf_Standing x1)(h2:wf_Request x2):G_law13_TaskBegins x0 x1 x2=some true:=by
  unfold G_law13_TaskBegins;rw [wakes_eq];simp only [Option.bind_some,Bool.not_true,cond_false];have hc:=wfc_of h0;have hgr:∃b,G_ref06_Great x0=some b:=⟨_,rfl⟩;obtain ⟨b,hb⟩:=hgr;unfold G_law13_great;rw [hb,racc_eq x0 hc];simp only [Option.bind_some];cases b
  · simp only [Bool.not_false,cal_t,Option.bind_some,Bool.false_or];cases ha:acc x0
    · rfl
    · simp only [Bool.not_true,Bool.false_or];cases hl:((decide ((x1.Made.length:Int)>60)||decide ((x1.Valid.length:Int)>60))||decide ((x2.Data.length:Int)>100))
      · simp only [cond_false];simp only [Bool.or_eq_false_iff,decide_eq_false_iff_not] at hl;obtain ⟨op,p,a,d⟩:=x2;have g1:=InK.i64 h2.2.1;have g2:=InK.u64 h2.2.2.1;simp only at hl g1 g2;obtain ⟨t,an,dn,x,e1,e2,e3,e4⟩:=begin_both hc ha (s:=x1) (by omega) (by omega) (k:=op) (p:=p) (a:=a) (d:=d) g1.1 g1.2 g2.1 (by omega) (by omega);rw [e1,e2];simp only [Option.bind_some];rcases e4 with ⟨rfl,rfl,rfl⟩ | ⟨y,z,rfl,rfl,rfl,e5,e6⟩
        · show ((cal true (G_ref11_SameAnswer an an) default).bind _)=_;rw [same_self an e3];rfl
        · simp only [Bool.not_false,cal_t,same_self an e3,Option.bind_some];show ((G_task_Task_Steps y).bind fun t=>(cal (true&&t==1) (G_task_Task_Own y) default).bind fun u=>some (false||t==1&&u==9))=_;rw [e5];show ((G_task_Task_Own y).bind _)=_;rw [e6];rfl
      · rfl
  · rfl
end Go.Proofs.YtdpfnklgdkigdaaGreatDoor
