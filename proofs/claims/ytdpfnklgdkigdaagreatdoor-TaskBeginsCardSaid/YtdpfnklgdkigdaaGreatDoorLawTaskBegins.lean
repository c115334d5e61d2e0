/- The law TaskBegins of the given rows holds for every input. Conditions: none. -/
import Derived.Test.YtdpfnklgdkigdaaGreatDoorRows
import Derived.Test.YtdpfnklgdkigdaaGreatDoorPureTaskBegins
import Derived.WalkKit
import Derived.ProofKit
import Derived.OpenShut
import Derived.ShutString
import Derived.ChangeOld
import Derived.Below
import Derived.SizedLaws
import Derived.Handed
import Derived.LaidLaws
import Derived.LaidMore
namespace Go.Proofs.YtdpfnklgdkigdaaGreatDoor.taskBegins
open Go.ChangeShapes Go.WideShapes Go.ChangeAt Go.RowKit Go.Eng
open Go.ChangeMaps (open_string shut_string)
set_option linter.unusedVariables false
set_option linter.unusedSimpArgs false
theorem own:ownKnob Tryz.prog.godebug=none:=by kernel_rfl
theorem laidOut:laidOutB Tryz.prog=true:=by kernel_rfl
theorem door_met(os:Os)(args:Array Value):laidMetH Tryz.prog Rows.taskBeginsRow.laid ((World.doorLaid Tryz.prog 400 os).forCall (fun _ _=>0) ⟨#[],args,[]⟩).memory:=
  laidMetH_of_parts3 (fuel:=8) (laidMet_of_run' 8 (by kernel_rfl) (by kernel_rfl)) (by kernel_rfl) (by kernel_rfl)
theorem laid0{W:World}(h:laidMetH Tryz.prog Rows.taskBeginsRow.laid W):El kd_St135 (fun _=>True) W ⟨0,0,none⟩ gv0 (svL []):=by
  rw [MakeChecks.laidMetH_plain _ _ _ (by kernel_rfl)] at h;obtain ⟨ps,⟨g0,t0,cs0,f0,p0,q0,hg0,ht0,hv0,hd0,_,_⟩,_,_⟩:=h;obtain rfl:=Option.some.inj ((show Tryz.prog.globalNamed "porthole/sign.names" =some 0 from by kernel_rfl).symm.trans hg0);obtain rfl:=Option.some.inj ((show (Tryz.prog.globals[0]?).map (·.type)=some 135 from by kernel_rfl).symm.trans ht0);have key:cs0.toList=kd_St135.cells gv0 (svL []):=strs_of Tryz.underlying135 Tryz.underlying9 ⟨by kernel_rfl,by kernel_rfl⟩ [gv0.e0.data.toList,gv0.e1.data.toList,gv0.e2.data.toList,gv0.e3.data.toList,gv0.e4.data.toList,gv0.e5.data.toList,gv0.e6.data.toList,gv0.e7.data.toList,gv0.e8.data.toList,gv0.e9.data.toList] rfl hd0;refine ⟨trivial,trivial,fun j v hj=>?_⟩;rw [← key] at hj;have e1:=World.var?_cell hg0 hv0 j;rw [show ((⟨0,0,none⟩:Addr).add j)=⟨0,j,none⟩ by unfold Addr.add;split<;>simp_all,e1,← Array.getElem?_toList];exact hj
set_option maxRecDepth 100000 in
theorem lifted(os:Os)(started:os.Started)(H:Type)(enc:TypeId×Value→H):
    ReturnsInHanded {} Tryz.checked os 3 .any (fun w args=>(Rows.taskBeginsSpec.pre enc Tryz.prog Tryz.f3 Rows.taskBeginsRow.domain false w args∧laidMetH Tryz.prog Rows.taskBeginsRow.laid w)∧sizedMet enc Tryz.prog Tryz.f3 (OpenSpec.ofChange Rows.taskBeginsSpec) false w args) (Rows.taskBeginsSpec.post enc Tryz.prog Tryz.f3 false true false false):=by
  refine returnsInHanded_of_change_and (C:=Tryz.checked) (X:=fun w _=>laidMetH Tryz.prog Rows.taskBeginsRow.laid w) (fun _ _ _ hh h=>h.of_heap hh) own started (by kernel_rfl) Tryz.func3
    (ChangeSpec.witness_shaped (enc:=enc) (C:=Tryz.checked) (os:=os) (X:=fun w _=>laidMetH Tryz.prog Rows.taskBeginsRow.laid w) false (World.doorLaid Tryz.prog 400 os) #[.agg #[.slice none 0 0,.slice none 0 0,.int .i64 0,.slice none 0 0,.int .i64 0,.slice none 0 0],.agg #[.int .i64 0,.bool false,.slice none 0 0,.slice none 0 0],.agg #[.int .i64 0,.int .i64 0,.int .u64 0,.slice none 0 0]] 8 rfl (World.shaped_of_RefB (by kernel_rfl) (by kernel_rfl)) (by kernel_rfl) (by kernel_rfl) (by kernel_rfl) (door_met os _)) ?_
  intro W base args ds gs before hval0 hW hcnd hsz0 hL _;have hval:∀(j:Nat) t v,Tryz.f3.params[j]? =some t→args[j]? =some v→Value.okWide Tryz.prog W .any base t v:=hval0;have hW':=hW;obtain ⟨p,q,hA0,hV,rfl,hfz,hnd⟩:=hW;have hA:DataW.TrodAll enc Tryz.prog W 0 (fun _=>true) true Tryz.f3.params.toList args.toList ds p:=hA0;rw [Tryz.params3] at hA hval;obtain ⟨v0,vs0,d0,ds0,p0,q0,hargs,rfl,rfl,h0,r0⟩:=trodAll_cons hA;obtain ⟨v1,vs1,d1,ds1,p1,q1,rfl,rfl,rfl,h1,r1⟩:=trodAll_cons r0;obtain ⟨v2,vs2,d2,ds2,p2,q2,rfl,rfl,rfl,h2,r2⟩:=trodAll_cons r1;obtain ⟨rfl,rfl,rfl⟩:=trodAll_nil r2;obtain rfl:args= #[v0,v1,v2]:=by cases args;simp_all
  obtain ⟨rfl,rfl⟩:=trodVars_none hV;have k0:=h0;have lt0:∀x∈p0,x.block<W.heap.size:=by obtain ⟨m,hm⟩:=k0;exact DataW.trod_lt m _ _ _ hm
  obtain ⟨x0,sv0,hc0,hx0,w0⟩:=Opn.arg op_Config h0;obtain rfl:=agg_arg2 (okWide_struct Tryz.underlying29 (hval 0 29 v0 rfl rfl)) hc0;have k1:=h1;have lt1:∀x∈p1,x.block<W.heap.size:=by obtain ⟨m,hm⟩:=k1;exact DataW.trod_lt m _ _ _ hm
  obtain ⟨x1,sv1,hc1,hx1,w1⟩:=Opn.arg op_Standing h1;obtain rfl:=agg_arg2 (okWide_struct Tryz.underlying32 (hval 1 32 v1 rfl rfl)) hc1;have k2:=h2;have lt2:∀x∈p2,x.block<W.heap.size:=by obtain ⟨m,hm⟩:=k2;exact DataW.trod_lt m _ _ _ hm
  obtain ⟨x2,sv2,hc2,hx2,w2⟩:=Opn.arg op_Request h2;obtain rfl:=agg_arg2 (okWide_struct Tryz.underlying36 (hval 2 36 v2 rfl rfl)) hc2;refine (G_law13_TaskBegins.calls x0 x1 x2 sv0 sv1 sv2 W hx0 hx1 hx2 (laid0 hL) true (pureTaskBegins x0 x1 x2 w0 w1 w2)).mono fun e W' ⟨he,bel⟩=>?_;subst he;exact ⟨_,rfl,_,_,_,[],_,[],hW',trodAll_mk1 (shut_bool Tryz.underlying4 _),(trodAll_cons_mk (Below.trod laidOut (by kernel_rfl) (of_decide_eq_true (by kernel_rfl)) k0 bel lt0) (trodAll_cons_mk (Below.trod laidOut (by kernel_rfl) (of_decide_eq_true (by kernel_rfl)) k1 bel lt1) (trodAll_cons_mk (Below.trod laidOut (by kernel_rfl) (of_decide_eq_true (by kernel_rfl)) k2 bel lt2) trodAll_mk0))),rfl,bel.frame _,fun h=>by cases h⟩
theorem over:Rows.taskBeginsRow.holds Tryz.pinned (OpenSpec.ofChange Rows.taskBeginsSpec):=
  OpenClaim.holds_of_wide 3 Tryz.f3 rfl rfl rfl rfl rfl rfl rfl ⟨rfl,rfl,rfl,rfl,rfl⟩ rfl rfl rfl rfl rfl (by kernel_rfl) Tryz.func3 (by kernel_rfl)
    (of_decide_eq_true (by kernel_rfl)) (by unfold Func.isWrapper;first | (rw [if_pos (by decide+kernel)];kernel_rfl) | (rw [if_neg (by decide+kernel)];exact ⟨rfl,rfl⟩))
    (fun os started H enc _=>lifted os started H enc)
theorem proved:Rows.TaskBeginsSaid:=over
#print axioms proved
end Go.Proofs.YtdpfnklgdkigdaaGreatDoor.taskBegins
namespace Go.Proofs.YtdpfnklgdkigdaaGreatDoor
/-- The law TaskBegins holds for every input. -/
theorem taskBegins_holds:Rows.TaskBeginsSaid:=taskBegins.proved
end Go.Proofs.YtdpfnklgdkigdaaGreatDoor
