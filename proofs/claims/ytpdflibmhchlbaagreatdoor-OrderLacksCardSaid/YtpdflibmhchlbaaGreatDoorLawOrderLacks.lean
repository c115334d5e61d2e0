/- The law OrderLacks of the given rows holds for every input. Conditions: none. -/
import Derived.Test.YtpdflibmhchlbaaGreatDoorRows
import Derived.Test.YtpdflibmhchlbaaGreatDoorPureOrderLacks
import Derived.WalkKit
import Derived.ProofKit
import Derived.OpenShut
import Derived.ShutString
import Derived.ChangeOld
import Derived.Below
import Derived.SizedLaws
import Derived.Handed
import Derived.LaidLaws
import Derived.LaidMore
namespace Go.Proofs.YtpdflibmhchlbaaGreatDoor.orderLacks
open Go.ChangeShapes Go.WideShapes Go.ChangeAt Go.RowKit Go.Eng
open Go.ChangeMaps (open_string shut_string)
set_option linter.unusedVariables false
set_option linter.unusedSimpArgs false
theorem own:ownKnob Tryz.prog.godebug=none:=by kernel_rfl
theorem laidOut:laidOutB Tryz.prog=true:=by kernel_rfl
theorem door_met(os:Os)(args:Array Value):laidMetH Tryz.prog Rows.orderLacksRow.laid ((World.doorLaid Tryz.prog 400 os).forCall (fun _ _=>0) ⟨#[],args,[]⟩).memory:=
  laidMetH_of_parts3 (fuel:=8) (laidMet_of_run' 8 (by kernel_rfl) (by kernel_rfl)) (by kernel_rfl) (by kernel_rfl)
theorem laid1{W:World}(h:laidMetH Tryz.prog Rows.orderLacksRow.laid W):El X7 (fun _=>True) W ⟨1,0,none⟩ gv1 (svL []):=by
  rw [MakeChecks.laidMetH_plain _ _ _ (by kernel_rfl)] at h;obtain ⟨ps,⟨g0,t0,cs0,f0,p0,q0,hg0,ht0,hv0,hd0,_,_⟩,_,_⟩:=h;obtain rfl:=Option.some.inj ((show Tryz.prog.globalNamed "porthole/sign.names" =some 1 from by kernel_rfl).symm.trans hg0);obtain rfl:=Option.some.inj ((show (Tryz.prog.globals[1]?).map (·.type)=some 161 from by kernel_rfl).symm.trans ht0);have key:cs0.toList=X7.cells gv1 (svL []):=B90 Tryz.underlying161 Tryz.underlying9 ⟨by kernel_rfl,by kernel_rfl⟩ [gv1.e0.data.toList,gv1.e1.data.toList,gv1.e2.data.toList,gv1.e3.data.toList,gv1.e4.data.toList,gv1.e5.data.toList,gv1.e6.data.toList,gv1.e7.data.toList,gv1.e8.data.toList,gv1.e9.data.toList] rfl hd0;refine ⟨trivial,trivial,fun j v hj=>?_⟩;rw [← key] at hj;have e1:=World.var?_cell hg0 hv0 j;rw [show ((⟨1,0,none⟩:Addr).add j)=⟨1,j,none⟩ by unfold Addr.add;split<;>simp_all,e1,← Array.getElem?_toList];exact hj
theorem laid0{W:World}(h:laidMetH Tryz.prog Rows.orderLacksRow.laid W):El M1 (fun _=>True) W ⟨0,0,none⟩ gv0 (svL []):=by
  rw [MakeChecks.laidMetH_plain _ _ _ (by kernel_rfl)] at h;obtain ⟨ps,⟨_,_,_,_,_,_,_,_,_,_,⟨g0,t0,cs0,f0,p0,q0,hg0,ht0,hv0,hd0,_,_⟩,_⟩,_,_⟩:=h;obtain rfl:=Option.some.inj ((show Tryz.prog.globalNamed "porthole/order.never" =some 0 from by kernel_rfl).symm.trans hg0);obtain rfl:=Option.some.inj ((show (Tryz.prog.globals[0]?).map (·.type)=some 126 from by kernel_rfl).symm.trans ht0);have key:cs0.toList=M1.cells gv0 (svL []):=B9i Tryz.underlying126 Tryz.underlying3 Tryz.underlying3 ⟨rfl,rfl,by kernel_rfl,by kernel_rfl,by kernel_rfl⟩ (-1) (-1) hd0;refine ⟨trivial,trivial,fun j v hj=>?_⟩;rw [← key] at hj;have e1:=World.var?_cell hg0 hv0 j;rw [show ((⟨0,0,none⟩:Addr).add j)=⟨0,j,none⟩ by unfold Addr.add;split<;>simp_all,e1,← Array.getElem?_toList];exact hj
set_option maxRecDepth 100000 in
theorem lifted(os:Os)(started:os.Started)(H:Type)(enc:TypeId×Value→H):
    ReturnsInHanded {} Tryz.checked os 4 .any (fun w args=>(Rows.orderLacksSpec.pre enc Tryz.prog Tryz.f4 Rows.orderLacksRow.domain false w args∧laidMetH Tryz.prog Rows.orderLacksRow.laid w)∧sizedMet enc Tryz.prog Tryz.f4 (OpenSpec.ofChange Rows.orderLacksSpec) false w args) (Rows.orderLacksSpec.post enc Tryz.prog Tryz.f4 false true false false):=by
  refine returnsInHanded_of_change_and (C:=Tryz.checked) (X:=fun w _=>laidMetH Tryz.prog Rows.orderLacksRow.laid w) (fun _ _ _ hh h=>h.of_heap hh) own started (by kernel_rfl) Tryz.func4
    (ChangeSpec.witness_shaped (enc:=enc) (C:=Tryz.checked) (os:=os) (X:=fun w _=>laidMetH Tryz.prog Rows.orderLacksRow.laid w) false (World.doorLaid Tryz.prog 400 os) #[.agg #[.slice none 0 0,.slice none 0 0,.int .i64 0,.slice none 0 0,.int .i64 0,.slice none 0 0,.slice none 0 0,.slice none 0 0],.slice none 0 0,.int .u8 0] 8 rfl (World.shaped_of_RefB (by kernel_rfl) (by kernel_rfl)) (by kernel_rfl) (by kernel_rfl) (by kernel_rfl) (door_met os _)) ?_
  intro W base args ds gs before hval0 hW hcnd hsz0 hL _;have hval:∀(j:Nat) t v,Tryz.f4.params[j]? =some t→args[j]? =some v→Value.okWide Tryz.prog W .any base t v:=hval0;have hW':=hW;obtain ⟨p,q,hA0,hV,rfl,hfz,hnd⟩:=hW;have hA:DataW.TrodAll enc Tryz.prog W 0 (fun _=>true) true Tryz.f4.params.toList args.toList ds p:=hA0;rw [Tryz.params4] at hA hval;obtain ⟨v0,vs0,d0,ds0,p0,q0,hargs,rfl,rfl,h0,r0⟩:=trodAll_cons hA;obtain ⟨v1,vs1,d1,ds1,p1,q1,rfl,rfl,rfl,h1,r1⟩:=trodAll_cons r0;obtain ⟨v2,vs2,d2,ds2,p2,q2,rfl,rfl,rfl,h2,r2⟩:=trodAll_cons r1;obtain ⟨rfl,rfl,rfl⟩:=trodAll_nil r2;obtain rfl:args= #[v0,v1,v2]:=by cases args;simp_all
  obtain ⟨rfl,rfl⟩:=trodVars_none hV;have k0:=h0;have lt0:∀x∈p0,x.block<W.heap.size:=by obtain ⟨m,hm⟩:=k0;exact DataW.trod_lt m _ _ _ hm
  obtain ⟨x0,sv0,hc0,hx0,w0⟩:=Opn.arg A5c h0;obtain rfl:=B64 (okWide_struct Tryz.underlying33 (hval 0 33 v0 rfl rfl)) hc0;have k1:=h1;have lt1:∀x∈p1,x.block<W.heap.size:=by obtain ⟨m,hm⟩:=k1;exact DataW.trod_lt m _ _ _ hm
  obtain ⟨b1,n1,m1,rfl⟩:=okWide_slice Tryz.underlying34 (hval 1 34 v1 rfl rfl);obtain ⟨x1,sv1,hc1,hx1,w1⟩:=Opn.arg (Opn.slice B9o Tryz.underlying34 (by kernel_rfl)) h1;simp only [Value.cells,Kd.slice,List.cons.injEq,Value.slice.injEq,and_true] at hc1;obtain ⟨rfl,rfl,rfl⟩:=hc1;obtain ⟨a2,rfl,rfl,rfl,w2⟩:=open_int Tryz.underlying5 (hval 2 5 v2 rfl rfl) h2;refine (T8.calls x0 x1 a2 sv0 (sv1 0).1 (sv1 0).2 W hx0 hx1.1 hx1.2 (laid0 hL) (laid1 hL) true (B0c x0 x1 a2 w0 w1 w2)).mono fun e W' ⟨he,bel⟩=>?_;subst he;exact ⟨_,rfl,_,_,_,[],_,[],hW',trodAll_mk1 (shut_bool Tryz.underlying4 _),(trodAll_cons_mk (Below.trod laidOut (by kernel_rfl) (of_decide_eq_true (by kernel_rfl)) k0 bel lt0) (trodAll_cons_mk (Below.trod laidOut (by kernel_rfl) (of_decide_eq_true (by kernel_rfl)) k1 bel lt1) (trodAll_cons_mk (shut_int Tryz.underlying5 w2) trodAll_mk0))),rfl,bel.frame _,fun h=>by cases h⟩
theorem over:Rows.orderLacksRow.holds Tryz.pinned (OpenSpec.ofChange Rows.orderLacksSpec):=
  OpenClaim.holds_of_wide 4 Tryz.f4 rfl rfl rfl rfl rfl rfl rfl ⟨rfl,rfl,rfl,rfl,rfl⟩ rfl rfl rfl rfl rfl (by kernel_rfl) Tryz.func4 (by kernel_rfl)
    (of_decide_eq_true (by kernel_rfl)) (by unfold Func.isWrapper;first | (rw [if_pos (by decide+kernel)];kernel_rfl) | (rw [if_neg (by decide+kernel)];exact ⟨rfl,rfl⟩))
    (fun os started H enc _=>lifted os started H enc)
theorem proved:Rows.OrderLacksSaid:=over
#print axioms proved
end Go.Proofs.YtpdflibmhchlbaaGreatDoor.orderLacks
namespace Go.Proofs.YtpdflibmhchlbaaGreatDoor
theorem orderLacks_holds:Rows.OrderLacksSaid:=orderLacks.proved
end Go.Proofs.YtpdflibmhchlbaaGreatDoor
