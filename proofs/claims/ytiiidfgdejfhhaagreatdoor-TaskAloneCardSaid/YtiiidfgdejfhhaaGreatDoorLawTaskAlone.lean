/- The law TaskAlone of the given rows holds for every input. Conditions: none. -/
import Derived.Test.YtiiidfgdejfhhaaGreatDoorRows
import Derived.Test.YtiiidfgdejfhhaaGreatDoorPureTaskAlone
import Derived.WalkKit
import Derived.ProofKit
import Derived.OpenShut
import Derived.ShutString
import Derived.ChangeOld
import Derived.Below
import Derived.SizedLaws
import Derived.Handed
import Derived.LaidLaws
import Derived.LaidMore
namespace Go.Proofs.YtiiidfgdejfhhaaGreatDoor.taskAlone
open Go.ChangeShapes Go.WideShapes Go.ChangeAt Go.RowKit Go.Eng
open Go.ChangeMaps (open_string shut_string)
set_option linter.unusedVariables false
set_option linter.unusedSimpArgs false
theorem own : ownKnob Tryz.prog.godebug = none := by kernel_rfl
theorem laidOut : laidOutB Tryz.prog = true := by kernel_rfl
theorem door_met (os : Os) (args : Array Value) : laidMetH Tryz.prog Rows.taskAloneRow.laid ((World.doorLaid Tryz.prog 400 os).forCall (fun _ _ => 0) ⟨#[], args, []⟩).memory :=
  laidMetH_of_parts3 (fuel := 8) (laidMet_of_run' 8 (by kernel_rfl) (by kernel_rfl)) (by kernel_rfl) (by kernel_rfl)
theorem laid0 {W : World} (h : laidMetH Tryz.prog Rows.taskAloneRow.laid W) : El kd_St257 (fun _ => True) W ⟨0, 0, none⟩ gv0 (svL []) := by
  rw [MakeChecks.laidMetH_plain _ _ _ (by kernel_rfl)] at h
  obtain ⟨ps, ⟨g0, t0, cs0, f0, p0, q0, hg0, ht0, hv0, hd0, _, _⟩, _, _⟩ := h
  obtain rfl := Option.some.inj ((show Tryz.prog.globalNamed "porthole/sign.names" = some 0 from by kernel_rfl).symm.trans hg0)
  obtain rfl := Option.some.inj ((show (Tryz.prog.globals[0]?).map (·.type) = some 257 from by kernel_rfl).symm.trans ht0)
  have key : cs0.toList = kd_St257.cells gv0 (svL []) := strs_of Tryz.underlying257 Tryz.underlying9 ⟨by kernel_rfl, by kernel_rfl⟩ [gv0.e0.data.toList, gv0.e1.data.toList, gv0.e2.data.toList, gv0.e3.data.toList, gv0.e4.data.toList, gv0.e5.data.toList, gv0.e6.data.toList, gv0.e7.data.toList, gv0.e8.data.toList, gv0.e9.data.toList] rfl hd0
  refine ⟨trivial, trivial, fun j v hj => ?_⟩
  rw [← key] at hj
  have e1 := World.var?_cell hg0 hv0 j
  rw [show ((⟨0, 0, none⟩ : Addr).add j) = ⟨0, j, none⟩ by unfold Addr.add; split <;> simp_all, e1, ← Array.getElem?_toList]
  exact hj
set_option maxRecDepth 100000 in
theorem lifted (os : Os) (started : os.Started) (H : Type) (enc : TypeId × Value → H) :
    ReturnsInHanded {} Tryz.checked os 7 .any (fun w args => (Rows.taskAloneSpec.pre enc Tryz.prog Tryz.f7 Rows.taskAloneRow.domain false w args ∧ laidMetH Tryz.prog Rows.taskAloneRow.laid w) ∧ sizedMet enc Tryz.prog Tryz.f7 (OpenSpec.ofChange Rows.taskAloneSpec) false w args) (Rows.taskAloneSpec.post enc Tryz.prog Tryz.f7 false true false false) := by
  refine returnsInHanded_of_change_and (C := Tryz.checked) (X := fun w _ => laidMetH Tryz.prog Rows.taskAloneRow.laid w) (fun _ _ _ hh h => h.of_heap hh) own started (by kernel_rfl) Tryz.func7
    (ChangeSpec.witness_shaped (enc := enc) (C := Tryz.checked) (os := os) (X := fun w _ => laidMetH Tryz.prog Rows.taskAloneRow.laid w) false (World.doorLaid Tryz.prog 400 os) #[.int .u8 0, .int .u32 0] 8 rfl (World.shaped_of_RefB (by kernel_rfl) (by kernel_rfl)) (by kernel_rfl) (by kernel_rfl) (by kernel_rfl) (door_met os _)) ?_
  intro W base args ds gs before hval0 hW hcnd hsz0 hL _
  have hval : ∀ (j : Nat) t v, Tryz.f7.params[j]? = some t → args[j]? = some v → Value.okWide Tryz.prog W .any base t v := hval0
  have hW' := hW
  obtain ⟨p, q, hA0, hV, rfl, hfz, hnd⟩ := hW
  have hA : DataW.TrodAll enc Tryz.prog W 0 (fun _ => true) true Tryz.f7.params.toList args.toList ds p := hA0
  rw [Tryz.params7] at hA hval
  obtain ⟨v0, vs0, d0, ds0, p0, q0, hargs, rfl, rfl, h0, r0⟩ := trodAll_cons hA
  obtain ⟨v1, vs1, d1, ds1, p1, q1, rfl, rfl, rfl, h1, r1⟩ := trodAll_cons r0
  obtain ⟨rfl, rfl, rfl⟩ := trodAll_nil r1
  obtain rfl : args = #[v0, v1] := by cases args; simp_all
  obtain ⟨rfl, rfl⟩ := trodVars_none hV
  obtain ⟨a0, rfl, rfl, rfl, w0⟩ := open_int Tryz.underlying5 (hval 0 5 v0 rfl rfl) h0
  obtain ⟨a1, rfl, rfl, rfl, w1⟩ := open_int Tryz.underlying60 (hval 1 60 v1 rfl rfl) h1
  refine (G_law13_TaskAlone.calls a0 a1  W (laid0 hL) true (pureTaskAlone a0 a1 w0 w1)).mono fun e W' ⟨he, bel⟩ => ?_
  subst he
  exact ⟨_, rfl, _, _, _, [], _, [], hW', trodAll_mk1 (shut_bool Tryz.underlying4 _), (trodAll_cons_mk (shut_int Tryz.underlying5 w0) (trodAll_cons_mk (shut_int Tryz.underlying60 w1) trodAll_mk0)), rfl, bel.frame _, fun h => by cases h⟩
theorem over : Rows.taskAloneRow.holds Tryz.pinned (OpenSpec.ofChange Rows.taskAloneSpec) :=
  OpenClaim.holds_of_wide 7 Tryz.f7 rfl rfl rfl rfl rfl rfl rfl ⟨rfl, rfl, rfl, rfl, rfl⟩ rfl rfl rfl rfl rfl (by kernel_rfl) Tryz.func7 (by kernel_rfl)
    (of_decide_eq_true (by kernel_rfl)) (by unfold Func.isWrapper; first | (rw [if_pos (by decide +kernel)]; kernel_rfl) | (rw [if_neg (by decide +kernel)]; exact ⟨rfl, rfl⟩))
    (fun os started H enc _ => lifted os started H enc)
theorem proved : Rows.TaskAloneSaid := over
#print axioms proved
end Go.Proofs.YtiiidfgdejfhhaaGreatDoor.taskAlone
namespace Go.Proofs.YtiiidfgdejfhhaaGreatDoor
/-- The law TaskAlone holds for every input. -/
theorem taskAlone_holds : Rows.TaskAloneSaid := taskAlone.proved
end Go.Proofs.YtiiidfgdejfhhaaGreatDoor
