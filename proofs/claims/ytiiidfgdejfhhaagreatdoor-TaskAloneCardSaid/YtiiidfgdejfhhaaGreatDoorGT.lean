/- Walks of the seat's functions. No statement is proved here. Conditions: none. -/
import Derived.Test.YtiiidfgdejfhhaaGreatDoorGTx3
set_option linter.unusedVariables false
set_option linter.unusedSimpArgs false
set_option maxRecDepth 100000
set_option maxHeartbeats 4000000
namespace Go.Proofs.YtiiidfgdejfhhaaGreatDoor
open Go Go.RowKit Go.Eng Go.Proofs

noncomputable def G_law13_TaskAlone.b1 (a0 : Int) (a1 : Int) (t_3 : Bool) (t_10 : Config) (t_17 : Int) (t_21 : (Option Mem_Mem) × Int) (t_30 : (Option Bell_Set) × Int) (y_40 : Mem_Mem) (y_186 : Bell_Set) (t_273 : (Option Task_Task) × Answer × Bool) (t_285 : (Option Task_Task) × Answer × Bool) (y_296 : Task_Task) (y_314 : Task_Task) (t_346 : Did × Task_Task × Mem_Mem × Bell_Set) (t_361 : Did × Task_Task × Mem_Mem × Bell_Set) (t_371 : (List Int)) (s1 : Int × Bool) : Option (Stp (Int × Bool) (Ex (Int × Bool) (Bool))) := (bif decide (s1.1 < (t_371.length : Int)) then (req (inb s1.1 t_371.length) (bif (((IntKind.u64.wrap s1.1) != (IntKind.u64.wrap (Int.tmod a0 2))) && ((rd t_371 s1.1) != 0)) then some (.out (.ret false)) else some (.next ((IntKind.i64.wrap (s1.1 + 1)), s1.2)))) else some (.out (.brk (s1.1, s1.2))))
noncomputable def G_law13_TaskAlone (a0 : Int) (a1 : Int) : Option (Bool) := ((G_law13_wakes).bind fun t_3 => (bif (!t_3) then some false else ((G_law13_example).bind fun t_10 => ((G_ref08_Size t_10).bind fun t_17 => ((G_mem_New t_17).bind fun t_21 => ((G_bell_New 2).bind fun t_30 => (opt t_21.1 (opt t_30.1 (bif ((((t_21.2 != 0) || (t_30.2 != 0)) || true) || true) then some false else ((G_task_Begin t_10 (⟨0, false, [], []⟩ : Standing) 0 (⟨9, 0, (IntKind.u64.wrap (Int.tmod a0 2)), ([a1] : List Int)⟩ : Request)).bind fun t_62 => ((G_task_Begin t_10 (⟨0, false, [], []⟩ : Standing) 0 (⟨8, 0, (IntKind.u64.wrap (Int.tmod a0 2)), []⟩ : Request)).bind fun t_74 => (opt t_62.1 (opt t_74.1 none (fun y_89 => none)) (fun y_85 => (opt t_74.1 none (fun y_103 => none))))))) (fun y_44 => (bif ((((t_21.2 != 0) || (t_30.2 != 0)) || true) || false) then some false else ((G_task_Begin t_10 (⟨0, false, [], []⟩ : Standing) 0 (⟨9, 0, (IntKind.u64.wrap (Int.tmod a0 2)), ([a1] : List Int)⟩ : Request)).bind fun t_131 => ((G_task_Begin t_10 (⟨0, false, [], []⟩ : Standing) 0 (⟨8, 0, (IntKind.u64.wrap (Int.tmod a0 2)), []⟩ : Request)).bind fun t_143 => (opt t_131.1 (opt t_143.1 none (fun y_158 => none)) (fun y_154 => (opt t_143.1 none (fun y_172 => none))))))))) (fun y_40 => (opt t_30.1 (bif ((((t_21.2 != 0) || (t_30.2 != 0)) || false) || true) then some false else ((G_task_Begin t_10 (⟨0, false, [], []⟩ : Standing) 0 (⟨9, 0, (IntKind.u64.wrap (Int.tmod a0 2)), ([a1] : List Int)⟩ : Request)).bind fun t_204 => ((G_task_Begin t_10 (⟨0, false, [], []⟩ : Standing) 0 (⟨8, 0, (IntKind.u64.wrap (Int.tmod a0 2)), []⟩ : Request)).bind fun t_216 => (opt t_204.1 (opt t_216.1 none (fun y_231 => none)) (fun y_227 => (opt t_216.1 none (fun y_245 => none))))))) (fun y_186 => (bif ((((t_21.2 != 0) || (t_30.2 != 0)) || false) || false) then some false else ((G_task_Begin t_10 (⟨0, false, [], []⟩ : Standing) 0 (⟨9, 0, (IntKind.u64.wrap (Int.tmod a0 2)), ([a1] : List Int)⟩ : Request)).bind fun t_273 => ((G_task_Begin t_10 (⟨0, false, [], []⟩ : Standing) 0 (⟨8, 0, (IntKind.u64.wrap (Int.tmod a0 2)), []⟩ : Request)).bind fun t_285 => (opt t_273.1 (opt t_285.1 none (fun y_300 => none)) (fun y_296 => (opt t_285.1 (bif !(((t_273.2.2 || t_285.2.2) || false) || true) then ((G_task_Task_Step y_296 y_40 y_186 0).bind fun t_322 => (bif ((((t_273.2.2 || t_285.2.2) || false) || true) || (!t_322.1.Done)) then some false else none)) else some false) (fun y_314 => (bif !(((t_273.2.2 || t_285.2.2) || false) || false) then ((G_task_Task_Step y_296 y_40 y_186 0).bind fun t_346 => (bif ((((t_273.2.2 || t_285.2.2) || false) || false) || (!t_346.1.Done)) then some false else ((G_task_Task_Step y_314 t_346.2.2.1 t_346.2.2.2 0).bind fun t_361 => ((G_mem_Mem_Words t_361.2.2.1).bind fun t_371 => ((loopω (G_law13_TaskAlone.b1 a0 a1 t_3 t_10 t_17 t_21 t_30 y_40 y_186 t_273 t_285 y_296 y_314 t_346 t_361 t_371) (0, false)).bind fun o => o.on (fun s1 => (bif t_361.1.Done then ((G_ref02_Same t_361.1.Ans.Data ([a1] : List Int)).bind fun t_408 => some (t_361.1.Done && t_408)) else some false)) (fun r => some r)))))) else some false))))))))))))))))))
theorem G_law13_TaskAlone.calls (a0 : Int) (a1 : Int)  (w : World) {S : Nat → Prop} (hg0 : El kd_St257 S w ⟨0, 0, none⟩ gv0 (svL [])) (r : Bool) (h : G_law13_TaskAlone a0 a1 = some r) :
    Calls Tryz.prog 7 #[.int .u8 a0, .int .u32 a1] w fun e w' => e = .returned (.bool r) ∧ Below w.heap.size w w' := by
  replace hg0 := El.lo hg0
  unfold G_law13_TaskAlone at h
  have H0 := h
  clear h
  refine enter Tryz.func7 rfl [.int .u8 a0, .int .u32 a1] (n := 121) rfl (Nat.le_of_ble_eq_true rfl) (fun a hI => ?_)
  have hF : FOpen Fence.wide := .inl rfl
  have hE := Ep.start w
  refine sr0_ hF hI (s_ [e_ 4 (.bool false), e_ 0 (.int .u8 a0), e_ 1 (.int .u32 a1)] []) (by kernel_rfl) (fun ns_1 a w_2 hI => ?_)
  refine wpIn_seq ?_
  obtain ⟨t_3, hG_4, H0⟩ := bind_some H0
  refine sr_ (orc := [[.bool t_3]]) hF hI (s_ [e_ 21 (.bool (!t_3)), e_ 4 (.bool false), e_ 0 (.int .u8 a0), e_ 1 (.int .u32 a1)] []) [.call true 20 [] (.bool t_3)] (by kernel_rfl) ⟨ob_call (enters Tryz.func20 (by kernel_rfl) rfl) (fun hg wz hk => G_law13_wakes.calls   wz (S := fun _ => True) (El.any (El.keep hg0 (Lo.on hk))) _ hG_4), trivial⟩ (fun ns_5 a w_6 hI => ?_)
  refine cond_ hI ((!t_3)) rfl (fun hc_7 => ?_) (fun hc_7 => ?_)
  ·replace H0 := bif_t hc_7 H0
   refine sr0_ hF hI (s_ [e_ 4 (.bool false)] []) (by kernel_rfl) (fun ns_8 a w_9 hI => ?_)
   refine wpIn_ret ?_
   refine then_ret ?_
   obtain rfl := Option.some.inj H0
   exact ret1 hI rfl rfl ⟨rfl, hE.below hI⟩
  ·replace H0 := bif_f hc_7 H0
   refine wpIn_skip ?_
   refine then_normal ?_
   refine wpIn_seq ?_
   refine wpIn_region_lit ?_
   obtain ⟨hE', hmv, hmr⟩ := Ep.rebase hE hI
   replace hg0 := El.keep hg0 (hmv _)
   replace hE := hE'; replace hI := hI.rebase; clear hE' hmv hmr
   obtain ⟨t_10, hG_11, H0⟩ := bind_some H0
   refine callH_ hF hE hI (wanted_none rfl) rfl (args := []) rfl (enters Tryz.func27 (by kernel_rfl) rfl) (fun sv_12 => .agg ((kd_Config).cells t_10 sv_12).toArray) _ (G_law13_example.calls   w_6 (S := Lo S w w_6 ns_5 [])  _ hG_11) (fun sv_12 => (s_ [e_ 22 (.agg ((kd_Config).cells t_10 sv_12).toArray), e_ 21 (.bool (!t_3)), e_ 4 (.bool false), e_ 0 (.int .u8 a0), e_ 1 (.int .u32 a1)] [])) (fun sv_12 => by kernel_rfl) (fun sv_12 a w_14 hput hE' hI' hmv hmr hres hR => ?_)
   replace hg0 := El.keep hg0 (hmv _)
   replace hE := hE'; replace hI := hI'; clear hE' hI' hmv hmr
   have hR_13 := hR
   replace hR_13 := Kd.keep _ hR_13 (hres _)
   clear hres
   refine ck0_ hF 2 hI (s_ [p_ 5 0 0, e_ 4 (.bool false), e_ 0 (.int .u8 a0), e_ 1 (.int .u32 a1)] [((((kd_Config).cells t_10 sv_12).map EV.v), 29)]) rfl (by kernel_rfl) (fun ns_15 a w_16 hI => ?_)
   refine wpListIn_nil ?_
   refine then_normal ?_
   refine wpIn_seq ?_
   refine wpIn_region_lit ?_
   obtain ⟨t_17, hG_18, H0⟩ := bind_some H0
   refine ck_ (orc := [[.int .i64 t_17]]) hF 2 hI (s_ [e_ 25 (.int .i64 t_17), p_ 5 0 0, e_ 4 (.bool false), e_ 0 (.int .u8 a0), e_ 1 (.int .u32 a1)] [((((kd_Config).cells t_10 sv_12).map EV.v), 29)]) [.call true 29 [.agg ((kd_Config).cells t_10 sv_12).toArray] (.int .i64 t_17)] rfl (by kernel_rfl) ⟨ob_call (enters Tryz.func29 (by kernel_rfl) rfl) (fun hg wz hk => G_ref08_Size.calls t_10 sv_12 wz (S := fun _ => True) (Kd.any _ (Kd.keep kd_Config (contI (S := Lo S w w_14 ns_5 []) (w := w_14) (d := kd_Config) (x := t_10) (sv := sv_12) ⟨⟨hR_13.1.1, hR_13.1.2⟩, ⟨hR_13.2.1.1, hR_13.2.1.2⟩, ⟨hR_13.2.2.1.1, hR_13.2.2.1.2⟩, ⟨hR_13.2.2.2.1.1, hR_13.2.2.2.1.2⟩, trivial⟩) (Lo.on hk))) _ hG_18), trivial⟩ (fun ns_19 a w_20 hI => ?_)
   obtain ⟨hE', hmv, hmr⟩ := Ep.rebase hE hI
   replace hg0 := El.keep hg0 (hmv _)
   replace hR_13 := Kd.keep _ hR_13 (hmv _)
   replace hE := hE'; replace hI := hI.rebase; clear hE' hmv hmr
   obtain ⟨t_21, hG_22, H0⟩ := bind_some H0
   have hbs_24 := hE.k.size
   refine callO_ hF hE hI (wanted_none rfl) rfl (args := [.int .i64 t_17]) rfl (enters Tryz.func28 (by kernel_rfl) rfl) (fun q_23 : SV × (Nat → List Nat) => .tuple #[.pointer ((q_23.1 0).1), .int .i64 t_21.2]) [] (fun q_23 => [q_23.2 0]) _ (G_mem_New.calls t_17  w_20 (S0_ := Lo S w w_20 ns_19 [])  _ hG_22) (.inr (fun b hb => by simp at hb)) (fun q_23 => (s_ [e_ 26 (.tuple #[.pointer ((q_23.1 0).1), .int .i64 t_21.2]), e_ 25 (.int .i64 t_17), p_ 5 0 0, e_ 4 (.bool false), e_ 0 (.int .u8 a0), e_ 1 (.int .u32 a1)] [((((kd_Config).cells t_10 sv_12).map EV.v), 29)])) (fun q_23 => by kernel_rfl) (fun q_23 a w_27 hput hE' hI' hmv hmr hres hR => ?_)
   replace hmv : ∀ S0, Mv (Lo S0 w w_20 ns_19 []) w_20 (Lo S0 w w_27 ns_19 [(q_23.2 0)]) w_27 := hmv
   replace hmr : ∀ b ∈ ([] : List (List Nat)).flatten, w_27.heap[b]? = w_20.heap[b]? := hmr
   replace hE : Ep [] w w_27 ns_19 [(q_23.2 0)] := hE'
   replace hI := hI'
   clear hE' hI'
   replace hg0 := El.keep hg0 (hmv _)
   replace hR_13 := Kd.keep _ hR_13 (hmv _)
   clear hmv hmr
   have hR_25 := hR
   replace hR_25 := OjtN.keep hR_25 (hres _ (fun b hb => by simp at hb)) (fun _ _ => rfl)
   clear hres
   refine ck0_ hF 5 hI (s_ [e_ 7 (.int .i64 t_21.2), e_ 6 (.pointer ((q_23.1 0).1)), p_ 5 0 0, e_ 4 (.bool false), e_ 0 (.int .u8 a0), e_ 1 (.int .u32 a1)] [((((kd_Config).cells t_10 sv_12).map EV.v), 29)]) rfl (by kernel_rfl) (fun ns_28 a w_29 hI => ?_)
   refine wpListIn_nil ?_
   refine then_normal ?_
   refine wpIn_seq ?_
   refine wpIn_region_lit ?_
   obtain ⟨hE', hmv, hmr⟩ := Ep.rebase hE hI
   replace hg0 := El.keep hg0 (hmv _)
   replace hR_13 := Kd.keep _ hR_13 (hmv _)
   replace hR_25 := OjtN.keep hR_25 (hmv _) (fun b hb => hmr b (flat_mem (by simp) hb))
   replace hE := hE'; replace hI := hI.rebase; clear hE' hmv hmr
   obtain ⟨t_30, hG_31, H0⟩ := bind_some H0
   have hbs_33 := hE.k.size
   refine callO_ hF hE hI (wanted_none rfl) rfl (args := [.int .i64 2]) rfl (enters Tryz.func30 (by kernel_rfl) rfl) (fun q_32 : SV × (Nat → List Nat) => .tuple #[.pointer ((q_32.1 0).1), .int .i64 t_30.2]) [] (fun q_32 => [q_32.2 0]) _ (G_bell_New.calls 2  w_29 (S0_ := Lo S w w_29 ns_28 [(q_23.2 0)])  _ hG_31) (.inr (fun b hb => by simp at hb)) (fun q_32 => (s_ [e_ 30 (.tuple #[.pointer ((q_32.1 0).1), .int .i64 t_30.2]), e_ 7 (.int .i64 t_21.2), e_ 6 (.pointer ((q_23.1 0).1)), p_ 5 0 0, e_ 4 (.bool false), e_ 0 (.int .u8 a0), e_ 1 (.int .u32 a1)] [((((kd_Config).cells t_10 sv_12).map EV.v), 29)])) (fun q_32 => by kernel_rfl) (fun q_32 a w_36 hput hE' hI' hmv hmr hres hR => ?_)
   replace hmv : ∀ S0, Mv (Lo S0 w w_29 ns_28 [(q_23.2 0)]) w_29 (Lo S0 w w_36 ns_28 [(q_23.2 0), (q_32.2 0)]) w_36 := hmv
   replace hmr : ∀ b ∈ ([(q_23.2 0)] : List (List Nat)).flatten, w_36.heap[b]? = w_29.heap[b]? := hmr
   replace hE : Ep [] w w_36 ns_28 [(q_23.2 0), (q_32.2 0)] := hE'
   replace hI := hI'
   clear hE' hI'
   replace hg0 := El.keep hg0 (hmv _)
   replace hR_13 := Kd.keep _ hR_13 (hmv _)
   replace hR_25 := OjtN.keep hR_25 (hmv _) (fun b hb => hmr b (flat_mem (by simp) hb))
   clear hmv hmr
   have hR_34 := hR
   replace hR_34 := OjtN.keep hR_34 (hres _ (fun b hb => by simp at hb)) (fun _ _ => rfl)
   clear hres
   refine ck0_ hF 5 hI (s_ [e_ 9 (.int .i64 t_30.2), e_ 8 (.pointer ((q_32.1 0).1)), e_ 7 (.int .i64 t_21.2), e_ 6 (.pointer ((q_23.1 0).1)), p_ 5 0 0, e_ 4 (.bool false), e_ 0 (.int .u8 a0), e_ 1 (.int .u32 a1)] [((((kd_Config).cells t_10 sv_12).map EV.v), 29)]) rfl (by kernel_rfl) (fun ns_37 a w_38 hI => ?_)
   refine wpListIn_nil ?_
   refine then_normal ?_
   refine wpIn_seq ?_
   obtain ⟨hE', hmv, hmr⟩ := Ep.rebase hE hI
   replace hg0 := El.keep hg0 (hmv _)
   replace hR_13 := Kd.keep _ hR_13 (hmv _)
   replace hR_25 := OjtN.keep hR_25 (hmv _) (fun b hb => hmr b (flat_mem (by simp) hb))
   replace hR_34 := OjtN.keep hR_34 (hmv _) (fun b hb => hmr b (flat_mem (by simp) hb))
   replace hE := hE'; replace hI := hI.rebase; clear hE' hmv hmr
   rcases opt_split H0 with ⟨hx_39, H0⟩ | ⟨y_40, hx_39, H0⟩
   ·obtain ⟨hA_42, _⟩ := OjtN.none_of hR_25 hx_39
    replace hI := Inv.cast (σf := fun q_ => (s_ [e_ 9 (.int .i64 t_30.2), e_ 8 (.pointer ((q_32.1 0).1)), e_ 7 (.int .i64 t_21.2), e_ 6 (.pointer q_), p_ 5 0 0, e_ 4 (.bool false), e_ 0 (.int .u8 a0), e_ 1 (.int .u32 a1)] [((((kd_Config).cells t_10 sv_12).map EV.v), 29)])) hA_42 hI
    rcases opt_split H0 with ⟨hx_43, H0⟩ | ⟨y_44, hx_43, H0⟩
    ·obtain ⟨hA_46, _⟩ := OjtN.none_of hR_34 hx_43
     replace hI := Inv.cast (σf := fun q_ => (s_ [e_ 9 (.int .i64 t_30.2), e_ 8 (.pointer q_), e_ 7 (.int .i64 t_21.2), e_ 6 (.pointer none), p_ 5 0 0, e_ 4 (.bool false), e_ 0 (.int .u8 a0), e_ 1 (.int .u32 a1)] [((((kd_Config).cells t_10 sv_12).map EV.v), 29)])) hA_46 hI
     refine sr0_ hF hI (s_ [e_ 46 (.bool ((((t_21.2 != 0) || (t_30.2 != 0)) || true) || true)), e_ 8 (.pointer none), e_ 6 (.pointer none), p_ 5 0 0, e_ 4 (.bool false), e_ 0 (.int .u8 a0), e_ 1 (.int .u32 a1)] [((((kd_Config).cells t_10 sv_12).map EV.v), 29)]) (by kernel_rfl) (fun ns_47 a w_48 hI => ?_)
     refine cond_ hI (((((t_21.2 != 0) || (t_30.2 != 0)) || true) || true)) rfl (fun hc_49 => ?_) (fun hc_49 => ?_)
     ·replace H0 := bif_t hc_49 H0
      refine sr0_ hF hI (s_ [e_ 4 (.bool false)] [((((kd_Config).cells t_10 sv_12).map EV.v), 29)]) (by kernel_rfl) (fun ns_50 a w_51 hI => ?_)
      refine wpIn_ret ?_
      refine then_ret ?_
      obtain rfl := Option.some.inj H0
      exact ret1 hI rfl rfl ⟨rfl, hE.below hI⟩
     ·replace H0 := bif_f hc_49 H0
      refine wpIn_skip ?_
      refine then_normal ?_
      refine sr_ (orc := []) hF hI (s_ [e_ 10 (.int .u64 (IntKind.u64.wrap (Int.tmod a0 2))), e_ 8 (.pointer none), e_ 6 (.pointer none), p_ 5 0 0, e_ 4 (.bool false), e_ 1 (.int .u32 a1)] [((((kd_Config).cells t_10 sv_12).map EV.v), 29)]) [.need true (¬ (2 : Int) = 0)] (by kernel_rfl) ⟨(fun _ => by decide), trivial⟩ (fun ns_52 a w_53 hI => ?_)
      refine wpIn_seq ?_
      refine wpIn_region_lit ?_
      refine ck0_ hF 4 hI (s_ [e_ 54 (.int .u32 a1), e_ 53 (.int .u64 (IntKind.u64.wrap (Int.tmod a0 2))), e_ 52 (.agg #[.int .i64 0, .bool false, .slice none 0 0, .slice none 0 0]), e_ 51 (.agg ((kd_Config).cells t_10 sv_12).toArray), e_ 10 (.int .u64 (IntKind.u64.wrap (Int.tmod a0 2))), e_ 8 (.pointer none), e_ 6 (.pointer none), p_ 5 0 0, e_ 4 (.bool false), e_ 1 (.int .u32 a1)] [((((kd_Config).cells t_10 sv_12).map EV.v), 29)]) rfl (by kernel_rfl) (fun ns_54 a w_55 hI => ?_)
      obtain ⟨hE', hmv, hmr⟩ := Ep.rebase hE hI
      replace hg0 := El.keep hg0 (hmv _)
      replace hR_13 := Kd.keep _ hR_13 (hmv _)
      replace hE := hE'; replace hI := hI.rebase; clear hE' hmv hmr
      refine buildSlice_ (S0 := S) (d := (Kd.int .u32)) (e := 60) hF hE hI (wanted_none rfl) rfl (by kernel_rfl) (cs := [.int .u32 a1]) (by kernel_rfl) [a1] [(svL [])] rfl rfl (by simp [maxLen]) (fun i x hi => by cases i with | zero => (simp only [List.getElem?_cons_zero, Option.some.injEq] at hi; subst hi; exact ⟨trivial, rfl⟩) | succ i => (simp only [List.getElem?_cons_succ] at hi; simp at hi)) (fun A_56 => (s_ [e_ 55 (.slice A_56 ([a1] : List Int).length (([a1] : List Int).length)), e_ 54 (.int .u32 a1), e_ 53 (.int .u64 (IntKind.u64.wrap (Int.tmod a0 2))), e_ 52 (.agg #[.int .i64 0, .bool false, .slice none 0 0, .slice none 0 0]), e_ 51 (.agg ((kd_Config).cells t_10 sv_12).toArray), e_ 10 (.int .u64 (IntKind.u64.wrap (Int.tmod a0 2))), e_ 8 (.pointer none), e_ 6 (.pointer none), p_ 5 0 0, e_ 4 (.bool false), e_ 1 (.int .u32 a1)] [((((kd_Config).cells t_10 sv_12).map EV.v), 29)])) (fun A_56 => by kernel_rfl) (fun A_56 a w_58 hput hE' hI' hmv hmr hq_57 => ?_)
      replace hg0 := El.keep hg0 (hmv _)
      replace hR_13 := Kd.keep _ hR_13 (hmv _)
      replace hE := hE'; replace hI := hI'; clear hE' hI' hmv hmr
      refine ck0_ hF 1 hI (s_ [e_ 56 (.agg #[.int .i64 9, .int .i64 0, .int .u64 (IntKind.u64.wrap (Int.tmod a0 2)), .slice A_56 ([a1] : List Int).length (([a1] : List Int).length)]), e_ 52 (.agg #[.int .i64 0, .bool false, .slice none 0 0, .slice none 0 0]), e_ 51 (.agg ((kd_Config).cells t_10 sv_12).toArray), e_ 10 (.int .u64 (IntKind.u64.wrap (Int.tmod a0 2))), e_ 8 (.pointer none), e_ 6 (.pointer none), p_ 5 0 0, e_ 4 (.bool false), e_ 1 (.int .u32 a1)] [((((kd_Config).cells t_10 sv_12).map EV.v), 29)]) rfl (by kernel_rfl) (fun ns_59 a w_60 hI => ?_)
      obtain ⟨hE', hmv, hmr⟩ := Ep.rebase hE hI
      replace hg0 := El.keep hg0 (hmv _)
      replace hR_13 := Kd.keep _ hR_13 (hmv _)
      replace hq_57 := Row.keep hq_57 (hmv _) (fun b hb => hmr b (by simp [hb]))
      replace hE := hE'; replace hI := hI.rebase; clear hE' hmv hmr
      obtain ⟨hE', hmv, hq_57, hcap_61⟩ := Row.still (l1 := [(q_23.2 0), (q_32.2 0)]) (l2 := []) hq_57 (Nat.le_refl _) hE
      have hmr := hmr_ ([(q_23.2 0), (q_32.2 0), rb A_56] : List (List Nat)) w_60
      replace hg0 := El.keep hg0 (hmv _)
      replace hR_13 := Kd.keep _ hR_13 (hmv _)
      replace hE := hE'
      clear hE' hmv hmr
      obtain ⟨t_62, hG_63, H0⟩ := bind_some H0
      have hbs_65 := hE.k.size
      refine callO_ hF hE hI (wanted_none rfl) rfl (args := [.agg ((kd_Config).cells t_10 sv_12).toArray, .agg ((kd_Standing).cells (⟨0, false, [], []⟩ : Standing) (svL [(none, 0), (none, 0)])).toArray, .int .u32 0, .agg ((kd_Request).cells (⟨9, 0, (IntKind.u64.wrap (Int.tmod a0 2)), ([a1] : List Int)⟩ : Request) (svL [(A_56, ([a1] : List Int).length)])).toArray]) rfl (enters Tryz.func22 (by kernel_rfl) rfl) (fun q_64 : SV × (Nat → List Nat) => .tuple #[.pointer ((q_64.1 0).1), .agg ((kd_Answer).cells t_62.2.1 (svO q_64.1 1)).toArray, .bool t_62.2.2]) [] (fun q_64 => [q_64.2 0]) _ (G_task_Begin.calls t_10 (⟨0, false, [], []⟩ : Standing) 0 (⟨9, 0, (IntKind.u64.wrap (Int.tmod a0 2)), ([a1] : List Int)⟩ : Request) sv_12 (svL [(none, 0), (none, 0)]) (svL [(A_56, ([a1] : List Int).length)]) w_60 (S0_ := Lo S w w_60 ns_59 [(q_23.2 0), (q_32.2 0)]) (contI (S := Lo S w w_60 ns_59 [(q_23.2 0), (q_32.2 0)]) (w := w_60) (d := kd_Config) (x := t_10) (sv := sv_12) ⟨⟨hR_13.1.1, hR_13.1.2⟩, ⟨hR_13.2.1.1, hR_13.2.1.2⟩, ⟨hR_13.2.2.1.1, hR_13.2.2.1.2⟩, ⟨hR_13.2.2.2.1.1, hR_13.2.2.2.1.2⟩, trivial⟩) (contI (S := Lo S w w_60 ns_59 [(q_23.2 0), (q_32.2 0)]) (w := w_60) (d := kd_Standing) (x := (⟨0, false, [], []⟩ : Standing)) (sv := (svL [(none, 0), (none, 0)])) ⟨⟨(Arr.nil _ _ _ _), (Nat.le_refl _)⟩, ⟨(Arr.nil _ _ _ _), (Nat.le_refl _)⟩, trivial⟩) (contI (S := Lo S w w_60 ns_59 [(q_23.2 0), (q_32.2 0)]) (w := w_60) (d := kd_Request) (x := (⟨9, 0, (IntKind.u64.wrap (Int.tmod a0 2)), ([a1] : List Int)⟩ : Request)) (sv := (svL [(A_56, ([a1] : List Int).length)])) ⟨⟨hq_57, hcap_61⟩, trivial⟩) hg0 _ hG_63) (.inr (fun b hb => by simp at hb)) (fun q_64 => (s_ [e_ 57 (.tuple #[.pointer ((q_64.1 0).1), .agg ((kd_Answer).cells t_62.2.1 (svO q_64.1 1)).toArray, .bool t_62.2.2]), e_ 56 (.agg ((kd_Request).cells (⟨9, 0, (IntKind.u64.wrap (Int.tmod a0 2)), ([a1] : List Int)⟩ : Request) (svL [(A_56, ([a1] : List Int).length)])).toArray), e_ 52 (.agg ((kd_Standing).cells (⟨0, false, [], []⟩ : Standing) (svL [(none, 0), (none, 0)])).toArray), e_ 51 (.agg ((kd_Config).cells t_10 sv_12).toArray), e_ 10 (.int .u64 (IntKind.u64.wrap (Int.tmod a0 2))), e_ 8 (.pointer none), e_ 6 (.pointer none), p_ 5 0 0, e_ 4 (.bool false), e_ 1 (.int .u32 a1)] [((((kd_Config).cells t_10 sv_12).map EV.v), 29)])) (fun q_64 => by kernel_rfl) (fun q_64 a w_69 hput hE' hI' hmv hmr hres hR => ?_)
      replace hmv : ∀ S0, Mv (Lo S0 w w_60 ns_59 [(q_23.2 0), (q_32.2 0)]) w_60 (Lo S0 w w_69 ns_59 [(q_23.2 0), (q_32.2 0), (q_64.2 0)]) w_69 := hmv
      replace hmr : ∀ b ∈ ([(q_23.2 0), (q_32.2 0)] : List (List Nat)).flatten, w_69.heap[b]? = w_60.heap[b]? := hmr
      replace hE : Ep [] w w_69 ns_59 [(q_23.2 0), (q_32.2 0), (q_64.2 0)] := hE'
      replace hI := hI'
      clear hE' hI'
      replace hg0 := El.keep hg0 (hmv _)
      replace hR_13 := Kd.keep _ hR_13 (hmv _)
      replace hq_57 := Arr.keep hq_57 (hmv _)
      clear hmv hmr
      obtain ⟨hR_66, hR_67⟩ := hR
      replace hR_66 := OjtN.keep hR_66 (hres _ (fun b hb => by simp at hb)) (fun _ _ => rfl)
      replace hR_67 := Kd.keep _ hR_67 (hres _ (fun b hb => by simp at hb))
      clear hres
      refine ck0_ hF 8 hI (s_ [e_ 13 (.bool t_62.2.2), e_ 11 (.pointer ((q_64.1 0).1)), e_ 10 (.int .u64 (IntKind.u64.wrap (Int.tmod a0 2))), e_ 8 (.pointer none), e_ 6 (.pointer none), p_ 5 0 0, e_ 4 (.bool false), e_ 1 (.int .u32 a1)] [((((kd_Config).cells t_10 sv_12).map EV.v), 29), ((((kd_Answer).cells t_62.2.1 (svO q_64.1 1)).map EV.v), 48)]) rfl (by kernel_rfl) (fun ns_70 a w_71 hI => ?_)
      refine wpListIn_nil ?_
      refine then_normal ?_
      refine wpIn_seq ?_
      refine wpIn_region_lit ?_
      refine ck0_ hF 4 hI (s_ [e_ 65 (.agg #[.int .i64 8, .int .i64 0, .int .u64 (IntKind.u64.wrap (Int.tmod a0 2)), .slice none 0 0]), e_ 63 (.agg #[.int .i64 0, .bool false, .slice none 0 0, .slice none 0 0]), e_ 62 (.agg ((kd_Config).cells t_10 sv_12).toArray), e_ 13 (.bool t_62.2.2), e_ 11 (.pointer ((q_64.1 0).1)), e_ 10 (.int .u64 (IntKind.u64.wrap (Int.tmod a0 2))), e_ 8 (.pointer none), e_ 6 (.pointer none), e_ 4 (.bool false), e_ 1 (.int .u32 a1)] [((((kd_Config).cells t_10 sv_12).map EV.v), 29), ((((kd_Answer).cells t_62.2.1 (svO q_64.1 1)).map EV.v), 48)]) rfl (by kernel_rfl) (fun ns_72 a w_73 hI => ?_)
      obtain ⟨hE', hmv, hmr⟩ := Ep.rebase hE hI
      replace hg0 := El.keep hg0 (hmv _)
      replace hR_13 := Kd.keep _ hR_13 (hmv _)
      replace hq_57 := Arr.keep hq_57 (hmv _)
      replace hR_66 := OjtN.keep hR_66 (hmv _) (fun b hb => hmr b (flat_mem (by simp) hb))
      replace hR_67 := Kd.keep _ hR_67 (hmv _)
      replace hE := hE'; replace hI := hI.rebase; clear hE' hmv hmr
      obtain ⟨t_74, hG_75, H0⟩ := bind_some H0
      have hbs_77 := hE.k.size
      refine callO_ hF hE hI (wanted_none rfl) rfl (args := [.agg ((kd_Config).cells t_10 sv_12).toArray, .agg ((kd_Standing).cells (⟨0, false, [], []⟩ : Standing) (svL [(none, 0), (none, 0)])).toArray, .int .u32 0, .agg ((kd_Request).cells (⟨8, 0, (IntKind.u64.wrap (Int.tmod a0 2)), []⟩ : Request) (svL [(none, 0)])).toArray]) rfl (enters Tryz.func22 (by kernel_rfl) rfl) (fun q_76 : SV × (Nat → List Nat) => .tuple #[.pointer ((q_76.1 0).1), .agg ((kd_Answer).cells t_74.2.1 (svO q_76.1 1)).toArray, .bool t_74.2.2]) [] (fun q_76 => [q_76.2 0]) _ (G_task_Begin.calls t_10 (⟨0, false, [], []⟩ : Standing) 0 (⟨8, 0, (IntKind.u64.wrap (Int.tmod a0 2)), []⟩ : Request) sv_12 (svL [(none, 0), (none, 0)]) (svL [(none, 0)]) w_73 (S0_ := Lo S w w_73 ns_72 [(q_23.2 0), (q_32.2 0), (q_64.2 0)]) (contI (S := Lo S w w_73 ns_72 [(q_23.2 0), (q_32.2 0), (q_64.2 0)]) (w := w_73) (d := kd_Config) (x := t_10) (sv := sv_12) ⟨⟨hR_13.1.1, hR_13.1.2⟩, ⟨hR_13.2.1.1, hR_13.2.1.2⟩, ⟨hR_13.2.2.1.1, hR_13.2.2.1.2⟩, ⟨hR_13.2.2.2.1.1, hR_13.2.2.2.1.2⟩, trivial⟩) (contI (S := Lo S w w_73 ns_72 [(q_23.2 0), (q_32.2 0), (q_64.2 0)]) (w := w_73) (d := kd_Standing) (x := (⟨0, false, [], []⟩ : Standing)) (sv := (svL [(none, 0), (none, 0)])) ⟨⟨(Arr.nil _ _ _ _), (Nat.le_refl _)⟩, ⟨(Arr.nil _ _ _ _), (Nat.le_refl _)⟩, trivial⟩) (contI (S := Lo S w w_73 ns_72 [(q_23.2 0), (q_32.2 0), (q_64.2 0)]) (w := w_73) (d := kd_Request) (x := (⟨8, 0, (IntKind.u64.wrap (Int.tmod a0 2)), []⟩ : Request)) (sv := (svL [(none, 0)])) ⟨⟨(Arr.nil _ _ _ _), (Nat.le_refl _)⟩, trivial⟩) hg0 _ hG_75) (.inr (fun b hb => by simp at hb)) (fun q_76 => (s_ [e_ 66 (.tuple #[.pointer ((q_76.1 0).1), .agg ((kd_Answer).cells t_74.2.1 (svO q_76.1 1)).toArray, .bool t_74.2.2]), e_ 65 (.agg ((kd_Request).cells (⟨8, 0, (IntKind.u64.wrap (Int.tmod a0 2)), []⟩ : Request) (svL [(none, 0)])).toArray), e_ 63 (.agg ((kd_Standing).cells (⟨0, false, [], []⟩ : Standing) (svL [(none, 0), (none, 0)])).toArray), e_ 62 (.agg ((kd_Config).cells t_10 sv_12).toArray), e_ 13 (.bool t_62.2.2), e_ 11 (.pointer ((q_64.1 0).1)), e_ 10 (.int .u64 (IntKind.u64.wrap (Int.tmod a0 2))), e_ 8 (.pointer none), e_ 6 (.pointer none), e_ 4 (.bool false), e_ 1 (.int .u32 a1)] [((((kd_Config).cells t_10 sv_12).map EV.v), 29), ((((kd_Answer).cells t_62.2.1 (svO q_64.1 1)).map EV.v), 48)])) (fun q_76 => by kernel_rfl) (fun q_76 a w_81 hput hE' hI' hmv hmr hres hR => ?_)
      replace hmv : ∀ S0, Mv (Lo S0 w w_73 ns_72 [(q_23.2 0), (q_32.2 0), (q_64.2 0)]) w_73 (Lo S0 w w_81 ns_72 [(q_23.2 0), (q_32.2 0), (q_64.2 0), (q_76.2 0)]) w_81 := hmv
      replace hmr : ∀ b ∈ ([(q_23.2 0), (q_32.2 0), (q_64.2 0)] : List (List Nat)).flatten, w_81.heap[b]? = w_73.heap[b]? := hmr
      replace hE : Ep [] w w_81 ns_72 [(q_23.2 0), (q_32.2 0), (q_64.2 0), (q_76.2 0)] := hE'
      replace hI := hI'
      clear hE' hI'
      replace hg0 := El.keep hg0 (hmv _)
      replace hR_13 := Kd.keep _ hR_13 (hmv _)
      replace hq_57 := Arr.keep hq_57 (hmv _)
      replace hR_66 := OjtN.keep hR_66 (hmv _) (fun b hb => hmr b (flat_mem (by simp) hb))
      replace hR_67 := Kd.keep _ hR_67 (hmv _)
      clear hmv hmr
      obtain ⟨hR_78, hR_79⟩ := hR
      replace hR_78 := OjtN.keep hR_78 (hres _ (fun b hb => by simp at hb)) (fun _ _ => rfl)
      replace hR_79 := Kd.keep _ hR_79 (hres _ (fun b hb => by simp at hb))
      clear hres
      refine ck0_ hF 8 hI (s_ [e_ 16 (.bool t_74.2.2), e_ 14 (.pointer ((q_76.1 0).1)), e_ 13 (.bool t_62.2.2), e_ 11 (.pointer ((q_64.1 0).1)), e_ 10 (.int .u64 (IntKind.u64.wrap (Int.tmod a0 2))), e_ 8 (.pointer none), e_ 6 (.pointer none), e_ 4 (.bool false), e_ 1 (.int .u32 a1)] [((((kd_Config).cells t_10 sv_12).map EV.v), 29), ((((kd_Answer).cells t_62.2.1 (svO q_64.1 1)).map EV.v), 48), ((((kd_Answer).cells t_74.2.1 (svO q_76.1 1)).map EV.v), 48)]) rfl (by kernel_rfl) (fun ns_82 a w_83 hI => ?_)
      refine wpListIn_nil ?_
      refine then_normal ?_
      refine wpIn_seq ?_
      obtain ⟨hE', hmv, hmr⟩ := Ep.rebase hE hI
      replace hg0 := El.keep hg0 (hmv _)
      replace hR_13 := Kd.keep _ hR_13 (hmv _)
      replace hq_57 := Arr.keep hq_57 (hmv _)
      replace hR_66 := OjtN.keep hR_66 (hmv _) (fun b hb => hmr b (flat_mem (by simp) hb))
      replace hR_67 := Kd.keep _ hR_67 (hmv _)
      replace hR_78 := OjtN.keep hR_78 (hmv _) (fun b hb => hmr b (flat_mem (by simp) hb))
      replace hR_79 := Kd.keep _ hR_79 (hmv _)
      replace hE := hE'; replace hI := hI.rebase; clear hE' hmv hmr
      rcases opt_split H0 with ⟨hx_84, H0⟩ | ⟨y_85, hx_84, H0⟩
      ·obtain ⟨hA_87, _⟩ := OjtN.none_of hR_66 hx_84
       replace hI := Inv.cast (σf := fun q_ => (s_ [e_ 16 (.bool t_74.2.2), e_ 14 (.pointer ((q_76.1 0).1)), e_ 13 (.bool t_62.2.2), e_ 11 (.pointer q_), e_ 10 (.int .u64 (IntKind.u64.wrap (Int.tmod a0 2))), e_ 8 (.pointer none), e_ 6 (.pointer none), e_ 4 (.bool false), e_ 1 (.int .u32 a1)] [((((kd_Config).cells t_10 sv_12).map EV.v), 29), ((((kd_Answer).cells t_62.2.1 (svO q_64.1 1)).map EV.v), 48), ((((kd_Answer).cells t_74.2.1 (svO q_76.1 1)).map EV.v), 48)])) hA_87 hI
       rcases opt_split H0 with ⟨hx_88, H0⟩ | ⟨y_89, hx_88, H0⟩
       ·obtain ⟨hA_91, _⟩ := OjtN.none_of hR_78 hx_88
        replace hI := Inv.cast (σf := fun q_ => (s_ [e_ 16 (.bool t_74.2.2), e_ 14 (.pointer q_), e_ 13 (.bool t_62.2.2), e_ 11 (.pointer none), e_ 10 (.int .u64 (IntKind.u64.wrap (Int.tmod a0 2))), e_ 8 (.pointer none), e_ 6 (.pointer none), e_ 4 (.bool false), e_ 1 (.int .u32 a1)] [((((kd_Config).cells t_10 sv_12).map EV.v), 29), ((((kd_Answer).cells t_62.2.1 (svO q_64.1 1)).map EV.v), 48), ((((kd_Answer).cells t_74.2.1 (svO q_76.1 1)).map EV.v), 48)])) hA_91 hI
        cases H0
       ·obtain ⟨B_90, hA_91, hR_78⟩ := OjtN.some_of hR_78 hx_88
        replace hI := Inv.cast (σf := fun q_ => (s_ [e_ 16 (.bool t_74.2.2), e_ 14 (.pointer q_), e_ 13 (.bool t_62.2.2), e_ 11 (.pointer none), e_ 10 (.int .u64 (IntKind.u64.wrap (Int.tmod a0 2))), e_ 8 (.pointer none), e_ 6 (.pointer none), e_ 4 (.bool false), e_ 1 (.int .u32 a1)] [((((kd_Config).cells t_10 sv_12).map EV.v), 29), ((((kd_Answer).cells t_62.2.1 (svO q_64.1 1)).map EV.v), 48), ((((kd_Answer).cells t_74.2.1 (svO q_76.1 1)).map EV.v), 48)])) hA_91 hI
        cases H0
      ·obtain ⟨B_86, hA_87, hR_66⟩ := OjtN.some_of hR_66 hx_84
       replace hI := Inv.cast (σf := fun q_ => (s_ [e_ 16 (.bool t_74.2.2), e_ 14 (.pointer ((q_76.1 0).1)), e_ 13 (.bool t_62.2.2), e_ 11 (.pointer q_), e_ 10 (.int .u64 (IntKind.u64.wrap (Int.tmod a0 2))), e_ 8 (.pointer none), e_ 6 (.pointer none), e_ 4 (.bool false), e_ 1 (.int .u32 a1)] [((((kd_Config).cells t_10 sv_12).map EV.v), 29), ((((kd_Answer).cells t_62.2.1 (svO q_64.1 1)).map EV.v), 48), ((((kd_Answer).cells t_74.2.1 (svO q_76.1 1)).map EV.v), 48)])) hA_87 hI
       rcases opt_split H0 with ⟨hx_102, H0⟩ | ⟨y_103, hx_102, H0⟩
       ·obtain ⟨hA_105, _⟩ := OjtN.none_of hR_78 hx_102
        replace hI := Inv.cast (σf := fun q_ => (s_ [e_ 16 (.bool t_74.2.2), e_ 14 (.pointer q_), e_ 13 (.bool t_62.2.2), e_ 11 (.pointer (some ⟨B_86, 0, none⟩)), e_ 10 (.int .u64 (IntKind.u64.wrap (Int.tmod a0 2))), e_ 8 (.pointer none), e_ 6 (.pointer none), e_ 4 (.bool false), e_ 1 (.int .u32 a1)] [((((kd_Config).cells t_10 sv_12).map EV.v), 29), ((((kd_Answer).cells t_62.2.1 (svO q_64.1 1)).map EV.v), 48), ((((kd_Answer).cells t_74.2.1 (svO q_76.1 1)).map EV.v), 48)])) hA_105 hI
        cases H0
       ·obtain ⟨B_104, hA_105, hR_78⟩ := OjtN.some_of hR_78 hx_102
        replace hI := Inv.cast (σf := fun q_ => (s_ [e_ 16 (.bool t_74.2.2), e_ 14 (.pointer q_), e_ 13 (.bool t_62.2.2), e_ 11 (.pointer (some ⟨B_86, 0, none⟩)), e_ 10 (.int .u64 (IntKind.u64.wrap (Int.tmod a0 2))), e_ 8 (.pointer none), e_ 6 (.pointer none), e_ 4 (.bool false), e_ 1 (.int .u32 a1)] [((((kd_Config).cells t_10 sv_12).map EV.v), 29), ((((kd_Answer).cells t_62.2.1 (svO q_64.1 1)).map EV.v), 48), ((((kd_Answer).cells t_74.2.1 (svO q_76.1 1)).map EV.v), 48)])) hA_105 hI
        cases H0
    ·obtain ⟨B_45, hA_46, hR_34⟩ := OjtN.some_of hR_34 hx_43
     replace hI := Inv.cast (σf := fun q_ => (s_ [e_ 9 (.int .i64 t_30.2), e_ 8 (.pointer q_), e_ 7 (.int .i64 t_21.2), e_ 6 (.pointer none), p_ 5 0 0, e_ 4 (.bool false), e_ 0 (.int .u8 a0), e_ 1 (.int .u32 a1)] [((((kd_Config).cells t_10 sv_12).map EV.v), 29)])) hA_46 hI
     refine sr0_ hF hI (s_ [e_ 46 (.bool ((((t_21.2 != 0) || (t_30.2 != 0)) || true) || false)), e_ 8 (.pointer (some ⟨B_45, 0, none⟩)), e_ 6 (.pointer none), p_ 5 0 0, e_ 4 (.bool false), e_ 0 (.int .u8 a0), e_ 1 (.int .u32 a1)] [((((kd_Config).cells t_10 sv_12).map EV.v), 29)]) (by kernel_rfl) (fun ns_116 a w_117 hI => ?_)
     refine cond_ hI (((((t_21.2 != 0) || (t_30.2 != 0)) || true) || false)) rfl (fun hc_118 => ?_) (fun hc_118 => ?_)
     ·replace H0 := bif_t hc_118 H0
      refine sr0_ hF hI (s_ [e_ 4 (.bool false)] [((((kd_Config).cells t_10 sv_12).map EV.v), 29)]) (by kernel_rfl) (fun ns_119 a w_120 hI => ?_)
      refine wpIn_ret ?_
      refine then_ret ?_
      obtain rfl := Option.some.inj H0
      exact ret1 hI rfl rfl ⟨rfl, hE.below hI⟩
     ·replace H0 := bif_f hc_118 H0
      refine wpIn_skip ?_
      refine then_normal ?_
      refine sr_ (orc := []) hF hI (s_ [e_ 10 (.int .u64 (IntKind.u64.wrap (Int.tmod a0 2))), e_ 8 (.pointer (some ⟨B_45, 0, none⟩)), e_ 6 (.pointer none), p_ 5 0 0, e_ 4 (.bool false), e_ 1 (.int .u32 a1)] [((((kd_Config).cells t_10 sv_12).map EV.v), 29)]) [.need true (¬ (2 : Int) = 0)] (by kernel_rfl) ⟨(fun _ => by decide), trivial⟩ (fun ns_121 a w_122 hI => ?_)
      refine wpIn_seq ?_
      refine wpIn_region_lit ?_
      refine ck0_ hF 4 hI (s_ [e_ 54 (.int .u32 a1), e_ 53 (.int .u64 (IntKind.u64.wrap (Int.tmod a0 2))), e_ 52 (.agg #[.int .i64 0, .bool false, .slice none 0 0, .slice none 0 0]), e_ 51 (.agg ((kd_Config).cells t_10 sv_12).toArray), e_ 10 (.int .u64 (IntKind.u64.wrap (Int.tmod a0 2))), e_ 8 (.pointer (some ⟨B_45, 0, none⟩)), e_ 6 (.pointer none), p_ 5 0 0, e_ 4 (.bool false), e_ 1 (.int .u32 a1)] [((((kd_Config).cells t_10 sv_12).map EV.v), 29)]) rfl (by kernel_rfl) (fun ns_123 a w_124 hI => ?_)
      obtain ⟨hE', hmv, hmr⟩ := Ep.rebase hE hI
      replace hg0 := El.keep hg0 (hmv _)
      replace hR_13 := Kd.keep _ hR_13 (hmv _)
      replace hR_34 := Ojt.keep hR_34 (hmv _) (fun b hb => hmr b (flat_mem (by simp) hb))
      replace hE := hE'; replace hI := hI.rebase; clear hE' hmv hmr
      refine buildSlice_ (S0 := S) (d := (Kd.int .u32)) (e := 60) hF hE hI (wanted_none rfl) rfl (by kernel_rfl) (cs := [.int .u32 a1]) (by kernel_rfl) [a1] [(svL [])] rfl rfl (by simp [maxLen]) (fun i x hi => by cases i with | zero => (simp only [List.getElem?_cons_zero, Option.some.injEq] at hi; subst hi; exact ⟨trivial, rfl⟩) | succ i => (simp only [List.getElem?_cons_succ] at hi; simp at hi)) (fun A_125 => (s_ [e_ 55 (.slice A_125 ([a1] : List Int).length (([a1] : List Int).length)), e_ 54 (.int .u32 a1), e_ 53 (.int .u64 (IntKind.u64.wrap (Int.tmod a0 2))), e_ 52 (.agg #[.int .i64 0, .bool false, .slice none 0 0, .slice none 0 0]), e_ 51 (.agg ((kd_Config).cells t_10 sv_12).toArray), e_ 10 (.int .u64 (IntKind.u64.wrap (Int.tmod a0 2))), e_ 8 (.pointer (some ⟨B_45, 0, none⟩)), e_ 6 (.pointer none), p_ 5 0 0, e_ 4 (.bool false), e_ 1 (.int .u32 a1)] [((((kd_Config).cells t_10 sv_12).map EV.v), 29)])) (fun A_125 => by kernel_rfl) (fun A_125 a w_127 hput hE' hI' hmv hmr hq_126 => ?_)
      replace hg0 := El.keep hg0 (hmv _)
      replace hR_13 := Kd.keep _ hR_13 (hmv _)
      replace hR_34 := Ojt.keep hR_34 (hmv _) (fun b hb => hmr b (flat_mem (by simp) hb) (by simp))
      replace hE := hE'; replace hI := hI'; clear hE' hI' hmv hmr
      refine ck0_ hF 1 hI (s_ [e_ 56 (.agg #[.int .i64 9, .int .i64 0, .int .u64 (IntKind.u64.wrap (Int.tmod a0 2)), .slice A_125 ([a1] : List Int).length (([a1] : List Int).length)]), e_ 52 (.agg #[.int .i64 0, .bool false, .slice none 0 0, .slice none 0 0]), e_ 51 (.agg ((kd_Config).cells t_10 sv_12).toArray), e_ 10 (.int .u64 (IntKind.u64.wrap (Int.tmod a0 2))), e_ 8 (.pointer (some ⟨B_45, 0, none⟩)), e_ 6 (.pointer none), p_ 5 0 0, e_ 4 (.bool false), e_ 1 (.int .u32 a1)] [((((kd_Config).cells t_10 sv_12).map EV.v), 29)]) rfl (by kernel_rfl) (fun ns_128 a w_129 hI => ?_)
      obtain ⟨hE', hmv, hmr⟩ := Ep.rebase hE hI
      replace hg0 := El.keep hg0 (hmv _)
      replace hR_13 := Kd.keep _ hR_13 (hmv _)
      replace hR_34 := Ojt.keep hR_34 (hmv _) (fun b hb => hmr b (flat_mem (by simp) hb))
      replace hq_126 := Row.keep hq_126 (hmv _) (fun b hb => hmr b (by simp [hb]))
      replace hE := hE'; replace hI := hI.rebase; clear hE' hmv hmr
      obtain ⟨hE', hmv, hq_126, hcap_130⟩ := Row.still (l1 := [(q_23.2 0), (q_32.2 0)]) (l2 := []) hq_126 (Nat.le_refl _) hE
      have hmr := hmr_ ([(q_23.2 0), (q_32.2 0), rb A_125] : List (List Nat)) w_129
      replace hg0 := El.keep hg0 (hmv _)
      replace hR_13 := Kd.keep _ hR_13 (hmv _)
      replace hR_34 := Ojt.keep hR_34 (hmv _) (fun b hb => hmr b (flat_mem (by simp) hb))
      replace hE := hE'
      clear hE' hmv hmr
      obtain ⟨t_131, hG_132, H0⟩ := bind_some H0
      have hbs_134 := hE.k.size
      refine callO_ hF hE hI (wanted_none rfl) rfl (args := [.agg ((kd_Config).cells t_10 sv_12).toArray, .agg ((kd_Standing).cells (⟨0, false, [], []⟩ : Standing) (svL [(none, 0), (none, 0)])).toArray, .int .u32 0, .agg ((kd_Request).cells (⟨9, 0, (IntKind.u64.wrap (Int.tmod a0 2)), ([a1] : List Int)⟩ : Request) (svL [(A_125, ([a1] : List Int).length)])).toArray]) rfl (enters Tryz.func22 (by kernel_rfl) rfl) (fun q_133 : SV × (Nat → List Nat) => .tuple #[.pointer ((q_133.1 0).1), .agg ((kd_Answer).cells t_131.2.1 (svO q_133.1 1)).toArray, .bool t_131.2.2]) [] (fun q_133 => [q_133.2 0]) _ (G_task_Begin.calls t_10 (⟨0, false, [], []⟩ : Standing) 0 (⟨9, 0, (IntKind.u64.wrap (Int.tmod a0 2)), ([a1] : List Int)⟩ : Request) sv_12 (svL [(none, 0), (none, 0)]) (svL [(A_125, ([a1] : List Int).length)]) w_129 (S0_ := Lo S w w_129 ns_128 [(q_23.2 0), (q_32.2 0)]) (contI (S := Lo S w w_129 ns_128 [(q_23.2 0), (q_32.2 0)]) (w := w_129) (d := kd_Config) (x := t_10) (sv := sv_12) ⟨⟨hR_13.1.1, hR_13.1.2⟩, ⟨hR_13.2.1.1, hR_13.2.1.2⟩, ⟨hR_13.2.2.1.1, hR_13.2.2.1.2⟩, ⟨hR_13.2.2.2.1.1, hR_13.2.2.2.1.2⟩, trivial⟩) (contI (S := Lo S w w_129 ns_128 [(q_23.2 0), (q_32.2 0)]) (w := w_129) (d := kd_Standing) (x := (⟨0, false, [], []⟩ : Standing)) (sv := (svL [(none, 0), (none, 0)])) ⟨⟨(Arr.nil _ _ _ _), (Nat.le_refl _)⟩, ⟨(Arr.nil _ _ _ _), (Nat.le_refl _)⟩, trivial⟩) (contI (S := Lo S w w_129 ns_128 [(q_23.2 0), (q_32.2 0)]) (w := w_129) (d := kd_Request) (x := (⟨9, 0, (IntKind.u64.wrap (Int.tmod a0 2)), ([a1] : List Int)⟩ : Request)) (sv := (svL [(A_125, ([a1] : List Int).length)])) ⟨⟨hq_126, hcap_130⟩, trivial⟩) hg0 _ hG_132) (.inr (fun b hb => by simp at hb)) (fun q_133 => (s_ [e_ 57 (.tuple #[.pointer ((q_133.1 0).1), .agg ((kd_Answer).cells t_131.2.1 (svO q_133.1 1)).toArray, .bool t_131.2.2]), e_ 56 (.agg ((kd_Request).cells (⟨9, 0, (IntKind.u64.wrap (Int.tmod a0 2)), ([a1] : List Int)⟩ : Request) (svL [(A_125, ([a1] : List Int).length)])).toArray), e_ 52 (.agg ((kd_Standing).cells (⟨0, false, [], []⟩ : Standing) (svL [(none, 0), (none, 0)])).toArray), e_ 51 (.agg ((kd_Config).cells t_10 sv_12).toArray), e_ 10 (.int .u64 (IntKind.u64.wrap (Int.tmod a0 2))), e_ 8 (.pointer (some ⟨B_45, 0, none⟩)), e_ 6 (.pointer none), p_ 5 0 0, e_ 4 (.bool false), e_ 1 (.int .u32 a1)] [((((kd_Config).cells t_10 sv_12).map EV.v), 29)])) (fun q_133 => by kernel_rfl) (fun q_133 a w_138 hput hE' hI' hmv hmr hres hR => ?_)
      replace hmv : ∀ S0, Mv (Lo S0 w w_129 ns_128 [(q_23.2 0), (q_32.2 0)]) w_129 (Lo S0 w w_138 ns_128 [(q_23.2 0), (q_32.2 0), (q_133.2 0)]) w_138 := hmv
      replace hmr : ∀ b ∈ ([(q_23.2 0), (q_32.2 0)] : List (List Nat)).flatten, w_138.heap[b]? = w_129.heap[b]? := hmr
      replace hE : Ep [] w w_138 ns_128 [(q_23.2 0), (q_32.2 0), (q_133.2 0)] := hE'
      replace hI := hI'
      clear hE' hI'
      replace hg0 := El.keep hg0 (hmv _)
      replace hR_13 := Kd.keep _ hR_13 (hmv _)
      replace hR_34 := Ojt.keep hR_34 (hmv _) (fun b hb => hmr b (flat_mem (by simp) hb))
      replace hq_126 := Arr.keep hq_126 (hmv _)
      clear hmv hmr
      obtain ⟨hR_135, hR_136⟩ := hR
      replace hR_135 := OjtN.keep hR_135 (hres _ (fun b hb => by simp at hb)) (fun _ _ => rfl)
      replace hR_136 := Kd.keep _ hR_136 (hres _ (fun b hb => by simp at hb))
      clear hres
      refine ck0_ hF 8 hI (s_ [e_ 13 (.bool t_131.2.2), e_ 11 (.pointer ((q_133.1 0).1)), e_ 10 (.int .u64 (IntKind.u64.wrap (Int.tmod a0 2))), e_ 8 (.pointer (some ⟨B_45, 0, none⟩)), e_ 6 (.pointer none), p_ 5 0 0, e_ 4 (.bool false), e_ 1 (.int .u32 a1)] [((((kd_Config).cells t_10 sv_12).map EV.v), 29), ((((kd_Answer).cells t_131.2.1 (svO q_133.1 1)).map EV.v), 48)]) rfl (by kernel_rfl) (fun ns_139 a w_140 hI => ?_)
      refine wpListIn_nil ?_
      refine then_normal ?_
      refine wpIn_seq ?_
      refine wpIn_region_lit ?_
      refine ck0_ hF 4 hI (s_ [e_ 65 (.agg #[.int .i64 8, .int .i64 0, .int .u64 (IntKind.u64.wrap (Int.tmod a0 2)), .slice none 0 0]), e_ 63 (.agg #[.int .i64 0, .bool false, .slice none 0 0, .slice none 0 0]), e_ 62 (.agg ((kd_Config).cells t_10 sv_12).toArray), e_ 13 (.bool t_131.2.2), e_ 11 (.pointer ((q_133.1 0).1)), e_ 10 (.int .u64 (IntKind.u64.wrap (Int.tmod a0 2))), e_ 8 (.pointer (some ⟨B_45, 0, none⟩)), e_ 6 (.pointer none), e_ 4 (.bool false), e_ 1 (.int .u32 a1)] [((((kd_Config).cells t_10 sv_12).map EV.v), 29), ((((kd_Answer).cells t_131.2.1 (svO q_133.1 1)).map EV.v), 48)]) rfl (by kernel_rfl) (fun ns_141 a w_142 hI => ?_)
      obtain ⟨hE', hmv, hmr⟩ := Ep.rebase hE hI
      replace hg0 := El.keep hg0 (hmv _)
      replace hR_13 := Kd.keep _ hR_13 (hmv _)
      replace hR_34 := Ojt.keep hR_34 (hmv _) (fun b hb => hmr b (flat_mem (by simp) hb))
      replace hq_126 := Arr.keep hq_126 (hmv _)
      replace hR_135 := OjtN.keep hR_135 (hmv _) (fun b hb => hmr b (flat_mem (by simp) hb))
      replace hR_136 := Kd.keep _ hR_136 (hmv _)
      replace hE := hE'; replace hI := hI.rebase; clear hE' hmv hmr
      obtain ⟨t_143, hG_144, H0⟩ := bind_some H0
      have hbs_146 := hE.k.size
      refine callO_ hF hE hI (wanted_none rfl) rfl (args := [.agg ((kd_Config).cells t_10 sv_12).toArray, .agg ((kd_Standing).cells (⟨0, false, [], []⟩ : Standing) (svL [(none, 0), (none, 0)])).toArray, .int .u32 0, .agg ((kd_Request).cells (⟨8, 0, (IntKind.u64.wrap (Int.tmod a0 2)), []⟩ : Request) (svL [(none, 0)])).toArray]) rfl (enters Tryz.func22 (by kernel_rfl) rfl) (fun q_145 : SV × (Nat → List Nat) => .tuple #[.pointer ((q_145.1 0).1), .agg ((kd_Answer).cells t_143.2.1 (svO q_145.1 1)).toArray, .bool t_143.2.2]) [] (fun q_145 => [q_145.2 0]) _ (G_task_Begin.calls t_10 (⟨0, false, [], []⟩ : Standing) 0 (⟨8, 0, (IntKind.u64.wrap (Int.tmod a0 2)), []⟩ : Request) sv_12 (svL [(none, 0), (none, 0)]) (svL [(none, 0)]) w_142 (S0_ := Lo S w w_142 ns_141 [(q_23.2 0), (q_32.2 0), (q_133.2 0)]) (contI (S := Lo S w w_142 ns_141 [(q_23.2 0), (q_32.2 0), (q_133.2 0)]) (w := w_142) (d := kd_Config) (x := t_10) (sv := sv_12) ⟨⟨hR_13.1.1, hR_13.1.2⟩, ⟨hR_13.2.1.1, hR_13.2.1.2⟩, ⟨hR_13.2.2.1.1, hR_13.2.2.1.2⟩, ⟨hR_13.2.2.2.1.1, hR_13.2.2.2.1.2⟩, trivial⟩) (contI (S := Lo S w w_142 ns_141 [(q_23.2 0), (q_32.2 0), (q_133.2 0)]) (w := w_142) (d := kd_Standing) (x := (⟨0, false, [], []⟩ : Standing)) (sv := (svL [(none, 0), (none, 0)])) ⟨⟨(Arr.nil _ _ _ _), (Nat.le_refl _)⟩, ⟨(Arr.nil _ _ _ _), (Nat.le_refl _)⟩, trivial⟩) (contI (S := Lo S w w_142 ns_141 [(q_23.2 0), (q_32.2 0), (q_133.2 0)]) (w := w_142) (d := kd_Request) (x := (⟨8, 0, (IntKind.u64.wrap (Int.tmod a0 2)), []⟩ : Request)) (sv := (svL [(none, 0)])) ⟨⟨(Arr.nil _ _ _ _), (Nat.le_refl _)⟩, trivial⟩) hg0 _ hG_144) (.inr (fun b hb => by simp at hb)) (fun q_145 => (s_ [e_ 66 (.tuple #[.pointer ((q_145.1 0).1), .agg ((kd_Answer).cells t_143.2.1 (svO q_145.1 1)).toArray, .bool t_143.2.2]), e_ 65 (.agg ((kd_Request).cells (⟨8, 0, (IntKind.u64.wrap (Int.tmod a0 2)), []⟩ : Request) (svL [(none, 0)])).toArray), e_ 63 (.agg ((kd_Standing).cells (⟨0, false, [], []⟩ : Standing) (svL [(none, 0), (none, 0)])).toArray), e_ 62 (.agg ((kd_Config).cells t_10 sv_12).toArray), e_ 13 (.bool t_131.2.2), e_ 11 (.pointer ((q_133.1 0).1)), e_ 10 (.int .u64 (IntKind.u64.wrap (Int.tmod a0 2))), e_ 8 (.pointer (some ⟨B_45, 0, none⟩)), e_ 6 (.pointer none), e_ 4 (.bool false), e_ 1 (.int .u32 a1)] [((((kd_Config).cells t_10 sv_12).map EV.v), 29), ((((kd_Answer).cells t_131.2.1 (svO q_133.1 1)).map EV.v), 48)])) (fun q_145 => by kernel_rfl) (fun q_145 a w_150 hput hE' hI' hmv hmr hres hR => ?_)
      replace hmv : ∀ S0, Mv (Lo S0 w w_142 ns_141 [(q_23.2 0), (q_32.2 0), (q_133.2 0)]) w_142 (Lo S0 w w_150 ns_141 [(q_23.2 0), (q_32.2 0), (q_133.2 0), (q_145.2 0)]) w_150 := hmv
      replace hmr : ∀ b ∈ ([(q_23.2 0), (q_32.2 0), (q_133.2 0)] : List (List Nat)).flatten, w_150.heap[b]? = w_142.heap[b]? := hmr
      replace hE : Ep [] w w_150 ns_141 [(q_23.2 0), (q_32.2 0), (q_133.2 0), (q_145.2 0)] := hE'
      replace hI := hI'
      clear hE' hI'
      replace hg0 := El.keep hg0 (hmv _)
      replace hR_13 := Kd.keep _ hR_13 (hmv _)
      replace hR_34 := Ojt.keep hR_34 (hmv _) (fun b hb => hmr b (flat_mem (by simp) hb))
      replace hq_126 := Arr.keep hq_126 (hmv _)
      replace hR_135 := OjtN.keep hR_135 (hmv _) (fun b hb => hmr b (flat_mem (by simp) hb))
      replace hR_136 := Kd.keep _ hR_136 (hmv _)
      clear hmv hmr
      obtain ⟨hR_147, hR_148⟩ := hR
      replace hR_147 := OjtN.keep hR_147 (hres _ (fun b hb => by simp at hb)) (fun _ _ => rfl)
      replace hR_148 := Kd.keep _ hR_148 (hres _ (fun b hb => by simp at hb))
      clear hres
      refine ck0_ hF 8 hI (s_ [e_ 16 (.bool t_143.2.2), e_ 14 (.pointer ((q_145.1 0).1)), e_ 13 (.bool t_131.2.2), e_ 11 (.pointer ((q_133.1 0).1)), e_ 10 (.int .u64 (IntKind.u64.wrap (Int.tmod a0 2))), e_ 8 (.pointer (some ⟨B_45, 0, none⟩)), e_ 6 (.pointer none), e_ 4 (.bool false), e_ 1 (.int .u32 a1)] [((((kd_Config).cells t_10 sv_12).map EV.v), 29), ((((kd_Answer).cells t_131.2.1 (svO q_133.1 1)).map EV.v), 48), ((((kd_Answer).cells t_143.2.1 (svO q_145.1 1)).map EV.v), 48)]) rfl (by kernel_rfl) (fun ns_151 a w_152 hI => ?_)
      refine wpListIn_nil ?_
      refine then_normal ?_
      refine wpIn_seq ?_
      obtain ⟨hE', hmv, hmr⟩ := Ep.rebase hE hI
      replace hg0 := El.keep hg0 (hmv _)
      replace hR_13 := Kd.keep _ hR_13 (hmv _)
      replace hR_34 := Ojt.keep hR_34 (hmv _) (fun b hb => hmr b (flat_mem (by simp) hb))
      replace hq_126 := Arr.keep hq_126 (hmv _)
      replace hR_135 := OjtN.keep hR_135 (hmv _) (fun b hb => hmr b (flat_mem (by simp) hb))
      replace hR_136 := Kd.keep _ hR_136 (hmv _)
      replace hR_147 := OjtN.keep hR_147 (hmv _) (fun b hb => hmr b (flat_mem (by simp) hb))
      replace hR_148 := Kd.keep _ hR_148 (hmv _)
      replace hE := hE'; replace hI := hI.rebase; clear hE' hmv hmr
      rcases opt_split H0 with ⟨hx_153, H0⟩ | ⟨y_154, hx_153, H0⟩
      ·obtain ⟨hA_156, _⟩ := OjtN.none_of hR_135 hx_153
       replace hI := Inv.cast (σf := fun q_ => (s_ [e_ 16 (.bool t_143.2.2), e_ 14 (.pointer ((q_145.1 0).1)), e_ 13 (.bool t_131.2.2), e_ 11 (.pointer q_), e_ 10 (.int .u64 (IntKind.u64.wrap (Int.tmod a0 2))), e_ 8 (.pointer (some ⟨B_45, 0, none⟩)), e_ 6 (.pointer none), e_ 4 (.bool false), e_ 1 (.int .u32 a1)] [((((kd_Config).cells t_10 sv_12).map EV.v), 29), ((((kd_Answer).cells t_131.2.1 (svO q_133.1 1)).map EV.v), 48), ((((kd_Answer).cells t_143.2.1 (svO q_145.1 1)).map EV.v), 48)])) hA_156 hI
       rcases opt_split H0 with ⟨hx_157, H0⟩ | ⟨y_158, hx_157, H0⟩
       ·obtain ⟨hA_160, _⟩ := OjtN.none_of hR_147 hx_157
        replace hI := Inv.cast (σf := fun q_ => (s_ [e_ 16 (.bool t_143.2.2), e_ 14 (.pointer q_), e_ 13 (.bool t_131.2.2), e_ 11 (.pointer none), e_ 10 (.int .u64 (IntKind.u64.wrap (Int.tmod a0 2))), e_ 8 (.pointer (some ⟨B_45, 0, none⟩)), e_ 6 (.pointer none), e_ 4 (.bool false), e_ 1 (.int .u32 a1)] [((((kd_Config).cells t_10 sv_12).map EV.v), 29), ((((kd_Answer).cells t_131.2.1 (svO q_133.1 1)).map EV.v), 48), ((((kd_Answer).cells t_143.2.1 (svO q_145.1 1)).map EV.v), 48)])) hA_160 hI
        cases H0
       ·obtain ⟨B_159, hA_160, hR_147⟩ := OjtN.some_of hR_147 hx_157
        replace hI := Inv.cast (σf := fun q_ => (s_ [e_ 16 (.bool t_143.2.2), e_ 14 (.pointer q_), e_ 13 (.bool t_131.2.2), e_ 11 (.pointer none), e_ 10 (.int .u64 (IntKind.u64.wrap (Int.tmod a0 2))), e_ 8 (.pointer (some ⟨B_45, 0, none⟩)), e_ 6 (.pointer none), e_ 4 (.bool false), e_ 1 (.int .u32 a1)] [((((kd_Config).cells t_10 sv_12).map EV.v), 29), ((((kd_Answer).cells t_131.2.1 (svO q_133.1 1)).map EV.v), 48), ((((kd_Answer).cells t_143.2.1 (svO q_145.1 1)).map EV.v), 48)])) hA_160 hI
        cases H0
      ·obtain ⟨B_155, hA_156, hR_135⟩ := OjtN.some_of hR_135 hx_153
       replace hI := Inv.cast (σf := fun q_ => (s_ [e_ 16 (.bool t_143.2.2), e_ 14 (.pointer ((q_145.1 0).1)), e_ 13 (.bool t_131.2.2), e_ 11 (.pointer q_), e_ 10 (.int .u64 (IntKind.u64.wrap (Int.tmod a0 2))), e_ 8 (.pointer (some ⟨B_45, 0, none⟩)), e_ 6 (.pointer none), e_ 4 (.bool false), e_ 1 (.int .u32 a1)] [((((kd_Config).cells t_10 sv_12).map EV.v), 29), ((((kd_Answer).cells t_131.2.1 (svO q_133.1 1)).map EV.v), 48), ((((kd_Answer).cells t_143.2.1 (svO q_145.1 1)).map EV.v), 48)])) hA_156 hI
       rcases opt_split H0 with ⟨hx_171, H0⟩ | ⟨y_172, hx_171, H0⟩
       ·obtain ⟨hA_174, _⟩ := OjtN.none_of hR_147 hx_171
        replace hI := Inv.cast (σf := fun q_ => (s_ [e_ 16 (.bool t_143.2.2), e_ 14 (.pointer q_), e_ 13 (.bool t_131.2.2), e_ 11 (.pointer (some ⟨B_155, 0, none⟩)), e_ 10 (.int .u64 (IntKind.u64.wrap (Int.tmod a0 2))), e_ 8 (.pointer (some ⟨B_45, 0, none⟩)), e_ 6 (.pointer none), e_ 4 (.bool false), e_ 1 (.int .u32 a1)] [((((kd_Config).cells t_10 sv_12).map EV.v), 29), ((((kd_Answer).cells t_131.2.1 (svO q_133.1 1)).map EV.v), 48), ((((kd_Answer).cells t_143.2.1 (svO q_145.1 1)).map EV.v), 48)])) hA_174 hI
        cases H0
       ·obtain ⟨B_173, hA_174, hR_147⟩ := OjtN.some_of hR_147 hx_171
        replace hI := Inv.cast (σf := fun q_ => (s_ [e_ 16 (.bool t_143.2.2), e_ 14 (.pointer q_), e_ 13 (.bool t_131.2.2), e_ 11 (.pointer (some ⟨B_155, 0, none⟩)), e_ 10 (.int .u64 (IntKind.u64.wrap (Int.tmod a0 2))), e_ 8 (.pointer (some ⟨B_45, 0, none⟩)), e_ 6 (.pointer none), e_ 4 (.bool false), e_ 1 (.int .u32 a1)] [((((kd_Config).cells t_10 sv_12).map EV.v), 29), ((((kd_Answer).cells t_131.2.1 (svO q_133.1 1)).map EV.v), 48), ((((kd_Answer).cells t_143.2.1 (svO q_145.1 1)).map EV.v), 48)])) hA_174 hI
        cases H0
   ·obtain ⟨B_41, hA_42, hR_25⟩ := OjtN.some_of hR_25 hx_39
    replace hI := Inv.cast (σf := fun q_ => (s_ [e_ 9 (.int .i64 t_30.2), e_ 8 (.pointer ((q_32.1 0).1)), e_ 7 (.int .i64 t_21.2), e_ 6 (.pointer q_), p_ 5 0 0, e_ 4 (.bool false), e_ 0 (.int .u8 a0), e_ 1 (.int .u32 a1)] [((((kd_Config).cells t_10 sv_12).map EV.v), 29)])) hA_42 hI
    rcases opt_split H0 with ⟨hx_185, H0⟩ | ⟨y_186, hx_185, H0⟩
    ·obtain ⟨hA_188, _⟩ := OjtN.none_of hR_34 hx_185
     replace hI := Inv.cast (σf := fun q_ => (s_ [e_ 9 (.int .i64 t_30.2), e_ 8 (.pointer q_), e_ 7 (.int .i64 t_21.2), e_ 6 (.pointer (some ⟨B_41, 0, none⟩)), p_ 5 0 0, e_ 4 (.bool false), e_ 0 (.int .u8 a0), e_ 1 (.int .u32 a1)] [((((kd_Config).cells t_10 sv_12).map EV.v), 29)])) hA_188 hI
     refine sr0_ hF hI (s_ [e_ 46 (.bool ((((t_21.2 != 0) || (t_30.2 != 0)) || false) || true)), e_ 8 (.pointer none), e_ 6 (.pointer (some ⟨B_41, 0, none⟩)), p_ 5 0 0, e_ 4 (.bool false), e_ 0 (.int .u8 a0), e_ 1 (.int .u32 a1)] [((((kd_Config).cells t_10 sv_12).map EV.v), 29)]) (by kernel_rfl) (fun ns_189 a w_190 hI => ?_)
     refine cond_ hI (((((t_21.2 != 0) || (t_30.2 != 0)) || false) || true)) rfl (fun hc_191 => ?_) (fun hc_191 => ?_)
     ·replace H0 := bif_t hc_191 H0
      refine sr0_ hF hI (s_ [e_ 4 (.bool false)] [((((kd_Config).cells t_10 sv_12).map EV.v), 29)]) (by kernel_rfl) (fun ns_192 a w_193 hI => ?_)
      refine wpIn_ret ?_
      refine then_ret ?_
      obtain rfl := Option.some.inj H0
      exact ret1 hI rfl rfl ⟨rfl, hE.below hI⟩
     ·replace H0 := bif_f hc_191 H0
      refine wpIn_skip ?_
      refine then_normal ?_
      refine sr_ (orc := []) hF hI (s_ [e_ 10 (.int .u64 (IntKind.u64.wrap (Int.tmod a0 2))), e_ 8 (.pointer none), e_ 6 (.pointer (some ⟨B_41, 0, none⟩)), p_ 5 0 0, e_ 4 (.bool false), e_ 1 (.int .u32 a1)] [((((kd_Config).cells t_10 sv_12).map EV.v), 29)]) [.need true (¬ (2 : Int) = 0)] (by kernel_rfl) ⟨(fun _ => by decide), trivial⟩ (fun ns_194 a w_195 hI => ?_)
      refine wpIn_seq ?_
      refine wpIn_region_lit ?_
      refine ck0_ hF 4 hI (s_ [e_ 54 (.int .u32 a1), e_ 53 (.int .u64 (IntKind.u64.wrap (Int.tmod a0 2))), e_ 52 (.agg #[.int .i64 0, .bool false, .slice none 0 0, .slice none 0 0]), e_ 51 (.agg ((kd_Config).cells t_10 sv_12).toArray), e_ 10 (.int .u64 (IntKind.u64.wrap (Int.tmod a0 2))), e_ 8 (.pointer none), e_ 6 (.pointer (some ⟨B_41, 0, none⟩)), p_ 5 0 0, e_ 4 (.bool false), e_ 1 (.int .u32 a1)] [((((kd_Config).cells t_10 sv_12).map EV.v), 29)]) rfl (by kernel_rfl) (fun ns_196 a w_197 hI => ?_)
      obtain ⟨hE', hmv, hmr⟩ := Ep.rebase hE hI
      replace hg0 := El.keep hg0 (hmv _)
      replace hR_13 := Kd.keep _ hR_13 (hmv _)
      replace hR_25 := Ojt.keep hR_25 (hmv _) (fun b hb => hmr b (flat_mem (by simp) hb))
      replace hE := hE'; replace hI := hI.rebase; clear hE' hmv hmr
      refine buildSlice_ (S0 := S) (d := (Kd.int .u32)) (e := 60) hF hE hI (wanted_none rfl) rfl (by kernel_rfl) (cs := [.int .u32 a1]) (by kernel_rfl) [a1] [(svL [])] rfl rfl (by simp [maxLen]) (fun i x hi => by cases i with | zero => (simp only [List.getElem?_cons_zero, Option.some.injEq] at hi; subst hi; exact ⟨trivial, rfl⟩) | succ i => (simp only [List.getElem?_cons_succ] at hi; simp at hi)) (fun A_198 => (s_ [e_ 55 (.slice A_198 ([a1] : List Int).length (([a1] : List Int).length)), e_ 54 (.int .u32 a1), e_ 53 (.int .u64 (IntKind.u64.wrap (Int.tmod a0 2))), e_ 52 (.agg #[.int .i64 0, .bool false, .slice none 0 0, .slice none 0 0]), e_ 51 (.agg ((kd_Config).cells t_10 sv_12).toArray), e_ 10 (.int .u64 (IntKind.u64.wrap (Int.tmod a0 2))), e_ 8 (.pointer none), e_ 6 (.pointer (some ⟨B_41, 0, none⟩)), p_ 5 0 0, e_ 4 (.bool false), e_ 1 (.int .u32 a1)] [((((kd_Config).cells t_10 sv_12).map EV.v), 29)])) (fun A_198 => by kernel_rfl) (fun A_198 a w_200 hput hE' hI' hmv hmr hq_199 => ?_)
      replace hg0 := El.keep hg0 (hmv _)
      replace hR_13 := Kd.keep _ hR_13 (hmv _)
      replace hR_25 := Ojt.keep hR_25 (hmv _) (fun b hb => hmr b (flat_mem (by simp) hb) (by simp))
      replace hE := hE'; replace hI := hI'; clear hE' hI' hmv hmr
      refine ck0_ hF 1 hI (s_ [e_ 56 (.agg #[.int .i64 9, .int .i64 0, .int .u64 (IntKind.u64.wrap (Int.tmod a0 2)), .slice A_198 ([a1] : List Int).length (([a1] : List Int).length)]), e_ 52 (.agg #[.int .i64 0, .bool false, .slice none 0 0, .slice none 0 0]), e_ 51 (.agg ((kd_Config).cells t_10 sv_12).toArray), e_ 10 (.int .u64 (IntKind.u64.wrap (Int.tmod a0 2))), e_ 8 (.pointer none), e_ 6 (.pointer (some ⟨B_41, 0, none⟩)), p_ 5 0 0, e_ 4 (.bool false), e_ 1 (.int .u32 a1)] [((((kd_Config).cells t_10 sv_12).map EV.v), 29)]) rfl (by kernel_rfl) (fun ns_201 a w_202 hI => ?_)
      obtain ⟨hE', hmv, hmr⟩ := Ep.rebase hE hI
      replace hg0 := El.keep hg0 (hmv _)
      replace hR_13 := Kd.keep _ hR_13 (hmv _)
      replace hR_25 := Ojt.keep hR_25 (hmv _) (fun b hb => hmr b (flat_mem (by simp) hb))
      replace hq_199 := Row.keep hq_199 (hmv _) (fun b hb => hmr b (by simp [hb]))
      replace hE := hE'; replace hI := hI.rebase; clear hE' hmv hmr
      obtain ⟨hE', hmv, hq_199, hcap_203⟩ := Row.still (l1 := [(q_23.2 0), (q_32.2 0)]) (l2 := []) hq_199 (Nat.le_refl _) hE
      have hmr := hmr_ ([(q_23.2 0), (q_32.2 0), rb A_198] : List (List Nat)) w_202
      replace hg0 := El.keep hg0 (hmv _)
      replace hR_13 := Kd.keep _ hR_13 (hmv _)
      replace hR_25 := Ojt.keep hR_25 (hmv _) (fun b hb => hmr b (flat_mem (by simp) hb))
      replace hE := hE'
      clear hE' hmv hmr
      obtain ⟨t_204, hG_205, H0⟩ := bind_some H0
      have hbs_207 := hE.k.size
      refine callO_ hF hE hI (wanted_none rfl) rfl (args := [.agg ((kd_Config).cells t_10 sv_12).toArray, .agg ((kd_Standing).cells (⟨0, false, [], []⟩ : Standing) (svL [(none, 0), (none, 0)])).toArray, .int .u32 0, .agg ((kd_Request).cells (⟨9, 0, (IntKind.u64.wrap (Int.tmod a0 2)), ([a1] : List Int)⟩ : Request) (svL [(A_198, ([a1] : List Int).length)])).toArray]) rfl (enters Tryz.func22 (by kernel_rfl) rfl) (fun q_206 : SV × (Nat → List Nat) => .tuple #[.pointer ((q_206.1 0).1), .agg ((kd_Answer).cells t_204.2.1 (svO q_206.1 1)).toArray, .bool t_204.2.2]) [] (fun q_206 => [q_206.2 0]) _ (G_task_Begin.calls t_10 (⟨0, false, [], []⟩ : Standing) 0 (⟨9, 0, (IntKind.u64.wrap (Int.tmod a0 2)), ([a1] : List Int)⟩ : Request) sv_12 (svL [(none, 0), (none, 0)]) (svL [(A_198, ([a1] : List Int).length)]) w_202 (S0_ := Lo S w w_202 ns_201 [(q_23.2 0), (q_32.2 0)]) (contI (S := Lo S w w_202 ns_201 [(q_23.2 0), (q_32.2 0)]) (w := w_202) (d := kd_Config) (x := t_10) (sv := sv_12) ⟨⟨hR_13.1.1, hR_13.1.2⟩, ⟨hR_13.2.1.1, hR_13.2.1.2⟩, ⟨hR_13.2.2.1.1, hR_13.2.2.1.2⟩, ⟨hR_13.2.2.2.1.1, hR_13.2.2.2.1.2⟩, trivial⟩) (contI (S := Lo S w w_202 ns_201 [(q_23.2 0), (q_32.2 0)]) (w := w_202) (d := kd_Standing) (x := (⟨0, false, [], []⟩ : Standing)) (sv := (svL [(none, 0), (none, 0)])) ⟨⟨(Arr.nil _ _ _ _), (Nat.le_refl _)⟩, ⟨(Arr.nil _ _ _ _), (Nat.le_refl _)⟩, trivial⟩) (contI (S := Lo S w w_202 ns_201 [(q_23.2 0), (q_32.2 0)]) (w := w_202) (d := kd_Request) (x := (⟨9, 0, (IntKind.u64.wrap (Int.tmod a0 2)), ([a1] : List Int)⟩ : Request)) (sv := (svL [(A_198, ([a1] : List Int).length)])) ⟨⟨hq_199, hcap_203⟩, trivial⟩) hg0 _ hG_205) (.inr (fun b hb => by simp at hb)) (fun q_206 => (s_ [e_ 57 (.tuple #[.pointer ((q_206.1 0).1), .agg ((kd_Answer).cells t_204.2.1 (svO q_206.1 1)).toArray, .bool t_204.2.2]), e_ 56 (.agg ((kd_Request).cells (⟨9, 0, (IntKind.u64.wrap (Int.tmod a0 2)), ([a1] : List Int)⟩ : Request) (svL [(A_198, ([a1] : List Int).length)])).toArray), e_ 52 (.agg ((kd_Standing).cells (⟨0, false, [], []⟩ : Standing) (svL [(none, 0), (none, 0)])).toArray), e_ 51 (.agg ((kd_Config).cells t_10 sv_12).toArray), e_ 10 (.int .u64 (IntKind.u64.wrap (Int.tmod a0 2))), e_ 8 (.pointer none), e_ 6 (.pointer (some ⟨B_41, 0, none⟩)), p_ 5 0 0, e_ 4 (.bool false), e_ 1 (.int .u32 a1)] [((((kd_Config).cells t_10 sv_12).map EV.v), 29)])) (fun q_206 => by kernel_rfl) (fun q_206 a w_211 hput hE' hI' hmv hmr hres hR => ?_)
      replace hmv : ∀ S0, Mv (Lo S0 w w_202 ns_201 [(q_23.2 0), (q_32.2 0)]) w_202 (Lo S0 w w_211 ns_201 [(q_23.2 0), (q_32.2 0), (q_206.2 0)]) w_211 := hmv
      replace hmr : ∀ b ∈ ([(q_23.2 0), (q_32.2 0)] : List (List Nat)).flatten, w_211.heap[b]? = w_202.heap[b]? := hmr
      replace hE : Ep [] w w_211 ns_201 [(q_23.2 0), (q_32.2 0), (q_206.2 0)] := hE'
      replace hI := hI'
      clear hE' hI'
      replace hg0 := El.keep hg0 (hmv _)
      replace hR_13 := Kd.keep _ hR_13 (hmv _)
      replace hR_25 := Ojt.keep hR_25 (hmv _) (fun b hb => hmr b (flat_mem (by simp) hb))
      replace hq_199 := Arr.keep hq_199 (hmv _)
      clear hmv hmr
      obtain ⟨hR_208, hR_209⟩ := hR
      replace hR_208 := OjtN.keep hR_208 (hres _ (fun b hb => by simp at hb)) (fun _ _ => rfl)
      replace hR_209 := Kd.keep _ hR_209 (hres _ (fun b hb => by simp at hb))
      clear hres
      refine ck0_ hF 8 hI (s_ [e_ 13 (.bool t_204.2.2), e_ 11 (.pointer ((q_206.1 0).1)), e_ 10 (.int .u64 (IntKind.u64.wrap (Int.tmod a0 2))), e_ 8 (.pointer none), e_ 6 (.pointer (some ⟨B_41, 0, none⟩)), p_ 5 0 0, e_ 4 (.bool false), e_ 1 (.int .u32 a1)] [((((kd_Config).cells t_10 sv_12).map EV.v), 29), ((((kd_Answer).cells t_204.2.1 (svO q_206.1 1)).map EV.v), 48)]) rfl (by kernel_rfl) (fun ns_212 a w_213 hI => ?_)
      refine wpListIn_nil ?_
      refine then_normal ?_
      refine wpIn_seq ?_
      refine wpIn_region_lit ?_
      refine ck0_ hF 4 hI (s_ [e_ 65 (.agg #[.int .i64 8, .int .i64 0, .int .u64 (IntKind.u64.wrap (Int.tmod a0 2)), .slice none 0 0]), e_ 63 (.agg #[.int .i64 0, .bool false, .slice none 0 0, .slice none 0 0]), e_ 62 (.agg ((kd_Config).cells t_10 sv_12).toArray), e_ 13 (.bool t_204.2.2), e_ 11 (.pointer ((q_206.1 0).1)), e_ 10 (.int .u64 (IntKind.u64.wrap (Int.tmod a0 2))), e_ 8 (.pointer none), e_ 6 (.pointer (some ⟨B_41, 0, none⟩)), e_ 4 (.bool false), e_ 1 (.int .u32 a1)] [((((kd_Config).cells t_10 sv_12).map EV.v), 29), ((((kd_Answer).cells t_204.2.1 (svO q_206.1 1)).map EV.v), 48)]) rfl (by kernel_rfl) (fun ns_214 a w_215 hI => ?_)
      obtain ⟨hE', hmv, hmr⟩ := Ep.rebase hE hI
      replace hg0 := El.keep hg0 (hmv _)
      replace hR_13 := Kd.keep _ hR_13 (hmv _)
      replace hR_25 := Ojt.keep hR_25 (hmv _) (fun b hb => hmr b (flat_mem (by simp) hb))
      replace hq_199 := Arr.keep hq_199 (hmv _)
      replace hR_208 := OjtN.keep hR_208 (hmv _) (fun b hb => hmr b (flat_mem (by simp) hb))
      replace hR_209 := Kd.keep _ hR_209 (hmv _)
      replace hE := hE'; replace hI := hI.rebase; clear hE' hmv hmr
      obtain ⟨t_216, hG_217, H0⟩ := bind_some H0
      have hbs_219 := hE.k.size
      refine callO_ hF hE hI (wanted_none rfl) rfl (args := [.agg ((kd_Config).cells t_10 sv_12).toArray, .agg ((kd_Standing).cells (⟨0, false, [], []⟩ : Standing) (svL [(none, 0), (none, 0)])).toArray, .int .u32 0, .agg ((kd_Request).cells (⟨8, 0, (IntKind.u64.wrap (Int.tmod a0 2)), []⟩ : Request) (svL [(none, 0)])).toArray]) rfl (enters Tryz.func22 (by kernel_rfl) rfl) (fun q_218 : SV × (Nat → List Nat) => .tuple #[.pointer ((q_218.1 0).1), .agg ((kd_Answer).cells t_216.2.1 (svO q_218.1 1)).toArray, .bool t_216.2.2]) [] (fun q_218 => [q_218.2 0]) _ (G_task_Begin.calls t_10 (⟨0, false, [], []⟩ : Standing) 0 (⟨8, 0, (IntKind.u64.wrap (Int.tmod a0 2)), []⟩ : Request) sv_12 (svL [(none, 0), (none, 0)]) (svL [(none, 0)]) w_215 (S0_ := Lo S w w_215 ns_214 [(q_23.2 0), (q_32.2 0), (q_206.2 0)]) (contI (S := Lo S w w_215 ns_214 [(q_23.2 0), (q_32.2 0), (q_206.2 0)]) (w := w_215) (d := kd_Config) (x := t_10) (sv := sv_12) ⟨⟨hR_13.1.1, hR_13.1.2⟩, ⟨hR_13.2.1.1, hR_13.2.1.2⟩, ⟨hR_13.2.2.1.1, hR_13.2.2.1.2⟩, ⟨hR_13.2.2.2.1.1, hR_13.2.2.2.1.2⟩, trivial⟩) (contI (S := Lo S w w_215 ns_214 [(q_23.2 0), (q_32.2 0), (q_206.2 0)]) (w := w_215) (d := kd_Standing) (x := (⟨0, false, [], []⟩ : Standing)) (sv := (svL [(none, 0), (none, 0)])) ⟨⟨(Arr.nil _ _ _ _), (Nat.le_refl _)⟩, ⟨(Arr.nil _ _ _ _), (Nat.le_refl _)⟩, trivial⟩) (contI (S := Lo S w w_215 ns_214 [(q_23.2 0), (q_32.2 0), (q_206.2 0)]) (w := w_215) (d := kd_Request) (x := (⟨8, 0, (IntKind.u64.wrap (Int.tmod a0 2)), []⟩ : Request)) (sv := (svL [(none, 0)])) ⟨⟨(Arr.nil _ _ _ _), (Nat.le_refl _)⟩, trivial⟩) hg0 _ hG_217) (.inr (fun b hb => by simp at hb)) (fun q_218 => (s_ [e_ 66 (.tuple #[.pointer ((q_218.1 0).1), .agg ((kd_Answer).cells t_216.2.1 (svO q_218.1 1)).toArray, .bool t_216.2.2]), e_ 65 (.agg ((kd_Request).cells (⟨8, 0, (IntKind.u64.wrap (Int.tmod a0 2)), []⟩ : Request) (svL [(none, 0)])).toArray), e_ 63 (.agg ((kd_Standing).cells (⟨0, false, [], []⟩ : Standing) (svL [(none, 0), (none, 0)])).toArray), e_ 62 (.agg ((kd_Config).cells t_10 sv_12).toArray), e_ 13 (.bool t_204.2.2), e_ 11 (.pointer ((q_206.1 0).1)), e_ 10 (.int .u64 (IntKind.u64.wrap (Int.tmod a0 2))), e_ 8 (.pointer none), e_ 6 (.pointer (some ⟨B_41, 0, none⟩)), e_ 4 (.bool false), e_ 1 (.int .u32 a1)] [((((kd_Config).cells t_10 sv_12).map EV.v), 29), ((((kd_Answer).cells t_204.2.1 (svO q_206.1 1)).map EV.v), 48)])) (fun q_218 => by kernel_rfl) (fun q_218 a w_223 hput hE' hI' hmv hmr hres hR => ?_)
      replace hmv : ∀ S0, Mv (Lo S0 w w_215 ns_214 [(q_23.2 0), (q_32.2 0), (q_206.2 0)]) w_215 (Lo S0 w w_223 ns_214 [(q_23.2 0), (q_32.2 0), (q_206.2 0), (q_218.2 0)]) w_223 := hmv
      replace hmr : ∀ b ∈ ([(q_23.2 0), (q_32.2 0), (q_206.2 0)] : List (List Nat)).flatten, w_223.heap[b]? = w_215.heap[b]? := hmr
      replace hE : Ep [] w w_223 ns_214 [(q_23.2 0), (q_32.2 0), (q_206.2 0), (q_218.2 0)] := hE'
      replace hI := hI'
      clear hE' hI'
      replace hg0 := El.keep hg0 (hmv _)
      replace hR_13 := Kd.keep _ hR_13 (hmv _)
      replace hR_25 := Ojt.keep hR_25 (hmv _) (fun b hb => hmr b (flat_mem (by simp) hb))
      replace hq_199 := Arr.keep hq_199 (hmv _)
      replace hR_208 := OjtN.keep hR_208 (hmv _) (fun b hb => hmr b (flat_mem (by simp) hb))
      replace hR_209 := Kd.keep _ hR_209 (hmv _)
      clear hmv hmr
      obtain ⟨hR_220, hR_221⟩ := hR
      replace hR_220 := OjtN.keep hR_220 (hres _ (fun b hb => by simp at hb)) (fun _ _ => rfl)
      replace hR_221 := Kd.keep _ hR_221 (hres _ (fun b hb => by simp at hb))
      clear hres
      refine ck0_ hF 8 hI (s_ [e_ 16 (.bool t_216.2.2), e_ 14 (.pointer ((q_218.1 0).1)), e_ 13 (.bool t_204.2.2), e_ 11 (.pointer ((q_206.1 0).1)), e_ 10 (.int .u64 (IntKind.u64.wrap (Int.tmod a0 2))), e_ 8 (.pointer none), e_ 6 (.pointer (some ⟨B_41, 0, none⟩)), e_ 4 (.bool false), e_ 1 (.int .u32 a1)] [((((kd_Config).cells t_10 sv_12).map EV.v), 29), ((((kd_Answer).cells t_204.2.1 (svO q_206.1 1)).map EV.v), 48), ((((kd_Answer).cells t_216.2.1 (svO q_218.1 1)).map EV.v), 48)]) rfl (by kernel_rfl) (fun ns_224 a w_225 hI => ?_)
      refine wpListIn_nil ?_
      refine then_normal ?_
      refine wpIn_seq ?_
      obtain ⟨hE', hmv, hmr⟩ := Ep.rebase hE hI
      replace hg0 := El.keep hg0 (hmv _)
      replace hR_13 := Kd.keep _ hR_13 (hmv _)
      replace hR_25 := Ojt.keep hR_25 (hmv _) (fun b hb => hmr b (flat_mem (by simp) hb))
      replace hq_199 := Arr.keep hq_199 (hmv _)
      replace hR_208 := OjtN.keep hR_208 (hmv _) (fun b hb => hmr b (flat_mem (by simp) hb))
      replace hR_209 := Kd.keep _ hR_209 (hmv _)
      replace hR_220 := OjtN.keep hR_220 (hmv _) (fun b hb => hmr b (flat_mem (by simp) hb))
      replace hR_221 := Kd.keep _ hR_221 (hmv _)
      replace hE := hE'; replace hI := hI.rebase; clear hE' hmv hmr
      rcases opt_split H0 with ⟨hx_226, H0⟩ | ⟨y_227, hx_226, H0⟩
      ·obtain ⟨hA_229, _⟩ := OjtN.none_of hR_208 hx_226
       replace hI := Inv.cast (σf := fun q_ => (s_ [e_ 16 (.bool t_216.2.2), e_ 14 (.pointer ((q_218.1 0).1)), e_ 13 (.bool t_204.2.2), e_ 11 (.pointer q_), e_ 10 (.int .u64 (IntKind.u64.wrap (Int.tmod a0 2))), e_ 8 (.pointer none), e_ 6 (.pointer (some ⟨B_41, 0, none⟩)), e_ 4 (.bool false), e_ 1 (.int .u32 a1)] [((((kd_Config).cells t_10 sv_12).map EV.v), 29), ((((kd_Answer).cells t_204.2.1 (svO q_206.1 1)).map EV.v), 48), ((((kd_Answer).cells t_216.2.1 (svO q_218.1 1)).map EV.v), 48)])) hA_229 hI
       rcases opt_split H0 with ⟨hx_230, H0⟩ | ⟨y_231, hx_230, H0⟩
       ·obtain ⟨hA_233, _⟩ := OjtN.none_of hR_220 hx_230
        replace hI := Inv.cast (σf := fun q_ => (s_ [e_ 16 (.bool t_216.2.2), e_ 14 (.pointer q_), e_ 13 (.bool t_204.2.2), e_ 11 (.pointer none), e_ 10 (.int .u64 (IntKind.u64.wrap (Int.tmod a0 2))), e_ 8 (.pointer none), e_ 6 (.pointer (some ⟨B_41, 0, none⟩)), e_ 4 (.bool false), e_ 1 (.int .u32 a1)] [((((kd_Config).cells t_10 sv_12).map EV.v), 29), ((((kd_Answer).cells t_204.2.1 (svO q_206.1 1)).map EV.v), 48), ((((kd_Answer).cells t_216.2.1 (svO q_218.1 1)).map EV.v), 48)])) hA_233 hI
        cases H0
       ·obtain ⟨B_232, hA_233, hR_220⟩ := OjtN.some_of hR_220 hx_230
        replace hI := Inv.cast (σf := fun q_ => (s_ [e_ 16 (.bool t_216.2.2), e_ 14 (.pointer q_), e_ 13 (.bool t_204.2.2), e_ 11 (.pointer none), e_ 10 (.int .u64 (IntKind.u64.wrap (Int.tmod a0 2))), e_ 8 (.pointer none), e_ 6 (.pointer (some ⟨B_41, 0, none⟩)), e_ 4 (.bool false), e_ 1 (.int .u32 a1)] [((((kd_Config).cells t_10 sv_12).map EV.v), 29), ((((kd_Answer).cells t_204.2.1 (svO q_206.1 1)).map EV.v), 48), ((((kd_Answer).cells t_216.2.1 (svO q_218.1 1)).map EV.v), 48)])) hA_233 hI
        cases H0
      ·obtain ⟨B_228, hA_229, hR_208⟩ := OjtN.some_of hR_208 hx_226
       replace hI := Inv.cast (σf := fun q_ => (s_ [e_ 16 (.bool t_216.2.2), e_ 14 (.pointer ((q_218.1 0).1)), e_ 13 (.bool t_204.2.2), e_ 11 (.pointer q_), e_ 10 (.int .u64 (IntKind.u64.wrap (Int.tmod a0 2))), e_ 8 (.pointer none), e_ 6 (.pointer (some ⟨B_41, 0, none⟩)), e_ 4 (.bool false), e_ 1 (.int .u32 a1)] [((((kd_Config).cells t_10 sv_12).map EV.v), 29), ((((kd_Answer).cells t_204.2.1 (svO q_206.1 1)).map EV.v), 48), ((((kd_Answer).cells t_216.2.1 (svO q_218.1 1)).map EV.v), 48)])) hA_229 hI
       rcases opt_split H0 with ⟨hx_244, H0⟩ | ⟨y_245, hx_244, H0⟩
       ·obtain ⟨hA_247, _⟩ := OjtN.none_of hR_220 hx_244
        replace hI := Inv.cast (σf := fun q_ => (s_ [e_ 16 (.bool t_216.2.2), e_ 14 (.pointer q_), e_ 13 (.bool t_204.2.2), e_ 11 (.pointer (some ⟨B_228, 0, none⟩)), e_ 10 (.int .u64 (IntKind.u64.wrap (Int.tmod a0 2))), e_ 8 (.pointer none), e_ 6 (.pointer (some ⟨B_41, 0, none⟩)), e_ 4 (.bool false), e_ 1 (.int .u32 a1)] [((((kd_Config).cells t_10 sv_12).map EV.v), 29), ((((kd_Answer).cells t_204.2.1 (svO q_206.1 1)).map EV.v), 48), ((((kd_Answer).cells t_216.2.1 (svO q_218.1 1)).map EV.v), 48)])) hA_247 hI
        cases H0
       ·obtain ⟨B_246, hA_247, hR_220⟩ := OjtN.some_of hR_220 hx_244
        replace hI := Inv.cast (σf := fun q_ => (s_ [e_ 16 (.bool t_216.2.2), e_ 14 (.pointer q_), e_ 13 (.bool t_204.2.2), e_ 11 (.pointer (some ⟨B_228, 0, none⟩)), e_ 10 (.int .u64 (IntKind.u64.wrap (Int.tmod a0 2))), e_ 8 (.pointer none), e_ 6 (.pointer (some ⟨B_41, 0, none⟩)), e_ 4 (.bool false), e_ 1 (.int .u32 a1)] [((((kd_Config).cells t_10 sv_12).map EV.v), 29), ((((kd_Answer).cells t_204.2.1 (svO q_206.1 1)).map EV.v), 48), ((((kd_Answer).cells t_216.2.1 (svO q_218.1 1)).map EV.v), 48)])) hA_247 hI
        cases H0
    ·obtain ⟨B_187, hA_188, hR_34⟩ := OjtN.some_of hR_34 hx_185
     replace hI := Inv.cast (σf := fun q_ => (s_ [e_ 9 (.int .i64 t_30.2), e_ 8 (.pointer q_), e_ 7 (.int .i64 t_21.2), e_ 6 (.pointer (some ⟨B_41, 0, none⟩)), p_ 5 0 0, e_ 4 (.bool false), e_ 0 (.int .u8 a0), e_ 1 (.int .u32 a1)] [((((kd_Config).cells t_10 sv_12).map EV.v), 29)])) hA_188 hI
     refine sr0_ hF hI (s_ [e_ 46 (.bool ((((t_21.2 != 0) || (t_30.2 != 0)) || false) || false)), e_ 8 (.pointer (some ⟨B_187, 0, none⟩)), e_ 6 (.pointer (some ⟨B_41, 0, none⟩)), p_ 5 0 0, e_ 4 (.bool false), e_ 0 (.int .u8 a0), e_ 1 (.int .u32 a1)] [((((kd_Config).cells t_10 sv_12).map EV.v), 29)]) (by kernel_rfl) (fun ns_258 a w_259 hI => ?_)
     refine cond_ hI (((((t_21.2 != 0) || (t_30.2 != 0)) || false) || false)) rfl (fun hc_260 => ?_) (fun hc_260 => ?_)
     ·replace H0 := bif_t hc_260 H0
      refine sr0_ hF hI (s_ [e_ 4 (.bool false)] [((((kd_Config).cells t_10 sv_12).map EV.v), 29)]) (by kernel_rfl) (fun ns_261 a w_262 hI => ?_)
      refine wpIn_ret ?_
      refine then_ret ?_
      obtain rfl := Option.some.inj H0
      exact ret1 hI rfl rfl ⟨rfl, hE.below hI⟩
     ·replace H0 := bif_f hc_260 H0
      refine wpIn_skip ?_
      refine then_normal ?_
      refine sr_ (orc := []) hF hI (s_ [e_ 10 (.int .u64 (IntKind.u64.wrap (Int.tmod a0 2))), e_ 8 (.pointer (some ⟨B_187, 0, none⟩)), e_ 6 (.pointer (some ⟨B_41, 0, none⟩)), p_ 5 0 0, e_ 4 (.bool false), e_ 1 (.int .u32 a1)] [((((kd_Config).cells t_10 sv_12).map EV.v), 29)]) [.need true (¬ (2 : Int) = 0)] (by kernel_rfl) ⟨(fun _ => by decide), trivial⟩ (fun ns_263 a w_264 hI => ?_)
      refine wpIn_seq ?_
      refine wpIn_region_lit ?_
      refine ck0_ hF 4 hI (s_ [e_ 54 (.int .u32 a1), e_ 53 (.int .u64 (IntKind.u64.wrap (Int.tmod a0 2))), e_ 52 (.agg #[.int .i64 0, .bool false, .slice none 0 0, .slice none 0 0]), e_ 51 (.agg ((kd_Config).cells t_10 sv_12).toArray), e_ 10 (.int .u64 (IntKind.u64.wrap (Int.tmod a0 2))), e_ 8 (.pointer (some ⟨B_187, 0, none⟩)), e_ 6 (.pointer (some ⟨B_41, 0, none⟩)), p_ 5 0 0, e_ 4 (.bool false), e_ 1 (.int .u32 a1)] [((((kd_Config).cells t_10 sv_12).map EV.v), 29)]) rfl (by kernel_rfl) (fun ns_265 a w_266 hI => ?_)
      obtain ⟨hE', hmv, hmr⟩ := Ep.rebase hE hI
      replace hg0 := El.keep hg0 (hmv _)
      replace hR_13 := Kd.keep _ hR_13 (hmv _)
      replace hR_25 := Ojt.keep hR_25 (hmv _) (fun b hb => hmr b (flat_mem (by simp) hb))
      replace hR_34 := Ojt.keep hR_34 (hmv _) (fun b hb => hmr b (flat_mem (by simp) hb))
      replace hE := hE'; replace hI := hI.rebase; clear hE' hmv hmr
      refine buildSlice_ (S0 := S) (d := (Kd.int .u32)) (e := 60) hF hE hI (wanted_none rfl) rfl (by kernel_rfl) (cs := [.int .u32 a1]) (by kernel_rfl) [a1] [(svL [])] rfl rfl (by simp [maxLen]) (fun i x hi => by cases i with | zero => (simp only [List.getElem?_cons_zero, Option.some.injEq] at hi; subst hi; exact ⟨trivial, rfl⟩) | succ i => (simp only [List.getElem?_cons_succ] at hi; simp at hi)) (fun A_267 => (s_ [e_ 55 (.slice A_267 ([a1] : List Int).length (([a1] : List Int).length)), e_ 54 (.int .u32 a1), e_ 53 (.int .u64 (IntKind.u64.wrap (Int.tmod a0 2))), e_ 52 (.agg #[.int .i64 0, .bool false, .slice none 0 0, .slice none 0 0]), e_ 51 (.agg ((kd_Config).cells t_10 sv_12).toArray), e_ 10 (.int .u64 (IntKind.u64.wrap (Int.tmod a0 2))), e_ 8 (.pointer (some ⟨B_187, 0, none⟩)), e_ 6 (.pointer (some ⟨B_41, 0, none⟩)), p_ 5 0 0, e_ 4 (.bool false), e_ 1 (.int .u32 a1)] [((((kd_Config).cells t_10 sv_12).map EV.v), 29)])) (fun A_267 => by kernel_rfl) (fun A_267 a w_269 hput hE' hI' hmv hmr hq_268 => ?_)
      replace hg0 := El.keep hg0 (hmv _)
      replace hR_13 := Kd.keep _ hR_13 (hmv _)
      replace hR_25 := Ojt.keep hR_25 (hmv _) (fun b hb => hmr b (flat_mem (by simp) hb) (by simp))
      replace hR_34 := Ojt.keep hR_34 (hmv _) (fun b hb => hmr b (flat_mem (by simp) hb) (by simp))
      replace hE := hE'; replace hI := hI'; clear hE' hI' hmv hmr
      refine ck0_ hF 1 hI (s_ [e_ 56 (.agg #[.int .i64 9, .int .i64 0, .int .u64 (IntKind.u64.wrap (Int.tmod a0 2)), .slice A_267 ([a1] : List Int).length (([a1] : List Int).length)]), e_ 52 (.agg #[.int .i64 0, .bool false, .slice none 0 0, .slice none 0 0]), e_ 51 (.agg ((kd_Config).cells t_10 sv_12).toArray), e_ 10 (.int .u64 (IntKind.u64.wrap (Int.tmod a0 2))), e_ 8 (.pointer (some ⟨B_187, 0, none⟩)), e_ 6 (.pointer (some ⟨B_41, 0, none⟩)), p_ 5 0 0, e_ 4 (.bool false), e_ 1 (.int .u32 a1)] [((((kd_Config).cells t_10 sv_12).map EV.v), 29)]) rfl (by kernel_rfl) (fun ns_270 a w_271 hI => ?_)
      obtain ⟨hE', hmv, hmr⟩ := Ep.rebase hE hI
      replace hg0 := El.keep hg0 (hmv _)
      replace hR_13 := Kd.keep _ hR_13 (hmv _)
      replace hR_25 := Ojt.keep hR_25 (hmv _) (fun b hb => hmr b (flat_mem (by simp) hb))
      replace hR_34 := Ojt.keep hR_34 (hmv _) (fun b hb => hmr b (flat_mem (by simp) hb))
      replace hq_268 := Row.keep hq_268 (hmv _) (fun b hb => hmr b (by simp [hb]))
      replace hE := hE'; replace hI := hI.rebase; clear hE' hmv hmr
      obtain ⟨hE', hmv, hq_268, hcap_272⟩ := Row.still (l1 := [(q_23.2 0), (q_32.2 0)]) (l2 := []) hq_268 (Nat.le_refl _) hE
      have hmr := hmr_ ([(q_23.2 0), (q_32.2 0), rb A_267] : List (List Nat)) w_271
      replace hg0 := El.keep hg0 (hmv _)
      replace hR_13 := Kd.keep _ hR_13 (hmv _)
      replace hR_25 := Ojt.keep hR_25 (hmv _) (fun b hb => hmr b (flat_mem (by simp) hb))
      replace hR_34 := Ojt.keep hR_34 (hmv _) (fun b hb => hmr b (flat_mem (by simp) hb))
      replace hE := hE'
      clear hE' hmv hmr
      obtain ⟨t_273, hG_274, H0⟩ := bind_some H0
      have hbs_276 := hE.k.size
      refine callO_ hF hE hI (wanted_none rfl) rfl (args := [.agg ((kd_Config).cells t_10 sv_12).toArray, .agg ((kd_Standing).cells (⟨0, false, [], []⟩ : Standing) (svL [(none, 0), (none, 0)])).toArray, .int .u32 0, .agg ((kd_Request).cells (⟨9, 0, (IntKind.u64.wrap (Int.tmod a0 2)), ([a1] : List Int)⟩ : Request) (svL [(A_267, ([a1] : List Int).length)])).toArray]) rfl (enters Tryz.func22 (by kernel_rfl) rfl) (fun q_275 : SV × (Nat → List Nat) => .tuple #[.pointer ((q_275.1 0).1), .agg ((kd_Answer).cells t_273.2.1 (svO q_275.1 1)).toArray, .bool t_273.2.2]) [] (fun q_275 => [q_275.2 0]) _ (G_task_Begin.calls t_10 (⟨0, false, [], []⟩ : Standing) 0 (⟨9, 0, (IntKind.u64.wrap (Int.tmod a0 2)), ([a1] : List Int)⟩ : Request) sv_12 (svL [(none, 0), (none, 0)]) (svL [(A_267, ([a1] : List Int).length)]) w_271 (S0_ := Lo S w w_271 ns_270 [(q_23.2 0), (q_32.2 0)]) (contI (S := Lo S w w_271 ns_270 [(q_23.2 0), (q_32.2 0)]) (w := w_271) (d := kd_Config) (x := t_10) (sv := sv_12) ⟨⟨hR_13.1.1, hR_13.1.2⟩, ⟨hR_13.2.1.1, hR_13.2.1.2⟩, ⟨hR_13.2.2.1.1, hR_13.2.2.1.2⟩, ⟨hR_13.2.2.2.1.1, hR_13.2.2.2.1.2⟩, trivial⟩) (contI (S := Lo S w w_271 ns_270 [(q_23.2 0), (q_32.2 0)]) (w := w_271) (d := kd_Standing) (x := (⟨0, false, [], []⟩ : Standing)) (sv := (svL [(none, 0), (none, 0)])) ⟨⟨(Arr.nil _ _ _ _), (Nat.le_refl _)⟩, ⟨(Arr.nil _ _ _ _), (Nat.le_refl _)⟩, trivial⟩) (contI (S := Lo S w w_271 ns_270 [(q_23.2 0), (q_32.2 0)]) (w := w_271) (d := kd_Request) (x := (⟨9, 0, (IntKind.u64.wrap (Int.tmod a0 2)), ([a1] : List Int)⟩ : Request)) (sv := (svL [(A_267, ([a1] : List Int).length)])) ⟨⟨hq_268, hcap_272⟩, trivial⟩) hg0 _ hG_274) (.inr (fun b hb => by simp at hb)) (fun q_275 => (s_ [e_ 57 (.tuple #[.pointer ((q_275.1 0).1), .agg ((kd_Answer).cells t_273.2.1 (svO q_275.1 1)).toArray, .bool t_273.2.2]), e_ 56 (.agg ((kd_Request).cells (⟨9, 0, (IntKind.u64.wrap (Int.tmod a0 2)), ([a1] : List Int)⟩ : Request) (svL [(A_267, ([a1] : List Int).length)])).toArray), e_ 52 (.agg ((kd_Standing).cells (⟨0, false, [], []⟩ : Standing) (svL [(none, 0), (none, 0)])).toArray), e_ 51 (.agg ((kd_Config).cells t_10 sv_12).toArray), e_ 10 (.int .u64 (IntKind.u64.wrap (Int.tmod a0 2))), e_ 8 (.pointer (some ⟨B_187, 0, none⟩)), e_ 6 (.pointer (some ⟨B_41, 0, none⟩)), p_ 5 0 0, e_ 4 (.bool false), e_ 1 (.int .u32 a1)] [((((kd_Config).cells t_10 sv_12).map EV.v), 29)])) (fun q_275 => by kernel_rfl) (fun q_275 a w_280 hput hE' hI' hmv hmr hres hR => ?_)
      replace hmv : ∀ S0, Mv (Lo S0 w w_271 ns_270 [(q_23.2 0), (q_32.2 0)]) w_271 (Lo S0 w w_280 ns_270 [(q_23.2 0), (q_32.2 0), (q_275.2 0)]) w_280 := hmv
      replace hmr : ∀ b ∈ ([(q_23.2 0), (q_32.2 0)] : List (List Nat)).flatten, w_280.heap[b]? = w_271.heap[b]? := hmr
      replace hE : Ep [] w w_280 ns_270 [(q_23.2 0), (q_32.2 0), (q_275.2 0)] := hE'
      replace hI := hI'
      clear hE' hI'
      replace hg0 := El.keep hg0 (hmv _)
      replace hR_13 := Kd.keep _ hR_13 (hmv _)
      replace hR_25 := Ojt.keep hR_25 (hmv _) (fun b hb => hmr b (flat_mem (by simp) hb))
      replace hR_34 := Ojt.keep hR_34 (hmv _) (fun b hb => hmr b (flat_mem (by simp) hb))
      replace hq_268 := Arr.keep hq_268 (hmv _)
      clear hmv hmr
      obtain ⟨hR_277, hR_278⟩ := hR
      replace hR_277 := OjtN.keep hR_277 (hres _ (fun b hb => by simp at hb)) (fun _ _ => rfl)
      replace hR_278 := Kd.keep _ hR_278 (hres _ (fun b hb => by simp at hb))
      clear hres
      refine ck0_ hF 8 hI (s_ [e_ 13 (.bool t_273.2.2), e_ 11 (.pointer ((q_275.1 0).1)), e_ 10 (.int .u64 (IntKind.u64.wrap (Int.tmod a0 2))), e_ 8 (.pointer (some ⟨B_187, 0, none⟩)), e_ 6 (.pointer (some ⟨B_41, 0, none⟩)), p_ 5 0 0, e_ 4 (.bool false), e_ 1 (.int .u32 a1)] [((((kd_Config).cells t_10 sv_12).map EV.v), 29), ((((kd_Answer).cells t_273.2.1 (svO q_275.1 1)).map EV.v), 48)]) rfl (by kernel_rfl) (fun ns_281 a w_282 hI => ?_)
      refine wpListIn_nil ?_
      refine then_normal ?_
      refine wpIn_seq ?_
      refine wpIn_region_lit ?_
      refine ck0_ hF 4 hI (s_ [e_ 65 (.agg #[.int .i64 8, .int .i64 0, .int .u64 (IntKind.u64.wrap (Int.tmod a0 2)), .slice none 0 0]), e_ 63 (.agg #[.int .i64 0, .bool false, .slice none 0 0, .slice none 0 0]), e_ 62 (.agg ((kd_Config).cells t_10 sv_12).toArray), e_ 13 (.bool t_273.2.2), e_ 11 (.pointer ((q_275.1 0).1)), e_ 10 (.int .u64 (IntKind.u64.wrap (Int.tmod a0 2))), e_ 8 (.pointer (some ⟨B_187, 0, none⟩)), e_ 6 (.pointer (some ⟨B_41, 0, none⟩)), e_ 4 (.bool false), e_ 1 (.int .u32 a1)] [((((kd_Config).cells t_10 sv_12).map EV.v), 29), ((((kd_Answer).cells t_273.2.1 (svO q_275.1 1)).map EV.v), 48)]) rfl (by kernel_rfl) (fun ns_283 a w_284 hI => ?_)
      obtain ⟨hE', hmv, hmr⟩ := Ep.rebase hE hI
      replace hg0 := El.keep hg0 (hmv _)
      replace hR_13 := Kd.keep _ hR_13 (hmv _)
      replace hR_25 := Ojt.keep hR_25 (hmv _) (fun b hb => hmr b (flat_mem (by simp) hb))
      replace hR_34 := Ojt.keep hR_34 (hmv _) (fun b hb => hmr b (flat_mem (by simp) hb))
      replace hq_268 := Arr.keep hq_268 (hmv _)
      replace hR_277 := OjtN.keep hR_277 (hmv _) (fun b hb => hmr b (flat_mem (by simp) hb))
      replace hR_278 := Kd.keep _ hR_278 (hmv _)
      replace hE := hE'; replace hI := hI.rebase; clear hE' hmv hmr
      obtain ⟨t_285, hG_286, H0⟩ := bind_some H0
      have hbs_288 := hE.k.size
      refine callO_ hF hE hI (wanted_none rfl) rfl (args := [.agg ((kd_Config).cells t_10 sv_12).toArray, .agg ((kd_Standing).cells (⟨0, false, [], []⟩ : Standing) (svL [(none, 0), (none, 0)])).toArray, .int .u32 0, .agg ((kd_Request).cells (⟨8, 0, (IntKind.u64.wrap (Int.tmod a0 2)), []⟩ : Request) (svL [(none, 0)])).toArray]) rfl (enters Tryz.func22 (by kernel_rfl) rfl) (fun q_287 : SV × (Nat → List Nat) => .tuple #[.pointer ((q_287.1 0).1), .agg ((kd_Answer).cells t_285.2.1 (svO q_287.1 1)).toArray, .bool t_285.2.2]) [] (fun q_287 => [q_287.2 0]) _ (G_task_Begin.calls t_10 (⟨0, false, [], []⟩ : Standing) 0 (⟨8, 0, (IntKind.u64.wrap (Int.tmod a0 2)), []⟩ : Request) sv_12 (svL [(none, 0), (none, 0)]) (svL [(none, 0)]) w_284 (S0_ := Lo S w w_284 ns_283 [(q_23.2 0), (q_32.2 0), (q_275.2 0)]) (contI (S := Lo S w w_284 ns_283 [(q_23.2 0), (q_32.2 0), (q_275.2 0)]) (w := w_284) (d := kd_Config) (x := t_10) (sv := sv_12) ⟨⟨hR_13.1.1, hR_13.1.2⟩, ⟨hR_13.2.1.1, hR_13.2.1.2⟩, ⟨hR_13.2.2.1.1, hR_13.2.2.1.2⟩, ⟨hR_13.2.2.2.1.1, hR_13.2.2.2.1.2⟩, trivial⟩) (contI (S := Lo S w w_284 ns_283 [(q_23.2 0), (q_32.2 0), (q_275.2 0)]) (w := w_284) (d := kd_Standing) (x := (⟨0, false, [], []⟩ : Standing)) (sv := (svL [(none, 0), (none, 0)])) ⟨⟨(Arr.nil _ _ _ _), (Nat.le_refl _)⟩, ⟨(Arr.nil _ _ _ _), (Nat.le_refl _)⟩, trivial⟩) (contI (S := Lo S w w_284 ns_283 [(q_23.2 0), (q_32.2 0), (q_275.2 0)]) (w := w_284) (d := kd_Request) (x := (⟨8, 0, (IntKind.u64.wrap (Int.tmod a0 2)), []⟩ : Request)) (sv := (svL [(none, 0)])) ⟨⟨(Arr.nil _ _ _ _), (Nat.le_refl _)⟩, trivial⟩) hg0 _ hG_286) (.inr (fun b hb => by simp at hb)) (fun q_287 => (s_ [e_ 66 (.tuple #[.pointer ((q_287.1 0).1), .agg ((kd_Answer).cells t_285.2.1 (svO q_287.1 1)).toArray, .bool t_285.2.2]), e_ 65 (.agg ((kd_Request).cells (⟨8, 0, (IntKind.u64.wrap (Int.tmod a0 2)), []⟩ : Request) (svL [(none, 0)])).toArray), e_ 63 (.agg ((kd_Standing).cells (⟨0, false, [], []⟩ : Standing) (svL [(none, 0), (none, 0)])).toArray), e_ 62 (.agg ((kd_Config).cells t_10 sv_12).toArray), e_ 13 (.bool t_273.2.2), e_ 11 (.pointer ((q_275.1 0).1)), e_ 10 (.int .u64 (IntKind.u64.wrap (Int.tmod a0 2))), e_ 8 (.pointer (some ⟨B_187, 0, none⟩)), e_ 6 (.pointer (some ⟨B_41, 0, none⟩)), e_ 4 (.bool false), e_ 1 (.int .u32 a1)] [((((kd_Config).cells t_10 sv_12).map EV.v), 29), ((((kd_Answer).cells t_273.2.1 (svO q_275.1 1)).map EV.v), 48)])) (fun q_287 => by kernel_rfl) (fun q_287 a w_292 hput hE' hI' hmv hmr hres hR => ?_)
      replace hmv : ∀ S0, Mv (Lo S0 w w_284 ns_283 [(q_23.2 0), (q_32.2 0), (q_275.2 0)]) w_284 (Lo S0 w w_292 ns_283 [(q_23.2 0), (q_32.2 0), (q_275.2 0), (q_287.2 0)]) w_292 := hmv
      replace hmr : ∀ b ∈ ([(q_23.2 0), (q_32.2 0), (q_275.2 0)] : List (List Nat)).flatten, w_292.heap[b]? = w_284.heap[b]? := hmr
      replace hE : Ep [] w w_292 ns_283 [(q_23.2 0), (q_32.2 0), (q_275.2 0), (q_287.2 0)] := hE'
      replace hI := hI'
      clear hE' hI'
      replace hg0 := El.keep hg0 (hmv _)
      replace hR_13 := Kd.keep _ hR_13 (hmv _)
      replace hR_25 := Ojt.keep hR_25 (hmv _) (fun b hb => hmr b (flat_mem (by simp) hb))
      replace hR_34 := Ojt.keep hR_34 (hmv _) (fun b hb => hmr b (flat_mem (by simp) hb))
      replace hq_268 := Arr.keep hq_268 (hmv _)
      replace hR_277 := OjtN.keep hR_277 (hmv _) (fun b hb => hmr b (flat_mem (by simp) hb))
      replace hR_278 := Kd.keep _ hR_278 (hmv _)
      clear hmv hmr
      obtain ⟨hR_289, hR_290⟩ := hR
      replace hR_289 := OjtN.keep hR_289 (hres _ (fun b hb => by simp at hb)) (fun _ _ => rfl)
      replace hR_290 := Kd.keep _ hR_290 (hres _ (fun b hb => by simp at hb))
      clear hres
      refine ck0_ hF 8 hI (s_ [e_ 16 (.bool t_285.2.2), e_ 14 (.pointer ((q_287.1 0).1)), e_ 13 (.bool t_273.2.2), e_ 11 (.pointer ((q_275.1 0).1)), e_ 10 (.int .u64 (IntKind.u64.wrap (Int.tmod a0 2))), e_ 8 (.pointer (some ⟨B_187, 0, none⟩)), e_ 6 (.pointer (some ⟨B_41, 0, none⟩)), e_ 4 (.bool false), e_ 1 (.int .u32 a1)] [((((kd_Config).cells t_10 sv_12).map EV.v), 29), ((((kd_Answer).cells t_273.2.1 (svO q_275.1 1)).map EV.v), 48), ((((kd_Answer).cells t_285.2.1 (svO q_287.1 1)).map EV.v), 48)]) rfl (by kernel_rfl) (fun ns_293 a w_294 hI => ?_)
      refine wpListIn_nil ?_
      refine then_normal ?_
      refine wpIn_seq ?_
      obtain ⟨hE', hmv, hmr⟩ := Ep.rebase hE hI
      replace hg0 := El.keep hg0 (hmv _)
      replace hR_13 := Kd.keep _ hR_13 (hmv _)
      replace hR_25 := Ojt.keep hR_25 (hmv _) (fun b hb => hmr b (flat_mem (by simp) hb))
      replace hR_34 := Ojt.keep hR_34 (hmv _) (fun b hb => hmr b (flat_mem (by simp) hb))
      replace hq_268 := Arr.keep hq_268 (hmv _)
      replace hR_277 := OjtN.keep hR_277 (hmv _) (fun b hb => hmr b (flat_mem (by simp) hb))
      replace hR_278 := Kd.keep _ hR_278 (hmv _)
      replace hR_289 := OjtN.keep hR_289 (hmv _) (fun b hb => hmr b (flat_mem (by simp) hb))
      replace hR_290 := Kd.keep _ hR_290 (hmv _)
      replace hE := hE'; replace hI := hI.rebase; clear hE' hmv hmr
      rcases opt_split H0 with ⟨hx_295, H0⟩ | ⟨y_296, hx_295, H0⟩
      ·obtain ⟨hA_298, _⟩ := OjtN.none_of hR_277 hx_295
       replace hI := Inv.cast (σf := fun q_ => (s_ [e_ 16 (.bool t_285.2.2), e_ 14 (.pointer ((q_287.1 0).1)), e_ 13 (.bool t_273.2.2), e_ 11 (.pointer q_), e_ 10 (.int .u64 (IntKind.u64.wrap (Int.tmod a0 2))), e_ 8 (.pointer (some ⟨B_187, 0, none⟩)), e_ 6 (.pointer (some ⟨B_41, 0, none⟩)), e_ 4 (.bool false), e_ 1 (.int .u32 a1)] [((((kd_Config).cells t_10 sv_12).map EV.v), 29), ((((kd_Answer).cells t_273.2.1 (svO q_275.1 1)).map EV.v), 48), ((((kd_Answer).cells t_285.2.1 (svO q_287.1 1)).map EV.v), 48)])) hA_298 hI
       rcases opt_split H0 with ⟨hx_299, H0⟩ | ⟨y_300, hx_299, H0⟩
       ·obtain ⟨hA_302, _⟩ := OjtN.none_of hR_289 hx_299
        replace hI := Inv.cast (σf := fun q_ => (s_ [e_ 16 (.bool t_285.2.2), e_ 14 (.pointer q_), e_ 13 (.bool t_273.2.2), e_ 11 (.pointer none), e_ 10 (.int .u64 (IntKind.u64.wrap (Int.tmod a0 2))), e_ 8 (.pointer (some ⟨B_187, 0, none⟩)), e_ 6 (.pointer (some ⟨B_41, 0, none⟩)), e_ 4 (.bool false), e_ 1 (.int .u32 a1)] [((((kd_Config).cells t_10 sv_12).map EV.v), 29), ((((kd_Answer).cells t_273.2.1 (svO q_275.1 1)).map EV.v), 48), ((((kd_Answer).cells t_285.2.1 (svO q_287.1 1)).map EV.v), 48)])) hA_302 hI
        cases H0
       ·obtain ⟨B_301, hA_302, hR_289⟩ := OjtN.some_of hR_289 hx_299
        replace hI := Inv.cast (σf := fun q_ => (s_ [e_ 16 (.bool t_285.2.2), e_ 14 (.pointer q_), e_ 13 (.bool t_273.2.2), e_ 11 (.pointer none), e_ 10 (.int .u64 (IntKind.u64.wrap (Int.tmod a0 2))), e_ 8 (.pointer (some ⟨B_187, 0, none⟩)), e_ 6 (.pointer (some ⟨B_41, 0, none⟩)), e_ 4 (.bool false), e_ 1 (.int .u32 a1)] [((((kd_Config).cells t_10 sv_12).map EV.v), 29), ((((kd_Answer).cells t_273.2.1 (svO q_275.1 1)).map EV.v), 48), ((((kd_Answer).cells t_285.2.1 (svO q_287.1 1)).map EV.v), 48)])) hA_302 hI
        cases H0
      ·obtain ⟨B_297, hA_298, hR_277⟩ := OjtN.some_of hR_277 hx_295
       replace hI := Inv.cast (σf := fun q_ => (s_ [e_ 16 (.bool t_285.2.2), e_ 14 (.pointer ((q_287.1 0).1)), e_ 13 (.bool t_273.2.2), e_ 11 (.pointer q_), e_ 10 (.int .u64 (IntKind.u64.wrap (Int.tmod a0 2))), e_ 8 (.pointer (some ⟨B_187, 0, none⟩)), e_ 6 (.pointer (some ⟨B_41, 0, none⟩)), e_ 4 (.bool false), e_ 1 (.int .u32 a1)] [((((kd_Config).cells t_10 sv_12).map EV.v), 29), ((((kd_Answer).cells t_273.2.1 (svO q_275.1 1)).map EV.v), 48), ((((kd_Answer).cells t_285.2.1 (svO q_287.1 1)).map EV.v), 48)])) hA_298 hI
       rcases opt_split H0 with ⟨hx_313, H0⟩ | ⟨y_314, hx_313, H0⟩
       ·obtain ⟨hA_316, _⟩ := OjtN.none_of hR_289 hx_313
        replace hI := Inv.cast (σf := fun q_ => (s_ [e_ 16 (.bool t_285.2.2), e_ 14 (.pointer q_), e_ 13 (.bool t_273.2.2), e_ 11 (.pointer (some ⟨B_297, 0, none⟩)), e_ 10 (.int .u64 (IntKind.u64.wrap (Int.tmod a0 2))), e_ 8 (.pointer (some ⟨B_187, 0, none⟩)), e_ 6 (.pointer (some ⟨B_41, 0, none⟩)), e_ 4 (.bool false), e_ 1 (.int .u32 a1)] [((((kd_Config).cells t_10 sv_12).map EV.v), 29), ((((kd_Answer).cells t_273.2.1 (svO q_275.1 1)).map EV.v), 48), ((((kd_Answer).cells t_285.2.1 (svO q_287.1 1)).map EV.v), 48)])) hA_316 hI
        refine wpIn_seq ?_
        refine wpIn_region_lit ?_
        refine chunkT_ (liveT := [85, 84, 83, 82, 14, 10, 8, 6, 4, 1]) (liveF := [82, 14, 10, 8, 6, 4, 1]) (orc := []) hF 16 hI (!(((t_273.2.2 || t_285.2.2) || false) || true)) (s_ [e_ 85 (.pointer (some ⟨B_187, 0, none⟩)), e_ 84 (.pointer (some ⟨B_41, 0, none⟩)), e_ 83 (.pointer (some ⟨B_297, 0, none⟩)), e_ 82 (.bool (((t_273.2.2 || t_285.2.2) || false) || true)), e_ 14 (.pointer none), e_ 10 (.int .u64 (IntKind.u64.wrap (Int.tmod a0 2))), e_ 8 (.pointer (some ⟨B_187, 0, none⟩)), e_ 6 (.pointer (some ⟨B_41, 0, none⟩)), e_ 4 (.bool false), e_ 1 (.int .u32 a1)] [((((kd_Config).cells t_10 sv_12).map EV.v), 29), ((((kd_Answer).cells t_273.2.1 (svO q_275.1 1)).map EV.v), 48), ((((kd_Answer).cells t_285.2.1 (svO q_287.1 1)).map EV.v), 48)]) (s_ [e_ 82 (.bool (((t_273.2.2 || t_285.2.2) || false) || true)), e_ 14 (.pointer none), e_ 10 (.int .u64 (IntKind.u64.wrap (Int.tmod a0 2))), e_ 8 (.pointer (some ⟨B_187, 0, none⟩)), e_ 6 (.pointer (some ⟨B_41, 0, none⟩)), e_ 4 (.bool false), e_ 1 (.int .u32 a1)] [((((kd_Config).cells t_10 sv_12).map EV.v), 29), ((((kd_Answer).cells t_273.2.1 (svO q_275.1 1)).map EV.v), 48), ((((kd_Answer).cells t_285.2.1 (svO q_287.1 1)).map EV.v), 48)]) [] rfl (by kernel_rfl) trivial (fun hb_317 ns_318 a w_319 hI hW => ?_) (fun hb_317 ns_320 a w_321 hI hW => ?_)
        ·replace H0 := bif_t hb_317 H0
         obtain ⟨hE', hmv, hmr⟩ := Ep.rebase hE hI
         replace hg0 := El.keep hg0 (hmv _)
         replace hR_13 := Kd.keep _ hR_13 (hmv _)
         replace hR_25 := Ojt.keep hR_25 (hmv _) (fun b hb => hmr b (flat_mem (by simp) hb))
         replace hR_34 := Ojt.keep hR_34 (hmv _) (fun b hb => hmr b (flat_mem (by simp) hb))
         replace hq_268 := Arr.keep hq_268 (hmv _)
         replace hR_278 := Kd.keep _ hR_278 (hmv _)
         replace hR_290 := Kd.keep _ hR_290 (hmv _)
         replace hR_277 := Ojt.keep hR_277 (hmv _) (fun b hb => hmr b (flat_mem (by simp) hb))
         replace hE := hE'; replace hI := hI.rebase; clear hE' hmv hmr
         obtain ⟨t_322, hG_323, H0⟩ := bind_some H0
         have hbs_325 := hE.k.size
         refine callO_ hF hE hI hW rfl (args := [.pointer (some ⟨B_297, 0, none⟩), .pointer (some ⟨B_41, 0, none⟩), .pointer (some ⟨B_187, 0, none⟩), .int .i64 0]) rfl (enters Tryz.func31 (by kernel_rfl) rfl) (fun q_324 : SV × (Nat → List Nat) => .agg ((kd_Did).cells t_322.1 q_324.1).toArray) [2, 0, 1] (fun q_324 => [q_324.2 0, q_324.2 1, q_324.2 2]) _ (G_task_Task_Step.calls y_296 y_40 y_186 0 B_297 (q_275.2 0) B_41 (q_23.2 0) B_187 (q_32.2 0) w_319 (S0_ := Lo S w w_319 ns_318 [(q_23.2 0), (q_32.2 0), (q_275.2 0), (q_287.2 0)]) hR_277 hR_25 hR_34 (Lo.pick [2, 0, 1]) (hE.pick [2, 0, 1] (by decide)) (hE.pickLt [2, 0, 1]) _ hG_323) (.inl rfl) (fun q_324 => (s_ [e_ 86 (.agg ((kd_Did).cells t_322.1 q_324.1).toArray), e_ 85 (.pointer (some ⟨B_187, 0, none⟩)), e_ 84 (.pointer (some ⟨B_41, 0, none⟩)), e_ 83 (.pointer (some ⟨B_297, 0, none⟩)), e_ 82 (.bool (((t_273.2.2 || t_285.2.2) || false) || true)), e_ 14 (.pointer none), e_ 10 (.int .u64 (IntKind.u64.wrap (Int.tmod a0 2))), e_ 8 (.pointer (some ⟨B_187, 0, none⟩)), e_ 6 (.pointer (some ⟨B_41, 0, none⟩)), e_ 4 (.bool false), e_ 1 (.int .u32 a1)] [((((kd_Config).cells t_10 sv_12).map EV.v), 29), ((((kd_Answer).cells t_273.2.1 (svO q_275.1 1)).map EV.v), 48), ((((kd_Answer).cells t_285.2.1 (svO q_287.1 1)).map EV.v), 48)])) (fun q_324 => by kernel_rfl) (fun q_324 a w_327 hput hE' hI' hmv hmr hres hR => ?_)
         replace hmv : ∀ S0, Mv (Lo S0 w w_319 ns_318 [(q_23.2 0), (q_32.2 0), (q_275.2 0), (q_287.2 0)]) w_319 (Lo S0 w w_327 ns_318 [(q_287.2 0), (q_324.2 0), (q_324.2 1), (q_324.2 2)]) w_327 := hmv
         replace hmr : ∀ b ∈ ([(q_287.2 0)] : List (List Nat)).flatten, w_327.heap[b]? = w_319.heap[b]? := hmr
         replace hE : Ep [] w w_327 ns_318 [(q_287.2 0), (q_324.2 0), (q_324.2 1), (q_324.2 2)] := hE'
         replace hI := hI'
         clear hE' hI'
         replace hg0 := El.keep hg0 (hmv _)
         replace hR_13 := Kd.keep _ hR_13 (hmv _)
         replace hq_268 := Arr.keep hq_268 (hmv _)
         replace hR_278 := Kd.keep _ hR_278 (hmv _)
         replace hR_290 := Kd.keep _ hR_290 (hmv _)
         clear hmv hmr
         obtain ⟨hR_326, hR_277, hR_25, hR_34⟩ := hR
         replace hR_277 := Ojt.keep hR_277 (hres _ (fun b hb => by simp at hb)) (fun _ _ => rfl)
         replace hR_25 := Ojt.keep hR_25 (hres _ (fun b hb => by simp at hb)) (fun _ _ => rfl)
         replace hR_34 := Ojt.keep hR_34 (hres _ (fun b hb => by simp at hb)) (fun _ _ => rfl)
         replace hR_326 := Kd.keep _ hR_326 (hres _ (fun b hb => by simp at hb))
         clear hres
         refine unguardK_ hI (!(((t_273.2.2 || t_285.2.2) || false) || true)) (by kernel_rfl) (by first | exact hb_317 | exact b_nf hb_317 | exact b_nt hb_317 | exact b_fn hb_317 | exact b_tn hb_317 | simp [hb_317]) ?_
         refine ck0_ hF 1 hI (s_ [e_ 87 (.bool t_322.1.Done), e_ 82 (.bool (((t_273.2.2 || t_285.2.2) || false) || true)), e_ 14 (.pointer none), e_ 10 (.int .u64 (IntKind.u64.wrap (Int.tmod a0 2))), e_ 8 (.pointer (some ⟨B_187, 0, none⟩)), e_ 6 (.pointer (some ⟨B_41, 0, none⟩)), e_ 4 (.bool false), e_ 1 (.int .u32 a1)] [((((kd_Config).cells t_10 sv_12).map EV.v), 29), ((((kd_Answer).cells t_273.2.1 (svO q_275.1 1)).map EV.v), 48), ((((kd_Answer).cells t_285.2.1 (svO q_287.1 1)).map EV.v), 48)]) rfl (by kernel_rfl) (fun ns_328 a w_329 hI => ?_)
         refine unguardK_ hI (!(((t_273.2.2 || t_285.2.2) || false) || true)) (by kernel_rfl) (by first | exact hb_317 | exact b_nf hb_317 | exact b_nt hb_317 | exact b_fn hb_317 | exact b_tn hb_317 | simp [hb_317]) ?_
         refine ck0_ hF 2 hI (s_ [e_ 89 (.bool ((((t_273.2.2 || t_285.2.2) || false) || true) || (!t_322.1.Done))), e_ 14 (.pointer none), e_ 10 (.int .u64 (IntKind.u64.wrap (Int.tmod a0 2))), e_ 8 (.pointer (some ⟨B_187, 0, none⟩)), e_ 6 (.pointer (some ⟨B_41, 0, none⟩)), e_ 4 (.bool false), e_ 1 (.int .u32 a1)] [((((kd_Config).cells t_10 sv_12).map EV.v), 29), ((((kd_Answer).cells t_273.2.1 (svO q_275.1 1)).map EV.v), 48), ((((kd_Answer).cells t_285.2.1 (svO q_287.1 1)).map EV.v), 48)]) rfl (by kernel_rfl) (fun ns_330 a w_331 hI => ?_)
         refine wpListIn_nil ?_
         refine then_normal ?_
         refine cond_ hI (((((t_273.2.2 || t_285.2.2) || false) || true) || (!t_322.1.Done))) rfl (fun hc_332 => ?_) (fun hc_332 => ?_)
         ·replace H0 := bif_t hc_332 H0
          refine sr0_ hF hI (s_ [e_ 4 (.bool false)] [((((kd_Config).cells t_10 sv_12).map EV.v), 29), ((((kd_Answer).cells t_273.2.1 (svO q_275.1 1)).map EV.v), 48), ((((kd_Answer).cells t_285.2.1 (svO q_287.1 1)).map EV.v), 48)]) (by kernel_rfl) (fun ns_333 a w_334 hI => ?_)
          refine wpIn_ret ?_
          refine then_ret ?_
          obtain rfl := Option.some.inj H0
          exact ret1 hI rfl rfl ⟨rfl, hE.below hI⟩
         ·replace H0 := bif_f hc_332 H0
          refine wpIn_skip ?_
          refine then_normal ?_
          cases H0
        ·replace H0 := bif_f hb_317 H0
         refine skip1 hF hI hW (s_ [e_ 82 (.bool (((t_273.2.2 || t_285.2.2) || false) || true)), e_ 14 (.pointer none), e_ 10 (.int .u64 (IntKind.u64.wrap (Int.tmod a0 2))), e_ 8 (.pointer (some ⟨B_187, 0, none⟩)), e_ 6 (.pointer (some ⟨B_41, 0, none⟩)), e_ 4 (.bool false), e_ 1 (.int .u32 a1)] [((((kd_Config).cells t_10 sv_12).map EV.v), 29), ((((kd_Answer).cells t_273.2.1 (svO q_275.1 1)).map EV.v), 48), ((((kd_Answer).cells t_285.2.1 (svO q_287.1 1)).map EV.v), 48)]) (by kernel_rfl) (fun a hI => ?_)
         refine wantK_then hI (!(((t_273.2.2 || t_285.2.2) || false) || true)) (by kernel_rfl) (by first | exact hb_317 | exact b_nf hb_317 | exact b_nt hb_317 | exact b_fn hb_317 | exact b_tn hb_317 | simp [hb_317]) (fun hW => ?_)
         refine skip1 hF hI hW (s_ [e_ 82 (.bool (((t_273.2.2 || t_285.2.2) || false) || true)), e_ 14 (.pointer none), e_ 10 (.int .u64 (IntKind.u64.wrap (Int.tmod a0 2))), e_ 8 (.pointer (some ⟨B_187, 0, none⟩)), e_ 6 (.pointer (some ⟨B_41, 0, none⟩)), e_ 4 (.bool false), e_ 1 (.int .u32 a1)] [((((kd_Config).cells t_10 sv_12).map EV.v), 29), ((((kd_Answer).cells t_273.2.1 (svO q_275.1 1)).map EV.v), 48), ((((kd_Answer).cells t_285.2.1 (svO q_287.1 1)).map EV.v), 48)]) (by kernel_rfl) (fun a hI => ?_)
         refine wantK_then hI (!(((t_273.2.2 || t_285.2.2) || false) || true)) (by kernel_rfl) (by first | exact hb_317 | exact b_nf hb_317 | exact b_nt hb_317 | exact b_fn hb_317 | exact b_tn hb_317 | simp [hb_317]) (fun hW => ?_)
         refine skip1 hF hI hW (s_ [e_ 82 (.bool (((t_273.2.2 || t_285.2.2) || false) || true)), e_ 14 (.pointer none), e_ 10 (.int .u64 (IntKind.u64.wrap (Int.tmod a0 2))), e_ 8 (.pointer (some ⟨B_187, 0, none⟩)), e_ 6 (.pointer (some ⟨B_41, 0, none⟩)), e_ 4 (.bool false), e_ 1 (.int .u32 a1)] [((((kd_Config).cells t_10 sv_12).map EV.v), 29), ((((kd_Answer).cells t_273.2.1 (svO q_275.1 1)).map EV.v), 48), ((((kd_Answer).cells t_285.2.1 (svO q_287.1 1)).map EV.v), 48)]) (by kernel_rfl) (fun a hI => ?_)
         refine pick1 hF hI rfl rfl ((((t_273.2.2 || t_285.2.2) || false) || true)) true rfl (by first | exact hb_317 | exact b_nf hb_317 | exact b_nt hb_317 | exact b_fn hb_317 | exact b_tn hb_317 | simp [hb_317]) rfl (s_ [e_ 89 (.bool true), e_ 82 (.bool (((t_273.2.2 || t_285.2.2) || false) || true)), e_ 14 (.pointer none), e_ 10 (.int .u64 (IntKind.u64.wrap (Int.tmod a0 2))), e_ 8 (.pointer (some ⟨B_187, 0, none⟩)), e_ 6 (.pointer (some ⟨B_41, 0, none⟩)), e_ 4 (.bool false), e_ 1 (.int .u32 a1)] [((((kd_Config).cells t_10 sv_12).map EV.v), 29), ((((kd_Answer).cells t_273.2.1 (svO q_275.1 1)).map EV.v), 48), ((((kd_Answer).cells t_285.2.1 (svO q_287.1 1)).map EV.v), 48)]) (by kernel_rfl) (fun a hI => ?_)
         refine ck0_ hF 0 hI (s_ [e_ 89 (.bool true), e_ 14 (.pointer none), e_ 10 (.int .u64 (IntKind.u64.wrap (Int.tmod a0 2))), e_ 8 (.pointer (some ⟨B_187, 0, none⟩)), e_ 6 (.pointer (some ⟨B_41, 0, none⟩)), e_ 4 (.bool false), e_ 1 (.int .u32 a1)] [((((kd_Config).cells t_10 sv_12).map EV.v), 29), ((((kd_Answer).cells t_273.2.1 (svO q_275.1 1)).map EV.v), 48), ((((kd_Answer).cells t_285.2.1 (svO q_287.1 1)).map EV.v), 48)]) rfl (by kernel_rfl) (fun ns_337 a w_338 hI => ?_)
         refine wpListIn_nil ?_
         refine then_normal ?_
         refine cond_ hI true rfl (fun _ => ?_) (fun h => by cases h)
         refine sr0_ hF hI (s_ [e_ 4 (.bool false)] [((((kd_Config).cells t_10 sv_12).map EV.v), 29), ((((kd_Answer).cells t_273.2.1 (svO q_275.1 1)).map EV.v), 48), ((((kd_Answer).cells t_285.2.1 (svO q_287.1 1)).map EV.v), 48)]) (by kernel_rfl) (fun ns_339 a w_340 hI => ?_)
         refine wpIn_ret ?_
         refine then_ret ?_
         obtain rfl := Option.some.inj H0
         exact ret1 hI rfl rfl ⟨rfl, hE.below hI⟩
       ·obtain ⟨B_315, hA_316, hR_289⟩ := OjtN.some_of hR_289 hx_313
        replace hI := Inv.cast (σf := fun q_ => (s_ [e_ 16 (.bool t_285.2.2), e_ 14 (.pointer q_), e_ 13 (.bool t_273.2.2), e_ 11 (.pointer (some ⟨B_297, 0, none⟩)), e_ 10 (.int .u64 (IntKind.u64.wrap (Int.tmod a0 2))), e_ 8 (.pointer (some ⟨B_187, 0, none⟩)), e_ 6 (.pointer (some ⟨B_41, 0, none⟩)), e_ 4 (.bool false), e_ 1 (.int .u32 a1)] [((((kd_Config).cells t_10 sv_12).map EV.v), 29), ((((kd_Answer).cells t_273.2.1 (svO q_275.1 1)).map EV.v), 48), ((((kd_Answer).cells t_285.2.1 (svO q_287.1 1)).map EV.v), 48)])) hA_316 hI
        refine wpIn_seq ?_
        refine wpIn_region_lit ?_
        refine chunkT_ (liveT := [85, 84, 83, 82, 14, 10, 8, 6, 4, 1]) (liveF := [82, 14, 10, 8, 6, 4, 1]) (orc := []) hF 16 hI (!(((t_273.2.2 || t_285.2.2) || false) || false)) (s_ [e_ 85 (.pointer (some ⟨B_187, 0, none⟩)), e_ 84 (.pointer (some ⟨B_41, 0, none⟩)), e_ 83 (.pointer (some ⟨B_297, 0, none⟩)), e_ 82 (.bool (((t_273.2.2 || t_285.2.2) || false) || false)), e_ 14 (.pointer (some ⟨B_315, 0, none⟩)), e_ 10 (.int .u64 (IntKind.u64.wrap (Int.tmod a0 2))), e_ 8 (.pointer (some ⟨B_187, 0, none⟩)), e_ 6 (.pointer (some ⟨B_41, 0, none⟩)), e_ 4 (.bool false), e_ 1 (.int .u32 a1)] [((((kd_Config).cells t_10 sv_12).map EV.v), 29), ((((kd_Answer).cells t_273.2.1 (svO q_275.1 1)).map EV.v), 48), ((((kd_Answer).cells t_285.2.1 (svO q_287.1 1)).map EV.v), 48)]) (s_ [e_ 82 (.bool (((t_273.2.2 || t_285.2.2) || false) || false)), e_ 14 (.pointer (some ⟨B_315, 0, none⟩)), e_ 10 (.int .u64 (IntKind.u64.wrap (Int.tmod a0 2))), e_ 8 (.pointer (some ⟨B_187, 0, none⟩)), e_ 6 (.pointer (some ⟨B_41, 0, none⟩)), e_ 4 (.bool false), e_ 1 (.int .u32 a1)] [((((kd_Config).cells t_10 sv_12).map EV.v), 29), ((((kd_Answer).cells t_273.2.1 (svO q_275.1 1)).map EV.v), 48), ((((kd_Answer).cells t_285.2.1 (svO q_287.1 1)).map EV.v), 48)]) [] rfl (by kernel_rfl) trivial (fun hb_341 ns_342 a w_343 hI hW => ?_) (fun hb_341 ns_344 a w_345 hI hW => ?_)
        ·replace H0 := bif_t hb_341 H0
         obtain ⟨hE', hmv, hmr⟩ := Ep.rebase hE hI
         replace hg0 := El.keep hg0 (hmv _)
         replace hR_13 := Kd.keep _ hR_13 (hmv _)
         replace hR_25 := Ojt.keep hR_25 (hmv _) (fun b hb => hmr b (flat_mem (by simp) hb))
         replace hR_34 := Ojt.keep hR_34 (hmv _) (fun b hb => hmr b (flat_mem (by simp) hb))
         replace hq_268 := Arr.keep hq_268 (hmv _)
         replace hR_278 := Kd.keep _ hR_278 (hmv _)
         replace hR_290 := Kd.keep _ hR_290 (hmv _)
         replace hR_277 := Ojt.keep hR_277 (hmv _) (fun b hb => hmr b (flat_mem (by simp) hb))
         replace hR_289 := Ojt.keep hR_289 (hmv _) (fun b hb => hmr b (flat_mem (by simp) hb))
         replace hE := hE'; replace hI := hI.rebase; clear hE' hmv hmr
         obtain ⟨t_346, hG_347, H0⟩ := bind_some H0
         have hbs_349 := hE.k.size
         refine callO_ hF hE hI hW rfl (args := [.pointer (some ⟨B_297, 0, none⟩), .pointer (some ⟨B_41, 0, none⟩), .pointer (some ⟨B_187, 0, none⟩), .int .i64 0]) rfl (enters Tryz.func31 (by kernel_rfl) rfl) (fun q_348 : SV × (Nat → List Nat) => .agg ((kd_Did).cells t_346.1 q_348.1).toArray) [2, 0, 1] (fun q_348 => [q_348.2 0, q_348.2 1, q_348.2 2]) _ (G_task_Task_Step.calls y_296 y_40 y_186 0 B_297 (q_275.2 0) B_41 (q_23.2 0) B_187 (q_32.2 0) w_343 (S0_ := Lo S w w_343 ns_342 [(q_23.2 0), (q_32.2 0), (q_275.2 0), (q_287.2 0)]) hR_277 hR_25 hR_34 (Lo.pick [2, 0, 1]) (hE.pick [2, 0, 1] (by decide)) (hE.pickLt [2, 0, 1]) _ hG_347) (.inl rfl) (fun q_348 => (s_ [e_ 86 (.agg ((kd_Did).cells t_346.1 q_348.1).toArray), e_ 85 (.pointer (some ⟨B_187, 0, none⟩)), e_ 84 (.pointer (some ⟨B_41, 0, none⟩)), e_ 83 (.pointer (some ⟨B_297, 0, none⟩)), e_ 82 (.bool (((t_273.2.2 || t_285.2.2) || false) || false)), e_ 14 (.pointer (some ⟨B_315, 0, none⟩)), e_ 10 (.int .u64 (IntKind.u64.wrap (Int.tmod a0 2))), e_ 8 (.pointer (some ⟨B_187, 0, none⟩)), e_ 6 (.pointer (some ⟨B_41, 0, none⟩)), e_ 4 (.bool false), e_ 1 (.int .u32 a1)] [((((kd_Config).cells t_10 sv_12).map EV.v), 29), ((((kd_Answer).cells t_273.2.1 (svO q_275.1 1)).map EV.v), 48), ((((kd_Answer).cells t_285.2.1 (svO q_287.1 1)).map EV.v), 48)])) (fun q_348 => by kernel_rfl) (fun q_348 a w_351 hput hE' hI' hmv hmr hres hR => ?_)
         replace hmv : ∀ S0, Mv (Lo S0 w w_343 ns_342 [(q_23.2 0), (q_32.2 0), (q_275.2 0), (q_287.2 0)]) w_343 (Lo S0 w w_351 ns_342 [(q_287.2 0), (q_348.2 0), (q_348.2 1), (q_348.2 2)]) w_351 := hmv
         replace hmr : ∀ b ∈ ([(q_287.2 0)] : List (List Nat)).flatten, w_351.heap[b]? = w_343.heap[b]? := hmr
         replace hE : Ep [] w w_351 ns_342 [(q_287.2 0), (q_348.2 0), (q_348.2 1), (q_348.2 2)] := hE'
         replace hI := hI'
         clear hE' hI'
         replace hg0 := El.keep hg0 (hmv _)
         replace hR_13 := Kd.keep _ hR_13 (hmv _)
         replace hq_268 := Arr.keep hq_268 (hmv _)
         replace hR_278 := Kd.keep _ hR_278 (hmv _)
         replace hR_290 := Kd.keep _ hR_290 (hmv _)
         replace hR_289 := Ojt.keep hR_289 (hmv _) (fun b hb => hmr b (flat_mem (by simp) hb))
         clear hmv hmr
         obtain ⟨hR_350, hR_277, hR_25, hR_34⟩ := hR
         replace hR_277 := Ojt.keep hR_277 (hres _ (fun b hb => by simp at hb)) (fun _ _ => rfl)
         replace hR_25 := Ojt.keep hR_25 (hres _ (fun b hb => by simp at hb)) (fun _ _ => rfl)
         replace hR_34 := Ojt.keep hR_34 (hres _ (fun b hb => by simp at hb)) (fun _ _ => rfl)
         replace hR_350 := Kd.keep _ hR_350 (hres _ (fun b hb => by simp at hb))
         clear hres
         refine unguardK_ hI (!(((t_273.2.2 || t_285.2.2) || false) || false)) (by kernel_rfl) (by first | exact hb_341 | exact b_nf hb_341 | exact b_nt hb_341 | exact b_fn hb_341 | exact b_tn hb_341 | simp [hb_341]) ?_
         refine ck0_ hF 1 hI (s_ [e_ 87 (.bool t_346.1.Done), e_ 82 (.bool (((t_273.2.2 || t_285.2.2) || false) || false)), e_ 14 (.pointer (some ⟨B_315, 0, none⟩)), e_ 10 (.int .u64 (IntKind.u64.wrap (Int.tmod a0 2))), e_ 8 (.pointer (some ⟨B_187, 0, none⟩)), e_ 6 (.pointer (some ⟨B_41, 0, none⟩)), e_ 4 (.bool false), e_ 1 (.int .u32 a1)] [((((kd_Config).cells t_10 sv_12).map EV.v), 29), ((((kd_Answer).cells t_273.2.1 (svO q_275.1 1)).map EV.v), 48), ((((kd_Answer).cells t_285.2.1 (svO q_287.1 1)).map EV.v), 48)]) rfl (by kernel_rfl) (fun ns_352 a w_353 hI => ?_)
         refine unguardK_ hI (!(((t_273.2.2 || t_285.2.2) || false) || false)) (by kernel_rfl) (by first | exact hb_341 | exact b_nf hb_341 | exact b_nt hb_341 | exact b_fn hb_341 | exact b_tn hb_341 | simp [hb_341]) ?_
         refine ck0_ hF 2 hI (s_ [e_ 89 (.bool ((((t_273.2.2 || t_285.2.2) || false) || false) || (!t_346.1.Done))), e_ 14 (.pointer (some ⟨B_315, 0, none⟩)), e_ 10 (.int .u64 (IntKind.u64.wrap (Int.tmod a0 2))), e_ 8 (.pointer (some ⟨B_187, 0, none⟩)), e_ 6 (.pointer (some ⟨B_41, 0, none⟩)), e_ 4 (.bool false), e_ 1 (.int .u32 a1)] [((((kd_Config).cells t_10 sv_12).map EV.v), 29), ((((kd_Answer).cells t_273.2.1 (svO q_275.1 1)).map EV.v), 48), ((((kd_Answer).cells t_285.2.1 (svO q_287.1 1)).map EV.v), 48)]) rfl (by kernel_rfl) (fun ns_354 a w_355 hI => ?_)
         refine wpListIn_nil ?_
         refine then_normal ?_
         refine cond_ hI (((((t_273.2.2 || t_285.2.2) || false) || false) || (!t_346.1.Done))) rfl (fun hc_356 => ?_) (fun hc_356 => ?_)
         ·replace H0 := bif_t hc_356 H0
          refine sr0_ hF hI (s_ [e_ 4 (.bool false)] [((((kd_Config).cells t_10 sv_12).map EV.v), 29), ((((kd_Answer).cells t_273.2.1 (svO q_275.1 1)).map EV.v), 48), ((((kd_Answer).cells t_285.2.1 (svO q_287.1 1)).map EV.v), 48)]) (by kernel_rfl) (fun ns_357 a w_358 hI => ?_)
          refine wpIn_ret ?_
          refine then_ret ?_
          obtain rfl := Option.some.inj H0
          exact ret1 hI rfl rfl ⟨rfl, hE.below hI⟩
         ·replace H0 := bif_f hc_356 H0
          refine wpIn_skip ?_
          refine then_normal ?_
          refine wpIn_seq ?_
          refine wpIn_region_lit ?_
          refine ck0_ hF 3 hI (s_ [e_ 92 (.pointer (some ⟨B_187, 0, none⟩)), e_ 91 (.pointer (some ⟨B_41, 0, none⟩)), e_ 90 (.pointer (some ⟨B_315, 0, none⟩)), e_ 10 (.int .u64 (IntKind.u64.wrap (Int.tmod a0 2))), e_ 6 (.pointer (some ⟨B_41, 0, none⟩)), e_ 4 (.bool false), e_ 1 (.int .u32 a1)] [((((kd_Config).cells t_10 sv_12).map EV.v), 29), ((((kd_Answer).cells t_273.2.1 (svO q_275.1 1)).map EV.v), 48), ((((kd_Answer).cells t_285.2.1 (svO q_287.1 1)).map EV.v), 48)]) rfl (by kernel_rfl) (fun ns_359 a w_360 hI => ?_)
          obtain ⟨hE', hmv, hmr⟩ := Ep.rebase hE hI
          replace hg0 := El.keep hg0 (hmv _)
          replace hR_13 := Kd.keep _ hR_13 (hmv _)
          replace hq_268 := Arr.keep hq_268 (hmv _)
          replace hR_278 := Kd.keep _ hR_278 (hmv _)
          replace hR_290 := Kd.keep _ hR_290 (hmv _)
          replace hR_289 := Ojt.keep hR_289 (hmv _) (fun b hb => hmr b (flat_mem (by simp) hb))
          replace hR_277 := Ojt.keep hR_277 (hmv _) (fun b hb => hmr b (flat_mem (by simp) hb))
          replace hR_25 := Ojt.keep hR_25 (hmv _) (fun b hb => hmr b (flat_mem (by simp) hb))
          replace hR_34 := Ojt.keep hR_34 (hmv _) (fun b hb => hmr b (flat_mem (by simp) hb))
          replace hR_350 := Kd.keep _ hR_350 (hmv _)
          replace hE := hE'; replace hI := hI.rebase; clear hE' hmv hmr
          obtain ⟨t_361, hG_362, H0⟩ := bind_some H0
          have hbs_364 := hE.k.size
          refine callO_ hF hE hI (wanted_none rfl) rfl (args := [.pointer (some ⟨B_315, 0, none⟩), .pointer (some ⟨B_41, 0, none⟩), .pointer (some ⟨B_187, 0, none⟩), .int .i64 0]) rfl (enters Tryz.func31 (by kernel_rfl) rfl) (fun q_363 : SV × (Nat → List Nat) => .agg ((kd_Did).cells t_361.1 q_363.1).toArray) [0, 2, 3] (fun q_363 => [q_363.2 0, q_363.2 1, q_363.2 2]) _ (G_task_Task_Step.calls y_314 t_346.2.2.1 t_346.2.2.2 0 B_315 (q_287.2 0) B_41 (q_348.2 1) B_187 (q_348.2 2) w_360 (S0_ := Lo S w w_360 ns_359 [(q_287.2 0), (q_348.2 0), (q_348.2 1), (q_348.2 2)]) hR_289 hR_25 hR_34 (Lo.pick [0, 2, 3]) (hE.pick [0, 2, 3] (by decide)) (hE.pickLt [0, 2, 3]) _ hG_362) (.inl rfl) (fun q_363 => (s_ [e_ 93 (.agg ((kd_Did).cells t_361.1 q_363.1).toArray), e_ 92 (.pointer (some ⟨B_187, 0, none⟩)), e_ 91 (.pointer (some ⟨B_41, 0, none⟩)), e_ 90 (.pointer (some ⟨B_315, 0, none⟩)), e_ 10 (.int .u64 (IntKind.u64.wrap (Int.tmod a0 2))), e_ 6 (.pointer (some ⟨B_41, 0, none⟩)), e_ 4 (.bool false), e_ 1 (.int .u32 a1)] [((((kd_Config).cells t_10 sv_12).map EV.v), 29), ((((kd_Answer).cells t_273.2.1 (svO q_275.1 1)).map EV.v), 48), ((((kd_Answer).cells t_285.2.1 (svO q_287.1 1)).map EV.v), 48)])) (fun q_363 => by kernel_rfl) (fun q_363 a w_366 hput hE' hI' hmv hmr hres hR => ?_)
          replace hmv : ∀ S0, Mv (Lo S0 w w_360 ns_359 [(q_287.2 0), (q_348.2 0), (q_348.2 1), (q_348.2 2)]) w_360 (Lo S0 w w_366 ns_359 [(q_348.2 0), (q_363.2 0), (q_363.2 1), (q_363.2 2)]) w_366 := hmv
          replace hmr : ∀ b ∈ ([(q_348.2 0)] : List (List Nat)).flatten, w_366.heap[b]? = w_360.heap[b]? := hmr
          replace hE : Ep [] w w_366 ns_359 [(q_348.2 0), (q_363.2 0), (q_363.2 1), (q_363.2 2)] := hE'
          replace hI := hI'
          clear hE' hI'
          replace hg0 := El.keep hg0 (hmv _)
          replace hR_13 := Kd.keep _ hR_13 (hmv _)
          replace hq_268 := Arr.keep hq_268 (hmv _)
          replace hR_278 := Kd.keep _ hR_278 (hmv _)
          replace hR_290 := Kd.keep _ hR_290 (hmv _)
          replace hR_277 := Ojt.keep hR_277 (hmv _) (fun b hb => hmr b (flat_mem (by simp) hb))
          replace hR_350 := Kd.keep _ hR_350 (hmv _)
          clear hmv hmr
          obtain ⟨hR_365, hR_289, hR_25, hR_34⟩ := hR
          replace hR_289 := Ojt.keep hR_289 (hres _ (fun b hb => by simp at hb)) (fun _ _ => rfl)
          replace hR_25 := Ojt.keep hR_25 (hres _ (fun b hb => by simp at hb)) (fun _ _ => rfl)
          replace hR_34 := Ojt.keep hR_34 (hres _ (fun b hb => by simp at hb)) (fun _ _ => rfl)
          replace hR_365 := Kd.keep _ hR_365 (hres _ (fun b hb => by simp at hb))
          clear hres
          refine ck0_ hF 2 hI (s_ [p_ 17 3 0, e_ 10 (.int .u64 (IntKind.u64.wrap (Int.tmod a0 2))), e_ 6 (.pointer (some ⟨B_41, 0, none⟩)), e_ 4 (.bool false), e_ 1 (.int .u32 a1)] [((((kd_Config).cells t_10 sv_12).map EV.v), 29), ((((kd_Answer).cells t_273.2.1 (svO q_275.1 1)).map EV.v), 48), ((((kd_Answer).cells t_285.2.1 (svO q_287.1 1)).map EV.v), 48), ((((kd_Did).cells t_361.1 q_363.1).map EV.v), 76)]) rfl (by kernel_rfl) (fun ns_367 a w_368 hI => ?_)
          refine wpListIn_nil ?_
          refine then_normal ?_
          refine wpIn_seq ?_
          refine wpIn_seq ?_
          refine wpIn_region_lit ?_
          refine ck0_ hF 1 hI (s_ [e_ 94 (.pointer (some ⟨B_41, 0, none⟩)), p_ 17 3 0, e_ 10 (.int .u64 (IntKind.u64.wrap (Int.tmod a0 2))), e_ 4 (.bool false), e_ 1 (.int .u32 a1)] [((((kd_Config).cells t_10 sv_12).map EV.v), 29), ((((kd_Answer).cells t_273.2.1 (svO q_275.1 1)).map EV.v), 48), ((((kd_Answer).cells t_285.2.1 (svO q_287.1 1)).map EV.v), 48), ((((kd_Did).cells t_361.1 q_363.1).map EV.v), 76)]) rfl (by kernel_rfl) (fun ns_369 a w_370 hI => ?_)
          obtain ⟨hE', hmv, hmr⟩ := Ep.rebase hE hI
          replace hg0 := El.keep hg0 (hmv _)
          replace hR_13 := Kd.keep _ hR_13 (hmv _)
          replace hq_268 := Arr.keep hq_268 (hmv _)
          replace hR_278 := Kd.keep _ hR_278 (hmv _)
          replace hR_290 := Kd.keep _ hR_290 (hmv _)
          replace hR_277 := Ojt.keep hR_277 (hmv _) (fun b hb => hmr b (flat_mem (by simp) hb))
          replace hR_350 := Kd.keep _ hR_350 (hmv _)
          replace hR_289 := Ojt.keep hR_289 (hmv _) (fun b hb => hmr b (flat_mem (by simp) hb))
          replace hR_25 := Ojt.keep hR_25 (hmv _) (fun b hb => hmr b (flat_mem (by simp) hb))
          replace hR_34 := Ojt.keep hR_34 (hmv _) (fun b hb => hmr b (flat_mem (by simp) hb))
          replace hR_365 := Kd.keep _ hR_365 (hmv _)
          replace hE := hE'; replace hI := hI.rebase; clear hE' hmv hmr
          obtain ⟨t_371, hG_372, H0⟩ := bind_some H0
          refine callH_ hF hE hI (wanted_none rfl) rfl (args := [.pointer (some ⟨B_41, 0, none⟩)]) rfl (enters Tryz.func32 (by kernel_rfl) rfl) (fun sv_373 => .slice ((sv_373 0).1) t_371.length ((sv_373 0).2)) _ (G_mem_Mem_Words.calls t_361.2.2.1 B_41 (q_363.2 1) w_370 (S := Lo S w w_370 ns_369 [(q_348.2 0), (q_363.2 0), (q_363.2 1), (q_363.2 2)]) (Ojt.any hR_25) _ hG_372) (fun sv_373 => (s_ [e_ 95 (.slice ((sv_373 0).1) t_371.length ((sv_373 0).2)), e_ 94 (.pointer (some ⟨B_41, 0, none⟩)), p_ 17 3 0, e_ 10 (.int .u64 (IntKind.u64.wrap (Int.tmod a0 2))), e_ 4 (.bool false), e_ 1 (.int .u32 a1)] [((((kd_Config).cells t_10 sv_12).map EV.v), 29), ((((kd_Answer).cells t_273.2.1 (svO q_275.1 1)).map EV.v), 48), ((((kd_Answer).cells t_285.2.1 (svO q_287.1 1)).map EV.v), 48), ((((kd_Did).cells t_361.1 q_363.1).map EV.v), 76)])) (fun sv_373 => by kernel_rfl) (fun sv_373 a w_375 hput hE' hI' hmv hmr hres hR => ?_)
          replace hg0 := El.keep hg0 (hmv _)
          replace hR_13 := Kd.keep _ hR_13 (hmv _)
          replace hq_268 := Arr.keep hq_268 (hmv _)
          replace hR_278 := Kd.keep _ hR_278 (hmv _)
          replace hR_290 := Kd.keep _ hR_290 (hmv _)
          replace hR_277 := Ojt.keep hR_277 (hmv _) (fun b hb => hmr b (flat_mem (by simp) hb) (by simp))
          replace hR_350 := Kd.keep _ hR_350 (hmv _)
          replace hR_289 := Ojt.keep hR_289 (hmv _) (fun b hb => hmr b (flat_mem (by simp) hb) (by simp))
          replace hR_25 := Ojt.keep hR_25 (hmv _) (fun b hb => hmr b (flat_mem (by simp) hb) (by simp))
          replace hR_34 := Ojt.keep hR_34 (hmv _) (fun b hb => hmr b (flat_mem (by simp) hb) (by simp))
          replace hR_365 := Kd.keep _ hR_365 (hmv _)
          replace hE := hE'; replace hI := hI'; clear hE' hI' hmv hmr
          obtain ⟨hR_374, hR_374c⟩ := hR
          replace hR_374 := Arr.keep hR_374 (hres _)
          clear hres
          refine ck0_ hF 2 hI (s_ [e_ 97 (.int .i64 0), e_ 96 (.int .i64 (t_371.length : Int)), e_ 95 (.slice ((sv_373 0).1) t_371.length ((sv_373 0).2)), p_ 17 3 0, e_ 10 (.int .u64 (IntKind.u64.wrap (Int.tmod a0 2))), e_ 4 (.bool false), e_ 1 (.int .u32 a1)] [((((kd_Config).cells t_10 sv_12).map EV.v), 29), ((((kd_Answer).cells t_273.2.1 (svO q_275.1 1)).map EV.v), 48), ((((kd_Answer).cells t_285.2.1 (svO q_287.1 1)).map EV.v), 48), ((((kd_Did).cells t_361.1 q_363.1).map EV.v), 76)]) rfl (by kernel_rfl) (fun ns_376 a w_377 hI => ?_)
          refine wpListIn_nil ?_
          refine then_normal ?_
          obtain ⟨o_396, hL_397, H0⟩ := bind_some H0
          refine block_loop (fun (s1 : Int × Bool) a w_414 => ∃ ns, St w_375 ns_369 121 (s_ [e_ 97 (.int .i64 s1.1), e_ 96 (.int .i64 (t_371.length : Int)), e_ 95 (.slice ((sv_373 0).1) t_371.length ((sv_373 0).2)), p_ 17 3 0, e_ 10 (.int .u64 (IntKind.u64.wrap (Int.tmod a0 2))), e_ 4 (.bool s1.2), e_ 1 (.int .u32 a1)] [((((kd_Config).cells t_10 sv_12).map EV.v), 29), ((((kd_Answer).cells t_273.2.1 (svO q_275.1 1)).map EV.v), 48), ((((kd_Answer).cells t_285.2.1 (svO q_287.1 1)).map EV.v), 48), ((((kd_Did).cells t_361.1 q_363.1).map EV.v), 76)]) ns a w_414) (0, false) hL_397 ⟨_, hI.pick [97, 96, 95, 17, 10, 4, 1] 4 (s_ [e_ 97 (.int .i64 0), e_ 96 (.int .i64 (t_371.length : Int)), e_ 95 (.slice ((sv_373 0).1) t_371.length ((sv_373 0).2)), p_ 17 3 0, e_ 10 (.int .u64 (IntKind.u64.wrap (Int.tmod a0 2))), e_ 4 (.bool false), e_ 1 (.int .u32 a1)] [((((kd_Config).cells t_10 sv_12).map EV.v), 29), ((((kd_Answer).cells t_273.2.1 (svO q_275.1 1)).map EV.v), 48), ((((kd_Answer).cells t_285.2.1 (svO q_287.1 1)).map EV.v), 48), ((((kd_Did).cells t_361.1 q_363.1).map EV.v), 76)]) (by kernel_rfl)⟩ ?_ ?_
          ·clear hI
           rintro s1 a w_378 ⟨ns_379, hI⟩ r1 H1
           unfold G_law13_TaskAlone.b1 at H1
           refine sr0_ hF hI (s_ [e_ 98 (.bool (decide (s1.1 < (t_371.length : Int)))), e_ 97 (.int .i64 s1.1), e_ 96 (.int .i64 (t_371.length : Int)), e_ 95 (.slice ((sv_373 0).1) t_371.length ((sv_373 0).2)), p_ 17 3 0, e_ 10 (.int .u64 (IntKind.u64.wrap (Int.tmod a0 2))), e_ 4 (.bool s1.2), e_ 1 (.int .u32 a1)] [((((kd_Config).cells t_10 sv_12).map EV.v), 29), ((((kd_Answer).cells t_273.2.1 (svO q_275.1 1)).map EV.v), 48), ((((kd_Answer).cells t_285.2.1 (svO q_287.1 1)).map EV.v), 48), ((((kd_Did).cells t_361.1 q_363.1).map EV.v), 76)]) (by kernel_rfl) (fun ns_380 a w_381 hI => ?_)
           refine wpIn_seq ?_
           refine cond_ hI (decide (s1.1 < (t_371.length : Int))) rfl (fun hc_382 => ?_) (fun hc_382 => ?_)
           ·replace H1 := bif_t hc_382 H1
            refine wpIn_skip ?_
            refine then_normal ?_
            refine wpIn_seq ?_
            refine wpIn_block ?_
            obtain ⟨hN_383, H1⟩ := req_some H1
            obtain ⟨sv_384, hE_386, hA_385⟩ := Arr.elB (d := (Kd.int .u32)) hR_374 s1.1 true (fun _ => hN_383)
            replace hE_386 := hE_386 rfl
            replace hA_385 := fun (_ : true = true) => hA_385 rfl
            refine sr_ (orc := [[.int .u32 (rd t_371 s1.1)]]) hF hI (s_ [e_ 19 (.int .u32 (rd t_371 s1.1)), e_ 18 (.int .i64 s1.1), e_ 97 (.int .i64 s1.1), e_ 96 (.int .i64 (t_371.length : Int)), e_ 95 (.slice ((sv_373 0).1) t_371.length ((sv_373 0).2)), p_ 17 3 0, e_ 10 (.int .u64 (IntKind.u64.wrap (Int.tmod a0 2))), e_ 4 (.bool s1.2), e_ 1 (.int .u32 a1)] [((((kd_Config).cells t_10 sv_12).map EV.v), 29), ((((kd_Answer).cells t_273.2.1 (svO q_275.1 1)).map EV.v), 48), ((((kd_Answer).cells t_285.2.1 (svO q_287.1 1)).map EV.v), 48), ((((kd_Did).cells t_361.1 q_363.1).map EV.v), 76)]) [.need true ((0 : Int) ≤ s1.1 ∧ s1.1 < (t_371.length : Int)), .need true ((sv_373 0).1 = some (adr ((sv_373 0).1))), .cell true ((adr ((sv_373 0).1)).add ((s1.1 : Int).toNat * 1)) [.int .u32 (rd t_371 s1.1)]] (by kernel_rfl) ⟨ob_inb (fun _ => hN_383), hA_385, ob_el (fun _ => hE_386) 0 [.int .u32 (rd t_371 s1.1)] rfl, trivial⟩ (fun ns_387 a w_388 hI => ?_)
            refine sr0_ hF hI (s_ [e_ 109 (.bool (((IntKind.u64.wrap s1.1) != (IntKind.u64.wrap (Int.tmod a0 2))) && ((rd t_371 s1.1) != 0))), e_ 97 (.int .i64 s1.1), e_ 96 (.int .i64 (t_371.length : Int)), e_ 95 (.slice ((sv_373 0).1) t_371.length ((sv_373 0).2)), p_ 17 3 0, e_ 10 (.int .u64 (IntKind.u64.wrap (Int.tmod a0 2))), e_ 4 (.bool s1.2), e_ 1 (.int .u32 a1)] [((((kd_Config).cells t_10 sv_12).map EV.v), 29), ((((kd_Answer).cells t_273.2.1 (svO q_275.1 1)).map EV.v), 48), ((((kd_Answer).cells t_285.2.1 (svO q_287.1 1)).map EV.v), 48), ((((kd_Did).cells t_361.1 q_363.1).map EV.v), 76)]) (by kernel_rfl) (fun ns_389 a w_390 hI => ?_)
            refine cond_ hI ((((IntKind.u64.wrap s1.1) != (IntKind.u64.wrap (Int.tmod a0 2))) && ((rd t_371 s1.1) != 0))) rfl (fun hc_391 => ?_) (fun hc_391 => ?_)
            ·replace H1 := bif_t hc_391 H1
             refine sr0_ hF hI (s_ [e_ 4 (.bool false)] [((((kd_Config).cells t_10 sv_12).map EV.v), 29), ((((kd_Answer).cells t_273.2.1 (svO q_275.1 1)).map EV.v), 48), ((((kd_Answer).cells t_285.2.1 (svO q_287.1 1)).map EV.v), 48), ((((kd_Did).cells t_361.1 q_363.1).map EV.v), 76)]) (by kernel_rfl) (fun ns_392 a w_393 hI => ?_)
             refine wpIn_ret ?_
             refine inBlock_ret ?_
             refine then_ret ?_
             refine then_ret ?_
             obtain rfl := Option.some.inj H1
             refine .inr ⟨_, rfl, fun ho => ?_⟩
             subst ho
             refine inBlock_ret ?_
             refine then_ret ?_
             obtain rfl := Option.some.inj H0
             exact ret1 hI rfl rfl ⟨rfl, hE.below hI⟩
            ·replace H1 := bif_f hc_391 H1
             refine wpIn_skip ?_
             refine inBlock_normal ?_
             refine then_normal ?_
             refine rg0_ hF hI (s_ [e_ 97 (.int .i64 (IntKind.i64.wrap (s1.1 + 1))), e_ 96 (.int .i64 (t_371.length : Int)), e_ 95 (.slice ((sv_373 0).1) t_371.length ((sv_373 0).2)), p_ 17 3 0, e_ 10 (.int .u64 (IntKind.u64.wrap (Int.tmod a0 2))), e_ 4 (.bool s1.2), e_ 1 (.int .u32 a1)] [((((kd_Config).cells t_10 sv_12).map EV.v), 29), ((((kd_Answer).cells t_273.2.1 (svO q_275.1 1)).map EV.v), 48), ((((kd_Answer).cells t_285.2.1 (svO q_287.1 1)).map EV.v), 48), ((((kd_Did).cells t_361.1 q_363.1).map EV.v), 76)]) (by kernel_rfl) (fun ns_394 a w_395 hI => ?_)
             refine then_normal ?_
             obtain rfl := Option.some.inj H1
             exact ⟨_, rfl, ⟨_, hI.pick [97, 96, 95, 17, 10, 4, 1] 4 (s_ [e_ 97 (.int .i64 (IntKind.i64.wrap (s1.1 + 1))), e_ 96 (.int .i64 (t_371.length : Int)), e_ 95 (.slice ((sv_373 0).1) t_371.length ((sv_373 0).2)), p_ 17 3 0, e_ 10 (.int .u64 (IntKind.u64.wrap (Int.tmod a0 2))), e_ 4 (.bool s1.2), e_ 1 (.int .u32 a1)] [((((kd_Config).cells t_10 sv_12).map EV.v), 29), ((((kd_Answer).cells t_273.2.1 (svO q_275.1 1)).map EV.v), 48), ((((kd_Answer).cells t_285.2.1 (svO q_287.1 1)).map EV.v), 48), ((((kd_Did).cells t_361.1 q_363.1).map EV.v), 76)]) (by kernel_rfl)⟩⟩
           ·replace H1 := bif_f hc_382 H1
            refine wpIn_exit ?_
            refine then_exit ?_
            refine then_exit ?_
            obtain rfl := Option.some.inj H1
            exact .inl ⟨_, rfl, rfl, ⟨_, hI.pick [97, 96, 95, 17, 10, 4, 1] 4 (s_ [e_ 97 (.int .i64 s1.1), e_ 96 (.int .i64 (t_371.length : Int)), e_ 95 (.slice ((sv_373 0).1) t_371.length ((sv_373 0).2)), p_ 17 3 0, e_ 10 (.int .u64 (IntKind.u64.wrap (Int.tmod a0 2))), e_ 4 (.bool s1.2), e_ 1 (.int .u32 a1)] [((((kd_Config).cells t_10 sv_12).map EV.v), 29), ((((kd_Answer).cells t_273.2.1 (svO q_275.1 1)).map EV.v), 48), ((((kd_Answer).cells t_285.2.1 (svO q_287.1 1)).map EV.v), 48), ((((kd_Did).cells t_361.1 q_363.1).map EV.v), 76)]) (by kernel_rfl)⟩⟩
          ·clear hI
           rintro s1 a w_398 ho ⟨ns_399, hI⟩
           subst ho
           replace H0 : ((bif t_361.1.Done then ((G_ref02_Same t_361.1.Ans.Data ([a1] : List Int)).bind fun t_408 => some (t_361.1.Done && t_408)) else some false) : Option (Bool)) = _ := H0
           refine then_normal ?_
           refine wpIn_seq ?_
           refine wpIn_region_lit ?_
           refine chunkT_ (liveT := [117, 116, 113, 4]) (liveF := [113, 4]) (orc := []) hF 7 hI (t_361.1.Done) (s_ [e_ 117 (.int .u32 a1), e_ 116 (.slice ((q_363.1 0).1) t_361.1.Ans.Data.length ((q_363.1 0).2)), e_ 113 (.bool t_361.1.Done), e_ 4 (.bool s1.2)] [((((kd_Config).cells t_10 sv_12).map EV.v), 29), ((((kd_Answer).cells t_273.2.1 (svO q_275.1 1)).map EV.v), 48), ((((kd_Answer).cells t_285.2.1 (svO q_287.1 1)).map EV.v), 48), ((((kd_Did).cells t_361.1 q_363.1).map EV.v), 76)]) (s_ [e_ 113 (.bool t_361.1.Done), e_ 4 (.bool s1.2)] [((((kd_Config).cells t_10 sv_12).map EV.v), 29), ((((kd_Answer).cells t_273.2.1 (svO q_275.1 1)).map EV.v), 48), ((((kd_Answer).cells t_285.2.1 (svO q_287.1 1)).map EV.v), 48), ((((kd_Did).cells t_361.1 q_363.1).map EV.v), 76)]) [] rfl (by kernel_rfl) trivial (fun hb_400 ns_401 a w_402 hI hW => ?_) (fun hb_400 ns_403 a w_404 hI hW => ?_)
           ·replace H0 := bif_t hb_400 H0
            obtain ⟨hE', hmv, hmr⟩ := Ep.rebase hE hI
            replace hg0 := El.keep hg0 (hmv _)
            replace hR_13 := Kd.keep _ hR_13 (hmv _)
            replace hq_268 := Arr.keep hq_268 (hmv _)
            replace hR_278 := Kd.keep _ hR_278 (hmv _)
            replace hR_290 := Kd.keep _ hR_290 (hmv _)
            replace hR_277 := Ojt.keep hR_277 (hmv _) (fun b hb => hmr b (flat_mem (by simp) hb))
            replace hR_350 := Kd.keep _ hR_350 (hmv _)
            replace hR_289 := Ojt.keep hR_289 (hmv _) (fun b hb => hmr b (flat_mem (by simp) hb))
            replace hR_25 := Ojt.keep hR_25 (hmv _) (fun b hb => hmr b (flat_mem (by simp) hb))
            replace hR_34 := Ojt.keep hR_34 (hmv _) (fun b hb => hmr b (flat_mem (by simp) hb))
            replace hR_365 := Kd.keep _ hR_365 (hmv _)
            replace hR_374 := Arr.keep hR_374 (hmv _)
            replace hE := hE'; replace hI := hI.rebase; clear hE' hmv hmr
            refine buildSlice_ (S0 := S) (d := (Kd.int .u32)) (e := 60) hF hE hI hW rfl (by kernel_rfl) (cs := [.int .u32 a1]) (by kernel_rfl) [a1] [(svL [])] rfl rfl (by simp [maxLen]) (fun i x hi => by cases i with | zero => (simp only [List.getElem?_cons_zero, Option.some.injEq] at hi; subst hi; exact ⟨trivial, rfl⟩) | succ i => (simp only [List.getElem?_cons_succ] at hi; simp at hi)) (fun A_405 => (s_ [e_ 118 (.slice A_405 ([a1] : List Int).length (([a1] : List Int).length)), e_ 117 (.int .u32 a1), e_ 116 (.slice ((q_363.1 0).1) t_361.1.Ans.Data.length ((q_363.1 0).2)), e_ 113 (.bool t_361.1.Done), e_ 4 (.bool s1.2)] [((((kd_Config).cells t_10 sv_12).map EV.v), 29), ((((kd_Answer).cells t_273.2.1 (svO q_275.1 1)).map EV.v), 48), ((((kd_Answer).cells t_285.2.1 (svO q_287.1 1)).map EV.v), 48), ((((kd_Did).cells t_361.1 q_363.1).map EV.v), 76)])) (fun A_405 => by kernel_rfl) (fun A_405 a w_407 hput hE' hI' hmv hmr hq_406 => ?_)
            replace hg0 := El.keep hg0 (hmv _)
            replace hR_13 := Kd.keep _ hR_13 (hmv _)
            replace hq_268 := Arr.keep hq_268 (hmv _)
            replace hR_278 := Kd.keep _ hR_278 (hmv _)
            replace hR_290 := Kd.keep _ hR_290 (hmv _)
            replace hR_277 := Ojt.keep hR_277 (hmv _) (fun b hb => hmr b (flat_mem (by simp) hb) (by simp))
            replace hR_350 := Kd.keep _ hR_350 (hmv _)
            replace hR_289 := Ojt.keep hR_289 (hmv _) (fun b hb => hmr b (flat_mem (by simp) hb) (by simp))
            replace hR_25 := Ojt.keep hR_25 (hmv _) (fun b hb => hmr b (flat_mem (by simp) hb) (by simp))
            replace hR_34 := Ojt.keep hR_34 (hmv _) (fun b hb => hmr b (flat_mem (by simp) hb) (by simp))
            replace hR_365 := Kd.keep _ hR_365 (hmv _)
            replace hR_374 := Arr.keep hR_374 (hmv _)
            replace hE := hE'; replace hI := hI'; clear hE' hI' hmv hmr
            refine unguardK_ hI t_361.1.Done (by kernel_rfl) (by first | exact hb_400 | exact b_nf hb_400 | exact b_nt hb_400 | exact b_fn hb_400 | exact b_tn hb_400 | simp [hb_400]) ?_
            obtain ⟨t_408, hG_409, H0⟩ := bind_some H0
            refine ck_ (orc := [[.bool t_408]]) hF 3 hI (s_ [e_ 4 (.bool (t_361.1.Done && t_408))] [((((kd_Config).cells t_10 sv_12).map EV.v), 29), ((((kd_Answer).cells t_273.2.1 (svO q_275.1 1)).map EV.v), 48), ((((kd_Answer).cells t_285.2.1 (svO q_287.1 1)).map EV.v), 48), ((((kd_Did).cells t_361.1 q_363.1).map EV.v), 76)]) [.call true 33 [.slice ((q_363.1 0).1) t_361.1.Ans.Data.length ((q_363.1 0).2), .slice A_405 ([a1] : List Int).length (([a1] : List Int).length)] (.bool t_408)] rfl (by kernel_rfl) ⟨ob_call (enters Tryz.func33 (by kernel_rfl) rfl) (fun hg wz hk => G_ref02_Same.calls t_361.1.Ans.Data ([a1] : List Int) ((q_363.1 0).1) ((q_363.1 0).2) A_405 (([a1] : List Int).length) wz (S := fun _ => True) (Arr.any (Arr.keep hR_365.1.1 (Lo.on hk))) hR_365.1.2 (Row.arr (S' := fun _ => True) (Row.on hq_406 hE (by simp) hk) (fun _ _ => trivial) (fun _ _ => trivial)).1 (Row.arr (S' := fun _ => True) hq_406 (fun _ _ => trivial) (fun _ _ => trivial)).2 _ hG_409), trivial⟩ (fun ns_410 a w_411 hI => ?_)
            refine wpListIn_nil ?_
            refine then_normal ?_
            refine wpIn_ret ?_
            obtain rfl := Option.some.inj H0
            exact ret1 hI rfl rfl ⟨rfl, hE.below hI⟩
           ·replace H0 := bif_f hb_400 H0
            refine skip1 hF hI hW (s_ [e_ 113 (.bool t_361.1.Done), e_ 4 (.bool s1.2)] [((((kd_Config).cells t_10 sv_12).map EV.v), 29), ((((kd_Answer).cells t_273.2.1 (svO q_275.1 1)).map EV.v), 48), ((((kd_Answer).cells t_285.2.1 (svO q_287.1 1)).map EV.v), 48), ((((kd_Did).cells t_361.1 q_363.1).map EV.v), 76)]) (by kernel_rfl) (fun a hI => ?_)
            refine wantK_then hI t_361.1.Done (by kernel_rfl) (by first | exact hb_400 | exact b_nf hb_400 | exact b_nt hb_400 | exact b_fn hb_400 | exact b_tn hb_400 | simp [hb_400]) (fun hW => ?_)
            refine skip1 hF hI hW (s_ [e_ 113 (.bool t_361.1.Done), e_ 4 (.bool s1.2)] [((((kd_Config).cells t_10 sv_12).map EV.v), 29), ((((kd_Answer).cells t_273.2.1 (svO q_275.1 1)).map EV.v), 48), ((((kd_Answer).cells t_285.2.1 (svO q_287.1 1)).map EV.v), 48), ((((kd_Did).cells t_361.1 q_363.1).map EV.v), 76)]) (by kernel_rfl) (fun a hI => ?_)
            refine pick1 hF hI rfl rfl (t_361.1.Done) false rfl (by first | exact hb_400 | exact b_nf hb_400 | exact b_nt hb_400 | exact b_fn hb_400 | exact b_tn hb_400 | simp [hb_400]) rfl (s_ [e_ 120 (.bool false), e_ 113 (.bool t_361.1.Done), e_ 4 (.bool s1.2)] [((((kd_Config).cells t_10 sv_12).map EV.v), 29), ((((kd_Answer).cells t_273.2.1 (svO q_275.1 1)).map EV.v), 48), ((((kd_Answer).cells t_285.2.1 (svO q_287.1 1)).map EV.v), 48), ((((kd_Did).cells t_361.1 q_363.1).map EV.v), 76)]) (by kernel_rfl) (fun a hI => ?_)
            refine ck0_ hF 1 hI (s_ [e_ 4 (.bool false)] [((((kd_Config).cells t_10 sv_12).map EV.v), 29), ((((kd_Answer).cells t_273.2.1 (svO q_275.1 1)).map EV.v), 48), ((((kd_Answer).cells t_285.2.1 (svO q_287.1 1)).map EV.v), 48), ((((kd_Did).cells t_361.1 q_363.1).map EV.v), 76)]) rfl (by kernel_rfl) (fun ns_412 a w_413 hI => ?_)
            refine wpListIn_nil ?_
            refine then_normal ?_
            refine wpIn_ret ?_
            obtain rfl := Option.some.inj H0
            exact ret1 hI rfl rfl ⟨rfl, hE.below hI⟩
        ·replace H0 := bif_f hb_341 H0
         refine skip1 hF hI hW (s_ [e_ 82 (.bool (((t_273.2.2 || t_285.2.2) || false) || false)), e_ 14 (.pointer (some ⟨B_315, 0, none⟩)), e_ 10 (.int .u64 (IntKind.u64.wrap (Int.tmod a0 2))), e_ 8 (.pointer (some ⟨B_187, 0, none⟩)), e_ 6 (.pointer (some ⟨B_41, 0, none⟩)), e_ 4 (.bool false), e_ 1 (.int .u32 a1)] [((((kd_Config).cells t_10 sv_12).map EV.v), 29), ((((kd_Answer).cells t_273.2.1 (svO q_275.1 1)).map EV.v), 48), ((((kd_Answer).cells t_285.2.1 (svO q_287.1 1)).map EV.v), 48)]) (by kernel_rfl) (fun a hI => ?_)
         refine wantK_then hI (!(((t_273.2.2 || t_285.2.2) || false) || false)) (by kernel_rfl) (by first | exact hb_341 | exact b_nf hb_341 | exact b_nt hb_341 | exact b_fn hb_341 | exact b_tn hb_341 | simp [hb_341]) (fun hW => ?_)
         refine skip1 hF hI hW (s_ [e_ 82 (.bool (((t_273.2.2 || t_285.2.2) || false) || false)), e_ 14 (.pointer (some ⟨B_315, 0, none⟩)), e_ 10 (.int .u64 (IntKind.u64.wrap (Int.tmod a0 2))), e_ 8 (.pointer (some ⟨B_187, 0, none⟩)), e_ 6 (.pointer (some ⟨B_41, 0, none⟩)), e_ 4 (.bool false), e_ 1 (.int .u32 a1)] [((((kd_Config).cells t_10 sv_12).map EV.v), 29), ((((kd_Answer).cells t_273.2.1 (svO q_275.1 1)).map EV.v), 48), ((((kd_Answer).cells t_285.2.1 (svO q_287.1 1)).map EV.v), 48)]) (by kernel_rfl) (fun a hI => ?_)
         refine wantK_then hI (!(((t_273.2.2 || t_285.2.2) || false) || false)) (by kernel_rfl) (by first | exact hb_341 | exact b_nf hb_341 | exact b_nt hb_341 | exact b_fn hb_341 | exact b_tn hb_341 | simp [hb_341]) (fun hW => ?_)
         refine skip1 hF hI hW (s_ [e_ 82 (.bool (((t_273.2.2 || t_285.2.2) || false) || false)), e_ 14 (.pointer (some ⟨B_315, 0, none⟩)), e_ 10 (.int .u64 (IntKind.u64.wrap (Int.tmod a0 2))), e_ 8 (.pointer (some ⟨B_187, 0, none⟩)), e_ 6 (.pointer (some ⟨B_41, 0, none⟩)), e_ 4 (.bool false), e_ 1 (.int .u32 a1)] [((((kd_Config).cells t_10 sv_12).map EV.v), 29), ((((kd_Answer).cells t_273.2.1 (svO q_275.1 1)).map EV.v), 48), ((((kd_Answer).cells t_285.2.1 (svO q_287.1 1)).map EV.v), 48)]) (by kernel_rfl) (fun a hI => ?_)
         refine pick1 hF hI rfl rfl ((((t_273.2.2 || t_285.2.2) || false) || false)) true rfl (by first | exact hb_341 | exact b_nf hb_341 | exact b_nt hb_341 | exact b_fn hb_341 | exact b_tn hb_341 | simp [hb_341]) rfl (s_ [e_ 89 (.bool true), e_ 82 (.bool (((t_273.2.2 || t_285.2.2) || false) || false)), e_ 14 (.pointer (some ⟨B_315, 0, none⟩)), e_ 10 (.int .u64 (IntKind.u64.wrap (Int.tmod a0 2))), e_ 8 (.pointer (some ⟨B_187, 0, none⟩)), e_ 6 (.pointer (some ⟨B_41, 0, none⟩)), e_ 4 (.bool false), e_ 1 (.int .u32 a1)] [((((kd_Config).cells t_10 sv_12).map EV.v), 29), ((((kd_Answer).cells t_273.2.1 (svO q_275.1 1)).map EV.v), 48), ((((kd_Answer).cells t_285.2.1 (svO q_287.1 1)).map EV.v), 48)]) (by kernel_rfl) (fun a hI => ?_)
         refine ck0_ hF 0 hI (s_ [e_ 89 (.bool true), e_ 14 (.pointer (some ⟨B_315, 0, none⟩)), e_ 10 (.int .u64 (IntKind.u64.wrap (Int.tmod a0 2))), e_ 8 (.pointer (some ⟨B_187, 0, none⟩)), e_ 6 (.pointer (some ⟨B_41, 0, none⟩)), e_ 4 (.bool false), e_ 1 (.int .u32 a1)] [((((kd_Config).cells t_10 sv_12).map EV.v), 29), ((((kd_Answer).cells t_273.2.1 (svO q_275.1 1)).map EV.v), 48), ((((kd_Answer).cells t_285.2.1 (svO q_287.1 1)).map EV.v), 48)]) rfl (by kernel_rfl) (fun ns_415 a w_416 hI => ?_)
         refine wpListIn_nil ?_
         refine then_normal ?_
         refine cond_ hI true rfl (fun _ => ?_) (fun h => by cases h)
         refine sr0_ hF hI (s_ [e_ 4 (.bool false)] [((((kd_Config).cells t_10 sv_12).map EV.v), 29), ((((kd_Answer).cells t_273.2.1 (svO q_275.1 1)).map EV.v), 48), ((((kd_Answer).cells t_285.2.1 (svO q_287.1 1)).map EV.v), 48)]) (by kernel_rfl) (fun ns_417 a w_418 hI => ?_)
         refine wpIn_ret ?_
         refine then_ret ?_
         obtain rfl := Option.some.inj H0
         exact ret1 hI rfl rfl ⟨rfl, hE.below hI⟩

end Go.Proofs.YtiiidfgdejfhhaaGreatDoor
