/- Walks of the seat's functions. No statement is proved here. Conditions: none. -/
import Derived.Test.YtmchkeflhpojmaaDoorGTx1
set_option linter.unusedVariables false
set_option linter.unusedSimpArgs false
set_option maxRecDepth 100000
set_option maxHeartbeats 4000000
namespace Go.Proofs.YtmchkeflhpojmaaDoor
open Go Go.RowKit Go.Eng Go.Proofs

noncomputable def G_ref30_Parse.b2 (a0 : ByteArray) (s1 : Int × (List Int) × Bool × (List Int)) (t_20 : Int) (s2 : Int × Int) : Option (Stp (Int × Int) (Ex (Int × Int) ((List Int) × Bool))) := (req (imp (decide (s2.1 < (a0.size : Int))) (inb s2.1 a0.size)) (req (imp (decide (s2.1 < (a0.size : Int)) && decide ((rdB a0 s2.1) ≥ 48)) (inb s2.1 a0.size)) (bif (((decide (s2.1 < (a0.size : Int)) && decide ((rdB a0 s2.1) ≥ 48)) && decide ((rdB a0 s2.1) ≤ 57)) && decide (s2.2 ≤ 4096)) then (req (inb s2.1 a0.size) (some (.next ((IntKind.i64.wrap (s2.1 + 1)), (IntKind.i64.wrap ((IntKind.i64.wrap (s2.2 * 10)) + (IntKind.i64.wrap (IntKind.u8.wrap ((rdB a0 s2.1) - 48))))))))) else some (.out (.brk (s2.1, s2.2))))))
noncomputable def G_ref30_Parse.b3 (a0 : ByteArray) (s1 : Int × (List Int) × Bool × (List Int)) (t_20 : Int) (s2 : Int × Int) (s3 : Int × (List Int)) : Option (Stp (Int × (List Int)) (Ex (Int × (List Int)) ((List Int) × Bool))) := (bif decide (s3.1 < (bif (s2.1 == (IntKind.i64.wrap (s1.1 + 1))) then 1 else s2.2)) then (req (decide ((s3.2.length + 1) * 8 ≤ 140737488355328)) (some (.next ((IntKind.i64.wrap (s3.1 + 1)), (s3.2 ++ [t_20]))))) else some (.out (.brk (s3.1, s3.2))))
noncomputable def G_ref30_Parse.b1 (a0 : ByteArray) (s1 : Int × (List Int) × Bool × (List Int)) : Option (Stp (Int × (List Int) × Bool × (List Int)) (Ex (Int × (List Int) × Bool × (List Int)) ((List Int) × Bool))) := (bif decide (s1.1 < (a0.size : Int)) then (req (inb s1.1 a0.size) ((G_ref30_letter (rdB a0 s1.1)).bind fun t_20 => (bif decide (t_20 < 0) then some (.out (.ret ([], false))) else ((loopω (G_ref30_Parse.b2 a0 s1 t_20) ((IntKind.i64.wrap (s1.1 + 1)), 0)).bind fun o => o.on (fun s2 => (bif decide ((bif (s2.1 == (IntKind.i64.wrap (s1.1 + 1))) then 1 else s2.2) > 4096) then some (.out (.ret ([], false))) else ((loopω (G_ref30_Parse.b3 a0 s1 t_20 s2) (0, s1.2.1)).bind fun o => o.on (fun s3 => (bif decide ((s3.2.length : Int) > 4096) then some (.out (.ret ([], false))) else some (.next ((IntKind.i64.wrap ((IntKind.i64.wrap (s2.1 - 1)) + 1)), s3.2, s1.2.2.1, s1.2.2.2)))) (fun r => some (.out (.ret r)))))) (fun r => some (.out (.ret r))))))) else some (.out (.brk (s1.1, s1.2.1, s1.2.2.1, s1.2.2.2))))
noncomputable def G_ref30_Parse (a0 : ByteArray) : Option ((List Int) × Bool) := ((loopω (G_ref30_Parse.b1 a0) (0, ([] : List Int), false, ([] : List Int))).bind fun o => o.on (fun s1 => ((G_ref30_Print s1.2.1).bind fun t_118 => (bif ((!t_118.2) || (!(t_118.1.toList == a0.toList))) then some ([], false) else some (s1.2.1, true)))) (fun r => some r))
theorem G_ref30_Parse.calls (a0 : ByteArray)  (w : World) {S : Nat → Prop}  (r : (List Int) × Bool) (h : G_ref30_Parse a0 = some r) :
    Calls Tryd.prog 14 #[.string a0] w fun e w' => ∃ sv : SV, e = .returned (.tuple #[.slice ((sv 0).1) r.1.length ((sv 0).2), .bool r.2]) ∧ Below w.heap.size w w' ∧ (Arr (Kd.int .i64) (fun b => w.heap.size ≤ b ∨ S b) w' (sv 0).1 r.1 ∧ r.1.length ≤ (sv 0).2) := by
  unfold G_ref30_Parse at h
  have H0 := h
  clear h
  refine enter Tryd.func14 rfl [.string a0] (n := 89) rfl (Nat.le_of_ble_eq_true rfl) (fun a hI => ?_)
  have hF : FOpen Fence.wide := .inl rfl
  have hE := Ep.start w
  refine sr0_ hF hI (s_ [e_ 3 (.bool false), e_ 2 (.slice none 0 0), e_ 0 (.string a0)] []) (by kernel_rfl) (fun ns_1 a w_2 hI => ?_)
  refine srn0_ hF hI [4, 3, 2, 0] [e_ 4 (.slice none 0 0)] [] (by kernel_rfl) (fun ns_3 a w_4 hI => ?_)
  refine wpIn_seq ?_
  refine srn0_ hF hI [5, 4, 3, 2, 0] [e_ 5 (.int .i64 0)] [] (by kernel_rfl) (fun ns_5 a w_6 hI => ?_)
  obtain ⟨hE', hmv, hmr⟩ := Ep.rebase hE hI
  replace hE := hE'
  replace hI := hI.rebase
  clear hE' hmv hmr
  obtain ⟨hE', hmv⟩ := Ep.addNil hE
  have hmr : ∀ b ∈ ([] : List (List Nat)).flatten, w_6.heap[b]? = w_6.heap[b]? := fun _ _ => rfl
  replace hE := hE'
  clear hE' hmv hmr
  have hq_7 : Row (Kd.int .i64) 3 (Lo S w w_6 ns_5 [rb none]) w_6 w.heap.size none 0 ([] : List Int) := Row.nil
  obtain ⟨hE', hmv⟩ := Ep.addNil hE
  have hmr : ∀ b ∈ ([rb none] : List (List Nat)).flatten, w_6.heap[b]? = w_6.heap[b]? := fun _ _ => rfl
  replace hq_7 := Row.keep hq_7 (hmv _) (fun b hb => by simp [rb] at hb)
  replace hE := hE'
  clear hE' hmv hmr
  have hq_8 : Row (Kd.int .i64) 3 (Lo S w w_6 ns_5 [rb none, rb none]) w_6 w.heap.size none 0 ([] : List Int) := Row.nil
  obtain ⟨o_113, hL_114, H0⟩ := bind_some H0
  refine block_loop (fun (s1 : Int × (List Int) × Bool × (List Int)) a w_130 => ∃ (ow ns : List Nat) (A_9 : Option Addr) (c_10 : Nat) (A_11 : Option Addr) (c_12 : Nat), (Row (Kd.int .i64) 3 (Lo S w w_130 ow [rb A_9, rb A_11]) w_130 w.heap.size A_9 c_10 s1.2.1) ∧ (Row (Kd.int .i64) 3 (Lo S w w_130 ow [rb A_9, rb A_11]) w_130 w.heap.size A_11 c_12 s1.2.2.2) ∧ Ep [] w w_130 ow [rb A_9, rb A_11] ∧ St w_130 ow 89 (s_ [e_ 5 (.int .i64 s1.1), e_ 4 (.slice A_9 s1.2.1.length c_10), e_ 3 (.bool s1.2.2.1), e_ 2 (.slice A_11 s1.2.2.2.length c_12), e_ 0 (.string a0)] []) ns a w_130) (0, ([] : List Int), false, ([] : List Int)) hL_114 ⟨_, _, _, _, _, _, hq_7, hq_8, hE, hI.pick [5, 4, 3, 2, 0] 0 (s_ [e_ 5 (.int .i64 0), e_ 4 (.slice none ([] : List Int).length 0), e_ 3 (.bool false), e_ 2 (.slice none ([] : List Int).length 0), e_ 0 (.string a0)] []) (by kernel_rfl)⟩ ?_ ?_
  ·clear hI hE
   rintro s1 a w_13 ⟨ow_15, ns_14, A_9, c_10, A_11, c_12, hq_7, hq_8, hE, hI⟩ r1 H1
   unfold G_ref30_Parse.b1 at H1
   refine wpIn_seq ?_
   refine sr0_ hF hI (s_ [e_ 15 (.bool (decide (s1.1 < (a0.size : Int)))), e_ 5 (.int .i64 s1.1), e_ 4 (.slice A_9 s1.2.1.length c_10), e_ 3 (.bool s1.2.2.1), e_ 2 (.slice A_11 s1.2.2.2.length c_12), e_ 0 (.string a0)] []) (by kernel_rfl) (fun ns_16 a w_17 hI => ?_)
   refine cond_ hI (decide (s1.1 < (a0.size : Int))) rfl (fun hc_18 => ?_) (fun hc_18 => ?_)
   ·replace H1 := bif_t hc_18 H1
    refine wpIn_skip ?_
    refine then_normal ?_
    refine wpIn_seq ?_
    refine wpIn_block ?_
    obtain ⟨hN_19, H1⟩ := req_some H1
    obtain ⟨t_20, hG_21, H1⟩ := bind_some H1
    refine srn_ (orc := [[.int .u8 (rdB a0 s1.1)], [.int .i64 t_20]]) hF hI [6, 5, 4, 3, 2, 0] [e_ 6 (.int .i64 t_20)] [] [.run true (vS (Instr.index 9 (.string a0) (.int .i64 s1.1))) (.int .u8 (rdB a0 s1.1)), .call true 23 [.int .u8 (rdB a0 s1.1)] (.int .i64 t_20)] (by kernel_rfl) ⟨(fun hg wz hk => vS_run (index_run Tryd.underlying9 _ _ hN_19 wz)), ob_call (enters Tryd.func23 (by kernel_rfl) rfl) (fun hg wz hk => G_ref30_letter.calls (rdB a0 s1.1)  wz (S := fun _ => True)  _ hG_21), trivial⟩ (fun ns_22 a w_23 hI => ?_)
    refine wpIn_seq ?_
    refine srn0_ hF hI [23, 6, 5, 4, 3, 2, 0] [e_ 23 (.bool (decide (t_20 < 0)))] [] (by kernel_rfl) (fun ns_24 a w_25 hI => ?_)
    refine cond_ hI (decide (t_20 < 0)) rfl (fun hc_26 => ?_) (fun hc_26 => ?_)
    ·replace H1 := bif_t hc_26 H1
     refine srn0_ hF hI [3, 2] [e_ 3 (.bool false), e_ 2 (.slice none 0 0)] [] (by kernel_rfl) (fun ns_27 a w_28 hI => ?_)
     refine wpIn_ret ?_
     refine then_ret ?_
     refine inBlock_ret ?_
     refine then_ret ?_
     refine then_ret ?_
     obtain rfl := Option.some.inj H1
     refine .inr ⟨_, rfl, fun ho => ?_⟩
     subst ho
     refine inBlock_ret ?_
     refine then_ret ?_
     obtain rfl := Option.some.inj H0
     exact ret2 hI rfl rfl rfl ⟨svL [(none, 0)], rfl, hE.below hI, ⟨(Arr.nil _ _ _ _), (Nat.le_refl _)⟩⟩
    ·replace H1 := bif_f hc_26 H1
     refine wpIn_skip ?_
     refine then_normal ?_
     refine srn0_ hF hI [7, 6, 5, 4, 3, 2, 0] [e_ 7 (.int .i64 0)] [] (by kernel_rfl) (fun ns_29 a w_30 hI => ?_)
     refine srn0_ hF hI [8, 7, 6, 5, 4, 3, 2, 0] [e_ 8 (.int .i64 (IntKind.i64.wrap (s1.1 + 1)))] [] (by kernel_rfl) (fun ns_31 a w_32 hI => ?_)
     refine wpIn_seq ?_
     obtain ⟨o_45, hL_46, H1⟩ := bind_some H1
     refine block_loop (fun (s2 : Int × Int) a w_112 => ∃ ns, St w_13 ow_15 89 (s_ [e_ 8 (.int .i64 s2.1), e_ 7 (.int .i64 s2.2), e_ 6 (.int .i64 t_20), e_ 5 (.int .i64 s1.1), e_ 4 (.slice A_9 s1.2.1.length c_10), e_ 3 (.bool s1.2.2.1), e_ 2 (.slice A_11 s1.2.2.2.length c_12), e_ 0 (.string a0)] []) ns a w_112) ((IntKind.i64.wrap (s1.1 + 1)), 0) hL_46 ⟨_, hI.pick [8, 7, 6, 5, 4, 3, 2, 0] 0 (s_ [e_ 8 (.int .i64 (IntKind.i64.wrap (s1.1 + 1))), e_ 7 (.int .i64 0), e_ 6 (.int .i64 t_20), e_ 5 (.int .i64 s1.1), e_ 4 (.slice A_9 s1.2.1.length c_10), e_ 3 (.bool s1.2.2.1), e_ 2 (.slice A_11 s1.2.2.2.length c_12), e_ 0 (.string a0)] []) (by kernel_rfl)⟩ ?_ ?_
     ·clear hI
      rintro s2 a w_33 ⟨ns_34, hI⟩ r2 H2
      unfold G_ref30_Parse.b2 at H2
      refine wpIn_seq ?_
      obtain ⟨hN_35, H2⟩ := req_some H2
      obtain ⟨hN_36, H2⟩ := req_some H2
      refine sr_ (orc := [[.int .u8 (rdB a0 s2.1)], [.int .u8 (rdB a0 s2.1)]]) hF hI (s_ [e_ 45 (.bool (((decide (s2.1 < (a0.size : Int)) && decide ((rdB a0 s2.1) ≥ 48)) && decide ((rdB a0 s2.1) ≤ 57)) && decide (s2.2 ≤ 4096))), e_ 8 (.int .i64 s2.1), e_ 7 (.int .i64 s2.2), e_ 6 (.int .i64 t_20), e_ 5 (.int .i64 s1.1), e_ 4 (.slice A_9 s1.2.1.length c_10), e_ 3 (.bool s1.2.2.1), e_ 2 (.slice A_11 s1.2.2.2.length c_12), e_ 0 (.string a0)] []) [.run (decide (s2.1 < (a0.size : Int))) (vS (Instr.index 9 (.string a0) (.int .i64 s2.1))) (.int .u8 (rdB a0 s2.1)), .run (decide (s2.1 < (a0.size : Int)) && decide ((rdB a0 s2.1) ≥ 48)) (vS (Instr.index 9 (.string a0) (.int .i64 s2.1))) (.int .u8 (rdB a0 s2.1))] (by kernel_rfl) ⟨(fun hg wz hk => vS_run (index_run Tryd.underlying9 _ _ (imp_spec hN_35 hg) wz)), (fun hg wz hk => vS_run (index_run Tryd.underlying9 _ _ (imp_spec hN_36 hg) wz)), trivial⟩ (fun ns_37 a w_38 hI => ?_)
      refine cond_ hI ((((decide (s2.1 < (a0.size : Int)) && decide ((rdB a0 s2.1) ≥ 48)) && decide ((rdB a0 s2.1) ≤ 57)) && decide (s2.2 ≤ 4096))) rfl (fun hc_39 => ?_) (fun hc_39 => ?_)
      ·replace H2 := bif_t hc_39 H2
       refine wpIn_skip ?_
       refine then_normal ?_
       refine wpIn_block ?_
       obtain ⟨hN_40, H2⟩ := req_some H2
       refine srn_ (orc := [[.int .u8 (rdB a0 s2.1)]]) hF hI [7, 8, 6, 5, 4, 3, 2, 0] [e_ 7 (.int .i64 (IntKind.i64.wrap ((IntKind.i64.wrap (s2.2 * 10)) + (IntKind.i64.wrap (IntKind.u8.wrap ((rdB a0 s2.1) - 48))))))] [] [.run true (vS (Instr.index 9 (.string a0) (.int .i64 s2.1))) (.int .u8 (rdB a0 s2.1))] (by kernel_rfl) ⟨(fun hg wz hk => vS_run (index_run Tryd.underlying9 _ _ hN_40 wz)), trivial⟩ (fun ns_41 a w_42 hI => ?_)
       refine rgn0_ hF hI [8, 7, 6, 5, 4, 3, 2, 0] [e_ 8 (.int .i64 (IntKind.i64.wrap (s2.1 + 1)))] [] (by kernel_rfl) (fun ns_43 a w_44 hI => ?_)
       refine inBlock_normal ?_
       refine then_normal ?_
       obtain rfl := Option.some.inj H2
       exact ⟨_, rfl, ⟨_, hI.pick [8, 7, 6, 5, 4, 3, 2, 0] 0 (s_ [e_ 8 (.int .i64 (IntKind.i64.wrap (s2.1 + 1))), e_ 7 (.int .i64 (IntKind.i64.wrap ((IntKind.i64.wrap (s2.2 * 10)) + (IntKind.i64.wrap (IntKind.u8.wrap ((rdB a0 s2.1) - 48)))))), e_ 6 (.int .i64 t_20), e_ 5 (.int .i64 s1.1), e_ 4 (.slice A_9 s1.2.1.length c_10), e_ 3 (.bool s1.2.2.1), e_ 2 (.slice A_11 s1.2.2.2.length c_12), e_ 0 (.string a0)] []) (by kernel_rfl)⟩⟩
      ·replace H2 := bif_f hc_39 H2
       refine wpIn_exit ?_
       refine then_exit ?_
       refine then_exit ?_
       obtain rfl := Option.some.inj H2
       exact .inl ⟨_, rfl, rfl, ⟨_, hI.pick [8, 7, 6, 5, 4, 3, 2, 0] 0 (s_ [e_ 8 (.int .i64 s2.1), e_ 7 (.int .i64 s2.2), e_ 6 (.int .i64 t_20), e_ 5 (.int .i64 s1.1), e_ 4 (.slice A_9 s1.2.1.length c_10), e_ 3 (.bool s1.2.2.1), e_ 2 (.slice A_11 s1.2.2.2.length c_12), e_ 0 (.string a0)] []) (by kernel_rfl)⟩⟩
     ·clear hI
      rintro s2 a w_47 ho ⟨ns_48, hI⟩
      subst ho
      replace H1 : ((bif decide ((bif (s2.1 == (IntKind.i64.wrap (s1.1 + 1))) then 1 else s2.2) > 4096) then some (.out (.ret ([], false))) else ((loopω (G_ref30_Parse.b3 a0 s1 t_20 s2) (0, s1.2.1)).bind fun o => o.on (fun s3 => (bif decide ((s3.2.length : Int) > 4096) then some (.out (.ret ([], false))) else some (.next ((IntKind.i64.wrap ((IntKind.i64.wrap (s2.1 - 1)) + 1)), s3.2, s1.2.2.1, s1.2.2.2)))) (fun r => some (.out (.ret r))))) : Option (Stp (Int × (List Int) × Bool × (List Int)) (Ex (Int × (List Int) × Bool × (List Int)) ((List Int) × Bool)))) = _ := H1
      refine then_normal ?_
      refine wpIn_seq ?_
      refine sr0_ hF hI (s_ [e_ 59 (.bool (s2.1 == (IntKind.i64.wrap (s1.1 + 1)))), e_ 8 (.int .i64 s2.1), e_ 7 (.int .i64 s2.2), e_ 6 (.int .i64 t_20), e_ 4 (.slice A_9 s1.2.1.length c_10), e_ 3 (.bool s1.2.2.1), e_ 2 (.slice A_11 s1.2.2.2.length c_12), e_ 0 (.string a0)] []) (by kernel_rfl) (fun ns_49 a w_50 hI => ?_)
      refine cond_merge hI ((s2.1 == (IntKind.i64.wrap (s1.1 + 1)))) rfl (s_ [e_ 7 (.int .i64 1), e_ 8 (.int .i64 s2.1), e_ 6 (.int .i64 t_20), e_ 4 (.slice A_9 s1.2.1.length c_10), e_ 3 (.bool s1.2.2.1), e_ 2 (.slice A_11 s1.2.2.2.length c_12), e_ 0 (.string a0)] []) (s_ [e_ 7 (.int .i64 s2.2), e_ 8 (.int .i64 s2.1), e_ 6 (.int .i64 t_20), e_ 4 (.slice A_9 s1.2.1.length c_10), e_ 3 (.bool s1.2.2.1), e_ 2 (.slice A_11 s1.2.2.2.length c_12), e_ 0 (.string a0)] []) (fun b => (s_ [e_ 7 (.int .i64 (bif b then 1 else s2.2)), e_ 8 (.int .i64 s2.1), e_ 6 (.int .i64 t_20), e_ 4 (.slice A_9 s1.2.1.length c_10), e_ 3 (.bool s1.2.2.1), e_ 2 (.slice A_11 s1.2.2.2.length c_12), e_ 0 (.string a0)] [])) (fun b => by cases b <;> rfl) (fun hc_51 => ?_) (fun hc_51 => ?_) (fun ns_54 a w_55 hI => ?_)
      ·refine rgn0_ hF hI [7, 8, 6, 4, 3, 2, 0] [e_ 7 (.int .i64 1)] [] (by kernel_rfl) (fun ns_52 a w_53 hI => ?_)
       refine then_normal ?_
       exact ⟨_, hI.pick [7, 8, 6, 4, 3, 2, 0] 0 (s_ [e_ 7 (.int .i64 1), e_ 8 (.int .i64 s2.1), e_ 6 (.int .i64 t_20), e_ 4 (.slice A_9 s1.2.1.length c_10), e_ 3 (.bool s1.2.2.1), e_ 2 (.slice A_11 s1.2.2.2.length c_12), e_ 0 (.string a0)] []) (by kernel_rfl)⟩
      ·refine wpIn_skip ?_
       refine then_normal ?_
       exact ⟨_, hI.pick [7, 8, 6, 4, 3, 2, 0] 0 (s_ [e_ 7 (.int .i64 s2.2), e_ 8 (.int .i64 s2.1), e_ 6 (.int .i64 t_20), e_ 4 (.slice A_9 s1.2.1.length c_10), e_ 3 (.bool s1.2.2.1), e_ 2 (.slice A_11 s1.2.2.2.length c_12), e_ 0 (.string a0)] []) (by kernel_rfl)⟩
      ·refine then_normal ?_
       refine wpIn_seq ?_
       refine sr0_ hF hI (s_ [e_ 61 (.bool (decide ((bif (s2.1 == (IntKind.i64.wrap (s1.1 + 1))) then 1 else s2.2) > 4096))), e_ 7 (.int .i64 (bif (s2.1 == (IntKind.i64.wrap (s1.1 + 1))) then 1 else s2.2)), e_ 8 (.int .i64 s2.1), e_ 6 (.int .i64 t_20), e_ 4 (.slice A_9 s1.2.1.length c_10), e_ 3 (.bool s1.2.2.1), e_ 2 (.slice A_11 s1.2.2.2.length c_12), e_ 0 (.string a0)] []) (by kernel_rfl) (fun ns_68 a w_69 hI => ?_)
       refine cond_ hI (decide ((bif (s2.1 == (IntKind.i64.wrap (s1.1 + 1))) then 1 else s2.2) > 4096)) rfl (fun hc_70 => ?_) (fun hc_70 => ?_)
       ·replace H1 := bif_t hc_70 H1
        refine srn0_ hF hI [3, 2] [e_ 3 (.bool false), e_ 2 (.slice none 0 0)] [] (by kernel_rfl) (fun ns_71 a w_72 hI => ?_)
        refine wpIn_ret ?_
        refine then_ret ?_
        refine inBlock_ret ?_
        refine then_ret ?_
        refine then_ret ?_
        obtain rfl := Option.some.inj H1
        refine .inr ⟨_, rfl, fun ho => ?_⟩
        subst ho
        refine inBlock_ret ?_
        refine then_ret ?_
        obtain rfl := Option.some.inj H0
        exact ret2 hI rfl rfl rfl ⟨svL [(none, 0)], rfl, hE.below hI, ⟨(Arr.nil _ _ _ _), (Nat.le_refl _)⟩⟩
       ·replace H1 := bif_f hc_70 H1
        refine wpIn_skip ?_
        refine then_normal ?_
        refine wpIn_seq ?_
        refine srn0_ hF hI [9, 7, 8, 6, 4, 3, 2, 0] [e_ 9 (.int .i64 0)] [] (by kernel_rfl) (fun ns_73 a w_74 hI => ?_)
        obtain ⟨hE', hmv, hmr⟩ := Ep.rebase hE hI
        replace hq_7 := Row.keep hq_7 (hmv _) (fun b hb => hmr b (by simp [hb]))
        replace hq_8 := Row.keep hq_8 (hmv _) (fun b hb => hmr b (by simp [hb]))
        replace hE := hE'
        replace hI := hI.rebase
        clear hE' hmv hmr
        obtain ⟨o_97, hL_98, H1⟩ := bind_some H1
        refine block_loop (fun (s3 : Int × (List Int)) a w_111 => ∃ (ow ns : List Nat) (A_75 : Option Addr) (c_76 : Nat), (Row (Kd.int .i64) 3 (Lo S w w_111 ow [rb A_75, rb A_11]) w_111 w.heap.size A_75 c_76 s3.2) ∧ (Row (Kd.int .i64) 3 (Lo S w w_111 ow [rb A_75, rb A_11]) w_111 w.heap.size A_11 c_12 s1.2.2.2) ∧ Ep [] w w_111 ow [rb A_75, rb A_11] ∧ St w_111 ow 89 (s_ [e_ 9 (.int .i64 s3.1), e_ 7 (.int .i64 (bif (s2.1 == (IntKind.i64.wrap (s1.1 + 1))) then 1 else s2.2)), e_ 8 (.int .i64 s2.1), e_ 6 (.int .i64 t_20), e_ 4 (.slice A_75 s3.2.length c_76), e_ 3 (.bool s1.2.2.1), e_ 2 (.slice A_11 s1.2.2.2.length c_12), e_ 0 (.string a0)] []) ns a w_111) (0, s1.2.1) hL_98 ⟨_, _, _, _, hq_7, hq_8, hE, hI.pick [9, 7, 8, 6, 4, 3, 2, 0] 0 (s_ [e_ 9 (.int .i64 0), e_ 7 (.int .i64 (bif (s2.1 == (IntKind.i64.wrap (s1.1 + 1))) then 1 else s2.2)), e_ 8 (.int .i64 s2.1), e_ 6 (.int .i64 t_20), e_ 4 (.slice A_9 s1.2.1.length c_10), e_ 3 (.bool s1.2.2.1), e_ 2 (.slice A_11 s1.2.2.2.length c_12), e_ 0 (.string a0)] []) (by kernel_rfl)⟩ ?_ ?_
        ·clear hI hE
         rintro s3 a w_77 ⟨ow_79, ns_78, A_75, c_76, hq_7, hq_8, hE, hI⟩ r3 H2
         unfold G_ref30_Parse.b3 at H2
         refine wpIn_seq ?_
         refine sr0_ hF hI (s_ [e_ 64 (.bool (decide (s3.1 < (bif (s2.1 == (IntKind.i64.wrap (s1.1 + 1))) then 1 else s2.2)))), e_ 9 (.int .i64 s3.1), e_ 7 (.int .i64 (bif (s2.1 == (IntKind.i64.wrap (s1.1 + 1))) then 1 else s2.2)), e_ 8 (.int .i64 s2.1), e_ 6 (.int .i64 t_20), e_ 4 (.slice A_75 s3.2.length c_76), e_ 3 (.bool s1.2.2.1), e_ 2 (.slice A_11 s1.2.2.2.length c_12), e_ 0 (.string a0)] []) (by kernel_rfl) (fun ns_80 a w_81 hI => ?_)
         refine cond_ hI (decide (s3.1 < (bif (s2.1 == (IntKind.i64.wrap (s1.1 + 1))) then 1 else s2.2))) rfl (fun hc_82 => ?_) (fun hc_82 => ?_)
         ·replace H2 := bif_t hc_82 H2
          refine wpIn_skip ?_
          refine then_normal ?_
          refine wpIn_seq ?_
          refine wpIn_block ?_
          refine wpIn_region_lit ?_
          refine ckn0_ hF 2 hI [68, 67, 9, 7, 8, 6, 4, 3, 2, 0] [e_ 68 (.int .i64 t_20), e_ 67 (.slice A_75 s3.2.length c_76)] [] rfl (by kernel_rfl) (fun ns_83 a w_84 hI => ?_)
          obtain ⟨hE', hmv, hmr⟩ := Ep.rebase hE hI
          replace hq_7 := Row.keep hq_7 (hmv _) (fun b hb => hmr b (by simp [hb]))
          replace hq_8 := Row.keep hq_8 (hmv _) (fun b hb => hmr b (by simp [hb]))
          replace hE := hE'
          replace hI := hI.rebase
          clear hE' hmv hmr
          refine buildSlice_ (S0 := S) (d := (Kd.int .i64)) (e := 3) hF hE hI (wanted_none rfl) rfl (by kernel_rfl) (cs := [.int .i64 t_20]) (by kernel_rfl) [t_20] [(svL [])] rfl rfl (by simp [maxLen]) (fun i x hi => by cases i with | zero => (simp only [List.getElem?_cons_zero, Option.some.injEq] at hi; subst hi; exact ⟨trivial, rfl⟩) | succ i => (simp only [List.getElem?_cons_succ] at hi; simp at hi)) (fun A_85 => (s_ [e_ 69 (.slice A_85 ([t_20] : List Int).length (([t_20] : List Int).length)), e_ 68 (.int .i64 t_20), e_ 67 (.slice A_75 s3.2.length c_76), e_ 9 (.int .i64 s3.1), e_ 7 (.int .i64 (bif (s2.1 == (IntKind.i64.wrap (s1.1 + 1))) then 1 else s2.2)), e_ 8 (.int .i64 s2.1), e_ 6 (.int .i64 t_20), e_ 4 (.slice A_75 s3.2.length c_76), e_ 3 (.bool s1.2.2.1), e_ 2 (.slice A_11 s1.2.2.2.length c_12), e_ 0 (.string a0)] [])) (fun A_85 => by kernel_rfl) (fun A_85 a w_87 hput hE' hI' hmv hmr hq_86 => ?_)
          replace hq_7 := Row.keep hq_7 (hmv _) (fun b hb => hmr b (by simp [hb]) (by simp))
          replace hq_8 := Row.keep hq_8 (hmv _) (fun b hb => hmr b (by simp [hb]) (by simp))
          replace hE := hE'
          replace hI := hI'
          clear hE' hI' hmv hmr
          obtain ⟨hE', hmv, hq_86, hcap_88⟩ := Row.still (l1 := [rb A_75, rb A_11]) (l2 := []) hq_86 (Nat.le_refl _) hE
          have hmr : ∀ b ∈ ([rb A_75, rb A_11, rb A_85] : List (List Nat)).flatten, w_87.heap[b]? = w_87.heap[b]? := fun _ _ => rfl
          replace hq_7 := Row.keep hq_7 (hmv _) (fun b hb => hmr b (by simp [hb]))
          replace hq_8 := Row.keep hq_8 (hmv _) (fun b hb => hmr b (by simp [hb]))
          replace hE := hE'
          clear hE' hmv hmr
          obtain ⟨hN_89, H2⟩ := req_some H2
          replace hN_89 := of_decide_eq_true hN_89
          refine append_ (S0 := S) (l1 := []) (l2 := [rb A_11]) (d := (Kd.int .i64)) (e := 3) hF hE hI (wanted_none rfl) rfl (A := A_75) (c := c_76) (l := s3.2) rfl (A2 := A_85) (c2 := (([t_20] : List Int).length)) rfl hq_7 hq_86 (fun sv u hu => by exact kd_one_int _ sv u hu) Tryd.underlying22 (zi := (.int .i64 0, 1, 8)) (by kernel_rfl) rfl (by kernel_rfl) (len_max (by decide) hN_89) hN_89 (fun A_90 c_91 => (s_ [e_ 70 (.slice A_90 (s3.2 ++ [t_20]).length c_91), e_ 69 (.slice A_85 ([t_20] : List Int).length (([t_20] : List Int).length)), e_ 68 (.int .i64 t_20), e_ 67 (.slice A_75 s3.2.length c_76), e_ 9 (.int .i64 s3.1), e_ 7 (.int .i64 (bif (s2.1 == (IntKind.i64.wrap (s1.1 + 1))) then 1 else s2.2)), e_ 8 (.int .i64 s2.1), e_ 6 (.int .i64 t_20), e_ 4 (.slice A_75 s3.2.length c_76), e_ 3 (.bool s1.2.2.1), e_ 2 (.slice A_11 s1.2.2.2.length c_12), e_ 0 (.string a0)] [])) (fun A_90 c_91 => by kernel_rfl) (fun A_90 c_91 a w_92 hput hE' hI' hmv hmr hq_7 => ?_)
          replace hq_8 := Row.keep hq_8 (hmv _) (fun b hb => hmr b (by simp [hb]) (Ep.ne hE (i := 0) (j := 1) (by decide) rfl rfl hb))
          replace hq_86 := Arr.keep hq_86 (hmv _)
          replace hE := hE'
          replace hI := hI'
          clear hE' hI' hmv hmr
          refine ckn0_ hF 1 hI [4, 9, 7, 8, 6, 3, 2, 0] [e_ 4 (.slice A_90 (s3.2 ++ [t_20]).length c_91)] [] rfl (by kernel_rfl) (fun ns_93 a w_94 hI => ?_)
          refine wpListIn_nil ?_
          refine inBlock_normal ?_
          refine then_normal ?_
          refine rgn0_ hF hI [9, 4, 7, 8, 6, 3, 2, 0] [e_ 9 (.int .i64 (IntKind.i64.wrap (s3.1 + 1)))] [] (by kernel_rfl) (fun ns_95 a w_96 hI => ?_)
          refine then_normal ?_
          obtain ⟨hE', hmv, hmr⟩ := Ep.rebase hE hI
          replace hq_8 := Row.keep hq_8 (hmv _) (fun b hb => hmr b (by simp [hb]))
          replace hq_86 := Arr.keep hq_86 (hmv _)
          replace hq_7 := Row.keep hq_7 (hmv _) (fun b hb => hmr b (by simp [hb]))
          replace hE := hE'
          replace hI := hI.rebase
          clear hE' hmv hmr
          obtain rfl := Option.some.inj H2
          exact ⟨_, rfl, ⟨_, _, _, _, hq_7, hq_8, hE, hI.pick [9, 7, 8, 6, 4, 3, 2, 0] 0 (s_ [e_ 9 (.int .i64 (IntKind.i64.wrap (s3.1 + 1))), e_ 7 (.int .i64 (bif (s2.1 == (IntKind.i64.wrap (s1.1 + 1))) then 1 else s2.2)), e_ 8 (.int .i64 s2.1), e_ 6 (.int .i64 t_20), e_ 4 (.slice A_90 (s3.2 ++ [t_20]).length c_91), e_ 3 (.bool s1.2.2.1), e_ 2 (.slice A_11 s1.2.2.2.length c_12), e_ 0 (.string a0)] []) (by kernel_rfl)⟩⟩
         ·replace H2 := bif_f hc_82 H2
          refine wpIn_exit ?_
          refine then_exit ?_
          refine then_exit ?_
          obtain ⟨hE', hmv, hmr⟩ := Ep.rebase hE hI
          replace hq_7 := Row.keep hq_7 (hmv _) (fun b hb => hmr b (by simp [hb]))
          replace hq_8 := Row.keep hq_8 (hmv _) (fun b hb => hmr b (by simp [hb]))
          replace hE := hE'
          replace hI := hI.rebase
          clear hE' hmv hmr
          obtain rfl := Option.some.inj H2
          exact .inl ⟨_, rfl, rfl, ⟨_, _, _, _, hq_7, hq_8, hE, hI.pick [9, 7, 8, 6, 4, 3, 2, 0] 0 (s_ [e_ 9 (.int .i64 s3.1), e_ 7 (.int .i64 (bif (s2.1 == (IntKind.i64.wrap (s1.1 + 1))) then 1 else s2.2)), e_ 8 (.int .i64 s2.1), e_ 6 (.int .i64 t_20), e_ 4 (.slice A_75 s3.2.length c_76), e_ 3 (.bool s1.2.2.1), e_ 2 (.slice A_11 s1.2.2.2.length c_12), e_ 0 (.string a0)] []) (by kernel_rfl)⟩⟩
        ·clear hI hE
         rintro s3 a w_99 ho ⟨ow_101, ns_100, A_75, c_76, hq_7, hq_8, hE, hI⟩
         subst ho
         replace H1 : ((bif decide ((s3.2.length : Int) > 4096) then some (.out (.ret ([], false))) else some (.next ((IntKind.i64.wrap ((IntKind.i64.wrap (s2.1 - 1)) + 1)), s3.2, s1.2.2.1, s1.2.2.2))) : Option (Stp (Int × (List Int) × Bool × (List Int)) (Ex (Int × (List Int) × Bool × (List Int)) ((List Int) × Bool)))) = _ := H1
         refine then_normal ?_
         refine sr0_ hF hI (s_ [e_ 5 (.int .i64 (IntKind.i64.wrap (s2.1 - 1))), e_ 4 (.slice A_75 s3.2.length c_76), e_ 3 (.bool s1.2.2.1), e_ 2 (.slice A_11 s1.2.2.2.length c_12), e_ 0 (.string a0)] []) (by kernel_rfl) (fun ns_102 a w_103 hI => ?_)
         refine srn0_ hF hI [75, 5, 4, 3, 2, 0] [e_ 75 (.bool (decide ((s3.2.length : Int) > 4096)))] [] (by kernel_rfl) (fun ns_104 a w_105 hI => ?_)
         refine cond_ hI (decide ((s3.2.length : Int) > 4096)) rfl (fun hc_106 => ?_) (fun hc_106 => ?_)
         ·replace H1 := bif_t hc_106 H1
          refine srn0_ hF hI [3, 2] [e_ 3 (.bool false), e_ 2 (.slice none 0 0)] [] (by kernel_rfl) (fun ns_107 a w_108 hI => ?_)
          refine wpIn_ret ?_
          refine inBlock_ret ?_
          refine then_ret ?_
          refine then_ret ?_
          obtain rfl := Option.some.inj H1
          refine .inr ⟨_, rfl, fun ho => ?_⟩
          subst ho
          refine inBlock_ret ?_
          refine then_ret ?_
          obtain rfl := Option.some.inj H0
          exact ret2 hI rfl rfl rfl ⟨svL [(none, 0)], rfl, hE.below hI, ⟨(Arr.nil _ _ _ _), (Nat.le_refl _)⟩⟩
         ·replace H1 := bif_f hc_106 H1
          refine wpIn_skip ?_
          refine inBlock_normal ?_
          refine then_normal ?_
          refine rgn0_ hF hI [5, 4, 3, 2, 0] [e_ 5 (.int .i64 (IntKind.i64.wrap ((IntKind.i64.wrap (s2.1 - 1)) + 1)))] [] (by kernel_rfl) (fun ns_109 a w_110 hI => ?_)
          refine then_normal ?_
          obtain ⟨hE', hmv, hmr⟩ := Ep.rebase hE hI
          replace hq_7 := Row.keep hq_7 (hmv _) (fun b hb => hmr b (by simp [hb]))
          replace hq_8 := Row.keep hq_8 (hmv _) (fun b hb => hmr b (by simp [hb]))
          replace hE := hE'
          replace hI := hI.rebase
          clear hE' hmv hmr
          obtain rfl := Option.some.inj H1
          exact ⟨_, rfl, ⟨_, _, _, _, _, _, hq_7, hq_8, hE, hI.pick [5, 4, 3, 2, 0] 0 (s_ [e_ 5 (.int .i64 (IntKind.i64.wrap ((IntKind.i64.wrap (s2.1 - 1)) + 1))), e_ 4 (.slice A_75 s3.2.length c_76), e_ 3 (.bool s1.2.2.1), e_ 2 (.slice A_11 s1.2.2.2.length c_12), e_ 0 (.string a0)] []) (by kernel_rfl)⟩⟩
   ·replace H1 := bif_f hc_18 H1
    refine wpIn_exit ?_
    refine then_exit ?_
    refine then_exit ?_
    obtain ⟨hE', hmv, hmr⟩ := Ep.rebase hE hI
    replace hq_7 := Row.keep hq_7 (hmv _) (fun b hb => hmr b (by simp [hb]))
    replace hq_8 := Row.keep hq_8 (hmv _) (fun b hb => hmr b (by simp [hb]))
    replace hE := hE'
    replace hI := hI.rebase
    clear hE' hmv hmr
    obtain rfl := Option.some.inj H1
    exact .inl ⟨_, rfl, rfl, ⟨_, _, _, _, _, _, hq_7, hq_8, hE, hI.pick [5, 4, 3, 2, 0] 0 (s_ [e_ 5 (.int .i64 s1.1), e_ 4 (.slice A_9 s1.2.1.length c_10), e_ 3 (.bool s1.2.2.1), e_ 2 (.slice A_11 s1.2.2.2.length c_12), e_ 0 (.string a0)] []) (by kernel_rfl)⟩⟩
  ·clear hI hE
   rintro s1 a w_115 ho ⟨ow_117, ns_116, A_9, c_10, A_11, c_12, hq_7, hq_8, hE, hI⟩
   subst ho
   replace H0 : (((G_ref30_Print s1.2.1).bind fun t_118 => (bif ((!t_118.2) || (!(t_118.1.toList == a0.toList))) then some ([], false) else some (s1.2.1, true))) : Option ((List Int) × Bool)) = _ := H0
   refine then_normal ?_
   obtain ⟨t_118, hG_119, H0⟩ := bind_some H0
   refine sr_ (orc := [[.tuple #[.string t_118.1, .bool t_118.2]]]) hF hI (s_ [e_ 11 (.bool t_118.2), e_ 10 (.string t_118.1), e_ 4 (.slice A_9 s1.2.1.length c_10), e_ 3 (.bool s1.2.2.1), e_ 2 (.slice A_11 s1.2.2.2.length c_12), e_ 0 (.string a0)] []) [.call true 10 [.slice A_9 s1.2.1.length c_10] (.tuple #[.string t_118.1, .bool t_118.2])] (by kernel_rfl) ⟨ob_call (enters Tryd.func10 (by kernel_rfl) rfl) (fun hg wz hk => G_ref30_Print.calls s1.2.1 A_9 c_10 wz (S := fun _ => True) (Row.arr (S' := fun _ => True) (Row.on hq_7 hE (by simp) hk) (fun _ _ => trivial) (fun _ _ => trivial)).1 (Row.arr (S' := fun _ => True) hq_7 (fun _ _ => trivial) (fun _ _ => trivial)).2 _ hG_119), trivial⟩ (fun ns_120 a w_121 hI => ?_)
   refine wpIn_seq ?_
   refine srn0_ hF hI [87, 4, 3, 2] [e_ 87 (.bool ((!t_118.2) || (!(t_118.1.toList == a0.toList))))] [] (by kernel_rfl) (fun ns_122 a w_123 hI => ?_)
   refine cond_ hI (((!t_118.2) || (!(t_118.1.toList == a0.toList)))) rfl (fun hc_124 => ?_) (fun hc_124 => ?_)
   ·replace H0 := bif_t hc_124 H0
    refine srn0_ hF hI [3, 2] [e_ 3 (.bool false), e_ 2 (.slice none 0 0)] [] (by kernel_rfl) (fun ns_125 a w_126 hI => ?_)
    refine wpIn_ret ?_
    refine then_ret ?_
    obtain rfl := Option.some.inj H0
    exact ret2 hI rfl rfl rfl ⟨svL [(none, 0)], rfl, hE.below hI, ⟨(Arr.nil _ _ _ _), (Nat.le_refl _)⟩⟩
   ·replace H0 := bif_f hc_124 H0
    refine wpIn_skip ?_
    refine then_normal ?_
    refine srn0_ hF hI [3, 2] [e_ 3 (.bool true), e_ 2 (.slice A_9 s1.2.1.length c_10)] [] (by kernel_rfl) (fun ns_127 a w_128 hI => ?_)
    obtain ⟨hE', hmv, hmr⟩ := Ep.rebase hE hI
    replace hq_7 := Row.keep hq_7 (hmv _) (fun b hb => hmr b (by simp [hb]))
    replace hq_8 := Row.keep hq_8 (hmv _) (fun b hb => hmr b (by simp [hb]))
    replace hE := hE'
    replace hI := hI.rebase
    clear hE' hmv hmr
    obtain ⟨hE', hmv, hq_7, hcap_129⟩ := Row.still (l1 := []) (l2 := [rb A_11]) hq_7 (Nat.le_refl _) hE
    have hmr : ∀ b ∈ ([rb A_9, rb A_11] : List (List Nat)).flatten, w_128.heap[b]? = w_128.heap[b]? := fun _ _ => rfl
    replace hq_8 := Row.keep hq_8 (hmv _) (fun b hb => hmr b (by simp [hb]))
    replace hE := hE'
    clear hE' hmv hmr
    refine wpIn_ret ?_
    obtain rfl := Option.some.inj H0
    exact ret2 hI rfl rfl rfl ⟨svL [(A_9, c_10)], rfl, hE.below hI, ⟨Arr.keep hq_7 (hE.out hI), hcap_129⟩⟩

noncomputable def G_law30_PackParses (a0 : ByteArray) : Option (Bool) := ((G_law30_wakes).bind fun t_3 => (bif (!t_3) then some false else (bif decide ((a0.size : Int) > 300) then some true else ((G_pack_Parse a0).bind fun t_17 => ((G_ref30_Parse a0).bind fun t_26 => ((cal (t_17.2 == t_26.2) (G_ref01_Same t_17.1 t_26.1) default).bind fun t_33 => ((cal ((t_17.2 == t_26.2) && t_33) (G_pack_Size a0) default).bind fun t_35 => some (((t_17.2 == t_26.2) && t_33) && (t_35 == (t_26.1.length : Int))))))))))
theorem G_law30_PackParses.calls (a0 : ByteArray)  (w : World) {S : Nat → Prop} (hg1 : El (kdG 1 gv1) S w ⟨1, 0, none⟩ () (svL [])) (r : Bool) (h : G_law30_PackParses a0 = some r) :
    Calls Tryd.prog 5 #[.string a0] w fun e w' => e = .returned (.bool r) ∧ Below w.heap.size w w' := by
  replace hg1 := El.lo hg1
  unfold G_law30_PackParses at h
  have H0 := h
  clear h
  refine enter Tryd.func5 rfl [.string a0] (n := 37) rfl (Nat.le_of_ble_eq_true rfl) (fun a hI => ?_)
  have hF : FOpen Fence.wide := .inl rfl
  have hE := Ep.start w
  refine sr0_ hF hI (s_ [e_ 2 (.bool false), e_ 0 (.string a0)] []) (by kernel_rfl) (fun ns_1 a w_2 hI => ?_)
  refine wpIn_seq ?_
  obtain ⟨t_3, hG_4, H0⟩ := bind_some H0
  refine srn_ (orc := [[.bool t_3]]) hF hI [8, 2, 0] [e_ 8 (.bool (!t_3))] [] [.call true 6 [] (.bool t_3)] (by kernel_rfl) ⟨ob_call (enters Tryd.func6 (by kernel_rfl) rfl) (fun hg wz hk => G_law30_wakes.calls   wz (S := fun _ => True) (El.any (El.keep hg1 (Lo.on hk))) _ hG_4), trivial⟩ (fun ns_5 a w_6 hI => ?_)
  refine cond_ hI ((!t_3)) rfl (fun hc_7 => ?_) (fun hc_7 => ?_)
  ·replace H0 := bif_t hc_7 H0
   refine srn0_ hF hI [2] [] [] (by kernel_rfl) (fun ns_8 a w_9 hI => ?_)
   refine wpIn_ret ?_
   refine then_ret ?_
   obtain rfl := Option.some.inj H0
   exact ret1 hI rfl rfl ⟨rfl, hE.below hI⟩
  ·replace H0 := bif_f hc_7 H0
   refine wpIn_skip ?_
   refine then_normal ?_
   refine wpIn_seq ?_
   refine srn0_ hF hI [11, 2, 0] [e_ 11 (.bool (decide ((a0.size : Int) > 300)))] [] (by kernel_rfl) (fun ns_10 a w_11 hI => ?_)
   refine cond_ hI (decide ((a0.size : Int) > 300)) rfl (fun hc_12 => ?_) (fun hc_12 => ?_)
   ·replace H0 := bif_t hc_12 H0
    refine srn0_ hF hI [2] [e_ 2 (.bool true)] [] (by kernel_rfl) (fun ns_13 a w_14 hI => ?_)
    refine wpIn_ret ?_
    refine then_ret ?_
    obtain rfl := Option.some.inj H0
    exact ret1 hI rfl rfl ⟨rfl, hE.below hI⟩
   ·replace H0 := bif_f hc_12 H0
    refine wpIn_skip ?_
    refine then_normal ?_
    refine wpIn_seq ?_
    refine wpIn_region_lit ?_
    refine ckn0_ hF 1 hI [13, 2, 0] [e_ 13 (.string a0)] [] rfl (by kernel_rfl) (fun ns_15 a w_16 hI => ?_)
    obtain ⟨hE', hmv, hmr⟩ := Ep.rebase hE hI
    replace hg1 := El.keep hg1 (hmv _)
    replace hE := hE'
    replace hI := hI.rebase
    clear hE' hmv hmr
    obtain ⟨t_17, hG_18, H0⟩ := bind_some H0
    refine callH_ hF hE hI (wanted_none rfl) rfl (args := [.string a0]) rfl (enters Tryd.func11 (by kernel_rfl) rfl) (fun sv_19 => .tuple #[.slice ((sv_19 0).1) t_17.1.length ((sv_19 0).2), .bool t_17.2]) _ (G_pack_Parse.calls a0  w_16 (S := Lo S w w_16 ns_15 [])  _ hG_18) (fun sv_19 => (s_ [e_ 14 (.tuple #[.slice ((sv_19 0).1) t_17.1.length ((sv_19 0).2), .bool t_17.2]), e_ 13 (.string a0), e_ 2 (.bool false), e_ 0 (.string a0)] [])) (fun sv_19 => by kernel_rfl) (fun sv_19 a w_21 hput hE' hI' hmv hmr hres hR => ?_)
    replace hg1 := El.keep hg1 (hmv _)
    replace hE := hE'
    replace hI := hI'
    clear hE' hI' hmv hmr
    obtain ⟨hR_20, hR_20c⟩ := hR
    replace hR_20 := Arr.keep hR_20 (hres _)
    clear hres
    refine ckn0_ hF 5 hI [4, 3, 2, 0] [e_ 4 (.bool t_17.2), e_ 3 (.slice ((sv_19 0).1) t_17.1.length ((sv_19 0).2))] [] rfl (by kernel_rfl) (fun ns_22 a w_23 hI => ?_)
    refine wpListIn_nil ?_
    refine then_normal ?_
    refine wpIn_seq ?_
    refine wpIn_region_lit ?_
    refine ckn0_ hF 1 hI [18, 4, 3, 2, 0] [e_ 18 (.string a0)] [] rfl (by kernel_rfl) (fun ns_24 a w_25 hI => ?_)
    obtain ⟨hE', hmv, hmr⟩ := Ep.rebase hE hI
    replace hg1 := El.keep hg1 (hmv _)
    replace hR_20 := Arr.keep hR_20 (hmv _)
    replace hE := hE'
    replace hI := hI.rebase
    clear hE' hmv hmr
    obtain ⟨t_26, hG_27, H0⟩ := bind_some H0
    refine callH_ hF hE hI (wanted_none rfl) rfl (args := [.string a0]) rfl (enters Tryd.func14 (by kernel_rfl) rfl) (fun sv_28 => .tuple #[.slice ((sv_28 0).1) t_26.1.length ((sv_28 0).2), .bool t_26.2]) _ (G_ref30_Parse.calls a0  w_25 (S := Lo S w w_25 ns_24 [])  _ hG_27) (fun sv_28 => (s_ [e_ 19 (.tuple #[.slice ((sv_28 0).1) t_26.1.length ((sv_28 0).2), .bool t_26.2]), e_ 18 (.string a0), e_ 4 (.bool t_17.2), e_ 3 (.slice ((sv_19 0).1) t_17.1.length ((sv_19 0).2)), e_ 2 (.bool false), e_ 0 (.string a0)] [])) (fun sv_28 => by kernel_rfl) (fun sv_28 a w_30 hput hE' hI' hmv hmr hres hR => ?_)
    replace hg1 := El.keep hg1 (hmv _)
    replace hR_20 := Arr.keep hR_20 (hmv _)
    replace hE := hE'
    replace hI := hI'
    clear hE' hI' hmv hmr
    obtain ⟨hR_29, hR_29c⟩ := hR
    replace hR_29 := Arr.keep hR_29 (hres _)
    clear hres
    refine ckn0_ hF 5 hI [6, 5, 4, 3, 2, 0] [e_ 6 (.bool t_26.2), e_ 5 (.slice ((sv_28 0).1) t_26.1.length ((sv_28 0).2))] [] rfl (by kernel_rfl) (fun ns_31 a w_32 hI => ?_)
    refine wpListIn_nil ?_
    refine then_normal ?_
    obtain ⟨t_33, hG_34, H0⟩ := bind_some H0
    obtain ⟨t_35, hG_36, H0⟩ := bind_some H0
    refine srn_ (orc := [[.bool t_33], [.int .i64 t_35]]) hF hI [2] [e_ 2 (.bool (((t_17.2 == t_26.2) && t_33) && (t_35 == (t_26.1.length : Int))))] [] [.call (t_17.2 == t_26.2) 12 [.slice ((sv_19 0).1) t_17.1.length ((sv_19 0).2), .slice ((sv_28 0).1) t_26.1.length ((sv_28 0).2)] (.bool t_33), .call ((t_17.2 == t_26.2) && t_33) 13 [.string a0] (.int .i64 t_35)] (by kernel_rfl) ⟨ob_call (enters Tryd.func12 (by kernel_rfl) rfl) (fun hg wz hk => G_ref01_Same.calls t_17.1 t_26.1 ((sv_19 0).1) ((sv_19 0).2) ((sv_28 0).1) ((sv_28 0).2) wz (S := fun _ => True) (Arr.any (Arr.keep hR_20 (Lo.on hk))) hR_20c (Arr.any (Arr.keep hR_29 (Lo.on hk))) hR_29c _ (cal_some hG_34 hg)), ob_call (enters Tryd.func13 (by kernel_rfl) rfl) (fun hg wz hk => G_pack_Size.calls a0  wz (S := fun _ => True)  _ (cal_some hG_36 hg)), trivial⟩ (fun ns_37 a w_38 hI => ?_)
    refine wpIn_ret ?_
    obtain rfl := Option.some.inj H0
    exact ret1 hI rfl rfl ⟨rfl, hE.below hI⟩

end Go.Proofs.YtmchkeflhpojmaaDoor
