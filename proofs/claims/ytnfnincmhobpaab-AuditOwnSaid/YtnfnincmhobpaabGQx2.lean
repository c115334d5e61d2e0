import Derived.Test.YtnfnincmhobpaabGQx1
set_option linter.unusedVariables false
set_option linter.unusedSimpArgs false
namespace Go.Proofs.Ytnfnincmhobpaab
open Go Go.RowKit Go.Eng Go.Proofs

/-! ### porthole/layout.of: function 63 -/
noncomputable def G_layout_of.b1 (x0 : Config) (t_3 : Bool) (s1 : Int × Int × (List Span) × Int) : Option (Stp (Int × Int × (List Span) × Int) (Ex (Int × Int × (List Span) × Int) (Layout_plan))) := (bif decide (s1.1 < (x0.Parts.length : Int)) then (req (inb s1.1 x0.Parts.length) (req (decide ((s1.2.2.1.length + 1) * 16 ≤ 140737488355328)) (some (.next ((IntKind.i64.wrap (s1.1 + 1)), s1.2.1, (s1.2.2.1 ++ [(⟨s1.2.2.2, (rd x0.Parts s1.1).Private⟩ : Span)]), (IntKind.i64.wrap (s1.2.2.2 + ((rd x0.Parts s1.1).Private)))))))) else some (.out (.brk (s1.1, s1.2.1, s1.2.2.1, s1.2.2.2))))
noncomputable def G_layout_of.b2 (x0 : Config) (t_3 : Bool) (s1 : Int × Int × (List Span) × Int) (s2 : Int × Int × (List Span) × Int) : Option (Stp (Int × Int × (List Span) × Int) (Ex (Int × Int × (List Span) × Int) (Layout_plan))) := (bif decide (s2.1 < (x0.Chans.length : Int)) then (req (inb s2.1 x0.Chans.length) ((G_layout_sized (rd x0.Chans s2.1)).bind fun t_75 => (req (decide ((s2.2.2.1.length + 1) * 16 ≤ 140737488355328)) (req (decide (((s2.2.2.1 ++ [(⟨s2.2.2.2, t_75⟩ : Span)]).length + 1) * 16 ≤ 140737488355328)) (some (.next ((IntKind.i64.wrap (s2.1 + 1)), s2.2.1, ((s2.2.2.1 ++ [(⟨s2.2.2.2, t_75⟩ : Span)]) ++ [(⟨(IntKind.i64.wrap (s2.2.2.2 + t_75)), 1⟩ : Span)]), (IntKind.i64.wrap ((IntKind.i64.wrap (s2.2.2.2 + t_75)) + 1))))))))) else some (.out (.brk (s2.1, s2.2.1, s2.2.2.1, s2.2.2.2))))
noncomputable def G_layout_of (x0 : Config) : Option (Layout_plan) := ((G_defect_Accepts x0).bind fun t_3 => (bif (!t_3) then some (⟨0, [], 0⟩ : Layout_plan) else ((loopω (G_layout_of.b1 x0 t_3) (0, (x0.Parts.length : Int), ([] : List Span), 0)).bind fun o => o.on (fun s1 => ((loopω (G_layout_of.b2 x0 t_3 s1) (0, s1.2.1, s1.2.2.1, s1.2.2.2)).bind fun o => o.on (fun s2 => some (⟨s2.2.1, s2.2.2.1, s2.2.2.2⟩ : Layout_plan)) (fun r => some r))) (fun r => some r))))
set_option maxRecDepth 100000 in
set_option maxHeartbeats 4000000 in
theorem G_layout_of.calls (x0 : Config) (sv0 : SV) (w : World) {S : Nat → Prop} (hx0 : (kd_Config).cont S w x0 sv0) (r : Layout_plan) (h : G_layout_of x0 = some r) :
    Calls Try.prog 63 #[.agg ((kd_Config).cells x0 sv0).toArray] w fun e w' => ∃ sv : SV, e = .returned (.agg ((kd_Layout_plan).cells r sv).toArray) ∧ Below w.heap.size w w' ∧ (kd_Layout_plan).cont (fun b => w.heap.size ≤ b ∨ S b) w' r sv := by
  replace hx0 := Kd.lo _ hx0
  unfold G_layout_of at h
  have H0 := h
  clear h
  refine enter Try.func63 rfl [.agg ((kd_Config).cells x0 sv0).toArray] (n := 45) rfl (Nat.le_of_ble_eq_true rfl) (fun a hI => ?_)
  have hF : FOpen Fence.wide := .inl rfl
  have hE := Ep.start w
  refine seq_region (live := [2, 1]) (orc := []) hF hI ⟨[⟨2, [], .p 1 0⟩, ⟨1, [], .p 0 0⟩], [], [], [((((kd_Config).cells x0 sv0).map EV.v), 29), ([.v (.int .i64 0), .v (.slice none 0 0), .v (.int .i64 0)], 105)], none, none⟩ [] (by kernel_rfl) trivial (fun ns_1 a w_2 hI _ => ?_)
  refine wpIn_seq ?_
  obtain ⟨t_3, hG_4, H0⟩ := bind_some H0
  refine seq_region (live := [11, 2, 1]) (orc := [[.bool t_3]]) hF hI ⟨[⟨11, [], .v (.bool (!t_3))⟩, ⟨2, [], .p 1 0⟩, ⟨1, [], .p 0 0⟩], [], [], [((((kd_Config).cells x0 sv0).map EV.v), 29), ([.v (.int .i64 0), .v (.slice none 0 0), .v (.int .i64 0)], 105)], none, none⟩ [.call true 78 [.agg ((kd_Config).cells x0 sv0).toArray] (.bool t_3)] (by kernel_rfl) ⟨ob_call (enters Try.func78 (by kernel_rfl) rfl) (fun hg wz hk => G_defect_Accepts.calls x0 sv0 wz (S := fun _ => True) (Kd.any _ (Kd.keep kd_Config (contI (S := Lo S w w [] []) (w := w) (d := kd_Config) (x := x0) (sv := sv0) ⟨⟨hx0.1.1, hx0.1.2⟩, ⟨hx0.2.1.1, hx0.2.1.2⟩, ⟨hx0.2.2.1.1, hx0.2.2.1.2⟩, ⟨hx0.2.2.2.1.1, hx0.2.2.2.1.2⟩, trivial⟩) (Lo.on hk))) _ hG_4), trivial⟩ (fun ns_5 a w_6 hI _ => ?_)
  refine cond_ hI ((!t_3)) rfl (fun hc_7 => ?_) (fun hc_7 => ?_)
  · replace H0 := bif_t hc_7 H0
    refine seq_region (live := [2]) (orc := []) hF hI ⟨[⟨2, [], .p 1 0⟩], [], [], [((((kd_Config).cells x0 sv0).map EV.v), 29), ([.v (.int .i64 0), .v (.slice none 0 0), .v (.int .i64 0)], 105)], none, none⟩ [] (by kernel_rfl) trivial (fun ns_8 a w_9 hI _ => ?_)
    refine wpIn_ret ?_
    refine then_ret ?_
    obtain rfl := Option.some.inj H0
    exact retCell hI rfl rfl rfl rfl rfl rfl ⟨svL [(none, 0)], rfl, hE.below hI, ⟨⟨(Arr.nil _ _ _ _), (Nat.le_refl _)⟩, trivial⟩⟩
  · replace H0 := bif_f hc_7 H0
    refine wpIn_skip ?_
    refine then_normal ?_
    refine seq_region (live := [3, 2, 1]) (orc := []) hF hI ⟨[⟨3, [], .p 2 0⟩, ⟨2, [], .p 1 0⟩, ⟨1, [], .p 0 0⟩], [], [], [((((kd_Config).cells x0 sv0).map EV.v), 29), ([.v (.int .i64 0), .v (.slice none 0 0), .v (.int .i64 0)], 105), ([.v (.int .i64 (x0.Parts.length : Int)), .v (.slice none 0 0), .v (.int .i64 0)], 105)], none, none⟩ [] (by kernel_rfl) trivial (fun ns_10 a w_11 hI _ => ?_)
    refine wpIn_seq ?_
    refine wpIn_region_lit ?_
    refine makeFuncP_ hF hI (wanted_none rfl) rfl rfl rfl (l1 := [.inr (2, 0)]) (l2 := []) rfl rfl ⟨[⟨17, [], .f (.func 79) [.inr (2, 0)] []⟩, ⟨3, [], .p 2 0⟩, ⟨2, [], .p 1 0⟩, ⟨1, [], .p 0 0⟩], [], [], [((((kd_Config).cells x0 sv0).map EV.v), 29), ([.v (.int .i64 0), .v (.slice none 0 0), .v (.int .i64 0)], 105), ([.v (.int .i64 (x0.Parts.length : Int)), .v (.slice none 0 0), .v (.int .i64 0)], 105)], none, none⟩ (by kernel_rfl) (fun a hI => ?_)
    refine chunkL_ (live := [4, 3, 2, 1]) (orc := []) hF 1 hI ⟨[⟨4, [], .f (.func 79) [.inr (2, 0)] []⟩, ⟨3, [], .p 2 0⟩, ⟨2, [], .p 1 0⟩, ⟨1, [], .p 0 0⟩], [], [], [((((kd_Config).cells x0 sv0).map EV.v), 29), ([.v (.int .i64 0), .v (.slice none 0 0), .v (.int .i64 0)], 105), ([.v (.int .i64 (x0.Parts.length : Int)), .v (.slice none 0 0), .v (.int .i64 0)], 105)], none, none⟩ [] rfl (by kernel_rfl) trivial (fun ns_12 a w_13 hI => ?_)
    refine wpListIn_nil ?_
    refine then_normal ?_
    refine wpIn_seq ?_
    refine seq_region (live := [21, 20, 19, 4, 3, 2, 1]) (orc := []) hF hI ⟨[⟨21, [], .v (.int .i64 0)⟩, ⟨20, [], .v (.int .i64 (x0.Parts.length : Int))⟩, ⟨19, [], .v (.slice ((sv0 0).1) x0.Parts.length ((sv0 0).2))⟩, ⟨4, [], .f (.func 79) [.inr (2, 0)] []⟩, ⟨3, [], .p 2 0⟩, ⟨2, [], .p 1 0⟩, ⟨1, [], .p 0 0⟩], [], [], [((((kd_Config).cells x0 sv0).map EV.v), 29), ([.v (.int .i64 0), .v (.slice none 0 0), .v (.int .i64 0)], 105), ([.v (.int .i64 (x0.Parts.length : Int)), .v (.slice none 0 0), .v (.int .i64 0)], 105)], none, none⟩ [] (by kernel_rfl) trivial (fun ns_14 a w_15 hI _ => ?_)
    obtain ⟨hE', hmv, hmr⟩ := Ep.rebase (S0 := S) hE hI
    replace hx0 := Kd.keep _ hx0 hmv
    replace hE := hE'
    replace hI := hI.rebase
    clear hE' hmv hmr
    obtain ⟨hE', hmv⟩ := Ep.addNil (S0 := S) hE
    have hmr : ∀ b : Nat, some b ∈ ([] : List (Option Nat)) → w_15.heap[b]? = w_15.heap[b]? := fun _ _ => rfl
    replace hx0 := Kd.keep _ hx0 hmv
    replace hE := hE'
    clear hE' hmv hmr
    have hq_16 : Row kd_Span 109 (Lo S w w_15 ns_14 [rb none]) w_15 w.heap.size none 0 ([] : List Span) := Row.nil
    obtain ⟨o_54, hL_55, H0⟩ := bind_some H0
    refine block_loop (fun (s1 : Int × Int × (List Span) × Int) a w_130 => ∃ (ow ns : List Nat) (A_17 : Option Addr) (c_18 : Nat), ((kd_Config).cont (Lo S w w_130 ow [rb A_17]) w_130 x0 sv0) ∧ (Row kd_Span 109 (Lo S w w_130 ow [rb A_17]) w_130 w.heap.size A_17 c_18 s1.2.2.1) ∧ Ep w w_130 ow [rb A_17] ∧ St w_130 ow 45 ⟨[⟨21, [], .v (.int .i64 s1.1)⟩, ⟨20, [], .v (.int .i64 (x0.Parts.length : Int))⟩, ⟨19, [], .v (.slice ((sv0 0).1) x0.Parts.length ((sv0 0).2))⟩, ⟨4, [], .f (.func 79) [.inr (2, 0)] []⟩, ⟨3, [], .p 2 0⟩, ⟨2, [], .p 1 0⟩, ⟨1, [], .p 0 0⟩], [], [], [((((kd_Config).cells x0 sv0).map EV.v), 29), ([.v (.int .i64 0), .v (.slice none 0 0), .v (.int .i64 0)], 105), ([.v (.int .i64 s1.2.1), .v (.slice A_17 s1.2.2.1.length c_18), .v (.int .i64 s1.2.2.2)], 105)], none, none⟩ ns a w_130) (0, (x0.Parts.length : Int), ([] : List Span), 0) hL_55 ⟨_, _, _, _, hx0, hq_16, hE, hI.pick [21, 20, 19, 4, 3, 2, 1] 3 ⟨[⟨21, [], .v (.int .i64 0)⟩, ⟨20, [], .v (.int .i64 (x0.Parts.length : Int))⟩, ⟨19, [], .v (.slice ((sv0 0).1) x0.Parts.length ((sv0 0).2))⟩, ⟨4, [], .f (.func 79) [.inr (2, 0)] []⟩, ⟨3, [], .p 2 0⟩, ⟨2, [], .p 1 0⟩, ⟨1, [], .p 0 0⟩], [], [], [((((kd_Config).cells x0 sv0).map EV.v), 29), ([.v (.int .i64 0), .v (.slice none 0 0), .v (.int .i64 0)], 105), ([.v (.int .i64 (x0.Parts.length : Int)), .v (.slice none ([] : List Span).length 0), .v (.int .i64 0)], 105)], none, none⟩ (by kernel_rfl)⟩ ?_ ?_
    · clear hI hE
      rintro s1 a w_19 ⟨ow_21, ns_20, A_17, c_18, hx0, hq_16, hE, hI⟩ r1 H1
      unfold G_layout_of.b1 at H1
      refine seq_region (live := [22, 21, 20, 19, 4, 3, 2, 1]) (orc := []) hF hI ⟨[⟨22, [], .v (.bool (decide (s1.1 < (x0.Parts.length : Int))))⟩, ⟨21, [], .v (.int .i64 s1.1)⟩, ⟨20, [], .v (.int .i64 (x0.Parts.length : Int))⟩, ⟨19, [], .v (.slice ((sv0 0).1) x0.Parts.length ((sv0 0).2))⟩, ⟨4, [], .f (.func 79) [.inr (2, 0)] []⟩, ⟨3, [], .p 2 0⟩, ⟨2, [], .p 1 0⟩, ⟨1, [], .p 0 0⟩], [], [], [((((kd_Config).cells x0 sv0).map EV.v), 29), ([.v (.int .i64 0), .v (.slice none 0 0), .v (.int .i64 0)], 105), ([.v (.int .i64 s1.2.1), .v (.slice A_17 s1.2.2.1.length c_18), .v (.int .i64 s1.2.2.2)], 105)], none, none⟩ [] (by kernel_rfl) trivial (fun ns_22 a w_23 hI _ => ?_)
      refine wpIn_seq ?_
      refine cond_ hI (decide (s1.1 < (x0.Parts.length : Int))) rfl (fun hc_24 => ?_) (fun hc_24 => ?_)
      · replace H1 := bif_t hc_24 H1
        refine wpIn_skip ?_
        refine then_normal ?_
        refine wpIn_seq ?_
        refine wpIn_block ?_
        obtain ⟨hN_25, H1⟩ := req_some H1
        obtain ⟨sv_26, hE_28, hA_27⟩ := Arr.elB (d := kd_Part) hx0.1.1 s1.1 true (fun _ => hN_25)
        replace hE_28 := hE_28 rfl
        replace hA_27 := fun (_ : true = true) => hA_27 rfl
        refine seq_region (live := [6, 21, 20, 19, 4, 3, 2, 1]) (orc := [(kd_Part).cells (rd x0.Parts s1.1) sv_26]) hF hI ⟨[⟨6, [], .p 3 0⟩, ⟨21, [], .v (.int .i64 s1.1)⟩, ⟨20, [], .v (.int .i64 (x0.Parts.length : Int))⟩, ⟨19, [], .v (.slice ((sv0 0).1) x0.Parts.length ((sv0 0).2))⟩, ⟨4, [], .f (.func 79) [.inr (2, 0)] []⟩, ⟨3, [], .p 2 0⟩, ⟨2, [], .p 1 0⟩, ⟨1, [], .p 0 0⟩], [], [], [((((kd_Config).cells x0 sv0).map EV.v), 29), ([.v (.int .i64 0), .v (.slice none 0 0), .v (.int .i64 0)], 105), ([.v (.int .i64 s1.2.1), .v (.slice A_17 s1.2.2.1.length c_18), .v (.int .i64 s1.2.2.2)], 105), ((((kd_Part).cells (rd x0.Parts s1.1) sv_26).map EV.v), 86)], none, none⟩ [.need true (0 ≤ s1.1 ∧ s1.1 < (x0.Parts.length : Int)), .need true ((sv0 0).1 = some (adr ((sv0 0).1))), .cell true ((adr ((sv0 0).1)).add ((s1.1 : Int).toNat * 2)) ((kd_Part).cells (rd x0.Parts s1.1) sv_26)] (by kernel_rfl) ⟨ob_inb (fun _ => hN_25), hA_27, ob_el (fun _ => hE_28) 0 ((kd_Part).cells (rd x0.Parts s1.1) sv_26) rfl, trivial⟩ (fun ns_29 a w_30 hI _ => ?_)
        refine wpIn_region_lit ?_
        refine chunkL_ (live := [27, 25, 21, 20, 19, 4, 3, 2, 1]) (orc := []) hF 3 hI ⟨[⟨27, [], .v (.int .i64 ((rd x0.Parts s1.1).Private))⟩, ⟨25, [], .f (.func 79) [.inr (2, 0)] []⟩, ⟨21, [], .v (.int .i64 s1.1)⟩, ⟨20, [], .v (.int .i64 (x0.Parts.length : Int))⟩, ⟨19, [], .v (.slice ((sv0 0).1) x0.Parts.length ((sv0 0).2))⟩, ⟨4, [], .f (.func 79) [.inr (2, 0)] []⟩, ⟨3, [], .p 2 0⟩, ⟨2, [], .p 1 0⟩, ⟨1, [], .p 0 0⟩], [], [], [((((kd_Config).cells x0 sv0).map EV.v), 29), ([.v (.int .i64 0), .v (.slice none 0 0), .v (.int .i64 0)], 105), ([.v (.int .i64 s1.2.1), .v (.slice A_17 s1.2.2.1.length c_18), .v (.int .i64 s1.2.2.2)], 105), ((((kd_Part).cells (rd x0.Parts s1.1) sv_26).map EV.v), 86)], none, none⟩ [] rfl (by kernel_rfl) trivial (fun ns_31 a w_32 hI => ?_)
        obtain ⟨hE', hmv, hmr⟩ := Ep.rebase (S0 := S) hE hI
        replace hx0 := Kd.keep _ hx0 hmv
        replace hq_16 := Row.keep hq_16 hmv (fun b hb => hmr b (by rw [← hb]; first | (simp; done) | simp [rb]))
        replace hE_28 := El.keep hE_28 hmv
        replace hE := hE'
        replace hI := hI.rebase
        clear hE' hmv hmr
        refine callI_ hF hI (wanted_none rfl) rfl Try.func79 (by kernel_rfl) rfl (n' := 27) rfl (by kernel_rfl) (by kernel_rfl) (fun au_33 hIu_33 => ?_)
        have hOu_33 := hI
        have hFu_33 := hF
        have hF : FOpen Fence.wide := .inl rfl
        have hI : St w_32 ns_31 27 ⟨[⟨0, [], .p 2 0⟩, ⟨1, [], .v (.int .i64 ((rd x0.Parts s1.1).Private))⟩], [], [], [((((kd_Config).cells x0 sv0).map EV.v), 29), ([.v (.int .i64 0), .v (.slice none 0 0), .v (.int .i64 0)], 105), ([.v (.int .i64 s1.2.1), .v (.slice A_17 s1.2.2.1.length c_18), .v (.int .i64 s1.2.2.2)], 105), ((((kd_Part).cells (rd x0.Parts s1.1) sv_26).map EV.v), 86)], none, some (4, ns_31)⟩ ns_31 au_33 w_32 := hIu_33
        clear hIu_33
        refine wpIn_seq ?_
        replace hI := hI.fin (live := [0, 1]) (σ2 := ⟨[⟨0, [], .p 2 0⟩, ⟨1, [], .v (.int .i64 ((rd x0.Parts s1.1).Private))⟩], [], [], [((((kd_Config).cells x0 sv0).map EV.v), 29), ([.v (.int .i64 0), .v (.slice none 0 0), .v (.int .i64 0)], 105), ([.v (.int .i64 s1.2.1), .v (.slice A_17 s1.2.2.1.length c_18), .v (.int .i64 s1.2.2.2)], 105), ((((kd_Part).cells (rd x0.Parts s1.1) sv_26).map EV.v), 86)], none, some (4, ns_31)⟩) (by kernel_rfl)
        refine drawnS_ hI (by kernel_rfl) [.q 4 (.p 2 0) [], .q 5 (.p 2 0) [], .q 6 (.p 2 0) [], .q 7 (.p 2 1) [], .q 8 (.v (.slice A_17 s1.2.2.1.length c_18)) [], .q 9 (.p 2 0) [], .q 10 (.p 2 0) [], .q 11 (.p 2 2) [], .q 12 (.v (.int .i64 s1.2.2.2)) [], .q 13 (.v (.int .i64 ((rd x0.Parts s1.1).Private))) [], .q 14 (.v (.agg #[.int .i64 s1.2.2.2, .int .i64 ((rd x0.Parts s1.1).Private)])) [], .no, .no, .q 17 (.p 2 0) [], .q 18 (.p 2 1) [], .no] (by kernel_rfl) (fun fuel listed w_34 hJ hsz hu => ?_)
        refine stage_ hJ hF hsz hu [.q [] [], .q [] [], .q [1] [], .q [2] [], .q [3] [], .q [] [], .q [5] [], .q [6] [], .q [7] [], .q [] [], .q [8, 9] [], .no, .no, .q [0] [], .q [13] [], .no] (by kernel_rfl) (by kernel_rfl) (by kernel_rfl) (by kernel_rfl) 11 rfl (by kernel_rfl) (by kernel_rfl) [10] rfl (by kernel_rfl) (by kernel_rfl) trivial [10] (by kernel_rfl) [.q 4 (.p 2 0) [], .q 5 (.p 2 0) [], .q 6 (.p 2 0) [], .q 7 (.p 2 1) [], .q 8 (.v (.slice A_17 s1.2.2.1.length c_18)) [], .q 9 (.p 2 0) [], .q 10 (.p 2 0) [], .q 11 (.p 2 2) [], .q 12 (.v (.int .i64 s1.2.2.2)) [], .q 13 (.v (.int .i64 ((rd x0.Parts s1.1).Private))) [], .t (some 14) (some (.v (.agg #[.int .i64 s1.2.2.2, .int .i64 ((rd x0.Parts s1.1).Private)]))), .no, .no, .q 17 (.p 2 0) [], .q 18 (.p 2 1) [], .no] (by kernel_rfl) (fun fuel listed a w_35 hJ hI hW h1 hnl hsz hu => ?_)
        obtain ⟨hE', hmv, hmr⟩ := Ep.rebase (S0 := S) hE hI
        replace hx0 := Kd.keep _ hx0 hmv
        replace hq_16 := Row.keep hq_16 hmv (fun b hb => hmr b (by rw [← hb]; first | (simp; done) | simp [rb]))
        replace hE_28 := El.keep hE_28 hmv
        replace hE := hE'
        replace hI := hI.rebase
        clear hE' hmv hmr
        refine buildSlice_ (S0 := S) (d := kd_Span) (e := 109) hF hE hI hW rfl (by kernel_rfl) (cs := [.int .i64 s1.2.2.2, .int .i64 ((rd x0.Parts s1.1).Private)]) (by kernel_rfl) [(⟨s1.2.2.2, (rd x0.Parts s1.1).Private⟩ : Span)] [(svL [])] rfl rfl (by simp [maxLen]) (fun i x hi => by cases i with | zero => (simp only [List.getElem?_cons_zero, Option.some.injEq] at hi; subst hi; exact ⟨trivial, rfl⟩) | succ i => (simp only [List.getElem?_cons_succ] at hi; simp at hi)) (fun A_36 => ⟨[⟨15, [], .v (.slice A_36 ([(⟨s1.2.2.2, (rd x0.Parts s1.1).Private⟩ : Span)] : List Span).length (([(⟨s1.2.2.2, (rd x0.Parts s1.1).Private⟩ : Span)] : List Span).length))⟩, ⟨14, [], .v (.agg #[.int .i64 s1.2.2.2, .int .i64 ((rd x0.Parts s1.1).Private)])⟩, ⟨0, [], .p 2 0⟩, ⟨1, [], .v (.int .i64 ((rd x0.Parts s1.1).Private))⟩], [], [], [((((kd_Config).cells x0 sv0).map EV.v), 29), ([.v (.int .i64 0), .v (.slice none 0 0), .v (.int .i64 0)], 105), ([.v (.int .i64 s1.2.1), .v (.slice A_17 s1.2.2.1.length c_18), .v (.int .i64 s1.2.2.2)], 105), ((((kd_Part).cells (rd x0.Parts s1.1) sv_26).map EV.v), 86)], none, some (4, ns_31)⟩) (fun A_36 => by kernel_rfl) (fun A_36 a w_38 hput hE' hI' hmv hmr hq_37 => ?_)
        replace hx0 := Kd.keep _ hx0 hmv
        replace hq_16 := Row.keep hq_16 hmv (fun b hb => hmr b (by rw [← hb]; first | (simp; done) | simp [rb]) (by simp))
        replace hE_28 := El.keep hE_28 hmv
        replace hE := hE'
        replace hI := hI'
        clear hE' hI' hmv hmr
        refine next_ hJ h1 hnl hsz hu (by kernel_rfl) (by kernel_rfl) hput hI (live := [0, 1]) ⟨[⟨0, [], .p 2 0⟩, ⟨1, [], .v (.int .i64 ((rd x0.Parts s1.1).Private))⟩], [], [], [((((kd_Config).cells x0 sv0).map EV.v), 29), ([.v (.int .i64 0), .v (.slice none 0 0), .v (.int .i64 0)], 105), ([.v (.int .i64 s1.2.1), .v (.slice A_17 s1.2.2.1.length c_18), .v (.int .i64 s1.2.2.2)], 105), ((((kd_Part).cells (rd x0.Parts s1.1) sv_26).map EV.v), 86)], none, some (4, ns_31)⟩ (by kernel_rfl) (some (.v (.slice A_36 ([(⟨s1.2.2.2, (rd x0.Parts s1.1).Private⟩ : Span)] : List Span).length (([(⟨s1.2.2.2, (rd x0.Parts s1.1).Private⟩ : Span)] : List Span).length)))) (by kernel_rfl) [] [.q 4 (.p 2 0) [], .q 5 (.p 2 0) [], .q 6 (.p 2 0) [], .q 7 (.p 2 1) [], .q 8 (.v (.slice A_17 s1.2.2.1.length c_18)) [], .q 9 (.p 2 0) [], .q 10 (.p 2 0) [], .q 11 (.p 2 2) [], .q 12 (.v (.int .i64 s1.2.2.2)) [], .q 13 (.v (.int .i64 ((rd x0.Parts s1.1).Private))) [], .t (some 14) (some (.v (.agg #[.int .i64 s1.2.2.2, .int .i64 ((rd x0.Parts s1.1).Private)]))), .t (some 15) (some (.v (.slice A_36 ([(⟨s1.2.2.2, (rd x0.Parts s1.1).Private⟩ : Span)] : List Span).length (([(⟨s1.2.2.2, (rd x0.Parts s1.1).Private⟩ : Span)] : List Span).length)))), .no, .q 17 (.p 2 0) [], .q 18 (.p 2 1) [], .no] (by kernel_rfl) (by kernel_rfl) (by kernel_rfl) True.intro (AL.none (by kernel_rfl)) (fun hJ hsz hu => ?_)
        refine stage_ hJ hF hsz hu [.q [] [], .q [] [], .q [1] [], .q [2] [], .q [3] [], .q [] [], .q [5] [], .q [6] [], .q [7] [], .q [] [], .t (some (.v (.agg #[.int .i64 s1.2.2.2, .int .i64 ((rd x0.Parts s1.1).Private)]))), .t (some (.v (.slice A_36 ([(⟨s1.2.2.2, (rd x0.Parts s1.1).Private⟩ : Span)] : List Span).length (([(⟨s1.2.2.2, (rd x0.Parts s1.1).Private⟩ : Span)] : List Span).length)))), .no, .q [0] [], .q [13] [], .no] (by kernel_rfl) (by kernel_rfl) (by kernel_rfl) (by kernel_rfl) 12 rfl (by kernel_rfl) (by kernel_rfl) [4, 11] rfl (by kernel_rfl) (by kernel_rfl) trivial [4] (by kernel_rfl) [.q 4 (.p 2 0) [], .q 5 (.p 2 0) [], .q 6 (.p 2 0) [], .q 7 (.p 2 1) [], .t (some 8) (some (.v (.slice A_17 s1.2.2.1.length c_18))), .q 9 (.p 2 0) [], .q 10 (.p 2 0) [], .q 11 (.p 2 2) [], .q 12 (.v (.int .i64 s1.2.2.2)) [], .q 13 (.v (.int .i64 ((rd x0.Parts s1.1).Private))) [], .t (some 14) (some (.v (.agg #[.int .i64 s1.2.2.2, .int .i64 ((rd x0.Parts s1.1).Private)]))), .t (some 15) (some (.v (.slice A_36 ([(⟨s1.2.2.2, (rd x0.Parts s1.1).Private⟩ : Span)] : List Span).length (([(⟨s1.2.2.2, (rd x0.Parts s1.1).Private⟩ : Span)] : List Span).length)))), .no, .q 17 (.p 2 0) [], .q 18 (.p 2 1) [], .no] (by kernel_rfl) (fun fuel listed a w_39 hJ hI hW h1 hnl hsz hu => ?_)
        obtain ⟨hE', hmv, hmr⟩ := Ep.rebase (S0 := S) hE hI
        replace hx0 := Kd.keep _ hx0 hmv
        replace hq_16 := Row.keep hq_16 hmv (fun b hb => hmr b (by rw [← hb]; first | (simp; done) | simp [rb]))
        replace hE_28 := El.keep hE_28 hmv
        replace hq_37 := Row.keep hq_37 hmv (fun b hb => hmr b (by rw [← hb]; first | (simp; done) | simp [rb]))
        replace hE := hE'
        replace hI := hI.rebase
        clear hE' hmv hmr
        obtain ⟨hE', hmv, hq_37, hcap_40⟩ := Row.still (l1 := [rb A_17]) (l2 := []) hq_37 hE
        have hmr : ∀ b : Nat, some b ∈ ([rb A_17, rb A_36] : List (Option Nat)) → w_39.heap[b]? = w_39.heap[b]? := fun _ _ => rfl
        replace hx0 := Kd.keep _ hx0 hmv
        replace hq_16 := Row.keep hq_16 hmv (fun b hb => hmr b (by rw [← hb]; first | (simp; done) | simp [rb]))
        replace hE_28 := El.keep hE_28 hmv
        replace hE := hE'
        clear hE' hmv hmr
        obtain ⟨hN_41, H1⟩ := req_some H1
        replace hN_41 := of_decide_eq_true hN_41
        refine append_ (S0 := S) (l1 := []) (l2 := []) (d := kd_Span) (e := 109) hF hE hI hW rfl (A := A_17) (c := c_18) (l := s1.2.2.1) rfl (A2 := A_36) (c2 := (([(⟨s1.2.2.2, (rd x0.Parts s1.1).Private⟩ : Span)] : List Span).length)) rfl hq_16 hq_37 (fun sv u hu => by exact kd_one_Span _ sv u hu) Try.underlying103 (zi := (.agg #[.int .i64 0, .int .i64 0], 2, 16)) (by kernel_rfl) rfl (by kernel_rfl) (len_max (by decide) hN_41) hN_41 (fun A_42 c_43 => ⟨[⟨16, [], .v (.slice A_42 (s1.2.2.1 ++ [(⟨s1.2.2.2, (rd x0.Parts s1.1).Private⟩ : Span)]).length c_43)⟩, ⟨8, [], .v (.slice A_17 s1.2.2.1.length c_18)⟩, ⟨15, [], .v (.slice A_36 ([(⟨s1.2.2.2, (rd x0.Parts s1.1).Private⟩ : Span)] : List Span).length (([(⟨s1.2.2.2, (rd x0.Parts s1.1).Private⟩ : Span)] : List Span).length))⟩, ⟨0, [], .p 2 0⟩, ⟨1, [], .v (.int .i64 ((rd x0.Parts s1.1).Private))⟩], [], [], [((((kd_Config).cells x0 sv0).map EV.v), 29), ([.v (.int .i64 0), .v (.slice none 0 0), .v (.int .i64 0)], 105), ([.v (.int .i64 s1.2.1), .v (.slice A_17 s1.2.2.1.length c_18), .v (.int .i64 s1.2.2.2)], 105), ((((kd_Part).cells (rd x0.Parts s1.1) sv_26).map EV.v), 86)], none, some (4, ns_31)⟩) (fun A_42 c_43 => by kernel_rfl) (fun A_42 c_43 a w_44 hput hE' hI' hmv hmr hq_16 => ?_)
        replace hx0 := Kd.keep _ hx0 hmv
        replace hE_28 := El.keep hE_28 hmv
        replace hq_37 := Arr.keep hq_37 hmv
        replace hE := hE'
        replace hI := hI'
        clear hE' hI' hmv hmr
        refine next_ hJ h1 hnl hsz hu (by kernel_rfl) (by kernel_rfl) hput hI (live := [0, 1]) ⟨[⟨0, [], .p 2 0⟩, ⟨1, [], .v (.int .i64 ((rd x0.Parts s1.1).Private))⟩], [], [], [((((kd_Config).cells x0 sv0).map EV.v), 29), ([.v (.int .i64 0), .v (.slice none 0 0), .v (.int .i64 0)], 105), ([.v (.int .i64 s1.2.1), .v (.slice A_17 s1.2.2.1.length c_18), .v (.int .i64 s1.2.2.2)], 105), ((((kd_Part).cells (rd x0.Parts s1.1) sv_26).map EV.v), 86)], none, some (4, ns_31)⟩ (by kernel_rfl) (some (.v (.slice A_42 (s1.2.2.1 ++ [(⟨s1.2.2.2, (rd x0.Parts s1.1).Private⟩ : Span)]).length c_43))) (by kernel_rfl) [] [.q 4 (.p 2 0) [], .q 5 (.p 2 0) [], .q 6 (.p 2 0) [], .q 7 (.p 2 1) [], .t (some 8) (some (.v (.slice A_17 s1.2.2.1.length c_18))), .q 9 (.p 2 0) [], .q 10 (.p 2 0) [], .q 11 (.p 2 2) [], .q 12 (.v (.int .i64 s1.2.2.2)) [], .q 13 (.v (.int .i64 ((rd x0.Parts s1.1).Private))) [], .t (some 14) (some (.v (.agg #[.int .i64 s1.2.2.2, .int .i64 ((rd x0.Parts s1.1).Private)]))), .t (some 15) (some (.v (.slice A_36 ([(⟨s1.2.2.2, (rd x0.Parts s1.1).Private⟩ : Span)] : List Span).length (([(⟨s1.2.2.2, (rd x0.Parts s1.1).Private⟩ : Span)] : List Span).length)))), .t (some 16) (some (.v (.slice A_42 (s1.2.2.1 ++ [(⟨s1.2.2.2, (rd x0.Parts s1.1).Private⟩ : Span)]).length c_43))), .q 17 (.p 2 0) [], .q 18 (.p 2 1) [], .no] (by kernel_rfl) (by kernel_rfl) (by kernel_rfl) True.intro (AL.none (by kernel_rfl)) (fun hJ hsz hu => ?_)
        refine stage_ hJ hF hsz hu [.q [] [], .q [] [], .q [1] [], .q [2] [], .t (some (.v (.slice A_17 s1.2.2.1.length c_18))), .q [] [], .q [5] [], .q [6] [], .q [7] [], .q [] [], .t (some (.v (.agg #[.int .i64 s1.2.2.2, .int .i64 ((rd x0.Parts s1.1).Private)]))), .t (some (.v (.slice A_36 ([(⟨s1.2.2.2, (rd x0.Parts s1.1).Private⟩ : Span)] : List Span).length (([(⟨s1.2.2.2, (rd x0.Parts s1.1).Private⟩ : Span)] : List Span).length)))), .t (some (.v (.slice A_42 (s1.2.2.1 ++ [(⟨s1.2.2.2, (rd x0.Parts s1.1).Private⟩ : Span)]).length c_43))), .q [0] [], .q [13] [], .no] (by kernel_rfl) (by kernel_rfl) (by kernel_rfl) (by kernel_rfl) 15 rfl (by kernel_rfl) (by kernel_rfl) [14, 12] rfl (by kernel_rfl) (by kernel_rfl) trivial [0, 1, 2, 3, 5, 6, 7, 8, 9, 14] (by kernel_rfl) [.t (some 4) (some (.p 2 0)), .t (some 5) (some (.p 2 0)), .t (some 6) (some (.p 2 0)), .t (some 7) (some (.p 2 1)), .t (some 8) (some (.v (.slice A_17 s1.2.2.1.length c_18))), .t (some 9) (some (.p 2 0)), .t (some 10) (some (.p 2 0)), .t (some 11) (some (.p 2 2)), .t (some 12) (some (.v (.int .i64 s1.2.2.2))), .t (some 13) (some (.v (.int .i64 ((rd x0.Parts s1.1).Private)))), .t (some 14) (some (.v (.agg #[.int .i64 s1.2.2.2, .int .i64 ((rd x0.Parts s1.1).Private)]))), .t (some 15) (some (.v (.slice A_36 ([(⟨s1.2.2.2, (rd x0.Parts s1.1).Private⟩ : Span)] : List Span).length (([(⟨s1.2.2.2, (rd x0.Parts s1.1).Private⟩ : Span)] : List Span).length)))), .t (some 16) (some (.v (.slice A_42 (s1.2.2.1 ++ [(⟨s1.2.2.2, (rd x0.Parts s1.1).Private⟩ : Span)]).length c_43))), .q 17 (.p 2 0) [], .t (some 18) (some (.p 2 1)), .no] (by kernel_rfl) (fun fuel listed a w_45 hJ hI hW h1 hnl hsz hu => ?_)
        refine store_ hF hI hW rfl rfl (k := 2) (cs := [.v (.int .i64 s1.2.1), .v (.slice A_42 (s1.2.2.1 ++ [(⟨s1.2.2.2, (rd x0.Parts s1.1).Private⟩ : Span)]).length c_43), .v (.int .i64 s1.2.2.2)]) (T := 105) (by kernel_rfl) (by kernel_rfl) rfl (fun a w_46 hput hI => ?_)
        refine next_ hJ h1 hnl hsz hu (by kernel_rfl) (by kernel_rfl) hput hI (live := [0, 1]) ⟨[⟨0, [], .p 2 0⟩, ⟨1, [], .v (.int .i64 ((rd x0.Parts s1.1).Private))⟩], [], [], [((((kd_Config).cells x0 sv0).map EV.v), 29), ([.v (.int .i64 0), .v (.slice none 0 0), .v (.int .i64 0)], 105), ([.v (.int .i64 s1.2.1), .v (.slice A_42 (s1.2.2.1 ++ [(⟨s1.2.2.2, (rd x0.Parts s1.1).Private⟩ : Span)]).length c_43), .v (.int .i64 s1.2.2.2)], 105), ((((kd_Part).cells (rd x0.Parts s1.1) sv_26).map EV.v), 86)], none, some (4, ns_31)⟩ (by kernel_rfl) none (by kernel_rfl) [] [.t (some 4) (some (.p 2 0)), .t (some 5) (some (.p 2 0)), .t (some 6) (some (.p 2 0)), .t (some 7) (some (.p 2 1)), .t (some 8) (some (.v (.slice A_17 s1.2.2.1.length c_18))), .t (some 9) (some (.p 2 0)), .t (some 10) (some (.p 2 0)), .t (some 11) (some (.p 2 2)), .t (some 12) (some (.v (.int .i64 s1.2.2.2))), .t (some 13) (some (.v (.int .i64 ((rd x0.Parts s1.1).Private)))), .t (some 14) (some (.v (.agg #[.int .i64 s1.2.2.2, .int .i64 ((rd x0.Parts s1.1).Private)]))), .t (some 15) (some (.v (.slice A_36 ([(⟨s1.2.2.2, (rd x0.Parts s1.1).Private⟩ : Span)] : List Span).length (([(⟨s1.2.2.2, (rd x0.Parts s1.1).Private⟩ : Span)] : List Span).length)))), .t (some 16) (some (.v (.slice A_42 (s1.2.2.1 ++ [(⟨s1.2.2.2, (rd x0.Parts s1.1).Private⟩ : Span)]).length c_43))), .q 17 (.p 2 0) [], .t (some 18) (some (.p 2 1)), .t none none] (by kernel_rfl) (by kernel_rfl) (by kernel_rfl) True.intro (AL.none (by kernel_rfl)) (fun hJ hsz hu => ?_)
        refine end_ hJ hF hsz hu [.t (some (.p 2 0)), .t (some (.p 2 0)), .t (some (.p 2 0)), .t (some (.p 2 1)), .t (some (.v (.slice A_17 s1.2.2.1.length c_18))), .t (some (.p 2 0)), .t (some (.p 2 0)), .t (some (.p 2 2)), .t (some (.v (.int .i64 s1.2.2.2))), .t (some (.v (.int .i64 ((rd x0.Parts s1.1).Private)))), .t (some (.v (.agg #[.int .i64 s1.2.2.2, .int .i64 ((rd x0.Parts s1.1).Private)]))), .t (some (.v (.slice A_36 ([(⟨s1.2.2.2, (rd x0.Parts s1.1).Private⟩ : Span)] : List Span).length (([(⟨s1.2.2.2, (rd x0.Parts s1.1).Private⟩ : Span)] : List Span).length)))), .t (some (.v (.slice A_42 (s1.2.2.1 ++ [(⟨s1.2.2.2, (rd x0.Parts s1.1).Private⟩ : Span)]).length c_43))), .q [0] [], .t (some (.p 2 1)), .t none] (by kernel_rfl) (by kernel_rfl) (by kernel_rfl) (by kernel_rfl) (by kernel_rfl) (by kernel_rfl) (live := [0, 1]) ⟨[⟨0, [], .p 2 0⟩, ⟨1, [], .v (.int .i64 ((rd x0.Parts s1.1).Private))⟩], [], [], [((((kd_Config).cells x0 sv0).map EV.v), 29), ([.v (.int .i64 0), .v (.slice none 0 0), .v (.int .i64 0)], 105), ([.v (.int .i64 s1.2.1), .v (.slice A_42 (s1.2.2.1 ++ [(⟨s1.2.2.2, (rd x0.Parts s1.1).Private⟩ : Span)]).length c_43), .v (.int .i64 s1.2.2.2)], 105), ((((kd_Part).cells (rd x0.Parts s1.1) sv_26).map EV.v), 86)], none, some (4, ns_31)⟩ (by kernel_rfl) trivial (fun a w_47 hI => ?_)
        refine then_normal ?_
        refine region_ (live := []) (orc := []) hF hI ⟨[], [], [], [((((kd_Config).cells x0 sv0).map EV.v), 29), ([.v (.int .i64 0), .v (.slice none 0 0), .v (.int .i64 0)], 105), ([.v (.int .i64 s1.2.1), .v (.slice A_42 (s1.2.2.1 ++ [(⟨s1.2.2.2, (rd x0.Parts s1.1).Private⟩ : Span)]).length c_43), .v (.int .i64 (IntKind.i64.wrap (s1.2.2.2 + ((rd x0.Parts s1.1).Private))))], 105), ((((kd_Part).cells (rd x0.Parts s1.1) sv_26).map EV.v), 86)], none, some (4, ns_31)⟩ [] (by kernel_rfl) trivial (fun ns_48 a w_49 hI _ => ?_)
        obtain ⟨hE', hmv, hmr⟩ := Ep.rebase (S0 := S) hE hI
        replace hx0 := Kd.keep _ hx0 hmv
        replace hE_28 := El.keep hE_28 hmv
        replace hq_37 := Arr.keep hq_37 hmv
        replace hq_16 := Row.keep hq_16 hmv (fun b hb => hmr b (by rw [← hb]; first | (simp; done) | simp [rb]))
        replace hE := hE'
        replace hI := hI.rebase
        clear hE' hmv hmr
        obtain ⟨hE', hI', hmv⟩ := Ep.uncall (S0 := S) (bs := [((((kd_Config).cells x0 sv0).map EV.v), 29), ([.v (.int .i64 0), .v (.slice none 0 0), .v (.int .i64 0)], 105), ([.v (.int .i64 s1.2.1), .v (.slice A_42 (s1.2.2.1 ++ [(⟨s1.2.2.2, (rd x0.Parts s1.1).Private⟩ : Span)]).length c_43), .v (.int .i64 (IntKind.i64.wrap (s1.2.2.2 + ((rd x0.Parts s1.1).Private))))], 105), ((((kd_Part).cells (rd x0.Parts s1.1) sv_26).map EV.v), 86)]) hOu_33 hE hI rfl rfl rfl rfl (by kernel_rfl) rfl
        have hmr : ∀ b : Nat, some b ∈ ([rb A_42] : List (Option Nat)) → w_49.heap[b]? = w_49.heap[b]? := fun _ _ => rfl
        replace hx0 := Kd.keep _ hx0 hmv
        replace hE_28 := El.keep hE_28 hmv
        replace hq_37 := Arr.keep hq_37 hmv
        replace hq_16 := Row.keep hq_16 hmv (fun b hb => hmr b (by rw [← hb]; first | (simp; done) | simp [rb]))
        replace hE := hE'
        clear hE' hmv hmr
        refine retN (retG hI rfl rfl ⟨.tuple #[], rfl, ?_⟩)
        refine putI_ hI' ⟨[⟨28, [], .v (.tuple #[])⟩, ⟨27, [], .v (.int .i64 ((rd x0.Parts s1.1).Private))⟩, ⟨25, [], .f (.func 79) [.inr (2, 0)] []⟩, ⟨21, [], .v (.int .i64 s1.1)⟩, ⟨20, [], .v (.int .i64 (x0.Parts.length : Int))⟩, ⟨19, [], .v (.slice ((sv0 0).1) x0.Parts.length ((sv0 0).2))⟩, ⟨4, [], .f (.func 79) [.inr (2, 0)] []⟩, ⟨3, [], .p 2 0⟩, ⟨2, [], .p 1 0⟩, ⟨1, [], .p 0 0⟩], [], [], [((((kd_Config).cells x0 sv0).map EV.v), 29), ([.v (.int .i64 0), .v (.slice none 0 0), .v (.int .i64 0)], 105), ([.v (.int .i64 s1.2.1), .v (.slice A_42 (s1.2.2.1 ++ [(⟨s1.2.2.2, (rd x0.Parts s1.1).Private⟩ : Span)]).length c_43), .v (.int .i64 (IntKind.i64.wrap (s1.2.2.2 + ((rd x0.Parts s1.1).Private))))], 105), ((((kd_Part).cells (rd x0.Parts s1.1) sv_26).map EV.v), 86)], none, none⟩ (by kernel_rfl) (fun a hI => ?_)
        clear hI'
        have hF := hFu_33
        refine chunkL_ (live := [21, 20, 19, 4, 3, 2, 1]) (orc := []) hF 0 hI ⟨[⟨21, [], .v (.int .i64 s1.1)⟩, ⟨20, [], .v (.int .i64 (x0.Parts.length : Int))⟩, ⟨19, [], .v (.slice ((sv0 0).1) x0.Parts.length ((sv0 0).2))⟩, ⟨4, [], .f (.func 79) [.inr (2, 0)] []⟩, ⟨3, [], .p 2 0⟩, ⟨2, [], .p 1 0⟩, ⟨1, [], .p 0 0⟩], [], [], [((((kd_Config).cells x0 sv0).map EV.v), 29), ([.v (.int .i64 0), .v (.slice none 0 0), .v (.int .i64 0)], 105), ([.v (.int .i64 s1.2.1), .v (.slice A_42 (s1.2.2.1 ++ [(⟨s1.2.2.2, (rd x0.Parts s1.1).Private⟩ : Span)]).length c_43), .v (.int .i64 (IntKind.i64.wrap (s1.2.2.2 + ((rd x0.Parts s1.1).Private))))], 105), ((((kd_Part).cells (rd x0.Parts s1.1) sv_26).map EV.v), 86)], none, none⟩ [] rfl (by kernel_rfl) trivial (fun ns_50 a w_51 hI => ?_)
        refine wpListIn_nil ?_
        refine inBlock_normal ?_
        refine then_normal ?_
        refine region_ (live := [21, 20, 19, 4, 3, 2, 1]) (orc := []) hF hI ⟨[⟨21, [], .v (.int .i64 (IntKind.i64.wrap (s1.1 + 1)))⟩, ⟨20, [], .v (.int .i64 (x0.Parts.length : Int))⟩, ⟨19, [], .v (.slice ((sv0 0).1) x0.Parts.length ((sv0 0).2))⟩, ⟨4, [], .f (.func 79) [.inr (2, 0)] []⟩, ⟨3, [], .p 2 0⟩, ⟨2, [], .p 1 0⟩, ⟨1, [], .p 0 0⟩], [], [], [((((kd_Config).cells x0 sv0).map EV.v), 29), ([.v (.int .i64 0), .v (.slice none 0 0), .v (.int .i64 0)], 105), ([.v (.int .i64 s1.2.1), .v (.slice A_42 (s1.2.2.1 ++ [(⟨s1.2.2.2, (rd x0.Parts s1.1).Private⟩ : Span)]).length c_43), .v (.int .i64 (IntKind.i64.wrap (s1.2.2.2 + ((rd x0.Parts s1.1).Private))))], 105), ((((kd_Part).cells (rd x0.Parts s1.1) sv_26).map EV.v), 86)], none, none⟩ [] (by kernel_rfl) trivial (fun ns_52 a w_53 hI _ => ?_)
        refine then_normal ?_
        obtain ⟨hE', hmv, hmr⟩ := Ep.rebase (S0 := S) hE hI
        replace hx0 := Kd.keep _ hx0 hmv
        replace hE_28 := El.keep hE_28 hmv
        replace hq_37 := Arr.keep hq_37 hmv
        replace hq_16 := Row.keep hq_16 hmv (fun b hb => hmr b (by rw [← hb]; first | (simp; done) | simp [rb]))
        replace hE := hE'
        replace hI := hI.rebase
        clear hE' hmv hmr
        obtain rfl := Option.some.inj H1
        exact ⟨_, rfl, ⟨_, _, _, _, hx0, hq_16, hE, hI.pick [21, 20, 19, 4, 3, 2, 1] 3 ⟨[⟨21, [], .v (.int .i64 (IntKind.i64.wrap (s1.1 + 1)))⟩, ⟨20, [], .v (.int .i64 (x0.Parts.length : Int))⟩, ⟨19, [], .v (.slice ((sv0 0).1) x0.Parts.length ((sv0 0).2))⟩, ⟨4, [], .f (.func 79) [.inr (2, 0)] []⟩, ⟨3, [], .p 2 0⟩, ⟨2, [], .p 1 0⟩, ⟨1, [], .p 0 0⟩], [], [], [((((kd_Config).cells x0 sv0).map EV.v), 29), ([.v (.int .i64 0), .v (.slice none 0 0), .v (.int .i64 0)], 105), ([.v (.int .i64 s1.2.1), .v (.slice A_42 (s1.2.2.1 ++ [(⟨s1.2.2.2, (rd x0.Parts s1.1).Private⟩ : Span)]).length c_43), .v (.int .i64 (IntKind.i64.wrap (s1.2.2.2 + ((rd x0.Parts s1.1).Private))))], 105)], none, none⟩ (by kernel_rfl)⟩⟩
      · replace H1 := bif_f hc_24 H1
        refine wpIn_exit ?_
        refine then_exit ?_
        refine then_exit ?_
        obtain ⟨hE', hmv, hmr⟩ := Ep.rebase (S0 := S) hE hI
        replace hx0 := Kd.keep _ hx0 hmv
        replace hq_16 := Row.keep hq_16 hmv (fun b hb => hmr b (by rw [← hb]; first | (simp; done) | simp [rb]))
        replace hE := hE'
        replace hI := hI.rebase
        clear hE' hmv hmr
        obtain rfl := Option.some.inj H1
        exact .inl ⟨_, rfl, rfl, ⟨_, _, _, _, hx0, hq_16, hE, hI.pick [21, 20, 19, 4, 3, 2, 1] 3 ⟨[⟨21, [], .v (.int .i64 s1.1)⟩, ⟨20, [], .v (.int .i64 (x0.Parts.length : Int))⟩, ⟨19, [], .v (.slice ((sv0 0).1) x0.Parts.length ((sv0 0).2))⟩, ⟨4, [], .f (.func 79) [.inr (2, 0)] []⟩, ⟨3, [], .p 2 0⟩, ⟨2, [], .p 1 0⟩, ⟨1, [], .p 0 0⟩], [], [], [((((kd_Config).cells x0 sv0).map EV.v), 29), ([.v (.int .i64 0), .v (.slice none 0 0), .v (.int .i64 0)], 105), ([.v (.int .i64 s1.2.1), .v (.slice A_17 s1.2.2.1.length c_18), .v (.int .i64 s1.2.2.2)], 105)], none, none⟩ (by kernel_rfl)⟩⟩
    · clear hI hE
      rintro s1 a w_56 ho ⟨ow_58, ns_57, A_17, c_18, hx0, hq_16, hE, hI⟩
      subst ho
      replace H0 : (((loopω (G_layout_of.b2 x0 t_3 s1) (0, s1.2.1, s1.2.2.1, s1.2.2.2)).bind fun o => o.on (fun s2 => some (⟨s2.2.1, s2.2.2.1, s2.2.2.2⟩ : Layout_plan)) (fun r => some r)) : Option (Layout_plan)) = _ := H0
      refine then_normal ?_
      refine wpIn_seq ?_
      refine seq_region (live := [33, 32, 31, 4, 3, 2]) (orc := []) hF hI ⟨[⟨33, [], .v (.int .i64 0)⟩, ⟨32, [], .v (.int .i64 (x0.Chans.length : Int))⟩, ⟨31, [], .v (.slice ((sv0 1).1) x0.Chans.length ((sv0 1).2))⟩, ⟨4, [], .f (.func 79) [.inr (2, 0)] []⟩, ⟨3, [], .p 2 0⟩, ⟨2, [], .p 1 0⟩], [], [], [((((kd_Config).cells x0 sv0).map EV.v), 29), ([.v (.int .i64 0), .v (.slice none 0 0), .v (.int .i64 0)], 105), ([.v (.int .i64 s1.2.1), .v (.slice A_17 s1.2.2.1.length c_18), .v (.int .i64 s1.2.2.2)], 105)], none, none⟩ [] (by kernel_rfl) trivial (fun ns_59 a w_60 hI _ => ?_)
      obtain ⟨hE', hmv, hmr⟩ := Ep.rebase (S0 := S) hE hI
      replace hx0 := Kd.keep _ hx0 hmv
      replace hq_16 := Row.keep hq_16 hmv (fun b hb => hmr b (by rw [← hb]; first | (simp; done) | simp [rb]))
      replace hE := hE'
      replace hI := hI.rebase
      clear hE' hmv hmr
      obtain ⟨o_121, hL_122, H0⟩ := bind_some H0
      refine block_loop (fun (s2 : Int × Int × (List Span) × Int) a w_129 => ∃ (ow ns : List Nat) (A_61 : Option Addr) (c_62 : Nat), ((kd_Config).cont (Lo S w w_129 ow [rb A_61]) w_129 x0 sv0) ∧ (Row kd_Span 109 (Lo S w w_129 ow [rb A_61]) w_129 w.heap.size A_61 c_62 s2.2.2.1) ∧ Ep w w_129 ow [rb A_61] ∧ St w_129 ow 45 ⟨[⟨33, [], .v (.int .i64 s2.1)⟩, ⟨32, [], .v (.int .i64 (x0.Chans.length : Int))⟩, ⟨31, [], .v (.slice ((sv0 1).1) x0.Chans.length ((sv0 1).2))⟩, ⟨4, [], .f (.func 79) [.inr (2, 0)] []⟩, ⟨3, [], .p 2 0⟩, ⟨2, [], .p 1 0⟩], [], [], [((((kd_Config).cells x0 sv0).map EV.v), 29), ([.v (.int .i64 0), .v (.slice none 0 0), .v (.int .i64 0)], 105), ([.v (.int .i64 s2.2.1), .v (.slice A_61 s2.2.2.1.length c_62), .v (.int .i64 s2.2.2.2)], 105)], none, none⟩ ns a w_129) (0, s1.2.1, s1.2.2.1, s1.2.2.2) hL_122 ⟨_, _, _, _, hx0, hq_16, hE, hI.pick [33, 32, 31, 4, 3, 2] 3 ⟨[⟨33, [], .v (.int .i64 0)⟩, ⟨32, [], .v (.int .i64 (x0.Chans.length : Int))⟩, ⟨31, [], .v (.slice ((sv0 1).1) x0.Chans.length ((sv0 1).2))⟩, ⟨4, [], .f (.func 79) [.inr (2, 0)] []⟩, ⟨3, [], .p 2 0⟩, ⟨2, [], .p 1 0⟩], [], [], [((((kd_Config).cells x0 sv0).map EV.v), 29), ([.v (.int .i64 0), .v (.slice none 0 0), .v (.int .i64 0)], 105), ([.v (.int .i64 s1.2.1), .v (.slice A_17 s1.2.2.1.length c_18), .v (.int .i64 s1.2.2.2)], 105)], none, none⟩ (by kernel_rfl)⟩ ?_ ?_
      · clear hI hE
        rintro s2 a w_63 ⟨ow_65, ns_64, A_61, c_62, hx0, hq_16, hE, hI⟩ r2 H1
        unfold G_layout_of.b2 at H1
        refine seq_region (live := [34, 33, 32, 31, 4, 3, 2]) (orc := []) hF hI ⟨[⟨34, [], .v (.bool (decide (s2.1 < (x0.Chans.length : Int))))⟩, ⟨33, [], .v (.int .i64 s2.1)⟩, ⟨32, [], .v (.int .i64 (x0.Chans.length : Int))⟩, ⟨31, [], .v (.slice ((sv0 1).1) x0.Chans.length ((sv0 1).2))⟩, ⟨4, [], .f (.func 79) [.inr (2, 0)] []⟩, ⟨3, [], .p 2 0⟩, ⟨2, [], .p 1 0⟩], [], [], [((((kd_Config).cells x0 sv0).map EV.v), 29), ([.v (.int .i64 0), .v (.slice none 0 0), .v (.int .i64 0)], 105), ([.v (.int .i64 s2.2.1), .v (.slice A_61 s2.2.2.1.length c_62), .v (.int .i64 s2.2.2.2)], 105)], none, none⟩ [] (by kernel_rfl) trivial (fun ns_66 a w_67 hI _ => ?_)
        refine wpIn_seq ?_
        refine cond_ hI (decide (s2.1 < (x0.Chans.length : Int))) rfl (fun hc_68 => ?_) (fun hc_68 => ?_)
        · replace H1 := bif_t hc_68 H1
          refine wpIn_skip ?_
          refine then_normal ?_
          refine wpIn_seq ?_
          refine wpIn_block ?_
          obtain ⟨hN_69, H1⟩ := req_some H1
          obtain ⟨sv_70, hE_72, hA_71⟩ := Arr.elB (d := kd_Chan) hx0.2.1.1 s2.1 true (fun _ => hN_69)
          replace hE_72 := hE_72 rfl
          replace hA_71 := fun (_ : true = true) => hA_71 rfl
          refine seq_region (live := [8, 33, 32, 31, 4, 3, 2]) (orc := [(kd_Chan).cells (rd x0.Chans s2.1) sv_70]) hF hI ⟨[⟨8, [], .p 3 0⟩, ⟨33, [], .v (.int .i64 s2.1)⟩, ⟨32, [], .v (.int .i64 (x0.Chans.length : Int))⟩, ⟨31, [], .v (.slice ((sv0 1).1) x0.Chans.length ((sv0 1).2))⟩, ⟨4, [], .f (.func 79) [.inr (2, 0)] []⟩, ⟨3, [], .p 2 0⟩, ⟨2, [], .p 1 0⟩], [], [], [((((kd_Config).cells x0 sv0).map EV.v), 29), ([.v (.int .i64 0), .v (.slice none 0 0), .v (.int .i64 0)], 105), ([.v (.int .i64 s2.2.1), .v (.slice A_61 s2.2.2.1.length c_62), .v (.int .i64 s2.2.2.2)], 105), ((((kd_Chan).cells (rd x0.Chans s2.1) sv_70).map EV.v), 74)], none, none⟩ [.need true (0 ≤ s2.1 ∧ s2.1 < (x0.Chans.length : Int)), .need true ((sv0 1).1 = some (adr ((sv0 1).1))), .cell true ((adr ((sv0 1).1)).add ((s2.1 : Int).toNat * 7)) ((kd_Chan).cells (rd x0.Chans s2.1) sv_70)] (by kernel_rfl) ⟨ob_inb (fun _ => hN_69), hA_71, ob_el (fun _ => hE_72) 0 ((kd_Chan).cells (rd x0.Chans s2.1) sv_70) rfl, trivial⟩ (fun ns_73 a w_74 hI _ => ?_)
          refine wpIn_seq ?_
          refine wpIn_region_lit ?_
          obtain ⟨t_75, hG_76, H1⟩ := bind_some H1
          refine chunkL_ (live := [39, 37, 33, 32, 31, 4, 3, 2]) (orc := [[.int .i64 t_75]]) hF 3 hI ⟨[⟨39, [], .v (.int .i64 t_75)⟩, ⟨37, [], .f (.func 79) [.inr (2, 0)] []⟩, ⟨33, [], .v (.int .i64 s2.1)⟩, ⟨32, [], .v (.int .i64 (x0.Chans.length : Int))⟩, ⟨31, [], .v (.slice ((sv0 1).1) x0.Chans.length ((sv0 1).2))⟩, ⟨4, [], .f (.func 79) [.inr (2, 0)] []⟩, ⟨3, [], .p 2 0⟩, ⟨2, [], .p 1 0⟩], [], [], [((((kd_Config).cells x0 sv0).map EV.v), 29), ([.v (.int .i64 0), .v (.slice none 0 0), .v (.int .i64 0)], 105), ([.v (.int .i64 s2.2.1), .v (.slice A_61 s2.2.2.1.length c_62), .v (.int .i64 s2.2.2.2)], 105), ((((kd_Chan).cells (rd x0.Chans s2.1) sv_70).map EV.v), 74)], none, none⟩ [.call true 80 [.agg ((kd_Chan).cells (rd x0.Chans s2.1) (svL [])).toArray] (.int .i64 t_75)] rfl (by kernel_rfl) ⟨ob_call (enters Try.func80 (by kernel_rfl) rfl) (fun hg wz hk => G_layout_sized.calls (rd x0.Chans s2.1) (svL []) wz (S := fun _ => True) (Kd.any _ (Kd.keep kd_Chan (contI (S := Lo S w w_63 ow_65 [rb A_61]) (w := w_63) (d := kd_Chan) (x := (rd x0.Chans s2.1)) (sv := (svL [])) trivial) (Lo.on hk))) _ hG_76), trivial⟩ (fun ns_77 a w_78 hI => ?_)
          obtain ⟨hE', hmv, hmr⟩ := Ep.rebase (S0 := S) hE hI
          replace hx0 := Kd.keep _ hx0 hmv
          replace hq_16 := Row.keep hq_16 hmv (fun b hb => hmr b (by rw [← hb]; first | (simp; done) | simp [rb]))
          replace hE_72 := El.keep hE_72 hmv
          replace hE := hE'
          replace hI := hI.rebase
          clear hE' hmv hmr
          refine callI_ hF hI (wanted_none rfl) rfl Try.func79 (by kernel_rfl) rfl (n' := 27) rfl (by kernel_rfl) (by kernel_rfl) (fun au_79 hIu_79 => ?_)
          have hOu_79 := hI
          have hFu_79 := hF
          have hF : FOpen Fence.wide := .inl rfl
          have hI : St w_78 ns_77 27 ⟨[⟨0, [], .p 2 0⟩, ⟨1, [], .v (.int .i64 t_75)⟩], [], [], [((((kd_Config).cells x0 sv0).map EV.v), 29), ([.v (.int .i64 0), .v (.slice none 0 0), .v (.int .i64 0)], 105), ([.v (.int .i64 s2.2.1), .v (.slice A_61 s2.2.2.1.length c_62), .v (.int .i64 s2.2.2.2)], 105), ((((kd_Chan).cells (rd x0.Chans s2.1) sv_70).map EV.v), 74)], none, some (4, ns_77)⟩ ns_77 au_79 w_78 := hIu_79
          clear hIu_79
          refine wpIn_seq ?_
          replace hI := hI.fin (live := [0, 1]) (σ2 := ⟨[⟨0, [], .p 2 0⟩, ⟨1, [], .v (.int .i64 t_75)⟩], [], [], [((((kd_Config).cells x0 sv0).map EV.v), 29), ([.v (.int .i64 0), .v (.slice none 0 0), .v (.int .i64 0)], 105), ([.v (.int .i64 s2.2.1), .v (.slice A_61 s2.2.2.1.length c_62), .v (.int .i64 s2.2.2.2)], 105), ((((kd_Chan).cells (rd x0.Chans s2.1) sv_70).map EV.v), 74)], none, some (4, ns_77)⟩) (by kernel_rfl)
          refine drawnS_ hI (by kernel_rfl) [.q 4 (.p 2 0) [], .q 5 (.p 2 0) [], .q 6 (.p 2 0) [], .q 7 (.p 2 1) [], .q 8 (.v (.slice A_61 s2.2.2.1.length c_62)) [], .q 9 (.p 2 0) [], .q 10 (.p 2 0) [], .q 11 (.p 2 2) [], .q 12 (.v (.int .i64 s2.2.2.2)) [], .q 13 (.v (.int .i64 t_75)) [], .q 14 (.v (.agg #[.int .i64 s2.2.2.2, .int .i64 t_75])) [], .no, .no, .q 17 (.p 2 0) [], .q 18 (.p 2 1) [], .no] (by kernel_rfl) (fun fuel listed w_80 hJ hsz hu => ?_)
          refine stage_ hJ hF hsz hu [.q [] [], .q [] [], .q [1] [], .q [2] [], .q [3] [], .q [] [], .q [5] [], .q [6] [], .q [7] [], .q [] [], .q [8, 9] [], .no, .no, .q [0] [], .q [13] [], .no] (by kernel_rfl) (by kernel_rfl) (by kernel_rfl) (by kernel_rfl) 11 rfl (by kernel_rfl) (by kernel_rfl) [10] rfl (by kernel_rfl) (by kernel_rfl) trivial [10] (by kernel_rfl) [.q 4 (.p 2 0) [], .q 5 (.p 2 0) [], .q 6 (.p 2 0) [], .q 7 (.p 2 1) [], .q 8 (.v (.slice A_61 s2.2.2.1.length c_62)) [], .q 9 (.p 2 0) [], .q 10 (.p 2 0) [], .q 11 (.p 2 2) [], .q 12 (.v (.int .i64 s2.2.2.2)) [], .q 13 (.v (.int .i64 t_75)) [], .t (some 14) (some (.v (.agg #[.int .i64 s2.2.2.2, .int .i64 t_75]))), .no, .no, .q 17 (.p 2 0) [], .q 18 (.p 2 1) [], .no] (by kernel_rfl) (fun fuel listed a w_81 hJ hI hW h1 hnl hsz hu => ?_)
          obtain ⟨hE', hmv, hmr⟩ := Ep.rebase (S0 := S) hE hI
          replace hx0 := Kd.keep _ hx0 hmv
          replace hq_16 := Row.keep hq_16 hmv (fun b hb => hmr b (by rw [← hb]; first | (simp; done) | simp [rb]))
          replace hE_72 := El.keep hE_72 hmv
          replace hE := hE'
          replace hI := hI.rebase
          clear hE' hmv hmr
          refine buildSlice_ (S0 := S) (d := kd_Span) (e := 109) hF hE hI hW rfl (by kernel_rfl) (cs := [.int .i64 s2.2.2.2, .int .i64 t_75]) (by kernel_rfl) [(⟨s2.2.2.2, t_75⟩ : Span)] [(svL [])] rfl rfl (by simp [maxLen]) (fun i x hi => by cases i with | zero => (simp only [List.getElem?_cons_zero, Option.some.injEq] at hi; subst hi; exact ⟨trivial, rfl⟩) | succ i => (simp only [List.getElem?_cons_succ] at hi; simp at hi)) (fun A_82 => ⟨[⟨15, [], .v (.slice A_82 ([(⟨s2.2.2.2, t_75⟩ : Span)] : List Span).length (([(⟨s2.2.2.2, t_75⟩ : Span)] : List Span).length))⟩, ⟨14, [], .v (.agg #[.int .i64 s2.2.2.2, .int .i64 t_75])⟩, ⟨0, [], .p 2 0⟩, ⟨1, [], .v (.int .i64 t_75)⟩], [], [], [((((kd_Config).cells x0 sv0).map EV.v), 29), ([.v (.int .i64 0), .v (.slice none 0 0), .v (.int .i64 0)], 105), ([.v (.int .i64 s2.2.1), .v (.slice A_61 s2.2.2.1.length c_62), .v (.int .i64 s2.2.2.2)], 105), ((((kd_Chan).cells (rd x0.Chans s2.1) sv_70).map EV.v), 74)], none, some (4, ns_77)⟩) (fun A_82 => by kernel_rfl) (fun A_82 a w_84 hput hE' hI' hmv hmr hq_83 => ?_)
          replace hx0 := Kd.keep _ hx0 hmv
          replace hq_16 := Row.keep hq_16 hmv (fun b hb => hmr b (by rw [← hb]; first | (simp; done) | simp [rb]) (by simp))
          replace hE_72 := El.keep hE_72 hmv
          replace hE := hE'
          replace hI := hI'
          clear hE' hI' hmv hmr
          refine next_ hJ h1 hnl hsz hu (by kernel_rfl) (by kernel_rfl) hput hI (live := [0, 1]) ⟨[⟨0, [], .p 2 0⟩, ⟨1, [], .v (.int .i64 t_75)⟩], [], [], [((((kd_Config).cells x0 sv0).map EV.v), 29), ([.v (.int .i64 0), .v (.slice none 0 0), .v (.int .i64 0)], 105), ([.v (.int .i64 s2.2.1), .v (.slice A_61 s2.2.2.1.length c_62), .v (.int .i64 s2.2.2.2)], 105), ((((kd_Chan).cells (rd x0.Chans s2.1) sv_70).map EV.v), 74)], none, some (4, ns_77)⟩ (by kernel_rfl) (some (.v (.slice A_82 ([(⟨s2.2.2.2, t_75⟩ : Span)] : List Span).length (([(⟨s2.2.2.2, t_75⟩ : Span)] : List Span).length)))) (by kernel_rfl) [] [.q 4 (.p 2 0) [], .q 5 (.p 2 0) [], .q 6 (.p 2 0) [], .q 7 (.p 2 1) [], .q 8 (.v (.slice A_61 s2.2.2.1.length c_62)) [], .q 9 (.p 2 0) [], .q 10 (.p 2 0) [], .q 11 (.p 2 2) [], .q 12 (.v (.int .i64 s2.2.2.2)) [], .q 13 (.v (.int .i64 t_75)) [], .t (some 14) (some (.v (.agg #[.int .i64 s2.2.2.2, .int .i64 t_75]))), .t (some 15) (some (.v (.slice A_82 ([(⟨s2.2.2.2, t_75⟩ : Span)] : List Span).length (([(⟨s2.2.2.2, t_75⟩ : Span)] : List Span).length)))), .no, .q 17 (.p 2 0) [], .q 18 (.p 2 1) [], .no] (by kernel_rfl) (by kernel_rfl) (by kernel_rfl) True.intro (AL.none (by kernel_rfl)) (fun hJ hsz hu => ?_)
          refine stage_ hJ hF hsz hu [.q [] [], .q [] [], .q [1] [], .q [2] [], .q [3] [], .q [] [], .q [5] [], .q [6] [], .q [7] [], .q [] [], .t (some (.v (.agg #[.int .i64 s2.2.2.2, .int .i64 t_75]))), .t (some (.v (.slice A_82 ([(⟨s2.2.2.2, t_75⟩ : Span)] : List Span).length (([(⟨s2.2.2.2, t_75⟩ : Span)] : List Span).length)))), .no, .q [0] [], .q [13] [], .no] (by kernel_rfl) (by kernel_rfl) (by kernel_rfl) (by kernel_rfl) 12 rfl (by kernel_rfl) (by kernel_rfl) [4, 11] rfl (by kernel_rfl) (by kernel_rfl) trivial [4] (by kernel_rfl) [.q 4 (.p 2 0) [], .q 5 (.p 2 0) [], .q 6 (.p 2 0) [], .q 7 (.p 2 1) [], .t (some 8) (some (.v (.slice A_61 s2.2.2.1.length c_62))), .q 9 (.p 2 0) [], .q 10 (.p 2 0) [], .q 11 (.p 2 2) [], .q 12 (.v (.int .i64 s2.2.2.2)) [], .q 13 (.v (.int .i64 t_75)) [], .t (some 14) (some (.v (.agg #[.int .i64 s2.2.2.2, .int .i64 t_75]))), .t (some 15) (some (.v (.slice A_82 ([(⟨s2.2.2.2, t_75⟩ : Span)] : List Span).length (([(⟨s2.2.2.2, t_75⟩ : Span)] : List Span).length)))), .no, .q 17 (.p 2 0) [], .q 18 (.p 2 1) [], .no] (by kernel_rfl) (fun fuel listed a w_85 hJ hI hW h1 hnl hsz hu => ?_)
          obtain ⟨hE', hmv, hmr⟩ := Ep.rebase (S0 := S) hE hI
          replace hx0 := Kd.keep _ hx0 hmv
          replace hq_16 := Row.keep hq_16 hmv (fun b hb => hmr b (by rw [← hb]; first | (simp; done) | simp [rb]))
          replace hE_72 := El.keep hE_72 hmv
          replace hq_83 := Row.keep hq_83 hmv (fun b hb => hmr b (by rw [← hb]; first | (simp; done) | simp [rb]))
          replace hE := hE'
          replace hI := hI.rebase
          clear hE' hmv hmr
          obtain ⟨hE', hmv, hq_83, hcap_86⟩ := Row.still (l1 := [rb A_61]) (l2 := []) hq_83 hE
          have hmr : ∀ b : Nat, some b ∈ ([rb A_61, rb A_82] : List (Option Nat)) → w_85.heap[b]? = w_85.heap[b]? := fun _ _ => rfl
          replace hx0 := Kd.keep _ hx0 hmv
          replace hq_16 := Row.keep hq_16 hmv (fun b hb => hmr b (by rw [← hb]; first | (simp; done) | simp [rb]))
          replace hE_72 := El.keep hE_72 hmv
          replace hE := hE'
          clear hE' hmv hmr
          obtain ⟨hN_87, H1⟩ := req_some H1
          replace hN_87 := of_decide_eq_true hN_87
          refine append_ (S0 := S) (l1 := []) (l2 := []) (d := kd_Span) (e := 109) hF hE hI hW rfl (A := A_61) (c := c_62) (l := s2.2.2.1) rfl (A2 := A_82) (c2 := (([(⟨s2.2.2.2, t_75⟩ : Span)] : List Span).length)) rfl hq_16 hq_83 (fun sv u hu => by exact kd_one_Span _ sv u hu) Try.underlying103 (zi := (.agg #[.int .i64 0, .int .i64 0], 2, 16)) (by kernel_rfl) rfl (by kernel_rfl) (len_max (by decide) hN_87) hN_87 (fun A_88 c_89 => ⟨[⟨16, [], .v (.slice A_88 (s2.2.2.1 ++ [(⟨s2.2.2.2, t_75⟩ : Span)]).length c_89)⟩, ⟨8, [], .v (.slice A_61 s2.2.2.1.length c_62)⟩, ⟨15, [], .v (.slice A_82 ([(⟨s2.2.2.2, t_75⟩ : Span)] : List Span).length (([(⟨s2.2.2.2, t_75⟩ : Span)] : List Span).length))⟩, ⟨0, [], .p 2 0⟩, ⟨1, [], .v (.int .i64 t_75)⟩], [], [], [((((kd_Config).cells x0 sv0).map EV.v), 29), ([.v (.int .i64 0), .v (.slice none 0 0), .v (.int .i64 0)], 105), ([.v (.int .i64 s2.2.1), .v (.slice A_61 s2.2.2.1.length c_62), .v (.int .i64 s2.2.2.2)], 105), ((((kd_Chan).cells (rd x0.Chans s2.1) sv_70).map EV.v), 74)], none, some (4, ns_77)⟩) (fun A_88 c_89 => by kernel_rfl) (fun A_88 c_89 a w_90 hput hE' hI' hmv hmr hq_16 => ?_)
          replace hx0 := Kd.keep _ hx0 hmv
          replace hE_72 := El.keep hE_72 hmv
          replace hq_83 := Arr.keep hq_83 hmv
          replace hE := hE'
          replace hI := hI'
          clear hE' hI' hmv hmr
          refine next_ hJ h1 hnl hsz hu (by kernel_rfl) (by kernel_rfl) hput hI (live := [0, 1]) ⟨[⟨0, [], .p 2 0⟩, ⟨1, [], .v (.int .i64 t_75)⟩], [], [], [((((kd_Config).cells x0 sv0).map EV.v), 29), ([.v (.int .i64 0), .v (.slice none 0 0), .v (.int .i64 0)], 105), ([.v (.int .i64 s2.2.1), .v (.slice A_61 s2.2.2.1.length c_62), .v (.int .i64 s2.2.2.2)], 105), ((((kd_Chan).cells (rd x0.Chans s2.1) sv_70).map EV.v), 74)], none, some (4, ns_77)⟩ (by kernel_rfl) (some (.v (.slice A_88 (s2.2.2.1 ++ [(⟨s2.2.2.2, t_75⟩ : Span)]).length c_89))) (by kernel_rfl) [] [.q 4 (.p 2 0) [], .q 5 (.p 2 0) [], .q 6 (.p 2 0) [], .q 7 (.p 2 1) [], .t (some 8) (some (.v (.slice A_61 s2.2.2.1.length c_62))), .q 9 (.p 2 0) [], .q 10 (.p 2 0) [], .q 11 (.p 2 2) [], .q 12 (.v (.int .i64 s2.2.2.2)) [], .q 13 (.v (.int .i64 t_75)) [], .t (some 14) (some (.v (.agg #[.int .i64 s2.2.2.2, .int .i64 t_75]))), .t (some 15) (some (.v (.slice A_82 ([(⟨s2.2.2.2, t_75⟩ : Span)] : List Span).length (([(⟨s2.2.2.2, t_75⟩ : Span)] : List Span).length)))), .t (some 16) (some (.v (.slice A_88 (s2.2.2.1 ++ [(⟨s2.2.2.2, t_75⟩ : Span)]).length c_89))), .q 17 (.p 2 0) [], .q 18 (.p 2 1) [], .no] (by kernel_rfl) (by kernel_rfl) (by kernel_rfl) True.intro (AL.none (by kernel_rfl)) (fun hJ hsz hu => ?_)
          refine stage_ hJ hF hsz hu [.q [] [], .q [] [], .q [1] [], .q [2] [], .t (some (.v (.slice A_61 s2.2.2.1.length c_62))), .q [] [], .q [5] [], .q [6] [], .q [7] [], .q [] [], .t (some (.v (.agg #[.int .i64 s2.2.2.2, .int .i64 t_75]))), .t (some (.v (.slice A_82 ([(⟨s2.2.2.2, t_75⟩ : Span)] : List Span).length (([(⟨s2.2.2.2, t_75⟩ : Span)] : List Span).length)))), .t (some (.v (.slice A_88 (s2.2.2.1 ++ [(⟨s2.2.2.2, t_75⟩ : Span)]).length c_89))), .q [0] [], .q [13] [], .no] (by kernel_rfl) (by kernel_rfl) (by kernel_rfl) (by kernel_rfl) 15 rfl (by kernel_rfl) (by kernel_rfl) [14, 12] rfl (by kernel_rfl) (by kernel_rfl) trivial [0, 1, 2, 3, 5, 6, 7, 8, 9, 14] (by kernel_rfl) [.t (some 4) (some (.p 2 0)), .t (some 5) (some (.p 2 0)), .t (some 6) (some (.p 2 0)), .t (some 7) (some (.p 2 1)), .t (some 8) (some (.v (.slice A_61 s2.2.2.1.length c_62))), .t (some 9) (some (.p 2 0)), .t (some 10) (some (.p 2 0)), .t (some 11) (some (.p 2 2)), .t (some 12) (some (.v (.int .i64 s2.2.2.2))), .t (some 13) (some (.v (.int .i64 t_75))), .t (some 14) (some (.v (.agg #[.int .i64 s2.2.2.2, .int .i64 t_75]))), .t (some 15) (some (.v (.slice A_82 ([(⟨s2.2.2.2, t_75⟩ : Span)] : List Span).length (([(⟨s2.2.2.2, t_75⟩ : Span)] : List Span).length)))), .t (some 16) (some (.v (.slice A_88 (s2.2.2.1 ++ [(⟨s2.2.2.2, t_75⟩ : Span)]).length c_89))), .q 17 (.p 2 0) [], .t (some 18) (some (.p 2 1)), .no] (by kernel_rfl) (fun fuel listed a w_91 hJ hI hW h1 hnl hsz hu => ?_)
          refine store_ hF hI hW rfl rfl (k := 2) (cs := [.v (.int .i64 s2.2.1), .v (.slice A_88 (s2.2.2.1 ++ [(⟨s2.2.2.2, t_75⟩ : Span)]).length c_89), .v (.int .i64 s2.2.2.2)]) (T := 105) (by kernel_rfl) (by kernel_rfl) rfl (fun a w_92 hput hI => ?_)
          refine next_ hJ h1 hnl hsz hu (by kernel_rfl) (by kernel_rfl) hput hI (live := [0, 1]) ⟨[⟨0, [], .p 2 0⟩, ⟨1, [], .v (.int .i64 t_75)⟩], [], [], [((((kd_Config).cells x0 sv0).map EV.v), 29), ([.v (.int .i64 0), .v (.slice none 0 0), .v (.int .i64 0)], 105), ([.v (.int .i64 s2.2.1), .v (.slice A_88 (s2.2.2.1 ++ [(⟨s2.2.2.2, t_75⟩ : Span)]).length c_89), .v (.int .i64 s2.2.2.2)], 105), ((((kd_Chan).cells (rd x0.Chans s2.1) sv_70).map EV.v), 74)], none, some (4, ns_77)⟩ (by kernel_rfl) none (by kernel_rfl) [] [.t (some 4) (some (.p 2 0)), .t (some 5) (some (.p 2 0)), .t (some 6) (some (.p 2 0)), .t (some 7) (some (.p 2 1)), .t (some 8) (some (.v (.slice A_61 s2.2.2.1.length c_62))), .t (some 9) (some (.p 2 0)), .t (some 10) (some (.p 2 0)), .t (some 11) (some (.p 2 2)), .t (some 12) (some (.v (.int .i64 s2.2.2.2))), .t (some 13) (some (.v (.int .i64 t_75))), .t (some 14) (some (.v (.agg #[.int .i64 s2.2.2.2, .int .i64 t_75]))), .t (some 15) (some (.v (.slice A_82 ([(⟨s2.2.2.2, t_75⟩ : Span)] : List Span).length (([(⟨s2.2.2.2, t_75⟩ : Span)] : List Span).length)))), .t (some 16) (some (.v (.slice A_88 (s2.2.2.1 ++ [(⟨s2.2.2.2, t_75⟩ : Span)]).length c_89))), .q 17 (.p 2 0) [], .t (some 18) (some (.p 2 1)), .t none none] (by kernel_rfl) (by kernel_rfl) (by kernel_rfl) True.intro (AL.none (by kernel_rfl)) (fun hJ hsz hu => ?_)
          refine end_ hJ hF hsz hu [.t (some (.p 2 0)), .t (some (.p 2 0)), .t (some (.p 2 0)), .t (some (.p 2 1)), .t (some (.v (.slice A_61 s2.2.2.1.length c_62))), .t (some (.p 2 0)), .t (some (.p 2 0)), .t (some (.p 2 2)), .t (some (.v (.int .i64 s2.2.2.2))), .t (some (.v (.int .i64 t_75))), .t (some (.v (.agg #[.int .i64 s2.2.2.2, .int .i64 t_75]))), .t (some (.v (.slice A_82 ([(⟨s2.2.2.2, t_75⟩ : Span)] : List Span).length (([(⟨s2.2.2.2, t_75⟩ : Span)] : List Span).length)))), .t (some (.v (.slice A_88 (s2.2.2.1 ++ [(⟨s2.2.2.2, t_75⟩ : Span)]).length c_89))), .q [0] [], .t (some (.p 2 1)), .t none] (by kernel_rfl) (by kernel_rfl) (by kernel_rfl) (by kernel_rfl) (by kernel_rfl) (by kernel_rfl) (live := [0, 1]) ⟨[⟨0, [], .p 2 0⟩, ⟨1, [], .v (.int .i64 t_75)⟩], [], [], [((((kd_Config).cells x0 sv0).map EV.v), 29), ([.v (.int .i64 0), .v (.slice none 0 0), .v (.int .i64 0)], 105), ([.v (.int .i64 s2.2.1), .v (.slice A_88 (s2.2.2.1 ++ [(⟨s2.2.2.2, t_75⟩ : Span)]).length c_89), .v (.int .i64 s2.2.2.2)], 105), ((((kd_Chan).cells (rd x0.Chans s2.1) sv_70).map EV.v), 74)], none, some (4, ns_77)⟩ (by kernel_rfl) trivial (fun a w_93 hI => ?_)
          refine then_normal ?_
          refine region_ (live := []) (orc := []) hF hI ⟨[], [], [], [((((kd_Config).cells x0 sv0).map EV.v), 29), ([.v (.int .i64 0), .v (.slice none 0 0), .v (.int .i64 0)], 105), ([.v (.int .i64 s2.2.1), .v (.slice A_88 (s2.2.2.1 ++ [(⟨s2.2.2.2, t_75⟩ : Span)]).length c_89), .v (.int .i64 (IntKind.i64.wrap (s2.2.2.2 + t_75)))], 105), ((((kd_Chan).cells (rd x0.Chans s2.1) sv_70).map EV.v), 74)], none, some (4, ns_77)⟩ [] (by kernel_rfl) trivial (fun ns_94 a w_95 hI _ => ?_)
          obtain ⟨hE', hmv, hmr⟩ := Ep.rebase (S0 := S) hE hI
          replace hx0 := Kd.keep _ hx0 hmv
          replace hE_72 := El.keep hE_72 hmv
          replace hq_83 := Arr.keep hq_83 hmv
          replace hq_16 := Row.keep hq_16 hmv (fun b hb => hmr b (by rw [← hb]; first | (simp; done) | simp [rb]))
          replace hE := hE'
          replace hI := hI.rebase
          clear hE' hmv hmr
          obtain ⟨hE', hI', hmv⟩ := Ep.uncall (S0 := S) (bs := [((((kd_Config).cells x0 sv0).map EV.v), 29), ([.v (.int .i64 0), .v (.slice none 0 0), .v (.int .i64 0)], 105), ([.v (.int .i64 s2.2.1), .v (.slice A_88 (s2.2.2.1 ++ [(⟨s2.2.2.2, t_75⟩ : Span)]).length c_89), .v (.int .i64 (IntKind.i64.wrap (s2.2.2.2 + t_75)))], 105), ((((kd_Chan).cells (rd x0.Chans s2.1) sv_70).map EV.v), 74)]) hOu_79 hE hI rfl rfl rfl rfl (by kernel_rfl) rfl
          have hmr : ∀ b : Nat, some b ∈ ([rb A_88] : List (Option Nat)) → w_95.heap[b]? = w_95.heap[b]? := fun _ _ => rfl
          replace hx0 := Kd.keep _ hx0 hmv
          replace hE_72 := El.keep hE_72 hmv
          replace hq_83 := Arr.keep hq_83 hmv
          replace hq_16 := Row.keep hq_16 hmv (fun b hb => hmr b (by rw [← hb]; first | (simp; done) | simp [rb]))
          replace hE := hE'
          clear hE' hmv hmr
          refine retN (retG hI rfl rfl ⟨.tuple #[], rfl, ?_⟩)
          refine putI_ hI' ⟨[⟨40, [], .v (.tuple #[])⟩, ⟨39, [], .v (.int .i64 t_75)⟩, ⟨37, [], .f (.func 79) [.inr (2, 0)] []⟩, ⟨33, [], .v (.int .i64 s2.1)⟩, ⟨32, [], .v (.int .i64 (x0.Chans.length : Int))⟩, ⟨31, [], .v (.slice ((sv0 1).1) x0.Chans.length ((sv0 1).2))⟩, ⟨4, [], .f (.func 79) [.inr (2, 0)] []⟩, ⟨3, [], .p 2 0⟩, ⟨2, [], .p 1 0⟩], [], [], [((((kd_Config).cells x0 sv0).map EV.v), 29), ([.v (.int .i64 0), .v (.slice none 0 0), .v (.int .i64 0)], 105), ([.v (.int .i64 s2.2.1), .v (.slice A_88 (s2.2.2.1 ++ [(⟨s2.2.2.2, t_75⟩ : Span)]).length c_89), .v (.int .i64 (IntKind.i64.wrap (s2.2.2.2 + t_75)))], 105), ((((kd_Chan).cells (rd x0.Chans s2.1) sv_70).map EV.v), 74)], none, none⟩ (by kernel_rfl) (fun a hI => ?_)
          clear hI'
          have hF := hFu_79
          refine chunkL_ (live := [33, 32, 31, 4, 3, 2]) (orc := []) hF 0 hI ⟨[⟨33, [], .v (.int .i64 s2.1)⟩, ⟨32, [], .v (.int .i64 (x0.Chans.length : Int))⟩, ⟨31, [], .v (.slice ((sv0 1).1) x0.Chans.length ((sv0 1).2))⟩, ⟨4, [], .f (.func 79) [.inr (2, 0)] []⟩, ⟨3, [], .p 2 0⟩, ⟨2, [], .p 1 0⟩], [], [], [((((kd_Config).cells x0 sv0).map EV.v), 29), ([.v (.int .i64 0), .v (.slice none 0 0), .v (.int .i64 0)], 105), ([.v (.int .i64 s2.2.1), .v (.slice A_88 (s2.2.2.1 ++ [(⟨s2.2.2.2, t_75⟩ : Span)]).length c_89), .v (.int .i64 (IntKind.i64.wrap (s2.2.2.2 + t_75)))], 105), ((((kd_Chan).cells (rd x0.Chans s2.1) sv_70).map EV.v), 74)], none, none⟩ [] rfl (by kernel_rfl) trivial (fun ns_96 a w_97 hI => ?_)
          refine wpListIn_nil ?_
          refine then_normal ?_
          refine wpIn_region_lit ?_
          refine chunkL_ (live := [41, 33, 32, 31, 4, 3, 2]) (orc := []) hF 1 hI ⟨[⟨41, [], .f (.func 79) [.inr (2, 0)] []⟩, ⟨33, [], .v (.int .i64 s2.1)⟩, ⟨32, [], .v (.int .i64 (x0.Chans.length : Int))⟩, ⟨31, [], .v (.slice ((sv0 1).1) x0.Chans.length ((sv0 1).2))⟩, ⟨4, [], .f (.func 79) [.inr (2, 0)] []⟩, ⟨3, [], .p 2 0⟩, ⟨2, [], .p 1 0⟩], [], [], [((((kd_Config).cells x0 sv0).map EV.v), 29), ([.v (.int .i64 0), .v (.slice none 0 0), .v (.int .i64 0)], 105), ([.v (.int .i64 s2.2.1), .v (.slice A_88 (s2.2.2.1 ++ [(⟨s2.2.2.2, t_75⟩ : Span)]).length c_89), .v (.int .i64 (IntKind.i64.wrap (s2.2.2.2 + t_75)))], 105), ((((kd_Chan).cells (rd x0.Chans s2.1) sv_70).map EV.v), 74)], none, none⟩ [] rfl (by kernel_rfl) trivial (fun ns_98 a w_99 hI => ?_)
          obtain ⟨hE', hmv, hmr⟩ := Ep.rebase (S0 := S) hE hI
          replace hx0 := Kd.keep _ hx0 hmv
          replace hE_72 := El.keep hE_72 hmv
          replace hq_83 := Arr.keep hq_83 hmv
          replace hq_16 := Row.keep hq_16 hmv (fun b hb => hmr b (by rw [← hb]; first | (simp; done) | simp [rb]))
          replace hE := hE'
          replace hI := hI.rebase
          clear hE' hmv hmr
          refine callI_ hF hI (wanted_none rfl) rfl Try.func79 (by kernel_rfl) rfl (n' := 27) rfl (by kernel_rfl) (by kernel_rfl) (fun au_100 hIu_100 => ?_)
          have hOu_100 := hI
          have hFu_100 := hF
          have hF : FOpen Fence.wide := .inl rfl
          have hI : St w_99 ns_98 27 ⟨[⟨0, [], .p 2 0⟩, ⟨1, [], .v (.int .i64 1)⟩], [], [], [((((kd_Config).cells x0 sv0).map EV.v), 29), ([.v (.int .i64 0), .v (.slice none 0 0), .v (.int .i64 0)], 105), ([.v (.int .i64 s2.2.1), .v (.slice A_88 (s2.2.2.1 ++ [(⟨s2.2.2.2, t_75⟩ : Span)]).length c_89), .v (.int .i64 (IntKind.i64.wrap (s2.2.2.2 + t_75)))], 105), ((((kd_Chan).cells (rd x0.Chans s2.1) sv_70).map EV.v), 74)], none, some (4, ns_98)⟩ ns_98 au_100 w_99 := hIu_100
          clear hIu_100
          refine wpIn_seq ?_
          replace hI := hI.fin (live := [0, 1]) (σ2 := ⟨[⟨0, [], .p 2 0⟩, ⟨1, [], .v (.int .i64 1)⟩], [], [], [((((kd_Config).cells x0 sv0).map EV.v), 29), ([.v (.int .i64 0), .v (.slice none 0 0), .v (.int .i64 0)], 105), ([.v (.int .i64 s2.2.1), .v (.slice A_88 (s2.2.2.1 ++ [(⟨s2.2.2.2, t_75⟩ : Span)]).length c_89), .v (.int .i64 (IntKind.i64.wrap (s2.2.2.2 + t_75)))], 105), ((((kd_Chan).cells (rd x0.Chans s2.1) sv_70).map EV.v), 74)], none, some (4, ns_98)⟩) (by kernel_rfl)
          refine drawnS_ hI (by kernel_rfl) [.q 4 (.p 2 0) [], .q 5 (.p 2 0) [], .q 6 (.p 2 0) [], .q 7 (.p 2 1) [], .q 8 (.v (.slice A_88 (s2.2.2.1 ++ [(⟨s2.2.2.2, t_75⟩ : Span)]).length c_89)) [], .q 9 (.p 2 0) [], .q 10 (.p 2 0) [], .q 11 (.p 2 2) [], .q 12 (.v (.int .i64 (IntKind.i64.wrap (s2.2.2.2 + t_75)))) [], .q 13 (.v (.int .i64 1)) [], .q 14 (.v (.agg #[.int .i64 (IntKind.i64.wrap (s2.2.2.2 + t_75)), .int .i64 1])) [], .no, .no, .q 17 (.p 2 0) [], .q 18 (.p 2 1) [], .no] (by kernel_rfl) (fun fuel listed w_101 hJ hsz hu => ?_)
          refine stage_ hJ hF hsz hu [.q [] [], .q [] [], .q [1] [], .q [2] [], .q [3] [], .q [] [], .q [5] [], .q [6] [], .q [7] [], .q [] [], .q [8, 9] [], .no, .no, .q [0] [], .q [13] [], .no] (by kernel_rfl) (by kernel_rfl) (by kernel_rfl) (by kernel_rfl) 11 rfl (by kernel_rfl) (by kernel_rfl) [10] rfl (by kernel_rfl) (by kernel_rfl) trivial [10] (by kernel_rfl) [.q 4 (.p 2 0) [], .q 5 (.p 2 0) [], .q 6 (.p 2 0) [], .q 7 (.p 2 1) [], .q 8 (.v (.slice A_88 (s2.2.2.1 ++ [(⟨s2.2.2.2, t_75⟩ : Span)]).length c_89)) [], .q 9 (.p 2 0) [], .q 10 (.p 2 0) [], .q 11 (.p 2 2) [], .q 12 (.v (.int .i64 (IntKind.i64.wrap (s2.2.2.2 + t_75)))) [], .q 13 (.v (.int .i64 1)) [], .t (some 14) (some (.v (.agg #[.int .i64 (IntKind.i64.wrap (s2.2.2.2 + t_75)), .int .i64 1]))), .no, .no, .q 17 (.p 2 0) [], .q 18 (.p 2 1) [], .no] (by kernel_rfl) (fun fuel listed a w_102 hJ hI hW h1 hnl hsz hu => ?_)
          obtain ⟨hE', hmv, hmr⟩ := Ep.rebase (S0 := S) hE hI
          replace hx0 := Kd.keep _ hx0 hmv
          replace hE_72 := El.keep hE_72 hmv
          replace hq_83 := Arr.keep hq_83 hmv
          replace hq_16 := Row.keep hq_16 hmv (fun b hb => hmr b (by rw [← hb]; first | (simp; done) | simp [rb]))
          replace hE := hE'
          replace hI := hI.rebase
          clear hE' hmv hmr
          refine buildSlice_ (S0 := S) (d := kd_Span) (e := 109) hF hE hI hW rfl (by kernel_rfl) (cs := [.int .i64 (IntKind.i64.wrap (s2.2.2.2 + t_75)), .int .i64 1]) (by kernel_rfl) [(⟨(IntKind.i64.wrap (s2.2.2.2 + t_75)), 1⟩ : Span)] [(svL [])] rfl rfl (by simp [maxLen]) (fun i x hi => by cases i with | zero => (simp only [List.getElem?_cons_zero, Option.some.injEq] at hi; subst hi; exact ⟨trivial, rfl⟩) | succ i => (simp only [List.getElem?_cons_succ] at hi; simp at hi)) (fun A_103 => ⟨[⟨15, [], .v (.slice A_103 ([(⟨(IntKind.i64.wrap (s2.2.2.2 + t_75)), 1⟩ : Span)] : List Span).length (([(⟨(IntKind.i64.wrap (s2.2.2.2 + t_75)), 1⟩ : Span)] : List Span).length))⟩, ⟨14, [], .v (.agg #[.int .i64 (IntKind.i64.wrap (s2.2.2.2 + t_75)), .int .i64 1])⟩, ⟨0, [], .p 2 0⟩, ⟨1, [], .v (.int .i64 1)⟩], [], [], [((((kd_Config).cells x0 sv0).map EV.v), 29), ([.v (.int .i64 0), .v (.slice none 0 0), .v (.int .i64 0)], 105), ([.v (.int .i64 s2.2.1), .v (.slice A_88 (s2.2.2.1 ++ [(⟨s2.2.2.2, t_75⟩ : Span)]).length c_89), .v (.int .i64 (IntKind.i64.wrap (s2.2.2.2 + t_75)))], 105), ((((kd_Chan).cells (rd x0.Chans s2.1) sv_70).map EV.v), 74)], none, some (4, ns_98)⟩) (fun A_103 => by kernel_rfl) (fun A_103 a w_105 hput hE' hI' hmv hmr hq_104 => ?_)
          replace hx0 := Kd.keep _ hx0 hmv
          replace hE_72 := El.keep hE_72 hmv
          replace hq_83 := Arr.keep hq_83 hmv
          replace hq_16 := Row.keep hq_16 hmv (fun b hb => hmr b (by rw [← hb]; first | (simp; done) | simp [rb]) (by simp))
          replace hE := hE'
          replace hI := hI'
          clear hE' hI' hmv hmr
          refine next_ hJ h1 hnl hsz hu (by kernel_rfl) (by kernel_rfl) hput hI (live := [0, 1]) ⟨[⟨0, [], .p 2 0⟩, ⟨1, [], .v (.int .i64 1)⟩], [], [], [((((kd_Config).cells x0 sv0).map EV.v), 29), ([.v (.int .i64 0), .v (.slice none 0 0), .v (.int .i64 0)], 105), ([.v (.int .i64 s2.2.1), .v (.slice A_88 (s2.2.2.1 ++ [(⟨s2.2.2.2, t_75⟩ : Span)]).length c_89), .v (.int .i64 (IntKind.i64.wrap (s2.2.2.2 + t_75)))], 105), ((((kd_Chan).cells (rd x0.Chans s2.1) sv_70).map EV.v), 74)], none, some (4, ns_98)⟩ (by kernel_rfl) (some (.v (.slice A_103 ([(⟨(IntKind.i64.wrap (s2.2.2.2 + t_75)), 1⟩ : Span)] : List Span).length (([(⟨(IntKind.i64.wrap (s2.2.2.2 + t_75)), 1⟩ : Span)] : List Span).length)))) (by kernel_rfl) [] [.q 4 (.p 2 0) [], .q 5 (.p 2 0) [], .q 6 (.p 2 0) [], .q 7 (.p 2 1) [], .q 8 (.v (.slice A_88 (s2.2.2.1 ++ [(⟨s2.2.2.2, t_75⟩ : Span)]).length c_89)) [], .q 9 (.p 2 0) [], .q 10 (.p 2 0) [], .q 11 (.p 2 2) [], .q 12 (.v (.int .i64 (IntKind.i64.wrap (s2.2.2.2 + t_75)))) [], .q 13 (.v (.int .i64 1)) [], .t (some 14) (some (.v (.agg #[.int .i64 (IntKind.i64.wrap (s2.2.2.2 + t_75)), .int .i64 1]))), .t (some 15) (some (.v (.slice A_103 ([(⟨(IntKind.i64.wrap (s2.2.2.2 + t_75)), 1⟩ : Span)] : List Span).length (([(⟨(IntKind.i64.wrap (s2.2.2.2 + t_75)), 1⟩ : Span)] : List Span).length)))), .no, .q 17 (.p 2 0) [], .q 18 (.p 2 1) [], .no] (by kernel_rfl) (by kernel_rfl) (by kernel_rfl) True.intro (AL.none (by kernel_rfl)) (fun hJ hsz hu => ?_)
          refine stage_ hJ hF hsz hu [.q [] [], .q [] [], .q [1] [], .q [2] [], .q [3] [], .q [] [], .q [5] [], .q [6] [], .q [7] [], .q [] [], .t (some (.v (.agg #[.int .i64 (IntKind.i64.wrap (s2.2.2.2 + t_75)), .int .i64 1]))), .t (some (.v (.slice A_103 ([(⟨(IntKind.i64.wrap (s2.2.2.2 + t_75)), 1⟩ : Span)] : List Span).length (([(⟨(IntKind.i64.wrap (s2.2.2.2 + t_75)), 1⟩ : Span)] : List Span).length)))), .no, .q [0] [], .q [13] [], .no] (by kernel_rfl) (by kernel_rfl) (by kernel_rfl) (by kernel_rfl) 12 rfl (by kernel_rfl) (by kernel_rfl) [4, 11] rfl (by kernel_rfl) (by kernel_rfl) trivial [4] (by kernel_rfl) [.q 4 (.p 2 0) [], .q 5 (.p 2 0) [], .q 6 (.p 2 0) [], .q 7 (.p 2 1) [], .t (some 8) (some (.v (.slice A_88 (s2.2.2.1 ++ [(⟨s2.2.2.2, t_75⟩ : Span)]).length c_89))), .q 9 (.p 2 0) [], .q 10 (.p 2 0) [], .q 11 (.p 2 2) [], .q 12 (.v (.int .i64 (IntKind.i64.wrap (s2.2.2.2 + t_75)))) [], .q 13 (.v (.int .i64 1)) [], .t (some 14) (some (.v (.agg #[.int .i64 (IntKind.i64.wrap (s2.2.2.2 + t_75)), .int .i64 1]))), .t (some 15) (some (.v (.slice A_103 ([(⟨(IntKind.i64.wrap (s2.2.2.2 + t_75)), 1⟩ : Span)] : List Span).length (([(⟨(IntKind.i64.wrap (s2.2.2.2 + t_75)), 1⟩ : Span)] : List Span).length)))), .no, .q 17 (.p 2 0) [], .q 18 (.p 2 1) [], .no] (by kernel_rfl) (fun fuel listed a w_106 hJ hI hW h1 hnl hsz hu => ?_)
          obtain ⟨hE', hmv, hmr⟩ := Ep.rebase (S0 := S) hE hI
          replace hx0 := Kd.keep _ hx0 hmv
          replace hE_72 := El.keep hE_72 hmv
          replace hq_83 := Arr.keep hq_83 hmv
          replace hq_16 := Row.keep hq_16 hmv (fun b hb => hmr b (by rw [← hb]; first | (simp; done) | simp [rb]))
          replace hq_104 := Row.keep hq_104 hmv (fun b hb => hmr b (by rw [← hb]; first | (simp; done) | simp [rb]))
          replace hE := hE'
          replace hI := hI.rebase
          clear hE' hmv hmr
          obtain ⟨hE', hmv, hq_104, hcap_107⟩ := Row.still (l1 := [rb A_88]) (l2 := []) hq_104 hE
          have hmr : ∀ b : Nat, some b ∈ ([rb A_88, rb A_103] : List (Option Nat)) → w_106.heap[b]? = w_106.heap[b]? := fun _ _ => rfl
          replace hx0 := Kd.keep _ hx0 hmv
          replace hE_72 := El.keep hE_72 hmv
          replace hq_83 := Arr.keep hq_83 hmv
          replace hq_16 := Row.keep hq_16 hmv (fun b hb => hmr b (by rw [← hb]; first | (simp; done) | simp [rb]))
          replace hE := hE'
          clear hE' hmv hmr
          obtain ⟨hN_108, H1⟩ := req_some H1
          replace hN_108 := of_decide_eq_true hN_108
          refine append_ (S0 := S) (l1 := []) (l2 := []) (d := kd_Span) (e := 109) hF hE hI hW rfl (A := A_88) (c := c_89) (l := (s2.2.2.1 ++ [(⟨s2.2.2.2, t_75⟩ : Span)])) rfl (A2 := A_103) (c2 := (([(⟨(IntKind.i64.wrap (s2.2.2.2 + t_75)), 1⟩ : Span)] : List Span).length)) rfl hq_16 hq_104 (fun sv u hu => by exact kd_one_Span _ sv u hu) Try.underlying103 (zi := (.agg #[.int .i64 0, .int .i64 0], 2, 16)) (by kernel_rfl) rfl (by kernel_rfl) (len_max (by decide) hN_108) hN_108 (fun A_109 c_110 => ⟨[⟨16, [], .v (.slice A_109 ((s2.2.2.1 ++ [(⟨s2.2.2.2, t_75⟩ : Span)]) ++ [(⟨(IntKind.i64.wrap (s2.2.2.2 + t_75)), 1⟩ : Span)]).length c_110)⟩, ⟨8, [], .v (.slice A_88 (s2.2.2.1 ++ [(⟨s2.2.2.2, t_75⟩ : Span)]).length c_89)⟩, ⟨15, [], .v (.slice A_103 ([(⟨(IntKind.i64.wrap (s2.2.2.2 + t_75)), 1⟩ : Span)] : List Span).length (([(⟨(IntKind.i64.wrap (s2.2.2.2 + t_75)), 1⟩ : Span)] : List Span).length))⟩, ⟨0, [], .p 2 0⟩, ⟨1, [], .v (.int .i64 1)⟩], [], [], [((((kd_Config).cells x0 sv0).map EV.v), 29), ([.v (.int .i64 0), .v (.slice none 0 0), .v (.int .i64 0)], 105), ([.v (.int .i64 s2.2.1), .v (.slice A_88 (s2.2.2.1 ++ [(⟨s2.2.2.2, t_75⟩ : Span)]).length c_89), .v (.int .i64 (IntKind.i64.wrap (s2.2.2.2 + t_75)))], 105), ((((kd_Chan).cells (rd x0.Chans s2.1) sv_70).map EV.v), 74)], none, some (4, ns_98)⟩) (fun A_109 c_110 => by kernel_rfl) (fun A_109 c_110 a w_111 hput hE' hI' hmv hmr hq_16 => ?_)
          replace hx0 := Kd.keep _ hx0 hmv
          replace hE_72 := El.keep hE_72 hmv
          replace hq_83 := Arr.keep hq_83 hmv
          replace hq_104 := Arr.keep hq_104 hmv
          replace hE := hE'
          replace hI := hI'
          clear hE' hI' hmv hmr
          refine next_ hJ h1 hnl hsz hu (by kernel_rfl) (by kernel_rfl) hput hI (live := [0, 1]) ⟨[⟨0, [], .p 2 0⟩, ⟨1, [], .v (.int .i64 1)⟩], [], [], [((((kd_Config).cells x0 sv0).map EV.v), 29), ([.v (.int .i64 0), .v (.slice none 0 0), .v (.int .i64 0)], 105), ([.v (.int .i64 s2.2.1), .v (.slice A_88 (s2.2.2.1 ++ [(⟨s2.2.2.2, t_75⟩ : Span)]).length c_89), .v (.int .i64 (IntKind.i64.wrap (s2.2.2.2 + t_75)))], 105), ((((kd_Chan).cells (rd x0.Chans s2.1) sv_70).map EV.v), 74)], none, some (4, ns_98)⟩ (by kernel_rfl) (some (.v (.slice A_109 ((s2.2.2.1 ++ [(⟨s2.2.2.2, t_75⟩ : Span)]) ++ [(⟨(IntKind.i64.wrap (s2.2.2.2 + t_75)), 1⟩ : Span)]).length c_110))) (by kernel_rfl) [] [.q 4 (.p 2 0) [], .q 5 (.p 2 0) [], .q 6 (.p 2 0) [], .q 7 (.p 2 1) [], .t (some 8) (some (.v (.slice A_88 (s2.2.2.1 ++ [(⟨s2.2.2.2, t_75⟩ : Span)]).length c_89))), .q 9 (.p 2 0) [], .q 10 (.p 2 0) [], .q 11 (.p 2 2) [], .q 12 (.v (.int .i64 (IntKind.i64.wrap (s2.2.2.2 + t_75)))) [], .q 13 (.v (.int .i64 1)) [], .t (some 14) (some (.v (.agg #[.int .i64 (IntKind.i64.wrap (s2.2.2.2 + t_75)), .int .i64 1]))), .t (some 15) (some (.v (.slice A_103 ([(⟨(IntKind.i64.wrap (s2.2.2.2 + t_75)), 1⟩ : Span)] : List Span).length (([(⟨(IntKind.i64.wrap (s2.2.2.2 + t_75)), 1⟩ : Span)] : List Span).length)))), .t (some 16) (some (.v (.slice A_109 ((s2.2.2.1 ++ [(⟨s2.2.2.2, t_75⟩ : Span)]) ++ [(⟨(IntKind.i64.wrap (s2.2.2.2 + t_75)), 1⟩ : Span)]).length c_110))), .q 17 (.p 2 0) [], .q 18 (.p 2 1) [], .no] (by kernel_rfl) (by kernel_rfl) (by kernel_rfl) True.intro (AL.none (by kernel_rfl)) (fun hJ hsz hu => ?_)
          refine stage_ hJ hF hsz hu [.q [] [], .q [] [], .q [1] [], .q [2] [], .t (some (.v (.slice A_88 (s2.2.2.1 ++ [(⟨s2.2.2.2, t_75⟩ : Span)]).length c_89))), .q [] [], .q [5] [], .q [6] [], .q [7] [], .q [] [], .t (some (.v (.agg #[.int .i64 (IntKind.i64.wrap (s2.2.2.2 + t_75)), .int .i64 1]))), .t (some (.v (.slice A_103 ([(⟨(IntKind.i64.wrap (s2.2.2.2 + t_75)), 1⟩ : Span)] : List Span).length (([(⟨(IntKind.i64.wrap (s2.2.2.2 + t_75)), 1⟩ : Span)] : List Span).length)))), .t (some (.v (.slice A_109 ((s2.2.2.1 ++ [(⟨s2.2.2.2, t_75⟩ : Span)]) ++ [(⟨(IntKind.i64.wrap (s2.2.2.2 + t_75)), 1⟩ : Span)]).length c_110))), .q [0] [], .q [13] [], .no] (by kernel_rfl) (by kernel_rfl) (by kernel_rfl) (by kernel_rfl) 15 rfl (by kernel_rfl) (by kernel_rfl) [14, 12] rfl (by kernel_rfl) (by kernel_rfl) trivial [0, 1, 2, 3, 5, 6, 7, 8, 9, 14] (by kernel_rfl) [.t (some 4) (some (.p 2 0)), .t (some 5) (some (.p 2 0)), .t (some 6) (some (.p 2 0)), .t (some 7) (some (.p 2 1)), .t (some 8) (some (.v (.slice A_88 (s2.2.2.1 ++ [(⟨s2.2.2.2, t_75⟩ : Span)]).length c_89))), .t (some 9) (some (.p 2 0)), .t (some 10) (some (.p 2 0)), .t (some 11) (some (.p 2 2)), .t (some 12) (some (.v (.int .i64 (IntKind.i64.wrap (s2.2.2.2 + t_75))))), .t (some 13) (some (.v (.int .i64 1))), .t (some 14) (some (.v (.agg #[.int .i64 (IntKind.i64.wrap (s2.2.2.2 + t_75)), .int .i64 1]))), .t (some 15) (some (.v (.slice A_103 ([(⟨(IntKind.i64.wrap (s2.2.2.2 + t_75)), 1⟩ : Span)] : List Span).length (([(⟨(IntKind.i64.wrap (s2.2.2.2 + t_75)), 1⟩ : Span)] : List Span).length)))), .t (some 16) (some (.v (.slice A_109 ((s2.2.2.1 ++ [(⟨s2.2.2.2, t_75⟩ : Span)]) ++ [(⟨(IntKind.i64.wrap (s2.2.2.2 + t_75)), 1⟩ : Span)]).length c_110))), .q 17 (.p 2 0) [], .t (some 18) (some (.p 2 1)), .no] (by kernel_rfl) (fun fuel listed a w_112 hJ hI hW h1 hnl hsz hu => ?_)
          refine store_ hF hI hW rfl rfl (k := 2) (cs := [.v (.int .i64 s2.2.1), .v (.slice A_109 ((s2.2.2.1 ++ [(⟨s2.2.2.2, t_75⟩ : Span)]) ++ [(⟨(IntKind.i64.wrap (s2.2.2.2 + t_75)), 1⟩ : Span)]).length c_110), .v (.int .i64 (IntKind.i64.wrap (s2.2.2.2 + t_75)))]) (T := 105) (by kernel_rfl) (by kernel_rfl) rfl (fun a w_113 hput hI => ?_)
          refine next_ hJ h1 hnl hsz hu (by kernel_rfl) (by kernel_rfl) hput hI (live := [0, 1]) ⟨[⟨0, [], .p 2 0⟩, ⟨1, [], .v (.int .i64 1)⟩], [], [], [((((kd_Config).cells x0 sv0).map EV.v), 29), ([.v (.int .i64 0), .v (.slice none 0 0), .v (.int .i64 0)], 105), ([.v (.int .i64 s2.2.1), .v (.slice A_109 ((s2.2.2.1 ++ [(⟨s2.2.2.2, t_75⟩ : Span)]) ++ [(⟨(IntKind.i64.wrap (s2.2.2.2 + t_75)), 1⟩ : Span)]).length c_110), .v (.int .i64 (IntKind.i64.wrap (s2.2.2.2 + t_75)))], 105), ((((kd_Chan).cells (rd x0.Chans s2.1) sv_70).map EV.v), 74)], none, some (4, ns_98)⟩ (by kernel_rfl) none (by kernel_rfl) [] [.t (some 4) (some (.p 2 0)), .t (some 5) (some (.p 2 0)), .t (some 6) (some (.p 2 0)), .t (some 7) (some (.p 2 1)), .t (some 8) (some (.v (.slice A_88 (s2.2.2.1 ++ [(⟨s2.2.2.2, t_75⟩ : Span)]).length c_89))), .t (some 9) (some (.p 2 0)), .t (some 10) (some (.p 2 0)), .t (some 11) (some (.p 2 2)), .t (some 12) (some (.v (.int .i64 (IntKind.i64.wrap (s2.2.2.2 + t_75))))), .t (some 13) (some (.v (.int .i64 1))), .t (some 14) (some (.v (.agg #[.int .i64 (IntKind.i64.wrap (s2.2.2.2 + t_75)), .int .i64 1]))), .t (some 15) (some (.v (.slice A_103 ([(⟨(IntKind.i64.wrap (s2.2.2.2 + t_75)), 1⟩ : Span)] : List Span).length (([(⟨(IntKind.i64.wrap (s2.2.2.2 + t_75)), 1⟩ : Span)] : List Span).length)))), .t (some 16) (some (.v (.slice A_109 ((s2.2.2.1 ++ [(⟨s2.2.2.2, t_75⟩ : Span)]) ++ [(⟨(IntKind.i64.wrap (s2.2.2.2 + t_75)), 1⟩ : Span)]).length c_110))), .q 17 (.p 2 0) [], .t (some 18) (some (.p 2 1)), .t none none] (by kernel_rfl) (by kernel_rfl) (by kernel_rfl) True.intro (AL.none (by kernel_rfl)) (fun hJ hsz hu => ?_)
          refine end_ hJ hF hsz hu [.t (some (.p 2 0)), .t (some (.p 2 0)), .t (some (.p 2 0)), .t (some (.p 2 1)), .t (some (.v (.slice A_88 (s2.2.2.1 ++ [(⟨s2.2.2.2, t_75⟩ : Span)]).length c_89))), .t (some (.p 2 0)), .t (some (.p 2 0)), .t (some (.p 2 2)), .t (some (.v (.int .i64 (IntKind.i64.wrap (s2.2.2.2 + t_75))))), .t (some (.v (.int .i64 1))), .t (some (.v (.agg #[.int .i64 (IntKind.i64.wrap (s2.2.2.2 + t_75)), .int .i64 1]))), .t (some (.v (.slice A_103 ([(⟨(IntKind.i64.wrap (s2.2.2.2 + t_75)), 1⟩ : Span)] : List Span).length (([(⟨(IntKind.i64.wrap (s2.2.2.2 + t_75)), 1⟩ : Span)] : List Span).length)))), .t (some (.v (.slice A_109 ((s2.2.2.1 ++ [(⟨s2.2.2.2, t_75⟩ : Span)]) ++ [(⟨(IntKind.i64.wrap (s2.2.2.2 + t_75)), 1⟩ : Span)]).length c_110))), .q [0] [], .t (some (.p 2 1)), .t none] (by kernel_rfl) (by kernel_rfl) (by kernel_rfl) (by kernel_rfl) (by kernel_rfl) (by kernel_rfl) (live := [0, 1]) ⟨[⟨0, [], .p 2 0⟩, ⟨1, [], .v (.int .i64 1)⟩], [], [], [((((kd_Config).cells x0 sv0).map EV.v), 29), ([.v (.int .i64 0), .v (.slice none 0 0), .v (.int .i64 0)], 105), ([.v (.int .i64 s2.2.1), .v (.slice A_109 ((s2.2.2.1 ++ [(⟨s2.2.2.2, t_75⟩ : Span)]) ++ [(⟨(IntKind.i64.wrap (s2.2.2.2 + t_75)), 1⟩ : Span)]).length c_110), .v (.int .i64 (IntKind.i64.wrap (s2.2.2.2 + t_75)))], 105), ((((kd_Chan).cells (rd x0.Chans s2.1) sv_70).map EV.v), 74)], none, some (4, ns_98)⟩ (by kernel_rfl) trivial (fun a w_114 hI => ?_)
          refine then_normal ?_
          refine region_ (live := []) (orc := []) hF hI ⟨[], [], [], [((((kd_Config).cells x0 sv0).map EV.v), 29), ([.v (.int .i64 0), .v (.slice none 0 0), .v (.int .i64 0)], 105), ([.v (.int .i64 s2.2.1), .v (.slice A_109 ((s2.2.2.1 ++ [(⟨s2.2.2.2, t_75⟩ : Span)]) ++ [(⟨(IntKind.i64.wrap (s2.2.2.2 + t_75)), 1⟩ : Span)]).length c_110), .v (.int .i64 (IntKind.i64.wrap ((IntKind.i64.wrap (s2.2.2.2 + t_75)) + 1)))], 105), ((((kd_Chan).cells (rd x0.Chans s2.1) sv_70).map EV.v), 74)], none, some (4, ns_98)⟩ [] (by kernel_rfl) trivial (fun ns_115 a w_116 hI _ => ?_)
          obtain ⟨hE', hmv, hmr⟩ := Ep.rebase (S0 := S) hE hI
          replace hx0 := Kd.keep _ hx0 hmv
          replace hE_72 := El.keep hE_72 hmv
          replace hq_83 := Arr.keep hq_83 hmv
          replace hq_104 := Arr.keep hq_104 hmv
          replace hq_16 := Row.keep hq_16 hmv (fun b hb => hmr b (by rw [← hb]; first | (simp; done) | simp [rb]))
          replace hE := hE'
          replace hI := hI.rebase
          clear hE' hmv hmr
          obtain ⟨hE', hI', hmv⟩ := Ep.uncall (S0 := S) (bs := [((((kd_Config).cells x0 sv0).map EV.v), 29), ([.v (.int .i64 0), .v (.slice none 0 0), .v (.int .i64 0)], 105), ([.v (.int .i64 s2.2.1), .v (.slice A_109 ((s2.2.2.1 ++ [(⟨s2.2.2.2, t_75⟩ : Span)]) ++ [(⟨(IntKind.i64.wrap (s2.2.2.2 + t_75)), 1⟩ : Span)]).length c_110), .v (.int .i64 (IntKind.i64.wrap ((IntKind.i64.wrap (s2.2.2.2 + t_75)) + 1)))], 105), ((((kd_Chan).cells (rd x0.Chans s2.1) sv_70).map EV.v), 74)]) hOu_100 hE hI rfl rfl rfl rfl (by kernel_rfl) rfl
          have hmr : ∀ b : Nat, some b ∈ ([rb A_109] : List (Option Nat)) → w_116.heap[b]? = w_116.heap[b]? := fun _ _ => rfl
          replace hx0 := Kd.keep _ hx0 hmv
          replace hE_72 := El.keep hE_72 hmv
          replace hq_83 := Arr.keep hq_83 hmv
          replace hq_104 := Arr.keep hq_104 hmv
          replace hq_16 := Row.keep hq_16 hmv (fun b hb => hmr b (by rw [← hb]; first | (simp; done) | simp [rb]))
          replace hE := hE'
          clear hE' hmv hmr
          refine retN (retG hI rfl rfl ⟨.tuple #[], rfl, ?_⟩)
          refine putI_ hI' ⟨[⟨42, [], .v (.tuple #[])⟩, ⟨41, [], .f (.func 79) [.inr (2, 0)] []⟩, ⟨33, [], .v (.int .i64 s2.1)⟩, ⟨32, [], .v (.int .i64 (x0.Chans.length : Int))⟩, ⟨31, [], .v (.slice ((sv0 1).1) x0.Chans.length ((sv0 1).2))⟩, ⟨4, [], .f (.func 79) [.inr (2, 0)] []⟩, ⟨3, [], .p 2 0⟩, ⟨2, [], .p 1 0⟩], [], [], [((((kd_Config).cells x0 sv0).map EV.v), 29), ([.v (.int .i64 0), .v (.slice none 0 0), .v (.int .i64 0)], 105), ([.v (.int .i64 s2.2.1), .v (.slice A_109 ((s2.2.2.1 ++ [(⟨s2.2.2.2, t_75⟩ : Span)]) ++ [(⟨(IntKind.i64.wrap (s2.2.2.2 + t_75)), 1⟩ : Span)]).length c_110), .v (.int .i64 (IntKind.i64.wrap ((IntKind.i64.wrap (s2.2.2.2 + t_75)) + 1)))], 105), ((((kd_Chan).cells (rd x0.Chans s2.1) sv_70).map EV.v), 74)], none, none⟩ (by kernel_rfl) (fun a hI => ?_)
          clear hI'
          have hF := hFu_100
          refine chunkL_ (live := [33, 32, 31, 4, 3, 2]) (orc := []) hF 0 hI ⟨[⟨33, [], .v (.int .i64 s2.1)⟩, ⟨32, [], .v (.int .i64 (x0.Chans.length : Int))⟩, ⟨31, [], .v (.slice ((sv0 1).1) x0.Chans.length ((sv0 1).2))⟩, ⟨4, [], .f (.func 79) [.inr (2, 0)] []⟩, ⟨3, [], .p 2 0⟩, ⟨2, [], .p 1 0⟩], [], [], [((((kd_Config).cells x0 sv0).map EV.v), 29), ([.v (.int .i64 0), .v (.slice none 0 0), .v (.int .i64 0)], 105), ([.v (.int .i64 s2.2.1), .v (.slice A_109 ((s2.2.2.1 ++ [(⟨s2.2.2.2, t_75⟩ : Span)]) ++ [(⟨(IntKind.i64.wrap (s2.2.2.2 + t_75)), 1⟩ : Span)]).length c_110), .v (.int .i64 (IntKind.i64.wrap ((IntKind.i64.wrap (s2.2.2.2 + t_75)) + 1)))], 105), ((((kd_Chan).cells (rd x0.Chans s2.1) sv_70).map EV.v), 74)], none, none⟩ [] rfl (by kernel_rfl) trivial (fun ns_117 a w_118 hI => ?_)
          refine wpListIn_nil ?_
          refine inBlock_normal ?_
          refine then_normal ?_
          refine region_ (live := [33, 32, 31, 4, 3, 2]) (orc := []) hF hI ⟨[⟨33, [], .v (.int .i64 (IntKind.i64.wrap (s2.1 + 1)))⟩, ⟨32, [], .v (.int .i64 (x0.Chans.length : Int))⟩, ⟨31, [], .v (.slice ((sv0 1).1) x0.Chans.length ((sv0 1).2))⟩, ⟨4, [], .f (.func 79) [.inr (2, 0)] []⟩, ⟨3, [], .p 2 0⟩, ⟨2, [], .p 1 0⟩], [], [], [((((kd_Config).cells x0 sv0).map EV.v), 29), ([.v (.int .i64 0), .v (.slice none 0 0), .v (.int .i64 0)], 105), ([.v (.int .i64 s2.2.1), .v (.slice A_109 ((s2.2.2.1 ++ [(⟨s2.2.2.2, t_75⟩ : Span)]) ++ [(⟨(IntKind.i64.wrap (s2.2.2.2 + t_75)), 1⟩ : Span)]).length c_110), .v (.int .i64 (IntKind.i64.wrap ((IntKind.i64.wrap (s2.2.2.2 + t_75)) + 1)))], 105), ((((kd_Chan).cells (rd x0.Chans s2.1) sv_70).map EV.v), 74)], none, none⟩ [] (by kernel_rfl) trivial (fun ns_119 a w_120 hI _ => ?_)
          refine then_normal ?_
          obtain ⟨hE', hmv, hmr⟩ := Ep.rebase (S0 := S) hE hI
          replace hx0 := Kd.keep _ hx0 hmv
          replace hE_72 := El.keep hE_72 hmv
          replace hq_83 := Arr.keep hq_83 hmv
          replace hq_104 := Arr.keep hq_104 hmv
          replace hq_16 := Row.keep hq_16 hmv (fun b hb => hmr b (by rw [← hb]; first | (simp; done) | simp [rb]))
          replace hE := hE'
          replace hI := hI.rebase
          clear hE' hmv hmr
          obtain rfl := Option.some.inj H1
          exact ⟨_, rfl, ⟨_, _, _, _, hx0, hq_16, hE, hI.pick [33, 32, 31, 4, 3, 2] 3 ⟨[⟨33, [], .v (.int .i64 (IntKind.i64.wrap (s2.1 + 1)))⟩, ⟨32, [], .v (.int .i64 (x0.Chans.length : Int))⟩, ⟨31, [], .v (.slice ((sv0 1).1) x0.Chans.length ((sv0 1).2))⟩, ⟨4, [], .f (.func 79) [.inr (2, 0)] []⟩, ⟨3, [], .p 2 0⟩, ⟨2, [], .p 1 0⟩], [], [], [((((kd_Config).cells x0 sv0).map EV.v), 29), ([.v (.int .i64 0), .v (.slice none 0 0), .v (.int .i64 0)], 105), ([.v (.int .i64 s2.2.1), .v (.slice A_109 ((s2.2.2.1 ++ [(⟨s2.2.2.2, t_75⟩ : Span)]) ++ [(⟨(IntKind.i64.wrap (s2.2.2.2 + t_75)), 1⟩ : Span)]).length c_110), .v (.int .i64 (IntKind.i64.wrap ((IntKind.i64.wrap (s2.2.2.2 + t_75)) + 1)))], 105)], none, none⟩ (by kernel_rfl)⟩⟩
        · replace H1 := bif_f hc_68 H1
          refine wpIn_exit ?_
          refine then_exit ?_
          refine then_exit ?_
          obtain ⟨hE', hmv, hmr⟩ := Ep.rebase (S0 := S) hE hI
          replace hx0 := Kd.keep _ hx0 hmv
          replace hq_16 := Row.keep hq_16 hmv (fun b hb => hmr b (by rw [← hb]; first | (simp; done) | simp [rb]))
          replace hE := hE'
          replace hI := hI.rebase
          clear hE' hmv hmr
          obtain rfl := Option.some.inj H1
          exact .inl ⟨_, rfl, rfl, ⟨_, _, _, _, hx0, hq_16, hE, hI.pick [33, 32, 31, 4, 3, 2] 3 ⟨[⟨33, [], .v (.int .i64 s2.1)⟩, ⟨32, [], .v (.int .i64 (x0.Chans.length : Int))⟩, ⟨31, [], .v (.slice ((sv0 1).1) x0.Chans.length ((sv0 1).2))⟩, ⟨4, [], .f (.func 79) [.inr (2, 0)] []⟩, ⟨3, [], .p 2 0⟩, ⟨2, [], .p 1 0⟩], [], [], [((((kd_Config).cells x0 sv0).map EV.v), 29), ([.v (.int .i64 0), .v (.slice none 0 0), .v (.int .i64 0)], 105), ([.v (.int .i64 s2.2.1), .v (.slice A_61 s2.2.2.1.length c_62), .v (.int .i64 s2.2.2.2)], 105)], none, none⟩ (by kernel_rfl)⟩⟩
      · clear hI hE
        rintro s2 a w_123 ho ⟨ow_125, ns_124, A_61, c_62, hx0, hq_16, hE, hI⟩
        subst ho
        replace H0 : (some (⟨s2.2.1, s2.2.2.1, s2.2.2.2⟩ : Layout_plan) : Option (Layout_plan)) = _ := H0
        refine then_normal ?_
        refine seq_region (live := [2]) (orc := []) hF hI ⟨[⟨2, [], .p 1 0⟩], [], [], [((((kd_Config).cells x0 sv0).map EV.v), 29), ([.v (.int .i64 s2.2.1), .v (.slice A_61 s2.2.2.1.length c_62), .v (.int .i64 s2.2.2.2)], 105), ([.v (.int .i64 s2.2.1), .v (.slice A_61 s2.2.2.1.length c_62), .v (.int .i64 s2.2.2.2)], 105)], none, none⟩ [] (by kernel_rfl) trivial (fun ns_126 a w_127 hI _ => ?_)
        obtain ⟨hE', hmv, hmr⟩ := Ep.rebase (S0 := S) hE hI
        replace hx0 := Kd.keep _ hx0 hmv
        replace hq_16 := Row.keep hq_16 hmv (fun b hb => hmr b (by rw [← hb]; first | (simp; done) | simp [rb]))
        replace hE := hE'
        replace hI := hI.rebase
        clear hE' hmv hmr
        obtain ⟨hE', hmv, hq_16, hcap_128⟩ := Row.still (l1 := []) (l2 := []) hq_16 hE
        have hmr : ∀ b : Nat, some b ∈ ([rb A_61] : List (Option Nat)) → w_127.heap[b]? = w_127.heap[b]? := fun _ _ => rfl
        replace hx0 := Kd.keep _ hx0 hmv
        replace hE := hE'
        clear hE' hmv hmr
        refine wpIn_ret ?_
        obtain rfl := Option.some.inj H0
        exact retCell hI rfl rfl rfl rfl rfl rfl ⟨svL [(A_61, c_62)], rfl, hE.below hI, ⟨⟨Arr.keep hq_16 (hE.out hI), hcap_128⟩, trivial⟩⟩

/-! ### (porthole/layout.plan).at: function 65 -/
noncomputable def G_layout_plan_at (x0 : Layout_plan) (a1 : Int) (a2 : Int) (a3 : Int) : Option (Span) := (bif (decide (a2 < 0) || decide (a2 ≥ a3)) then some (⟨0, 0⟩ : Span) else (req (inb (IntKind.i64.wrap (a1 + a2)) x0.l.length) (some (rd x0.l (IntKind.i64.wrap (a1 + a2))))))
set_option maxRecDepth 100000 in
set_option maxHeartbeats 4000000 in
theorem G_layout_plan_at.calls (x0 : Layout_plan) (a1 : Int) (a2 : Int) (a3 : Int) (sv0 : SV) (w : World) {S : Nat → Prop} (hx0 : (kd_Layout_plan).cont S w x0 sv0) (r : Span) (h : G_layout_plan_at x0 a1 a2 a3 = some r) :
    Calls Try.prog 65 #[.agg ((kd_Layout_plan).cells x0 sv0).toArray, .int .i64 a1, .int .i64 a2, .int .i64 a3] w fun e w' => e = .returned (.agg ((kd_Span).cells r (svL [])).toArray) ∧ Below w.heap.size w w' := by
  replace hx0 := Kd.lo _ hx0
  unfold G_layout_plan_at at h
  have H0 := h
  clear h
  refine enter Try.func65 rfl [.agg ((kd_Layout_plan).cells x0 sv0).toArray, .int .i64 a1, .int .i64 a2, .int .i64 a3] (n := 24) rfl (Nat.le_of_ble_eq_true rfl) (fun a hI => ?_)
  have hF : FOpen Fence.wide := .inl rfl
  have hE := Ep.start w
  refine seq_region (live := [8, 4, 1, 2, 3]) (orc := []) hF hI ⟨[⟨8, [], .p 1 0⟩, ⟨4, [], .p 0 0⟩, ⟨1, [], .v (.int .i64 a1)⟩, ⟨2, [], .v (.int .i64 a2)⟩, ⟨3, [], .v (.int .i64 a3)⟩], [], [], [((((kd_Layout_plan).cells x0 sv0).map EV.v), 105), ([.v (.int .i64 0), .v (.int .i64 0)], 109)], none, none⟩ [] (by kernel_rfl) trivial (fun ns_1 a w_2 hI _ => ?_)
  refine wpIn_seq ?_
  refine seq_region (live := [15, 8, 4, 1, 2]) (orc := []) hF hI ⟨[⟨15, [], .v (.bool (decide (a2 < 0) || decide (a2 ≥ a3)))⟩, ⟨8, [], .p 1 0⟩, ⟨4, [], .p 0 0⟩, ⟨1, [], .v (.int .i64 a1)⟩, ⟨2, [], .v (.int .i64 a2)⟩], [], [], [((((kd_Layout_plan).cells x0 sv0).map EV.v), 105), ([.v (.int .i64 0), .v (.int .i64 0)], 109)], none, none⟩ [] (by kernel_rfl) trivial (fun ns_3 a w_4 hI _ => ?_)
  refine cond_ hI ((decide (a2 < 0) || decide (a2 ≥ a3))) rfl (fun hc_5 => ?_) (fun hc_5 => ?_)
  · replace H0 := bif_t hc_5 H0
    refine seq_region (live := [8]) (orc := []) hF hI ⟨[⟨8, [], .p 1 0⟩], [], [], [((((kd_Layout_plan).cells x0 sv0).map EV.v), 105), ([.v (.int .i64 0), .v (.int .i64 0)], 109)], none, none⟩ [] (by kernel_rfl) trivial (fun ns_6 a w_7 hI _ => ?_)
    refine wpIn_ret ?_
    refine then_ret ?_
    obtain rfl := Option.some.inj H0
    exact retCell hI rfl rfl rfl rfl rfl rfl ⟨rfl, hE.below hI⟩
  · replace H0 := bif_f hc_5 H0
    refine wpIn_skip ?_
    refine then_normal ?_
    obtain ⟨hN_8, H0⟩ := req_some H0
    obtain ⟨sv_9, hE_11, hA_10⟩ := Arr.elB (d := kd_Span) hx0.1.1 (IntKind.i64.wrap (a1 + a2)) true (fun _ => hN_8)
    replace hE_11 := hE_11 rfl
    replace hA_10 := fun (_ : true = true) => hA_10 rfl
    refine seq_region (live := [8]) (orc := [(kd_Span).cells (rd x0.l (IntKind.i64.wrap (a1 + a2))) sv_9]) hF hI ⟨[⟨8, [], .p 1 0⟩], [], [], [((((kd_Layout_plan).cells x0 sv0).map EV.v), 105), ((((kd_Span).cells (rd x0.l (IntKind.i64.wrap (a1 + a2))) sv_9).map EV.v), 109)], none, none⟩ [.need true (0 ≤ (IntKind.i64.wrap (a1 + a2)) ∧ (IntKind.i64.wrap (a1 + a2)) < (x0.l.length : Int)), .need true ((sv0 0).1 = some (adr ((sv0 0).1))), .cell true ((adr ((sv0 0).1)).add (((IntKind.i64.wrap (a1 + a2)) : Int).toNat * 2)) ((kd_Span).cells (rd x0.l (IntKind.i64.wrap (a1 + a2))) sv_9)] (by kernel_rfl) ⟨ob_inb (fun _ => hN_8), hA_10, ob_el (fun _ => hE_11) 0 ((kd_Span).cells (rd x0.l (IntKind.i64.wrap (a1 + a2))) sv_9) rfl, trivial⟩ (fun ns_12 a w_13 hI _ => ?_)
    refine wpIn_ret ?_
    obtain rfl := Option.some.inj H0
    exact retCell hI rfl rfl rfl rfl rfl rfl ⟨rfl, hE.below hI⟩

/-! ### porthole/span.Right: function 81 -/
noncomputable def G_span_Right (x0 : Span) : Option (Bool) := some (((decide (x0.From ≥ 0) && decide (x0.Size ≥ 0)) && decide (x0.From ≤ 2147483647)) && decide (x0.Size ≤ (IntKind.i64.wrap (2147483647 - x0.From))))
set_option maxRecDepth 100000 in
set_option maxHeartbeats 4000000 in
theorem G_span_Right.calls (x0 : Span) (sv0 : SV) (w : World) {S : Nat → Prop} (hx0 : (kd_Span).cont S w x0 sv0) (r : Bool) (h : G_span_Right x0 = some r) :
    Calls Try.prog 81 #[.agg ((kd_Span).cells x0 sv0).toArray] w fun e w' => e = .returned (.bool r) ∧ Below w.heap.size w w' := by
  replace hx0 := Kd.lo _ hx0
  unfold G_span_Right at h
  have H0 := h
  clear h
  refine enter Try.func81 rfl [.agg ((kd_Span).cells x0 sv0).toArray] (n := 24) rfl (Nat.le_of_ble_eq_true rfl) (fun a hI => ?_)
  have hF : FOpen Fence.wide := .inl rfl
  have hE := Ep.start w
  refine seq_region (live := [2, 1]) (orc := []) hF hI ⟨[⟨2, [], .v (.bool false)⟩, ⟨1, [], .p 0 0⟩], [], [], [((((kd_Span).cells x0 sv0).map EV.v), 109)], none, none⟩ [] (by kernel_rfl) trivial (fun ns_1 a w_2 hI _ => ?_)
  refine seq_region (live := [2]) (orc := []) hF hI ⟨[⟨2, [], .v (.bool (((decide (x0.From ≥ 0) && decide (x0.Size ≥ 0)) && decide (x0.From ≤ 2147483647)) && decide (x0.Size ≤ (IntKind.i64.wrap (2147483647 - x0.From)))))⟩], [], [], [((((kd_Span).cells x0 sv0).map EV.v), 109)], none, none⟩ [] (by kernel_rfl) trivial (fun ns_3 a w_4 hI _ => ?_)
  refine wpIn_ret ?_
  obtain rfl := Option.some.inj H0
  exact ret1 hI rfl rfl ⟨rfl, hE.below hI⟩

/-! ### porthole/span.Has: function 64 -/
noncomputable def G_span_Has (x0 : Span) (a1 : Int) : Option (Bool) := ((G_span_Right x0).bind fun t_3 => some ((t_3 && decide (a1 ≥ x0.From)) && decide (a1 < (IntKind.i64.wrap (x0.From + x0.Size)))))
set_option maxRecDepth 100000 in
set_option maxHeartbeats 4000000 in
theorem G_span_Has.calls (x0 : Span) (a1 : Int) (sv0 : SV) (w : World) {S : Nat → Prop} (hx0 : (kd_Span).cont S w x0 sv0) (r : Bool) (h : G_span_Has x0 a1 = some r) :
    Calls Try.prog 64 #[.agg ((kd_Span).cells x0 (svL [])).toArray, .int .i64 a1] w fun e w' => e = .returned (.bool r) ∧ Below w.heap.size w w' := by
  replace hx0 := Kd.lo _ hx0
  unfold G_span_Has at h
  have H0 := h
  clear h
  refine enter Try.func64 rfl [.agg ((kd_Span).cells x0 (svL [])).toArray, .int .i64 a1] (n := 22) rfl (Nat.le_of_ble_eq_true rfl) (fun a hI => ?_)
  have hF : FOpen Fence.wide := .inl rfl
  have hE := Ep.start w
  refine seq_region (live := [4, 2, 1]) (orc := []) hF hI ⟨[⟨4, [], .v (.bool false)⟩, ⟨2, [], .p 0 0⟩, ⟨1, [], .v (.int .i64 a1)⟩], [], [], [((((kd_Span).cells x0 sv0).map EV.v), 109)], none, none⟩ [] (by kernel_rfl) trivial (fun ns_1 a w_2 hI _ => ?_)
  obtain ⟨t_3, hG_4, H0⟩ := bind_some H0
  refine seq_region (live := [4]) (orc := [[.bool t_3]]) hF hI ⟨[⟨4, [], .v (.bool ((t_3 && decide (a1 ≥ x0.From)) && decide (a1 < (IntKind.i64.wrap (x0.From + x0.Size)))))⟩], [], [], [((((kd_Span).cells x0 sv0).map EV.v), 109)], none, none⟩ [.call true 81 [.agg ((kd_Span).cells x0 (svL [])).toArray] (.bool t_3)] (by kernel_rfl) ⟨ob_call (enters Try.func81 (by kernel_rfl) rfl) (fun hg wz hk => G_span_Right.calls x0 (svL []) wz (S := fun _ => True) (Kd.any _ (Kd.keep kd_Span (contI (S := Lo S w w [] []) (w := w) (d := kd_Span) (x := x0) (sv := (svL [])) trivial) (Lo.on hk))) _ hG_4), trivial⟩ (fun ns_5 a w_6 hI _ => ?_)
  refine wpIn_ret ?_
  obtain rfl := Option.some.inj H0
  exact ret1 hI rfl rfl ⟨rfl, hE.below hI⟩

/-! ### (porthole/layout.plan).chans: function 66 -/
noncomputable def G_layout_plan_chans.b1 (x0 : Layout_plan) (a1 : Int) (s1 : Int × Int × (List Span) × Int) : Option (Stp (Int × Int × (List Span) × Int) (Ex (Int × Int × (List Span) × Int) (Layout_plan))) := (bif decide (s1.1 < (x0.l.length : Int)) then (req (inb s1.1 x0.l.length) (req (decide ((s1.2.2.1.length + 1) * 16 ≤ 140737488355328)) (some (.next ((IntKind.i64.wrap (s1.1 + 2)), s1.2.1, (s1.2.2.1 ++ [(rd x0.l s1.1)]), s1.2.2.2))))) else some (.out (.brk (s1.1, s1.2.1, s1.2.2.1, s1.2.2.2))))
noncomputable def G_layout_plan_chans (x0 : Layout_plan) (a1 : Int) : Option (Layout_plan) := ((loopω (G_layout_plan_chans.b1 x0 a1) ((IntKind.i64.wrap (x0.parts + a1)), 0, ([] : List Span), 0)).bind fun o => o.on (fun s1 => some (⟨s1.2.1, s1.2.2.1, s1.2.2.2⟩ : Layout_plan)) (fun r => some r))
set_option maxRecDepth 100000 in
set_option maxHeartbeats 4000000 in
theorem G_layout_plan_chans.calls (x0 : Layout_plan) (a1 : Int) (sv0 : SV) (w : World) {S : Nat → Prop} (hx0 : (kd_Layout_plan).cont S w x0 sv0) (r : Layout_plan) (h : G_layout_plan_chans x0 a1 = some r) :
    Calls Try.prog 66 #[.agg ((kd_Layout_plan).cells x0 sv0).toArray, .int .i64 a1] w fun e w' => ∃ sv : SV, e = .returned (.agg ((kd_Layout_plan).cells r sv).toArray) ∧ Below w.heap.size w w' ∧ (kd_Layout_plan).cont (fun b => w.heap.size ≤ b ∨ S b) w' r sv := by
  replace hx0 := Kd.lo _ hx0
  unfold G_layout_plan_chans at h
  have H0 := h
  clear h
  refine enter Try.func66 rfl [.agg ((kd_Layout_plan).cells x0 sv0).toArray, .int .i64 a1] (n := 29) rfl (Nat.le_of_ble_eq_true rfl) (fun a hI => ?_)
  have hF : FOpen Fence.wide := .inl rfl
  have hE := Ep.start w
  refine seq_region (live := [4, 2, 1]) (orc := []) hF hI ⟨[⟨4, [], .p 1 0⟩, ⟨2, [], .p 0 0⟩, ⟨1, [], .v (.int .i64 a1)⟩], [], [], [((((kd_Layout_plan).cells x0 sv0).map EV.v), 105), ([.v (.int .i64 0), .v (.slice none 0 0), .v (.int .i64 0)], 105)], none, none⟩ [] (by kernel_rfl) trivial (fun ns_1 a w_2 hI _ => ?_)
  refine seq_region (live := [5, 4, 2, 1]) (orc := []) hF hI ⟨[⟨5, [], .p 2 0⟩, ⟨4, [], .p 1 0⟩, ⟨2, [], .p 0 0⟩, ⟨1, [], .v (.int .i64 a1)⟩], [], [], [((((kd_Layout_plan).cells x0 sv0).map EV.v), 105), ([.v (.int .i64 0), .v (.slice none 0 0), .v (.int .i64 0)], 105), ([.v (.int .i64 0), .v (.slice none 0 0), .v (.int .i64 0)], 105)], none, none⟩ [] (by kernel_rfl) trivial (fun ns_3 a w_4 hI _ => ?_)
  refine wpIn_seq ?_
  refine seq_region (live := [6, 5, 4, 2]) (orc := []) hF hI ⟨[⟨6, [], .v (.int .i64 (IntKind.i64.wrap (x0.parts + a1)))⟩, ⟨5, [], .p 2 0⟩, ⟨4, [], .p 1 0⟩, ⟨2, [], .p 0 0⟩], [], [], [((((kd_Layout_plan).cells x0 sv0).map EV.v), 105), ([.v (.int .i64 0), .v (.slice none 0 0), .v (.int .i64 0)], 105), ([.v (.int .i64 0), .v (.slice none 0 0), .v (.int .i64 0)], 105)], none, none⟩ [] (by kernel_rfl) trivial (fun ns_5 a w_6 hI _ => ?_)
  obtain ⟨hE', hmv, hmr⟩ := Ep.rebase (S0 := S) hE hI
  replace hx0 := Kd.keep _ hx0 hmv
  replace hE := hE'
  replace hI := hI.rebase
  clear hE' hmv hmr
  obtain ⟨hE', hmv⟩ := Ep.addNil (S0 := S) hE
  have hmr : ∀ b : Nat, some b ∈ ([] : List (Option Nat)) → w_6.heap[b]? = w_6.heap[b]? := fun _ _ => rfl
  replace hx0 := Kd.keep _ hx0 hmv
  replace hE := hE'
  clear hE' hmv hmr
  have hq_7 : Row kd_Span 109 (Lo S w w_6 ns_5 [rb none]) w_6 w.heap.size none 0 ([] : List Span) := Row.nil
  obtain ⟨o_36, hL_37, H0⟩ := bind_some H0
  refine block_loop (fun (s1 : Int × Int × (List Span) × Int) a w_44 => ∃ (ow ns : List Nat) (A_8 : Option Addr) (c_9 : Nat), ((kd_Layout_plan).cont (Lo S w w_44 ow [rb A_8]) w_44 x0 sv0) ∧ (Row kd_Span 109 (Lo S w w_44 ow [rb A_8]) w_44 w.heap.size A_8 c_9 s1.2.2.1) ∧ Ep w w_44 ow [rb A_8] ∧ St w_44 ow 29 ⟨[⟨6, [], .v (.int .i64 s1.1)⟩, ⟨5, [], .p 2 0⟩, ⟨4, [], .p 1 0⟩, ⟨2, [], .p 0 0⟩], [], [], [((((kd_Layout_plan).cells x0 sv0).map EV.v), 105), ([.v (.int .i64 0), .v (.slice none 0 0), .v (.int .i64 0)], 105), ([.v (.int .i64 s1.2.1), .v (.slice A_8 s1.2.2.1.length c_9), .v (.int .i64 s1.2.2.2)], 105)], none, none⟩ ns a w_44) ((IntKind.i64.wrap (x0.parts + a1)), 0, ([] : List Span), 0) hL_37 ⟨_, _, _, _, hx0, hq_7, hE, hI.pick [6, 5, 4, 2] 3 ⟨[⟨6, [], .v (.int .i64 (IntKind.i64.wrap (x0.parts + a1)))⟩, ⟨5, [], .p 2 0⟩, ⟨4, [], .p 1 0⟩, ⟨2, [], .p 0 0⟩], [], [], [((((kd_Layout_plan).cells x0 sv0).map EV.v), 105), ([.v (.int .i64 0), .v (.slice none 0 0), .v (.int .i64 0)], 105), ([.v (.int .i64 0), .v (.slice none ([] : List Span).length 0), .v (.int .i64 0)], 105)], none, none⟩ (by kernel_rfl)⟩ ?_ ?_
  · clear hI hE
    rintro s1 a w_10 ⟨ow_12, ns_11, A_8, c_9, hx0, hq_7, hE, hI⟩ r1 H1
    unfold G_layout_plan_chans.b1 at H1
    refine wpIn_seq ?_
    refine seq_region (live := [15, 6, 5, 4, 2]) (orc := []) hF hI ⟨[⟨15, [], .v (.bool (decide (s1.1 < (x0.l.length : Int))))⟩, ⟨6, [], .v (.int .i64 s1.1)⟩, ⟨5, [], .p 2 0⟩, ⟨4, [], .p 1 0⟩, ⟨2, [], .p 0 0⟩], [], [], [((((kd_Layout_plan).cells x0 sv0).map EV.v), 105), ([.v (.int .i64 0), .v (.slice none 0 0), .v (.int .i64 0)], 105), ([.v (.int .i64 s1.2.1), .v (.slice A_8 s1.2.2.1.length c_9), .v (.int .i64 s1.2.2.2)], 105)], none, none⟩ [] (by kernel_rfl) trivial (fun ns_13 a w_14 hI _ => ?_)
    refine cond_ hI (decide (s1.1 < (x0.l.length : Int))) rfl (fun hc_15 => ?_) (fun hc_15 => ?_)
    · replace H1 := bif_t hc_15 H1
      refine wpIn_skip ?_
      refine then_normal ?_
      refine wpIn_seq ?_
      refine wpIn_block ?_
      replace hI := hI.fin (live := [15, 6, 5, 4, 2]) (σ2 := ⟨[⟨15, [], .v (.bool (decide (s1.1 < (x0.l.length : Int))))⟩, ⟨6, [], .v (.int .i64 s1.1)⟩, ⟨5, [], .p 2 0⟩, ⟨4, [], .p 1 0⟩, ⟨2, [], .p 0 0⟩], [], [], [((((kd_Layout_plan).cells x0 sv0).map EV.v), 105), ([.v (.int .i64 0), .v (.slice none 0 0), .v (.int .i64 0)], 105), ([.v (.int .i64 s1.2.1), .v (.slice A_8 s1.2.2.1.length c_9), .v (.int .i64 s1.2.2.2)], 105)], none, none⟩) (by kernel_rfl)
      obtain ⟨hN_16, H1⟩ := req_some H1
      obtain ⟨sv_17, hE_19, hA_18⟩ := Arr.elB (d := kd_Span) hx0.1.1 s1.1 true (fun _ => hN_16)
      replace hE_19 := hE_19 rfl
      replace hA_18 := fun (_ : true = true) => hA_18 rfl
      refine drawnS_ hI (by kernel_rfl) [.q 18 (.p 2 1) [], .q 19 (.v (.slice A_8 s1.2.2.1.length c_9)) [], .q 20 (.p 0 1) [], .q 21 (.v (.slice ((sv0 0).1) x0.l.length ((sv0 0).2))) [], .q 22 (.v (.int .i64 s1.1)) [], .q 23 (.v (.pointer (some ((adr ((sv0 0).1)).add ((s1.1 : Int).toNat * 2))))) [.need true (0 ≤ s1.1 ∧ s1.1 < (x0.l.length : Int)), .need true ((sv0 0).1 = some (adr ((sv0 0).1)))], .q 24 (.v (.agg ((kd_Span).cells (rd x0.l s1.1) sv_17).toArray)) [.cell true ((adr ((sv0 0).1)).add ((s1.1 : Int).toNat * 2)) ((kd_Span).cells (rd x0.l s1.1) sv_17)], .no, .no, .q 27 (.p 2 1) [], .no] (by kernel_rfl) (fun fuel listed w_20 hJ hsz hu => ?_)
      refine stage_ hJ hF hsz hu [.q [] [], .q [0] [], .q [] [], .q [2] [], .q [] [], .q [3, 4] [], .q [5] [(kd_Span).cells (rd x0.l s1.1) sv_17], .no, .no, .q [] [], .no] (by kernel_rfl) (by kernel_rfl) (by kernel_rfl) (by kernel_rfl) 7 rfl (by kernel_rfl) (by kernel_rfl) [6] rfl (by kernel_rfl) (by kernel_rfl) ⟨ob_inb (fun _ => hN_16), hA_18, ob_el (fun _ => hE_19) 0 ((kd_Span).cells (rd x0.l s1.1) sv_17) rfl, trivial⟩ [6] (by kernel_rfl) [.q 18 (.p 2 1) [], .q 19 (.v (.slice A_8 s1.2.2.1.length c_9)) [], .q 20 (.p 0 1) [], .q 21 (.v (.slice ((sv0 0).1) x0.l.length ((sv0 0).2))) [], .q 22 (.v (.int .i64 s1.1)) [], .q 23 (.v (.pointer (some ((adr ((sv0 0).1)).add ((s1.1 : Int).toNat * 2))))) [.need true (0 ≤ s1.1 ∧ s1.1 < (x0.l.length : Int)), .need true ((sv0 0).1 = some (adr ((sv0 0).1)))], .t (some 24) (some (.v (.agg ((kd_Span).cells (rd x0.l s1.1) sv_17).toArray))), .no, .no, .q 27 (.p 2 1) [], .no] (by kernel_rfl) (fun fuel listed a w_21 hJ hI hW h1 hnl hsz hu => ?_)
      obtain ⟨hE', hmv, hmr⟩ := Ep.rebase (S0 := S) hE hI
      replace hx0 := Kd.keep _ hx0 hmv
      replace hq_7 := Row.keep hq_7 hmv (fun b hb => hmr b (by rw [← hb]; first | (simp; done) | simp [rb]))
      replace hE_19 := El.keep hE_19 hmv
      replace hE := hE'
      replace hI := hI.rebase
      clear hE' hmv hmr
      refine buildSlice_ (S0 := S) (d := kd_Span) (e := 109) hF hE hI hW rfl (by kernel_rfl) (cs := [.int .i64 ((rd x0.l s1.1).From), .int .i64 ((rd x0.l s1.1).Size)]) (by kernel_rfl) [(rd x0.l s1.1)] [(svL [])] rfl rfl (by simp [maxLen]) (fun i x hi => by cases i with | zero => (simp only [List.getElem?_cons_zero, Option.some.injEq] at hi; subst hi; exact ⟨trivial, rfl⟩) | succ i => (simp only [List.getElem?_cons_succ] at hi; simp at hi)) (fun A_22 => ⟨[⟨25, [], .v (.slice A_22 ([(rd x0.l s1.1)] : List Span).length (([(rd x0.l s1.1)] : List Span).length))⟩, ⟨24, [], .v (.agg ((kd_Span).cells (rd x0.l s1.1) sv_17).toArray)⟩, ⟨15, [], .v (.bool (decide (s1.1 < (x0.l.length : Int))))⟩, ⟨6, [], .v (.int .i64 s1.1)⟩, ⟨5, [], .p 2 0⟩, ⟨4, [], .p 1 0⟩, ⟨2, [], .p 0 0⟩], [], [], [((((kd_Layout_plan).cells x0 sv0).map EV.v), 105), ([.v (.int .i64 0), .v (.slice none 0 0), .v (.int .i64 0)], 105), ([.v (.int .i64 s1.2.1), .v (.slice A_8 s1.2.2.1.length c_9), .v (.int .i64 s1.2.2.2)], 105)], none, none⟩) (fun A_22 => by kernel_rfl) (fun A_22 a w_24 hput hE' hI' hmv hmr hq_23 => ?_)
      replace hx0 := Kd.keep _ hx0 hmv
      replace hq_7 := Row.keep hq_7 hmv (fun b hb => hmr b (by rw [← hb]; first | (simp; done) | simp [rb]) (by simp))
      replace hE_19 := El.keep hE_19 hmv
      replace hE := hE'
      replace hI := hI'
      clear hE' hI' hmv hmr
      refine next_ hJ h1 hnl hsz hu (by kernel_rfl) (by kernel_rfl) hput hI (live := [15, 6, 5, 4, 2]) ⟨[⟨15, [], .v (.bool (decide (s1.1 < (x0.l.length : Int))))⟩, ⟨6, [], .v (.int .i64 s1.1)⟩, ⟨5, [], .p 2 0⟩, ⟨4, [], .p 1 0⟩, ⟨2, [], .p 0 0⟩], [], [], [((((kd_Layout_plan).cells x0 sv0).map EV.v), 105), ([.v (.int .i64 0), .v (.slice none 0 0), .v (.int .i64 0)], 105), ([.v (.int .i64 s1.2.1), .v (.slice A_8 s1.2.2.1.length c_9), .v (.int .i64 s1.2.2.2)], 105)], none, none⟩ (by kernel_rfl) (some (.v (.slice A_22 ([(rd x0.l s1.1)] : List Span).length (([(rd x0.l s1.1)] : List Span).length)))) (by kernel_rfl) [] [.q 18 (.p 2 1) [], .q 19 (.v (.slice A_8 s1.2.2.1.length c_9)) [], .q 20 (.p 0 1) [], .q 21 (.v (.slice ((sv0 0).1) x0.l.length ((sv0 0).2))) [], .q 22 (.v (.int .i64 s1.1)) [], .q 23 (.v (.pointer (some ((adr ((sv0 0).1)).add ((s1.1 : Int).toNat * 2))))) [.need true (0 ≤ s1.1 ∧ s1.1 < (x0.l.length : Int)), .need true ((sv0 0).1 = some (adr ((sv0 0).1)))], .t (some 24) (some (.v (.agg ((kd_Span).cells (rd x0.l s1.1) sv_17).toArray))), .t (some 25) (some (.v (.slice A_22 ([(rd x0.l s1.1)] : List Span).length (([(rd x0.l s1.1)] : List Span).length)))), .no, .q 27 (.p 2 1) [], .no] (by kernel_rfl) (by kernel_rfl) (by kernel_rfl) True.intro (AL.none (by kernel_rfl)) (fun hJ hsz hu => ?_)
      refine stage_ hJ hF hsz hu [.q [] [], .q [0] [], .q [] [], .q [2] [], .q [] [], .q [3, 4] [], .t (some (.v (.agg ((kd_Span).cells (rd x0.l s1.1) sv_17).toArray))), .t (some (.v (.slice A_22 ([(rd x0.l s1.1)] : List Span).length (([(rd x0.l s1.1)] : List Span).length)))), .no, .q [] [], .no] (by kernel_rfl) (by kernel_rfl) (by kernel_rfl) (by kernel_rfl) 8 rfl (by kernel_rfl) (by kernel_rfl) [1, 7] rfl (by kernel_rfl) (by kernel_rfl) ⟨ob_inb (fun _ => hN_16), hA_18, trivial⟩ [1] (by kernel_rfl) [.q 18 (.p 2 1) [], .t (some 19) (some (.v (.slice A_8 s1.2.2.1.length c_9))), .q 20 (.p 0 1) [], .q 21 (.v (.slice ((sv0 0).1) x0.l.length ((sv0 0).2))) [], .q 22 (.v (.int .i64 s1.1)) [], .q 23 (.v (.pointer (some ((adr ((sv0 0).1)).add ((s1.1 : Int).toNat * 2))))) [.need true (0 ≤ s1.1 ∧ s1.1 < (x0.l.length : Int)), .need true ((sv0 0).1 = some (adr ((sv0 0).1)))], .t (some 24) (some (.v (.agg ((kd_Span).cells (rd x0.l s1.1) sv_17).toArray))), .t (some 25) (some (.v (.slice A_22 ([(rd x0.l s1.1)] : List Span).length (([(rd x0.l s1.1)] : List Span).length)))), .no, .q 27 (.p 2 1) [], .no] (by kernel_rfl) (fun fuel listed a w_25 hJ hI hW h1 hnl hsz hu => ?_)
      obtain ⟨hE', hmv, hmr⟩ := Ep.rebase (S0 := S) hE hI
      replace hx0 := Kd.keep _ hx0 hmv
      replace hq_7 := Row.keep hq_7 hmv (fun b hb => hmr b (by rw [← hb]; first | (simp; done) | simp [rb]))
      replace hE_19 := El.keep hE_19 hmv
      replace hq_23 := Row.keep hq_23 hmv (fun b hb => hmr b (by rw [← hb]; first | (simp; done) | simp [rb]))
      replace hE := hE'
      replace hI := hI.rebase
      clear hE' hmv hmr
      obtain ⟨hE', hmv, hq_23, hcap_26⟩ := Row.still (l1 := [rb A_8]) (l2 := []) hq_23 hE
      have hmr : ∀ b : Nat, some b ∈ ([rb A_8, rb A_22] : List (Option Nat)) → w_25.heap[b]? = w_25.heap[b]? := fun _ _ => rfl
      replace hx0 := Kd.keep _ hx0 hmv
      replace hq_7 := Row.keep hq_7 hmv (fun b hb => hmr b (by rw [← hb]; first | (simp; done) | simp [rb]))
      replace hE_19 := El.keep hE_19 hmv
      replace hE := hE'
      clear hE' hmv hmr
      obtain ⟨hN_27, H1⟩ := req_some H1
      replace hN_27 := of_decide_eq_true hN_27
      refine append_ (S0 := S) (l1 := []) (l2 := []) (d := kd_Span) (e := 109) hF hE hI hW rfl (A := A_8) (c := c_9) (l := s1.2.2.1) rfl (A2 := A_22) (c2 := (([(rd x0.l s1.1)] : List Span).length)) rfl hq_7 hq_23 (fun sv u hu => by exact kd_one_Span _ sv u hu) Try.underlying103 (zi := (.agg #[.int .i64 0, .int .i64 0], 2, 16)) (by kernel_rfl) rfl (by kernel_rfl) (len_max (by decide) hN_27) hN_27 (fun A_28 c_29 => ⟨[⟨26, [], .v (.slice A_28 (s1.2.2.1 ++ [(rd x0.l s1.1)]).length c_29)⟩, ⟨19, [], .v (.slice A_8 s1.2.2.1.length c_9)⟩, ⟨25, [], .v (.slice A_22 ([(rd x0.l s1.1)] : List Span).length (([(rd x0.l s1.1)] : List Span).length))⟩, ⟨15, [], .v (.bool (decide (s1.1 < (x0.l.length : Int))))⟩, ⟨6, [], .v (.int .i64 s1.1)⟩, ⟨5, [], .p 2 0⟩, ⟨4, [], .p 1 0⟩, ⟨2, [], .p 0 0⟩], [], [], [((((kd_Layout_plan).cells x0 sv0).map EV.v), 105), ([.v (.int .i64 0), .v (.slice none 0 0), .v (.int .i64 0)], 105), ([.v (.int .i64 s1.2.1), .v (.slice A_8 s1.2.2.1.length c_9), .v (.int .i64 s1.2.2.2)], 105)], none, none⟩) (fun A_28 c_29 => by kernel_rfl) (fun A_28 c_29 a w_30 hput hE' hI' hmv hmr hq_7 => ?_)
      replace hx0 := Kd.keep _ hx0 hmv
      replace hE_19 := El.keep hE_19 hmv
      replace hq_23 := Arr.keep hq_23 hmv
      replace hE := hE'
      replace hI := hI'
      clear hE' hI' hmv hmr
      refine next_ hJ h1 hnl hsz hu (by kernel_rfl) (by kernel_rfl) hput hI (live := [15, 6, 5, 4, 2]) ⟨[⟨15, [], .v (.bool (decide (s1.1 < (x0.l.length : Int))))⟩, ⟨6, [], .v (.int .i64 s1.1)⟩, ⟨5, [], .p 2 0⟩, ⟨4, [], .p 1 0⟩, ⟨2, [], .p 0 0⟩], [], [], [((((kd_Layout_plan).cells x0 sv0).map EV.v), 105), ([.v (.int .i64 0), .v (.slice none 0 0), .v (.int .i64 0)], 105), ([.v (.int .i64 s1.2.1), .v (.slice A_8 s1.2.2.1.length c_9), .v (.int .i64 s1.2.2.2)], 105)], none, none⟩ (by kernel_rfl) (some (.v (.slice A_28 (s1.2.2.1 ++ [(rd x0.l s1.1)]).length c_29))) (by kernel_rfl) [] [.q 18 (.p 2 1) [], .t (some 19) (some (.v (.slice A_8 s1.2.2.1.length c_9))), .q 20 (.p 0 1) [], .q 21 (.v (.slice ((sv0 0).1) x0.l.length ((sv0 0).2))) [], .q 22 (.v (.int .i64 s1.1)) [], .q 23 (.v (.pointer (some ((adr ((sv0 0).1)).add ((s1.1 : Int).toNat * 2))))) [.need true (0 ≤ s1.1 ∧ s1.1 < (x0.l.length : Int)), .need true ((sv0 0).1 = some (adr ((sv0 0).1)))], .t (some 24) (some (.v (.agg ((kd_Span).cells (rd x0.l s1.1) sv_17).toArray))), .t (some 25) (some (.v (.slice A_22 ([(rd x0.l s1.1)] : List Span).length (([(rd x0.l s1.1)] : List Span).length)))), .t (some 26) (some (.v (.slice A_28 (s1.2.2.1 ++ [(rd x0.l s1.1)]).length c_29))), .q 27 (.p 2 1) [], .no] (by kernel_rfl) (by kernel_rfl) (by kernel_rfl) True.intro (AL.none (by kernel_rfl)) (fun hJ hsz hu => ?_)
      refine stage_ hJ hF hsz hu [.q [] [], .t (some (.v (.slice A_8 s1.2.2.1.length c_9))), .q [] [], .q [2] [], .q [] [], .q [3, 4] [], .t (some (.v (.agg ((kd_Span).cells (rd x0.l s1.1) sv_17).toArray))), .t (some (.v (.slice A_22 ([(rd x0.l s1.1)] : List Span).length (([(rd x0.l s1.1)] : List Span).length)))), .t (some (.v (.slice A_28 (s1.2.2.1 ++ [(rd x0.l s1.1)]).length c_29))), .q [] [], .no] (by kernel_rfl) (by kernel_rfl) (by kernel_rfl) (by kernel_rfl) 10 rfl (by kernel_rfl) (by kernel_rfl) [9, 8] rfl (by kernel_rfl) (by kernel_rfl) ⟨ob_inb (fun _ => hN_16), hA_18, trivial⟩ [0, 2, 3, 4, 5, 9] (by kernel_rfl) [.t (some 18) (some (.p 2 1)), .t (some 19) (some (.v (.slice A_8 s1.2.2.1.length c_9))), .t (some 20) (some (.p 0 1)), .t (some 21) (some (.v (.slice ((sv0 0).1) x0.l.length ((sv0 0).2)))), .t (some 22) (some (.v (.int .i64 s1.1))), .t (some 23) (some (.v (.pointer (some ((adr ((sv0 0).1)).add ((s1.1 : Int).toNat * 2)))))), .t (some 24) (some (.v (.agg ((kd_Span).cells (rd x0.l s1.1) sv_17).toArray))), .t (some 25) (some (.v (.slice A_22 ([(rd x0.l s1.1)] : List Span).length (([(rd x0.l s1.1)] : List Span).length)))), .t (some 26) (some (.v (.slice A_28 (s1.2.2.1 ++ [(rd x0.l s1.1)]).length c_29))), .t (some 27) (some (.p 2 1)), .no] (by kernel_rfl) (fun fuel listed a w_31 hJ hI hW h1 hnl hsz hu => ?_)
      refine store_ hF hI hW rfl rfl (k := 2) (cs := [.v (.int .i64 s1.2.1), .v (.slice A_28 (s1.2.2.1 ++ [(rd x0.l s1.1)]).length c_29), .v (.int .i64 s1.2.2.2)]) (T := 105) (by kernel_rfl) (by kernel_rfl) rfl (fun a w_32 hput hI => ?_)
      refine next_ hJ h1 hnl hsz hu (by kernel_rfl) (by kernel_rfl) hput hI (live := [15, 6, 5, 4, 2]) ⟨[⟨15, [], .v (.bool (decide (s1.1 < (x0.l.length : Int))))⟩, ⟨6, [], .v (.int .i64 s1.1)⟩, ⟨5, [], .p 2 0⟩, ⟨4, [], .p 1 0⟩, ⟨2, [], .p 0 0⟩], [], [], [((((kd_Layout_plan).cells x0 sv0).map EV.v), 105), ([.v (.int .i64 0), .v (.slice none 0 0), .v (.int .i64 0)], 105), ([.v (.int .i64 s1.2.1), .v (.slice A_28 (s1.2.2.1 ++ [(rd x0.l s1.1)]).length c_29), .v (.int .i64 s1.2.2.2)], 105)], none, none⟩ (by kernel_rfl) none (by kernel_rfl) [] [.t (some 18) (some (.p 2 1)), .t (some 19) (some (.v (.slice A_8 s1.2.2.1.length c_9))), .t (some 20) (some (.p 0 1)), .t (some 21) (some (.v (.slice ((sv0 0).1) x0.l.length ((sv0 0).2)))), .t (some 22) (some (.v (.int .i64 s1.1))), .t (some 23) (some (.v (.pointer (some ((adr ((sv0 0).1)).add ((s1.1 : Int).toNat * 2)))))), .t (some 24) (some (.v (.agg ((kd_Span).cells (rd x0.l s1.1) sv_17).toArray))), .t (some 25) (some (.v (.slice A_22 ([(rd x0.l s1.1)] : List Span).length (([(rd x0.l s1.1)] : List Span).length)))), .t (some 26) (some (.v (.slice A_28 (s1.2.2.1 ++ [(rd x0.l s1.1)]).length c_29))), .t (some 27) (some (.p 2 1)), .t none none] (by kernel_rfl) (by kernel_rfl) (by kernel_rfl) True.intro (AL.none (by kernel_rfl)) (fun hJ hsz hu => ?_)
      refine end_ hJ hF hsz hu [.t (some (.p 2 1)), .t (some (.v (.slice A_8 s1.2.2.1.length c_9))), .t (some (.p 0 1)), .t (some (.v (.slice ((sv0 0).1) x0.l.length ((sv0 0).2)))), .t (some (.v (.int .i64 s1.1))), .t (some (.v (.pointer (some ((adr ((sv0 0).1)).add ((s1.1 : Int).toNat * 2)))))), .t (some (.v (.agg ((kd_Span).cells (rd x0.l s1.1) sv_17).toArray))), .t (some (.v (.slice A_22 ([(rd x0.l s1.1)] : List Span).length (([(rd x0.l s1.1)] : List Span).length)))), .t (some (.v (.slice A_28 (s1.2.2.1 ++ [(rd x0.l s1.1)]).length c_29))), .t (some (.p 2 1)), .t none] (by kernel_rfl) (by kernel_rfl) (by kernel_rfl) (by kernel_rfl) (by kernel_rfl) (by kernel_rfl) (live := [6, 5, 4, 2]) ⟨[⟨6, [], .v (.int .i64 s1.1)⟩, ⟨5, [], .p 2 0⟩, ⟨4, [], .p 1 0⟩, ⟨2, [], .p 0 0⟩], [], [], [((((kd_Layout_plan).cells x0 sv0).map EV.v), 105), ([.v (.int .i64 0), .v (.slice none 0 0), .v (.int .i64 0)], 105), ([.v (.int .i64 s1.2.1), .v (.slice A_28 (s1.2.2.1 ++ [(rd x0.l s1.1)]).length c_29), .v (.int .i64 s1.2.2.2)], 105)], none, none⟩ (by kernel_rfl) trivial (fun a w_33 hI => ?_)
      refine inBlock_normal ?_
      refine then_normal ?_
      refine region_ (live := [6, 5, 4, 2]) (orc := []) hF hI ⟨[⟨6, [], .v (.int .i64 (IntKind.i64.wrap (s1.1 + 2)))⟩, ⟨5, [], .p 2 0⟩, ⟨4, [], .p 1 0⟩, ⟨2, [], .p 0 0⟩], [], [], [((((kd_Layout_plan).cells x0 sv0).map EV.v), 105), ([.v (.int .i64 0), .v (.slice none 0 0), .v (.int .i64 0)], 105), ([.v (.int .i64 s1.2.1), .v (.slice A_28 (s1.2.2.1 ++ [(rd x0.l s1.1)]).length c_29), .v (.int .i64 s1.2.2.2)], 105)], none, none⟩ [] (by kernel_rfl) trivial (fun ns_34 a w_35 hI _ => ?_)
      refine then_normal ?_
      obtain ⟨hE', hmv, hmr⟩ := Ep.rebase (S0 := S) hE hI
      replace hx0 := Kd.keep _ hx0 hmv
      replace hE_19 := El.keep hE_19 hmv
      replace hq_23 := Arr.keep hq_23 hmv
      replace hq_7 := Row.keep hq_7 hmv (fun b hb => hmr b (by rw [← hb]; first | (simp; done) | simp [rb]))
      replace hE := hE'
      replace hI := hI.rebase
      clear hE' hmv hmr
      obtain rfl := Option.some.inj H1
      exact ⟨_, rfl, ⟨_, _, _, _, hx0, hq_7, hE, hI.pick [6, 5, 4, 2] 3 ⟨[⟨6, [], .v (.int .i64 (IntKind.i64.wrap (s1.1 + 2)))⟩, ⟨5, [], .p 2 0⟩, ⟨4, [], .p 1 0⟩, ⟨2, [], .p 0 0⟩], [], [], [((((kd_Layout_plan).cells x0 sv0).map EV.v), 105), ([.v (.int .i64 0), .v (.slice none 0 0), .v (.int .i64 0)], 105), ([.v (.int .i64 s1.2.1), .v (.slice A_28 (s1.2.2.1 ++ [(rd x0.l s1.1)]).length c_29), .v (.int .i64 s1.2.2.2)], 105)], none, none⟩ (by kernel_rfl)⟩⟩
    · replace H1 := bif_f hc_15 H1
      refine wpIn_exit ?_
      refine then_exit ?_
      refine then_exit ?_
      obtain ⟨hE', hmv, hmr⟩ := Ep.rebase (S0 := S) hE hI
      replace hx0 := Kd.keep _ hx0 hmv
      replace hq_7 := Row.keep hq_7 hmv (fun b hb => hmr b (by rw [← hb]; first | (simp; done) | simp [rb]))
      replace hE := hE'
      replace hI := hI.rebase
      clear hE' hmv hmr
      obtain rfl := Option.some.inj H1
      exact .inl ⟨_, rfl, rfl, ⟨_, _, _, _, hx0, hq_7, hE, hI.pick [6, 5, 4, 2] 3 ⟨[⟨6, [], .v (.int .i64 s1.1)⟩, ⟨5, [], .p 2 0⟩, ⟨4, [], .p 1 0⟩, ⟨2, [], .p 0 0⟩], [], [], [((((kd_Layout_plan).cells x0 sv0).map EV.v), 105), ([.v (.int .i64 0), .v (.slice none 0 0), .v (.int .i64 0)], 105), ([.v (.int .i64 s1.2.1), .v (.slice A_8 s1.2.2.1.length c_9), .v (.int .i64 s1.2.2.2)], 105)], none, none⟩ (by kernel_rfl)⟩⟩
  · clear hI hE
    rintro s1 a w_38 ho ⟨ow_40, ns_39, A_8, c_9, hx0, hq_7, hE, hI⟩
    subst ho
    replace H0 : (some (⟨s1.2.1, s1.2.2.1, s1.2.2.2⟩ : Layout_plan) : Option (Layout_plan)) = _ := H0
    refine then_normal ?_
    refine seq_region (live := [4]) (orc := []) hF hI ⟨[⟨4, [], .p 1 0⟩], [], [], [((((kd_Layout_plan).cells x0 sv0).map EV.v), 105), ([.v (.int .i64 s1.2.1), .v (.slice A_8 s1.2.2.1.length c_9), .v (.int .i64 s1.2.2.2)], 105), ([.v (.int .i64 s1.2.1), .v (.slice A_8 s1.2.2.1.length c_9), .v (.int .i64 s1.2.2.2)], 105)], none, none⟩ [] (by kernel_rfl) trivial (fun ns_41 a w_42 hI _ => ?_)
    obtain ⟨hE', hmv, hmr⟩ := Ep.rebase (S0 := S) hE hI
    replace hx0 := Kd.keep _ hx0 hmv
    replace hq_7 := Row.keep hq_7 hmv (fun b hb => hmr b (by rw [← hb]; first | (simp; done) | simp [rb]))
    replace hE := hE'
    replace hI := hI.rebase
    clear hE' hmv hmr
    obtain ⟨hE', hmv, hq_7, hcap_43⟩ := Row.still (l1 := []) (l2 := []) hq_7 hE
    have hmr : ∀ b : Nat, some b ∈ ([rb A_8] : List (Option Nat)) → w_42.heap[b]? = w_42.heap[b]? := fun _ _ => rfl
    replace hx0 := Kd.keep _ hx0 hmv
    replace hE := hE'
    clear hE' hmv hmr
    refine wpIn_ret ?_
    obtain rfl := Option.some.inj H0
    exact retCell hI rfl rfl rfl rfl rfl rfl ⟨svL [(A_8, c_9)], rfl, hE.below hI, ⟨⟨Arr.keep hq_7 (hE.out hI), hcap_43⟩, trivial⟩⟩

/-! ### porthole/layout.May: function 50 -/
noncomputable def G_layout_May.b1 (x0 : Config) (a1 : Int) (a2 : Int) (t_5 : Layout_plan) (t_12 : Span) (t_14 : Bool) (t_28 : Layout_plan) (t_37 : Layout_plan) (s1 : Int × Bool) : Option (Stp (Int × Bool) (Ex (Int × Bool) (Bool))) := (bif decide (s1.1 < (t_28.l.length : Int)) then (req (inb s1.1 t_28.l.length) (req (inb s1.1 x0.Chans.length) ((cal (((rd x0.Chans s1.1).From) == a1) (G_span_Has (rd t_28.l s1.1) a2) default).bind fun t_71 => (req (imp (!((((rd x0.Chans s1.1).From) == a1) && t_71)) (inb s1.1 x0.Chans.length)) (req (imp (!((((rd x0.Chans s1.1).From) == a1) && t_71) && (((rd x0.Chans s1.1).To) == a1)) (inb s1.1 t_37.l.length)) ((cal (!((((rd x0.Chans s1.1).From) == a1) && t_71) && (((rd x0.Chans s1.1).To) == a1)) (G_span_Has (rd t_37.l s1.1) a2) default).bind fun t_81 => (bif (((((rd x0.Chans s1.1).From) == a1) && t_71) || ((((rd x0.Chans s1.1).To) == a1) && t_81)) then some (.out (.ret true)) else some (.next ((IntKind.i64.wrap (s1.1 + 1)), s1.2))))))))) else some (.out (.brk (s1.1, s1.2))))
noncomputable def G_layout_May (x0 : Config) (a1 : Int) (a2 : Int) : Option (Bool) := ((G_layout_of x0).bind fun t_5 => ((G_layout_plan_at t_5 0 a1 t_5.parts).bind fun t_12 => ((G_span_Has t_12 a2).bind fun t_14 => (bif t_14 then some true else ((G_layout_plan_chans t_5 0).bind fun t_28 => ((G_layout_plan_chans t_5 1).bind fun t_37 => ((loopω (G_layout_May.b1 x0 a1 a2 t_5 t_12 t_14 t_28 t_37) (0, false)).bind fun o => o.on (fun s1 => some false) (fun r => some r))))))))
set_option maxRecDepth 100000 in
set_option maxHeartbeats 4000000 in
theorem G_layout_May.calls (x0 : Config) (a1 : Int) (a2 : Int) (sv0 : SV) (w : World) {S : Nat → Prop} (hx0 : (kd_Config).cont S w x0 sv0) (r : Bool) (h : G_layout_May x0 a1 a2 = some r) :
    Calls Try.prog 50 #[.agg ((kd_Config).cells x0 sv0).toArray, .int .i64 a1, .int .i64 a2] w fun e w' => e = .returned (.bool r) ∧ Below w.heap.size w w' := by
  replace hx0 := Kd.lo _ hx0
  unfold G_layout_May at h
  have H0 := h
  clear h
  refine enter Try.func50 rfl [.agg ((kd_Config).cells x0 sv0).toArray, .int .i64 a1, .int .i64 a2] (n := 66) rfl (Nat.le_of_ble_eq_true rfl) (fun a hI => ?_)
  have hF : FOpen Fence.wide := .inl rfl
  have hE := Ep.start w
  refine seq_region (live := [6, 3, 1, 2]) (orc := []) hF hI ⟨[⟨6, [], .v (.bool false)⟩, ⟨3, [], .p 0 0⟩, ⟨1, [], .v (.int .i64 a1)⟩, ⟨2, [], .v (.int .i64 a2)⟩], [], [], [((((kd_Config).cells x0 sv0).map EV.v), 29)], none, none⟩ [] (by kernel_rfl) trivial (fun ns_1 a w_2 hI _ => ?_)
  refine wpIn_seq ?_
  refine wpIn_region_lit ?_
  refine chunkL_ (live := [12, 6, 3, 1, 2]) (orc := []) hF 1 hI ⟨[⟨12, [], .v (.agg ((kd_Config).cells x0 sv0).toArray)⟩, ⟨6, [], .v (.bool false)⟩, ⟨3, [], .p 0 0⟩, ⟨1, [], .v (.int .i64 a1)⟩, ⟨2, [], .v (.int .i64 a2)⟩], [], [], [((((kd_Config).cells x0 sv0).map EV.v), 29)], none, none⟩ [] rfl (by kernel_rfl) trivial (fun ns_3 a w_4 hI => ?_)
  obtain ⟨hE', hmv, hmr⟩ := Ep.rebase (S0 := S) hE hI
  replace hx0 := Kd.keep _ hx0 hmv
  replace hE := hE'
  replace hI := hI.rebase
  clear hE' hmv hmr
  obtain ⟨t_5, hG_6, H0⟩ := bind_some H0
  refine callH_ (S0 := S) hF hE hI (wanted_none rfl) rfl (args := [.agg ((kd_Config).cells x0 sv0).toArray]) rfl (enters Try.func63 (by kernel_rfl) rfl) (fun sv_7 => .agg ((kd_Layout_plan).cells t_5 sv_7).toArray) _ (G_layout_of.calls x0 sv0 w_4 (S := Lo S w w_4 ns_3 []) (contI (S := Lo S w w_4 ns_3 []) (w := w_4) (d := kd_Config) (x := x0) (sv := sv0) ⟨⟨hx0.1.1, hx0.1.2⟩, ⟨hx0.2.1.1, hx0.2.1.2⟩, ⟨hx0.2.2.1.1, hx0.2.2.1.2⟩, ⟨hx0.2.2.2.1.1, hx0.2.2.2.1.2⟩, trivial⟩) _ hG_6) (fun sv_7 => ⟨[⟨13, [], .v (.agg ((kd_Layout_plan).cells t_5 sv_7).toArray)⟩, ⟨12, [], .v (.agg ((kd_Config).cells x0 sv0).toArray)⟩, ⟨6, [], .v (.bool false)⟩, ⟨3, [], .p 0 0⟩, ⟨1, [], .v (.int .i64 a1)⟩, ⟨2, [], .v (.int .i64 a2)⟩], [], [], [((((kd_Config).cells x0 sv0).map EV.v), 29)], none, none⟩) (fun sv_7 => by kernel_rfl) (fun sv_7 a w_9 hput hE' hI' hmv hmr hres hR => ?_)
  replace hx0 := Kd.keep _ hx0 hmv
  replace hE := hE'
  replace hI := hI'
  clear hE' hI' hmv hmr
  have hR_8 := hR
  replace hR_8 := Kd.keep _ hR_8 hres
  clear hres
  refine chunkL_ (live := [7, 6, 3, 1, 2]) (orc := []) hF 2 hI ⟨[⟨7, [], .p 1 0⟩, ⟨6, [], .v (.bool false)⟩, ⟨3, [], .p 0 0⟩, ⟨1, [], .v (.int .i64 a1)⟩, ⟨2, [], .v (.int .i64 a2)⟩], [], [], [((((kd_Config).cells x0 sv0).map EV.v), 29), ((((kd_Layout_plan).cells t_5 sv_7).map EV.v), 105)], none, none⟩ [] rfl (by kernel_rfl) trivial (fun ns_10 a w_11 hI => ?_)
  refine wpListIn_nil ?_
  refine then_normal ?_
  refine wpIn_seq ?_
  obtain ⟨t_12, hG_13, H0⟩ := bind_some H0
  obtain ⟨t_14, hG_15, H0⟩ := bind_some H0
  refine seq_region (live := [20, 7, 6, 3, 1, 2]) (orc := [[.agg ((kd_Span).cells t_12 (svL [])).toArray], [.bool t_14]]) hF hI ⟨[⟨20, [], .v (.bool t_14)⟩, ⟨7, [], .p 1 0⟩, ⟨6, [], .v (.bool false)⟩, ⟨3, [], .p 0 0⟩, ⟨1, [], .v (.int .i64 a1)⟩, ⟨2, [], .v (.int .i64 a2)⟩], [], [], [((((kd_Config).cells x0 sv0).map EV.v), 29), ((((kd_Layout_plan).cells t_5 sv_7).map EV.v), 105)], none, none⟩ [.call true 65 [.agg ((kd_Layout_plan).cells t_5 sv_7).toArray, .int .i64 0, .int .i64 a1, .int .i64 t_5.parts] (.agg ((kd_Span).cells t_12 (svL [])).toArray), .call true 64 [.agg ((kd_Span).cells t_12 (svL [])).toArray, .int .i64 a2] (.bool t_14)] (by kernel_rfl) ⟨ob_call (enters Try.func65 (by kernel_rfl) rfl) (fun hg wz hk => G_layout_plan_at.calls t_5 0 a1 t_5.parts sv_7 wz (S := fun _ => True) (Kd.any _ (Kd.keep kd_Layout_plan (contI (S := Lo S w w_9 ns_3 []) (w := w_9) (d := kd_Layout_plan) (x := t_5) (sv := sv_7) ⟨⟨hR_8.1.1, hR_8.1.2⟩, trivial⟩) (Lo.on hk))) _ hG_13), ob_call (enters Try.func64 (by kernel_rfl) rfl) (fun hg wz hk => G_span_Has.calls t_12 a2 (svL []) wz (S := fun _ => True) (Kd.any _ (Kd.keep kd_Span (contI (S := Lo S w w_9 ns_3 []) (w := w_9) (d := kd_Span) (x := t_12) (sv := (svL [])) trivial) (Lo.on hk))) _ hG_15), trivial⟩ (fun ns_16 a w_17 hI _ => ?_)
  refine cond_ hI (t_14) rfl (fun hc_18 => ?_) (fun hc_18 => ?_)
  · replace H0 := bif_t hc_18 H0
    refine seq_region (live := [6]) (orc := []) hF hI ⟨[⟨6, [], .v (.bool true)⟩], [], [], [((((kd_Config).cells x0 sv0).map EV.v), 29), ((((kd_Layout_plan).cells t_5 sv_7).map EV.v), 105)], none, none⟩ [] (by kernel_rfl) trivial (fun ns_19 a w_20 hI _ => ?_)
    refine wpIn_ret ?_
    refine then_ret ?_
    obtain rfl := Option.some.inj H0
    exact ret1 hI rfl rfl ⟨rfl, hE.below hI⟩
  · replace H0 := bif_f hc_18 H0
    refine wpIn_skip ?_
    refine then_normal ?_
    refine wpIn_seq ?_
    replace hI := hI.fin (live := [20, 7, 6, 3, 1, 2]) (σ2 := ⟨[⟨20, [], .v (.bool t_14)⟩, ⟨7, [], .p 1 0⟩, ⟨6, [], .v (.bool false)⟩, ⟨3, [], .p 0 0⟩, ⟨1, [], .v (.int .i64 a1)⟩, ⟨2, [], .v (.int .i64 a2)⟩], [], [], [((((kd_Config).cells x0 sv0).map EV.v), 29), ((((kd_Layout_plan).cells t_5 sv_7).map EV.v), 105)], none, none⟩) (by kernel_rfl)
    obtain ⟨hE', hmv⟩ := Ep.addNil (S0 := S) hE
    have hmr : ∀ b : Nat, some b ∈ ([] : List (Option Nat)) → w_17.heap[b]? = w_17.heap[b]? := fun _ _ => rfl
    replace hx0 := Kd.keep _ hx0 hmv
    replace hR_8 := Kd.keep _ hR_8 hmv
    replace hE := hE'
    clear hE' hmv hmr
    obtain ⟨hE', hmv⟩ := Ep.addNil (S0 := S) hE
    have hmr : ∀ b : Nat, some b ∈ ([none] : List (Option Nat)) → w_17.heap[b]? = w_17.heap[b]? := fun _ _ => rfl
    replace hx0 := Kd.keep _ hx0 hmv
    replace hR_8 := Kd.keep _ hR_8 hmv
    replace hE := hE'
    clear hE' hmv hmr
    refine drawnS_ hI (by kernel_rfl) [.q 21 (.v (.agg ((kd_Layout_plan).cells t_5 sv_7).toArray)) [], .no, .q 23 (.v (.agg ((kd_Layout_plan).cells t_5 sv_7).toArray)) [], .no, .a 8 105 [.int .i64 0, .slice none 0 0, .int .i64 0] none, .a 9 105 [.int .i64 0, .slice none 0 0, .int .i64 0] none, .no, .no] (by kernel_rfl) (fun fuel listed w_21 hJ hsz hu => ?_)
    refine stageB_ hJ hF hsz hu [.q [] [], .no, .q [] [], .no, .a none, .a none, .no, .no] (by kernel_rfl) (by kernel_rfl) (by kernel_rfl) (by kernel_rfl) 1 rfl (by kernel_rfl) (by kernel_rfl) [0] rfl (by kernel_rfl) (by kernel_rfl) trivial [0] (by kernel_rfl) [.t (some 21) (some (.v (.agg ((kd_Layout_plan).cells t_5 sv_7).toArray))), .no, .q 23 (.v (.agg ((kd_Layout_plan).cells t_5 sv_7).toArray)) [], .no, .a 8 105 [.int .i64 0, .slice none 0 0, .int .i64 0] none, .a 9 105 [.int .i64 0, .slice none 0 0, .int .i64 0] none, .no, .no] (by kernel_rfl) (fun fuel listed a w_24 hJ hI hW h1 hnl hsz hu hbd => ?_)
    obtain ⟨th_25, hJ, hNP, hPD, hAL⟩ := hJ.pend [4, 5] (by decide)
    replace hJ := hJ.cast [.t (some 21) (some (.v (.agg ((kd_Layout_plan).cells t_5 sv_7).toArray))), .no, .q 23 (.v (.agg ((kd_Layout_plan).cells t_5 sv_7).toArray)) [], .no, .a 8 105 [.int .i64 0, .slice none 0 0, .int .i64 0] (th_25 4), .a 9 105 [.int .i64 0, .slice none 0 0, .int .i64 0] (th_25 5), .no, .no] rfl
    replace hAL : AL [.t (some 21) (some (.v (.agg ((kd_Layout_plan).cells t_5 sv_7).toArray))), .no, .q 23 (.v (.agg ((kd_Layout_plan).cells t_5 sv_7).toArray)) [], .no, .a 8 105 [.int .i64 0, .slice none 0 0, .int .i64 0] (th_25 4), .a 9 105 [.int .i64 0, .slice none 0 0, .int .i64 0] (th_25 5), .no, .no] _ := hAL
    obtain ⟨hE', hmv, hmr⟩ := Ep.rebaseA (S0 := S) (l1 := []) (ps := [none, none]) (ps' := [(th_25 4), (th_25 5)]) (l2 := []) hE hI hNP
    replace hx0 := Kd.keep _ hx0 hmv
    replace hR_8 := Kd.keep _ hR_8 hmv
    replace hE := hE'
    replace hI := hI.rebase
    clear hE' hmv hmr hNP
    obtain ⟨hp_26, hp_27, _⟩ := hPD
    obtain ⟨t_28, hG_29, H0⟩ := bind_some H0
    refine callH_ (S0 := S) hF hE hI hW rfl (args := [.agg ((kd_Layout_plan).cells t_5 sv_7).toArray, .int .i64 0]) rfl (enters Try.func66 (by kernel_rfl) rfl) (fun sv_30 => .agg ((kd_Layout_plan).cells t_28 sv_30).toArray) _ (G_layout_plan_chans.calls t_5 0 sv_7 w_24 (S := Lo S w w_24 ns_16 [(th_25 4), (th_25 5)]) (contI (S := Lo S w w_24 ns_16 [(th_25 4), (th_25 5)]) (w := w_24) (d := kd_Layout_plan) (x := t_5) (sv := sv_7) ⟨⟨hR_8.1.1, hR_8.1.2⟩, trivial⟩) _ hG_29) (fun sv_30 => ⟨[⟨22, [], .v (.agg ((kd_Layout_plan).cells t_28 sv_30).toArray)⟩, ⟨21, [], .v (.agg ((kd_Layout_plan).cells t_5 sv_7).toArray)⟩, ⟨20, [], .v (.bool t_14)⟩, ⟨7, [], .p 1 0⟩, ⟨6, [], .v (.bool false)⟩, ⟨3, [], .p 0 0⟩, ⟨1, [], .v (.int .i64 a1)⟩, ⟨2, [], .v (.int .i64 a2)⟩], [], [], [((((kd_Config).cells x0 sv0).map EV.v), 29), ((((kd_Layout_plan).cells t_5 sv_7).map EV.v), 105)], none, none⟩) (fun sv_30 => by kernel_rfl) (fun sv_30 a w_32 hput hE' hI' hmv hmr hres hR => ?_)
    replace hx0 := Kd.keep _ hx0 hmv
    replace hR_8 := Kd.keep _ hR_8 hmv
    replace hp_26 := PdOk.keep hp_26 (fun b hb => hmr b (by rw [← hb]; simp) (by simp))
    replace hp_27 := PdOk.keep hp_27 (fun b hb => hmr b (by rw [← hb]; simp) (by simp))
    replace hE := hE'
    replace hI := hI'
    clear hE' hI' hmv hmr
    have hR_31 := hR
    replace hR_31 := Kd.keep _ hR_31 hres
    clear hres
    refine next_ hJ h1 hnl hsz hu (by kernel_rfl) (by kernel_rfl) hput hI (live := [20, 7, 6, 3, 1, 2]) ⟨[⟨20, [], .v (.bool t_14)⟩, ⟨7, [], .p 1 0⟩, ⟨6, [], .v (.bool false)⟩, ⟨3, [], .p 0 0⟩, ⟨1, [], .v (.int .i64 a1)⟩, ⟨2, [], .v (.int .i64 a2)⟩], [], [], [((((kd_Config).cells x0 sv0).map EV.v), 29), ((((kd_Layout_plan).cells t_5 sv_7).map EV.v), 105)], none, none⟩ (by kernel_rfl) (some (.v (.agg ((kd_Layout_plan).cells t_28 sv_30).toArray))) (by kernel_rfl) [] [.t (some 21) (some (.v (.agg ((kd_Layout_plan).cells t_5 sv_7).toArray))), .t (some 22) (some (.v (.agg ((kd_Layout_plan).cells t_28 sv_30).toArray))), .q 23 (.v (.agg ((kd_Layout_plan).cells t_5 sv_7).toArray)) [], .no, .a 8 105 [.int .i64 0, .slice none 0 0, .int .i64 0] (th_25 4), .a 9 105 [.int .i64 0, .slice none 0 0, .int .i64 0] (th_25 5), .no, .no] (by kernel_rfl) (by kernel_rfl) (by kernel_rfl) (And.intro hp_26 (And.intro hp_27 True.intro)) hAL (fun hJ hsz hu => ?_)
    refine stageB_ hJ hF hsz hu [.t (some (.v (.agg ((kd_Layout_plan).cells t_5 sv_7).toArray))), .t (some (.v (.agg ((kd_Layout_plan).cells t_28 sv_30).toArray))), .q [] [], .no, .a (th_25 4), .a (th_25 5), .no, .no] (by kernel_rfl) (by kernel_rfl) (by kernel_rfl) (by kernel_rfl) 3 rfl (by kernel_rfl) (by kernel_rfl) [2] rfl (by kernel_rfl) (by kernel_rfl) trivial [2] (by kernel_rfl) [.t (some 21) (some (.v (.agg ((kd_Layout_plan).cells t_5 sv_7).toArray))), .t (some 22) (some (.v (.agg ((kd_Layout_plan).cells t_28 sv_30).toArray))), .t (some 23) (some (.v (.agg ((kd_Layout_plan).cells t_5 sv_7).toArray))), .no, .a 8 105 [.int .i64 0, .slice none 0 0, .int .i64 0] (th_25 4), .a 9 105 [.int .i64 0, .slice none 0 0, .int .i64 0] (th_25 5), .no, .no] (by kernel_rfl) (fun fuel listed a w_33 hJ hI hW h1 hnl hsz hu hbd => ?_)
    obtain ⟨th_34, hJ, hNP, hPD, hAL⟩ := hJ.pend [4, 5] (by decide)
    replace hJ := hJ.cast [.t (some 21) (some (.v (.agg ((kd_Layout_plan).cells t_5 sv_7).toArray))), .t (some 22) (some (.v (.agg ((kd_Layout_plan).cells t_28 sv_30).toArray))), .t (some 23) (some (.v (.agg ((kd_Layout_plan).cells t_5 sv_7).toArray))), .no, .a 8 105 [.int .i64 0, .slice none 0 0, .int .i64 0] (th_34 4), .a 9 105 [.int .i64 0, .slice none 0 0, .int .i64 0] (th_34 5), .no, .no] rfl
    replace hAL : AL [.t (some 21) (some (.v (.agg ((kd_Layout_plan).cells t_5 sv_7).toArray))), .t (some 22) (some (.v (.agg ((kd_Layout_plan).cells t_28 sv_30).toArray))), .t (some 23) (some (.v (.agg ((kd_Layout_plan).cells t_5 sv_7).toArray))), .no, .a 8 105 [.int .i64 0, .slice none 0 0, .int .i64 0] (th_34 4), .a 9 105 [.int .i64 0, .slice none 0 0, .int .i64 0] (th_34 5), .no, .no] _ := hAL
    obtain ⟨hE', hmv, hmr⟩ := Ep.rebaseA (S0 := S) (l1 := []) (ps := [(th_25 4), (th_25 5)]) (ps' := [(th_34 4), (th_34 5)]) (l2 := []) hE hI hNP
    replace hx0 := Kd.keep _ hx0 hmv
    replace hR_8 := Kd.keep _ hR_8 hmv
    replace hR_31 := Kd.keep _ hR_31 hmv
    replace hE := hE'
    replace hI := hI.rebase
    clear hE' hmv hmr hNP
    obtain ⟨hp_35, hp_36, _⟩ := hPD
    obtain ⟨t_37, hG_38, H0⟩ := bind_some H0
    refine callH_ (S0 := S) hF hE hI hW rfl (args := [.agg ((kd_Layout_plan).cells t_5 sv_7).toArray, .int .i64 1]) rfl (enters Try.func66 (by kernel_rfl) rfl) (fun sv_39 => .agg ((kd_Layout_plan).cells t_37 sv_39).toArray) _ (G_layout_plan_chans.calls t_5 1 sv_7 w_33 (S := Lo S w w_33 ns_16 [(th_34 4), (th_34 5)]) (contI (S := Lo S w w_33 ns_16 [(th_34 4), (th_34 5)]) (w := w_33) (d := kd_Layout_plan) (x := t_5) (sv := sv_7) ⟨⟨hR_8.1.1, hR_8.1.2⟩, trivial⟩) _ hG_38) (fun sv_39 => ⟨[⟨24, [], .v (.agg ((kd_Layout_plan).cells t_37 sv_39).toArray)⟩, ⟨23, [], .v (.agg ((kd_Layout_plan).cells t_5 sv_7).toArray)⟩, ⟨20, [], .v (.bool t_14)⟩, ⟨7, [], .p 1 0⟩, ⟨6, [], .v (.bool false)⟩, ⟨3, [], .p 0 0⟩, ⟨1, [], .v (.int .i64 a1)⟩, ⟨2, [], .v (.int .i64 a2)⟩], [], [], [((((kd_Config).cells x0 sv0).map EV.v), 29), ((((kd_Layout_plan).cells t_5 sv_7).map EV.v), 105)], none, none⟩) (fun sv_39 => by kernel_rfl) (fun sv_39 a w_41 hput hE' hI' hmv hmr hres hR => ?_)
    replace hx0 := Kd.keep _ hx0 hmv
    replace hR_8 := Kd.keep _ hR_8 hmv
    replace hR_31 := Kd.keep _ hR_31 hmv
    replace hp_35 := PdOk.keep hp_35 (fun b hb => hmr b (by rw [← hb]; simp) (by simp))
    replace hp_36 := PdOk.keep hp_36 (fun b hb => hmr b (by rw [← hb]; simp) (by simp))
    replace hE := hE'
    replace hI := hI'
    clear hE' hI' hmv hmr
    have hR_40 := hR
    replace hR_40 := Kd.keep _ hR_40 hres
    clear hres
    refine next_ hJ h1 hnl hsz hu (by kernel_rfl) (by kernel_rfl) hput hI (live := [20, 7, 6, 3, 1, 2]) ⟨[⟨20, [], .v (.bool t_14)⟩, ⟨7, [], .p 1 0⟩, ⟨6, [], .v (.bool false)⟩, ⟨3, [], .p 0 0⟩, ⟨1, [], .v (.int .i64 a1)⟩, ⟨2, [], .v (.int .i64 a2)⟩], [], [], [((((kd_Config).cells x0 sv0).map EV.v), 29), ((((kd_Layout_plan).cells t_5 sv_7).map EV.v), 105)], none, none⟩ (by kernel_rfl) (some (.v (.agg ((kd_Layout_plan).cells t_37 sv_39).toArray))) (by kernel_rfl) [] [.t (some 21) (some (.v (.agg ((kd_Layout_plan).cells t_5 sv_7).toArray))), .t (some 22) (some (.v (.agg ((kd_Layout_plan).cells t_28 sv_30).toArray))), .t (some 23) (some (.v (.agg ((kd_Layout_plan).cells t_5 sv_7).toArray))), .t (some 24) (some (.v (.agg ((kd_Layout_plan).cells t_37 sv_39).toArray))), .a 8 105 [.int .i64 0, .slice none 0 0, .int .i64 0] (th_34 4), .a 9 105 [.int .i64 0, .slice none 0 0, .int .i64 0] (th_34 5), .no, .no] (by kernel_rfl) (by kernel_rfl) (by kernel_rfl) (And.intro hp_35 (And.intro hp_36 True.intro)) hAL (fun hJ hsz hu => ?_)
    refine stageB_ hJ hF hsz hu [.t (some (.v (.agg ((kd_Layout_plan).cells t_5 sv_7).toArray))), .t (some (.v (.agg ((kd_Layout_plan).cells t_28 sv_30).toArray))), .t (some (.v (.agg ((kd_Layout_plan).cells t_5 sv_7).toArray))), .t (some (.v (.agg ((kd_Layout_plan).cells t_37 sv_39).toArray))), .a (th_34 4), .a (th_34 5), .no, .no] (by kernel_rfl) (by kernel_rfl) (by kernel_rfl) (by kernel_rfl) 6 rfl (by kernel_rfl) (by kernel_rfl) [1] rfl (by kernel_rfl) (by kernel_rfl) trivial [] (by kernel_rfl) [.t (some 21) (some (.v (.agg ((kd_Layout_plan).cells t_5 sv_7).toArray))), .t (some 22) (some (.v (.agg ((kd_Layout_plan).cells t_28 sv_30).toArray))), .t (some 23) (some (.v (.agg ((kd_Layout_plan).cells t_5 sv_7).toArray))), .t (some 24) (some (.v (.agg ((kd_Layout_plan).cells t_37 sv_39).toArray))), .a 8 105 [.int .i64 0, .slice none 0 0, .int .i64 0] (th_34 4), .a 9 105 [.int .i64 0, .slice none 0 0, .int .i64 0] (th_34 5), .no, .no] (by kernel_rfl) (fun fuel listed a w_42 hJ hI hW h1 hnl hsz hu hbd => ?_)
    obtain ⟨th_43, hJ, hNP, hPD, hAL⟩ := hJ.pend [4, 5] (by decide)
    replace hJ := hJ.cast [.t (some 21) (some (.v (.agg ((kd_Layout_plan).cells t_5 sv_7).toArray))), .t (some 22) (some (.v (.agg ((kd_Layout_plan).cells t_28 sv_30).toArray))), .t (some 23) (some (.v (.agg ((kd_Layout_plan).cells t_5 sv_7).toArray))), .t (some 24) (some (.v (.agg ((kd_Layout_plan).cells t_37 sv_39).toArray))), .a 8 105 [.int .i64 0, .slice none 0 0, .int .i64 0] (th_43 4), .a 9 105 [.int .i64 0, .slice none 0 0, .int .i64 0] (th_43 5), .no, .no] rfl
    replace hAL : AL [.t (some 21) (some (.v (.agg ((kd_Layout_plan).cells t_5 sv_7).toArray))), .t (some 22) (some (.v (.agg ((kd_Layout_plan).cells t_28 sv_30).toArray))), .t (some 23) (some (.v (.agg ((kd_Layout_plan).cells t_5 sv_7).toArray))), .t (some 24) (some (.v (.agg ((kd_Layout_plan).cells t_37 sv_39).toArray))), .a 8 105 [.int .i64 0, .slice none 0 0, .int .i64 0] (th_43 4), .a 9 105 [.int .i64 0, .slice none 0 0, .int .i64 0] (th_43 5), .no, .no] _ := hAL
    obtain ⟨hE', hmv, hmr⟩ := Ep.rebaseA (S0 := S) (l1 := []) (ps := [(th_34 4), (th_34 5)]) (ps' := [(th_43 4), (th_43 5)]) (l2 := []) hE hI hNP
    replace hx0 := Kd.keep _ hx0 hmv
    replace hR_8 := Kd.keep _ hR_8 hmv
    replace hR_31 := Kd.keep _ hR_31 hmv
    replace hR_40 := Kd.keep _ hR_40 hmv
    replace hE := hE'
    replace hI := hI.rebase
    clear hE' hmv hmr hNP
    obtain ⟨hp_44, hp_45, _⟩ := hPD
    obtain ⟨b_46, hb_47⟩ := hAL 4 _ _ _ _ rfl (hbd 4 (by kernel_rfl))
    obtain ⟨hE', hI', hJ', hmv, hAL'⟩ := adopt_ (S0 := S) (l1 := []) (l2 := [(th_43 5)]) (env := [⟨22, [], .v (.agg ((kd_Layout_plan).cells t_28 sv_30).toArray)⟩]) hE hI hJ (i := 4) rfl hb_47 (hbd 4 (by kernel_rfl)) hAL rfl (kb := 2) rfl (by kernel_rfl) (by kernel_rfl)
    have hmr : ∀ b : Nat, some b ∈ ([(th_43 5)] : List (Option Nat)) → w_42.heap[b]? = w_42.heap[b]? := fun _ _ => rfl
    replace hx0 := Kd.keep _ hx0 hmv
    replace hR_8 := Kd.keep _ hR_8 hmv
    replace hR_31 := Kd.keep _ hR_31 hmv
    replace hR_40 := Kd.keep _ hR_40 hmv
    replace hp_45 := PdOk.keep hp_45 (fun b hb => hmr b (by rw [← hb]; simp))
    replace hE := hE'
    replace hI : St w_42 (ns_16 ++ [b_46]) 66 ⟨[⟨8, [], .p 2 0⟩, ⟨22, [], .v (.agg ((kd_Layout_plan).cells t_28 sv_30).toArray)⟩, ⟨20, [], .v (.bool t_14)⟩, ⟨7, [], .p 1 0⟩, ⟨6, [], .v (.bool false)⟩, ⟨3, [], .p 0 0⟩, ⟨1, [], .v (.int .i64 a1)⟩, ⟨2, [], .v (.int .i64 a2)⟩], [], [], [((((kd_Config).cells x0 sv0).map EV.v), 29), ((((kd_Layout_plan).cells t_5 sv_7).map EV.v), 105), ([.v (.int .i64 0), .v (.slice none 0 0), .v (.int .i64 0)], 105)], none, none⟩ (ns_16 ++ [b_46]) a w_42 := hI'
    replace hJ := hJ'.cast [.t (some 21) (some (.v (.agg ((kd_Layout_plan).cells t_5 sv_7).toArray))), .t (some 22) (some (.v (.agg ((kd_Layout_plan).cells t_28 sv_30).toArray))), .t (some 23) (some (.v (.agg ((kd_Layout_plan).cells t_5 sv_7).toArray))), .t (some 24) (some (.v (.agg ((kd_Layout_plan).cells t_37 sv_39).toArray))), .t (some 8) (some (.p 2 0)), .a 9 105 [.int .i64 0, .slice none 0 0, .int .i64 0] (th_43 5), .no, .no] rfl
    replace hAL : AL [.t (some 21) (some (.v (.agg ((kd_Layout_plan).cells t_5 sv_7).toArray))), .t (some 22) (some (.v (.agg ((kd_Layout_plan).cells t_28 sv_30).toArray))), .t (some 23) (some (.v (.agg ((kd_Layout_plan).cells t_5 sv_7).toArray))), .t (some 24) (some (.v (.agg ((kd_Layout_plan).cells t_37 sv_39).toArray))), .t (some 8) (some (.p 2 0)), .a 9 105 [.int .i64 0, .slice none 0 0, .int .i64 0] (th_43 5), .no, .no] _ := hAL'
    clear hE' hI' hJ' hmv hmr hAL'
    obtain ⟨b_48, hb_49⟩ := hAL 5 _ _ _ _ rfl (hbd 5 (by kernel_rfl))
    obtain ⟨hE', hI', hJ', hmv, hAL'⟩ := adopt_ (S0 := S) (l1 := []) (l2 := []) (env := [⟨8, [], .p 2 0⟩, ⟨22, [], .v (.agg ((kd_Layout_plan).cells t_28 sv_30).toArray)⟩]) hE hI hJ (i := 5) rfl hb_49 (hbd 5 (by kernel_rfl)) hAL rfl (kb := 3) rfl (by kernel_rfl) (by kernel_rfl)
    have hmr : ∀ b : Nat, some b ∈ ([] : List (Option Nat)) → w_42.heap[b]? = w_42.heap[b]? := fun _ _ => rfl
    replace hx0 := Kd.keep _ hx0 hmv
    replace hR_8 := Kd.keep _ hR_8 hmv
    replace hR_31 := Kd.keep _ hR_31 hmv
    replace hR_40 := Kd.keep _ hR_40 hmv
    replace hE := hE'
    replace hI : St w_42 ((ns_16 ++ [b_46]) ++ [b_48]) 66 ⟨[⟨9, [], .p 3 0⟩, ⟨8, [], .p 2 0⟩, ⟨22, [], .v (.agg ((kd_Layout_plan).cells t_28 sv_30).toArray)⟩, ⟨20, [], .v (.bool t_14)⟩, ⟨7, [], .p 1 0⟩, ⟨6, [], .v (.bool false)⟩, ⟨3, [], .p 0 0⟩, ⟨1, [], .v (.int .i64 a1)⟩, ⟨2, [], .v (.int .i64 a2)⟩], [], [], [((((kd_Config).cells x0 sv0).map EV.v), 29), ((((kd_Layout_plan).cells t_5 sv_7).map EV.v), 105), ([.v (.int .i64 0), .v (.slice none 0 0), .v (.int .i64 0)], 105), ([.v (.int .i64 0), .v (.slice none 0 0), .v (.int .i64 0)], 105)], none, none⟩ ((ns_16 ++ [b_46]) ++ [b_48]) a w_42 := hI'
    replace hJ := hJ'.cast [.t (some 21) (some (.v (.agg ((kd_Layout_plan).cells t_5 sv_7).toArray))), .t (some 22) (some (.v (.agg ((kd_Layout_plan).cells t_28 sv_30).toArray))), .t (some 23) (some (.v (.agg ((kd_Layout_plan).cells t_5 sv_7).toArray))), .t (some 24) (some (.v (.agg ((kd_Layout_plan).cells t_37 sv_39).toArray))), .t (some 8) (some (.p 2 0)), .t (some 9) (some (.p 3 0)), .no, .no] rfl
    replace hAL : AL [.t (some 21) (some (.v (.agg ((kd_Layout_plan).cells t_5 sv_7).toArray))), .t (some 22) (some (.v (.agg ((kd_Layout_plan).cells t_28 sv_30).toArray))), .t (some 23) (some (.v (.agg ((kd_Layout_plan).cells t_5 sv_7).toArray))), .t (some 24) (some (.v (.agg ((kd_Layout_plan).cells t_37 sv_39).toArray))), .t (some 8) (some (.p 2 0)), .t (some 9) (some (.p 3 0)), .no, .no] _ := hAL'
    clear hE' hI' hJ' hmv hmr hAL'
    refine store_ hF hI hW rfl rfl (k := 2) (cs := (((kd_Layout_plan).cells t_28 sv_30).map EV.v)) (T := 105) (by kernel_rfl) (by kernel_rfl) rfl (fun a w_50 hput hI => ?_)
    refine next_ hJ h1 hnl hsz hu (by kernel_rfl) (by kernel_rfl) hput hI (live := [20, 7, 6, 3, 1, 2]) ⟨[⟨20, [], .v (.bool t_14)⟩, ⟨7, [], .p 1 0⟩, ⟨6, [], .v (.bool false)⟩, ⟨3, [], .p 0 0⟩, ⟨1, [], .v (.int .i64 a1)⟩, ⟨2, [], .v (.int .i64 a2)⟩], [], [], [((((kd_Config).cells x0 sv0).map EV.v), 29), ((((kd_Layout_plan).cells t_5 sv_7).map EV.v), 105), ((((kd_Layout_plan).cells t_28 sv_30).map EV.v), 105), ([.v (.int .i64 0), .v (.slice none 0 0), .v (.int .i64 0)], 105)], none, none⟩ (by kernel_rfl) none (by kernel_rfl) [] [.t (some 21) (some (.v (.agg ((kd_Layout_plan).cells t_5 sv_7).toArray))), .t (some 22) (some (.v (.agg ((kd_Layout_plan).cells t_28 sv_30).toArray))), .t (some 23) (some (.v (.agg ((kd_Layout_plan).cells t_5 sv_7).toArray))), .t (some 24) (some (.v (.agg ((kd_Layout_plan).cells t_37 sv_39).toArray))), .t (some 8) (some (.p 2 0)), .t (some 9) (some (.p 3 0)), .t none none, .no] (by kernel_rfl) (by kernel_rfl) (by kernel_rfl) True.intro (AL.none (by kernel_rfl)) (fun hJ hsz hu => ?_)
    refine stage_ hJ hF hsz hu [.t (some (.v (.agg ((kd_Layout_plan).cells t_5 sv_7).toArray))), .t (some (.v (.agg ((kd_Layout_plan).cells t_28 sv_30).toArray))), .t (some (.v (.agg ((kd_Layout_plan).cells t_5 sv_7).toArray))), .t (some (.v (.agg ((kd_Layout_plan).cells t_37 sv_39).toArray))), .t (some (.p 2 0)), .t (some (.p 3 0)), .t none, .no] (by kernel_rfl) (by kernel_rfl) (by kernel_rfl) (by kernel_rfl) 7 rfl (by kernel_rfl) (by kernel_rfl) [5, 3] rfl (by kernel_rfl) (by kernel_rfl) trivial [] (by kernel_rfl) [.t (some 21) (some (.v (.agg ((kd_Layout_plan).cells t_5 sv_7).toArray))), .t (some 22) (some (.v (.agg ((kd_Layout_plan).cells t_28 sv_30).toArray))), .t (some 23) (some (.v (.agg ((kd_Layout_plan).cells t_5 sv_7).toArray))), .t (some 24) (some (.v (.agg ((kd_Layout_plan).cells t_37 sv_39).toArray))), .t (some 8) (some (.p 2 0)), .t (some 9) (some (.p 3 0)), .t none none, .no] (by kernel_rfl) (fun fuel listed a w_51 hJ hI hW h1 hnl hsz hu => ?_)
    refine store_ hF hI hW rfl rfl (k := 3) (cs := (((kd_Layout_plan).cells t_37 sv_39).map EV.v)) (T := 105) (by kernel_rfl) (by kernel_rfl) rfl (fun a w_52 hput hI => ?_)
    refine next_ hJ h1 hnl hsz hu (by kernel_rfl) (by kernel_rfl) hput hI (live := [20, 7, 6, 3, 1, 2]) ⟨[⟨20, [], .v (.bool t_14)⟩, ⟨7, [], .p 1 0⟩, ⟨6, [], .v (.bool false)⟩, ⟨3, [], .p 0 0⟩, ⟨1, [], .v (.int .i64 a1)⟩, ⟨2, [], .v (.int .i64 a2)⟩], [], [], [((((kd_Config).cells x0 sv0).map EV.v), 29), ((((kd_Layout_plan).cells t_5 sv_7).map EV.v), 105), ((((kd_Layout_plan).cells t_28 sv_30).map EV.v), 105), ((((kd_Layout_plan).cells t_37 sv_39).map EV.v), 105)], none, none⟩ (by kernel_rfl) none (by kernel_rfl) [] [.t (some 21) (some (.v (.agg ((kd_Layout_plan).cells t_5 sv_7).toArray))), .t (some 22) (some (.v (.agg ((kd_Layout_plan).cells t_28 sv_30).toArray))), .t (some 23) (some (.v (.agg ((kd_Layout_plan).cells t_5 sv_7).toArray))), .t (some 24) (some (.v (.agg ((kd_Layout_plan).cells t_37 sv_39).toArray))), .t (some 8) (some (.p 2 0)), .t (some 9) (some (.p 3 0)), .t none none, .t none none] (by kernel_rfl) (by kernel_rfl) (by kernel_rfl) True.intro (AL.none (by kernel_rfl)) (fun hJ hsz hu => ?_)
    refine end_ hJ hF hsz hu [.t (some (.v (.agg ((kd_Layout_plan).cells t_5 sv_7).toArray))), .t (some (.v (.agg ((kd_Layout_plan).cells t_28 sv_30).toArray))), .t (some (.v (.agg ((kd_Layout_plan).cells t_5 sv_7).toArray))), .t (some (.v (.agg ((kd_Layout_plan).cells t_37 sv_39).toArray))), .t (some (.p 2 0)), .t (some (.p 3 0)), .t none, .t none] (by kernel_rfl) (by kernel_rfl) (by kernel_rfl) (by kernel_rfl) (by kernel_rfl) (by kernel_rfl) (live := [8, 9, 6, 3, 1, 2]) ⟨[⟨8, [], .p 2 0⟩, ⟨9, [], .p 3 0⟩, ⟨6, [], .v (.bool false)⟩, ⟨3, [], .p 0 0⟩, ⟨1, [], .v (.int .i64 a1)⟩, ⟨2, [], .v (.int .i64 a2)⟩], [], [], [((((kd_Config).cells x0 sv0).map EV.v), 29), ((((kd_Layout_plan).cells t_5 sv_7).map EV.v), 105), ((((kd_Layout_plan).cells t_28 sv_30).map EV.v), 105), ((((kd_Layout_plan).cells t_37 sv_39).map EV.v), 105)], none, none⟩ (by kernel_rfl) trivial (fun a w_53 hI => ?_)
    refine then_normal ?_
    refine wpIn_seq ?_
    refine seq_region (live := [28, 27, 26, 9, 6, 3, 1, 2]) (orc := []) hF hI ⟨[⟨28, [], .v (.int .i64 0)⟩, ⟨27, [], .v (.int .i64 (t_28.l.length : Int))⟩, ⟨26, [], .v (.slice ((sv_30 0).1) t_28.l.length ((sv_30 0).2))⟩, ⟨9, [], .p 3 0⟩, ⟨6, [], .v (.bool false)⟩, ⟨3, [], .p 0 0⟩, ⟨1, [], .v (.int .i64 a1)⟩, ⟨2, [], .v (.int .i64 a2)⟩], [], [], [((((kd_Config).cells x0 sv0).map EV.v), 29), ((((kd_Layout_plan).cells t_5 sv_7).map EV.v), 105), ((((kd_Layout_plan).cells t_28 sv_30).map EV.v), 105), ((((kd_Layout_plan).cells t_37 sv_39).map EV.v), 105)], none, none⟩ [] (by kernel_rfl) trivial (fun ns_54 a w_55 hI _ => ?_)
    obtain ⟨o_90, hL_91, H0⟩ := bind_some H0
    refine block_loop (fun (s1 : Int × Bool) a w_96 => ∃ ns, St w_42 ((ns_16 ++ [b_46]) ++ [b_48]) 66 ⟨[⟨28, [], .v (.int .i64 s1.1)⟩, ⟨27, [], .v (.int .i64 (t_28.l.length : Int))⟩, ⟨26, [], .v (.slice ((sv_30 0).1) t_28.l.length ((sv_30 0).2))⟩, ⟨9, [], .p 3 0⟩, ⟨6, [], .v (.bool s1.2)⟩, ⟨3, [], .p 0 0⟩, ⟨1, [], .v (.int .i64 a1)⟩, ⟨2, [], .v (.int .i64 a2)⟩], [], [], [((((kd_Config).cells x0 sv0).map EV.v), 29), ((((kd_Layout_plan).cells t_5 sv_7).map EV.v), 105), ((((kd_Layout_plan).cells t_28 sv_30).map EV.v), 105), ((((kd_Layout_plan).cells t_37 sv_39).map EV.v), 105)], none, none⟩ ns a w_96) (0, false) hL_91 ⟨_, hI.pick [28, 27, 26, 9, 6, 3, 1, 2] 4 ⟨[⟨28, [], .v (.int .i64 0)⟩, ⟨27, [], .v (.int .i64 (t_28.l.length : Int))⟩, ⟨26, [], .v (.slice ((sv_30 0).1) t_28.l.length ((sv_30 0).2))⟩, ⟨9, [], .p 3 0⟩, ⟨6, [], .v (.bool false)⟩, ⟨3, [], .p 0 0⟩, ⟨1, [], .v (.int .i64 a1)⟩, ⟨2, [], .v (.int .i64 a2)⟩], [], [], [((((kd_Config).cells x0 sv0).map EV.v), 29), ((((kd_Layout_plan).cells t_5 sv_7).map EV.v), 105), ((((kd_Layout_plan).cells t_28 sv_30).map EV.v), 105), ((((kd_Layout_plan).cells t_37 sv_39).map EV.v), 105)], none, none⟩ (by kernel_rfl)⟩ ?_ ?_
    · clear hI
      rintro s1 a w_56 ⟨ns_57, hI⟩ r1 H1
      unfold G_layout_May.b1 at H1
      refine seq_region (live := [29, 28, 27, 26, 9, 6, 3, 1, 2]) (orc := []) hF hI ⟨[⟨29, [], .v (.bool (decide (s1.1 < (t_28.l.length : Int))))⟩, ⟨28, [], .v (.int .i64 s1.1)⟩, ⟨27, [], .v (.int .i64 (t_28.l.length : Int))⟩, ⟨26, [], .v (.slice ((sv_30 0).1) t_28.l.length ((sv_30 0).2))⟩, ⟨9, [], .p 3 0⟩, ⟨6, [], .v (.bool s1.2)⟩, ⟨3, [], .p 0 0⟩, ⟨1, [], .v (.int .i64 a1)⟩, ⟨2, [], .v (.int .i64 a2)⟩], [], [], [((((kd_Config).cells x0 sv0).map EV.v), 29), ((((kd_Layout_plan).cells t_5 sv_7).map EV.v), 105), ((((kd_Layout_plan).cells t_28 sv_30).map EV.v), 105), ((((kd_Layout_plan).cells t_37 sv_39).map EV.v), 105)], none, none⟩ [] (by kernel_rfl) trivial (fun ns_58 a w_59 hI _ => ?_)
      refine wpIn_seq ?_
      refine cond_ hI (decide (s1.1 < (t_28.l.length : Int))) rfl (fun hc_60 => ?_) (fun hc_60 => ?_)
      · replace H1 := bif_t hc_60 H1
        refine wpIn_skip ?_
        refine then_normal ?_
        refine wpIn_seq ?_
        refine wpIn_block ?_
        obtain ⟨hN_61, H1⟩ := req_some H1
        obtain ⟨sv_62, hE_64, hA_63⟩ := Arr.elB (d := kd_Span) hR_31.1.1 s1.1 true (fun _ => hN_61)
        replace hE_64 := hE_64 rfl
        replace hA_63 := fun (_ : true = true) => hA_63 rfl
        refine seq_region (live := [10, 11, 28, 27, 26, 9, 6, 3, 1, 2]) (orc := [(kd_Span).cells (rd t_28.l s1.1) sv_62]) hF hI ⟨[⟨10, [], .v (.int .i64 s1.1)⟩, ⟨11, [], .p 4 0⟩, ⟨28, [], .v (.int .i64 s1.1)⟩, ⟨27, [], .v (.int .i64 (t_28.l.length : Int))⟩, ⟨26, [], .v (.slice ((sv_30 0).1) t_28.l.length ((sv_30 0).2))⟩, ⟨9, [], .p 3 0⟩, ⟨6, [], .v (.bool s1.2)⟩, ⟨3, [], .p 0 0⟩, ⟨1, [], .v (.int .i64 a1)⟩, ⟨2, [], .v (.int .i64 a2)⟩], [], [], [((((kd_Config).cells x0 sv0).map EV.v), 29), ((((kd_Layout_plan).cells t_5 sv_7).map EV.v), 105), ((((kd_Layout_plan).cells t_28 sv_30).map EV.v), 105), ((((kd_Layout_plan).cells t_37 sv_39).map EV.v), 105), ((((kd_Span).cells (rd t_28.l s1.1) sv_62).map EV.v), 109)], none, none⟩ [.need true (0 ≤ s1.1 ∧ s1.1 < (t_28.l.length : Int)), .need true ((sv_30 0).1 = some (adr ((sv_30 0).1))), .cell true ((adr ((sv_30 0).1)).add ((s1.1 : Int).toNat * 2)) ((kd_Span).cells (rd t_28.l s1.1) sv_62)] (by kernel_rfl) ⟨ob_inb (fun _ => hN_61), hA_63, ob_el (fun _ => hE_64) 0 ((kd_Span).cells (rd t_28.l s1.1) sv_62) rfl, trivial⟩ (fun ns_65 a w_66 hI _ => ?_)
        obtain ⟨hN_67, H1⟩ := req_some H1
        obtain ⟨sv_68, hE_70, hA_69⟩ := Arr.elB (d := kd_Chan) hx0.2.1.1 s1.1 true (fun _ => hN_67)
        replace hE_70 := hE_70 rfl
        replace hA_69 := fun (_ : true = true) => hA_69 rfl
        obtain ⟨t_71, hG_72, H1⟩ := bind_some H1
        obtain ⟨hN_73, H1⟩ := req_some H1
        obtain ⟨sv_74, hE_76, hA_75⟩ := Arr.elB (d := kd_Chan) hx0.2.1.1 s1.1 (!((((rd x0.Chans s1.1).From) == a1) && t_71)) (fun hg => imp_spec hN_73 hg)
        obtain ⟨hN_77, H1⟩ := req_some H1
        obtain ⟨sv_78, hE_80, hA_79⟩ := Arr.elB (d := kd_Span) hR_40.1.1 s1.1 (!((((rd x0.Chans s1.1).From) == a1) && t_71) && (((rd x0.Chans s1.1).To) == a1)) (fun hg => imp_spec hN_77 hg)
        obtain ⟨t_81, hG_82, H1⟩ := bind_some H1
        refine seq_region (live := [64, 28, 27, 26, 9, 6, 3, 1, 2]) (orc := [[.int .i64 ((rd x0.Chans s1.1).From)], [.bool t_71], [.int .i64 ((rd x0.Chans s1.1).To)], (kd_Span).cells (rd t_37.l s1.1) sv_78, [.bool t_81]]) hF hI ⟨[⟨64, [], .v (.bool (((((rd x0.Chans s1.1).From) == a1) && t_71) || ((((rd x0.Chans s1.1).To) == a1) && t_81)))⟩, ⟨28, [], .v (.int .i64 s1.1)⟩, ⟨27, [], .v (.int .i64 (t_28.l.length : Int))⟩, ⟨26, [], .v (.slice ((sv_30 0).1) t_28.l.length ((sv_30 0).2))⟩, ⟨9, [], .p 3 0⟩, ⟨6, [], .v (.bool s1.2)⟩, ⟨3, [], .p 0 0⟩, ⟨1, [], .v (.int .i64 a1)⟩, ⟨2, [], .v (.int .i64 a2)⟩], [], [], [((((kd_Config).cells x0 sv0).map EV.v), 29), ((((kd_Layout_plan).cells t_5 sv_7).map EV.v), 105), ((((kd_Layout_plan).cells t_28 sv_30).map EV.v), 105), ((((kd_Layout_plan).cells t_37 sv_39).map EV.v), 105), ((((kd_Span).cells (rd t_28.l s1.1) sv_62).map EV.v), 109)], none, none⟩ [.need true (0 ≤ s1.1 ∧ s1.1 < (x0.Chans.length : Int)), .need true ((sv0 1).1 = some (adr ((sv0 1).1))), .cell true (((adr ((sv0 1).1)).add ((s1.1 : Int).toNat * 7)).add 1) [.int .i64 ((rd x0.Chans s1.1).From)], .call (((rd x0.Chans s1.1).From) == a1) 64 [.agg ((kd_Span).cells (rd t_28.l s1.1) (svL [])).toArray, .int .i64 a2] (.bool t_71), .need (!((((rd x0.Chans s1.1).From) == a1) && t_71)) (0 ≤ s1.1 ∧ s1.1 < (x0.Chans.length : Int)), .need (!((((rd x0.Chans s1.1).From) == a1) && t_71)) ((sv0 1).1 = some (adr ((sv0 1).1))), .cell (!((((rd x0.Chans s1.1).From) == a1) && t_71)) (((adr ((sv0 1).1)).add ((s1.1 : Int).toNat * 7)).add 2) [.int .i64 ((rd x0.Chans s1.1).To)], .need (!((((rd x0.Chans s1.1).From) == a1) && t_71) && (((rd x0.Chans s1.1).To) == a1)) (0 ≤ s1.1 ∧ s1.1 < (t_37.l.length : Int)), .need (!((((rd x0.Chans s1.1).From) == a1) && t_71) && (((rd x0.Chans s1.1).To) == a1)) ((sv_39 0).1 = some (adr ((sv_39 0).1))), .cell (!((((rd x0.Chans s1.1).From) == a1) && t_71) && (((rd x0.Chans s1.1).To) == a1)) ((adr ((sv_39 0).1)).add ((s1.1 : Int).toNat * 2)) ((kd_Span).cells (rd t_37.l s1.1) sv_78), .call (!((((rd x0.Chans s1.1).From) == a1) && t_71) && (((rd x0.Chans s1.1).To) == a1)) 64 [.agg ((kd_Span).cells (rd t_37.l s1.1) (svL [])).toArray, .int .i64 a2] (.bool t_81)] (by kernel_rfl) ⟨ob_inb (fun _ => hN_67), hA_69, ob_el (fun _ => hE_70) 1 [.int .i64 ((rd x0.Chans s1.1).From)] rfl, ob_call (enters Try.func64 (by kernel_rfl) rfl) (fun hg wz hk => G_span_Has.calls (rd t_28.l s1.1) a2 (svL []) wz (S := fun _ => True) (Kd.any _ (Kd.keep kd_Span (contI (S := Lo S w w_42 ((ns_16 ++ [b_46]) ++ [b_48]) []) (w := w_42) (d := kd_Span) (x := (rd t_28.l s1.1)) (sv := (svL [])) trivial) (Lo.on hk))) _ (cal_some hG_72 hg)), ob_inb (fun hg => imp_spec hN_73 hg), hA_75, ob_el (fun hg => hE_76 hg) 2 [.int .i64 ((rd x0.Chans s1.1).To)] rfl, ob_inb (fun hg => imp_spec hN_77 hg), hA_79, ob_el (fun hg => hE_80 hg) 0 ((kd_Span).cells (rd t_37.l s1.1) sv_78) rfl, ob_call (enters Try.func64 (by kernel_rfl) rfl) (fun hg wz hk => G_span_Has.calls (rd t_37.l s1.1) a2 (svL []) wz (S := fun _ => True) (Kd.any _ (Kd.keep kd_Span (contI (S := Lo S w w_42 ((ns_16 ++ [b_46]) ++ [b_48]) []) (w := w_42) (d := kd_Span) (x := (rd t_37.l s1.1)) (sv := (svL [])) trivial) (Lo.on hk))) _ (cal_some hG_82 hg)), trivial⟩ (fun ns_83 a w_84 hI _ => ?_)
        refine cond_ hI ((((((rd x0.Chans s1.1).From) == a1) && t_71) || ((((rd x0.Chans s1.1).To) == a1) && t_81))) rfl (fun hc_85 => ?_) (fun hc_85 => ?_)
        · replace H1 := bif_t hc_85 H1
          refine seq_region (live := [6]) (orc := []) hF hI ⟨[⟨6, [], .v (.bool true)⟩], [], [], [((((kd_Config).cells x0 sv0).map EV.v), 29), ((((kd_Layout_plan).cells t_5 sv_7).map EV.v), 105), ((((kd_Layout_plan).cells t_28 sv_30).map EV.v), 105), ((((kd_Layout_plan).cells t_37 sv_39).map EV.v), 105), ((((kd_Span).cells (rd t_28.l s1.1) sv_62).map EV.v), 109)], none, none⟩ [] (by kernel_rfl) trivial (fun ns_86 a w_87 hI _ => ?_)
          refine wpIn_ret ?_
          refine inBlock_ret ?_
          refine then_ret ?_
          refine then_ret ?_
          obtain rfl := Option.some.inj H1
          refine .inr ⟨_, rfl, fun ho => ?_⟩
          subst ho
          refine inBlock_ret ?_
          refine then_ret ?_
          obtain rfl := Option.some.inj H0
          exact ret1 hI rfl rfl ⟨rfl, hE.below hI⟩
        · replace H1 := bif_f hc_85 H1
          refine wpIn_skip ?_
          refine inBlock_normal ?_
          refine then_normal ?_
          refine region_ (live := [28, 27, 26, 9, 6, 3, 1, 2]) (orc := []) hF hI ⟨[⟨28, [], .v (.int .i64 (IntKind.i64.wrap (s1.1 + 1)))⟩, ⟨27, [], .v (.int .i64 (t_28.l.length : Int))⟩, ⟨26, [], .v (.slice ((sv_30 0).1) t_28.l.length ((sv_30 0).2))⟩, ⟨9, [], .p 3 0⟩, ⟨6, [], .v (.bool s1.2)⟩, ⟨3, [], .p 0 0⟩, ⟨1, [], .v (.int .i64 a1)⟩, ⟨2, [], .v (.int .i64 a2)⟩], [], [], [((((kd_Config).cells x0 sv0).map EV.v), 29), ((((kd_Layout_plan).cells t_5 sv_7).map EV.v), 105), ((((kd_Layout_plan).cells t_28 sv_30).map EV.v), 105), ((((kd_Layout_plan).cells t_37 sv_39).map EV.v), 105), ((((kd_Span).cells (rd t_28.l s1.1) sv_62).map EV.v), 109)], none, none⟩ [] (by kernel_rfl) trivial (fun ns_88 a w_89 hI _ => ?_)
          refine then_normal ?_
          obtain rfl := Option.some.inj H1
          exact ⟨_, rfl, ⟨_, hI.pick [28, 27, 26, 9, 6, 3, 1, 2] 4 ⟨[⟨28, [], .v (.int .i64 (IntKind.i64.wrap (s1.1 + 1)))⟩, ⟨27, [], .v (.int .i64 (t_28.l.length : Int))⟩, ⟨26, [], .v (.slice ((sv_30 0).1) t_28.l.length ((sv_30 0).2))⟩, ⟨9, [], .p 3 0⟩, ⟨6, [], .v (.bool s1.2)⟩, ⟨3, [], .p 0 0⟩, ⟨1, [], .v (.int .i64 a1)⟩, ⟨2, [], .v (.int .i64 a2)⟩], [], [], [((((kd_Config).cells x0 sv0).map EV.v), 29), ((((kd_Layout_plan).cells t_5 sv_7).map EV.v), 105), ((((kd_Layout_plan).cells t_28 sv_30).map EV.v), 105), ((((kd_Layout_plan).cells t_37 sv_39).map EV.v), 105)], none, none⟩ (by kernel_rfl)⟩⟩
      · replace H1 := bif_f hc_60 H1
        refine wpIn_exit ?_
        refine then_exit ?_
        refine then_exit ?_
        obtain rfl := Option.some.inj H1
        exact .inl ⟨_, rfl, rfl, ⟨_, hI.pick [28, 27, 26, 9, 6, 3, 1, 2] 4 ⟨[⟨28, [], .v (.int .i64 s1.1)⟩, ⟨27, [], .v (.int .i64 (t_28.l.length : Int))⟩, ⟨26, [], .v (.slice ((sv_30 0).1) t_28.l.length ((sv_30 0).2))⟩, ⟨9, [], .p 3 0⟩, ⟨6, [], .v (.bool s1.2)⟩, ⟨3, [], .p 0 0⟩, ⟨1, [], .v (.int .i64 a1)⟩, ⟨2, [], .v (.int .i64 a2)⟩], [], [], [((((kd_Config).cells x0 sv0).map EV.v), 29), ((((kd_Layout_plan).cells t_5 sv_7).map EV.v), 105), ((((kd_Layout_plan).cells t_28 sv_30).map EV.v), 105), ((((kd_Layout_plan).cells t_37 sv_39).map EV.v), 105)], none, none⟩ (by kernel_rfl)⟩⟩
    · clear hI
      rintro s1 a w_92 ho ⟨ns_93, hI⟩
      subst ho
      replace H0 : (some false : Option (Bool)) = _ := H0
      refine then_normal ?_
      refine seq_region (live := [6]) (orc := []) hF hI ⟨[⟨6, [], .v (.bool false)⟩], [], [], [((((kd_Config).cells x0 sv0).map EV.v), 29), ((((kd_Layout_plan).cells t_5 sv_7).map EV.v), 105), ((((kd_Layout_plan).cells t_28 sv_30).map EV.v), 105), ((((kd_Layout_plan).cells t_37 sv_39).map EV.v), 105)], none, none⟩ [] (by kernel_rfl) trivial (fun ns_94 a w_95 hI _ => ?_)
      refine wpIn_ret ?_
      obtain rfl := Option.some.inj H0
      exact ret1 hI rfl rfl ⟨rfl, hE.below hI⟩

/-! ### porthole/audit.Own: function 34 -/
noncomputable def G_audit_Own.r1 (x0 : Config) (a1 : Int) (l2 : (List Int)) (l3 : (List Int)) (t_5 : ((List Int) × (List Int))) (s1 : Bool) (y_24 : Int) : Option (Stp (Bool) (Nat × (Bool))) := ((G_layout_May x0 a1 y_24).bind fun t_32 => (bif (!t_32) then some (.out (0, false)) else some (.next s1)))
noncomputable def G_audit_Own (x0 : Config) (a1 : Int) (l2 : (List Int)) (l3 : (List Int)) : Option (Bool) := ((G_audit_Changed l2 l3).bind fun t_5 => ((G_audit_Changed_1 (G_audit_Own.r1 x0 a1 l2 l3 t_5) false t_5.1 t_5.2).bind fun z => z.on (fun s1 => some true) (fun r1 => some r1.2)))
set_option maxRecDepth 100000 in
set_option maxHeartbeats 4000000 in
theorem G_audit_Own.calls (x0 : Config) (a1 : Int) (l2 : (List Int)) (l3 : (List Int)) (sv0 : SV) (A2 : Option Addr) (c2 : Nat) (A3 : Option Addr) (c3 : Nat) (w : World) {S : Nat → Prop} (hx0 : (kd_Config).cont S w x0 sv0) (hr2 : Arr (Kd.int .u32) S w A2 l2) (hc2 : l2.length ≤ c2) (hr3 : Arr (Kd.int .u32) S w A3 l3) (hc3 : l3.length ≤ c3) (r : Bool) (h : G_audit_Own x0 a1 l2 l3 = some r) :
    Calls Try.prog 34 #[.agg ((kd_Config).cells x0 sv0).toArray, .int .i64 a1, .slice A2 l2.length c2, .slice A3 l3.length c3] w fun e w' => e = .returned (.bool r) ∧ Below w.heap.size w w' := by
  replace hx0 := Kd.lo _ hx0
  replace hr2 := Arr.lo hr2
  replace hr3 := Arr.lo hr3
  unfold G_audit_Own at h
  have H0 := h
  clear h
  refine enterM Try.func34 rfl [.agg ((kd_Config).cells x0 sv0).toArray, .int .i64 a1, .slice A2 l2.length c2, .slice A3 l3.length c3] (n := 19) rfl (Nat.le_of_ble_eq_true rfl) (fun a hI => ?_)
  have hF : FOpen Fence.wide := .inl rfl
  have hE := Ep.start w
  refine seq_region (live := [8, 5, 4, 2, 3]) (orc := []) hF hI ⟨[⟨8, [], .p 2 0⟩, ⟨5, [], .p 1 0⟩, ⟨4, [], .p 0 0⟩, ⟨2, [], .v (.slice A2 l2.length c2)⟩, ⟨3, [], .v (.slice A3 l3.length c3)⟩], [], [], [((((kd_Config).cells x0 sv0).map EV.v), 29), ([.v (.int .i64 a1)], 3), ([.v (.bool false)], 4)], some (w.heap.size, none), none⟩ [] (by kernel_rfl) trivial (fun ns_1 a w_2 hI _ => ?_)
  refine wpIn_seq ?_
  refine wpIn_seq ?_
  refine wpIn_region_lit ?_
  refine chunkL_ (live := [11, 10, 8, 5, 4]) (orc := []) hF 2 hI ⟨[⟨11, [], .v (.slice A3 l3.length c3)⟩, ⟨10, [], .v (.slice A2 l2.length c2)⟩, ⟨8, [], .p 2 0⟩, ⟨5, [], .p 1 0⟩, ⟨4, [], .p 0 0⟩], [], [], [((((kd_Config).cells x0 sv0).map EV.v), 29), ([.v (.int .i64 a1)], 3), ([.v (.bool false)], 4)], some (w.heap.size, none), none⟩ [] rfl (by kernel_rfl) trivial (fun ns_3 a w_4 hI => ?_)
  obtain ⟨hE', hmv, hmr⟩ := Ep.rebase (S0 := S) hE hI
  replace hx0 := Kd.keep _ hx0 hmv
  replace hr2 := Arr.keep hr2 hmv
  replace hr3 := Arr.keep hr3 hmv
  replace hE := hE'
  replace hI := hI.rebase
  clear hE' hmv hmr
  obtain ⟨t_5, hG_6, H0⟩ := bind_some H0
  refine callH_ (S0 := S) hF hE hI (wanted_none rfl) rfl (args := [.slice A2 l2.length c2, .slice A3 l3.length c3]) rfl (enters Try.func49 (by kernel_rfl) rfl) (fun sv_7 => .func (.func 62) #[] #[.pointer (some (adr (sv_7 0).1)), .pointer (some (adr (sv_7 2).1))]) _ (G_audit_Changed.calls l2 l3 A2 c2 A3 c3 w_4 (S := Lo S w w_4 ns_3 []) hr2 hc2 hr3 hc3 _ hG_6) (fun sv_7 => ⟨[⟨12, [], .v (.func (.func 62) #[] #[.pointer (some (adr (sv_7 0).1)), .pointer (some (adr (sv_7 2).1))])⟩, ⟨11, [], .v (.slice A3 l3.length c3)⟩, ⟨10, [], .v (.slice A2 l2.length c2)⟩, ⟨8, [], .p 2 0⟩, ⟨5, [], .p 1 0⟩, ⟨4, [], .p 0 0⟩], [], [], [((((kd_Config).cells x0 sv0).map EV.v), 29), ([.v (.int .i64 a1)], 3), ([.v (.bool false)], 4)], some (w.heap.size, none), none⟩) (fun sv_7 => by kernel_rfl) (fun sv_7 a w_10 hput hE' hI' hmv hmr hres hR => ?_)
  replace hx0 := Kd.keep _ hx0 hmv
  replace hr2 := Arr.keep hr2 hmv
  replace hr3 := Arr.keep hr3 hmv
  replace hE := hE'
  replace hI := hI'
  clear hE' hI' hmv hmr
  obtain ⟨hR_8, hR_9⟩ := hR
  replace hR_8 := El.keep hR_8 hres
  replace hR_9 := El.keep hR_9 hres
  clear hres
  refine chunkL_ (live := [12, 8, 5, 4]) (orc := []) hF 0 hI ⟨[⟨12, [], .v (.func (.func 62) #[] #[.pointer (some (adr (sv_7 0).1)), .pointer (some (adr (sv_7 2).1))])⟩, ⟨8, [], .p 2 0⟩, ⟨5, [], .p 1 0⟩, ⟨4, [], .p 0 0⟩], [], [], [((((kd_Config).cells x0 sv0).map EV.v), 29), ([.v (.int .i64 a1)], 3), ([.v (.bool false)], 4)], some (w.heap.size, none), none⟩ [] rfl (by kernel_rfl) trivial (fun ns_11 a w_12 hI => ?_)
  refine wpListIn_nil ?_
  refine then_normal ?_
  refine wpIn_block ?_
  obtain ⟨hE', hmv, hmr⟩ := Ep.rebase (S0 := S) hE hI
  replace hx0 := Kd.keep _ hx0 hmv
  replace hr2 := Arr.keep hr2 hmv
  replace hr3 := Arr.keep hr3 hmv
  replace hR_8 := El.keep hR_8 hmv
  replace hR_9 := El.keep hR_9 hmv
  replace hE := hE'
  replace hI := hI.rebase
  clear hE' hmv hmr
  obtain ⟨ns_13, hE', hI', hmv⟩ := hE.cut (S0 := S) hI [12, 8, 5, 4] 3 ⟨[⟨12, [], .v (.func (.func 62) #[] #[.pointer (some (adr (sv_7 0).1)), .pointer (some (adr (sv_7 2).1))])⟩, ⟨8, [], .p 2 0⟩, ⟨5, [], .p 1 0⟩, ⟨4, [], .p 0 0⟩], [], [], [((((kd_Config).cells x0 sv0).map EV.v), 29), ([.v (.int .i64 a1)], 3), ([.v (.bool false)], 4)], some (w.heap.size, none), none⟩ (by kernel_rfl)
  have hmr : ∀ b : Nat, some b ∈ ([] : List (Option Nat)) → w_12.heap[b]? = w_12.heap[b]? := fun _ _ => rfl
  replace hx0 := Kd.keep _ hx0 hmv
  replace hr2 := Arr.keep hr2 hmv
  replace hr3 := Arr.keep hr3 hmv
  replace hR_8 := El.keep hR_8 hmv
  replace hR_9 := El.keep hR_9 hmv
  replace hE := hE'
  replace hI := hI'
  clear hE' hI' hmv hmr
  obtain ⟨z_17, hz_18, H0⟩ := bind_some H0
  refine rangeFunc_ (S0 := S) (ps := [13]) hE hI rfl (Nat.le_refl _) (lb := [.pointer (some (adr (sv_7 0).1)), .pointer (some (adr (sv_7 2).1))]) rfl (enters Try.func62 (by kernel_rfl) rfl) (fun l_14 aR_15 w_16 haR_23 hE' hI' hmv hmr => ?_)
  replace hx0 := Kd.keep _ hx0 hmv
  replace hr2 := Arr.keep hr2 hmv
  replace hr3 := Arr.keep hr3 hmv
  replace hR_8 := El.keep hR_8 hmv
  replace hR_9 := El.keep hR_9 hmv
  replace hE := hE'
  replace hI := hI'
  clear hE' hI' hmv hmr
  refine ⟨Bool, Int, Nat × (Bool), G_audit_Changed_1.enc, G_audit_Changed_1.fct, G_audit_Own.r1 x0 a1 l2 l3 t_5, (fun (s1 : Bool) (T : Nat → Prop) (W : World) => ((kd_Config).cont (Lo S w W ns_13 [some l_14]) W x0 sv0) ∧ (Arr (Kd.int .u32) (Lo S w W ns_13 [some l_14]) W A2 l2) ∧ (Arr (Kd.int .u32) (Lo S w W ns_13 [some l_14]) W A3 l3) ∧ (El (Kd.slice (Kd.int .u32)) (Lo S w W ns_13 [some l_14]) W (adr (sv_7 0).1) t_5.1 (svO sv_7 1)) ∧ (El (Kd.slice (Kd.int .u32)) (Lo S w W ns_13 [some l_14]) W (adr (sv_7 2).1) t_5.2 (svO sv_7 3)) ∧ Ep w W ns_13 [some l_14] ∧ Inv W ns_13 19 ⟨[⟨12, [], .v (.func (.func 62) #[] #[.pointer (some (adr (sv_7 0).1)), .pointer (some (adr (sv_7 2).1))])⟩, ⟨8, [], .p 2 0⟩, ⟨5, [], .p 1 0⟩, ⟨4, [], .p 0 0⟩], [], [], [((((kd_Config).cells x0 sv0).map EV.v), 29), ([.v (.int .i64 a1)], 3), ([.v (.bool s1)], 4)], some (w.heap.size, none), none⟩ ns_13 aR_15 W ∧ Tk T W (Lo S w W ns_13 [some l_14]) W), (fun (r : Nat × (Bool)) (W : World) => ((kd_Config).cont (Lo S w W ns_13 [some l_14]) W x0 sv0) ∧ (Arr (Kd.int .u32) (Lo S w W ns_13 [some l_14]) W A2 l2) ∧ (Arr (Kd.int .u32) (Lo S w W ns_13 [some l_14]) W A3 l3) ∧ (El (Kd.slice (Kd.int .u32)) (Lo S w W ns_13 [some l_14]) W (adr (sv_7 0).1) t_5.1 (svO sv_7 1)) ∧ (El (Kd.slice (Kd.int .u32)) (Lo S w W ns_13 [some l_14]) W (adr (sv_7 2).1) t_5.2 (svO sv_7 3)) ∧ Ep w W ns_13 [some l_14] ∧ Inv W ns_13 19 ⟨[⟨12, [], .v (.func (.func 62) #[] #[.pointer (some (adr (sv_7 0).1)), .pointer (some (adr (sv_7 2).1))])⟩, ⟨8, [], .p 2 0⟩, ⟨5, [], .p 1 0⟩, ⟨4, [], .p 0 0⟩], [], [], [((((kd_Config).cells x0 sv0).map EV.v), 29), ([.v (.int .i64 a1)], 3), ([.v (.bool r.2)], 4)], some (w.heap.size, none), none⟩ ns_13 aR_15 W), (fun r => .ret), false, Tc (Lo S w w_16 ns_13 [some l_14]) w_16, z_17, fun _ _ => rfl, ?_, ?_, ?_, ?_, ?_, ?_, ?_⟩
  · rintro s1 T T' A B row ⟨hx0, hr2, hr3, hR_8, hR_9, hE, hI, hT_19⟩ hg hrow hT'
    obtain ⟨hE', hI', hmv, hmr⟩ := hE.turn (S0 := S) hI hg (by simp) hrow
    replace hx0 := Kd.keep _ hx0 hmv
    replace hr2 := Arr.keep hr2 hmv
    replace hr3 := Arr.keep hr3 hmv
    replace hR_8 := El.keep hR_8 hmv
    replace hR_9 := El.keep hR_9 hmv
    exact ⟨hx0, hr2, hr3, hR_8, hR_9, hE', hI', hT_19.turn hmv hE hT'⟩
  · rintro r A B row ⟨hx0, hr2, hr3, hR_8, hR_9, hE, hI⟩ hg hrow
    obtain ⟨hE', hI', hmv, hmr⟩ := hE.turn (S0 := S) hI hg (by simp) hrow
    replace hx0 := Kd.keep _ hx0 hmv
    replace hr2 := Arr.keep hr2 hmv
    replace hr3 := Arr.keep hr3 hmv
    replace hR_8 := El.keep hR_8 hmv
    replace hR_9 := El.keep hR_9 hmv
    exact ⟨hx0, hr2, hr3, hR_8, hR_9, hE', hI'⟩
  · intro J Jx hq hJ
    exact G_audit_Changed_1.calls _ _ t_5.1 t_5.2 (adr (sv_7 0).1) (svO sv_7 1) (adr (sv_7 2).1) (svO sv_7 3) _ w_16 (S := Tc (Lo S w w_16 ns_13 [some l_14]) w_16) (El.keep hR_8 (Tc.mv _ _)) (El.keep hR_9 (Tc.mv _ _)) hq hJ _ hz_18
  · exact ⟨hx0, hr2, hr3, hR_8, hR_9, hE, hI, Tk.new _ _⟩
  · rintro s1 y_24 sv_25 T_27 w_26 z hz ⟨hx0, hr2, hr3, hR_8, hR_9, hE, hO, hT_19⟩ hf_28 oo_21 ho_22 hl_20
    unfold G_audit_Own.r1 at hz
    have H1 := hz
    clear hz
    have hF : FOpen (Fence.wide.inRound l_14) := .inr ⟨l_14, rfl⟩
    have hI : Inv w_26 ns_13 19 ⟨[⟨13, [], .v (.int .i64 y_24)⟩, ⟨12, [], .v (.func (.func 62) #[] #[.pointer (some (adr (sv_7 0).1)), .pointer (some (adr (sv_7 2).1))])⟩, ⟨8, [], .p 2 0⟩, ⟨5, [], .p 1 0⟩, ⟨4, [], .p 0 0⟩], [], [], [((((kd_Config).cells x0 sv0).map EV.v), 29), ([.v (.int .i64 a1)], 3), ([.v (.bool s1)], 4)], some (w.heap.size, some aR_15.defers), some (3, ns_13)⟩ ns_13 _ w_26 := hO.round rfl rfl rfl [13] (G_audit_Changed_1.enc y_24 sv_25) (by kernel_rfl) (by kernel_rfl) _ haR_23
    refine region_ (live := [9, 8, 5, 4]) (orc := []) hF hI ⟨[⟨9, [], .v (.int .i64 y_24)⟩, ⟨8, [], .p 2 0⟩, ⟨5, [], .p 1 0⟩, ⟨4, [], .p 0 0⟩], [], [], [((((kd_Config).cells x0 sv0).map EV.v), 29), ([.v (.int .i64 a1)], 3), ([.v (.bool s1)], 4)], some (w.heap.size, some aR_15.defers), some (3, ns_13)⟩ [] (by kernel_rfl) trivial (fun ns_29 a w_30 hI _ => ?_)
    refine then_normal ?_
    obtain ⟨hE', hmv, hmr⟩ := Ep.rebase (S0 := S) hE hI
    replace hx0 := Kd.keep _ hx0 hmv
    replace hr2 := Arr.keep hr2 hmv
    replace hr3 := Arr.keep hr3 hmv
    replace hR_8 := El.keep hR_8 hmv
    replace hR_9 := El.keep hR_9 hmv
    replace hT_19 := Tk.keep hT_19 hmv
    replace hl_20 := (hmr _ (by simp)).trans hl_20
    replace hE := hE'
    replace hI := hI.rebase
    clear hE' hmv hmr
    refine begin_ (S0 := S) hE hI (by simp) hl_20 ho_22 (fun w_31 hE' hI' hmv hmr hl_20 => ?_)
    replace hx0 := Kd.keep _ hx0 hmv
    replace hr2 := Arr.keep hr2 hmv
    replace hr3 := Arr.keep hr3 hmv
    replace hR_8 := El.keep hR_8 hmv
    replace hR_9 := El.keep hR_9 hmv
    replace hT_19 := Tk.keep hT_19 hmv
    replace hE := hE'
    replace hI := hI'
    clear hE' hI' hmv hmr
    refine wpIn_block ?_
    obtain ⟨t_32, hG_33, H1⟩ := bind_some H1
    refine seq_region (live := [18, 8, 5, 4]) (orc := [[.bool t_32]]) hF hI ⟨[⟨18, [], .v (.bool (!t_32))⟩, ⟨8, [], .p 2 0⟩, ⟨5, [], .p 1 0⟩, ⟨4, [], .p 0 0⟩], [], [], [((((kd_Config).cells x0 sv0).map EV.v), 29), ([.v (.int .i64 a1)], 3), ([.v (.bool s1)], 4)], some (w.heap.size, some aR_15.defers), some (3, ns_13)⟩ [.call true 50 [.agg ((kd_Config).cells x0 sv0).toArray, .int .i64 a1, .int .i64 y_24] (.bool t_32)] (by kernel_rfl) ⟨ob_call (enters Try.func50 (by kernel_rfl) rfl) (fun hg wz hk => G_layout_May.calls x0 a1 y_24 sv0 wz (S := fun _ => True) (Kd.any _ (Kd.keep kd_Config (contI (S := Lo S w w_31 ns_29 [some l_14]) (w := w_31) (d := kd_Config) (x := x0) (sv := sv0) ⟨⟨hx0.1.1, hx0.1.2⟩, ⟨hx0.2.1.1, hx0.2.1.2⟩, ⟨hx0.2.2.1.1, hx0.2.2.1.2⟩, ⟨hx0.2.2.2.1.1, hx0.2.2.2.1.2⟩, trivial⟩) (Lo.on hk))) _ hG_33), trivial⟩ (fun ns_34 a w_35 hI _ => ?_)
    refine cond_ hI ((!t_32)) rfl (fun hc_36 => ?_) (fun hc_36 => ?_)
    · replace H1 := bif_t hc_36 H1
      refine seq_region (live := [8]) (orc := []) hF hI ⟨[⟨8, [], .p 2 0⟩], [], [], [((((kd_Config).cells x0 sv0).map EV.v), 29), ([.v (.int .i64 a1)], 3), ([.v (.bool false)], 4)], some (w.heap.size, some aR_15.defers), some (3, ns_13)⟩ [] (by kernel_rfl) trivial (fun ns_37 a w_38 hI _ => ?_)
      refine wpIn_ret ?_
      refine inBlock_ret ?_
      obtain ⟨hE', hmv, hmr⟩ := Ep.rebase (S0 := S) hE hI
      replace hx0 := Kd.keep _ hx0 hmv
      replace hr2 := Arr.keep hr2 hmv
      replace hr3 := Arr.keep hr3 hmv
      replace hR_8 := El.keep hR_8 hmv
      replace hR_9 := El.keep hR_9 hmv
      replace hT_19 := Tk.keep hT_19 hmv
      replace hl_20 := (hmr _ (by simp)).trans hl_20
      replace hE := hE'
      replace hI := hI.rebase
      clear hE' hmv hmr
      obtain ⟨hE', hI', hmv⟩ := Ep.unround (S0 := S) (bs := [((((kd_Config).cells x0 sv0).map EV.v), 29), ([.v (.int .i64 a1)], 3), ([.v (.bool false)], 4)]) hO hE hI rfl rfl rfl rfl rfl rfl (by kernel_rfl) rfl
      have hmr : ∀ b : Nat, some b ∈ ([some l_14] : List (Option Nat)) → w_38.heap[b]? = w_38.heap[b]? := fun _ _ => rfl
      replace hx0 := Kd.keep _ hx0 hmv
      replace hr2 := Arr.keep hr2 hmv
      replace hr3 := Arr.keep hr3 hmv
      replace hR_8 := El.keep hR_8 hmv
      replace hR_9 := El.keep hR_9 hmv
      replace hT_19 := Tk.keep hT_19 hmv
      replace hl_20 := (hmr _ (by simp)).trans hl_20
      replace hE := hE'
      replace hI := hI'
      clear hE' hI' hmv hmr
      obtain rfl := Option.some.inj H1
      exact RndQ.rt hl_20 rfl rfl ⟨hx0, hr2, hr3, hR_8, hR_9, hE, hI⟩
    · replace H1 := bif_f hc_36 H1
      refine wpIn_skip ?_
      refine inBlock_normal ?_
      obtain ⟨hE', hmv, hmr⟩ := Ep.rebase (S0 := S) hE hI
      replace hx0 := Kd.keep _ hx0 hmv
      replace hr2 := Arr.keep hr2 hmv
      replace hr3 := Arr.keep hr3 hmv
      replace hR_8 := El.keep hR_8 hmv
      replace hR_9 := El.keep hR_9 hmv
      replace hT_19 := Tk.keep hT_19 hmv
      replace hl_20 := (hmr _ (by simp)).trans hl_20
      replace hE := hE'
      replace hI := hI.rebase
      clear hE' hmv hmr
      obtain ⟨hE', hI', hmv⟩ := Ep.unround (S0 := S) (bs := [((((kd_Config).cells x0 sv0).map EV.v), 29), ([.v (.int .i64 a1)], 3), ([.v (.bool s1)], 4)]) hO hE hI rfl rfl rfl rfl rfl rfl (by kernel_rfl) rfl
      have hmr : ∀ b : Nat, some b ∈ ([some l_14] : List (Option Nat)) → w_35.heap[b]? = w_35.heap[b]? := fun _ _ => rfl
      replace hx0 := Kd.keep _ hx0 hmv
      replace hr2 := Arr.keep hr2 hmv
      replace hr3 := Arr.keep hr3 hmv
      replace hR_8 := El.keep hR_8 hmv
      replace hR_9 := El.keep hR_9 hmv
      replace hT_19 := Tk.keep hT_19 hmv
      replace hl_20 := (hmr _ (by simp)).trans hl_20
      replace hE := hE'
      replace hI := hI'
      clear hE' hI' hmv hmr
      obtain rfl := Option.some.inj H1
      exact RndQ.nrm hl_20 rfl ⟨hx0, hr2, hr3, hR_8, hR_9, hE, hI, hT_19.re⟩ hT_19.same
  · rintro s1 T w_39 hzz ⟨hx0, hr2, hr3, hR_8, hR_9, hE, hI, hT_19⟩
    subst hzz
    replace H0 : (some true : Option (Bool)) = _ := H0
    obtain ⟨hE', hmv⟩ := hE.sub (S0 := S) (mine' := []) (sub_one [] [] _)
    have hmr : ∀ b : Nat, some b ∈ ([some l_14] : List (Option Nat)) → w_39.heap[b]? = w_39.heap[b]? := fun _ _ => rfl
    replace hx0 := Kd.keep _ hx0 hmv
    replace hr2 := Arr.keep hr2 hmv
    replace hr3 := Arr.keep hr3 hmv
    replace hR_8 := El.keep hR_8 hmv
    replace hR_9 := El.keep hR_9 hmv
    replace hE := hE'
    clear hE' hmv hmr
    refine inBlock_normal ?_
    refine then_normal ?_
    refine seq_region (live := [8]) (orc := []) hF hI ⟨[⟨8, [], .p 2 0⟩], [], [], [((((kd_Config).cells x0 sv0).map EV.v), 29), ([.v (.int .i64 a1)], 3), ([.v (.bool true)], 4)], some (w.heap.size, none), none⟩ [] (by kernel_rfl) trivial (fun ns_40 a w_41 hI _ => ?_)
    refine wpIn_ret ?_
    obtain rfl := Option.some.inj H0
    exact retM hI rfl rfl rfl (fun wz hz => ⟨rfl, (hE.below hI).trans hz.below⟩)
  · rintro r1 WX hzz ⟨hx0, hr2, hr3, hR_8, hR_9, hE, hI⟩
    subst hzz
    replace H0 : (some r1.2 : Option (Bool)) = _ := H0
    dsimp only
    obtain ⟨hE', hmv⟩ := hE.sub (S0 := S) (mine' := []) (sub_one [] [] _)
    have hmr : ∀ b : Nat, some b ∈ ([some l_14] : List (Option Nat)) → WX.heap[b]? = WX.heap[b]? := fun _ _ => rfl
    replace hx0 := Kd.keep _ hx0 hmv
    replace hr2 := Arr.keep hr2 hmv
    replace hr3 := Arr.keep hr3 hmv
    replace hR_8 := El.keep hR_8 hmv
    replace hR_9 := El.keep hR_9 hmv
    replace hE := hE'
    clear hE' hmv hmr
    refine wpIn_ret ?_
    refine inBlock_ret ?_
    refine then_ret ?_
    obtain rfl := Option.some.inj H0
    exact retM hI rfl rfl rfl (fun wz hz => ⟨rfl, (hE.below hI).trans hz.below⟩)

/-! ### porthole/audit.Quiet: function 33 -/
noncomputable def G_audit_Quiet.r1 (l0 : (List Int)) (l1 : (List Int)) (t_5 : ((List Int) × (List Int))) (s1 : Bool) (y_24 : Int) : Option (Stp (Bool) (Nat × (Bool))) := some (.out (0, false))
noncomputable def G_audit_Quiet (l0 : (List Int)) (l1 : (List Int)) : Option (Bool) := ((G_audit_Changed l0 l1).bind fun t_5 => ((G_audit_Changed_1 (G_audit_Quiet.r1 l0 l1 t_5) false t_5.1 t_5.2).bind fun z => z.on (fun s1 => some true) (fun r1 => some r1.2)))
set_option maxRecDepth 100000 in
set_option maxHeartbeats 4000000 in
theorem G_audit_Quiet.calls (l0 : (List Int)) (l1 : (List Int)) (A0 : Option Addr) (c0 : Nat) (A1 : Option Addr) (c1 : Nat) (w : World) {S : Nat → Prop} (hr0 : Arr (Kd.int .u32) S w A0 l0) (hc0 : l0.length ≤ c0) (hr1 : Arr (Kd.int .u32) S w A1 l1) (hc1 : l1.length ≤ c1) (r : Bool) (h : G_audit_Quiet l0 l1 = some r) :
    Calls Try.prog 33 #[.slice A0 l0.length c0, .slice A1 l1.length c1] w fun e w' => e = .returned (.bool r) ∧ Below w.heap.size w w' := by
  replace hr0 := Arr.lo hr0
  replace hr1 := Arr.lo hr1
  unfold G_audit_Quiet at h
  have H0 := h
  clear h
  refine enterM Try.func33 rfl [.slice A0 l0.length c0, .slice A1 l1.length c1] (n := 9) rfl (Nat.le_of_ble_eq_true rfl) (fun a hI => ?_)
  have hF : FOpen Fence.wide := .inl rfl
  have hE := Ep.start w
  refine seq_region (live := [4, 0, 1]) (orc := []) hF hI ⟨[⟨4, [], .p 0 0⟩, ⟨0, [], .v (.slice A0 l0.length c0)⟩, ⟨1, [], .v (.slice A1 l1.length c1)⟩], [], [], [([.v (.bool false)], 4)], some (w.heap.size, none), none⟩ [] (by kernel_rfl) trivial (fun ns_1 a w_2 hI _ => ?_)
  refine wpIn_seq ?_
  refine wpIn_seq ?_
  refine wpIn_region_lit ?_
  refine chunkL_ (live := [6, 5, 4]) (orc := []) hF 2 hI ⟨[⟨6, [], .v (.slice A1 l1.length c1)⟩, ⟨5, [], .v (.slice A0 l0.length c0)⟩, ⟨4, [], .p 0 0⟩], [], [], [([.v (.bool false)], 4)], some (w.heap.size, none), none⟩ [] rfl (by kernel_rfl) trivial (fun ns_3 a w_4 hI => ?_)
  obtain ⟨hE', hmv, hmr⟩ := Ep.rebase (S0 := S) hE hI
  replace hr0 := Arr.keep hr0 hmv
  replace hr1 := Arr.keep hr1 hmv
  replace hE := hE'
  replace hI := hI.rebase
  clear hE' hmv hmr
  obtain ⟨t_5, hG_6, H0⟩ := bind_some H0
  refine callH_ (S0 := S) hF hE hI (wanted_none rfl) rfl (args := [.slice A0 l0.length c0, .slice A1 l1.length c1]) rfl (enters Try.func49 (by kernel_rfl) rfl) (fun sv_7 => .func (.func 62) #[] #[.pointer (some (adr (sv_7 0).1)), .pointer (some (adr (sv_7 2).1))]) _ (G_audit_Changed.calls l0 l1 A0 c0 A1 c1 w_4 (S := Lo S w w_4 ns_3 []) hr0 hc0 hr1 hc1 _ hG_6) (fun sv_7 => ⟨[⟨7, [], .v (.func (.func 62) #[] #[.pointer (some (adr (sv_7 0).1)), .pointer (some (adr (sv_7 2).1))])⟩, ⟨6, [], .v (.slice A1 l1.length c1)⟩, ⟨5, [], .v (.slice A0 l0.length c0)⟩, ⟨4, [], .p 0 0⟩], [], [], [([.v (.bool false)], 4)], some (w.heap.size, none), none⟩) (fun sv_7 => by kernel_rfl) (fun sv_7 a w_10 hput hE' hI' hmv hmr hres hR => ?_)
  replace hr0 := Arr.keep hr0 hmv
  replace hr1 := Arr.keep hr1 hmv
  replace hE := hE'
  replace hI := hI'
  clear hE' hI' hmv hmr
  obtain ⟨hR_8, hR_9⟩ := hR
  replace hR_8 := El.keep hR_8 hres
  replace hR_9 := El.keep hR_9 hres
  clear hres
  refine chunkL_ (live := [7, 4]) (orc := []) hF 0 hI ⟨[⟨7, [], .v (.func (.func 62) #[] #[.pointer (some (adr (sv_7 0).1)), .pointer (some (adr (sv_7 2).1))])⟩, ⟨4, [], .p 0 0⟩], [], [], [([.v (.bool false)], 4)], some (w.heap.size, none), none⟩ [] rfl (by kernel_rfl) trivial (fun ns_11 a w_12 hI => ?_)
  refine wpListIn_nil ?_
  refine then_normal ?_
  refine wpIn_block ?_
  obtain ⟨hE', hmv, hmr⟩ := Ep.rebase (S0 := S) hE hI
  replace hr0 := Arr.keep hr0 hmv
  replace hr1 := Arr.keep hr1 hmv
  replace hR_8 := El.keep hR_8 hmv
  replace hR_9 := El.keep hR_9 hmv
  replace hE := hE'
  replace hI := hI.rebase
  clear hE' hmv hmr
  obtain ⟨ns_13, hE', hI', hmv⟩ := hE.cut (S0 := S) hI [7, 4] 1 ⟨[⟨7, [], .v (.func (.func 62) #[] #[.pointer (some (adr (sv_7 0).1)), .pointer (some (adr (sv_7 2).1))])⟩, ⟨4, [], .p 0 0⟩], [], [], [([.v (.bool false)], 4)], some (w.heap.size, none), none⟩ (by kernel_rfl)
  have hmr : ∀ b : Nat, some b ∈ ([] : List (Option Nat)) → w_12.heap[b]? = w_12.heap[b]? := fun _ _ => rfl
  replace hr0 := Arr.keep hr0 hmv
  replace hr1 := Arr.keep hr1 hmv
  replace hR_8 := El.keep hR_8 hmv
  replace hR_9 := El.keep hR_9 hmv
  replace hE := hE'
  replace hI := hI'
  clear hE' hI' hmv hmr
  obtain ⟨z_17, hz_18, H0⟩ := bind_some H0
  refine rangeFunc_ (S0 := S) (ps := [8]) hE hI rfl (Nat.le_refl _) (lb := [.pointer (some (adr (sv_7 0).1)), .pointer (some (adr (sv_7 2).1))]) rfl (enters Try.func62 (by kernel_rfl) rfl) (fun l_14 aR_15 w_16 haR_23 hE' hI' hmv hmr => ?_)
  replace hr0 := Arr.keep hr0 hmv
  replace hr1 := Arr.keep hr1 hmv
  replace hR_8 := El.keep hR_8 hmv
  replace hR_9 := El.keep hR_9 hmv
  replace hE := hE'
  replace hI := hI'
  clear hE' hI' hmv hmr
  refine ⟨Bool, Int, Nat × (Bool), G_audit_Changed_1.enc, G_audit_Changed_1.fct, G_audit_Quiet.r1 l0 l1 t_5, (fun (s1 : Bool) (T : Nat → Prop) (W : World) => (Arr (Kd.int .u32) (Lo S w W ns_13 [some l_14]) W A0 l0) ∧ (Arr (Kd.int .u32) (Lo S w W ns_13 [some l_14]) W A1 l1) ∧ (El (Kd.slice (Kd.int .u32)) (Lo S w W ns_13 [some l_14]) W (adr (sv_7 0).1) t_5.1 (svO sv_7 1)) ∧ (El (Kd.slice (Kd.int .u32)) (Lo S w W ns_13 [some l_14]) W (adr (sv_7 2).1) t_5.2 (svO sv_7 3)) ∧ Ep w W ns_13 [some l_14] ∧ Inv W ns_13 9 ⟨[⟨7, [], .v (.func (.func 62) #[] #[.pointer (some (adr (sv_7 0).1)), .pointer (some (adr (sv_7 2).1))])⟩, ⟨4, [], .p 0 0⟩], [], [], [([.v (.bool s1)], 4)], some (w.heap.size, none), none⟩ ns_13 aR_15 W ∧ Tk T W (Lo S w W ns_13 [some l_14]) W), (fun (r : Nat × (Bool)) (W : World) => (Arr (Kd.int .u32) (Lo S w W ns_13 [some l_14]) W A0 l0) ∧ (Arr (Kd.int .u32) (Lo S w W ns_13 [some l_14]) W A1 l1) ∧ (El (Kd.slice (Kd.int .u32)) (Lo S w W ns_13 [some l_14]) W (adr (sv_7 0).1) t_5.1 (svO sv_7 1)) ∧ (El (Kd.slice (Kd.int .u32)) (Lo S w W ns_13 [some l_14]) W (adr (sv_7 2).1) t_5.2 (svO sv_7 3)) ∧ Ep w W ns_13 [some l_14] ∧ Inv W ns_13 9 ⟨[⟨7, [], .v (.func (.func 62) #[] #[.pointer (some (adr (sv_7 0).1)), .pointer (some (adr (sv_7 2).1))])⟩, ⟨4, [], .p 0 0⟩], [], [], [([.v (.bool r.2)], 4)], some (w.heap.size, none), none⟩ ns_13 aR_15 W), (fun r => .ret), false, Tc (Lo S w w_16 ns_13 [some l_14]) w_16, z_17, fun _ _ => rfl, ?_, ?_, ?_, ?_, ?_, ?_, ?_⟩
  · rintro s1 T T' A B row ⟨hr0, hr1, hR_8, hR_9, hE, hI, hT_19⟩ hg hrow hT'
    obtain ⟨hE', hI', hmv, hmr⟩ := hE.turn (S0 := S) hI hg (by simp) hrow
    replace hr0 := Arr.keep hr0 hmv
    replace hr1 := Arr.keep hr1 hmv
    replace hR_8 := El.keep hR_8 hmv
    replace hR_9 := El.keep hR_9 hmv
    exact ⟨hr0, hr1, hR_8, hR_9, hE', hI', hT_19.turn hmv hE hT'⟩
  · rintro r A B row ⟨hr0, hr1, hR_8, hR_9, hE, hI⟩ hg hrow
    obtain ⟨hE', hI', hmv, hmr⟩ := hE.turn (S0 := S) hI hg (by simp) hrow
    replace hr0 := Arr.keep hr0 hmv
    replace hr1 := Arr.keep hr1 hmv
    replace hR_8 := El.keep hR_8 hmv
    replace hR_9 := El.keep hR_9 hmv
    exact ⟨hr0, hr1, hR_8, hR_9, hE', hI'⟩
  · intro J Jx hq hJ
    exact G_audit_Changed_1.calls _ _ t_5.1 t_5.2 (adr (sv_7 0).1) (svO sv_7 1) (adr (sv_7 2).1) (svO sv_7 3) _ w_16 (S := Tc (Lo S w w_16 ns_13 [some l_14]) w_16) (El.keep hR_8 (Tc.mv _ _)) (El.keep hR_9 (Tc.mv _ _)) hq hJ _ hz_18
  · exact ⟨hr0, hr1, hR_8, hR_9, hE, hI, Tk.new _ _⟩
  · rintro s1 y_24 sv_25 T_27 w_26 z hz ⟨hr0, hr1, hR_8, hR_9, hE, hO, hT_19⟩ hf_28 oo_21 ho_22 hl_20
    unfold G_audit_Quiet.r1 at hz
    have H1 := hz
    clear hz
    have hF : FOpen (Fence.wide.inRound l_14) := .inr ⟨l_14, rfl⟩
    have hI : Inv w_26 ns_13 9 ⟨[⟨8, [], .v (.int .i64 y_24)⟩, ⟨7, [], .v (.func (.func 62) #[] #[.pointer (some (adr (sv_7 0).1)), .pointer (some (adr (sv_7 2).1))])⟩, ⟨4, [], .p 0 0⟩], [], [], [([.v (.bool s1)], 4)], some (w.heap.size, some aR_15.defers), some (1, ns_13)⟩ ns_13 _ w_26 := hO.round rfl rfl rfl [8] (G_audit_Changed_1.enc y_24 sv_25) (by kernel_rfl) (by kernel_rfl) _ haR_23
    refine wpIn_skip ?_
    refine then_normal ?_
    refine begin_ (S0 := S) hE hI (by simp) hl_20 ho_22 (fun w_29 hE' hI' hmv hmr hl_20 => ?_)
    replace hr0 := Arr.keep hr0 hmv
    replace hr1 := Arr.keep hr1 hmv
    replace hR_8 := El.keep hR_8 hmv
    replace hR_9 := El.keep hR_9 hmv
    replace hT_19 := Tk.keep hT_19 hmv
    replace hE := hE'
    replace hI := hI'
    clear hE' hI' hmv hmr
    refine wpIn_block ?_
    refine seq_region (live := [4]) (orc := []) hF hI ⟨[⟨4, [], .p 0 0⟩], [], [], [([.v (.bool false)], 4)], some (w.heap.size, some aR_15.defers), some (1, ns_13)⟩ [] (by kernel_rfl) trivial (fun ns_30 a w_31 hI _ => ?_)
    refine wpIn_ret ?_
    refine inBlock_ret ?_
    obtain ⟨hE', hmv, hmr⟩ := Ep.rebase (S0 := S) hE hI
    replace hr0 := Arr.keep hr0 hmv
    replace hr1 := Arr.keep hr1 hmv
    replace hR_8 := El.keep hR_8 hmv
    replace hR_9 := El.keep hR_9 hmv
    replace hT_19 := Tk.keep hT_19 hmv
    replace hl_20 := (hmr _ (by simp)).trans hl_20
    replace hE := hE'
    replace hI := hI.rebase
    clear hE' hmv hmr
    obtain ⟨hE', hI', hmv⟩ := Ep.unround (S0 := S) (bs := [([.v (.bool false)], 4)]) hO hE hI rfl rfl rfl rfl rfl rfl (by kernel_rfl) rfl
    have hmr : ∀ b : Nat, some b ∈ ([some l_14] : List (Option Nat)) → w_31.heap[b]? = w_31.heap[b]? := fun _ _ => rfl
    replace hr0 := Arr.keep hr0 hmv
    replace hr1 := Arr.keep hr1 hmv
    replace hR_8 := El.keep hR_8 hmv
    replace hR_9 := El.keep hR_9 hmv
    replace hT_19 := Tk.keep hT_19 hmv
    replace hl_20 := (hmr _ (by simp)).trans hl_20
    replace hE := hE'
    replace hI := hI'
    clear hE' hI' hmv hmr
    obtain rfl := Option.some.inj H1
    exact RndQ.rt hl_20 rfl rfl ⟨hr0, hr1, hR_8, hR_9, hE, hI⟩
  · rintro s1 T w_32 hzz ⟨hr0, hr1, hR_8, hR_9, hE, hI, hT_19⟩
    subst hzz
    replace H0 : (some true : Option (Bool)) = _ := H0
    obtain ⟨hE', hmv⟩ := hE.sub (S0 := S) (mine' := []) (sub_one [] [] _)
    have hmr : ∀ b : Nat, some b ∈ ([some l_14] : List (Option Nat)) → w_32.heap[b]? = w_32.heap[b]? := fun _ _ => rfl
    replace hr0 := Arr.keep hr0 hmv
    replace hr1 := Arr.keep hr1 hmv
    replace hR_8 := El.keep hR_8 hmv
    replace hR_9 := El.keep hR_9 hmv
    replace hE := hE'
    clear hE' hmv hmr
    refine inBlock_normal ?_
    refine then_normal ?_
    refine seq_region (live := [4]) (orc := []) hF hI ⟨[⟨4, [], .p 0 0⟩], [], [], [([.v (.bool true)], 4)], some (w.heap.size, none), none⟩ [] (by kernel_rfl) trivial (fun ns_33 a w_34 hI _ => ?_)
    refine wpIn_ret ?_
    obtain rfl := Option.some.inj H0
    exact retM hI rfl rfl rfl (fun wz hz => ⟨rfl, (hE.below hI).trans hz.below⟩)
  · rintro r1 WX hzz ⟨hr0, hr1, hR_8, hR_9, hE, hI⟩
    subst hzz
    replace H0 : (some r1.2 : Option (Bool)) = _ := H0
    dsimp only
    obtain ⟨hE', hmv⟩ := hE.sub (S0 := S) (mine' := []) (sub_one [] [] _)
    have hmr : ∀ b : Nat, some b ∈ ([some l_14] : List (Option Nat)) → WX.heap[b]? = WX.heap[b]? := fun _ _ => rfl
    replace hr0 := Arr.keep hr0 hmv
    replace hr1 := Arr.keep hr1 hmv
    replace hR_8 := El.keep hR_8 hmv
    replace hR_9 := El.keep hR_9 hmv
    replace hE := hE'
    clear hE' hmv hmr
    refine wpIn_ret ?_
    refine inBlock_ret ?_
    refine then_ret ?_
    obtain rfl := Option.some.inj H0
    exact retM hI rfl rfl rfl (fun wz hz => ⟨rfl, (hE.below hI).trans hz.below⟩)

/-! ### porthole/portholelaw22.AuditApart: function 10 -/
noncomputable def G_law22_AuditApart.b1 (x0 : Config) (x1 : Portholelaw22_Times) (l2 : (List Int)) (t_3 : Bool) (t_10 : Bool) (t_12 : Bool) (s1 : Int × Int × Bool) : Option (Stp (Int × Int × Bool) (Ex (Int × Int × Bool) (Bool))) := (bif decide (s1.1 < (x0.Parts.length : Int)) then ((G_audit_Own x0 s1.1 x1.Before x1.After).bind fun t_30 => ((G_audit_Own x0 s1.1 x1.After l2).bind fun t_32 => ((cal (t_30 && t_32) (G_audit_Own x0 s1.1 x1.Before l2) default).bind fun t_54 => (bif ((t_30 && t_32) && (!t_54)) then some (.out (.ret false)) else some (.next ((IntKind.i64.wrap (s1.1 + 1)), (bif t_30 then (IntKind.i64.wrap (s1.2.1 + 1)) else s1.2.1), s1.2.2)))))) else some (.out (.brk (s1.1, s1.2.1, s1.2.2))))
noncomputable def G_law22_AuditApart (x0 : Config) (x1 : Portholelaw22_Times) (l2 : (List Int)) : Option (Bool) := ((G_law22_wakes).bind fun t_3 => (bif (!t_3) then some false else ((G_ref06_Great x0).bind fun t_10 => ((cal (!t_10) (G_ref07_Accepts x0) default).bind fun t_12 => (bif (((((t_10 || (!t_12)) || decide ((x1.Before.length : Int) > 300)) || decide ((x1.After.length : Int) > 300)) || ((x1.Before.length : Int) != (x1.After.length : Int))) || ((l2.length : Int) != (x1.After.length : Int))) then some true else ((loopω (G_law22_AuditApart.b1 x0 x1 l2 t_3 t_10 t_12) (0, 0, false)).bind fun o => o.on (fun s1 => ((cal (!(decide (s1.2.1 ≤ 1))) (G_audit_Quiet x1.Before x1.After) default).bind fun t_67 => some (decide (s1.2.1 ≤ 1) || t_67))) (fun r => some r)))))))
set_option maxRecDepth 100000 in
set_option maxHeartbeats 4000000 in
theorem G_law22_AuditApart.calls (x0 : Config) (x1 : Portholelaw22_Times) (l2 : (List Int)) (sv0 : SV) (sv1 : SV) (A2 : Option Addr) (c2 : Nat) (w : World) {S : Nat → Prop} (hx0 : (kd_Config).cont S w x0 sv0) (hx1 : (kd_Portholelaw22_Times).cont S w x1 sv1) (hr2 : Arr (Kd.int .u32) S w A2 l2) (hc2 : l2.length ≤ c2) (r : Bool) (h : G_law22_AuditApart x0 x1 l2 = some r) :
    Calls Try.prog 10 #[.agg ((kd_Config).cells x0 sv0).toArray, .agg ((kd_Portholelaw22_Times).cells x1 sv1).toArray, .slice A2 l2.length c2] w fun e w' => e = .returned (.bool r) ∧ Below w.heap.size w w' := by
  replace hx0 := Kd.lo _ hx0
  replace hx1 := Kd.lo _ hx1
  replace hr2 := Arr.lo hr2
  unfold G_law22_AuditApart at h
  have H0 := h
  clear h
  refine enter Try.func10 rfl [.agg ((kd_Config).cells x0 sv0).toArray, .agg ((kd_Portholelaw22_Times).cells x1 sv1).toArray, .slice A2 l2.length c2] (n := 94) rfl (Nat.le_of_ble_eq_true rfl) (fun a hI => ?_)
  have hF : FOpen Fence.wide := .inl rfl
  have hE := Ep.start w
  refine seq_region (live := [6, 4, 3, 2]) (orc := []) hF hI ⟨[⟨6, [], .v (.bool false)⟩, ⟨4, [], .p 1 0⟩, ⟨3, [], .p 0 0⟩, ⟨2, [], .v (.slice A2 l2.length c2)⟩], [], [], [((((kd_Config).cells x0 sv0).map EV.v), 29), ((((kd_Portholelaw22_Times).cells x1 sv1).map EV.v), 66)], none, none⟩ [] (by kernel_rfl) trivial (fun ns_1 a w_2 hI _ => ?_)
  refine wpIn_seq ?_
  obtain ⟨t_3, hG_4, H0⟩ := bind_some H0
  refine seq_region (live := [12, 6, 4, 3, 2]) (orc := [[.bool t_3]]) hF hI ⟨[⟨12, [], .v (.bool (!t_3))⟩, ⟨6, [], .v (.bool false)⟩, ⟨4, [], .p 1 0⟩, ⟨3, [], .p 0 0⟩, ⟨2, [], .v (.slice A2 l2.length c2)⟩], [], [], [((((kd_Config).cells x0 sv0).map EV.v), 29), ((((kd_Portholelaw22_Times).cells x1 sv1).map EV.v), 66)], none, none⟩ [.call true 30 [] (.bool t_3)] (by kernel_rfl) ⟨ob_call (enters Try.func30 (by kernel_rfl) rfl) (fun hg wz hk => G_law22_wakes.calls   wz (S := fun _ => True)  _ hG_4), trivial⟩ (fun ns_5 a w_6 hI _ => ?_)
  refine cond_ hI ((!t_3)) rfl (fun hc_7 => ?_) (fun hc_7 => ?_)
  · replace H0 := bif_t hc_7 H0
    refine seq_region (live := [6]) (orc := []) hF hI ⟨[⟨6, [], .v (.bool false)⟩], [], [], [((((kd_Config).cells x0 sv0).map EV.v), 29), ((((kd_Portholelaw22_Times).cells x1 sv1).map EV.v), 66)], none, none⟩ [] (by kernel_rfl) trivial (fun ns_8 a w_9 hI _ => ?_)
    refine wpIn_ret ?_
    refine then_ret ?_
    obtain rfl := Option.some.inj H0
    exact ret1 hI rfl rfl ⟨rfl, hE.below hI⟩
  · replace H0 := bif_f hc_7 H0
    refine wpIn_skip ?_
    refine then_normal ?_
    refine wpIn_seq ?_
    obtain ⟨t_10, hG_11, H0⟩ := bind_some H0
    obtain ⟨t_12, hG_13, H0⟩ := bind_some H0
    refine seq_region (live := [48, 6, 4, 3, 2]) (orc := [[.bool t_10], [.bool t_12]]) hF hI ⟨[⟨48, [], .v (.bool (((((t_10 || (!t_12)) || decide ((x1.Before.length : Int) > 300)) || decide ((x1.After.length : Int) > 300)) || ((x1.Before.length : Int) != (x1.After.length : Int))) || ((l2.length : Int) != (x1.After.length : Int))))⟩, ⟨6, [], .v (.bool false)⟩, ⟨4, [], .p 1 0⟩, ⟨3, [], .p 0 0⟩, ⟨2, [], .v (.slice A2 l2.length c2)⟩], [], [], [((((kd_Config).cells x0 sv0).map EV.v), 29), ((((kd_Portholelaw22_Times).cells x1 sv1).map EV.v), 66)], none, none⟩ [.call true 13 [.agg ((kd_Config).cells x0 sv0).toArray] (.bool t_10), .call (!t_10) 14 [.agg ((kd_Config).cells x0 sv0).toArray] (.bool t_12)] (by kernel_rfl) ⟨ob_call (enters Try.func13 (by kernel_rfl) rfl) (fun hg wz hk => G_ref06_Great.calls x0 sv0 wz (S := fun _ => True) (Kd.any _ (Kd.keep kd_Config (contI (S := Lo S w w [] []) (w := w) (d := kd_Config) (x := x0) (sv := sv0) ⟨⟨hx0.1.1, hx0.1.2⟩, ⟨hx0.2.1.1, hx0.2.1.2⟩, ⟨hx0.2.2.1.1, hx0.2.2.1.2⟩, ⟨hx0.2.2.2.1.1, hx0.2.2.2.1.2⟩, trivial⟩) (Lo.on hk))) _ hG_11), ob_call (enters Try.func14 (by kernel_rfl) rfl) (fun hg wz hk => G_ref07_Accepts.calls x0 sv0 wz (S := fun _ => True) (Kd.any _ (Kd.keep kd_Config (contI (S := Lo S w w [] []) (w := w) (d := kd_Config) (x := x0) (sv := sv0) ⟨⟨hx0.1.1, hx0.1.2⟩, ⟨hx0.2.1.1, hx0.2.1.2⟩, ⟨hx0.2.2.1.1, hx0.2.2.1.2⟩, ⟨hx0.2.2.2.1.1, hx0.2.2.2.1.2⟩, trivial⟩) (Lo.on hk))) _ (cal_some hG_13 hg)), trivial⟩ (fun ns_14 a w_15 hI _ => ?_)
    refine cond_ hI ((((((t_10 || (!t_12)) || decide ((x1.Before.length : Int) > 300)) || decide ((x1.After.length : Int) > 300)) || ((x1.Before.length : Int) != (x1.After.length : Int))) || ((l2.length : Int) != (x1.After.length : Int)))) rfl (fun hc_16 => ?_) (fun hc_16 => ?_)
    · replace H0 := bif_t hc_16 H0
      refine seq_region (live := [6]) (orc := []) hF hI ⟨[⟨6, [], .v (.bool true)⟩], [], [], [((((kd_Config).cells x0 sv0).map EV.v), 29), ((((kd_Portholelaw22_Times).cells x1 sv1).map EV.v), 66)], none, none⟩ [] (by kernel_rfl) trivial (fun ns_17 a w_18 hI _ => ?_)
      refine wpIn_ret ?_
      refine then_ret ?_
      obtain rfl := Option.some.inj H0
      exact ret1 hI rfl rfl ⟨rfl, hE.below hI⟩
    · replace H0 := bif_f hc_16 H0
      refine wpIn_skip ?_
      refine then_normal ?_
      refine seq_region (live := [7, 6, 4, 3, 2]) (orc := []) hF hI ⟨[⟨7, [], .v (.int .i64 0)⟩, ⟨6, [], .v (.bool false)⟩, ⟨4, [], .p 1 0⟩, ⟨3, [], .p 0 0⟩, ⟨2, [], .v (.slice A2 l2.length c2)⟩], [], [], [((((kd_Config).cells x0 sv0).map EV.v), 29), ((((kd_Portholelaw22_Times).cells x1 sv1).map EV.v), 66)], none, none⟩ [] (by kernel_rfl) trivial (fun ns_19 a w_20 hI _ => ?_)
      refine wpIn_seq ?_
      refine seq_region (live := [52, 51, 7, 6, 4, 3, 2]) (orc := []) hF hI ⟨[⟨52, [], .v (.int .i64 0)⟩, ⟨51, [], .v (.int .i64 (x0.Parts.length : Int))⟩, ⟨7, [], .v (.int .i64 0)⟩, ⟨6, [], .v (.bool false)⟩, ⟨4, [], .p 1 0⟩, ⟨3, [], .p 0 0⟩, ⟨2, [], .v (.slice A2 l2.length c2)⟩], [], [], [((((kd_Config).cells x0 sv0).map EV.v), 29), ((((kd_Portholelaw22_Times).cells x1 sv1).map EV.v), 66)], none, none⟩ [] (by kernel_rfl) trivial (fun ns_21 a w_22 hI _ => ?_)
      obtain ⟨o_63, hL_64, H0⟩ := bind_some H0
      refine block_loop (fun (s1 : Int × Int × Bool) a w_71 => ∃ ns, St w [] 94 ⟨[⟨52, [], .v (.int .i64 s1.1)⟩, ⟨51, [], .v (.int .i64 (x0.Parts.length : Int))⟩, ⟨7, [], .v (.int .i64 s1.2.1)⟩, ⟨6, [], .v (.bool s1.2.2)⟩, ⟨4, [], .p 1 0⟩, ⟨3, [], .p 0 0⟩, ⟨2, [], .v (.slice A2 l2.length c2)⟩], [], [], [((((kd_Config).cells x0 sv0).map EV.v), 29), ((((kd_Portholelaw22_Times).cells x1 sv1).map EV.v), 66)], none, none⟩ ns a w_71) (0, 0, false) hL_64 ⟨_, hI.pick [52, 51, 7, 6, 4, 3, 2] 2 ⟨[⟨52, [], .v (.int .i64 0)⟩, ⟨51, [], .v (.int .i64 (x0.Parts.length : Int))⟩, ⟨7, [], .v (.int .i64 0)⟩, ⟨6, [], .v (.bool false)⟩, ⟨4, [], .p 1 0⟩, ⟨3, [], .p 0 0⟩, ⟨2, [], .v (.slice A2 l2.length c2)⟩], [], [], [((((kd_Config).cells x0 sv0).map EV.v), 29), ((((kd_Portholelaw22_Times).cells x1 sv1).map EV.v), 66)], none, none⟩ (by kernel_rfl)⟩ ?_ ?_
      · clear hI
        rintro s1 a w_23 ⟨ns_24, hI⟩ r1 H1
        unfold G_law22_AuditApart.b1 at H1
        refine seq_region (live := [53, 52, 51, 7, 6, 4, 3, 2]) (orc := []) hF hI ⟨[⟨53, [], .v (.bool (decide (s1.1 < (x0.Parts.length : Int))))⟩, ⟨52, [], .v (.int .i64 s1.1)⟩, ⟨51, [], .v (.int .i64 (x0.Parts.length : Int))⟩, ⟨7, [], .v (.int .i64 s1.2.1)⟩, ⟨6, [], .v (.bool s1.2.2)⟩, ⟨4, [], .p 1 0⟩, ⟨3, [], .p 0 0⟩, ⟨2, [], .v (.slice A2 l2.length c2)⟩], [], [], [((((kd_Config).cells x0 sv0).map EV.v), 29), ((((kd_Portholelaw22_Times).cells x1 sv1).map EV.v), 66)], none, none⟩ [] (by kernel_rfl) trivial (fun ns_25 a w_26 hI _ => ?_)
        refine wpIn_seq ?_
        refine cond_ hI (decide (s1.1 < (x0.Parts.length : Int))) rfl (fun hc_27 => ?_) (fun hc_27 => ?_)
        · replace H1 := bif_t hc_27 H1
          refine wpIn_skip ?_
          refine then_normal ?_
          refine wpIn_seq ?_
          refine wpIn_block ?_
          refine seq_region (live := [8, 52, 51, 7, 6, 4, 3, 2]) (orc := []) hF hI ⟨[⟨8, [], .v (.int .i64 s1.1)⟩, ⟨52, [], .v (.int .i64 s1.1)⟩, ⟨51, [], .v (.int .i64 (x0.Parts.length : Int))⟩, ⟨7, [], .v (.int .i64 s1.2.1)⟩, ⟨6, [], .v (.bool s1.2.2)⟩, ⟨4, [], .p 1 0⟩, ⟨3, [], .p 0 0⟩, ⟨2, [], .v (.slice A2 l2.length c2)⟩], [], [], [((((kd_Config).cells x0 sv0).map EV.v), 29), ((((kd_Portholelaw22_Times).cells x1 sv1).map EV.v), 66)], none, none⟩ [] (by kernel_rfl) trivial (fun ns_28 a w_29 hI _ => ?_)
          refine wpIn_seq ?_
          obtain ⟨t_30, hG_31, H1⟩ := bind_some H1
          obtain ⟨t_32, hG_33, H1⟩ := bind_some H1
          refine drawn_ (live := [10, 9, 8, 52, 51, 7, 6, 4, 3, 2]) (orc := [[.bool t_30], [.bool t_32]]) hF hI ⟨[⟨10, [], .v (.bool t_32)⟩, ⟨9, [], .v (.bool t_30)⟩, ⟨8, [], .v (.int .i64 s1.1)⟩, ⟨52, [], .v (.int .i64 s1.1)⟩, ⟨51, [], .v (.int .i64 (x0.Parts.length : Int))⟩, ⟨7, [], .v (.int .i64 s1.2.1)⟩, ⟨6, [], .v (.bool s1.2.2)⟩, ⟨4, [], .p 1 0⟩, ⟨3, [], .p 0 0⟩, ⟨2, [], .v (.slice A2 l2.length c2)⟩], [], [], [((((kd_Config).cells x0 sv0).map EV.v), 29), ((((kd_Portholelaw22_Times).cells x1 sv1).map EV.v), 66)], none, none⟩ [.call true 34 [.agg ((kd_Config).cells x0 sv0).toArray, .int .i64 s1.1, .slice ((sv1 0).1) x1.Before.length ((sv1 0).2), .slice ((sv1 1).1) x1.After.length ((sv1 1).2)] (.bool t_30), .call true 34 [.agg ((kd_Config).cells x0 sv0).toArray, .int .i64 s1.1, .slice ((sv1 1).1) x1.After.length ((sv1 1).2), .slice A2 l2.length c2] (.bool t_32)] (by kernel_rfl) (by kernel_rfl) (by kernel_rfl) ⟨ob_call (enters Try.func34 (by kernel_rfl) rfl) (fun hg wz hk => G_audit_Own.calls x0 s1.1 x1.Before x1.After sv0 ((sv1 0).1) ((sv1 0).2) ((sv1 1).1) ((sv1 1).2) wz (S := fun _ => True) (Kd.any _ (Kd.keep kd_Config (contI (S := Lo S w w [] []) (w := w) (d := kd_Config) (x := x0) (sv := sv0) ⟨⟨hx0.1.1, hx0.1.2⟩, ⟨hx0.2.1.1, hx0.2.1.2⟩, ⟨hx0.2.2.1.1, hx0.2.2.1.2⟩, ⟨hx0.2.2.2.1.1, hx0.2.2.2.1.2⟩, trivial⟩) (Lo.on hk))) (Arr.any (Arr.keep hx1.1.1 (Lo.on hk))) hx1.1.2 (Arr.any (Arr.keep hx1.2.1.1 (Lo.on hk))) hx1.2.1.2 _ hG_31), ob_call (enters Try.func34 (by kernel_rfl) rfl) (fun hg wz hk => G_audit_Own.calls x0 s1.1 x1.After l2 sv0 ((sv1 1).1) ((sv1 1).2) A2 c2 wz (S := fun _ => True) (Kd.any _ (Kd.keep kd_Config (contI (S := Lo S w w [] []) (w := w) (d := kd_Config) (x := x0) (sv := sv0) ⟨⟨hx0.1.1, hx0.1.2⟩, ⟨hx0.2.1.1, hx0.2.1.2⟩, ⟨hx0.2.2.1.1, hx0.2.2.1.2⟩, ⟨hx0.2.2.2.1.1, hx0.2.2.2.1.2⟩, trivial⟩) (Lo.on hk))) (Arr.any (Arr.keep hx1.2.1.1 (Lo.on hk))) hx1.2.1.2 (Arr.any (Arr.keep hr2 (Lo.on hk))) hc2 _ hG_33), trivial⟩ (fun a w_34 hI => ?_)
          refine then_normal ?_
          refine wpIn_seq ?_
          refine seq_region (live := [68, 10, 9, 8, 52, 51, 7, 6, 4, 3, 2]) (orc := []) hF hI ⟨[⟨68, [], .v (.bool t_30)⟩, ⟨10, [], .v (.bool t_32)⟩, ⟨9, [], .v (.bool t_30)⟩, ⟨8, [], .v (.int .i64 s1.1)⟩, ⟨52, [], .v (.int .i64 s1.1)⟩, ⟨51, [], .v (.int .i64 (x0.Parts.length : Int))⟩, ⟨7, [], .v (.int .i64 s1.2.1)⟩, ⟨6, [], .v (.bool s1.2.2)⟩, ⟨4, [], .p 1 0⟩, ⟨3, [], .p 0 0⟩, ⟨2, [], .v (.slice A2 l2.length c2)⟩], [], [], [((((kd_Config).cells x0 sv0).map EV.v), 29), ((((kd_Portholelaw22_Times).cells x1 sv1).map EV.v), 66)], none, none⟩ [] (by kernel_rfl) trivial (fun ns_35 a w_36 hI _ => ?_)
          refine cond_merge hI (t_30) rfl ⟨[⟨7, [], .v (.int .i64 (IntKind.i64.wrap (s1.2.1 + 1)))⟩, ⟨10, [], .v (.bool t_32)⟩, ⟨9, [], .v (.bool t_30)⟩, ⟨8, [], .v (.int .i64 s1.1)⟩, ⟨52, [], .v (.int .i64 s1.1)⟩, ⟨51, [], .v (.int .i64 (x0.Parts.length : Int))⟩, ⟨6, [], .v (.bool s1.2.2)⟩, ⟨4, [], .p 1 0⟩, ⟨3, [], .p 0 0⟩, ⟨2, [], .v (.slice A2 l2.length c2)⟩], [], [], [((((kd_Config).cells x0 sv0).map EV.v), 29), ((((kd_Portholelaw22_Times).cells x1 sv1).map EV.v), 66)], none, none⟩ ⟨[⟨7, [], .v (.int .i64 s1.2.1)⟩, ⟨10, [], .v (.bool t_32)⟩, ⟨9, [], .v (.bool t_30)⟩, ⟨8, [], .v (.int .i64 s1.1)⟩, ⟨52, [], .v (.int .i64 s1.1)⟩, ⟨51, [], .v (.int .i64 (x0.Parts.length : Int))⟩, ⟨6, [], .v (.bool s1.2.2)⟩, ⟨4, [], .p 1 0⟩, ⟨3, [], .p 0 0⟩, ⟨2, [], .v (.slice A2 l2.length c2)⟩], [], [], [((((kd_Config).cells x0 sv0).map EV.v), 29), ((((kd_Portholelaw22_Times).cells x1 sv1).map EV.v), 66)], none, none⟩ (fun b => ⟨[⟨7, [], .v (.int .i64 (bif b then (IntKind.i64.wrap (s1.2.1 + 1)) else s1.2.1))⟩, ⟨10, [], .v (.bool t_32)⟩, ⟨9, [], .v (.bool t_30)⟩, ⟨8, [], .v (.int .i64 s1.1)⟩, ⟨52, [], .v (.int .i64 s1.1)⟩, ⟨51, [], .v (.int .i64 (x0.Parts.length : Int))⟩, ⟨6, [], .v (.bool s1.2.2)⟩, ⟨4, [], .p 1 0⟩, ⟨3, [], .p 0 0⟩, ⟨2, [], .v (.slice A2 l2.length c2)⟩], [], [], [((((kd_Config).cells x0 sv0).map EV.v), 29), ((((kd_Portholelaw22_Times).cells x1 sv1).map EV.v), 66)], none, none⟩) (fun b => by cases b <;> rfl) (fun hc_37 => ?_) (fun hc_37 => ?_) (fun ns_40 a w_41 hI => ?_)
          · refine region_ (live := [7, 10, 9, 8, 52, 51, 6, 4, 3, 2]) (orc := []) hF hI ⟨[⟨7, [], .v (.int .i64 (IntKind.i64.wrap (s1.2.1 + 1)))⟩, ⟨10, [], .v (.bool t_32)⟩, ⟨9, [], .v (.bool t_30)⟩, ⟨8, [], .v (.int .i64 s1.1)⟩, ⟨52, [], .v (.int .i64 s1.1)⟩, ⟨51, [], .v (.int .i64 (x0.Parts.length : Int))⟩, ⟨6, [], .v (.bool s1.2.2)⟩, ⟨4, [], .p 1 0⟩, ⟨3, [], .p 0 0⟩, ⟨2, [], .v (.slice A2 l2.length c2)⟩], [], [], [((((kd_Config).cells x0 sv0).map EV.v), 29), ((((kd_Portholelaw22_Times).cells x1 sv1).map EV.v), 66)], none, none⟩ [] (by kernel_rfl) trivial (fun ns_38 a w_39 hI _ => ?_)
            refine then_normal ?_
            exact ⟨_, hI.pick [7, 10, 9, 8, 52, 51, 6, 4, 3, 2] 2 ⟨[⟨7, [], .v (.int .i64 (IntKind.i64.wrap (s1.2.1 + 1)))⟩, ⟨10, [], .v (.bool t_32)⟩, ⟨9, [], .v (.bool t_30)⟩, ⟨8, [], .v (.int .i64 s1.1)⟩, ⟨52, [], .v (.int .i64 s1.1)⟩, ⟨51, [], .v (.int .i64 (x0.Parts.length : Int))⟩, ⟨6, [], .v (.bool s1.2.2)⟩, ⟨4, [], .p 1 0⟩, ⟨3, [], .p 0 0⟩, ⟨2, [], .v (.slice A2 l2.length c2)⟩], [], [], [((((kd_Config).cells x0 sv0).map EV.v), 29), ((((kd_Portholelaw22_Times).cells x1 sv1).map EV.v), 66)], none, none⟩ (by kernel_rfl)⟩
          · refine wpIn_skip ?_
            refine then_normal ?_
            exact ⟨_, hI.pick [7, 10, 9, 8, 52, 51, 6, 4, 3, 2] 2 ⟨[⟨7, [], .v (.int .i64 s1.2.1)⟩, ⟨10, [], .v (.bool t_32)⟩, ⟨9, [], .v (.bool t_30)⟩, ⟨8, [], .v (.int .i64 s1.1)⟩, ⟨52, [], .v (.int .i64 s1.1)⟩, ⟨51, [], .v (.int .i64 (x0.Parts.length : Int))⟩, ⟨6, [], .v (.bool s1.2.2)⟩, ⟨4, [], .p 1 0⟩, ⟨3, [], .p 0 0⟩, ⟨2, [], .v (.slice A2 l2.length c2)⟩], [], [], [((((kd_Config).cells x0 sv0).map EV.v), 29), ((((kd_Portholelaw22_Times).cells x1 sv1).map EV.v), 66)], none, none⟩ (by kernel_rfl)⟩
          · refine then_normal ?_
            obtain ⟨t_54, hG_55, H1⟩ := bind_some H1
            refine seq_region (live := [83, 7, 52, 51, 6, 4, 3, 2]) (orc := [[.bool t_54]]) hF hI ⟨[⟨83, [], .v (.bool ((t_30 && t_32) && (!t_54)))⟩, ⟨7, [], .v (.int .i64 (bif t_30 then (IntKind.i64.wrap (s1.2.1 + 1)) else s1.2.1))⟩, ⟨52, [], .v (.int .i64 s1.1)⟩, ⟨51, [], .v (.int .i64 (x0.Parts.length : Int))⟩, ⟨6, [], .v (.bool s1.2.2)⟩, ⟨4, [], .p 1 0⟩, ⟨3, [], .p 0 0⟩, ⟨2, [], .v (.slice A2 l2.length c2)⟩], [], [], [((((kd_Config).cells x0 sv0).map EV.v), 29), ((((kd_Portholelaw22_Times).cells x1 sv1).map EV.v), 66)], none, none⟩ [.call (t_30 && t_32) 34 [.agg ((kd_Config).cells x0 sv0).toArray, .int .i64 s1.1, .slice ((sv1 0).1) x1.Before.length ((sv1 0).2), .slice A2 l2.length c2] (.bool t_54)] (by kernel_rfl) ⟨ob_call (enters Try.func34 (by kernel_rfl) rfl) (fun hg wz hk => G_audit_Own.calls x0 s1.1 x1.Before l2 sv0 ((sv1 0).1) ((sv1 0).2) A2 c2 wz (S := fun _ => True) (Kd.any _ (Kd.keep kd_Config (contI (S := Lo S w w [] []) (w := w) (d := kd_Config) (x := x0) (sv := sv0) ⟨⟨hx0.1.1, hx0.1.2⟩, ⟨hx0.2.1.1, hx0.2.1.2⟩, ⟨hx0.2.2.1.1, hx0.2.2.1.2⟩, ⟨hx0.2.2.2.1.1, hx0.2.2.2.1.2⟩, trivial⟩) (Lo.on hk))) (Arr.any (Arr.keep hx1.1.1 (Lo.on hk))) hx1.1.2 (Arr.any (Arr.keep hr2 (Lo.on hk))) hc2 _ (cal_some hG_55 hg)), trivial⟩ (fun ns_56 a w_57 hI _ => ?_)
            refine cond_ hI (((t_30 && t_32) && (!t_54))) rfl (fun hc_58 => ?_) (fun hc_58 => ?_)
            · replace H1 := bif_t hc_58 H1
              refine seq_region (live := [6]) (orc := []) hF hI ⟨[⟨6, [], .v (.bool false)⟩], [], [], [((((kd_Config).cells x0 sv0).map EV.v), 29), ((((kd_Portholelaw22_Times).cells x1 sv1).map EV.v), 66)], none, none⟩ [] (by kernel_rfl) trivial (fun ns_59 a w_60 hI _ => ?_)
              refine wpIn_ret ?_
              refine inBlock_ret ?_
              refine then_ret ?_
              refine then_ret ?_
              obtain rfl := Option.some.inj H1
              refine .inr ⟨_, rfl, fun ho => ?_⟩
              subst ho
              refine inBlock_ret ?_
              refine then_ret ?_
              obtain rfl := Option.some.inj H0
              exact ret1 hI rfl rfl ⟨rfl, hE.below hI⟩
            · replace H1 := bif_f hc_58 H1
              refine wpIn_skip ?_
              refine inBlock_normal ?_
              refine then_normal ?_
              refine region_ (live := [52, 7, 51, 6, 4, 3, 2]) (orc := []) hF hI ⟨[⟨52, [], .v (.int .i64 (IntKind.i64.wrap (s1.1 + 1)))⟩, ⟨7, [], .v (.int .i64 (bif t_30 then (IntKind.i64.wrap (s1.2.1 + 1)) else s1.2.1))⟩, ⟨51, [], .v (.int .i64 (x0.Parts.length : Int))⟩, ⟨6, [], .v (.bool s1.2.2)⟩, ⟨4, [], .p 1 0⟩, ⟨3, [], .p 0 0⟩, ⟨2, [], .v (.slice A2 l2.length c2)⟩], [], [], [((((kd_Config).cells x0 sv0).map EV.v), 29), ((((kd_Portholelaw22_Times).cells x1 sv1).map EV.v), 66)], none, none⟩ [] (by kernel_rfl) trivial (fun ns_61 a w_62 hI _ => ?_)
              refine then_normal ?_
              obtain rfl := Option.some.inj H1
              exact ⟨_, rfl, ⟨_, hI.pick [52, 51, 7, 6, 4, 3, 2] 2 ⟨[⟨52, [], .v (.int .i64 (IntKind.i64.wrap (s1.1 + 1)))⟩, ⟨51, [], .v (.int .i64 (x0.Parts.length : Int))⟩, ⟨7, [], .v (.int .i64 (bif t_30 then (IntKind.i64.wrap (s1.2.1 + 1)) else s1.2.1))⟩, ⟨6, [], .v (.bool s1.2.2)⟩, ⟨4, [], .p 1 0⟩, ⟨3, [], .p 0 0⟩, ⟨2, [], .v (.slice A2 l2.length c2)⟩], [], [], [((((kd_Config).cells x0 sv0).map EV.v), 29), ((((kd_Portholelaw22_Times).cells x1 sv1).map EV.v), 66)], none, none⟩ (by kernel_rfl)⟩⟩
        · replace H1 := bif_f hc_27 H1
          refine wpIn_exit ?_
          refine then_exit ?_
          refine then_exit ?_
          obtain rfl := Option.some.inj H1
          exact .inl ⟨_, rfl, rfl, ⟨_, hI.pick [52, 51, 7, 6, 4, 3, 2] 2 ⟨[⟨52, [], .v (.int .i64 s1.1)⟩, ⟨51, [], .v (.int .i64 (x0.Parts.length : Int))⟩, ⟨7, [], .v (.int .i64 s1.2.1)⟩, ⟨6, [], .v (.bool s1.2.2)⟩, ⟨4, [], .p 1 0⟩, ⟨3, [], .p 0 0⟩, ⟨2, [], .v (.slice A2 l2.length c2)⟩], [], [], [((((kd_Config).cells x0 sv0).map EV.v), 29), ((((kd_Portholelaw22_Times).cells x1 sv1).map EV.v), 66)], none, none⟩ (by kernel_rfl)⟩⟩
      · clear hI
        rintro s1 a w_65 ho ⟨ns_66, hI⟩
        subst ho
        replace H0 : (((cal (!(decide (s1.2.1 ≤ 1))) (G_audit_Quiet x1.Before x1.After) default).bind fun t_67 => some (decide (s1.2.1 ≤ 1) || t_67)) : Option (Bool)) = _ := H0
        refine then_normal ?_
        obtain ⟨t_67, hG_68, H0⟩ := bind_some H0
        refine seq_region (live := [6]) (orc := [[.bool t_67]]) hF hI ⟨[⟨6, [], .v (.bool (decide (s1.2.1 ≤ 1) || t_67))⟩], [], [], [((((kd_Config).cells x0 sv0).map EV.v), 29), ((((kd_Portholelaw22_Times).cells x1 sv1).map EV.v), 66)], none, none⟩ [.call (!(decide (s1.2.1 ≤ 1))) 33 [.slice ((sv1 0).1) x1.Before.length ((sv1 0).2), .slice ((sv1 1).1) x1.After.length ((sv1 1).2)] (.bool t_67)] (by kernel_rfl) ⟨ob_call (enters Try.func33 (by kernel_rfl) rfl) (fun hg wz hk => G_audit_Quiet.calls x1.Before x1.After ((sv1 0).1) ((sv1 0).2) ((sv1 1).1) ((sv1 1).2) wz (S := fun _ => True) (Arr.any (Arr.keep hx1.1.1 (Lo.on hk))) hx1.1.2 (Arr.any (Arr.keep hx1.2.1.1 (Lo.on hk))) hx1.2.1.2 _ (cal_some hG_68 hg)), trivial⟩ (fun ns_69 a w_70 hI _ => ?_)
        refine wpIn_ret ?_
        obtain rfl := Option.some.inj H0
        exact ret1 hI rfl rfl ⟨rfl, hE.below hI⟩

/-! ### porthole/portholeref22.Changed: function 31 -/
noncomputable def G_ref22_Changed.b1 (l0 : (List Int)) (l1 : (List Int)) (s1 : Int × (List Int)) : Option (Stp (Int × (List Int)) (Ex (Int × (List Int)) ((List Int)))) := (bif (decide (s1.1 < (l0.length : Int)) || decide (s1.1 < (l1.length : Int))) then (req (imp (!(decide (s1.1 ≥ (l0.length : Int)) || decide (s1.1 ≥ (l1.length : Int)))) (inb s1.1 l0.length)) (req (imp (!(decide (s1.1 ≥ (l0.length : Int)) || decide (s1.1 ≥ (l1.length : Int)))) (inb s1.1 l1.length)) (bif ((decide (s1.1 ≥ (l0.length : Int)) || decide (s1.1 ≥ (l1.length : Int))) || ((rd l0 s1.1) != (rd l1 s1.1))) then (req (decide ((s1.2.length + 1) * 8 ≤ 140737488355328)) (some (.next ((IntKind.i64.wrap (s1.1 + 1)), (s1.2 ++ [s1.1]))))) else some (.next ((IntKind.i64.wrap (s1.1 + 1)), s1.2))))) else some (.out (.brk (s1.1, s1.2))))
noncomputable def G_ref22_Changed (l0 : (List Int)) (l1 : (List Int)) : Option ((List Int)) := ((loopω (G_ref22_Changed.b1 l0 l1) (0, ([] : List Int))).bind fun o => o.on (fun s1 => some s1.2) (fun r => some r))
set_option maxRecDepth 100000 in
set_option maxHeartbeats 4000000 in
theorem G_ref22_Changed.calls (l0 : (List Int)) (l1 : (List Int)) (A0 : Option Addr) (c0 : Nat) (A1 : Option Addr) (c1 : Nat) (w : World) {S : Nat → Prop} (hr0 : Arr (Kd.int .u32) S w A0 l0) (hc0 : l0.length ≤ c0) (hr1 : Arr (Kd.int .u32) S w A1 l1) (hc1 : l1.length ≤ c1) (r : (List Int)) (h : G_ref22_Changed l0 l1 = some r) :
    Calls Try.prog 31 #[.slice A0 l0.length c0, .slice A1 l1.length c1] w fun e w' => ∃ sv : SV, e = .returned (.slice ((sv 0).1) r.length ((sv 0).2)) ∧ Below w.heap.size w w' ∧ (Arr (Kd.int .i64) (fun b => w.heap.size ≤ b ∨ S b) w' (sv 0).1 r ∧ r.length ≤ (sv 0).2) := by
  replace hr0 := Arr.lo hr0
  replace hr1 := Arr.lo hr1
  unfold G_ref22_Changed at h
  have H0 := h
  clear h
  refine enter Try.func31 rfl [.slice A0 l0.length c0, .slice A1 l1.length c1] (n := 45) rfl (Nat.le_of_ble_eq_true rfl) (fun a hI => ?_)
  have hF : FOpen Fence.wide := .inl rfl
  have hE := Ep.start w
  refine seq_region (live := [4, 0, 1]) (orc := []) hF hI ⟨[⟨4, [], .v (.slice none 0 0)⟩, ⟨0, [], .v (.slice A0 l0.length c0)⟩, ⟨1, [], .v (.slice A1 l1.length c1)⟩], [], [], [], none, none⟩ [] (by kernel_rfl) trivial (fun ns_1 a w_2 hI _ => ?_)
  refine seq_region (live := [5, 4, 0, 1]) (orc := []) hF hI ⟨[⟨5, [], .v (.slice none 0 0)⟩, ⟨4, [], .v (.slice none 0 0)⟩, ⟨0, [], .v (.slice A0 l0.length c0)⟩, ⟨1, [], .v (.slice A1 l1.length c1)⟩], [], [], [], none, none⟩ [] (by kernel_rfl) trivial (fun ns_3 a w_4 hI _ => ?_)
  refine wpIn_seq ?_
  refine seq_region (live := [6, 5, 4, 0, 1]) (orc := []) hF hI ⟨[⟨6, [], .v (.int .i64 0)⟩, ⟨5, [], .v (.slice none 0 0)⟩, ⟨4, [], .v (.slice none 0 0)⟩, ⟨0, [], .v (.slice A0 l0.length c0)⟩, ⟨1, [], .v (.slice A1 l1.length c1)⟩], [], [], [], none, none⟩ [] (by kernel_rfl) trivial (fun ns_5 a w_6 hI _ => ?_)
  obtain ⟨hE', hmv, hmr⟩ := Ep.rebase (S0 := S) hE hI
  replace hr0 := Arr.keep hr0 hmv
  replace hr1 := Arr.keep hr1 hmv
  replace hE := hE'
  replace hI := hI.rebase
  clear hE' hmv hmr
  obtain ⟨hE', hmv⟩ := Ep.addNil (S0 := S) hE
  have hmr : ∀ b : Nat, some b ∈ ([] : List (Option Nat)) → w_6.heap[b]? = w_6.heap[b]? := fun _ _ => rfl
  replace hr0 := Arr.keep hr0 hmv
  replace hr1 := Arr.keep hr1 hmv
  replace hE := hE'
  clear hE' hmv hmr
  have hq_7 : Row (Kd.int .i64) 3 (Lo S w w_6 ns_5 [rb none]) w_6 w.heap.size none 0 ([] : List Int) := Row.nil
  obtain ⟨o_42, hL_43, H0⟩ := bind_some H0
  refine block_loop (fun (s1 : Int × (List Int)) a w_50 => ∃ (ow ns : List Nat) (A_8 : Option Addr) (c_9 : Nat), (Arr (Kd.int .u32) (Lo S w w_50 ow [rb A_8]) w_50 A0 l0) ∧ (Arr (Kd.int .u32) (Lo S w w_50 ow [rb A_8]) w_50 A1 l1) ∧ (Row (Kd.int .i64) 3 (Lo S w w_50 ow [rb A_8]) w_50 w.heap.size A_8 c_9 s1.2) ∧ Ep w w_50 ow [rb A_8] ∧ St w_50 ow 45 ⟨[⟨6, [], .v (.int .i64 s1.1)⟩, ⟨5, [], .v (.slice A_8 s1.2.length c_9)⟩, ⟨4, [], .v (.slice none 0 0)⟩, ⟨0, [], .v (.slice A0 l0.length c0)⟩, ⟨1, [], .v (.slice A1 l1.length c1)⟩], [], [], [], none, none⟩ ns a w_50) (0, ([] : List Int)) hL_43 ⟨_, _, _, _, hr0, hr1, hq_7, hE, hI.pick [6, 5, 4, 0, 1] 0 ⟨[⟨6, [], .v (.int .i64 0)⟩, ⟨5, [], .v (.slice none ([] : List Int).length 0)⟩, ⟨4, [], .v (.slice none 0 0)⟩, ⟨0, [], .v (.slice A0 l0.length c0)⟩, ⟨1, [], .v (.slice A1 l1.length c1)⟩], [], [], [], none, none⟩ (by kernel_rfl)⟩ ?_ ?_
  · clear hI hE
    rintro s1 a w_10 ⟨ow_12, ns_11, A_8, c_9, hr0, hr1, hq_7, hE, hI⟩ r1 H1
    unfold G_ref22_Changed.b1 at H1
    refine wpIn_seq ?_
    refine seq_region (live := [16, 6, 5, 4, 0, 1]) (orc := []) hF hI ⟨[⟨16, [], .v (.bool (decide (s1.1 < (l0.length : Int)) || decide (s1.1 < (l1.length : Int))))⟩, ⟨6, [], .v (.int .i64 s1.1)⟩, ⟨5, [], .v (.slice A_8 s1.2.length c_9)⟩, ⟨4, [], .v (.slice none 0 0)⟩, ⟨0, [], .v (.slice A0 l0.length c0)⟩, ⟨1, [], .v (.slice A1 l1.length c1)⟩], [], [], [], none, none⟩ [] (by kernel_rfl) trivial (fun ns_13 a w_14 hI _ => ?_)
    refine cond_ hI ((decide (s1.1 < (l0.length : Int)) || decide (s1.1 < (l1.length : Int)))) rfl (fun hc_15 => ?_) (fun hc_15 => ?_)
    · replace H1 := bif_t hc_15 H1
      refine wpIn_skip ?_
      refine then_normal ?_
      refine wpIn_seq ?_
      refine wpIn_block ?_
      refine wpIn_seq ?_
      obtain ⟨hN_16, H1⟩ := req_some H1
      obtain ⟨sv_17, hE_19, hA_18⟩ := Arr.elB (d := (Kd.int .u32)) hr0 s1.1 (!(decide (s1.1 ≥ (l0.length : Int)) || decide (s1.1 ≥ (l1.length : Int)))) (fun hg => imp_spec hN_16 hg)
      obtain ⟨hN_20, H1⟩ := req_some H1
      obtain ⟨sv_21, hE_23, hA_22⟩ := Arr.elB (d := (Kd.int .u32)) hr1 s1.1 (!(decide (s1.1 ≥ (l0.length : Int)) || decide (s1.1 ≥ (l1.length : Int)))) (fun hg => imp_spec hN_20 hg)
      refine drawn_ (live := [39, 6, 5, 4, 0, 1]) (orc := [[.int .u32 (rd l0 s1.1)], [.int .u32 (rd l1 s1.1)]]) hF hI ⟨[⟨39, [], .v (.bool ((decide (s1.1 ≥ (l0.length : Int)) || decide (s1.1 ≥ (l1.length : Int))) || ((rd l0 s1.1) != (rd l1 s1.1))))⟩, ⟨6, [], .v (.int .i64 s1.1)⟩, ⟨5, [], .v (.slice A_8 s1.2.length c_9)⟩, ⟨4, [], .v (.slice none 0 0)⟩, ⟨0, [], .v (.slice A0 l0.length c0)⟩, ⟨1, [], .v (.slice A1 l1.length c1)⟩], [], [], [], none, none⟩ [.need (!(decide (s1.1 ≥ (l0.length : Int)) || decide (s1.1 ≥ (l1.length : Int)))) (0 ≤ s1.1 ∧ s1.1 < (l0.length : Int)), .need (!(decide (s1.1 ≥ (l0.length : Int)) || decide (s1.1 ≥ (l1.length : Int)))) (A0 = some (adr A0)), .cell (!(decide (s1.1 ≥ (l0.length : Int)) || decide (s1.1 ≥ (l1.length : Int)))) ((adr A0).add ((s1.1 : Int).toNat * 1)) [.int .u32 (rd l0 s1.1)], .need (!(decide (s1.1 ≥ (l0.length : Int)) || decide (s1.1 ≥ (l1.length : Int)))) (0 ≤ s1.1 ∧ s1.1 < (l1.length : Int)), .need (!(decide (s1.1 ≥ (l0.length : Int)) || decide (s1.1 ≥ (l1.length : Int)))) (A1 = some (adr A1)), .cell (!(decide (s1.1 ≥ (l0.length : Int)) || decide (s1.1 ≥ (l1.length : Int)))) ((adr A1).add ((s1.1 : Int).toNat * 1)) [.int .u32 (rd l1 s1.1)]] (by kernel_rfl) (by kernel_rfl) (by kernel_rfl) ⟨ob_inb (fun hg => imp_spec hN_16 hg), hA_18, ob_el (fun hg => hE_19 hg) 0 [.int .u32 (rd l0 s1.1)] rfl, ob_inb (fun hg => imp_spec hN_20 hg), hA_22, ob_el (fun hg => hE_23 hg) 0 [.int .u32 (rd l1 s1.1)] rfl, trivial⟩ (fun a w_24 hI => ?_)
      refine then_normal ?_
      refine cond_ hI (((decide (s1.1 ≥ (l0.length : Int)) || decide (s1.1 ≥ (l1.length : Int))) || ((rd l0 s1.1) != (rd l1 s1.1)))) rfl (fun hc_25 => ?_) (fun hc_25 => ?_)
      · replace H1 := bif_t hc_25 H1
        refine wpIn_region_lit ?_
        refine chunkL_ (live := [41, 40, 6, 5, 4, 0, 1]) (orc := []) hF 2 hI ⟨[⟨41, [], .v (.int .i64 s1.1)⟩, ⟨40, [], .v (.slice A_8 s1.2.length c_9)⟩, ⟨6, [], .v (.int .i64 s1.1)⟩, ⟨5, [], .v (.slice A_8 s1.2.length c_9)⟩, ⟨4, [], .v (.slice none 0 0)⟩, ⟨0, [], .v (.slice A0 l0.length c0)⟩, ⟨1, [], .v (.slice A1 l1.length c1)⟩], [], [], [], none, none⟩ [] rfl (by kernel_rfl) trivial (fun ns_26 a w_27 hI => ?_)
        obtain ⟨hE', hmv, hmr⟩ := Ep.rebase (S0 := S) hE hI
        replace hr0 := Arr.keep hr0 hmv
        replace hr1 := Arr.keep hr1 hmv
        replace hq_7 := Row.keep hq_7 hmv (fun b hb => hmr b (by rw [← hb]; first | (simp; done) | simp [rb]))
        replace hE := hE'
        replace hI := hI.rebase
        clear hE' hmv hmr
        refine buildSlice_ (S0 := S) (d := (Kd.int .i64)) (e := 3) hF hE hI (wanted_none rfl) rfl (by kernel_rfl) (cs := [.int .i64 s1.1]) (by kernel_rfl) [s1.1] [(svL [])] rfl rfl (by simp [maxLen]) (fun i x hi => by cases i with | zero => (simp only [List.getElem?_cons_zero, Option.some.injEq] at hi; subst hi; exact ⟨trivial, rfl⟩) | succ i => (simp only [List.getElem?_cons_succ] at hi; simp at hi)) (fun A_28 => ⟨[⟨42, [], .v (.slice A_28 ([s1.1] : List Int).length (([s1.1] : List Int).length))⟩, ⟨41, [], .v (.int .i64 s1.1)⟩, ⟨40, [], .v (.slice A_8 s1.2.length c_9)⟩, ⟨6, [], .v (.int .i64 s1.1)⟩, ⟨5, [], .v (.slice A_8 s1.2.length c_9)⟩, ⟨4, [], .v (.slice none 0 0)⟩, ⟨0, [], .v (.slice A0 l0.length c0)⟩, ⟨1, [], .v (.slice A1 l1.length c1)⟩], [], [], [], none, none⟩) (fun A_28 => by kernel_rfl) (fun A_28 a w_30 hput hE' hI' hmv hmr hq_29 => ?_)
        replace hr0 := Arr.keep hr0 hmv
        replace hr1 := Arr.keep hr1 hmv
        replace hq_7 := Row.keep hq_7 hmv (fun b hb => hmr b (by rw [← hb]; first | (simp; done) | simp [rb]) (by simp))
        replace hE := hE'
        replace hI := hI'
        clear hE' hI' hmv hmr
        obtain ⟨hE', hmv, hq_29, hcap_31⟩ := Row.still (l1 := [rb A_8]) (l2 := []) hq_29 hE
        have hmr : ∀ b : Nat, some b ∈ ([rb A_8, rb A_28] : List (Option Nat)) → w_30.heap[b]? = w_30.heap[b]? := fun _ _ => rfl
        replace hr0 := Arr.keep hr0 hmv
        replace hr1 := Arr.keep hr1 hmv
        replace hq_7 := Row.keep hq_7 hmv (fun b hb => hmr b (by rw [← hb]; first | (simp; done) | simp [rb]))
        replace hE := hE'
        clear hE' hmv hmr
        obtain ⟨hN_32, H1⟩ := req_some H1
        replace hN_32 := of_decide_eq_true hN_32
        refine append_ (S0 := S) (l1 := []) (l2 := []) (d := (Kd.int .i64)) (e := 3) hF hE hI (wanted_none rfl) rfl (A := A_8) (c := c_9) (l := s1.2) rfl (A2 := A_28) (c2 := (([s1.1] : List Int).length)) rfl hq_7 hq_29 (fun sv u hu => by exact kd_one_int _ sv u hu) Try.underlying39 (zi := (.int .i64 0, 1, 8)) (by kernel_rfl) rfl (by kernel_rfl) (len_max (by decide) hN_32) hN_32 (fun A_33 c_34 => ⟨[⟨43, [], .v (.slice A_33 (s1.2 ++ [s1.1]).length c_34)⟩, ⟨42, [], .v (.slice A_28 ([s1.1] : List Int).length (([s1.1] : List Int).length))⟩, ⟨41, [], .v (.int .i64 s1.1)⟩, ⟨40, [], .v (.slice A_8 s1.2.length c_9)⟩, ⟨6, [], .v (.int .i64 s1.1)⟩, ⟨5, [], .v (.slice A_8 s1.2.length c_9)⟩, ⟨4, [], .v (.slice none 0 0)⟩, ⟨0, [], .v (.slice A0 l0.length c0)⟩, ⟨1, [], .v (.slice A1 l1.length c1)⟩], [], [], [], none, none⟩) (fun A_33 c_34 => by kernel_rfl) (fun A_33 c_34 a w_35 hput hE' hI' hmv hmr hq_7 => ?_)
        replace hr0 := Arr.keep hr0 hmv
        replace hr1 := Arr.keep hr1 hmv
        replace hq_29 := Arr.keep hq_29 hmv
        replace hE := hE'
        replace hI := hI'
        clear hE' hI' hmv hmr
        refine chunkL_ (live := [5, 6, 4, 0, 1]) (orc := []) hF 1 hI ⟨[⟨5, [], .v (.slice A_33 (s1.2 ++ [s1.1]).length c_34)⟩, ⟨6, [], .v (.int .i64 s1.1)⟩, ⟨4, [], .v (.slice none 0 0)⟩, ⟨0, [], .v (.slice A0 l0.length c0)⟩, ⟨1, [], .v (.slice A1 l1.length c1)⟩], [], [], [], none, none⟩ [] rfl (by kernel_rfl) trivial (fun ns_36 a w_37 hI => ?_)
        refine wpListIn_nil ?_
        refine inBlock_normal ?_
        refine then_normal ?_
        refine region_ (live := [6, 5, 4, 0, 1]) (orc := []) hF hI ⟨[⟨6, [], .v (.int .i64 (IntKind.i64.wrap (s1.1 + 1)))⟩, ⟨5, [], .v (.slice A_33 (s1.2 ++ [s1.1]).length c_34)⟩, ⟨4, [], .v (.slice none 0 0)⟩, ⟨0, [], .v (.slice A0 l0.length c0)⟩, ⟨1, [], .v (.slice A1 l1.length c1)⟩], [], [], [], none, none⟩ [] (by kernel_rfl) trivial (fun ns_38 a w_39 hI _ => ?_)
        refine then_normal ?_
        obtain ⟨hE', hmv, hmr⟩ := Ep.rebase (S0 := S) hE hI
        replace hr0 := Arr.keep hr0 hmv
        replace hr1 := Arr.keep hr1 hmv
        replace hq_29 := Arr.keep hq_29 hmv
        replace hq_7 := Row.keep hq_7 hmv (fun b hb => hmr b (by rw [← hb]; first | (simp; done) | simp [rb]))
        replace hE := hE'
        replace hI := hI.rebase
        clear hE' hmv hmr
        obtain rfl := Option.some.inj H1
        exact ⟨_, rfl, ⟨_, _, _, _, hr0, hr1, hq_7, hE, hI.pick [6, 5, 4, 0, 1] 0 ⟨[⟨6, [], .v (.int .i64 (IntKind.i64.wrap (s1.1 + 1)))⟩, ⟨5, [], .v (.slice A_33 (s1.2 ++ [s1.1]).length c_34)⟩, ⟨4, [], .v (.slice none 0 0)⟩, ⟨0, [], .v (.slice A0 l0.length c0)⟩, ⟨1, [], .v (.slice A1 l1.length c1)⟩], [], [], [], none, none⟩ (by kernel_rfl)⟩⟩
      · replace H1 := bif_f hc_25 H1
        refine wpIn_skip ?_
        refine inBlock_normal ?_
        refine then_normal ?_
        refine region_ (live := [6, 5, 4, 0, 1]) (orc := []) hF hI ⟨[⟨6, [], .v (.int .i64 (IntKind.i64.wrap (s1.1 + 1)))⟩, ⟨5, [], .v (.slice A_8 s1.2.length c_9)⟩, ⟨4, [], .v (.slice none 0 0)⟩, ⟨0, [], .v (.slice A0 l0.length c0)⟩, ⟨1, [], .v (.slice A1 l1.length c1)⟩], [], [], [], none, none⟩ [] (by kernel_rfl) trivial (fun ns_40 a w_41 hI _ => ?_)
        refine then_normal ?_
        obtain ⟨hE', hmv, hmr⟩ := Ep.rebase (S0 := S) hE hI
        replace hr0 := Arr.keep hr0 hmv
        replace hr1 := Arr.keep hr1 hmv
        replace hq_7 := Row.keep hq_7 hmv (fun b hb => hmr b (by rw [← hb]; first | (simp; done) | simp [rb]))
        replace hE := hE'
        replace hI := hI.rebase
        clear hE' hmv hmr
        obtain rfl := Option.some.inj H1
        exact ⟨_, rfl, ⟨_, _, _, _, hr0, hr1, hq_7, hE, hI.pick [6, 5, 4, 0, 1] 0 ⟨[⟨6, [], .v (.int .i64 (IntKind.i64.wrap (s1.1 + 1)))⟩, ⟨5, [], .v (.slice A_8 s1.2.length c_9)⟩, ⟨4, [], .v (.slice none 0 0)⟩, ⟨0, [], .v (.slice A0 l0.length c0)⟩, ⟨1, [], .v (.slice A1 l1.length c1)⟩], [], [], [], none, none⟩ (by kernel_rfl)⟩⟩
    · replace H1 := bif_f hc_15 H1
      refine wpIn_exit ?_
      refine then_exit ?_
      refine then_exit ?_
      obtain ⟨hE', hmv, hmr⟩ := Ep.rebase (S0 := S) hE hI
      replace hr0 := Arr.keep hr0 hmv
      replace hr1 := Arr.keep hr1 hmv
      replace hq_7 := Row.keep hq_7 hmv (fun b hb => hmr b (by rw [← hb]; first | (simp; done) | simp [rb]))
      replace hE := hE'
      replace hI := hI.rebase
      clear hE' hmv hmr
      obtain rfl := Option.some.inj H1
      exact .inl ⟨_, rfl, rfl, ⟨_, _, _, _, hr0, hr1, hq_7, hE, hI.pick [6, 5, 4, 0, 1] 0 ⟨[⟨6, [], .v (.int .i64 s1.1)⟩, ⟨5, [], .v (.slice A_8 s1.2.length c_9)⟩, ⟨4, [], .v (.slice none 0 0)⟩, ⟨0, [], .v (.slice A0 l0.length c0)⟩, ⟨1, [], .v (.slice A1 l1.length c1)⟩], [], [], [], none, none⟩ (by kernel_rfl)⟩⟩
  · clear hI hE
    rintro s1 a w_44 ho ⟨ow_46, ns_45, A_8, c_9, hr0, hr1, hq_7, hE, hI⟩
    subst ho
    replace H0 : (some s1.2 : Option ((List Int))) = _ := H0
    refine then_normal ?_
    refine seq_region (live := [4]) (orc := []) hF hI ⟨[⟨4, [], .v (.slice A_8 s1.2.length c_9)⟩], [], [], [], none, none⟩ [] (by kernel_rfl) trivial (fun ns_47 a w_48 hI _ => ?_)
    obtain ⟨hE', hmv, hmr⟩ := Ep.rebase (S0 := S) hE hI
    replace hr0 := Arr.keep hr0 hmv
    replace hr1 := Arr.keep hr1 hmv
    replace hq_7 := Row.keep hq_7 hmv (fun b hb => hmr b (by rw [← hb]; first | (simp; done) | simp [rb]))
    replace hE := hE'
    replace hI := hI.rebase
    clear hE' hmv hmr
    obtain ⟨hE', hmv, hq_7, hcap_49⟩ := Row.still (l1 := []) (l2 := []) hq_7 hE
    have hmr : ∀ b : Nat, some b ∈ ([rb A_8] : List (Option Nat)) → w_48.heap[b]? = w_48.heap[b]? := fun _ _ => rfl
    replace hr0 := Arr.keep hr0 hmv
    replace hr1 := Arr.keep hr1 hmv
    replace hE := hE'
    clear hE' hmv hmr
    refine wpIn_ret ?_
    obtain rfl := Option.some.inj H0
    exact ret1 hI rfl rfl ⟨svL [(A_8, c_9)], rfl, hE.below hI, ⟨Arr.keep hq_7 (hE.out hI), hcap_49⟩⟩

/-! ### porthole/portholeref08.Private: function 68 -/
noncomputable def G_ref08_Private.b1 (x0 : Config) (a1 : Int) (t_3 : Bool) (s1 : Int × Int) : Option (Stp (Int × Int) (Ex (Int × Int) (Span))) := (bif decide (s1.1 < a1) then (req (inb s1.1 x0.Parts.length) (some (.next ((IntKind.i64.wrap (s1.1 + 1)), (IntKind.i64.wrap (s1.2 + ((rd x0.Parts s1.1).Private))))))) else some (.out (.brk (s1.1, s1.2))))
noncomputable def G_ref08_Private (x0 : Config) (a1 : Int) : Option (Span) := ((G_ref07_Accepts x0).bind fun t_3 => (bif (((!t_3) || decide (a1 < 0)) || decide (a1 ≥ (x0.Parts.length : Int))) then some (⟨0, 0⟩ : Span) else ((loopω (G_ref08_Private.b1 x0 a1 t_3) (0, 0)).bind fun o => o.on (fun s1 => (req (inb a1 x0.Parts.length) (some (⟨s1.2, (rd x0.Parts a1).Private⟩ : Span)))) (fun r => some r))))
set_option maxRecDepth 100000 in
set_option maxHeartbeats 4000000 in
theorem G_ref08_Private.calls (x0 : Config) (a1 : Int) (sv0 : SV) (w : World) {S : Nat → Prop} (hx0 : (kd_Config).cont S w x0 sv0) (r : Span) (h : G_ref08_Private x0 a1 = some r) :
    Calls Try.prog 68 #[.agg ((kd_Config).cells x0 sv0).toArray, .int .i64 a1] w fun e w' => e = .returned (.agg ((kd_Span).cells r (svL [])).toArray) ∧ Below w.heap.size w w' := by
  replace hx0 := Kd.lo _ hx0
  unfold G_ref08_Private at h
  have H0 := h
  clear h
  refine enter Try.func68 rfl [.agg ((kd_Config).cells x0 sv0).toArray, .int .i64 a1] (n := 43) rfl (Nat.le_of_ble_eq_true rfl) (fun a hI => ?_)
  have hF : FOpen Fence.wide := .inl rfl
  have hE := Ep.start w
  refine seq_region (live := [4, 2, 1]) (orc := []) hF hI ⟨[⟨4, [], .p 1 0⟩, ⟨2, [], .p 0 0⟩, ⟨1, [], .v (.int .i64 a1)⟩], [], [], [((((kd_Config).cells x0 sv0).map EV.v), 29), ([.v (.int .i64 0), .v (.int .i64 0)], 109)], none, none⟩ [] (by kernel_rfl) trivial (fun ns_1 a w_2 hI _ => ?_)
  refine wpIn_seq ?_
  obtain ⟨t_3, hG_4, H0⟩ := bind_some H0
  refine seq_region (live := [20, 4, 2, 1]) (orc := [[.bool t_3]]) hF hI ⟨[⟨20, [], .v (.bool (((!t_3) || decide (a1 < 0)) || decide (a1 ≥ (x0.Parts.length : Int))))⟩, ⟨4, [], .p 1 0⟩, ⟨2, [], .p 0 0⟩, ⟨1, [], .v (.int .i64 a1)⟩], [], [], [((((kd_Config).cells x0 sv0).map EV.v), 29), ([.v (.int .i64 0), .v (.int .i64 0)], 109)], none, none⟩ [.call true 14 [.agg ((kd_Config).cells x0 sv0).toArray] (.bool t_3)] (by kernel_rfl) ⟨ob_call (enters Try.func14 (by kernel_rfl) rfl) (fun hg wz hk => G_ref07_Accepts.calls x0 sv0 wz (S := fun _ => True) (Kd.any _ (Kd.keep kd_Config (contI (S := Lo S w w [] []) (w := w) (d := kd_Config) (x := x0) (sv := sv0) ⟨⟨hx0.1.1, hx0.1.2⟩, ⟨hx0.2.1.1, hx0.2.1.2⟩, ⟨hx0.2.2.1.1, hx0.2.2.1.2⟩, ⟨hx0.2.2.2.1.1, hx0.2.2.2.1.2⟩, trivial⟩) (Lo.on hk))) _ hG_4), trivial⟩ (fun ns_5 a w_6 hI _ => ?_)
  refine cond_ hI ((((!t_3) || decide (a1 < 0)) || decide (a1 ≥ (x0.Parts.length : Int)))) rfl (fun hc_7 => ?_) (fun hc_7 => ?_)
  · replace H0 := bif_t hc_7 H0
    refine seq_region (live := [4]) (orc := []) hF hI ⟨[⟨4, [], .p 1 0⟩], [], [], [((((kd_Config).cells x0 sv0).map EV.v), 29), ([.v (.int .i64 0), .v (.int .i64 0)], 109)], none, none⟩ [] (by kernel_rfl) trivial (fun ns_8 a w_9 hI _ => ?_)
    refine wpIn_ret ?_
    refine then_ret ?_
    obtain rfl := Option.some.inj H0
    exact retCell hI rfl rfl rfl rfl rfl rfl ⟨rfl, hE.below hI⟩
  · replace H0 := bif_f hc_7 H0
    refine wpIn_skip ?_
    refine then_normal ?_
    refine seq_region (live := [5, 4, 2, 1]) (orc := []) hF hI ⟨[⟨5, [], .v (.int .i64 0)⟩, ⟨4, [], .p 1 0⟩, ⟨2, [], .p 0 0⟩, ⟨1, [], .v (.int .i64 a1)⟩], [], [], [((((kd_Config).cells x0 sv0).map EV.v), 29), ([.v (.int .i64 0), .v (.int .i64 0)], 109)], none, none⟩ [] (by kernel_rfl) trivial (fun ns_10 a w_11 hI _ => ?_)
    refine wpIn_seq ?_
    refine seq_region (live := [6, 5, 4, 2, 1]) (orc := []) hF hI ⟨[⟨6, [], .v (.int .i64 0)⟩, ⟨5, [], .v (.int .i64 0)⟩, ⟨4, [], .p 1 0⟩, ⟨2, [], .p 0 0⟩, ⟨1, [], .v (.int .i64 a1)⟩], [], [], [((((kd_Config).cells x0 sv0).map EV.v), 29), ([.v (.int .i64 0), .v (.int .i64 0)], 109)], none, none⟩ [] (by kernel_rfl) trivial (fun ns_12 a w_13 hI _ => ?_)
    obtain ⟨o_27, hL_28, H0⟩ := bind_some H0
    refine block_loop (fun (s1 : Int × Int) a w_37 => ∃ ns, St w [] 43 ⟨[⟨6, [], .v (.int .i64 s1.1)⟩, ⟨5, [], .v (.int .i64 s1.2)⟩, ⟨4, [], .p 1 0⟩, ⟨2, [], .p 0 0⟩, ⟨1, [], .v (.int .i64 a1)⟩], [], [], [((((kd_Config).cells x0 sv0).map EV.v), 29), ([.v (.int .i64 0), .v (.int .i64 0)], 109)], none, none⟩ ns a w_37) (0, 0) hL_28 ⟨_, hI.pick [6, 5, 4, 2, 1] 2 ⟨[⟨6, [], .v (.int .i64 0)⟩, ⟨5, [], .v (.int .i64 0)⟩, ⟨4, [], .p 1 0⟩, ⟨2, [], .p 0 0⟩, ⟨1, [], .v (.int .i64 a1)⟩], [], [], [((((kd_Config).cells x0 sv0).map EV.v), 29), ([.v (.int .i64 0), .v (.int .i64 0)], 109)], none, none⟩ (by kernel_rfl)⟩ ?_ ?_
    · clear hI
      rintro s1 a w_14 ⟨ns_15, hI⟩ r1 H1
      unfold G_ref08_Private.b1 at H1
      refine wpIn_seq ?_
      refine seq_region (live := [24, 6, 5, 4, 2, 1]) (orc := []) hF hI ⟨[⟨24, [], .v (.bool (decide (s1.1 < a1)))⟩, ⟨6, [], .v (.int .i64 s1.1)⟩, ⟨5, [], .v (.int .i64 s1.2)⟩, ⟨4, [], .p 1 0⟩, ⟨2, [], .p 0 0⟩, ⟨1, [], .v (.int .i64 a1)⟩], [], [], [((((kd_Config).cells x0 sv0).map EV.v), 29), ([.v (.int .i64 0), .v (.int .i64 0)], 109)], none, none⟩ [] (by kernel_rfl) trivial (fun ns_16 a w_17 hI _ => ?_)
      refine cond_ hI (decide (s1.1 < a1)) rfl (fun hc_18 => ?_) (fun hc_18 => ?_)
      · replace H1 := bif_t hc_18 H1
        refine wpIn_skip ?_
        refine then_normal ?_
        refine wpIn_seq ?_
        refine wpIn_block ?_
        obtain ⟨hN_19, H1⟩ := req_some H1
        obtain ⟨sv_20, hE_22, hA_21⟩ := Arr.elB (d := kd_Part) hx0.1.1 s1.1 true (fun _ => hN_19)
        replace hE_22 := hE_22 rfl
        replace hA_21 := fun (_ : true = true) => hA_21 rfl
        refine region_ (live := [5, 6, 4, 2, 1]) (orc := [[.int .i64 ((rd x0.Parts s1.1).Private)]]) hF hI ⟨[⟨5, [], .v (.int .i64 (IntKind.i64.wrap (s1.2 + ((rd x0.Parts s1.1).Private))))⟩, ⟨6, [], .v (.int .i64 s1.1)⟩, ⟨4, [], .p 1 0⟩, ⟨2, [], .p 0 0⟩, ⟨1, [], .v (.int .i64 a1)⟩], [], [], [((((kd_Config).cells x0 sv0).map EV.v), 29), ([.v (.int .i64 0), .v (.int .i64 0)], 109)], none, none⟩ [.need true (0 ≤ s1.1 ∧ s1.1 < (x0.Parts.length : Int)), .need true ((sv0 0).1 = some (adr ((sv0 0).1))), .cell true (((adr ((sv0 0).1)).add ((s1.1 : Int).toNat * 2)).add 1) [.int .i64 ((rd x0.Parts s1.1).Private)]] (by kernel_rfl) ⟨ob_inb (fun _ => hN_19), hA_21, ob_el (fun _ => hE_22) 1 [.int .i64 ((rd x0.Parts s1.1).Private)] rfl, trivial⟩ (fun ns_23 a w_24 hI _ => ?_)
        refine inBlock_normal ?_
        refine then_normal ?_
        refine region_ (live := [6, 5, 4, 2, 1]) (orc := []) hF hI ⟨[⟨6, [], .v (.int .i64 (IntKind.i64.wrap (s1.1 + 1)))⟩, ⟨5, [], .v (.int .i64 (IntKind.i64.wrap (s1.2 + ((rd x0.Parts s1.1).Private))))⟩, ⟨4, [], .p 1 0⟩, ⟨2, [], .p 0 0⟩, ⟨1, [], .v (.int .i64 a1)⟩], [], [], [((((kd_Config).cells x0 sv0).map EV.v), 29), ([.v (.int .i64 0), .v (.int .i64 0)], 109)], none, none⟩ [] (by kernel_rfl) trivial (fun ns_25 a w_26 hI _ => ?_)
        refine then_normal ?_
        obtain rfl := Option.some.inj H1
        exact ⟨_, rfl, ⟨_, hI.pick [6, 5, 4, 2, 1] 2 ⟨[⟨6, [], .v (.int .i64 (IntKind.i64.wrap (s1.1 + 1)))⟩, ⟨5, [], .v (.int .i64 (IntKind.i64.wrap (s1.2 + ((rd x0.Parts s1.1).Private))))⟩, ⟨4, [], .p 1 0⟩, ⟨2, [], .p 0 0⟩, ⟨1, [], .v (.int .i64 a1)⟩], [], [], [((((kd_Config).cells x0 sv0).map EV.v), 29), ([.v (.int .i64 0), .v (.int .i64 0)], 109)], none, none⟩ (by kernel_rfl)⟩⟩
      · replace H1 := bif_f hc_18 H1
        refine wpIn_exit ?_
        refine then_exit ?_
        refine then_exit ?_
        obtain rfl := Option.some.inj H1
        exact .inl ⟨_, rfl, rfl, ⟨_, hI.pick [6, 5, 4, 2, 1] 2 ⟨[⟨6, [], .v (.int .i64 s1.1)⟩, ⟨5, [], .v (.int .i64 s1.2)⟩, ⟨4, [], .p 1 0⟩, ⟨2, [], .p 0 0⟩, ⟨1, [], .v (.int .i64 a1)⟩], [], [], [((((kd_Config).cells x0 sv0).map EV.v), 29), ([.v (.int .i64 0), .v (.int .i64 0)], 109)], none, none⟩ (by kernel_rfl)⟩⟩
    · clear hI
      rintro s1 a w_29 ho ⟨ns_30, hI⟩
      subst ho
      replace H0 : ((req (inb a1 x0.Parts.length) (some (⟨s1.2, (rd x0.Parts a1).Private⟩ : Span))) : Option (Span)) = _ := H0
      refine then_normal ?_
      obtain ⟨hN_31, H0⟩ := req_some H0
      obtain ⟨sv_32, hE_34, hA_33⟩ := Arr.elB (d := kd_Part) hx0.1.1 a1 true (fun _ => hN_31)
      replace hE_34 := hE_34 rfl
      replace hA_33 := fun (_ : true = true) => hA_33 rfl
      refine seq_region (live := [4]) (orc := [[.int .i64 ((rd x0.Parts a1).Private)]]) hF hI ⟨[⟨4, [], .p 1 0⟩], [], [], [((((kd_Config).cells x0 sv0).map EV.v), 29), ([.v (.int .i64 s1.2), .v (.int .i64 ((rd x0.Parts a1).Private))], 109)], none, none⟩ [.need true (0 ≤ a1 ∧ a1 < (x0.Parts.length : Int)), .need true ((sv0 0).1 = some (adr ((sv0 0).1))), .cell true (((adr ((sv0 0).1)).add ((a1 : Int).toNat * 2)).add 1) [.int .i64 ((rd x0.Parts a1).Private)]] (by kernel_rfl) ⟨ob_inb (fun _ => hN_31), hA_33, ob_el (fun _ => hE_34) 1 [.int .i64 ((rd x0.Parts a1).Private)] rfl, trivial⟩ (fun ns_35 a w_36 hI _ => ?_)
      refine wpIn_ret ?_
      obtain rfl := Option.some.inj H0
      exact retCell hI rfl rfl rfl rfl rfl rfl ⟨rfl, hE.below hI⟩

/-! ### porthole/portholeref01.Right: function 82 -/
noncomputable def G_ref01_Right (x0 : Span) : Option (Bool) := some ((((decide (x0.From ≥ 0) && decide (x0.From ≤ 2147483647)) && decide (x0.Size ≥ 0)) && decide (x0.Size ≤ 2147483647)) && decide ((IntKind.i64.wrap (x0.From + x0.Size)) ≤ 2147483647))
set_option maxRecDepth 100000 in
set_option maxHeartbeats 4000000 in
theorem G_ref01_Right.calls (x0 : Span) (sv0 : SV) (w : World) {S : Nat → Prop} (hx0 : (kd_Span).cont S w x0 sv0) (r : Bool) (h : G_ref01_Right x0 = some r) :
    Calls Try.prog 82 #[.agg ((kd_Span).cells x0 sv0).toArray] w fun e w' => e = .returned (.bool r) ∧ Below w.heap.size w w' := by
  replace hx0 := Kd.lo _ hx0
  unfold G_ref01_Right at h
  have H0 := h
  clear h
  refine enter Try.func82 rfl [.agg ((kd_Span).cells x0 sv0).toArray] (n := 29) rfl (Nat.le_of_ble_eq_true rfl) (fun a hI => ?_)
  have hF : FOpen Fence.wide := .inl rfl
  have hE := Ep.start w
  refine seq_region (live := [2, 1]) (orc := []) hF hI ⟨[⟨2, [], .v (.bool false)⟩, ⟨1, [], .p 0 0⟩], [], [], [((((kd_Span).cells x0 sv0).map EV.v), 109)], none, none⟩ [] (by kernel_rfl) trivial (fun ns_1 a w_2 hI _ => ?_)
  refine seq_region (live := [2]) (orc := []) hF hI ⟨[⟨2, [], .v (.bool ((((decide (x0.From ≥ 0) && decide (x0.From ≤ 2147483647)) && decide (x0.Size ≥ 0)) && decide (x0.Size ≤ 2147483647)) && decide ((IntKind.i64.wrap (x0.From + x0.Size)) ≤ 2147483647)))⟩], [], [], [((((kd_Span).cells x0 sv0).map EV.v), 109)], none, none⟩ [] (by kernel_rfl) trivial (fun ns_3 a w_4 hI _ => ?_)
  refine wpIn_ret ?_
  obtain rfl := Option.some.inj H0
  exact ret1 hI rfl rfl ⟨rfl, hE.below hI⟩

/-! ### porthole/portholeref01.Has: function 67 -/
noncomputable def G_ref01_Has (x0 : Span) (a1 : Int) : Option (Bool) := ((G_ref01_Right x0).bind fun t_3 => some (((t_3 && decide (a1 ≥ x0.From)) && decide (a1 ≤ 2147483647)) && decide ((IntKind.i64.wrap (a1 - x0.From)) < x0.Size)))
set_option maxRecDepth 100000 in
set_option maxHeartbeats 4000000 in
theorem G_ref01_Has.calls (x0 : Span) (a1 : Int) (sv0 : SV) (w : World) {S : Nat → Prop} (hx0 : (kd_Span).cont S w x0 sv0) (r : Bool) (h : G_ref01_Has x0 a1 = some r) :
    Calls Try.prog 67 #[.agg ((kd_Span).cells x0 (svL [])).toArray, .int .i64 a1] w fun e w' => e = .returned (.bool r) ∧ Below w.heap.size w w' := by
  replace hx0 := Kd.lo _ hx0
  unfold G_ref01_Has at h
  have H0 := h
  clear h
  refine enter Try.func67 rfl [.agg ((kd_Span).cells x0 (svL [])).toArray, .int .i64 a1] (n := 26) rfl (Nat.le_of_ble_eq_true rfl) (fun a hI => ?_)
  have hF : FOpen Fence.wide := .inl rfl
  have hE := Ep.start w
  refine seq_region (live := [4, 2, 1]) (orc := []) hF hI ⟨[⟨4, [], .v (.bool false)⟩, ⟨2, [], .p 0 0⟩, ⟨1, [], .v (.int .i64 a1)⟩], [], [], [((((kd_Span).cells x0 sv0).map EV.v), 109)], none, none⟩ [] (by kernel_rfl) trivial (fun ns_1 a w_2 hI _ => ?_)
  obtain ⟨t_3, hG_4, H0⟩ := bind_some H0
  refine seq_region (live := [4]) (orc := [[.bool t_3]]) hF hI ⟨[⟨4, [], .v (.bool (((t_3 && decide (a1 ≥ x0.From)) && decide (a1 ≤ 2147483647)) && decide ((IntKind.i64.wrap (a1 - x0.From)) < x0.Size)))⟩], [], [], [((((kd_Span).cells x0 sv0).map EV.v), 109)], none, none⟩ [.call true 82 [.agg ((kd_Span).cells x0 (svL [])).toArray] (.bool t_3)] (by kernel_rfl) ⟨ob_call (enters Try.func82 (by kernel_rfl) rfl) (fun hg wz hk => G_ref01_Right.calls x0 (svL []) wz (S := fun _ => True) (Kd.any _ (Kd.keep kd_Span (contI (S := Lo S w w [] []) (w := w) (d := kd_Span) (x := x0) (sv := (svL [])) trivial) (Lo.on hk))) _ hG_4), trivial⟩ (fun ns_5 a w_6 hI _ => ?_)
  refine wpIn_ret ?_
  obtain rfl := Option.some.inj H0
  exact ret1 hI rfl rfl ⟨rfl, hE.below hI⟩

/-! ### porthole/portholeref08.channel: function 83 -/
noncomputable def G_ref08_channel (x0 : Config) (a1 : Int) : Option (Bool) := ((cal (decide (a1 ≥ 0) && decide (a1 < (x0.Chans.length : Int))) (G_ref07_Accepts x0) default).bind fun t_3 => some ((decide (a1 ≥ 0) && decide (a1 < (x0.Chans.length : Int))) && t_3))
set_option maxRecDepth 100000 in
set_option maxHeartbeats 4000000 in
theorem G_ref08_channel.calls (x0 : Config) (a1 : Int) (sv0 : SV) (w : World) {S : Nat → Prop} (hx0 : (kd_Config).cont S w x0 sv0) (r : Bool) (h : G_ref08_channel x0 a1 = some r) :
    Calls Try.prog 83 #[.agg ((kd_Config).cells x0 sv0).toArray, .int .i64 a1] w fun e w' => e = .returned (.bool r) ∧ Below w.heap.size w w' := by
  replace hx0 := Kd.lo _ hx0
  unfold G_ref08_channel at h
  have H0 := h
  clear h
  refine enter Try.func83 rfl [.agg ((kd_Config).cells x0 sv0).toArray, .int .i64 a1] (n := 18) rfl (Nat.le_of_ble_eq_true rfl) (fun a hI => ?_)
  have hF : FOpen Fence.wide := .inl rfl
  have hE := Ep.start w
  refine seq_region (live := [4, 2, 1]) (orc := []) hF hI ⟨[⟨4, [], .v (.bool false)⟩, ⟨2, [], .p 0 0⟩, ⟨1, [], .v (.int .i64 a1)⟩], [], [], [((((kd_Config).cells x0 sv0).map EV.v), 29)], none, none⟩ [] (by kernel_rfl) trivial (fun ns_1 a w_2 hI _ => ?_)
  obtain ⟨t_3, hG_4, H0⟩ := bind_some H0
  refine seq_region (live := [4]) (orc := [[.bool t_3]]) hF hI ⟨[⟨4, [], .v (.bool ((decide (a1 ≥ 0) && decide (a1 < (x0.Chans.length : Int))) && t_3))⟩], [], [], [((((kd_Config).cells x0 sv0).map EV.v), 29)], none, none⟩ [.call (decide (a1 ≥ 0) && decide (a1 < (x0.Chans.length : Int))) 14 [.agg ((kd_Config).cells x0 sv0).toArray] (.bool t_3)] (by kernel_rfl) ⟨ob_call (enters Try.func14 (by kernel_rfl) rfl) (fun hg wz hk => G_ref07_Accepts.calls x0 sv0 wz (S := fun _ => True) (Kd.any _ (Kd.keep kd_Config (contI (S := Lo S w w [] []) (w := w) (d := kd_Config) (x := x0) (sv := sv0) ⟨⟨hx0.1.1, hx0.1.2⟩, ⟨hx0.2.1.1, hx0.2.1.2⟩, ⟨hx0.2.2.1.1, hx0.2.2.1.2⟩, ⟨hx0.2.2.2.1.1, hx0.2.2.2.1.2⟩, trivial⟩) (Lo.on hk))) _ (cal_some hG_4 hg)), trivial⟩ (fun ns_5 a w_6 hI _ => ?_)
  refine wpIn_ret ?_
  obtain rfl := Option.some.inj H0
  exact ret1 hI rfl rfl ⟨rfl, hE.below hI⟩

/-! ### porthole/portholeref08.source: function 85 -/
noncomputable def G_ref08_source (x0 : Chan) : Option (Int) := (bif (x0.Kind == 1) then some (IntKind.i64.wrap (11 + (IntKind.i64.wrap (4 * x0.Words)))) else some (IntKind.i64.wrap ((IntKind.i64.wrap (1 + x0.Depth)) + (IntKind.i64.wrap (x0.Depth * x0.Words)))))
set_option maxRecDepth 100000 in
set_option maxHeartbeats 4000000 in
theorem G_ref08_source.calls (x0 : Chan) (sv0 : SV) (w : World) {S : Nat → Prop} (hx0 : (kd_Chan).cont S w x0 sv0) (r : Int) (h : G_ref08_source x0 = some r) :
    Calls Try.prog 85 #[.agg ((kd_Chan).cells x0 sv0).toArray] w fun e w' => e = .returned (.int .i64 r) ∧ Below w.heap.size w w' := by
  replace hx0 := Kd.lo _ hx0
  unfold G_ref08_source at h
  have H0 := h
  clear h
  refine enter Try.func85 rfl [.agg ((kd_Chan).cells x0 sv0).toArray] (n := 19) rfl (Nat.le_of_ble_eq_true rfl) (fun a hI => ?_)
  have hF : FOpen Fence.wide := .inl rfl
  have hE := Ep.start w
  refine seq_region (live := [2, 1]) (orc := []) hF hI ⟨[⟨2, [], .v (.int .i64 0)⟩, ⟨1, [], .p 0 0⟩], [], [], [((((kd_Chan).cells x0 sv0).map EV.v), 74)], none, none⟩ [] (by kernel_rfl) trivial (fun ns_1 a w_2 hI _ => ?_)
  refine wpIn_seq ?_
  refine seq_region (live := [5, 2, 1]) (orc := []) hF hI ⟨[⟨5, [], .v (.bool (x0.Kind == 1))⟩, ⟨2, [], .v (.int .i64 0)⟩, ⟨1, [], .p 0 0⟩], [], [], [((((kd_Chan).cells x0 sv0).map EV.v), 74)], none, none⟩ [] (by kernel_rfl) trivial (fun ns_3 a w_4 hI _ => ?_)
  refine cond_ hI ((x0.Kind == 1)) rfl (fun hc_5 => ?_) (fun hc_5 => ?_)
  · replace H0 := bif_t hc_5 H0
    refine seq_region (live := [2]) (orc := []) hF hI ⟨[⟨2, [], .v (.int .i64 (IntKind.i64.wrap (11 + (IntKind.i64.wrap (4 * x0.Words)))))⟩], [], [], [((((kd_Chan).cells x0 sv0).map EV.v), 74)], none, none⟩ [] (by kernel_rfl) trivial (fun ns_6 a w_7 hI _ => ?_)
    refine wpIn_ret ?_
    refine then_ret ?_
    obtain rfl := Option.some.inj H0
    exact ret1 hI rfl rfl ⟨rfl, hE.below hI⟩
  · replace H0 := bif_f hc_5 H0
    refine wpIn_skip ?_
    refine then_normal ?_
    refine seq_region (live := [2]) (orc := []) hF hI ⟨[⟨2, [], .v (.int .i64 (IntKind.i64.wrap ((IntKind.i64.wrap (1 + x0.Depth)) + (IntKind.i64.wrap (x0.Depth * x0.Words)))))⟩], [], [], [((((kd_Chan).cells x0 sv0).map EV.v), 74)], none, none⟩ [] (by kernel_rfl) trivial (fun ns_8 a w_9 hI _ => ?_)
    refine wpIn_ret ?_
    obtain rfl := Option.some.inj H0
    exact ret1 hI rfl rfl ⟨rfl, hE.below hI⟩

/-! ### porthole/portholeref08.before: function 84 -/
noncomputable def G_ref08_before.b1 (x0 : Config) (a1 : Int) (s1 : Int × Int) : Option (Stp (Int × Int) (Ex (Int × Int) (Int))) := (bif decide (s1.1 < (x0.Parts.length : Int)) then (req (inb s1.1 x0.Parts.length) (some (.next ((IntKind.i64.wrap (s1.1 + 1)), (IntKind.i64.wrap (s1.2 + ((rd x0.Parts s1.1).Private))))))) else some (.out (.brk (s1.1, s1.2))))
noncomputable def G_ref08_before.b2 (x0 : Config) (a1 : Int) (s1 : Int × Int) (s2 : Int × Int) : Option (Stp (Int × Int) (Ex (Int × Int) (Int))) := (bif decide (s2.1 < a1) then (req (inb s2.1 x0.Chans.length) ((G_ref08_source (rd x0.Chans s2.1)).bind fun t_35 => some (.next ((IntKind.i64.wrap (s2.1 + 1)), (IntKind.i64.wrap ((IntKind.i64.wrap (s2.2 + t_35)) + 1)))))) else some (.out (.brk (s2.1, s2.2))))
noncomputable def G_ref08_before (x0 : Config) (a1 : Int) : Option (Int) := ((loopω (G_ref08_before.b1 x0 a1) (0, 0)).bind fun o => o.on (fun s1 => ((loopω (G_ref08_before.b2 x0 a1 s1) (0, s1.2)).bind fun o => o.on (fun s2 => some s2.2) (fun r => some r))) (fun r => some r))
set_option maxRecDepth 100000 in
set_option maxHeartbeats 4000000 in
theorem G_ref08_before.calls (x0 : Config) (a1 : Int) (sv0 : SV) (w : World) {S : Nat → Prop} (hx0 : (kd_Config).cont S w x0 sv0) (r : Int) (h : G_ref08_before x0 a1 = some r) :
    Calls Try.prog 84 #[.agg ((kd_Config).cells x0 sv0).toArray, .int .i64 a1] w fun e w' => e = .returned (.int .i64 r) ∧ Below w.heap.size w w' := by
  replace hx0 := Kd.lo _ hx0
  unfold G_ref08_before at h
  have H0 := h
  clear h
  refine enter Try.func84 rfl [.agg ((kd_Config).cells x0 sv0).toArray, .int .i64 a1] (n := 38) rfl (Nat.le_of_ble_eq_true rfl) (fun a hI => ?_)
  have hF : FOpen Fence.wide := .inl rfl
  have hE := Ep.start w
  refine seq_region (live := [4, 2, 1]) (orc := []) hF hI ⟨[⟨4, [], .v (.int .i64 0)⟩, ⟨2, [], .p 0 0⟩, ⟨1, [], .v (.int .i64 a1)⟩], [], [], [((((kd_Config).cells x0 sv0).map EV.v), 29)], none, none⟩ [] (by kernel_rfl) trivial (fun ns_1 a w_2 hI _ => ?_)
  refine seq_region (live := [5, 4, 2, 1]) (orc := []) hF hI ⟨[⟨5, [], .v (.int .i64 0)⟩, ⟨4, [], .v (.int .i64 0)⟩, ⟨2, [], .p 0 0⟩, ⟨1, [], .v (.int .i64 a1)⟩], [], [], [((((kd_Config).cells x0 sv0).map EV.v), 29)], none, none⟩ [] (by kernel_rfl) trivial (fun ns_3 a w_4 hI _ => ?_)
  refine wpIn_seq ?_
  refine seq_region (live := [6, 5, 4, 2, 1]) (orc := []) hF hI ⟨[⟨6, [], .v (.int .i64 0)⟩, ⟨5, [], .v (.int .i64 0)⟩, ⟨4, [], .v (.int .i64 0)⟩, ⟨2, [], .p 0 0⟩, ⟨1, [], .v (.int .i64 a1)⟩], [], [], [((((kd_Config).cells x0 sv0).map EV.v), 29)], none, none⟩ [] (by kernel_rfl) trivial (fun ns_5 a w_6 hI _ => ?_)
  obtain ⟨o_20, hL_21, H0⟩ := bind_some H0
  refine block_loop (fun (s1 : Int × Int) a w_48 => ∃ ns, St w [] 38 ⟨[⟨6, [], .v (.int .i64 s1.1)⟩, ⟨5, [], .v (.int .i64 s1.2)⟩, ⟨4, [], .v (.int .i64 0)⟩, ⟨2, [], .p 0 0⟩, ⟨1, [], .v (.int .i64 a1)⟩], [], [], [((((kd_Config).cells x0 sv0).map EV.v), 29)], none, none⟩ ns a w_48) (0, 0) hL_21 ⟨_, hI.pick [6, 5, 4, 2, 1] 1 ⟨[⟨6, [], .v (.int .i64 0)⟩, ⟨5, [], .v (.int .i64 0)⟩, ⟨4, [], .v (.int .i64 0)⟩, ⟨2, [], .p 0 0⟩, ⟨1, [], .v (.int .i64 a1)⟩], [], [], [((((kd_Config).cells x0 sv0).map EV.v), 29)], none, none⟩ (by kernel_rfl)⟩ ?_ ?_
  · clear hI
    rintro s1 a w_7 ⟨ns_8, hI⟩ r1 H1
    unfold G_ref08_before.b1 at H1
    refine wpIn_seq ?_
    refine seq_region (live := [12, 6, 5, 4, 2, 1]) (orc := []) hF hI ⟨[⟨12, [], .v (.bool (decide (s1.1 < (x0.Parts.length : Int))))⟩, ⟨6, [], .v (.int .i64 s1.1)⟩, ⟨5, [], .v (.int .i64 s1.2)⟩, ⟨4, [], .v (.int .i64 0)⟩, ⟨2, [], .p 0 0⟩, ⟨1, [], .v (.int .i64 a1)⟩], [], [], [((((kd_Config).cells x0 sv0).map EV.v), 29)], none, none⟩ [] (by kernel_rfl) trivial (fun ns_9 a w_10 hI _ => ?_)
    refine cond_ hI (decide (s1.1 < (x0.Parts.length : Int))) rfl (fun hc_11 => ?_) (fun hc_11 => ?_)
    · replace H1 := bif_t hc_11 H1
      refine wpIn_skip ?_
      refine then_normal ?_
      refine wpIn_seq ?_
      refine wpIn_block ?_
      obtain ⟨hN_12, H1⟩ := req_some H1
      obtain ⟨sv_13, hE_15, hA_14⟩ := Arr.elB (d := kd_Part) hx0.1.1 s1.1 true (fun _ => hN_12)
      replace hE_15 := hE_15 rfl
      replace hA_14 := fun (_ : true = true) => hA_14 rfl
      refine region_ (live := [5, 6, 4, 2, 1]) (orc := [[.int .i64 ((rd x0.Parts s1.1).Private)]]) hF hI ⟨[⟨5, [], .v (.int .i64 (IntKind.i64.wrap (s1.2 + ((rd x0.Parts s1.1).Private))))⟩, ⟨6, [], .v (.int .i64 s1.1)⟩, ⟨4, [], .v (.int .i64 0)⟩, ⟨2, [], .p 0 0⟩, ⟨1, [], .v (.int .i64 a1)⟩], [], [], [((((kd_Config).cells x0 sv0).map EV.v), 29)], none, none⟩ [.need true (0 ≤ s1.1 ∧ s1.1 < (x0.Parts.length : Int)), .need true ((sv0 0).1 = some (adr ((sv0 0).1))), .cell true (((adr ((sv0 0).1)).add ((s1.1 : Int).toNat * 2)).add 1) [.int .i64 ((rd x0.Parts s1.1).Private)]] (by kernel_rfl) ⟨ob_inb (fun _ => hN_12), hA_14, ob_el (fun _ => hE_15) 1 [.int .i64 ((rd x0.Parts s1.1).Private)] rfl, trivial⟩ (fun ns_16 a w_17 hI _ => ?_)
      refine inBlock_normal ?_
      refine then_normal ?_
      refine region_ (live := [6, 5, 4, 2, 1]) (orc := []) hF hI ⟨[⟨6, [], .v (.int .i64 (IntKind.i64.wrap (s1.1 + 1)))⟩, ⟨5, [], .v (.int .i64 (IntKind.i64.wrap (s1.2 + ((rd x0.Parts s1.1).Private))))⟩, ⟨4, [], .v (.int .i64 0)⟩, ⟨2, [], .p 0 0⟩, ⟨1, [], .v (.int .i64 a1)⟩], [], [], [((((kd_Config).cells x0 sv0).map EV.v), 29)], none, none⟩ [] (by kernel_rfl) trivial (fun ns_18 a w_19 hI _ => ?_)
      refine then_normal ?_
      obtain rfl := Option.some.inj H1
      exact ⟨_, rfl, ⟨_, hI.pick [6, 5, 4, 2, 1] 1 ⟨[⟨6, [], .v (.int .i64 (IntKind.i64.wrap (s1.1 + 1)))⟩, ⟨5, [], .v (.int .i64 (IntKind.i64.wrap (s1.2 + ((rd x0.Parts s1.1).Private))))⟩, ⟨4, [], .v (.int .i64 0)⟩, ⟨2, [], .p 0 0⟩, ⟨1, [], .v (.int .i64 a1)⟩], [], [], [((((kd_Config).cells x0 sv0).map EV.v), 29)], none, none⟩ (by kernel_rfl)⟩⟩
    · replace H1 := bif_f hc_11 H1
      refine wpIn_exit ?_
      refine then_exit ?_
      refine then_exit ?_
      obtain rfl := Option.some.inj H1
      exact .inl ⟨_, rfl, rfl, ⟨_, hI.pick [6, 5, 4, 2, 1] 1 ⟨[⟨6, [], .v (.int .i64 s1.1)⟩, ⟨5, [], .v (.int .i64 s1.2)⟩, ⟨4, [], .v (.int .i64 0)⟩, ⟨2, [], .p 0 0⟩, ⟨1, [], .v (.int .i64 a1)⟩], [], [], [((((kd_Config).cells x0 sv0).map EV.v), 29)], none, none⟩ (by kernel_rfl)⟩⟩
  · clear hI
    rintro s1 a w_22 ho ⟨ns_23, hI⟩
    subst ho
    replace H0 : (((loopω (G_ref08_before.b2 x0 a1 s1) (0, s1.2)).bind fun o => o.on (fun s2 => some s2.2) (fun r => some r)) : Option (Int)) = _ := H0
    refine then_normal ?_
    refine wpIn_seq ?_
    refine seq_region (live := [7, 5, 4, 2, 1]) (orc := []) hF hI ⟨[⟨7, [], .v (.int .i64 0)⟩, ⟨5, [], .v (.int .i64 s1.2)⟩, ⟨4, [], .v (.int .i64 0)⟩, ⟨2, [], .p 0 0⟩, ⟨1, [], .v (.int .i64 a1)⟩], [], [], [((((kd_Config).cells x0 sv0).map EV.v), 29)], none, none⟩ [] (by kernel_rfl) trivial (fun ns_24 a w_25 hI _ => ?_)
    obtain ⟨o_41, hL_42, H0⟩ := bind_some H0
    refine block_loop (fun (s2 : Int × Int) a w_47 => ∃ ns, St w [] 38 ⟨[⟨7, [], .v (.int .i64 s2.1)⟩, ⟨5, [], .v (.int .i64 s2.2)⟩, ⟨4, [], .v (.int .i64 0)⟩, ⟨2, [], .p 0 0⟩, ⟨1, [], .v (.int .i64 a1)⟩], [], [], [((((kd_Config).cells x0 sv0).map EV.v), 29)], none, none⟩ ns a w_47) (0, s1.2) hL_42 ⟨_, hI.pick [7, 5, 4, 2, 1] 1 ⟨[⟨7, [], .v (.int .i64 0)⟩, ⟨5, [], .v (.int .i64 s1.2)⟩, ⟨4, [], .v (.int .i64 0)⟩, ⟨2, [], .p 0 0⟩, ⟨1, [], .v (.int .i64 a1)⟩], [], [], [((((kd_Config).cells x0 sv0).map EV.v), 29)], none, none⟩ (by kernel_rfl)⟩ ?_ ?_
    · clear hI
      rintro s2 a w_26 ⟨ns_27, hI⟩ r2 H1
      unfold G_ref08_before.b2 at H1
      refine wpIn_seq ?_
      refine seq_region (live := [25, 7, 5, 4, 2, 1]) (orc := []) hF hI ⟨[⟨25, [], .v (.bool (decide (s2.1 < a1)))⟩, ⟨7, [], .v (.int .i64 s2.1)⟩, ⟨5, [], .v (.int .i64 s2.2)⟩, ⟨4, [], .v (.int .i64 0)⟩, ⟨2, [], .p 0 0⟩, ⟨1, [], .v (.int .i64 a1)⟩], [], [], [((((kd_Config).cells x0 sv0).map EV.v), 29)], none, none⟩ [] (by kernel_rfl) trivial (fun ns_28 a w_29 hI _ => ?_)
      refine cond_ hI (decide (s2.1 < a1)) rfl (fun hc_30 => ?_) (fun hc_30 => ?_)
      · replace H1 := bif_t hc_30 H1
        refine wpIn_skip ?_
        refine then_normal ?_
        refine wpIn_seq ?_
        refine wpIn_block ?_
        obtain ⟨hN_31, H1⟩ := req_some H1
        obtain ⟨sv_32, hE_34, hA_33⟩ := Arr.elB (d := kd_Chan) hx0.2.1.1 s2.1 true (fun _ => hN_31)
        replace hE_34 := hE_34 rfl
        replace hA_33 := fun (_ : true = true) => hA_33 rfl
        obtain ⟨t_35, hG_36, H1⟩ := bind_some H1
        refine region_ (live := [5, 7, 4, 2, 1]) (orc := [(kd_Chan).cells (rd x0.Chans s2.1) sv_32, [.int .i64 t_35]]) hF hI ⟨[⟨5, [], .v (.int .i64 (IntKind.i64.wrap ((IntKind.i64.wrap (s2.2 + t_35)) + 1)))⟩, ⟨7, [], .v (.int .i64 s2.1)⟩, ⟨4, [], .v (.int .i64 0)⟩, ⟨2, [], .p 0 0⟩, ⟨1, [], .v (.int .i64 a1)⟩], [], [], [((((kd_Config).cells x0 sv0).map EV.v), 29)], none, none⟩ [.need true (0 ≤ s2.1 ∧ s2.1 < (x0.Chans.length : Int)), .need true ((sv0 1).1 = some (adr ((sv0 1).1))), .cell true ((adr ((sv0 1).1)).add ((s2.1 : Int).toNat * 7)) ((kd_Chan).cells (rd x0.Chans s2.1) sv_32), .call true 85 [.agg ((kd_Chan).cells (rd x0.Chans s2.1) (svL [])).toArray] (.int .i64 t_35)] (by kernel_rfl) ⟨ob_inb (fun _ => hN_31), hA_33, ob_el (fun _ => hE_34) 0 ((kd_Chan).cells (rd x0.Chans s2.1) sv_32) rfl, ob_call (enters Try.func85 (by kernel_rfl) rfl) (fun hg wz hk => G_ref08_source.calls (rd x0.Chans s2.1) (svL []) wz (S := fun _ => True) (Kd.any _ (Kd.keep kd_Chan (contI (S := Lo S w w [] []) (w := w) (d := kd_Chan) (x := (rd x0.Chans s2.1)) (sv := (svL [])) trivial) (Lo.on hk))) _ hG_36), trivial⟩ (fun ns_37 a w_38 hI _ => ?_)
        refine inBlock_normal ?_
        refine then_normal ?_
        refine region_ (live := [7, 5, 4, 2, 1]) (orc := []) hF hI ⟨[⟨7, [], .v (.int .i64 (IntKind.i64.wrap (s2.1 + 1)))⟩, ⟨5, [], .v (.int .i64 (IntKind.i64.wrap ((IntKind.i64.wrap (s2.2 + t_35)) + 1)))⟩, ⟨4, [], .v (.int .i64 0)⟩, ⟨2, [], .p 0 0⟩, ⟨1, [], .v (.int .i64 a1)⟩], [], [], [((((kd_Config).cells x0 sv0).map EV.v), 29)], none, none⟩ [] (by kernel_rfl) trivial (fun ns_39 a w_40 hI _ => ?_)
        refine then_normal ?_
        obtain rfl := Option.some.inj H1
        exact ⟨_, rfl, ⟨_, hI.pick [7, 5, 4, 2, 1] 1 ⟨[⟨7, [], .v (.int .i64 (IntKind.i64.wrap (s2.1 + 1)))⟩, ⟨5, [], .v (.int .i64 (IntKind.i64.wrap ((IntKind.i64.wrap (s2.2 + t_35)) + 1)))⟩, ⟨4, [], .v (.int .i64 0)⟩, ⟨2, [], .p 0 0⟩, ⟨1, [], .v (.int .i64 a1)⟩], [], [], [((((kd_Config).cells x0 sv0).map EV.v), 29)], none, none⟩ (by kernel_rfl)⟩⟩
      · replace H1 := bif_f hc_30 H1
        refine wpIn_exit ?_
        refine then_exit ?_
        refine then_exit ?_
        obtain rfl := Option.some.inj H1
        exact .inl ⟨_, rfl, rfl, ⟨_, hI.pick [7, 5, 4, 2, 1] 1 ⟨[⟨7, [], .v (.int .i64 s2.1)⟩, ⟨5, [], .v (.int .i64 s2.2)⟩, ⟨4, [], .v (.int .i64 0)⟩, ⟨2, [], .p 0 0⟩, ⟨1, [], .v (.int .i64 a1)⟩], [], [], [((((kd_Config).cells x0 sv0).map EV.v), 29)], none, none⟩ (by kernel_rfl)⟩⟩
    · clear hI
      rintro s2 a w_43 ho ⟨ns_44, hI⟩
      subst ho
      replace H0 : (some s2.2 : Option (Int)) = _ := H0
      refine then_normal ?_
      refine seq_region (live := [4]) (orc := []) hF hI ⟨[⟨4, [], .v (.int .i64 s2.2)⟩], [], [], [((((kd_Config).cells x0 sv0).map EV.v), 29)], none, none⟩ [] (by kernel_rfl) trivial (fun ns_45 a w_46 hI _ => ?_)
      refine wpIn_ret ?_
      obtain rfl := Option.some.inj H0
      exact ret1 hI rfl rfl ⟨rfl, hE.below hI⟩

end Go.Proofs.Ytnfnincmhobpaab
