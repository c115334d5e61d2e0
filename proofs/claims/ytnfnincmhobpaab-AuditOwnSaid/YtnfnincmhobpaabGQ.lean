import Derived.Test.YtnfnincmhobpaabGQx2
set_option linter.unusedVariables false
set_option linter.unusedSimpArgs false
namespace Go.Proofs.Ytnfnincmhobpaab
open Go Go.RowKit Go.Eng Go.Proofs

/-! ### porthole/portholeref08.Source: function 69 -/
noncomputable def G_ref08_Source (x0 : Config) (a1 : Int) : Option (Span) := ((G_ref08_channel x0 a1).bind fun t_3 => (bif (!t_3) then some (⟨0, 0⟩ : Span) else ((G_ref08_before x0 a1).bind fun t_10 => (req (inb a1 x0.Chans.length) ((G_ref08_source (rd x0.Chans a1)).bind fun t_16 => some (⟨t_10, t_16⟩ : Span))))))
set_option maxRecDepth 100000 in
set_option maxHeartbeats 4000000 in
theorem G_ref08_Source.calls (x0 : Config) (a1 : Int) (sv0 : SV) (w : World) {S : Nat → Prop} (hx0 : (kd_Config).cont S w x0 sv0) (r : Span) (h : G_ref08_Source x0 a1 = some r) :
    Calls Try.prog 69 #[.agg ((kd_Config).cells x0 sv0).toArray, .int .i64 a1] w fun e w' => e = .returned (.agg ((kd_Span).cells r (svL [])).toArray) ∧ Below w.heap.size w w' := by
  replace hx0 := Kd.lo _ hx0
  unfold G_ref08_Source at h
  have H0 := h
  clear h
  refine enter Try.func69 rfl [.agg ((kd_Config).cells x0 sv0).toArray, .int .i64 a1] (n := 20) rfl (Nat.le_of_ble_eq_true rfl) (fun a hI => ?_)
  have hF : FOpen Fence.wide := .inl rfl
  have hE := Ep.start w
  refine seq_region (live := [4, 2, 1]) (orc := []) hF hI ⟨[⟨4, [], .p 1 0⟩, ⟨2, [], .p 0 0⟩, ⟨1, [], .v (.int .i64 a1)⟩], [], [], [((((kd_Config).cells x0 sv0).map EV.v), 29), ([.v (.int .i64 0), .v (.int .i64 0)], 109)], none, none⟩ [] (by kernel_rfl) trivial (fun ns_1 a w_2 hI _ => ?_)
  refine wpIn_seq ?_
  obtain ⟨t_3, hG_4, H0⟩ := bind_some H0
  refine seq_region (live := [8, 4, 2, 1]) (orc := [[.bool t_3]]) hF hI ⟨[⟨8, [], .v (.bool (!t_3))⟩, ⟨4, [], .p 1 0⟩, ⟨2, [], .p 0 0⟩, ⟨1, [], .v (.int .i64 a1)⟩], [], [], [((((kd_Config).cells x0 sv0).map EV.v), 29), ([.v (.int .i64 0), .v (.int .i64 0)], 109)], none, none⟩ [.call true 83 [.agg ((kd_Config).cells x0 sv0).toArray, .int .i64 a1] (.bool t_3)] (by kernel_rfl) ⟨ob_call (enters Try.func83 (by kernel_rfl) rfl) (fun hg wz hk => G_ref08_channel.calls x0 a1 sv0 wz (S := fun _ => True) (Kd.any _ (Kd.keep kd_Config (contI (S := Lo S w w [] []) (w := w) (d := kd_Config) (x := x0) (sv := sv0) ⟨⟨hx0.1.1, hx0.1.2⟩, ⟨hx0.2.1.1, hx0.2.1.2⟩, ⟨hx0.2.2.1.1, hx0.2.2.1.2⟩, ⟨hx0.2.2.2.1.1, hx0.2.2.2.1.2⟩, trivial⟩) (Lo.on hk))) _ hG_4), trivial⟩ (fun ns_5 a w_6 hI _ => ?_)
  refine cond_ hI ((!t_3)) rfl (fun hc_7 => ?_) (fun hc_7 => ?_)
  · replace H0 := bif_t hc_7 H0
    refine seq_region (live := [4]) (orc := []) hF hI ⟨[⟨4, [], .p 1 0⟩], [], [], [((((kd_Config).cells x0 sv0).map EV.v), 29), ([.v (.int .i64 0), .v (.int .i64 0)], 109)], none, none⟩ [] (by kernel_rfl) trivial (fun ns_8 a w_9 hI _ => ?_)
    refine wpIn_ret ?_
    refine then_ret ?_
    obtain rfl := Option.some.inj H0
    exact retCell hI rfl rfl rfl rfl rfl rfl ⟨rfl, hE.below hI⟩
  · replace H0 := bif_f hc_7 H0
    refine wpIn_skip ?_
    refine then_normal ?_
    refine wpIn_seq ?_
    replace hI := hI.fin (live := [8, 4, 2, 1]) (σ2 := ⟨[⟨8, [], .v (.bool (!t_3))⟩, ⟨4, [], .p 1 0⟩, ⟨2, [], .p 0 0⟩, ⟨1, [], .v (.int .i64 a1)⟩], [], [], [((((kd_Config).cells x0 sv0).map EV.v), 29), ([.v (.int .i64 0), .v (.int .i64 0)], 109)], none, none⟩) (by kernel_rfl)
    obtain ⟨t_10, hG_11, H0⟩ := bind_some H0
    obtain ⟨hN_12, H0⟩ := req_some H0
    obtain ⟨sv_13, hE_15, hA_14⟩ := Arr.elB (d := kd_Chan) hx0.2.1.1 a1 true (fun _ => hN_12)
    replace hE_15 := hE_15 rfl
    replace hA_14 := fun (_ : true = true) => hA_14 rfl
    obtain ⟨t_16, hG_17, H0⟩ := bind_some H0
    refine drawnS_ hI (by kernel_rfl) [.q 10 (.v (.agg ((kd_Config).cells x0 sv0).toArray)) [], .q 11 (.v (.int .i64 a1)) [], .q 12 (.v (.int .i64 t_10)) [.call true 84 [.agg ((kd_Config).cells x0 sv0).toArray, .int .i64 a1] (.int .i64 t_10)], .q 13 (.p 0 1) [], .q 14 (.v (.slice ((sv0 1).1) x0.Chans.length ((sv0 1).2))) [], .q 15 (.v (.int .i64 a1)) [], .q 16 (.v (.pointer (some ((adr ((sv0 1).1)).add ((a1 : Int).toNat * 7))))) [.need true (0 ≤ a1 ∧ a1 < (x0.Chans.length : Int)), .need true ((sv0 1).1 = some (adr ((sv0 1).1)))], .q 17 (.v (.agg ((kd_Chan).cells (rd x0.Chans a1) (svL [])).toArray)) [.cell true ((adr ((sv0 1).1)).add ((a1 : Int).toNat * 7)) ((kd_Chan).cells (rd x0.Chans a1) sv_13)], .q 18 (.v (.int .i64 t_16)) [.call true 85 [.agg ((kd_Chan).cells (rd x0.Chans a1) (svL [])).toArray] (.int .i64 t_16)], .q 19 (.v (.agg #[.int .i64 t_10, .int .i64 t_16])) [], .no] (by kernel_rfl) (fun fuel listed w_18 hJ hsz hu => ?_)
    refine stage_ hJ hF hsz hu [.q [] [], .q [] [], .q [0, 1] [[.int .i64 t_10]], .q [] [], .q [3] [], .q [] [], .q [4, 5] [], .q [6] [(kd_Chan).cells (rd x0.Chans a1) sv_13], .q [7] [[.int .i64 t_16]], .q [2, 8] [], .no] (by kernel_rfl) (by kernel_rfl) (by kernel_rfl) (by kernel_rfl) 10 rfl (by kernel_rfl) (by kernel_rfl) [9] rfl (by kernel_rfl) (by kernel_rfl) ⟨ob_call (enters Try.func84 (by kernel_rfl) rfl) (fun hg wz hk => G_ref08_before.calls x0 a1 sv0 wz (S := fun _ => True) (Kd.any _ (Kd.keep kd_Config (contI (S := Lo S w w [] []) (w := w) (d := kd_Config) (x := x0) (sv := sv0) ⟨⟨hx0.1.1, hx0.1.2⟩, ⟨hx0.2.1.1, hx0.2.1.2⟩, ⟨hx0.2.2.1.1, hx0.2.2.1.2⟩, ⟨hx0.2.2.2.1.1, hx0.2.2.2.1.2⟩, trivial⟩) (Lo.on hk))) _ hG_11), ob_inb (fun _ => hN_12), hA_14, ob_el (fun _ => hE_15) 0 ((kd_Chan).cells (rd x0.Chans a1) sv_13) rfl, ob_call (enters Try.func85 (by kernel_rfl) rfl) (fun hg wz hk => G_ref08_source.calls (rd x0.Chans a1) (svL []) wz (S := fun _ => True) (Kd.any _ (Kd.keep kd_Chan (contI (S := Lo S w w [] []) (w := w) (d := kd_Chan) (x := (rd x0.Chans a1)) (sv := (svL [])) trivial) (Lo.on hk))) _ hG_17), trivial⟩ [0, 1, 2, 3, 4, 5, 6, 7, 8, 9] (by kernel_rfl) [.t (some 10) (some (.v (.agg ((kd_Config).cells x0 sv0).toArray))), .t (some 11) (some (.v (.int .i64 a1))), .t (some 12) (some (.v (.int .i64 t_10))), .t (some 13) (some (.p 0 1)), .t (some 14) (some (.v (.slice ((sv0 1).1) x0.Chans.length ((sv0 1).2)))), .t (some 15) (some (.v (.int .i64 a1))), .t (some 16) (some (.v (.pointer (some ((adr ((sv0 1).1)).add ((a1 : Int).toNat * 7)))))), .t (some 17) (some (.v (.agg ((kd_Chan).cells (rd x0.Chans a1) (svL [])).toArray))), .t (some 18) (some (.v (.int .i64 t_16))), .t (some 19) (some (.v (.agg #[.int .i64 t_10, .int .i64 t_16]))), .no] (by kernel_rfl) (fun fuel listed a w_19 hJ hI hW h1 hnl hsz hu => ?_)
    refine store_ hF hI hW rfl rfl (k := 1) (cs := [.v (.int .i64 t_10), .v (.int .i64 t_16)]) (T := 109) (by kernel_rfl) (by kernel_rfl) rfl (fun a w_20 hput hI => ?_)
    refine next_ hJ h1 hnl hsz hu (by kernel_rfl) (by kernel_rfl) hput hI (live := [8, 4, 2, 1]) ⟨[⟨8, [], .v (.bool (!t_3))⟩, ⟨4, [], .p 1 0⟩, ⟨2, [], .p 0 0⟩, ⟨1, [], .v (.int .i64 a1)⟩], [], [], [((((kd_Config).cells x0 sv0).map EV.v), 29), ([.v (.int .i64 t_10), .v (.int .i64 t_16)], 109)], none, none⟩ (by kernel_rfl) none (by kernel_rfl) [] [.t (some 10) (some (.v (.agg ((kd_Config).cells x0 sv0).toArray))), .t (some 11) (some (.v (.int .i64 a1))), .t (some 12) (some (.v (.int .i64 t_10))), .t (some 13) (some (.p 0 1)), .t (some 14) (some (.v (.slice ((sv0 1).1) x0.Chans.length ((sv0 1).2)))), .t (some 15) (some (.v (.int .i64 a1))), .t (some 16) (some (.v (.pointer (some ((adr ((sv0 1).1)).add ((a1 : Int).toNat * 7)))))), .t (some 17) (some (.v (.agg ((kd_Chan).cells (rd x0.Chans a1) (svL [])).toArray))), .t (some 18) (some (.v (.int .i64 t_16))), .t (some 19) (some (.v (.agg #[.int .i64 t_10, .int .i64 t_16]))), .t none none] (by kernel_rfl) (by kernel_rfl) (by kernel_rfl) True.intro (AL.none (by kernel_rfl)) (fun hJ hsz hu => ?_)
    refine end_ hJ hF hsz hu [.t (some (.v (.agg ((kd_Config).cells x0 sv0).toArray))), .t (some (.v (.int .i64 a1))), .t (some (.v (.int .i64 t_10))), .t (some (.p 0 1)), .t (some (.v (.slice ((sv0 1).1) x0.Chans.length ((sv0 1).2)))), .t (some (.v (.int .i64 a1))), .t (some (.v (.pointer (some ((adr ((sv0 1).1)).add ((a1 : Int).toNat * 7)))))), .t (some (.v (.agg ((kd_Chan).cells (rd x0.Chans a1) (svL [])).toArray))), .t (some (.v (.int .i64 t_16))), .t (some (.v (.agg #[.int .i64 t_10, .int .i64 t_16]))), .t none] (by kernel_rfl) (by kernel_rfl) (by kernel_rfl) (by kernel_rfl) (by kernel_rfl) (by kernel_rfl) (live := [4]) ⟨[⟨4, [], .p 1 0⟩], [], [], [((((kd_Config).cells x0 sv0).map EV.v), 29), ([.v (.int .i64 t_10), .v (.int .i64 t_16)], 109)], none, none⟩ (by kernel_rfl) trivial (fun a w_21 hI => ?_)
    refine then_normal ?_
    refine wpIn_ret ?_
    obtain rfl := Option.some.inj H0
    exact retCell hI rfl rfl rfl rfl rfl rfl ⟨rfl, hE.below hI⟩

/-! ### porthole/portholeref08.Dest: function 70 -/
noncomputable def G_ref08_Dest (x0 : Config) (a1 : Int) : Option (Span) := ((G_ref08_channel x0 a1).bind fun t_3 => (bif (!t_3) then some (⟨0, 0⟩ : Span) else ((G_ref08_before x0 a1).bind fun t_10 => (req (inb a1 x0.Chans.length) ((G_ref08_source (rd x0.Chans a1)).bind fun t_16 => some (⟨(IntKind.i64.wrap (t_10 + t_16)), 1⟩ : Span))))))
set_option maxRecDepth 100000 in
set_option maxHeartbeats 4000000 in
theorem G_ref08_Dest.calls (x0 : Config) (a1 : Int) (sv0 : SV) (w : World) {S : Nat → Prop} (hx0 : (kd_Config).cont S w x0 sv0) (r : Span) (h : G_ref08_Dest x0 a1 = some r) :
    Calls Try.prog 70 #[.agg ((kd_Config).cells x0 sv0).toArray, .int .i64 a1] w fun e w' => e = .returned (.agg ((kd_Span).cells r (svL [])).toArray) ∧ Below w.heap.size w w' := by
  replace hx0 := Kd.lo _ hx0
  unfold G_ref08_Dest at h
  have H0 := h
  clear h
  refine enter Try.func70 rfl [.agg ((kd_Config).cells x0 sv0).toArray, .int .i64 a1] (n := 21) rfl (Nat.le_of_ble_eq_true rfl) (fun a hI => ?_)
  have hF : FOpen Fence.wide := .inl rfl
  have hE := Ep.start w
  refine seq_region (live := [4, 2, 1]) (orc := []) hF hI ⟨[⟨4, [], .p 1 0⟩, ⟨2, [], .p 0 0⟩, ⟨1, [], .v (.int .i64 a1)⟩], [], [], [((((kd_Config).cells x0 sv0).map EV.v), 29), ([.v (.int .i64 0), .v (.int .i64 0)], 109)], none, none⟩ [] (by kernel_rfl) trivial (fun ns_1 a w_2 hI _ => ?_)
  refine wpIn_seq ?_
  obtain ⟨t_3, hG_4, H0⟩ := bind_some H0
  refine seq_region (live := [8, 4, 2, 1]) (orc := [[.bool t_3]]) hF hI ⟨[⟨8, [], .v (.bool (!t_3))⟩, ⟨4, [], .p 1 0⟩, ⟨2, [], .p 0 0⟩, ⟨1, [], .v (.int .i64 a1)⟩], [], [], [((((kd_Config).cells x0 sv0).map EV.v), 29), ([.v (.int .i64 0), .v (.int .i64 0)], 109)], none, none⟩ [.call true 83 [.agg ((kd_Config).cells x0 sv0).toArray, .int .i64 a1] (.bool t_3)] (by kernel_rfl) ⟨ob_call (enters Try.func83 (by kernel_rfl) rfl) (fun hg wz hk => G_ref08_channel.calls x0 a1 sv0 wz (S := fun _ => True) (Kd.any _ (Kd.keep kd_Config (contI (S := Lo S w w [] []) (w := w) (d := kd_Config) (x := x0) (sv := sv0) ⟨⟨hx0.1.1, hx0.1.2⟩, ⟨hx0.2.1.1, hx0.2.1.2⟩, ⟨hx0.2.2.1.1, hx0.2.2.1.2⟩, ⟨hx0.2.2.2.1.1, hx0.2.2.2.1.2⟩, trivial⟩) (Lo.on hk))) _ hG_4), trivial⟩ (fun ns_5 a w_6 hI _ => ?_)
  refine cond_ hI ((!t_3)) rfl (fun hc_7 => ?_) (fun hc_7 => ?_)
  · replace H0 := bif_t hc_7 H0
    refine seq_region (live := [4]) (orc := []) hF hI ⟨[⟨4, [], .p 1 0⟩], [], [], [((((kd_Config).cells x0 sv0).map EV.v), 29), ([.v (.int .i64 0), .v (.int .i64 0)], 109)], none, none⟩ [] (by kernel_rfl) trivial (fun ns_8 a w_9 hI _ => ?_)
    refine wpIn_ret ?_
    refine then_ret ?_
    obtain rfl := Option.some.inj H0
    exact retCell hI rfl rfl rfl rfl rfl rfl ⟨rfl, hE.below hI⟩
  · replace H0 := bif_f hc_7 H0
    refine wpIn_skip ?_
    refine then_normal ?_
    refine wpIn_seq ?_
    replace hI := hI.fin (live := [8, 4, 2, 1]) (σ2 := ⟨[⟨8, [], .v (.bool (!t_3))⟩, ⟨4, [], .p 1 0⟩, ⟨2, [], .p 0 0⟩, ⟨1, [], .v (.int .i64 a1)⟩], [], [], [((((kd_Config).cells x0 sv0).map EV.v), 29), ([.v (.int .i64 0), .v (.int .i64 0)], 109)], none, none⟩) (by kernel_rfl)
    obtain ⟨t_10, hG_11, H0⟩ := bind_some H0
    obtain ⟨hN_12, H0⟩ := req_some H0
    obtain ⟨sv_13, hE_15, hA_14⟩ := Arr.elB (d := kd_Chan) hx0.2.1.1 a1 true (fun _ => hN_12)
    replace hE_15 := hE_15 rfl
    replace hA_14 := fun (_ : true = true) => hA_14 rfl
    obtain ⟨t_16, hG_17, H0⟩ := bind_some H0
    refine drawnS_ hI (by kernel_rfl) [.q 10 (.v (.agg ((kd_Config).cells x0 sv0).toArray)) [], .q 11 (.v (.int .i64 a1)) [], .q 12 (.v (.int .i64 t_10)) [.call true 84 [.agg ((kd_Config).cells x0 sv0).toArray, .int .i64 a1] (.int .i64 t_10)], .q 13 (.p 0 1) [], .q 14 (.v (.slice ((sv0 1).1) x0.Chans.length ((sv0 1).2))) [], .q 15 (.v (.int .i64 a1)) [], .q 16 (.v (.pointer (some ((adr ((sv0 1).1)).add ((a1 : Int).toNat * 7))))) [.need true (0 ≤ a1 ∧ a1 < (x0.Chans.length : Int)), .need true ((sv0 1).1 = some (adr ((sv0 1).1)))], .q 17 (.v (.agg ((kd_Chan).cells (rd x0.Chans a1) (svL [])).toArray)) [.cell true ((adr ((sv0 1).1)).add ((a1 : Int).toNat * 7)) ((kd_Chan).cells (rd x0.Chans a1) sv_13)], .q 18 (.v (.int .i64 t_16)) [.call true 85 [.agg ((kd_Chan).cells (rd x0.Chans a1) (svL [])).toArray] (.int .i64 t_16)], .q 19 (.v (.int .i64 (IntKind.i64.wrap (t_10 + t_16)))) [], .q 20 (.v (.agg #[.int .i64 (IntKind.i64.wrap (t_10 + t_16)), .int .i64 1])) [], .no] (by kernel_rfl) (fun fuel listed w_18 hJ hsz hu => ?_)
    refine stage_ hJ hF hsz hu [.q [] [], .q [] [], .q [0, 1] [[.int .i64 t_10]], .q [] [], .q [3] [], .q [] [], .q [4, 5] [], .q [6] [(kd_Chan).cells (rd x0.Chans a1) sv_13], .q [7] [[.int .i64 t_16]], .q [2, 8] [], .q [9] [], .no] (by kernel_rfl) (by kernel_rfl) (by kernel_rfl) (by kernel_rfl) 11 rfl (by kernel_rfl) (by kernel_rfl) [10] rfl (by kernel_rfl) (by kernel_rfl) ⟨ob_call (enters Try.func84 (by kernel_rfl) rfl) (fun hg wz hk => G_ref08_before.calls x0 a1 sv0 wz (S := fun _ => True) (Kd.any _ (Kd.keep kd_Config (contI (S := Lo S w w [] []) (w := w) (d := kd_Config) (x := x0) (sv := sv0) ⟨⟨hx0.1.1, hx0.1.2⟩, ⟨hx0.2.1.1, hx0.2.1.2⟩, ⟨hx0.2.2.1.1, hx0.2.2.1.2⟩, ⟨hx0.2.2.2.1.1, hx0.2.2.2.1.2⟩, trivial⟩) (Lo.on hk))) _ hG_11), ob_inb (fun _ => hN_12), hA_14, ob_el (fun _ => hE_15) 0 ((kd_Chan).cells (rd x0.Chans a1) sv_13) rfl, ob_call (enters Try.func85 (by kernel_rfl) rfl) (fun hg wz hk => G_ref08_source.calls (rd x0.Chans a1) (svL []) wz (S := fun _ => True) (Kd.any _ (Kd.keep kd_Chan (contI (S := Lo S w w [] []) (w := w) (d := kd_Chan) (x := (rd x0.Chans a1)) (sv := (svL [])) trivial) (Lo.on hk))) _ hG_17), trivial⟩ [0, 1, 2, 3, 4, 5, 6, 7, 8, 9, 10] (by kernel_rfl) [.t (some 10) (some (.v (.agg ((kd_Config).cells x0 sv0).toArray))), .t (some 11) (some (.v (.int .i64 a1))), .t (some 12) (some (.v (.int .i64 t_10))), .t (some 13) (some (.p 0 1)), .t (some 14) (some (.v (.slice ((sv0 1).1) x0.Chans.length ((sv0 1).2)))), .t (some 15) (some (.v (.int .i64 a1))), .t (some 16) (some (.v (.pointer (some ((adr ((sv0 1).1)).add ((a1 : Int).toNat * 7)))))), .t (some 17) (some (.v (.agg ((kd_Chan).cells (rd x0.Chans a1) (svL [])).toArray))), .t (some 18) (some (.v (.int .i64 t_16))), .t (some 19) (some (.v (.int .i64 (IntKind.i64.wrap (t_10 + t_16))))), .t (some 20) (some (.v (.agg #[.int .i64 (IntKind.i64.wrap (t_10 + t_16)), .int .i64 1]))), .no] (by kernel_rfl) (fun fuel listed a w_19 hJ hI hW h1 hnl hsz hu => ?_)
    refine store_ hF hI hW rfl rfl (k := 1) (cs := [.v (.int .i64 (IntKind.i64.wrap (t_10 + t_16))), .v (.int .i64 1)]) (T := 109) (by kernel_rfl) (by kernel_rfl) rfl (fun a w_20 hput hI => ?_)
    refine next_ hJ h1 hnl hsz hu (by kernel_rfl) (by kernel_rfl) hput hI (live := [8, 4, 2, 1]) ⟨[⟨8, [], .v (.bool (!t_3))⟩, ⟨4, [], .p 1 0⟩, ⟨2, [], .p 0 0⟩, ⟨1, [], .v (.int .i64 a1)⟩], [], [], [((((kd_Config).cells x0 sv0).map EV.v), 29), ([.v (.int .i64 (IntKind.i64.wrap (t_10 + t_16))), .v (.int .i64 1)], 109)], none, none⟩ (by kernel_rfl) none (by kernel_rfl) [] [.t (some 10) (some (.v (.agg ((kd_Config).cells x0 sv0).toArray))), .t (some 11) (some (.v (.int .i64 a1))), .t (some 12) (some (.v (.int .i64 t_10))), .t (some 13) (some (.p 0 1)), .t (some 14) (some (.v (.slice ((sv0 1).1) x0.Chans.length ((sv0 1).2)))), .t (some 15) (some (.v (.int .i64 a1))), .t (some 16) (some (.v (.pointer (some ((adr ((sv0 1).1)).add ((a1 : Int).toNat * 7)))))), .t (some 17) (some (.v (.agg ((kd_Chan).cells (rd x0.Chans a1) (svL [])).toArray))), .t (some 18) (some (.v (.int .i64 t_16))), .t (some 19) (some (.v (.int .i64 (IntKind.i64.wrap (t_10 + t_16))))), .t (some 20) (some (.v (.agg #[.int .i64 (IntKind.i64.wrap (t_10 + t_16)), .int .i64 1]))), .t none none] (by kernel_rfl) (by kernel_rfl) (by kernel_rfl) True.intro (AL.none (by kernel_rfl)) (fun hJ hsz hu => ?_)
    refine end_ hJ hF hsz hu [.t (some (.v (.agg ((kd_Config).cells x0 sv0).toArray))), .t (some (.v (.int .i64 a1))), .t (some (.v (.int .i64 t_10))), .t (some (.p 0 1)), .t (some (.v (.slice ((sv0 1).1) x0.Chans.length ((sv0 1).2)))), .t (some (.v (.int .i64 a1))), .t (some (.v (.pointer (some ((adr ((sv0 1).1)).add ((a1 : Int).toNat * 7)))))), .t (some (.v (.agg ((kd_Chan).cells (rd x0.Chans a1) (svL [])).toArray))), .t (some (.v (.int .i64 t_16))), .t (some (.v (.int .i64 (IntKind.i64.wrap (t_10 + t_16))))), .t (some (.v (.agg #[.int .i64 (IntKind.i64.wrap (t_10 + t_16)), .int .i64 1]))), .t none] (by kernel_rfl) (by kernel_rfl) (by kernel_rfl) (by kernel_rfl) (by kernel_rfl) (by kernel_rfl) (live := [4]) ⟨[⟨4, [], .p 1 0⟩], [], [], [((((kd_Config).cells x0 sv0).map EV.v), 29), ([.v (.int .i64 (IntKind.i64.wrap (t_10 + t_16))), .v (.int .i64 1)], 109)], none, none⟩ (by kernel_rfl) trivial (fun a w_21 hI => ?_)
    refine then_normal ?_
    refine wpIn_ret ?_
    obtain rfl := Option.some.inj H0
    exact retCell hI rfl rfl rfl rfl rfl rfl ⟨rfl, hE.below hI⟩

/-! ### porthole/portholeref08.May: function 51 -/
noncomputable def G_ref08_May.b1 (x0 : Config) (a1 : Int) (a2 : Int) (t_3 : Span) (t_5 : Bool) (s1 : Int × Bool) : Option (Stp (Int × Bool) (Ex (Int × Bool) (Bool))) := (bif decide (s1.1 < (x0.Chans.length : Int)) then (req (inb s1.1 x0.Chans.length) ((cal (((rd x0.Chans s1.1).From) == a1) (G_ref08_Source x0 s1.1) default).bind fun t_23 => ((cal (((rd x0.Chans s1.1).From) == a1) (G_ref01_Has t_23 a2) default).bind fun t_25 => (req (imp (!((((rd x0.Chans s1.1).From) == a1) && t_25)) (inb s1.1 x0.Chans.length)) ((cal (!((((rd x0.Chans s1.1).From) == a1) && t_25) && (((rd x0.Chans s1.1).To) == a1)) (G_ref08_Dest x0 s1.1) default).bind fun t_31 => ((cal (!((((rd x0.Chans s1.1).From) == a1) && t_25) && (((rd x0.Chans s1.1).To) == a1)) (G_ref01_Has t_31 a2) default).bind fun t_33 => (bif (((((rd x0.Chans s1.1).From) == a1) && t_25) || ((((rd x0.Chans s1.1).To) == a1) && t_33)) then some (.out (.ret true)) else some (.next ((IntKind.i64.wrap (s1.1 + 1)), s1.2))))))))) else some (.out (.brk (s1.1, s1.2))))
noncomputable def G_ref08_May (x0 : Config) (a1 : Int) (a2 : Int) : Option (Bool) := ((G_ref08_Private x0 a1).bind fun t_3 => ((G_ref01_Has t_3 a2).bind fun t_5 => (bif t_5 then some true else ((loopω (G_ref08_May.b1 x0 a1 a2 t_3 t_5) (0, false)).bind fun o => o.on (fun s1 => some false) (fun r => some r)))))
set_option maxRecDepth 100000 in
set_option maxHeartbeats 4000000 in
theorem G_ref08_May.calls (x0 : Config) (a1 : Int) (a2 : Int) (sv0 : SV) (w : World) {S : Nat → Prop} (hx0 : (kd_Config).cont S w x0 sv0) (r : Bool) (h : G_ref08_May x0 a1 a2 = some r) :
    Calls Try.prog 51 #[.agg ((kd_Config).cells x0 sv0).toArray, .int .i64 a1, .int .i64 a2] w fun e w' => e = .returned (.bool r) ∧ Below w.heap.size w w' := by
  replace hx0 := Kd.lo _ hx0
  unfold G_ref08_May at h
  have H0 := h
  clear h
  refine enter Try.func51 rfl [.agg ((kd_Config).cells x0 sv0).toArray, .int .i64 a1, .int .i64 a2] (n := 52) rfl (Nat.le_of_ble_eq_true rfl) (fun a hI => ?_)
  have hF : FOpen Fence.wide := .inl rfl
  have hE := Ep.start w
  refine seq_region (live := [6, 3, 1, 2]) (orc := []) hF hI ⟨[⟨6, [], .v (.bool false)⟩, ⟨3, [], .p 0 0⟩, ⟨1, [], .v (.int .i64 a1)⟩, ⟨2, [], .v (.int .i64 a2)⟩], [], [], [((((kd_Config).cells x0 sv0).map EV.v), 29)], none, none⟩ [] (by kernel_rfl) trivial (fun ns_1 a w_2 hI _ => ?_)
  refine wpIn_seq ?_
  obtain ⟨t_3, hG_4, H0⟩ := bind_some H0
  obtain ⟨t_5, hG_6, H0⟩ := bind_some H0
  refine seq_region (live := [12, 6, 3, 1, 2]) (orc := [[.agg ((kd_Span).cells t_3 (svL [])).toArray], [.bool t_5]]) hF hI ⟨[⟨12, [], .v (.bool t_5)⟩, ⟨6, [], .v (.bool false)⟩, ⟨3, [], .p 0 0⟩, ⟨1, [], .v (.int .i64 a1)⟩, ⟨2, [], .v (.int .i64 a2)⟩], [], [], [((((kd_Config).cells x0 sv0).map EV.v), 29)], none, none⟩ [.call true 68 [.agg ((kd_Config).cells x0 sv0).toArray, .int .i64 a1] (.agg ((kd_Span).cells t_3 (svL [])).toArray), .call true 67 [.agg ((kd_Span).cells t_3 (svL [])).toArray, .int .i64 a2] (.bool t_5)] (by kernel_rfl) ⟨ob_call (enters Try.func68 (by kernel_rfl) rfl) (fun hg wz hk => G_ref08_Private.calls x0 a1 sv0 wz (S := fun _ => True) (Kd.any _ (Kd.keep kd_Config (contI (S := Lo S w w [] []) (w := w) (d := kd_Config) (x := x0) (sv := sv0) ⟨⟨hx0.1.1, hx0.1.2⟩, ⟨hx0.2.1.1, hx0.2.1.2⟩, ⟨hx0.2.2.1.1, hx0.2.2.1.2⟩, ⟨hx0.2.2.2.1.1, hx0.2.2.2.1.2⟩, trivial⟩) (Lo.on hk))) _ hG_4), ob_call (enters Try.func67 (by kernel_rfl) rfl) (fun hg wz hk => G_ref01_Has.calls t_3 a2 (svL []) wz (S := fun _ => True) (Kd.any _ (Kd.keep kd_Span (contI (S := Lo S w w [] []) (w := w) (d := kd_Span) (x := t_3) (sv := (svL [])) trivial) (Lo.on hk))) _ hG_6), trivial⟩ (fun ns_7 a w_8 hI _ => ?_)
  refine cond_ hI (t_5) rfl (fun hc_9 => ?_) (fun hc_9 => ?_)
  · replace H0 := bif_t hc_9 H0
    refine seq_region (live := [6]) (orc := []) hF hI ⟨[⟨6, [], .v (.bool true)⟩], [], [], [((((kd_Config).cells x0 sv0).map EV.v), 29)], none, none⟩ [] (by kernel_rfl) trivial (fun ns_10 a w_11 hI _ => ?_)
    refine wpIn_ret ?_
    refine then_ret ?_
    obtain rfl := Option.some.inj H0
    exact ret1 hI rfl rfl ⟨rfl, hE.below hI⟩
  · replace H0 := bif_f hc_9 H0
    refine wpIn_skip ?_
    refine then_normal ?_
    refine wpIn_seq ?_
    refine seq_region (live := [7, 6, 3, 1, 2]) (orc := []) hF hI ⟨[⟨7, [], .v (.int .i64 0)⟩, ⟨6, [], .v (.bool false)⟩, ⟨3, [], .p 0 0⟩, ⟨1, [], .v (.int .i64 a1)⟩, ⟨2, [], .v (.int .i64 a2)⟩], [], [], [((((kd_Config).cells x0 sv0).map EV.v), 29)], none, none⟩ [] (by kernel_rfl) trivial (fun ns_12 a w_13 hI _ => ?_)
    obtain ⟨o_42, hL_43, H0⟩ := bind_some H0
    refine block_loop (fun (s1 : Int × Bool) a w_48 => ∃ ns, St w [] 52 ⟨[⟨7, [], .v (.int .i64 s1.1)⟩, ⟨6, [], .v (.bool s1.2)⟩, ⟨3, [], .p 0 0⟩, ⟨1, [], .v (.int .i64 a1)⟩, ⟨2, [], .v (.int .i64 a2)⟩], [], [], [((((kd_Config).cells x0 sv0).map EV.v), 29)], none, none⟩ ns a w_48) (0, false) hL_43 ⟨_, hI.pick [7, 6, 3, 1, 2] 1 ⟨[⟨7, [], .v (.int .i64 0)⟩, ⟨6, [], .v (.bool false)⟩, ⟨3, [], .p 0 0⟩, ⟨1, [], .v (.int .i64 a1)⟩, ⟨2, [], .v (.int .i64 a2)⟩], [], [], [((((kd_Config).cells x0 sv0).map EV.v), 29)], none, none⟩ (by kernel_rfl)⟩ ?_ ?_
    · clear hI
      rintro s1 a w_14 ⟨ns_15, hI⟩ r1 H1
      unfold G_ref08_May.b1 at H1
      refine wpIn_seq ?_
      refine seq_region (live := [17, 7, 6, 3, 1, 2]) (orc := []) hF hI ⟨[⟨17, [], .v (.bool (decide (s1.1 < (x0.Chans.length : Int))))⟩, ⟨7, [], .v (.int .i64 s1.1)⟩, ⟨6, [], .v (.bool s1.2)⟩, ⟨3, [], .p 0 0⟩, ⟨1, [], .v (.int .i64 a1)⟩, ⟨2, [], .v (.int .i64 a2)⟩], [], [], [((((kd_Config).cells x0 sv0).map EV.v), 29)], none, none⟩ [] (by kernel_rfl) trivial (fun ns_16 a w_17 hI _ => ?_)
      refine cond_ hI (decide (s1.1 < (x0.Chans.length : Int))) rfl (fun hc_18 => ?_) (fun hc_18 => ?_)
      · replace H1 := bif_t hc_18 H1
        refine wpIn_skip ?_
        refine then_normal ?_
        refine wpIn_seq ?_
        refine wpIn_block ?_
        obtain ⟨hN_19, H1⟩ := req_some H1
        obtain ⟨sv_20, hE_22, hA_21⟩ := Arr.elB (d := kd_Chan) hx0.2.1.1 s1.1 true (fun _ => hN_19)
        replace hE_22 := hE_22 rfl
        replace hA_21 := fun (_ : true = true) => hA_21 rfl
        obtain ⟨t_23, hG_24, H1⟩ := bind_some H1
        obtain ⟨t_25, hG_26, H1⟩ := bind_some H1
        obtain ⟨hN_27, H1⟩ := req_some H1
        obtain ⟨sv_28, hE_30, hA_29⟩ := Arr.elB (d := kd_Chan) hx0.2.1.1 s1.1 (!((((rd x0.Chans s1.1).From) == a1) && t_25)) (fun hg => imp_spec hN_27 hg)
        obtain ⟨t_31, hG_32, H1⟩ := bind_some H1
        obtain ⟨t_33, hG_34, H1⟩ := bind_some H1
        refine seq_region (live := [51, 7, 6, 3, 1, 2]) (orc := [[.int .i64 ((rd x0.Chans s1.1).From)], [.agg ((kd_Span).cells t_23 (svL [])).toArray], [.bool t_25], [.int .i64 ((rd x0.Chans s1.1).To)], [.agg ((kd_Span).cells t_31 (svL [])).toArray], [.bool t_33]]) hF hI ⟨[⟨51, [], .v (.bool (((((rd x0.Chans s1.1).From) == a1) && t_25) || ((((rd x0.Chans s1.1).To) == a1) && t_33)))⟩, ⟨7, [], .v (.int .i64 s1.1)⟩, ⟨6, [], .v (.bool s1.2)⟩, ⟨3, [], .p 0 0⟩, ⟨1, [], .v (.int .i64 a1)⟩, ⟨2, [], .v (.int .i64 a2)⟩], [], [], [((((kd_Config).cells x0 sv0).map EV.v), 29)], none, none⟩ [.need true (0 ≤ s1.1 ∧ s1.1 < (x0.Chans.length : Int)), .need true ((sv0 1).1 = some (adr ((sv0 1).1))), .cell true (((adr ((sv0 1).1)).add ((s1.1 : Int).toNat * 7)).add 1) [.int .i64 ((rd x0.Chans s1.1).From)], .call (((rd x0.Chans s1.1).From) == a1) 69 [.agg ((kd_Config).cells x0 sv0).toArray, .int .i64 s1.1] (.agg ((kd_Span).cells t_23 (svL [])).toArray), .call (((rd x0.Chans s1.1).From) == a1) 67 [.agg ((kd_Span).cells t_23 (svL [])).toArray, .int .i64 a2] (.bool t_25), .need (!((((rd x0.Chans s1.1).From) == a1) && t_25)) (0 ≤ s1.1 ∧ s1.1 < (x0.Chans.length : Int)), .need (!((((rd x0.Chans s1.1).From) == a1) && t_25)) ((sv0 1).1 = some (adr ((sv0 1).1))), .cell (!((((rd x0.Chans s1.1).From) == a1) && t_25)) (((adr ((sv0 1).1)).add ((s1.1 : Int).toNat * 7)).add 2) [.int .i64 ((rd x0.Chans s1.1).To)], .call (!((((rd x0.Chans s1.1).From) == a1) && t_25) && (((rd x0.Chans s1.1).To) == a1)) 70 [.agg ((kd_Config).cells x0 sv0).toArray, .int .i64 s1.1] (.agg ((kd_Span).cells t_31 (svL [])).toArray), .call (!((((rd x0.Chans s1.1).From) == a1) && t_25) && (((rd x0.Chans s1.1).To) == a1)) 67 [.agg ((kd_Span).cells t_31 (svL [])).toArray, .int .i64 a2] (.bool t_33)] (by kernel_rfl) ⟨ob_inb (fun _ => hN_19), hA_21, ob_el (fun _ => hE_22) 1 [.int .i64 ((rd x0.Chans s1.1).From)] rfl, ob_call (enters Try.func69 (by kernel_rfl) rfl) (fun hg wz hk => G_ref08_Source.calls x0 s1.1 sv0 wz (S := fun _ => True) (Kd.any _ (Kd.keep kd_Config (contI (S := Lo S w w [] []) (w := w) (d := kd_Config) (x := x0) (sv := sv0) ⟨⟨hx0.1.1, hx0.1.2⟩, ⟨hx0.2.1.1, hx0.2.1.2⟩, ⟨hx0.2.2.1.1, hx0.2.2.1.2⟩, ⟨hx0.2.2.2.1.1, hx0.2.2.2.1.2⟩, trivial⟩) (Lo.on hk))) _ (cal_some hG_24 hg)), ob_call (enters Try.func67 (by kernel_rfl) rfl) (fun hg wz hk => G_ref01_Has.calls t_23 a2 (svL []) wz (S := fun _ => True) (Kd.any _ (Kd.keep kd_Span (contI (S := Lo S w w [] []) (w := w) (d := kd_Span) (x := t_23) (sv := (svL [])) trivial) (Lo.on hk))) _ (cal_some hG_26 hg)), ob_inb (fun hg => imp_spec hN_27 hg), hA_29, ob_el (fun hg => hE_30 hg) 2 [.int .i64 ((rd x0.Chans s1.1).To)] rfl, ob_call (enters Try.func70 (by kernel_rfl) rfl) (fun hg wz hk => G_ref08_Dest.calls x0 s1.1 sv0 wz (S := fun _ => True) (Kd.any _ (Kd.keep kd_Config (contI (S := Lo S w w [] []) (w := w) (d := kd_Config) (x := x0) (sv := sv0) ⟨⟨hx0.1.1, hx0.1.2⟩, ⟨hx0.2.1.1, hx0.2.1.2⟩, ⟨hx0.2.2.1.1, hx0.2.2.1.2⟩, ⟨hx0.2.2.2.1.1, hx0.2.2.2.1.2⟩, trivial⟩) (Lo.on hk))) _ (cal_some hG_32 hg)), ob_call (enters Try.func67 (by kernel_rfl) rfl) (fun hg wz hk => G_ref01_Has.calls t_31 a2 (svL []) wz (S := fun _ => True) (Kd.any _ (Kd.keep kd_Span (contI (S := Lo S w w [] []) (w := w) (d := kd_Span) (x := t_31) (sv := (svL [])) trivial) (Lo.on hk))) _ (cal_some hG_34 hg)), trivial⟩ (fun ns_35 a w_36 hI _ => ?_)
        refine cond_ hI ((((((rd x0.Chans s1.1).From) == a1) && t_25) || ((((rd x0.Chans s1.1).To) == a1) && t_33))) rfl (fun hc_37 => ?_) (fun hc_37 => ?_)
        · replace H1 := bif_t hc_37 H1
          refine seq_region (live := [6]) (orc := []) hF hI ⟨[⟨6, [], .v (.bool true)⟩], [], [], [((((kd_Config).cells x0 sv0).map EV.v), 29)], none, none⟩ [] (by kernel_rfl) trivial (fun ns_38 a w_39 hI _ => ?_)
          refine wpIn_ret ?_
          refine inBlock_ret ?_
          refine then_ret ?_
          refine then_ret ?_
          obtain rfl := Option.some.inj H1
          refine .inr ⟨_, rfl, fun ho => ?_⟩
          subst ho
          refine inBlock_ret ?_
          refine then_ret ?_
          obtain rfl := Option.some.inj H0
          exact ret1 hI rfl rfl ⟨rfl, hE.below hI⟩
        · replace H1 := bif_f hc_37 H1
          refine wpIn_skip ?_
          refine inBlock_normal ?_
          refine then_normal ?_
          refine region_ (live := [7, 6, 3, 1, 2]) (orc := []) hF hI ⟨[⟨7, [], .v (.int .i64 (IntKind.i64.wrap (s1.1 + 1)))⟩, ⟨6, [], .v (.bool s1.2)⟩, ⟨3, [], .p 0 0⟩, ⟨1, [], .v (.int .i64 a1)⟩, ⟨2, [], .v (.int .i64 a2)⟩], [], [], [((((kd_Config).cells x0 sv0).map EV.v), 29)], none, none⟩ [] (by kernel_rfl) trivial (fun ns_40 a w_41 hI _ => ?_)
          refine then_normal ?_
          obtain rfl := Option.some.inj H1
          exact ⟨_, rfl, ⟨_, hI.pick [7, 6, 3, 1, 2] 1 ⟨[⟨7, [], .v (.int .i64 (IntKind.i64.wrap (s1.1 + 1)))⟩, ⟨6, [], .v (.bool s1.2)⟩, ⟨3, [], .p 0 0⟩, ⟨1, [], .v (.int .i64 a1)⟩, ⟨2, [], .v (.int .i64 a2)⟩], [], [], [((((kd_Config).cells x0 sv0).map EV.v), 29)], none, none⟩ (by kernel_rfl)⟩⟩
      · replace H1 := bif_f hc_18 H1
        refine wpIn_exit ?_
        refine then_exit ?_
        refine then_exit ?_
        obtain rfl := Option.some.inj H1
        exact .inl ⟨_, rfl, rfl, ⟨_, hI.pick [7, 6, 3, 1, 2] 1 ⟨[⟨7, [], .v (.int .i64 s1.1)⟩, ⟨6, [], .v (.bool s1.2)⟩, ⟨3, [], .p 0 0⟩, ⟨1, [], .v (.int .i64 a1)⟩, ⟨2, [], .v (.int .i64 a2)⟩], [], [], [((((kd_Config).cells x0 sv0).map EV.v), 29)], none, none⟩ (by kernel_rfl)⟩⟩
    · clear hI
      rintro s1 a w_44 ho ⟨ns_45, hI⟩
      subst ho
      replace H0 : (some false : Option (Bool)) = _ := H0
      refine then_normal ?_
      refine seq_region (live := [6]) (orc := []) hF hI ⟨[⟨6, [], .v (.bool false)⟩], [], [], [((((kd_Config).cells x0 sv0).map EV.v), 29)], none, none⟩ [] (by kernel_rfl) trivial (fun ns_46 a w_47 hI _ => ?_)
      refine wpIn_ret ?_
      obtain rfl := Option.some.inj H0
      exact ret1 hI rfl rfl ⟨rfl, hE.below hI⟩

/-! ### porthole/portholeref22.Own: function 35 -/
noncomputable def G_ref22_Own.b1 (x0 : Config) (a1 : Int) (l2 : (List Int)) (l3 : (List Int)) (t_5 : (List Int)) (s1 : Int × Bool) : Option (Stp (Int × Bool) (Ex (Int × Bool) (Bool))) := (bif decide (s1.1 < (t_5.length : Int)) then (req (inb s1.1 t_5.length) ((G_ref08_May x0 a1 (rd t_5 s1.1)).bind fun t_23 => (bif (!t_23) then some (.out (.ret false)) else some (.next ((IntKind.i64.wrap (s1.1 + 1)), s1.2))))) else some (.out (.brk (s1.1, s1.2))))
noncomputable def G_ref22_Own (x0 : Config) (a1 : Int) (l2 : (List Int)) (l3 : (List Int)) : Option (Bool) := ((G_ref22_Changed l2 l3).bind fun t_5 => ((loopω (G_ref22_Own.b1 x0 a1 l2 l3 t_5) (0, false)).bind fun o => o.on (fun s1 => some true) (fun r => some r)))
set_option maxRecDepth 100000 in
set_option maxHeartbeats 4000000 in
theorem G_ref22_Own.calls (x0 : Config) (a1 : Int) (l2 : (List Int)) (l3 : (List Int)) (sv0 : SV) (A2 : Option Addr) (c2 : Nat) (A3 : Option Addr) (c3 : Nat) (w : World) {S : Nat → Prop} (hx0 : (kd_Config).cont S w x0 sv0) (hr2 : Arr (Kd.int .u32) S w A2 l2) (hc2 : l2.length ≤ c2) (hr3 : Arr (Kd.int .u32) S w A3 l3) (hc3 : l3.length ≤ c3) (r : Bool) (h : G_ref22_Own x0 a1 l2 l3 = some r) :
    Calls Try.prog 35 #[.agg ((kd_Config).cells x0 sv0).toArray, .int .i64 a1, .slice A2 l2.length c2, .slice A3 l3.length c3] w fun e w' => e = .returned (.bool r) ∧ Below w.heap.size w w' := by
  replace hx0 := Kd.lo _ hx0
  replace hr2 := Arr.lo hr2
  replace hr3 := Arr.lo hr3
  unfold G_ref22_Own at h
  have H0 := h
  clear h
  refine enter Try.func35 rfl [.agg ((kd_Config).cells x0 sv0).toArray, .int .i64 a1, .slice A2 l2.length c2, .slice A3 l3.length c3] (n := 28) rfl (Nat.le_of_ble_eq_true rfl) (fun a hI => ?_)
  have hF : FOpen Fence.wide := .inl rfl
  have hE := Ep.start w
  refine seq_region (live := [8, 4, 1, 2, 3]) (orc := []) hF hI ⟨[⟨8, [], .v (.bool false)⟩, ⟨4, [], .p 0 0⟩, ⟨1, [], .v (.int .i64 a1)⟩, ⟨2, [], .v (.slice A2 l2.length c2)⟩, ⟨3, [], .v (.slice A3 l3.length c3)⟩], [], [], [((((kd_Config).cells x0 sv0).map EV.v), 29)], none, none⟩ [] (by kernel_rfl) trivial (fun ns_1 a w_2 hI _ => ?_)
  refine wpIn_seq ?_
  refine wpIn_region_lit ?_
  refine chunkL_ (live := [12, 11, 8, 4, 1]) (orc := []) hF 2 hI ⟨[⟨12, [], .v (.slice A3 l3.length c3)⟩, ⟨11, [], .v (.slice A2 l2.length c2)⟩, ⟨8, [], .v (.bool false)⟩, ⟨4, [], .p 0 0⟩, ⟨1, [], .v (.int .i64 a1)⟩], [], [], [((((kd_Config).cells x0 sv0).map EV.v), 29)], none, none⟩ [] rfl (by kernel_rfl) trivial (fun ns_3 a w_4 hI => ?_)
  obtain ⟨hE', hmv, hmr⟩ := Ep.rebase (S0 := S) hE hI
  replace hx0 := Kd.keep _ hx0 hmv
  replace hr2 := Arr.keep hr2 hmv
  replace hr3 := Arr.keep hr3 hmv
  replace hE := hE'
  replace hI := hI.rebase
  clear hE' hmv hmr
  obtain ⟨t_5, hG_6, H0⟩ := bind_some H0
  refine callH_ (S0 := S) hF hE hI (wanted_none rfl) rfl (args := [.slice A2 l2.length c2, .slice A3 l3.length c3]) rfl (enters Try.func31 (by kernel_rfl) rfl) (fun sv_7 => .slice ((sv_7 0).1) t_5.length ((sv_7 0).2)) _ (G_ref22_Changed.calls l2 l3 A2 c2 A3 c3 w_4 (S := Lo S w w_4 ns_3 []) hr2 hc2 hr3 hc3 _ hG_6) (fun sv_7 => ⟨[⟨13, [], .v (.slice ((sv_7 0).1) t_5.length ((sv_7 0).2))⟩, ⟨12, [], .v (.slice A3 l3.length c3)⟩, ⟨11, [], .v (.slice A2 l2.length c2)⟩, ⟨8, [], .v (.bool false)⟩, ⟨4, [], .p 0 0⟩, ⟨1, [], .v (.int .i64 a1)⟩], [], [], [((((kd_Config).cells x0 sv0).map EV.v), 29)], none, none⟩) (fun sv_7 => by kernel_rfl) (fun sv_7 a w_9 hput hE' hI' hmv hmr hres hR => ?_)
  replace hx0 := Kd.keep _ hx0 hmv
  replace hr2 := Arr.keep hr2 hmv
  replace hr3 := Arr.keep hr3 hmv
  replace hE := hE'
  replace hI := hI'
  clear hE' hI' hmv hmr
  obtain ⟨hR_8, hR_8c⟩ := hR
  replace hR_8 := Arr.keep hR_8 hres
  clear hres
  refine chunkL_ (live := [9, 8, 4, 1]) (orc := []) hF 1 hI ⟨[⟨9, [], .v (.slice ((sv_7 0).1) t_5.length ((sv_7 0).2))⟩, ⟨8, [], .v (.bool false)⟩, ⟨4, [], .p 0 0⟩, ⟨1, [], .v (.int .i64 a1)⟩], [], [], [((((kd_Config).cells x0 sv0).map EV.v), 29)], none, none⟩ [] rfl (by kernel_rfl) trivial (fun ns_10 a w_11 hI => ?_)
  refine wpListIn_nil ?_
  refine then_normal ?_
  refine wpIn_seq ?_
  refine seq_region (live := [10, 9, 8, 4, 1]) (orc := []) hF hI ⟨[⟨10, [], .v (.int .i64 0)⟩, ⟨9, [], .v (.slice ((sv_7 0).1) t_5.length ((sv_7 0).2))⟩, ⟨8, [], .v (.bool false)⟩, ⟨4, [], .p 0 0⟩, ⟨1, [], .v (.int .i64 a1)⟩], [], [], [((((kd_Config).cells x0 sv0).map EV.v), 29)], none, none⟩ [] (by kernel_rfl) trivial (fun ns_12 a w_13 hI _ => ?_)
  obtain ⟨o_31, hL_32, H0⟩ := bind_some H0
  refine block_loop (fun (s1 : Int × Bool) a w_37 => ∃ ns, St w_9 ns_3 28 ⟨[⟨10, [], .v (.int .i64 s1.1)⟩, ⟨9, [], .v (.slice ((sv_7 0).1) t_5.length ((sv_7 0).2))⟩, ⟨8, [], .v (.bool s1.2)⟩, ⟨4, [], .p 0 0⟩, ⟨1, [], .v (.int .i64 a1)⟩], [], [], [((((kd_Config).cells x0 sv0).map EV.v), 29)], none, none⟩ ns a w_37) (0, false) hL_32 ⟨_, hI.pick [10, 9, 8, 4, 1] 1 ⟨[⟨10, [], .v (.int .i64 0)⟩, ⟨9, [], .v (.slice ((sv_7 0).1) t_5.length ((sv_7 0).2))⟩, ⟨8, [], .v (.bool false)⟩, ⟨4, [], .p 0 0⟩, ⟨1, [], .v (.int .i64 a1)⟩], [], [], [((((kd_Config).cells x0 sv0).map EV.v), 29)], none, none⟩ (by kernel_rfl)⟩ ?_ ?_
  · clear hI
    rintro s1 a w_14 ⟨ns_15, hI⟩ r1 H1
    unfold G_ref22_Own.b1 at H1
    refine wpIn_seq ?_
    refine seq_region (live := [17, 10, 9, 8, 4, 1]) (orc := []) hF hI ⟨[⟨17, [], .v (.bool (decide (s1.1 < (t_5.length : Int))))⟩, ⟨10, [], .v (.int .i64 s1.1)⟩, ⟨9, [], .v (.slice ((sv_7 0).1) t_5.length ((sv_7 0).2))⟩, ⟨8, [], .v (.bool s1.2)⟩, ⟨4, [], .p 0 0⟩, ⟨1, [], .v (.int .i64 a1)⟩], [], [], [((((kd_Config).cells x0 sv0).map EV.v), 29)], none, none⟩ [] (by kernel_rfl) trivial (fun ns_16 a w_17 hI _ => ?_)
    refine cond_ hI (decide (s1.1 < (t_5.length : Int))) rfl (fun hc_18 => ?_) (fun hc_18 => ?_)
    · replace H1 := bif_t hc_18 H1
      refine wpIn_skip ?_
      refine then_normal ?_
      refine wpIn_seq ?_
      refine wpIn_block ?_
      refine wpIn_seq ?_
      obtain ⟨hN_19, H1⟩ := req_some H1
      obtain ⟨sv_20, hE_22, hA_21⟩ := Arr.elB (d := (Kd.int .i64)) hR_8 s1.1 true (fun _ => hN_19)
      replace hE_22 := hE_22 rfl
      replace hA_21 := fun (_ : true = true) => hA_21 rfl
      obtain ⟨t_23, hG_24, H1⟩ := bind_some H1
      refine drawn_ (live := [27, 10, 9, 8, 4, 1]) (orc := [[.int .i64 (rd t_5 s1.1)], [.bool t_23]]) hF hI ⟨[⟨27, [], .v (.bool (!t_23))⟩, ⟨10, [], .v (.int .i64 s1.1)⟩, ⟨9, [], .v (.slice ((sv_7 0).1) t_5.length ((sv_7 0).2))⟩, ⟨8, [], .v (.bool s1.2)⟩, ⟨4, [], .p 0 0⟩, ⟨1, [], .v (.int .i64 a1)⟩], [], [], [((((kd_Config).cells x0 sv0).map EV.v), 29)], none, none⟩ [.need true (0 ≤ s1.1 ∧ s1.1 < (t_5.length : Int)), .need true ((sv_7 0).1 = some (adr ((sv_7 0).1))), .cell true ((adr ((sv_7 0).1)).add ((s1.1 : Int).toNat * 1)) [.int .i64 (rd t_5 s1.1)], .call true 51 [.agg ((kd_Config).cells x0 sv0).toArray, .int .i64 a1, .int .i64 (rd t_5 s1.1)] (.bool t_23)] (by kernel_rfl) (by kernel_rfl) (by kernel_rfl) ⟨ob_inb (fun _ => hN_19), hA_21, ob_el (fun _ => hE_22) 0 [.int .i64 (rd t_5 s1.1)] rfl, ob_call (enters Try.func51 (by kernel_rfl) rfl) (fun hg wz hk => G_ref08_May.calls x0 a1 (rd t_5 s1.1) sv0 wz (S := fun _ => True) (Kd.any _ (Kd.keep kd_Config (contI (S := Lo S w w_9 ns_3 []) (w := w_9) (d := kd_Config) (x := x0) (sv := sv0) ⟨⟨hx0.1.1, hx0.1.2⟩, ⟨hx0.2.1.1, hx0.2.1.2⟩, ⟨hx0.2.2.1.1, hx0.2.2.1.2⟩, ⟨hx0.2.2.2.1.1, hx0.2.2.2.1.2⟩, trivial⟩) (Lo.on hk))) _ hG_24), trivial⟩ (fun a w_25 hI => ?_)
      refine then_normal ?_
      refine cond_ hI ((!t_23)) rfl (fun hc_26 => ?_) (fun hc_26 => ?_)
      · replace H1 := bif_t hc_26 H1
        refine seq_region (live := [8]) (orc := []) hF hI ⟨[⟨8, [], .v (.bool false)⟩], [], [], [((((kd_Config).cells x0 sv0).map EV.v), 29)], none, none⟩ [] (by kernel_rfl) trivial (fun ns_27 a w_28 hI _ => ?_)
        refine wpIn_ret ?_
        refine inBlock_ret ?_
        refine then_ret ?_
        refine then_ret ?_
        obtain rfl := Option.some.inj H1
        refine .inr ⟨_, rfl, fun ho => ?_⟩
        subst ho
        refine inBlock_ret ?_
        refine then_ret ?_
        obtain rfl := Option.some.inj H0
        exact ret1 hI rfl rfl ⟨rfl, hE.below hI⟩
      · replace H1 := bif_f hc_26 H1
        refine wpIn_skip ?_
        refine inBlock_normal ?_
        refine then_normal ?_
        refine region_ (live := [10, 9, 8, 4, 1]) (orc := []) hF hI ⟨[⟨10, [], .v (.int .i64 (IntKind.i64.wrap (s1.1 + 1)))⟩, ⟨9, [], .v (.slice ((sv_7 0).1) t_5.length ((sv_7 0).2))⟩, ⟨8, [], .v (.bool s1.2)⟩, ⟨4, [], .p 0 0⟩, ⟨1, [], .v (.int .i64 a1)⟩], [], [], [((((kd_Config).cells x0 sv0).map EV.v), 29)], none, none⟩ [] (by kernel_rfl) trivial (fun ns_29 a w_30 hI _ => ?_)
        refine then_normal ?_
        obtain rfl := Option.some.inj H1
        exact ⟨_, rfl, ⟨_, hI.pick [10, 9, 8, 4, 1] 1 ⟨[⟨10, [], .v (.int .i64 (IntKind.i64.wrap (s1.1 + 1)))⟩, ⟨9, [], .v (.slice ((sv_7 0).1) t_5.length ((sv_7 0).2))⟩, ⟨8, [], .v (.bool s1.2)⟩, ⟨4, [], .p 0 0⟩, ⟨1, [], .v (.int .i64 a1)⟩], [], [], [((((kd_Config).cells x0 sv0).map EV.v), 29)], none, none⟩ (by kernel_rfl)⟩⟩
    · replace H1 := bif_f hc_18 H1
      refine wpIn_exit ?_
      refine then_exit ?_
      refine then_exit ?_
      obtain rfl := Option.some.inj H1
      exact .inl ⟨_, rfl, rfl, ⟨_, hI.pick [10, 9, 8, 4, 1] 1 ⟨[⟨10, [], .v (.int .i64 s1.1)⟩, ⟨9, [], .v (.slice ((sv_7 0).1) t_5.length ((sv_7 0).2))⟩, ⟨8, [], .v (.bool s1.2)⟩, ⟨4, [], .p 0 0⟩, ⟨1, [], .v (.int .i64 a1)⟩], [], [], [((((kd_Config).cells x0 sv0).map EV.v), 29)], none, none⟩ (by kernel_rfl)⟩⟩
  · clear hI
    rintro s1 a w_33 ho ⟨ns_34, hI⟩
    subst ho
    replace H0 : (some true : Option (Bool)) = _ := H0
    refine then_normal ?_
    refine seq_region (live := [8]) (orc := []) hF hI ⟨[⟨8, [], .v (.bool true)⟩], [], [], [((((kd_Config).cells x0 sv0).map EV.v), 29)], none, none⟩ [] (by kernel_rfl) trivial (fun ns_35 a w_36 hI _ => ?_)
    refine wpIn_ret ?_
    obtain rfl := Option.some.inj H0
    exact ret1 hI rfl rfl ⟨rfl, hE.below hI⟩

/-! ### slices.Index[[]int,int]: function 71 -/
noncomputable def G_slices_Index_int_int.b1 (l0 : (List Int)) (a1 : Int) (s1 : Int × Int) : Option (Stp (Int × Int) (Ex (Int × Int) (Int))) := (bif decide (s1.1 < (l0.length : Int)) then (req (inb s1.1 l0.length) (bif (a1 == (rd l0 s1.1)) then some (.out (.ret s1.1)) else some (.next ((IntKind.i64.wrap (s1.1 + 1)), s1.2)))) else some (.out (.brk (s1.1, s1.2))))
noncomputable def G_slices_Index_int_int (l0 : (List Int)) (a1 : Int) : Option (Int) := ((loopω (G_slices_Index_int_int.b1 l0 a1) (0, 0)).bind fun o => o.on (fun s1 => some (-1)) (fun r => some r))
set_option maxRecDepth 100000 in
set_option maxHeartbeats 4000000 in
theorem G_slices_Index_int_int.calls (l0 : (List Int)) (a1 : Int) (A0 : Option Addr) (c0 : Nat) (w : World) {S : Nat → Prop} (hr0 : Arr (Kd.int .i64) S w A0 l0) (hc0 : l0.length ≤ c0) (r : Int) (h : G_slices_Index_int_int l0 a1 = some r) :
    Calls Try.prog 71 #[.slice A0 l0.length c0, .int .i64 a1] w fun e w' => e = .returned (.int .i64 r) ∧ Below w.heap.size w w' := by
  replace hr0 := Arr.lo hr0
  unfold G_slices_Index_int_int at h
  have H0 := h
  clear h
  refine enter Try.func71 rfl [.slice A0 l0.length c0, .int .i64 a1] (n := 19) rfl (Nat.le_of_ble_eq_true rfl) (fun a hI => ?_)
  have hF : FOpen Fence.wide := .inl rfl
  have hE := Ep.start w
  refine seq_region (live := [4, 0, 1]) (orc := []) hF hI ⟨[⟨4, [], .v (.int .i64 0)⟩, ⟨0, [], .v (.slice A0 l0.length c0)⟩, ⟨1, [], .v (.int .i64 a1)⟩], [], [], [], none, none⟩ [] (by kernel_rfl) trivial (fun ns_1 a w_2 hI _ => ?_)
  refine wpIn_seq ?_
  refine seq_region (live := [8, 7, 4, 0, 1]) (orc := []) hF hI ⟨[⟨8, [], .v (.int .i64 0)⟩, ⟨7, [], .v (.int .i64 (l0.length : Int))⟩, ⟨4, [], .v (.int .i64 0)⟩, ⟨0, [], .v (.slice A0 l0.length c0)⟩, ⟨1, [], .v (.int .i64 a1)⟩], [], [], [], none, none⟩ [] (by kernel_rfl) trivial (fun ns_3 a w_4 hI _ => ?_)
  obtain ⟨o_23, hL_24, H0⟩ := bind_some H0
  refine block_loop (fun (s1 : Int × Int) a w_29 => ∃ ns, St w [] 19 ⟨[⟨8, [], .v (.int .i64 s1.1)⟩, ⟨7, [], .v (.int .i64 (l0.length : Int))⟩, ⟨4, [], .v (.int .i64 s1.2)⟩, ⟨0, [], .v (.slice A0 l0.length c0)⟩, ⟨1, [], .v (.int .i64 a1)⟩], [], [], [], none, none⟩ ns a w_29) (0, 0) hL_24 ⟨_, hI.pick [8, 7, 4, 0, 1] 0 ⟨[⟨8, [], .v (.int .i64 0)⟩, ⟨7, [], .v (.int .i64 (l0.length : Int))⟩, ⟨4, [], .v (.int .i64 0)⟩, ⟨0, [], .v (.slice A0 l0.length c0)⟩, ⟨1, [], .v (.int .i64 a1)⟩], [], [], [], none, none⟩ (by kernel_rfl)⟩ ?_ ?_
  · clear hI
    rintro s1 a w_5 ⟨ns_6, hI⟩ r1 H1
    unfold G_slices_Index_int_int.b1 at H1
    refine seq_region (live := [9, 8, 7, 4, 0, 1]) (orc := []) hF hI ⟨[⟨9, [], .v (.bool (decide (s1.1 < (l0.length : Int))))⟩, ⟨8, [], .v (.int .i64 s1.1)⟩, ⟨7, [], .v (.int .i64 (l0.length : Int))⟩, ⟨4, [], .v (.int .i64 s1.2)⟩, ⟨0, [], .v (.slice A0 l0.length c0)⟩, ⟨1, [], .v (.int .i64 a1)⟩], [], [], [], none, none⟩ [] (by kernel_rfl) trivial (fun ns_7 a w_8 hI _ => ?_)
    refine wpIn_seq ?_
    refine cond_ hI (decide (s1.1 < (l0.length : Int))) rfl (fun hc_9 => ?_) (fun hc_9 => ?_)
    · replace H1 := bif_t hc_9 H1
      refine wpIn_skip ?_
      refine then_normal ?_
      refine wpIn_seq ?_
      refine wpIn_block ?_
      refine seq_region (live := [5, 8, 7, 4, 0, 1]) (orc := []) hF hI ⟨[⟨5, [], .v (.int .i64 s1.1)⟩, ⟨8, [], .v (.int .i64 s1.1)⟩, ⟨7, [], .v (.int .i64 (l0.length : Int))⟩, ⟨4, [], .v (.int .i64 s1.2)⟩, ⟨0, [], .v (.slice A0 l0.length c0)⟩, ⟨1, [], .v (.int .i64 a1)⟩], [], [], [], none, none⟩ [] (by kernel_rfl) trivial (fun ns_10 a w_11 hI _ => ?_)
      obtain ⟨hN_12, H1⟩ := req_some H1
      obtain ⟨sv_13, hE_15, hA_14⟩ := Arr.elB (d := (Kd.int .i64)) hr0 s1.1 true (fun _ => hN_12)
      replace hE_15 := hE_15 rfl
      replace hA_14 := fun (_ : true = true) => hA_14 rfl
      refine seq_region (live := [16, 5, 8, 7, 4, 0, 1]) (orc := [[.int .i64 (rd l0 s1.1)]]) hF hI ⟨[⟨16, [], .v (.bool (a1 == (rd l0 s1.1)))⟩, ⟨5, [], .v (.int .i64 s1.1)⟩, ⟨8, [], .v (.int .i64 s1.1)⟩, ⟨7, [], .v (.int .i64 (l0.length : Int))⟩, ⟨4, [], .v (.int .i64 s1.2)⟩, ⟨0, [], .v (.slice A0 l0.length c0)⟩, ⟨1, [], .v (.int .i64 a1)⟩], [], [], [], none, none⟩ [.need true (0 ≤ s1.1 ∧ s1.1 < (l0.length : Int)), .need true (A0 = some (adr A0)), .cell true ((adr A0).add ((s1.1 : Int).toNat * 1)) [.int .i64 (rd l0 s1.1)]] (by kernel_rfl) ⟨ob_inb (fun _ => hN_12), hA_14, ob_el (fun _ => hE_15) 0 [.int .i64 (rd l0 s1.1)] rfl, trivial⟩ (fun ns_16 a w_17 hI _ => ?_)
      refine cond_ hI ((a1 == (rd l0 s1.1))) rfl (fun hc_18 => ?_) (fun hc_18 => ?_)
      · replace H1 := bif_t hc_18 H1
        refine seq_region (live := [4]) (orc := []) hF hI ⟨[⟨4, [], .v (.int .i64 s1.1)⟩], [], [], [], none, none⟩ [] (by kernel_rfl) trivial (fun ns_19 a w_20 hI _ => ?_)
        refine wpIn_ret ?_
        refine inBlock_ret ?_
        refine then_ret ?_
        refine then_ret ?_
        obtain rfl := Option.some.inj H1
        refine .inr ⟨_, rfl, fun ho => ?_⟩
        subst ho
        refine inBlock_ret ?_
        refine then_ret ?_
        obtain rfl := Option.some.inj H0
        exact ret1 hI rfl rfl ⟨rfl, hE.below hI⟩
      · replace H1 := bif_f hc_18 H1
        refine wpIn_skip ?_
        refine inBlock_normal ?_
        refine then_normal ?_
        refine region_ (live := [8, 7, 4, 0, 1]) (orc := []) hF hI ⟨[⟨8, [], .v (.int .i64 (IntKind.i64.wrap (s1.1 + 1)))⟩, ⟨7, [], .v (.int .i64 (l0.length : Int))⟩, ⟨4, [], .v (.int .i64 s1.2)⟩, ⟨0, [], .v (.slice A0 l0.length c0)⟩, ⟨1, [], .v (.int .i64 a1)⟩], [], [], [], none, none⟩ [] (by kernel_rfl) trivial (fun ns_21 a w_22 hI _ => ?_)
        refine then_normal ?_
        obtain rfl := Option.some.inj H1
        exact ⟨_, rfl, ⟨_, hI.pick [8, 7, 4, 0, 1] 0 ⟨[⟨8, [], .v (.int .i64 (IntKind.i64.wrap (s1.1 + 1)))⟩, ⟨7, [], .v (.int .i64 (l0.length : Int))⟩, ⟨4, [], .v (.int .i64 s1.2)⟩, ⟨0, [], .v (.slice A0 l0.length c0)⟩, ⟨1, [], .v (.int .i64 a1)⟩], [], [], [], none, none⟩ (by kernel_rfl)⟩⟩
    · replace H1 := bif_f hc_9 H1
      refine wpIn_exit ?_
      refine then_exit ?_
      refine then_exit ?_
      obtain rfl := Option.some.inj H1
      exact .inl ⟨_, rfl, rfl, ⟨_, hI.pick [8, 7, 4, 0, 1] 0 ⟨[⟨8, [], .v (.int .i64 s1.1)⟩, ⟨7, [], .v (.int .i64 (l0.length : Int))⟩, ⟨4, [], .v (.int .i64 s1.2)⟩, ⟨0, [], .v (.slice A0 l0.length c0)⟩, ⟨1, [], .v (.int .i64 a1)⟩], [], [], [], none, none⟩ (by kernel_rfl)⟩⟩
  · clear hI
    rintro s1 a w_25 ho ⟨ns_26, hI⟩
    subst ho
    replace H0 : (some (-1) : Option (Int)) = _ := H0
    refine then_normal ?_
    refine seq_region (live := [4]) (orc := []) hF hI ⟨[⟨4, [], .v (.int .i64 (-1))⟩], [], [], [], none, none⟩ [] (by kernel_rfl) trivial (fun ns_27 a w_28 hI _ => ?_)
    refine wpIn_ret ?_
    obtain rfl := Option.some.inj H0
    exact ret1 hI rfl rfl ⟨rfl, hE.below hI⟩

/-! ### slices.Contains[[]int,int]: function 52 -/
noncomputable def G_slices_Contains_int_int (l0 : (List Int)) (a1 : Int) : Option (Bool) := ((G_slices_Index_int_int l0 a1).bind fun t_3 => some (decide (t_3 ≥ 0)))
set_option maxRecDepth 100000 in
set_option maxHeartbeats 4000000 in
theorem G_slices_Contains_int_int.calls (l0 : (List Int)) (a1 : Int) (A0 : Option Addr) (c0 : Nat) (w : World) {S : Nat → Prop} (hr0 : Arr (Kd.int .i64) S w A0 l0) (hc0 : l0.length ≤ c0) (r : Bool) (h : G_slices_Contains_int_int l0 a1 = some r) :
    Calls Try.prog 52 #[.slice A0 l0.length c0, .int .i64 a1] w fun e w' => e = .returned (.bool r) ∧ Below w.heap.size w w' := by
  replace hr0 := Arr.lo hr0
  unfold G_slices_Contains_int_int at h
  have H0 := h
  clear h
  refine enter Try.func52 rfl [.slice A0 l0.length c0, .int .i64 a1] (n := 9) rfl (Nat.le_of_ble_eq_true rfl) (fun a hI => ?_)
  have hF : FOpen Fence.wide := .inl rfl
  have hE := Ep.start w
  refine seq_region (live := [4, 0, 1]) (orc := []) hF hI ⟨[⟨4, [], .v (.bool false)⟩, ⟨0, [], .v (.slice A0 l0.length c0)⟩, ⟨1, [], .v (.int .i64 a1)⟩], [], [], [], none, none⟩ [] (by kernel_rfl) trivial (fun ns_1 a w_2 hI _ => ?_)
  obtain ⟨t_3, hG_4, H0⟩ := bind_some H0
  refine seq_region (live := [4]) (orc := [[.int .i64 t_3]]) hF hI ⟨[⟨4, [], .v (.bool (decide (t_3 ≥ 0)))⟩], [], [], [], none, none⟩ [.call true 71 [.slice A0 l0.length c0, .int .i64 a1] (.int .i64 t_3)] (by kernel_rfl) ⟨ob_call (enters Try.func71 (by kernel_rfl) rfl) (fun hg wz hk => G_slices_Index_int_int.calls l0 a1 A0 c0 wz (S := fun _ => True) (Arr.any (Arr.keep hr0 (Lo.on hk))) hc0 _ hG_4), trivial⟩ (fun ns_5 a w_6 hI _ => ?_)
  refine wpIn_ret ?_
  obtain rfl := Option.some.inj H0
  exact ret1 hI rfl rfl ⟨rfl, hE.below hI⟩

/-! ### porthole/audit.Bells: function 36 -/
noncomputable def G_audit_Bells.b1 (x0 : Config) (a1 : Int) (l2 : (List Int)) (l3 : (List Int)) (s1 : Int × Bool) : Option (Stp (Int × Bool) (Ex (Int × Bool) (Bool))) := (bif decide (s1.1 < (l2.length : Int)) then (req (inb s1.1 l2.length) ((G_slices_Contains_int_int l3 (rd l2 s1.1)).bind fun t_16 => (bif (!t_16) then some (.out (.ret false)) else some (.next ((IntKind.i64.wrap (s1.1 + 1)), s1.2))))) else some (.out (.brk (s1.1, s1.2))))
noncomputable def G_audit_Bells.b2 (x0 : Config) (a1 : Int) (l2 : (List Int)) (l3 : (List Int)) (s1 : Int × Bool) (s2 : Int × Bool) : Option (Stp (Int × Bool) (Ex (Int × Bool) (Bool))) := (bif decide (s2.1 < (l3.length : Int)) then (req (inb s2.1 l3.length) ((G_slices_Contains_int_int l2 (rd l3 s2.1)).bind fun t_42 => (bif t_42 then some (.next ((IntKind.i64.wrap (s2.1 + 1)), s2.2)) else (req (imp (!((decide ((rd l3 s2.1) < 0) || ((Int.tmod (rd l3 s2.1) 2) == 0)) || decide ((IntKind.i64.wrap (Int.tdiv (rd l3 s2.1) 2)) ≥ (x0.Chans.length : Int)))) (inb (IntKind.i64.wrap (Int.tdiv (rd l3 s2.1) 2)) x0.Chans.length)) (bif (((decide ((rd l3 s2.1) < 0) || ((Int.tmod (rd l3 s2.1) 2) == 0)) || decide ((IntKind.i64.wrap (Int.tdiv (rd l3 s2.1) 2)) ≥ (x0.Chans.length : Int))) || (((rd x0.Chans (IntKind.i64.wrap (Int.tdiv (rd l3 s2.1) 2))).From) != a1)) then some (.out (.ret false)) else some (.next ((IntKind.i64.wrap (s2.1 + 1)), s2.2))))))) else some (.out (.brk (s2.1, s2.2))))
noncomputable def G_audit_Bells (x0 : Config) (a1 : Int) (l2 : (List Int)) (l3 : (List Int)) : Option (Bool) := ((loopω (G_audit_Bells.b1 x0 a1 l2 l3) (0, false)).bind fun o => o.on (fun s1 => ((loopω (G_audit_Bells.b2 x0 a1 l2 l3 s1) (0, s1.2)).bind fun o => o.on (fun s2 => some true) (fun r => some r))) (fun r => some r))
set_option maxRecDepth 100000 in
set_option maxHeartbeats 4000000 in
theorem G_audit_Bells.calls (x0 : Config) (a1 : Int) (l2 : (List Int)) (l3 : (List Int)) (sv0 : SV) (A2 : Option Addr) (c2 : Nat) (A3 : Option Addr) (c3 : Nat) (w : World) {S : Nat → Prop} (hx0 : (kd_Config).cont S w x0 sv0) (hr2 : Arr (Kd.int .i64) S w A2 l2) (hc2 : l2.length ≤ c2) (hr3 : Arr (Kd.int .i64) S w A3 l3) (hc3 : l3.length ≤ c3) (r : Bool) (h : G_audit_Bells x0 a1 l2 l3 = some r) :
    Calls Try.prog 36 #[.agg ((kd_Config).cells x0 sv0).toArray, .int .i64 a1, .slice A2 l2.length c2, .slice A3 l3.length c3] w fun e w' => e = .returned (.bool r) ∧ Below w.heap.size w w' := by
  replace hx0 := Kd.lo _ hx0
  replace hr2 := Arr.lo hr2
  replace hr3 := Arr.lo hr3
  unfold G_audit_Bells at h
  have H0 := h
  clear h
  refine enter Try.func36 rfl [.agg ((kd_Config).cells x0 sv0).toArray, .int .i64 a1, .slice A2 l2.length c2, .slice A3 l3.length c3] (n := 60) rfl (Nat.le_of_ble_eq_true rfl) (fun a hI => ?_)
  have hF : FOpen Fence.wide := .inl rfl
  have hE := Ep.start w
  refine seq_region (live := [8, 4, 1, 2, 3]) (orc := []) hF hI ⟨[⟨8, [], .v (.bool false)⟩, ⟨4, [], .p 0 0⟩, ⟨1, [], .v (.int .i64 a1)⟩, ⟨2, [], .v (.slice A2 l2.length c2)⟩, ⟨3, [], .v (.slice A3 l3.length c3)⟩], [], [], [((((kd_Config).cells x0 sv0).map EV.v), 29)], none, none⟩ [] (by kernel_rfl) trivial (fun ns_1 a w_2 hI _ => ?_)
  refine wpIn_seq ?_
  refine seq_region (live := [15, 14, 13, 8, 4, 1, 2, 3]) (orc := []) hF hI ⟨[⟨15, [], .v (.int .i64 0)⟩, ⟨14, [], .v (.int .i64 (l2.length : Int))⟩, ⟨13, [], .v (.slice A2 l2.length c2)⟩, ⟨8, [], .v (.bool false)⟩, ⟨4, [], .p 0 0⟩, ⟨1, [], .v (.int .i64 a1)⟩, ⟨2, [], .v (.slice A2 l2.length c2)⟩, ⟨3, [], .v (.slice A3 l3.length c3)⟩], [], [], [((((kd_Config).cells x0 sv0).map EV.v), 29)], none, none⟩ [] (by kernel_rfl) trivial (fun ns_3 a w_4 hI _ => ?_)
  obtain ⟨o_25, hL_26, H0⟩ := bind_some H0
  refine block_loop (fun (s1 : Int × Bool) a w_67 => ∃ ns, St w [] 60 ⟨[⟨15, [], .v (.int .i64 s1.1)⟩, ⟨14, [], .v (.int .i64 (l2.length : Int))⟩, ⟨13, [], .v (.slice A2 l2.length c2)⟩, ⟨8, [], .v (.bool s1.2)⟩, ⟨4, [], .p 0 0⟩, ⟨1, [], .v (.int .i64 a1)⟩, ⟨2, [], .v (.slice A2 l2.length c2)⟩, ⟨3, [], .v (.slice A3 l3.length c3)⟩], [], [], [((((kd_Config).cells x0 sv0).map EV.v), 29)], none, none⟩ ns a w_67) (0, false) hL_26 ⟨_, hI.pick [15, 14, 13, 8, 4, 1, 2, 3] 1 ⟨[⟨15, [], .v (.int .i64 0)⟩, ⟨14, [], .v (.int .i64 (l2.length : Int))⟩, ⟨13, [], .v (.slice A2 l2.length c2)⟩, ⟨8, [], .v (.bool false)⟩, ⟨4, [], .p 0 0⟩, ⟨1, [], .v (.int .i64 a1)⟩, ⟨2, [], .v (.slice A2 l2.length c2)⟩, ⟨3, [], .v (.slice A3 l3.length c3)⟩], [], [], [((((kd_Config).cells x0 sv0).map EV.v), 29)], none, none⟩ (by kernel_rfl)⟩ ?_ ?_
  · clear hI
    rintro s1 a w_5 ⟨ns_6, hI⟩ r1 H1
    unfold G_audit_Bells.b1 at H1
    refine seq_region (live := [16, 15, 14, 13, 8, 4, 1, 2, 3]) (orc := []) hF hI ⟨[⟨16, [], .v (.bool (decide (s1.1 < (l2.length : Int))))⟩, ⟨15, [], .v (.int .i64 s1.1)⟩, ⟨14, [], .v (.int .i64 (l2.length : Int))⟩, ⟨13, [], .v (.slice A2 l2.length c2)⟩, ⟨8, [], .v (.bool s1.2)⟩, ⟨4, [], .p 0 0⟩, ⟨1, [], .v (.int .i64 a1)⟩, ⟨2, [], .v (.slice A2 l2.length c2)⟩, ⟨3, [], .v (.slice A3 l3.length c3)⟩], [], [], [((((kd_Config).cells x0 sv0).map EV.v), 29)], none, none⟩ [] (by kernel_rfl) trivial (fun ns_7 a w_8 hI _ => ?_)
    refine wpIn_seq ?_
    refine cond_ hI (decide (s1.1 < (l2.length : Int))) rfl (fun hc_9 => ?_) (fun hc_9 => ?_)
    · replace H1 := bif_t hc_9 H1
      refine wpIn_skip ?_
      refine then_normal ?_
      refine wpIn_seq ?_
      refine wpIn_block ?_
      obtain ⟨hN_10, H1⟩ := req_some H1
      obtain ⟨sv_11, hE_13, hA_12⟩ := Arr.elB (d := (Kd.int .i64)) hr2 s1.1 true (fun _ => hN_10)
      replace hE_13 := hE_13 rfl
      replace hA_12 := fun (_ : true = true) => hA_12 rfl
      refine seq_region (live := [10, 15, 14, 13, 8, 4, 1, 2, 3]) (orc := [[.int .i64 (rd l2 s1.1)]]) hF hI ⟨[⟨10, [], .v (.int .i64 (rd l2 s1.1))⟩, ⟨15, [], .v (.int .i64 s1.1)⟩, ⟨14, [], .v (.int .i64 (l2.length : Int))⟩, ⟨13, [], .v (.slice A2 l2.length c2)⟩, ⟨8, [], .v (.bool s1.2)⟩, ⟨4, [], .p 0 0⟩, ⟨1, [], .v (.int .i64 a1)⟩, ⟨2, [], .v (.slice A2 l2.length c2)⟩, ⟨3, [], .v (.slice A3 l3.length c3)⟩], [], [], [((((kd_Config).cells x0 sv0).map EV.v), 29)], none, none⟩ [.need true (0 ≤ s1.1 ∧ s1.1 < (l2.length : Int)), .need true (A2 = some (adr A2)), .cell true ((adr A2).add ((s1.1 : Int).toNat * 1)) [.int .i64 (rd l2 s1.1)]] (by kernel_rfl) ⟨ob_inb (fun _ => hN_10), hA_12, ob_el (fun _ => hE_13) 0 [.int .i64 (rd l2 s1.1)] rfl, trivial⟩ (fun ns_14 a w_15 hI _ => ?_)
      obtain ⟨t_16, hG_17, H1⟩ := bind_some H1
      refine seq_region (live := [22, 15, 14, 13, 8, 4, 1, 2, 3]) (orc := [[.bool t_16]]) hF hI ⟨[⟨22, [], .v (.bool (!t_16))⟩, ⟨15, [], .v (.int .i64 s1.1)⟩, ⟨14, [], .v (.int .i64 (l2.length : Int))⟩, ⟨13, [], .v (.slice A2 l2.length c2)⟩, ⟨8, [], .v (.bool s1.2)⟩, ⟨4, [], .p 0 0⟩, ⟨1, [], .v (.int .i64 a1)⟩, ⟨2, [], .v (.slice A2 l2.length c2)⟩, ⟨3, [], .v (.slice A3 l3.length c3)⟩], [], [], [((((kd_Config).cells x0 sv0).map EV.v), 29)], none, none⟩ [.call true 52 [.slice A3 l3.length c3, .int .i64 (rd l2 s1.1)] (.bool t_16)] (by kernel_rfl) ⟨ob_call (enters Try.func52 (by kernel_rfl) rfl) (fun hg wz hk => G_slices_Contains_int_int.calls l3 (rd l2 s1.1) A3 c3 wz (S := fun _ => True) (Arr.any (Arr.keep hr3 (Lo.on hk))) hc3 _ hG_17), trivial⟩ (fun ns_18 a w_19 hI _ => ?_)
      refine cond_ hI ((!t_16)) rfl (fun hc_20 => ?_) (fun hc_20 => ?_)
      · replace H1 := bif_t hc_20 H1
        refine seq_region (live := [8]) (orc := []) hF hI ⟨[⟨8, [], .v (.bool false)⟩], [], [], [((((kd_Config).cells x0 sv0).map EV.v), 29)], none, none⟩ [] (by kernel_rfl) trivial (fun ns_21 a w_22 hI _ => ?_)
        refine wpIn_ret ?_
        refine inBlock_ret ?_
        refine then_ret ?_
        refine then_ret ?_
        obtain rfl := Option.some.inj H1
        refine .inr ⟨_, rfl, fun ho => ?_⟩
        subst ho
        refine inBlock_ret ?_
        refine then_ret ?_
        obtain rfl := Option.some.inj H0
        exact ret1 hI rfl rfl ⟨rfl, hE.below hI⟩
      · replace H1 := bif_f hc_20 H1
        refine wpIn_skip ?_
        refine inBlock_normal ?_
        refine then_normal ?_
        refine region_ (live := [15, 14, 13, 8, 4, 1, 2, 3]) (orc := []) hF hI ⟨[⟨15, [], .v (.int .i64 (IntKind.i64.wrap (s1.1 + 1)))⟩, ⟨14, [], .v (.int .i64 (l2.length : Int))⟩, ⟨13, [], .v (.slice A2 l2.length c2)⟩, ⟨8, [], .v (.bool s1.2)⟩, ⟨4, [], .p 0 0⟩, ⟨1, [], .v (.int .i64 a1)⟩, ⟨2, [], .v (.slice A2 l2.length c2)⟩, ⟨3, [], .v (.slice A3 l3.length c3)⟩], [], [], [((((kd_Config).cells x0 sv0).map EV.v), 29)], none, none⟩ [] (by kernel_rfl) trivial (fun ns_23 a w_24 hI _ => ?_)
        refine then_normal ?_
        obtain rfl := Option.some.inj H1
        exact ⟨_, rfl, ⟨_, hI.pick [15, 14, 13, 8, 4, 1, 2, 3] 1 ⟨[⟨15, [], .v (.int .i64 (IntKind.i64.wrap (s1.1 + 1)))⟩, ⟨14, [], .v (.int .i64 (l2.length : Int))⟩, ⟨13, [], .v (.slice A2 l2.length c2)⟩, ⟨8, [], .v (.bool s1.2)⟩, ⟨4, [], .p 0 0⟩, ⟨1, [], .v (.int .i64 a1)⟩, ⟨2, [], .v (.slice A2 l2.length c2)⟩, ⟨3, [], .v (.slice A3 l3.length c3)⟩], [], [], [((((kd_Config).cells x0 sv0).map EV.v), 29)], none, none⟩ (by kernel_rfl)⟩⟩
    · replace H1 := bif_f hc_9 H1
      refine wpIn_exit ?_
      refine then_exit ?_
      refine then_exit ?_
      obtain rfl := Option.some.inj H1
      exact .inl ⟨_, rfl, rfl, ⟨_, hI.pick [15, 14, 13, 8, 4, 1, 2, 3] 1 ⟨[⟨15, [], .v (.int .i64 s1.1)⟩, ⟨14, [], .v (.int .i64 (l2.length : Int))⟩, ⟨13, [], .v (.slice A2 l2.length c2)⟩, ⟨8, [], .v (.bool s1.2)⟩, ⟨4, [], .p 0 0⟩, ⟨1, [], .v (.int .i64 a1)⟩, ⟨2, [], .v (.slice A2 l2.length c2)⟩, ⟨3, [], .v (.slice A3 l3.length c3)⟩], [], [], [((((kd_Config).cells x0 sv0).map EV.v), 29)], none, none⟩ (by kernel_rfl)⟩⟩
  · clear hI
    rintro s1 a w_27 ho ⟨ns_28, hI⟩
    subst ho
    replace H0 : (((loopω (G_audit_Bells.b2 x0 a1 l2 l3 s1) (0, s1.2)).bind fun o => o.on (fun s2 => some true) (fun r => some r)) : Option (Bool)) = _ := H0
    refine then_normal ?_
    refine wpIn_seq ?_
    refine seq_region (live := [26, 25, 24, 8, 4, 1, 2]) (orc := []) hF hI ⟨[⟨26, [], .v (.int .i64 0)⟩, ⟨25, [], .v (.int .i64 (l3.length : Int))⟩, ⟨24, [], .v (.slice A3 l3.length c3)⟩, ⟨8, [], .v (.bool s1.2)⟩, ⟨4, [], .p 0 0⟩, ⟨1, [], .v (.int .i64 a1)⟩, ⟨2, [], .v (.slice A2 l2.length c2)⟩], [], [], [((((kd_Config).cells x0 sv0).map EV.v), 29)], none, none⟩ [] (by kernel_rfl) trivial (fun ns_29 a w_30 hI _ => ?_)
    obtain ⟨o_60, hL_61, H0⟩ := bind_some H0
    refine block_loop (fun (s2 : Int × Bool) a w_66 => ∃ ns, St w [] 60 ⟨[⟨26, [], .v (.int .i64 s2.1)⟩, ⟨25, [], .v (.int .i64 (l3.length : Int))⟩, ⟨24, [], .v (.slice A3 l3.length c3)⟩, ⟨8, [], .v (.bool s2.2)⟩, ⟨4, [], .p 0 0⟩, ⟨1, [], .v (.int .i64 a1)⟩, ⟨2, [], .v (.slice A2 l2.length c2)⟩], [], [], [((((kd_Config).cells x0 sv0).map EV.v), 29)], none, none⟩ ns a w_66) (0, s1.2) hL_61 ⟨_, hI.pick [26, 25, 24, 8, 4, 1, 2] 1 ⟨[⟨26, [], .v (.int .i64 0)⟩, ⟨25, [], .v (.int .i64 (l3.length : Int))⟩, ⟨24, [], .v (.slice A3 l3.length c3)⟩, ⟨8, [], .v (.bool s1.2)⟩, ⟨4, [], .p 0 0⟩, ⟨1, [], .v (.int .i64 a1)⟩, ⟨2, [], .v (.slice A2 l2.length c2)⟩], [], [], [((((kd_Config).cells x0 sv0).map EV.v), 29)], none, none⟩ (by kernel_rfl)⟩ ?_ ?_
    · clear hI
      rintro s2 a w_31 ⟨ns_32, hI⟩ r2 H1
      unfold G_audit_Bells.b2 at H1
      refine seq_region (live := [27, 26, 25, 24, 8, 4, 1, 2]) (orc := []) hF hI ⟨[⟨27, [], .v (.bool (decide (s2.1 < (l3.length : Int))))⟩, ⟨26, [], .v (.int .i64 s2.1)⟩, ⟨25, [], .v (.int .i64 (l3.length : Int))⟩, ⟨24, [], .v (.slice A3 l3.length c3)⟩, ⟨8, [], .v (.bool s2.2)⟩, ⟨4, [], .p 0 0⟩, ⟨1, [], .v (.int .i64 a1)⟩, ⟨2, [], .v (.slice A2 l2.length c2)⟩], [], [], [((((kd_Config).cells x0 sv0).map EV.v), 29)], none, none⟩ [] (by kernel_rfl) trivial (fun ns_33 a w_34 hI _ => ?_)
      refine wpIn_seq ?_
      refine cond_ hI (decide (s2.1 < (l3.length : Int))) rfl (fun hc_35 => ?_) (fun hc_35 => ?_)
      · replace H1 := bif_t hc_35 H1
        refine wpIn_skip ?_
        refine then_normal ?_
        refine wpIn_seq ?_
        refine wpIn_block ?_
        obtain ⟨hN_36, H1⟩ := req_some H1
        obtain ⟨sv_37, hE_39, hA_38⟩ := Arr.elB (d := (Kd.int .i64)) hr3 s2.1 true (fun _ => hN_36)
        replace hE_39 := hE_39 rfl
        replace hA_38 := fun (_ : true = true) => hA_38 rfl
        refine seq_region (live := [12, 26, 25, 24, 8, 4, 1, 2]) (orc := [[.int .i64 (rd l3 s2.1)]]) hF hI ⟨[⟨12, [], .v (.int .i64 (rd l3 s2.1))⟩, ⟨26, [], .v (.int .i64 s2.1)⟩, ⟨25, [], .v (.int .i64 (l3.length : Int))⟩, ⟨24, [], .v (.slice A3 l3.length c3)⟩, ⟨8, [], .v (.bool s2.2)⟩, ⟨4, [], .p 0 0⟩, ⟨1, [], .v (.int .i64 a1)⟩, ⟨2, [], .v (.slice A2 l2.length c2)⟩], [], [], [((((kd_Config).cells x0 sv0).map EV.v), 29)], none, none⟩ [.need true (0 ≤ s2.1 ∧ s2.1 < (l3.length : Int)), .need true (A3 = some (adr A3)), .cell true ((adr A3).add ((s2.1 : Int).toNat * 1)) [.int .i64 (rd l3 s2.1)]] (by kernel_rfl) ⟨ob_inb (fun _ => hN_36), hA_38, ob_el (fun _ => hE_39) 0 [.int .i64 (rd l3 s2.1)] rfl, trivial⟩ (fun ns_40 a w_41 hI _ => ?_)
        refine wpIn_seq ?_
        obtain ⟨t_42, hG_43, H1⟩ := bind_some H1
        refine seq_region (live := [32, 12, 26, 25, 24, 8, 4, 1, 2]) (orc := [[.bool t_42]]) hF hI ⟨[⟨32, [], .v (.bool t_42)⟩, ⟨12, [], .v (.int .i64 (rd l3 s2.1))⟩, ⟨26, [], .v (.int .i64 s2.1)⟩, ⟨25, [], .v (.int .i64 (l3.length : Int))⟩, ⟨24, [], .v (.slice A3 l3.length c3)⟩, ⟨8, [], .v (.bool s2.2)⟩, ⟨4, [], .p 0 0⟩, ⟨1, [], .v (.int .i64 a1)⟩, ⟨2, [], .v (.slice A2 l2.length c2)⟩], [], [], [((((kd_Config).cells x0 sv0).map EV.v), 29)], none, none⟩ [.call true 52 [.slice A2 l2.length c2, .int .i64 (rd l3 s2.1)] (.bool t_42)] (by kernel_rfl) ⟨ob_call (enters Try.func52 (by kernel_rfl) rfl) (fun hg wz hk => G_slices_Contains_int_int.calls l2 (rd l3 s2.1) A2 c2 wz (S := fun _ => True) (Arr.any (Arr.keep hr2 (Lo.on hk))) hc2 _ hG_43), trivial⟩ (fun ns_44 a w_45 hI _ => ?_)
        refine cond_ hI (t_42) rfl (fun hc_46 => ?_) (fun hc_46 => ?_)
        · replace H1 := bif_t hc_46 H1
          refine wpIn_exit ?_
          refine then_exit ?_
          refine inBlock_here ?_
          refine then_normal ?_
          refine region_ (live := [26, 25, 24, 8, 4, 1, 2]) (orc := []) hF hI ⟨[⟨26, [], .v (.int .i64 (IntKind.i64.wrap (s2.1 + 1)))⟩, ⟨25, [], .v (.int .i64 (l3.length : Int))⟩, ⟨24, [], .v (.slice A3 l3.length c3)⟩, ⟨8, [], .v (.bool s2.2)⟩, ⟨4, [], .p 0 0⟩, ⟨1, [], .v (.int .i64 a1)⟩, ⟨2, [], .v (.slice A2 l2.length c2)⟩], [], [], [((((kd_Config).cells x0 sv0).map EV.v), 29)], none, none⟩ [] (by kernel_rfl) trivial (fun ns_47 a w_48 hI _ => ?_)
          refine then_normal ?_
          obtain rfl := Option.some.inj H1
          exact ⟨_, rfl, ⟨_, hI.pick [26, 25, 24, 8, 4, 1, 2] 1 ⟨[⟨26, [], .v (.int .i64 (IntKind.i64.wrap (s2.1 + 1)))⟩, ⟨25, [], .v (.int .i64 (l3.length : Int))⟩, ⟨24, [], .v (.slice A3 l3.length c3)⟩, ⟨8, [], .v (.bool s2.2)⟩, ⟨4, [], .p 0 0⟩, ⟨1, [], .v (.int .i64 a1)⟩, ⟨2, [], .v (.slice A2 l2.length c2)⟩], [], [], [((((kd_Config).cells x0 sv0).map EV.v), 29)], none, none⟩ (by kernel_rfl)⟩⟩
        · replace H1 := bif_f hc_46 H1
          refine wpIn_skip ?_
          refine then_normal ?_
          obtain ⟨hN_49, H1⟩ := req_some H1
          obtain ⟨sv_50, hE_52, hA_51⟩ := Arr.elB (d := kd_Chan) hx0.2.1.1 (IntKind.i64.wrap (Int.tdiv (rd l3 s2.1) 2)) (!((decide ((rd l3 s2.1) < 0) || ((Int.tmod (rd l3 s2.1) 2) == 0)) || decide ((IntKind.i64.wrap (Int.tdiv (rd l3 s2.1) 2)) ≥ (x0.Chans.length : Int)))) (fun hg => imp_spec hN_49 hg)
          refine seq_region (live := [58, 26, 25, 24, 8, 4, 1, 2]) (orc := [[.int .i64 ((rd x0.Chans (IntKind.i64.wrap (Int.tdiv (rd l3 s2.1) 2))).From)]]) hF hI ⟨[⟨58, [], .v (.bool (((decide ((rd l3 s2.1) < 0) || ((Int.tmod (rd l3 s2.1) 2) == 0)) || decide ((IntKind.i64.wrap (Int.tdiv (rd l3 s2.1) 2)) ≥ (x0.Chans.length : Int))) || (((rd x0.Chans (IntKind.i64.wrap (Int.tdiv (rd l3 s2.1) 2))).From) != a1)))⟩, ⟨26, [], .v (.int .i64 s2.1)⟩, ⟨25, [], .v (.int .i64 (l3.length : Int))⟩, ⟨24, [], .v (.slice A3 l3.length c3)⟩, ⟨8, [], .v (.bool s2.2)⟩, ⟨4, [], .p 0 0⟩, ⟨1, [], .v (.int .i64 a1)⟩, ⟨2, [], .v (.slice A2 l2.length c2)⟩], [], [], [((((kd_Config).cells x0 sv0).map EV.v), 29)], none, none⟩ [.need (!(decide ((rd l3 s2.1) < 0))) (¬ (2 : Int) = 0), .need (!(decide ((rd l3 s2.1) < 0) || ((Int.tmod (rd l3 s2.1) 2) == 0))) (¬ (2 : Int) = 0), .need (!((decide ((rd l3 s2.1) < 0) || ((Int.tmod (rd l3 s2.1) 2) == 0)) || decide ((IntKind.i64.wrap (Int.tdiv (rd l3 s2.1) 2)) ≥ (x0.Chans.length : Int)))) (¬ (2 : Int) = 0), .need (!((decide ((rd l3 s2.1) < 0) || ((Int.tmod (rd l3 s2.1) 2) == 0)) || decide ((IntKind.i64.wrap (Int.tdiv (rd l3 s2.1) 2)) ≥ (x0.Chans.length : Int)))) (0 ≤ (IntKind.i64.wrap (Int.tdiv (rd l3 s2.1) 2)) ∧ (IntKind.i64.wrap (Int.tdiv (rd l3 s2.1) 2)) < (x0.Chans.length : Int)), .need (!((decide ((rd l3 s2.1) < 0) || ((Int.tmod (rd l3 s2.1) 2) == 0)) || decide ((IntKind.i64.wrap (Int.tdiv (rd l3 s2.1) 2)) ≥ (x0.Chans.length : Int)))) ((sv0 1).1 = some (adr ((sv0 1).1))), .cell (!((decide ((rd l3 s2.1) < 0) || ((Int.tmod (rd l3 s2.1) 2) == 0)) || decide ((IntKind.i64.wrap (Int.tdiv (rd l3 s2.1) 2)) ≥ (x0.Chans.length : Int)))) (((adr ((sv0 1).1)).add (((IntKind.i64.wrap (Int.tdiv (rd l3 s2.1) 2)) : Int).toNat * 7)).add 1) [.int .i64 ((rd x0.Chans (IntKind.i64.wrap (Int.tdiv (rd l3 s2.1) 2))).From)]] (by kernel_rfl) ⟨(fun _ => by decide), (fun _ => by decide), (fun _ => by decide), ob_inb (fun hg => imp_spec hN_49 hg), hA_51, ob_el (fun hg => hE_52 hg) 1 [.int .i64 ((rd x0.Chans (IntKind.i64.wrap (Int.tdiv (rd l3 s2.1) 2))).From)] rfl, trivial⟩ (fun ns_53 a w_54 hI _ => ?_)
          refine cond_ hI ((((decide ((rd l3 s2.1) < 0) || ((Int.tmod (rd l3 s2.1) 2) == 0)) || decide ((IntKind.i64.wrap (Int.tdiv (rd l3 s2.1) 2)) ≥ (x0.Chans.length : Int))) || (((rd x0.Chans (IntKind.i64.wrap (Int.tdiv (rd l3 s2.1) 2))).From) != a1))) rfl (fun hc_55 => ?_) (fun hc_55 => ?_)
          · replace H1 := bif_t hc_55 H1
            refine seq_region (live := [8]) (orc := []) hF hI ⟨[⟨8, [], .v (.bool false)⟩], [], [], [((((kd_Config).cells x0 sv0).map EV.v), 29)], none, none⟩ [] (by kernel_rfl) trivial (fun ns_56 a w_57 hI _ => ?_)
            refine wpIn_ret ?_
            refine inBlock_ret ?_
            refine then_ret ?_
            refine then_ret ?_
            obtain rfl := Option.some.inj H1
            refine .inr ⟨_, rfl, fun ho => ?_⟩
            subst ho
            refine inBlock_ret ?_
            refine then_ret ?_
            obtain rfl := Option.some.inj H0
            exact ret1 hI rfl rfl ⟨rfl, hE.below hI⟩
          · replace H1 := bif_f hc_55 H1
            refine wpIn_skip ?_
            refine inBlock_normal ?_
            refine then_normal ?_
            refine region_ (live := [26, 25, 24, 8, 4, 1, 2]) (orc := []) hF hI ⟨[⟨26, [], .v (.int .i64 (IntKind.i64.wrap (s2.1 + 1)))⟩, ⟨25, [], .v (.int .i64 (l3.length : Int))⟩, ⟨24, [], .v (.slice A3 l3.length c3)⟩, ⟨8, [], .v (.bool s2.2)⟩, ⟨4, [], .p 0 0⟩, ⟨1, [], .v (.int .i64 a1)⟩, ⟨2, [], .v (.slice A2 l2.length c2)⟩], [], [], [((((kd_Config).cells x0 sv0).map EV.v), 29)], none, none⟩ [] (by kernel_rfl) trivial (fun ns_58 a w_59 hI _ => ?_)
            refine then_normal ?_
            obtain rfl := Option.some.inj H1
            exact ⟨_, rfl, ⟨_, hI.pick [26, 25, 24, 8, 4, 1, 2] 1 ⟨[⟨26, [], .v (.int .i64 (IntKind.i64.wrap (s2.1 + 1)))⟩, ⟨25, [], .v (.int .i64 (l3.length : Int))⟩, ⟨24, [], .v (.slice A3 l3.length c3)⟩, ⟨8, [], .v (.bool s2.2)⟩, ⟨4, [], .p 0 0⟩, ⟨1, [], .v (.int .i64 a1)⟩, ⟨2, [], .v (.slice A2 l2.length c2)⟩], [], [], [((((kd_Config).cells x0 sv0).map EV.v), 29)], none, none⟩ (by kernel_rfl)⟩⟩
      · replace H1 := bif_f hc_35 H1
        refine wpIn_exit ?_
        refine then_exit ?_
        refine then_exit ?_
        obtain rfl := Option.some.inj H1
        exact .inl ⟨_, rfl, rfl, ⟨_, hI.pick [26, 25, 24, 8, 4, 1, 2] 1 ⟨[⟨26, [], .v (.int .i64 s2.1)⟩, ⟨25, [], .v (.int .i64 (l3.length : Int))⟩, ⟨24, [], .v (.slice A3 l3.length c3)⟩, ⟨8, [], .v (.bool s2.2)⟩, ⟨4, [], .p 0 0⟩, ⟨1, [], .v (.int .i64 a1)⟩, ⟨2, [], .v (.slice A2 l2.length c2)⟩], [], [], [((((kd_Config).cells x0 sv0).map EV.v), 29)], none, none⟩ (by kernel_rfl)⟩⟩
    · clear hI
      rintro s2 a w_62 ho ⟨ns_63, hI⟩
      subst ho
      replace H0 : (some true : Option (Bool)) = _ := H0
      refine then_normal ?_
      refine seq_region (live := [8]) (orc := []) hF hI ⟨[⟨8, [], .v (.bool true)⟩], [], [], [((((kd_Config).cells x0 sv0).map EV.v), 29)], none, none⟩ [] (by kernel_rfl) trivial (fun ns_64 a w_65 hI _ => ?_)
      refine wpIn_ret ?_
      obtain rfl := Option.some.inj H0
      exact ret1 hI rfl rfl ⟨rfl, hE.below hI⟩

/-! ### porthole/portholeref22.has: function 53 -/
noncomputable def G_ref22_has.b1 (l0 : (List Int)) (a1 : Int) (s1 : Int × Bool) : Option (Stp (Int × Bool) (Ex (Int × Bool) (Bool))) := (bif decide (s1.1 < (l0.length : Int)) then (req (inb s1.1 l0.length) (bif ((rd l0 s1.1) == a1) then some (.out (.ret true)) else some (.next ((IntKind.i64.wrap (s1.1 + 1)), s1.2)))) else some (.out (.brk (s1.1, s1.2))))
noncomputable def G_ref22_has (l0 : (List Int)) (a1 : Int) : Option (Bool) := ((loopω (G_ref22_has.b1 l0 a1) (0, false)).bind fun o => o.on (fun s1 => some false) (fun r => some r))
set_option maxRecDepth 100000 in
set_option maxHeartbeats 4000000 in
theorem G_ref22_has.calls (l0 : (List Int)) (a1 : Int) (A0 : Option Addr) (c0 : Nat) (w : World) {S : Nat → Prop} (hr0 : Arr (Kd.int .i64) S w A0 l0) (hc0 : l0.length ≤ c0) (r : Bool) (h : G_ref22_has l0 a1 = some r) :
    Calls Try.prog 53 #[.slice A0 l0.length c0, .int .i64 a1] w fun e w' => e = .returned (.bool r) ∧ Below w.heap.size w w' := by
  replace hr0 := Arr.lo hr0
  unfold G_ref22_has at h
  have H0 := h
  clear h
  refine enter Try.func53 rfl [.slice A0 l0.length c0, .int .i64 a1] (n := 18) rfl (Nat.le_of_ble_eq_true rfl) (fun a hI => ?_)
  have hF : FOpen Fence.wide := .inl rfl
  have hE := Ep.start w
  refine seq_region (live := [4, 0, 1]) (orc := []) hF hI ⟨[⟨4, [], .v (.bool false)⟩, ⟨0, [], .v (.slice A0 l0.length c0)⟩, ⟨1, [], .v (.int .i64 a1)⟩], [], [], [], none, none⟩ [] (by kernel_rfl) trivial (fun ns_1 a w_2 hI _ => ?_)
  refine wpIn_seq ?_
  refine seq_region (live := [5, 4, 0, 1]) (orc := []) hF hI ⟨[⟨5, [], .v (.int .i64 0)⟩, ⟨4, [], .v (.bool false)⟩, ⟨0, [], .v (.slice A0 l0.length c0)⟩, ⟨1, [], .v (.int .i64 a1)⟩], [], [], [], none, none⟩ [] (by kernel_rfl) trivial (fun ns_3 a w_4 hI _ => ?_)
  obtain ⟨o_21, hL_22, H0⟩ := bind_some H0
  refine block_loop (fun (s1 : Int × Bool) a w_27 => ∃ ns, St w [] 18 ⟨[⟨5, [], .v (.int .i64 s1.1)⟩, ⟨4, [], .v (.bool s1.2)⟩, ⟨0, [], .v (.slice A0 l0.length c0)⟩, ⟨1, [], .v (.int .i64 a1)⟩], [], [], [], none, none⟩ ns a w_27) (0, false) hL_22 ⟨_, hI.pick [5, 4, 0, 1] 0 ⟨[⟨5, [], .v (.int .i64 0)⟩, ⟨4, [], .v (.bool false)⟩, ⟨0, [], .v (.slice A0 l0.length c0)⟩, ⟨1, [], .v (.int .i64 a1)⟩], [], [], [], none, none⟩ (by kernel_rfl)⟩ ?_ ?_
  · clear hI
    rintro s1 a w_5 ⟨ns_6, hI⟩ r1 H1
    unfold G_ref22_has.b1 at H1
    refine wpIn_seq ?_
    refine seq_region (live := [9, 5, 4, 0, 1]) (orc := []) hF hI ⟨[⟨9, [], .v (.bool (decide (s1.1 < (l0.length : Int))))⟩, ⟨5, [], .v (.int .i64 s1.1)⟩, ⟨4, [], .v (.bool s1.2)⟩, ⟨0, [], .v (.slice A0 l0.length c0)⟩, ⟨1, [], .v (.int .i64 a1)⟩], [], [], [], none, none⟩ [] (by kernel_rfl) trivial (fun ns_7 a w_8 hI _ => ?_)
    refine cond_ hI (decide (s1.1 < (l0.length : Int))) rfl (fun hc_9 => ?_) (fun hc_9 => ?_)
    · replace H1 := bif_t hc_9 H1
      refine wpIn_skip ?_
      refine then_normal ?_
      refine wpIn_seq ?_
      refine wpIn_block ?_
      obtain ⟨hN_10, H1⟩ := req_some H1
      obtain ⟨sv_11, hE_13, hA_12⟩ := Arr.elB (d := (Kd.int .i64)) hr0 s1.1 true (fun _ => hN_10)
      replace hE_13 := hE_13 rfl
      replace hA_12 := fun (_ : true = true) => hA_12 rfl
      refine seq_region (live := [17, 5, 4, 0, 1]) (orc := [[.int .i64 (rd l0 s1.1)]]) hF hI ⟨[⟨17, [], .v (.bool ((rd l0 s1.1) == a1))⟩, ⟨5, [], .v (.int .i64 s1.1)⟩, ⟨4, [], .v (.bool s1.2)⟩, ⟨0, [], .v (.slice A0 l0.length c0)⟩, ⟨1, [], .v (.int .i64 a1)⟩], [], [], [], none, none⟩ [.need true (0 ≤ s1.1 ∧ s1.1 < (l0.length : Int)), .need true (A0 = some (adr A0)), .cell true ((adr A0).add ((s1.1 : Int).toNat * 1)) [.int .i64 (rd l0 s1.1)]] (by kernel_rfl) ⟨ob_inb (fun _ => hN_10), hA_12, ob_el (fun _ => hE_13) 0 [.int .i64 (rd l0 s1.1)] rfl, trivial⟩ (fun ns_14 a w_15 hI _ => ?_)
      refine cond_ hI (((rd l0 s1.1) == a1)) rfl (fun hc_16 => ?_) (fun hc_16 => ?_)
      · replace H1 := bif_t hc_16 H1
        refine seq_region (live := [4]) (orc := []) hF hI ⟨[⟨4, [], .v (.bool true)⟩], [], [], [], none, none⟩ [] (by kernel_rfl) trivial (fun ns_17 a w_18 hI _ => ?_)
        refine wpIn_ret ?_
        refine inBlock_ret ?_
        refine then_ret ?_
        refine then_ret ?_
        obtain rfl := Option.some.inj H1
        refine .inr ⟨_, rfl, fun ho => ?_⟩
        subst ho
        refine inBlock_ret ?_
        refine then_ret ?_
        obtain rfl := Option.some.inj H0
        exact ret1 hI rfl rfl ⟨rfl, hE.below hI⟩
      · replace H1 := bif_f hc_16 H1
        refine wpIn_skip ?_
        refine inBlock_normal ?_
        refine then_normal ?_
        refine region_ (live := [5, 4, 0, 1]) (orc := []) hF hI ⟨[⟨5, [], .v (.int .i64 (IntKind.i64.wrap (s1.1 + 1)))⟩, ⟨4, [], .v (.bool s1.2)⟩, ⟨0, [], .v (.slice A0 l0.length c0)⟩, ⟨1, [], .v (.int .i64 a1)⟩], [], [], [], none, none⟩ [] (by kernel_rfl) trivial (fun ns_19 a w_20 hI _ => ?_)
        refine then_normal ?_
        obtain rfl := Option.some.inj H1
        exact ⟨_, rfl, ⟨_, hI.pick [5, 4, 0, 1] 0 ⟨[⟨5, [], .v (.int .i64 (IntKind.i64.wrap (s1.1 + 1)))⟩, ⟨4, [], .v (.bool s1.2)⟩, ⟨0, [], .v (.slice A0 l0.length c0)⟩, ⟨1, [], .v (.int .i64 a1)⟩], [], [], [], none, none⟩ (by kernel_rfl)⟩⟩
    · replace H1 := bif_f hc_9 H1
      refine wpIn_exit ?_
      refine then_exit ?_
      refine then_exit ?_
      obtain rfl := Option.some.inj H1
      exact .inl ⟨_, rfl, rfl, ⟨_, hI.pick [5, 4, 0, 1] 0 ⟨[⟨5, [], .v (.int .i64 s1.1)⟩, ⟨4, [], .v (.bool s1.2)⟩, ⟨0, [], .v (.slice A0 l0.length c0)⟩, ⟨1, [], .v (.int .i64 a1)⟩], [], [], [], none, none⟩ (by kernel_rfl)⟩⟩
  · clear hI
    rintro s1 a w_23 ho ⟨ns_24, hI⟩
    subst ho
    replace H0 : (some false : Option (Bool)) = _ := H0
    refine then_normal ?_
    refine seq_region (live := [4]) (orc := []) hF hI ⟨[⟨4, [], .v (.bool false)⟩], [], [], [], none, none⟩ [] (by kernel_rfl) trivial (fun ns_25 a w_26 hI _ => ?_)
    refine wpIn_ret ?_
    obtain rfl := Option.some.inj H0
    exact ret1 hI rfl rfl ⟨rfl, hE.below hI⟩

/-! ### porthole/portholeref22.rings: function 54 -/
noncomputable def G_ref22_rings.b1 (x0 : Config) (a1 : Int) (a2 : Int) (s1 : Int × Bool) : Option (Stp (Int × Bool) (Ex (Int × Bool) (Bool))) := (bif decide (s1.1 < (x0.Chans.length : Int)) then (req (imp (a2 == (IntKind.i64.wrap ((IntKind.i64.wrap (2 * s1.1)) + 1))) (inb s1.1 x0.Chans.length)) (bif ((a2 == (IntKind.i64.wrap ((IntKind.i64.wrap (2 * s1.1)) + 1))) && (((rd x0.Chans s1.1).From) == a1)) then some (.out (.ret true)) else some (.next ((IntKind.i64.wrap (s1.1 + 1)), s1.2)))) else some (.out (.brk (s1.1, s1.2))))
noncomputable def G_ref22_rings (x0 : Config) (a1 : Int) (a2 : Int) : Option (Bool) := ((loopω (G_ref22_rings.b1 x0 a1 a2) (0, false)).bind fun o => o.on (fun s1 => some false) (fun r => some r))
set_option maxRecDepth 100000 in
set_option maxHeartbeats 4000000 in
theorem G_ref22_rings.calls (x0 : Config) (a1 : Int) (a2 : Int) (sv0 : SV) (w : World) {S : Nat → Prop} (hx0 : (kd_Config).cont S w x0 sv0) (r : Bool) (h : G_ref22_rings x0 a1 a2 = some r) :
    Calls Try.prog 54 #[.agg ((kd_Config).cells x0 sv0).toArray, .int .i64 a1, .int .i64 a2] w fun e w' => e = .returned (.bool r) ∧ Below w.heap.size w w' := by
  replace hx0 := Kd.lo _ hx0
  unfold G_ref22_rings at h
  have H0 := h
  clear h
  refine enter Try.func54 rfl [.agg ((kd_Config).cells x0 sv0).toArray, .int .i64 a1, .int .i64 a2] (n := 30) rfl (Nat.le_of_ble_eq_true rfl) (fun a hI => ?_)
  have hF : FOpen Fence.wide := .inl rfl
  have hE := Ep.start w
  refine seq_region (live := [6, 3, 1, 2]) (orc := []) hF hI ⟨[⟨6, [], .v (.bool false)⟩, ⟨3, [], .p 0 0⟩, ⟨1, [], .v (.int .i64 a1)⟩, ⟨2, [], .v (.int .i64 a2)⟩], [], [], [((((kd_Config).cells x0 sv0).map EV.v), 29)], none, none⟩ [] (by kernel_rfl) trivial (fun ns_1 a w_2 hI _ => ?_)
  refine wpIn_seq ?_
  refine seq_region (live := [7, 6, 3, 1, 2]) (orc := []) hF hI ⟨[⟨7, [], .v (.int .i64 0)⟩, ⟨6, [], .v (.bool false)⟩, ⟨3, [], .p 0 0⟩, ⟨1, [], .v (.int .i64 a1)⟩, ⟨2, [], .v (.int .i64 a2)⟩], [], [], [((((kd_Config).cells x0 sv0).map EV.v), 29)], none, none⟩ [] (by kernel_rfl) trivial (fun ns_3 a w_4 hI _ => ?_)
  obtain ⟨o_21, hL_22, H0⟩ := bind_some H0
  refine block_loop (fun (s1 : Int × Bool) a w_27 => ∃ ns, St w [] 30 ⟨[⟨7, [], .v (.int .i64 s1.1)⟩, ⟨6, [], .v (.bool s1.2)⟩, ⟨3, [], .p 0 0⟩, ⟨1, [], .v (.int .i64 a1)⟩, ⟨2, [], .v (.int .i64 a2)⟩], [], [], [((((kd_Config).cells x0 sv0).map EV.v), 29)], none, none⟩ ns a w_27) (0, false) hL_22 ⟨_, hI.pick [7, 6, 3, 1, 2] 1 ⟨[⟨7, [], .v (.int .i64 0)⟩, ⟨6, [], .v (.bool false)⟩, ⟨3, [], .p 0 0⟩, ⟨1, [], .v (.int .i64 a1)⟩, ⟨2, [], .v (.int .i64 a2)⟩], [], [], [((((kd_Config).cells x0 sv0).map EV.v), 29)], none, none⟩ (by kernel_rfl)⟩ ?_ ?_
  · clear hI
    rintro s1 a w_5 ⟨ns_6, hI⟩ r1 H1
    unfold G_ref22_rings.b1 at H1
    refine wpIn_seq ?_
    refine seq_region (live := [12, 7, 6, 3, 1, 2]) (orc := []) hF hI ⟨[⟨12, [], .v (.bool (decide (s1.1 < (x0.Chans.length : Int))))⟩, ⟨7, [], .v (.int .i64 s1.1)⟩, ⟨6, [], .v (.bool s1.2)⟩, ⟨3, [], .p 0 0⟩, ⟨1, [], .v (.int .i64 a1)⟩, ⟨2, [], .v (.int .i64 a2)⟩], [], [], [((((kd_Config).cells x0 sv0).map EV.v), 29)], none, none⟩ [] (by kernel_rfl) trivial (fun ns_7 a w_8 hI _ => ?_)
    refine cond_ hI (decide (s1.1 < (x0.Chans.length : Int))) rfl (fun hc_9 => ?_) (fun hc_9 => ?_)
    · replace H1 := bif_t hc_9 H1
      refine wpIn_skip ?_
      refine then_normal ?_
      refine wpIn_seq ?_
      refine wpIn_block ?_
      obtain ⟨hN_10, H1⟩ := req_some H1
      obtain ⟨sv_11, hE_13, hA_12⟩ := Arr.elB (d := kd_Chan) hx0.2.1.1 s1.1 (a2 == (IntKind.i64.wrap ((IntKind.i64.wrap (2 * s1.1)) + 1))) (fun hg => imp_spec hN_10 hg)
      refine seq_region (live := [29, 7, 6, 3, 1, 2]) (orc := [[.int .i64 ((rd x0.Chans s1.1).From)]]) hF hI ⟨[⟨29, [], .v (.bool ((a2 == (IntKind.i64.wrap ((IntKind.i64.wrap (2 * s1.1)) + 1))) && (((rd x0.Chans s1.1).From) == a1)))⟩, ⟨7, [], .v (.int .i64 s1.1)⟩, ⟨6, [], .v (.bool s1.2)⟩, ⟨3, [], .p 0 0⟩, ⟨1, [], .v (.int .i64 a1)⟩, ⟨2, [], .v (.int .i64 a2)⟩], [], [], [((((kd_Config).cells x0 sv0).map EV.v), 29)], none, none⟩ [.need (a2 == (IntKind.i64.wrap ((IntKind.i64.wrap (2 * s1.1)) + 1))) (0 ≤ s1.1 ∧ s1.1 < (x0.Chans.length : Int)), .need (a2 == (IntKind.i64.wrap ((IntKind.i64.wrap (2 * s1.1)) + 1))) ((sv0 1).1 = some (adr ((sv0 1).1))), .cell (a2 == (IntKind.i64.wrap ((IntKind.i64.wrap (2 * s1.1)) + 1))) (((adr ((sv0 1).1)).add ((s1.1 : Int).toNat * 7)).add 1) [.int .i64 ((rd x0.Chans s1.1).From)]] (by kernel_rfl) ⟨ob_inb (fun hg => imp_spec hN_10 hg), hA_12, ob_el (fun hg => hE_13 hg) 1 [.int .i64 ((rd x0.Chans s1.1).From)] rfl, trivial⟩ (fun ns_14 a w_15 hI _ => ?_)
      refine cond_ hI (((a2 == (IntKind.i64.wrap ((IntKind.i64.wrap (2 * s1.1)) + 1))) && (((rd x0.Chans s1.1).From) == a1))) rfl (fun hc_16 => ?_) (fun hc_16 => ?_)
      · replace H1 := bif_t hc_16 H1
        refine seq_region (live := [6]) (orc := []) hF hI ⟨[⟨6, [], .v (.bool true)⟩], [], [], [((((kd_Config).cells x0 sv0).map EV.v), 29)], none, none⟩ [] (by kernel_rfl) trivial (fun ns_17 a w_18 hI _ => ?_)
        refine wpIn_ret ?_
        refine inBlock_ret ?_
        refine then_ret ?_
        refine then_ret ?_
        obtain rfl := Option.some.inj H1
        refine .inr ⟨_, rfl, fun ho => ?_⟩
        subst ho
        refine inBlock_ret ?_
        refine then_ret ?_
        obtain rfl := Option.some.inj H0
        exact ret1 hI rfl rfl ⟨rfl, hE.below hI⟩
      · replace H1 := bif_f hc_16 H1
        refine wpIn_skip ?_
        refine inBlock_normal ?_
        refine then_normal ?_
        refine region_ (live := [7, 6, 3, 1, 2]) (orc := []) hF hI ⟨[⟨7, [], .v (.int .i64 (IntKind.i64.wrap (s1.1 + 1)))⟩, ⟨6, [], .v (.bool s1.2)⟩, ⟨3, [], .p 0 0⟩, ⟨1, [], .v (.int .i64 a1)⟩, ⟨2, [], .v (.int .i64 a2)⟩], [], [], [((((kd_Config).cells x0 sv0).map EV.v), 29)], none, none⟩ [] (by kernel_rfl) trivial (fun ns_19 a w_20 hI _ => ?_)
        refine then_normal ?_
        obtain rfl := Option.some.inj H1
        exact ⟨_, rfl, ⟨_, hI.pick [7, 6, 3, 1, 2] 1 ⟨[⟨7, [], .v (.int .i64 (IntKind.i64.wrap (s1.1 + 1)))⟩, ⟨6, [], .v (.bool s1.2)⟩, ⟨3, [], .p 0 0⟩, ⟨1, [], .v (.int .i64 a1)⟩, ⟨2, [], .v (.int .i64 a2)⟩], [], [], [((((kd_Config).cells x0 sv0).map EV.v), 29)], none, none⟩ (by kernel_rfl)⟩⟩
    · replace H1 := bif_f hc_9 H1
      refine wpIn_exit ?_
      refine then_exit ?_
      refine then_exit ?_
      obtain rfl := Option.some.inj H1
      exact .inl ⟨_, rfl, rfl, ⟨_, hI.pick [7, 6, 3, 1, 2] 1 ⟨[⟨7, [], .v (.int .i64 s1.1)⟩, ⟨6, [], .v (.bool s1.2)⟩, ⟨3, [], .p 0 0⟩, ⟨1, [], .v (.int .i64 a1)⟩, ⟨2, [], .v (.int .i64 a2)⟩], [], [], [((((kd_Config).cells x0 sv0).map EV.v), 29)], none, none⟩ (by kernel_rfl)⟩⟩
  · clear hI
    rintro s1 a w_23 ho ⟨ns_24, hI⟩
    subst ho
    replace H0 : (some false : Option (Bool)) = _ := H0
    refine then_normal ?_
    refine seq_region (live := [6]) (orc := []) hF hI ⟨[⟨6, [], .v (.bool false)⟩], [], [], [((((kd_Config).cells x0 sv0).map EV.v), 29)], none, none⟩ [] (by kernel_rfl) trivial (fun ns_25 a w_26 hI _ => ?_)
    refine wpIn_ret ?_
    obtain rfl := Option.some.inj H0
    exact ret1 hI rfl rfl ⟨rfl, hE.below hI⟩

/-! ### porthole/portholeref22.Bells: function 37 -/
noncomputable def G_ref22_Bells.b1 (x0 : Config) (a1 : Int) (l2 : (List Int)) (l3 : (List Int)) (s1 : Int × Bool) : Option (Stp (Int × Bool) (Ex (Int × Bool) (Bool))) := (bif decide (s1.1 < (l2.length : Int)) then (req (inb s1.1 l2.length) ((G_ref22_has l3 (rd l2 s1.1)).bind fun t_14 => (bif (!t_14) then some (.out (.ret false)) else some (.next ((IntKind.i64.wrap (s1.1 + 1)), s1.2))))) else some (.out (.brk (s1.1, s1.2))))
noncomputable def G_ref22_Bells.b2 (x0 : Config) (a1 : Int) (l2 : (List Int)) (l3 : (List Int)) (s1 : Int × Bool) (s2 : Int × Bool) : Option (Stp (Int × Bool) (Ex (Int × Bool) (Bool))) := (bif decide (s2.1 < (l3.length : Int)) then (req (inb s2.1 l3.length) ((G_ref22_has l2 (rd l3 s2.1)).bind fun t_38 => (req (imp (!t_38) (inb s2.1 l3.length)) ((cal (!t_38) (G_ref22_rings x0 a1 (rd l3 s2.1)) default).bind fun t_44 => (bif ((!t_38) && (!t_44)) then some (.out (.ret false)) else some (.next ((IntKind.i64.wrap (s2.1 + 1)), s2.2))))))) else some (.out (.brk (s2.1, s2.2))))
noncomputable def G_ref22_Bells (x0 : Config) (a1 : Int) (l2 : (List Int)) (l3 : (List Int)) : Option (Bool) := ((loopω (G_ref22_Bells.b1 x0 a1 l2 l3) (0, false)).bind fun o => o.on (fun s1 => ((loopω (G_ref22_Bells.b2 x0 a1 l2 l3 s1) (0, s1.2)).bind fun o => o.on (fun s2 => some true) (fun r => some r))) (fun r => some r))
set_option maxRecDepth 100000 in
set_option maxHeartbeats 4000000 in
theorem G_ref22_Bells.calls (x0 : Config) (a1 : Int) (l2 : (List Int)) (l3 : (List Int)) (sv0 : SV) (A2 : Option Addr) (c2 : Nat) (A3 : Option Addr) (c3 : Nat) (w : World) {S : Nat → Prop} (hx0 : (kd_Config).cont S w x0 sv0) (hr2 : Arr (Kd.int .i64) S w A2 l2) (hc2 : l2.length ≤ c2) (hr3 : Arr (Kd.int .i64) S w A3 l3) (hc3 : l3.length ≤ c3) (r : Bool) (h : G_ref22_Bells x0 a1 l2 l3 = some r) :
    Calls Try.prog 37 #[.agg ((kd_Config).cells x0 sv0).toArray, .int .i64 a1, .slice A2 l2.length c2, .slice A3 l3.length c3] w fun e w' => e = .returned (.bool r) ∧ Below w.heap.size w w' := by
  replace hx0 := Kd.lo _ hx0
  replace hr2 := Arr.lo hr2
  replace hr3 := Arr.lo hr3
  unfold G_ref22_Bells at h
  have H0 := h
  clear h
  refine enter Try.func37 rfl [.agg ((kd_Config).cells x0 sv0).toArray, .int .i64 a1, .slice A2 l2.length c2, .slice A3 l3.length c3] (n := 47) rfl (Nat.le_of_ble_eq_true rfl) (fun a hI => ?_)
  have hF : FOpen Fence.wide := .inl rfl
  have hE := Ep.start w
  refine seq_region (live := [8, 4, 1, 2, 3]) (orc := []) hF hI ⟨[⟨8, [], .v (.bool false)⟩, ⟨4, [], .p 0 0⟩, ⟨1, [], .v (.int .i64 a1)⟩, ⟨2, [], .v (.slice A2 l2.length c2)⟩, ⟨3, [], .v (.slice A3 l3.length c3)⟩], [], [], [((((kd_Config).cells x0 sv0).map EV.v), 29)], none, none⟩ [] (by kernel_rfl) trivial (fun ns_1 a w_2 hI _ => ?_)
  refine wpIn_seq ?_
  refine seq_region (live := [9, 8, 4, 1, 2, 3]) (orc := []) hF hI ⟨[⟨9, [], .v (.int .i64 0)⟩, ⟨8, [], .v (.bool false)⟩, ⟨4, [], .p 0 0⟩, ⟨1, [], .v (.int .i64 a1)⟩, ⟨2, [], .v (.slice A2 l2.length c2)⟩, ⟨3, [], .v (.slice A3 l3.length c3)⟩], [], [], [((((kd_Config).cells x0 sv0).map EV.v), 29)], none, none⟩ [] (by kernel_rfl) trivial (fun ns_3 a w_4 hI _ => ?_)
  obtain ⟨o_23, hL_24, H0⟩ := bind_some H0
  refine block_loop (fun (s1 : Int × Bool) a w_59 => ∃ ns, St w [] 47 ⟨[⟨9, [], .v (.int .i64 s1.1)⟩, ⟨8, [], .v (.bool s1.2)⟩, ⟨4, [], .p 0 0⟩, ⟨1, [], .v (.int .i64 a1)⟩, ⟨2, [], .v (.slice A2 l2.length c2)⟩, ⟨3, [], .v (.slice A3 l3.length c3)⟩], [], [], [((((kd_Config).cells x0 sv0).map EV.v), 29)], none, none⟩ ns a w_59) (0, false) hL_24 ⟨_, hI.pick [9, 8, 4, 1, 2, 3] 1 ⟨[⟨9, [], .v (.int .i64 0)⟩, ⟨8, [], .v (.bool false)⟩, ⟨4, [], .p 0 0⟩, ⟨1, [], .v (.int .i64 a1)⟩, ⟨2, [], .v (.slice A2 l2.length c2)⟩, ⟨3, [], .v (.slice A3 l3.length c3)⟩], [], [], [((((kd_Config).cells x0 sv0).map EV.v), 29)], none, none⟩ (by kernel_rfl)⟩ ?_ ?_
  · clear hI
    rintro s1 a w_5 ⟨ns_6, hI⟩ r1 H1
    unfold G_ref22_Bells.b1 at H1
    refine wpIn_seq ?_
    refine seq_region (live := [14, 9, 8, 4, 1, 2, 3]) (orc := []) hF hI ⟨[⟨14, [], .v (.bool (decide (s1.1 < (l2.length : Int))))⟩, ⟨9, [], .v (.int .i64 s1.1)⟩, ⟨8, [], .v (.bool s1.2)⟩, ⟨4, [], .p 0 0⟩, ⟨1, [], .v (.int .i64 a1)⟩, ⟨2, [], .v (.slice A2 l2.length c2)⟩, ⟨3, [], .v (.slice A3 l3.length c3)⟩], [], [], [((((kd_Config).cells x0 sv0).map EV.v), 29)], none, none⟩ [] (by kernel_rfl) trivial (fun ns_7 a w_8 hI _ => ?_)
    refine cond_ hI (decide (s1.1 < (l2.length : Int))) rfl (fun hc_9 => ?_) (fun hc_9 => ?_)
    · replace H1 := bif_t hc_9 H1
      refine wpIn_skip ?_
      refine then_normal ?_
      refine wpIn_seq ?_
      refine wpIn_block ?_
      obtain ⟨hN_10, H1⟩ := req_some H1
      obtain ⟨sv_11, hE_13, hA_12⟩ := Arr.elB (d := (Kd.int .i64)) hr2 s1.1 true (fun _ => hN_10)
      replace hE_13 := hE_13 rfl
      replace hA_12 := fun (_ : true = true) => hA_12 rfl
      obtain ⟨t_14, hG_15, H1⟩ := bind_some H1
      refine seq_region (live := [23, 9, 8, 4, 1, 2, 3]) (orc := [[.int .i64 (rd l2 s1.1)], [.bool t_14]]) hF hI ⟨[⟨23, [], .v (.bool (!t_14))⟩, ⟨9, [], .v (.int .i64 s1.1)⟩, ⟨8, [], .v (.bool s1.2)⟩, ⟨4, [], .p 0 0⟩, ⟨1, [], .v (.int .i64 a1)⟩, ⟨2, [], .v (.slice A2 l2.length c2)⟩, ⟨3, [], .v (.slice A3 l3.length c3)⟩], [], [], [((((kd_Config).cells x0 sv0).map EV.v), 29)], none, none⟩ [.need true (0 ≤ s1.1 ∧ s1.1 < (l2.length : Int)), .need true (A2 = some (adr A2)), .cell true ((adr A2).add ((s1.1 : Int).toNat * 1)) [.int .i64 (rd l2 s1.1)], .call true 53 [.slice A3 l3.length c3, .int .i64 (rd l2 s1.1)] (.bool t_14)] (by kernel_rfl) ⟨ob_inb (fun _ => hN_10), hA_12, ob_el (fun _ => hE_13) 0 [.int .i64 (rd l2 s1.1)] rfl, ob_call (enters Try.func53 (by kernel_rfl) rfl) (fun hg wz hk => G_ref22_has.calls l3 (rd l2 s1.1) A3 c3 wz (S := fun _ => True) (Arr.any (Arr.keep hr3 (Lo.on hk))) hc3 _ hG_15), trivial⟩ (fun ns_16 a w_17 hI _ => ?_)
      refine cond_ hI ((!t_14)) rfl (fun hc_18 => ?_) (fun hc_18 => ?_)
      · replace H1 := bif_t hc_18 H1
        refine seq_region (live := [8]) (orc := []) hF hI ⟨[⟨8, [], .v (.bool false)⟩], [], [], [((((kd_Config).cells x0 sv0).map EV.v), 29)], none, none⟩ [] (by kernel_rfl) trivial (fun ns_19 a w_20 hI _ => ?_)
        refine wpIn_ret ?_
        refine inBlock_ret ?_
        refine then_ret ?_
        refine then_ret ?_
        obtain rfl := Option.some.inj H1
        refine .inr ⟨_, rfl, fun ho => ?_⟩
        subst ho
        refine inBlock_ret ?_
        refine then_ret ?_
        obtain rfl := Option.some.inj H0
        exact ret1 hI rfl rfl ⟨rfl, hE.below hI⟩
      · replace H1 := bif_f hc_18 H1
        refine wpIn_skip ?_
        refine inBlock_normal ?_
        refine then_normal ?_
        refine region_ (live := [9, 8, 4, 1, 2, 3]) (orc := []) hF hI ⟨[⟨9, [], .v (.int .i64 (IntKind.i64.wrap (s1.1 + 1)))⟩, ⟨8, [], .v (.bool s1.2)⟩, ⟨4, [], .p 0 0⟩, ⟨1, [], .v (.int .i64 a1)⟩, ⟨2, [], .v (.slice A2 l2.length c2)⟩, ⟨3, [], .v (.slice A3 l3.length c3)⟩], [], [], [((((kd_Config).cells x0 sv0).map EV.v), 29)], none, none⟩ [] (by kernel_rfl) trivial (fun ns_21 a w_22 hI _ => ?_)
        refine then_normal ?_
        obtain rfl := Option.some.inj H1
        exact ⟨_, rfl, ⟨_, hI.pick [9, 8, 4, 1, 2, 3] 1 ⟨[⟨9, [], .v (.int .i64 (IntKind.i64.wrap (s1.1 + 1)))⟩, ⟨8, [], .v (.bool s1.2)⟩, ⟨4, [], .p 0 0⟩, ⟨1, [], .v (.int .i64 a1)⟩, ⟨2, [], .v (.slice A2 l2.length c2)⟩, ⟨3, [], .v (.slice A3 l3.length c3)⟩], [], [], [((((kd_Config).cells x0 sv0).map EV.v), 29)], none, none⟩ (by kernel_rfl)⟩⟩
    · replace H1 := bif_f hc_9 H1
      refine wpIn_exit ?_
      refine then_exit ?_
      refine then_exit ?_
      obtain rfl := Option.some.inj H1
      exact .inl ⟨_, rfl, rfl, ⟨_, hI.pick [9, 8, 4, 1, 2, 3] 1 ⟨[⟨9, [], .v (.int .i64 s1.1)⟩, ⟨8, [], .v (.bool s1.2)⟩, ⟨4, [], .p 0 0⟩, ⟨1, [], .v (.int .i64 a1)⟩, ⟨2, [], .v (.slice A2 l2.length c2)⟩, ⟨3, [], .v (.slice A3 l3.length c3)⟩], [], [], [((((kd_Config).cells x0 sv0).map EV.v), 29)], none, none⟩ (by kernel_rfl)⟩⟩
  · clear hI
    rintro s1 a w_25 ho ⟨ns_26, hI⟩
    subst ho
    replace H0 : (((loopω (G_ref22_Bells.b2 x0 a1 l2 l3 s1) (0, s1.2)).bind fun o => o.on (fun s2 => some true) (fun r => some r)) : Option (Bool)) = _ := H0
    refine then_normal ?_
    refine wpIn_seq ?_
    refine seq_region (live := [10, 8, 4, 1, 2, 3]) (orc := []) hF hI ⟨[⟨10, [], .v (.int .i64 0)⟩, ⟨8, [], .v (.bool s1.2)⟩, ⟨4, [], .p 0 0⟩, ⟨1, [], .v (.int .i64 a1)⟩, ⟨2, [], .v (.slice A2 l2.length c2)⟩, ⟨3, [], .v (.slice A3 l3.length c3)⟩], [], [], [((((kd_Config).cells x0 sv0).map EV.v), 29)], none, none⟩ [] (by kernel_rfl) trivial (fun ns_27 a w_28 hI _ => ?_)
    obtain ⟨o_52, hL_53, H0⟩ := bind_some H0
    refine block_loop (fun (s2 : Int × Bool) a w_58 => ∃ ns, St w [] 47 ⟨[⟨10, [], .v (.int .i64 s2.1)⟩, ⟨8, [], .v (.bool s2.2)⟩, ⟨4, [], .p 0 0⟩, ⟨1, [], .v (.int .i64 a1)⟩, ⟨2, [], .v (.slice A2 l2.length c2)⟩, ⟨3, [], .v (.slice A3 l3.length c3)⟩], [], [], [((((kd_Config).cells x0 sv0).map EV.v), 29)], none, none⟩ ns a w_58) (0, s1.2) hL_53 ⟨_, hI.pick [10, 8, 4, 1, 2, 3] 1 ⟨[⟨10, [], .v (.int .i64 0)⟩, ⟨8, [], .v (.bool s1.2)⟩, ⟨4, [], .p 0 0⟩, ⟨1, [], .v (.int .i64 a1)⟩, ⟨2, [], .v (.slice A2 l2.length c2)⟩, ⟨3, [], .v (.slice A3 l3.length c3)⟩], [], [], [((((kd_Config).cells x0 sv0).map EV.v), 29)], none, none⟩ (by kernel_rfl)⟩ ?_ ?_
    · clear hI
      rintro s2 a w_29 ⟨ns_30, hI⟩ r2 H1
      unfold G_ref22_Bells.b2 at H1
      refine wpIn_seq ?_
      refine seq_region (live := [27, 10, 8, 4, 1, 2, 3]) (orc := []) hF hI ⟨[⟨27, [], .v (.bool (decide (s2.1 < (l3.length : Int))))⟩, ⟨10, [], .v (.int .i64 s2.1)⟩, ⟨8, [], .v (.bool s2.2)⟩, ⟨4, [], .p 0 0⟩, ⟨1, [], .v (.int .i64 a1)⟩, ⟨2, [], .v (.slice A2 l2.length c2)⟩, ⟨3, [], .v (.slice A3 l3.length c3)⟩], [], [], [((((kd_Config).cells x0 sv0).map EV.v), 29)], none, none⟩ [] (by kernel_rfl) trivial (fun ns_31 a w_32 hI _ => ?_)
      refine cond_ hI (decide (s2.1 < (l3.length : Int))) rfl (fun hc_33 => ?_) (fun hc_33 => ?_)
      · replace H1 := bif_t hc_33 H1
        refine wpIn_skip ?_
        refine then_normal ?_
        refine wpIn_seq ?_
        refine wpIn_block ?_
        refine wpIn_seq ?_
        obtain ⟨hN_34, H1⟩ := req_some H1
        obtain ⟨sv_35, hE_37, hA_36⟩ := Arr.elB (d := (Kd.int .i64)) hr3 s2.1 true (fun _ => hN_34)
        replace hE_37 := hE_37 rfl
        replace hA_36 := fun (_ : true = true) => hA_36 rfl
        obtain ⟨t_38, hG_39, H1⟩ := bind_some H1
        obtain ⟨hN_40, H1⟩ := req_some H1
        obtain ⟨sv_41, hE_43, hA_42⟩ := Arr.elB (d := (Kd.int .i64)) hr3 s2.1 (!t_38) (fun hg => imp_spec hN_40 hg)
        obtain ⟨t_44, hG_45, H1⟩ := bind_some H1
        refine drawn_ (live := [46, 10, 8, 4, 1, 2, 3]) (orc := [[.int .i64 (rd l3 s2.1)], [.bool t_38], [.int .i64 (rd l3 s2.1)], [.bool t_44]]) hF hI ⟨[⟨46, [], .v (.bool ((!t_38) && (!t_44)))⟩, ⟨10, [], .v (.int .i64 s2.1)⟩, ⟨8, [], .v (.bool s2.2)⟩, ⟨4, [], .p 0 0⟩, ⟨1, [], .v (.int .i64 a1)⟩, ⟨2, [], .v (.slice A2 l2.length c2)⟩, ⟨3, [], .v (.slice A3 l3.length c3)⟩], [], [], [((((kd_Config).cells x0 sv0).map EV.v), 29)], none, none⟩ [.need true (0 ≤ s2.1 ∧ s2.1 < (l3.length : Int)), .need true (A3 = some (adr A3)), .cell true ((adr A3).add ((s2.1 : Int).toNat * 1)) [.int .i64 (rd l3 s2.1)], .call true 53 [.slice A2 l2.length c2, .int .i64 (rd l3 s2.1)] (.bool t_38), .need (!t_38) (0 ≤ s2.1 ∧ s2.1 < (l3.length : Int)), .need (!t_38) (A3 = some (adr A3)), .cell (!t_38) ((adr A3).add ((s2.1 : Int).toNat * 1)) [.int .i64 (rd l3 s2.1)], .call (!t_38) 54 [.agg ((kd_Config).cells x0 sv0).toArray, .int .i64 a1, .int .i64 (rd l3 s2.1)] (.bool t_44)] (by kernel_rfl) (by kernel_rfl) (by kernel_rfl) ⟨ob_inb (fun _ => hN_34), hA_36, ob_el (fun _ => hE_37) 0 [.int .i64 (rd l3 s2.1)] rfl, ob_call (enters Try.func53 (by kernel_rfl) rfl) (fun hg wz hk => G_ref22_has.calls l2 (rd l3 s2.1) A2 c2 wz (S := fun _ => True) (Arr.any (Arr.keep hr2 (Lo.on hk))) hc2 _ hG_39), ob_inb (fun hg => imp_spec hN_40 hg), hA_42, ob_el (fun hg => hE_43 hg) 0 [.int .i64 (rd l3 s2.1)] rfl, ob_call (enters Try.func54 (by kernel_rfl) rfl) (fun hg wz hk => G_ref22_rings.calls x0 a1 (rd l3 s2.1) sv0 wz (S := fun _ => True) (Kd.any _ (Kd.keep kd_Config (contI (S := Lo S w w [] []) (w := w) (d := kd_Config) (x := x0) (sv := sv0) ⟨⟨hx0.1.1, hx0.1.2⟩, ⟨hx0.2.1.1, hx0.2.1.2⟩, ⟨hx0.2.2.1.1, hx0.2.2.1.2⟩, ⟨hx0.2.2.2.1.1, hx0.2.2.2.1.2⟩, trivial⟩) (Lo.on hk))) _ (cal_some hG_45 hg)), trivial⟩ (fun a w_46 hI => ?_)
        refine then_normal ?_
        refine cond_ hI (((!t_38) && (!t_44))) rfl (fun hc_47 => ?_) (fun hc_47 => ?_)
        · replace H1 := bif_t hc_47 H1
          refine seq_region (live := [8]) (orc := []) hF hI ⟨[⟨8, [], .v (.bool false)⟩], [], [], [((((kd_Config).cells x0 sv0).map EV.v), 29)], none, none⟩ [] (by kernel_rfl) trivial (fun ns_48 a w_49 hI _ => ?_)
          refine wpIn_ret ?_
          refine inBlock_ret ?_
          refine then_ret ?_
          refine then_ret ?_
          obtain rfl := Option.some.inj H1
          refine .inr ⟨_, rfl, fun ho => ?_⟩
          subst ho
          refine inBlock_ret ?_
          refine then_ret ?_
          obtain rfl := Option.some.inj H0
          exact ret1 hI rfl rfl ⟨rfl, hE.below hI⟩
        · replace H1 := bif_f hc_47 H1
          refine wpIn_skip ?_
          refine inBlock_normal ?_
          refine then_normal ?_
          refine region_ (live := [10, 8, 4, 1, 2, 3]) (orc := []) hF hI ⟨[⟨10, [], .v (.int .i64 (IntKind.i64.wrap (s2.1 + 1)))⟩, ⟨8, [], .v (.bool s2.2)⟩, ⟨4, [], .p 0 0⟩, ⟨1, [], .v (.int .i64 a1)⟩, ⟨2, [], .v (.slice A2 l2.length c2)⟩, ⟨3, [], .v (.slice A3 l3.length c3)⟩], [], [], [((((kd_Config).cells x0 sv0).map EV.v), 29)], none, none⟩ [] (by kernel_rfl) trivial (fun ns_50 a w_51 hI _ => ?_)
          refine then_normal ?_
          obtain rfl := Option.some.inj H1
          exact ⟨_, rfl, ⟨_, hI.pick [10, 8, 4, 1, 2, 3] 1 ⟨[⟨10, [], .v (.int .i64 (IntKind.i64.wrap (s2.1 + 1)))⟩, ⟨8, [], .v (.bool s2.2)⟩, ⟨4, [], .p 0 0⟩, ⟨1, [], .v (.int .i64 a1)⟩, ⟨2, [], .v (.slice A2 l2.length c2)⟩, ⟨3, [], .v (.slice A3 l3.length c3)⟩], [], [], [((((kd_Config).cells x0 sv0).map EV.v), 29)], none, none⟩ (by kernel_rfl)⟩⟩
      · replace H1 := bif_f hc_33 H1
        refine wpIn_exit ?_
        refine then_exit ?_
        refine then_exit ?_
        obtain rfl := Option.some.inj H1
        exact .inl ⟨_, rfl, rfl, ⟨_, hI.pick [10, 8, 4, 1, 2, 3] 1 ⟨[⟨10, [], .v (.int .i64 s2.1)⟩, ⟨8, [], .v (.bool s2.2)⟩, ⟨4, [], .p 0 0⟩, ⟨1, [], .v (.int .i64 a1)⟩, ⟨2, [], .v (.slice A2 l2.length c2)⟩, ⟨3, [], .v (.slice A3 l3.length c3)⟩], [], [], [((((kd_Config).cells x0 sv0).map EV.v), 29)], none, none⟩ (by kernel_rfl)⟩⟩
    · clear hI
      rintro s2 a w_54 ho ⟨ns_55, hI⟩
      subst ho
      replace H0 : (some true : Option (Bool)) = _ := H0
      refine then_normal ?_
      refine seq_region (live := [8]) (orc := []) hF hI ⟨[⟨8, [], .v (.bool true)⟩], [], [], [((((kd_Config).cells x0 sv0).map EV.v), 29)], none, none⟩ [] (by kernel_rfl) trivial (fun ns_56 a w_57 hI _ => ?_)
      refine wpIn_ret ?_
      obtain rfl := Option.some.inj H0
      exact ret1 hI rfl rfl ⟨rfl, hE.below hI⟩

/-! ### porthole/portholelaw22.AuditOwn: function 11 -/
noncomputable def G_law22_AuditOwn (x0 : Config) (a1 : Int) (x2 : Portholelaw22_Times) : Option (Bool) := ((G_law22_wakes).bind fun t_3 => (bif (!t_3) then some false else ((G_ref06_Great x0).bind fun t_10 => ((cal (!t_10) (G_ref07_Accepts x0) default).bind fun t_12 => (bif (((((t_10 || (!t_12)) || decide ((x2.Before.length : Int) > 300)) || decide ((x2.After.length : Int) > 300)) || decide ((x2.Was.length : Int) > 60)) || decide ((x2.Is.length : Int) > 60)) then some true else ((G_audit_Own x0 a1 x2.Before x2.After).bind fun t_19 => ((G_ref22_Own x0 a1 x2.Before x2.After).bind fun t_21 => ((cal (t_19 == t_21) (G_audit_Bells x0 a1 x2.Was x2.Is) default).bind fun t_23 => ((cal (t_19 == t_21) (G_ref22_Bells x0 a1 x2.Was x2.Is) default).bind fun t_25 => some ((t_19 == t_21) && (t_23 == t_25)))))))))))
set_option maxRecDepth 100000 in
set_option maxHeartbeats 4000000 in
theorem G_law22_AuditOwn.calls (x0 : Config) (a1 : Int) (x2 : Portholelaw22_Times) (sv0 : SV) (sv2 : SV) (w : World) {S : Nat → Prop} (hx0 : (kd_Config).cont S w x0 sv0) (hx2 : (kd_Portholelaw22_Times).cont S w x2 sv2) (r : Bool) (h : G_law22_AuditOwn x0 a1 x2 = some r) :
    Calls Try.prog 11 #[.agg ((kd_Config).cells x0 sv0).toArray, .int .i64 a1, .agg ((kd_Portholelaw22_Times).cells x2 sv2).toArray] w fun e w' => e = .returned (.bool r) ∧ Below w.heap.size w w' := by
  replace hx0 := Kd.lo _ hx0
  replace hx2 := Kd.lo _ hx2
  unfold G_law22_AuditOwn at h
  have H0 := h
  clear h
  refine enter Try.func11 rfl [.agg ((kd_Config).cells x0 sv0).toArray, .int .i64 a1, .agg ((kd_Portholelaw22_Times).cells x2 sv2).toArray] (n := 72) rfl (Nat.le_of_ble_eq_true rfl) (fun a hI => ?_)
  have hF : FOpen Fence.wide := .inl rfl
  have hE := Ep.start w
  refine seq_region (live := [6, 5, 3, 1]) (orc := []) hF hI ⟨[⟨6, [], .v (.bool false)⟩, ⟨5, [], .p 1 0⟩, ⟨3, [], .p 0 0⟩, ⟨1, [], .v (.int .i64 a1)⟩], [], [], [((((kd_Config).cells x0 sv0).map EV.v), 29), ((((kd_Portholelaw22_Times).cells x2 sv2).map EV.v), 66)], none, none⟩ [] (by kernel_rfl) trivial (fun ns_1 a w_2 hI _ => ?_)
  refine wpIn_seq ?_
  obtain ⟨t_3, hG_4, H0⟩ := bind_some H0
  refine seq_region (live := [8, 6, 5, 3, 1]) (orc := [[.bool t_3]]) hF hI ⟨[⟨8, [], .v (.bool (!t_3))⟩, ⟨6, [], .v (.bool false)⟩, ⟨5, [], .p 1 0⟩, ⟨3, [], .p 0 0⟩, ⟨1, [], .v (.int .i64 a1)⟩], [], [], [((((kd_Config).cells x0 sv0).map EV.v), 29), ((((kd_Portholelaw22_Times).cells x2 sv2).map EV.v), 66)], none, none⟩ [.call true 30 [] (.bool t_3)] (by kernel_rfl) ⟨ob_call (enters Try.func30 (by kernel_rfl) rfl) (fun hg wz hk => G_law22_wakes.calls   wz (S := fun _ => True)  _ hG_4), trivial⟩ (fun ns_5 a w_6 hI _ => ?_)
  refine cond_ hI ((!t_3)) rfl (fun hc_7 => ?_) (fun hc_7 => ?_)
  · replace H0 := bif_t hc_7 H0
    refine seq_region (live := [6]) (orc := []) hF hI ⟨[⟨6, [], .v (.bool false)⟩], [], [], [((((kd_Config).cells x0 sv0).map EV.v), 29), ((((kd_Portholelaw22_Times).cells x2 sv2).map EV.v), 66)], none, none⟩ [] (by kernel_rfl) trivial (fun ns_8 a w_9 hI _ => ?_)
    refine wpIn_ret ?_
    refine then_ret ?_
    obtain rfl := Option.some.inj H0
    exact ret1 hI rfl rfl ⟨rfl, hE.below hI⟩
  · replace H0 := bif_f hc_7 H0
    refine wpIn_skip ?_
    refine then_normal ?_
    refine wpIn_seq ?_
    obtain ⟨t_10, hG_11, H0⟩ := bind_some H0
    obtain ⟨t_12, hG_13, H0⟩ := bind_some H0
    refine seq_region (live := [39, 6, 5, 3, 1]) (orc := [[.bool t_10], [.bool t_12]]) hF hI ⟨[⟨39, [], .v (.bool (((((t_10 || (!t_12)) || decide ((x2.Before.length : Int) > 300)) || decide ((x2.After.length : Int) > 300)) || decide ((x2.Was.length : Int) > 60)) || decide ((x2.Is.length : Int) > 60)))⟩, ⟨6, [], .v (.bool false)⟩, ⟨5, [], .p 1 0⟩, ⟨3, [], .p 0 0⟩, ⟨1, [], .v (.int .i64 a1)⟩], [], [], [((((kd_Config).cells x0 sv0).map EV.v), 29), ((((kd_Portholelaw22_Times).cells x2 sv2).map EV.v), 66)], none, none⟩ [.call true 13 [.agg ((kd_Config).cells x0 sv0).toArray] (.bool t_10), .call (!t_10) 14 [.agg ((kd_Config).cells x0 sv0).toArray] (.bool t_12)] (by kernel_rfl) ⟨ob_call (enters Try.func13 (by kernel_rfl) rfl) (fun hg wz hk => G_ref06_Great.calls x0 sv0 wz (S := fun _ => True) (Kd.any _ (Kd.keep kd_Config (contI (S := Lo S w w [] []) (w := w) (d := kd_Config) (x := x0) (sv := sv0) ⟨⟨hx0.1.1, hx0.1.2⟩, ⟨hx0.2.1.1, hx0.2.1.2⟩, ⟨hx0.2.2.1.1, hx0.2.2.1.2⟩, ⟨hx0.2.2.2.1.1, hx0.2.2.2.1.2⟩, trivial⟩) (Lo.on hk))) _ hG_11), ob_call (enters Try.func14 (by kernel_rfl) rfl) (fun hg wz hk => G_ref07_Accepts.calls x0 sv0 wz (S := fun _ => True) (Kd.any _ (Kd.keep kd_Config (contI (S := Lo S w w [] []) (w := w) (d := kd_Config) (x := x0) (sv := sv0) ⟨⟨hx0.1.1, hx0.1.2⟩, ⟨hx0.2.1.1, hx0.2.1.2⟩, ⟨hx0.2.2.1.1, hx0.2.2.1.2⟩, ⟨hx0.2.2.2.1.1, hx0.2.2.2.1.2⟩, trivial⟩) (Lo.on hk))) _ (cal_some hG_13 hg)), trivial⟩ (fun ns_14 a w_15 hI _ => ?_)
    refine cond_ hI ((((((t_10 || (!t_12)) || decide ((x2.Before.length : Int) > 300)) || decide ((x2.After.length : Int) > 300)) || decide ((x2.Was.length : Int) > 60)) || decide ((x2.Is.length : Int) > 60))) rfl (fun hc_16 => ?_) (fun hc_16 => ?_)
    · replace H0 := bif_t hc_16 H0
      refine seq_region (live := [6]) (orc := []) hF hI ⟨[⟨6, [], .v (.bool true)⟩], [], [], [((((kd_Config).cells x0 sv0).map EV.v), 29), ((((kd_Portholelaw22_Times).cells x2 sv2).map EV.v), 66)], none, none⟩ [] (by kernel_rfl) trivial (fun ns_17 a w_18 hI _ => ?_)
      refine wpIn_ret ?_
      refine then_ret ?_
      obtain rfl := Option.some.inj H0
      exact ret1 hI rfl rfl ⟨rfl, hE.below hI⟩
    · replace H0 := bif_f hc_16 H0
      refine wpIn_skip ?_
      refine then_normal ?_
      refine wpIn_seq ?_
      obtain ⟨t_19, hG_20, H0⟩ := bind_some H0
      obtain ⟨t_21, hG_22, H0⟩ := bind_some H0
      obtain ⟨t_23, hG_24, H0⟩ := bind_some H0
      obtain ⟨t_25, hG_26, H0⟩ := bind_some H0
      refine drawn_ (live := [6]) (orc := [[.bool t_19], [.bool t_21], [.bool t_23], [.bool t_25]]) hF hI ⟨[⟨6, [], .v (.bool ((t_19 == t_21) && (t_23 == t_25)))⟩], [], [], [((((kd_Config).cells x0 sv0).map EV.v), 29), ((((kd_Portholelaw22_Times).cells x2 sv2).map EV.v), 66)], none, none⟩ [.call true 34 [.agg ((kd_Config).cells x0 sv0).toArray, .int .i64 a1, .slice ((sv2 0).1) x2.Before.length ((sv2 0).2), .slice ((sv2 1).1) x2.After.length ((sv2 1).2)] (.bool t_19), .call true 35 [.agg ((kd_Config).cells x0 sv0).toArray, .int .i64 a1, .slice ((sv2 0).1) x2.Before.length ((sv2 0).2), .slice ((sv2 1).1) x2.After.length ((sv2 1).2)] (.bool t_21), .call (t_19 == t_21) 36 [.agg ((kd_Config).cells x0 sv0).toArray, .int .i64 a1, .slice ((sv2 2).1) x2.Was.length ((sv2 2).2), .slice ((sv2 3).1) x2.Is.length ((sv2 3).2)] (.bool t_23), .call (t_19 == t_21) 37 [.agg ((kd_Config).cells x0 sv0).toArray, .int .i64 a1, .slice ((sv2 2).1) x2.Was.length ((sv2 2).2), .slice ((sv2 3).1) x2.Is.length ((sv2 3).2)] (.bool t_25)] (by kernel_rfl) (by kernel_rfl) (by kernel_rfl) ⟨ob_call (enters Try.func34 (by kernel_rfl) rfl) (fun hg wz hk => G_audit_Own.calls x0 a1 x2.Before x2.After sv0 ((sv2 0).1) ((sv2 0).2) ((sv2 1).1) ((sv2 1).2) wz (S := fun _ => True) (Kd.any _ (Kd.keep kd_Config (contI (S := Lo S w w [] []) (w := w) (d := kd_Config) (x := x0) (sv := sv0) ⟨⟨hx0.1.1, hx0.1.2⟩, ⟨hx0.2.1.1, hx0.2.1.2⟩, ⟨hx0.2.2.1.1, hx0.2.2.1.2⟩, ⟨hx0.2.2.2.1.1, hx0.2.2.2.1.2⟩, trivial⟩) (Lo.on hk))) (Arr.any (Arr.keep hx2.1.1 (Lo.on hk))) hx2.1.2 (Arr.any (Arr.keep hx2.2.1.1 (Lo.on hk))) hx2.2.1.2 _ hG_20), ob_call (enters Try.func35 (by kernel_rfl) rfl) (fun hg wz hk => G_ref22_Own.calls x0 a1 x2.Before x2.After sv0 ((sv2 0).1) ((sv2 0).2) ((sv2 1).1) ((sv2 1).2) wz (S := fun _ => True) (Kd.any _ (Kd.keep kd_Config (contI (S := Lo S w w [] []) (w := w) (d := kd_Config) (x := x0) (sv := sv0) ⟨⟨hx0.1.1, hx0.1.2⟩, ⟨hx0.2.1.1, hx0.2.1.2⟩, ⟨hx0.2.2.1.1, hx0.2.2.1.2⟩, ⟨hx0.2.2.2.1.1, hx0.2.2.2.1.2⟩, trivial⟩) (Lo.on hk))) (Arr.any (Arr.keep hx2.1.1 (Lo.on hk))) hx2.1.2 (Arr.any (Arr.keep hx2.2.1.1 (Lo.on hk))) hx2.2.1.2 _ hG_22), ob_call (enters Try.func36 (by kernel_rfl) rfl) (fun hg wz hk => G_audit_Bells.calls x0 a1 x2.Was x2.Is sv0 ((sv2 2).1) ((sv2 2).2) ((sv2 3).1) ((sv2 3).2) wz (S := fun _ => True) (Kd.any _ (Kd.keep kd_Config (contI (S := Lo S w w [] []) (w := w) (d := kd_Config) (x := x0) (sv := sv0) ⟨⟨hx0.1.1, hx0.1.2⟩, ⟨hx0.2.1.1, hx0.2.1.2⟩, ⟨hx0.2.2.1.1, hx0.2.2.1.2⟩, ⟨hx0.2.2.2.1.1, hx0.2.2.2.1.2⟩, trivial⟩) (Lo.on hk))) (Arr.any (Arr.keep hx2.2.2.1.1 (Lo.on hk))) hx2.2.2.1.2 (Arr.any (Arr.keep hx2.2.2.2.1.1 (Lo.on hk))) hx2.2.2.2.1.2 _ (cal_some hG_24 hg)), ob_call (enters Try.func37 (by kernel_rfl) rfl) (fun hg wz hk => G_ref22_Bells.calls x0 a1 x2.Was x2.Is sv0 ((sv2 2).1) ((sv2 2).2) ((sv2 3).1) ((sv2 3).2) wz (S := fun _ => True) (Kd.any _ (Kd.keep kd_Config (contI (S := Lo S w w [] []) (w := w) (d := kd_Config) (x := x0) (sv := sv0) ⟨⟨hx0.1.1, hx0.1.2⟩, ⟨hx0.2.1.1, hx0.2.1.2⟩, ⟨hx0.2.2.1.1, hx0.2.2.1.2⟩, ⟨hx0.2.2.2.1.1, hx0.2.2.2.1.2⟩, trivial⟩) (Lo.on hk))) (Arr.any (Arr.keep hx2.2.2.1.1 (Lo.on hk))) hx2.2.2.1.2 (Arr.any (Arr.keep hx2.2.2.2.1.1 (Lo.on hk))) hx2.2.2.2.1.2 _ (cal_some hG_26 hg)), trivial⟩ (fun a w_27 hI => ?_)
      refine then_normal ?_
      refine wpIn_ret ?_
      obtain rfl := Option.some.inj H0
      exact ret1 hI rfl rfl ⟨rfl, hE.below hI⟩

end Go.Proofs.Ytnfnincmhobpaab
