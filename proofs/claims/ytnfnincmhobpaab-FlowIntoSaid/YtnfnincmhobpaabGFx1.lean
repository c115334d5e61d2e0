import Derived.Test.YtnfnincmhobpaabGFx0
set_option linter.unusedVariables false
set_option linter.unusedSimpArgs false
namespace Go.Proofs.Ytnfnincmhobpaab
open Go Go.RowKit Go.Eng Go.Proofs

/-! ### porthole/portholeref07.chans: function 73 -/
noncomputable def G_ref07_chans.b1 (x0 : Config) (a1 : Int) (s1 : Int × Bool) : Option (Stp (Int × Bool) (Ex (Int × Bool) (Bool))) := (bif decide (s1.1 < (x0.Chans.length : Int)) then (req (inb s1.1 x0.Chans.length) (bif (a1 == 5) then (bif ((((rd x0.Chans s1.1).Kind) != 1) && (((rd x0.Chans s1.1).Kind) != 2)) then some (.out (.ret true)) else some (.next ((IntKind.i64.wrap (s1.1 + 1)), s1.2))) else (bif (a1 == 6) then ((G_ref07_part x0 ((rd x0.Chans s1.1).From)).bind fun t_35 => ((cal (!(!t_35)) (G_ref07_part x0 ((rd x0.Chans s1.1).To)) default).bind fun t_37 => (bif ((!t_35) || (!t_37)) then some (.out (.ret true)) else some (.next ((IntKind.i64.wrap (s1.1 + 1)), s1.2))))) else (bif (a1 == 7) then (bif (((rd x0.Chans s1.1).From) == ((rd x0.Chans s1.1).To)) then some (.out (.ret true)) else some (.next ((IntKind.i64.wrap (s1.1 + 1)), s1.2))) else (bif (a1 == 8) then (bif (decide (((rd x0.Chans s1.1).Words) < 1) || decide (((rd x0.Chans s1.1).Words) > 16)) then some (.out (.ret true)) else some (.next ((IntKind.i64.wrap (s1.1 + 1)), s1.2))) else (bif (a1 == 9) then (bif (((((rd x0.Chans s1.1).Kind) == 1) && (((rd x0.Chans s1.1).Depth) != 0)) || (((((((rd x0.Chans s1.1).Kind) == 2) && (((rd x0.Chans s1.1).Depth) != 1)) && (((rd x0.Chans s1.1).Depth) != 2)) && (((rd x0.Chans s1.1).Depth) != 4)) && (((rd x0.Chans s1.1).Depth) != 8))) then some (.out (.ret true)) else some (.next ((IntKind.i64.wrap (s1.1 + 1)), s1.2))) else (bif (a1 == 10) then (bif (((((rd x0.Chans s1.1).Kind) == 1) && (decide (((rd x0.Chans s1.1).Period) < 0) || decide (((rd x0.Chans s1.1).Period) > 1048576))) || ((((rd x0.Chans s1.1).Kind) == 2) && (((rd x0.Chans s1.1).Period) != 0))) then some (.out (.ret true)) else some (.next ((IntKind.i64.wrap (s1.1 + 1)), s1.2))) else (bif (bif (a1 == 11) then ((((rd x0.Chans s1.1).Kind) == 1) && (((rd x0.Chans s1.1).Boot) != 0)) else false) then some (.out (.ret true)) else some (.next ((IntKind.i64.wrap (s1.1 + 1)), s1.2)))))))))) else some (.out (.brk (s1.1, s1.2))))
noncomputable def G_ref07_chans (x0 : Config) (a1 : Int) : Option (Bool) := ((loopω (G_ref07_chans.b1 x0 a1) (0, false)).bind fun o => o.on (fun s1 => some false) (fun r => some r))
set_option maxRecDepth 100000 in
set_option maxHeartbeats 4000000 in
theorem G_ref07_chans.calls (x0 : Config) (a1 : Int) (sv0 : SV) (w : World) {S : Nat → Prop} (hx0 : (kd_Config).cont S w x0 sv0) (r : Bool) (h : G_ref07_chans x0 a1 = some r) :
    Calls Try.prog 73 #[.agg ((kd_Config).cells x0 (svL [((sv0 0).1, (sv0 0).2), ((sv0 1).1, (sv0 1).2), ((sv0 2).1, (sv0 2).2), ((sv0 3).1, (sv0 3).2)])).toArray, .int .i64 a1] w fun e w' => e = .returned (.bool r) ∧ Below w.heap.size w w' := by
  replace hx0 := Kd.lo _ hx0
  unfold G_ref07_chans at h
  have H0 := h
  clear h
  refine enter Try.func73 rfl [.agg ((kd_Config).cells x0 (svL [((sv0 0).1, (sv0 0).2), ((sv0 1).1, (sv0 1).2), ((sv0 2).1, (sv0 2).2), ((sv0 3).1, (sv0 3).2)])).toArray, .int .i64 a1] (n := 133) rfl (Nat.le_of_ble_eq_true rfl) (fun a hI => ?_)
  have hF : FOpen Fence.wide := .inl rfl
  have hE := Ep.start w
  refine seq_region (live := [4, 2, 0, 1]) (orc := []) hF hI ⟨[⟨4, [], .v (.bool false)⟩, ⟨2, [], .p 0 0⟩, ⟨0, [], .v (.agg ((kd_Config).cells x0 sv0).toArray)⟩, ⟨1, [], .v (.int .i64 a1)⟩], [], [], [((((kd_Config).cells x0 sv0).map EV.v), 29)], none, none⟩ [] (by kernel_rfl) trivial (fun ns_1 a w_2 hI _ => ?_)
  refine wpIn_seq ?_
  refine seq_region (live := [5, 4, 2, 0, 1]) (orc := []) hF hI ⟨[⟨5, [], .v (.int .i64 0)⟩, ⟨4, [], .v (.bool false)⟩, ⟨2, [], .p 0 0⟩, ⟨0, [], .v (.agg ((kd_Config).cells x0 sv0).toArray)⟩, ⟨1, [], .v (.int .i64 a1)⟩], [], [], [((((kd_Config).cells x0 sv0).map EV.v), 29)], none, none⟩ [] (by kernel_rfl) trivial (fun ns_3 a w_4 hI _ => ?_)
  obtain ⟨o_122, hL_123, H0⟩ := bind_some H0
  refine block_loop (fun (s1 : Int × Bool) a w_128 => ∃ ns, St w [] 133 ⟨[⟨5, [], .v (.int .i64 s1.1)⟩, ⟨4, [], .v (.bool s1.2)⟩, ⟨2, [], .p 0 0⟩, ⟨0, [], .v (.agg ((kd_Config).cells x0 (svL [((sv0 0).1, (sv0 0).2), ((sv0 1).1, (sv0 1).2), ((sv0 2).1, (sv0 2).2), ((sv0 3).1, (sv0 3).2)])).toArray)⟩, ⟨1, [], .v (.int .i64 a1)⟩], [], [], [((((kd_Config).cells x0 sv0).map EV.v), 29)], none, none⟩ ns a w_128) (0, false) hL_123 ⟨_, hI.pick [5, 4, 2, 0, 1] 1 ⟨[⟨5, [], .v (.int .i64 0)⟩, ⟨4, [], .v (.bool false)⟩, ⟨2, [], .p 0 0⟩, ⟨0, [], .v (.agg ((kd_Config).cells x0 (svL [((sv0 0).1, (sv0 0).2), ((sv0 1).1, (sv0 1).2), ((sv0 2).1, (sv0 2).2), ((sv0 3).1, (sv0 3).2)])).toArray)⟩, ⟨1, [], .v (.int .i64 a1)⟩], [], [], [((((kd_Config).cells x0 sv0).map EV.v), 29)], none, none⟩ (by kernel_rfl)⟩ ?_ ?_
  · clear hI
    rintro s1 a w_5 ⟨ns_6, hI⟩ r1 H1
    unfold G_ref07_chans.b1 at H1
    refine wpIn_seq ?_
    refine seq_region (live := [12, 5, 4, 2, 0, 1]) (orc := []) hF hI ⟨[⟨12, [], .v (.bool (decide (s1.1 < (x0.Chans.length : Int))))⟩, ⟨5, [], .v (.int .i64 s1.1)⟩, ⟨4, [], .v (.bool s1.2)⟩, ⟨2, [], .p 0 0⟩, ⟨0, [], .v (.agg ((kd_Config).cells x0 sv0).toArray)⟩, ⟨1, [], .v (.int .i64 a1)⟩], [], [], [((((kd_Config).cells x0 sv0).map EV.v), 29)], none, none⟩ [] (by kernel_rfl) trivial (fun ns_7 a w_8 hI _ => ?_)
    refine cond_ hI (decide (s1.1 < (x0.Chans.length : Int))) rfl (fun hc_9 => ?_) (fun hc_9 => ?_)
    · replace H1 := bif_t hc_9 H1
      refine wpIn_skip ?_
      refine then_normal ?_
      refine wpIn_seq ?_
      refine wpIn_block ?_
      obtain ⟨hN_10, H1⟩ := req_some H1
      obtain ⟨sv_11, hE_13, hA_12⟩ := Arr.elB (d := kd_Chan) hx0.2.1.1 s1.1 true (fun _ => hN_10)
      replace hE_13 := hE_13 rfl
      replace hA_12 := fun (_ : true = true) => hA_12 rfl
      refine seq_region (live := [6, 12, 5, 4, 2, 0, 1]) (orc := [(kd_Chan).cells (rd x0.Chans s1.1) sv_11]) hF hI ⟨[⟨6, [], .p 1 0⟩, ⟨12, [], .v (.bool (decide (s1.1 < (x0.Chans.length : Int))))⟩, ⟨5, [], .v (.int .i64 s1.1)⟩, ⟨4, [], .v (.bool s1.2)⟩, ⟨2, [], .p 0 0⟩, ⟨0, [], .v (.agg ((kd_Config).cells x0 sv0).toArray)⟩, ⟨1, [], .v (.int .i64 a1)⟩], [], [], [((((kd_Config).cells x0 sv0).map EV.v), 29), ((((kd_Chan).cells (rd x0.Chans s1.1) sv_11).map EV.v), 74)], none, none⟩ [.need true (0 ≤ s1.1 ∧ s1.1 < (x0.Chans.length : Int)), .need true ((sv0 1).1 = some (adr ((sv0 1).1))), .cell true ((adr ((sv0 1).1)).add ((s1.1 : Int).toNat * 7)) ((kd_Chan).cells (rd x0.Chans s1.1) sv_11)] (by kernel_rfl) ⟨ob_inb (fun _ => hN_10), hA_12, ob_el (fun _ => hE_13) 0 ((kd_Chan).cells (rd x0.Chans s1.1) sv_11) rfl, trivial⟩ (fun ns_14 a w_15 hI _ => ?_)
      refine seq_region (live := [7, 6, 12, 5, 4, 2, 0, 1]) (orc := []) hF hI ⟨[⟨7, [], .v (.bool false)⟩, ⟨6, [], .p 1 0⟩, ⟨12, [], .v (.bool (decide (s1.1 < (x0.Chans.length : Int))))⟩, ⟨5, [], .v (.int .i64 s1.1)⟩, ⟨4, [], .v (.bool s1.2)⟩, ⟨2, [], .p 0 0⟩, ⟨0, [], .v (.agg ((kd_Config).cells x0 sv0).toArray)⟩, ⟨1, [], .v (.int .i64 a1)⟩], [], [], [((((kd_Config).cells x0 sv0).map EV.v), 29), ((((kd_Chan).cells (rd x0.Chans s1.1) sv_11).map EV.v), 74)], none, none⟩ [] (by kernel_rfl) trivial (fun ns_16 a w_17 hI _ => ?_)
      refine wpIn_seq ?_
      refine seq_region (live := [20, 7, 6, 12, 5, 4, 2, 0, 1]) (orc := []) hF hI ⟨[⟨20, [], .v (.int .i64 a1)⟩, ⟨7, [], .v (.bool false)⟩, ⟨6, [], .p 1 0⟩, ⟨12, [], .v (.bool (decide (s1.1 < (x0.Chans.length : Int))))⟩, ⟨5, [], .v (.int .i64 s1.1)⟩, ⟨4, [], .v (.bool s1.2)⟩, ⟨2, [], .p 0 0⟩, ⟨0, [], .v (.agg ((kd_Config).cells x0 sv0).toArray)⟩, ⟨1, [], .v (.int .i64 a1)⟩], [], [], [((((kd_Config).cells x0 sv0).map EV.v), 29), ((((kd_Chan).cells (rd x0.Chans s1.1) sv_11).map EV.v), 74)], none, none⟩ [] (by kernel_rfl) trivial (fun ns_18 a w_19 hI _ => ?_)
      refine wpIn_block ?_
      refine seq_region (live := [21, 20, 7, 6, 12, 5, 4, 2, 0, 1]) (orc := []) hF hI ⟨[⟨21, [], .v (.bool (a1 == 5))⟩, ⟨20, [], .v (.int .i64 a1)⟩, ⟨7, [], .v (.bool false)⟩, ⟨6, [], .p 1 0⟩, ⟨12, [], .v (.bool (decide (s1.1 < (x0.Chans.length : Int))))⟩, ⟨5, [], .v (.int .i64 s1.1)⟩, ⟨4, [], .v (.bool s1.2)⟩, ⟨2, [], .p 0 0⟩, ⟨0, [], .v (.agg ((kd_Config).cells x0 sv0).toArray)⟩, ⟨1, [], .v (.int .i64 a1)⟩], [], [], [((((kd_Config).cells x0 sv0).map EV.v), 29), ((((kd_Chan).cells (rd x0.Chans s1.1) sv_11).map EV.v), 74)], none, none⟩ [] (by kernel_rfl) trivial (fun ns_20 a w_21 hI _ => ?_)
      refine cond_ hI ((a1 == 5)) rfl (fun hc_22 => ?_) (fun hc_22 => ?_)
      · replace H1 := bif_t hc_22 H1
        refine region_ (live := [7, 21, 20, 6, 12, 5, 4, 2, 0, 1]) (orc := []) hF hI ⟨[⟨7, [], .v (.bool ((((rd x0.Chans s1.1).Kind) != 1) && (((rd x0.Chans s1.1).Kind) != 2)))⟩, ⟨21, [], .v (.bool (a1 == 5))⟩, ⟨20, [], .v (.int .i64 a1)⟩, ⟨6, [], .p 1 0⟩, ⟨12, [], .v (.bool (decide (s1.1 < (x0.Chans.length : Int))))⟩, ⟨5, [], .v (.int .i64 s1.1)⟩, ⟨4, [], .v (.bool s1.2)⟩, ⟨2, [], .p 0 0⟩, ⟨0, [], .v (.agg ((kd_Config).cells x0 sv0).toArray)⟩, ⟨1, [], .v (.int .i64 a1)⟩], [], [], [((((kd_Config).cells x0 sv0).map EV.v), 29), ((((kd_Chan).cells (rd x0.Chans s1.1) sv_11).map EV.v), 74)], none, none⟩ [] (by kernel_rfl) trivial (fun ns_23 a w_24 hI _ => ?_)
        refine inBlock_normal ?_
        refine then_normal ?_
        refine seq_region (live := [132, 7, 21, 20, 6, 12, 5, 4, 2, 0, 1]) (orc := []) hF hI ⟨[⟨132, [], .v (.bool ((((rd x0.Chans s1.1).Kind) != 1) && (((rd x0.Chans s1.1).Kind) != 2)))⟩, ⟨7, [], .v (.bool ((((rd x0.Chans s1.1).Kind) != 1) && (((rd x0.Chans s1.1).Kind) != 2)))⟩, ⟨21, [], .v (.bool (a1 == 5))⟩, ⟨20, [], .v (.int .i64 a1)⟩, ⟨6, [], .p 1 0⟩, ⟨12, [], .v (.bool (decide (s1.1 < (x0.Chans.length : Int))))⟩, ⟨5, [], .v (.int .i64 s1.1)⟩, ⟨4, [], .v (.bool s1.2)⟩, ⟨2, [], .p 0 0⟩, ⟨0, [], .v (.agg ((kd_Config).cells x0 sv0).toArray)⟩, ⟨1, [], .v (.int .i64 a1)⟩], [], [], [((((kd_Config).cells x0 sv0).map EV.v), 29), ((((kd_Chan).cells (rd x0.Chans s1.1) sv_11).map EV.v), 74)], none, none⟩ [] (by kernel_rfl) trivial (fun ns_25 a w_26 hI _ => ?_)
        refine cond_ hI (((((rd x0.Chans s1.1).Kind) != 1) && (((rd x0.Chans s1.1).Kind) != 2))) rfl (fun hc_27 => ?_) (fun hc_27 => ?_)
        · replace H1 := bif_t hc_27 H1
          refine seq_region (live := [4, 132, 7, 21, 20, 6, 12, 5, 2, 0, 1]) (orc := []) hF hI ⟨[⟨4, [], .v (.bool true)⟩, ⟨132, [], .v (.bool ((((rd x0.Chans s1.1).Kind) != 1) && (((rd x0.Chans s1.1).Kind) != 2)))⟩, ⟨7, [], .v (.bool ((((rd x0.Chans s1.1).Kind) != 1) && (((rd x0.Chans s1.1).Kind) != 2)))⟩, ⟨21, [], .v (.bool (a1 == 5))⟩, ⟨20, [], .v (.int .i64 a1)⟩, ⟨6, [], .p 1 0⟩, ⟨12, [], .v (.bool (decide (s1.1 < (x0.Chans.length : Int))))⟩, ⟨5, [], .v (.int .i64 s1.1)⟩, ⟨2, [], .p 0 0⟩, ⟨0, [], .v (.agg ((kd_Config).cells x0 sv0).toArray)⟩, ⟨1, [], .v (.int .i64 a1)⟩], [], [], [((((kd_Config).cells x0 sv0).map EV.v), 29), ((((kd_Chan).cells (rd x0.Chans s1.1) sv_11).map EV.v), 74)], none, none⟩ [] (by kernel_rfl) trivial (fun ns_28 a w_29 hI _ => ?_)
          refine wpIn_ret ?_
          refine inBlock_ret ?_
          refine then_ret ?_
          refine then_ret ?_
          obtain rfl := Option.some.inj H1
          refine .inr ⟨_, rfl, fun ho => ?_⟩
          subst ho
          refine inBlock_ret ?_
          refine then_ret ?_
          obtain rfl := Option.some.inj H0
          exact ret1 hI rfl rfl ⟨rfl, hE.below hI⟩
        · replace H1 := bif_f hc_27 H1
          refine wpIn_skip ?_
          refine inBlock_normal ?_
          refine then_normal ?_
          refine region_ (live := [5, 132, 7, 21, 20, 6, 12, 4, 2, 0, 1]) (orc := []) hF hI ⟨[⟨5, [], .v (.int .i64 (IntKind.i64.wrap (s1.1 + 1)))⟩, ⟨132, [], .v (.bool ((((rd x0.Chans s1.1).Kind) != 1) && (((rd x0.Chans s1.1).Kind) != 2)))⟩, ⟨7, [], .v (.bool ((((rd x0.Chans s1.1).Kind) != 1) && (((rd x0.Chans s1.1).Kind) != 2)))⟩, ⟨21, [], .v (.bool (a1 == 5))⟩, ⟨20, [], .v (.int .i64 a1)⟩, ⟨6, [], .p 1 0⟩, ⟨12, [], .v (.bool (decide (s1.1 < (x0.Chans.length : Int))))⟩, ⟨4, [], .v (.bool s1.2)⟩, ⟨2, [], .p 0 0⟩, ⟨0, [], .v (.agg ((kd_Config).cells x0 sv0).toArray)⟩, ⟨1, [], .v (.int .i64 a1)⟩], [], [], [((((kd_Config).cells x0 sv0).map EV.v), 29), ((((kd_Chan).cells (rd x0.Chans s1.1) sv_11).map EV.v), 74)], none, none⟩ [] (by kernel_rfl) trivial (fun ns_30 a w_31 hI _ => ?_)
          refine then_normal ?_
          obtain rfl := Option.some.inj H1
          exact ⟨_, rfl, ⟨_, hI.pick [5, 4, 2, 0, 1] 1 ⟨[⟨5, [], .v (.int .i64 (IntKind.i64.wrap (s1.1 + 1)))⟩, ⟨4, [], .v (.bool s1.2)⟩, ⟨2, [], .p 0 0⟩, ⟨0, [], .v (.agg ((kd_Config).cells x0 sv0).toArray)⟩, ⟨1, [], .v (.int .i64 a1)⟩], [], [], [((((kd_Config).cells x0 sv0).map EV.v), 29)], none, none⟩ (by kernel_rfl)⟩⟩
      · replace H1 := bif_f hc_22 H1
        refine seq_region (live := [31, 21, 20, 7, 6, 12, 5, 4, 2, 0, 1]) (orc := []) hF hI ⟨[⟨31, [], .v (.bool (a1 == 6))⟩, ⟨21, [], .v (.bool (a1 == 5))⟩, ⟨20, [], .v (.int .i64 a1)⟩, ⟨7, [], .v (.bool false)⟩, ⟨6, [], .p 1 0⟩, ⟨12, [], .v (.bool (decide (s1.1 < (x0.Chans.length : Int))))⟩, ⟨5, [], .v (.int .i64 s1.1)⟩, ⟨4, [], .v (.bool s1.2)⟩, ⟨2, [], .p 0 0⟩, ⟨0, [], .v (.agg ((kd_Config).cells x0 sv0).toArray)⟩, ⟨1, [], .v (.int .i64 a1)⟩], [], [], [((((kd_Config).cells x0 sv0).map EV.v), 29), ((((kd_Chan).cells (rd x0.Chans s1.1) sv_11).map EV.v), 74)], none, none⟩ [] (by kernel_rfl) trivial (fun ns_32 a w_33 hI _ => ?_)
        refine cond_ hI ((a1 == 6)) rfl (fun hc_34 => ?_) (fun hc_34 => ?_)
        · replace H1 := bif_t hc_34 H1
          obtain ⟨t_35, hG_36, H1⟩ := bind_some H1
          obtain ⟨t_37, hG_38, H1⟩ := bind_some H1
          refine region_ (live := [7, 31, 21, 20, 6, 12, 5, 4, 2, 0, 1]) (orc := [[.bool t_35], [.bool t_37]]) hF hI ⟨[⟨7, [], .v (.bool ((!t_35) || (!t_37)))⟩, ⟨31, [], .v (.bool (a1 == 6))⟩, ⟨21, [], .v (.bool (a1 == 5))⟩, ⟨20, [], .v (.int .i64 a1)⟩, ⟨6, [], .p 1 0⟩, ⟨12, [], .v (.bool (decide (s1.1 < (x0.Chans.length : Int))))⟩, ⟨5, [], .v (.int .i64 s1.1)⟩, ⟨4, [], .v (.bool s1.2)⟩, ⟨2, [], .p 0 0⟩, ⟨0, [], .v (.agg ((kd_Config).cells x0 (svL [((sv0 0).1, (sv0 0).2), ((sv0 1).1, (sv0 1).2), ((sv0 2).1, (sv0 2).2), ((sv0 3).1, (sv0 3).2)])).toArray)⟩, ⟨1, [], .v (.int .i64 a1)⟩], [], [], [((((kd_Config).cells x0 sv0).map EV.v), 29), ((((kd_Chan).cells (rd x0.Chans s1.1) sv_11).map EV.v), 74)], none, none⟩ [.call true 86 [.agg ((kd_Config).cells x0 (svL [((sv0 0).1, (sv0 0).2), ((sv0 1).1, (sv0 1).2), ((sv0 2).1, (sv0 2).2), ((sv0 3).1, (sv0 3).2)])).toArray, .int .i64 ((rd x0.Chans s1.1).From)] (.bool t_35), .call (!(!t_35)) 86 [.agg ((kd_Config).cells x0 (svL [((sv0 0).1, (sv0 0).2), ((sv0 1).1, (sv0 1).2), ((sv0 2).1, (sv0 2).2), ((sv0 3).1, (sv0 3).2)])).toArray, .int .i64 ((rd x0.Chans s1.1).To)] (.bool t_37)] (by kernel_rfl) ⟨ob_call (enters Try.func86 (by kernel_rfl) rfl) (fun hg wz hk => G_ref07_part.calls x0 ((rd x0.Chans s1.1).From) (svL [((sv0 0).1, (sv0 0).2), ((sv0 1).1, (sv0 1).2), ((sv0 2).1, (sv0 2).2), ((sv0 3).1, (sv0 3).2)]) wz (S := fun _ => True) (Kd.any _ (Kd.keep kd_Config (contI (S := Lo S w w [] []) (w := w) (d := kd_Config) (x := x0) (sv := (svL [((sv0 0).1, (sv0 0).2), ((sv0 1).1, (sv0 1).2), ((sv0 2).1, (sv0 2).2), ((sv0 3).1, (sv0 3).2)])) ⟨⟨hx0.1.1, hx0.1.2⟩, ⟨hx0.2.1.1, hx0.2.1.2⟩, ⟨hx0.2.2.1.1, hx0.2.2.1.2⟩, ⟨hx0.2.2.2.1.1, hx0.2.2.2.1.2⟩, trivial⟩) (Lo.on hk))) _ hG_36), ob_call (enters Try.func86 (by kernel_rfl) rfl) (fun hg wz hk => G_ref07_part.calls x0 ((rd x0.Chans s1.1).To) (svL [((sv0 0).1, (sv0 0).2), ((sv0 1).1, (sv0 1).2), ((sv0 2).1, (sv0 2).2), ((sv0 3).1, (sv0 3).2)]) wz (S := fun _ => True) (Kd.any _ (Kd.keep kd_Config (contI (S := Lo S w w [] []) (w := w) (d := kd_Config) (x := x0) (sv := (svL [((sv0 0).1, (sv0 0).2), ((sv0 1).1, (sv0 1).2), ((sv0 2).1, (sv0 2).2), ((sv0 3).1, (sv0 3).2)])) ⟨⟨hx0.1.1, hx0.1.2⟩, ⟨hx0.2.1.1, hx0.2.1.2⟩, ⟨hx0.2.2.1.1, hx0.2.2.1.2⟩, ⟨hx0.2.2.2.1.1, hx0.2.2.2.1.2⟩, trivial⟩) (Lo.on hk))) _ (cal_some hG_38 hg)), trivial⟩ (fun ns_39 a w_40 hI _ => ?_)
          refine inBlock_normal ?_
          refine then_normal ?_
          refine seq_region (live := [132, 7, 31, 21, 20, 6, 12, 5, 4, 2, 0, 1]) (orc := []) hF hI ⟨[⟨132, [], .v (.bool ((!t_35) || (!t_37)))⟩, ⟨7, [], .v (.bool ((!t_35) || (!t_37)))⟩, ⟨31, [], .v (.bool (a1 == 6))⟩, ⟨21, [], .v (.bool (a1 == 5))⟩, ⟨20, [], .v (.int .i64 a1)⟩, ⟨6, [], .p 1 0⟩, ⟨12, [], .v (.bool (decide (s1.1 < (x0.Chans.length : Int))))⟩, ⟨5, [], .v (.int .i64 s1.1)⟩, ⟨4, [], .v (.bool s1.2)⟩, ⟨2, [], .p 0 0⟩, ⟨0, [], .v (.agg ((kd_Config).cells x0 (svL [((sv0 0).1, (sv0 0).2), ((sv0 1).1, (sv0 1).2), ((sv0 2).1, (sv0 2).2), ((sv0 3).1, (sv0 3).2)])).toArray)⟩, ⟨1, [], .v (.int .i64 a1)⟩], [], [], [((((kd_Config).cells x0 sv0).map EV.v), 29), ((((kd_Chan).cells (rd x0.Chans s1.1) sv_11).map EV.v), 74)], none, none⟩ [] (by kernel_rfl) trivial (fun ns_41 a w_42 hI _ => ?_)
          refine cond_ hI (((!t_35) || (!t_37))) rfl (fun hc_43 => ?_) (fun hc_43 => ?_)
          · replace H1 := bif_t hc_43 H1
            refine seq_region (live := [4, 132, 7, 31, 21, 20, 6, 12, 5, 2, 0, 1]) (orc := []) hF hI ⟨[⟨4, [], .v (.bool true)⟩, ⟨132, [], .v (.bool ((!t_35) || (!t_37)))⟩, ⟨7, [], .v (.bool ((!t_35) || (!t_37)))⟩, ⟨31, [], .v (.bool (a1 == 6))⟩, ⟨21, [], .v (.bool (a1 == 5))⟩, ⟨20, [], .v (.int .i64 a1)⟩, ⟨6, [], .p 1 0⟩, ⟨12, [], .v (.bool (decide (s1.1 < (x0.Chans.length : Int))))⟩, ⟨5, [], .v (.int .i64 s1.1)⟩, ⟨2, [], .p 0 0⟩, ⟨0, [], .v (.agg ((kd_Config).cells x0 (svL [((sv0 0).1, (sv0 0).2), ((sv0 1).1, (sv0 1).2), ((sv0 2).1, (sv0 2).2), ((sv0 3).1, (sv0 3).2)])).toArray)⟩, ⟨1, [], .v (.int .i64 a1)⟩], [], [], [((((kd_Config).cells x0 sv0).map EV.v), 29), ((((kd_Chan).cells (rd x0.Chans s1.1) sv_11).map EV.v), 74)], none, none⟩ [] (by kernel_rfl) trivial (fun ns_44 a w_45 hI _ => ?_)
            refine wpIn_ret ?_
            refine inBlock_ret ?_
            refine then_ret ?_
            refine then_ret ?_
            obtain rfl := Option.some.inj H1
            refine .inr ⟨_, rfl, fun ho => ?_⟩
            subst ho
            refine inBlock_ret ?_
            refine then_ret ?_
            obtain rfl := Option.some.inj H0
            exact ret1 hI rfl rfl ⟨rfl, hE.below hI⟩
          · replace H1 := bif_f hc_43 H1
            refine wpIn_skip ?_
            refine inBlock_normal ?_
            refine then_normal ?_
            refine region_ (live := [5, 132, 7, 31, 21, 20, 6, 12, 4, 2, 0, 1]) (orc := []) hF hI ⟨[⟨5, [], .v (.int .i64 (IntKind.i64.wrap (s1.1 + 1)))⟩, ⟨132, [], .v (.bool ((!t_35) || (!t_37)))⟩, ⟨7, [], .v (.bool ((!t_35) || (!t_37)))⟩, ⟨31, [], .v (.bool (a1 == 6))⟩, ⟨21, [], .v (.bool (a1 == 5))⟩, ⟨20, [], .v (.int .i64 a1)⟩, ⟨6, [], .p 1 0⟩, ⟨12, [], .v (.bool (decide (s1.1 < (x0.Chans.length : Int))))⟩, ⟨4, [], .v (.bool s1.2)⟩, ⟨2, [], .p 0 0⟩, ⟨0, [], .v (.agg ((kd_Config).cells x0 (svL [((sv0 0).1, (sv0 0).2), ((sv0 1).1, (sv0 1).2), ((sv0 2).1, (sv0 2).2), ((sv0 3).1, (sv0 3).2)])).toArray)⟩, ⟨1, [], .v (.int .i64 a1)⟩], [], [], [((((kd_Config).cells x0 sv0).map EV.v), 29), ((((kd_Chan).cells (rd x0.Chans s1.1) sv_11).map EV.v), 74)], none, none⟩ [] (by kernel_rfl) trivial (fun ns_46 a w_47 hI _ => ?_)
            refine then_normal ?_
            obtain rfl := Option.some.inj H1
            exact ⟨_, rfl, ⟨_, hI.pick [5, 4, 2, 0, 1] 1 ⟨[⟨5, [], .v (.int .i64 (IntKind.i64.wrap (s1.1 + 1)))⟩, ⟨4, [], .v (.bool s1.2)⟩, ⟨2, [], .p 0 0⟩, ⟨0, [], .v (.agg ((kd_Config).cells x0 (svL [((sv0 0).1, (sv0 0).2), ((sv0 1).1, (sv0 1).2), ((sv0 2).1, (sv0 2).2), ((sv0 3).1, (sv0 3).2)])).toArray)⟩, ⟨1, [], .v (.int .i64 a1)⟩], [], [], [((((kd_Config).cells x0 sv0).map EV.v), 29)], none, none⟩ (by kernel_rfl)⟩⟩
        · replace H1 := bif_f hc_34 H1
          refine seq_region (live := [45, 31, 21, 20, 7, 6, 12, 5, 4, 2, 0, 1]) (orc := []) hF hI ⟨[⟨45, [], .v (.bool (a1 == 7))⟩, ⟨31, [], .v (.bool (a1 == 6))⟩, ⟨21, [], .v (.bool (a1 == 5))⟩, ⟨20, [], .v (.int .i64 a1)⟩, ⟨7, [], .v (.bool false)⟩, ⟨6, [], .p 1 0⟩, ⟨12, [], .v (.bool (decide (s1.1 < (x0.Chans.length : Int))))⟩, ⟨5, [], .v (.int .i64 s1.1)⟩, ⟨4, [], .v (.bool s1.2)⟩, ⟨2, [], .p 0 0⟩, ⟨0, [], .v (.agg ((kd_Config).cells x0 (svL [((sv0 0).1, (sv0 0).2), ((sv0 1).1, (sv0 1).2), ((sv0 2).1, (sv0 2).2), ((sv0 3).1, (sv0 3).2)])).toArray)⟩, ⟨1, [], .v (.int .i64 a1)⟩], [], [], [((((kd_Config).cells x0 sv0).map EV.v), 29), ((((kd_Chan).cells (rd x0.Chans s1.1) sv_11).map EV.v), 74)], none, none⟩ [] (by kernel_rfl) trivial (fun ns_48 a w_49 hI _ => ?_)
          refine cond_ hI ((a1 == 7)) rfl (fun hc_50 => ?_) (fun hc_50 => ?_)
          · replace H1 := bif_t hc_50 H1
            refine region_ (live := [7, 45, 31, 21, 20, 6, 12, 5, 4, 2, 0, 1]) (orc := []) hF hI ⟨[⟨7, [], .v (.bool (((rd x0.Chans s1.1).From) == ((rd x0.Chans s1.1).To)))⟩, ⟨45, [], .v (.bool (a1 == 7))⟩, ⟨31, [], .v (.bool (a1 == 6))⟩, ⟨21, [], .v (.bool (a1 == 5))⟩, ⟨20, [], .v (.int .i64 a1)⟩, ⟨6, [], .p 1 0⟩, ⟨12, [], .v (.bool (decide (s1.1 < (x0.Chans.length : Int))))⟩, ⟨5, [], .v (.int .i64 s1.1)⟩, ⟨4, [], .v (.bool s1.2)⟩, ⟨2, [], .p 0 0⟩, ⟨0, [], .v (.agg ((kd_Config).cells x0 (svL [((sv0 0).1, (sv0 0).2), ((sv0 1).1, (sv0 1).2), ((sv0 2).1, (sv0 2).2), ((sv0 3).1, (sv0 3).2)])).toArray)⟩, ⟨1, [], .v (.int .i64 a1)⟩], [], [], [((((kd_Config).cells x0 sv0).map EV.v), 29), ((((kd_Chan).cells (rd x0.Chans s1.1) sv_11).map EV.v), 74)], none, none⟩ [] (by kernel_rfl) trivial (fun ns_51 a w_52 hI _ => ?_)
            refine inBlock_normal ?_
            refine then_normal ?_
            refine seq_region (live := [132, 7, 45, 31, 21, 20, 6, 12, 5, 4, 2, 0, 1]) (orc := []) hF hI ⟨[⟨132, [], .v (.bool (((rd x0.Chans s1.1).From) == ((rd x0.Chans s1.1).To)))⟩, ⟨7, [], .v (.bool (((rd x0.Chans s1.1).From) == ((rd x0.Chans s1.1).To)))⟩, ⟨45, [], .v (.bool (a1 == 7))⟩, ⟨31, [], .v (.bool (a1 == 6))⟩, ⟨21, [], .v (.bool (a1 == 5))⟩, ⟨20, [], .v (.int .i64 a1)⟩, ⟨6, [], .p 1 0⟩, ⟨12, [], .v (.bool (decide (s1.1 < (x0.Chans.length : Int))))⟩, ⟨5, [], .v (.int .i64 s1.1)⟩, ⟨4, [], .v (.bool s1.2)⟩, ⟨2, [], .p 0 0⟩, ⟨0, [], .v (.agg ((kd_Config).cells x0 (svL [((sv0 0).1, (sv0 0).2), ((sv0 1).1, (sv0 1).2), ((sv0 2).1, (sv0 2).2), ((sv0 3).1, (sv0 3).2)])).toArray)⟩, ⟨1, [], .v (.int .i64 a1)⟩], [], [], [((((kd_Config).cells x0 sv0).map EV.v), 29), ((((kd_Chan).cells (rd x0.Chans s1.1) sv_11).map EV.v), 74)], none, none⟩ [] (by kernel_rfl) trivial (fun ns_53 a w_54 hI _ => ?_)
            refine cond_ hI ((((rd x0.Chans s1.1).From) == ((rd x0.Chans s1.1).To))) rfl (fun hc_55 => ?_) (fun hc_55 => ?_)
            · replace H1 := bif_t hc_55 H1
              refine seq_region (live := [4, 132, 7, 45, 31, 21, 20, 6, 12, 5, 2, 0, 1]) (orc := []) hF hI ⟨[⟨4, [], .v (.bool true)⟩, ⟨132, [], .v (.bool (((rd x0.Chans s1.1).From) == ((rd x0.Chans s1.1).To)))⟩, ⟨7, [], .v (.bool (((rd x0.Chans s1.1).From) == ((rd x0.Chans s1.1).To)))⟩, ⟨45, [], .v (.bool (a1 == 7))⟩, ⟨31, [], .v (.bool (a1 == 6))⟩, ⟨21, [], .v (.bool (a1 == 5))⟩, ⟨20, [], .v (.int .i64 a1)⟩, ⟨6, [], .p 1 0⟩, ⟨12, [], .v (.bool (decide (s1.1 < (x0.Chans.length : Int))))⟩, ⟨5, [], .v (.int .i64 s1.1)⟩, ⟨2, [], .p 0 0⟩, ⟨0, [], .v (.agg ((kd_Config).cells x0 (svL [((sv0 0).1, (sv0 0).2), ((sv0 1).1, (sv0 1).2), ((sv0 2).1, (sv0 2).2), ((sv0 3).1, (sv0 3).2)])).toArray)⟩, ⟨1, [], .v (.int .i64 a1)⟩], [], [], [((((kd_Config).cells x0 sv0).map EV.v), 29), ((((kd_Chan).cells (rd x0.Chans s1.1) sv_11).map EV.v), 74)], none, none⟩ [] (by kernel_rfl) trivial (fun ns_56 a w_57 hI _ => ?_)
              refine wpIn_ret ?_
              refine inBlock_ret ?_
              refine then_ret ?_
              refine then_ret ?_
              obtain rfl := Option.some.inj H1
              refine .inr ⟨_, rfl, fun ho => ?_⟩
              subst ho
              refine inBlock_ret ?_
              refine then_ret ?_
              obtain rfl := Option.some.inj H0
              exact ret1 hI rfl rfl ⟨rfl, hE.below hI⟩
            · replace H1 := bif_f hc_55 H1
              refine wpIn_skip ?_
              refine inBlock_normal ?_
              refine then_normal ?_
              refine region_ (live := [5, 132, 7, 45, 31, 21, 20, 6, 12, 4, 2, 0, 1]) (orc := []) hF hI ⟨[⟨5, [], .v (.int .i64 (IntKind.i64.wrap (s1.1 + 1)))⟩, ⟨132, [], .v (.bool (((rd x0.Chans s1.1).From) == ((rd x0.Chans s1.1).To)))⟩, ⟨7, [], .v (.bool (((rd x0.Chans s1.1).From) == ((rd x0.Chans s1.1).To)))⟩, ⟨45, [], .v (.bool (a1 == 7))⟩, ⟨31, [], .v (.bool (a1 == 6))⟩, ⟨21, [], .v (.bool (a1 == 5))⟩, ⟨20, [], .v (.int .i64 a1)⟩, ⟨6, [], .p 1 0⟩, ⟨12, [], .v (.bool (decide (s1.1 < (x0.Chans.length : Int))))⟩, ⟨4, [], .v (.bool s1.2)⟩, ⟨2, [], .p 0 0⟩, ⟨0, [], .v (.agg ((kd_Config).cells x0 (svL [((sv0 0).1, (sv0 0).2), ((sv0 1).1, (sv0 1).2), ((sv0 2).1, (sv0 2).2), ((sv0 3).1, (sv0 3).2)])).toArray)⟩, ⟨1, [], .v (.int .i64 a1)⟩], [], [], [((((kd_Config).cells x0 sv0).map EV.v), 29), ((((kd_Chan).cells (rd x0.Chans s1.1) sv_11).map EV.v), 74)], none, none⟩ [] (by kernel_rfl) trivial (fun ns_58 a w_59 hI _ => ?_)
              refine then_normal ?_
              obtain rfl := Option.some.inj H1
              exact ⟨_, rfl, ⟨_, hI.pick [5, 4, 2, 0, 1] 1 ⟨[⟨5, [], .v (.int .i64 (IntKind.i64.wrap (s1.1 + 1)))⟩, ⟨4, [], .v (.bool s1.2)⟩, ⟨2, [], .p 0 0⟩, ⟨0, [], .v (.agg ((kd_Config).cells x0 (svL [((sv0 0).1, (sv0 0).2), ((sv0 1).1, (sv0 1).2), ((sv0 2).1, (sv0 2).2), ((sv0 3).1, (sv0 3).2)])).toArray)⟩, ⟨1, [], .v (.int .i64 a1)⟩], [], [], [((((kd_Config).cells x0 sv0).map EV.v), 29)], none, none⟩ (by kernel_rfl)⟩⟩
          · replace H1 := bif_f hc_50 H1
            refine seq_region (live := [52, 45, 31, 21, 20, 7, 6, 12, 5, 4, 2, 0, 1]) (orc := []) hF hI ⟨[⟨52, [], .v (.bool (a1 == 8))⟩, ⟨45, [], .v (.bool (a1 == 7))⟩, ⟨31, [], .v (.bool (a1 == 6))⟩, ⟨21, [], .v (.bool (a1 == 5))⟩, ⟨20, [], .v (.int .i64 a1)⟩, ⟨7, [], .v (.bool false)⟩, ⟨6, [], .p 1 0⟩, ⟨12, [], .v (.bool (decide (s1.1 < (x0.Chans.length : Int))))⟩, ⟨5, [], .v (.int .i64 s1.1)⟩, ⟨4, [], .v (.bool s1.2)⟩, ⟨2, [], .p 0 0⟩, ⟨0, [], .v (.agg ((kd_Config).cells x0 (svL [((sv0 0).1, (sv0 0).2), ((sv0 1).1, (sv0 1).2), ((sv0 2).1, (sv0 2).2), ((sv0 3).1, (sv0 3).2)])).toArray)⟩, ⟨1, [], .v (.int .i64 a1)⟩], [], [], [((((kd_Config).cells x0 sv0).map EV.v), 29), ((((kd_Chan).cells (rd x0.Chans s1.1) sv_11).map EV.v), 74)], none, none⟩ [] (by kernel_rfl) trivial (fun ns_60 a w_61 hI _ => ?_)
            refine cond_ hI ((a1 == 8)) rfl (fun hc_62 => ?_) (fun hc_62 => ?_)
            · replace H1 := bif_t hc_62 H1
              refine region_ (live := [7, 52, 45, 31, 21, 20, 6, 12, 5, 4, 2, 0, 1]) (orc := []) hF hI ⟨[⟨7, [], .v (.bool (decide (((rd x0.Chans s1.1).Words) < 1) || decide (((rd x0.Chans s1.1).Words) > 16)))⟩, ⟨52, [], .v (.bool (a1 == 8))⟩, ⟨45, [], .v (.bool (a1 == 7))⟩, ⟨31, [], .v (.bool (a1 == 6))⟩, ⟨21, [], .v (.bool (a1 == 5))⟩, ⟨20, [], .v (.int .i64 a1)⟩, ⟨6, [], .p 1 0⟩, ⟨12, [], .v (.bool (decide (s1.1 < (x0.Chans.length : Int))))⟩, ⟨5, [], .v (.int .i64 s1.1)⟩, ⟨4, [], .v (.bool s1.2)⟩, ⟨2, [], .p 0 0⟩, ⟨0, [], .v (.agg ((kd_Config).cells x0 (svL [((sv0 0).1, (sv0 0).2), ((sv0 1).1, (sv0 1).2), ((sv0 2).1, (sv0 2).2), ((sv0 3).1, (sv0 3).2)])).toArray)⟩, ⟨1, [], .v (.int .i64 a1)⟩], [], [], [((((kd_Config).cells x0 sv0).map EV.v), 29), ((((kd_Chan).cells (rd x0.Chans s1.1) sv_11).map EV.v), 74)], none, none⟩ [] (by kernel_rfl) trivial (fun ns_63 a w_64 hI _ => ?_)
              refine inBlock_normal ?_
              refine then_normal ?_
              refine seq_region (live := [132, 7, 52, 45, 31, 21, 20, 6, 12, 5, 4, 2, 0, 1]) (orc := []) hF hI ⟨[⟨132, [], .v (.bool (decide (((rd x0.Chans s1.1).Words) < 1) || decide (((rd x0.Chans s1.1).Words) > 16)))⟩, ⟨7, [], .v (.bool (decide (((rd x0.Chans s1.1).Words) < 1) || decide (((rd x0.Chans s1.1).Words) > 16)))⟩, ⟨52, [], .v (.bool (a1 == 8))⟩, ⟨45, [], .v (.bool (a1 == 7))⟩, ⟨31, [], .v (.bool (a1 == 6))⟩, ⟨21, [], .v (.bool (a1 == 5))⟩, ⟨20, [], .v (.int .i64 a1)⟩, ⟨6, [], .p 1 0⟩, ⟨12, [], .v (.bool (decide (s1.1 < (x0.Chans.length : Int))))⟩, ⟨5, [], .v (.int .i64 s1.1)⟩, ⟨4, [], .v (.bool s1.2)⟩, ⟨2, [], .p 0 0⟩, ⟨0, [], .v (.agg ((kd_Config).cells x0 (svL [((sv0 0).1, (sv0 0).2), ((sv0 1).1, (sv0 1).2), ((sv0 2).1, (sv0 2).2), ((sv0 3).1, (sv0 3).2)])).toArray)⟩, ⟨1, [], .v (.int .i64 a1)⟩], [], [], [((((kd_Config).cells x0 sv0).map EV.v), 29), ((((kd_Chan).cells (rd x0.Chans s1.1) sv_11).map EV.v), 74)], none, none⟩ [] (by kernel_rfl) trivial (fun ns_65 a w_66 hI _ => ?_)
              refine cond_ hI ((decide (((rd x0.Chans s1.1).Words) < 1) || decide (((rd x0.Chans s1.1).Words) > 16))) rfl (fun hc_67 => ?_) (fun hc_67 => ?_)
              · replace H1 := bif_t hc_67 H1
                refine seq_region (live := [4, 132, 7, 52, 45, 31, 21, 20, 6, 12, 5, 2, 0, 1]) (orc := []) hF hI ⟨[⟨4, [], .v (.bool true)⟩, ⟨132, [], .v (.bool (decide (((rd x0.Chans s1.1).Words) < 1) || decide (((rd x0.Chans s1.1).Words) > 16)))⟩, ⟨7, [], .v (.bool (decide (((rd x0.Chans s1.1).Words) < 1) || decide (((rd x0.Chans s1.1).Words) > 16)))⟩, ⟨52, [], .v (.bool (a1 == 8))⟩, ⟨45, [], .v (.bool (a1 == 7))⟩, ⟨31, [], .v (.bool (a1 == 6))⟩, ⟨21, [], .v (.bool (a1 == 5))⟩, ⟨20, [], .v (.int .i64 a1)⟩, ⟨6, [], .p 1 0⟩, ⟨12, [], .v (.bool (decide (s1.1 < (x0.Chans.length : Int))))⟩, ⟨5, [], .v (.int .i64 s1.1)⟩, ⟨2, [], .p 0 0⟩, ⟨0, [], .v (.agg ((kd_Config).cells x0 (svL [((sv0 0).1, (sv0 0).2), ((sv0 1).1, (sv0 1).2), ((sv0 2).1, (sv0 2).2), ((sv0 3).1, (sv0 3).2)])).toArray)⟩, ⟨1, [], .v (.int .i64 a1)⟩], [], [], [((((kd_Config).cells x0 sv0).map EV.v), 29), ((((kd_Chan).cells (rd x0.Chans s1.1) sv_11).map EV.v), 74)], none, none⟩ [] (by kernel_rfl) trivial (fun ns_68 a w_69 hI _ => ?_)
                refine wpIn_ret ?_
                refine inBlock_ret ?_
                refine then_ret ?_
                refine then_ret ?_
                obtain rfl := Option.some.inj H1
                refine .inr ⟨_, rfl, fun ho => ?_⟩
                subst ho
                refine inBlock_ret ?_
                refine then_ret ?_
                obtain rfl := Option.some.inj H0
                exact ret1 hI rfl rfl ⟨rfl, hE.below hI⟩
              · replace H1 := bif_f hc_67 H1
                refine wpIn_skip ?_
                refine inBlock_normal ?_
                refine then_normal ?_
                refine region_ (live := [5, 132, 7, 52, 45, 31, 21, 20, 6, 12, 4, 2, 0, 1]) (orc := []) hF hI ⟨[⟨5, [], .v (.int .i64 (IntKind.i64.wrap (s1.1 + 1)))⟩, ⟨132, [], .v (.bool (decide (((rd x0.Chans s1.1).Words) < 1) || decide (((rd x0.Chans s1.1).Words) > 16)))⟩, ⟨7, [], .v (.bool (decide (((rd x0.Chans s1.1).Words) < 1) || decide (((rd x0.Chans s1.1).Words) > 16)))⟩, ⟨52, [], .v (.bool (a1 == 8))⟩, ⟨45, [], .v (.bool (a1 == 7))⟩, ⟨31, [], .v (.bool (a1 == 6))⟩, ⟨21, [], .v (.bool (a1 == 5))⟩, ⟨20, [], .v (.int .i64 a1)⟩, ⟨6, [], .p 1 0⟩, ⟨12, [], .v (.bool (decide (s1.1 < (x0.Chans.length : Int))))⟩, ⟨4, [], .v (.bool s1.2)⟩, ⟨2, [], .p 0 0⟩, ⟨0, [], .v (.agg ((kd_Config).cells x0 (svL [((sv0 0).1, (sv0 0).2), ((sv0 1).1, (sv0 1).2), ((sv0 2).1, (sv0 2).2), ((sv0 3).1, (sv0 3).2)])).toArray)⟩, ⟨1, [], .v (.int .i64 a1)⟩], [], [], [((((kd_Config).cells x0 sv0).map EV.v), 29), ((((kd_Chan).cells (rd x0.Chans s1.1) sv_11).map EV.v), 74)], none, none⟩ [] (by kernel_rfl) trivial (fun ns_70 a w_71 hI _ => ?_)
                refine then_normal ?_
                obtain rfl := Option.some.inj H1
                exact ⟨_, rfl, ⟨_, hI.pick [5, 4, 2, 0, 1] 1 ⟨[⟨5, [], .v (.int .i64 (IntKind.i64.wrap (s1.1 + 1)))⟩, ⟨4, [], .v (.bool s1.2)⟩, ⟨2, [], .p 0 0⟩, ⟨0, [], .v (.agg ((kd_Config).cells x0 (svL [((sv0 0).1, (sv0 0).2), ((sv0 1).1, (sv0 1).2), ((sv0 2).1, (sv0 2).2), ((sv0 3).1, (sv0 3).2)])).toArray)⟩, ⟨1, [], .v (.int .i64 a1)⟩], [], [], [((((kd_Config).cells x0 sv0).map EV.v), 29)], none, none⟩ (by kernel_rfl)⟩⟩
            · replace H1 := bif_f hc_62 H1
              refine seq_region (live := [62, 52, 45, 31, 21, 20, 7, 6, 12, 5, 4, 2, 0, 1]) (orc := []) hF hI ⟨[⟨62, [], .v (.bool (a1 == 9))⟩, ⟨52, [], .v (.bool (a1 == 8))⟩, ⟨45, [], .v (.bool (a1 == 7))⟩, ⟨31, [], .v (.bool (a1 == 6))⟩, ⟨21, [], .v (.bool (a1 == 5))⟩, ⟨20, [], .v (.int .i64 a1)⟩, ⟨7, [], .v (.bool false)⟩, ⟨6, [], .p 1 0⟩, ⟨12, [], .v (.bool (decide (s1.1 < (x0.Chans.length : Int))))⟩, ⟨5, [], .v (.int .i64 s1.1)⟩, ⟨4, [], .v (.bool s1.2)⟩, ⟨2, [], .p 0 0⟩, ⟨0, [], .v (.agg ((kd_Config).cells x0 (svL [((sv0 0).1, (sv0 0).2), ((sv0 1).1, (sv0 1).2), ((sv0 2).1, (sv0 2).2), ((sv0 3).1, (sv0 3).2)])).toArray)⟩, ⟨1, [], .v (.int .i64 a1)⟩], [], [], [((((kd_Config).cells x0 sv0).map EV.v), 29), ((((kd_Chan).cells (rd x0.Chans s1.1) sv_11).map EV.v), 74)], none, none⟩ [] (by kernel_rfl) trivial (fun ns_72 a w_73 hI _ => ?_)
              refine cond_ hI ((a1 == 9)) rfl (fun hc_74 => ?_) (fun hc_74 => ?_)
              · replace H1 := bif_t hc_74 H1
                refine region_ (live := [7, 62, 52, 45, 31, 21, 20, 6, 12, 5, 4, 2, 0, 1]) (orc := []) hF hI ⟨[⟨7, [], .v (.bool (((((rd x0.Chans s1.1).Kind) == 1) && (((rd x0.Chans s1.1).Depth) != 0)) || (((((((rd x0.Chans s1.1).Kind) == 2) && (((rd x0.Chans s1.1).Depth) != 1)) && (((rd x0.Chans s1.1).Depth) != 2)) && (((rd x0.Chans s1.1).Depth) != 4)) && (((rd x0.Chans s1.1).Depth) != 8))))⟩, ⟨62, [], .v (.bool (a1 == 9))⟩, ⟨52, [], .v (.bool (a1 == 8))⟩, ⟨45, [], .v (.bool (a1 == 7))⟩, ⟨31, [], .v (.bool (a1 == 6))⟩, ⟨21, [], .v (.bool (a1 == 5))⟩, ⟨20, [], .v (.int .i64 a1)⟩, ⟨6, [], .p 1 0⟩, ⟨12, [], .v (.bool (decide (s1.1 < (x0.Chans.length : Int))))⟩, ⟨5, [], .v (.int .i64 s1.1)⟩, ⟨4, [], .v (.bool s1.2)⟩, ⟨2, [], .p 0 0⟩, ⟨0, [], .v (.agg ((kd_Config).cells x0 (svL [((sv0 0).1, (sv0 0).2), ((sv0 1).1, (sv0 1).2), ((sv0 2).1, (sv0 2).2), ((sv0 3).1, (sv0 3).2)])).toArray)⟩, ⟨1, [], .v (.int .i64 a1)⟩], [], [], [((((kd_Config).cells x0 sv0).map EV.v), 29), ((((kd_Chan).cells (rd x0.Chans s1.1) sv_11).map EV.v), 74)], none, none⟩ [] (by kernel_rfl) trivial (fun ns_75 a w_76 hI _ => ?_)
                refine inBlock_normal ?_
                refine then_normal ?_
                refine seq_region (live := [132, 7, 62, 52, 45, 31, 21, 20, 6, 12, 5, 4, 2, 0, 1]) (orc := []) hF hI ⟨[⟨132, [], .v (.bool (((((rd x0.Chans s1.1).Kind) == 1) && (((rd x0.Chans s1.1).Depth) != 0)) || (((((((rd x0.Chans s1.1).Kind) == 2) && (((rd x0.Chans s1.1).Depth) != 1)) && (((rd x0.Chans s1.1).Depth) != 2)) && (((rd x0.Chans s1.1).Depth) != 4)) && (((rd x0.Chans s1.1).Depth) != 8))))⟩, ⟨7, [], .v (.bool (((((rd x0.Chans s1.1).Kind) == 1) && (((rd x0.Chans s1.1).Depth) != 0)) || (((((((rd x0.Chans s1.1).Kind) == 2) && (((rd x0.Chans s1.1).Depth) != 1)) && (((rd x0.Chans s1.1).Depth) != 2)) && (((rd x0.Chans s1.1).Depth) != 4)) && (((rd x0.Chans s1.1).Depth) != 8))))⟩, ⟨62, [], .v (.bool (a1 == 9))⟩, ⟨52, [], .v (.bool (a1 == 8))⟩, ⟨45, [], .v (.bool (a1 == 7))⟩, ⟨31, [], .v (.bool (a1 == 6))⟩, ⟨21, [], .v (.bool (a1 == 5))⟩, ⟨20, [], .v (.int .i64 a1)⟩, ⟨6, [], .p 1 0⟩, ⟨12, [], .v (.bool (decide (s1.1 < (x0.Chans.length : Int))))⟩, ⟨5, [], .v (.int .i64 s1.1)⟩, ⟨4, [], .v (.bool s1.2)⟩, ⟨2, [], .p 0 0⟩, ⟨0, [], .v (.agg ((kd_Config).cells x0 (svL [((sv0 0).1, (sv0 0).2), ((sv0 1).1, (sv0 1).2), ((sv0 2).1, (sv0 2).2), ((sv0 3).1, (sv0 3).2)])).toArray)⟩, ⟨1, [], .v (.int .i64 a1)⟩], [], [], [((((kd_Config).cells x0 sv0).map EV.v), 29), ((((kd_Chan).cells (rd x0.Chans s1.1) sv_11).map EV.v), 74)], none, none⟩ [] (by kernel_rfl) trivial (fun ns_77 a w_78 hI _ => ?_)
                refine cond_ hI ((((((rd x0.Chans s1.1).Kind) == 1) && (((rd x0.Chans s1.1).Depth) != 0)) || (((((((rd x0.Chans s1.1).Kind) == 2) && (((rd x0.Chans s1.1).Depth) != 1)) && (((rd x0.Chans s1.1).Depth) != 2)) && (((rd x0.Chans s1.1).Depth) != 4)) && (((rd x0.Chans s1.1).Depth) != 8)))) rfl (fun hc_79 => ?_) (fun hc_79 => ?_)
                · replace H1 := bif_t hc_79 H1
                  refine seq_region (live := [4, 132, 7, 62, 52, 45, 31, 21, 20, 6, 12, 5, 2, 0, 1]) (orc := []) hF hI ⟨[⟨4, [], .v (.bool true)⟩, ⟨132, [], .v (.bool (((((rd x0.Chans s1.1).Kind) == 1) && (((rd x0.Chans s1.1).Depth) != 0)) || (((((((rd x0.Chans s1.1).Kind) == 2) && (((rd x0.Chans s1.1).Depth) != 1)) && (((rd x0.Chans s1.1).Depth) != 2)) && (((rd x0.Chans s1.1).Depth) != 4)) && (((rd x0.Chans s1.1).Depth) != 8))))⟩, ⟨7, [], .v (.bool (((((rd x0.Chans s1.1).Kind) == 1) && (((rd x0.Chans s1.1).Depth) != 0)) || (((((((rd x0.Chans s1.1).Kind) == 2) && (((rd x0.Chans s1.1).Depth) != 1)) && (((rd x0.Chans s1.1).Depth) != 2)) && (((rd x0.Chans s1.1).Depth) != 4)) && (((rd x0.Chans s1.1).Depth) != 8))))⟩, ⟨62, [], .v (.bool (a1 == 9))⟩, ⟨52, [], .v (.bool (a1 == 8))⟩, ⟨45, [], .v (.bool (a1 == 7))⟩, ⟨31, [], .v (.bool (a1 == 6))⟩, ⟨21, [], .v (.bool (a1 == 5))⟩, ⟨20, [], .v (.int .i64 a1)⟩, ⟨6, [], .p 1 0⟩, ⟨12, [], .v (.bool (decide (s1.1 < (x0.Chans.length : Int))))⟩, ⟨5, [], .v (.int .i64 s1.1)⟩, ⟨2, [], .p 0 0⟩, ⟨0, [], .v (.agg ((kd_Config).cells x0 (svL [((sv0 0).1, (sv0 0).2), ((sv0 1).1, (sv0 1).2), ((sv0 2).1, (sv0 2).2), ((sv0 3).1, (sv0 3).2)])).toArray)⟩, ⟨1, [], .v (.int .i64 a1)⟩], [], [], [((((kd_Config).cells x0 sv0).map EV.v), 29), ((((kd_Chan).cells (rd x0.Chans s1.1) sv_11).map EV.v), 74)], none, none⟩ [] (by kernel_rfl) trivial (fun ns_80 a w_81 hI _ => ?_)
                  refine wpIn_ret ?_
                  refine inBlock_ret ?_
                  refine then_ret ?_
                  refine then_ret ?_
                  obtain rfl := Option.some.inj H1
                  refine .inr ⟨_, rfl, fun ho => ?_⟩
                  subst ho
                  refine inBlock_ret ?_
                  refine then_ret ?_
                  obtain rfl := Option.some.inj H0
                  exact ret1 hI rfl rfl ⟨rfl, hE.below hI⟩
                · replace H1 := bif_f hc_79 H1
                  refine wpIn_skip ?_
                  refine inBlock_normal ?_
                  refine then_normal ?_
                  refine region_ (live := [5, 132, 7, 62, 52, 45, 31, 21, 20, 6, 12, 4, 2, 0, 1]) (orc := []) hF hI ⟨[⟨5, [], .v (.int .i64 (IntKind.i64.wrap (s1.1 + 1)))⟩, ⟨132, [], .v (.bool (((((rd x0.Chans s1.1).Kind) == 1) && (((rd x0.Chans s1.1).Depth) != 0)) || (((((((rd x0.Chans s1.1).Kind) == 2) && (((rd x0.Chans s1.1).Depth) != 1)) && (((rd x0.Chans s1.1).Depth) != 2)) && (((rd x0.Chans s1.1).Depth) != 4)) && (((rd x0.Chans s1.1).Depth) != 8))))⟩, ⟨7, [], .v (.bool (((((rd x0.Chans s1.1).Kind) == 1) && (((rd x0.Chans s1.1).Depth) != 0)) || (((((((rd x0.Chans s1.1).Kind) == 2) && (((rd x0.Chans s1.1).Depth) != 1)) && (((rd x0.Chans s1.1).Depth) != 2)) && (((rd x0.Chans s1.1).Depth) != 4)) && (((rd x0.Chans s1.1).Depth) != 8))))⟩, ⟨62, [], .v (.bool (a1 == 9))⟩, ⟨52, [], .v (.bool (a1 == 8))⟩, ⟨45, [], .v (.bool (a1 == 7))⟩, ⟨31, [], .v (.bool (a1 == 6))⟩, ⟨21, [], .v (.bool (a1 == 5))⟩, ⟨20, [], .v (.int .i64 a1)⟩, ⟨6, [], .p 1 0⟩, ⟨12, [], .v (.bool (decide (s1.1 < (x0.Chans.length : Int))))⟩, ⟨4, [], .v (.bool s1.2)⟩, ⟨2, [], .p 0 0⟩, ⟨0, [], .v (.agg ((kd_Config).cells x0 (svL [((sv0 0).1, (sv0 0).2), ((sv0 1).1, (sv0 1).2), ((sv0 2).1, (sv0 2).2), ((sv0 3).1, (sv0 3).2)])).toArray)⟩, ⟨1, [], .v (.int .i64 a1)⟩], [], [], [((((kd_Config).cells x0 sv0).map EV.v), 29), ((((kd_Chan).cells (rd x0.Chans s1.1) sv_11).map EV.v), 74)], none, none⟩ [] (by kernel_rfl) trivial (fun ns_82 a w_83 hI _ => ?_)
                  refine then_normal ?_
                  obtain rfl := Option.some.inj H1
                  exact ⟨_, rfl, ⟨_, hI.pick [5, 4, 2, 0, 1] 1 ⟨[⟨5, [], .v (.int .i64 (IntKind.i64.wrap (s1.1 + 1)))⟩, ⟨4, [], .v (.bool s1.2)⟩, ⟨2, [], .p 0 0⟩, ⟨0, [], .v (.agg ((kd_Config).cells x0 (svL [((sv0 0).1, (sv0 0).2), ((sv0 1).1, (sv0 1).2), ((sv0 2).1, (sv0 2).2), ((sv0 3).1, (sv0 3).2)])).toArray)⟩, ⟨1, [], .v (.int .i64 a1)⟩], [], [], [((((kd_Config).cells x0 sv0).map EV.v), 29)], none, none⟩ (by kernel_rfl)⟩⟩
              · replace H1 := bif_f hc_74 H1
                refine seq_region (live := [97, 62, 52, 45, 31, 21, 20, 7, 6, 12, 5, 4, 2, 0, 1]) (orc := []) hF hI ⟨[⟨97, [], .v (.bool (a1 == 10))⟩, ⟨62, [], .v (.bool (a1 == 9))⟩, ⟨52, [], .v (.bool (a1 == 8))⟩, ⟨45, [], .v (.bool (a1 == 7))⟩, ⟨31, [], .v (.bool (a1 == 6))⟩, ⟨21, [], .v (.bool (a1 == 5))⟩, ⟨20, [], .v (.int .i64 a1)⟩, ⟨7, [], .v (.bool false)⟩, ⟨6, [], .p 1 0⟩, ⟨12, [], .v (.bool (decide (s1.1 < (x0.Chans.length : Int))))⟩, ⟨5, [], .v (.int .i64 s1.1)⟩, ⟨4, [], .v (.bool s1.2)⟩, ⟨2, [], .p 0 0⟩, ⟨0, [], .v (.agg ((kd_Config).cells x0 (svL [((sv0 0).1, (sv0 0).2), ((sv0 1).1, (sv0 1).2), ((sv0 2).1, (sv0 2).2), ((sv0 3).1, (sv0 3).2)])).toArray)⟩, ⟨1, [], .v (.int .i64 a1)⟩], [], [], [((((kd_Config).cells x0 sv0).map EV.v), 29), ((((kd_Chan).cells (rd x0.Chans s1.1) sv_11).map EV.v), 74)], none, none⟩ [] (by kernel_rfl) trivial (fun ns_84 a w_85 hI _ => ?_)
                refine cond_ hI ((a1 == 10)) rfl (fun hc_86 => ?_) (fun hc_86 => ?_)
                · replace H1 := bif_t hc_86 H1
                  refine region_ (live := [7, 97, 62, 52, 45, 31, 21, 20, 6, 12, 5, 4, 2, 0, 1]) (orc := []) hF hI ⟨[⟨7, [], .v (.bool (((((rd x0.Chans s1.1).Kind) == 1) && (decide (((rd x0.Chans s1.1).Period) < 0) || decide (((rd x0.Chans s1.1).Period) > 1048576))) || ((((rd x0.Chans s1.1).Kind) == 2) && (((rd x0.Chans s1.1).Period) != 0))))⟩, ⟨97, [], .v (.bool (a1 == 10))⟩, ⟨62, [], .v (.bool (a1 == 9))⟩, ⟨52, [], .v (.bool (a1 == 8))⟩, ⟨45, [], .v (.bool (a1 == 7))⟩, ⟨31, [], .v (.bool (a1 == 6))⟩, ⟨21, [], .v (.bool (a1 == 5))⟩, ⟨20, [], .v (.int .i64 a1)⟩, ⟨6, [], .p 1 0⟩, ⟨12, [], .v (.bool (decide (s1.1 < (x0.Chans.length : Int))))⟩, ⟨5, [], .v (.int .i64 s1.1)⟩, ⟨4, [], .v (.bool s1.2)⟩, ⟨2, [], .p 0 0⟩, ⟨0, [], .v (.agg ((kd_Config).cells x0 (svL [((sv0 0).1, (sv0 0).2), ((sv0 1).1, (sv0 1).2), ((sv0 2).1, (sv0 2).2), ((sv0 3).1, (sv0 3).2)])).toArray)⟩, ⟨1, [], .v (.int .i64 a1)⟩], [], [], [((((kd_Config).cells x0 sv0).map EV.v), 29), ((((kd_Chan).cells (rd x0.Chans s1.1) sv_11).map EV.v), 74)], none, none⟩ [] (by kernel_rfl) trivial (fun ns_87 a w_88 hI _ => ?_)
                  refine inBlock_normal ?_
                  refine then_normal ?_
                  refine seq_region (live := [132, 7, 97, 62, 52, 45, 31, 21, 20, 6, 12, 5, 4, 2, 0, 1]) (orc := []) hF hI ⟨[⟨132, [], .v (.bool (((((rd x0.Chans s1.1).Kind) == 1) && (decide (((rd x0.Chans s1.1).Period) < 0) || decide (((rd x0.Chans s1.1).Period) > 1048576))) || ((((rd x0.Chans s1.1).Kind) == 2) && (((rd x0.Chans s1.1).Period) != 0))))⟩, ⟨7, [], .v (.bool (((((rd x0.Chans s1.1).Kind) == 1) && (decide (((rd x0.Chans s1.1).Period) < 0) || decide (((rd x0.Chans s1.1).Period) > 1048576))) || ((((rd x0.Chans s1.1).Kind) == 2) && (((rd x0.Chans s1.1).Period) != 0))))⟩, ⟨97, [], .v (.bool (a1 == 10))⟩, ⟨62, [], .v (.bool (a1 == 9))⟩, ⟨52, [], .v (.bool (a1 == 8))⟩, ⟨45, [], .v (.bool (a1 == 7))⟩, ⟨31, [], .v (.bool (a1 == 6))⟩, ⟨21, [], .v (.bool (a1 == 5))⟩, ⟨20, [], .v (.int .i64 a1)⟩, ⟨6, [], .p 1 0⟩, ⟨12, [], .v (.bool (decide (s1.1 < (x0.Chans.length : Int))))⟩, ⟨5, [], .v (.int .i64 s1.1)⟩, ⟨4, [], .v (.bool s1.2)⟩, ⟨2, [], .p 0 0⟩, ⟨0, [], .v (.agg ((kd_Config).cells x0 (svL [((sv0 0).1, (sv0 0).2), ((sv0 1).1, (sv0 1).2), ((sv0 2).1, (sv0 2).2), ((sv0 3).1, (sv0 3).2)])).toArray)⟩, ⟨1, [], .v (.int .i64 a1)⟩], [], [], [((((kd_Config).cells x0 sv0).map EV.v), 29), ((((kd_Chan).cells (rd x0.Chans s1.1) sv_11).map EV.v), 74)], none, none⟩ [] (by kernel_rfl) trivial (fun ns_89 a w_90 hI _ => ?_)
                  refine cond_ hI ((((((rd x0.Chans s1.1).Kind) == 1) && (decide (((rd x0.Chans s1.1).Period) < 0) || decide (((rd x0.Chans s1.1).Period) > 1048576))) || ((((rd x0.Chans s1.1).Kind) == 2) && (((rd x0.Chans s1.1).Period) != 0)))) rfl (fun hc_91 => ?_) (fun hc_91 => ?_)
                  · replace H1 := bif_t hc_91 H1
                    refine seq_region (live := [4, 132, 7, 97, 62, 52, 45, 31, 21, 20, 6, 12, 5, 2, 0, 1]) (orc := []) hF hI ⟨[⟨4, [], .v (.bool true)⟩, ⟨132, [], .v (.bool (((((rd x0.Chans s1.1).Kind) == 1) && (decide (((rd x0.Chans s1.1).Period) < 0) || decide (((rd x0.Chans s1.1).Period) > 1048576))) || ((((rd x0.Chans s1.1).Kind) == 2) && (((rd x0.Chans s1.1).Period) != 0))))⟩, ⟨7, [], .v (.bool (((((rd x0.Chans s1.1).Kind) == 1) && (decide (((rd x0.Chans s1.1).Period) < 0) || decide (((rd x0.Chans s1.1).Period) > 1048576))) || ((((rd x0.Chans s1.1).Kind) == 2) && (((rd x0.Chans s1.1).Period) != 0))))⟩, ⟨97, [], .v (.bool (a1 == 10))⟩, ⟨62, [], .v (.bool (a1 == 9))⟩, ⟨52, [], .v (.bool (a1 == 8))⟩, ⟨45, [], .v (.bool (a1 == 7))⟩, ⟨31, [], .v (.bool (a1 == 6))⟩, ⟨21, [], .v (.bool (a1 == 5))⟩, ⟨20, [], .v (.int .i64 a1)⟩, ⟨6, [], .p 1 0⟩, ⟨12, [], .v (.bool (decide (s1.1 < (x0.Chans.length : Int))))⟩, ⟨5, [], .v (.int .i64 s1.1)⟩, ⟨2, [], .p 0 0⟩, ⟨0, [], .v (.agg ((kd_Config).cells x0 (svL [((sv0 0).1, (sv0 0).2), ((sv0 1).1, (sv0 1).2), ((sv0 2).1, (sv0 2).2), ((sv0 3).1, (sv0 3).2)])).toArray)⟩, ⟨1, [], .v (.int .i64 a1)⟩], [], [], [((((kd_Config).cells x0 sv0).map EV.v), 29), ((((kd_Chan).cells (rd x0.Chans s1.1) sv_11).map EV.v), 74)], none, none⟩ [] (by kernel_rfl) trivial (fun ns_92 a w_93 hI _ => ?_)
                    refine wpIn_ret ?_
                    refine inBlock_ret ?_
                    refine then_ret ?_
                    refine then_ret ?_
                    obtain rfl := Option.some.inj H1
                    refine .inr ⟨_, rfl, fun ho => ?_⟩
                    subst ho
                    refine inBlock_ret ?_
                    refine then_ret ?_
                    obtain rfl := Option.some.inj H0
                    exact ret1 hI rfl rfl ⟨rfl, hE.below hI⟩
                  · replace H1 := bif_f hc_91 H1
                    refine wpIn_skip ?_
                    refine inBlock_normal ?_
                    refine then_normal ?_
                    refine region_ (live := [5, 132, 7, 97, 62, 52, 45, 31, 21, 20, 6, 12, 4, 2, 0, 1]) (orc := []) hF hI ⟨[⟨5, [], .v (.int .i64 (IntKind.i64.wrap (s1.1 + 1)))⟩, ⟨132, [], .v (.bool (((((rd x0.Chans s1.1).Kind) == 1) && (decide (((rd x0.Chans s1.1).Period) < 0) || decide (((rd x0.Chans s1.1).Period) > 1048576))) || ((((rd x0.Chans s1.1).Kind) == 2) && (((rd x0.Chans s1.1).Period) != 0))))⟩, ⟨7, [], .v (.bool (((((rd x0.Chans s1.1).Kind) == 1) && (decide (((rd x0.Chans s1.1).Period) < 0) || decide (((rd x0.Chans s1.1).Period) > 1048576))) || ((((rd x0.Chans s1.1).Kind) == 2) && (((rd x0.Chans s1.1).Period) != 0))))⟩, ⟨97, [], .v (.bool (a1 == 10))⟩, ⟨62, [], .v (.bool (a1 == 9))⟩, ⟨52, [], .v (.bool (a1 == 8))⟩, ⟨45, [], .v (.bool (a1 == 7))⟩, ⟨31, [], .v (.bool (a1 == 6))⟩, ⟨21, [], .v (.bool (a1 == 5))⟩, ⟨20, [], .v (.int .i64 a1)⟩, ⟨6, [], .p 1 0⟩, ⟨12, [], .v (.bool (decide (s1.1 < (x0.Chans.length : Int))))⟩, ⟨4, [], .v (.bool s1.2)⟩, ⟨2, [], .p 0 0⟩, ⟨0, [], .v (.agg ((kd_Config).cells x0 (svL [((sv0 0).1, (sv0 0).2), ((sv0 1).1, (sv0 1).2), ((sv0 2).1, (sv0 2).2), ((sv0 3).1, (sv0 3).2)])).toArray)⟩, ⟨1, [], .v (.int .i64 a1)⟩], [], [], [((((kd_Config).cells x0 sv0).map EV.v), 29), ((((kd_Chan).cells (rd x0.Chans s1.1) sv_11).map EV.v), 74)], none, none⟩ [] (by kernel_rfl) trivial (fun ns_94 a w_95 hI _ => ?_)
                    refine then_normal ?_
                    obtain rfl := Option.some.inj H1
                    exact ⟨_, rfl, ⟨_, hI.pick [5, 4, 2, 0, 1] 1 ⟨[⟨5, [], .v (.int .i64 (IntKind.i64.wrap (s1.1 + 1)))⟩, ⟨4, [], .v (.bool s1.2)⟩, ⟨2, [], .p 0 0⟩, ⟨0, [], .v (.agg ((kd_Config).cells x0 (svL [((sv0 0).1, (sv0 0).2), ((sv0 1).1, (sv0 1).2), ((sv0 2).1, (sv0 2).2), ((sv0 3).1, (sv0 3).2)])).toArray)⟩, ⟨1, [], .v (.int .i64 a1)⟩], [], [], [((((kd_Config).cells x0 sv0).map EV.v), 29)], none, none⟩ (by kernel_rfl)⟩⟩
                · replace H1 := bif_f hc_86 H1
                  refine seq_region (live := [122, 97, 62, 52, 45, 31, 21, 20, 7, 6, 12, 5, 4, 2, 0, 1]) (orc := []) hF hI ⟨[⟨122, [], .v (.bool (a1 == 11))⟩, ⟨97, [], .v (.bool (a1 == 10))⟩, ⟨62, [], .v (.bool (a1 == 9))⟩, ⟨52, [], .v (.bool (a1 == 8))⟩, ⟨45, [], .v (.bool (a1 == 7))⟩, ⟨31, [], .v (.bool (a1 == 6))⟩, ⟨21, [], .v (.bool (a1 == 5))⟩, ⟨20, [], .v (.int .i64 a1)⟩, ⟨7, [], .v (.bool false)⟩, ⟨6, [], .p 1 0⟩, ⟨12, [], .v (.bool (decide (s1.1 < (x0.Chans.length : Int))))⟩, ⟨5, [], .v (.int .i64 s1.1)⟩, ⟨4, [], .v (.bool s1.2)⟩, ⟨2, [], .p 0 0⟩, ⟨0, [], .v (.agg ((kd_Config).cells x0 (svL [((sv0 0).1, (sv0 0).2), ((sv0 1).1, (sv0 1).2), ((sv0 2).1, (sv0 2).2), ((sv0 3).1, (sv0 3).2)])).toArray)⟩, ⟨1, [], .v (.int .i64 a1)⟩], [], [], [((((kd_Config).cells x0 sv0).map EV.v), 29), ((((kd_Chan).cells (rd x0.Chans s1.1) sv_11).map EV.v), 74)], none, none⟩ [] (by kernel_rfl) trivial (fun ns_96 a w_97 hI _ => ?_)
                  refine cond_merge hI ((a1 == 11)) rfl ⟨[⟨7, [], .v (.bool ((((rd x0.Chans s1.1).Kind) == 1) && (((rd x0.Chans s1.1).Boot) != 0)))⟩, ⟨122, [], .v (.bool (a1 == 11))⟩, ⟨97, [], .v (.bool (a1 == 10))⟩, ⟨62, [], .v (.bool (a1 == 9))⟩, ⟨52, [], .v (.bool (a1 == 8))⟩, ⟨45, [], .v (.bool (a1 == 7))⟩, ⟨31, [], .v (.bool (a1 == 6))⟩, ⟨21, [], .v (.bool (a1 == 5))⟩, ⟨20, [], .v (.int .i64 a1)⟩, ⟨6, [], .p 1 0⟩, ⟨12, [], .v (.bool (decide (s1.1 < (x0.Chans.length : Int))))⟩, ⟨5, [], .v (.int .i64 s1.1)⟩, ⟨4, [], .v (.bool s1.2)⟩, ⟨2, [], .p 0 0⟩, ⟨0, [], .v (.agg ((kd_Config).cells x0 (svL [((sv0 0).1, (sv0 0).2), ((sv0 1).1, (sv0 1).2), ((sv0 2).1, (sv0 2).2), ((sv0 3).1, (sv0 3).2)])).toArray)⟩, ⟨1, [], .v (.int .i64 a1)⟩], [], [], [((((kd_Config).cells x0 sv0).map EV.v), 29), ((((kd_Chan).cells (rd x0.Chans s1.1) sv_11).map EV.v), 74)], none, none⟩ ⟨[⟨7, [], .v (.bool false)⟩, ⟨122, [], .v (.bool (a1 == 11))⟩, ⟨97, [], .v (.bool (a1 == 10))⟩, ⟨62, [], .v (.bool (a1 == 9))⟩, ⟨52, [], .v (.bool (a1 == 8))⟩, ⟨45, [], .v (.bool (a1 == 7))⟩, ⟨31, [], .v (.bool (a1 == 6))⟩, ⟨21, [], .v (.bool (a1 == 5))⟩, ⟨20, [], .v (.int .i64 a1)⟩, ⟨6, [], .p 1 0⟩, ⟨12, [], .v (.bool (decide (s1.1 < (x0.Chans.length : Int))))⟩, ⟨5, [], .v (.int .i64 s1.1)⟩, ⟨4, [], .v (.bool s1.2)⟩, ⟨2, [], .p 0 0⟩, ⟨0, [], .v (.agg ((kd_Config).cells x0 (svL [((sv0 0).1, (sv0 0).2), ((sv0 1).1, (sv0 1).2), ((sv0 2).1, (sv0 2).2), ((sv0 3).1, (sv0 3).2)])).toArray)⟩, ⟨1, [], .v (.int .i64 a1)⟩], [], [], [((((kd_Config).cells x0 sv0).map EV.v), 29), ((((kd_Chan).cells (rd x0.Chans s1.1) sv_11).map EV.v), 74)], none, none⟩ (fun b => ⟨[⟨7, [], .v (.bool (bif b then ((((rd x0.Chans s1.1).Kind) == 1) && (((rd x0.Chans s1.1).Boot) != 0)) else false))⟩, ⟨122, [], .v (.bool (a1 == 11))⟩, ⟨97, [], .v (.bool (a1 == 10))⟩, ⟨62, [], .v (.bool (a1 == 9))⟩, ⟨52, [], .v (.bool (a1 == 8))⟩, ⟨45, [], .v (.bool (a1 == 7))⟩, ⟨31, [], .v (.bool (a1 == 6))⟩, ⟨21, [], .v (.bool (a1 == 5))⟩, ⟨20, [], .v (.int .i64 a1)⟩, ⟨6, [], .p 1 0⟩, ⟨12, [], .v (.bool (decide (s1.1 < (x0.Chans.length : Int))))⟩, ⟨5, [], .v (.int .i64 s1.1)⟩, ⟨4, [], .v (.bool s1.2)⟩, ⟨2, [], .p 0 0⟩, ⟨0, [], .v (.agg ((kd_Config).cells x0 (svL [((sv0 0).1, (sv0 0).2), ((sv0 1).1, (sv0 1).2), ((sv0 2).1, (sv0 2).2), ((sv0 3).1, (sv0 3).2)])).toArray)⟩, ⟨1, [], .v (.int .i64 a1)⟩], [], [], [((((kd_Config).cells x0 sv0).map EV.v), 29), ((((kd_Chan).cells (rd x0.Chans s1.1) sv_11).map EV.v), 74)], none, none⟩) (fun b => by cases b <;> rfl) (fun hc_98 => ?_) (fun hc_98 => ?_) (fun ns_101 a w_102 hI => ?_)
                  · refine region_ (live := [7, 122, 97, 62, 52, 45, 31, 21, 20, 6, 12, 5, 4, 2, 0, 1]) (orc := []) hF hI ⟨[⟨7, [], .v (.bool ((((rd x0.Chans s1.1).Kind) == 1) && (((rd x0.Chans s1.1).Boot) != 0)))⟩, ⟨122, [], .v (.bool (a1 == 11))⟩, ⟨97, [], .v (.bool (a1 == 10))⟩, ⟨62, [], .v (.bool (a1 == 9))⟩, ⟨52, [], .v (.bool (a1 == 8))⟩, ⟨45, [], .v (.bool (a1 == 7))⟩, ⟨31, [], .v (.bool (a1 == 6))⟩, ⟨21, [], .v (.bool (a1 == 5))⟩, ⟨20, [], .v (.int .i64 a1)⟩, ⟨6, [], .p 1 0⟩, ⟨12, [], .v (.bool (decide (s1.1 < (x0.Chans.length : Int))))⟩, ⟨5, [], .v (.int .i64 s1.1)⟩, ⟨4, [], .v (.bool s1.2)⟩, ⟨2, [], .p 0 0⟩, ⟨0, [], .v (.agg ((kd_Config).cells x0 (svL [((sv0 0).1, (sv0 0).2), ((sv0 1).1, (sv0 1).2), ((sv0 2).1, (sv0 2).2), ((sv0 3).1, (sv0 3).2)])).toArray)⟩, ⟨1, [], .v (.int .i64 a1)⟩], [], [], [((((kd_Config).cells x0 sv0).map EV.v), 29), ((((kd_Chan).cells (rd x0.Chans s1.1) sv_11).map EV.v), 74)], none, none⟩ [] (by kernel_rfl) trivial (fun ns_99 a w_100 hI _ => ?_)
                    refine then_normal ?_
                    exact ⟨_, hI.pick [7, 122, 97, 62, 52, 45, 31, 21, 20, 6, 12, 5, 4, 2, 0, 1] 2 ⟨[⟨7, [], .v (.bool ((((rd x0.Chans s1.1).Kind) == 1) && (((rd x0.Chans s1.1).Boot) != 0)))⟩, ⟨122, [], .v (.bool (a1 == 11))⟩, ⟨97, [], .v (.bool (a1 == 10))⟩, ⟨62, [], .v (.bool (a1 == 9))⟩, ⟨52, [], .v (.bool (a1 == 8))⟩, ⟨45, [], .v (.bool (a1 == 7))⟩, ⟨31, [], .v (.bool (a1 == 6))⟩, ⟨21, [], .v (.bool (a1 == 5))⟩, ⟨20, [], .v (.int .i64 a1)⟩, ⟨6, [], .p 1 0⟩, ⟨12, [], .v (.bool (decide (s1.1 < (x0.Chans.length : Int))))⟩, ⟨5, [], .v (.int .i64 s1.1)⟩, ⟨4, [], .v (.bool s1.2)⟩, ⟨2, [], .p 0 0⟩, ⟨0, [], .v (.agg ((kd_Config).cells x0 (svL [((sv0 0).1, (sv0 0).2), ((sv0 1).1, (sv0 1).2), ((sv0 2).1, (sv0 2).2), ((sv0 3).1, (sv0 3).2)])).toArray)⟩, ⟨1, [], .v (.int .i64 a1)⟩], [], [], [((((kd_Config).cells x0 sv0).map EV.v), 29), ((((kd_Chan).cells (rd x0.Chans s1.1) sv_11).map EV.v), 74)], none, none⟩ (by kernel_rfl)⟩
                  · refine wpIn_skip ?_
                    refine then_normal ?_
                    exact ⟨_, hI.pick [7, 122, 97, 62, 52, 45, 31, 21, 20, 6, 12, 5, 4, 2, 0, 1] 2 ⟨[⟨7, [], .v (.bool false)⟩, ⟨122, [], .v (.bool (a1 == 11))⟩, ⟨97, [], .v (.bool (a1 == 10))⟩, ⟨62, [], .v (.bool (a1 == 9))⟩, ⟨52, [], .v (.bool (a1 == 8))⟩, ⟨45, [], .v (.bool (a1 == 7))⟩, ⟨31, [], .v (.bool (a1 == 6))⟩, ⟨21, [], .v (.bool (a1 == 5))⟩, ⟨20, [], .v (.int .i64 a1)⟩, ⟨6, [], .p 1 0⟩, ⟨12, [], .v (.bool (decide (s1.1 < (x0.Chans.length : Int))))⟩, ⟨5, [], .v (.int .i64 s1.1)⟩, ⟨4, [], .v (.bool s1.2)⟩, ⟨2, [], .p 0 0⟩, ⟨0, [], .v (.agg ((kd_Config).cells x0 (svL [((sv0 0).1, (sv0 0).2), ((sv0 1).1, (sv0 1).2), ((sv0 2).1, (sv0 2).2), ((sv0 3).1, (sv0 3).2)])).toArray)⟩, ⟨1, [], .v (.int .i64 a1)⟩], [], [], [((((kd_Config).cells x0 sv0).map EV.v), 29), ((((kd_Chan).cells (rd x0.Chans s1.1) sv_11).map EV.v), 74)], none, none⟩ (by kernel_rfl)⟩
                  · refine inBlock_normal ?_
                    refine then_normal ?_
                    refine seq_region (live := [132, 7, 122, 97, 62, 52, 45, 31, 21, 20, 6, 12, 5, 4, 2, 0, 1]) (orc := []) hF hI ⟨[⟨132, [], .v (.bool (bif (a1 == 11) then ((((rd x0.Chans s1.1).Kind) == 1) && (((rd x0.Chans s1.1).Boot) != 0)) else false))⟩, ⟨7, [], .v (.bool (bif (a1 == 11) then ((((rd x0.Chans s1.1).Kind) == 1) && (((rd x0.Chans s1.1).Boot) != 0)) else false))⟩, ⟨122, [], .v (.bool (a1 == 11))⟩, ⟨97, [], .v (.bool (a1 == 10))⟩, ⟨62, [], .v (.bool (a1 == 9))⟩, ⟨52, [], .v (.bool (a1 == 8))⟩, ⟨45, [], .v (.bool (a1 == 7))⟩, ⟨31, [], .v (.bool (a1 == 6))⟩, ⟨21, [], .v (.bool (a1 == 5))⟩, ⟨20, [], .v (.int .i64 a1)⟩, ⟨6, [], .p 1 0⟩, ⟨12, [], .v (.bool (decide (s1.1 < (x0.Chans.length : Int))))⟩, ⟨5, [], .v (.int .i64 s1.1)⟩, ⟨4, [], .v (.bool s1.2)⟩, ⟨2, [], .p 0 0⟩, ⟨0, [], .v (.agg ((kd_Config).cells x0 (svL [((sv0 0).1, (sv0 0).2), ((sv0 1).1, (sv0 1).2), ((sv0 2).1, (sv0 2).2), ((sv0 3).1, (sv0 3).2)])).toArray)⟩, ⟨1, [], .v (.int .i64 a1)⟩], [], [], [((((kd_Config).cells x0 sv0).map EV.v), 29), ((((kd_Chan).cells (rd x0.Chans s1.1) sv_11).map EV.v), 74)], none, none⟩ [] (by kernel_rfl) trivial (fun ns_115 a w_116 hI _ => ?_)
                    refine cond_ hI ((bif (a1 == 11) then ((((rd x0.Chans s1.1).Kind) == 1) && (((rd x0.Chans s1.1).Boot) != 0)) else false)) rfl (fun hc_117 => ?_) (fun hc_117 => ?_)
                    · replace H1 := bif_t hc_117 H1
                      refine seq_region (live := [4, 132, 7, 122, 97, 62, 52, 45, 31, 21, 20, 6, 12, 5, 2, 0, 1]) (orc := []) hF hI ⟨[⟨4, [], .v (.bool true)⟩, ⟨132, [], .v (.bool (bif (a1 == 11) then ((((rd x0.Chans s1.1).Kind) == 1) && (((rd x0.Chans s1.1).Boot) != 0)) else false))⟩, ⟨7, [], .v (.bool (bif (a1 == 11) then ((((rd x0.Chans s1.1).Kind) == 1) && (((rd x0.Chans s1.1).Boot) != 0)) else false))⟩, ⟨122, [], .v (.bool (a1 == 11))⟩, ⟨97, [], .v (.bool (a1 == 10))⟩, ⟨62, [], .v (.bool (a1 == 9))⟩, ⟨52, [], .v (.bool (a1 == 8))⟩, ⟨45, [], .v (.bool (a1 == 7))⟩, ⟨31, [], .v (.bool (a1 == 6))⟩, ⟨21, [], .v (.bool (a1 == 5))⟩, ⟨20, [], .v (.int .i64 a1)⟩, ⟨6, [], .p 1 0⟩, ⟨12, [], .v (.bool (decide (s1.1 < (x0.Chans.length : Int))))⟩, ⟨5, [], .v (.int .i64 s1.1)⟩, ⟨2, [], .p 0 0⟩, ⟨0, [], .v (.agg ((kd_Config).cells x0 (svL [((sv0 0).1, (sv0 0).2), ((sv0 1).1, (sv0 1).2), ((sv0 2).1, (sv0 2).2), ((sv0 3).1, (sv0 3).2)])).toArray)⟩, ⟨1, [], .v (.int .i64 a1)⟩], [], [], [((((kd_Config).cells x0 sv0).map EV.v), 29), ((((kd_Chan).cells (rd x0.Chans s1.1) sv_11).map EV.v), 74)], none, none⟩ [] (by kernel_rfl) trivial (fun ns_118 a w_119 hI _ => ?_)
                      refine wpIn_ret ?_
                      refine inBlock_ret ?_
                      refine then_ret ?_
                      refine then_ret ?_
                      obtain rfl := Option.some.inj H1
                      refine .inr ⟨_, rfl, fun ho => ?_⟩
                      subst ho
                      refine inBlock_ret ?_
                      refine then_ret ?_
                      obtain rfl := Option.some.inj H0
                      exact ret1 hI rfl rfl ⟨rfl, hE.below hI⟩
                    · replace H1 := bif_f hc_117 H1
                      refine wpIn_skip ?_
                      refine inBlock_normal ?_
                      refine then_normal ?_
                      refine region_ (live := [5, 132, 7, 122, 97, 62, 52, 45, 31, 21, 20, 6, 12, 4, 2, 0, 1]) (orc := []) hF hI ⟨[⟨5, [], .v (.int .i64 (IntKind.i64.wrap (s1.1 + 1)))⟩, ⟨132, [], .v (.bool (bif (a1 == 11) then ((((rd x0.Chans s1.1).Kind) == 1) && (((rd x0.Chans s1.1).Boot) != 0)) else false))⟩, ⟨7, [], .v (.bool (bif (a1 == 11) then ((((rd x0.Chans s1.1).Kind) == 1) && (((rd x0.Chans s1.1).Boot) != 0)) else false))⟩, ⟨122, [], .v (.bool (a1 == 11))⟩, ⟨97, [], .v (.bool (a1 == 10))⟩, ⟨62, [], .v (.bool (a1 == 9))⟩, ⟨52, [], .v (.bool (a1 == 8))⟩, ⟨45, [], .v (.bool (a1 == 7))⟩, ⟨31, [], .v (.bool (a1 == 6))⟩, ⟨21, [], .v (.bool (a1 == 5))⟩, ⟨20, [], .v (.int .i64 a1)⟩, ⟨6, [], .p 1 0⟩, ⟨12, [], .v (.bool (decide (s1.1 < (x0.Chans.length : Int))))⟩, ⟨4, [], .v (.bool s1.2)⟩, ⟨2, [], .p 0 0⟩, ⟨0, [], .v (.agg ((kd_Config).cells x0 (svL [((sv0 0).1, (sv0 0).2), ((sv0 1).1, (sv0 1).2), ((sv0 2).1, (sv0 2).2), ((sv0 3).1, (sv0 3).2)])).toArray)⟩, ⟨1, [], .v (.int .i64 a1)⟩], [], [], [((((kd_Config).cells x0 sv0).map EV.v), 29), ((((kd_Chan).cells (rd x0.Chans s1.1) sv_11).map EV.v), 74)], none, none⟩ [] (by kernel_rfl) trivial (fun ns_120 a w_121 hI _ => ?_)
                      refine then_normal ?_
                      obtain rfl := Option.some.inj H1
                      exact ⟨_, rfl, ⟨_, hI.pick [5, 4, 2, 0, 1] 1 ⟨[⟨5, [], .v (.int .i64 (IntKind.i64.wrap (s1.1 + 1)))⟩, ⟨4, [], .v (.bool s1.2)⟩, ⟨2, [], .p 0 0⟩, ⟨0, [], .v (.agg ((kd_Config).cells x0 (svL [((sv0 0).1, (sv0 0).2), ((sv0 1).1, (sv0 1).2), ((sv0 2).1, (sv0 2).2), ((sv0 3).1, (sv0 3).2)])).toArray)⟩, ⟨1, [], .v (.int .i64 a1)⟩], [], [], [((((kd_Config).cells x0 sv0).map EV.v), 29)], none, none⟩ (by kernel_rfl)⟩⟩
    · replace H1 := bif_f hc_9 H1
      refine wpIn_exit ?_
      refine then_exit ?_
      refine then_exit ?_
      obtain rfl := Option.some.inj H1
      exact .inl ⟨_, rfl, rfl, ⟨_, hI.pick [5, 4, 2, 0, 1] 1 ⟨[⟨5, [], .v (.int .i64 s1.1)⟩, ⟨4, [], .v (.bool s1.2)⟩, ⟨2, [], .p 0 0⟩, ⟨0, [], .v (.agg ((kd_Config).cells x0 (svL [((sv0 0).1, (sv0 0).2), ((sv0 1).1, (sv0 1).2), ((sv0 2).1, (sv0 2).2), ((sv0 3).1, (sv0 3).2)])).toArray)⟩, ⟨1, [], .v (.int .i64 a1)⟩], [], [], [((((kd_Config).cells x0 sv0).map EV.v), 29)], none, none⟩ (by kernel_rfl)⟩⟩
  · clear hI
    rintro s1 a w_124 ho ⟨ns_125, hI⟩
    subst ho
    replace H0 : (some false : Option (Bool)) = _ := H0
    refine then_normal ?_
    refine seq_region (live := [4, 5, 2, 0, 1]) (orc := []) hF hI ⟨[⟨4, [], .v (.bool false)⟩, ⟨5, [], .v (.int .i64 s1.1)⟩, ⟨2, [], .p 0 0⟩, ⟨0, [], .v (.agg ((kd_Config).cells x0 (svL [((sv0 0).1, (sv0 0).2), ((sv0 1).1, (sv0 1).2), ((sv0 2).1, (sv0 2).2), ((sv0 3).1, (sv0 3).2)])).toArray)⟩, ⟨1, [], .v (.int .i64 a1)⟩], [], [], [((((kd_Config).cells x0 sv0).map EV.v), 29)], none, none⟩ [] (by kernel_rfl) trivial (fun ns_126 a w_127 hI _ => ?_)
    refine wpIn_ret ?_
    obtain rfl := Option.some.inj H0
    exact ret1 hI rfl rfl ⟨rfl, hE.below hI⟩

/-! ### porthole/portholeref07.word: function 87 -/
noncomputable def G_ref07_word (a0 : Int) : Option (Bool) := some (decide (a0 ≥ 0) && decide (a0 ≤ 4294967295))
set_option maxRecDepth 100000 in
set_option maxHeartbeats 4000000 in
theorem G_ref07_word.calls (a0 : Int)  (w : World) {S : Nat → Prop}  (r : Bool) (h : G_ref07_word a0 = some r) :
    Calls Try.prog 87 #[.int .i64 a0] w fun e w' => e = .returned (.bool r) ∧ Below w.heap.size w w' := by
  unfold G_ref07_word at h
  have H0 := h
  clear h
  refine enter Try.func87 rfl [.int .i64 a0] (n := 9) rfl (Nat.le_of_ble_eq_true rfl) (fun a hI => ?_)
  have hF : FOpen Fence.wide := .inl rfl
  have hE := Ep.start w
  refine seq_region (live := [2, 0]) (orc := []) hF hI ⟨[⟨2, [], .v (.bool false)⟩, ⟨0, [], .v (.int .i64 a0)⟩], [], [], [], none, none⟩ [] (by kernel_rfl) trivial (fun ns_1 a w_2 hI _ => ?_)
  refine seq_region (live := [2, 0]) (orc := []) hF hI ⟨[⟨2, [], .v (.bool (decide (a0 ≥ 0) && decide (a0 ≤ 4294967295)))⟩, ⟨0, [], .v (.int .i64 a0)⟩], [], [], [], none, none⟩ [] (by kernel_rfl) trivial (fun ns_3 a w_4 hI _ => ?_)
  refine wpIn_ret ?_
  obtain rfl := Option.some.inj H0
  exact ret1 hI rfl rfl ⟨rfl, hE.below hI⟩

/-! ### porthole/portholeref07.windows: function 74 -/
noncomputable def G_ref07_windows.b1 (x0 : Config) (a1 : Int) (a2 : Int) (s1 : Int × Bool) : Option (Stp (Int × Bool) (Ex (Int × Bool) (Bool))) := (bif decide (s1.1 < (((rdA_St27 x0.Frames a1).Windows).length : Int)) then (req (inb s1.1 ((rdA_St27 x0.Frames a1).Windows).length) ((cal (a2 == 14) (G_ref07_part x0 ((rd ((rdA_St27 x0.Frames a1).Windows) s1.1).Part)) default).bind fun t_41 => (req (imp ((a2 == 14) && (!(!t_41))) (inb ((rd ((rdA_St27 x0.Frames a1).Windows) s1.1).Part) x0.Parts.length)) (bif ((a2 == 14) && ((!t_41) || (((rd x0.Parts ((rd ((rdA_St27 x0.Frames a1).Windows) s1.1).Part)).Core) != a1))) then some (.out (.ret true)) else (req (imp ((a2 == 15) && (!(decide (((rd ((rdA_St27 x0.Frames a1).Windows) s1.1).Start) < 0) || decide (((rd ((rdA_St27 x0.Frames a1).Windows) s1.1).Len) < 1)))) (inb a1 2)) (req (imp ((a2 == 15) && (!((decide (((rd ((rdA_St27 x0.Frames a1).Windows) s1.1).Start) < 0) || decide (((rd ((rdA_St27 x0.Frames a1).Windows) s1.1).Len) < 1)) || decide (((rd ((rdA_St27 x0.Frames a1).Windows) s1.1).Start) > ((rdA_St27 x0.Frames a1).Length))))) (inb a1 2)) (bif ((a2 == 15) && (((decide (((rd ((rdA_St27 x0.Frames a1).Windows) s1.1).Start) < 0) || decide (((rd ((rdA_St27 x0.Frames a1).Windows) s1.1).Len) < 1)) || decide (((rd ((rdA_St27 x0.Frames a1).Windows) s1.1).Start) > ((rdA_St27 x0.Frames a1).Length))) || decide (((rd ((rdA_St27 x0.Frames a1).Windows) s1.1).Len) > (IntKind.i64.wrap (((rdA_St27 x0.Frames a1).Length) - ((rd ((rdA_St27 x0.Frames a1).Windows) s1.1).Start)))))) then some (.out (.ret true)) else ((cal ((a2 == 16) && decide (s1.1 > 0)) (G_ref07_word ((rd ((rdA_St27 x0.Frames a1).Windows) s1.1).Start)) default).bind fun t_62 => (req (imp (((a2 == 16) && decide (s1.1 > 0)) && t_62) (inb (IntKind.i64.wrap (s1.1 - 1)) ((rdA_St27 x0.Frames a1).Windows).length)) ((cal (((a2 == 16) && decide (s1.1 > 0)) && t_62) (G_ref07_word ((rd ((rdA_St27 x0.Frames a1).Windows) (IntKind.i64.wrap (s1.1 - 1))).Start)) default).bind fun t_68 => (req (imp ((((a2 == 16) && decide (s1.1 > 0)) && t_62) && t_68) (inb (IntKind.i64.wrap (s1.1 - 1)) ((rdA_St27 x0.Frames a1).Windows).length)) ((cal ((((a2 == 16) && decide (s1.1 > 0)) && t_62) && t_68) (G_ref07_word ((rd ((rdA_St27 x0.Frames a1).Windows) (IntKind.i64.wrap (s1.1 - 1))).Len)) default).bind fun t_74 => (req (imp (((((a2 == 16) && decide (s1.1 > 0)) && t_62) && t_68) && t_74) (inb (IntKind.i64.wrap (s1.1 - 1)) ((rdA_St27 x0.Frames a1).Windows).length)) (req (imp (((((a2 == 16) && decide (s1.1 > 0)) && t_62) && t_68) && t_74) (inb (IntKind.i64.wrap (s1.1 - 1)) ((rdA_St27 x0.Frames a1).Windows).length)) (bif ((((((a2 == 16) && decide (s1.1 > 0)) && t_62) && t_68) && t_74) && decide (((rd ((rdA_St27 x0.Frames a1).Windows) s1.1).Start) < (IntKind.i64.wrap (((rd ((rdA_St27 x0.Frames a1).Windows) (IntKind.i64.wrap (s1.1 - 1))).Start) + ((rd ((rdA_St27 x0.Frames a1).Windows) (IntKind.i64.wrap (s1.1 - 1))).Len))))) then some (.out (.ret true)) else some (.next ((IntKind.i64.wrap (s1.1 + 1)), s1.2))))))))))))))))) else some (.out (.brk (s1.1, s1.2))))
noncomputable def G_ref07_windows (x0 : Config) (a1 : Int) (a2 : Int) : Option (Bool) := (req (inb a1 2) (bif (a2 == 12) then (req (inb a1 2) (req (imp (!(decide (((rdA_St27 x0.Frames a1).Length) < 1))) (inb a1 2)) (some (decide (((rdA_St27 x0.Frames a1).Length) < 1) || decide (((rdA_St27 x0.Frames a1).Length) > 64))))) else (bif (a2 == 13) then some (decide ((((rdA_St27 x0.Frames a1).Windows).length : Int) > 16)) else ((loopω (G_ref07_windows.b1 x0 a1 a2) (0, false)).bind fun o => o.on (fun s1 => some false) (fun r => some r)))))
set_option maxRecDepth 100000 in
set_option maxHeartbeats 4000000 in
theorem G_ref07_windows.calls (x0 : Config) (a1 : Int) (a2 : Int) (sv0 : SV) (w : World) {S : Nat → Prop} (hx0 : (kd_Config).cont S w x0 sv0) (r : Bool) (h : G_ref07_windows x0 a1 a2 = some r) :
    Calls Try.prog 74 #[.agg ((kd_Config).cells x0 sv0).toArray, .int .i64 a1, .int .i64 a2] w fun e w' => e = .returned (.bool r) ∧ Below w.heap.size w w' := by
  replace hx0 := Kd.lo _ hx0
  unfold G_ref07_windows at h
  have H0 := h
  clear h
  refine enter Try.func74 rfl [.agg ((kd_Config).cells x0 sv0).toArray, .int .i64 a1, .int .i64 a2] (n := 148) rfl (Nat.le_of_ble_eq_true rfl) (fun a hI => ?_)
  have hF : FOpen Fence.wide := .inl rfl
  have hE := Ep.start w
  refine seq_region (live := [6, 3, 0, 1, 2]) (orc := []) hF hI ⟨[⟨6, [], .v (.bool false)⟩, ⟨3, [], .p 0 0⟩, ⟨0, [], .v (.agg ((kd_Config).cells x0 sv0).toArray)⟩, ⟨1, [], .v (.int .i64 a1)⟩, ⟨2, [], .v (.int .i64 a2)⟩], [], [], [((((kd_Config).cells x0 sv0).map EV.v), 29)], none, none⟩ [] (by kernel_rfl) trivial (fun ns_1 a w_2 hI _ => ?_)
  obtain ⟨hE', hmv, hmr⟩ := Ep.rebase (S0 := S) hE hI
  replace hx0 := Kd.keep _ hx0 hmv
  replace hE := hE'
  replace hI := hI.rebase
  clear hE' hmv hmr
  have hct := contI (S := Lo S w w_2 ns_1 []) (w := w_2) (d := kd_Config) (x := x0) (sv := (svL [((sv0 0).1, (sv0 0).2), ((sv0 1).1, (sv0 1).2), ((sv0 2).1, (sv0 2).2), ((sv0 3).1, (sv0 3).2)])) ⟨⟨hx0.1.1, hx0.1.2⟩, ⟨hx0.2.1.1, hx0.2.1.2⟩, ⟨hx0.2.2.1.1, hx0.2.2.1.2⟩, ⟨hx0.2.2.2.1.1, hx0.2.2.2.1.2⟩, trivial⟩
  obtain ⟨B_3, ns_5, hE', hI', hmv, hB_4⟩ := freeze_ (S0 := S) (d := kd_Config) hE hI 0 x0 (svL [((sv0 0).1, (sv0 0).2), ((sv0 1).1, (sv0 1).2), ((sv0 2).1, (sv0 2).2), ((sv0 3).1, (sv0 3).2)]) 29 rfl
  replace hB_4 := hB_4 hct
  clear hct
  have hmr : ∀ b : Nat, some b ∈ ([] : List (Option Nat)) → w_2.heap[b]? = w_2.heap[b]? := fun _ _ => rfl
  replace hx0 := Kd.keep _ hx0 hmv
  replace hE := hE'
  replace hI := hI'
  clear hE' hI' hmv hmr
  obtain ⟨ns_6, hE', hI', hmv⟩ := hE.cut (S0 := S) hI [6, 3, 0, 1, 2] 0 ⟨[⟨6, [], .v (.bool false)⟩, ⟨3, [], .v (.pointer (some B_3))⟩, ⟨0, [], .v (.agg ((kd_Config).cells x0 sv0).toArray)⟩, ⟨1, [], .v (.int .i64 a1)⟩, ⟨2, [], .v (.int .i64 a2)⟩], [], [], [], none, none⟩ (by kernel_rfl)
  have hmr : ∀ b : Nat, some b ∈ ([] : List (Option Nat)) → w_2.heap[b]? = w_2.heap[b]? := fun _ _ => rfl
  replace hx0 := Kd.keep _ hx0 hmv
  replace hB_4 := El.keep hB_4 hmv
  replace hE := hE'
  replace hI := hI'
  clear hE' hI' hmv hmr
  obtain ⟨hN_7, H0⟩ := req_some H0
  have hE_9 := elA_St27 (El.part (e := kd_St27) hB_4 2 x0.Frames (svO (svL [((sv0 0).1, (sv0 0).2), ((sv0 1).1, (sv0 1).2), ((sv0 2).1, (sv0 2).2), ((sv0 3).1, (sv0 3).2)]) 2) ⟨(hB_4).cont.2.2.1, (hB_4).cont.2.2.2.1, trivial⟩ rfl) hN_7
  refine seq_region (live := [7, 6, 3, 0, 1, 2]) (orc := [[.slice (((svO (svO (svL [((sv0 0).1, (sv0 0).2), ((sv0 1).1, (sv0 1).2), ((sv0 2).1, (sv0 2).2), ((sv0 3).1, (sv0 3).2)]) 2) ((a1 : Int).toNat * 1)) 0).1) ((rdA_St27 x0.Frames a1).Windows).length (((svO (svO (svL [((sv0 0).1, (sv0 0).2), ((sv0 1).1, (sv0 1).2), ((sv0 2).1, (sv0 2).2), ((sv0 3).1, (sv0 3).2)]) 2) ((a1 : Int).toNat * 1)) 0).2)]]) hF hI ⟨[⟨7, [], .v (.slice (((svO (svO (svL [((sv0 0).1, (sv0 0).2), ((sv0 1).1, (sv0 1).2), ((sv0 2).1, (sv0 2).2), ((sv0 3).1, (sv0 3).2)]) 2) ((a1 : Int).toNat * 1)) 0).1) ((rdA_St27 x0.Frames a1).Windows).length (((svO (svO (svL [((sv0 0).1, (sv0 0).2), ((sv0 1).1, (sv0 1).2), ((sv0 2).1, (sv0 2).2), ((sv0 3).1, (sv0 3).2)]) 2) ((a1 : Int).toNat * 1)) 0).2))⟩, ⟨6, [], .v (.bool false)⟩, ⟨3, [], .v (.pointer (some B_3))⟩, ⟨0, [], .v (.agg ((kd_Config).cells x0 sv0).toArray)⟩, ⟨1, [], .v (.int .i64 a1)⟩, ⟨2, [], .v (.int .i64 a2)⟩], [], [], [], none, none⟩ [.need true (0 ≤ a1 ∧ a1 < ((2 : Nat) : Int)), .cell true (((B_3.add 2).add ((a1 : Int).toNat * 2)).add 1) [.slice (((svO (svO (svL [((sv0 0).1, (sv0 0).2), ((sv0 1).1, (sv0 1).2), ((sv0 2).1, (sv0 2).2), ((sv0 3).1, (sv0 3).2)]) 2) ((a1 : Int).toNat * 1)) 0).1) ((rdA_St27 x0.Frames a1).Windows).length (((svO (svO (svL [((sv0 0).1, (sv0 0).2), ((sv0 1).1, (sv0 1).2), ((sv0 2).1, (sv0 2).2), ((sv0 3).1, (sv0 3).2)]) 2) ((a1 : Int).toNat * 1)) 0).2)]] (by kernel_rfl) ⟨ob_inb (fun _ => hN_7), ob_el (fun _ => hE_9) 1 [.slice (((svO (svO (svL [((sv0 0).1, (sv0 0).2), ((sv0 1).1, (sv0 1).2), ((sv0 2).1, (sv0 2).2), ((sv0 3).1, (sv0 3).2)]) 2) ((a1 : Int).toNat * 1)) 0).1) ((rdA_St27 x0.Frames a1).Windows).length (((svO (svO (svL [((sv0 0).1, (sv0 0).2), ((sv0 1).1, (sv0 1).2), ((sv0 2).1, (sv0 2).2), ((sv0 3).1, (sv0 3).2)]) 2) ((a1 : Int).toNat * 1)) 0).2)] rfl, trivial⟩ (fun ns_10 a w_11 hI _ => ?_)
  refine wpIn_seq ?_
  refine seq_region (live := [16, 7, 6, 3, 0, 1, 2]) (orc := []) hF hI ⟨[⟨16, [], .v (.bool (a2 == 12))⟩, ⟨7, [], .v (.slice (((svO (svO (svL [((sv0 0).1, (sv0 0).2), ((sv0 1).1, (sv0 1).2), ((sv0 2).1, (sv0 2).2), ((sv0 3).1, (sv0 3).2)]) 2) ((a1 : Int).toNat * 1)) 0).1) ((rdA_St27 x0.Frames a1).Windows).length (((svO (svO (svL [((sv0 0).1, (sv0 0).2), ((sv0 1).1, (sv0 1).2), ((sv0 2).1, (sv0 2).2), ((sv0 3).1, (sv0 3).2)]) 2) ((a1 : Int).toNat * 1)) 0).2))⟩, ⟨6, [], .v (.bool false)⟩, ⟨3, [], .v (.pointer (some B_3))⟩, ⟨0, [], .v (.agg ((kd_Config).cells x0 sv0).toArray)⟩, ⟨1, [], .v (.int .i64 a1)⟩, ⟨2, [], .v (.int .i64 a2)⟩], [], [], [], none, none⟩ [] (by kernel_rfl) trivial (fun ns_12 a w_13 hI _ => ?_)
  refine cond_ hI ((a2 == 12)) rfl (fun hc_14 => ?_) (fun hc_14 => ?_)
  · replace H0 := bif_t hc_14 H0
    obtain ⟨hN_15, H0⟩ := req_some H0
    have hE_17 := elA_St27 (El.part (e := kd_St27) hB_4 2 x0.Frames (svO (svL [((sv0 0).1, (sv0 0).2), ((sv0 1).1, (sv0 1).2), ((sv0 2).1, (sv0 2).2), ((sv0 3).1, (sv0 3).2)]) 2) ⟨(hB_4).cont.2.2.1, (hB_4).cont.2.2.2.1, trivial⟩ rfl) hN_15
    obtain ⟨hN_18, H0⟩ := req_some H0
    have hE_20 := fun (hg : (!(decide (((rdA_St27 x0.Frames a1).Length) < 1))) = true) => elA_St27 (El.part (e := kd_St27) hB_4 2 x0.Frames (svO (svL [((sv0 0).1, (sv0 0).2), ((sv0 1).1, (sv0 1).2), ((sv0 2).1, (sv0 2).2), ((sv0 3).1, (sv0 3).2)]) 2) ⟨(hB_4).cont.2.2.1, (hB_4).cont.2.2.2.1, trivial⟩ rfl) (imp_spec hN_18 hg)
    refine seq_region (live := [6, 16, 7, 3, 0, 1, 2]) (orc := [[.int .i64 ((rdA_St27 x0.Frames a1).Length)], [.int .i64 ((rdA_St27 x0.Frames a1).Length)]]) hF hI ⟨[⟨6, [], .v (.bool (decide (((rdA_St27 x0.Frames a1).Length) < 1) || decide (((rdA_St27 x0.Frames a1).Length) > 64)))⟩, ⟨16, [], .v (.bool (a2 == 12))⟩, ⟨7, [], .v (.slice (((svO (svO (svL [((sv0 0).1, (sv0 0).2), ((sv0 1).1, (sv0 1).2), ((sv0 2).1, (sv0 2).2), ((sv0 3).1, (sv0 3).2)]) 2) ((a1 : Int).toNat * 1)) 0).1) ((rdA_St27 x0.Frames a1).Windows).length (((svO (svO (svL [((sv0 0).1, (sv0 0).2), ((sv0 1).1, (sv0 1).2), ((sv0 2).1, (sv0 2).2), ((sv0 3).1, (sv0 3).2)]) 2) ((a1 : Int).toNat * 1)) 0).2))⟩, ⟨3, [], .v (.pointer (some B_3))⟩, ⟨0, [], .v (.agg ((kd_Config).cells x0 sv0).toArray)⟩, ⟨1, [], .v (.int .i64 a1)⟩, ⟨2, [], .v (.int .i64 a2)⟩], [], [], [], none, none⟩ [.need true (0 ≤ a1 ∧ a1 < ((2 : Nat) : Int)), .cell true ((B_3.add 2).add ((a1 : Int).toNat * 2)) [.int .i64 ((rdA_St27 x0.Frames a1).Length)], .need (!(decide (((rdA_St27 x0.Frames a1).Length) < 1))) (0 ≤ a1 ∧ a1 < ((2 : Nat) : Int)), .cell (!(decide (((rdA_St27 x0.Frames a1).Length) < 1))) ((B_3.add 2).add ((a1 : Int).toNat * 2)) [.int .i64 ((rdA_St27 x0.Frames a1).Length)]] (by kernel_rfl) ⟨ob_inb (fun _ => hN_15), ob_el (fun _ => hE_17) 0 [.int .i64 ((rdA_St27 x0.Frames a1).Length)] rfl, ob_inb (fun hg => imp_spec hN_18 hg), ob_el (fun hg => hE_20 hg) 0 [.int .i64 ((rdA_St27 x0.Frames a1).Length)] rfl, trivial⟩ (fun ns_21 a w_22 hI _ => ?_)
    refine wpIn_ret ?_
    refine then_ret ?_
    obtain rfl := Option.some.inj H0
    exact ret1 hI rfl rfl ⟨rfl, hE.below hI⟩
  · replace H0 := bif_f hc_14 H0
    refine wpIn_skip ?_
    refine then_normal ?_
    refine wpIn_seq ?_
    refine seq_region (live := [32, 16, 7, 6, 3, 0, 1, 2]) (orc := []) hF hI ⟨[⟨32, [], .v (.bool (a2 == 13))⟩, ⟨16, [], .v (.bool (a2 == 12))⟩, ⟨7, [], .v (.slice (((svO (svO (svL [((sv0 0).1, (sv0 0).2), ((sv0 1).1, (sv0 1).2), ((sv0 2).1, (sv0 2).2), ((sv0 3).1, (sv0 3).2)]) 2) ((a1 : Int).toNat * 1)) 0).1) ((rdA_St27 x0.Frames a1).Windows).length (((svO (svO (svL [((sv0 0).1, (sv0 0).2), ((sv0 1).1, (sv0 1).2), ((sv0 2).1, (sv0 2).2), ((sv0 3).1, (sv0 3).2)]) 2) ((a1 : Int).toNat * 1)) 0).2))⟩, ⟨6, [], .v (.bool false)⟩, ⟨3, [], .v (.pointer (some B_3))⟩, ⟨0, [], .v (.agg ((kd_Config).cells x0 sv0).toArray)⟩, ⟨1, [], .v (.int .i64 a1)⟩, ⟨2, [], .v (.int .i64 a2)⟩], [], [], [], none, none⟩ [] (by kernel_rfl) trivial (fun ns_23 a w_24 hI _ => ?_)
    refine cond_ hI ((a2 == 13)) rfl (fun hc_25 => ?_) (fun hc_25 => ?_)
    · replace H0 := bif_t hc_25 H0
      refine seq_region (live := [6, 32, 16, 7, 3, 0, 1, 2]) (orc := []) hF hI ⟨[⟨6, [], .v (.bool (decide ((((rdA_St27 x0.Frames a1).Windows).length : Int) > 16)))⟩, ⟨32, [], .v (.bool (a2 == 13))⟩, ⟨16, [], .v (.bool (a2 == 12))⟩, ⟨7, [], .v (.slice (((svO (svO (svL [((sv0 0).1, (sv0 0).2), ((sv0 1).1, (sv0 1).2), ((sv0 2).1, (sv0 2).2), ((sv0 3).1, (sv0 3).2)]) 2) ((a1 : Int).toNat * 1)) 0).1) ((rdA_St27 x0.Frames a1).Windows).length (((svO (svO (svL [((sv0 0).1, (sv0 0).2), ((sv0 1).1, (sv0 1).2), ((sv0 2).1, (sv0 2).2), ((sv0 3).1, (sv0 3).2)]) 2) ((a1 : Int).toNat * 1)) 0).2))⟩, ⟨3, [], .v (.pointer (some B_3))⟩, ⟨0, [], .v (.agg ((kd_Config).cells x0 sv0).toArray)⟩, ⟨1, [], .v (.int .i64 a1)⟩, ⟨2, [], .v (.int .i64 a2)⟩], [], [], [], none, none⟩ [] (by kernel_rfl) trivial (fun ns_26 a w_27 hI _ => ?_)
      refine wpIn_ret ?_
      refine then_ret ?_
      obtain rfl := Option.some.inj H0
      exact ret1 hI rfl rfl ⟨rfl, hE.below hI⟩
    · replace H0 := bif_f hc_25 H0
      refine wpIn_skip ?_
      refine then_normal ?_
      refine wpIn_seq ?_
      refine seq_region (live := [8, 32, 16, 7, 6, 3, 0, 1, 2]) (orc := []) hF hI ⟨[⟨8, [], .v (.int .i64 0)⟩, ⟨32, [], .v (.bool (a2 == 13))⟩, ⟨16, [], .v (.bool (a2 == 12))⟩, ⟨7, [], .v (.slice (((svO (svO (svL [((sv0 0).1, (sv0 0).2), ((sv0 1).1, (sv0 1).2), ((sv0 2).1, (sv0 2).2), ((sv0 3).1, (sv0 3).2)]) 2) ((a1 : Int).toNat * 1)) 0).1) ((rdA_St27 x0.Frames a1).Windows).length (((svO (svO (svL [((sv0 0).1, (sv0 0).2), ((sv0 1).1, (sv0 1).2), ((sv0 2).1, (sv0 2).2), ((sv0 3).1, (sv0 3).2)]) 2) ((a1 : Int).toNat * 1)) 0).2))⟩, ⟨6, [], .v (.bool false)⟩, ⟨3, [], .v (.pointer (some B_3))⟩, ⟨0, [], .v (.agg ((kd_Config).cells x0 sv0).toArray)⟩, ⟨1, [], .v (.int .i64 a1)⟩, ⟨2, [], .v (.int .i64 a2)⟩], [], [], [], none, none⟩ [] (by kernel_rfl) trivial (fun ns_28 a w_29 hI _ => ?_)
      obtain ⟨o_90, hL_91, H0⟩ := bind_some H0
      refine block_loop (fun (s1 : Int × Bool) a w_96 => ∃ ns, St w_2 ns_6 148 ⟨[⟨8, [], .v (.int .i64 s1.1)⟩, ⟨32, [], .v (.bool (a2 == 13))⟩, ⟨16, [], .v (.bool (a2 == 12))⟩, ⟨7, [], .v (.slice (((svO (svO (svL [((sv0 0).1, (sv0 0).2), ((sv0 1).1, (sv0 1).2), ((sv0 2).1, (sv0 2).2), ((sv0 3).1, (sv0 3).2)]) 2) ((a1 : Int).toNat * 1)) 0).1) ((rdA_St27 x0.Frames a1).Windows).length (((svO (svO (svL [((sv0 0).1, (sv0 0).2), ((sv0 1).1, (sv0 1).2), ((sv0 2).1, (sv0 2).2), ((sv0 3).1, (sv0 3).2)]) 2) ((a1 : Int).toNat * 1)) 0).2))⟩, ⟨6, [], .v (.bool s1.2)⟩, ⟨3, [], .v (.pointer (some B_3))⟩, ⟨0, [], .v (.agg ((kd_Config).cells x0 sv0).toArray)⟩, ⟨1, [], .v (.int .i64 a1)⟩, ⟨2, [], .v (.int .i64 a2)⟩], [], [], [], none, none⟩ ns a w_96) (0, false) hL_91 ⟨_, hI.pick [8, 32, 16, 7, 6, 3, 0, 1, 2] 0 ⟨[⟨8, [], .v (.int .i64 0)⟩, ⟨32, [], .v (.bool (a2 == 13))⟩, ⟨16, [], .v (.bool (a2 == 12))⟩, ⟨7, [], .v (.slice (((svO (svO (svL [((sv0 0).1, (sv0 0).2), ((sv0 1).1, (sv0 1).2), ((sv0 2).1, (sv0 2).2), ((sv0 3).1, (sv0 3).2)]) 2) ((a1 : Int).toNat * 1)) 0).1) ((rdA_St27 x0.Frames a1).Windows).length (((svO (svO (svL [((sv0 0).1, (sv0 0).2), ((sv0 1).1, (sv0 1).2), ((sv0 2).1, (sv0 2).2), ((sv0 3).1, (sv0 3).2)]) 2) ((a1 : Int).toNat * 1)) 0).2))⟩, ⟨6, [], .v (.bool false)⟩, ⟨3, [], .v (.pointer (some B_3))⟩, ⟨0, [], .v (.agg ((kd_Config).cells x0 sv0).toArray)⟩, ⟨1, [], .v (.int .i64 a1)⟩, ⟨2, [], .v (.int .i64 a2)⟩], [], [], [], none, none⟩ (by kernel_rfl)⟩ ?_ ?_
      · clear hI
        rintro s1 a w_30 ⟨ns_31, hI⟩ r1 H1
        unfold G_ref07_windows.b1 at H1
        refine wpIn_seq ?_
        refine seq_region (live := [39, 8, 32, 16, 7, 6, 3, 0, 1, 2]) (orc := []) hF hI ⟨[⟨39, [], .v (.bool (decide (s1.1 < (((rdA_St27 x0.Frames a1).Windows).length : Int))))⟩, ⟨8, [], .v (.int .i64 s1.1)⟩, ⟨32, [], .v (.bool (a2 == 13))⟩, ⟨16, [], .v (.bool (a2 == 12))⟩, ⟨7, [], .v (.slice (((svO (svO (svL [((sv0 0).1, (sv0 0).2), ((sv0 1).1, (sv0 1).2), ((sv0 2).1, (sv0 2).2), ((sv0 3).1, (sv0 3).2)]) 2) ((a1 : Int).toNat * 1)) 0).1) ((rdA_St27 x0.Frames a1).Windows).length (((svO (svO (svL [((sv0 0).1, (sv0 0).2), ((sv0 1).1, (sv0 1).2), ((sv0 2).1, (sv0 2).2), ((sv0 3).1, (sv0 3).2)]) 2) ((a1 : Int).toNat * 1)) 0).2))⟩, ⟨6, [], .v (.bool s1.2)⟩, ⟨3, [], .v (.pointer (some B_3))⟩, ⟨0, [], .v (.agg ((kd_Config).cells x0 sv0).toArray)⟩, ⟨1, [], .v (.int .i64 a1)⟩, ⟨2, [], .v (.int .i64 a2)⟩], [], [], [], none, none⟩ [] (by kernel_rfl) trivial (fun ns_32 a w_33 hI _ => ?_)
        refine cond_ hI (decide (s1.1 < (((rdA_St27 x0.Frames a1).Windows).length : Int))) rfl (fun hc_34 => ?_) (fun hc_34 => ?_)
        · replace H1 := bif_t hc_34 H1
          refine wpIn_skip ?_
          refine then_normal ?_
          refine wpIn_seq ?_
          refine wpIn_block ?_
          obtain ⟨hN_35, H1⟩ := req_some H1
          obtain ⟨sv_36, hE_38, hA_37⟩ := Arr.elB (d := kd_Window) (hE_9).cont.1.1 s1.1 true (fun _ => hN_35)
          replace hE_38 := hE_38 rfl
          replace hA_37 := fun (_ : true = true) => hA_37 rfl
          refine seq_region (live := [9, 39, 8, 32, 16, 7, 6, 3, 0, 1, 2]) (orc := [(kd_Window).cells (rd ((rdA_St27 x0.Frames a1).Windows) s1.1) sv_36]) hF hI ⟨[⟨9, [], .p 0 0⟩, ⟨39, [], .v (.bool (decide (s1.1 < (((rdA_St27 x0.Frames a1).Windows).length : Int))))⟩, ⟨8, [], .v (.int .i64 s1.1)⟩, ⟨32, [], .v (.bool (a2 == 13))⟩, ⟨16, [], .v (.bool (a2 == 12))⟩, ⟨7, [], .v (.slice (((svO (svO (svL [((sv0 0).1, (sv0 0).2), ((sv0 1).1, (sv0 1).2), ((sv0 2).1, (sv0 2).2), ((sv0 3).1, (sv0 3).2)]) 2) ((a1 : Int).toNat * 1)) 0).1) ((rdA_St27 x0.Frames a1).Windows).length (((svO (svO (svL [((sv0 0).1, (sv0 0).2), ((sv0 1).1, (sv0 1).2), ((sv0 2).1, (sv0 2).2), ((sv0 3).1, (sv0 3).2)]) 2) ((a1 : Int).toNat * 1)) 0).2))⟩, ⟨6, [], .v (.bool s1.2)⟩, ⟨3, [], .v (.pointer (some B_3))⟩, ⟨0, [], .v (.agg ((kd_Config).cells x0 sv0).toArray)⟩, ⟨1, [], .v (.int .i64 a1)⟩, ⟨2, [], .v (.int .i64 a2)⟩], [], [], [((((kd_Window).cells (rd ((rdA_St27 x0.Frames a1).Windows) s1.1) sv_36).map EV.v), 88)], none, none⟩ [.need true (0 ≤ s1.1 ∧ s1.1 < (((rdA_St27 x0.Frames a1).Windows).length : Int)), .need true (((svO (svO (svL [((sv0 0).1, (sv0 0).2), ((sv0 1).1, (sv0 1).2), ((sv0 2).1, (sv0 2).2), ((sv0 3).1, (sv0 3).2)]) 2) ((a1 : Int).toNat * 1)) 0).1 = some (adr (((svO (svO (svL [((sv0 0).1, (sv0 0).2), ((sv0 1).1, (sv0 1).2), ((sv0 2).1, (sv0 2).2), ((sv0 3).1, (sv0 3).2)]) 2) ((a1 : Int).toNat * 1)) 0).1))), .cell true ((adr (((svO (svO (svL [((sv0 0).1, (sv0 0).2), ((sv0 1).1, (sv0 1).2), ((sv0 2).1, (sv0 2).2), ((sv0 3).1, (sv0 3).2)]) 2) ((a1 : Int).toNat * 1)) 0).1)).add ((s1.1 : Int).toNat * 3)) ((kd_Window).cells (rd ((rdA_St27 x0.Frames a1).Windows) s1.1) sv_36)] (by kernel_rfl) ⟨ob_inb (fun _ => hN_35), hA_37, ob_el (fun _ => hE_38) 0 ((kd_Window).cells (rd ((rdA_St27 x0.Frames a1).Windows) s1.1) sv_36) rfl, trivial⟩ (fun ns_39 a w_40 hI _ => ?_)
          refine wpIn_seq ?_
          obtain ⟨t_41, hG_42, H1⟩ := bind_some H1
          obtain ⟨hN_43, H1⟩ := req_some H1
          obtain ⟨sv_44, hE_46, hA_45⟩ := Arr.elB (d := kd_Part) (hB_4).cont.1.1 ((rd ((rdA_St27 x0.Frames a1).Windows) s1.1).Part) ((a2 == 14) && (!(!t_41))) (fun hg => imp_spec hN_43 hg)
          refine seq_region (live := [65, 9, 39, 8, 32, 16, 7, 6, 3, 0, 1, 2]) (orc := [(kd_Config).cells x0 (svL [((sv0 0).1, (sv0 0).2), ((sv0 1).1, (sv0 1).2), ((sv0 2).1, (sv0 2).2), ((sv0 3).1, (sv0 3).2)]), [.bool t_41], [.slice (((svL [((sv0 0).1, (sv0 0).2), ((sv0 1).1, (sv0 1).2), ((sv0 2).1, (sv0 2).2), ((sv0 3).1, (sv0 3).2)]) 0).1) x0.Parts.length (((svL [((sv0 0).1, (sv0 0).2), ((sv0 1).1, (sv0 1).2), ((sv0 2).1, (sv0 2).2), ((sv0 3).1, (sv0 3).2)]) 0).2)], [.int .i64 ((rd x0.Parts ((rd ((rdA_St27 x0.Frames a1).Windows) s1.1).Part)).Core)]]) hF hI ⟨[⟨65, [], .v (.bool ((a2 == 14) && ((!t_41) || (((rd x0.Parts ((rd ((rdA_St27 x0.Frames a1).Windows) s1.1).Part)).Core) != a1))))⟩, ⟨9, [], .p 0 0⟩, ⟨39, [], .v (.bool (decide (s1.1 < (((rdA_St27 x0.Frames a1).Windows).length : Int))))⟩, ⟨8, [], .v (.int .i64 s1.1)⟩, ⟨32, [], .v (.bool (a2 == 13))⟩, ⟨16, [], .v (.bool (a2 == 12))⟩, ⟨7, [], .v (.slice (((svO (svO (svL [((sv0 0).1, (sv0 0).2), ((sv0 1).1, (sv0 1).2), ((sv0 2).1, (sv0 2).2), ((sv0 3).1, (sv0 3).2)]) 2) ((a1 : Int).toNat * 1)) 0).1) ((rdA_St27 x0.Frames a1).Windows).length (((svO (svO (svL [((sv0 0).1, (sv0 0).2), ((sv0 1).1, (sv0 1).2), ((sv0 2).1, (sv0 2).2), ((sv0 3).1, (sv0 3).2)]) 2) ((a1 : Int).toNat * 1)) 0).2))⟩, ⟨6, [], .v (.bool s1.2)⟩, ⟨3, [], .v (.pointer (some B_3))⟩, ⟨0, [], .v (.agg ((kd_Config).cells x0 sv0).toArray)⟩, ⟨1, [], .v (.int .i64 a1)⟩, ⟨2, [], .v (.int .i64 a2)⟩], [], [], [((((kd_Window).cells (rd ((rdA_St27 x0.Frames a1).Windows) s1.1) sv_36).map EV.v), 88)], none, none⟩ [.cell (a2 == 14) B_3 ((kd_Config).cells x0 (svL [((sv0 0).1, (sv0 0).2), ((sv0 1).1, (sv0 1).2), ((sv0 2).1, (sv0 2).2), ((sv0 3).1, (sv0 3).2)])), .call (a2 == 14) 86 [.agg ((kd_Config).cells x0 (svL [(((svL [((sv0 0).1, (sv0 0).2), ((sv0 1).1, (sv0 1).2), ((sv0 2).1, (sv0 2).2), ((sv0 3).1, (sv0 3).2)]) 0).1, ((svL [((sv0 0).1, (sv0 0).2), ((sv0 1).1, (sv0 1).2), ((sv0 2).1, (sv0 2).2), ((sv0 3).1, (sv0 3).2)]) 0).2), (((svL [((sv0 0).1, (sv0 0).2), ((sv0 1).1, (sv0 1).2), ((sv0 2).1, (sv0 2).2), ((sv0 3).1, (sv0 3).2)]) 1).1, ((svL [((sv0 0).1, (sv0 0).2), ((sv0 1).1, (sv0 1).2), ((sv0 2).1, (sv0 2).2), ((sv0 3).1, (sv0 3).2)]) 1).2), (((svL [((sv0 0).1, (sv0 0).2), ((sv0 1).1, (sv0 1).2), ((sv0 2).1, (sv0 2).2), ((sv0 3).1, (sv0 3).2)]) 2).1, ((svL [((sv0 0).1, (sv0 0).2), ((sv0 1).1, (sv0 1).2), ((sv0 2).1, (sv0 2).2), ((sv0 3).1, (sv0 3).2)]) 2).2), (((svL [((sv0 0).1, (sv0 0).2), ((sv0 1).1, (sv0 1).2), ((sv0 2).1, (sv0 2).2), ((sv0 3).1, (sv0 3).2)]) 3).1, ((svL [((sv0 0).1, (sv0 0).2), ((sv0 1).1, (sv0 1).2), ((sv0 2).1, (sv0 2).2), ((sv0 3).1, (sv0 3).2)]) 3).2)])).toArray, .int .i64 ((rd ((rdA_St27 x0.Frames a1).Windows) s1.1).Part)] (.bool t_41), .cell ((a2 == 14) && (!(!t_41))) B_3 [.slice (((svL [((sv0 0).1, (sv0 0).2), ((sv0 1).1, (sv0 1).2), ((sv0 2).1, (sv0 2).2), ((sv0 3).1, (sv0 3).2)]) 0).1) x0.Parts.length (((svL [((sv0 0).1, (sv0 0).2), ((sv0 1).1, (sv0 1).2), ((sv0 2).1, (sv0 2).2), ((sv0 3).1, (sv0 3).2)]) 0).2)], .need ((a2 == 14) && (!(!t_41))) (0 ≤ ((rd ((rdA_St27 x0.Frames a1).Windows) s1.1).Part) ∧ ((rd ((rdA_St27 x0.Frames a1).Windows) s1.1).Part) < (x0.Parts.length : Int)), .need ((a2 == 14) && (!(!t_41))) (((svL [((sv0 0).1, (sv0 0).2), ((sv0 1).1, (sv0 1).2), ((sv0 2).1, (sv0 2).2), ((sv0 3).1, (sv0 3).2)]) 0).1 = some (adr (((svL [((sv0 0).1, (sv0 0).2), ((sv0 1).1, (sv0 1).2), ((sv0 2).1, (sv0 2).2), ((sv0 3).1, (sv0 3).2)]) 0).1))), .cell ((a2 == 14) && (!(!t_41))) ((adr (((svL [((sv0 0).1, (sv0 0).2), ((sv0 1).1, (sv0 1).2), ((sv0 2).1, (sv0 2).2), ((sv0 3).1, (sv0 3).2)]) 0).1)).add ((((rd ((rdA_St27 x0.Frames a1).Windows) s1.1).Part) : Int).toNat * 2)) [.int .i64 ((rd x0.Parts ((rd ((rdA_St27 x0.Frames a1).Windows) s1.1).Part)).Core)]] (by kernel_rfl) ⟨ob_el (fun _ => hB_4) 0 ((kd_Config).cells x0 (svL [((sv0 0).1, (sv0 0).2), ((sv0 1).1, (sv0 1).2), ((sv0 2).1, (sv0 2).2), ((sv0 3).1, (sv0 3).2)])) rfl, ob_call (enters Try.func86 (by kernel_rfl) rfl) (fun hg wz hk => G_ref07_part.calls x0 ((rd ((rdA_St27 x0.Frames a1).Windows) s1.1).Part) (svL [(((svL [((sv0 0).1, (sv0 0).2), ((sv0 1).1, (sv0 1).2), ((sv0 2).1, (sv0 2).2), ((sv0 3).1, (sv0 3).2)]) 0).1, ((svL [((sv0 0).1, (sv0 0).2), ((sv0 1).1, (sv0 1).2), ((sv0 2).1, (sv0 2).2), ((sv0 3).1, (sv0 3).2)]) 0).2), (((svL [((sv0 0).1, (sv0 0).2), ((sv0 1).1, (sv0 1).2), ((sv0 2).1, (sv0 2).2), ((sv0 3).1, (sv0 3).2)]) 1).1, ((svL [((sv0 0).1, (sv0 0).2), ((sv0 1).1, (sv0 1).2), ((sv0 2).1, (sv0 2).2), ((sv0 3).1, (sv0 3).2)]) 1).2), (((svL [((sv0 0).1, (sv0 0).2), ((sv0 1).1, (sv0 1).2), ((sv0 2).1, (sv0 2).2), ((sv0 3).1, (sv0 3).2)]) 2).1, ((svL [((sv0 0).1, (sv0 0).2), ((sv0 1).1, (sv0 1).2), ((sv0 2).1, (sv0 2).2), ((sv0 3).1, (sv0 3).2)]) 2).2), (((svL [((sv0 0).1, (sv0 0).2), ((sv0 1).1, (sv0 1).2), ((sv0 2).1, (sv0 2).2), ((sv0 3).1, (sv0 3).2)]) 3).1, ((svL [((sv0 0).1, (sv0 0).2), ((sv0 1).1, (sv0 1).2), ((sv0 2).1, (sv0 2).2), ((sv0 3).1, (sv0 3).2)]) 3).2)]) wz (S := fun _ => True) (Kd.any _ (Kd.keep kd_Config (contI (S := Lo S w w_2 ns_6 []) (w := w_2) (d := kd_Config) (x := x0) (sv := (svL [(((svL [((sv0 0).1, (sv0 0).2), ((sv0 1).1, (sv0 1).2), ((sv0 2).1, (sv0 2).2), ((sv0 3).1, (sv0 3).2)]) 0).1, ((svL [((sv0 0).1, (sv0 0).2), ((sv0 1).1, (sv0 1).2), ((sv0 2).1, (sv0 2).2), ((sv0 3).1, (sv0 3).2)]) 0).2), (((svL [((sv0 0).1, (sv0 0).2), ((sv0 1).1, (sv0 1).2), ((sv0 2).1, (sv0 2).2), ((sv0 3).1, (sv0 3).2)]) 1).1, ((svL [((sv0 0).1, (sv0 0).2), ((sv0 1).1, (sv0 1).2), ((sv0 2).1, (sv0 2).2), ((sv0 3).1, (sv0 3).2)]) 1).2), (((svL [((sv0 0).1, (sv0 0).2), ((sv0 1).1, (sv0 1).2), ((sv0 2).1, (sv0 2).2), ((sv0 3).1, (sv0 3).2)]) 2).1, ((svL [((sv0 0).1, (sv0 0).2), ((sv0 1).1, (sv0 1).2), ((sv0 2).1, (sv0 2).2), ((sv0 3).1, (sv0 3).2)]) 2).2), (((svL [((sv0 0).1, (sv0 0).2), ((sv0 1).1, (sv0 1).2), ((sv0 2).1, (sv0 2).2), ((sv0 3).1, (sv0 3).2)]) 3).1, ((svL [((sv0 0).1, (sv0 0).2), ((sv0 1).1, (sv0 1).2), ((sv0 2).1, (sv0 2).2), ((sv0 3).1, (sv0 3).2)]) 3).2)])) ⟨⟨(hB_4).cont.1.1, (hB_4).cont.1.2⟩, ⟨(hB_4).cont.2.1.1, (hB_4).cont.2.1.2⟩, ⟨(hB_4).cont.2.2.1.1, (hB_4).cont.2.2.1.2⟩, ⟨(hB_4).cont.2.2.2.1.1, (hB_4).cont.2.2.2.1.2⟩, trivial⟩) (Lo.on hk))) _ (cal_some hG_42 hg)), ob_el (fun _ => hB_4) 0 [.slice (((svL [((sv0 0).1, (sv0 0).2), ((sv0 1).1, (sv0 1).2), ((sv0 2).1, (sv0 2).2), ((sv0 3).1, (sv0 3).2)]) 0).1) x0.Parts.length (((svL [((sv0 0).1, (sv0 0).2), ((sv0 1).1, (sv0 1).2), ((sv0 2).1, (sv0 2).2), ((sv0 3).1, (sv0 3).2)]) 0).2)] rfl, ob_inb (fun hg => imp_spec hN_43 hg), hA_45, ob_el (fun hg => hE_46 hg) 0 [.int .i64 ((rd x0.Parts ((rd ((rdA_St27 x0.Frames a1).Windows) s1.1).Part)).Core)] rfl, trivial⟩ (fun ns_47 a w_48 hI _ => ?_)
          refine cond_ hI (((a2 == 14) && ((!t_41) || (((rd x0.Parts ((rd ((rdA_St27 x0.Frames a1).Windows) s1.1).Part)).Core) != a1)))) rfl (fun hc_49 => ?_) (fun hc_49 => ?_)
          · replace H1 := bif_t hc_49 H1
            refine seq_region (live := [6, 65, 9, 39, 8, 32, 16, 7, 3, 0, 1, 2]) (orc := []) hF hI ⟨[⟨6, [], .v (.bool true)⟩, ⟨65, [], .v (.bool ((a2 == 14) && ((!t_41) || (((rd x0.Parts ((rd ((rdA_St27 x0.Frames a1).Windows) s1.1).Part)).Core) != a1))))⟩, ⟨9, [], .p 0 0⟩, ⟨39, [], .v (.bool (decide (s1.1 < (((rdA_St27 x0.Frames a1).Windows).length : Int))))⟩, ⟨8, [], .v (.int .i64 s1.1)⟩, ⟨32, [], .v (.bool (a2 == 13))⟩, ⟨16, [], .v (.bool (a2 == 12))⟩, ⟨7, [], .v (.slice (((svO (svO (svL [((sv0 0).1, (sv0 0).2), ((sv0 1).1, (sv0 1).2), ((sv0 2).1, (sv0 2).2), ((sv0 3).1, (sv0 3).2)]) 2) ((a1 : Int).toNat * 1)) 0).1) ((rdA_St27 x0.Frames a1).Windows).length (((svO (svO (svL [((sv0 0).1, (sv0 0).2), ((sv0 1).1, (sv0 1).2), ((sv0 2).1, (sv0 2).2), ((sv0 3).1, (sv0 3).2)]) 2) ((a1 : Int).toNat * 1)) 0).2))⟩, ⟨3, [], .v (.pointer (some B_3))⟩, ⟨0, [], .v (.agg ((kd_Config).cells x0 sv0).toArray)⟩, ⟨1, [], .v (.int .i64 a1)⟩, ⟨2, [], .v (.int .i64 a2)⟩], [], [], [((((kd_Window).cells (rd ((rdA_St27 x0.Frames a1).Windows) s1.1) sv_36).map EV.v), 88)], none, none⟩ [] (by kernel_rfl) trivial (fun ns_50 a w_51 hI _ => ?_)
            refine wpIn_ret ?_
            refine then_ret ?_
            refine inBlock_ret ?_
            refine then_ret ?_
            refine then_ret ?_
            obtain rfl := Option.some.inj H1
            refine .inr ⟨_, rfl, fun ho => ?_⟩
            subst ho
            refine inBlock_ret ?_
            refine then_ret ?_
            obtain rfl := Option.some.inj H0
            exact ret1 hI rfl rfl ⟨rfl, hE.below hI⟩
          · replace H1 := bif_f hc_49 H1
            refine wpIn_skip ?_
            refine then_normal ?_
            refine wpIn_seq ?_
            refine wpIn_seq ?_
            obtain ⟨hN_52, H1⟩ := req_some H1
            have hE_54 := fun (hg : ((a2 == 15) && (!(decide (((rd ((rdA_St27 x0.Frames a1).Windows) s1.1).Start) < 0) || decide (((rd ((rdA_St27 x0.Frames a1).Windows) s1.1).Len) < 1)))) = true) => elA_St27 (El.part (e := kd_St27) hB_4 2 x0.Frames (svO (svL [((sv0 0).1, (sv0 0).2), ((sv0 1).1, (sv0 1).2), ((sv0 2).1, (sv0 2).2), ((sv0 3).1, (sv0 3).2)]) 2) ⟨(hB_4).cont.2.2.1, (hB_4).cont.2.2.2.1, trivial⟩ rfl) (imp_spec hN_52 hg)
            obtain ⟨hN_55, H1⟩ := req_some H1
            have hE_57 := fun (hg : ((a2 == 15) && (!((decide (((rd ((rdA_St27 x0.Frames a1).Windows) s1.1).Start) < 0) || decide (((rd ((rdA_St27 x0.Frames a1).Windows) s1.1).Len) < 1)) || decide (((rd ((rdA_St27 x0.Frames a1).Windows) s1.1).Start) > ((rdA_St27 x0.Frames a1).Length))))) = true) => elA_St27 (El.part (e := kd_St27) hB_4 2 x0.Frames (svO (svL [((sv0 0).1, (sv0 0).2), ((sv0 1).1, (sv0 1).2), ((sv0 2).1, (sv0 2).2), ((sv0 3).1, (sv0 3).2)]) 2) ⟨(hB_4).cont.2.2.1, (hB_4).cont.2.2.2.1, trivial⟩ rfl) (imp_spec hN_55 hg)
            refine drawn_ (live := [100, 65, 9, 39, 8, 32, 16, 7, 6, 3, 0, 1, 2]) (orc := [[.int .i64 ((rdA_St27 x0.Frames a1).Length)], [.int .i64 ((rdA_St27 x0.Frames a1).Length)]]) hF hI ⟨[⟨100, [], .v (.bool ((a2 == 15) && (((decide (((rd ((rdA_St27 x0.Frames a1).Windows) s1.1).Start) < 0) || decide (((rd ((rdA_St27 x0.Frames a1).Windows) s1.1).Len) < 1)) || decide (((rd ((rdA_St27 x0.Frames a1).Windows) s1.1).Start) > ((rdA_St27 x0.Frames a1).Length))) || decide (((rd ((rdA_St27 x0.Frames a1).Windows) s1.1).Len) > (IntKind.i64.wrap (((rdA_St27 x0.Frames a1).Length) - ((rd ((rdA_St27 x0.Frames a1).Windows) s1.1).Start)))))))⟩, ⟨65, [], .v (.bool ((a2 == 14) && ((!t_41) || (((rd x0.Parts ((rd ((rdA_St27 x0.Frames a1).Windows) s1.1).Part)).Core) != a1))))⟩, ⟨9, [], .p 0 0⟩, ⟨39, [], .v (.bool (decide (s1.1 < (((rdA_St27 x0.Frames a1).Windows).length : Int))))⟩, ⟨8, [], .v (.int .i64 s1.1)⟩, ⟨32, [], .v (.bool (a2 == 13))⟩, ⟨16, [], .v (.bool (a2 == 12))⟩, ⟨7, [], .v (.slice (((svO (svO (svL [((sv0 0).1, (sv0 0).2), ((sv0 1).1, (sv0 1).2), ((sv0 2).1, (sv0 2).2), ((sv0 3).1, (sv0 3).2)]) 2) ((a1 : Int).toNat * 1)) 0).1) ((rdA_St27 x0.Frames a1).Windows).length (((svO (svO (svL [((sv0 0).1, (sv0 0).2), ((sv0 1).1, (sv0 1).2), ((sv0 2).1, (sv0 2).2), ((sv0 3).1, (sv0 3).2)]) 2) ((a1 : Int).toNat * 1)) 0).2))⟩, ⟨6, [], .v (.bool s1.2)⟩, ⟨3, [], .v (.pointer (some B_3))⟩, ⟨0, [], .v (.agg ((kd_Config).cells x0 sv0).toArray)⟩, ⟨1, [], .v (.int .i64 a1)⟩, ⟨2, [], .v (.int .i64 a2)⟩], [], [], [((((kd_Window).cells (rd ((rdA_St27 x0.Frames a1).Windows) s1.1) sv_36).map EV.v), 88)], none, none⟩ [.need ((a2 == 15) && (!(decide (((rd ((rdA_St27 x0.Frames a1).Windows) s1.1).Start) < 0) || decide (((rd ((rdA_St27 x0.Frames a1).Windows) s1.1).Len) < 1)))) (0 ≤ a1 ∧ a1 < ((2 : Nat) : Int)), .cell ((a2 == 15) && (!(decide (((rd ((rdA_St27 x0.Frames a1).Windows) s1.1).Start) < 0) || decide (((rd ((rdA_St27 x0.Frames a1).Windows) s1.1).Len) < 1)))) ((B_3.add 2).add ((a1 : Int).toNat * 2)) [.int .i64 ((rdA_St27 x0.Frames a1).Length)], .need ((a2 == 15) && (!((decide (((rd ((rdA_St27 x0.Frames a1).Windows) s1.1).Start) < 0) || decide (((rd ((rdA_St27 x0.Frames a1).Windows) s1.1).Len) < 1)) || decide (((rd ((rdA_St27 x0.Frames a1).Windows) s1.1).Start) > ((rdA_St27 x0.Frames a1).Length))))) (0 ≤ a1 ∧ a1 < ((2 : Nat) : Int)), .cell ((a2 == 15) && (!((decide (((rd ((rdA_St27 x0.Frames a1).Windows) s1.1).Start) < 0) || decide (((rd ((rdA_St27 x0.Frames a1).Windows) s1.1).Len) < 1)) || decide (((rd ((rdA_St27 x0.Frames a1).Windows) s1.1).Start) > ((rdA_St27 x0.Frames a1).Length))))) ((B_3.add 2).add ((a1 : Int).toNat * 2)) [.int .i64 ((rdA_St27 x0.Frames a1).Length)]] (by kernel_rfl) (by kernel_rfl) (by kernel_rfl) ⟨ob_inb (fun hg => imp_spec hN_52 hg), ob_el (fun hg => hE_54 hg) 0 [.int .i64 ((rdA_St27 x0.Frames a1).Length)] rfl, ob_inb (fun hg => imp_spec hN_55 hg), ob_el (fun hg => hE_57 hg) 0 [.int .i64 ((rdA_St27 x0.Frames a1).Length)] rfl, trivial⟩ (fun a w_58 hI => ?_)
            refine then_normal ?_
            refine cond_ hI (((a2 == 15) && (((decide (((rd ((rdA_St27 x0.Frames a1).Windows) s1.1).Start) < 0) || decide (((rd ((rdA_St27 x0.Frames a1).Windows) s1.1).Len) < 1)) || decide (((rd ((rdA_St27 x0.Frames a1).Windows) s1.1).Start) > ((rdA_St27 x0.Frames a1).Length))) || decide (((rd ((rdA_St27 x0.Frames a1).Windows) s1.1).Len) > (IntKind.i64.wrap (((rdA_St27 x0.Frames a1).Length) - ((rd ((rdA_St27 x0.Frames a1).Windows) s1.1).Start))))))) rfl (fun hc_59 => ?_) (fun hc_59 => ?_)
            · replace H1 := bif_t hc_59 H1
              refine seq_region (live := [6, 100, 65, 9, 39, 8, 32, 16, 7, 3, 0, 1, 2]) (orc := []) hF hI ⟨[⟨6, [], .v (.bool true)⟩, ⟨100, [], .v (.bool ((a2 == 15) && (((decide (((rd ((rdA_St27 x0.Frames a1).Windows) s1.1).Start) < 0) || decide (((rd ((rdA_St27 x0.Frames a1).Windows) s1.1).Len) < 1)) || decide (((rd ((rdA_St27 x0.Frames a1).Windows) s1.1).Start) > ((rdA_St27 x0.Frames a1).Length))) || decide (((rd ((rdA_St27 x0.Frames a1).Windows) s1.1).Len) > (IntKind.i64.wrap (((rdA_St27 x0.Frames a1).Length) - ((rd ((rdA_St27 x0.Frames a1).Windows) s1.1).Start)))))))⟩, ⟨65, [], .v (.bool ((a2 == 14) && ((!t_41) || (((rd x0.Parts ((rd ((rdA_St27 x0.Frames a1).Windows) s1.1).Part)).Core) != a1))))⟩, ⟨9, [], .p 0 0⟩, ⟨39, [], .v (.bool (decide (s1.1 < (((rdA_St27 x0.Frames a1).Windows).length : Int))))⟩, ⟨8, [], .v (.int .i64 s1.1)⟩, ⟨32, [], .v (.bool (a2 == 13))⟩, ⟨16, [], .v (.bool (a2 == 12))⟩, ⟨7, [], .v (.slice (((svO (svO (svL [((sv0 0).1, (sv0 0).2), ((sv0 1).1, (sv0 1).2), ((sv0 2).1, (sv0 2).2), ((sv0 3).1, (sv0 3).2)]) 2) ((a1 : Int).toNat * 1)) 0).1) ((rdA_St27 x0.Frames a1).Windows).length (((svO (svO (svL [((sv0 0).1, (sv0 0).2), ((sv0 1).1, (sv0 1).2), ((sv0 2).1, (sv0 2).2), ((sv0 3).1, (sv0 3).2)]) 2) ((a1 : Int).toNat * 1)) 0).2))⟩, ⟨3, [], .v (.pointer (some B_3))⟩, ⟨0, [], .v (.agg ((kd_Config).cells x0 sv0).toArray)⟩, ⟨1, [], .v (.int .i64 a1)⟩, ⟨2, [], .v (.int .i64 a2)⟩], [], [], [((((kd_Window).cells (rd ((rdA_St27 x0.Frames a1).Windows) s1.1) sv_36).map EV.v), 88)], none, none⟩ [] (by kernel_rfl) trivial (fun ns_60 a w_61 hI _ => ?_)
              refine wpIn_ret ?_
              refine then_ret ?_
              refine inBlock_ret ?_
              refine then_ret ?_
              refine then_ret ?_
              obtain rfl := Option.some.inj H1
              refine .inr ⟨_, rfl, fun ho => ?_⟩
              subst ho
              refine inBlock_ret ?_
              refine then_ret ?_
              obtain rfl := Option.some.inj H0
              exact ret1 hI rfl rfl ⟨rfl, hE.below hI⟩
            · replace H1 := bif_f hc_59 H1
              refine wpIn_skip ?_
              refine then_normal ?_
              refine wpIn_seq ?_
              obtain ⟨t_62, hG_63, H1⟩ := bind_some H1
              obtain ⟨hN_64, H1⟩ := req_some H1
              obtain ⟨sv_65, hE_67, hA_66⟩ := Arr.elB (d := kd_Window) (hE_9).cont.1.1 (IntKind.i64.wrap (s1.1 - 1)) (((a2 == 16) && decide (s1.1 > 0)) && t_62) (fun hg => imp_spec hN_64 hg)
              obtain ⟨t_68, hG_69, H1⟩ := bind_some H1
              obtain ⟨hN_70, H1⟩ := req_some H1
              obtain ⟨sv_71, hE_73, hA_72⟩ := Arr.elB (d := kd_Window) (hE_9).cont.1.1 (IntKind.i64.wrap (s1.1 - 1)) ((((a2 == 16) && decide (s1.1 > 0)) && t_62) && t_68) (fun hg => imp_spec hN_70 hg)
              obtain ⟨t_74, hG_75, H1⟩ := bind_some H1
              obtain ⟨hN_76, H1⟩ := req_some H1
              obtain ⟨sv_77, hE_79, hA_78⟩ := Arr.elB (d := kd_Window) (hE_9).cont.1.1 (IntKind.i64.wrap (s1.1 - 1)) (((((a2 == 16) && decide (s1.1 > 0)) && t_62) && t_68) && t_74) (fun hg => imp_spec hN_76 hg)
              obtain ⟨hN_80, H1⟩ := req_some H1
              obtain ⟨sv_81, hE_83, hA_82⟩ := Arr.elB (d := kd_Window) (hE_9).cont.1.1 (IntKind.i64.wrap (s1.1 - 1)) (((((a2 == 16) && decide (s1.1 > 0)) && t_62) && t_68) && t_74) (fun hg => imp_spec hN_80 hg)
              refine drawn_ (live := [147, 100, 65, 9, 39, 8, 32, 16, 7, 6, 3, 0, 1, 2]) (orc := [[.bool t_62], [.int .i64 ((rd ((rdA_St27 x0.Frames a1).Windows) (IntKind.i64.wrap (s1.1 - 1))).Start)], [.bool t_68], [.int .i64 ((rd ((rdA_St27 x0.Frames a1).Windows) (IntKind.i64.wrap (s1.1 - 1))).Len)], [.bool t_74], [.int .i64 ((rd ((rdA_St27 x0.Frames a1).Windows) (IntKind.i64.wrap (s1.1 - 1))).Start)], [.int .i64 ((rd ((rdA_St27 x0.Frames a1).Windows) (IntKind.i64.wrap (s1.1 - 1))).Len)]]) hF hI ⟨[⟨147, [], .v (.bool ((((((a2 == 16) && decide (s1.1 > 0)) && t_62) && t_68) && t_74) && decide (((rd ((rdA_St27 x0.Frames a1).Windows) s1.1).Start) < (IntKind.i64.wrap (((rd ((rdA_St27 x0.Frames a1).Windows) (IntKind.i64.wrap (s1.1 - 1))).Start) + ((rd ((rdA_St27 x0.Frames a1).Windows) (IntKind.i64.wrap (s1.1 - 1))).Len))))))⟩, ⟨100, [], .v (.bool ((a2 == 15) && (((decide (((rd ((rdA_St27 x0.Frames a1).Windows) s1.1).Start) < 0) || decide (((rd ((rdA_St27 x0.Frames a1).Windows) s1.1).Len) < 1)) || decide (((rd ((rdA_St27 x0.Frames a1).Windows) s1.1).Start) > ((rdA_St27 x0.Frames a1).Length))) || decide (((rd ((rdA_St27 x0.Frames a1).Windows) s1.1).Len) > (IntKind.i64.wrap (((rdA_St27 x0.Frames a1).Length) - ((rd ((rdA_St27 x0.Frames a1).Windows) s1.1).Start)))))))⟩, ⟨65, [], .v (.bool ((a2 == 14) && ((!t_41) || (((rd x0.Parts ((rd ((rdA_St27 x0.Frames a1).Windows) s1.1).Part)).Core) != a1))))⟩, ⟨9, [], .p 0 0⟩, ⟨39, [], .v (.bool (decide (s1.1 < (((rdA_St27 x0.Frames a1).Windows).length : Int))))⟩, ⟨8, [], .v (.int .i64 s1.1)⟩, ⟨32, [], .v (.bool (a2 == 13))⟩, ⟨16, [], .v (.bool (a2 == 12))⟩, ⟨7, [], .v (.slice (((svO (svO (svL [((sv0 0).1, (sv0 0).2), ((sv0 1).1, (sv0 1).2), ((sv0 2).1, (sv0 2).2), ((sv0 3).1, (sv0 3).2)]) 2) ((a1 : Int).toNat * 1)) 0).1) ((rdA_St27 x0.Frames a1).Windows).length (((svO (svO (svL [((sv0 0).1, (sv0 0).2), ((sv0 1).1, (sv0 1).2), ((sv0 2).1, (sv0 2).2), ((sv0 3).1, (sv0 3).2)]) 2) ((a1 : Int).toNat * 1)) 0).2))⟩, ⟨6, [], .v (.bool s1.2)⟩, ⟨3, [], .v (.pointer (some B_3))⟩, ⟨0, [], .v (.agg ((kd_Config).cells x0 sv0).toArray)⟩, ⟨1, [], .v (.int .i64 a1)⟩, ⟨2, [], .v (.int .i64 a2)⟩], [], [], [((((kd_Window).cells (rd ((rdA_St27 x0.Frames a1).Windows) s1.1) sv_36).map EV.v), 88)], none, none⟩ [.call ((a2 == 16) && decide (s1.1 > 0)) 87 [.int .i64 ((rd ((rdA_St27 x0.Frames a1).Windows) s1.1).Start)] (.bool t_62), .need (((a2 == 16) && decide (s1.1 > 0)) && t_62) (0 ≤ (IntKind.i64.wrap (s1.1 - 1)) ∧ (IntKind.i64.wrap (s1.1 - 1)) < (((rdA_St27 x0.Frames a1).Windows).length : Int)), .need (((a2 == 16) && decide (s1.1 > 0)) && t_62) (((svO (svO (svL [((sv0 0).1, (sv0 0).2), ((sv0 1).1, (sv0 1).2), ((sv0 2).1, (sv0 2).2), ((sv0 3).1, (sv0 3).2)]) 2) ((a1 : Int).toNat * 1)) 0).1 = some (adr (((svO (svO (svL [((sv0 0).1, (sv0 0).2), ((sv0 1).1, (sv0 1).2), ((sv0 2).1, (sv0 2).2), ((sv0 3).1, (sv0 3).2)]) 2) ((a1 : Int).toNat * 1)) 0).1))), .cell (((a2 == 16) && decide (s1.1 > 0)) && t_62) (((adr (((svO (svO (svL [((sv0 0).1, (sv0 0).2), ((sv0 1).1, (sv0 1).2), ((sv0 2).1, (sv0 2).2), ((sv0 3).1, (sv0 3).2)]) 2) ((a1 : Int).toNat * 1)) 0).1)).add (((IntKind.i64.wrap (s1.1 - 1)) : Int).toNat * 3)).add 1) [.int .i64 ((rd ((rdA_St27 x0.Frames a1).Windows) (IntKind.i64.wrap (s1.1 - 1))).Start)], .call (((a2 == 16) && decide (s1.1 > 0)) && t_62) 87 [.int .i64 ((rd ((rdA_St27 x0.Frames a1).Windows) (IntKind.i64.wrap (s1.1 - 1))).Start)] (.bool t_68), .need ((((a2 == 16) && decide (s1.1 > 0)) && t_62) && t_68) (0 ≤ (IntKind.i64.wrap (s1.1 - 1)) ∧ (IntKind.i64.wrap (s1.1 - 1)) < (((rdA_St27 x0.Frames a1).Windows).length : Int)), .need ((((a2 == 16) && decide (s1.1 > 0)) && t_62) && t_68) (((svO (svO (svL [((sv0 0).1, (sv0 0).2), ((sv0 1).1, (sv0 1).2), ((sv0 2).1, (sv0 2).2), ((sv0 3).1, (sv0 3).2)]) 2) ((a1 : Int).toNat * 1)) 0).1 = some (adr (((svO (svO (svL [((sv0 0).1, (sv0 0).2), ((sv0 1).1, (sv0 1).2), ((sv0 2).1, (sv0 2).2), ((sv0 3).1, (sv0 3).2)]) 2) ((a1 : Int).toNat * 1)) 0).1))), .cell ((((a2 == 16) && decide (s1.1 > 0)) && t_62) && t_68) (((adr (((svO (svO (svL [((sv0 0).1, (sv0 0).2), ((sv0 1).1, (sv0 1).2), ((sv0 2).1, (sv0 2).2), ((sv0 3).1, (sv0 3).2)]) 2) ((a1 : Int).toNat * 1)) 0).1)).add (((IntKind.i64.wrap (s1.1 - 1)) : Int).toNat * 3)).add 2) [.int .i64 ((rd ((rdA_St27 x0.Frames a1).Windows) (IntKind.i64.wrap (s1.1 - 1))).Len)], .call ((((a2 == 16) && decide (s1.1 > 0)) && t_62) && t_68) 87 [.int .i64 ((rd ((rdA_St27 x0.Frames a1).Windows) (IntKind.i64.wrap (s1.1 - 1))).Len)] (.bool t_74), .need (((((a2 == 16) && decide (s1.1 > 0)) && t_62) && t_68) && t_74) (0 ≤ (IntKind.i64.wrap (s1.1 - 1)) ∧ (IntKind.i64.wrap (s1.1 - 1)) < (((rdA_St27 x0.Frames a1).Windows).length : Int)), .need (((((a2 == 16) && decide (s1.1 > 0)) && t_62) && t_68) && t_74) (((svO (svO (svL [((sv0 0).1, (sv0 0).2), ((sv0 1).1, (sv0 1).2), ((sv0 2).1, (sv0 2).2), ((sv0 3).1, (sv0 3).2)]) 2) ((a1 : Int).toNat * 1)) 0).1 = some (adr (((svO (svO (svL [((sv0 0).1, (sv0 0).2), ((sv0 1).1, (sv0 1).2), ((sv0 2).1, (sv0 2).2), ((sv0 3).1, (sv0 3).2)]) 2) ((a1 : Int).toNat * 1)) 0).1))), .cell (((((a2 == 16) && decide (s1.1 > 0)) && t_62) && t_68) && t_74) (((adr (((svO (svO (svL [((sv0 0).1, (sv0 0).2), ((sv0 1).1, (sv0 1).2), ((sv0 2).1, (sv0 2).2), ((sv0 3).1, (sv0 3).2)]) 2) ((a1 : Int).toNat * 1)) 0).1)).add (((IntKind.i64.wrap (s1.1 - 1)) : Int).toNat * 3)).add 1) [.int .i64 ((rd ((rdA_St27 x0.Frames a1).Windows) (IntKind.i64.wrap (s1.1 - 1))).Start)], .need (((((a2 == 16) && decide (s1.1 > 0)) && t_62) && t_68) && t_74) (0 ≤ (IntKind.i64.wrap (s1.1 - 1)) ∧ (IntKind.i64.wrap (s1.1 - 1)) < (((rdA_St27 x0.Frames a1).Windows).length : Int)), .need (((((a2 == 16) && decide (s1.1 > 0)) && t_62) && t_68) && t_74) (((svO (svO (svL [((sv0 0).1, (sv0 0).2), ((sv0 1).1, (sv0 1).2), ((sv0 2).1, (sv0 2).2), ((sv0 3).1, (sv0 3).2)]) 2) ((a1 : Int).toNat * 1)) 0).1 = some (adr (((svO (svO (svL [((sv0 0).1, (sv0 0).2), ((sv0 1).1, (sv0 1).2), ((sv0 2).1, (sv0 2).2), ((sv0 3).1, (sv0 3).2)]) 2) ((a1 : Int).toNat * 1)) 0).1))), .cell (((((a2 == 16) && decide (s1.1 > 0)) && t_62) && t_68) && t_74) (((adr (((svO (svO (svL [((sv0 0).1, (sv0 0).2), ((sv0 1).1, (sv0 1).2), ((sv0 2).1, (sv0 2).2), ((sv0 3).1, (sv0 3).2)]) 2) ((a1 : Int).toNat * 1)) 0).1)).add (((IntKind.i64.wrap (s1.1 - 1)) : Int).toNat * 3)).add 2) [.int .i64 ((rd ((rdA_St27 x0.Frames a1).Windows) (IntKind.i64.wrap (s1.1 - 1))).Len)]] (by kernel_rfl) (by kernel_rfl) (by kernel_rfl) ⟨ob_call (enters Try.func87 (by kernel_rfl) rfl) (fun hg wz hk => G_ref07_word.calls ((rd ((rdA_St27 x0.Frames a1).Windows) s1.1).Start)  wz (S := fun _ => True)  _ (cal_some hG_63 hg)), ob_inb (fun hg => imp_spec hN_64 hg), hA_66, ob_el (fun hg => hE_67 hg) 1 [.int .i64 ((rd ((rdA_St27 x0.Frames a1).Windows) (IntKind.i64.wrap (s1.1 - 1))).Start)] rfl, ob_call (enters Try.func87 (by kernel_rfl) rfl) (fun hg wz hk => G_ref07_word.calls ((rd ((rdA_St27 x0.Frames a1).Windows) (IntKind.i64.wrap (s1.1 - 1))).Start)  wz (S := fun _ => True)  _ (cal_some hG_69 hg)), ob_inb (fun hg => imp_spec hN_70 hg), hA_72, ob_el (fun hg => hE_73 hg) 2 [.int .i64 ((rd ((rdA_St27 x0.Frames a1).Windows) (IntKind.i64.wrap (s1.1 - 1))).Len)] rfl, ob_call (enters Try.func87 (by kernel_rfl) rfl) (fun hg wz hk => G_ref07_word.calls ((rd ((rdA_St27 x0.Frames a1).Windows) (IntKind.i64.wrap (s1.1 - 1))).Len)  wz (S := fun _ => True)  _ (cal_some hG_75 hg)), ob_inb (fun hg => imp_spec hN_76 hg), hA_78, ob_el (fun hg => hE_79 hg) 1 [.int .i64 ((rd ((rdA_St27 x0.Frames a1).Windows) (IntKind.i64.wrap (s1.1 - 1))).Start)] rfl, ob_inb (fun hg => imp_spec hN_80 hg), hA_82, ob_el (fun hg => hE_83 hg) 2 [.int .i64 ((rd ((rdA_St27 x0.Frames a1).Windows) (IntKind.i64.wrap (s1.1 - 1))).Len)] rfl, trivial⟩ (fun a w_84 hI => ?_)
              refine then_normal ?_
              refine cond_ hI (((((((a2 == 16) && decide (s1.1 > 0)) && t_62) && t_68) && t_74) && decide (((rd ((rdA_St27 x0.Frames a1).Windows) s1.1).Start) < (IntKind.i64.wrap (((rd ((rdA_St27 x0.Frames a1).Windows) (IntKind.i64.wrap (s1.1 - 1))).Start) + ((rd ((rdA_St27 x0.Frames a1).Windows) (IntKind.i64.wrap (s1.1 - 1))).Len)))))) rfl (fun hc_85 => ?_) (fun hc_85 => ?_)
              · replace H1 := bif_t hc_85 H1
                refine seq_region (live := [6, 147, 100, 65, 9, 39, 8, 32, 16, 7, 3, 0, 1, 2]) (orc := []) hF hI ⟨[⟨6, [], .v (.bool true)⟩, ⟨147, [], .v (.bool ((((((a2 == 16) && decide (s1.1 > 0)) && t_62) && t_68) && t_74) && decide (((rd ((rdA_St27 x0.Frames a1).Windows) s1.1).Start) < (IntKind.i64.wrap (((rd ((rdA_St27 x0.Frames a1).Windows) (IntKind.i64.wrap (s1.1 - 1))).Start) + ((rd ((rdA_St27 x0.Frames a1).Windows) (IntKind.i64.wrap (s1.1 - 1))).Len))))))⟩, ⟨100, [], .v (.bool ((a2 == 15) && (((decide (((rd ((rdA_St27 x0.Frames a1).Windows) s1.1).Start) < 0) || decide (((rd ((rdA_St27 x0.Frames a1).Windows) s1.1).Len) < 1)) || decide (((rd ((rdA_St27 x0.Frames a1).Windows) s1.1).Start) > ((rdA_St27 x0.Frames a1).Length))) || decide (((rd ((rdA_St27 x0.Frames a1).Windows) s1.1).Len) > (IntKind.i64.wrap (((rdA_St27 x0.Frames a1).Length) - ((rd ((rdA_St27 x0.Frames a1).Windows) s1.1).Start)))))))⟩, ⟨65, [], .v (.bool ((a2 == 14) && ((!t_41) || (((rd x0.Parts ((rd ((rdA_St27 x0.Frames a1).Windows) s1.1).Part)).Core) != a1))))⟩, ⟨9, [], .p 0 0⟩, ⟨39, [], .v (.bool (decide (s1.1 < (((rdA_St27 x0.Frames a1).Windows).length : Int))))⟩, ⟨8, [], .v (.int .i64 s1.1)⟩, ⟨32, [], .v (.bool (a2 == 13))⟩, ⟨16, [], .v (.bool (a2 == 12))⟩, ⟨7, [], .v (.slice (((svO (svO (svL [((sv0 0).1, (sv0 0).2), ((sv0 1).1, (sv0 1).2), ((sv0 2).1, (sv0 2).2), ((sv0 3).1, (sv0 3).2)]) 2) ((a1 : Int).toNat * 1)) 0).1) ((rdA_St27 x0.Frames a1).Windows).length (((svO (svO (svL [((sv0 0).1, (sv0 0).2), ((sv0 1).1, (sv0 1).2), ((sv0 2).1, (sv0 2).2), ((sv0 3).1, (sv0 3).2)]) 2) ((a1 : Int).toNat * 1)) 0).2))⟩, ⟨3, [], .v (.pointer (some B_3))⟩, ⟨0, [], .v (.agg ((kd_Config).cells x0 sv0).toArray)⟩, ⟨1, [], .v (.int .i64 a1)⟩, ⟨2, [], .v (.int .i64 a2)⟩], [], [], [((((kd_Window).cells (rd ((rdA_St27 x0.Frames a1).Windows) s1.1) sv_36).map EV.v), 88)], none, none⟩ [] (by kernel_rfl) trivial (fun ns_86 a w_87 hI _ => ?_)
                refine wpIn_ret ?_
                refine inBlock_ret ?_
                refine then_ret ?_
                refine then_ret ?_
                obtain rfl := Option.some.inj H1
                refine .inr ⟨_, rfl, fun ho => ?_⟩
                subst ho
                refine inBlock_ret ?_
                refine then_ret ?_
                obtain rfl := Option.some.inj H0
                exact ret1 hI rfl rfl ⟨rfl, hE.below hI⟩
              · replace H1 := bif_f hc_85 H1
                refine wpIn_skip ?_
                refine inBlock_normal ?_
                refine then_normal ?_
                refine region_ (live := [8, 147, 100, 65, 9, 39, 32, 16, 7, 6, 3, 0, 1, 2]) (orc := []) hF hI ⟨[⟨8, [], .v (.int .i64 (IntKind.i64.wrap (s1.1 + 1)))⟩, ⟨147, [], .v (.bool ((((((a2 == 16) && decide (s1.1 > 0)) && t_62) && t_68) && t_74) && decide (((rd ((rdA_St27 x0.Frames a1).Windows) s1.1).Start) < (IntKind.i64.wrap (((rd ((rdA_St27 x0.Frames a1).Windows) (IntKind.i64.wrap (s1.1 - 1))).Start) + ((rd ((rdA_St27 x0.Frames a1).Windows) (IntKind.i64.wrap (s1.1 - 1))).Len))))))⟩, ⟨100, [], .v (.bool ((a2 == 15) && (((decide (((rd ((rdA_St27 x0.Frames a1).Windows) s1.1).Start) < 0) || decide (((rd ((rdA_St27 x0.Frames a1).Windows) s1.1).Len) < 1)) || decide (((rd ((rdA_St27 x0.Frames a1).Windows) s1.1).Start) > ((rdA_St27 x0.Frames a1).Length))) || decide (((rd ((rdA_St27 x0.Frames a1).Windows) s1.1).Len) > (IntKind.i64.wrap (((rdA_St27 x0.Frames a1).Length) - ((rd ((rdA_St27 x0.Frames a1).Windows) s1.1).Start)))))))⟩, ⟨65, [], .v (.bool ((a2 == 14) && ((!t_41) || (((rd x0.Parts ((rd ((rdA_St27 x0.Frames a1).Windows) s1.1).Part)).Core) != a1))))⟩, ⟨9, [], .p 0 0⟩, ⟨39, [], .v (.bool (decide (s1.1 < (((rdA_St27 x0.Frames a1).Windows).length : Int))))⟩, ⟨32, [], .v (.bool (a2 == 13))⟩, ⟨16, [], .v (.bool (a2 == 12))⟩, ⟨7, [], .v (.slice (((svO (svO (svL [((sv0 0).1, (sv0 0).2), ((sv0 1).1, (sv0 1).2), ((sv0 2).1, (sv0 2).2), ((sv0 3).1, (sv0 3).2)]) 2) ((a1 : Int).toNat * 1)) 0).1) ((rdA_St27 x0.Frames a1).Windows).length (((svO (svO (svL [((sv0 0).1, (sv0 0).2), ((sv0 1).1, (sv0 1).2), ((sv0 2).1, (sv0 2).2), ((sv0 3).1, (sv0 3).2)]) 2) ((a1 : Int).toNat * 1)) 0).2))⟩, ⟨6, [], .v (.bool s1.2)⟩, ⟨3, [], .v (.pointer (some B_3))⟩, ⟨0, [], .v (.agg ((kd_Config).cells x0 sv0).toArray)⟩, ⟨1, [], .v (.int .i64 a1)⟩, ⟨2, [], .v (.int .i64 a2)⟩], [], [], [((((kd_Window).cells (rd ((rdA_St27 x0.Frames a1).Windows) s1.1) sv_36).map EV.v), 88)], none, none⟩ [] (by kernel_rfl) trivial (fun ns_88 a w_89 hI _ => ?_)
                refine then_normal ?_
                obtain rfl := Option.some.inj H1
                exact ⟨_, rfl, ⟨_, hI.pick [8, 32, 16, 7, 6, 3, 0, 1, 2] 0 ⟨[⟨8, [], .v (.int .i64 (IntKind.i64.wrap (s1.1 + 1)))⟩, ⟨32, [], .v (.bool (a2 == 13))⟩, ⟨16, [], .v (.bool (a2 == 12))⟩, ⟨7, [], .v (.slice (((svO (svO (svL [((sv0 0).1, (sv0 0).2), ((sv0 1).1, (sv0 1).2), ((sv0 2).1, (sv0 2).2), ((sv0 3).1, (sv0 3).2)]) 2) ((a1 : Int).toNat * 1)) 0).1) ((rdA_St27 x0.Frames a1).Windows).length (((svO (svO (svL [((sv0 0).1, (sv0 0).2), ((sv0 1).1, (sv0 1).2), ((sv0 2).1, (sv0 2).2), ((sv0 3).1, (sv0 3).2)]) 2) ((a1 : Int).toNat * 1)) 0).2))⟩, ⟨6, [], .v (.bool s1.2)⟩, ⟨3, [], .v (.pointer (some B_3))⟩, ⟨0, [], .v (.agg ((kd_Config).cells x0 sv0).toArray)⟩, ⟨1, [], .v (.int .i64 a1)⟩, ⟨2, [], .v (.int .i64 a2)⟩], [], [], [], none, none⟩ (by kernel_rfl)⟩⟩
        · replace H1 := bif_f hc_34 H1
          refine wpIn_exit ?_
          refine then_exit ?_
          refine then_exit ?_
          obtain rfl := Option.some.inj H1
          exact .inl ⟨_, rfl, rfl, ⟨_, hI.pick [8, 32, 16, 7, 6, 3, 0, 1, 2] 0 ⟨[⟨8, [], .v (.int .i64 s1.1)⟩, ⟨32, [], .v (.bool (a2 == 13))⟩, ⟨16, [], .v (.bool (a2 == 12))⟩, ⟨7, [], .v (.slice (((svO (svO (svL [((sv0 0).1, (sv0 0).2), ((sv0 1).1, (sv0 1).2), ((sv0 2).1, (sv0 2).2), ((sv0 3).1, (sv0 3).2)]) 2) ((a1 : Int).toNat * 1)) 0).1) ((rdA_St27 x0.Frames a1).Windows).length (((svO (svO (svL [((sv0 0).1, (sv0 0).2), ((sv0 1).1, (sv0 1).2), ((sv0 2).1, (sv0 2).2), ((sv0 3).1, (sv0 3).2)]) 2) ((a1 : Int).toNat * 1)) 0).2))⟩, ⟨6, [], .v (.bool s1.2)⟩, ⟨3, [], .v (.pointer (some B_3))⟩, ⟨0, [], .v (.agg ((kd_Config).cells x0 sv0).toArray)⟩, ⟨1, [], .v (.int .i64 a1)⟩, ⟨2, [], .v (.int .i64 a2)⟩], [], [], [], none, none⟩ (by kernel_rfl)⟩⟩
      · clear hI
        rintro s1 a w_92 ho ⟨ns_93, hI⟩
        subst ho
        replace H0 : (some false : Option (Bool)) = _ := H0
        refine then_normal ?_
        refine seq_region (live := [6, 8, 32, 16, 7, 3, 0, 1, 2]) (orc := []) hF hI ⟨[⟨6, [], .v (.bool false)⟩, ⟨8, [], .v (.int .i64 s1.1)⟩, ⟨32, [], .v (.bool (a2 == 13))⟩, ⟨16, [], .v (.bool (a2 == 12))⟩, ⟨7, [], .v (.slice (((svO (svO (svL [((sv0 0).1, (sv0 0).2), ((sv0 1).1, (sv0 1).2), ((sv0 2).1, (sv0 2).2), ((sv0 3).1, (sv0 3).2)]) 2) ((a1 : Int).toNat * 1)) 0).1) ((rdA_St27 x0.Frames a1).Windows).length (((svO (svO (svL [((sv0 0).1, (sv0 0).2), ((sv0 1).1, (sv0 1).2), ((sv0 2).1, (sv0 2).2), ((sv0 3).1, (sv0 3).2)]) 2) ((a1 : Int).toNat * 1)) 0).2))⟩, ⟨3, [], .v (.pointer (some B_3))⟩, ⟨0, [], .v (.agg ((kd_Config).cells x0 sv0).toArray)⟩, ⟨1, [], .v (.int .i64 a1)⟩, ⟨2, [], .v (.int .i64 a2)⟩], [], [], [], none, none⟩ [] (by kernel_rfl) trivial (fun ns_94 a w_95 hI _ => ?_)
        refine wpIn_ret ?_
        obtain rfl := Option.some.inj H0
        exact ret1 hI rfl rfl ⟨rfl, hE.below hI⟩

/-! ### porthole/portholeref07.Holds: function 55 -/
noncomputable def G_ref07_Holds.b1 (x0 : Config) (a1 : Int) (s1 : Int × Bool) : Option (Stp (Int × Bool) (Ex (Int × Bool) (Bool))) := (bif decide (s1.1 < (x0.Parts.length : Int)) then (req (inb s1.1 x0.Parts.length) ((cal (!((((a1 == 2) && (((rd x0.Parts s1.1).Core) != 0)) && (((rd x0.Parts s1.1).Core) != 1)) || ((a1 == 3) && (decide (((rd x0.Parts s1.1).Private) < 0) || decide (((rd x0.Parts s1.1).Private) > 64)))) && (a1 == 17)) (G_ref07_window x0 s1.1) default).bind fun t_24 => (bif (((((a1 == 2) && (((rd x0.Parts s1.1).Core) != 0)) && (((rd x0.Parts s1.1).Core) != 1)) || ((a1 == 3) && (decide (((rd x0.Parts s1.1).Private) < 0) || decide (((rd x0.Parts s1.1).Private) > 64)))) || ((a1 == 17) && (!t_24))) then some (.out (.ret true)) else some (.next ((IntKind.i64.wrap (s1.1 + 1)), s1.2))))) else some (.out (.brk (s1.1, s1.2))))
noncomputable def G_ref07_Holds (x0 : Config) (a1 : Int) : Option (Bool) := (bif (a1 == 1) then some (decide ((x0.Parts.length : Int) < 1) || decide ((x0.Parts.length : Int) > 6)) else (bif (((a1 == 2) || (a1 == 3)) || (a1 == 17)) then ((loopω (G_ref07_Holds.b1 x0 a1) (0, false)).bind fun o => o.on (fun s1 => some false) (fun r => some r)) else (bif (a1 == 4) then some (decide ((x0.Chans.length : Int) > 8)) else (bif (decide (a1 ≥ 5) && decide (a1 ≤ 11)) then ((G_ref07_chans x0 a1).bind fun t_48 => some t_48) else (bif (decide (a1 ≥ 12) && decide (a1 ≤ 16)) then ((G_ref07_windows x0 0 a1).bind fun t_55 => ((cal (!t_55) (G_ref07_windows x0 1 a1) default).bind fun t_57 => some (t_55 || t_57))) else some false)))))
set_option maxRecDepth 100000 in
set_option maxHeartbeats 4000000 in
theorem G_ref07_Holds.calls (x0 : Config) (a1 : Int) (sv0 : SV) (w : World) {S : Nat → Prop} (hx0 : (kd_Config).cont S w x0 sv0) (r : Bool) (h : G_ref07_Holds x0 a1 = some r) :
    Calls Try.prog 55 #[.agg ((kd_Config).cells x0 (svL [((sv0 0).1, (sv0 0).2), ((sv0 1).1, (sv0 1).2), ((sv0 2).1, (sv0 2).2), ((sv0 3).1, (sv0 3).2)])).toArray, .int .i64 a1] w fun e w' => e = .returned (.bool r) ∧ Below w.heap.size w w' := by
  replace hx0 := Kd.lo _ hx0
  unfold G_ref07_Holds at h
  have H0 := h
  clear h
  refine enter Try.func55 rfl [.agg ((kd_Config).cells x0 (svL [((sv0 0).1, (sv0 0).2), ((sv0 1).1, (sv0 1).2), ((sv0 2).1, (sv0 2).2), ((sv0 3).1, (sv0 3).2)])).toArray, .int .i64 a1] (n := 111) rfl (Nat.le_of_ble_eq_true rfl) (fun a hI => ?_)
  have hF : FOpen Fence.wide := .inl rfl
  have hE := Ep.start w
  refine seq_region (live := [4, 2, 0, 1]) (orc := []) hF hI ⟨[⟨4, [], .v (.bool false)⟩, ⟨2, [], .p 0 0⟩, ⟨0, [], .v (.agg ((kd_Config).cells x0 sv0).toArray)⟩, ⟨1, [], .v (.int .i64 a1)⟩], [], [], [((((kd_Config).cells x0 sv0).map EV.v), 29)], none, none⟩ [] (by kernel_rfl) trivial (fun ns_1 a w_2 hI _ => ?_)
  refine wpIn_seq ?_
  refine wpIn_block ?_
  refine seq_region (live := [7, 4, 2, 0, 1]) (orc := []) hF hI ⟨[⟨7, [], .v (.bool (a1 == 1))⟩, ⟨4, [], .v (.bool false)⟩, ⟨2, [], .p 0 0⟩, ⟨0, [], .v (.agg ((kd_Config).cells x0 sv0).toArray)⟩, ⟨1, [], .v (.int .i64 a1)⟩], [], [], [((((kd_Config).cells x0 sv0).map EV.v), 29)], none, none⟩ [] (by kernel_rfl) trivial (fun ns_3 a w_4 hI _ => ?_)
  refine cond_ hI ((a1 == 1)) rfl (fun hc_5 => ?_) (fun hc_5 => ?_)
  · replace H0 := bif_t hc_5 H0
    refine seq_region (live := [4, 7, 2, 0, 1]) (orc := []) hF hI ⟨[⟨4, [], .v (.bool (decide ((x0.Parts.length : Int) < 1) || decide ((x0.Parts.length : Int) > 6)))⟩, ⟨7, [], .v (.bool (a1 == 1))⟩, ⟨2, [], .p 0 0⟩, ⟨0, [], .v (.agg ((kd_Config).cells x0 sv0).toArray)⟩, ⟨1, [], .v (.int .i64 a1)⟩], [], [], [((((kd_Config).cells x0 sv0).map EV.v), 29)], none, none⟩ [] (by kernel_rfl) trivial (fun ns_6 a w_7 hI _ => ?_)
    refine wpIn_ret ?_
    refine inBlock_ret ?_
    refine then_ret ?_
    obtain rfl := Option.some.inj H0
    exact ret1 hI rfl rfl ⟨rfl, hE.below hI⟩
  · replace H0 := bif_f hc_5 H0
    refine seq_region (live := [20, 7, 4, 2, 0, 1]) (orc := []) hF hI ⟨[⟨20, [], .v (.bool (((a1 == 2) || (a1 == 3)) || (a1 == 17)))⟩, ⟨7, [], .v (.bool (a1 == 1))⟩, ⟨4, [], .v (.bool false)⟩, ⟨2, [], .p 0 0⟩, ⟨0, [], .v (.agg ((kd_Config).cells x0 sv0).toArray)⟩, ⟨1, [], .v (.int .i64 a1)⟩], [], [], [((((kd_Config).cells x0 sv0).map EV.v), 29)], none, none⟩ [] (by kernel_rfl) trivial (fun ns_8 a w_9 hI _ => ?_)
    refine cond_ hI ((((a1 == 2) || (a1 == 3)) || (a1 == 17))) rfl (fun hc_10 => ?_) (fun hc_10 => ?_)
    · replace H0 := bif_t hc_10 H0
      refine seq_region (live := [5, 20, 7, 4, 2, 0, 1]) (orc := []) hF hI ⟨[⟨5, [], .v (.int .i64 0)⟩, ⟨20, [], .v (.bool (((a1 == 2) || (a1 == 3)) || (a1 == 17)))⟩, ⟨7, [], .v (.bool (a1 == 1))⟩, ⟨4, [], .v (.bool false)⟩, ⟨2, [], .p 0 0⟩, ⟨0, [], .v (.agg ((kd_Config).cells x0 sv0).toArray)⟩, ⟨1, [], .v (.int .i64 a1)⟩], [], [], [((((kd_Config).cells x0 sv0).map EV.v), 29)], none, none⟩ [] (by kernel_rfl) trivial (fun ns_11 a w_12 hI _ => ?_)
      obtain ⟨o_33, hL_34, H0⟩ := bind_some H0
      refine block_loop (fun (s1 : Int × Bool) a w_39 => ∃ ns, St w [] 111 ⟨[⟨5, [], .v (.int .i64 s1.1)⟩, ⟨20, [], .v (.bool (((a1 == 2) || (a1 == 3)) || (a1 == 17)))⟩, ⟨7, [], .v (.bool (a1 == 1))⟩, ⟨4, [], .v (.bool s1.2)⟩, ⟨2, [], .p 0 0⟩, ⟨0, [], .v (.agg ((kd_Config).cells x0 (svL [((sv0 0).1, (sv0 0).2), ((sv0 1).1, (sv0 1).2), ((sv0 2).1, (sv0 2).2), ((sv0 3).1, (sv0 3).2)])).toArray)⟩, ⟨1, [], .v (.int .i64 a1)⟩], [], [], [((((kd_Config).cells x0 sv0).map EV.v), 29)], none, none⟩ ns a w_39) (0, false) hL_34 ⟨_, hI.pick [5, 20, 7, 4, 2, 0, 1] 1 ⟨[⟨5, [], .v (.int .i64 0)⟩, ⟨20, [], .v (.bool (((a1 == 2) || (a1 == 3)) || (a1 == 17)))⟩, ⟨7, [], .v (.bool (a1 == 1))⟩, ⟨4, [], .v (.bool false)⟩, ⟨2, [], .p 0 0⟩, ⟨0, [], .v (.agg ((kd_Config).cells x0 (svL [((sv0 0).1, (sv0 0).2), ((sv0 1).1, (sv0 1).2), ((sv0 2).1, (sv0 2).2), ((sv0 3).1, (sv0 3).2)])).toArray)⟩, ⟨1, [], .v (.int .i64 a1)⟩], [], [], [((((kd_Config).cells x0 sv0).map EV.v), 29)], none, none⟩ (by kernel_rfl)⟩ ?_ ?_
      · clear hI
        rintro s1 a w_13 ⟨ns_14, hI⟩ r1 H1
        unfold G_ref07_Holds.b1 at H1
        refine wpIn_seq ?_
        refine seq_region (live := [35, 5, 20, 7, 4, 2, 0, 1]) (orc := []) hF hI ⟨[⟨35, [], .v (.bool (decide (s1.1 < (x0.Parts.length : Int))))⟩, ⟨5, [], .v (.int .i64 s1.1)⟩, ⟨20, [], .v (.bool (((a1 == 2) || (a1 == 3)) || (a1 == 17)))⟩, ⟨7, [], .v (.bool (a1 == 1))⟩, ⟨4, [], .v (.bool s1.2)⟩, ⟨2, [], .p 0 0⟩, ⟨0, [], .v (.agg ((kd_Config).cells x0 sv0).toArray)⟩, ⟨1, [], .v (.int .i64 a1)⟩], [], [], [((((kd_Config).cells x0 sv0).map EV.v), 29)], none, none⟩ [] (by kernel_rfl) trivial (fun ns_15 a w_16 hI _ => ?_)
        refine cond_ hI (decide (s1.1 < (x0.Parts.length : Int))) rfl (fun hc_17 => ?_) (fun hc_17 => ?_)
        · replace H1 := bif_t hc_17 H1
          refine wpIn_skip ?_
          refine then_normal ?_
          refine wpIn_seq ?_
          refine wpIn_block ?_
          obtain ⟨hN_18, H1⟩ := req_some H1
          obtain ⟨sv_19, hE_21, hA_20⟩ := Arr.elB (d := kd_Part) hx0.1.1 s1.1 true (fun _ => hN_18)
          replace hE_21 := hE_21 rfl
          replace hA_20 := fun (_ : true = true) => hA_20 rfl
          refine seq_region (live := [6, 35, 5, 20, 7, 4, 2, 0, 1]) (orc := [(kd_Part).cells (rd x0.Parts s1.1) sv_19]) hF hI ⟨[⟨6, [], .p 1 0⟩, ⟨35, [], .v (.bool (decide (s1.1 < (x0.Parts.length : Int))))⟩, ⟨5, [], .v (.int .i64 s1.1)⟩, ⟨20, [], .v (.bool (((a1 == 2) || (a1 == 3)) || (a1 == 17)))⟩, ⟨7, [], .v (.bool (a1 == 1))⟩, ⟨4, [], .v (.bool s1.2)⟩, ⟨2, [], .p 0 0⟩, ⟨0, [], .v (.agg ((kd_Config).cells x0 sv0).toArray)⟩, ⟨1, [], .v (.int .i64 a1)⟩], [], [], [((((kd_Config).cells x0 sv0).map EV.v), 29), ((((kd_Part).cells (rd x0.Parts s1.1) sv_19).map EV.v), 86)], none, none⟩ [.need true (0 ≤ s1.1 ∧ s1.1 < (x0.Parts.length : Int)), .need true ((sv0 0).1 = some (adr ((sv0 0).1))), .cell true ((adr ((sv0 0).1)).add ((s1.1 : Int).toNat * 2)) ((kd_Part).cells (rd x0.Parts s1.1) sv_19)] (by kernel_rfl) ⟨ob_inb (fun _ => hN_18), hA_20, ob_el (fun _ => hE_21) 0 ((kd_Part).cells (rd x0.Parts s1.1) sv_19) rfl, trivial⟩ (fun ns_22 a w_23 hI _ => ?_)
          obtain ⟨t_24, hG_25, H1⟩ := bind_some H1
          refine seq_region (live := [78, 6, 35, 5, 20, 7, 4, 2, 0, 1]) (orc := [[.bool t_24]]) hF hI ⟨[⟨78, [], .v (.bool (((((a1 == 2) && (((rd x0.Parts s1.1).Core) != 0)) && (((rd x0.Parts s1.1).Core) != 1)) || ((a1 == 3) && (decide (((rd x0.Parts s1.1).Private) < 0) || decide (((rd x0.Parts s1.1).Private) > 64)))) || ((a1 == 17) && (!t_24))))⟩, ⟨6, [], .p 1 0⟩, ⟨35, [], .v (.bool (decide (s1.1 < (x0.Parts.length : Int))))⟩, ⟨5, [], .v (.int .i64 s1.1)⟩, ⟨20, [], .v (.bool (((a1 == 2) || (a1 == 3)) || (a1 == 17)))⟩, ⟨7, [], .v (.bool (a1 == 1))⟩, ⟨4, [], .v (.bool s1.2)⟩, ⟨2, [], .p 0 0⟩, ⟨0, [], .v (.agg ((kd_Config).cells x0 (svL [((sv0 0).1, (sv0 0).2), ((sv0 1).1, (sv0 1).2), ((sv0 2).1, (sv0 2).2), ((sv0 3).1, (sv0 3).2)])).toArray)⟩, ⟨1, [], .v (.int .i64 a1)⟩], [], [], [((((kd_Config).cells x0 sv0).map EV.v), 29), ((((kd_Part).cells (rd x0.Parts s1.1) sv_19).map EV.v), 86)], none, none⟩ [.call (!((((a1 == 2) && (((rd x0.Parts s1.1).Core) != 0)) && (((rd x0.Parts s1.1).Core) != 1)) || ((a1 == 3) && (decide (((rd x0.Parts s1.1).Private) < 0) || decide (((rd x0.Parts s1.1).Private) > 64)))) && (a1 == 17)) 72 [.agg ((kd_Config).cells x0 (svL [((sv0 0).1, (sv0 0).2), ((sv0 1).1, (sv0 1).2), ((sv0 2).1, (sv0 2).2), ((sv0 3).1, (sv0 3).2)])).toArray, .int .i64 s1.1] (.bool t_24)] (by kernel_rfl) ⟨ob_call (enters Try.func72 (by kernel_rfl) rfl) (fun hg wz hk => G_ref07_window.calls x0 s1.1 (svL [((sv0 0).1, (sv0 0).2), ((sv0 1).1, (sv0 1).2), ((sv0 2).1, (sv0 2).2), ((sv0 3).1, (sv0 3).2)]) wz (S := fun _ => True) (Kd.any _ (Kd.keep kd_Config (contI (S := Lo S w w [] []) (w := w) (d := kd_Config) (x := x0) (sv := (svL [((sv0 0).1, (sv0 0).2), ((sv0 1).1, (sv0 1).2), ((sv0 2).1, (sv0 2).2), ((sv0 3).1, (sv0 3).2)])) ⟨⟨hx0.1.1, hx0.1.2⟩, ⟨hx0.2.1.1, hx0.2.1.2⟩, ⟨hx0.2.2.1.1, hx0.2.2.1.2⟩, ⟨hx0.2.2.2.1.1, hx0.2.2.2.1.2⟩, trivial⟩) (Lo.on hk))) _ (cal_some hG_25 hg)), trivial⟩ (fun ns_26 a w_27 hI _ => ?_)
          refine cond_ hI ((((((a1 == 2) && (((rd x0.Parts s1.1).Core) != 0)) && (((rd x0.Parts s1.1).Core) != 1)) || ((a1 == 3) && (decide (((rd x0.Parts s1.1).Private) < 0) || decide (((rd x0.Parts s1.1).Private) > 64)))) || ((a1 == 17) && (!t_24)))) rfl (fun hc_28 => ?_) (fun hc_28 => ?_)
          · replace H1 := bif_t hc_28 H1
            refine seq_region (live := [4, 78, 6, 35, 5, 20, 7, 2, 0, 1]) (orc := []) hF hI ⟨[⟨4, [], .v (.bool true)⟩, ⟨78, [], .v (.bool (((((a1 == 2) && (((rd x0.Parts s1.1).Core) != 0)) && (((rd x0.Parts s1.1).Core) != 1)) || ((a1 == 3) && (decide (((rd x0.Parts s1.1).Private) < 0) || decide (((rd x0.Parts s1.1).Private) > 64)))) || ((a1 == 17) && (!t_24))))⟩, ⟨6, [], .p 1 0⟩, ⟨35, [], .v (.bool (decide (s1.1 < (x0.Parts.length : Int))))⟩, ⟨5, [], .v (.int .i64 s1.1)⟩, ⟨20, [], .v (.bool (((a1 == 2) || (a1 == 3)) || (a1 == 17)))⟩, ⟨7, [], .v (.bool (a1 == 1))⟩, ⟨2, [], .p 0 0⟩, ⟨0, [], .v (.agg ((kd_Config).cells x0 (svL [((sv0 0).1, (sv0 0).2), ((sv0 1).1, (sv0 1).2), ((sv0 2).1, (sv0 2).2), ((sv0 3).1, (sv0 3).2)])).toArray)⟩, ⟨1, [], .v (.int .i64 a1)⟩], [], [], [((((kd_Config).cells x0 sv0).map EV.v), 29), ((((kd_Part).cells (rd x0.Parts s1.1) sv_19).map EV.v), 86)], none, none⟩ [] (by kernel_rfl) trivial (fun ns_29 a w_30 hI _ => ?_)
            refine wpIn_ret ?_
            refine inBlock_ret ?_
            refine then_ret ?_
            refine then_ret ?_
            obtain rfl := Option.some.inj H1
            refine .inr ⟨_, rfl, fun ho => ?_⟩
            subst ho
            refine inBlock_ret ?_
            refine inBlock_ret ?_
            refine then_ret ?_
            obtain rfl := Option.some.inj H0
            exact ret1 hI rfl rfl ⟨rfl, hE.below hI⟩
          · replace H1 := bif_f hc_28 H1
            refine wpIn_skip ?_
            refine inBlock_normal ?_
            refine then_normal ?_
            refine region_ (live := [5, 78, 6, 35, 20, 7, 4, 2, 0, 1]) (orc := []) hF hI ⟨[⟨5, [], .v (.int .i64 (IntKind.i64.wrap (s1.1 + 1)))⟩, ⟨78, [], .v (.bool (((((a1 == 2) && (((rd x0.Parts s1.1).Core) != 0)) && (((rd x0.Parts s1.1).Core) != 1)) || ((a1 == 3) && (decide (((rd x0.Parts s1.1).Private) < 0) || decide (((rd x0.Parts s1.1).Private) > 64)))) || ((a1 == 17) && (!t_24))))⟩, ⟨6, [], .p 1 0⟩, ⟨35, [], .v (.bool (decide (s1.1 < (x0.Parts.length : Int))))⟩, ⟨20, [], .v (.bool (((a1 == 2) || (a1 == 3)) || (a1 == 17)))⟩, ⟨7, [], .v (.bool (a1 == 1))⟩, ⟨4, [], .v (.bool s1.2)⟩, ⟨2, [], .p 0 0⟩, ⟨0, [], .v (.agg ((kd_Config).cells x0 (svL [((sv0 0).1, (sv0 0).2), ((sv0 1).1, (sv0 1).2), ((sv0 2).1, (sv0 2).2), ((sv0 3).1, (sv0 3).2)])).toArray)⟩, ⟨1, [], .v (.int .i64 a1)⟩], [], [], [((((kd_Config).cells x0 sv0).map EV.v), 29), ((((kd_Part).cells (rd x0.Parts s1.1) sv_19).map EV.v), 86)], none, none⟩ [] (by kernel_rfl) trivial (fun ns_31 a w_32 hI _ => ?_)
            refine then_normal ?_
            obtain rfl := Option.some.inj H1
            exact ⟨_, rfl, ⟨_, hI.pick [5, 20, 7, 4, 2, 0, 1] 1 ⟨[⟨5, [], .v (.int .i64 (IntKind.i64.wrap (s1.1 + 1)))⟩, ⟨20, [], .v (.bool (((a1 == 2) || (a1 == 3)) || (a1 == 17)))⟩, ⟨7, [], .v (.bool (a1 == 1))⟩, ⟨4, [], .v (.bool s1.2)⟩, ⟨2, [], .p 0 0⟩, ⟨0, [], .v (.agg ((kd_Config).cells x0 (svL [((sv0 0).1, (sv0 0).2), ((sv0 1).1, (sv0 1).2), ((sv0 2).1, (sv0 2).2), ((sv0 3).1, (sv0 3).2)])).toArray)⟩, ⟨1, [], .v (.int .i64 a1)⟩], [], [], [((((kd_Config).cells x0 sv0).map EV.v), 29)], none, none⟩ (by kernel_rfl)⟩⟩
        · replace H1 := bif_f hc_17 H1
          refine wpIn_exit ?_
          refine then_exit ?_
          refine then_exit ?_
          obtain rfl := Option.some.inj H1
          exact .inl ⟨_, rfl, rfl, ⟨_, hI.pick [5, 20, 7, 4, 2, 0, 1] 1 ⟨[⟨5, [], .v (.int .i64 s1.1)⟩, ⟨20, [], .v (.bool (((a1 == 2) || (a1 == 3)) || (a1 == 17)))⟩, ⟨7, [], .v (.bool (a1 == 1))⟩, ⟨4, [], .v (.bool s1.2)⟩, ⟨2, [], .p 0 0⟩, ⟨0, [], .v (.agg ((kd_Config).cells x0 (svL [((sv0 0).1, (sv0 0).2), ((sv0 1).1, (sv0 1).2), ((sv0 2).1, (sv0 2).2), ((sv0 3).1, (sv0 3).2)])).toArray)⟩, ⟨1, [], .v (.int .i64 a1)⟩], [], [], [((((kd_Config).cells x0 sv0).map EV.v), 29)], none, none⟩ (by kernel_rfl)⟩⟩
      · clear hI
        rintro s1 a w_35 ho ⟨ns_36, hI⟩
        subst ho
        replace H0 : (some false : Option (Bool)) = _ := H0
        refine inBlock_normal ?_
        refine then_normal ?_
        refine seq_region (live := [4, 5, 20, 7, 2, 0, 1]) (orc := []) hF hI ⟨[⟨4, [], .v (.bool false)⟩, ⟨5, [], .v (.int .i64 s1.1)⟩, ⟨20, [], .v (.bool (((a1 == 2) || (a1 == 3)) || (a1 == 17)))⟩, ⟨7, [], .v (.bool (a1 == 1))⟩, ⟨2, [], .p 0 0⟩, ⟨0, [], .v (.agg ((kd_Config).cells x0 (svL [((sv0 0).1, (sv0 0).2), ((sv0 1).1, (sv0 1).2), ((sv0 2).1, (sv0 2).2), ((sv0 3).1, (sv0 3).2)])).toArray)⟩, ⟨1, [], .v (.int .i64 a1)⟩], [], [], [((((kd_Config).cells x0 sv0).map EV.v), 29)], none, none⟩ [] (by kernel_rfl) trivial (fun ns_37 a w_38 hI _ => ?_)
        refine wpIn_ret ?_
        obtain rfl := Option.some.inj H0
        exact ret1 hI rfl rfl ⟨rfl, hE.below hI⟩
    · replace H0 := bif_f hc_10 H0
      refine seq_region (live := [79, 20, 7, 4, 2, 0, 1]) (orc := []) hF hI ⟨[⟨79, [], .v (.bool (a1 == 4))⟩, ⟨20, [], .v (.bool (((a1 == 2) || (a1 == 3)) || (a1 == 17)))⟩, ⟨7, [], .v (.bool (a1 == 1))⟩, ⟨4, [], .v (.bool false)⟩, ⟨2, [], .p 0 0⟩, ⟨0, [], .v (.agg ((kd_Config).cells x0 (svL [((sv0 0).1, (sv0 0).2), ((sv0 1).1, (sv0 1).2), ((sv0 2).1, (sv0 2).2), ((sv0 3).1, (sv0 3).2)])).toArray)⟩, ⟨1, [], .v (.int .i64 a1)⟩], [], [], [((((kd_Config).cells x0 sv0).map EV.v), 29)], none, none⟩ [] (by kernel_rfl) trivial (fun ns_40 a w_41 hI _ => ?_)
      refine cond_ hI ((a1 == 4)) rfl (fun hc_42 => ?_) (fun hc_42 => ?_)
      · replace H0 := bif_t hc_42 H0
        refine seq_region (live := [4, 79, 20, 7, 2, 0, 1]) (orc := []) hF hI ⟨[⟨4, [], .v (.bool (decide ((x0.Chans.length : Int) > 8)))⟩, ⟨79, [], .v (.bool (a1 == 4))⟩, ⟨20, [], .v (.bool (((a1 == 2) || (a1 == 3)) || (a1 == 17)))⟩, ⟨7, [], .v (.bool (a1 == 1))⟩, ⟨2, [], .p 0 0⟩, ⟨0, [], .v (.agg ((kd_Config).cells x0 (svL [((sv0 0).1, (sv0 0).2), ((sv0 1).1, (sv0 1).2), ((sv0 2).1, (sv0 2).2), ((sv0 3).1, (sv0 3).2)])).toArray)⟩, ⟨1, [], .v (.int .i64 a1)⟩], [], [], [((((kd_Config).cells x0 sv0).map EV.v), 29)], none, none⟩ [] (by kernel_rfl) trivial (fun ns_43 a w_44 hI _ => ?_)
        refine wpIn_ret ?_
        refine inBlock_ret ?_
        refine then_ret ?_
        obtain rfl := Option.some.inj H0
        exact ret1 hI rfl rfl ⟨rfl, hE.below hI⟩
      · replace H0 := bif_f hc_42 H0
        refine seq_region (live := [86, 79, 20, 7, 4, 2, 0, 1]) (orc := []) hF hI ⟨[⟨86, [], .v (.bool (decide (a1 ≥ 5) && decide (a1 ≤ 11)))⟩, ⟨79, [], .v (.bool (a1 == 4))⟩, ⟨20, [], .v (.bool (((a1 == 2) || (a1 == 3)) || (a1 == 17)))⟩, ⟨7, [], .v (.bool (a1 == 1))⟩, ⟨4, [], .v (.bool false)⟩, ⟨2, [], .p 0 0⟩, ⟨0, [], .v (.agg ((kd_Config).cells x0 (svL [((sv0 0).1, (sv0 0).2), ((sv0 1).1, (sv0 1).2), ((sv0 2).1, (sv0 2).2), ((sv0 3).1, (sv0 3).2)])).toArray)⟩, ⟨1, [], .v (.int .i64 a1)⟩], [], [], [((((kd_Config).cells x0 sv0).map EV.v), 29)], none, none⟩ [] (by kernel_rfl) trivial (fun ns_45 a w_46 hI _ => ?_)
        refine cond_ hI ((decide (a1 ≥ 5) && decide (a1 ≤ 11))) rfl (fun hc_47 => ?_) (fun hc_47 => ?_)
        · replace H0 := bif_t hc_47 H0
          obtain ⟨t_48, hG_49, H0⟩ := bind_some H0
          refine seq_region (live := [4, 86, 79, 20, 7, 2, 0, 1]) (orc := [[.bool t_48]]) hF hI ⟨[⟨4, [], .v (.bool t_48)⟩, ⟨86, [], .v (.bool (decide (a1 ≥ 5) && decide (a1 ≤ 11)))⟩, ⟨79, [], .v (.bool (a1 == 4))⟩, ⟨20, [], .v (.bool (((a1 == 2) || (a1 == 3)) || (a1 == 17)))⟩, ⟨7, [], .v (.bool (a1 == 1))⟩, ⟨2, [], .p 0 0⟩, ⟨0, [], .v (.agg ((kd_Config).cells x0 (svL [((sv0 0).1, (sv0 0).2), ((sv0 1).1, (sv0 1).2), ((sv0 2).1, (sv0 2).2), ((sv0 3).1, (sv0 3).2)])).toArray)⟩, ⟨1, [], .v (.int .i64 a1)⟩], [], [], [((((kd_Config).cells x0 sv0).map EV.v), 29)], none, none⟩ [.call true 73 [.agg ((kd_Config).cells x0 (svL [((sv0 0).1, (sv0 0).2), ((sv0 1).1, (sv0 1).2), ((sv0 2).1, (sv0 2).2), ((sv0 3).1, (sv0 3).2)])).toArray, .int .i64 a1] (.bool t_48)] (by kernel_rfl) ⟨ob_call (enters Try.func73 (by kernel_rfl) rfl) (fun hg wz hk => G_ref07_chans.calls x0 a1 (svL [((sv0 0).1, (sv0 0).2), ((sv0 1).1, (sv0 1).2), ((sv0 2).1, (sv0 2).2), ((sv0 3).1, (sv0 3).2)]) wz (S := fun _ => True) (Kd.any _ (Kd.keep kd_Config (contI (S := Lo S w w [] []) (w := w) (d := kd_Config) (x := x0) (sv := (svL [((sv0 0).1, (sv0 0).2), ((sv0 1).1, (sv0 1).2), ((sv0 2).1, (sv0 2).2), ((sv0 3).1, (sv0 3).2)])) ⟨⟨hx0.1.1, hx0.1.2⟩, ⟨hx0.2.1.1, hx0.2.1.2⟩, ⟨hx0.2.2.1.1, hx0.2.2.1.2⟩, ⟨hx0.2.2.2.1.1, hx0.2.2.2.1.2⟩, trivial⟩) (Lo.on hk))) _ hG_49), trivial⟩ (fun ns_50 a w_51 hI _ => ?_)
          refine wpIn_ret ?_
          refine inBlock_ret ?_
          refine then_ret ?_
          obtain rfl := Option.some.inj H0
          exact ret1 hI rfl rfl ⟨rfl, hE.below hI⟩
        · replace H0 := bif_f hc_47 H0
          refine seq_region (live := [96, 86, 79, 20, 7, 4, 2, 0, 1]) (orc := []) hF hI ⟨[⟨96, [], .v (.bool (decide (a1 ≥ 12) && decide (a1 ≤ 16)))⟩, ⟨86, [], .v (.bool (decide (a1 ≥ 5) && decide (a1 ≤ 11)))⟩, ⟨79, [], .v (.bool (a1 == 4))⟩, ⟨20, [], .v (.bool (((a1 == 2) || (a1 == 3)) || (a1 == 17)))⟩, ⟨7, [], .v (.bool (a1 == 1))⟩, ⟨4, [], .v (.bool false)⟩, ⟨2, [], .p 0 0⟩, ⟨0, [], .v (.agg ((kd_Config).cells x0 (svL [((sv0 0).1, (sv0 0).2), ((sv0 1).1, (sv0 1).2), ((sv0 2).1, (sv0 2).2), ((sv0 3).1, (sv0 3).2)])).toArray)⟩, ⟨1, [], .v (.int .i64 a1)⟩], [], [], [((((kd_Config).cells x0 sv0).map EV.v), 29)], none, none⟩ [] (by kernel_rfl) trivial (fun ns_52 a w_53 hI _ => ?_)
          refine cond_ hI ((decide (a1 ≥ 12) && decide (a1 ≤ 16))) rfl (fun hc_54 => ?_) (fun hc_54 => ?_)
          · replace H0 := bif_t hc_54 H0
            obtain ⟨t_55, hG_56, H0⟩ := bind_some H0
            obtain ⟨t_57, hG_58, H0⟩ := bind_some H0
            refine seq_region (live := [4, 96, 86, 79, 20, 7, 2, 0, 1]) (orc := [[.bool t_55], [.bool t_57]]) hF hI ⟨[⟨4, [], .v (.bool (t_55 || t_57))⟩, ⟨96, [], .v (.bool (decide (a1 ≥ 12) && decide (a1 ≤ 16)))⟩, ⟨86, [], .v (.bool (decide (a1 ≥ 5) && decide (a1 ≤ 11)))⟩, ⟨79, [], .v (.bool (a1 == 4))⟩, ⟨20, [], .v (.bool (((a1 == 2) || (a1 == 3)) || (a1 == 17)))⟩, ⟨7, [], .v (.bool (a1 == 1))⟩, ⟨2, [], .p 0 0⟩, ⟨0, [], .v (.agg ((kd_Config).cells x0 (svL [((sv0 0).1, (sv0 0).2), ((sv0 1).1, (sv0 1).2), ((sv0 2).1, (sv0 2).2), ((sv0 3).1, (sv0 3).2)])).toArray)⟩, ⟨1, [], .v (.int .i64 a1)⟩], [], [], [((((kd_Config).cells x0 sv0).map EV.v), 29)], none, none⟩ [.call true 74 [.agg ((kd_Config).cells x0 (svL [((sv0 0).1, (sv0 0).2), ((sv0 1).1, (sv0 1).2), ((sv0 2).1, (sv0 2).2), ((sv0 3).1, (sv0 3).2)])).toArray, .int .i64 0, .int .i64 a1] (.bool t_55), .call (!t_55) 74 [.agg ((kd_Config).cells x0 (svL [((sv0 0).1, (sv0 0).2), ((sv0 1).1, (sv0 1).2), ((sv0 2).1, (sv0 2).2), ((sv0 3).1, (sv0 3).2)])).toArray, .int .i64 1, .int .i64 a1] (.bool t_57)] (by kernel_rfl) ⟨ob_call (enters Try.func74 (by kernel_rfl) rfl) (fun hg wz hk => G_ref07_windows.calls x0 0 a1 (svL [((sv0 0).1, (sv0 0).2), ((sv0 1).1, (sv0 1).2), ((sv0 2).1, (sv0 2).2), ((sv0 3).1, (sv0 3).2)]) wz (S := fun _ => True) (Kd.any _ (Kd.keep kd_Config (contI (S := Lo S w w [] []) (w := w) (d := kd_Config) (x := x0) (sv := (svL [((sv0 0).1, (sv0 0).2), ((sv0 1).1, (sv0 1).2), ((sv0 2).1, (sv0 2).2), ((sv0 3).1, (sv0 3).2)])) ⟨⟨hx0.1.1, hx0.1.2⟩, ⟨hx0.2.1.1, hx0.2.1.2⟩, ⟨hx0.2.2.1.1, hx0.2.2.1.2⟩, ⟨hx0.2.2.2.1.1, hx0.2.2.2.1.2⟩, trivial⟩) (Lo.on hk))) _ hG_56), ob_call (enters Try.func74 (by kernel_rfl) rfl) (fun hg wz hk => G_ref07_windows.calls x0 1 a1 (svL [((sv0 0).1, (sv0 0).2), ((sv0 1).1, (sv0 1).2), ((sv0 2).1, (sv0 2).2), ((sv0 3).1, (sv0 3).2)]) wz (S := fun _ => True) (Kd.any _ (Kd.keep kd_Config (contI (S := Lo S w w [] []) (w := w) (d := kd_Config) (x := x0) (sv := (svL [((sv0 0).1, (sv0 0).2), ((sv0 1).1, (sv0 1).2), ((sv0 2).1, (sv0 2).2), ((sv0 3).1, (sv0 3).2)])) ⟨⟨hx0.1.1, hx0.1.2⟩, ⟨hx0.2.1.1, hx0.2.1.2⟩, ⟨hx0.2.2.1.1, hx0.2.2.1.2⟩, ⟨hx0.2.2.2.1.1, hx0.2.2.2.1.2⟩, trivial⟩) (Lo.on hk))) _ (cal_some hG_58 hg)), trivial⟩ (fun ns_59 a w_60 hI _ => ?_)
            refine wpIn_ret ?_
            refine inBlock_ret ?_
            refine then_ret ?_
            obtain rfl := Option.some.inj H0
            exact ret1 hI rfl rfl ⟨rfl, hE.below hI⟩
          · replace H0 := bif_f hc_54 H0
            refine wpIn_skip ?_
            refine inBlock_normal ?_
            refine then_normal ?_
            refine seq_region (live := [4, 96, 86, 79, 20, 7, 2, 0, 1]) (orc := []) hF hI ⟨[⟨4, [], .v (.bool false)⟩, ⟨96, [], .v (.bool (decide (a1 ≥ 12) && decide (a1 ≤ 16)))⟩, ⟨86, [], .v (.bool (decide (a1 ≥ 5) && decide (a1 ≤ 11)))⟩, ⟨79, [], .v (.bool (a1 == 4))⟩, ⟨20, [], .v (.bool (((a1 == 2) || (a1 == 3)) || (a1 == 17)))⟩, ⟨7, [], .v (.bool (a1 == 1))⟩, ⟨2, [], .p 0 0⟩, ⟨0, [], .v (.agg ((kd_Config).cells x0 (svL [((sv0 0).1, (sv0 0).2), ((sv0 1).1, (sv0 1).2), ((sv0 2).1, (sv0 2).2), ((sv0 3).1, (sv0 3).2)])).toArray)⟩, ⟨1, [], .v (.int .i64 a1)⟩], [], [], [((((kd_Config).cells x0 sv0).map EV.v), 29)], none, none⟩ [] (by kernel_rfl) trivial (fun ns_61 a w_62 hI _ => ?_)
            refine wpIn_ret ?_
            obtain rfl := Option.some.inj H0
            exact ret1 hI rfl rfl ⟨rfl, hE.below hI⟩

/-! ### porthole/portholeref07.All: function 39 -/
noncomputable def G_ref07_All.b1 (x0 : Config) (s1 : Int × (List Int)) : Option (Stp (Int × (List Int)) (Ex (Int × (List Int)) ((List Int)))) := (bif decide (s1.1 ≤ 17) then ((G_ref07_Holds x0 s1.1).bind fun t_16 => (bif t_16 then (req (decide ((s1.2.length + 1) * 8 ≤ 140737488355328)) (some (.next ((IntKind.i64.wrap (s1.1 + 1)), (s1.2 ++ [s1.1]))))) else some (.next ((IntKind.i64.wrap (s1.1 + 1)), s1.2)))) else some (.out (.brk (s1.1, s1.2))))
noncomputable def G_ref07_All (x0 : Config) : Option ((List Int)) := ((loopω (G_ref07_All.b1 x0) (1, ([] : List Int))).bind fun o => o.on (fun s1 => some s1.2) (fun r => some r))
set_option maxRecDepth 100000 in
set_option maxHeartbeats 4000000 in
theorem G_ref07_All.calls (x0 : Config) (sv0 : SV) (w : World) {S : Nat → Prop} (hx0 : (kd_Config).cont S w x0 sv0) (r : (List Int)) (h : G_ref07_All x0 = some r) :
    Calls Try.prog 39 #[.agg ((kd_Config).cells x0 (svL [((sv0 0).1, (sv0 0).2), ((sv0 1).1, (sv0 1).2), ((sv0 2).1, (sv0 2).2), ((sv0 3).1, (sv0 3).2)])).toArray] w fun e w' => ∃ sv : SV, e = .returned (.slice ((sv 0).1) r.length ((sv 0).2)) ∧ Below w.heap.size w w' ∧ (Arr (Kd.int .i64) (fun b => w.heap.size ≤ b ∨ S b) w' (sv 0).1 r ∧ r.length ≤ (sv 0).2) := by
  replace hx0 := Kd.lo _ hx0
  unfold G_ref07_All at h
  have H0 := h
  clear h
  refine enter Try.func39 rfl [.agg ((kd_Config).cells x0 (svL [((sv0 0).1, (sv0 0).2), ((sv0 1).1, (sv0 1).2), ((sv0 2).1, (sv0 2).2), ((sv0 3).1, (sv0 3).2)])).toArray] (n := 17) rfl (Nat.le_of_ble_eq_true rfl) (fun a hI => ?_)
  have hF : FOpen Fence.wide := .inl rfl
  have hE := Ep.start w
  refine seq_region (live := [2, 1, 0]) (orc := []) hF hI ⟨[⟨2, [], .v (.slice none 0 0)⟩, ⟨1, [], .p 0 0⟩, ⟨0, [], .v (.agg ((kd_Config).cells x0 sv0).toArray)⟩], [], [], [((((kd_Config).cells x0 sv0).map EV.v), 29)], none, none⟩ [] (by kernel_rfl) trivial (fun ns_1 a w_2 hI _ => ?_)
  refine seq_region (live := [3, 2, 1, 0]) (orc := []) hF hI ⟨[⟨3, [], .v (.slice none 0 0)⟩, ⟨2, [], .v (.slice none 0 0)⟩, ⟨1, [], .p 0 0⟩, ⟨0, [], .v (.agg ((kd_Config).cells x0 sv0).toArray)⟩], [], [], [((((kd_Config).cells x0 sv0).map EV.v), 29)], none, none⟩ [] (by kernel_rfl) trivial (fun ns_3 a w_4 hI _ => ?_)
  refine wpIn_seq ?_
  refine seq_region (live := [4, 3, 2, 1, 0]) (orc := []) hF hI ⟨[⟨4, [], .v (.int .i64 1)⟩, ⟨3, [], .v (.slice none 0 0)⟩, ⟨2, [], .v (.slice none 0 0)⟩, ⟨1, [], .p 0 0⟩, ⟨0, [], .v (.agg ((kd_Config).cells x0 sv0).toArray)⟩], [], [], [((((kd_Config).cells x0 sv0).map EV.v), 29)], none, none⟩ [] (by kernel_rfl) trivial (fun ns_5 a w_6 hI _ => ?_)
  obtain ⟨hE', hmv, hmr⟩ := Ep.rebase (S0 := S) hE hI
  replace hx0 := Kd.keep _ hx0 hmv
  replace hE := hE'
  replace hI := hI.rebase
  clear hE' hmv hmr
  obtain ⟨hE', hmv⟩ := Ep.addNil (S0 := S) hE
  have hmr : ∀ b : Nat, some b ∈ ([] : List (Option Nat)) → w_6.heap[b]? = w_6.heap[b]? := fun _ _ => rfl
  replace hx0 := Kd.keep _ hx0 hmv
  replace hE := hE'
  clear hE' hmv hmr
  have hq_7 : Row (Kd.int .i64) 3 (Lo S w w_6 ns_5 [rb none]) w_6 w.heap.size none 0 ([] : List Int) := Row.nil
  obtain ⟨o_39, hL_40, H0⟩ := bind_some H0
  refine block_loop (fun (s1 : Int × (List Int)) a w_47 => ∃ (ow ns : List Nat) (A_8 : Option Addr) (c_9 : Nat), ((kd_Config).cont (Lo S w w_47 ow [rb A_8]) w_47 x0 sv0) ∧ (Row (Kd.int .i64) 3 (Lo S w w_47 ow [rb A_8]) w_47 w.heap.size A_8 c_9 s1.2) ∧ Ep w w_47 ow [rb A_8] ∧ St w_47 ow 17 ⟨[⟨4, [], .v (.int .i64 s1.1)⟩, ⟨3, [], .v (.slice A_8 s1.2.length c_9)⟩, ⟨2, [], .v (.slice none 0 0)⟩, ⟨1, [], .p 0 0⟩, ⟨0, [], .v (.agg ((kd_Config).cells x0 (svL [((sv0 0).1, (sv0 0).2), ((sv0 1).1, (sv0 1).2), ((sv0 2).1, (sv0 2).2), ((sv0 3).1, (sv0 3).2)])).toArray)⟩], [], [], [((((kd_Config).cells x0 sv0).map EV.v), 29)], none, none⟩ ns a w_47) (1, ([] : List Int)) hL_40 ⟨_, _, _, _, hx0, hq_7, hE, hI.pick [4, 3, 2, 1, 0] 1 ⟨[⟨4, [], .v (.int .i64 1)⟩, ⟨3, [], .v (.slice none ([] : List Int).length 0)⟩, ⟨2, [], .v (.slice none 0 0)⟩, ⟨1, [], .p 0 0⟩, ⟨0, [], .v (.agg ((kd_Config).cells x0 (svL [((sv0 0).1, (sv0 0).2), ((sv0 1).1, (sv0 1).2), ((sv0 2).1, (sv0 2).2), ((sv0 3).1, (sv0 3).2)])).toArray)⟩], [], [], [((((kd_Config).cells x0 sv0).map EV.v), 29)], none, none⟩ (by kernel_rfl)⟩ ?_ ?_
  · clear hI hE
    rintro s1 a w_10 ⟨ow_12, ns_11, A_8, c_9, hx0, hq_7, hE, hI⟩ r1 H1
    unfold G_ref07_All.b1 at H1
    refine wpIn_seq ?_
    refine seq_region (live := [6, 4, 3, 2, 1, 0]) (orc := []) hF hI ⟨[⟨6, [], .v (.bool (decide (s1.1 ≤ 17)))⟩, ⟨4, [], .v (.int .i64 s1.1)⟩, ⟨3, [], .v (.slice A_8 s1.2.length c_9)⟩, ⟨2, [], .v (.slice none 0 0)⟩, ⟨1, [], .p 0 0⟩, ⟨0, [], .v (.agg ((kd_Config).cells x0 sv0).toArray)⟩], [], [], [((((kd_Config).cells x0 sv0).map EV.v), 29)], none, none⟩ [] (by kernel_rfl) trivial (fun ns_13 a w_14 hI _ => ?_)
    refine cond_ hI (decide (s1.1 ≤ 17)) rfl (fun hc_15 => ?_) (fun hc_15 => ?_)
    · replace H1 := bif_t hc_15 H1
      refine wpIn_skip ?_
      refine then_normal ?_
      refine wpIn_seq ?_
      refine wpIn_block ?_
      obtain ⟨t_16, hG_17, H1⟩ := bind_some H1
      refine seq_region (live := [11, 6, 4, 3, 2, 1, 0]) (orc := [[.bool t_16]]) hF hI ⟨[⟨11, [], .v (.bool t_16)⟩, ⟨6, [], .v (.bool (decide (s1.1 ≤ 17)))⟩, ⟨4, [], .v (.int .i64 s1.1)⟩, ⟨3, [], .v (.slice A_8 s1.2.length c_9)⟩, ⟨2, [], .v (.slice none 0 0)⟩, ⟨1, [], .p 0 0⟩, ⟨0, [], .v (.agg ((kd_Config).cells x0 (svL [((sv0 0).1, (sv0 0).2), ((sv0 1).1, (sv0 1).2), ((sv0 2).1, (sv0 2).2), ((sv0 3).1, (sv0 3).2)])).toArray)⟩], [], [], [((((kd_Config).cells x0 sv0).map EV.v), 29)], none, none⟩ [.call true 55 [.agg ((kd_Config).cells x0 (svL [((sv0 0).1, (sv0 0).2), ((sv0 1).1, (sv0 1).2), ((sv0 2).1, (sv0 2).2), ((sv0 3).1, (sv0 3).2)])).toArray, .int .i64 s1.1] (.bool t_16)] (by kernel_rfl) ⟨ob_call (enters Try.func55 (by kernel_rfl) rfl) (fun hg wz hk => G_ref07_Holds.calls x0 s1.1 (svL [((sv0 0).1, (sv0 0).2), ((sv0 1).1, (sv0 1).2), ((sv0 2).1, (sv0 2).2), ((sv0 3).1, (sv0 3).2)]) wz (S := fun _ => True) (Kd.any _ (Kd.keep kd_Config (contI (S := Lo S w w_10 ow_12 [rb A_8]) (w := w_10) (d := kd_Config) (x := x0) (sv := (svL [((sv0 0).1, (sv0 0).2), ((sv0 1).1, (sv0 1).2), ((sv0 2).1, (sv0 2).2), ((sv0 3).1, (sv0 3).2)])) ⟨⟨hx0.1.1, hx0.1.2⟩, ⟨hx0.2.1.1, hx0.2.1.2⟩, ⟨hx0.2.2.1.1, hx0.2.2.1.2⟩, ⟨hx0.2.2.2.1.1, hx0.2.2.2.1.2⟩, trivial⟩) (Lo.on hk))) _ hG_17), trivial⟩ (fun ns_18 a w_19 hI _ => ?_)
      refine cond_ hI (t_16) rfl (fun hc_20 => ?_) (fun hc_20 => ?_)
      · replace H1 := bif_t hc_20 H1
        refine wpIn_region_lit ?_
        refine chunkL_ (live := [13, 12, 11, 6, 4, 3, 2, 1, 0]) (orc := []) hF 2 hI ⟨[⟨13, [], .v (.int .i64 s1.1)⟩, ⟨12, [], .v (.slice A_8 s1.2.length c_9)⟩, ⟨11, [], .v (.bool t_16)⟩, ⟨6, [], .v (.bool (decide (s1.1 ≤ 17)))⟩, ⟨4, [], .v (.int .i64 s1.1)⟩, ⟨3, [], .v (.slice A_8 s1.2.length c_9)⟩, ⟨2, [], .v (.slice none 0 0)⟩, ⟨1, [], .p 0 0⟩, ⟨0, [], .v (.agg ((kd_Config).cells x0 (svL [((sv0 0).1, (sv0 0).2), ((sv0 1).1, (sv0 1).2), ((sv0 2).1, (sv0 2).2), ((sv0 3).1, (sv0 3).2)])).toArray)⟩], [], [], [((((kd_Config).cells x0 sv0).map EV.v), 29)], none, none⟩ [] rfl (by kernel_rfl) trivial (fun ns_21 a w_22 hI => ?_)
        obtain ⟨hE', hmv, hmr⟩ := Ep.rebase (S0 := S) hE hI
        replace hx0 := Kd.keep _ hx0 hmv
        replace hq_7 := Row.keep hq_7 hmv (fun b hb => hmr b (by rw [← hb]; first | (simp; done) | simp [rb]))
        replace hE := hE'
        replace hI := hI.rebase
        clear hE' hmv hmr
        refine buildSlice_ (S0 := S) (d := (Kd.int .i64)) (e := 3) hF hE hI (wanted_none rfl) rfl (by kernel_rfl) (cs := [.int .i64 s1.1]) (by kernel_rfl) [s1.1] [(svL [])] rfl rfl (by simp [maxLen]) (fun i x hi => by cases i with | zero => (simp only [List.getElem?_cons_zero, Option.some.injEq] at hi; subst hi; exact ⟨trivial, rfl⟩) | succ i => (simp only [List.getElem?_cons_succ] at hi; simp at hi)) (fun A_23 => ⟨[⟨14, [], .v (.slice A_23 ([s1.1] : List Int).length (([s1.1] : List Int).length))⟩, ⟨13, [], .v (.int .i64 s1.1)⟩, ⟨12, [], .v (.slice A_8 s1.2.length c_9)⟩, ⟨11, [], .v (.bool t_16)⟩, ⟨6, [], .v (.bool (decide (s1.1 ≤ 17)))⟩, ⟨4, [], .v (.int .i64 s1.1)⟩, ⟨3, [], .v (.slice A_8 s1.2.length c_9)⟩, ⟨2, [], .v (.slice none 0 0)⟩, ⟨1, [], .p 0 0⟩, ⟨0, [], .v (.agg ((kd_Config).cells x0 (svL [((sv0 0).1, (sv0 0).2), ((sv0 1).1, (sv0 1).2), ((sv0 2).1, (sv0 2).2), ((sv0 3).1, (sv0 3).2)])).toArray)⟩], [], [], [((((kd_Config).cells x0 sv0).map EV.v), 29)], none, none⟩) (fun A_23 => by kernel_rfl) (fun A_23 a w_25 hput hE' hI' hmv hmr hq_24 => ?_)
        replace hx0 := Kd.keep _ hx0 hmv
        replace hq_7 := Row.keep hq_7 hmv (fun b hb => hmr b (by rw [← hb]; first | (simp; done) | simp [rb]) (by simp))
        replace hE := hE'
        replace hI := hI'
        clear hE' hI' hmv hmr
        refine chunkL_ (live := [14, 12, 11, 6, 4, 3, 2, 1, 0]) (orc := []) hF 0 hI ⟨[⟨14, [], .v (.slice A_23 ([s1.1] : List Int).length (([s1.1] : List Int).length))⟩, ⟨12, [], .v (.slice A_8 s1.2.length c_9)⟩, ⟨11, [], .v (.bool t_16)⟩, ⟨6, [], .v (.bool (decide (s1.1 ≤ 17)))⟩, ⟨4, [], .v (.int .i64 s1.1)⟩, ⟨3, [], .v (.slice A_8 s1.2.length c_9)⟩, ⟨2, [], .v (.slice none 0 0)⟩, ⟨1, [], .p 0 0⟩, ⟨0, [], .v (.agg ((kd_Config).cells x0 (svL [((sv0 0).1, (sv0 0).2), ((sv0 1).1, (sv0 1).2), ((sv0 2).1, (sv0 2).2), ((sv0 3).1, (sv0 3).2)])).toArray)⟩], [], [], [((((kd_Config).cells x0 sv0).map EV.v), 29)], none, none⟩ [] rfl (by kernel_rfl) trivial (fun ns_26 a w_27 hI => ?_)
        obtain ⟨hE', hmv, hmr⟩ := Ep.rebase (S0 := S) hE hI
        replace hx0 := Kd.keep _ hx0 hmv
        replace hq_7 := Row.keep hq_7 hmv (fun b hb => hmr b (by rw [← hb]; first | (simp; done) | simp [rb]))
        replace hq_24 := Row.keep hq_24 hmv (fun b hb => hmr b (by rw [← hb]; first | (simp; done) | simp [rb]))
        replace hE := hE'
        replace hI := hI.rebase
        clear hE' hmv hmr
        obtain ⟨hE', hmv, hq_24, hcap_28⟩ := Row.still (l1 := [rb A_8]) (l2 := []) hq_24 hE
        have hmr : ∀ b : Nat, some b ∈ ([rb A_8, rb A_23] : List (Option Nat)) → w_27.heap[b]? = w_27.heap[b]? := fun _ _ => rfl
        replace hx0 := Kd.keep _ hx0 hmv
        replace hq_7 := Row.keep hq_7 hmv (fun b hb => hmr b (by rw [← hb]; first | (simp; done) | simp [rb]))
        replace hE := hE'
        clear hE' hmv hmr
        obtain ⟨hN_29, H1⟩ := req_some H1
        replace hN_29 := of_decide_eq_true hN_29
        refine append_ (S0 := S) (l1 := []) (l2 := []) (d := (Kd.int .i64)) (e := 3) hF hE hI (wanted_none rfl) rfl (A := A_8) (c := c_9) (l := s1.2) rfl (A2 := A_23) (c2 := (([s1.1] : List Int).length)) rfl hq_7 hq_24 (fun sv u hu => by exact kd_one_int _ sv u hu) Try.underlying39 (zi := (.int .i64 0, 1, 8)) (by kernel_rfl) rfl (by kernel_rfl) (len_max (by decide) hN_29) hN_29 (fun A_30 c_31 => ⟨[⟨15, [], .v (.slice A_30 (s1.2 ++ [s1.1]).length c_31)⟩, ⟨14, [], .v (.slice A_23 ([s1.1] : List Int).length (([s1.1] : List Int).length))⟩, ⟨12, [], .v (.slice A_8 s1.2.length c_9)⟩, ⟨11, [], .v (.bool t_16)⟩, ⟨6, [], .v (.bool (decide (s1.1 ≤ 17)))⟩, ⟨4, [], .v (.int .i64 s1.1)⟩, ⟨3, [], .v (.slice A_8 s1.2.length c_9)⟩, ⟨2, [], .v (.slice none 0 0)⟩, ⟨1, [], .p 0 0⟩, ⟨0, [], .v (.agg ((kd_Config).cells x0 (svL [((sv0 0).1, (sv0 0).2), ((sv0 1).1, (sv0 1).2), ((sv0 2).1, (sv0 2).2), ((sv0 3).1, (sv0 3).2)])).toArray)⟩], [], [], [((((kd_Config).cells x0 sv0).map EV.v), 29)], none, none⟩) (fun A_30 c_31 => by kernel_rfl) (fun A_30 c_31 a w_32 hput hE' hI' hmv hmr hq_7 => ?_)
        replace hx0 := Kd.keep _ hx0 hmv
        replace hq_24 := Arr.keep hq_24 hmv
        replace hE := hE'
        replace hI := hI'
        clear hE' hI' hmv hmr
        refine chunkL_ (live := [3, 11, 6, 4, 2, 1, 0]) (orc := []) hF 1 hI ⟨[⟨3, [], .v (.slice A_30 (s1.2 ++ [s1.1]).length c_31)⟩, ⟨11, [], .v (.bool t_16)⟩, ⟨6, [], .v (.bool (decide (s1.1 ≤ 17)))⟩, ⟨4, [], .v (.int .i64 s1.1)⟩, ⟨2, [], .v (.slice none 0 0)⟩, ⟨1, [], .p 0 0⟩, ⟨0, [], .v (.agg ((kd_Config).cells x0 (svL [((sv0 0).1, (sv0 0).2), ((sv0 1).1, (sv0 1).2), ((sv0 2).1, (sv0 2).2), ((sv0 3).1, (sv0 3).2)])).toArray)⟩], [], [], [((((kd_Config).cells x0 sv0).map EV.v), 29)], none, none⟩ [] rfl (by kernel_rfl) trivial (fun ns_33 a w_34 hI => ?_)
        refine wpListIn_nil ?_
        refine inBlock_normal ?_
        refine then_normal ?_
        refine region_ (live := [4, 3, 11, 6, 2, 1, 0]) (orc := []) hF hI ⟨[⟨4, [], .v (.int .i64 (IntKind.i64.wrap (s1.1 + 1)))⟩, ⟨3, [], .v (.slice A_30 (s1.2 ++ [s1.1]).length c_31)⟩, ⟨11, [], .v (.bool t_16)⟩, ⟨6, [], .v (.bool (decide (s1.1 ≤ 17)))⟩, ⟨2, [], .v (.slice none 0 0)⟩, ⟨1, [], .p 0 0⟩, ⟨0, [], .v (.agg ((kd_Config).cells x0 (svL [((sv0 0).1, (sv0 0).2), ((sv0 1).1, (sv0 1).2), ((sv0 2).1, (sv0 2).2), ((sv0 3).1, (sv0 3).2)])).toArray)⟩], [], [], [((((kd_Config).cells x0 sv0).map EV.v), 29)], none, none⟩ [] (by kernel_rfl) trivial (fun ns_35 a w_36 hI _ => ?_)
        refine then_normal ?_
        obtain ⟨hE', hmv, hmr⟩ := Ep.rebase (S0 := S) hE hI
        replace hx0 := Kd.keep _ hx0 hmv
        replace hq_24 := Arr.keep hq_24 hmv
        replace hq_7 := Row.keep hq_7 hmv (fun b hb => hmr b (by rw [← hb]; first | (simp; done) | simp [rb]))
        replace hE := hE'
        replace hI := hI.rebase
        clear hE' hmv hmr
        obtain rfl := Option.some.inj H1
        exact ⟨_, rfl, ⟨_, _, _, _, hx0, hq_7, hE, hI.pick [4, 3, 2, 1, 0] 1 ⟨[⟨4, [], .v (.int .i64 (IntKind.i64.wrap (s1.1 + 1)))⟩, ⟨3, [], .v (.slice A_30 (s1.2 ++ [s1.1]).length c_31)⟩, ⟨2, [], .v (.slice none 0 0)⟩, ⟨1, [], .p 0 0⟩, ⟨0, [], .v (.agg ((kd_Config).cells x0 (svL [((sv0 0).1, (sv0 0).2), ((sv0 1).1, (sv0 1).2), ((sv0 2).1, (sv0 2).2), ((sv0 3).1, (sv0 3).2)])).toArray)⟩], [], [], [((((kd_Config).cells x0 sv0).map EV.v), 29)], none, none⟩ (by kernel_rfl)⟩⟩
      · replace H1 := bif_f hc_20 H1
        refine wpIn_skip ?_
        refine inBlock_normal ?_
        refine then_normal ?_
        refine region_ (live := [4, 11, 6, 3, 2, 1, 0]) (orc := []) hF hI ⟨[⟨4, [], .v (.int .i64 (IntKind.i64.wrap (s1.1 + 1)))⟩, ⟨11, [], .v (.bool t_16)⟩, ⟨6, [], .v (.bool (decide (s1.1 ≤ 17)))⟩, ⟨3, [], .v (.slice A_8 s1.2.length c_9)⟩, ⟨2, [], .v (.slice none 0 0)⟩, ⟨1, [], .p 0 0⟩, ⟨0, [], .v (.agg ((kd_Config).cells x0 (svL [((sv0 0).1, (sv0 0).2), ((sv0 1).1, (sv0 1).2), ((sv0 2).1, (sv0 2).2), ((sv0 3).1, (sv0 3).2)])).toArray)⟩], [], [], [((((kd_Config).cells x0 sv0).map EV.v), 29)], none, none⟩ [] (by kernel_rfl) trivial (fun ns_37 a w_38 hI _ => ?_)
        refine then_normal ?_
        obtain ⟨hE', hmv, hmr⟩ := Ep.rebase (S0 := S) hE hI
        replace hx0 := Kd.keep _ hx0 hmv
        replace hq_7 := Row.keep hq_7 hmv (fun b hb => hmr b (by rw [← hb]; first | (simp; done) | simp [rb]))
        replace hE := hE'
        replace hI := hI.rebase
        clear hE' hmv hmr
        obtain rfl := Option.some.inj H1
        exact ⟨_, rfl, ⟨_, _, _, _, hx0, hq_7, hE, hI.pick [4, 3, 2, 1, 0] 1 ⟨[⟨4, [], .v (.int .i64 (IntKind.i64.wrap (s1.1 + 1)))⟩, ⟨3, [], .v (.slice A_8 s1.2.length c_9)⟩, ⟨2, [], .v (.slice none 0 0)⟩, ⟨1, [], .p 0 0⟩, ⟨0, [], .v (.agg ((kd_Config).cells x0 (svL [((sv0 0).1, (sv0 0).2), ((sv0 1).1, (sv0 1).2), ((sv0 2).1, (sv0 2).2), ((sv0 3).1, (sv0 3).2)])).toArray)⟩], [], [], [((((kd_Config).cells x0 sv0).map EV.v), 29)], none, none⟩ (by kernel_rfl)⟩⟩
    · replace H1 := bif_f hc_15 H1
      refine wpIn_exit ?_
      refine then_exit ?_
      refine then_exit ?_
      obtain ⟨hE', hmv, hmr⟩ := Ep.rebase (S0 := S) hE hI
      replace hx0 := Kd.keep _ hx0 hmv
      replace hq_7 := Row.keep hq_7 hmv (fun b hb => hmr b (by rw [← hb]; first | (simp; done) | simp [rb]))
      replace hE := hE'
      replace hI := hI.rebase
      clear hE' hmv hmr
      obtain rfl := Option.some.inj H1
      exact .inl ⟨_, rfl, rfl, ⟨_, _, _, _, hx0, hq_7, hE, hI.pick [4, 3, 2, 1, 0] 1 ⟨[⟨4, [], .v (.int .i64 s1.1)⟩, ⟨3, [], .v (.slice A_8 s1.2.length c_9)⟩, ⟨2, [], .v (.slice none 0 0)⟩, ⟨1, [], .p 0 0⟩, ⟨0, [], .v (.agg ((kd_Config).cells x0 (svL [((sv0 0).1, (sv0 0).2), ((sv0 1).1, (sv0 1).2), ((sv0 2).1, (sv0 2).2), ((sv0 3).1, (sv0 3).2)])).toArray)⟩], [], [], [((((kd_Config).cells x0 sv0).map EV.v), 29)], none, none⟩ (by kernel_rfl)⟩⟩
  · clear hI hE
    rintro s1 a w_41 ho ⟨ow_43, ns_42, A_8, c_9, hx0, hq_7, hE, hI⟩
    subst ho
    replace H0 : (some s1.2 : Option ((List Int))) = _ := H0
    refine then_normal ?_
    refine seq_region (live := [2, 4, 3, 1, 0]) (orc := []) hF hI ⟨[⟨2, [], .v (.slice A_8 s1.2.length c_9)⟩, ⟨4, [], .v (.int .i64 s1.1)⟩, ⟨3, [], .v (.slice A_8 s1.2.length c_9)⟩, ⟨1, [], .p 0 0⟩, ⟨0, [], .v (.agg ((kd_Config).cells x0 (svL [((sv0 0).1, (sv0 0).2), ((sv0 1).1, (sv0 1).2), ((sv0 2).1, (sv0 2).2), ((sv0 3).1, (sv0 3).2)])).toArray)⟩], [], [], [((((kd_Config).cells x0 sv0).map EV.v), 29)], none, none⟩ [] (by kernel_rfl) trivial (fun ns_44 a w_45 hI _ => ?_)
    obtain ⟨hE', hmv, hmr⟩ := Ep.rebase (S0 := S) hE hI
    replace hx0 := Kd.keep _ hx0 hmv
    replace hq_7 := Row.keep hq_7 hmv (fun b hb => hmr b (by rw [← hb]; first | (simp; done) | simp [rb]))
    replace hE := hE'
    replace hI := hI.rebase
    clear hE' hmv hmr
    obtain ⟨hE', hmv, hq_7, hcap_46⟩ := Row.still (l1 := []) (l2 := []) hq_7 hE
    have hmr : ∀ b : Nat, some b ∈ ([rb A_8] : List (Option Nat)) → w_45.heap[b]? = w_45.heap[b]? := fun _ _ => rfl
    replace hx0 := Kd.keep _ hx0 hmv
    replace hE := hE'
    clear hE' hmv hmr
    refine wpIn_ret ?_
    obtain rfl := Option.some.inj H0
    exact ret1 hI rfl rfl ⟨svL [(A_8, c_9)], rfl, hE.below hI, ⟨Arr.keep hq_7 (hE.out hI), hcap_46⟩⟩

/-! ### porthole/portholeref07.Accepts: function 14 -/
noncomputable def G_ref07_Accepts (x0 : Config) : Option (Bool) := ((G_ref07_All x0).bind fun t_5 => some ((t_5.length : Int) == 0))
set_option maxRecDepth 100000 in
set_option maxHeartbeats 4000000 in
theorem G_ref07_Accepts.calls (x0 : Config) (sv0 : SV) (w : World) {S : Nat → Prop} (hx0 : (kd_Config).cont S w x0 sv0) (r : Bool) (h : G_ref07_Accepts x0 = some r) :
    Calls Try.prog 14 #[.agg ((kd_Config).cells x0 (svL [((sv0 0).1, (sv0 0).2), ((sv0 1).1, (sv0 1).2), ((sv0 2).1, (sv0 2).2), ((sv0 3).1, (sv0 3).2)])).toArray] w fun e w' => e = .returned (.bool r) ∧ Below w.heap.size w w' := by
  replace hx0 := Kd.lo _ hx0
  unfold G_ref07_Accepts at h
  have H0 := h
  clear h
  refine enter Try.func14 rfl [.agg ((kd_Config).cells x0 (svL [((sv0 0).1, (sv0 0).2), ((sv0 1).1, (sv0 1).2), ((sv0 2).1, (sv0 2).2), ((sv0 3).1, (sv0 3).2)])).toArray] (n := 7) rfl (Nat.le_of_ble_eq_true rfl) (fun a hI => ?_)
  have hF : FOpen Fence.wide := .inl rfl
  have hE := Ep.start w
  refine seq_region (live := [2, 1, 0]) (orc := []) hF hI ⟨[⟨2, [], .v (.bool false)⟩, ⟨1, [], .p 0 0⟩, ⟨0, [], .v (.agg ((kd_Config).cells x0 sv0).toArray)⟩], [], [], [((((kd_Config).cells x0 sv0).map EV.v), 29)], none, none⟩ [] (by kernel_rfl) trivial (fun ns_1 a w_2 hI _ => ?_)
  refine wpIn_seq ?_
  refine wpIn_region_lit ?_
  refine chunkL_ (live := [3, 2, 1, 0]) (orc := []) hF 1 hI ⟨[⟨3, [], .v (.agg ((kd_Config).cells x0 sv0).toArray)⟩, ⟨2, [], .v (.bool false)⟩, ⟨1, [], .p 0 0⟩, ⟨0, [], .v (.agg ((kd_Config).cells x0 sv0).toArray)⟩], [], [], [((((kd_Config).cells x0 sv0).map EV.v), 29)], none, none⟩ [] rfl (by kernel_rfl) trivial (fun ns_3 a w_4 hI => ?_)
  obtain ⟨hE', hmv, hmr⟩ := Ep.rebase (S0 := S) hE hI
  replace hx0 := Kd.keep _ hx0 hmv
  replace hE := hE'
  replace hI := hI.rebase
  clear hE' hmv hmr
  obtain ⟨t_5, hG_6, H0⟩ := bind_some H0
  refine callH_ (S0 := S) hF hE hI (wanted_none rfl) rfl (args := [.agg ((kd_Config).cells x0 (svL [((sv0 0).1, (sv0 0).2), ((sv0 1).1, (sv0 1).2), ((sv0 2).1, (sv0 2).2), ((sv0 3).1, (sv0 3).2)])).toArray]) rfl (enters Try.func39 (by kernel_rfl) rfl) (fun sv_7 => .slice ((sv_7 0).1) t_5.length ((sv_7 0).2)) _ (G_ref07_All.calls x0 (svL [((sv0 0).1, (sv0 0).2), ((sv0 1).1, (sv0 1).2), ((sv0 2).1, (sv0 2).2), ((sv0 3).1, (sv0 3).2)]) w_4 (S := Lo S w w_4 ns_3 []) (contI (d := kd_Config) (x := x0) (sv := (svL [((sv0 0).1, (sv0 0).2), ((sv0 1).1, (sv0 1).2), ((sv0 2).1, (sv0 2).2), ((sv0 3).1, (sv0 3).2)])) ⟨⟨hx0.1.1, hx0.1.2⟩, ⟨hx0.2.1.1, hx0.2.1.2⟩, ⟨hx0.2.2.1.1, hx0.2.2.1.2⟩, ⟨hx0.2.2.2.1.1, hx0.2.2.2.1.2⟩, trivial⟩) _ hG_6) (fun sv_7 => ⟨[⟨4, [], .v (.slice ((sv_7 0).1) t_5.length ((sv_7 0).2))⟩, ⟨3, [], .v (.agg ((kd_Config).cells x0 (svL [((sv0 0).1, (sv0 0).2), ((sv0 1).1, (sv0 1).2), ((sv0 2).1, (sv0 2).2), ((sv0 3).1, (sv0 3).2)])).toArray)⟩, ⟨2, [], .v (.bool false)⟩, ⟨1, [], .p 0 0⟩, ⟨0, [], .v (.agg ((kd_Config).cells x0 (svL [((sv0 0).1, (sv0 0).2), ((sv0 1).1, (sv0 1).2), ((sv0 2).1, (sv0 2).2), ((sv0 3).1, (sv0 3).2)])).toArray)⟩], [], [], [((((kd_Config).cells x0 sv0).map EV.v), 29)], none, none⟩) (fun sv_7 => by kernel_rfl) (fun sv_7 a w_9 hput hE' hI' hmv hmr hres hR => ?_)
  replace hx0 := Kd.keep _ hx0 hmv
  replace hE := hE'
  replace hI := hI'
  clear hE' hI' hmv hmr
  obtain ⟨hR_8, hR_8c⟩ := hR
  replace hR_8 := Arr.keep hR_8 hres
  clear hres
  refine chunkL_ (live := [2, 1, 0]) (orc := []) hF 3 hI ⟨[⟨2, [], .v (.bool ((t_5.length : Int) == 0))⟩, ⟨1, [], .p 0 0⟩, ⟨0, [], .v (.agg ((kd_Config).cells x0 (svL [((sv0 0).1, (sv0 0).2), ((sv0 1).1, (sv0 1).2), ((sv0 2).1, (sv0 2).2), ((sv0 3).1, (sv0 3).2)])).toArray)⟩], [], [], [((((kd_Config).cells x0 sv0).map EV.v), 29)], none, none⟩ [] rfl (by kernel_rfl) trivial (fun ns_10 a w_11 hI => ?_)
  refine wpListIn_nil ?_
  refine then_normal ?_
  refine wpIn_ret ?_
  obtain rfl := Option.some.inj H0
  exact ret1 hI rfl rfl ⟨rfl, hE.below hI⟩

/-! ### porthole/portholeref21.Edges: function 15 -/
noncomputable def G_ref21_Edges.b1 (x0 : Config) (s1 : Int × (List Portholeref21_Edge)) : Option (Stp (Int × (List Portholeref21_Edge)) (Ex (Int × (List Portholeref21_Edge)) ((List Portholeref21_Edge)))) := (bif decide (s1.1 < (x0.Chans.length : Int)) then (req (inb s1.1 x0.Chans.length) (req (decide ((s1.2.length + 1) * 16 ≤ 140737488355328)) (bif (((rd x0.Chans s1.1).Kind) == 2) then (req (decide (((s1.2 ++ [(⟨(rd x0.Chans s1.1).From, (rd x0.Chans s1.1).To⟩ : Portholeref21_Edge)]).length + 1) * 16 ≤ 140737488355328)) (some (.next ((IntKind.i64.wrap (s1.1 + 1)), ((s1.2 ++ [(⟨(rd x0.Chans s1.1).From, (rd x0.Chans s1.1).To⟩ : Portholeref21_Edge)]) ++ [(⟨(rd x0.Chans s1.1).To, (rd x0.Chans s1.1).From⟩ : Portholeref21_Edge)]))))) else some (.next ((IntKind.i64.wrap (s1.1 + 1)), (s1.2 ++ [(⟨(rd x0.Chans s1.1).From, (rd x0.Chans s1.1).To⟩ : Portholeref21_Edge)])))))) else some (.out (.brk (s1.1, s1.2))))
noncomputable def G_ref21_Edges (x0 : Config) : Option ((List Portholeref21_Edge)) := ((loopω (G_ref21_Edges.b1 x0) (0, ([] : List Portholeref21_Edge))).bind fun o => o.on (fun s1 => some s1.2) (fun r => some r))
set_option maxRecDepth 100000 in
set_option maxHeartbeats 4000000 in
theorem G_ref21_Edges.calls (x0 : Config) (sv0 : SV) (w : World) {S : Nat → Prop} (hx0 : (kd_Config).cont S w x0 sv0) (r : (List Portholeref21_Edge)) (h : G_ref21_Edges x0 = some r) :
    Calls Try.prog 15 #[.agg ((kd_Config).cells x0 sv0).toArray] w fun e w' => ∃ sv : SV, e = .returned (.slice ((sv 0).1) r.length ((sv 0).2)) ∧ Below w.heap.size w w' ∧ (Arr kd_Portholeref21_Edge (fun b => w.heap.size ≤ b ∨ S b) w' (sv 0).1 r ∧ r.length ≤ (sv 0).2) := by
  replace hx0 := Kd.lo _ hx0
  unfold G_ref21_Edges at h
  have H0 := h
  clear h
  refine enter Try.func15 rfl [.agg ((kd_Config).cells x0 sv0).toArray] (n := 38) rfl (Nat.le_of_ble_eq_true rfl) (fun a hI => ?_)
  have hF : FOpen Fence.wide := .inl rfl
  have hE := Ep.start w
  refine seq_region (live := [2, 1, 0]) (orc := []) hF hI ⟨[⟨2, [], .v (.slice none 0 0)⟩, ⟨1, [], .p 0 0⟩, ⟨0, [], .v (.agg ((kd_Config).cells x0 sv0).toArray)⟩], [], [], [((((kd_Config).cells x0 sv0).map EV.v), 29)], none, none⟩ [] (by kernel_rfl) trivial (fun ns_1 a w_2 hI _ => ?_)
  refine seq_region (live := [3, 2, 1, 0]) (orc := []) hF hI ⟨[⟨3, [], .v (.slice none 0 0)⟩, ⟨2, [], .v (.slice none 0 0)⟩, ⟨1, [], .p 0 0⟩, ⟨0, [], .v (.agg ((kd_Config).cells x0 sv0).toArray)⟩], [], [], [((((kd_Config).cells x0 sv0).map EV.v), 29)], none, none⟩ [] (by kernel_rfl) trivial (fun ns_3 a w_4 hI _ => ?_)
  refine wpIn_seq ?_
  refine seq_region (live := [4, 3, 2, 1, 0]) (orc := []) hF hI ⟨[⟨4, [], .v (.int .i64 0)⟩, ⟨3, [], .v (.slice none 0 0)⟩, ⟨2, [], .v (.slice none 0 0)⟩, ⟨1, [], .p 0 0⟩, ⟨0, [], .v (.agg ((kd_Config).cells x0 sv0).toArray)⟩], [], [], [((((kd_Config).cells x0 sv0).map EV.v), 29)], none, none⟩ [] (by kernel_rfl) trivial (fun ns_5 a w_6 hI _ => ?_)
  obtain ⟨hE', hmv, hmr⟩ := Ep.rebase (S0 := S) hE hI
  replace hx0 := Kd.keep _ hx0 hmv
  replace hE := hE'
  replace hI := hI.rebase
  clear hE' hmv hmr
  obtain ⟨hE', hmv⟩ := Ep.addNil (S0 := S) hE
  have hmr : ∀ b : Nat, some b ∈ ([] : List (Option Nat)) → w_6.heap[b]? = w_6.heap[b]? := fun _ _ => rfl
  replace hx0 := Kd.keep _ hx0 hmv
  replace hE := hE'
  clear hE' hmv hmr
  have hq_7 : Row kd_Portholeref21_Edge 38 (Lo S w w_6 ns_5 [rb none]) w_6 w.heap.size none 0 ([] : List Portholeref21_Edge) := Row.nil
  obtain ⟨o_57, hL_58, H0⟩ := bind_some H0
  refine block_loop (fun (s1 : Int × (List Portholeref21_Edge)) a w_65 => ∃ (ow ns : List Nat) (A_8 : Option Addr) (c_9 : Nat), ((kd_Config).cont (Lo S w w_65 ow [rb A_8]) w_65 x0 sv0) ∧ (Row kd_Portholeref21_Edge 38 (Lo S w w_65 ow [rb A_8]) w_65 w.heap.size A_8 c_9 s1.2) ∧ Ep w w_65 ow [rb A_8] ∧ St w_65 ow 38 ⟨[⟨4, [], .v (.int .i64 s1.1)⟩, ⟨3, [], .v (.slice A_8 s1.2.length c_9)⟩, ⟨2, [], .v (.slice none 0 0)⟩, ⟨1, [], .p 0 0⟩, ⟨0, [], .v (.agg ((kd_Config).cells x0 sv0).toArray)⟩], [], [], [((((kd_Config).cells x0 sv0).map EV.v), 29)], none, none⟩ ns a w_65) (0, ([] : List Portholeref21_Edge)) hL_58 ⟨_, _, _, _, hx0, hq_7, hE, hI.pick [4, 3, 2, 1, 0] 1 ⟨[⟨4, [], .v (.int .i64 0)⟩, ⟨3, [], .v (.slice none ([] : List Portholeref21_Edge).length 0)⟩, ⟨2, [], .v (.slice none 0 0)⟩, ⟨1, [], .p 0 0⟩, ⟨0, [], .v (.agg ((kd_Config).cells x0 sv0).toArray)⟩], [], [], [((((kd_Config).cells x0 sv0).map EV.v), 29)], none, none⟩ (by kernel_rfl)⟩ ?_ ?_
  · clear hI hE
    rintro s1 a w_10 ⟨ow_12, ns_11, A_8, c_9, hx0, hq_7, hE, hI⟩ r1 H1
    unfold G_ref21_Edges.b1 at H1
    refine wpIn_seq ?_
    refine seq_region (live := [10, 4, 3, 2, 1, 0]) (orc := []) hF hI ⟨[⟨10, [], .v (.bool (decide (s1.1 < (x0.Chans.length : Int))))⟩, ⟨4, [], .v (.int .i64 s1.1)⟩, ⟨3, [], .v (.slice A_8 s1.2.length c_9)⟩, ⟨2, [], .v (.slice none 0 0)⟩, ⟨1, [], .p 0 0⟩, ⟨0, [], .v (.agg ((kd_Config).cells x0 sv0).toArray)⟩], [], [], [((((kd_Config).cells x0 sv0).map EV.v), 29)], none, none⟩ [] (by kernel_rfl) trivial (fun ns_13 a w_14 hI _ => ?_)
    refine cond_ hI (decide (s1.1 < (x0.Chans.length : Int))) rfl (fun hc_15 => ?_) (fun hc_15 => ?_)
    · replace H1 := bif_t hc_15 H1
      refine wpIn_skip ?_
      refine then_normal ?_
      refine wpIn_seq ?_
      refine wpIn_block ?_
      obtain ⟨hN_16, H1⟩ := req_some H1
      obtain ⟨sv_17, hE_19, hA_18⟩ := Arr.elB (d := kd_Chan) hx0.2.1.1 s1.1 true (fun _ => hN_16)
      replace hE_19 := hE_19 rfl
      replace hA_18 := fun (_ : true = true) => hA_18 rfl
      refine seq_region (live := [5, 10, 4, 3, 2, 1, 0]) (orc := [(kd_Chan).cells (rd x0.Chans s1.1) sv_17]) hF hI ⟨[⟨5, [], .p 1 0⟩, ⟨10, [], .v (.bool (decide (s1.1 < (x0.Chans.length : Int))))⟩, ⟨4, [], .v (.int .i64 s1.1)⟩, ⟨3, [], .v (.slice A_8 s1.2.length c_9)⟩, ⟨2, [], .v (.slice none 0 0)⟩, ⟨1, [], .p 0 0⟩, ⟨0, [], .v (.agg ((kd_Config).cells x0 sv0).toArray)⟩], [], [], [((((kd_Config).cells x0 sv0).map EV.v), 29), ((((kd_Chan).cells (rd x0.Chans s1.1) sv_17).map EV.v), 74)], none, none⟩ [.need true (0 ≤ s1.1 ∧ s1.1 < (x0.Chans.length : Int)), .need true ((sv0 1).1 = some (adr ((sv0 1).1))), .cell true ((adr ((sv0 1).1)).add ((s1.1 : Int).toNat * 7)) ((kd_Chan).cells (rd x0.Chans s1.1) sv_17)] (by kernel_rfl) ⟨ob_inb (fun _ => hN_16), hA_18, ob_el (fun _ => hE_19) 0 ((kd_Chan).cells (rd x0.Chans s1.1) sv_17) rfl, trivial⟩ (fun ns_20 a w_21 hI _ => ?_)
      refine wpIn_seq ?_
      refine wpIn_region_lit ?_
      refine chunkL_ (live := [23, 18, 5, 10, 4, 3, 2, 1, 0]) (orc := []) hF 6 hI ⟨[⟨23, [], .v (.agg #[.int .i64 ((rd x0.Chans s1.1).From), .int .i64 ((rd x0.Chans s1.1).To)])⟩, ⟨18, [], .v (.slice A_8 s1.2.length c_9)⟩, ⟨5, [], .p 1 0⟩, ⟨10, [], .v (.bool (decide (s1.1 < (x0.Chans.length : Int))))⟩, ⟨4, [], .v (.int .i64 s1.1)⟩, ⟨3, [], .v (.slice A_8 s1.2.length c_9)⟩, ⟨2, [], .v (.slice none 0 0)⟩, ⟨1, [], .p 0 0⟩, ⟨0, [], .v (.agg ((kd_Config).cells x0 sv0).toArray)⟩], [], [], [((((kd_Config).cells x0 sv0).map EV.v), 29), ((((kd_Chan).cells (rd x0.Chans s1.1) sv_17).map EV.v), 74)], none, none⟩ [] rfl (by kernel_rfl) trivial (fun ns_22 a w_23 hI => ?_)
      obtain ⟨hE', hmv, hmr⟩ := Ep.rebase (S0 := S) hE hI
      replace hx0 := Kd.keep _ hx0 hmv
      replace hq_7 := Row.keep hq_7 hmv (fun b hb => hmr b (by rw [← hb]; first | (simp; done) | simp [rb]))
      replace hE_19 := El.keep hE_19 hmv
      replace hE := hE'
      replace hI := hI.rebase
      clear hE' hmv hmr
      refine buildSlice_ (S0 := S) (d := kd_Portholeref21_Edge) (e := 38) hF hE hI (wanted_none rfl) rfl (by kernel_rfl) (cs := [.int .i64 ((rd x0.Chans s1.1).From), .int .i64 ((rd x0.Chans s1.1).To)]) (by kernel_rfl) [(⟨(rd x0.Chans s1.1).From, (rd x0.Chans s1.1).To⟩ : Portholeref21_Edge)] [(svL [])] rfl rfl (by simp [maxLen]) (fun i x hi => by cases i with | zero => (simp only [List.getElem?_cons_zero, Option.some.injEq] at hi; subst hi; exact ⟨trivial, rfl⟩) | succ i => (simp only [List.getElem?_cons_succ] at hi; simp at hi)) (fun A_24 => ⟨[⟨24, [], .v (.slice A_24 ([(⟨(rd x0.Chans s1.1).From, (rd x0.Chans s1.1).To⟩ : Portholeref21_Edge)] : List Portholeref21_Edge).length (([(⟨(rd x0.Chans s1.1).From, (rd x0.Chans s1.1).To⟩ : Portholeref21_Edge)] : List Portholeref21_Edge).length))⟩, ⟨23, [], .v (.agg #[.int .i64 ((rd x0.Chans s1.1).From), .int .i64 ((rd x0.Chans s1.1).To)])⟩, ⟨18, [], .v (.slice A_8 s1.2.length c_9)⟩, ⟨5, [], .p 1 0⟩, ⟨10, [], .v (.bool (decide (s1.1 < (x0.Chans.length : Int))))⟩, ⟨4, [], .v (.int .i64 s1.1)⟩, ⟨3, [], .v (.slice A_8 s1.2.length c_9)⟩, ⟨2, [], .v (.slice none 0 0)⟩, ⟨1, [], .p 0 0⟩, ⟨0, [], .v (.agg ((kd_Config).cells x0 sv0).toArray)⟩], [], [], [((((kd_Config).cells x0 sv0).map EV.v), 29), ((((kd_Chan).cells (rd x0.Chans s1.1) sv_17).map EV.v), 74)], none, none⟩) (fun A_24 => by kernel_rfl) (fun A_24 a w_26 hput hE' hI' hmv hmr hq_25 => ?_)
      replace hx0 := Kd.keep _ hx0 hmv
      replace hq_7 := Row.keep hq_7 hmv (fun b hb => hmr b (by rw [← hb]; first | (simp; done) | simp [rb]) (by simp))
      replace hE_19 := El.keep hE_19 hmv
      replace hE := hE'
      replace hI := hI'
      clear hE' hI' hmv hmr
      refine chunkL_ (live := [24, 18, 5, 10, 4, 3, 2, 1, 0]) (orc := []) hF 0 hI ⟨[⟨24, [], .v (.slice A_24 ([(⟨(rd x0.Chans s1.1).From, (rd x0.Chans s1.1).To⟩ : Portholeref21_Edge)] : List Portholeref21_Edge).length (([(⟨(rd x0.Chans s1.1).From, (rd x0.Chans s1.1).To⟩ : Portholeref21_Edge)] : List Portholeref21_Edge).length))⟩, ⟨18, [], .v (.slice A_8 s1.2.length c_9)⟩, ⟨5, [], .p 1 0⟩, ⟨10, [], .v (.bool (decide (s1.1 < (x0.Chans.length : Int))))⟩, ⟨4, [], .v (.int .i64 s1.1)⟩, ⟨3, [], .v (.slice A_8 s1.2.length c_9)⟩, ⟨2, [], .v (.slice none 0 0)⟩, ⟨1, [], .p 0 0⟩, ⟨0, [], .v (.agg ((kd_Config).cells x0 sv0).toArray)⟩], [], [], [((((kd_Config).cells x0 sv0).map EV.v), 29), ((((kd_Chan).cells (rd x0.Chans s1.1) sv_17).map EV.v), 74)], none, none⟩ [] rfl (by kernel_rfl) trivial (fun ns_27 a w_28 hI => ?_)
      obtain ⟨hE', hmv, hmr⟩ := Ep.rebase (S0 := S) hE hI
      replace hx0 := Kd.keep _ hx0 hmv
      replace hq_7 := Row.keep hq_7 hmv (fun b hb => hmr b (by rw [← hb]; first | (simp; done) | simp [rb]))
      replace hE_19 := El.keep hE_19 hmv
      replace hq_25 := Row.keep hq_25 hmv (fun b hb => hmr b (by rw [← hb]; first | (simp; done) | simp [rb]))
      replace hE := hE'
      replace hI := hI.rebase
      clear hE' hmv hmr
      obtain ⟨hE', hmv, hq_25, hcap_29⟩ := Row.still (l1 := [rb A_8]) (l2 := []) hq_25 hE
      have hmr : ∀ b : Nat, some b ∈ ([rb A_8, rb A_24] : List (Option Nat)) → w_28.heap[b]? = w_28.heap[b]? := fun _ _ => rfl
      replace hx0 := Kd.keep _ hx0 hmv
      replace hq_7 := Row.keep hq_7 hmv (fun b hb => hmr b (by rw [← hb]; first | (simp; done) | simp [rb]))
      replace hE_19 := El.keep hE_19 hmv
      replace hE := hE'
      clear hE' hmv hmr
      obtain ⟨hN_30, H1⟩ := req_some H1
      replace hN_30 := of_decide_eq_true hN_30
      refine append_ (S0 := S) (l1 := []) (l2 := []) (d := kd_Portholeref21_Edge) (e := 38) hF hE hI (wanted_none rfl) rfl (A := A_8) (c := c_9) (l := s1.2) rfl (A2 := A_24) (c2 := (([(⟨(rd x0.Chans s1.1).From, (rd x0.Chans s1.1).To⟩ : Portholeref21_Edge)] : List Portholeref21_Edge).length)) rfl hq_7 hq_25 (fun sv u hu => by exact kd_one_Portholeref21_Edge _ sv u hu) Try.underlying32 (zi := (.agg #[.int .i64 0, .int .i64 0], 2, 16)) (by kernel_rfl) rfl (by kernel_rfl) (len_max (by decide) hN_30) hN_30 (fun A_31 c_32 => ⟨[⟨25, [], .v (.slice A_31 (s1.2 ++ [(⟨(rd x0.Chans s1.1).From, (rd x0.Chans s1.1).To⟩ : Portholeref21_Edge)]).length c_32)⟩, ⟨24, [], .v (.slice A_24 ([(⟨(rd x0.Chans s1.1).From, (rd x0.Chans s1.1).To⟩ : Portholeref21_Edge)] : List Portholeref21_Edge).length (([(⟨(rd x0.Chans s1.1).From, (rd x0.Chans s1.1).To⟩ : Portholeref21_Edge)] : List Portholeref21_Edge).length))⟩, ⟨18, [], .v (.slice A_8 s1.2.length c_9)⟩, ⟨5, [], .p 1 0⟩, ⟨10, [], .v (.bool (decide (s1.1 < (x0.Chans.length : Int))))⟩, ⟨4, [], .v (.int .i64 s1.1)⟩, ⟨3, [], .v (.slice A_8 s1.2.length c_9)⟩, ⟨2, [], .v (.slice none 0 0)⟩, ⟨1, [], .p 0 0⟩, ⟨0, [], .v (.agg ((kd_Config).cells x0 sv0).toArray)⟩], [], [], [((((kd_Config).cells x0 sv0).map EV.v), 29), ((((kd_Chan).cells (rd x0.Chans s1.1) sv_17).map EV.v), 74)], none, none⟩) (fun A_31 c_32 => by kernel_rfl) (fun A_31 c_32 a w_33 hput hE' hI' hmv hmr hq_7 => ?_)
      replace hx0 := Kd.keep _ hx0 hmv
      replace hE_19 := El.keep hE_19 hmv
      replace hq_25 := Arr.keep hq_25 hmv
      replace hE := hE'
      replace hI := hI'
      clear hE' hI' hmv hmr
      refine chunkL_ (live := [3, 5, 10, 4, 2, 1, 0]) (orc := []) hF 1 hI ⟨[⟨3, [], .v (.slice A_31 (s1.2 ++ [(⟨(rd x0.Chans s1.1).From, (rd x0.Chans s1.1).To⟩ : Portholeref21_Edge)]).length c_32)⟩, ⟨5, [], .p 1 0⟩, ⟨10, [], .v (.bool (decide (s1.1 < (x0.Chans.length : Int))))⟩, ⟨4, [], .v (.int .i64 s1.1)⟩, ⟨2, [], .v (.slice none 0 0)⟩, ⟨1, [], .p 0 0⟩, ⟨0, [], .v (.agg ((kd_Config).cells x0 sv0).toArray)⟩], [], [], [((((kd_Config).cells x0 sv0).map EV.v), 29), ((((kd_Chan).cells (rd x0.Chans s1.1) sv_17).map EV.v), 74)], none, none⟩ [] rfl (by kernel_rfl) trivial (fun ns_34 a w_35 hI => ?_)
      refine wpListIn_nil ?_
      refine then_normal ?_
      refine seq_region (live := [28, 3, 5, 10, 4, 2, 1, 0]) (orc := []) hF hI ⟨[⟨28, [], .v (.bool (((rd x0.Chans s1.1).Kind) == 2))⟩, ⟨3, [], .v (.slice A_31 (s1.2 ++ [(⟨(rd x0.Chans s1.1).From, (rd x0.Chans s1.1).To⟩ : Portholeref21_Edge)]).length c_32)⟩, ⟨5, [], .p 1 0⟩, ⟨10, [], .v (.bool (decide (s1.1 < (x0.Chans.length : Int))))⟩, ⟨4, [], .v (.int .i64 s1.1)⟩, ⟨2, [], .v (.slice none 0 0)⟩, ⟨1, [], .p 0 0⟩, ⟨0, [], .v (.agg ((kd_Config).cells x0 sv0).toArray)⟩], [], [], [((((kd_Config).cells x0 sv0).map EV.v), 29), ((((kd_Chan).cells (rd x0.Chans s1.1) sv_17).map EV.v), 74)], none, none⟩ [] (by kernel_rfl) trivial (fun ns_36 a w_37 hI _ => ?_)
      refine cond_ hI ((((rd x0.Chans s1.1).Kind) == 2)) rfl (fun hc_38 => ?_) (fun hc_38 => ?_)
      · replace H1 := bif_t hc_38 H1
        refine wpIn_region_lit ?_
        refine chunkL_ (live := [34, 29, 28, 3, 5, 10, 4, 2, 1, 0]) (orc := []) hF 6 hI ⟨[⟨34, [], .v (.agg #[.int .i64 ((rd x0.Chans s1.1).To), .int .i64 ((rd x0.Chans s1.1).From)])⟩, ⟨29, [], .v (.slice A_31 (s1.2 ++ [(⟨(rd x0.Chans s1.1).From, (rd x0.Chans s1.1).To⟩ : Portholeref21_Edge)]).length c_32)⟩, ⟨28, [], .v (.bool (((rd x0.Chans s1.1).Kind) == 2))⟩, ⟨3, [], .v (.slice A_31 (s1.2 ++ [(⟨(rd x0.Chans s1.1).From, (rd x0.Chans s1.1).To⟩ : Portholeref21_Edge)]).length c_32)⟩, ⟨5, [], .p 1 0⟩, ⟨10, [], .v (.bool (decide (s1.1 < (x0.Chans.length : Int))))⟩, ⟨4, [], .v (.int .i64 s1.1)⟩, ⟨2, [], .v (.slice none 0 0)⟩, ⟨1, [], .p 0 0⟩, ⟨0, [], .v (.agg ((kd_Config).cells x0 sv0).toArray)⟩], [], [], [((((kd_Config).cells x0 sv0).map EV.v), 29), ((((kd_Chan).cells (rd x0.Chans s1.1) sv_17).map EV.v), 74)], none, none⟩ [] rfl (by kernel_rfl) trivial (fun ns_39 a w_40 hI => ?_)
        obtain ⟨hE', hmv, hmr⟩ := Ep.rebase (S0 := S) hE hI
        replace hx0 := Kd.keep _ hx0 hmv
        replace hE_19 := El.keep hE_19 hmv
        replace hq_25 := Arr.keep hq_25 hmv
        replace hq_7 := Row.keep hq_7 hmv (fun b hb => hmr b (by rw [← hb]; first | (simp; done) | simp [rb]))
        replace hE := hE'
        replace hI := hI.rebase
        clear hE' hmv hmr
        refine buildSlice_ (S0 := S) (d := kd_Portholeref21_Edge) (e := 38) hF hE hI (wanted_none rfl) rfl (by kernel_rfl) (cs := [.int .i64 ((rd x0.Chans s1.1).To), .int .i64 ((rd x0.Chans s1.1).From)]) (by kernel_rfl) [(⟨(rd x0.Chans s1.1).To, (rd x0.Chans s1.1).From⟩ : Portholeref21_Edge)] [(svL [])] rfl rfl (by simp [maxLen]) (fun i x hi => by cases i with | zero => (simp only [List.getElem?_cons_zero, Option.some.injEq] at hi; subst hi; exact ⟨trivial, rfl⟩) | succ i => (simp only [List.getElem?_cons_succ] at hi; simp at hi)) (fun A_41 => ⟨[⟨35, [], .v (.slice A_41 ([(⟨(rd x0.Chans s1.1).To, (rd x0.Chans s1.1).From⟩ : Portholeref21_Edge)] : List Portholeref21_Edge).length (([(⟨(rd x0.Chans s1.1).To, (rd x0.Chans s1.1).From⟩ : Portholeref21_Edge)] : List Portholeref21_Edge).length))⟩, ⟨34, [], .v (.agg #[.int .i64 ((rd x0.Chans s1.1).To), .int .i64 ((rd x0.Chans s1.1).From)])⟩, ⟨29, [], .v (.slice A_31 (s1.2 ++ [(⟨(rd x0.Chans s1.1).From, (rd x0.Chans s1.1).To⟩ : Portholeref21_Edge)]).length c_32)⟩, ⟨28, [], .v (.bool (((rd x0.Chans s1.1).Kind) == 2))⟩, ⟨3, [], .v (.slice A_31 (s1.2 ++ [(⟨(rd x0.Chans s1.1).From, (rd x0.Chans s1.1).To⟩ : Portholeref21_Edge)]).length c_32)⟩, ⟨5, [], .p 1 0⟩, ⟨10, [], .v (.bool (decide (s1.1 < (x0.Chans.length : Int))))⟩, ⟨4, [], .v (.int .i64 s1.1)⟩, ⟨2, [], .v (.slice none 0 0)⟩, ⟨1, [], .p 0 0⟩, ⟨0, [], .v (.agg ((kd_Config).cells x0 sv0).toArray)⟩], [], [], [((((kd_Config).cells x0 sv0).map EV.v), 29), ((((kd_Chan).cells (rd x0.Chans s1.1) sv_17).map EV.v), 74)], none, none⟩) (fun A_41 => by kernel_rfl) (fun A_41 a w_43 hput hE' hI' hmv hmr hq_42 => ?_)
        replace hx0 := Kd.keep _ hx0 hmv
        replace hE_19 := El.keep hE_19 hmv
        replace hq_25 := Arr.keep hq_25 hmv
        replace hq_7 := Row.keep hq_7 hmv (fun b hb => hmr b (by rw [← hb]; first | (simp; done) | simp [rb]) (by simp))
        replace hE := hE'
        replace hI := hI'
        clear hE' hI' hmv hmr
        refine chunkL_ (live := [35, 29, 28, 3, 5, 10, 4, 2, 1, 0]) (orc := []) hF 0 hI ⟨[⟨35, [], .v (.slice A_41 ([(⟨(rd x0.Chans s1.1).To, (rd x0.Chans s1.1).From⟩ : Portholeref21_Edge)] : List Portholeref21_Edge).length (([(⟨(rd x0.Chans s1.1).To, (rd x0.Chans s1.1).From⟩ : Portholeref21_Edge)] : List Portholeref21_Edge).length))⟩, ⟨29, [], .v (.slice A_31 (s1.2 ++ [(⟨(rd x0.Chans s1.1).From, (rd x0.Chans s1.1).To⟩ : Portholeref21_Edge)]).length c_32)⟩, ⟨28, [], .v (.bool (((rd x0.Chans s1.1).Kind) == 2))⟩, ⟨3, [], .v (.slice A_31 (s1.2 ++ [(⟨(rd x0.Chans s1.1).From, (rd x0.Chans s1.1).To⟩ : Portholeref21_Edge)]).length c_32)⟩, ⟨5, [], .p 1 0⟩, ⟨10, [], .v (.bool (decide (s1.1 < (x0.Chans.length : Int))))⟩, ⟨4, [], .v (.int .i64 s1.1)⟩, ⟨2, [], .v (.slice none 0 0)⟩, ⟨1, [], .p 0 0⟩, ⟨0, [], .v (.agg ((kd_Config).cells x0 sv0).toArray)⟩], [], [], [((((kd_Config).cells x0 sv0).map EV.v), 29), ((((kd_Chan).cells (rd x0.Chans s1.1) sv_17).map EV.v), 74)], none, none⟩ [] rfl (by kernel_rfl) trivial (fun ns_44 a w_45 hI => ?_)
        obtain ⟨hE', hmv, hmr⟩ := Ep.rebase (S0 := S) hE hI
        replace hx0 := Kd.keep _ hx0 hmv
        replace hE_19 := El.keep hE_19 hmv
        replace hq_25 := Arr.keep hq_25 hmv
        replace hq_7 := Row.keep hq_7 hmv (fun b hb => hmr b (by rw [← hb]; first | (simp; done) | simp [rb]))
        replace hq_42 := Row.keep hq_42 hmv (fun b hb => hmr b (by rw [← hb]; first | (simp; done) | simp [rb]))
        replace hE := hE'
        replace hI := hI.rebase
        clear hE' hmv hmr
        obtain ⟨hE', hmv, hq_42, hcap_46⟩ := Row.still (l1 := [rb A_31]) (l2 := []) hq_42 hE
        have hmr : ∀ b : Nat, some b ∈ ([rb A_31, rb A_41] : List (Option Nat)) → w_45.heap[b]? = w_45.heap[b]? := fun _ _ => rfl
        replace hx0 := Kd.keep _ hx0 hmv
        replace hE_19 := El.keep hE_19 hmv
        replace hq_25 := Arr.keep hq_25 hmv
        replace hq_7 := Row.keep hq_7 hmv (fun b hb => hmr b (by rw [← hb]; first | (simp; done) | simp [rb]))
        replace hE := hE'
        clear hE' hmv hmr
        obtain ⟨hN_47, H1⟩ := req_some H1
        replace hN_47 := of_decide_eq_true hN_47
        refine append_ (S0 := S) (l1 := []) (l2 := []) (d := kd_Portholeref21_Edge) (e := 38) hF hE hI (wanted_none rfl) rfl (A := A_31) (c := c_32) (l := (s1.2 ++ [(⟨(rd x0.Chans s1.1).From, (rd x0.Chans s1.1).To⟩ : Portholeref21_Edge)])) rfl (A2 := A_41) (c2 := (([(⟨(rd x0.Chans s1.1).To, (rd x0.Chans s1.1).From⟩ : Portholeref21_Edge)] : List Portholeref21_Edge).length)) rfl hq_7 hq_42 (fun sv u hu => by exact kd_one_Portholeref21_Edge _ sv u hu) Try.underlying32 (zi := (.agg #[.int .i64 0, .int .i64 0], 2, 16)) (by kernel_rfl) rfl (by kernel_rfl) (len_max (by decide) hN_47) hN_47 (fun A_48 c_49 => ⟨[⟨36, [], .v (.slice A_48 ((s1.2 ++ [(⟨(rd x0.Chans s1.1).From, (rd x0.Chans s1.1).To⟩ : Portholeref21_Edge)]) ++ [(⟨(rd x0.Chans s1.1).To, (rd x0.Chans s1.1).From⟩ : Portholeref21_Edge)]).length c_49)⟩, ⟨35, [], .v (.slice A_41 ([(⟨(rd x0.Chans s1.1).To, (rd x0.Chans s1.1).From⟩ : Portholeref21_Edge)] : List Portholeref21_Edge).length (([(⟨(rd x0.Chans s1.1).To, (rd x0.Chans s1.1).From⟩ : Portholeref21_Edge)] : List Portholeref21_Edge).length))⟩, ⟨29, [], .v (.slice A_31 (s1.2 ++ [(⟨(rd x0.Chans s1.1).From, (rd x0.Chans s1.1).To⟩ : Portholeref21_Edge)]).length c_32)⟩, ⟨28, [], .v (.bool (((rd x0.Chans s1.1).Kind) == 2))⟩, ⟨3, [], .v (.slice A_31 (s1.2 ++ [(⟨(rd x0.Chans s1.1).From, (rd x0.Chans s1.1).To⟩ : Portholeref21_Edge)]).length c_32)⟩, ⟨5, [], .p 1 0⟩, ⟨10, [], .v (.bool (decide (s1.1 < (x0.Chans.length : Int))))⟩, ⟨4, [], .v (.int .i64 s1.1)⟩, ⟨2, [], .v (.slice none 0 0)⟩, ⟨1, [], .p 0 0⟩, ⟨0, [], .v (.agg ((kd_Config).cells x0 sv0).toArray)⟩], [], [], [((((kd_Config).cells x0 sv0).map EV.v), 29), ((((kd_Chan).cells (rd x0.Chans s1.1) sv_17).map EV.v), 74)], none, none⟩) (fun A_48 c_49 => by kernel_rfl) (fun A_48 c_49 a w_50 hput hE' hI' hmv hmr hq_7 => ?_)
        replace hx0 := Kd.keep _ hx0 hmv
        replace hE_19 := El.keep hE_19 hmv
        replace hq_25 := Arr.keep hq_25 hmv
        replace hq_42 := Arr.keep hq_42 hmv
        replace hE := hE'
        replace hI := hI'
        clear hE' hI' hmv hmr
        refine chunkL_ (live := [3, 28, 5, 10, 4, 2, 1, 0]) (orc := []) hF 1 hI ⟨[⟨3, [], .v (.slice A_48 ((s1.2 ++ [(⟨(rd x0.Chans s1.1).From, (rd x0.Chans s1.1).To⟩ : Portholeref21_Edge)]) ++ [(⟨(rd x0.Chans s1.1).To, (rd x0.Chans s1.1).From⟩ : Portholeref21_Edge)]).length c_49)⟩, ⟨28, [], .v (.bool (((rd x0.Chans s1.1).Kind) == 2))⟩, ⟨5, [], .p 1 0⟩, ⟨10, [], .v (.bool (decide (s1.1 < (x0.Chans.length : Int))))⟩, ⟨4, [], .v (.int .i64 s1.1)⟩, ⟨2, [], .v (.slice none 0 0)⟩, ⟨1, [], .p 0 0⟩, ⟨0, [], .v (.agg ((kd_Config).cells x0 sv0).toArray)⟩], [], [], [((((kd_Config).cells x0 sv0).map EV.v), 29), ((((kd_Chan).cells (rd x0.Chans s1.1) sv_17).map EV.v), 74)], none, none⟩ [] rfl (by kernel_rfl) trivial (fun ns_51 a w_52 hI => ?_)
        refine wpListIn_nil ?_
        refine inBlock_normal ?_
        refine then_normal ?_
        refine region_ (live := [4, 3, 28, 5, 10, 2, 1, 0]) (orc := []) hF hI ⟨[⟨4, [], .v (.int .i64 (IntKind.i64.wrap (s1.1 + 1)))⟩, ⟨3, [], .v (.slice A_48 ((s1.2 ++ [(⟨(rd x0.Chans s1.1).From, (rd x0.Chans s1.1).To⟩ : Portholeref21_Edge)]) ++ [(⟨(rd x0.Chans s1.1).To, (rd x0.Chans s1.1).From⟩ : Portholeref21_Edge)]).length c_49)⟩, ⟨28, [], .v (.bool (((rd x0.Chans s1.1).Kind) == 2))⟩, ⟨5, [], .p 1 0⟩, ⟨10, [], .v (.bool (decide (s1.1 < (x0.Chans.length : Int))))⟩, ⟨2, [], .v (.slice none 0 0)⟩, ⟨1, [], .p 0 0⟩, ⟨0, [], .v (.agg ((kd_Config).cells x0 sv0).toArray)⟩], [], [], [((((kd_Config).cells x0 sv0).map EV.v), 29), ((((kd_Chan).cells (rd x0.Chans s1.1) sv_17).map EV.v), 74)], none, none⟩ [] (by kernel_rfl) trivial (fun ns_53 a w_54 hI _ => ?_)
        refine then_normal ?_
        obtain ⟨hE', hmv, hmr⟩ := Ep.rebase (S0 := S) hE hI
        replace hx0 := Kd.keep _ hx0 hmv
        replace hE_19 := El.keep hE_19 hmv
        replace hq_25 := Arr.keep hq_25 hmv
        replace hq_42 := Arr.keep hq_42 hmv
        replace hq_7 := Row.keep hq_7 hmv (fun b hb => hmr b (by rw [← hb]; first | (simp; done) | simp [rb]))
        replace hE := hE'
        replace hI := hI.rebase
        clear hE' hmv hmr
        obtain rfl := Option.some.inj H1
        exact ⟨_, rfl, ⟨_, _, _, _, hx0, hq_7, hE, hI.pick [4, 3, 2, 1, 0] 1 ⟨[⟨4, [], .v (.int .i64 (IntKind.i64.wrap (s1.1 + 1)))⟩, ⟨3, [], .v (.slice A_48 ((s1.2 ++ [(⟨(rd x0.Chans s1.1).From, (rd x0.Chans s1.1).To⟩ : Portholeref21_Edge)]) ++ [(⟨(rd x0.Chans s1.1).To, (rd x0.Chans s1.1).From⟩ : Portholeref21_Edge)]).length c_49)⟩, ⟨2, [], .v (.slice none 0 0)⟩, ⟨1, [], .p 0 0⟩, ⟨0, [], .v (.agg ((kd_Config).cells x0 sv0).toArray)⟩], [], [], [((((kd_Config).cells x0 sv0).map EV.v), 29)], none, none⟩ (by kernel_rfl)⟩⟩
      · replace H1 := bif_f hc_38 H1
        refine wpIn_skip ?_
        refine inBlock_normal ?_
        refine then_normal ?_
        refine region_ (live := [4, 28, 3, 5, 10, 2, 1, 0]) (orc := []) hF hI ⟨[⟨4, [], .v (.int .i64 (IntKind.i64.wrap (s1.1 + 1)))⟩, ⟨28, [], .v (.bool (((rd x0.Chans s1.1).Kind) == 2))⟩, ⟨3, [], .v (.slice A_31 (s1.2 ++ [(⟨(rd x0.Chans s1.1).From, (rd x0.Chans s1.1).To⟩ : Portholeref21_Edge)]).length c_32)⟩, ⟨5, [], .p 1 0⟩, ⟨10, [], .v (.bool (decide (s1.1 < (x0.Chans.length : Int))))⟩, ⟨2, [], .v (.slice none 0 0)⟩, ⟨1, [], .p 0 0⟩, ⟨0, [], .v (.agg ((kd_Config).cells x0 sv0).toArray)⟩], [], [], [((((kd_Config).cells x0 sv0).map EV.v), 29), ((((kd_Chan).cells (rd x0.Chans s1.1) sv_17).map EV.v), 74)], none, none⟩ [] (by kernel_rfl) trivial (fun ns_55 a w_56 hI _ => ?_)
        refine then_normal ?_
        obtain ⟨hE', hmv, hmr⟩ := Ep.rebase (S0 := S) hE hI
        replace hx0 := Kd.keep _ hx0 hmv
        replace hE_19 := El.keep hE_19 hmv
        replace hq_25 := Arr.keep hq_25 hmv
        replace hq_7 := Row.keep hq_7 hmv (fun b hb => hmr b (by rw [← hb]; first | (simp; done) | simp [rb]))
        replace hE := hE'
        replace hI := hI.rebase
        clear hE' hmv hmr
        obtain rfl := Option.some.inj H1
        exact ⟨_, rfl, ⟨_, _, _, _, hx0, hq_7, hE, hI.pick [4, 3, 2, 1, 0] 1 ⟨[⟨4, [], .v (.int .i64 (IntKind.i64.wrap (s1.1 + 1)))⟩, ⟨3, [], .v (.slice A_31 (s1.2 ++ [(⟨(rd x0.Chans s1.1).From, (rd x0.Chans s1.1).To⟩ : Portholeref21_Edge)]).length c_32)⟩, ⟨2, [], .v (.slice none 0 0)⟩, ⟨1, [], .p 0 0⟩, ⟨0, [], .v (.agg ((kd_Config).cells x0 sv0).toArray)⟩], [], [], [((((kd_Config).cells x0 sv0).map EV.v), 29)], none, none⟩ (by kernel_rfl)⟩⟩
    · replace H1 := bif_f hc_15 H1
      refine wpIn_exit ?_
      refine then_exit ?_
      refine then_exit ?_
      obtain ⟨hE', hmv, hmr⟩ := Ep.rebase (S0 := S) hE hI
      replace hx0 := Kd.keep _ hx0 hmv
      replace hq_7 := Row.keep hq_7 hmv (fun b hb => hmr b (by rw [← hb]; first | (simp; done) | simp [rb]))
      replace hE := hE'
      replace hI := hI.rebase
      clear hE' hmv hmr
      obtain rfl := Option.some.inj H1
      exact .inl ⟨_, rfl, rfl, ⟨_, _, _, _, hx0, hq_7, hE, hI.pick [4, 3, 2, 1, 0] 1 ⟨[⟨4, [], .v (.int .i64 s1.1)⟩, ⟨3, [], .v (.slice A_8 s1.2.length c_9)⟩, ⟨2, [], .v (.slice none 0 0)⟩, ⟨1, [], .p 0 0⟩, ⟨0, [], .v (.agg ((kd_Config).cells x0 sv0).toArray)⟩], [], [], [((((kd_Config).cells x0 sv0).map EV.v), 29)], none, none⟩ (by kernel_rfl)⟩⟩
  · clear hI hE
    rintro s1 a w_59 ho ⟨ow_61, ns_60, A_8, c_9, hx0, hq_7, hE, hI⟩
    subst ho
    replace H0 : (some s1.2 : Option ((List Portholeref21_Edge))) = _ := H0
    refine then_normal ?_
    refine seq_region (live := [2, 4, 3, 1, 0]) (orc := []) hF hI ⟨[⟨2, [], .v (.slice A_8 s1.2.length c_9)⟩, ⟨4, [], .v (.int .i64 s1.1)⟩, ⟨3, [], .v (.slice A_8 s1.2.length c_9)⟩, ⟨1, [], .p 0 0⟩, ⟨0, [], .v (.agg ((kd_Config).cells x0 sv0).toArray)⟩], [], [], [((((kd_Config).cells x0 sv0).map EV.v), 29)], none, none⟩ [] (by kernel_rfl) trivial (fun ns_62 a w_63 hI _ => ?_)
    obtain ⟨hE', hmv, hmr⟩ := Ep.rebase (S0 := S) hE hI
    replace hx0 := Kd.keep _ hx0 hmv
    replace hq_7 := Row.keep hq_7 hmv (fun b hb => hmr b (by rw [← hb]; first | (simp; done) | simp [rb]))
    replace hE := hE'
    replace hI := hI.rebase
    clear hE' hmv hmr
    obtain ⟨hE', hmv, hq_7, hcap_64⟩ := Row.still (l1 := []) (l2 := []) hq_7 hE
    have hmr : ∀ b : Nat, some b ∈ ([rb A_8] : List (Option Nat)) → w_63.heap[b]? = w_63.heap[b]? := fun _ _ => rfl
    replace hx0 := Kd.keep _ hx0 hmv
    replace hE := hE'
    clear hE' hmv hmr
    refine wpIn_ret ?_
    obtain rfl := Option.some.inj H0
    exact ret1 hI rfl rfl ⟨svL [(A_8, c_9)], rfl, hE.below hI, ⟨Arr.keep hq_7 (hE.out hI), hcap_64⟩⟩

/-! ### porthole/portholeref21.leads: function 41, that calls itself -/
noncomputable def G_ref21_leads.b1 (self_ : (List Portholeref21_Edge) → Int → Int → Int → Option (Bool)) (l0 : (List Portholeref21_Edge)) (a1 : Int) (a2 : Int) (a3 : Int) (s1 : Int × Bool) : Option (Stp (Int × Bool) (Ex (Int × Bool) (Bool))) := (bif (decide (s1.1 < (l0.length : Int)) && decide (a3 > 0)) then (req (inb s1.1 l0.length) (req (imp (((rd l0 s1.1).From) == a1) (inb s1.1 l0.length)) ((cal (((rd l0 s1.1).From) == a1) (self_ l0 ((rd l0 s1.1).To) a2 (IntKind.i64.wrap (a3 - 1))) default).bind fun t_23 => (bif ((((rd l0 s1.1).From) == a1) && t_23) then some (.out (.ret true)) else some (.next ((IntKind.i64.wrap (s1.1 + 1)), s1.2)))))) else some (.out (.brk (s1.1, s1.2))))
noncomputable def G_ref21_leads.step (self_ : (List Portholeref21_Edge) → Int → Int → Int → Option (Bool)) (l0 : (List Portholeref21_Edge)) (a1 : Int) (a2 : Int) (a3 : Int) : Option (Bool) := (bif (a1 == a2) then some true else ((loopω (G_ref21_leads.b1 self_ l0 a1 a2 a3) (0, false)).bind fun o => o.on (fun s1 => some false) (fun r => some r)))
noncomputable def G_ref21_leads.n : Nat → (List Portholeref21_Edge) → Int → Int → Int → Option (Bool)
  | 0 => fun _ _ _ _ => none
  | n + 1 => G_ref21_leads.step (G_ref21_leads.n n)
noncomputable def G_ref21_leads (l0 : (List Portholeref21_Edge)) (a1 : Int) (a2 : Int) (a3 : Int) : Option (Bool) := recω fun n => G_ref21_leads.n n l0 a1 a2 a3
set_option maxRecDepth 100000 in
set_option maxHeartbeats 4000000 in
theorem G_ref21_leads.callsN : ∀ (n : Nat) (l0 : (List Portholeref21_Edge)) (a1 : Int) (a2 : Int) (a3 : Int) (A0 : Option Addr) (c0 : Nat) (w : World) {S : Nat → Prop} (hr0 : Arr kd_Portholeref21_Edge S w A0 l0) (hc0 : l0.length ≤ c0) (r : Bool) (h : G_ref21_leads.n n l0 a1 a2 a3 = some r),
    Calls Try.prog 41 #[.slice A0 l0.length c0, .int .i64 a1, .int .i64 a2, .int .i64 a3] w fun e w' => e = .returned (.bool r) ∧ Below w.heap.size w w' := by
  intro n
  induction n with
  | zero => intro l0 a1 a2 a3 A0 c0 w S hr0 hc0 r h; cases h
  | succ n ih =>
    intro l0 a1 a2 a3 A0 c0 w S hr0 hc0 r h
    replace hr0 := Arr.lo hr0
    unfold G_ref21_leads.n at h
    unfold G_ref21_leads.step at h
    have H0 := h
    clear h
    refine enter Try.func41 rfl [.slice A0 l0.length c0, .int .i64 a1, .int .i64 a2, .int .i64 a3] (n := 42) rfl (Nat.le_of_ble_eq_true rfl) (fun a hI => ?_)
    have hF : FOpen Fence.wide := .inl rfl
    have hE := Ep.start w
    refine seq_region (live := [8, 0, 1, 2, 3]) (orc := []) hF hI ⟨[⟨8, [], .v (.bool false)⟩, ⟨0, [], .v (.slice A0 l0.length c0)⟩, ⟨1, [], .v (.int .i64 a1)⟩, ⟨2, [], .v (.int .i64 a2)⟩, ⟨3, [], .v (.int .i64 a3)⟩], [], [], [], none, none⟩ [] (by kernel_rfl) trivial (fun ns_1 a w_2 hI _ => ?_)
    refine wpIn_seq ?_
    refine seq_region (live := [12, 8, 0, 1, 2, 3]) (orc := []) hF hI ⟨[⟨12, [], .v (.bool (a1 == a2))⟩, ⟨8, [], .v (.bool false)⟩, ⟨0, [], .v (.slice A0 l0.length c0)⟩, ⟨1, [], .v (.int .i64 a1)⟩, ⟨2, [], .v (.int .i64 a2)⟩, ⟨3, [], .v (.int .i64 a3)⟩], [], [], [], none, none⟩ [] (by kernel_rfl) trivial (fun ns_3 a w_4 hI _ => ?_)
    refine cond_ hI ((a1 == a2)) rfl (fun hc_5 => ?_) (fun hc_5 => ?_)
    · replace H0 := bif_t hc_5 H0
      refine seq_region (live := [8, 12, 0, 1, 2, 3]) (orc := []) hF hI ⟨[⟨8, [], .v (.bool true)⟩, ⟨12, [], .v (.bool (a1 == a2))⟩, ⟨0, [], .v (.slice A0 l0.length c0)⟩, ⟨1, [], .v (.int .i64 a1)⟩, ⟨2, [], .v (.int .i64 a2)⟩, ⟨3, [], .v (.int .i64 a3)⟩], [], [], [], none, none⟩ [] (by kernel_rfl) trivial (fun ns_6 a w_7 hI _ => ?_)
      refine wpIn_ret ?_
      refine then_ret ?_
      obtain rfl := Option.some.inj H0
      exact ret1 hI rfl rfl ⟨rfl, hE.below hI⟩
    · replace H0 := bif_f hc_5 H0
      refine wpIn_skip ?_
      refine then_normal ?_
      refine wpIn_seq ?_
      refine seq_region (live := [9, 12, 8, 0, 1, 2, 3]) (orc := []) hF hI ⟨[⟨9, [], .v (.int .i64 0)⟩, ⟨12, [], .v (.bool (a1 == a2))⟩, ⟨8, [], .v (.bool false)⟩, ⟨0, [], .v (.slice A0 l0.length c0)⟩, ⟨1, [], .v (.int .i64 a1)⟩, ⟨2, [], .v (.int .i64 a2)⟩, ⟨3, [], .v (.int .i64 a3)⟩], [], [], [], none, none⟩ [] (by kernel_rfl) trivial (fun ns_8 a w_9 hI _ => ?_)
      obtain ⟨o_32, hL_33, H0⟩ := bind_some H0
      refine block_loop (fun (s1 : Int × Bool) a w_38 => ∃ ns, St w [] 42 ⟨[⟨9, [], .v (.int .i64 s1.1)⟩, ⟨12, [], .v (.bool (a1 == a2))⟩, ⟨8, [], .v (.bool s1.2)⟩, ⟨0, [], .v (.slice A0 l0.length c0)⟩, ⟨1, [], .v (.int .i64 a1)⟩, ⟨2, [], .v (.int .i64 a2)⟩, ⟨3, [], .v (.int .i64 a3)⟩], [], [], [], none, none⟩ ns a w_38) (0, false) hL_33 ⟨_, hI.pick [9, 12, 8, 0, 1, 2, 3] 0 ⟨[⟨9, [], .v (.int .i64 0)⟩, ⟨12, [], .v (.bool (a1 == a2))⟩, ⟨8, [], .v (.bool false)⟩, ⟨0, [], .v (.slice A0 l0.length c0)⟩, ⟨1, [], .v (.int .i64 a1)⟩, ⟨2, [], .v (.int .i64 a2)⟩, ⟨3, [], .v (.int .i64 a3)⟩], [], [], [], none, none⟩ (by kernel_rfl)⟩ ?_ ?_
      · clear hI
        rintro s1 a w_10 ⟨ns_11, hI⟩ r1 H1
        unfold G_ref21_leads.b1 at H1
        refine wpIn_seq ?_
        refine seq_region (live := [20, 9, 12, 8, 0, 1, 2, 3]) (orc := []) hF hI ⟨[⟨20, [], .v (.bool (decide (s1.1 < (l0.length : Int)) && decide (a3 > 0)))⟩, ⟨9, [], .v (.int .i64 s1.1)⟩, ⟨12, [], .v (.bool (a1 == a2))⟩, ⟨8, [], .v (.bool s1.2)⟩, ⟨0, [], .v (.slice A0 l0.length c0)⟩, ⟨1, [], .v (.int .i64 a1)⟩, ⟨2, [], .v (.int .i64 a2)⟩, ⟨3, [], .v (.int .i64 a3)⟩], [], [], [], none, none⟩ [] (by kernel_rfl) trivial (fun ns_12 a w_13 hI _ => ?_)
        refine cond_ hI ((decide (s1.1 < (l0.length : Int)) && decide (a3 > 0))) rfl (fun hc_14 => ?_) (fun hc_14 => ?_)
        · replace H1 := bif_t hc_14 H1
          refine wpIn_skip ?_
          refine then_normal ?_
          refine wpIn_seq ?_
          refine wpIn_block ?_
          obtain ⟨hN_15, H1⟩ := req_some H1
          obtain ⟨sv_16, hE_18, hA_17⟩ := Arr.elB (d := kd_Portholeref21_Edge) hr0 s1.1 true (fun _ => hN_15)
          replace hE_18 := hE_18 rfl
          replace hA_17 := fun (_ : true = true) => hA_17 rfl
          obtain ⟨hN_19, H1⟩ := req_some H1
          obtain ⟨sv_20, hE_22, hA_21⟩ := Arr.elB (d := kd_Portholeref21_Edge) hr0 s1.1 (((rd l0 s1.1).From) == a1) (fun hg => imp_spec hN_19 hg)
          obtain ⟨t_23, hG_24, H1⟩ := bind_some H1
          refine seq_region (live := [41, 20, 9, 12, 8, 0, 1, 2, 3]) (orc := [[.int .i64 ((rd l0 s1.1).From)], [.int .i64 ((rd l0 s1.1).To)], [.bool t_23]]) hF hI ⟨[⟨41, [], .v (.bool ((((rd l0 s1.1).From) == a1) && t_23))⟩, ⟨20, [], .v (.bool (decide (s1.1 < (l0.length : Int)) && decide (a3 > 0)))⟩, ⟨9, [], .v (.int .i64 s1.1)⟩, ⟨12, [], .v (.bool (a1 == a2))⟩, ⟨8, [], .v (.bool s1.2)⟩, ⟨0, [], .v (.slice A0 l0.length c0)⟩, ⟨1, [], .v (.int .i64 a1)⟩, ⟨2, [], .v (.int .i64 a2)⟩, ⟨3, [], .v (.int .i64 a3)⟩], [], [], [], none, none⟩ [.need true (0 ≤ s1.1 ∧ s1.1 < (l0.length : Int)), .need true (A0 = some (adr A0)), .cell true ((adr A0).add ((s1.1 : Int).toNat * 2)) [.int .i64 ((rd l0 s1.1).From)], .need (((rd l0 s1.1).From) == a1) (0 ≤ s1.1 ∧ s1.1 < (l0.length : Int)), .need (((rd l0 s1.1).From) == a1) (A0 = some (adr A0)), .cell (((rd l0 s1.1).From) == a1) (((adr A0).add ((s1.1 : Int).toNat * 2)).add 1) [.int .i64 ((rd l0 s1.1).To)], .call (((rd l0 s1.1).From) == a1) 41 [.slice A0 l0.length c0, .int .i64 ((rd l0 s1.1).To), .int .i64 a2, .int .i64 (IntKind.i64.wrap (a3 - 1))] (.bool t_23)] (by kernel_rfl) ⟨ob_inb (fun _ => hN_15), hA_17, ob_el (fun _ => hE_18) 0 [.int .i64 ((rd l0 s1.1).From)] rfl, ob_inb (fun hg => imp_spec hN_19 hg), hA_21, ob_el (fun hg => hE_22 hg) 1 [.int .i64 ((rd l0 s1.1).To)] rfl, ob_call (enters Try.func41 (by kernel_rfl) rfl) (fun hg wz hk => ih l0 ((rd l0 s1.1).To) a2 (IntKind.i64.wrap (a3 - 1)) A0 c0 wz (S := fun _ => True) (Arr.any (Arr.keep hr0 (Lo.on hk))) hc0 _ (cal_some hG_24 hg)), trivial⟩ (fun ns_25 a w_26 hI _ => ?_)
          refine cond_ hI (((((rd l0 s1.1).From) == a1) && t_23)) rfl (fun hc_27 => ?_) (fun hc_27 => ?_)
          · replace H1 := bif_t hc_27 H1
            refine seq_region (live := [8, 41, 20, 9, 12, 0, 1, 2, 3]) (orc := []) hF hI ⟨[⟨8, [], .v (.bool true)⟩, ⟨41, [], .v (.bool ((((rd l0 s1.1).From) == a1) && t_23))⟩, ⟨20, [], .v (.bool (decide (s1.1 < (l0.length : Int)) && decide (a3 > 0)))⟩, ⟨9, [], .v (.int .i64 s1.1)⟩, ⟨12, [], .v (.bool (a1 == a2))⟩, ⟨0, [], .v (.slice A0 l0.length c0)⟩, ⟨1, [], .v (.int .i64 a1)⟩, ⟨2, [], .v (.int .i64 a2)⟩, ⟨3, [], .v (.int .i64 a3)⟩], [], [], [], none, none⟩ [] (by kernel_rfl) trivial (fun ns_28 a w_29 hI _ => ?_)
            refine wpIn_ret ?_
            refine inBlock_ret ?_
            refine then_ret ?_
            refine then_ret ?_
            obtain rfl := Option.some.inj H1
            refine .inr ⟨_, rfl, fun ho => ?_⟩
            subst ho
            refine inBlock_ret ?_
            refine then_ret ?_
            obtain rfl := Option.some.inj H0
            exact ret1 hI rfl rfl ⟨rfl, hE.below hI⟩
          · replace H1 := bif_f hc_27 H1
            refine wpIn_skip ?_
            refine inBlock_normal ?_
            refine then_normal ?_
            refine region_ (live := [9, 41, 20, 12, 8, 0, 1, 2, 3]) (orc := []) hF hI ⟨[⟨9, [], .v (.int .i64 (IntKind.i64.wrap (s1.1 + 1)))⟩, ⟨41, [], .v (.bool ((((rd l0 s1.1).From) == a1) && t_23))⟩, ⟨20, [], .v (.bool (decide (s1.1 < (l0.length : Int)) && decide (a3 > 0)))⟩, ⟨12, [], .v (.bool (a1 == a2))⟩, ⟨8, [], .v (.bool s1.2)⟩, ⟨0, [], .v (.slice A0 l0.length c0)⟩, ⟨1, [], .v (.int .i64 a1)⟩, ⟨2, [], .v (.int .i64 a2)⟩, ⟨3, [], .v (.int .i64 a3)⟩], [], [], [], none, none⟩ [] (by kernel_rfl) trivial (fun ns_30 a w_31 hI _ => ?_)
            refine then_normal ?_
            obtain rfl := Option.some.inj H1
            exact ⟨_, rfl, ⟨_, hI.pick [9, 12, 8, 0, 1, 2, 3] 0 ⟨[⟨9, [], .v (.int .i64 (IntKind.i64.wrap (s1.1 + 1)))⟩, ⟨12, [], .v (.bool (a1 == a2))⟩, ⟨8, [], .v (.bool s1.2)⟩, ⟨0, [], .v (.slice A0 l0.length c0)⟩, ⟨1, [], .v (.int .i64 a1)⟩, ⟨2, [], .v (.int .i64 a2)⟩, ⟨3, [], .v (.int .i64 a3)⟩], [], [], [], none, none⟩ (by kernel_rfl)⟩⟩
        · replace H1 := bif_f hc_14 H1
          refine wpIn_exit ?_
          refine then_exit ?_
          refine then_exit ?_
          obtain rfl := Option.some.inj H1
          exact .inl ⟨_, rfl, rfl, ⟨_, hI.pick [9, 12, 8, 0, 1, 2, 3] 0 ⟨[⟨9, [], .v (.int .i64 s1.1)⟩, ⟨12, [], .v (.bool (a1 == a2))⟩, ⟨8, [], .v (.bool s1.2)⟩, ⟨0, [], .v (.slice A0 l0.length c0)⟩, ⟨1, [], .v (.int .i64 a1)⟩, ⟨2, [], .v (.int .i64 a2)⟩, ⟨3, [], .v (.int .i64 a3)⟩], [], [], [], none, none⟩ (by kernel_rfl)⟩⟩
      · clear hI
        rintro s1 a w_34 ho ⟨ns_35, hI⟩
        subst ho
        replace H0 : (some false : Option (Bool)) = _ := H0
        refine then_normal ?_
        refine seq_region (live := [8, 9, 12, 0, 1, 2, 3]) (orc := []) hF hI ⟨[⟨8, [], .v (.bool false)⟩, ⟨9, [], .v (.int .i64 s1.1)⟩, ⟨12, [], .v (.bool (a1 == a2))⟩, ⟨0, [], .v (.slice A0 l0.length c0)⟩, ⟨1, [], .v (.int .i64 a1)⟩, ⟨2, [], .v (.int .i64 a2)⟩, ⟨3, [], .v (.int .i64 a3)⟩], [], [], [], none, none⟩ [] (by kernel_rfl) trivial (fun ns_36 a w_37 hI _ => ?_)
        refine wpIn_ret ?_
        obtain rfl := Option.some.inj H0
        exact ret1 hI rfl rfl ⟨rfl, hE.below hI⟩
theorem G_ref21_leads.calls (l0 : (List Portholeref21_Edge)) (a1 : Int) (a2 : Int) (a3 : Int) (A0 : Option Addr) (c0 : Nat) (w : World) {S : Nat → Prop} (hr0 : Arr kd_Portholeref21_Edge S w A0 l0) (hc0 : l0.length ≤ c0) (r : Bool) (h : G_ref21_leads l0 a1 a2 a3 = some r) :
    Calls Try.prog 41 #[.slice A0 l0.length c0, .int .i64 a1, .int .i64 a2, .int .i64 a3] w fun e w' => e = .returned (.bool r) ∧ Below w.heap.size w w' := by
  obtain ⟨n, hn⟩ := recω_some h
  exact G_ref21_leads.callsN n l0 a1 a2 a3 A0 c0 w hr0 hc0 r hn

/-! ### porthole/portholeref21.Into: function 19 -/
noncomputable def G_ref21_Into.b1 (x0 : Config) (a1 : Int) (t_7 : (List Portholeref21_Edge)) (s1 : Int × (List Int)) : Option (Stp (Int × (List Int)) (Ex (Int × (List Int)) ((List Int)))) := (bif decide (s1.1 < (x0.Parts.length : Int)) then ((G_ref21_leads t_7 s1.1 a1 (x0.Parts.length : Int)).bind fun t_25 => (bif t_25 then (req (decide ((s1.2.length + 1) * 8 ≤ 140737488355328)) (some (.next ((IntKind.i64.wrap (s1.1 + 1)), (s1.2 ++ [s1.1]))))) else some (.next ((IntKind.i64.wrap (s1.1 + 1)), s1.2)))) else some (.out (.brk (s1.1, s1.2))))
noncomputable def G_ref21_Into (x0 : Config) (a1 : Int) : Option ((List Int)) := ((G_ref21_Edges x0).bind fun t_7 => ((loopω (G_ref21_Into.b1 x0 a1 t_7) (0, ([] : List Int))).bind fun o => o.on (fun s1 => some s1.2) (fun r => some r)))
set_option maxRecDepth 100000 in
set_option maxHeartbeats 4000000 in
theorem G_ref21_Into.calls (x0 : Config) (a1 : Int) (sv0 : SV) (w : World) {S : Nat → Prop} (hx0 : (kd_Config).cont S w x0 sv0) (r : (List Int)) (h : G_ref21_Into x0 a1 = some r) :
    Calls Try.prog 19 #[.agg ((kd_Config).cells x0 (svL [((sv0 0).1, (sv0 0).2), ((sv0 1).1, (sv0 1).2), ((sv0 2).1, (sv0 2).2), ((sv0 3).1, (sv0 3).2)])).toArray, .int .i64 a1] w fun e w' => ∃ sv : SV, e = .returned (.slice ((sv 0).1) r.length ((sv 0).2)) ∧ Below w.heap.size w w' ∧ (Arr (Kd.int .i64) (fun b => w.heap.size ≤ b ∨ S b) w' (sv 0).1 r ∧ r.length ≤ (sv 0).2) := by
  replace hx0 := Kd.lo _ hx0
  unfold G_ref21_Into at h
  have H0 := h
  clear h
  refine enter Try.func19 rfl [.agg ((kd_Config).cells x0 (svL [((sv0 0).1, (sv0 0).2), ((sv0 1).1, (sv0 1).2), ((sv0 2).1, (sv0 2).2), ((sv0 3).1, (sv0 3).2)])).toArray, .int .i64 a1] (n := 29) rfl (Nat.le_of_ble_eq_true rfl) (fun a hI => ?_)
  have hF : FOpen Fence.wide := .inl rfl
  have hE := Ep.start w
  refine seq_region (live := [4, 2, 0, 1]) (orc := []) hF hI ⟨[⟨4, [], .v (.slice none 0 0)⟩, ⟨2, [], .p 0 0⟩, ⟨0, [], .v (.agg ((kd_Config).cells x0 sv0).toArray)⟩, ⟨1, [], .v (.int .i64 a1)⟩], [], [], [((((kd_Config).cells x0 sv0).map EV.v), 29)], none, none⟩ [] (by kernel_rfl) trivial (fun ns_1 a w_2 hI _ => ?_)
  refine seq_region (live := [5, 4, 2, 0, 1]) (orc := []) hF hI ⟨[⟨5, [], .v (.slice none 0 0)⟩, ⟨4, [], .v (.slice none 0 0)⟩, ⟨2, [], .p 0 0⟩, ⟨0, [], .v (.agg ((kd_Config).cells x0 sv0).toArray)⟩, ⟨1, [], .v (.int .i64 a1)⟩], [], [], [((((kd_Config).cells x0 sv0).map EV.v), 29)], none, none⟩ [] (by kernel_rfl) trivial (fun ns_3 a w_4 hI _ => ?_)
  refine wpIn_seq ?_
  refine wpIn_region_lit ?_
  refine chunkL_ (live := [8, 5, 4, 2, 0, 1]) (orc := []) hF 1 hI ⟨[⟨8, [], .v (.agg ((kd_Config).cells x0 sv0).toArray)⟩, ⟨5, [], .v (.slice none 0 0)⟩, ⟨4, [], .v (.slice none 0 0)⟩, ⟨2, [], .p 0 0⟩, ⟨0, [], .v (.agg ((kd_Config).cells x0 sv0).toArray)⟩, ⟨1, [], .v (.int .i64 a1)⟩], [], [], [((((kd_Config).cells x0 sv0).map EV.v), 29)], none, none⟩ [] rfl (by kernel_rfl) trivial (fun ns_5 a w_6 hI => ?_)
  obtain ⟨hE', hmv, hmr⟩ := Ep.rebase (S0 := S) hE hI
  replace hx0 := Kd.keep _ hx0 hmv
  replace hE := hE'
  replace hI := hI.rebase
  clear hE' hmv hmr
  obtain ⟨t_7, hG_8, H0⟩ := bind_some H0
  refine callH_ (S0 := S) hF hE hI (wanted_none rfl) rfl (args := [.agg ((kd_Config).cells x0 (svL [((sv0 0).1, (sv0 0).2), ((sv0 1).1, (sv0 1).2), ((sv0 2).1, (sv0 2).2), ((sv0 3).1, (sv0 3).2)])).toArray]) rfl (enters Try.func15 (by kernel_rfl) rfl) (fun sv_9 => .slice ((sv_9 0).1) t_7.length ((sv_9 0).2)) _ (G_ref21_Edges.calls x0 (svL [((sv0 0).1, (sv0 0).2), ((sv0 1).1, (sv0 1).2), ((sv0 2).1, (sv0 2).2), ((sv0 3).1, (sv0 3).2)]) w_6 (S := Lo S w w_6 ns_5 []) (contI (d := kd_Config) (x := x0) (sv := (svL [((sv0 0).1, (sv0 0).2), ((sv0 1).1, (sv0 1).2), ((sv0 2).1, (sv0 2).2), ((sv0 3).1, (sv0 3).2)])) ⟨⟨hx0.1.1, hx0.1.2⟩, ⟨hx0.2.1.1, hx0.2.1.2⟩, ⟨hx0.2.2.1.1, hx0.2.2.1.2⟩, ⟨hx0.2.2.2.1.1, hx0.2.2.2.1.2⟩, trivial⟩) _ hG_8) (fun sv_9 => ⟨[⟨9, [], .v (.slice ((sv_9 0).1) t_7.length ((sv_9 0).2))⟩, ⟨8, [], .v (.agg ((kd_Config).cells x0 (svL [((sv0 0).1, (sv0 0).2), ((sv0 1).1, (sv0 1).2), ((sv0 2).1, (sv0 2).2), ((sv0 3).1, (sv0 3).2)])).toArray)⟩, ⟨5, [], .v (.slice none 0 0)⟩, ⟨4, [], .v (.slice none 0 0)⟩, ⟨2, [], .p 0 0⟩, ⟨0, [], .v (.agg ((kd_Config).cells x0 (svL [((sv0 0).1, (sv0 0).2), ((sv0 1).1, (sv0 1).2), ((sv0 2).1, (sv0 2).2), ((sv0 3).1, (sv0 3).2)])).toArray)⟩, ⟨1, [], .v (.int .i64 a1)⟩], [], [], [((((kd_Config).cells x0 sv0).map EV.v), 29)], none, none⟩) (fun sv_9 => by kernel_rfl) (fun sv_9 a w_11 hput hE' hI' hmv hmr hres hR => ?_)
  replace hx0 := Kd.keep _ hx0 hmv
  replace hE := hE'
  replace hI := hI'
  clear hE' hI' hmv hmr
  obtain ⟨hR_10, hR_10c⟩ := hR
  replace hR_10 := Arr.keep hR_10 hres
  clear hres
  refine chunkL_ (live := [6, 5, 4, 2, 0, 1]) (orc := []) hF 1 hI ⟨[⟨6, [], .v (.slice ((sv_9 0).1) t_7.length ((sv_9 0).2))⟩, ⟨5, [], .v (.slice none 0 0)⟩, ⟨4, [], .v (.slice none 0 0)⟩, ⟨2, [], .p 0 0⟩, ⟨0, [], .v (.agg ((kd_Config).cells x0 (svL [((sv0 0).1, (sv0 0).2), ((sv0 1).1, (sv0 1).2), ((sv0 2).1, (sv0 2).2), ((sv0 3).1, (sv0 3).2)])).toArray)⟩, ⟨1, [], .v (.int .i64 a1)⟩], [], [], [((((kd_Config).cells x0 sv0).map EV.v), 29)], none, none⟩ [] rfl (by kernel_rfl) trivial (fun ns_12 a w_13 hI => ?_)
  refine wpListIn_nil ?_
  refine then_normal ?_
  refine wpIn_seq ?_
  refine seq_region (live := [7, 6, 5, 4, 2, 0, 1]) (orc := []) hF hI ⟨[⟨7, [], .v (.int .i64 0)⟩, ⟨6, [], .v (.slice ((sv_9 0).1) t_7.length ((sv_9 0).2))⟩, ⟨5, [], .v (.slice none 0 0)⟩, ⟨4, [], .v (.slice none 0 0)⟩, ⟨2, [], .p 0 0⟩, ⟨0, [], .v (.agg ((kd_Config).cells x0 (svL [((sv0 0).1, (sv0 0).2), ((sv0 1).1, (sv0 1).2), ((sv0 2).1, (sv0 2).2), ((sv0 3).1, (sv0 3).2)])).toArray)⟩, ⟨1, [], .v (.int .i64 a1)⟩], [], [], [((((kd_Config).cells x0 sv0).map EV.v), 29)], none, none⟩ [] (by kernel_rfl) trivial (fun ns_14 a w_15 hI _ => ?_)
  obtain ⟨hE', hmv, hmr⟩ := Ep.rebase (S0 := S) hE hI
  replace hx0 := Kd.keep _ hx0 hmv
  replace hR_10 := Arr.keep hR_10 hmv
  replace hE := hE'
  replace hI := hI.rebase
  clear hE' hmv hmr
  obtain ⟨hE', hmv⟩ := Ep.addNil (S0 := S) hE
  have hmr : ∀ b : Nat, some b ∈ ([] : List (Option Nat)) → w_15.heap[b]? = w_15.heap[b]? := fun _ _ => rfl
  replace hx0 := Kd.keep _ hx0 hmv
  replace hR_10 := Arr.keep hR_10 hmv
  replace hE := hE'
  clear hE' hmv hmr
  have hq_16 : Row (Kd.int .i64) 3 (Lo S w w_15 ns_14 [rb none]) w_15 w.heap.size none 0 ([] : List Int) := Row.nil
  obtain ⟨o_48, hL_49, H0⟩ := bind_some H0
  refine block_loop (fun (s1 : Int × (List Int)) a w_56 => ∃ (ow ns : List Nat) (A_17 : Option Addr) (c_18 : Nat), ((kd_Config).cont (Lo S w w_56 ow [rb A_17]) w_56 x0 sv0) ∧ (Arr kd_Portholeref21_Edge (Lo S w w_56 ow [rb A_17]) w_56 (sv_9 0).1 t_7) ∧ (Row (Kd.int .i64) 3 (Lo S w w_56 ow [rb A_17]) w_56 w.heap.size A_17 c_18 s1.2) ∧ Ep w w_56 ow [rb A_17] ∧ St w_56 ow 29 ⟨[⟨7, [], .v (.int .i64 s1.1)⟩, ⟨6, [], .v (.slice ((sv_9 0).1) t_7.length ((sv_9 0).2))⟩, ⟨5, [], .v (.slice A_17 s1.2.length c_18)⟩, ⟨4, [], .v (.slice none 0 0)⟩, ⟨2, [], .p 0 0⟩, ⟨0, [], .v (.agg ((kd_Config).cells x0 (svL [((sv0 0).1, (sv0 0).2), ((sv0 1).1, (sv0 1).2), ((sv0 2).1, (sv0 2).2), ((sv0 3).1, (sv0 3).2)])).toArray)⟩, ⟨1, [], .v (.int .i64 a1)⟩], [], [], [((((kd_Config).cells x0 sv0).map EV.v), 29)], none, none⟩ ns a w_56) (0, ([] : List Int)) hL_49 ⟨_, _, _, _, hx0, hR_10, hq_16, hE, hI.pick [7, 6, 5, 4, 2, 0, 1] 1 ⟨[⟨7, [], .v (.int .i64 0)⟩, ⟨6, [], .v (.slice ((sv_9 0).1) t_7.length ((sv_9 0).2))⟩, ⟨5, [], .v (.slice none ([] : List Int).length 0)⟩, ⟨4, [], .v (.slice none 0 0)⟩, ⟨2, [], .p 0 0⟩, ⟨0, [], .v (.agg ((kd_Config).cells x0 (svL [((sv0 0).1, (sv0 0).2), ((sv0 1).1, (sv0 1).2), ((sv0 2).1, (sv0 2).2), ((sv0 3).1, (sv0 3).2)])).toArray)⟩, ⟨1, [], .v (.int .i64 a1)⟩], [], [], [((((kd_Config).cells x0 sv0).map EV.v), 29)], none, none⟩ (by kernel_rfl)⟩ ?_ ?_
  · clear hI hE
    rintro s1 a w_19 ⟨ow_21, ns_20, A_17, c_18, hx0, hR_10, hq_16, hE, hI⟩ r1 H1
    unfold G_ref21_Into.b1 at H1
    refine wpIn_seq ?_
    refine seq_region (live := [14, 7, 6, 5, 4, 2, 0, 1]) (orc := []) hF hI ⟨[⟨14, [], .v (.bool (decide (s1.1 < (x0.Parts.length : Int))))⟩, ⟨7, [], .v (.int .i64 s1.1)⟩, ⟨6, [], .v (.slice ((sv_9 0).1) t_7.length ((sv_9 0).2))⟩, ⟨5, [], .v (.slice A_17 s1.2.length c_18)⟩, ⟨4, [], .v (.slice none 0 0)⟩, ⟨2, [], .p 0 0⟩, ⟨0, [], .v (.agg ((kd_Config).cells x0 (svL [((sv0 0).1, (sv0 0).2), ((sv0 1).1, (sv0 1).2), ((sv0 2).1, (sv0 2).2), ((sv0 3).1, (sv0 3).2)])).toArray)⟩, ⟨1, [], .v (.int .i64 a1)⟩], [], [], [((((kd_Config).cells x0 sv0).map EV.v), 29)], none, none⟩ [] (by kernel_rfl) trivial (fun ns_22 a w_23 hI _ => ?_)
    refine cond_ hI (decide (s1.1 < (x0.Parts.length : Int))) rfl (fun hc_24 => ?_) (fun hc_24 => ?_)
    · replace H1 := bif_t hc_24 H1
      refine wpIn_skip ?_
      refine then_normal ?_
      refine wpIn_seq ?_
      refine wpIn_block ?_
      obtain ⟨t_25, hG_26, H1⟩ := bind_some H1
      refine seq_region (live := [23, 14, 7, 6, 5, 4, 2, 0, 1]) (orc := [[.bool t_25]]) hF hI ⟨[⟨23, [], .v (.bool t_25)⟩, ⟨14, [], .v (.bool (decide (s1.1 < (x0.Parts.length : Int))))⟩, ⟨7, [], .v (.int .i64 s1.1)⟩, ⟨6, [], .v (.slice ((sv_9 0).1) t_7.length ((sv_9 0).2))⟩, ⟨5, [], .v (.slice A_17 s1.2.length c_18)⟩, ⟨4, [], .v (.slice none 0 0)⟩, ⟨2, [], .p 0 0⟩, ⟨0, [], .v (.agg ((kd_Config).cells x0 (svL [((sv0 0).1, (sv0 0).2), ((sv0 1).1, (sv0 1).2), ((sv0 2).1, (sv0 2).2), ((sv0 3).1, (sv0 3).2)])).toArray)⟩, ⟨1, [], .v (.int .i64 a1)⟩], [], [], [((((kd_Config).cells x0 sv0).map EV.v), 29)], none, none⟩ [.call true 41 [.slice ((sv_9 0).1) t_7.length ((sv_9 0).2), .int .i64 s1.1, .int .i64 a1, .int .i64 (x0.Parts.length : Int)] (.bool t_25)] (by kernel_rfl) ⟨ob_call (enters Try.func41 (by kernel_rfl) rfl) (fun hg wz hk => G_ref21_leads.calls t_7 s1.1 a1 (x0.Parts.length : Int) ((sv_9 0).1) ((sv_9 0).2) wz (S := fun _ => True) (Arr.any (Arr.keep hR_10 (Lo.on hk))) hR_10c _ hG_26), trivial⟩ (fun ns_27 a w_28 hI _ => ?_)
      refine cond_ hI (t_25) rfl (fun hc_29 => ?_) (fun hc_29 => ?_)
      · replace H1 := bif_t hc_29 H1
        refine wpIn_region_lit ?_
        refine chunkL_ (live := [25, 24, 23, 14, 7, 6, 5, 4, 2, 0, 1]) (orc := []) hF 2 hI ⟨[⟨25, [], .v (.int .i64 s1.1)⟩, ⟨24, [], .v (.slice A_17 s1.2.length c_18)⟩, ⟨23, [], .v (.bool t_25)⟩, ⟨14, [], .v (.bool (decide (s1.1 < (x0.Parts.length : Int))))⟩, ⟨7, [], .v (.int .i64 s1.1)⟩, ⟨6, [], .v (.slice ((sv_9 0).1) t_7.length ((sv_9 0).2))⟩, ⟨5, [], .v (.slice A_17 s1.2.length c_18)⟩, ⟨4, [], .v (.slice none 0 0)⟩, ⟨2, [], .p 0 0⟩, ⟨0, [], .v (.agg ((kd_Config).cells x0 (svL [((sv0 0).1, (sv0 0).2), ((sv0 1).1, (sv0 1).2), ((sv0 2).1, (sv0 2).2), ((sv0 3).1, (sv0 3).2)])).toArray)⟩, ⟨1, [], .v (.int .i64 a1)⟩], [], [], [((((kd_Config).cells x0 sv0).map EV.v), 29)], none, none⟩ [] rfl (by kernel_rfl) trivial (fun ns_30 a w_31 hI => ?_)
        obtain ⟨hE', hmv, hmr⟩ := Ep.rebase (S0 := S) hE hI
        replace hx0 := Kd.keep _ hx0 hmv
        replace hR_10 := Arr.keep hR_10 hmv
        replace hq_16 := Row.keep hq_16 hmv (fun b hb => hmr b (by rw [← hb]; first | (simp; done) | simp [rb]))
        replace hE := hE'
        replace hI := hI.rebase
        clear hE' hmv hmr
        refine buildSlice_ (S0 := S) (d := (Kd.int .i64)) (e := 3) hF hE hI (wanted_none rfl) rfl (by kernel_rfl) (cs := [.int .i64 s1.1]) (by kernel_rfl) [s1.1] [(svL [])] rfl rfl (by simp [maxLen]) (fun i x hi => by cases i with | zero => (simp only [List.getElem?_cons_zero, Option.some.injEq] at hi; subst hi; exact ⟨trivial, rfl⟩) | succ i => (simp only [List.getElem?_cons_succ] at hi; simp at hi)) (fun A_32 => ⟨[⟨26, [], .v (.slice A_32 ([s1.1] : List Int).length (([s1.1] : List Int).length))⟩, ⟨25, [], .v (.int .i64 s1.1)⟩, ⟨24, [], .v (.slice A_17 s1.2.length c_18)⟩, ⟨23, [], .v (.bool t_25)⟩, ⟨14, [], .v (.bool (decide (s1.1 < (x0.Parts.length : Int))))⟩, ⟨7, [], .v (.int .i64 s1.1)⟩, ⟨6, [], .v (.slice ((sv_9 0).1) t_7.length ((sv_9 0).2))⟩, ⟨5, [], .v (.slice A_17 s1.2.length c_18)⟩, ⟨4, [], .v (.slice none 0 0)⟩, ⟨2, [], .p 0 0⟩, ⟨0, [], .v (.agg ((kd_Config).cells x0 (svL [((sv0 0).1, (sv0 0).2), ((sv0 1).1, (sv0 1).2), ((sv0 2).1, (sv0 2).2), ((sv0 3).1, (sv0 3).2)])).toArray)⟩, ⟨1, [], .v (.int .i64 a1)⟩], [], [], [((((kd_Config).cells x0 sv0).map EV.v), 29)], none, none⟩) (fun A_32 => by kernel_rfl) (fun A_32 a w_34 hput hE' hI' hmv hmr hq_33 => ?_)
        replace hx0 := Kd.keep _ hx0 hmv
        replace hR_10 := Arr.keep hR_10 hmv
        replace hq_16 := Row.keep hq_16 hmv (fun b hb => hmr b (by rw [← hb]; first | (simp; done) | simp [rb]) (by simp))
        replace hE := hE'
        replace hI := hI'
        clear hE' hI' hmv hmr
        refine chunkL_ (live := [26, 24, 23, 14, 7, 6, 5, 4, 2, 0, 1]) (orc := []) hF 0 hI ⟨[⟨26, [], .v (.slice A_32 ([s1.1] : List Int).length (([s1.1] : List Int).length))⟩, ⟨24, [], .v (.slice A_17 s1.2.length c_18)⟩, ⟨23, [], .v (.bool t_25)⟩, ⟨14, [], .v (.bool (decide (s1.1 < (x0.Parts.length : Int))))⟩, ⟨7, [], .v (.int .i64 s1.1)⟩, ⟨6, [], .v (.slice ((sv_9 0).1) t_7.length ((sv_9 0).2))⟩, ⟨5, [], .v (.slice A_17 s1.2.length c_18)⟩, ⟨4, [], .v (.slice none 0 0)⟩, ⟨2, [], .p 0 0⟩, ⟨0, [], .v (.agg ((kd_Config).cells x0 (svL [((sv0 0).1, (sv0 0).2), ((sv0 1).1, (sv0 1).2), ((sv0 2).1, (sv0 2).2), ((sv0 3).1, (sv0 3).2)])).toArray)⟩, ⟨1, [], .v (.int .i64 a1)⟩], [], [], [((((kd_Config).cells x0 sv0).map EV.v), 29)], none, none⟩ [] rfl (by kernel_rfl) trivial (fun ns_35 a w_36 hI => ?_)
        obtain ⟨hE', hmv, hmr⟩ := Ep.rebase (S0 := S) hE hI
        replace hx0 := Kd.keep _ hx0 hmv
        replace hR_10 := Arr.keep hR_10 hmv
        replace hq_16 := Row.keep hq_16 hmv (fun b hb => hmr b (by rw [← hb]; first | (simp; done) | simp [rb]))
        replace hq_33 := Row.keep hq_33 hmv (fun b hb => hmr b (by rw [← hb]; first | (simp; done) | simp [rb]))
        replace hE := hE'
        replace hI := hI.rebase
        clear hE' hmv hmr
        obtain ⟨hE', hmv, hq_33, hcap_37⟩ := Row.still (l1 := [rb A_17]) (l2 := []) hq_33 hE
        have hmr : ∀ b : Nat, some b ∈ ([rb A_17, rb A_32] : List (Option Nat)) → w_36.heap[b]? = w_36.heap[b]? := fun _ _ => rfl
        replace hx0 := Kd.keep _ hx0 hmv
        replace hR_10 := Arr.keep hR_10 hmv
        replace hq_16 := Row.keep hq_16 hmv (fun b hb => hmr b (by rw [← hb]; first | (simp; done) | simp [rb]))
        replace hE := hE'
        clear hE' hmv hmr
        obtain ⟨hN_38, H1⟩ := req_some H1
        replace hN_38 := of_decide_eq_true hN_38
        refine append_ (S0 := S) (l1 := []) (l2 := []) (d := (Kd.int .i64)) (e := 3) hF hE hI (wanted_none rfl) rfl (A := A_17) (c := c_18) (l := s1.2) rfl (A2 := A_32) (c2 := (([s1.1] : List Int).length)) rfl hq_16 hq_33 (fun sv u hu => by exact kd_one_int _ sv u hu) Try.underlying39 (zi := (.int .i64 0, 1, 8)) (by kernel_rfl) rfl (by kernel_rfl) (len_max (by decide) hN_38) hN_38 (fun A_39 c_40 => ⟨[⟨27, [], .v (.slice A_39 (s1.2 ++ [s1.1]).length c_40)⟩, ⟨26, [], .v (.slice A_32 ([s1.1] : List Int).length (([s1.1] : List Int).length))⟩, ⟨24, [], .v (.slice A_17 s1.2.length c_18)⟩, ⟨23, [], .v (.bool t_25)⟩, ⟨14, [], .v (.bool (decide (s1.1 < (x0.Parts.length : Int))))⟩, ⟨7, [], .v (.int .i64 s1.1)⟩, ⟨6, [], .v (.slice ((sv_9 0).1) t_7.length ((sv_9 0).2))⟩, ⟨5, [], .v (.slice A_17 s1.2.length c_18)⟩, ⟨4, [], .v (.slice none 0 0)⟩, ⟨2, [], .p 0 0⟩, ⟨0, [], .v (.agg ((kd_Config).cells x0 (svL [((sv0 0).1, (sv0 0).2), ((sv0 1).1, (sv0 1).2), ((sv0 2).1, (sv0 2).2), ((sv0 3).1, (sv0 3).2)])).toArray)⟩, ⟨1, [], .v (.int .i64 a1)⟩], [], [], [((((kd_Config).cells x0 sv0).map EV.v), 29)], none, none⟩) (fun A_39 c_40 => by kernel_rfl) (fun A_39 c_40 a w_41 hput hE' hI' hmv hmr hq_16 => ?_)
        replace hx0 := Kd.keep _ hx0 hmv
        replace hR_10 := Arr.keep hR_10 hmv
        replace hq_33 := Arr.keep hq_33 hmv
        replace hE := hE'
        replace hI := hI'
        clear hE' hI' hmv hmr
        refine chunkL_ (live := [5, 23, 14, 7, 6, 4, 2, 0, 1]) (orc := []) hF 1 hI ⟨[⟨5, [], .v (.slice A_39 (s1.2 ++ [s1.1]).length c_40)⟩, ⟨23, [], .v (.bool t_25)⟩, ⟨14, [], .v (.bool (decide (s1.1 < (x0.Parts.length : Int))))⟩, ⟨7, [], .v (.int .i64 s1.1)⟩, ⟨6, [], .v (.slice ((sv_9 0).1) t_7.length ((sv_9 0).2))⟩, ⟨4, [], .v (.slice none 0 0)⟩, ⟨2, [], .p 0 0⟩, ⟨0, [], .v (.agg ((kd_Config).cells x0 (svL [((sv0 0).1, (sv0 0).2), ((sv0 1).1, (sv0 1).2), ((sv0 2).1, (sv0 2).2), ((sv0 3).1, (sv0 3).2)])).toArray)⟩, ⟨1, [], .v (.int .i64 a1)⟩], [], [], [((((kd_Config).cells x0 sv0).map EV.v), 29)], none, none⟩ [] rfl (by kernel_rfl) trivial (fun ns_42 a w_43 hI => ?_)
        refine wpListIn_nil ?_
        refine inBlock_normal ?_
        refine then_normal ?_
        refine region_ (live := [7, 5, 23, 14, 6, 4, 2, 0, 1]) (orc := []) hF hI ⟨[⟨7, [], .v (.int .i64 (IntKind.i64.wrap (s1.1 + 1)))⟩, ⟨5, [], .v (.slice A_39 (s1.2 ++ [s1.1]).length c_40)⟩, ⟨23, [], .v (.bool t_25)⟩, ⟨14, [], .v (.bool (decide (s1.1 < (x0.Parts.length : Int))))⟩, ⟨6, [], .v (.slice ((sv_9 0).1) t_7.length ((sv_9 0).2))⟩, ⟨4, [], .v (.slice none 0 0)⟩, ⟨2, [], .p 0 0⟩, ⟨0, [], .v (.agg ((kd_Config).cells x0 (svL [((sv0 0).1, (sv0 0).2), ((sv0 1).1, (sv0 1).2), ((sv0 2).1, (sv0 2).2), ((sv0 3).1, (sv0 3).2)])).toArray)⟩, ⟨1, [], .v (.int .i64 a1)⟩], [], [], [((((kd_Config).cells x0 sv0).map EV.v), 29)], none, none⟩ [] (by kernel_rfl) trivial (fun ns_44 a w_45 hI _ => ?_)
        refine then_normal ?_
        obtain ⟨hE', hmv, hmr⟩ := Ep.rebase (S0 := S) hE hI
        replace hx0 := Kd.keep _ hx0 hmv
        replace hR_10 := Arr.keep hR_10 hmv
        replace hq_33 := Arr.keep hq_33 hmv
        replace hq_16 := Row.keep hq_16 hmv (fun b hb => hmr b (by rw [← hb]; first | (simp; done) | simp [rb]))
        replace hE := hE'
        replace hI := hI.rebase
        clear hE' hmv hmr
        obtain rfl := Option.some.inj H1
        exact ⟨_, rfl, ⟨_, _, _, _, hx0, hR_10, hq_16, hE, hI.pick [7, 6, 5, 4, 2, 0, 1] 1 ⟨[⟨7, [], .v (.int .i64 (IntKind.i64.wrap (s1.1 + 1)))⟩, ⟨6, [], .v (.slice ((sv_9 0).1) t_7.length ((sv_9 0).2))⟩, ⟨5, [], .v (.slice A_39 (s1.2 ++ [s1.1]).length c_40)⟩, ⟨4, [], .v (.slice none 0 0)⟩, ⟨2, [], .p 0 0⟩, ⟨0, [], .v (.agg ((kd_Config).cells x0 (svL [((sv0 0).1, (sv0 0).2), ((sv0 1).1, (sv0 1).2), ((sv0 2).1, (sv0 2).2), ((sv0 3).1, (sv0 3).2)])).toArray)⟩, ⟨1, [], .v (.int .i64 a1)⟩], [], [], [((((kd_Config).cells x0 sv0).map EV.v), 29)], none, none⟩ (by kernel_rfl)⟩⟩
      · replace H1 := bif_f hc_29 H1
        refine wpIn_skip ?_
        refine inBlock_normal ?_
        refine then_normal ?_
        refine region_ (live := [7, 23, 14, 6, 5, 4, 2, 0, 1]) (orc := []) hF hI ⟨[⟨7, [], .v (.int .i64 (IntKind.i64.wrap (s1.1 + 1)))⟩, ⟨23, [], .v (.bool t_25)⟩, ⟨14, [], .v (.bool (decide (s1.1 < (x0.Parts.length : Int))))⟩, ⟨6, [], .v (.slice ((sv_9 0).1) t_7.length ((sv_9 0).2))⟩, ⟨5, [], .v (.slice A_17 s1.2.length c_18)⟩, ⟨4, [], .v (.slice none 0 0)⟩, ⟨2, [], .p 0 0⟩, ⟨0, [], .v (.agg ((kd_Config).cells x0 (svL [((sv0 0).1, (sv0 0).2), ((sv0 1).1, (sv0 1).2), ((sv0 2).1, (sv0 2).2), ((sv0 3).1, (sv0 3).2)])).toArray)⟩, ⟨1, [], .v (.int .i64 a1)⟩], [], [], [((((kd_Config).cells x0 sv0).map EV.v), 29)], none, none⟩ [] (by kernel_rfl) trivial (fun ns_46 a w_47 hI _ => ?_)
        refine then_normal ?_
        obtain ⟨hE', hmv, hmr⟩ := Ep.rebase (S0 := S) hE hI
        replace hx0 := Kd.keep _ hx0 hmv
        replace hR_10 := Arr.keep hR_10 hmv
        replace hq_16 := Row.keep hq_16 hmv (fun b hb => hmr b (by rw [← hb]; first | (simp; done) | simp [rb]))
        replace hE := hE'
        replace hI := hI.rebase
        clear hE' hmv hmr
        obtain rfl := Option.some.inj H1
        exact ⟨_, rfl, ⟨_, _, _, _, hx0, hR_10, hq_16, hE, hI.pick [7, 6, 5, 4, 2, 0, 1] 1 ⟨[⟨7, [], .v (.int .i64 (IntKind.i64.wrap (s1.1 + 1)))⟩, ⟨6, [], .v (.slice ((sv_9 0).1) t_7.length ((sv_9 0).2))⟩, ⟨5, [], .v (.slice A_17 s1.2.length c_18)⟩, ⟨4, [], .v (.slice none 0 0)⟩, ⟨2, [], .p 0 0⟩, ⟨0, [], .v (.agg ((kd_Config).cells x0 (svL [((sv0 0).1, (sv0 0).2), ((sv0 1).1, (sv0 1).2), ((sv0 2).1, (sv0 2).2), ((sv0 3).1, (sv0 3).2)])).toArray)⟩, ⟨1, [], .v (.int .i64 a1)⟩], [], [], [((((kd_Config).cells x0 sv0).map EV.v), 29)], none, none⟩ (by kernel_rfl)⟩⟩
    · replace H1 := bif_f hc_24 H1
      refine wpIn_exit ?_
      refine then_exit ?_
      refine then_exit ?_
      obtain ⟨hE', hmv, hmr⟩ := Ep.rebase (S0 := S) hE hI
      replace hx0 := Kd.keep _ hx0 hmv
      replace hR_10 := Arr.keep hR_10 hmv
      replace hq_16 := Row.keep hq_16 hmv (fun b hb => hmr b (by rw [← hb]; first | (simp; done) | simp [rb]))
      replace hE := hE'
      replace hI := hI.rebase
      clear hE' hmv hmr
      obtain rfl := Option.some.inj H1
      exact .inl ⟨_, rfl, rfl, ⟨_, _, _, _, hx0, hR_10, hq_16, hE, hI.pick [7, 6, 5, 4, 2, 0, 1] 1 ⟨[⟨7, [], .v (.int .i64 s1.1)⟩, ⟨6, [], .v (.slice ((sv_9 0).1) t_7.length ((sv_9 0).2))⟩, ⟨5, [], .v (.slice A_17 s1.2.length c_18)⟩, ⟨4, [], .v (.slice none 0 0)⟩, ⟨2, [], .p 0 0⟩, ⟨0, [], .v (.agg ((kd_Config).cells x0 (svL [((sv0 0).1, (sv0 0).2), ((sv0 1).1, (sv0 1).2), ((sv0 2).1, (sv0 2).2), ((sv0 3).1, (sv0 3).2)])).toArray)⟩, ⟨1, [], .v (.int .i64 a1)⟩], [], [], [((((kd_Config).cells x0 sv0).map EV.v), 29)], none, none⟩ (by kernel_rfl)⟩⟩
  · clear hI hE
    rintro s1 a w_50 ho ⟨ow_52, ns_51, A_17, c_18, hx0, hR_10, hq_16, hE, hI⟩
    subst ho
    replace H0 : (some s1.2 : Option ((List Int))) = _ := H0
    refine then_normal ?_
    refine seq_region (live := [4, 7, 6, 5, 2, 0, 1]) (orc := []) hF hI ⟨[⟨4, [], .v (.slice A_17 s1.2.length c_18)⟩, ⟨7, [], .v (.int .i64 s1.1)⟩, ⟨6, [], .v (.slice ((sv_9 0).1) t_7.length ((sv_9 0).2))⟩, ⟨5, [], .v (.slice A_17 s1.2.length c_18)⟩, ⟨2, [], .p 0 0⟩, ⟨0, [], .v (.agg ((kd_Config).cells x0 (svL [((sv0 0).1, (sv0 0).2), ((sv0 1).1, (sv0 1).2), ((sv0 2).1, (sv0 2).2), ((sv0 3).1, (sv0 3).2)])).toArray)⟩, ⟨1, [], .v (.int .i64 a1)⟩], [], [], [((((kd_Config).cells x0 sv0).map EV.v), 29)], none, none⟩ [] (by kernel_rfl) trivial (fun ns_53 a w_54 hI _ => ?_)
    obtain ⟨hE', hmv, hmr⟩ := Ep.rebase (S0 := S) hE hI
    replace hx0 := Kd.keep _ hx0 hmv
    replace hR_10 := Arr.keep hR_10 hmv
    replace hq_16 := Row.keep hq_16 hmv (fun b hb => hmr b (by rw [← hb]; first | (simp; done) | simp [rb]))
    replace hE := hE'
    replace hI := hI.rebase
    clear hE' hmv hmr
    obtain ⟨hE', hmv, hq_16, hcap_55⟩ := Row.still (l1 := []) (l2 := []) hq_16 hE
    have hmr : ∀ b : Nat, some b ∈ ([rb A_17] : List (Option Nat)) → w_54.heap[b]? = w_54.heap[b]? := fun _ _ => rfl
    replace hx0 := Kd.keep _ hx0 hmv
    replace hR_10 := Arr.keep hR_10 hmv
    replace hE := hE'
    clear hE' hmv hmr
    refine wpIn_ret ?_
    obtain rfl := Option.some.inj H0
    exact ret1 hI rfl rfl ⟨svL [(A_17, c_18)], rfl, hE.below hI, ⟨Arr.keep hq_16 (hE.out hI), hcap_55⟩⟩

end Go.Proofs.Ytnfnincmhobpaab
