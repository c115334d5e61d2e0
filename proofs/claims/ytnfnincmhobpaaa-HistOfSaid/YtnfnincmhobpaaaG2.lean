import Derived.Test.YtnfnincmhobpaaaG2x0
set_option linter.unusedVariables false
set_option linter.unusedSimpArgs false
namespace Go.Proofs.Ytnfnincmhobpaaa
open Go Go.RowKit Go.Eng Go.Proofs

/-! ### porthole/portholelaw17.HistApart: function 6 -/
noncomputable def G_law17_HistApart.b2 (l0 : (List Call)) (t_3 : Bool) (t_10 : Bool) (s1 : Int × Bool) (s2 : Int × Bool) : Option (Stp (Int × Bool) (Ex (Int × Bool) (Bool))) := (bif decide (s2.1 < ((l0.take (s1.1 : Int).toNat).length : Int)) then (req (inb s2.1 (l0.take (s1.1 : Int).toNat).length) ((cal (((rd (l0.take (s1.1 : Int).toNat) s2.1).Part) == ((rd l0 s1.1).Part)) (G_hist_Ahead (rd (l0.take (s1.1 : Int).toNat) s2.1) (rd l0 s1.1)) default).bind fun t_44 => ((cal ((((rd (l0.take (s1.1 : Int).toNat) s2.1).Part) == ((rd l0 s1.1).Part)) && (!(!t_44))) (G_hist_Ahead (rd l0 s1.1) (rd (l0.take (s1.1 : Int).toNat) s2.1)) default).bind fun t_46 => (bif ((((rd (l0.take (s1.1 : Int).toNat) s2.1).Part) == ((rd l0 s1.1).Part)) && ((!t_44) || t_46)) then some (.out (.ret false)) else some (.next ((IntKind.i64.wrap (s2.1 + 1)), s2.2)))))) else some (.out (.brk (s2.1, s2.2))))
noncomputable def G_law17_HistApart.b1 (l0 : (List Call)) (t_3 : Bool) (t_10 : Bool) (s1 : Int × Bool) : Option (Stp (Int × Bool) (Ex (Int × Bool) (Bool))) := (bif decide (s1.1 < (l0.length : Int)) then (req (inb s1.1 l0.length) (req (inb s1.1 (l0.length + 1)) ((loopω (G_law17_HistApart.b2 l0 t_3 t_10 s1) (0, s1.2)).bind fun o => o.on (fun s2 => some (.next ((IntKind.i64.wrap (s1.1 + 1)), s2.2))) (fun r => some (.out (.ret r)))))) else some (.out (.brk (s1.1, s1.2))))
noncomputable def G_law17_HistApart (l0 : (List Call)) : Option (Bool) := ((G_law17_wakes).bind fun t_3 => (bif (!t_3) then some false else ((cal (!(decide ((l0.length : Int) > 60))) (G_hist_Sound l0) default).bind fun t_10 => (bif (decide ((l0.length : Int) > 60) || (!t_10)) then some true else ((loopω (G_law17_HistApart.b1 l0 t_3 t_10) (0, false)).bind fun o => o.on (fun s1 => some true) (fun r => some r))))))
set_option maxRecDepth 100000 in
set_option maxHeartbeats 4000000 in
theorem G_law17_HistApart.calls (l0 : (List Call)) (A0 : Option Addr) (c0 : Nat) (w : World) {S : Nat → Prop} (hr0 : Arr kd_Call S w A0 l0) (hc0 : l0.length ≤ c0) (r : Bool) (h : G_law17_HistApart l0 = some r) :
    Calls Try.prog 6 #[.slice A0 l0.length c0] w fun e w' => e = .returned (.bool r) ∧ Below w.heap.size w w' := by
  replace hr0 := Arr.lo hr0
  unfold G_law17_HistApart at h
  have H0 := h
  clear h
  refine enter Try.func6 rfl [.slice A0 l0.length c0] (n := 50) rfl (Nat.le_of_ble_eq_true rfl) (fun a hI => ?_)
  have hF : FOpen Fence.wide := .inl rfl
  have hE := Ep.start w
  refine seq_region (live := [2, 0]) (orc := []) hF hI ⟨[⟨2, [], .v (.bool false)⟩, ⟨0, [], .v (.slice A0 l0.length c0)⟩], [], [], [], none, none⟩ [] (by kernel_rfl) trivial (fun ns_1 a w_2 hI _ => ?_)
  refine wpIn_seq ?_
  obtain ⟨t_3, hG_4, H0⟩ := bind_some H0
  refine seq_region (live := [8, 2, 0]) (orc := [[.bool t_3]]) hF hI ⟨[⟨8, [], .v (.bool (!t_3))⟩, ⟨2, [], .v (.bool false)⟩, ⟨0, [], .v (.slice A0 l0.length c0)⟩], [], [], [], none, none⟩ [.call true 18 [] (.bool t_3)] (by kernel_rfl) ⟨ob_call (enters Try.func18 (by kernel_rfl) rfl) (fun hg wz hk => G_law17_wakes.calls   wz (S := fun _ => True)  _ hG_4), trivial⟩ (fun ns_5 a w_6 hI _ => ?_)
  refine cond_ hI ((!t_3)) rfl (fun hc_7 => ?_) (fun hc_7 => ?_)
  · replace H0 := bif_t hc_7 H0
    refine seq_region (live := [2, 8, 0]) (orc := []) hF hI ⟨[⟨2, [], .v (.bool false)⟩, ⟨8, [], .v (.bool (!t_3))⟩, ⟨0, [], .v (.slice A0 l0.length c0)⟩], [], [], [], none, none⟩ [] (by kernel_rfl) trivial (fun ns_8 a w_9 hI _ => ?_)
    refine wpIn_ret ?_
    refine then_ret ?_
    obtain rfl := Option.some.inj H0
    exact ret1 hI rfl rfl ⟨rfl, hE.below hI⟩
  · replace H0 := bif_f hc_7 H0
    refine wpIn_skip ?_
    refine then_normal ?_
    refine wpIn_seq ?_
    obtain ⟨t_10, hG_11, H0⟩ := bind_some H0
    refine seq_region (live := [16, 8, 2, 0]) (orc := [[.bool t_10]]) hF hI ⟨[⟨16, [], .v (.bool (decide ((l0.length : Int) > 60) || (!t_10)))⟩, ⟨8, [], .v (.bool (!t_3))⟩, ⟨2, [], .v (.bool false)⟩, ⟨0, [], .v (.slice A0 l0.length c0)⟩], [], [], [], none, none⟩ [.call (!(decide ((l0.length : Int) > 60))) 19 [.slice A0 l0.length c0] (.bool t_10)] (by kernel_rfl) ⟨ob_call (enters Try.func19 (by kernel_rfl) rfl) (fun hg wz hk => G_hist_Sound.calls l0 A0 c0 wz (S := fun _ => True) (Arr.any (Arr.keep hr0 (Lo.on hk))) hc0 _ (cal_some hG_11 hg)), trivial⟩ (fun ns_12 a w_13 hI _ => ?_)
    refine cond_ hI ((decide ((l0.length : Int) > 60) || (!t_10))) rfl (fun hc_14 => ?_) (fun hc_14 => ?_)
    · replace H0 := bif_t hc_14 H0
      refine seq_region (live := [2, 16, 8, 0]) (orc := []) hF hI ⟨[⟨2, [], .v (.bool true)⟩, ⟨16, [], .v (.bool (decide ((l0.length : Int) > 60) || (!t_10)))⟩, ⟨8, [], .v (.bool (!t_3))⟩, ⟨0, [], .v (.slice A0 l0.length c0)⟩], [], [], [], none, none⟩ [] (by kernel_rfl) trivial (fun ns_15 a w_16 hI _ => ?_)
      refine wpIn_ret ?_
      refine then_ret ?_
      obtain rfl := Option.some.inj H0
      exact ret1 hI rfl rfl ⟨rfl, hE.below hI⟩
    · replace H0 := bif_f hc_14 H0
      refine wpIn_skip ?_
      refine then_normal ?_
      refine wpIn_seq ?_
      refine seq_region (live := [19, 18, 17, 16, 8, 2, 0]) (orc := []) hF hI ⟨[⟨19, [], .v (.int .i64 0)⟩, ⟨18, [], .v (.int .i64 (l0.length : Int))⟩, ⟨17, [], .v (.slice A0 l0.length c0)⟩, ⟨16, [], .v (.bool (decide ((l0.length : Int) > 60) || (!t_10)))⟩, ⟨8, [], .v (.bool (!t_3))⟩, ⟨2, [], .v (.bool false)⟩, ⟨0, [], .v (.slice A0 l0.length c0)⟩], [], [], [], none, none⟩ [] (by kernel_rfl) trivial (fun ns_17 a w_18 hI _ => ?_)
      obtain ⟨o_62, hL_63, H0⟩ := bind_some H0
      refine block_loop (fun s1 a w_68 => ∃ ns, St w [] 50 ⟨[⟨19, [], .v (.int .i64 s1.1)⟩, ⟨18, [], .v (.int .i64 (l0.length : Int))⟩, ⟨17, [], .v (.slice A0 l0.length c0)⟩, ⟨16, [], .v (.bool (decide ((l0.length : Int) > 60) || (!t_10)))⟩, ⟨8, [], .v (.bool (!t_3))⟩, ⟨2, [], .v (.bool s1.2)⟩, ⟨0, [], .v (.slice A0 l0.length c0)⟩], [], [], [], none, none⟩ ns a w_68) (0, false) hL_63 ⟨_, hI.pick [19, 18, 17, 16, 8, 2, 0] 0 ⟨[⟨19, [], .v (.int .i64 0)⟩, ⟨18, [], .v (.int .i64 (l0.length : Int))⟩, ⟨17, [], .v (.slice A0 l0.length c0)⟩, ⟨16, [], .v (.bool (decide ((l0.length : Int) > 60) || (!t_10)))⟩, ⟨8, [], .v (.bool (!t_3))⟩, ⟨2, [], .v (.bool false)⟩, ⟨0, [], .v (.slice A0 l0.length c0)⟩], [], [], [], none, none⟩ (by kernel_rfl)⟩ ?_ ?_
      · clear hI
        rintro s1 a w_19 ⟨ns_20, hI⟩ r1 H1
        unfold G_law17_HistApart.b1 at H1
        refine seq_region (live := [20, 19, 18, 17, 16, 8, 2, 0]) (orc := []) hF hI ⟨[⟨20, [], .v (.bool (decide (s1.1 < (l0.length : Int))))⟩, ⟨19, [], .v (.int .i64 s1.1)⟩, ⟨18, [], .v (.int .i64 (l0.length : Int))⟩, ⟨17, [], .v (.slice A0 l0.length c0)⟩, ⟨16, [], .v (.bool (decide ((l0.length : Int) > 60) || (!t_10)))⟩, ⟨8, [], .v (.bool (!t_3))⟩, ⟨2, [], .v (.bool s1.2)⟩, ⟨0, [], .v (.slice A0 l0.length c0)⟩], [], [], [], none, none⟩ [] (by kernel_rfl) trivial (fun ns_21 a w_22 hI _ => ?_)
        refine wpIn_seq ?_
        refine cond_ hI (decide (s1.1 < (l0.length : Int))) rfl (fun hc_23 => ?_) (fun hc_23 => ?_)
        · replace H1 := bif_t hc_23 H1
          refine wpIn_skip ?_
          refine then_normal ?_
          refine wpIn_seq ?_
          refine wpIn_block ?_
          obtain ⟨hN_24, H1⟩ := req_some H1
          obtain ⟨sv_25, hE_27, hA_26⟩ := Arr.elB (d := kd_Call) hr0 s1.1 true (fun _ => hN_24)
          replace hE_27 := hE_27 rfl
          replace hA_26 := fun (_ : true = true) => hA_26 rfl
          refine seq_region (live := [3, 4, 20, 19, 18, 17, 16, 8, 2, 0]) (orc := [(kd_Call).cells (rd l0 s1.1) sv_25]) hF hI ⟨[⟨3, [], .v (.int .i64 s1.1)⟩, ⟨4, [], .p 0 0⟩, ⟨20, [], .v (.bool (decide (s1.1 < (l0.length : Int))))⟩, ⟨19, [], .v (.int .i64 s1.1)⟩, ⟨18, [], .v (.int .i64 (l0.length : Int))⟩, ⟨17, [], .v (.slice A0 l0.length c0)⟩, ⟨16, [], .v (.bool (decide ((l0.length : Int) > 60) || (!t_10)))⟩, ⟨8, [], .v (.bool (!t_3))⟩, ⟨2, [], .v (.bool s1.2)⟩, ⟨0, [], .v (.slice A0 l0.length c0)⟩], [], [], [((((kd_Call).cells (rd l0 s1.1) sv_25).map EV.v), 42)], none, none⟩ [.need true (0 ≤ s1.1 ∧ s1.1 < (l0.length : Int)), .need true (A0 = some (adr A0)), .cell true ((adr A0).add ((s1.1 : Int).toNat * 20)) ((kd_Call).cells (rd l0 s1.1) sv_25)] (by kernel_rfl) ⟨ob_inb (fun _ => hN_24), hA_26, ob_el (fun _ => hE_27) 0 ((kd_Call).cells (rd l0 s1.1) sv_25) rfl, trivial⟩ (fun ns_28 a w_29 hI _ => ?_)
          obtain ⟨hN_30, H1⟩ := req_some H1
          replace hN_30 := inb_le hN_30
          refine seq_region (live := [28, 27, 26, 3, 4, 20, 19, 18, 17, 16, 8, 2, 0]) (orc := [[.slice A0 (l0.take (s1.1 : Int).toNat).length c0]]) hF hI ⟨[⟨28, [], .v (.int .i64 0)⟩, ⟨27, [], .v (.int .i64 ((l0.take (s1.1 : Int).toNat).length : Int))⟩, ⟨26, [], .v (.slice A0 (l0.take (s1.1 : Int).toNat).length c0)⟩, ⟨3, [], .v (.int .i64 s1.1)⟩, ⟨4, [], .p 0 0⟩, ⟨20, [], .v (.bool (decide (s1.1 < (l0.length : Int))))⟩, ⟨19, [], .v (.int .i64 s1.1)⟩, ⟨18, [], .v (.int .i64 (l0.length : Int))⟩, ⟨17, [], .v (.slice A0 l0.length c0)⟩, ⟨16, [], .v (.bool (decide ((l0.length : Int) > 60) || (!t_10)))⟩, ⟨8, [], .v (.bool (!t_3))⟩, ⟨2, [], .v (.bool s1.2)⟩, ⟨0, [], .v (.slice A0 l0.length c0)⟩], [], [], [((((kd_Call).cells (rd l0 s1.1) sv_25).map EV.v), 42)], none, none⟩ [.run true (vS (Instr.sliceAt 26 (.slice A0 l0.length c0) none (some (.int .i64 s1.1)) none)) (.slice A0 (l0.take (s1.1 : Int).toNat).length c0)] (by kernel_rfl) ⟨(fun _ wz hk => vS_run (slice_hi (sz := 20) Try.underlying26 (by kernel_rfl) hN_30.1 hN_30.2 hc0 wz)), trivial⟩ (fun ns_31 a w_32 hI _ => ?_)
          obtain ⟨o_55, hL_56, H1⟩ := bind_some H1
          refine block_loop (fun s2 a w_61 => ∃ ns, St w [] 50 ⟨[⟨28, [], .v (.int .i64 s2.1)⟩, ⟨27, [], .v (.int .i64 ((l0.take (s1.1 : Int).toNat).length : Int))⟩, ⟨26, [], .v (.slice A0 (l0.take (s1.1 : Int).toNat).length c0)⟩, ⟨3, [], .v (.int .i64 s1.1)⟩, ⟨4, [], .p 0 0⟩, ⟨20, [], .v (.bool (decide (s1.1 < (l0.length : Int))))⟩, ⟨19, [], .v (.int .i64 s1.1)⟩, ⟨18, [], .v (.int .i64 (l0.length : Int))⟩, ⟨17, [], .v (.slice A0 l0.length c0)⟩, ⟨16, [], .v (.bool (decide ((l0.length : Int) > 60) || (!t_10)))⟩, ⟨8, [], .v (.bool (!t_3))⟩, ⟨2, [], .v (.bool s2.2)⟩, ⟨0, [], .v (.slice A0 l0.length c0)⟩], [], [], [((((kd_Call).cells (rd l0 s1.1) sv_25).map EV.v), 42)], none, none⟩ ns a w_61) (0, s1.2) hL_56 ⟨_, hI.pick [28, 27, 26, 3, 4, 20, 19, 18, 17, 16, 8, 2, 0] 1 ⟨[⟨28, [], .v (.int .i64 0)⟩, ⟨27, [], .v (.int .i64 ((l0.take (s1.1 : Int).toNat).length : Int))⟩, ⟨26, [], .v (.slice A0 (l0.take (s1.1 : Int).toNat).length c0)⟩, ⟨3, [], .v (.int .i64 s1.1)⟩, ⟨4, [], .p 0 0⟩, ⟨20, [], .v (.bool (decide (s1.1 < (l0.length : Int))))⟩, ⟨19, [], .v (.int .i64 s1.1)⟩, ⟨18, [], .v (.int .i64 (l0.length : Int))⟩, ⟨17, [], .v (.slice A0 l0.length c0)⟩, ⟨16, [], .v (.bool (decide ((l0.length : Int) > 60) || (!t_10)))⟩, ⟨8, [], .v (.bool (!t_3))⟩, ⟨2, [], .v (.bool s1.2)⟩, ⟨0, [], .v (.slice A0 l0.length c0)⟩], [], [], [((((kd_Call).cells (rd l0 s1.1) sv_25).map EV.v), 42)], none, none⟩ (by kernel_rfl)⟩ ?_ ?_
          · clear hI
            rintro s2 a w_33 ⟨ns_34, hI⟩ r2 H2
            unfold G_law17_HistApart.b2 at H2
            refine seq_region (live := [29, 28, 27, 26, 3, 4, 20, 19, 18, 17, 16, 8, 2, 0]) (orc := []) hF hI ⟨[⟨29, [], .v (.bool (decide (s2.1 < ((l0.take (s1.1 : Int).toNat).length : Int))))⟩, ⟨28, [], .v (.int .i64 s2.1)⟩, ⟨27, [], .v (.int .i64 ((l0.take (s1.1 : Int).toNat).length : Int))⟩, ⟨26, [], .v (.slice A0 (l0.take (s1.1 : Int).toNat).length c0)⟩, ⟨3, [], .v (.int .i64 s1.1)⟩, ⟨4, [], .p 0 0⟩, ⟨20, [], .v (.bool (decide (s1.1 < (l0.length : Int))))⟩, ⟨19, [], .v (.int .i64 s1.1)⟩, ⟨18, [], .v (.int .i64 (l0.length : Int))⟩, ⟨17, [], .v (.slice A0 l0.length c0)⟩, ⟨16, [], .v (.bool (decide ((l0.length : Int) > 60) || (!t_10)))⟩, ⟨8, [], .v (.bool (!t_3))⟩, ⟨2, [], .v (.bool s2.2)⟩, ⟨0, [], .v (.slice A0 l0.length c0)⟩], [], [], [((((kd_Call).cells (rd l0 s1.1) sv_25).map EV.v), 42)], none, none⟩ [] (by kernel_rfl) trivial (fun ns_35 a w_36 hI _ => ?_)
            refine wpIn_seq ?_
            refine cond_ hI (decide (s2.1 < ((l0.take (s1.1 : Int).toNat).length : Int))) rfl (fun hc_37 => ?_) (fun hc_37 => ?_)
            · replace H2 := bif_t hc_37 H2
              refine wpIn_skip ?_
              refine then_normal ?_
              refine wpIn_seq ?_
              refine wpIn_block ?_
              obtain ⟨hN_38, H2⟩ := req_some H2
              obtain ⟨sv_39, hE_41, hA_40⟩ := Arr.elB (d := kd_Call) (Arr.take hr0 _) s2.1 true (fun _ => hN_38)
              replace hE_41 := hE_41 rfl
              replace hA_40 := fun (_ : true = true) => hA_40 rfl
              refine seq_region (live := [6, 29, 28, 27, 26, 3, 4, 20, 19, 18, 17, 16, 8, 2, 0]) (orc := [(kd_Call).cells (rd (l0.take (s1.1 : Int).toNat) s2.1) sv_39]) hF hI ⟨[⟨6, [], .p 1 0⟩, ⟨29, [], .v (.bool (decide (s2.1 < ((l0.take (s1.1 : Int).toNat).length : Int))))⟩, ⟨28, [], .v (.int .i64 s2.1)⟩, ⟨27, [], .v (.int .i64 ((l0.take (s1.1 : Int).toNat).length : Int))⟩, ⟨26, [], .v (.slice A0 (l0.take (s1.1 : Int).toNat).length c0)⟩, ⟨3, [], .v (.int .i64 s1.1)⟩, ⟨4, [], .p 0 0⟩, ⟨20, [], .v (.bool (decide (s1.1 < (l0.length : Int))))⟩, ⟨19, [], .v (.int .i64 s1.1)⟩, ⟨18, [], .v (.int .i64 (l0.length : Int))⟩, ⟨17, [], .v (.slice A0 l0.length c0)⟩, ⟨16, [], .v (.bool (decide ((l0.length : Int) > 60) || (!t_10)))⟩, ⟨8, [], .v (.bool (!t_3))⟩, ⟨2, [], .v (.bool s2.2)⟩, ⟨0, [], .v (.slice A0 l0.length c0)⟩], [], [], [((((kd_Call).cells (rd l0 s1.1) sv_25).map EV.v), 42), ((((kd_Call).cells (rd (l0.take (s1.1 : Int).toNat) s2.1) sv_39).map EV.v), 42)], none, none⟩ [.need true (0 ≤ s2.1 ∧ s2.1 < ((l0.take (s1.1 : Int).toNat).length : Int)), .need true (A0 = some (adr A0)), .cell true ((adr A0).add ((s2.1 : Int).toNat * 20)) ((kd_Call).cells (rd (l0.take (s1.1 : Int).toNat) s2.1) sv_39)] (by kernel_rfl) ⟨ob_inb (fun _ => hN_38), hA_40, ob_el (fun _ => hE_41) 0 ((kd_Call).cells (rd (l0.take (s1.1 : Int).toNat) s2.1) sv_39) rfl, trivial⟩ (fun ns_42 a w_43 hI _ => ?_)
              obtain ⟨t_44, hG_45, H2⟩ := bind_some H2
              obtain ⟨t_46, hG_47, H2⟩ := bind_some H2
              refine seq_region (live := [47, 6, 29, 28, 27, 26, 3, 4, 20, 19, 18, 17, 16, 8, 2, 0]) (orc := [[.bool t_44], [.bool t_46]]) hF hI ⟨[⟨47, [], .v (.bool ((((rd (l0.take (s1.1 : Int).toNat) s2.1).Part) == ((rd l0 s1.1).Part)) && ((!t_44) || t_46)))⟩, ⟨6, [], .p 1 0⟩, ⟨29, [], .v (.bool (decide (s2.1 < ((l0.take (s1.1 : Int).toNat).length : Int))))⟩, ⟨28, [], .v (.int .i64 s2.1)⟩, ⟨27, [], .v (.int .i64 ((l0.take (s1.1 : Int).toNat).length : Int))⟩, ⟨26, [], .v (.slice A0 (l0.take (s1.1 : Int).toNat).length c0)⟩, ⟨3, [], .v (.int .i64 s1.1)⟩, ⟨4, [], .p 0 0⟩, ⟨20, [], .v (.bool (decide (s1.1 < (l0.length : Int))))⟩, ⟨19, [], .v (.int .i64 s1.1)⟩, ⟨18, [], .v (.int .i64 (l0.length : Int))⟩, ⟨17, [], .v (.slice A0 l0.length c0)⟩, ⟨16, [], .v (.bool (decide ((l0.length : Int) > 60) || (!t_10)))⟩, ⟨8, [], .v (.bool (!t_3))⟩, ⟨2, [], .v (.bool s2.2)⟩, ⟨0, [], .v (.slice A0 l0.length c0)⟩], [], [], [((((kd_Call).cells (rd l0 s1.1) sv_25).map EV.v), 42), ((((kd_Call).cells (rd (l0.take (s1.1 : Int).toNat) s2.1) sv_39).map EV.v), 42)], none, none⟩ [.call (((rd (l0.take (s1.1 : Int).toNat) s2.1).Part) == ((rd l0 s1.1).Part)) 20 [.agg ((kd_Call).cells (rd (l0.take (s1.1 : Int).toNat) s2.1) (svL [((sv_39 0).1, (sv_39 0).2), ((sv_39 1).1, (sv_39 1).2)])).toArray, .agg ((kd_Call).cells (rd l0 s1.1) (svL [((sv_25 0).1, (sv_25 0).2), ((sv_25 1).1, (sv_25 1).2)])).toArray] (.bool t_44), .call ((((rd (l0.take (s1.1 : Int).toNat) s2.1).Part) == ((rd l0 s1.1).Part)) && (!(!t_44))) 20 [.agg ((kd_Call).cells (rd l0 s1.1) (svL [((sv_25 0).1, (sv_25 0).2), ((sv_25 1).1, (sv_25 1).2)])).toArray, .agg ((kd_Call).cells (rd (l0.take (s1.1 : Int).toNat) s2.1) (svL [((sv_39 0).1, (sv_39 0).2), ((sv_39 1).1, (sv_39 1).2)])).toArray] (.bool t_46)] (by kernel_rfl) ⟨ob_call (enters Try.func20 (by kernel_rfl) rfl) (fun hg wz hk => G_hist_Ahead.calls (rd (l0.take (s1.1 : Int).toNat) s2.1) (rd l0 s1.1) (svL [((sv_39 0).1, (sv_39 0).2), ((sv_39 1).1, (sv_39 1).2)]) (svL [((sv_25 0).1, (sv_25 0).2), ((sv_25 1).1, (sv_25 1).2)]) wz (S := fun _ => True) (Kd.any _ (Kd.keep kd_Call (contI (S := Lo S w w [] []) (w := w) (d := kd_Call) (x := (rd (l0.take (s1.1 : Int).toNat) s2.1)) (sv := (svL [((sv_39 0).1, (sv_39 0).2), ((sv_39 1).1, (sv_39 1).2)])) ⟨⟨(hE_41).cont.1.1, (hE_41).cont.1.2⟩, ⟨(hE_41).cont.2.1.1, (hE_41).cont.2.1.2⟩, trivial⟩) (Lo.on hk))) (Kd.any _ (Kd.keep kd_Call (contI (S := Lo S w w [] []) (w := w) (d := kd_Call) (x := (rd l0 s1.1)) (sv := (svL [((sv_25 0).1, (sv_25 0).2), ((sv_25 1).1, (sv_25 1).2)])) ⟨⟨(hE_27).cont.1.1, (hE_27).cont.1.2⟩, ⟨(hE_27).cont.2.1.1, (hE_27).cont.2.1.2⟩, trivial⟩) (Lo.on hk))) _ (cal_some hG_45 hg)), ob_call (enters Try.func20 (by kernel_rfl) rfl) (fun hg wz hk => G_hist_Ahead.calls (rd l0 s1.1) (rd (l0.take (s1.1 : Int).toNat) s2.1) (svL [((sv_25 0).1, (sv_25 0).2), ((sv_25 1).1, (sv_25 1).2)]) (svL [((sv_39 0).1, (sv_39 0).2), ((sv_39 1).1, (sv_39 1).2)]) wz (S := fun _ => True) (Kd.any _ (Kd.keep kd_Call (contI (S := Lo S w w [] []) (w := w) (d := kd_Call) (x := (rd l0 s1.1)) (sv := (svL [((sv_25 0).1, (sv_25 0).2), ((sv_25 1).1, (sv_25 1).2)])) ⟨⟨(hE_27).cont.1.1, (hE_27).cont.1.2⟩, ⟨(hE_27).cont.2.1.1, (hE_27).cont.2.1.2⟩, trivial⟩) (Lo.on hk))) (Kd.any _ (Kd.keep kd_Call (contI (S := Lo S w w [] []) (w := w) (d := kd_Call) (x := (rd (l0.take (s1.1 : Int).toNat) s2.1)) (sv := (svL [((sv_39 0).1, (sv_39 0).2), ((sv_39 1).1, (sv_39 1).2)])) ⟨⟨(hE_41).cont.1.1, (hE_41).cont.1.2⟩, ⟨(hE_41).cont.2.1.1, (hE_41).cont.2.1.2⟩, trivial⟩) (Lo.on hk))) _ (cal_some hG_47 hg)), trivial⟩ (fun ns_48 a w_49 hI _ => ?_)
              refine cond_ hI (((((rd (l0.take (s1.1 : Int).toNat) s2.1).Part) == ((rd l0 s1.1).Part)) && ((!t_44) || t_46))) rfl (fun hc_50 => ?_) (fun hc_50 => ?_)
              · replace H2 := bif_t hc_50 H2
                refine seq_region (live := [2, 47, 6, 29, 28, 27, 26, 3, 4, 20, 19, 18, 17, 16, 8, 0]) (orc := []) hF hI ⟨[⟨2, [], .v (.bool false)⟩, ⟨47, [], .v (.bool ((((rd (l0.take (s1.1 : Int).toNat) s2.1).Part) == ((rd l0 s1.1).Part)) && ((!t_44) || t_46)))⟩, ⟨6, [], .p 1 0⟩, ⟨29, [], .v (.bool (decide (s2.1 < ((l0.take (s1.1 : Int).toNat).length : Int))))⟩, ⟨28, [], .v (.int .i64 s2.1)⟩, ⟨27, [], .v (.int .i64 ((l0.take (s1.1 : Int).toNat).length : Int))⟩, ⟨26, [], .v (.slice A0 (l0.take (s1.1 : Int).toNat).length c0)⟩, ⟨3, [], .v (.int .i64 s1.1)⟩, ⟨4, [], .p 0 0⟩, ⟨20, [], .v (.bool (decide (s1.1 < (l0.length : Int))))⟩, ⟨19, [], .v (.int .i64 s1.1)⟩, ⟨18, [], .v (.int .i64 (l0.length : Int))⟩, ⟨17, [], .v (.slice A0 l0.length c0)⟩, ⟨16, [], .v (.bool (decide ((l0.length : Int) > 60) || (!t_10)))⟩, ⟨8, [], .v (.bool (!t_3))⟩, ⟨0, [], .v (.slice A0 l0.length c0)⟩], [], [], [((((kd_Call).cells (rd l0 s1.1) sv_25).map EV.v), 42), ((((kd_Call).cells (rd (l0.take (s1.1 : Int).toNat) s2.1) sv_39).map EV.v), 42)], none, none⟩ [] (by kernel_rfl) trivial (fun ns_51 a w_52 hI _ => ?_)
                refine wpIn_ret ?_
                refine inBlock_ret ?_
                refine then_ret ?_
                refine then_ret ?_
                obtain rfl := Option.some.inj H2
                refine .inr ⟨_, rfl, fun ho => ?_⟩
                subst ho
                refine inBlock_ret ?_
                refine inBlock_ret ?_
                refine then_ret ?_
                refine then_ret ?_
                obtain rfl := Option.some.inj H1
                refine .inr ⟨_, rfl, fun ho => ?_⟩
                subst ho
                refine inBlock_ret ?_
                refine then_ret ?_
                obtain rfl := Option.some.inj H0
                exact ret1 hI rfl rfl ⟨rfl, hE.below hI⟩
              · replace H2 := bif_f hc_50 H2
                refine wpIn_skip ?_
                refine inBlock_normal ?_
                refine then_normal ?_
                refine region_ (live := [28, 47, 6, 29, 27, 26, 3, 4, 20, 19, 18, 17, 16, 8, 2, 0]) (orc := []) hF hI ⟨[⟨28, [], .v (.int .i64 (IntKind.i64.wrap (s2.1 + 1)))⟩, ⟨47, [], .v (.bool ((((rd (l0.take (s1.1 : Int).toNat) s2.1).Part) == ((rd l0 s1.1).Part)) && ((!t_44) || t_46)))⟩, ⟨6, [], .p 1 0⟩, ⟨29, [], .v (.bool (decide (s2.1 < ((l0.take (s1.1 : Int).toNat).length : Int))))⟩, ⟨27, [], .v (.int .i64 ((l0.take (s1.1 : Int).toNat).length : Int))⟩, ⟨26, [], .v (.slice A0 (l0.take (s1.1 : Int).toNat).length c0)⟩, ⟨3, [], .v (.int .i64 s1.1)⟩, ⟨4, [], .p 0 0⟩, ⟨20, [], .v (.bool (decide (s1.1 < (l0.length : Int))))⟩, ⟨19, [], .v (.int .i64 s1.1)⟩, ⟨18, [], .v (.int .i64 (l0.length : Int))⟩, ⟨17, [], .v (.slice A0 l0.length c0)⟩, ⟨16, [], .v (.bool (decide ((l0.length : Int) > 60) || (!t_10)))⟩, ⟨8, [], .v (.bool (!t_3))⟩, ⟨2, [], .v (.bool s2.2)⟩, ⟨0, [], .v (.slice A0 l0.length c0)⟩], [], [], [((((kd_Call).cells (rd l0 s1.1) sv_25).map EV.v), 42), ((((kd_Call).cells (rd (l0.take (s1.1 : Int).toNat) s2.1) sv_39).map EV.v), 42)], none, none⟩ [] (by kernel_rfl) trivial (fun ns_53 a w_54 hI _ => ?_)
                refine then_normal ?_
                obtain rfl := Option.some.inj H2
                exact ⟨_, rfl, ⟨_, hI.pick [28, 27, 26, 3, 4, 20, 19, 18, 17, 16, 8, 2, 0] 1 ⟨[⟨28, [], .v (.int .i64 (IntKind.i64.wrap (s2.1 + 1)))⟩, ⟨27, [], .v (.int .i64 ((l0.take (s1.1 : Int).toNat).length : Int))⟩, ⟨26, [], .v (.slice A0 (l0.take (s1.1 : Int).toNat).length c0)⟩, ⟨3, [], .v (.int .i64 s1.1)⟩, ⟨4, [], .p 0 0⟩, ⟨20, [], .v (.bool (decide (s1.1 < (l0.length : Int))))⟩, ⟨19, [], .v (.int .i64 s1.1)⟩, ⟨18, [], .v (.int .i64 (l0.length : Int))⟩, ⟨17, [], .v (.slice A0 l0.length c0)⟩, ⟨16, [], .v (.bool (decide ((l0.length : Int) > 60) || (!t_10)))⟩, ⟨8, [], .v (.bool (!t_3))⟩, ⟨2, [], .v (.bool s2.2)⟩, ⟨0, [], .v (.slice A0 l0.length c0)⟩], [], [], [((((kd_Call).cells (rd l0 s1.1) sv_25).map EV.v), 42)], none, none⟩ (by kernel_rfl)⟩⟩
            · replace H2 := bif_f hc_37 H2
              refine wpIn_exit ?_
              refine then_exit ?_
              refine then_exit ?_
              obtain rfl := Option.some.inj H2
              exact .inl ⟨_, rfl, rfl, ⟨_, hI.pick [28, 27, 26, 3, 4, 20, 19, 18, 17, 16, 8, 2, 0] 1 ⟨[⟨28, [], .v (.int .i64 s2.1)⟩, ⟨27, [], .v (.int .i64 ((l0.take (s1.1 : Int).toNat).length : Int))⟩, ⟨26, [], .v (.slice A0 (l0.take (s1.1 : Int).toNat).length c0)⟩, ⟨3, [], .v (.int .i64 s1.1)⟩, ⟨4, [], .p 0 0⟩, ⟨20, [], .v (.bool (decide (s1.1 < (l0.length : Int))))⟩, ⟨19, [], .v (.int .i64 s1.1)⟩, ⟨18, [], .v (.int .i64 (l0.length : Int))⟩, ⟨17, [], .v (.slice A0 l0.length c0)⟩, ⟨16, [], .v (.bool (decide ((l0.length : Int) > 60) || (!t_10)))⟩, ⟨8, [], .v (.bool (!t_3))⟩, ⟨2, [], .v (.bool s2.2)⟩, ⟨0, [], .v (.slice A0 l0.length c0)⟩], [], [], [((((kd_Call).cells (rd l0 s1.1) sv_25).map EV.v), 42)], none, none⟩ (by kernel_rfl)⟩⟩
          · clear hI
            rintro s2 a w_57 ho ⟨ns_58, hI⟩
            subst ho
            replace H1 : (some (.next ((IntKind.i64.wrap (s1.1 + 1)), s2.2)) : Option (Stp (Int × Bool) (Ex (Int × Bool) (Bool)))) = _ := H1
            refine inBlock_normal ?_
            refine then_normal ?_
            refine region_ (live := [19, 28, 27, 26, 3, 4, 20, 18, 17, 16, 8, 2, 0]) (orc := []) hF hI ⟨[⟨19, [], .v (.int .i64 (IntKind.i64.wrap (s1.1 + 1)))⟩, ⟨28, [], .v (.int .i64 s2.1)⟩, ⟨27, [], .v (.int .i64 ((l0.take (s1.1 : Int).toNat).length : Int))⟩, ⟨26, [], .v (.slice A0 (l0.take (s1.1 : Int).toNat).length c0)⟩, ⟨3, [], .v (.int .i64 s1.1)⟩, ⟨4, [], .p 0 0⟩, ⟨20, [], .v (.bool (decide (s1.1 < (l0.length : Int))))⟩, ⟨18, [], .v (.int .i64 (l0.length : Int))⟩, ⟨17, [], .v (.slice A0 l0.length c0)⟩, ⟨16, [], .v (.bool (decide ((l0.length : Int) > 60) || (!t_10)))⟩, ⟨8, [], .v (.bool (!t_3))⟩, ⟨2, [], .v (.bool s2.2)⟩, ⟨0, [], .v (.slice A0 l0.length c0)⟩], [], [], [((((kd_Call).cells (rd l0 s1.1) sv_25).map EV.v), 42)], none, none⟩ [] (by kernel_rfl) trivial (fun ns_59 a w_60 hI _ => ?_)
            refine then_normal ?_
            obtain rfl := Option.some.inj H1
            exact ⟨_, rfl, ⟨_, hI.pick [19, 18, 17, 16, 8, 2, 0] 0 ⟨[⟨19, [], .v (.int .i64 (IntKind.i64.wrap (s1.1 + 1)))⟩, ⟨18, [], .v (.int .i64 (l0.length : Int))⟩, ⟨17, [], .v (.slice A0 l0.length c0)⟩, ⟨16, [], .v (.bool (decide ((l0.length : Int) > 60) || (!t_10)))⟩, ⟨8, [], .v (.bool (!t_3))⟩, ⟨2, [], .v (.bool s2.2)⟩, ⟨0, [], .v (.slice A0 l0.length c0)⟩], [], [], [], none, none⟩ (by kernel_rfl)⟩⟩
        · replace H1 := bif_f hc_23 H1
          refine wpIn_exit ?_
          refine then_exit ?_
          refine then_exit ?_
          obtain rfl := Option.some.inj H1
          exact .inl ⟨_, rfl, rfl, ⟨_, hI.pick [19, 18, 17, 16, 8, 2, 0] 0 ⟨[⟨19, [], .v (.int .i64 s1.1)⟩, ⟨18, [], .v (.int .i64 (l0.length : Int))⟩, ⟨17, [], .v (.slice A0 l0.length c0)⟩, ⟨16, [], .v (.bool (decide ((l0.length : Int) > 60) || (!t_10)))⟩, ⟨8, [], .v (.bool (!t_3))⟩, ⟨2, [], .v (.bool s1.2)⟩, ⟨0, [], .v (.slice A0 l0.length c0)⟩], [], [], [], none, none⟩ (by kernel_rfl)⟩⟩
      · clear hI
        rintro s1 a w_64 ho ⟨ns_65, hI⟩
        subst ho
        replace H0 : (some true : Option (Bool)) = _ := H0
        refine then_normal ?_
        refine seq_region (live := [2, 19, 18, 17, 16, 8, 0]) (orc := []) hF hI ⟨[⟨2, [], .v (.bool true)⟩, ⟨19, [], .v (.int .i64 s1.1)⟩, ⟨18, [], .v (.int .i64 (l0.length : Int))⟩, ⟨17, [], .v (.slice A0 l0.length c0)⟩, ⟨16, [], .v (.bool (decide ((l0.length : Int) > 60) || (!t_10)))⟩, ⟨8, [], .v (.bool (!t_3))⟩, ⟨0, [], .v (.slice A0 l0.length c0)⟩], [], [], [], none, none⟩ [] (by kernel_rfl) trivial (fun ns_66 a w_67 hI _ => ?_)
        refine wpIn_ret ?_
        obtain rfl := Option.some.inj H0
        exact ret1 hI rfl rfl ⟨rfl, hE.below hI⟩

/-! ### porthole/portholelaw17.HistPlace: function 8 -/
noncomputable def G_law17_HistPlace (l0 : (List Call)) (a1 : Int) : Option (Bool) := ((G_law17_wakes).bind fun t_3 => (bif (!t_3) then some false else ((cal (!(decide ((l0.length : Int) > 60))) (G_ref17_Sound l0) default).bind fun t_10 => (bif (decide ((l0.length : Int) > 60) || (!t_10)) then some true else ((G_hist_Place l0 a1).bind fun t_17 => (bif (decide (a1 < 0) || decide (a1 ≥ (l0.length : Int))) then some (((t_17.1 == 0) && (!t_17.2.1)) && (!t_17.2.2)) else ((G_ref17_Place l0 a1).bind fun t_26 => some (eqb_Portholeref17_Spot t_26 (⟨t_17.1, t_17.2.1, t_17.2.2⟩ : Portholeref17_Spot)))))))))
set_option maxRecDepth 100000 in
set_option maxHeartbeats 4000000 in
theorem G_law17_HistPlace.calls (l0 : (List Call)) (a1 : Int) (A0 : Option Addr) (c0 : Nat) (w : World) {S : Nat → Prop} (hr0 : Arr kd_Call S w A0 l0) (hc0 : l0.length ≤ c0) (r : Bool) (h : G_law17_HistPlace l0 a1 = some r) :
    Calls Try.prog 8 #[.slice A0 l0.length c0, .int .i64 a1] w fun e w' => e = .returned (.bool r) ∧ Below w.heap.size w w' := by
  replace hr0 := Arr.lo hr0
  unfold G_law17_HistPlace at h
  have H0 := h
  clear h
  refine enter Try.func8 rfl [.slice A0 l0.length c0, .int .i64 a1] (n := 51) rfl (Nat.le_of_ble_eq_true rfl) (fun a hI => ?_)
  have hF : FOpen Fence.wide := .inl rfl
  have hE := Ep.start w
  refine seq_region (live := [4, 0, 1]) (orc := []) hF hI ⟨[⟨4, [], .v (.bool false)⟩, ⟨0, [], .v (.slice A0 l0.length c0)⟩, ⟨1, [], .v (.int .i64 a1)⟩], [], [], [], none, none⟩ [] (by kernel_rfl) trivial (fun ns_1 a w_2 hI _ => ?_)
  refine wpIn_seq ?_
  obtain ⟨t_3, hG_4, H0⟩ := bind_some H0
  refine seq_region (live := [9, 4, 0, 1]) (orc := [[.bool t_3]]) hF hI ⟨[⟨9, [], .v (.bool (!t_3))⟩, ⟨4, [], .v (.bool false)⟩, ⟨0, [], .v (.slice A0 l0.length c0)⟩, ⟨1, [], .v (.int .i64 a1)⟩], [], [], [], none, none⟩ [.call true 18 [] (.bool t_3)] (by kernel_rfl) ⟨ob_call (enters Try.func18 (by kernel_rfl) rfl) (fun hg wz hk => G_law17_wakes.calls   wz (S := fun _ => True)  _ hG_4), trivial⟩ (fun ns_5 a w_6 hI _ => ?_)
  refine cond_ hI ((!t_3)) rfl (fun hc_7 => ?_) (fun hc_7 => ?_)
  · replace H0 := bif_t hc_7 H0
    refine seq_region (live := [4, 9, 0, 1]) (orc := []) hF hI ⟨[⟨4, [], .v (.bool false)⟩, ⟨9, [], .v (.bool (!t_3))⟩, ⟨0, [], .v (.slice A0 l0.length c0)⟩, ⟨1, [], .v (.int .i64 a1)⟩], [], [], [], none, none⟩ [] (by kernel_rfl) trivial (fun ns_8 a w_9 hI _ => ?_)
    refine wpIn_ret ?_
    refine then_ret ?_
    obtain rfl := Option.some.inj H0
    exact ret1 hI rfl rfl ⟨rfl, hE.below hI⟩
  · replace H0 := bif_f hc_7 H0
    refine wpIn_skip ?_
    refine then_normal ?_
    refine wpIn_seq ?_
    obtain ⟨t_10, hG_11, H0⟩ := bind_some H0
    refine seq_region (live := [17, 9, 4, 0, 1]) (orc := [[.bool t_10]]) hF hI ⟨[⟨17, [], .v (.bool (decide ((l0.length : Int) > 60) || (!t_10)))⟩, ⟨9, [], .v (.bool (!t_3))⟩, ⟨4, [], .v (.bool false)⟩, ⟨0, [], .v (.slice A0 l0.length c0)⟩, ⟨1, [], .v (.int .i64 a1)⟩], [], [], [], none, none⟩ [.call (!(decide ((l0.length : Int) > 60))) 14 [.slice A0 l0.length c0] (.bool t_10)] (by kernel_rfl) ⟨ob_call (enters Try.func14 (by kernel_rfl) rfl) (fun hg wz hk => G_ref17_Sound.calls l0 A0 c0 wz (S := fun _ => True) (Arr.any (Arr.keep hr0 (Lo.on hk))) hc0 _ (cal_some hG_11 hg)), trivial⟩ (fun ns_12 a w_13 hI _ => ?_)
    refine cond_ hI ((decide ((l0.length : Int) > 60) || (!t_10))) rfl (fun hc_14 => ?_) (fun hc_14 => ?_)
    · replace H0 := bif_t hc_14 H0
      refine seq_region (live := [4, 17, 9, 0, 1]) (orc := []) hF hI ⟨[⟨4, [], .v (.bool true)⟩, ⟨17, [], .v (.bool (decide ((l0.length : Int) > 60) || (!t_10)))⟩, ⟨9, [], .v (.bool (!t_3))⟩, ⟨0, [], .v (.slice A0 l0.length c0)⟩, ⟨1, [], .v (.int .i64 a1)⟩], [], [], [], none, none⟩ [] (by kernel_rfl) trivial (fun ns_15 a w_16 hI _ => ?_)
      refine wpIn_ret ?_
      refine then_ret ?_
      obtain rfl := Option.some.inj H0
      exact ret1 hI rfl rfl ⟨rfl, hE.below hI⟩
    · replace H0 := bif_f hc_14 H0
      refine wpIn_skip ?_
      refine then_normal ?_
      obtain ⟨t_17, hG_18, H0⟩ := bind_some H0
      refine seq_region (live := [7, 6, 5, 17, 9, 4, 0, 1]) (orc := [[.tuple #[.int .i64 t_17.1, .bool t_17.2.1, .bool t_17.2.2]]]) hF hI ⟨[⟨7, [], .v (.bool t_17.2.2)⟩, ⟨6, [], .v (.bool t_17.2.1)⟩, ⟨5, [], .v (.int .i64 t_17.1)⟩, ⟨17, [], .v (.bool (decide ((l0.length : Int) > 60) || (!t_10)))⟩, ⟨9, [], .v (.bool (!t_3))⟩, ⟨4, [], .v (.bool false)⟩, ⟨0, [], .v (.slice A0 l0.length c0)⟩, ⟨1, [], .v (.int .i64 a1)⟩], [], [], [], none, none⟩ [.call true 26 [.slice A0 l0.length c0, .int .i64 a1] (.tuple #[.int .i64 t_17.1, .bool t_17.2.1, .bool t_17.2.2])] (by kernel_rfl) ⟨ob_call (enters Try.func26 (by kernel_rfl) rfl) (fun hg wz hk => G_hist_Place.calls l0 a1 A0 c0 wz (S := fun _ => True) (Arr.any (Arr.keep hr0 (Lo.on hk))) hc0 _ hG_18), trivial⟩ (fun ns_19 a w_20 hI _ => ?_)
      refine wpIn_seq ?_
      refine seq_region (live := [32, 7, 6, 5, 17, 9, 4, 0, 1]) (orc := []) hF hI ⟨[⟨32, [], .v (.bool (decide (a1 < 0) || decide (a1 ≥ (l0.length : Int))))⟩, ⟨7, [], .v (.bool t_17.2.2)⟩, ⟨6, [], .v (.bool t_17.2.1)⟩, ⟨5, [], .v (.int .i64 t_17.1)⟩, ⟨17, [], .v (.bool (decide ((l0.length : Int) > 60) || (!t_10)))⟩, ⟨9, [], .v (.bool (!t_3))⟩, ⟨4, [], .v (.bool false)⟩, ⟨0, [], .v (.slice A0 l0.length c0)⟩, ⟨1, [], .v (.int .i64 a1)⟩], [], [], [], none, none⟩ [] (by kernel_rfl) trivial (fun ns_21 a w_22 hI _ => ?_)
      refine cond_ hI ((decide (a1 < 0) || decide (a1 ≥ (l0.length : Int)))) rfl (fun hc_23 => ?_) (fun hc_23 => ?_)
      · replace H0 := bif_t hc_23 H0
        refine seq_region (live := [4, 32, 7, 6, 5, 17, 9, 0, 1]) (orc := []) hF hI ⟨[⟨4, [], .v (.bool (((t_17.1 == 0) && (!t_17.2.1)) && (!t_17.2.2)))⟩, ⟨32, [], .v (.bool (decide (a1 < 0) || decide (a1 ≥ (l0.length : Int))))⟩, ⟨7, [], .v (.bool t_17.2.2)⟩, ⟨6, [], .v (.bool t_17.2.1)⟩, ⟨5, [], .v (.int .i64 t_17.1)⟩, ⟨17, [], .v (.bool (decide ((l0.length : Int) > 60) || (!t_10)))⟩, ⟨9, [], .v (.bool (!t_3))⟩, ⟨0, [], .v (.slice A0 l0.length c0)⟩, ⟨1, [], .v (.int .i64 a1)⟩], [], [], [], none, none⟩ [] (by kernel_rfl) trivial (fun ns_24 a w_25 hI _ => ?_)
        refine wpIn_ret ?_
        refine then_ret ?_
        obtain rfl := Option.some.inj H0
        exact ret1 hI rfl rfl ⟨rfl, hE.below hI⟩
      · replace H0 := bif_f hc_23 H0
        refine wpIn_skip ?_
        refine then_normal ?_
        obtain ⟨t_26, hG_27, H0⟩ := bind_some H0
        refine seq_region (live := [4, 32, 7, 6, 5, 17, 9, 0, 1]) (orc := [[.agg ((kd_Portholeref17_Spot).cells t_26 (svL [])).toArray], [.bool (eqb_Portholeref17_Spot t_26 (⟨t_17.1, t_17.2.1, t_17.2.2⟩ : Portholeref17_Spot))]]) hF hI ⟨[⟨4, [], .v (.bool (eqb_Portholeref17_Spot t_26 (⟨t_17.1, t_17.2.1, t_17.2.2⟩ : Portholeref17_Spot)))⟩, ⟨32, [], .v (.bool (decide (a1 < 0) || decide (a1 ≥ (l0.length : Int))))⟩, ⟨7, [], .v (.bool t_17.2.2)⟩, ⟨6, [], .v (.bool t_17.2.1)⟩, ⟨5, [], .v (.int .i64 t_17.1)⟩, ⟨17, [], .v (.bool (decide ((l0.length : Int) > 60) || (!t_10)))⟩, ⟨9, [], .v (.bool (!t_3))⟩, ⟨0, [], .v (.slice A0 l0.length c0)⟩, ⟨1, [], .v (.int .i64 a1)⟩], [], [], [], none, none⟩ [.call true 27 [.slice A0 l0.length c0, .int .i64 a1] (.agg ((kd_Portholeref17_Spot).cells t_26 (svL [])).toArray), .run true (vS (do eqGuard .eql 55 (.tmp 45) (.tmp 49) (.agg ((kd_Portholeref17_Spot).cells t_26 (svL [])).toArray) (.agg ((kd_Portholeref17_Spot).cells (⟨t_17.1, t_17.2.1, t_17.2.2⟩ : Portholeref17_Spot) (svL [])).toArray); binOp .eql 55 (.agg ((kd_Portholeref17_Spot).cells t_26 (svL [])).toArray) (.agg ((kd_Portholeref17_Spot).cells (⟨t_17.1, t_17.2.1, t_17.2.2⟩ : Portholeref17_Spot) (svL [])).toArray))) (.bool (eqb_Portholeref17_Spot t_26 (⟨t_17.1, t_17.2.1, t_17.2.2⟩ : Portholeref17_Spot)))] (by kernel_rfl) ⟨ob_call (enters Try.func27 (by kernel_rfl) rfl) (fun hg wz hk => G_ref17_Place.calls l0 a1 A0 c0 wz (S := fun _ => True) (Arr.any (Arr.keep hr0 (Lo.on hk))) hc0 _ hG_27), (fun _ wz hk => vS_run (eql_run (by kernel_rfl) (eqt_Portholeref17_Spot 9998 t_26 (⟨t_17.1, t_17.2.1, t_17.2.2⟩ : Portholeref17_Spot) wz))), trivial⟩ (fun ns_28 a w_29 hI _ => ?_)
        refine wpIn_ret ?_
        obtain rfl := Option.some.inj H0
        exact ret1 hI rfl rfl ⟨rfl, hE.below hI⟩

/-! ### porthole/hist.Of$1: function 42, an iterator -/
def G_hist_Of_1.enc : (Int × Call) → SV → List Value := fun y sv => [.int .i64 y.1, .agg ((kd_Call).cells y.2 sv).toArray]
def G_hist_Of_1.fct : (Nat → Prop) → World → (Int × Call) → SV → Prop := fun X w y sv => (kd_Call).cont X w y.2 sv
noncomputable def G_hist_Of_1.b1 {σt R : Type} (bd : σt → (Int × Call) → Option (Stp σt R)) (s0 : σt) (y1 : (List Call)) (y2 : Int) (s1 : Int × σt) : Option (Stp (Int × σt) (Ex (Int × σt) (Stp σt R))) := (bif decide (s1.1 < (y1.length : Int)) then (req (inb s1.1 y1.length) (bif (((rd y1 s1.1).Part) == y2) then ((bd s1.2 (s1.1, (rd y1 s1.1))).bind fun z => z.on (fun s_23 => some (.next ((IntKind.i64.wrap (s1.1 + 1)), s_23))) (fun r_24 => some (.out (.ret (.out r_24))))) else some (.next ((IntKind.i64.wrap (s1.1 + 1)), s1.2)))) else some (.out (.brk (s1.1, s1.2))))
noncomputable def G_hist_Of_1 {σt R : Type} (bd : σt → (Int × Call) → Option (Stp σt R)) (s0 : σt) (y1 : (List Call)) (y2 : Int) : Option (Stp σt R) := ((loopω (G_hist_Of_1.b1 bd s0 y1 y2) (0, s0)).bind fun o => o.on (fun s1 => some (.next s1.2)) (fun r => some r))
set_option maxRecDepth 100000 in
set_option maxHeartbeats 4000000 in
theorem G_hist_Of_1.calls {σt R : Type} (bd : σt → (Int × Call) → Option (Stp σt R)) (s0 : σt) (y1 : (List Call)) (y2 : Int) (B1 : Addr) (sv1 : SV) (B2 : Addr) (sv2 : SV) (l : Nat) (w : World) {S : Nat → Prop} (hB1 : El (Kd.slice kd_Call) S w B1 y1 sv1) (hB2 : El (Kd.int .i64) S w B2 y2 sv2) {J : σt → (Nat → Prop) → World → Prop} {Jx : R → World → Prop} (hq : SeqH Try.prog l G_hist_Of_1.enc G_hist_Of_1.fct bd J Jx) (hJ : J s0 S w) (r : Stp σt R) (h : G_hist_Of_1 bd s0 y1 y2 = some r) :
    Calls Try.prog 42 #[.func (.yield l) #[] #[], .pointer (some B1), .pointer (some B2)] w fun e w' => (∃ v, e = .returned v) ∧ SeqPost J Jx r w' := by
  replace hB1 := El.lo hB1
  replace hB2 := El.lo hB2
  unfold G_hist_Of_1 at h
  have H0 := h
  clear h
  refine enter Try.func42 rfl [.func (.yield l) #[] #[], .pointer (some B1), .pointer (some B2)] (n := 25) rfl (Nat.le_of_ble_eq_true rfl) (fun a hI => ?_)
  have hF : FOpen Fence.wide := .inl rfl
  have hE := Ep.start w
  refine seq_region (live := [8, 7, 6, 0, 1, 2]) (orc := [[.slice ((sv1 0).1) y1.length ((sv1 0).2)]]) hF hI ⟨[⟨8, [], .v (.int .i64 0)⟩, ⟨7, [], .v (.int .i64 (y1.length : Int))⟩, ⟨6, [], .v (.slice ((sv1 0).1) y1.length ((sv1 0).2))⟩, ⟨0, [], .v (.func (.yield l) #[] #[])⟩, ⟨1, [], .v (.pointer (some B1))⟩, ⟨2, [], .v (.pointer (some B2))⟩], [], [], [], none, none⟩ [.cell true B1 [.slice ((sv1 0).1) y1.length ((sv1 0).2)]] (by kernel_rfl) ⟨ob_el (fun _ => hB1) 0 [.slice ((sv1 0).1) y1.length ((sv1 0).2)] rfl, trivial⟩ (fun ns_1 a w_2 hI _ => ?_)
  obtain ⟨hE', hmv, hmr⟩ := Ep.rebase (S0 := S) hE hI
  replace hB1 := El.keep hB1 hmv
  replace hB2 := El.keep hB2 hmv
  replace hE := hE'
  replace hI := hI.rebase
  clear hE' hmv hmr
  have hJ' := hq.new _ _ (Tc (Lo S w w_2 ns_1 []) w_2) _ _ hJ (hE.below hI) Tc.new
  obtain ⟨o_43, hL_44, H0⟩ := bind_some H0
  refine block_loop (fun s1 a w_45 => ∃ (T : Nat → Prop), (El (Kd.slice kd_Call) T w_45 B1 y1 sv1) ∧ (El (Kd.int .i64) T w_45 B2 y2 sv2) ∧ J s1.2 T w_45 ∧ St w_45 [] 25 ⟨[⟨8, [], .v (.int .i64 s1.1)⟩, ⟨7, [], .v (.int .i64 (y1.length : Int))⟩, ⟨6, [], .v (.slice ((sv1 0).1) y1.length ((sv1 0).2))⟩, ⟨0, [], .v (.func (.yield l) #[] #[])⟩, ⟨1, [], .v (.pointer (some B1))⟩, ⟨2, [], .v (.pointer (some B2))⟩], [], [], [], none, none⟩ [] a w_45) (0, s0) hL_44 ⟨_, El.keep hB1 (Tc.mv _ _), El.keep hB2 (Tc.mv _ _), hJ', (hI.pick [8, 7, 6, 0, 1, 2] 0 ⟨[⟨8, [], .v (.int .i64 0)⟩, ⟨7, [], .v (.int .i64 (y1.length : Int))⟩, ⟨6, [], .v (.slice ((sv1 0).1) y1.length ((sv1 0).2))⟩, ⟨0, [], .v (.func (.yield l) #[] #[])⟩, ⟨1, [], .v (.pointer (some B1))⟩, ⟨2, [], .v (.pointer (some B2))⟩], [], [], [], none, none⟩ (by kernel_rfl)).reset rfl rfl rfl _⟩ ?_ ?_
  · clear hI hE hJ hJ'
    rintro s1 a w ⟨S, hB1, hB2, hJ, hI⟩ r1 H1
    unfold G_hist_Of_1.b1 at H1
    have hE := Ep.start w
    replace hB1 := El.lo hB1
    replace hB2 := El.lo hB2
    refine seq_region (live := [9, 8, 7, 6, 0, 1, 2]) (orc := []) hF hI ⟨[⟨9, [], .v (.bool (decide (s1.1 < (y1.length : Int))))⟩, ⟨8, [], .v (.int .i64 s1.1)⟩, ⟨7, [], .v (.int .i64 (y1.length : Int))⟩, ⟨6, [], .v (.slice ((sv1 0).1) y1.length ((sv1 0).2))⟩, ⟨0, [], .v (.func (.yield l) #[] #[])⟩, ⟨1, [], .v (.pointer (some B1))⟩, ⟨2, [], .v (.pointer (some B2))⟩], [], [], [], none, none⟩ [] (by kernel_rfl) trivial (fun ns_3 a w_4 hI _ => ?_)
    refine wpIn_seq ?_
    refine cond_ hI (decide (s1.1 < (y1.length : Int))) rfl (fun hc_5 => ?_) (fun hc_5 => ?_)
    · replace H1 := bif_t hc_5 H1
      refine wpIn_skip ?_
      refine then_normal ?_
      refine wpIn_seq ?_
      refine wpIn_block ?_
      obtain ⟨hN_6, H1⟩ := req_some H1
      obtain ⟨sv_7, hE_9, hA_8⟩ := Arr.elB (d := kd_Call) (hB1).cont.1 s1.1 true (fun _ => hN_6)
      replace hE_9 := hE_9 rfl
      replace hA_8 := fun (_ : true = true) => hA_8 rfl
      refine seq_region (live := [4, 5, 9, 8, 7, 6, 0, 1, 2]) (orc := [(kd_Call).cells (rd y1 s1.1) sv_7]) hF hI ⟨[⟨4, [], .v (.int .i64 s1.1)⟩, ⟨5, [], .p 0 0⟩, ⟨9, [], .v (.bool (decide (s1.1 < (y1.length : Int))))⟩, ⟨8, [], .v (.int .i64 s1.1)⟩, ⟨7, [], .v (.int .i64 (y1.length : Int))⟩, ⟨6, [], .v (.slice ((sv1 0).1) y1.length ((sv1 0).2))⟩, ⟨0, [], .v (.func (.yield l) #[] #[])⟩, ⟨1, [], .v (.pointer (some B1))⟩, ⟨2, [], .v (.pointer (some B2))⟩], [], [], [((((kd_Call).cells (rd y1 s1.1) sv_7).map EV.v), 42)], none, none⟩ [.need true (0 ≤ s1.1 ∧ s1.1 < (y1.length : Int)), .need true ((sv1 0).1 = some (adr ((sv1 0).1))), .cell true ((adr ((sv1 0).1)).add ((s1.1 : Int).toNat * 20)) ((kd_Call).cells (rd y1 s1.1) sv_7)] (by kernel_rfl) ⟨ob_inb (fun _ => hN_6), hA_8, ob_el (fun _ => hE_9) 0 ((kd_Call).cells (rd y1 s1.1) sv_7) rfl, trivial⟩ (fun ns_10 a w_11 hI _ => ?_)
      refine wpIn_seq ?_
      refine wpIn_region_lit ?_
      refine chunkT_ (liveT := [20, 19, 18, 17, 4, 5, 9, 8, 7, 6, 0, 1, 2]) (liveF := [17, 4, 5, 9, 8, 7, 6, 0, 1, 2]) (orc := [[.int .i64 y2]]) hF 8 hI ((((rd y1 s1.1).Part) == y2)) ⟨[⟨20, [], .v (.agg ((kd_Call).cells (rd y1 s1.1) sv_7).toArray)⟩, ⟨19, [], .v (.int .i64 s1.1)⟩, ⟨18, [], .v (.func (.yield l) #[] #[])⟩, ⟨17, [], .v (.bool (((rd y1 s1.1).Part) == y2))⟩, ⟨4, [], .v (.int .i64 s1.1)⟩, ⟨5, [], .p 0 0⟩, ⟨9, [], .v (.bool (decide (s1.1 < (y1.length : Int))))⟩, ⟨8, [], .v (.int .i64 s1.1)⟩, ⟨7, [], .v (.int .i64 (y1.length : Int))⟩, ⟨6, [], .v (.slice ((sv1 0).1) y1.length ((sv1 0).2))⟩, ⟨0, [], .v (.func (.yield l) #[] #[])⟩, ⟨1, [], .v (.pointer (some B1))⟩, ⟨2, [], .v (.pointer (some B2))⟩], [], [], [((((kd_Call).cells (rd y1 s1.1) sv_7).map EV.v), 42)], none, none⟩ ⟨[⟨17, [], .v (.bool (((rd y1 s1.1).Part) == y2))⟩, ⟨4, [], .v (.int .i64 s1.1)⟩, ⟨5, [], .p 0 0⟩, ⟨9, [], .v (.bool (decide (s1.1 < (y1.length : Int))))⟩, ⟨8, [], .v (.int .i64 s1.1)⟩, ⟨7, [], .v (.int .i64 (y1.length : Int))⟩, ⟨6, [], .v (.slice ((sv1 0).1) y1.length ((sv1 0).2))⟩, ⟨0, [], .v (.func (.yield l) #[] #[])⟩, ⟨1, [], .v (.pointer (some B1))⟩, ⟨2, [], .v (.pointer (some B2))⟩], [], [], [((((kd_Call).cells (rd y1 s1.1) sv_7).map EV.v), 42)], none, none⟩ [.cell true B2 [.int .i64 y2]] rfl (by kernel_rfl) ⟨ob_el (fun _ => hB2) 0 [.int .i64 y2] rfl, trivial⟩ (fun hb_12 ns_13 a w_14 hI hW => ?_) (fun hb_12 ns_15 a w_16 hI hW => ?_)
      · replace H1 := bif_t hb_12 H1
        obtain ⟨hE', hmv, hmr⟩ := Ep.rebase (S0 := S) hE hI
        replace hB1 := El.keep hB1 hmv
        replace hB2 := El.keep hB2 hmv
        replace hE_9 := El.keep hE_9 hmv
        replace hE := hE'
        replace hI := hI.rebase
        clear hE' hmv hmr
        have hct := contI (S := Lo S w w_14 ns_13 []) (w := w_14) (d := kd_Call) (x := (rd y1 s1.1)) (sv := (svL [((sv_7 0).1, (sv_7 0).2), ((sv_7 1).1, (sv_7 1).2)])) ⟨⟨(hE_9).cont.1.1, (hE_9).cont.1.2⟩, ⟨(hE_9).cont.2.1.1, (hE_9).cont.2.1.2⟩, trivial⟩
        obtain ⟨B_17, ns_19, hE', hI', hmv, hB_18⟩ := freeze_ (S0 := S) (d := kd_Call) hE hI 0 (rd y1 s1.1) (svL [((sv_7 0).1, (sv_7 0).2), ((sv_7 1).1, (sv_7 1).2)]) 42 rfl
        replace hB_18 := hB_18 hct
        clear hct
        have hmr : ∀ b : Nat, some b ∈ ([] : List (Option Nat)) → w_14.heap[b]? = w_14.heap[b]? := fun _ _ => rfl
        replace hB1 := El.keep hB1 hmv
        replace hB2 := El.keep hB2 hmv
        replace hE_9 := El.keep hE_9 hmv
        replace hE := hE'
        replace hI := hI'
        clear hE' hI' hmv hmr
        obtain ⟨ns_20, hE', hI', hmv⟩ := hE.cut (S0 := S) hI [20, 19, 18, 17, 4, 5, 9, 8, 7, 6, 0, 1, 2] 0 ⟨[⟨20, [], .v (.agg ((kd_Call).cells (rd y1 s1.1) sv_7).toArray)⟩, ⟨19, [], .v (.int .i64 s1.1)⟩, ⟨18, [], .v (.func (.yield l) #[] #[])⟩, ⟨17, [], .v (.bool (((rd y1 s1.1).Part) == y2))⟩, ⟨4, [], .v (.int .i64 s1.1)⟩, ⟨5, [], .v (.pointer (some B_17))⟩, ⟨9, [], .v (.bool (decide (s1.1 < (y1.length : Int))))⟩, ⟨8, [], .v (.int .i64 s1.1)⟩, ⟨7, [], .v (.int .i64 (y1.length : Int))⟩, ⟨6, [], .v (.slice ((sv1 0).1) y1.length ((sv1 0).2))⟩, ⟨0, [], .v (.func (.yield l) #[] #[])⟩, ⟨1, [], .v (.pointer (some B1))⟩, ⟨2, [], .v (.pointer (some B2))⟩], [], [], [], none, none⟩ (by kernel_rfl)
        have hmr : ∀ b : Nat, some b ∈ ([] : List (Option Nat)) → w_14.heap[b]? = w_14.heap[b]? := fun _ _ => rfl
        replace hB1 := El.keep hB1 hmv
        replace hB2 := El.keep hB2 hmv
        replace hE_9 := El.keep hE_9 hmv
        replace hB_18 := El.keep hB_18 hmv
        replace hE := hE'
        replace hI := hI'
        clear hE' hI' hmv hmr
        obtain ⟨hE', hmv⟩ := hE.bare (S0 := S)
        replace hB1 := El.keep hB1 hmv
        replace hB2 := El.keep hB2 hmv
        replace hE_9 := El.keep hE_9 hmv
        replace hB_18 := El.keep hB_18 hmv
        replace hE := hE'
        replace hI := hI.reset rfl rfl rfl w_14
        clear hE' hmv
        obtain ⟨z_21, hz_22, H1⟩ := bind_some H1
        refine yield_ (S0 := S) hq hF hE hI rfl rfl rfl hW rfl rfl rfl hJ (s1.1, (rd y1 s1.1)) (svL [((sv_7 0).1, (sv_7 0).2), ((sv_7 1).1, (sv_7 1).2)]) rfl hz_22 ⟨⟨Arr.keep (hE_9).cont.1.1 (Tc.mv _ _), (hE_9).cont.1.2⟩, ⟨Arr.keep (hE_9).cont.2.1.1 (Tc.mv _ _), (hE_9).cont.2.1.2⟩, trivial⟩ ⟨[⟨21, [], .v (.bool true)⟩, ⟨20, [], .v (.agg ((kd_Call).cells (rd y1 s1.1) sv_7).toArray)⟩, ⟨19, [], .v (.int .i64 s1.1)⟩, ⟨18, [], .v (.func (.yield l) #[] #[])⟩, ⟨17, [], .v (.bool (((rd y1 s1.1).Part) == y2))⟩, ⟨4, [], .v (.int .i64 s1.1)⟩, ⟨5, [], .v (.pointer (some B_17))⟩, ⟨9, [], .v (.bool (decide (s1.1 < (y1.length : Int))))⟩, ⟨8, [], .v (.int .i64 s1.1)⟩, ⟨7, [], .v (.int .i64 (y1.length : Int))⟩, ⟨6, [], .v (.slice ((sv1 0).1) y1.length ((sv1 0).2))⟩, ⟨0, [], .v (.func (.yield l) #[] #[])⟩, ⟨1, [], .v (.pointer (some B1))⟩, ⟨2, [], .v (.pointer (some B2))⟩], [], [], [], none, none⟩ ⟨[⟨21, [], .v (.bool false)⟩, ⟨20, [], .v (.agg ((kd_Call).cells (rd y1 s1.1) sv_7).toArray)⟩, ⟨19, [], .v (.int .i64 s1.1)⟩, ⟨18, [], .v (.func (.yield l) #[] #[])⟩, ⟨17, [], .v (.bool (((rd y1 s1.1).Part) == y2))⟩, ⟨4, [], .v (.int .i64 s1.1)⟩, ⟨5, [], .v (.pointer (some B_17))⟩, ⟨9, [], .v (.bool (decide (s1.1 < (y1.length : Int))))⟩, ⟨8, [], .v (.int .i64 s1.1)⟩, ⟨7, [], .v (.int .i64 (y1.length : Int))⟩, ⟨6, [], .v (.slice ((sv1 0).1) y1.length ((sv1 0).2))⟩, ⟨0, [], .v (.func (.yield l) #[] #[])⟩, ⟨1, [], .v (.pointer (some B1))⟩, ⟨2, [], .v (.pointer (some B2))⟩], [], [], [], none, none⟩ (by kernel_rfl) (by kernel_rfl) (fun S s_23 a w hzz hJ' hE' hI' hmv => ?_) (fun r_24 a w hzz hJ' hE' hI' => ?_)
        · subst hzz
          replace hB1 := El.lo (El.keep hB1 hmv)
          replace hB2 := El.lo (El.keep hB2 hmv)
          replace hE_9 := El.lo (El.keep hE_9 hmv)
          replace hB_18 := El.lo (El.keep hB_18 hmv)
          replace hE := hE'
          replace hI := hI'
          replace hJ := hJ'
          clear hE' hI' hJ' hmv
          replace H1 : (some (.next ((IntKind.i64.wrap (s1.1 + 1)), s_23)) : Option (Stp (Int × σt) (Ex (Int × σt) (Stp σt R)))) = _ := H1
          refine chunkL_ (live := [21, 17, 4, 5, 9, 8, 7, 6, 0, 1, 2]) (orc := []) hF 0 hI ⟨[⟨21, [], .v (.bool true)⟩, ⟨17, [], .v (.bool (((rd y1 s1.1).Part) == y2))⟩, ⟨4, [], .v (.int .i64 s1.1)⟩, ⟨5, [], .v (.pointer (some B_17))⟩, ⟨9, [], .v (.bool (decide (s1.1 < (y1.length : Int))))⟩, ⟨8, [], .v (.int .i64 s1.1)⟩, ⟨7, [], .v (.int .i64 (y1.length : Int))⟩, ⟨6, [], .v (.slice ((sv1 0).1) y1.length ((sv1 0).2))⟩, ⟨0, [], .v (.func (.yield l) #[] #[])⟩, ⟨1, [], .v (.pointer (some B1))⟩, ⟨2, [], .v (.pointer (some B2))⟩], [], [], [], none, none⟩ [] rfl (by kernel_rfl) trivial (fun ns_25 a w_26 hI => ?_)
          refine unguardK_ hI (((rd y1 s1.1).Part) == y2) (by kernel_rfl) (by simp [hb_12]) ?_
          refine chunkL_ (live := [22, 17, 4, 5, 9, 8, 7, 6, 0, 1, 2]) (orc := []) hF 1 hI ⟨[⟨22, [], .v (.bool false)⟩, ⟨17, [], .v (.bool (((rd y1 s1.1).Part) == y2))⟩, ⟨4, [], .v (.int .i64 s1.1)⟩, ⟨5, [], .v (.pointer (some B_17))⟩, ⟨9, [], .v (.bool (decide (s1.1 < (y1.length : Int))))⟩, ⟨8, [], .v (.int .i64 s1.1)⟩, ⟨7, [], .v (.int .i64 (y1.length : Int))⟩, ⟨6, [], .v (.slice ((sv1 0).1) y1.length ((sv1 0).2))⟩, ⟨0, [], .v (.func (.yield l) #[] #[])⟩, ⟨1, [], .v (.pointer (some B1))⟩, ⟨2, [], .v (.pointer (some B2))⟩], [], [], [], none, none⟩ [] rfl (by kernel_rfl) trivial (fun ns_27 a w_28 hI => ?_)
          refine pick1 hF hI rfl rfl ((((rd y1 s1.1).Part) == y2)) true rfl (by simp [hb_12]) rfl ⟨[⟨23, [], .v (.bool false)⟩, ⟨22, [], .v (.bool false)⟩, ⟨17, [], .v (.bool (((rd y1 s1.1).Part) == y2))⟩, ⟨4, [], .v (.int .i64 s1.1)⟩, ⟨5, [], .v (.pointer (some B_17))⟩, ⟨9, [], .v (.bool (decide (s1.1 < (y1.length : Int))))⟩, ⟨8, [], .v (.int .i64 s1.1)⟩, ⟨7, [], .v (.int .i64 (y1.length : Int))⟩, ⟨6, [], .v (.slice ((sv1 0).1) y1.length ((sv1 0).2))⟩, ⟨0, [], .v (.func (.yield l) #[] #[])⟩, ⟨1, [], .v (.pointer (some B1))⟩, ⟨2, [], .v (.pointer (some B2))⟩], [], [], [], none, none⟩ (by kernel_rfl) (fun a hI => ?_)
          refine chunkL_ (live := [23, 4, 5, 9, 8, 7, 6, 0, 1, 2]) (orc := []) hF 0 hI ⟨[⟨23, [], .v (.bool false)⟩, ⟨4, [], .v (.int .i64 s1.1)⟩, ⟨5, [], .v (.pointer (some B_17))⟩, ⟨9, [], .v (.bool (decide (s1.1 < (y1.length : Int))))⟩, ⟨8, [], .v (.int .i64 s1.1)⟩, ⟨7, [], .v (.int .i64 (y1.length : Int))⟩, ⟨6, [], .v (.slice ((sv1 0).1) y1.length ((sv1 0).2))⟩, ⟨0, [], .v (.func (.yield l) #[] #[])⟩, ⟨1, [], .v (.pointer (some B1))⟩, ⟨2, [], .v (.pointer (some B2))⟩], [], [], [], none, none⟩ [] rfl (by kernel_rfl) trivial (fun ns_29 a w_30 hI => ?_)
          refine wpListIn_nil ?_
          refine then_normal ?_
          refine cond_ hI false rfl (fun h => by cases h) (fun _ => ?_)
          refine wpIn_skip ?_
          refine inBlock_normal ?_
          refine then_normal ?_
          refine region_ (live := [8, 23, 4, 5, 9, 7, 6, 0, 1, 2]) (orc := []) hF hI ⟨[⟨8, [], .v (.int .i64 (IntKind.i64.wrap (s1.1 + 1)))⟩, ⟨23, [], .v (.bool false)⟩, ⟨4, [], .v (.int .i64 s1.1)⟩, ⟨5, [], .v (.pointer (some B_17))⟩, ⟨9, [], .v (.bool (decide (s1.1 < (y1.length : Int))))⟩, ⟨7, [], .v (.int .i64 (y1.length : Int))⟩, ⟨6, [], .v (.slice ((sv1 0).1) y1.length ((sv1 0).2))⟩, ⟨0, [], .v (.func (.yield l) #[] #[])⟩, ⟨1, [], .v (.pointer (some B1))⟩, ⟨2, [], .v (.pointer (some B2))⟩], [], [], [], none, none⟩ [] (by kernel_rfl) trivial (fun ns_31 a w_32 hI _ => ?_)
          refine then_normal ?_
          obtain ⟨hE', hmv, hmr⟩ := Ep.rebase (S0 := S) hE hI
          replace hB1 := El.keep hB1 hmv
          replace hB2 := El.keep hB2 hmv
          replace hE_9 := El.keep hE_9 hmv
          replace hB_18 := El.keep hB_18 hmv
          replace hE := hE'
          replace hI := hI.rebase
          clear hE' hmv hmr
          have hJ' := hq.new _ _ (Tc (Lo S w w_32 ns_31 []) w_32) _ _ hJ (hE.below hI) Tc.new
          obtain rfl := Option.some.inj H1
          exact ⟨_, rfl, ⟨_, El.keep hB1 (Tc.mv _ _), El.keep hB2 (Tc.mv _ _), hJ', (hI.pick [8, 7, 6, 0, 1, 2] 0 ⟨[⟨8, [], .v (.int .i64 (IntKind.i64.wrap (s1.1 + 1)))⟩, ⟨7, [], .v (.int .i64 (y1.length : Int))⟩, ⟨6, [], .v (.slice ((sv1 0).1) y1.length ((sv1 0).2))⟩, ⟨0, [], .v (.func (.yield l) #[] #[])⟩, ⟨1, [], .v (.pointer (some B1))⟩, ⟨2, [], .v (.pointer (some B2))⟩], [], [], [], none, none⟩ (by kernel_rfl)).reset rfl rfl rfl _⟩⟩
        · subst hzz
          replace hE := hE'
          replace hI := hI'
          replace hJ := hJ'
          clear hE' hI' hJ'
          replace H1 : (some (.out (.ret (.out r_24))) : Option (Stp (Int × σt) (Ex (Int × σt) (Stp σt R)))) = _ := H1
          refine chunkL_ (live := [21, 17, 4, 5, 9, 8, 7, 6, 0, 1, 2]) (orc := []) hF 0 hI ⟨[⟨21, [], .v (.bool false)⟩, ⟨17, [], .v (.bool (((rd y1 s1.1).Part) == y2))⟩, ⟨4, [], .v (.int .i64 s1.1)⟩, ⟨5, [], .v (.pointer (some B_17))⟩, ⟨9, [], .v (.bool (decide (s1.1 < (y1.length : Int))))⟩, ⟨8, [], .v (.int .i64 s1.1)⟩, ⟨7, [], .v (.int .i64 (y1.length : Int))⟩, ⟨6, [], .v (.slice ((sv1 0).1) y1.length ((sv1 0).2))⟩, ⟨0, [], .v (.func (.yield l) #[] #[])⟩, ⟨1, [], .v (.pointer (some B1))⟩, ⟨2, [], .v (.pointer (some B2))⟩], [], [], [], none, none⟩ [] rfl (by kernel_rfl) trivial (fun ns_33 a w_34 hI => ?_)
          refine unguardK_ hI (((rd y1 s1.1).Part) == y2) (by kernel_rfl) (by simp [hb_12]) ?_
          refine chunkL_ (live := [22, 17, 4, 5, 9, 8, 7, 6, 0, 1, 2]) (orc := []) hF 1 hI ⟨[⟨22, [], .v (.bool true)⟩, ⟨17, [], .v (.bool (((rd y1 s1.1).Part) == y2))⟩, ⟨4, [], .v (.int .i64 s1.1)⟩, ⟨5, [], .v (.pointer (some B_17))⟩, ⟨9, [], .v (.bool (decide (s1.1 < (y1.length : Int))))⟩, ⟨8, [], .v (.int .i64 s1.1)⟩, ⟨7, [], .v (.int .i64 (y1.length : Int))⟩, ⟨6, [], .v (.slice ((sv1 0).1) y1.length ((sv1 0).2))⟩, ⟨0, [], .v (.func (.yield l) #[] #[])⟩, ⟨1, [], .v (.pointer (some B1))⟩, ⟨2, [], .v (.pointer (some B2))⟩], [], [], [], none, none⟩ [] rfl (by kernel_rfl) trivial (fun ns_35 a w_36 hI => ?_)
          refine pick1 hF hI rfl rfl ((((rd y1 s1.1).Part) == y2)) true rfl (by simp [hb_12]) rfl ⟨[⟨23, [], .v (.bool true)⟩, ⟨22, [], .v (.bool true)⟩, ⟨17, [], .v (.bool (((rd y1 s1.1).Part) == y2))⟩, ⟨4, [], .v (.int .i64 s1.1)⟩, ⟨5, [], .v (.pointer (some B_17))⟩, ⟨9, [], .v (.bool (decide (s1.1 < (y1.length : Int))))⟩, ⟨8, [], .v (.int .i64 s1.1)⟩, ⟨7, [], .v (.int .i64 (y1.length : Int))⟩, ⟨6, [], .v (.slice ((sv1 0).1) y1.length ((sv1 0).2))⟩, ⟨0, [], .v (.func (.yield l) #[] #[])⟩, ⟨1, [], .v (.pointer (some B1))⟩, ⟨2, [], .v (.pointer (some B2))⟩], [], [], [], none, none⟩ (by kernel_rfl) (fun a hI => ?_)
          refine chunkL_ (live := [23, 4, 5, 9, 8, 7, 6, 0, 1, 2]) (orc := []) hF 0 hI ⟨[⟨23, [], .v (.bool true)⟩, ⟨4, [], .v (.int .i64 s1.1)⟩, ⟨5, [], .v (.pointer (some B_17))⟩, ⟨9, [], .v (.bool (decide (s1.1 < (y1.length : Int))))⟩, ⟨8, [], .v (.int .i64 s1.1)⟩, ⟨7, [], .v (.int .i64 (y1.length : Int))⟩, ⟨6, [], .v (.slice ((sv1 0).1) y1.length ((sv1 0).2))⟩, ⟨0, [], .v (.func (.yield l) #[] #[])⟩, ⟨1, [], .v (.pointer (some B1))⟩, ⟨2, [], .v (.pointer (some B2))⟩], [], [], [], none, none⟩ [] rfl (by kernel_rfl) trivial (fun ns_37 a w_38 hI => ?_)
          refine wpListIn_nil ?_
          refine then_normal ?_
          refine cond_ hI true rfl (fun _ => ?_) (fun h => by cases h)
          refine wpIn_ret ?_
          refine inBlock_ret ?_
          refine then_ret ?_
          refine then_ret ?_
          obtain rfl := Option.some.inj H1
          refine .inr ⟨_, rfl, fun ho => ?_⟩
          subst ho
          refine inBlock_ret ?_
          obtain rfl := Option.some.inj H0
          exact retG hI rfl rfl ⟨⟨_, rfl⟩, SeqPost.fin (hq.stop _ _ _ hJ (hE.below hI))⟩
      · replace H1 := bif_f hb_12 H1
        refine skip1 hF hI hW ⟨[⟨17, [], .v (.bool (((rd y1 s1.1).Part) == y2))⟩, ⟨4, [], .v (.int .i64 s1.1)⟩, ⟨5, [], .p 0 0⟩, ⟨9, [], .v (.bool (decide (s1.1 < (y1.length : Int))))⟩, ⟨8, [], .v (.int .i64 s1.1)⟩, ⟨7, [], .v (.int .i64 (y1.length : Int))⟩, ⟨6, [], .v (.slice ((sv1 0).1) y1.length ((sv1 0).2))⟩, ⟨0, [], .v (.func (.yield l) #[] #[])⟩, ⟨1, [], .v (.pointer (some B1))⟩, ⟨2, [], .v (.pointer (some B2))⟩], [], [], [((((kd_Call).cells (rd y1 s1.1) sv_7).map EV.v), 42)], none, none⟩ (by kernel_rfl) (fun a hI => ?_)
        refine wantK_then hI (((rd y1 s1.1).Part) == y2) (by kernel_rfl) (by simp [hb_12]) (fun hW => ?_)
        refine skip1 hF hI hW ⟨[⟨17, [], .v (.bool (((rd y1 s1.1).Part) == y2))⟩, ⟨4, [], .v (.int .i64 s1.1)⟩, ⟨5, [], .p 0 0⟩, ⟨9, [], .v (.bool (decide (s1.1 < (y1.length : Int))))⟩, ⟨8, [], .v (.int .i64 s1.1)⟩, ⟨7, [], .v (.int .i64 (y1.length : Int))⟩, ⟨6, [], .v (.slice ((sv1 0).1) y1.length ((sv1 0).2))⟩, ⟨0, [], .v (.func (.yield l) #[] #[])⟩, ⟨1, [], .v (.pointer (some B1))⟩, ⟨2, [], .v (.pointer (some B2))⟩], [], [], [((((kd_Call).cells (rd y1 s1.1) sv_7).map EV.v), 42)], none, none⟩ (by kernel_rfl) (fun a hI => ?_)
        refine pick1 hF hI rfl rfl ((((rd y1 s1.1).Part) == y2)) false rfl (by simp [hb_12]) rfl ⟨[⟨23, [], .v (.bool false)⟩, ⟨17, [], .v (.bool (((rd y1 s1.1).Part) == y2))⟩, ⟨4, [], .v (.int .i64 s1.1)⟩, ⟨5, [], .p 0 0⟩, ⟨9, [], .v (.bool (decide (s1.1 < (y1.length : Int))))⟩, ⟨8, [], .v (.int .i64 s1.1)⟩, ⟨7, [], .v (.int .i64 (y1.length : Int))⟩, ⟨6, [], .v (.slice ((sv1 0).1) y1.length ((sv1 0).2))⟩, ⟨0, [], .v (.func (.yield l) #[] #[])⟩, ⟨1, [], .v (.pointer (some B1))⟩, ⟨2, [], .v (.pointer (some B2))⟩], [], [], [((((kd_Call).cells (rd y1 s1.1) sv_7).map EV.v), 42)], none, none⟩ (by kernel_rfl) (fun a hI => ?_)
        refine chunkL_ (live := [23, 4, 5, 9, 8, 7, 6, 0, 1, 2]) (orc := []) hF 0 hI ⟨[⟨23, [], .v (.bool false)⟩, ⟨4, [], .v (.int .i64 s1.1)⟩, ⟨5, [], .p 0 0⟩, ⟨9, [], .v (.bool (decide (s1.1 < (y1.length : Int))))⟩, ⟨8, [], .v (.int .i64 s1.1)⟩, ⟨7, [], .v (.int .i64 (y1.length : Int))⟩, ⟨6, [], .v (.slice ((sv1 0).1) y1.length ((sv1 0).2))⟩, ⟨0, [], .v (.func (.yield l) #[] #[])⟩, ⟨1, [], .v (.pointer (some B1))⟩, ⟨2, [], .v (.pointer (some B2))⟩], [], [], [((((kd_Call).cells (rd y1 s1.1) sv_7).map EV.v), 42)], none, none⟩ [] rfl (by kernel_rfl) trivial (fun ns_39 a w_40 hI => ?_)
        refine wpListIn_nil ?_
        refine then_normal ?_
        refine cond_ hI false rfl (fun h => by cases h) (fun _ => ?_)
        refine wpIn_skip ?_
        refine inBlock_normal ?_
        refine then_normal ?_
        refine region_ (live := [8, 23, 4, 5, 9, 7, 6, 0, 1, 2]) (orc := []) hF hI ⟨[⟨8, [], .v (.int .i64 (IntKind.i64.wrap (s1.1 + 1)))⟩, ⟨23, [], .v (.bool false)⟩, ⟨4, [], .v (.int .i64 s1.1)⟩, ⟨5, [], .p 0 0⟩, ⟨9, [], .v (.bool (decide (s1.1 < (y1.length : Int))))⟩, ⟨7, [], .v (.int .i64 (y1.length : Int))⟩, ⟨6, [], .v (.slice ((sv1 0).1) y1.length ((sv1 0).2))⟩, ⟨0, [], .v (.func (.yield l) #[] #[])⟩, ⟨1, [], .v (.pointer (some B1))⟩, ⟨2, [], .v (.pointer (some B2))⟩], [], [], [((((kd_Call).cells (rd y1 s1.1) sv_7).map EV.v), 42)], none, none⟩ [] (by kernel_rfl) trivial (fun ns_41 a w_42 hI _ => ?_)
        refine then_normal ?_
        obtain ⟨hE', hmv, hmr⟩ := Ep.rebase (S0 := S) hE hI
        replace hB1 := El.keep hB1 hmv
        replace hB2 := El.keep hB2 hmv
        replace hE_9 := El.keep hE_9 hmv
        replace hE := hE'
        replace hI := hI.rebase
        clear hE' hmv hmr
        have hJ' := hq.new _ _ (Tc (Lo S w w_42 ns_41 []) w_42) _ _ hJ (hE.below hI) Tc.new
        obtain rfl := Option.some.inj H1
        exact ⟨_, rfl, ⟨_, El.keep hB1 (Tc.mv _ _), El.keep hB2 (Tc.mv _ _), hJ', (hI.pick [8, 7, 6, 0, 1, 2] 0 ⟨[⟨8, [], .v (.int .i64 (IntKind.i64.wrap (s1.1 + 1)))⟩, ⟨7, [], .v (.int .i64 (y1.length : Int))⟩, ⟨6, [], .v (.slice ((sv1 0).1) y1.length ((sv1 0).2))⟩, ⟨0, [], .v (.func (.yield l) #[] #[])⟩, ⟨1, [], .v (.pointer (some B1))⟩, ⟨2, [], .v (.pointer (some B2))⟩], [], [], [], none, none⟩ (by kernel_rfl)).reset rfl rfl rfl _⟩⟩
    · replace H1 := bif_f hc_5 H1
      refine wpIn_exit ?_
      refine then_exit ?_
      refine then_exit ?_
      obtain ⟨hE', hmv, hmr⟩ := Ep.rebase (S0 := S) hE hI
      replace hB1 := El.keep hB1 hmv
      replace hB2 := El.keep hB2 hmv
      replace hE := hE'
      replace hI := hI.rebase
      clear hE' hmv hmr
      have hJ' := hq.new _ _ (Tc (Lo S w w_4 ns_3 []) w_4) _ _ hJ (hE.below hI) Tc.new
      obtain rfl := Option.some.inj H1
      exact .inl ⟨_, rfl, rfl, ⟨_, El.keep hB1 (Tc.mv _ _), El.keep hB2 (Tc.mv _ _), hJ', (hI.pick [8, 7, 6, 0, 1, 2] 0 ⟨[⟨8, [], .v (.int .i64 s1.1)⟩, ⟨7, [], .v (.int .i64 (y1.length : Int))⟩, ⟨6, [], .v (.slice ((sv1 0).1) y1.length ((sv1 0).2))⟩, ⟨0, [], .v (.func (.yield l) #[] #[])⟩, ⟨1, [], .v (.pointer (some B1))⟩, ⟨2, [], .v (.pointer (some B2))⟩], [], [], [], none, none⟩ (by kernel_rfl)).reset rfl rfl rfl _⟩⟩
  · clear hI hE hJ hJ'
    rintro s1 a w ho ⟨S, hB1, hB2, hJ, hI⟩
    subst ho
    replace H0 : (some (.next s1.2) : Option (Stp σt R)) = _ := H0
    have hE := Ep.start w
    replace hB1 := El.lo hB1
    replace hB2 := El.lo hB2
    obtain rfl := Option.some.inj H0
    exact retN (retG hI rfl rfl ⟨⟨_, rfl⟩, SeqPost.nxt (fun _ => False) (hq.new _ _ _ _ _ hJ (hE.below hI) (fun _ h => h.elim))⟩)

/-! ### porthole/hist.Of: function 22 -/
noncomputable def G_hist_Of (l0 : (List Call)) (a1 : Int) : Option (((List Call) × Int)) := some (l0, a1)
set_option maxRecDepth 100000 in
set_option maxHeartbeats 4000000 in
theorem G_hist_Of.calls (l0 : (List Call)) (a1 : Int) (A0 : Option Addr) (c0 : Nat) (w : World) {S : Nat → Prop} (hr0 : Arr kd_Call S w A0 l0) (hc0 : l0.length ≤ c0) (r : ((List Call) × Int)) (h : G_hist_Of l0 a1 = some r) :
    Calls Try.prog 22 #[.slice A0 l0.length c0, .int .i64 a1] w fun e w' => ∃ sv : SV, e = .returned (.func (.func 42) #[] #[.pointer (some (adr (sv 0).1)), .pointer (some (adr (sv 2).1))]) ∧ Below w.heap.size w w' ∧ El (Kd.slice kd_Call) (fun b => w.heap.size ≤ b ∨ S b) w' (adr (sv 0).1) r.1 (svO sv 1) ∧ El (Kd.int .i64) (fun b => w.heap.size ≤ b ∨ S b) w' (adr (sv 2).1) r.2 (svO sv 3) := by
  replace hr0 := Arr.lo hr0
  unfold G_hist_Of at h
  have H0 := h
  clear h
  refine enter Try.func22 rfl [.slice A0 l0.length c0, .int .i64 a1] (n := 6) rfl (Nat.le_of_ble_eq_true rfl) (fun a hI => ?_)
  have hF : FOpen Fence.wide := .inl rfl
  have hE := Ep.start w
  refine seq_region (live := [4, 3, 2, 0, 1]) (orc := []) hF hI ⟨[⟨4, [], .v (.nilFunc)⟩, ⟨3, [], .p 1 0⟩, ⟨2, [], .p 0 0⟩, ⟨0, [], .v (.slice A0 l0.length c0)⟩, ⟨1, [], .v (.int .i64 a1)⟩], [], [], [([.v (.slice A0 l0.length c0)], 26), ([.v (.int .i64 a1)], 3)], none, none⟩ [] (by kernel_rfl) trivial (fun ns_1 a w_2 hI _ => ?_)
  refine wpIn_seq ?_
  refine wpIn_region_lit ?_
  obtain ⟨hE', hmv, hmr⟩ := Ep.rebase (S0 := S) hE hI
  replace hr0 := Arr.keep hr0 hmv
  replace hE := hE'
  replace hI := hI.rebase
  clear hE' hmv hmr
  have hct := contI (S := Lo S w w_2 ns_1 []) (w := w_2) (d := (Kd.slice kd_Call)) (x := l0) (sv := (svL [(A0, c0)])) ⟨hr0, hc0⟩
  obtain ⟨B_3, ns_5, hE', hI', hmv, hB_4⟩ := freeze_ (S0 := S) (d := (Kd.slice kd_Call)) hE hI 0 l0 (svL [(A0, c0)]) 26 rfl
  replace hB_4 := hB_4 hct
  clear hct
  have hmr : ∀ b : Nat, some b ∈ ([] : List (Option Nat)) → w_2.heap[b]? = w_2.heap[b]? := fun _ _ => rfl
  replace hr0 := Arr.keep hr0 hmv
  replace hE := hE'
  replace hI := hI'
  clear hE' hI' hmv hmr
  obtain ⟨ns_6, hE', hI', hmv⟩ := hE.cut (S0 := S) hI [4, 3, 2, 0, 1] 1 ⟨[⟨4, [], .v (.nilFunc)⟩, ⟨3, [], .p 0 0⟩, ⟨2, [], .v (.pointer (some B_3))⟩, ⟨0, [], .v (.slice A0 l0.length c0)⟩, ⟨1, [], .v (.int .i64 a1)⟩], [], [], [([.v (.int .i64 a1)], 3)], none, none⟩ (by kernel_rfl)
  have hmr : ∀ b : Nat, some b ∈ ([] : List (Option Nat)) → w_2.heap[b]? = w_2.heap[b]? := fun _ _ => rfl
  replace hr0 := Arr.keep hr0 hmv
  replace hB_4 := El.keep hB_4 hmv
  replace hE := hE'
  replace hI := hI'
  clear hE' hI' hmv hmr
  have hct := contI (S := Lo S w w_2 ns_6 []) (w := w_2) (d := (Kd.int .i64)) (x := a1) (sv := (svL [])) trivial
  obtain ⟨B_7, ns_9, hE', hI', hmv, hB_8⟩ := freeze_ (S0 := S) (d := (Kd.int .i64)) hE hI 0 a1 (svL []) 3 rfl
  replace hB_8 := hB_8 hct
  clear hct
  have hmr : ∀ b : Nat, some b ∈ ([] : List (Option Nat)) → w_2.heap[b]? = w_2.heap[b]? := fun _ _ => rfl
  replace hr0 := Arr.keep hr0 hmv
  replace hB_4 := El.keep hB_4 hmv
  replace hE := hE'
  replace hI := hI'
  clear hE' hI' hmv hmr
  obtain ⟨ns_10, hE', hI', hmv⟩ := hE.cut (S0 := S) hI [4, 3, 2, 0, 1] 0 ⟨[⟨4, [], .v (.nilFunc)⟩, ⟨3, [], .v (.pointer (some B_7))⟩, ⟨2, [], .v (.pointer (some B_3))⟩, ⟨0, [], .v (.slice A0 l0.length c0)⟩, ⟨1, [], .v (.int .i64 a1)⟩], [], [], [], none, none⟩ (by kernel_rfl)
  have hmr : ∀ b : Nat, some b ∈ ([] : List (Option Nat)) → w_2.heap[b]? = w_2.heap[b]? := fun _ _ => rfl
  replace hr0 := Arr.keep hr0 hmv
  replace hB_4 := El.keep hB_4 hmv
  replace hB_8 := El.keep hB_8 hmv
  replace hE := hE'
  replace hI := hI'
  clear hE' hI' hmv hmr
  refine chunkL_ (live := [5, 4, 3, 2, 0, 1]) (orc := []) hF 1 hI ⟨[⟨5, [], .v (.func (.func 42) #[] #[.pointer (some B_3), .pointer (some B_7)])⟩, ⟨4, [], .v (.nilFunc)⟩, ⟨3, [], .v (.pointer (some B_7))⟩, ⟨2, [], .v (.pointer (some B_3))⟩, ⟨0, [], .v (.slice A0 l0.length c0)⟩, ⟨1, [], .v (.int .i64 a1)⟩], [], [], [], none, none⟩ [] rfl (by kernel_rfl) trivial (fun ns_11 a w_12 hI => ?_)
  refine chunkL_ (live := [4, 3, 2, 0, 1]) (orc := []) hF 1 hI ⟨[⟨4, [], .v (.func (.func 42) #[] #[.pointer (some B_3), .pointer (some B_7)])⟩, ⟨3, [], .v (.pointer (some B_7))⟩, ⟨2, [], .v (.pointer (some B_3))⟩, ⟨0, [], .v (.slice A0 l0.length c0)⟩, ⟨1, [], .v (.int .i64 a1)⟩], [], [], [], none, none⟩ [] rfl (by kernel_rfl) trivial (fun ns_13 a w_14 hI => ?_)
  refine wpListIn_nil ?_
  refine then_normal ?_
  refine wpIn_ret ?_
  obtain rfl := Option.some.inj H0
  exact ret1 hI rfl rfl ⟨svL [(some B_3, 0), ((svL [(A0, c0)]) 0), (some B_7, 0)], rfl, hE.below hI, ⟨(El.keep hB_4 (hE.out hI)).cont, (El.keep hB_4 (hE.out hI)).at_, (El.keep hB_4 (hE.out hI)).cells⟩, ⟨(El.keep hB_8 (hE.out hI)).cont, (El.keep hB_8 (hE.out hI)).at_, (El.keep hB_8 (hE.out hI)).cells⟩⟩

/-! ### porthole/portholeref14.SameRequest: function 43 -/
noncomputable def G_ref14_SameRequest.b1 (x0 : Request) (x1 : Request) (s1 : Int × Bool) : Option (Stp (Int × Bool) (Ex (Int × Bool) (Bool))) := (bif decide (s1.1 < (x0.Data.length : Int)) then (req (inb s1.1 x0.Data.length) (req (inb s1.1 x1.Data.length) (bif ((rd x0.Data s1.1) != (rd x1.Data s1.1)) then some (.out (.ret false)) else some (.next ((IntKind.i64.wrap (s1.1 + 1)), s1.2))))) else some (.out (.brk (s1.1, s1.2))))
noncomputable def G_ref14_SameRequest (x0 : Request) (x1 : Request) : Option (Bool) := (bif ((((x0.Op != x1.Op) || (x0.Port != x1.Port)) || (x0.Addr != x1.Addr)) || ((x0.Data.length : Int) != (x1.Data.length : Int))) then some false else ((loopω (G_ref14_SameRequest.b1 x0 x1) (0, false)).bind fun o => o.on (fun s1 => some true) (fun r => some r)))
set_option maxRecDepth 100000 in
set_option maxHeartbeats 4000000 in
theorem G_ref14_SameRequest.calls (x0 : Request) (x1 : Request) (sv0 : SV) (sv1 : SV) (w : World) {S : Nat → Prop} (hx0 : (kd_Request).cont S w x0 sv0) (hx1 : (kd_Request).cont S w x1 sv1) (r : Bool) (h : G_ref14_SameRequest x0 x1 = some r) :
    Calls Try.prog 43 #[.agg ((kd_Request).cells x0 sv0).toArray, .agg ((kd_Request).cells x1 sv1).toArray] w fun e w' => e = .returned (.bool r) ∧ Below w.heap.size w w' := by
  replace hx0 := Kd.lo _ hx0
  replace hx1 := Kd.lo _ hx1
  unfold G_ref14_SameRequest at h
  have H0 := h
  clear h
  refine enter Try.func43 rfl [.agg ((kd_Request).cells x0 sv0).toArray, .agg ((kd_Request).cells x1 sv1).toArray] (n := 52) rfl (Nat.le_of_ble_eq_true rfl) (fun a hI => ?_)
  have hF : FOpen Fence.wide := .inl rfl
  have hE := Ep.start w
  refine seq_region (live := [4, 3, 2, 0, 1]) (orc := []) hF hI ⟨[⟨4, [], .v (.bool false)⟩, ⟨3, [], .p 1 0⟩, ⟨2, [], .p 0 0⟩, ⟨0, [], .v (.agg ((kd_Request).cells x0 sv0).toArray)⟩, ⟨1, [], .v (.agg ((kd_Request).cells x1 sv1).toArray)⟩], [], [], [((((kd_Request).cells x0 sv0).map EV.v), 37), ((((kd_Request).cells x1 sv1).map EV.v), 37)], none, none⟩ [] (by kernel_rfl) trivial (fun ns_1 a w_2 hI _ => ?_)
  refine wpIn_seq ?_
  refine seq_region (live := [33, 4, 3, 2, 0, 1]) (orc := []) hF hI ⟨[⟨33, [], .v (.bool ((((x0.Op != x1.Op) || (x0.Port != x1.Port)) || (x0.Addr != x1.Addr)) || ((x0.Data.length : Int) != (x1.Data.length : Int))))⟩, ⟨4, [], .v (.bool false)⟩, ⟨3, [], .p 1 0⟩, ⟨2, [], .p 0 0⟩, ⟨0, [], .v (.agg ((kd_Request).cells x0 sv0).toArray)⟩, ⟨1, [], .v (.agg ((kd_Request).cells x1 sv1).toArray)⟩], [], [], [((((kd_Request).cells x0 sv0).map EV.v), 37), ((((kd_Request).cells x1 sv1).map EV.v), 37)], none, none⟩ [] (by kernel_rfl) trivial (fun ns_3 a w_4 hI _ => ?_)
  refine cond_ hI (((((x0.Op != x1.Op) || (x0.Port != x1.Port)) || (x0.Addr != x1.Addr)) || ((x0.Data.length : Int) != (x1.Data.length : Int)))) rfl (fun hc_5 => ?_) (fun hc_5 => ?_)
  · replace H0 := bif_t hc_5 H0
    refine seq_region (live := [4, 33, 3, 2, 0, 1]) (orc := []) hF hI ⟨[⟨4, [], .v (.bool false)⟩, ⟨33, [], .v (.bool ((((x0.Op != x1.Op) || (x0.Port != x1.Port)) || (x0.Addr != x1.Addr)) || ((x0.Data.length : Int) != (x1.Data.length : Int))))⟩, ⟨3, [], .p 1 0⟩, ⟨2, [], .p 0 0⟩, ⟨0, [], .v (.agg ((kd_Request).cells x0 sv0).toArray)⟩, ⟨1, [], .v (.agg ((kd_Request).cells x1 sv1).toArray)⟩], [], [], [((((kd_Request).cells x0 sv0).map EV.v), 37), ((((kd_Request).cells x1 sv1).map EV.v), 37)], none, none⟩ [] (by kernel_rfl) trivial (fun ns_6 a w_7 hI _ => ?_)
    refine wpIn_ret ?_
    refine then_ret ?_
    obtain rfl := Option.some.inj H0
    exact ret1 hI rfl rfl ⟨rfl, hE.below hI⟩
  · replace H0 := bif_f hc_5 H0
    refine wpIn_skip ?_
    refine then_normal ?_
    refine wpIn_seq ?_
    refine seq_region (live := [5, 33, 4, 3, 2, 0, 1]) (orc := []) hF hI ⟨[⟨5, [], .v (.int .i64 0)⟩, ⟨33, [], .v (.bool ((((x0.Op != x1.Op) || (x0.Port != x1.Port)) || (x0.Addr != x1.Addr)) || ((x0.Data.length : Int) != (x1.Data.length : Int))))⟩, ⟨4, [], .v (.bool false)⟩, ⟨3, [], .p 1 0⟩, ⟨2, [], .p 0 0⟩, ⟨0, [], .v (.agg ((kd_Request).cells x0 sv0).toArray)⟩, ⟨1, [], .v (.agg ((kd_Request).cells x1 sv1).toArray)⟩], [], [], [((((kd_Request).cells x0 sv0).map EV.v), 37), ((((kd_Request).cells x1 sv1).map EV.v), 37)], none, none⟩ [] (by kernel_rfl) trivial (fun ns_8 a w_9 hI _ => ?_)
    obtain ⟨o_29, hL_30, H0⟩ := bind_some H0
    refine block_loop (fun s1 a w_35 => ∃ ns, St w [] 52 ⟨[⟨5, [], .v (.int .i64 s1.1)⟩, ⟨33, [], .v (.bool ((((x0.Op != x1.Op) || (x0.Port != x1.Port)) || (x0.Addr != x1.Addr)) || ((x0.Data.length : Int) != (x1.Data.length : Int))))⟩, ⟨4, [], .v (.bool s1.2)⟩, ⟨3, [], .p 1 0⟩, ⟨2, [], .p 0 0⟩, ⟨0, [], .v (.agg ((kd_Request).cells x0 sv0).toArray)⟩, ⟨1, [], .v (.agg ((kd_Request).cells x1 sv1).toArray)⟩], [], [], [((((kd_Request).cells x0 sv0).map EV.v), 37), ((((kd_Request).cells x1 sv1).map EV.v), 37)], none, none⟩ ns a w_35) (0, false) hL_30 ⟨_, hI.pick [5, 33, 4, 3, 2, 0, 1] 2 ⟨[⟨5, [], .v (.int .i64 0)⟩, ⟨33, [], .v (.bool ((((x0.Op != x1.Op) || (x0.Port != x1.Port)) || (x0.Addr != x1.Addr)) || ((x0.Data.length : Int) != (x1.Data.length : Int))))⟩, ⟨4, [], .v (.bool false)⟩, ⟨3, [], .p 1 0⟩, ⟨2, [], .p 0 0⟩, ⟨0, [], .v (.agg ((kd_Request).cells x0 sv0).toArray)⟩, ⟨1, [], .v (.agg ((kd_Request).cells x1 sv1).toArray)⟩], [], [], [((((kd_Request).cells x0 sv0).map EV.v), 37), ((((kd_Request).cells x1 sv1).map EV.v), 37)], none, none⟩ (by kernel_rfl)⟩ ?_ ?_
    · clear hI
      rintro s1 a w_10 ⟨ns_11, hI⟩ r1 H1
      unfold G_ref14_SameRequest.b1 at H1
      refine wpIn_seq ?_
      refine seq_region (live := [38, 5, 33, 4, 3, 2, 0, 1]) (orc := []) hF hI ⟨[⟨38, [], .v (.bool (decide (s1.1 < (x0.Data.length : Int))))⟩, ⟨5, [], .v (.int .i64 s1.1)⟩, ⟨33, [], .v (.bool ((((x0.Op != x1.Op) || (x0.Port != x1.Port)) || (x0.Addr != x1.Addr)) || ((x0.Data.length : Int) != (x1.Data.length : Int))))⟩, ⟨4, [], .v (.bool s1.2)⟩, ⟨3, [], .p 1 0⟩, ⟨2, [], .p 0 0⟩, ⟨0, [], .v (.agg ((kd_Request).cells x0 sv0).toArray)⟩, ⟨1, [], .v (.agg ((kd_Request).cells x1 sv1).toArray)⟩], [], [], [((((kd_Request).cells x0 sv0).map EV.v), 37), ((((kd_Request).cells x1 sv1).map EV.v), 37)], none, none⟩ [] (by kernel_rfl) trivial (fun ns_12 a w_13 hI _ => ?_)
      refine cond_ hI (decide (s1.1 < (x0.Data.length : Int))) rfl (fun hc_14 => ?_) (fun hc_14 => ?_)
      · replace H1 := bif_t hc_14 H1
        refine wpIn_skip ?_
        refine then_normal ?_
        refine wpIn_seq ?_
        refine wpIn_block ?_
        refine wpIn_seq ?_
        obtain ⟨hN_15, H1⟩ := req_some H1
        obtain ⟨sv_16, hE_18, hA_17⟩ := Arr.elB (d := (Kd.int .u32)) hx0.1.1 s1.1 true (fun _ => hN_15)
        replace hE_18 := hE_18 rfl
        replace hA_17 := fun (_ : true = true) => hA_17 rfl
        obtain ⟨hN_19, H1⟩ := req_some H1
        obtain ⟨sv_20, hE_22, hA_21⟩ := Arr.elB (d := (Kd.int .u32)) hx1.1.1 s1.1 true (fun _ => hN_19)
        replace hE_22 := hE_22 rfl
        replace hA_21 := fun (_ : true = true) => hA_21 rfl
        refine drawn_ (live := [51, 38, 5, 33, 4, 3, 2, 0, 1]) (orc := [[.int .u32 (rd x0.Data s1.1)], [.int .u32 (rd x1.Data s1.1)]]) hF hI ⟨[⟨51, [], .v (.bool ((rd x0.Data s1.1) != (rd x1.Data s1.1)))⟩, ⟨38, [], .v (.bool (decide (s1.1 < (x0.Data.length : Int))))⟩, ⟨5, [], .v (.int .i64 s1.1)⟩, ⟨33, [], .v (.bool ((((x0.Op != x1.Op) || (x0.Port != x1.Port)) || (x0.Addr != x1.Addr)) || ((x0.Data.length : Int) != (x1.Data.length : Int))))⟩, ⟨4, [], .v (.bool s1.2)⟩, ⟨3, [], .p 1 0⟩, ⟨2, [], .p 0 0⟩, ⟨0, [], .v (.agg ((kd_Request).cells x0 sv0).toArray)⟩, ⟨1, [], .v (.agg ((kd_Request).cells x1 sv1).toArray)⟩], [], [], [((((kd_Request).cells x0 sv0).map EV.v), 37), ((((kd_Request).cells x1 sv1).map EV.v), 37)], none, none⟩ [.need true (0 ≤ s1.1 ∧ s1.1 < (x0.Data.length : Int)), .need true ((sv0 0).1 = some (adr ((sv0 0).1))), .cell true ((adr ((sv0 0).1)).add ((s1.1 : Int).toNat * 1)) [.int .u32 (rd x0.Data s1.1)], .need true (0 ≤ s1.1 ∧ s1.1 < (x1.Data.length : Int)), .need true ((sv1 0).1 = some (adr ((sv1 0).1))), .cell true ((adr ((sv1 0).1)).add ((s1.1 : Int).toNat * 1)) [.int .u32 (rd x1.Data s1.1)]] (by kernel_rfl) (by kernel_rfl) (by kernel_rfl) ⟨ob_inb (fun _ => hN_15), hA_17, ob_el (fun _ => hE_18) 0 [.int .u32 (rd x0.Data s1.1)] rfl, ob_inb (fun _ => hN_19), hA_21, ob_el (fun _ => hE_22) 0 [.int .u32 (rd x1.Data s1.1)] rfl, trivial⟩ (fun a w_23 hI => ?_)
        refine then_normal ?_
        refine cond_ hI (((rd x0.Data s1.1) != (rd x1.Data s1.1))) rfl (fun hc_24 => ?_) (fun hc_24 => ?_)
        · replace H1 := bif_t hc_24 H1
          refine seq_region (live := [4, 51, 38, 5, 33, 3, 2, 0, 1]) (orc := []) hF hI ⟨[⟨4, [], .v (.bool false)⟩, ⟨51, [], .v (.bool ((rd x0.Data s1.1) != (rd x1.Data s1.1)))⟩, ⟨38, [], .v (.bool (decide (s1.1 < (x0.Data.length : Int))))⟩, ⟨5, [], .v (.int .i64 s1.1)⟩, ⟨33, [], .v (.bool ((((x0.Op != x1.Op) || (x0.Port != x1.Port)) || (x0.Addr != x1.Addr)) || ((x0.Data.length : Int) != (x1.Data.length : Int))))⟩, ⟨3, [], .p 1 0⟩, ⟨2, [], .p 0 0⟩, ⟨0, [], .v (.agg ((kd_Request).cells x0 sv0).toArray)⟩, ⟨1, [], .v (.agg ((kd_Request).cells x1 sv1).toArray)⟩], [], [], [((((kd_Request).cells x0 sv0).map EV.v), 37), ((((kd_Request).cells x1 sv1).map EV.v), 37)], none, none⟩ [] (by kernel_rfl) trivial (fun ns_25 a w_26 hI _ => ?_)
          refine wpIn_ret ?_
          refine inBlock_ret ?_
          refine then_ret ?_
          refine then_ret ?_
          obtain rfl := Option.some.inj H1
          refine .inr ⟨_, rfl, fun ho => ?_⟩
          subst ho
          refine inBlock_ret ?_
          refine then_ret ?_
          obtain rfl := Option.some.inj H0
          exact ret1 hI rfl rfl ⟨rfl, hE.below hI⟩
        · replace H1 := bif_f hc_24 H1
          refine wpIn_skip ?_
          refine inBlock_normal ?_
          refine then_normal ?_
          refine region_ (live := [5, 51, 38, 33, 4, 3, 2, 0, 1]) (orc := []) hF hI ⟨[⟨5, [], .v (.int .i64 (IntKind.i64.wrap (s1.1 + 1)))⟩, ⟨51, [], .v (.bool ((rd x0.Data s1.1) != (rd x1.Data s1.1)))⟩, ⟨38, [], .v (.bool (decide (s1.1 < (x0.Data.length : Int))))⟩, ⟨33, [], .v (.bool ((((x0.Op != x1.Op) || (x0.Port != x1.Port)) || (x0.Addr != x1.Addr)) || ((x0.Data.length : Int) != (x1.Data.length : Int))))⟩, ⟨4, [], .v (.bool s1.2)⟩, ⟨3, [], .p 1 0⟩, ⟨2, [], .p 0 0⟩, ⟨0, [], .v (.agg ((kd_Request).cells x0 sv0).toArray)⟩, ⟨1, [], .v (.agg ((kd_Request).cells x1 sv1).toArray)⟩], [], [], [((((kd_Request).cells x0 sv0).map EV.v), 37), ((((kd_Request).cells x1 sv1).map EV.v), 37)], none, none⟩ [] (by kernel_rfl) trivial (fun ns_27 a w_28 hI _ => ?_)
          refine then_normal ?_
          obtain rfl := Option.some.inj H1
          exact ⟨_, rfl, ⟨_, hI.pick [5, 33, 4, 3, 2, 0, 1] 2 ⟨[⟨5, [], .v (.int .i64 (IntKind.i64.wrap (s1.1 + 1)))⟩, ⟨33, [], .v (.bool ((((x0.Op != x1.Op) || (x0.Port != x1.Port)) || (x0.Addr != x1.Addr)) || ((x0.Data.length : Int) != (x1.Data.length : Int))))⟩, ⟨4, [], .v (.bool s1.2)⟩, ⟨3, [], .p 1 0⟩, ⟨2, [], .p 0 0⟩, ⟨0, [], .v (.agg ((kd_Request).cells x0 sv0).toArray)⟩, ⟨1, [], .v (.agg ((kd_Request).cells x1 sv1).toArray)⟩], [], [], [((((kd_Request).cells x0 sv0).map EV.v), 37), ((((kd_Request).cells x1 sv1).map EV.v), 37)], none, none⟩ (by kernel_rfl)⟩⟩
      · replace H1 := bif_f hc_14 H1
        refine wpIn_exit ?_
        refine then_exit ?_
        refine then_exit ?_
        obtain rfl := Option.some.inj H1
        exact .inl ⟨_, rfl, rfl, ⟨_, hI.pick [5, 33, 4, 3, 2, 0, 1] 2 ⟨[⟨5, [], .v (.int .i64 s1.1)⟩, ⟨33, [], .v (.bool ((((x0.Op != x1.Op) || (x0.Port != x1.Port)) || (x0.Addr != x1.Addr)) || ((x0.Data.length : Int) != (x1.Data.length : Int))))⟩, ⟨4, [], .v (.bool s1.2)⟩, ⟨3, [], .p 1 0⟩, ⟨2, [], .p 0 0⟩, ⟨0, [], .v (.agg ((kd_Request).cells x0 sv0).toArray)⟩, ⟨1, [], .v (.agg ((kd_Request).cells x1 sv1).toArray)⟩], [], [], [((((kd_Request).cells x0 sv0).map EV.v), 37), ((((kd_Request).cells x1 sv1).map EV.v), 37)], none, none⟩ (by kernel_rfl)⟩⟩
    · clear hI
      rintro s1 a w_31 ho ⟨ns_32, hI⟩
      subst ho
      replace H0 : (some true : Option (Bool)) = _ := H0
      refine then_normal ?_
      refine seq_region (live := [4, 5, 33, 3, 2, 0, 1]) (orc := []) hF hI ⟨[⟨4, [], .v (.bool true)⟩, ⟨5, [], .v (.int .i64 s1.1)⟩, ⟨33, [], .v (.bool ((((x0.Op != x1.Op) || (x0.Port != x1.Port)) || (x0.Addr != x1.Addr)) || ((x0.Data.length : Int) != (x1.Data.length : Int))))⟩, ⟨3, [], .p 1 0⟩, ⟨2, [], .p 0 0⟩, ⟨0, [], .v (.agg ((kd_Request).cells x0 sv0).toArray)⟩, ⟨1, [], .v (.agg ((kd_Request).cells x1 sv1).toArray)⟩], [], [], [((((kd_Request).cells x0 sv0).map EV.v), 37), ((((kd_Request).cells x1 sv1).map EV.v), 37)], none, none⟩ [] (by kernel_rfl) trivial (fun ns_33 a w_34 hI _ => ?_)
      refine wpIn_ret ?_
      obtain rfl := Option.some.inj H0
      exact ret1 hI rfl rfl ⟨rfl, hE.below hI⟩

/-! ### porthole/portholeref11.SameAnswer: function 44 -/
noncomputable def G_ref11_SameAnswer.b1 (x0 : Answer) (x1 : Answer) (s1 : Int × Bool) : Option (Stp (Int × Bool) (Ex (Int × Bool) (Bool))) := (bif decide (s1.1 < (x0.Data.length : Int)) then (req (inb s1.1 x0.Data.length) (req (inb s1.1 x1.Data.length) (bif ((rd x0.Data s1.1) != (rd x1.Data s1.1)) then some (.out (.ret false)) else some (.next ((IntKind.i64.wrap (s1.1 + 1)), s1.2))))) else some (.out (.brk (s1.1, s1.2))))
noncomputable def G_ref11_SameAnswer (x0 : Answer) (x1 : Answer) : Option (Bool) := (bif ((((x0.Code != x1.Code) || (!(x0.Valid == x1.Valid))) || (x0.Count != x1.Count)) || ((x0.Data.length : Int) != (x1.Data.length : Int))) then some false else ((loopω (G_ref11_SameAnswer.b1 x0 x1) (0, false)).bind fun o => o.on (fun s1 => some true) (fun r => some r)))
set_option maxRecDepth 100000 in
set_option maxHeartbeats 4000000 in
theorem G_ref11_SameAnswer.calls (x0 : Answer) (x1 : Answer) (sv0 : SV) (sv1 : SV) (w : World) {S : Nat → Prop} (hx0 : (kd_Answer).cont S w x0 sv0) (hx1 : (kd_Answer).cont S w x1 sv1) (r : Bool) (h : G_ref11_SameAnswer x0 x1 = some r) :
    Calls Try.prog 44 #[.agg ((kd_Answer).cells x0 sv0).toArray, .agg ((kd_Answer).cells x1 sv1).toArray] w fun e w' => e = .returned (.bool r) ∧ Below w.heap.size w w' := by
  replace hx0 := Kd.lo _ hx0
  replace hx1 := Kd.lo _ hx1
  unfold G_ref11_SameAnswer at h
  have H0 := h
  clear h
  refine enter Try.func44 rfl [.agg ((kd_Answer).cells x0 sv0).toArray, .agg ((kd_Answer).cells x1 sv1).toArray] (n := 52) rfl (Nat.le_of_ble_eq_true rfl) (fun a hI => ?_)
  have hF : FOpen Fence.wide := .inl rfl
  have hE := Ep.start w
  refine seq_region (live := [4, 3, 2, 0, 1]) (orc := []) hF hI ⟨[⟨4, [], .v (.bool false)⟩, ⟨3, [], .p 1 0⟩, ⟨2, [], .p 0 0⟩, ⟨0, [], .v (.agg ((kd_Answer).cells x0 sv0).toArray)⟩, ⟨1, [], .v (.agg ((kd_Answer).cells x1 sv1).toArray)⟩], [], [], [((((kd_Answer).cells x0 sv0).map EV.v), 40), ((((kd_Answer).cells x1 sv1).map EV.v), 40)], none, none⟩ [] (by kernel_rfl) trivial (fun ns_1 a w_2 hI _ => ?_)
  refine wpIn_seq ?_
  refine seq_region (live := [33, 4, 3, 2, 0, 1]) (orc := []) hF hI ⟨[⟨33, [], .v (.bool ((((x0.Code != x1.Code) || (!(x0.Valid == x1.Valid))) || (x0.Count != x1.Count)) || ((x0.Data.length : Int) != (x1.Data.length : Int))))⟩, ⟨4, [], .v (.bool false)⟩, ⟨3, [], .p 1 0⟩, ⟨2, [], .p 0 0⟩, ⟨0, [], .v (.agg ((kd_Answer).cells x0 sv0).toArray)⟩, ⟨1, [], .v (.agg ((kd_Answer).cells x1 sv1).toArray)⟩], [], [], [((((kd_Answer).cells x0 sv0).map EV.v), 40), ((((kd_Answer).cells x1 sv1).map EV.v), 40)], none, none⟩ [] (by kernel_rfl) trivial (fun ns_3 a w_4 hI _ => ?_)
  refine cond_ hI (((((x0.Code != x1.Code) || (!(x0.Valid == x1.Valid))) || (x0.Count != x1.Count)) || ((x0.Data.length : Int) != (x1.Data.length : Int)))) rfl (fun hc_5 => ?_) (fun hc_5 => ?_)
  · replace H0 := bif_t hc_5 H0
    refine seq_region (live := [4, 33, 3, 2, 0, 1]) (orc := []) hF hI ⟨[⟨4, [], .v (.bool false)⟩, ⟨33, [], .v (.bool ((((x0.Code != x1.Code) || (!(x0.Valid == x1.Valid))) || (x0.Count != x1.Count)) || ((x0.Data.length : Int) != (x1.Data.length : Int))))⟩, ⟨3, [], .p 1 0⟩, ⟨2, [], .p 0 0⟩, ⟨0, [], .v (.agg ((kd_Answer).cells x0 sv0).toArray)⟩, ⟨1, [], .v (.agg ((kd_Answer).cells x1 sv1).toArray)⟩], [], [], [((((kd_Answer).cells x0 sv0).map EV.v), 40), ((((kd_Answer).cells x1 sv1).map EV.v), 40)], none, none⟩ [] (by kernel_rfl) trivial (fun ns_6 a w_7 hI _ => ?_)
    refine wpIn_ret ?_
    refine then_ret ?_
    obtain rfl := Option.some.inj H0
    exact ret1 hI rfl rfl ⟨rfl, hE.below hI⟩
  · replace H0 := bif_f hc_5 H0
    refine wpIn_skip ?_
    refine then_normal ?_
    refine wpIn_seq ?_
    refine seq_region (live := [5, 33, 4, 3, 2, 0, 1]) (orc := []) hF hI ⟨[⟨5, [], .v (.int .i64 0)⟩, ⟨33, [], .v (.bool ((((x0.Code != x1.Code) || (!(x0.Valid == x1.Valid))) || (x0.Count != x1.Count)) || ((x0.Data.length : Int) != (x1.Data.length : Int))))⟩, ⟨4, [], .v (.bool false)⟩, ⟨3, [], .p 1 0⟩, ⟨2, [], .p 0 0⟩, ⟨0, [], .v (.agg ((kd_Answer).cells x0 sv0).toArray)⟩, ⟨1, [], .v (.agg ((kd_Answer).cells x1 sv1).toArray)⟩], [], [], [((((kd_Answer).cells x0 sv0).map EV.v), 40), ((((kd_Answer).cells x1 sv1).map EV.v), 40)], none, none⟩ [] (by kernel_rfl) trivial (fun ns_8 a w_9 hI _ => ?_)
    obtain ⟨o_29, hL_30, H0⟩ := bind_some H0
    refine block_loop (fun s1 a w_35 => ∃ ns, St w [] 52 ⟨[⟨5, [], .v (.int .i64 s1.1)⟩, ⟨33, [], .v (.bool ((((x0.Code != x1.Code) || (!(x0.Valid == x1.Valid))) || (x0.Count != x1.Count)) || ((x0.Data.length : Int) != (x1.Data.length : Int))))⟩, ⟨4, [], .v (.bool s1.2)⟩, ⟨3, [], .p 1 0⟩, ⟨2, [], .p 0 0⟩, ⟨0, [], .v (.agg ((kd_Answer).cells x0 sv0).toArray)⟩, ⟨1, [], .v (.agg ((kd_Answer).cells x1 sv1).toArray)⟩], [], [], [((((kd_Answer).cells x0 sv0).map EV.v), 40), ((((kd_Answer).cells x1 sv1).map EV.v), 40)], none, none⟩ ns a w_35) (0, false) hL_30 ⟨_, hI.pick [5, 33, 4, 3, 2, 0, 1] 2 ⟨[⟨5, [], .v (.int .i64 0)⟩, ⟨33, [], .v (.bool ((((x0.Code != x1.Code) || (!(x0.Valid == x1.Valid))) || (x0.Count != x1.Count)) || ((x0.Data.length : Int) != (x1.Data.length : Int))))⟩, ⟨4, [], .v (.bool false)⟩, ⟨3, [], .p 1 0⟩, ⟨2, [], .p 0 0⟩, ⟨0, [], .v (.agg ((kd_Answer).cells x0 sv0).toArray)⟩, ⟨1, [], .v (.agg ((kd_Answer).cells x1 sv1).toArray)⟩], [], [], [((((kd_Answer).cells x0 sv0).map EV.v), 40), ((((kd_Answer).cells x1 sv1).map EV.v), 40)], none, none⟩ (by kernel_rfl)⟩ ?_ ?_
    · clear hI
      rintro s1 a w_10 ⟨ns_11, hI⟩ r1 H1
      unfold G_ref11_SameAnswer.b1 at H1
      refine wpIn_seq ?_
      refine seq_region (live := [38, 5, 33, 4, 3, 2, 0, 1]) (orc := []) hF hI ⟨[⟨38, [], .v (.bool (decide (s1.1 < (x0.Data.length : Int))))⟩, ⟨5, [], .v (.int .i64 s1.1)⟩, ⟨33, [], .v (.bool ((((x0.Code != x1.Code) || (!(x0.Valid == x1.Valid))) || (x0.Count != x1.Count)) || ((x0.Data.length : Int) != (x1.Data.length : Int))))⟩, ⟨4, [], .v (.bool s1.2)⟩, ⟨3, [], .p 1 0⟩, ⟨2, [], .p 0 0⟩, ⟨0, [], .v (.agg ((kd_Answer).cells x0 sv0).toArray)⟩, ⟨1, [], .v (.agg ((kd_Answer).cells x1 sv1).toArray)⟩], [], [], [((((kd_Answer).cells x0 sv0).map EV.v), 40), ((((kd_Answer).cells x1 sv1).map EV.v), 40)], none, none⟩ [] (by kernel_rfl) trivial (fun ns_12 a w_13 hI _ => ?_)
      refine cond_ hI (decide (s1.1 < (x0.Data.length : Int))) rfl (fun hc_14 => ?_) (fun hc_14 => ?_)
      · replace H1 := bif_t hc_14 H1
        refine wpIn_skip ?_
        refine then_normal ?_
        refine wpIn_seq ?_
        refine wpIn_block ?_
        refine wpIn_seq ?_
        obtain ⟨hN_15, H1⟩ := req_some H1
        obtain ⟨sv_16, hE_18, hA_17⟩ := Arr.elB (d := (Kd.int .u32)) hx0.1.1 s1.1 true (fun _ => hN_15)
        replace hE_18 := hE_18 rfl
        replace hA_17 := fun (_ : true = true) => hA_17 rfl
        obtain ⟨hN_19, H1⟩ := req_some H1
        obtain ⟨sv_20, hE_22, hA_21⟩ := Arr.elB (d := (Kd.int .u32)) hx1.1.1 s1.1 true (fun _ => hN_19)
        replace hE_22 := hE_22 rfl
        replace hA_21 := fun (_ : true = true) => hA_21 rfl
        refine drawn_ (live := [51, 38, 5, 33, 4, 3, 2, 0, 1]) (orc := [[.int .u32 (rd x0.Data s1.1)], [.int .u32 (rd x1.Data s1.1)]]) hF hI ⟨[⟨51, [], .v (.bool ((rd x0.Data s1.1) != (rd x1.Data s1.1)))⟩, ⟨38, [], .v (.bool (decide (s1.1 < (x0.Data.length : Int))))⟩, ⟨5, [], .v (.int .i64 s1.1)⟩, ⟨33, [], .v (.bool ((((x0.Code != x1.Code) || (!(x0.Valid == x1.Valid))) || (x0.Count != x1.Count)) || ((x0.Data.length : Int) != (x1.Data.length : Int))))⟩, ⟨4, [], .v (.bool s1.2)⟩, ⟨3, [], .p 1 0⟩, ⟨2, [], .p 0 0⟩, ⟨0, [], .v (.agg ((kd_Answer).cells x0 sv0).toArray)⟩, ⟨1, [], .v (.agg ((kd_Answer).cells x1 sv1).toArray)⟩], [], [], [((((kd_Answer).cells x0 sv0).map EV.v), 40), ((((kd_Answer).cells x1 sv1).map EV.v), 40)], none, none⟩ [.need true (0 ≤ s1.1 ∧ s1.1 < (x0.Data.length : Int)), .need true ((sv0 0).1 = some (adr ((sv0 0).1))), .cell true ((adr ((sv0 0).1)).add ((s1.1 : Int).toNat * 1)) [.int .u32 (rd x0.Data s1.1)], .need true (0 ≤ s1.1 ∧ s1.1 < (x1.Data.length : Int)), .need true ((sv1 0).1 = some (adr ((sv1 0).1))), .cell true ((adr ((sv1 0).1)).add ((s1.1 : Int).toNat * 1)) [.int .u32 (rd x1.Data s1.1)]] (by kernel_rfl) (by kernel_rfl) (by kernel_rfl) ⟨ob_inb (fun _ => hN_15), hA_17, ob_el (fun _ => hE_18) 0 [.int .u32 (rd x0.Data s1.1)] rfl, ob_inb (fun _ => hN_19), hA_21, ob_el (fun _ => hE_22) 0 [.int .u32 (rd x1.Data s1.1)] rfl, trivial⟩ (fun a w_23 hI => ?_)
        refine then_normal ?_
        refine cond_ hI (((rd x0.Data s1.1) != (rd x1.Data s1.1))) rfl (fun hc_24 => ?_) (fun hc_24 => ?_)
        · replace H1 := bif_t hc_24 H1
          refine seq_region (live := [4, 51, 38, 5, 33, 3, 2, 0, 1]) (orc := []) hF hI ⟨[⟨4, [], .v (.bool false)⟩, ⟨51, [], .v (.bool ((rd x0.Data s1.1) != (rd x1.Data s1.1)))⟩, ⟨38, [], .v (.bool (decide (s1.1 < (x0.Data.length : Int))))⟩, ⟨5, [], .v (.int .i64 s1.1)⟩, ⟨33, [], .v (.bool ((((x0.Code != x1.Code) || (!(x0.Valid == x1.Valid))) || (x0.Count != x1.Count)) || ((x0.Data.length : Int) != (x1.Data.length : Int))))⟩, ⟨3, [], .p 1 0⟩, ⟨2, [], .p 0 0⟩, ⟨0, [], .v (.agg ((kd_Answer).cells x0 sv0).toArray)⟩, ⟨1, [], .v (.agg ((kd_Answer).cells x1 sv1).toArray)⟩], [], [], [((((kd_Answer).cells x0 sv0).map EV.v), 40), ((((kd_Answer).cells x1 sv1).map EV.v), 40)], none, none⟩ [] (by kernel_rfl) trivial (fun ns_25 a w_26 hI _ => ?_)
          refine wpIn_ret ?_
          refine inBlock_ret ?_
          refine then_ret ?_
          refine then_ret ?_
          obtain rfl := Option.some.inj H1
          refine .inr ⟨_, rfl, fun ho => ?_⟩
          subst ho
          refine inBlock_ret ?_
          refine then_ret ?_
          obtain rfl := Option.some.inj H0
          exact ret1 hI rfl rfl ⟨rfl, hE.below hI⟩
        · replace H1 := bif_f hc_24 H1
          refine wpIn_skip ?_
          refine inBlock_normal ?_
          refine then_normal ?_
          refine region_ (live := [5, 51, 38, 33, 4, 3, 2, 0, 1]) (orc := []) hF hI ⟨[⟨5, [], .v (.int .i64 (IntKind.i64.wrap (s1.1 + 1)))⟩, ⟨51, [], .v (.bool ((rd x0.Data s1.1) != (rd x1.Data s1.1)))⟩, ⟨38, [], .v (.bool (decide (s1.1 < (x0.Data.length : Int))))⟩, ⟨33, [], .v (.bool ((((x0.Code != x1.Code) || (!(x0.Valid == x1.Valid))) || (x0.Count != x1.Count)) || ((x0.Data.length : Int) != (x1.Data.length : Int))))⟩, ⟨4, [], .v (.bool s1.2)⟩, ⟨3, [], .p 1 0⟩, ⟨2, [], .p 0 0⟩, ⟨0, [], .v (.agg ((kd_Answer).cells x0 sv0).toArray)⟩, ⟨1, [], .v (.agg ((kd_Answer).cells x1 sv1).toArray)⟩], [], [], [((((kd_Answer).cells x0 sv0).map EV.v), 40), ((((kd_Answer).cells x1 sv1).map EV.v), 40)], none, none⟩ [] (by kernel_rfl) trivial (fun ns_27 a w_28 hI _ => ?_)
          refine then_normal ?_
          obtain rfl := Option.some.inj H1
          exact ⟨_, rfl, ⟨_, hI.pick [5, 33, 4, 3, 2, 0, 1] 2 ⟨[⟨5, [], .v (.int .i64 (IntKind.i64.wrap (s1.1 + 1)))⟩, ⟨33, [], .v (.bool ((((x0.Code != x1.Code) || (!(x0.Valid == x1.Valid))) || (x0.Count != x1.Count)) || ((x0.Data.length : Int) != (x1.Data.length : Int))))⟩, ⟨4, [], .v (.bool s1.2)⟩, ⟨3, [], .p 1 0⟩, ⟨2, [], .p 0 0⟩, ⟨0, [], .v (.agg ((kd_Answer).cells x0 sv0).toArray)⟩, ⟨1, [], .v (.agg ((kd_Answer).cells x1 sv1).toArray)⟩], [], [], [((((kd_Answer).cells x0 sv0).map EV.v), 40), ((((kd_Answer).cells x1 sv1).map EV.v), 40)], none, none⟩ (by kernel_rfl)⟩⟩
      · replace H1 := bif_f hc_14 H1
        refine wpIn_exit ?_
        refine then_exit ?_
        refine then_exit ?_
        obtain rfl := Option.some.inj H1
        exact .inl ⟨_, rfl, rfl, ⟨_, hI.pick [5, 33, 4, 3, 2, 0, 1] 2 ⟨[⟨5, [], .v (.int .i64 s1.1)⟩, ⟨33, [], .v (.bool ((((x0.Code != x1.Code) || (!(x0.Valid == x1.Valid))) || (x0.Count != x1.Count)) || ((x0.Data.length : Int) != (x1.Data.length : Int))))⟩, ⟨4, [], .v (.bool s1.2)⟩, ⟨3, [], .p 1 0⟩, ⟨2, [], .p 0 0⟩, ⟨0, [], .v (.agg ((kd_Answer).cells x0 sv0).toArray)⟩, ⟨1, [], .v (.agg ((kd_Answer).cells x1 sv1).toArray)⟩], [], [], [((((kd_Answer).cells x0 sv0).map EV.v), 40), ((((kd_Answer).cells x1 sv1).map EV.v), 40)], none, none⟩ (by kernel_rfl)⟩⟩
    · clear hI
      rintro s1 a w_31 ho ⟨ns_32, hI⟩
      subst ho
      replace H0 : (some true : Option (Bool)) = _ := H0
      refine then_normal ?_
      refine seq_region (live := [4, 5, 33, 3, 2, 0, 1]) (orc := []) hF hI ⟨[⟨4, [], .v (.bool true)⟩, ⟨5, [], .v (.int .i64 s1.1)⟩, ⟨33, [], .v (.bool ((((x0.Code != x1.Code) || (!(x0.Valid == x1.Valid))) || (x0.Count != x1.Count)) || ((x0.Data.length : Int) != (x1.Data.length : Int))))⟩, ⟨3, [], .p 1 0⟩, ⟨2, [], .p 0 0⟩, ⟨0, [], .v (.agg ((kd_Answer).cells x0 sv0).toArray)⟩, ⟨1, [], .v (.agg ((kd_Answer).cells x1 sv1).toArray)⟩], [], [], [((((kd_Answer).cells x0 sv0).map EV.v), 40), ((((kd_Answer).cells x1 sv1).map EV.v), 40)], none, none⟩ [] (by kernel_rfl) trivial (fun ns_33 a w_34 hI _ => ?_)
      refine wpIn_ret ?_
      obtain rfl := Option.some.inj H0
      exact ret1 hI rfl rfl ⟨rfl, hE.below hI⟩

/-! ### porthole/portholeref16.SameCall: function 23 -/
noncomputable def G_ref16_SameCall (x0 : Call) (x1 : Call) : Option (Bool) := ((cal (!(x0.Part != x1.Part)) (G_ref14_SameRequest x0.Req x1.Req) default).bind fun t_3 => ((cal (!((x0.Part != x1.Part) || (!t_3))) (G_ref11_SameAnswer x0.Ans x1.Ans) default).bind fun t_5 => (bif ((((x0.Part != x1.Part) || (!t_3)) || (!t_5)) || (!(x0.Done == x1.Done))) then some false else some ((((((((((x0.From == x1.From) && (x0.To == x1.To)) && (x0.T0 == x1.T0)) && (x0.T1 == x1.T1)) && (x0.Own0 == x1.Own0)) && (x0.Own1 == x1.Own1)) && (x0.Mark == x1.Mark)) && (x0.Ring == x1.Ring)) && (x0.Stamp == x1.Stamp)) && (x0.Saw == x1.Saw)))))
set_option maxRecDepth 100000 in
set_option maxHeartbeats 4000000 in
theorem G_ref16_SameCall.calls (x0 : Call) (x1 : Call) (sv0 : SV) (sv1 : SV) (w : World) {S : Nat → Prop} (hx0 : (kd_Call).cont S w x0 sv0) (hx1 : (kd_Call).cont S w x1 sv1) (r : Bool) (h : G_ref16_SameCall x0 x1 = some r) :
    Calls Try.prog 23 #[.agg ((kd_Call).cells x0 sv0).toArray, .agg ((kd_Call).cells x1 sv1).toArray] w fun e w' => e = .returned (.bool r) ∧ Below w.heap.size w w' := by
  replace hx0 := Kd.lo _ hx0
  replace hx1 := Kd.lo _ hx1
  unfold G_ref16_SameCall at h
  have H0 := h
  clear h
  refine enter Try.func23 rfl [.agg ((kd_Call).cells x0 sv0).toArray, .agg ((kd_Call).cells x1 sv1).toArray] (n := 101) rfl (Nat.le_of_ble_eq_true rfl) (fun a hI => ?_)
  have hF : FOpen Fence.wide := .inl rfl
  have hE := Ep.start w
  refine seq_region (live := [4, 3, 2, 0, 1]) (orc := []) hF hI ⟨[⟨4, [], .v (.bool false)⟩, ⟨3, [], .p 1 0⟩, ⟨2, [], .p 0 0⟩, ⟨0, [], .v (.agg ((kd_Call).cells x0 sv0).toArray)⟩, ⟨1, [], .v (.agg ((kd_Call).cells x1 sv1).toArray)⟩], [], [], [((((kd_Call).cells x0 sv0).map EV.v), 42), ((((kd_Call).cells x1 sv1).map EV.v), 42)], none, none⟩ [] (by kernel_rfl) trivial (fun ns_1 a w_2 hI _ => ?_)
  refine wpIn_seq ?_
  obtain ⟨t_3, hG_4, H0⟩ := bind_some H0
  obtain ⟨t_5, hG_6, H0⟩ := bind_some H0
  refine seq_region (live := [32, 4, 3, 2, 0, 1]) (orc := [[.bool t_3], [.bool t_5]]) hF hI ⟨[⟨32, [], .v (.bool ((((x0.Part != x1.Part) || (!t_3)) || (!t_5)) || (!(x0.Done == x1.Done))))⟩, ⟨4, [], .v (.bool false)⟩, ⟨3, [], .p 1 0⟩, ⟨2, [], .p 0 0⟩, ⟨0, [], .v (.agg ((kd_Call).cells x0 sv0).toArray)⟩, ⟨1, [], .v (.agg ((kd_Call).cells x1 sv1).toArray)⟩], [], [], [((((kd_Call).cells x0 sv0).map EV.v), 42), ((((kd_Call).cells x1 sv1).map EV.v), 42)], none, none⟩ [.call (!(x0.Part != x1.Part)) 43 [.agg ((kd_Request).cells x0.Req (svL [((sv0 0).1, (sv0 0).2)])).toArray, .agg ((kd_Request).cells x1.Req (svL [((sv1 0).1, (sv1 0).2)])).toArray] (.bool t_3), .call (!((x0.Part != x1.Part) || (!t_3))) 44 [.agg ((kd_Answer).cells x0.Ans (svL [((sv0 1).1, (sv0 1).2)])).toArray, .agg ((kd_Answer).cells x1.Ans (svL [((sv1 1).1, (sv1 1).2)])).toArray] (.bool t_5)] (by kernel_rfl) ⟨ob_call (enters Try.func43 (by kernel_rfl) rfl) (fun hg wz hk => G_ref14_SameRequest.calls x0.Req x1.Req (svL [((sv0 0).1, (sv0 0).2)]) (svL [((sv1 0).1, (sv1 0).2)]) wz (S := fun _ => True) (Kd.any _ (Kd.keep kd_Request (contI (S := Lo S w w [] []) (w := w) (d := kd_Request) (x := x0.Req) (sv := (svL [((sv0 0).1, (sv0 0).2)])) ⟨⟨hx0.1.1, hx0.1.2⟩, trivial⟩) (Lo.on hk))) (Kd.any _ (Kd.keep kd_Request (contI (S := Lo S w w [] []) (w := w) (d := kd_Request) (x := x1.Req) (sv := (svL [((sv1 0).1, (sv1 0).2)])) ⟨⟨hx1.1.1, hx1.1.2⟩, trivial⟩) (Lo.on hk))) _ (cal_some hG_4 hg)), ob_call (enters Try.func44 (by kernel_rfl) rfl) (fun hg wz hk => G_ref11_SameAnswer.calls x0.Ans x1.Ans (svL [((sv0 1).1, (sv0 1).2)]) (svL [((sv1 1).1, (sv1 1).2)]) wz (S := fun _ => True) (Kd.any _ (Kd.keep kd_Answer (contI (S := Lo S w w [] []) (w := w) (d := kd_Answer) (x := x0.Ans) (sv := (svL [((sv0 1).1, (sv0 1).2)])) ⟨⟨hx0.2.1.1, hx0.2.1.2⟩, trivial⟩) (Lo.on hk))) (Kd.any _ (Kd.keep kd_Answer (contI (S := Lo S w w [] []) (w := w) (d := kd_Answer) (x := x1.Ans) (sv := (svL [((sv1 1).1, (sv1 1).2)])) ⟨⟨hx1.2.1.1, hx1.2.1.2⟩, trivial⟩) (Lo.on hk))) _ (cal_some hG_6 hg)), trivial⟩ (fun ns_7 a w_8 hI _ => ?_)
  refine cond_ hI (((((x0.Part != x1.Part) || (!t_3)) || (!t_5)) || (!(x0.Done == x1.Done)))) rfl (fun hc_9 => ?_) (fun hc_9 => ?_)
  · replace H0 := bif_t hc_9 H0
    refine seq_region (live := [4, 32, 3, 2, 0, 1]) (orc := []) hF hI ⟨[⟨4, [], .v (.bool false)⟩, ⟨32, [], .v (.bool ((((x0.Part != x1.Part) || (!t_3)) || (!t_5)) || (!(x0.Done == x1.Done))))⟩, ⟨3, [], .p 1 0⟩, ⟨2, [], .p 0 0⟩, ⟨0, [], .v (.agg ((kd_Call).cells x0 sv0).toArray)⟩, ⟨1, [], .v (.agg ((kd_Call).cells x1 sv1).toArray)⟩], [], [], [((((kd_Call).cells x0 sv0).map EV.v), 42), ((((kd_Call).cells x1 sv1).map EV.v), 42)], none, none⟩ [] (by kernel_rfl) trivial (fun ns_10 a w_11 hI _ => ?_)
    refine wpIn_ret ?_
    refine then_ret ?_
    obtain rfl := Option.some.inj H0
    exact ret1 hI rfl rfl ⟨rfl, hE.below hI⟩
  · replace H0 := bif_f hc_9 H0
    refine wpIn_skip ?_
    refine then_normal ?_
    refine seq_region (live := [4, 32, 3, 2, 0, 1]) (orc := []) hF hI ⟨[⟨4, [], .v (.bool ((((((((((x0.From == x1.From) && (x0.To == x1.To)) && (x0.T0 == x1.T0)) && (x0.T1 == x1.T1)) && (x0.Own0 == x1.Own0)) && (x0.Own1 == x1.Own1)) && (x0.Mark == x1.Mark)) && (x0.Ring == x1.Ring)) && (x0.Stamp == x1.Stamp)) && (x0.Saw == x1.Saw)))⟩, ⟨32, [], .v (.bool ((((x0.Part != x1.Part) || (!t_3)) || (!t_5)) || (!(x0.Done == x1.Done))))⟩, ⟨3, [], .p 1 0⟩, ⟨2, [], .p 0 0⟩, ⟨0, [], .v (.agg ((kd_Call).cells x0 sv0).toArray)⟩, ⟨1, [], .v (.agg ((kd_Call).cells x1 sv1).toArray)⟩], [], [], [((((kd_Call).cells x0 sv0).map EV.v), 42), ((((kd_Call).cells x1 sv1).map EV.v), 42)], none, none⟩ [] (by kernel_rfl) trivial (fun ns_12 a w_13 hI _ => ?_)
    refine wpIn_ret ?_
    obtain rfl := Option.some.inj H0
    exact ret1 hI rfl rfl ⟨rfl, hE.below hI⟩

/-! ### porthole/portholeref17.Of: function 24 -/
noncomputable def G_ref17_Of.b1 (l0 : (List Call)) (a1 : Int) (s1 : Int × (List Int)) : Option (Stp (Int × (List Int)) (Ex (Int × (List Int)) ((List Int)))) := (bif decide (s1.1 < (l0.length : Int)) then (req (inb s1.1 l0.length) (bif (((rd l0 s1.1).Part) == a1) then (req (decide ((s1.2.length + 1) * 8 ≤ 140737488355328)) (some (.next ((IntKind.i64.wrap (s1.1 + 1)), (s1.2 ++ [s1.1]))))) else some (.next ((IntKind.i64.wrap (s1.1 + 1)), s1.2)))) else some (.out (.brk (s1.1, s1.2))))
noncomputable def G_ref17_Of (l0 : (List Call)) (a1 : Int) : Option ((List Int)) := ((loopω (G_ref17_Of.b1 l0 a1) (0, ([] : List Int))).bind fun o => o.on (fun s1 => some s1.2) (fun r => some r))
set_option maxRecDepth 100000 in
set_option maxHeartbeats 4000000 in
theorem G_ref17_Of.calls (l0 : (List Call)) (a1 : Int) (A0 : Option Addr) (c0 : Nat) (w : World) {S : Nat → Prop} (hr0 : Arr kd_Call S w A0 l0) (hc0 : l0.length ≤ c0) (r : (List Int)) (h : G_ref17_Of l0 a1 = some r) :
    Calls Try.prog 24 #[.slice A0 l0.length c0, .int .i64 a1] w fun e w' => ∃ sv : SV, e = .returned (.slice ((sv 0).1) r.length ((sv 0).2)) ∧ Below w.heap.size w w' ∧ (Arr (Kd.int .i64) (fun b => w.heap.size ≤ b ∨ S b) w' (sv 0).1 r ∧ r.length ≤ (sv 0).2) := by
  replace hr0 := Arr.lo hr0
  unfold G_ref17_Of at h
  have H0 := h
  clear h
  refine enter Try.func24 rfl [.slice A0 l0.length c0, .int .i64 a1] (n := 25) rfl (Nat.le_of_ble_eq_true rfl) (fun a hI => ?_)
  have hF : FOpen Fence.wide := .inl rfl
  have hE := Ep.start w
  refine seq_region (live := [4, 0, 1]) (orc := []) hF hI ⟨[⟨4, [], .v (.slice none 0 0)⟩, ⟨0, [], .v (.slice A0 l0.length c0)⟩, ⟨1, [], .v (.int .i64 a1)⟩], [], [], [], none, none⟩ [] (by kernel_rfl) trivial (fun ns_1 a w_2 hI _ => ?_)
  refine seq_region (live := [5, 4, 0, 1]) (orc := []) hF hI ⟨[⟨5, [], .v (.slice none 0 0)⟩, ⟨4, [], .v (.slice none 0 0)⟩, ⟨0, [], .v (.slice A0 l0.length c0)⟩, ⟨1, [], .v (.int .i64 a1)⟩], [], [], [], none, none⟩ [] (by kernel_rfl) trivial (fun ns_3 a w_4 hI _ => ?_)
  refine wpIn_seq ?_
  refine seq_region (live := [6, 5, 4, 0, 1]) (orc := []) hF hI ⟨[⟨6, [], .v (.int .i64 0)⟩, ⟨5, [], .v (.slice none 0 0)⟩, ⟨4, [], .v (.slice none 0 0)⟩, ⟨0, [], .v (.slice A0 l0.length c0)⟩, ⟨1, [], .v (.int .i64 a1)⟩], [], [], [], none, none⟩ [] (by kernel_rfl) trivial (fun ns_5 a w_6 hI _ => ?_)
  obtain ⟨hE', hmv, hmr⟩ := Ep.rebase (S0 := S) hE hI
  replace hr0 := Arr.keep hr0 hmv
  replace hE := hE'
  replace hI := hI.rebase
  clear hE' hmv hmr
  obtain ⟨hE', hmv⟩ := Ep.addNil (S0 := S) hE
  have hmr : ∀ b : Nat, some b ∈ ([] : List (Option Nat)) → w_6.heap[b]? = w_6.heap[b]? := fun _ _ => rfl
  replace hr0 := Arr.keep hr0 hmv
  replace hE := hE'
  clear hE' hmv hmr
  have hq_7 : Row (Kd.int .i64) 3 (Lo S w w_6 ns_5 [rb none]) w_6 w.heap.size none 0 ([] : List Int) := Row.nil
  obtain ⟨o_41, hL_42, H0⟩ := bind_some H0
  refine block_loop (fun s1 a w_49 => ∃ (ow ns : List Nat) (A_8 : Option Addr) (c_9 : Nat), (Arr kd_Call (Lo S w w_49 ow [rb A_8]) w_49 A0 l0) ∧ (Row (Kd.int .i64) 3 (Lo S w w_49 ow [rb A_8]) w_49 w.heap.size A_8 c_9 s1.2) ∧ Ep w w_49 ow [rb A_8] ∧ St w_49 ow 25 ⟨[⟨6, [], .v (.int .i64 s1.1)⟩, ⟨5, [], .v (.slice A_8 s1.2.length c_9)⟩, ⟨4, [], .v (.slice none 0 0)⟩, ⟨0, [], .v (.slice A0 l0.length c0)⟩, ⟨1, [], .v (.int .i64 a1)⟩], [], [], [], none, none⟩ ns a w_49) (0, ([] : List Int)) hL_42 ⟨_, _, _, _, hr0, hq_7, hE, hI.pick [6, 5, 4, 0, 1] 0 ⟨[⟨6, [], .v (.int .i64 0)⟩, ⟨5, [], .v (.slice none ([] : List Int).length 0)⟩, ⟨4, [], .v (.slice none 0 0)⟩, ⟨0, [], .v (.slice A0 l0.length c0)⟩, ⟨1, [], .v (.int .i64 a1)⟩], [], [], [], none, none⟩ (by kernel_rfl)⟩ ?_ ?_
  · clear hI hE
    rintro s1 a w_10 ⟨ow_12, ns_11, A_8, c_9, hr0, hq_7, hE, hI⟩ r1 H1
    unfold G_ref17_Of.b1 at H1
    refine wpIn_seq ?_
    refine seq_region (live := [10, 6, 5, 4, 0, 1]) (orc := []) hF hI ⟨[⟨10, [], .v (.bool (decide (s1.1 < (l0.length : Int))))⟩, ⟨6, [], .v (.int .i64 s1.1)⟩, ⟨5, [], .v (.slice A_8 s1.2.length c_9)⟩, ⟨4, [], .v (.slice none 0 0)⟩, ⟨0, [], .v (.slice A0 l0.length c0)⟩, ⟨1, [], .v (.int .i64 a1)⟩], [], [], [], none, none⟩ [] (by kernel_rfl) trivial (fun ns_13 a w_14 hI _ => ?_)
    refine cond_ hI (decide (s1.1 < (l0.length : Int))) rfl (fun hc_15 => ?_) (fun hc_15 => ?_)
    · replace H1 := bif_t hc_15 H1
      refine wpIn_skip ?_
      refine then_normal ?_
      refine wpIn_seq ?_
      refine wpIn_block ?_
      obtain ⟨hN_16, H1⟩ := req_some H1
      obtain ⟨sv_17, hE_19, hA_18⟩ := Arr.elB (d := kd_Call) hr0 s1.1 true (fun _ => hN_16)
      replace hE_19 := hE_19 rfl
      replace hA_18 := fun (_ : true = true) => hA_18 rfl
      refine seq_region (live := [19, 10, 6, 5, 4, 0, 1]) (orc := [[.int .i64 ((rd l0 s1.1).Part)]]) hF hI ⟨[⟨19, [], .v (.bool (((rd l0 s1.1).Part) == a1))⟩, ⟨10, [], .v (.bool (decide (s1.1 < (l0.length : Int))))⟩, ⟨6, [], .v (.int .i64 s1.1)⟩, ⟨5, [], .v (.slice A_8 s1.2.length c_9)⟩, ⟨4, [], .v (.slice none 0 0)⟩, ⟨0, [], .v (.slice A0 l0.length c0)⟩, ⟨1, [], .v (.int .i64 a1)⟩], [], [], [], none, none⟩ [.need true (0 ≤ s1.1 ∧ s1.1 < (l0.length : Int)), .need true (A0 = some (adr A0)), .cell true ((adr A0).add ((s1.1 : Int).toNat * 20)) [.int .i64 ((rd l0 s1.1).Part)]] (by kernel_rfl) ⟨ob_inb (fun _ => hN_16), hA_18, ob_el (fun _ => hE_19) 0 [.int .i64 ((rd l0 s1.1).Part)] rfl, trivial⟩ (fun ns_20 a w_21 hI _ => ?_)
      refine cond_ hI ((((rd l0 s1.1).Part) == a1)) rfl (fun hc_22 => ?_) (fun hc_22 => ?_)
      · replace H1 := bif_t hc_22 H1
        refine wpIn_region_lit ?_
        refine chunkL_ (live := [21, 20, 19, 10, 6, 5, 4, 0, 1]) (orc := []) hF 2 hI ⟨[⟨21, [], .v (.int .i64 s1.1)⟩, ⟨20, [], .v (.slice A_8 s1.2.length c_9)⟩, ⟨19, [], .v (.bool (((rd l0 s1.1).Part) == a1))⟩, ⟨10, [], .v (.bool (decide (s1.1 < (l0.length : Int))))⟩, ⟨6, [], .v (.int .i64 s1.1)⟩, ⟨5, [], .v (.slice A_8 s1.2.length c_9)⟩, ⟨4, [], .v (.slice none 0 0)⟩, ⟨0, [], .v (.slice A0 l0.length c0)⟩, ⟨1, [], .v (.int .i64 a1)⟩], [], [], [], none, none⟩ [] rfl (by kernel_rfl) trivial (fun ns_23 a w_24 hI => ?_)
        obtain ⟨hE', hmv, hmr⟩ := Ep.rebase (S0 := S) hE hI
        replace hr0 := Arr.keep hr0 hmv
        replace hq_7 := Row.keep hq_7 hmv (fun b hb => hmr b (by rw [← hb]; first | (simp; done) | simp [rb]))
        replace hE_19 := El.keep hE_19 hmv
        replace hE := hE'
        replace hI := hI.rebase
        clear hE' hmv hmr
        refine buildSlice_ (S0 := S) (d := (Kd.int .i64)) (e := 3) hF hE hI (wanted_none rfl) rfl (by kernel_rfl) (cs := [.int .i64 s1.1]) (by kernel_rfl) [s1.1] [(svL [])] rfl rfl (by simp [maxLen]) (fun i x hi => by cases i with | zero => (simp only [List.getElem?_cons_zero, Option.some.injEq] at hi; subst hi; exact ⟨trivial, rfl⟩) | succ i => (simp only [List.getElem?_cons_succ] at hi; simp at hi)) (fun A_25 => ⟨[⟨22, [], .v (.slice A_25 ([s1.1] : List Int).length (([s1.1] : List Int).length))⟩, ⟨21, [], .v (.int .i64 s1.1)⟩, ⟨20, [], .v (.slice A_8 s1.2.length c_9)⟩, ⟨19, [], .v (.bool (((rd l0 s1.1).Part) == a1))⟩, ⟨10, [], .v (.bool (decide (s1.1 < (l0.length : Int))))⟩, ⟨6, [], .v (.int .i64 s1.1)⟩, ⟨5, [], .v (.slice A_8 s1.2.length c_9)⟩, ⟨4, [], .v (.slice none 0 0)⟩, ⟨0, [], .v (.slice A0 l0.length c0)⟩, ⟨1, [], .v (.int .i64 a1)⟩], [], [], [], none, none⟩) (fun A_25 => by kernel_rfl) (fun A_25 a w_27 hput hE' hI' hmv hmr hq_26 => ?_)
        replace hr0 := Arr.keep hr0 hmv
        replace hq_7 := Row.keep hq_7 hmv (fun b hb => hmr b (by rw [← hb]; first | (simp; done) | simp [rb]) (by simp))
        replace hE_19 := El.keep hE_19 hmv
        replace hE := hE'
        replace hI := hI'
        clear hE' hI' hmv hmr
        refine chunkL_ (live := [22, 20, 19, 10, 6, 5, 4, 0, 1]) (orc := []) hF 0 hI ⟨[⟨22, [], .v (.slice A_25 ([s1.1] : List Int).length (([s1.1] : List Int).length))⟩, ⟨20, [], .v (.slice A_8 s1.2.length c_9)⟩, ⟨19, [], .v (.bool (((rd l0 s1.1).Part) == a1))⟩, ⟨10, [], .v (.bool (decide (s1.1 < (l0.length : Int))))⟩, ⟨6, [], .v (.int .i64 s1.1)⟩, ⟨5, [], .v (.slice A_8 s1.2.length c_9)⟩, ⟨4, [], .v (.slice none 0 0)⟩, ⟨0, [], .v (.slice A0 l0.length c0)⟩, ⟨1, [], .v (.int .i64 a1)⟩], [], [], [], none, none⟩ [] rfl (by kernel_rfl) trivial (fun ns_28 a w_29 hI => ?_)
        obtain ⟨hE', hmv, hmr⟩ := Ep.rebase (S0 := S) hE hI
        replace hr0 := Arr.keep hr0 hmv
        replace hq_7 := Row.keep hq_7 hmv (fun b hb => hmr b (by rw [← hb]; first | (simp; done) | simp [rb]))
        replace hE_19 := El.keep hE_19 hmv
        replace hq_26 := Row.keep hq_26 hmv (fun b hb => hmr b (by rw [← hb]; first | (simp; done) | simp [rb]))
        replace hE := hE'
        replace hI := hI.rebase
        clear hE' hmv hmr
        obtain ⟨hE', hmv, hq_26, hcap_30⟩ := Row.still (l1 := [rb A_8]) (l2 := []) hq_26 hE
        have hmr : ∀ b : Nat, some b ∈ ([rb A_8, rb A_25] : List (Option Nat)) → w_29.heap[b]? = w_29.heap[b]? := fun _ _ => rfl
        replace hr0 := Arr.keep hr0 hmv
        replace hq_7 := Row.keep hq_7 hmv (fun b hb => hmr b (by rw [← hb]; first | (simp; done) | simp [rb]))
        replace hE_19 := El.keep hE_19 hmv
        replace hE := hE'
        clear hE' hmv hmr
        obtain ⟨hN_31, H1⟩ := req_some H1
        replace hN_31 := of_decide_eq_true hN_31
        refine append_ (S0 := S) (l1 := []) (l2 := []) (d := (Kd.int .i64)) (e := 3) hF hE hI (wanted_none rfl) rfl (A := A_8) (c := c_9) (l := s1.2) rfl (A2 := A_25) (c2 := (([s1.1] : List Int).length)) rfl hq_7 hq_26 (fun sv u hu => by exact kd_one_int _ sv u hu) Try.underlying45 (zi := (.int .i64 0, 1, 8)) (by kernel_rfl) rfl (by kernel_rfl) (len_max (by decide) hN_31) hN_31 (fun A_32 c_33 => ⟨[⟨23, [], .v (.slice A_32 (s1.2 ++ [s1.1]).length c_33)⟩, ⟨22, [], .v (.slice A_25 ([s1.1] : List Int).length (([s1.1] : List Int).length))⟩, ⟨20, [], .v (.slice A_8 s1.2.length c_9)⟩, ⟨19, [], .v (.bool (((rd l0 s1.1).Part) == a1))⟩, ⟨10, [], .v (.bool (decide (s1.1 < (l0.length : Int))))⟩, ⟨6, [], .v (.int .i64 s1.1)⟩, ⟨5, [], .v (.slice A_8 s1.2.length c_9)⟩, ⟨4, [], .v (.slice none 0 0)⟩, ⟨0, [], .v (.slice A0 l0.length c0)⟩, ⟨1, [], .v (.int .i64 a1)⟩], [], [], [], none, none⟩) (fun A_32 c_33 => by kernel_rfl) (fun A_32 c_33 a w_34 hput hE' hI' hmv hmr hq_7 => ?_)
        replace hr0 := Arr.keep hr0 hmv
        replace hE_19 := El.keep hE_19 hmv
        replace hq_26 := Arr.keep hq_26 hmv
        replace hE := hE'
        replace hI := hI'
        clear hE' hI' hmv hmr
        refine chunkL_ (live := [5, 19, 10, 6, 4, 0, 1]) (orc := []) hF 1 hI ⟨[⟨5, [], .v (.slice A_32 (s1.2 ++ [s1.1]).length c_33)⟩, ⟨19, [], .v (.bool (((rd l0 s1.1).Part) == a1))⟩, ⟨10, [], .v (.bool (decide (s1.1 < (l0.length : Int))))⟩, ⟨6, [], .v (.int .i64 s1.1)⟩, ⟨4, [], .v (.slice none 0 0)⟩, ⟨0, [], .v (.slice A0 l0.length c0)⟩, ⟨1, [], .v (.int .i64 a1)⟩], [], [], [], none, none⟩ [] rfl (by kernel_rfl) trivial (fun ns_35 a w_36 hI => ?_)
        refine wpListIn_nil ?_
        refine inBlock_normal ?_
        refine then_normal ?_
        refine region_ (live := [6, 5, 19, 10, 4, 0, 1]) (orc := []) hF hI ⟨[⟨6, [], .v (.int .i64 (IntKind.i64.wrap (s1.1 + 1)))⟩, ⟨5, [], .v (.slice A_32 (s1.2 ++ [s1.1]).length c_33)⟩, ⟨19, [], .v (.bool (((rd l0 s1.1).Part) == a1))⟩, ⟨10, [], .v (.bool (decide (s1.1 < (l0.length : Int))))⟩, ⟨4, [], .v (.slice none 0 0)⟩, ⟨0, [], .v (.slice A0 l0.length c0)⟩, ⟨1, [], .v (.int .i64 a1)⟩], [], [], [], none, none⟩ [] (by kernel_rfl) trivial (fun ns_37 a w_38 hI _ => ?_)
        refine then_normal ?_
        obtain ⟨hE', hmv, hmr⟩ := Ep.rebase (S0 := S) hE hI
        replace hr0 := Arr.keep hr0 hmv
        replace hE_19 := El.keep hE_19 hmv
        replace hq_26 := Arr.keep hq_26 hmv
        replace hq_7 := Row.keep hq_7 hmv (fun b hb => hmr b (by rw [← hb]; first | (simp; done) | simp [rb]))
        replace hE := hE'
        replace hI := hI.rebase
        clear hE' hmv hmr
        obtain rfl := Option.some.inj H1
        exact ⟨_, rfl, ⟨_, _, _, _, hr0, hq_7, hE, hI.pick [6, 5, 4, 0, 1] 0 ⟨[⟨6, [], .v (.int .i64 (IntKind.i64.wrap (s1.1 + 1)))⟩, ⟨5, [], .v (.slice A_32 (s1.2 ++ [s1.1]).length c_33)⟩, ⟨4, [], .v (.slice none 0 0)⟩, ⟨0, [], .v (.slice A0 l0.length c0)⟩, ⟨1, [], .v (.int .i64 a1)⟩], [], [], [], none, none⟩ (by kernel_rfl)⟩⟩
      · replace H1 := bif_f hc_22 H1
        refine wpIn_skip ?_
        refine inBlock_normal ?_
        refine then_normal ?_
        refine region_ (live := [6, 19, 10, 5, 4, 0, 1]) (orc := []) hF hI ⟨[⟨6, [], .v (.int .i64 (IntKind.i64.wrap (s1.1 + 1)))⟩, ⟨19, [], .v (.bool (((rd l0 s1.1).Part) == a1))⟩, ⟨10, [], .v (.bool (decide (s1.1 < (l0.length : Int))))⟩, ⟨5, [], .v (.slice A_8 s1.2.length c_9)⟩, ⟨4, [], .v (.slice none 0 0)⟩, ⟨0, [], .v (.slice A0 l0.length c0)⟩, ⟨1, [], .v (.int .i64 a1)⟩], [], [], [], none, none⟩ [] (by kernel_rfl) trivial (fun ns_39 a w_40 hI _ => ?_)
        refine then_normal ?_
        obtain ⟨hE', hmv, hmr⟩ := Ep.rebase (S0 := S) hE hI
        replace hr0 := Arr.keep hr0 hmv
        replace hq_7 := Row.keep hq_7 hmv (fun b hb => hmr b (by rw [← hb]; first | (simp; done) | simp [rb]))
        replace hE_19 := El.keep hE_19 hmv
        replace hE := hE'
        replace hI := hI.rebase
        clear hE' hmv hmr
        obtain rfl := Option.some.inj H1
        exact ⟨_, rfl, ⟨_, _, _, _, hr0, hq_7, hE, hI.pick [6, 5, 4, 0, 1] 0 ⟨[⟨6, [], .v (.int .i64 (IntKind.i64.wrap (s1.1 + 1)))⟩, ⟨5, [], .v (.slice A_8 s1.2.length c_9)⟩, ⟨4, [], .v (.slice none 0 0)⟩, ⟨0, [], .v (.slice A0 l0.length c0)⟩, ⟨1, [], .v (.int .i64 a1)⟩], [], [], [], none, none⟩ (by kernel_rfl)⟩⟩
    · replace H1 := bif_f hc_15 H1
      refine wpIn_exit ?_
      refine then_exit ?_
      refine then_exit ?_
      obtain ⟨hE', hmv, hmr⟩ := Ep.rebase (S0 := S) hE hI
      replace hr0 := Arr.keep hr0 hmv
      replace hq_7 := Row.keep hq_7 hmv (fun b hb => hmr b (by rw [← hb]; first | (simp; done) | simp [rb]))
      replace hE := hE'
      replace hI := hI.rebase
      clear hE' hmv hmr
      obtain rfl := Option.some.inj H1
      exact .inl ⟨_, rfl, rfl, ⟨_, _, _, _, hr0, hq_7, hE, hI.pick [6, 5, 4, 0, 1] 0 ⟨[⟨6, [], .v (.int .i64 s1.1)⟩, ⟨5, [], .v (.slice A_8 s1.2.length c_9)⟩, ⟨4, [], .v (.slice none 0 0)⟩, ⟨0, [], .v (.slice A0 l0.length c0)⟩, ⟨1, [], .v (.int .i64 a1)⟩], [], [], [], none, none⟩ (by kernel_rfl)⟩⟩
  · clear hI hE
    rintro s1 a w_43 ho ⟨ow_45, ns_44, A_8, c_9, hr0, hq_7, hE, hI⟩
    subst ho
    replace H0 : (some s1.2 : Option ((List Int))) = _ := H0
    refine then_normal ?_
    refine seq_region (live := [4, 6, 5, 0, 1]) (orc := []) hF hI ⟨[⟨4, [], .v (.slice A_8 s1.2.length c_9)⟩, ⟨6, [], .v (.int .i64 s1.1)⟩, ⟨5, [], .v (.slice A_8 s1.2.length c_9)⟩, ⟨0, [], .v (.slice A0 l0.length c0)⟩, ⟨1, [], .v (.int .i64 a1)⟩], [], [], [], none, none⟩ [] (by kernel_rfl) trivial (fun ns_46 a w_47 hI _ => ?_)
    obtain ⟨hE', hmv, hmr⟩ := Ep.rebase (S0 := S) hE hI
    replace hr0 := Arr.keep hr0 hmv
    replace hq_7 := Row.keep hq_7 hmv (fun b hb => hmr b (by rw [← hb]; first | (simp; done) | simp [rb]))
    replace hE := hE'
    replace hI := hI.rebase
    clear hE' hmv hmr
    obtain ⟨hE', hmv, hq_7, hcap_48⟩ := Row.still (l1 := []) (l2 := []) hq_7 hE
    have hmr : ∀ b : Nat, some b ∈ ([rb A_8] : List (Option Nat)) → w_47.heap[b]? = w_47.heap[b]? := fun _ _ => rfl
    replace hr0 := Arr.keep hr0 hmv
    replace hE := hE'
    clear hE' hmv hmr
    refine wpIn_ret ?_
    obtain rfl := Option.some.inj H0
    exact ret1 hI rfl rfl ⟨svL [(A_8, c_9)], rfl, hE.below hI, ⟨Arr.keep hq_7 (hE.out hI), hcap_48⟩⟩

/-! ### porthole/portholeref01.Same: function 25 -/
noncomputable def G_ref01_Same.b1 (l0 : (List Int)) (l1 : (List Int)) (s1 : Int × Bool) : Option (Stp (Int × Bool) (Ex (Int × Bool) (Bool))) := (bif decide (s1.1 < (l0.length : Int)) then (req (inb s1.1 l0.length) (req (inb s1.1 l1.length) (bif ((rd l0 s1.1) != (rd l1 s1.1)) then some (.out (.ret false)) else some (.next ((IntKind.i64.wrap (s1.1 + 1)), s1.2))))) else some (.out (.brk (s1.1, s1.2))))
noncomputable def G_ref01_Same (l0 : (List Int)) (l1 : (List Int)) : Option (Bool) := (bif ((l0.length : Int) != (l1.length : Int)) then some false else ((loopω (G_ref01_Same.b1 l0 l1) (0, false)).bind fun o => o.on (fun s1 => some true) (fun r => some r)))
set_option maxRecDepth 100000 in
set_option maxHeartbeats 4000000 in
theorem G_ref01_Same.calls (l0 : (List Int)) (l1 : (List Int)) (A0 : Option Addr) (c0 : Nat) (A1 : Option Addr) (c1 : Nat) (w : World) {S : Nat → Prop} (hr0 : Arr (Kd.int .i64) S w A0 l0) (hc0 : l0.length ≤ c0) (hr1 : Arr (Kd.int .i64) S w A1 l1) (hc1 : l1.length ≤ c1) (r : Bool) (h : G_ref01_Same l0 l1 = some r) :
    Calls Try.prog 25 #[.slice A0 l0.length c0, .slice A1 l1.length c1] w fun e w' => e = .returned (.bool r) ∧ Below w.heap.size w w' := by
  replace hr0 := Arr.lo hr0
  replace hr1 := Arr.lo hr1
  unfold G_ref01_Same at h
  have H0 := h
  clear h
  refine enter Try.func25 rfl [.slice A0 l0.length c0, .slice A1 l1.length c1] (n := 26) rfl (Nat.le_of_ble_eq_true rfl) (fun a hI => ?_)
  have hF : FOpen Fence.wide := .inl rfl
  have hE := Ep.start w
  refine seq_region (live := [4, 0, 1]) (orc := []) hF hI ⟨[⟨4, [], .v (.bool false)⟩, ⟨0, [], .v (.slice A0 l0.length c0)⟩, ⟨1, [], .v (.slice A1 l1.length c1)⟩], [], [], [], none, none⟩ [] (by kernel_rfl) trivial (fun ns_1 a w_2 hI _ => ?_)
  refine wpIn_seq ?_
  refine seq_region (live := [10, 4, 0, 1]) (orc := []) hF hI ⟨[⟨10, [], .v (.bool ((l0.length : Int) != (l1.length : Int)))⟩, ⟨4, [], .v (.bool false)⟩, ⟨0, [], .v (.slice A0 l0.length c0)⟩, ⟨1, [], .v (.slice A1 l1.length c1)⟩], [], [], [], none, none⟩ [] (by kernel_rfl) trivial (fun ns_3 a w_4 hI _ => ?_)
  refine cond_ hI (((l0.length : Int) != (l1.length : Int))) rfl (fun hc_5 => ?_) (fun hc_5 => ?_)
  · replace H0 := bif_t hc_5 H0
    refine seq_region (live := [4, 10, 0, 1]) (orc := []) hF hI ⟨[⟨4, [], .v (.bool false)⟩, ⟨10, [], .v (.bool ((l0.length : Int) != (l1.length : Int)))⟩, ⟨0, [], .v (.slice A0 l0.length c0)⟩, ⟨1, [], .v (.slice A1 l1.length c1)⟩], [], [], [], none, none⟩ [] (by kernel_rfl) trivial (fun ns_6 a w_7 hI _ => ?_)
    refine wpIn_ret ?_
    refine then_ret ?_
    obtain rfl := Option.some.inj H0
    exact ret1 hI rfl rfl ⟨rfl, hE.below hI⟩
  · replace H0 := bif_f hc_5 H0
    refine wpIn_skip ?_
    refine then_normal ?_
    refine wpIn_seq ?_
    refine seq_region (live := [5, 10, 4, 0, 1]) (orc := []) hF hI ⟨[⟨5, [], .v (.int .i64 0)⟩, ⟨10, [], .v (.bool ((l0.length : Int) != (l1.length : Int)))⟩, ⟨4, [], .v (.bool false)⟩, ⟨0, [], .v (.slice A0 l0.length c0)⟩, ⟨1, [], .v (.slice A1 l1.length c1)⟩], [], [], [], none, none⟩ [] (by kernel_rfl) trivial (fun ns_8 a w_9 hI _ => ?_)
    obtain ⟨o_29, hL_30, H0⟩ := bind_some H0
    refine block_loop (fun s1 a w_35 => ∃ ns, St w [] 26 ⟨[⟨5, [], .v (.int .i64 s1.1)⟩, ⟨10, [], .v (.bool ((l0.length : Int) != (l1.length : Int)))⟩, ⟨4, [], .v (.bool s1.2)⟩, ⟨0, [], .v (.slice A0 l0.length c0)⟩, ⟨1, [], .v (.slice A1 l1.length c1)⟩], [], [], [], none, none⟩ ns a w_35) (0, false) hL_30 ⟨_, hI.pick [5, 10, 4, 0, 1] 0 ⟨[⟨5, [], .v (.int .i64 0)⟩, ⟨10, [], .v (.bool ((l0.length : Int) != (l1.length : Int)))⟩, ⟨4, [], .v (.bool false)⟩, ⟨0, [], .v (.slice A0 l0.length c0)⟩, ⟨1, [], .v (.slice A1 l1.length c1)⟩], [], [], [], none, none⟩ (by kernel_rfl)⟩ ?_ ?_
    · clear hI
      rintro s1 a w_10 ⟨ns_11, hI⟩ r1 H1
      unfold G_ref01_Same.b1 at H1
      refine wpIn_seq ?_
      refine seq_region (live := [14, 5, 10, 4, 0, 1]) (orc := []) hF hI ⟨[⟨14, [], .v (.bool (decide (s1.1 < (l0.length : Int))))⟩, ⟨5, [], .v (.int .i64 s1.1)⟩, ⟨10, [], .v (.bool ((l0.length : Int) != (l1.length : Int)))⟩, ⟨4, [], .v (.bool s1.2)⟩, ⟨0, [], .v (.slice A0 l0.length c0)⟩, ⟨1, [], .v (.slice A1 l1.length c1)⟩], [], [], [], none, none⟩ [] (by kernel_rfl) trivial (fun ns_12 a w_13 hI _ => ?_)
      refine cond_ hI (decide (s1.1 < (l0.length : Int))) rfl (fun hc_14 => ?_) (fun hc_14 => ?_)
      · replace H1 := bif_t hc_14 H1
        refine wpIn_skip ?_
        refine then_normal ?_
        refine wpIn_seq ?_
        refine wpIn_block ?_
        refine wpIn_seq ?_
        obtain ⟨hN_15, H1⟩ := req_some H1
        obtain ⟨sv_16, hE_18, hA_17⟩ := Arr.elB (d := (Kd.int .i64)) hr0 s1.1 true (fun _ => hN_15)
        replace hE_18 := hE_18 rfl
        replace hA_17 := fun (_ : true = true) => hA_17 rfl
        obtain ⟨hN_19, H1⟩ := req_some H1
        obtain ⟨sv_20, hE_22, hA_21⟩ := Arr.elB (d := (Kd.int .i64)) hr1 s1.1 true (fun _ => hN_19)
        replace hE_22 := hE_22 rfl
        replace hA_21 := fun (_ : true = true) => hA_21 rfl
        refine drawn_ (live := [25, 14, 5, 10, 4, 0, 1]) (orc := [[.int .i64 (rd l0 s1.1)], [.int .i64 (rd l1 s1.1)]]) hF hI ⟨[⟨25, [], .v (.bool ((rd l0 s1.1) != (rd l1 s1.1)))⟩, ⟨14, [], .v (.bool (decide (s1.1 < (l0.length : Int))))⟩, ⟨5, [], .v (.int .i64 s1.1)⟩, ⟨10, [], .v (.bool ((l0.length : Int) != (l1.length : Int)))⟩, ⟨4, [], .v (.bool s1.2)⟩, ⟨0, [], .v (.slice A0 l0.length c0)⟩, ⟨1, [], .v (.slice A1 l1.length c1)⟩], [], [], [], none, none⟩ [.need true (0 ≤ s1.1 ∧ s1.1 < (l0.length : Int)), .need true (A0 = some (adr A0)), .cell true ((adr A0).add ((s1.1 : Int).toNat * 1)) [.int .i64 (rd l0 s1.1)], .need true (0 ≤ s1.1 ∧ s1.1 < (l1.length : Int)), .need true (A1 = some (adr A1)), .cell true ((adr A1).add ((s1.1 : Int).toNat * 1)) [.int .i64 (rd l1 s1.1)]] (by kernel_rfl) (by kernel_rfl) (by kernel_rfl) ⟨ob_inb (fun _ => hN_15), hA_17, ob_el (fun _ => hE_18) 0 [.int .i64 (rd l0 s1.1)] rfl, ob_inb (fun _ => hN_19), hA_21, ob_el (fun _ => hE_22) 0 [.int .i64 (rd l1 s1.1)] rfl, trivial⟩ (fun a w_23 hI => ?_)
        refine then_normal ?_
        refine cond_ hI (((rd l0 s1.1) != (rd l1 s1.1))) rfl (fun hc_24 => ?_) (fun hc_24 => ?_)
        · replace H1 := bif_t hc_24 H1
          refine seq_region (live := [4, 25, 14, 5, 10, 0, 1]) (orc := []) hF hI ⟨[⟨4, [], .v (.bool false)⟩, ⟨25, [], .v (.bool ((rd l0 s1.1) != (rd l1 s1.1)))⟩, ⟨14, [], .v (.bool (decide (s1.1 < (l0.length : Int))))⟩, ⟨5, [], .v (.int .i64 s1.1)⟩, ⟨10, [], .v (.bool ((l0.length : Int) != (l1.length : Int)))⟩, ⟨0, [], .v (.slice A0 l0.length c0)⟩, ⟨1, [], .v (.slice A1 l1.length c1)⟩], [], [], [], none, none⟩ [] (by kernel_rfl) trivial (fun ns_25 a w_26 hI _ => ?_)
          refine wpIn_ret ?_
          refine inBlock_ret ?_
          refine then_ret ?_
          refine then_ret ?_
          obtain rfl := Option.some.inj H1
          refine .inr ⟨_, rfl, fun ho => ?_⟩
          subst ho
          refine inBlock_ret ?_
          refine then_ret ?_
          obtain rfl := Option.some.inj H0
          exact ret1 hI rfl rfl ⟨rfl, hE.below hI⟩
        · replace H1 := bif_f hc_24 H1
          refine wpIn_skip ?_
          refine inBlock_normal ?_
          refine then_normal ?_
          refine region_ (live := [5, 25, 14, 10, 4, 0, 1]) (orc := []) hF hI ⟨[⟨5, [], .v (.int .i64 (IntKind.i64.wrap (s1.1 + 1)))⟩, ⟨25, [], .v (.bool ((rd l0 s1.1) != (rd l1 s1.1)))⟩, ⟨14, [], .v (.bool (decide (s1.1 < (l0.length : Int))))⟩, ⟨10, [], .v (.bool ((l0.length : Int) != (l1.length : Int)))⟩, ⟨4, [], .v (.bool s1.2)⟩, ⟨0, [], .v (.slice A0 l0.length c0)⟩, ⟨1, [], .v (.slice A1 l1.length c1)⟩], [], [], [], none, none⟩ [] (by kernel_rfl) trivial (fun ns_27 a w_28 hI _ => ?_)
          refine then_normal ?_
          obtain rfl := Option.some.inj H1
          exact ⟨_, rfl, ⟨_, hI.pick [5, 10, 4, 0, 1] 0 ⟨[⟨5, [], .v (.int .i64 (IntKind.i64.wrap (s1.1 + 1)))⟩, ⟨10, [], .v (.bool ((l0.length : Int) != (l1.length : Int)))⟩, ⟨4, [], .v (.bool s1.2)⟩, ⟨0, [], .v (.slice A0 l0.length c0)⟩, ⟨1, [], .v (.slice A1 l1.length c1)⟩], [], [], [], none, none⟩ (by kernel_rfl)⟩⟩
      · replace H1 := bif_f hc_14 H1
        refine wpIn_exit ?_
        refine then_exit ?_
        refine then_exit ?_
        obtain rfl := Option.some.inj H1
        exact .inl ⟨_, rfl, rfl, ⟨_, hI.pick [5, 10, 4, 0, 1] 0 ⟨[⟨5, [], .v (.int .i64 s1.1)⟩, ⟨10, [], .v (.bool ((l0.length : Int) != (l1.length : Int)))⟩, ⟨4, [], .v (.bool s1.2)⟩, ⟨0, [], .v (.slice A0 l0.length c0)⟩, ⟨1, [], .v (.slice A1 l1.length c1)⟩], [], [], [], none, none⟩ (by kernel_rfl)⟩⟩
    · clear hI
      rintro s1 a w_31 ho ⟨ns_32, hI⟩
      subst ho
      replace H0 : (some true : Option (Bool)) = _ := H0
      refine then_normal ?_
      refine seq_region (live := [4, 5, 10, 0, 1]) (orc := []) hF hI ⟨[⟨4, [], .v (.bool true)⟩, ⟨5, [], .v (.int .i64 s1.1)⟩, ⟨10, [], .v (.bool ((l0.length : Int) != (l1.length : Int)))⟩, ⟨0, [], .v (.slice A0 l0.length c0)⟩, ⟨1, [], .v (.slice A1 l1.length c1)⟩], [], [], [], none, none⟩ [] (by kernel_rfl) trivial (fun ns_33 a w_34 hI _ => ?_)
      refine wpIn_ret ?_
      obtain rfl := Option.some.inj H0
      exact ret1 hI rfl rfl ⟨rfl, hE.below hI⟩

/-! ### porthole/portholelaw17.HistOf: function 7 -/
noncomputable def G_law17_HistOf.r1 (l0 : (List Call)) (a1 : Int) (a2 : Int) (t_3 : Bool) (t_19 : ((List Call) × Int)) (s1 : Bool × (List Int)) (y_45 : Int × Call) : Option (Stp (Bool × (List Int)) (Nat × (Bool × (List Int)))) := (bif decide ((s1.2.length : Int) ≥ (IntKind.i64.wrap a2)) then some (.out (0, (s1.1, s1.2))) else (req (imp (!(decide (y_45.1 < 0) || decide (y_45.1 ≥ (l0.length : Int)))) (inb y_45.1 l0.length)) ((cal (!(decide (y_45.1 < 0) || decide (y_45.1 ≥ (l0.length : Int)))) (G_ref16_SameCall y_45.2 (rd l0 y_45.1)) default).bind fun t_63 => (bif ((decide (y_45.1 < 0) || decide (y_45.1 ≥ (l0.length : Int))) || (!t_63)) then some (.out (1, (false, s1.2))) else (req (decide ((s1.2.length + 1) * 8 ≤ 140737488355328)) (some (.next (s1.1, (s1.2 ++ [y_45.1])))))))))
noncomputable def G_law17_HistOf (l0 : (List Call)) (a1 : Int) (a2 : Int) : Option (Bool) := ((G_law17_wakes).bind fun t_3 => (bif (!t_3) then some false else (bif decide ((l0.length : Int) > 60) then some true else ((G_hist_Of l0 a1).bind fun t_19 => ((G_hist_Of_1 (G_law17_HistOf.r1 l0 a1 a2 t_3 t_19) (false, ([] : List Int)) t_19.1 t_19.2).bind fun z => z.on (fun s1 => ((G_ref17_Of l0 a1).bind fun t_86 => (req (inb (mnI (IntKind.i64.wrap a2) (t_86.length : Int)) (t_86.length + 1)) ((G_ref01_Same s1.2 (t_86.take ((mnI (IntKind.i64.wrap a2) (t_86.length : Int)) : Int).toNat)).bind fun t_100 => some t_100)))) (fun r1 => (bif Nat.beq r1.1 0 then ((G_ref17_Of l0 a1).bind fun t_109 => (req (inb (mnI (IntKind.i64.wrap a2) (t_109.length : Int)) (t_109.length + 1)) ((G_ref01_Same r1.2.2 (t_109.take ((mnI (IntKind.i64.wrap a2) (t_109.length : Int)) : Int).toNat)).bind fun t_123 => some t_123))) else some r1.2.1)))))))
set_option maxRecDepth 100000 in
set_option maxHeartbeats 4000000 in
theorem G_law17_HistOf.calls (l0 : (List Call)) (a1 : Int) (a2 : Int) (A0 : Option Addr) (c0 : Nat) (w : World) {S : Nat → Prop} (hr0 : Arr kd_Call S w A0 l0) (hc0 : l0.length ≤ c0) (r : Bool) (h : G_law17_HistOf l0 a1 a2 = some r) :
    Calls Try.prog 7 #[.slice A0 l0.length c0, .int .i64 a1, .int .u8 a2] w fun e w' => e = .returned (.bool r) ∧ Below w.heap.size w w' := by
  replace hr0 := Arr.lo hr0
  unfold G_law17_HistOf at h
  have H0 := h
  clear h
  refine enterM Try.func7 rfl [.slice A0 l0.length c0, .int .i64 a1, .int .u8 a2] (n := 63) rfl (Nat.le_of_ble_eq_true rfl) (fun a hI => ?_)
  have hF : FOpen Fence.wide := .inl rfl
  have hE := Ep.start w
  refine seq_region (live := [6, 5, 3, 0, 1, 2]) (orc := []) hF hI ⟨[⟨6, [], .p 2 0⟩, ⟨5, [], .p 1 0⟩, ⟨3, [], .p 0 0⟩, ⟨0, [], .v (.slice A0 l0.length c0)⟩, ⟨1, [], .v (.int .i64 a1)⟩, ⟨2, [], .v (.int .u8 a2)⟩], [], [], [([.v (.slice A0 l0.length c0)], 26), ([.v (.int .u8 a2)], 5), ([.v (.bool false)], 4)], some (w.heap.size, none), none⟩ [] (by kernel_rfl) trivial (fun ns_1 a w_2 hI _ => ?_)
  refine wpIn_seq ?_
  obtain ⟨t_3, hG_4, H0⟩ := bind_some H0
  refine seq_region (live := [13, 6, 5, 3, 0, 1, 2]) (orc := [[.bool t_3]]) hF hI ⟨[⟨13, [], .v (.bool (!t_3))⟩, ⟨6, [], .p 2 0⟩, ⟨5, [], .p 1 0⟩, ⟨3, [], .p 0 0⟩, ⟨0, [], .v (.slice A0 l0.length c0)⟩, ⟨1, [], .v (.int .i64 a1)⟩, ⟨2, [], .v (.int .u8 a2)⟩], [], [], [([.v (.slice A0 l0.length c0)], 26), ([.v (.int .u8 a2)], 5), ([.v (.bool false)], 4)], some (w.heap.size, none), none⟩ [.call true 18 [] (.bool t_3)] (by kernel_rfl) ⟨ob_call (enters Try.func18 (by kernel_rfl) rfl) (fun hg wz hk => G_law17_wakes.calls   wz (S := fun _ => True)  _ hG_4), trivial⟩ (fun ns_5 a w_6 hI _ => ?_)
  refine cond_ hI ((!t_3)) rfl (fun hc_7 => ?_) (fun hc_7 => ?_)
  · replace H0 := bif_t hc_7 H0
    refine seq_region (live := [13, 6, 5, 3, 0, 1, 2]) (orc := []) hF hI ⟨[⟨13, [], .v (.bool (!t_3))⟩, ⟨6, [], .p 2 0⟩, ⟨5, [], .p 1 0⟩, ⟨3, [], .p 0 0⟩, ⟨0, [], .v (.slice A0 l0.length c0)⟩, ⟨1, [], .v (.int .i64 a1)⟩, ⟨2, [], .v (.int .u8 a2)⟩], [], [], [([.v (.slice A0 l0.length c0)], 26), ([.v (.int .u8 a2)], 5), ([.v (.bool false)], 4)], some (w.heap.size, none), none⟩ [] (by kernel_rfl) trivial (fun ns_8 a w_9 hI _ => ?_)
    refine wpIn_ret ?_
    refine then_ret ?_
    obtain rfl := Option.some.inj H0
    exact retM hI rfl rfl rfl (fun wz hz => ⟨rfl, (hE.below hI).trans hz.below⟩)
  · replace H0 := bif_f hc_7 H0
    refine wpIn_skip ?_
    refine then_normal ?_
    refine wpIn_seq ?_
    refine seq_region (live := [16, 13, 6, 5, 3, 0, 1, 2]) (orc := []) hF hI ⟨[⟨16, [], .v (.bool (decide ((l0.length : Int) > 60)))⟩, ⟨13, [], .v (.bool (!t_3))⟩, ⟨6, [], .p 2 0⟩, ⟨5, [], .p 1 0⟩, ⟨3, [], .p 0 0⟩, ⟨0, [], .v (.slice A0 l0.length c0)⟩, ⟨1, [], .v (.int .i64 a1)⟩, ⟨2, [], .v (.int .u8 a2)⟩], [], [], [([.v (.slice A0 l0.length c0)], 26), ([.v (.int .u8 a2)], 5), ([.v (.bool false)], 4)], some (w.heap.size, none), none⟩ [] (by kernel_rfl) trivial (fun ns_10 a w_11 hI _ => ?_)
    refine cond_ hI (decide ((l0.length : Int) > 60)) rfl (fun hc_12 => ?_) (fun hc_12 => ?_)
    · replace H0 := bif_t hc_12 H0
      refine seq_region (live := [16, 13, 6, 5, 3, 0, 1, 2]) (orc := []) hF hI ⟨[⟨16, [], .v (.bool (decide ((l0.length : Int) > 60)))⟩, ⟨13, [], .v (.bool (!t_3))⟩, ⟨6, [], .p 2 0⟩, ⟨5, [], .p 1 0⟩, ⟨3, [], .p 0 0⟩, ⟨0, [], .v (.slice A0 l0.length c0)⟩, ⟨1, [], .v (.int .i64 a1)⟩, ⟨2, [], .v (.int .u8 a2)⟩], [], [], [([.v (.slice A0 l0.length c0)], 26), ([.v (.int .u8 a2)], 5), ([.v (.bool true)], 4)], some (w.heap.size, none), none⟩ [] (by kernel_rfl) trivial (fun ns_13 a w_14 hI _ => ?_)
      refine wpIn_ret ?_
      refine then_ret ?_
      obtain rfl := Option.some.inj H0
      exact retM hI rfl rfl rfl (fun wz hz => ⟨rfl, (hE.below hI).trans hz.below⟩)
    · replace H0 := bif_f hc_12 H0
      refine wpIn_skip ?_
      refine then_normal ?_
      refine seq_region (live := [7, 16, 13, 6, 5, 3, 0, 1, 2]) (orc := []) hF hI ⟨[⟨7, [], .p 3 0⟩, ⟨16, [], .v (.bool (decide ((l0.length : Int) > 60)))⟩, ⟨13, [], .v (.bool (!t_3))⟩, ⟨6, [], .p 2 0⟩, ⟨5, [], .p 1 0⟩, ⟨3, [], .p 0 0⟩, ⟨0, [], .v (.slice A0 l0.length c0)⟩, ⟨1, [], .v (.int .i64 a1)⟩, ⟨2, [], .v (.int .u8 a2)⟩], [], [], [([.v (.slice A0 l0.length c0)], 26), ([.v (.int .u8 a2)], 5), ([.v (.bool false)], 4), ([.v (.slice none 0 0)], 45)], some (w.heap.size, none), none⟩ [] (by kernel_rfl) trivial (fun ns_15 a w_16 hI _ => ?_)
      refine wpIn_seq ?_
      refine wpIn_seq ?_
      refine wpIn_region_lit ?_
      refine chunkL_ (live := [18, 17, 7, 16, 13, 6, 5, 3, 0, 1, 2]) (orc := []) hF 2 hI ⟨[⟨18, [], .v (.int .i64 a1)⟩, ⟨17, [], .v (.slice A0 l0.length c0)⟩, ⟨7, [], .p 3 0⟩, ⟨16, [], .v (.bool (decide ((l0.length : Int) > 60)))⟩, ⟨13, [], .v (.bool (!t_3))⟩, ⟨6, [], .p 2 0⟩, ⟨5, [], .p 1 0⟩, ⟨3, [], .p 0 0⟩, ⟨0, [], .v (.slice A0 l0.length c0)⟩, ⟨1, [], .v (.int .i64 a1)⟩, ⟨2, [], .v (.int .u8 a2)⟩], [], [], [([.v (.slice A0 l0.length c0)], 26), ([.v (.int .u8 a2)], 5), ([.v (.bool false)], 4), ([.v (.slice none 0 0)], 45)], some (w.heap.size, none), none⟩ [] rfl (by kernel_rfl) trivial (fun ns_17 a w_18 hI => ?_)
      obtain ⟨hE', hmv, hmr⟩ := Ep.rebase (S0 := S) hE hI
      replace hr0 := Arr.keep hr0 hmv
      replace hE := hE'
      replace hI := hI.rebase
      clear hE' hmv hmr
      obtain ⟨t_19, hG_20, H0⟩ := bind_some H0
      refine callH_ (S0 := S) hF hE hI (wanted_none rfl) rfl (args := [.slice A0 l0.length c0, .int .i64 a1]) rfl (enters Try.func22 (by kernel_rfl) rfl) (fun sv_21 => .func (.func 42) #[] #[.pointer (some (adr (sv_21 0).1)), .pointer (some (adr (sv_21 2).1))]) _ (G_hist_Of.calls l0 a1 A0 c0 w_18 (S := Lo S w w_18 ns_17 []) hr0 hc0 _ hG_20) (fun sv_21 => ⟨[⟨19, [], .v (.func (.func 42) #[] #[.pointer (some (adr (sv_21 0).1)), .pointer (some (adr (sv_21 2).1))])⟩, ⟨18, [], .v (.int .i64 a1)⟩, ⟨17, [], .v (.slice A0 l0.length c0)⟩, ⟨7, [], .p 3 0⟩, ⟨16, [], .v (.bool (decide ((l0.length : Int) > 60)))⟩, ⟨13, [], .v (.bool (!t_3))⟩, ⟨6, [], .p 2 0⟩, ⟨5, [], .p 1 0⟩, ⟨3, [], .p 0 0⟩, ⟨0, [], .v (.slice A0 l0.length c0)⟩, ⟨1, [], .v (.int .i64 a1)⟩, ⟨2, [], .v (.int .u8 a2)⟩], [], [], [([.v (.slice A0 l0.length c0)], 26), ([.v (.int .u8 a2)], 5), ([.v (.bool false)], 4), ([.v (.slice none 0 0)], 45)], some (w.heap.size, none), none⟩) (fun sv_21 => by kernel_rfl) (fun sv_21 a w_24 hput hE' hI' hmv hmr hres hR => ?_)
      replace hr0 := Arr.keep hr0 hmv
      replace hE := hE'
      replace hI := hI'
      clear hE' hI' hmv hmr
      obtain ⟨hR_22, hR_23⟩ := hR
      replace hR_22 := El.keep hR_22 hres
      replace hR_23 := El.keep hR_23 hres
      clear hres
      refine chunkL_ (live := [8, 7, 16, 13, 6, 5, 3, 0, 1, 2]) (orc := []) hF 1 hI ⟨[⟨8, [], .v (.func (.func 42) #[] #[.pointer (some (adr (sv_21 0).1)), .pointer (some (adr (sv_21 2).1))])⟩, ⟨7, [], .p 3 0⟩, ⟨16, [], .v (.bool (decide ((l0.length : Int) > 60)))⟩, ⟨13, [], .v (.bool (!t_3))⟩, ⟨6, [], .p 2 0⟩, ⟨5, [], .p 1 0⟩, ⟨3, [], .p 0 0⟩, ⟨0, [], .v (.slice A0 l0.length c0)⟩, ⟨1, [], .v (.int .i64 a1)⟩, ⟨2, [], .v (.int .u8 a2)⟩], [], [], [([.v (.slice A0 l0.length c0)], 26), ([.v (.int .u8 a2)], 5), ([.v (.bool false)], 4), ([.v (.slice none 0 0)], 45)], some (w.heap.size, none), none⟩ [] rfl (by kernel_rfl) trivial (fun ns_25 a w_26 hI => ?_)
      refine wpListIn_nil ?_
      refine then_normal ?_
      refine seq_region (live := [21, 8, 7, 16, 13, 6, 5, 3, 0, 1, 2]) (orc := []) hF hI ⟨[⟨21, [], .v (.bool true)⟩, ⟨8, [], .v (.func (.func 42) #[] #[.pointer (some (adr (sv_21 0).1)), .pointer (some (adr (sv_21 2).1))])⟩, ⟨7, [], .p 3 0⟩, ⟨16, [], .v (.bool (decide ((l0.length : Int) > 60)))⟩, ⟨13, [], .v (.bool (!t_3))⟩, ⟨6, [], .p 2 0⟩, ⟨5, [], .p 1 0⟩, ⟨3, [], .p 0 0⟩, ⟨0, [], .v (.slice A0 l0.length c0)⟩, ⟨1, [], .v (.int .i64 a1)⟩, ⟨2, [], .v (.int .u8 a2)⟩], [], [], [([.v (.slice A0 l0.length c0)], 26), ([.v (.int .u8 a2)], 5), ([.v (.bool false)], 4), ([.v (.slice none 0 0)], 45)], some (w.heap.size, none), none⟩ [] (by kernel_rfl) trivial (fun ns_27 a w_28 hI _ => ?_)
      refine cond_ hI true rfl (fun _ => ?_) (fun h => by cases h)
      refine seq_region (live := [22, 21, 8, 7, 16, 13, 6, 5, 3, 0, 1, 2]) (orc := []) hF hI ⟨[⟨22, [], .v (.func (.func 42) #[] #[.pointer (some (adr (sv_21 0).1)), .pointer (some (adr (sv_21 2).1))])⟩, ⟨21, [], .v (.bool true)⟩, ⟨8, [], .v (.func (.func 42) #[] #[.pointer (some (adr (sv_21 0).1)), .pointer (some (adr (sv_21 2).1))])⟩, ⟨7, [], .p 3 0⟩, ⟨16, [], .v (.bool (decide ((l0.length : Int) > 60)))⟩, ⟨13, [], .v (.bool (!t_3))⟩, ⟨6, [], .p 2 0⟩, ⟨5, [], .p 1 0⟩, ⟨3, [], .p 0 0⟩, ⟨0, [], .v (.slice A0 l0.length c0)⟩, ⟨1, [], .v (.int .i64 a1)⟩, ⟨2, [], .v (.int .u8 a2)⟩], [], [], [([.v (.slice A0 l0.length c0)], 26), ([.v (.int .u8 a2)], 5), ([.v (.bool false)], 4), ([.v (.slice none 0 0)], 45)], some (w.heap.size, none), none⟩ [] (by kernel_rfl) trivial (fun ns_29 a w_30 hI _ => ?_)
      refine wpIn_block ?_
      obtain ⟨hE', hmv, hmr⟩ := Ep.rebase (S0 := S) hE hI
      replace hr0 := Arr.keep hr0 hmv
      replace hR_22 := El.keep hR_22 hmv
      replace hR_23 := El.keep hR_23 hmv
      replace hE := hE'
      replace hI := hI.rebase
      clear hE' hmv hmr
      obtain ⟨hE', hmv⟩ := Ep.addNil (S0 := S) hE
      have hmr : ∀ b : Nat, some b ∈ ([] : List (Option Nat)) → w_30.heap[b]? = w_30.heap[b]? := fun _ _ => rfl
      replace hr0 := Arr.keep hr0 hmv
      replace hR_22 := El.keep hR_22 hmv
      replace hR_23 := El.keep hR_23 hmv
      replace hE := hE'
      clear hE' hmv hmr
      have hq_31 : Row (Kd.int .i64) 3 (Lo S w w_30 ns_29 [rb none]) w_30 w.heap.size none 0 ([] : List Int) := Row.nil
      obtain ⟨ns_32, hE', hI', hmv⟩ := hE.cut (S0 := S) hI [22, 21, 8, 7, 16, 13, 6, 5, 3, 0, 1, 2] 4 ⟨[⟨22, [], .v (.func (.func 42) #[] #[.pointer (some (adr (sv_21 0).1)), .pointer (some (adr (sv_21 2).1))])⟩, ⟨21, [], .v (.bool true)⟩, ⟨8, [], .v (.func (.func 42) #[] #[.pointer (some (adr (sv_21 0).1)), .pointer (some (adr (sv_21 2).1))])⟩, ⟨7, [], .p 3 0⟩, ⟨16, [], .v (.bool (decide ((l0.length : Int) > 60)))⟩, ⟨13, [], .v (.bool (!t_3))⟩, ⟨6, [], .p 2 0⟩, ⟨5, [], .p 1 0⟩, ⟨3, [], .p 0 0⟩, ⟨0, [], .v (.slice A0 l0.length c0)⟩, ⟨1, [], .v (.int .i64 a1)⟩, ⟨2, [], .v (.int .u8 a2)⟩], [], [], [([.v (.slice A0 l0.length c0)], 26), ([.v (.int .u8 a2)], 5), ([.v (.bool false)], 4), ([.v (.slice none ([] : List Int).length 0)], 45)], some (w.heap.size, none), none⟩ (by kernel_rfl)
      have hmr : ∀ b : Nat, some b ∈ ([rb none] : List (Option Nat)) → w_30.heap[b]? = w_30.heap[b]? := fun _ _ => rfl
      replace hr0 := Arr.keep hr0 hmv
      replace hR_22 := El.keep hR_22 hmv
      replace hR_23 := El.keep hR_23 hmv
      replace hq_31 := Row.keep hq_31 hmv (fun b hb => hmr b (by rw [← hb]; first | (simp; done) | simp [rb]))
      replace hE := hE'
      replace hI := hI'
      clear hE' hI' hmv hmr
      obtain ⟨z_38, hz_39, H0⟩ := bind_some H0
      refine rangeFunc_ (S0 := S) (ps := [23, 24]) hE hI rfl (Nat.le_refl _) (lb := [.pointer (some (adr (sv_21 0).1)), .pointer (some (adr (sv_21 2).1))]) rfl (enters Try.func42 (by kernel_rfl) rfl) (fun l_35 aR_36 w_37 haR_44 hE' hI' hmv hmr => ?_)
      replace hr0 := Arr.keep hr0 hmv
      replace hR_22 := El.keep hR_22 hmv
      replace hR_23 := El.keep hR_23 hmv
      replace hq_31 := Row.keep hq_31 hmv (fun b hb => hmr b (by rw [← hb]; first | (simp; done) | simp [rb]))
      replace hE := hE'
      replace hI := hI'
      clear hE' hI' hmv hmr
      refine ⟨Bool × (List Int), Int × Call, Nat × (Bool × (List Int)), G_hist_Of_1.enc, G_hist_Of_1.fct, G_law17_HistOf.r1 l0 a1 a2 t_3 t_19, (fun (s1 : Bool × (List Int)) (T : Nat → Prop) (W : World) => ∃ (A_33 : Option Addr) (c_34 : Nat), (Arr kd_Call (Lo S w W ns_32 [rb A_33, some l_35]) W A0 l0) ∧ (El (Kd.slice kd_Call) (Lo S w W ns_32 [rb A_33, some l_35]) W (adr (sv_21 0).1) t_19.1 (svO sv_21 1)) ∧ (El (Kd.int .i64) (Lo S w W ns_32 [rb A_33, some l_35]) W (adr (sv_21 2).1) t_19.2 (svO sv_21 3)) ∧ (Row (Kd.int .i64) 3 (Lo S w W ns_32 [rb A_33, some l_35]) W w.heap.size A_33 c_34 s1.2) ∧ Ep w W ns_32 [rb A_33, some l_35] ∧ Inv W ns_32 63 ⟨[⟨22, [], .v (.func (.func 42) #[] #[.pointer (some (adr (sv_21 0).1)), .pointer (some (adr (sv_21 2).1))])⟩, ⟨21, [], .v (.bool true)⟩, ⟨8, [], .v (.func (.func 42) #[] #[.pointer (some (adr (sv_21 0).1)), .pointer (some (adr (sv_21 2).1))])⟩, ⟨7, [], .p 3 0⟩, ⟨16, [], .v (.bool (decide ((l0.length : Int) > 60)))⟩, ⟨13, [], .v (.bool (!t_3))⟩, ⟨6, [], .p 2 0⟩, ⟨5, [], .p 1 0⟩, ⟨3, [], .p 0 0⟩, ⟨0, [], .v (.slice A0 l0.length c0)⟩, ⟨1, [], .v (.int .i64 a1)⟩, ⟨2, [], .v (.int .u8 a2)⟩], [], [], [([.v (.slice A0 l0.length c0)], 26), ([.v (.int .u8 a2)], 5), ([.v (.bool s1.1)], 4), ([.v (.slice A_33 s1.2.length c_34)], 45)], some (w.heap.size, none), none⟩ ns_32 aR_36 W ∧ Tk T W (Lo S w W ns_32 [rb A_33, some l_35]) W), (fun (r : Nat × (Bool × (List Int))) (W : World) => ∃ (A_33 : Option Addr) (c_34 : Nat), (Arr kd_Call (Lo S w W ns_32 [rb A_33, some l_35]) W A0 l0) ∧ (El (Kd.slice kd_Call) (Lo S w W ns_32 [rb A_33, some l_35]) W (adr (sv_21 0).1) t_19.1 (svO sv_21 1)) ∧ (El (Kd.int .i64) (Lo S w W ns_32 [rb A_33, some l_35]) W (adr (sv_21 2).1) t_19.2 (svO sv_21 3)) ∧ (Row (Kd.int .i64) 3 (Lo S w W ns_32 [rb A_33, some l_35]) W w.heap.size A_33 c_34 r.2.2) ∧ Ep w W ns_32 [rb A_33, some l_35] ∧ Inv W ns_32 63 ⟨[⟨22, [], .v (.func (.func 42) #[] #[.pointer (some (adr (sv_21 0).1)), .pointer (some (adr (sv_21 2).1))])⟩, ⟨21, [], .v (.bool true)⟩, ⟨8, [], .v (.func (.func 42) #[] #[.pointer (some (adr (sv_21 0).1)), .pointer (some (adr (sv_21 2).1))])⟩, ⟨7, [], .p 3 0⟩, ⟨16, [], .v (.bool (decide ((l0.length : Int) > 60)))⟩, ⟨13, [], .v (.bool (!t_3))⟩, ⟨6, [], .p 2 0⟩, ⟨5, [], .p 1 0⟩, ⟨3, [], .p 0 0⟩, ⟨0, [], .v (.slice A0 l0.length c0)⟩, ⟨1, [], .v (.int .i64 a1)⟩, ⟨2, [], .v (.int .u8 a2)⟩], [], [], [([.v (.slice A0 l0.length c0)], 26), ([.v (.int .u8 a2)], 5), ([.v (.bool r.2.1)], 4), ([.v (.slice A_33 r.2.2.length c_34)], 45)], some (w.heap.size, none), none⟩ ns_32 aR_36 W), (fun r => bif Nat.beq r.1 0 then .exit 0 else .ret), (false, ([] : List Int)), Tc (Lo S w w_37 ns_32 [rb none, some l_35]) w_37, z_38, fun _ _ => rfl, ?_, ?_, ?_, ?_, ?_, ?_, ?_⟩
      · rintro s1 T T' A B row ⟨A_33, c_34, hr0, hR_22, hR_23, hq_31, hE, hI, hT_40⟩ hg hrow hT'
        obtain ⟨hE', hI', hmv, hmr⟩ := hE.turn (S0 := S) hI hg (by simp) hrow
        replace hr0 := Arr.keep hr0 hmv
        replace hR_22 := El.keep hR_22 hmv
        replace hR_23 := El.keep hR_23 hmv
        replace hq_31 := Row.keep hq_31 hmv (fun b hb => hmr b (by rw [← hb]; first | (simp; done) | simp [rb]) (Ep.ne hE (i := 1) (j := 0) (by decide) rfl rfl hb))
        exact ⟨A_33, c_34, hr0, hR_22, hR_23, hq_31, hE', hI', hT_40.turn hmv hE hT'⟩
      · rintro r A B row ⟨A_33, c_34, hr0, hR_22, hR_23, hq_31, hE, hI⟩ hg hrow
        obtain ⟨hE', hI', hmv, hmr⟩ := hE.turn (S0 := S) hI hg (by simp) hrow
        replace hr0 := Arr.keep hr0 hmv
        replace hR_22 := El.keep hR_22 hmv
        replace hR_23 := El.keep hR_23 hmv
        replace hq_31 := Row.keep hq_31 hmv (fun b hb => hmr b (by rw [← hb]; first | (simp; done) | simp [rb]) (Ep.ne hE (i := 1) (j := 0) (by decide) rfl rfl hb))
        exact ⟨A_33, c_34, hr0, hR_22, hR_23, hq_31, hE', hI'⟩
      · intro J Jx hq hJ
        exact G_hist_Of_1.calls _ _ t_19.1 t_19.2 (adr (sv_21 0).1) (svO sv_21 1) (adr (sv_21 2).1) (svO sv_21 3) _ w_37 (S := Tc (Lo S w w_37 ns_32 [rb none, some l_35]) w_37) (El.keep hR_22 (Tc.mv _ _)) (El.keep hR_23 (Tc.mv _ _)) hq hJ _ hz_39
      · exact ⟨none, 0, hr0, hR_22, hR_23, hq_31, hE, hI, Tk.new _ _⟩
      · rintro s1 y_45 sv_46 T_48 w_47 z hz ⟨A_33, c_34, hr0, hR_22, hR_23, hq_31, hE, hO, hT_40⟩ hf_50 oo_42 ho_43 hl_41
        unfold G_law17_HistOf.r1 at hz
        have H1 := hz
        clear hz
        have hF : FOpen (Fence.wide.inRound l_35) := .inr ⟨l_35, rfl⟩
        have hx_49 := hf_50
        replace hx_49 := Kd.keep _ hx_49 hT_40.mv
        have hI : Inv w_47 ns_32 63 ⟨[⟨24, [], .v (.agg ((kd_Call).cells y_45.2 sv_46).toArray)⟩, ⟨23, [], .v (.int .i64 y_45.1)⟩, ⟨22, [], .v (.func (.func 42) #[] #[.pointer (some (adr (sv_21 0).1)), .pointer (some (adr (sv_21 2).1))])⟩, ⟨21, [], .v (.bool true)⟩, ⟨8, [], .v (.func (.func 42) #[] #[.pointer (some (adr (sv_21 0).1)), .pointer (some (adr (sv_21 2).1))])⟩, ⟨7, [], .p 3 0⟩, ⟨16, [], .v (.bool (decide ((l0.length : Int) > 60)))⟩, ⟨13, [], .v (.bool (!t_3))⟩, ⟨6, [], .p 2 0⟩, ⟨5, [], .p 1 0⟩, ⟨3, [], .p 0 0⟩, ⟨0, [], .v (.slice A0 l0.length c0)⟩, ⟨1, [], .v (.int .i64 a1)⟩, ⟨2, [], .v (.int .u8 a2)⟩], [], [], [([.v (.slice A0 l0.length c0)], 26), ([.v (.int .u8 a2)], 5), ([.v (.bool s1.1)], 4), ([.v (.slice A_33 s1.2.length c_34)], 45)], some (w.heap.size, some aR_36.defers), some (4, ns_32)⟩ ns_32 _ w_47 := hO.round rfl rfl rfl [23, 24] (G_hist_Of_1.enc y_45 sv_46) (by kernel_rfl) (by kernel_rfl) _ haR_44
        refine seq_region (live := [9, 24, 23, 22, 21, 8, 7, 16, 13, 6, 5, 3, 0, 1, 2]) (orc := []) hF hI ⟨[⟨9, [], .v (.int .i64 y_45.1)⟩, ⟨24, [], .v (.agg ((kd_Call).cells y_45.2 sv_46).toArray)⟩, ⟨23, [], .v (.int .i64 y_45.1)⟩, ⟨22, [], .v (.func (.func 42) #[] #[.pointer (some (adr (sv_21 0).1)), .pointer (some (adr (sv_21 2).1))])⟩, ⟨21, [], .v (.bool true)⟩, ⟨8, [], .v (.func (.func 42) #[] #[.pointer (some (adr (sv_21 0).1)), .pointer (some (adr (sv_21 2).1))])⟩, ⟨7, [], .p 3 0⟩, ⟨16, [], .v (.bool (decide ((l0.length : Int) > 60)))⟩, ⟨13, [], .v (.bool (!t_3))⟩, ⟨6, [], .p 2 0⟩, ⟨5, [], .p 1 0⟩, ⟨3, [], .p 0 0⟩, ⟨0, [], .v (.slice A0 l0.length c0)⟩, ⟨1, [], .v (.int .i64 a1)⟩, ⟨2, [], .v (.int .u8 a2)⟩], [], [], [([.v (.slice A0 l0.length c0)], 26), ([.v (.int .u8 a2)], 5), ([.v (.bool s1.1)], 4), ([.v (.slice A_33 s1.2.length c_34)], 45)], some (w.heap.size, some aR_36.defers), some (4, ns_32)⟩ [] (by kernel_rfl) trivial (fun ns_51 a w_52 hI _ => ?_)
        refine region_ (live := [10, 9, 24, 23, 22, 21, 8, 7, 16, 13, 6, 5, 3, 0, 1, 2]) (orc := []) hF hI ⟨[⟨10, [], .p 4 0⟩, ⟨9, [], .v (.int .i64 y_45.1)⟩, ⟨24, [], .v (.agg ((kd_Call).cells y_45.2 sv_46).toArray)⟩, ⟨23, [], .v (.int .i64 y_45.1)⟩, ⟨22, [], .v (.func (.func 42) #[] #[.pointer (some (adr (sv_21 0).1)), .pointer (some (adr (sv_21 2).1))])⟩, ⟨21, [], .v (.bool true)⟩, ⟨8, [], .v (.func (.func 42) #[] #[.pointer (some (adr (sv_21 0).1)), .pointer (some (adr (sv_21 2).1))])⟩, ⟨7, [], .p 3 0⟩, ⟨16, [], .v (.bool (decide ((l0.length : Int) > 60)))⟩, ⟨13, [], .v (.bool (!t_3))⟩, ⟨6, [], .p 2 0⟩, ⟨5, [], .p 1 0⟩, ⟨3, [], .p 0 0⟩, ⟨0, [], .v (.slice A0 l0.length c0)⟩, ⟨1, [], .v (.int .i64 a1)⟩, ⟨2, [], .v (.int .u8 a2)⟩], [], [], [([.v (.slice A0 l0.length c0)], 26), ([.v (.int .u8 a2)], 5), ([.v (.bool s1.1)], 4), ([.v (.slice A_33 s1.2.length c_34)], 45), ((((kd_Call).cells y_45.2 sv_46).map EV.v), 42)], some (w.heap.size, some aR_36.defers), some (4, ns_32)⟩ [] (by kernel_rfl) trivial (fun ns_53 a w_54 hI _ => ?_)
        refine then_normal ?_
        obtain ⟨hE', hmv, hmr⟩ := Ep.rebase (S0 := S) hE hI
        replace hr0 := Arr.keep hr0 hmv
        replace hR_22 := El.keep hR_22 hmv
        replace hR_23 := El.keep hR_23 hmv
        replace hq_31 := Row.keep hq_31 hmv (fun b hb => hmr b (by rw [← hb]; first | (simp; done) | simp [rb]))
        replace hx_49 := Kd.keep _ hx_49 hmv
        replace hT_40 := Tk.keep hT_40 hmv
        replace hl_41 := (hmr _ (by simp)).trans hl_41
        replace hE := hE'
        replace hI := hI.rebase
        clear hE' hmv hmr
        refine begin_ (S0 := S) hE hI (by simp) hl_41 ho_43 (fun w_55 hE' hI' hmv hmr hl_41 => ?_)
        replace hr0 := Arr.keep hr0 hmv
        replace hR_22 := El.keep hR_22 hmv
        replace hR_23 := El.keep hR_23 hmv
        replace hq_31 := Row.keep hq_31 hmv (fun b hb => hmr b (by rw [← hb]; first | (simp; done) | simp [rb]) (Ep.ne hE (i := 1) (j := 0) (by decide) rfl rfl hb))
        replace hx_49 := Kd.keep _ hx_49 hmv
        replace hT_40 := Tk.keep hT_40 hmv
        replace hE := hE'
        replace hI := hI'
        clear hE' hI' hmv hmr
        refine wpIn_block ?_
        refine wpIn_seq ?_
        refine seq_region (live := [29, 10, 9, 24, 23, 22, 21, 8, 7, 16, 13, 6, 5, 3, 0, 1, 2]) (orc := []) hF hI ⟨[⟨29, [], .v (.bool (decide ((s1.2.length : Int) ≥ (IntKind.i64.wrap a2))))⟩, ⟨10, [], .p 4 0⟩, ⟨9, [], .v (.int .i64 y_45.1)⟩, ⟨24, [], .v (.agg ((kd_Call).cells y_45.2 sv_46).toArray)⟩, ⟨23, [], .v (.int .i64 y_45.1)⟩, ⟨22, [], .v (.func (.func 42) #[] #[.pointer (some (adr (sv_21 0).1)), .pointer (some (adr (sv_21 2).1))])⟩, ⟨21, [], .v (.bool true)⟩, ⟨8, [], .v (.func (.func 42) #[] #[.pointer (some (adr (sv_21 0).1)), .pointer (some (adr (sv_21 2).1))])⟩, ⟨7, [], .p 3 0⟩, ⟨16, [], .v (.bool (decide ((l0.length : Int) > 60)))⟩, ⟨13, [], .v (.bool (!t_3))⟩, ⟨6, [], .p 2 0⟩, ⟨5, [], .p 1 0⟩, ⟨3, [], .p 0 0⟩, ⟨0, [], .v (.slice A0 l0.length c0)⟩, ⟨1, [], .v (.int .i64 a1)⟩, ⟨2, [], .v (.int .u8 a2)⟩], [], [], [([.v (.slice A0 l0.length c0)], 26), ([.v (.int .u8 a2)], 5), ([.v (.bool s1.1)], 4), ([.v (.slice A_33 s1.2.length c_34)], 45), ((((kd_Call).cells y_45.2 sv_46).map EV.v), 42)], some (w.heap.size, some aR_36.defers), some (4, ns_32)⟩ [] (by kernel_rfl) trivial (fun ns_56 a w_57 hI _ => ?_)
        refine cond_ hI (decide ((s1.2.length : Int) ≥ (IntKind.i64.wrap a2))) rfl (fun hc_58 => ?_) (fun hc_58 => ?_)
        · replace H1 := bif_t hc_58 H1
          refine wpIn_exit ?_
          refine then_exit ?_
          refine inBlock_other (by decide) ?_
          obtain ⟨hE', hmv, hmr⟩ := Ep.rebase (S0 := S) hE hI
          replace hr0 := Arr.keep hr0 hmv
          replace hR_22 := El.keep hR_22 hmv
          replace hR_23 := El.keep hR_23 hmv
          replace hq_31 := Row.keep hq_31 hmv (fun b hb => hmr b (by rw [← hb]; first | (simp; done) | simp [rb]))
          replace hx_49 := Kd.keep _ hx_49 hmv
          replace hT_40 := Tk.keep hT_40 hmv
          replace hl_41 := (hmr _ (by simp)).trans hl_41
          replace hE := hE'
          replace hI := hI.rebase
          clear hE' hmv hmr
          obtain ⟨hE', hI', hmv⟩ := Ep.unround (S0 := S) (bs := [([.v (.slice A0 l0.length c0)], 26), ([.v (.int .u8 a2)], 5), ([.v (.bool s1.1)], 4), ([.v (.slice A_33 s1.2.length c_34)], 45)]) hO hE hI rfl rfl rfl rfl rfl rfl (by kernel_rfl) rfl
          have hmr : ∀ b : Nat, some b ∈ ([rb A_33, some l_35] : List (Option Nat)) → w_57.heap[b]? = w_57.heap[b]? := fun _ _ => rfl
          replace hr0 := Arr.keep hr0 hmv
          replace hR_22 := El.keep hR_22 hmv
          replace hR_23 := El.keep hR_23 hmv
          replace hq_31 := Row.keep hq_31 hmv (fun b hb => hmr b (by rw [← hb]; first | (simp; done) | simp [rb]))
          replace hx_49 := Kd.keep _ hx_49 hmv
          replace hT_40 := Tk.keep hT_40 hmv
          replace hl_41 := (hmr _ (by simp)).trans hl_41
          replace hE := hE'
          replace hI := hI'
          clear hE' hI' hmv hmr
          obtain rfl := Option.some.inj H1
          exact RndQ.ex hl_41 rfl rfl ⟨_, _, hr0, hR_22, hR_23, hq_31, hE, hI⟩
        · replace H1 := bif_f hc_58 H1
          refine wpIn_skip ?_
          refine then_normal ?_
          refine wpIn_seq ?_
          refine wpIn_seq ?_
          obtain ⟨hN_59, H1⟩ := req_some H1
          obtain ⟨sv_60, hE_62, hA_61⟩ := Arr.elB (d := kd_Call) hr0 y_45.1 (!(decide (y_45.1 < 0) || decide (y_45.1 ≥ (l0.length : Int)))) (fun hg => imp_spec hN_59 hg)
          obtain ⟨t_63, hG_64, H1⟩ := bind_some H1
          refine drawn_ (live := [46, 29, 10, 9, 24, 23, 22, 21, 8, 7, 16, 13, 6, 5, 3, 0, 1, 2]) (orc := [(kd_Call).cells (rd l0 y_45.1) sv_60, [.bool t_63]]) hF hI ⟨[⟨46, [], .v (.bool ((decide (y_45.1 < 0) || decide (y_45.1 ≥ (l0.length : Int))) || (!t_63)))⟩, ⟨29, [], .v (.bool (decide ((s1.2.length : Int) ≥ (IntKind.i64.wrap a2))))⟩, ⟨10, [], .p 4 0⟩, ⟨9, [], .v (.int .i64 y_45.1)⟩, ⟨24, [], .v (.agg ((kd_Call).cells y_45.2 (svL [((sv_46 0).1, (sv_46 0).2), ((sv_46 1).1, (sv_46 1).2)])).toArray)⟩, ⟨23, [], .v (.int .i64 y_45.1)⟩, ⟨22, [], .v (.func (.func 42) #[] #[.pointer (some (adr (sv_21 0).1)), .pointer (some (adr (sv_21 2).1))])⟩, ⟨21, [], .v (.bool true)⟩, ⟨8, [], .v (.func (.func 42) #[] #[.pointer (some (adr (sv_21 0).1)), .pointer (some (adr (sv_21 2).1))])⟩, ⟨7, [], .p 3 0⟩, ⟨16, [], .v (.bool (decide ((l0.length : Int) > 60)))⟩, ⟨13, [], .v (.bool (!t_3))⟩, ⟨6, [], .p 2 0⟩, ⟨5, [], .p 1 0⟩, ⟨3, [], .p 0 0⟩, ⟨0, [], .v (.slice A0 l0.length c0)⟩, ⟨1, [], .v (.int .i64 a1)⟩, ⟨2, [], .v (.int .u8 a2)⟩], [], [], [([.v (.slice A0 l0.length c0)], 26), ([.v (.int .u8 a2)], 5), ([.v (.bool s1.1)], 4), ([.v (.slice A_33 s1.2.length c_34)], 45), ((((kd_Call).cells y_45.2 sv_46).map EV.v), 42)], some (w.heap.size, some aR_36.defers), some (4, ns_32)⟩ [.need (!(decide (y_45.1 < 0) || decide (y_45.1 ≥ (l0.length : Int)))) (0 ≤ y_45.1 ∧ y_45.1 < (l0.length : Int)), .need (!(decide (y_45.1 < 0) || decide (y_45.1 ≥ (l0.length : Int)))) (A0 = some (adr A0)), .cell (!(decide (y_45.1 < 0) || decide (y_45.1 ≥ (l0.length : Int)))) ((adr A0).add ((y_45.1 : Int).toNat * 20)) ((kd_Call).cells (rd l0 y_45.1) sv_60), .call (!(decide (y_45.1 < 0) || decide (y_45.1 ≥ (l0.length : Int)))) 23 [.agg ((kd_Call).cells y_45.2 (svL [((sv_46 0).1, (sv_46 0).2), ((sv_46 1).1, (sv_46 1).2)])).toArray, .agg ((kd_Call).cells (rd l0 y_45.1) (svL [((sv_60 0).1, (sv_60 0).2), ((sv_60 1).1, (sv_60 1).2)])).toArray] (.bool t_63)] (by kernel_rfl) (by kernel_rfl) (by kernel_rfl) ⟨ob_inb (fun hg => imp_spec hN_59 hg), hA_61, ob_el (fun hg => hE_62 hg) 0 ((kd_Call).cells (rd l0 y_45.1) sv_60) rfl, ob_call (enters Try.func23 (by kernel_rfl) rfl) (fun hg wz hk => G_ref16_SameCall.calls y_45.2 (rd l0 y_45.1) (svL [((sv_46 0).1, (sv_46 0).2), ((sv_46 1).1, (sv_46 1).2)]) (svL [((sv_60 0).1, (sv_60 0).2), ((sv_60 1).1, (sv_60 1).2)]) wz (S := fun _ => True) (Kd.any _ (Kd.keep kd_Call (contI (S := Lo S w w_55 ns_53 [rb A_33, some l_35]) (w := w_55) (d := kd_Call) (x := y_45.2) (sv := (svL [((sv_46 0).1, (sv_46 0).2), ((sv_46 1).1, (sv_46 1).2)])) ⟨⟨hx_49.1.1, hx_49.1.2⟩, ⟨hx_49.2.1.1, hx_49.2.1.2⟩, trivial⟩) (Lo.on hk))) (Kd.any _ (Kd.keep kd_Call (contI (S := Lo S w w_55 ns_53 [rb A_33, some l_35]) (w := w_55) (d := kd_Call) (x := (rd l0 y_45.1)) (sv := (svL [((sv_60 0).1, (sv_60 0).2), ((sv_60 1).1, (sv_60 1).2)])) ⟨⟨((hE_62 hg)).cont.1.1, ((hE_62 hg)).cont.1.2⟩, ⟨((hE_62 hg)).cont.2.1.1, ((hE_62 hg)).cont.2.1.2⟩, trivial⟩) (Lo.on hk))) _ (cal_some hG_64 hg)), trivial⟩ (fun a w_65 hI => ?_)
          refine then_normal ?_
          refine cond_ hI (((decide (y_45.1 < 0) || decide (y_45.1 ≥ (l0.length : Int))) || (!t_63))) rfl (fun hc_66 => ?_) (fun hc_66 => ?_)
          · replace H1 := bif_t hc_66 H1
            refine seq_region (live := [46, 29, 10, 9, 24, 23, 22, 21, 8, 7, 16, 13, 6, 5, 3, 0, 1, 2]) (orc := []) hF hI ⟨[⟨46, [], .v (.bool ((decide (y_45.1 < 0) || decide (y_45.1 ≥ (l0.length : Int))) || (!t_63)))⟩, ⟨29, [], .v (.bool (decide ((s1.2.length : Int) ≥ (IntKind.i64.wrap a2))))⟩, ⟨10, [], .p 4 0⟩, ⟨9, [], .v (.int .i64 y_45.1)⟩, ⟨24, [], .v (.agg ((kd_Call).cells y_45.2 (svL [((sv_46 0).1, (sv_46 0).2), ((sv_46 1).1, (sv_46 1).2)])).toArray)⟩, ⟨23, [], .v (.int .i64 y_45.1)⟩, ⟨22, [], .v (.func (.func 42) #[] #[.pointer (some (adr (sv_21 0).1)), .pointer (some (adr (sv_21 2).1))])⟩, ⟨21, [], .v (.bool true)⟩, ⟨8, [], .v (.func (.func 42) #[] #[.pointer (some (adr (sv_21 0).1)), .pointer (some (adr (sv_21 2).1))])⟩, ⟨7, [], .p 3 0⟩, ⟨16, [], .v (.bool (decide ((l0.length : Int) > 60)))⟩, ⟨13, [], .v (.bool (!t_3))⟩, ⟨6, [], .p 2 0⟩, ⟨5, [], .p 1 0⟩, ⟨3, [], .p 0 0⟩, ⟨0, [], .v (.slice A0 l0.length c0)⟩, ⟨1, [], .v (.int .i64 a1)⟩, ⟨2, [], .v (.int .u8 a2)⟩], [], [], [([.v (.slice A0 l0.length c0)], 26), ([.v (.int .u8 a2)], 5), ([.v (.bool false)], 4), ([.v (.slice A_33 s1.2.length c_34)], 45), ((((kd_Call).cells y_45.2 sv_46).map EV.v), 42)], some (w.heap.size, some aR_36.defers), some (4, ns_32)⟩ [] (by kernel_rfl) trivial (fun ns_67 a w_68 hI _ => ?_)
            refine wpIn_ret ?_
            refine then_ret ?_
            refine inBlock_ret ?_
            obtain ⟨hE', hmv, hmr⟩ := Ep.rebase (S0 := S) hE hI
            replace hr0 := Arr.keep hr0 hmv
            replace hR_22 := El.keep hR_22 hmv
            replace hR_23 := El.keep hR_23 hmv
            replace hq_31 := Row.keep hq_31 hmv (fun b hb => hmr b (by rw [← hb]; first | (simp; done) | simp [rb]))
            replace hx_49 := Kd.keep _ hx_49 hmv
            replace hT_40 := Tk.keep hT_40 hmv
            replace hl_41 := (hmr _ (by simp)).trans hl_41
            replace hE := hE'
            replace hI := hI.rebase
            clear hE' hmv hmr
            obtain ⟨hE', hI', hmv⟩ := Ep.unround (S0 := S) (bs := [([.v (.slice A0 l0.length c0)], 26), ([.v (.int .u8 a2)], 5), ([.v (.bool false)], 4), ([.v (.slice A_33 s1.2.length c_34)], 45)]) hO hE hI rfl rfl rfl rfl rfl rfl (by kernel_rfl) rfl
            have hmr : ∀ b : Nat, some b ∈ ([rb A_33, some l_35] : List (Option Nat)) → w_68.heap[b]? = w_68.heap[b]? := fun _ _ => rfl
            replace hr0 := Arr.keep hr0 hmv
            replace hR_22 := El.keep hR_22 hmv
            replace hR_23 := El.keep hR_23 hmv
            replace hq_31 := Row.keep hq_31 hmv (fun b hb => hmr b (by rw [← hb]; first | (simp; done) | simp [rb]))
            replace hx_49 := Kd.keep _ hx_49 hmv
            replace hT_40 := Tk.keep hT_40 hmv
            replace hl_41 := (hmr _ (by simp)).trans hl_41
            replace hE := hE'
            replace hI := hI'
            clear hE' hI' hmv hmr
            obtain rfl := Option.some.inj H1
            exact RndQ.rt hl_41 rfl rfl ⟨_, _, hr0, hR_22, hR_23, hq_31, hE, hI⟩
          · replace H1 := bif_f hc_66 H1
            refine wpIn_skip ?_
            refine then_normal ?_
            refine wpIn_region_lit ?_
            refine chunkL_ (live := [48, 47, 46, 29, 10, 9, 24, 23, 22, 21, 8, 7, 16, 13, 6, 5, 3, 0, 1, 2]) (orc := []) hF 2 hI ⟨[⟨48, [], .v (.int .i64 y_45.1)⟩, ⟨47, [], .v (.slice A_33 s1.2.length c_34)⟩, ⟨46, [], .v (.bool ((decide (y_45.1 < 0) || decide (y_45.1 ≥ (l0.length : Int))) || (!t_63)))⟩, ⟨29, [], .v (.bool (decide ((s1.2.length : Int) ≥ (IntKind.i64.wrap a2))))⟩, ⟨10, [], .p 4 0⟩, ⟨9, [], .v (.int .i64 y_45.1)⟩, ⟨24, [], .v (.agg ((kd_Call).cells y_45.2 (svL [((sv_46 0).1, (sv_46 0).2), ((sv_46 1).1, (sv_46 1).2)])).toArray)⟩, ⟨23, [], .v (.int .i64 y_45.1)⟩, ⟨22, [], .v (.func (.func 42) #[] #[.pointer (some (adr (sv_21 0).1)), .pointer (some (adr (sv_21 2).1))])⟩, ⟨21, [], .v (.bool true)⟩, ⟨8, [], .v (.func (.func 42) #[] #[.pointer (some (adr (sv_21 0).1)), .pointer (some (adr (sv_21 2).1))])⟩, ⟨7, [], .p 3 0⟩, ⟨16, [], .v (.bool (decide ((l0.length : Int) > 60)))⟩, ⟨13, [], .v (.bool (!t_3))⟩, ⟨6, [], .p 2 0⟩, ⟨5, [], .p 1 0⟩, ⟨3, [], .p 0 0⟩, ⟨0, [], .v (.slice A0 l0.length c0)⟩, ⟨1, [], .v (.int .i64 a1)⟩, ⟨2, [], .v (.int .u8 a2)⟩], [], [], [([.v (.slice A0 l0.length c0)], 26), ([.v (.int .u8 a2)], 5), ([.v (.bool s1.1)], 4), ([.v (.slice A_33 s1.2.length c_34)], 45), ((((kd_Call).cells y_45.2 sv_46).map EV.v), 42)], some (w.heap.size, some aR_36.defers), some (4, ns_32)⟩ [] rfl (by kernel_rfl) trivial (fun ns_69 a w_70 hI => ?_)
            obtain ⟨hE', hmv, hmr⟩ := Ep.rebase (S0 := S) hE hI
            replace hr0 := Arr.keep hr0 hmv
            replace hR_22 := El.keep hR_22 hmv
            replace hR_23 := El.keep hR_23 hmv
            replace hq_31 := Row.keep hq_31 hmv (fun b hb => hmr b (by rw [← hb]; first | (simp; done) | simp [rb]))
            replace hx_49 := Kd.keep _ hx_49 hmv
            replace hT_40 := Tk.keep hT_40 hmv
            replace hl_41 := (hmr _ (by simp)).trans hl_41
            replace hE := hE'
            replace hI := hI.rebase
            clear hE' hmv hmr
            refine buildSlice_ (S0 := S) (d := (Kd.int .i64)) (e := 3) hF hE hI (wanted_none rfl) rfl (by kernel_rfl) (cs := [.int .i64 y_45.1]) (by kernel_rfl) [y_45.1] [(svL [])] rfl rfl (by simp [maxLen]) (fun i x hi => by cases i with | zero => (simp only [List.getElem?_cons_zero, Option.some.injEq] at hi; subst hi; exact ⟨trivial, rfl⟩) | succ i => (simp only [List.getElem?_cons_succ] at hi; simp at hi)) (fun A_71 => ⟨[⟨49, [], .v (.slice A_71 ([y_45.1] : List Int).length (([y_45.1] : List Int).length))⟩, ⟨48, [], .v (.int .i64 y_45.1)⟩, ⟨47, [], .v (.slice A_33 s1.2.length c_34)⟩, ⟨46, [], .v (.bool ((decide (y_45.1 < 0) || decide (y_45.1 ≥ (l0.length : Int))) || (!t_63)))⟩, ⟨29, [], .v (.bool (decide ((s1.2.length : Int) ≥ (IntKind.i64.wrap a2))))⟩, ⟨10, [], .p 4 0⟩, ⟨9, [], .v (.int .i64 y_45.1)⟩, ⟨24, [], .v (.agg ((kd_Call).cells y_45.2 (svL [((sv_46 0).1, (sv_46 0).2), ((sv_46 1).1, (sv_46 1).2)])).toArray)⟩, ⟨23, [], .v (.int .i64 y_45.1)⟩, ⟨22, [], .v (.func (.func 42) #[] #[.pointer (some (adr (sv_21 0).1)), .pointer (some (adr (sv_21 2).1))])⟩, ⟨21, [], .v (.bool true)⟩, ⟨8, [], .v (.func (.func 42) #[] #[.pointer (some (adr (sv_21 0).1)), .pointer (some (adr (sv_21 2).1))])⟩, ⟨7, [], .p 3 0⟩, ⟨16, [], .v (.bool (decide ((l0.length : Int) > 60)))⟩, ⟨13, [], .v (.bool (!t_3))⟩, ⟨6, [], .p 2 0⟩, ⟨5, [], .p 1 0⟩, ⟨3, [], .p 0 0⟩, ⟨0, [], .v (.slice A0 l0.length c0)⟩, ⟨1, [], .v (.int .i64 a1)⟩, ⟨2, [], .v (.int .u8 a2)⟩], [], [], [([.v (.slice A0 l0.length c0)], 26), ([.v (.int .u8 a2)], 5), ([.v (.bool s1.1)], 4), ([.v (.slice A_33 s1.2.length c_34)], 45), ((((kd_Call).cells y_45.2 sv_46).map EV.v), 42)], some (w.heap.size, some aR_36.defers), some (4, ns_32)⟩) (fun A_71 => by kernel_rfl) (fun A_71 a w_73 hput hE' hI' hmv hmr hq_72 => ?_)
            replace hr0 := Arr.keep hr0 hmv
            replace hR_22 := El.keep hR_22 hmv
            replace hR_23 := El.keep hR_23 hmv
            replace hq_31 := Row.keep hq_31 hmv (fun b hb => hmr b (by rw [← hb]; first | (simp; done) | simp [rb]) (by simp))
            replace hx_49 := Kd.keep _ hx_49 hmv
            replace hT_40 := Tk.keep hT_40 hmv
            replace hl_41 := (hmr _ (by simp) (by simp)).trans hl_41
            replace hE := hE'
            replace hI := hI'
            clear hE' hI' hmv hmr
            refine chunkL_ (live := [49, 47, 46, 29, 10, 9, 24, 23, 22, 21, 8, 7, 16, 13, 6, 5, 3, 0, 1, 2]) (orc := []) hF 0 hI ⟨[⟨49, [], .v (.slice A_71 ([y_45.1] : List Int).length (([y_45.1] : List Int).length))⟩, ⟨47, [], .v (.slice A_33 s1.2.length c_34)⟩, ⟨46, [], .v (.bool ((decide (y_45.1 < 0) || decide (y_45.1 ≥ (l0.length : Int))) || (!t_63)))⟩, ⟨29, [], .v (.bool (decide ((s1.2.length : Int) ≥ (IntKind.i64.wrap a2))))⟩, ⟨10, [], .p 4 0⟩, ⟨9, [], .v (.int .i64 y_45.1)⟩, ⟨24, [], .v (.agg ((kd_Call).cells y_45.2 (svL [((sv_46 0).1, (sv_46 0).2), ((sv_46 1).1, (sv_46 1).2)])).toArray)⟩, ⟨23, [], .v (.int .i64 y_45.1)⟩, ⟨22, [], .v (.func (.func 42) #[] #[.pointer (some (adr (sv_21 0).1)), .pointer (some (adr (sv_21 2).1))])⟩, ⟨21, [], .v (.bool true)⟩, ⟨8, [], .v (.func (.func 42) #[] #[.pointer (some (adr (sv_21 0).1)), .pointer (some (adr (sv_21 2).1))])⟩, ⟨7, [], .p 3 0⟩, ⟨16, [], .v (.bool (decide ((l0.length : Int) > 60)))⟩, ⟨13, [], .v (.bool (!t_3))⟩, ⟨6, [], .p 2 0⟩, ⟨5, [], .p 1 0⟩, ⟨3, [], .p 0 0⟩, ⟨0, [], .v (.slice A0 l0.length c0)⟩, ⟨1, [], .v (.int .i64 a1)⟩, ⟨2, [], .v (.int .u8 a2)⟩], [], [], [([.v (.slice A0 l0.length c0)], 26), ([.v (.int .u8 a2)], 5), ([.v (.bool s1.1)], 4), ([.v (.slice A_33 s1.2.length c_34)], 45), ((((kd_Call).cells y_45.2 sv_46).map EV.v), 42)], some (w.heap.size, some aR_36.defers), some (4, ns_32)⟩ [] rfl (by kernel_rfl) trivial (fun ns_74 a w_75 hI => ?_)
            obtain ⟨hE', hmv, hmr⟩ := Ep.rebase (S0 := S) hE hI
            replace hr0 := Arr.keep hr0 hmv
            replace hR_22 := El.keep hR_22 hmv
            replace hR_23 := El.keep hR_23 hmv
            replace hq_31 := Row.keep hq_31 hmv (fun b hb => hmr b (by rw [← hb]; first | (simp; done) | simp [rb]))
            replace hx_49 := Kd.keep _ hx_49 hmv
            replace hT_40 := Tk.keep hT_40 hmv
            replace hl_41 := (hmr _ (by simp)).trans hl_41
            replace hq_72 := Row.keep hq_72 hmv (fun b hb => hmr b (by rw [← hb]; first | (simp; done) | simp [rb]))
            replace hE := hE'
            replace hI := hI.rebase
            clear hE' hmv hmr
            obtain ⟨hE', hmv, hq_72, hcap_76⟩ := Row.still (l1 := [rb A_33, some l_35]) (l2 := []) hq_72 hE
            have hmr : ∀ b : Nat, some b ∈ ([rb A_33, some l_35, rb A_71] : List (Option Nat)) → w_75.heap[b]? = w_75.heap[b]? := fun _ _ => rfl
            replace hr0 := Arr.keep hr0 hmv
            replace hR_22 := El.keep hR_22 hmv
            replace hR_23 := El.keep hR_23 hmv
            replace hq_31 := Row.keep hq_31 hmv (fun b hb => hmr b (by rw [← hb]; first | (simp; done) | simp [rb]))
            replace hx_49 := Kd.keep _ hx_49 hmv
            replace hT_40 := Tk.keep hT_40 hmv
            replace hl_41 := (hmr _ (by simp)).trans hl_41
            replace hE := hE'
            clear hE' hmv hmr
            obtain ⟨hN_77, H1⟩ := req_some H1
            replace hN_77 := of_decide_eq_true hN_77
            refine append_ (S0 := S) (l1 := []) (l2 := [some l_35]) (d := (Kd.int .i64)) (e := 3) hF hE hI (wanted_none rfl) rfl (A := A_33) (c := c_34) (l := s1.2) rfl (A2 := A_71) (c2 := (([y_45.1] : List Int).length)) rfl hq_31 hq_72 (fun sv u hu => by exact kd_one_int _ sv u hu) Try.underlying45 (zi := (.int .i64 0, 1, 8)) (by kernel_rfl) rfl (by kernel_rfl) (len_max (by decide) hN_77) hN_77 (fun A_78 c_79 => ⟨[⟨50, [], .v (.slice A_78 (s1.2 ++ [y_45.1]).length c_79)⟩, ⟨49, [], .v (.slice A_71 ([y_45.1] : List Int).length (([y_45.1] : List Int).length))⟩, ⟨47, [], .v (.slice A_33 s1.2.length c_34)⟩, ⟨46, [], .v (.bool ((decide (y_45.1 < 0) || decide (y_45.1 ≥ (l0.length : Int))) || (!t_63)))⟩, ⟨29, [], .v (.bool (decide ((s1.2.length : Int) ≥ (IntKind.i64.wrap a2))))⟩, ⟨10, [], .p 4 0⟩, ⟨9, [], .v (.int .i64 y_45.1)⟩, ⟨24, [], .v (.agg ((kd_Call).cells y_45.2 (svL [((sv_46 0).1, (sv_46 0).2), ((sv_46 1).1, (sv_46 1).2)])).toArray)⟩, ⟨23, [], .v (.int .i64 y_45.1)⟩, ⟨22, [], .v (.func (.func 42) #[] #[.pointer (some (adr (sv_21 0).1)), .pointer (some (adr (sv_21 2).1))])⟩, ⟨21, [], .v (.bool true)⟩, ⟨8, [], .v (.func (.func 42) #[] #[.pointer (some (adr (sv_21 0).1)), .pointer (some (adr (sv_21 2).1))])⟩, ⟨7, [], .p 3 0⟩, ⟨16, [], .v (.bool (decide ((l0.length : Int) > 60)))⟩, ⟨13, [], .v (.bool (!t_3))⟩, ⟨6, [], .p 2 0⟩, ⟨5, [], .p 1 0⟩, ⟨3, [], .p 0 0⟩, ⟨0, [], .v (.slice A0 l0.length c0)⟩, ⟨1, [], .v (.int .i64 a1)⟩, ⟨2, [], .v (.int .u8 a2)⟩], [], [], [([.v (.slice A0 l0.length c0)], 26), ([.v (.int .u8 a2)], 5), ([.v (.bool s1.1)], 4), ([.v (.slice A_33 s1.2.length c_34)], 45), ((((kd_Call).cells y_45.2 sv_46).map EV.v), 42)], some (w.heap.size, some aR_36.defers), some (4, ns_32)⟩) (fun A_78 c_79 => by kernel_rfl) (fun A_78 c_79 a w_80 hput hE' hI' hmv hmr hq_31 => ?_)
            replace hr0 := Arr.keep hr0 hmv
            replace hR_22 := El.keep hR_22 hmv
            replace hR_23 := El.keep hR_23 hmv
            replace hx_49 := Kd.keep _ hx_49 hmv
            replace hT_40 := Tk.keep hT_40 hmv
            replace hl_41 := (hmr _ (by simp) (Ep.ne hE (i := 0) (j := 1) (by decide) rfl rfl rfl)).trans hl_41
            replace hq_72 := Arr.keep hq_72 hmv
            replace hE := hE'
            replace hI := hI'
            clear hE' hI' hmv hmr
            refine chunkL_ (live := [46, 29, 10, 9, 24, 23, 22, 21, 8, 7, 16, 13, 6, 5, 3, 0, 1, 2]) (orc := []) hF 1 hI ⟨[⟨46, [], .v (.bool ((decide (y_45.1 < 0) || decide (y_45.1 ≥ (l0.length : Int))) || (!t_63)))⟩, ⟨29, [], .v (.bool (decide ((s1.2.length : Int) ≥ (IntKind.i64.wrap a2))))⟩, ⟨10, [], .p 4 0⟩, ⟨9, [], .v (.int .i64 y_45.1)⟩, ⟨24, [], .v (.agg ((kd_Call).cells y_45.2 (svL [((sv_46 0).1, (sv_46 0).2), ((sv_46 1).1, (sv_46 1).2)])).toArray)⟩, ⟨23, [], .v (.int .i64 y_45.1)⟩, ⟨22, [], .v (.func (.func 42) #[] #[.pointer (some (adr (sv_21 0).1)), .pointer (some (adr (sv_21 2).1))])⟩, ⟨21, [], .v (.bool true)⟩, ⟨8, [], .v (.func (.func 42) #[] #[.pointer (some (adr (sv_21 0).1)), .pointer (some (adr (sv_21 2).1))])⟩, ⟨7, [], .p 3 0⟩, ⟨16, [], .v (.bool (decide ((l0.length : Int) > 60)))⟩, ⟨13, [], .v (.bool (!t_3))⟩, ⟨6, [], .p 2 0⟩, ⟨5, [], .p 1 0⟩, ⟨3, [], .p 0 0⟩, ⟨0, [], .v (.slice A0 l0.length c0)⟩, ⟨1, [], .v (.int .i64 a1)⟩, ⟨2, [], .v (.int .u8 a2)⟩], [], [], [([.v (.slice A0 l0.length c0)], 26), ([.v (.int .u8 a2)], 5), ([.v (.bool s1.1)], 4), ([.v (.slice A_78 (s1.2 ++ [y_45.1]).length c_79)], 45), ((((kd_Call).cells y_45.2 sv_46).map EV.v), 42)], some (w.heap.size, some aR_36.defers), some (4, ns_32)⟩ [] rfl (by kernel_rfl) trivial (fun ns_81 a w_82 hI => ?_)
            refine wpListIn_nil ?_
            refine inBlock_normal ?_
            obtain ⟨hE', hmv, hmr⟩ := Ep.rebase (S0 := S) hE hI
            replace hr0 := Arr.keep hr0 hmv
            replace hR_22 := El.keep hR_22 hmv
            replace hR_23 := El.keep hR_23 hmv
            replace hx_49 := Kd.keep _ hx_49 hmv
            replace hT_40 := Tk.keep hT_40 hmv
            replace hl_41 := (hmr _ (by simp)).trans hl_41
            replace hq_72 := Arr.keep hq_72 hmv
            replace hq_31 := Row.keep hq_31 hmv (fun b hb => hmr b (by rw [← hb]; first | (simp; done) | simp [rb]))
            replace hE := hE'
            replace hI := hI.rebase
            clear hE' hmv hmr
            obtain ⟨hE', hI', hmv⟩ := Ep.unround (S0 := S) (bs := [([.v (.slice A0 l0.length c0)], 26), ([.v (.int .u8 a2)], 5), ([.v (.bool s1.1)], 4), ([.v (.slice A_78 (s1.2 ++ [y_45.1]).length c_79)], 45)]) hO hE hI rfl rfl rfl rfl rfl rfl (by kernel_rfl) rfl
            have hmr : ∀ b : Nat, some b ∈ ([rb A_78, some l_35] : List (Option Nat)) → w_82.heap[b]? = w_82.heap[b]? := fun _ _ => rfl
            replace hr0 := Arr.keep hr0 hmv
            replace hR_22 := El.keep hR_22 hmv
            replace hR_23 := El.keep hR_23 hmv
            replace hx_49 := Kd.keep _ hx_49 hmv
            replace hT_40 := Tk.keep hT_40 hmv
            replace hl_41 := (hmr _ (by simp)).trans hl_41
            replace hq_72 := Arr.keep hq_72 hmv
            replace hq_31 := Row.keep hq_31 hmv (fun b hb => hmr b (by rw [← hb]; first | (simp; done) | simp [rb]))
            replace hE := hE'
            replace hI := hI'
            clear hE' hI' hmv hmr
            obtain rfl := Option.some.inj H1
            exact RndQ.nrm hl_41 rfl ⟨_, _, hr0, hR_22, hR_23, hq_31, hE, hI, hT_40.re⟩ hT_40.same
      · rintro s1 T w_83 hzz ⟨A_33, c_34, hr0, hR_22, hR_23, hq_31, hE, hI, hT_40⟩
        subst hzz
        replace H0 : (((G_ref17_Of l0 a1).bind fun t_86 => (req (inb (mnI (IntKind.i64.wrap a2) (t_86.length : Int)) (t_86.length + 1)) ((G_ref01_Same s1.2 (t_86.take ((mnI (IntKind.i64.wrap a2) (t_86.length : Int)) : Int).toNat)).bind fun t_100 => some t_100))) : Option (Bool)) = _ := H0
        obtain ⟨hE', hmv⟩ := hE.sub (S0 := S) (mine' := [rb A_33]) (sub_one [rb A_33] [] _)
        have hmr : ∀ b : Nat, some b ∈ ([rb A_33, some l_35] : List (Option Nat)) → w_83.heap[b]? = w_83.heap[b]? := fun _ _ => rfl
        replace hr0 := Arr.keep hr0 hmv
        replace hR_22 := El.keep hR_22 hmv
        replace hR_23 := El.keep hR_23 hmv
        replace hq_31 := Row.keep hq_31 hmv (fun b hb => hmr b (by rw [← hb]; first | (simp; done) | simp [rb]))
        replace hE := hE'
        clear hE' hmv hmr
        refine inBlock_normal ?_
        refine then_normal ?_
        refine wpIn_seq ?_
        refine wpIn_region_lit ?_
        refine chunkL_ (live := [52, 51, 22, 21, 8, 7, 16, 13, 6, 5, 3, 0, 1, 2]) (orc := []) hF 2 hI ⟨[⟨52, [], .v (.int .i64 a1)⟩, ⟨51, [], .v (.slice A0 l0.length c0)⟩, ⟨22, [], .v (.func (.func 42) #[] #[.pointer (some (adr (sv_21 0).1)), .pointer (some (adr (sv_21 2).1))])⟩, ⟨21, [], .v (.bool true)⟩, ⟨8, [], .v (.func (.func 42) #[] #[.pointer (some (adr (sv_21 0).1)), .pointer (some (adr (sv_21 2).1))])⟩, ⟨7, [], .p 3 0⟩, ⟨16, [], .v (.bool (decide ((l0.length : Int) > 60)))⟩, ⟨13, [], .v (.bool (!t_3))⟩, ⟨6, [], .p 2 0⟩, ⟨5, [], .p 1 0⟩, ⟨3, [], .p 0 0⟩, ⟨0, [], .v (.slice A0 l0.length c0)⟩, ⟨1, [], .v (.int .i64 a1)⟩, ⟨2, [], .v (.int .u8 a2)⟩], [], [], [([.v (.slice A0 l0.length c0)], 26), ([.v (.int .u8 a2)], 5), ([.v (.bool s1.1)], 4), ([.v (.slice A_33 s1.2.length c_34)], 45)], some (w.heap.size, none), none⟩ [] rfl (by kernel_rfl) trivial (fun ns_84 a w_85 hI => ?_)
        obtain ⟨hE', hmv, hmr⟩ := Ep.rebase (S0 := S) hE hI
        replace hr0 := Arr.keep hr0 hmv
        replace hR_22 := El.keep hR_22 hmv
        replace hR_23 := El.keep hR_23 hmv
        replace hq_31 := Row.keep hq_31 hmv (fun b hb => hmr b (by rw [← hb]; first | (simp; done) | simp [rb]))
        replace hE := hE'
        replace hI := hI.rebase
        clear hE' hmv hmr
        obtain ⟨t_86, hG_87, H0⟩ := bind_some H0
        refine callH_ (S0 := S) hF hE hI (wanted_none rfl) rfl (args := [.slice A0 l0.length c0, .int .i64 a1]) rfl (enters Try.func24 (by kernel_rfl) rfl) (fun sv_88 => .slice ((sv_88 0).1) t_86.length ((sv_88 0).2)) _ (G_ref17_Of.calls l0 a1 A0 c0 w_85 (S := Lo S w w_85 ns_84 [rb A_33]) hr0 hc0 _ hG_87) (fun sv_88 => ⟨[⟨53, [], .v (.slice ((sv_88 0).1) t_86.length ((sv_88 0).2))⟩, ⟨52, [], .v (.int .i64 a1)⟩, ⟨51, [], .v (.slice A0 l0.length c0)⟩, ⟨22, [], .v (.func (.func 42) #[] #[.pointer (some (adr (sv_21 0).1)), .pointer (some (adr (sv_21 2).1))])⟩, ⟨21, [], .v (.bool true)⟩, ⟨8, [], .v (.func (.func 42) #[] #[.pointer (some (adr (sv_21 0).1)), .pointer (some (adr (sv_21 2).1))])⟩, ⟨7, [], .p 3 0⟩, ⟨16, [], .v (.bool (decide ((l0.length : Int) > 60)))⟩, ⟨13, [], .v (.bool (!t_3))⟩, ⟨6, [], .p 2 0⟩, ⟨5, [], .p 1 0⟩, ⟨3, [], .p 0 0⟩, ⟨0, [], .v (.slice A0 l0.length c0)⟩, ⟨1, [], .v (.int .i64 a1)⟩, ⟨2, [], .v (.int .u8 a2)⟩], [], [], [([.v (.slice A0 l0.length c0)], 26), ([.v (.int .u8 a2)], 5), ([.v (.bool s1.1)], 4), ([.v (.slice A_33 s1.2.length c_34)], 45)], some (w.heap.size, none), none⟩) (fun sv_88 => by kernel_rfl) (fun sv_88 a w_90 hput hE' hI' hmv hmr hres hR => ?_)
        replace hr0 := Arr.keep hr0 hmv
        replace hR_22 := El.keep hR_22 hmv
        replace hR_23 := El.keep hR_23 hmv
        replace hq_31 := Row.keep hq_31 hmv (fun b hb => hmr b (by rw [← hb]; first | (simp; done) | simp [rb]) (by simp))
        replace hE := hE'
        replace hI := hI'
        clear hE' hI' hmv hmr
        obtain ⟨hR_89, hR_89c⟩ := hR
        replace hR_89 := Arr.keep hR_89 hres
        clear hres
        refine chunkL_ (live := [11, 22, 21, 8, 7, 16, 13, 6, 5, 3, 0, 1, 2]) (orc := []) hF 1 hI ⟨[⟨11, [], .v (.slice ((sv_88 0).1) t_86.length ((sv_88 0).2))⟩, ⟨22, [], .v (.func (.func 42) #[] #[.pointer (some (adr (sv_21 0).1)), .pointer (some (adr (sv_21 2).1))])⟩, ⟨21, [], .v (.bool true)⟩, ⟨8, [], .v (.func (.func 42) #[] #[.pointer (some (adr (sv_21 0).1)), .pointer (some (adr (sv_21 2).1))])⟩, ⟨7, [], .p 3 0⟩, ⟨16, [], .v (.bool (decide ((l0.length : Int) > 60)))⟩, ⟨13, [], .v (.bool (!t_3))⟩, ⟨6, [], .p 2 0⟩, ⟨5, [], .p 1 0⟩, ⟨3, [], .p 0 0⟩, ⟨0, [], .v (.slice A0 l0.length c0)⟩, ⟨1, [], .v (.int .i64 a1)⟩, ⟨2, [], .v (.int .u8 a2)⟩], [], [], [([.v (.slice A0 l0.length c0)], 26), ([.v (.int .u8 a2)], 5), ([.v (.bool s1.1)], 4), ([.v (.slice A_33 s1.2.length c_34)], 45)], some (w.heap.size, none), none⟩ [] rfl (by kernel_rfl) trivial (fun ns_91 a w_92 hI => ?_)
        refine wpListIn_nil ?_
        refine then_normal ?_
        refine wpIn_seq ?_
        obtain ⟨hE', hmv, hmr⟩ := Ep.rebase (S0 := S) hE hI
        replace hr0 := Arr.keep hr0 hmv
        replace hR_22 := El.keep hR_22 hmv
        replace hR_23 := El.keep hR_23 hmv
        replace hq_31 := Row.keep hq_31 hmv (fun b hb => hmr b (by rw [← hb]; first | (simp; done) | simp [rb]))
        replace hR_89 := Arr.keep hR_89 hmv
        replace hE := hE'
        replace hI := hI.rebase
        clear hE' hmv hmr
        obtain ⟨hE', hmv, hq_31, hcap_98⟩ := Row.still (l1 := []) (l2 := []) hq_31 hE
        have hmr : ∀ b : Nat, some b ∈ ([rb A_33] : List (Option Nat)) → w_92.heap[b]? = w_92.heap[b]? := fun _ _ => rfl
        replace hr0 := Arr.keep hr0 hmv
        replace hR_22 := El.keep hR_22 hmv
        replace hR_23 := El.keep hR_23 hmv
        replace hR_89 := Arr.keep hR_89 hmv
        replace hE := hE'
        clear hE' hmv hmr
        replace hI := hI.fin (live := [11, 22, 21, 8, 7, 16, 13, 6, 5, 3, 0, 1, 2]) (σ2 := ⟨[⟨11, [], .v (.slice ((sv_88 0).1) t_86.length ((sv_88 0).2))⟩, ⟨22, [], .v (.func (.func 42) #[] #[.pointer (some (adr (sv_21 0).1)), .pointer (some (adr (sv_21 2).1))])⟩, ⟨21, [], .v (.bool true)⟩, ⟨8, [], .v (.func (.func 42) #[] #[.pointer (some (adr (sv_21 0).1)), .pointer (some (adr (sv_21 2).1))])⟩, ⟨7, [], .p 3 0⟩, ⟨16, [], .v (.bool (decide ((l0.length : Int) > 60)))⟩, ⟨13, [], .v (.bool (!t_3))⟩, ⟨6, [], .p 2 0⟩, ⟨5, [], .p 1 0⟩, ⟨3, [], .p 0 0⟩, ⟨0, [], .v (.slice A0 l0.length c0)⟩, ⟨1, [], .v (.int .i64 a1)⟩, ⟨2, [], .v (.int .u8 a2)⟩], [], [], [([.v (.slice A0 l0.length c0)], 26), ([.v (.int .u8 a2)], 5), ([.v (.bool s1.1)], 4), ([.v (.slice A_33 s1.2.length c_34)], 45)], some (w.heap.size, none), none⟩) (by kernel_rfl)
        obtain ⟨hN_99, H0⟩ := req_some H0
        replace hN_99 := inb_le hN_99
        obtain ⟨t_100, hG_101, H0⟩ := bind_some H0
        refine drawnS_ hI (by kernel_rfl) [.q 54 (.v (.slice A_33 s1.2.length c_34)) [], .q 55 (.v (.slice ((sv_88 0).1) t_86.length ((sv_88 0).2))) [], .q 56 (.v (.int .u8 a2)) [], .q 57 (.v (.int .i64 (IntKind.i64.wrap a2))) [], .q 58 (.v (.slice ((sv_88 0).1) t_86.length ((sv_88 0).2))) [], .q 59 (.v (.int .i64 (t_86.length : Int))) [], .q 60 (.v (.int .i64 (mnI (IntKind.i64.wrap a2) (t_86.length : Int)))) [], .q 61 (.v (.slice ((sv_88 0).1) (t_86.take ((mnI (IntKind.i64.wrap a2) (t_86.length : Int)) : Int).toNat).length ((sv_88 0).2))) [.run true (vS (Instr.sliceAt 45 (.slice ((sv_88 0).1) t_86.length ((sv_88 0).2)) none (some (.int .i64 (mnI (IntKind.i64.wrap a2) (t_86.length : Int)))) none)) (.slice ((sv_88 0).1) (t_86.take ((mnI (IntKind.i64.wrap a2) (t_86.length : Int)) : Int).toNat).length ((sv_88 0).2))], .q 62 (.v (.bool t_100)) [.call true 25 [.slice A_33 s1.2.length c_34, .slice ((sv_88 0).1) (t_86.take ((mnI (IntKind.i64.wrap a2) (t_86.length : Int)) : Int).toNat).length ((sv_88 0).2)] (.bool t_100)], .no] (by kernel_rfl) (fun fuel listed w_102 hJ hsz hu => ?_)
        refine stage_ hJ hF hsz hu [.q [] [], .q [] [], .q [] [], .q [2] [], .q [] [], .q [4] [], .q [3, 5] [], .q [1, 6] [[.slice ((sv_88 0).1) (t_86.take ((mnI (IntKind.i64.wrap a2) (t_86.length : Int)) : Int).toNat).length ((sv_88 0).2)]], .q [0, 7] [[.bool t_100]], .no] (by kernel_rfl) (by kernel_rfl) (by kernel_rfl) (by kernel_rfl) 9 rfl (by kernel_rfl) (by kernel_rfl) [8] rfl (by kernel_rfl) (by kernel_rfl) ⟨(fun _ wz hk => vS_run (slice_hi (sz := 1) Try.underlying45 (by kernel_rfl) hN_99.1 hN_99.2 hR_89c wz)), ob_call (enters Try.func25 (by kernel_rfl) rfl) (fun hg wz hk => G_ref01_Same.calls s1.2 (t_86.take ((mnI (IntKind.i64.wrap a2) (t_86.length : Int)) : Int).toNat) A_33 c_34 ((sv_88 0).1) ((sv_88 0).2) wz (S := fun _ => True) (Arr.any (Arr.keep hq_31 (Lo.on hk))) hcap_98 (Arr.any (Arr.keep (Arr.take hR_89 _) (Lo.on hk))) (take_cap hR_89c) _ hG_101), trivial⟩ (fun fuel listed a w_103 hJ hI hW h1 hnl hsz hu => ?_)
        refine store_ hF hI hW rfl rfl (k := 2) (cs := [.v (.bool t_100)]) (T := 4) (by kernel_rfl) (by kernel_rfl) rfl (fun a w_104 hput hI => ?_)
        refine next_ hJ h1 hnl hsz hu (by kernel_rfl) (by kernel_rfl) hput hI (live := [11, 22, 21, 8, 7, 16, 13, 6, 5, 3, 0, 1, 2]) ⟨[⟨11, [], .v (.slice ((sv_88 0).1) t_86.length ((sv_88 0).2))⟩, ⟨22, [], .v (.func (.func 42) #[] #[.pointer (some (adr (sv_21 0).1)), .pointer (some (adr (sv_21 2).1))])⟩, ⟨21, [], .v (.bool true)⟩, ⟨8, [], .v (.func (.func 42) #[] #[.pointer (some (adr (sv_21 0).1)), .pointer (some (adr (sv_21 2).1))])⟩, ⟨7, [], .p 3 0⟩, ⟨16, [], .v (.bool (decide ((l0.length : Int) > 60)))⟩, ⟨13, [], .v (.bool (!t_3))⟩, ⟨6, [], .p 2 0⟩, ⟨5, [], .p 1 0⟩, ⟨3, [], .p 0 0⟩, ⟨0, [], .v (.slice A0 l0.length c0)⟩, ⟨1, [], .v (.int .i64 a1)⟩, ⟨2, [], .v (.int .u8 a2)⟩], [], [], [([.v (.slice A0 l0.length c0)], 26), ([.v (.int .u8 a2)], 5), ([.v (.bool t_100)], 4), ([.v (.slice A_33 s1.2.length c_34)], 45)], some (w.heap.size, none), none⟩ (by kernel_rfl) none (by kernel_rfl) [] [.q 54 (.v (.slice A_33 s1.2.length c_34)) [], .q 55 (.v (.slice ((sv_88 0).1) t_86.length ((sv_88 0).2))) [], .q 56 (.v (.int .u8 a2)) [], .q 57 (.v (.int .i64 (IntKind.i64.wrap a2))) [], .q 58 (.v (.slice ((sv_88 0).1) t_86.length ((sv_88 0).2))) [], .q 59 (.v (.int .i64 (t_86.length : Int))) [], .q 60 (.v (.int .i64 (mnI (IntKind.i64.wrap a2) (t_86.length : Int)))) [], .q 61 (.v (.slice ((sv_88 0).1) (t_86.take ((mnI (IntKind.i64.wrap a2) (t_86.length : Int)) : Int).toNat).length ((sv_88 0).2))) [.run true (vS (Instr.sliceAt 45 (.slice ((sv_88 0).1) t_86.length ((sv_88 0).2)) none (some (.int .i64 (mnI (IntKind.i64.wrap a2) (t_86.length : Int)))) none)) (.slice ((sv_88 0).1) (t_86.take ((mnI (IntKind.i64.wrap a2) (t_86.length : Int)) : Int).toNat).length ((sv_88 0).2))], .q 62 (.v (.bool t_100)) [.call true 25 [.slice A_33 s1.2.length c_34, .slice ((sv_88 0).1) (t_86.take ((mnI (IntKind.i64.wrap a2) (t_86.length : Int)) : Int).toNat).length ((sv_88 0).2)] (.bool t_100)], .t none none] (by kernel_rfl) (by kernel_rfl) (by kernel_rfl) (fun hJ hsz hu => ?_)
        refine end_ hJ hF hsz hu [.q [] [], .q [] [], .q [] [], .q [2] [], .q [] [], .q [4] [], .q [3, 5] [], .q [1, 6] [[.slice ((sv_88 0).1) (t_86.take ((mnI (IntKind.i64.wrap a2) (t_86.length : Int)) : Int).toNat).length ((sv_88 0).2)]], .q [0, 7] [[.bool t_100]], .t none] (by kernel_rfl) (by kernel_rfl) (by kernel_rfl) (by kernel_rfl) (by kernel_rfl) (by kernel_rfl) (live := [11, 22, 21, 8, 7, 16, 13, 6, 5, 3, 0, 1, 2]) ⟨[⟨11, [], .v (.slice ((sv_88 0).1) t_86.length ((sv_88 0).2))⟩, ⟨22, [], .v (.func (.func 42) #[] #[.pointer (some (adr (sv_21 0).1)), .pointer (some (adr (sv_21 2).1))])⟩, ⟨21, [], .v (.bool true)⟩, ⟨8, [], .v (.func (.func 42) #[] #[.pointer (some (adr (sv_21 0).1)), .pointer (some (adr (sv_21 2).1))])⟩, ⟨7, [], .p 3 0⟩, ⟨16, [], .v (.bool (decide ((l0.length : Int) > 60)))⟩, ⟨13, [], .v (.bool (!t_3))⟩, ⟨6, [], .p 2 0⟩, ⟨5, [], .p 1 0⟩, ⟨3, [], .p 0 0⟩, ⟨0, [], .v (.slice A0 l0.length c0)⟩, ⟨1, [], .v (.int .i64 a1)⟩, ⟨2, [], .v (.int .u8 a2)⟩], [], [], [([.v (.slice A0 l0.length c0)], 26), ([.v (.int .u8 a2)], 5), ([.v (.bool t_100)], 4), ([.v (.slice A_33 s1.2.length c_34)], 45)], some (w.heap.size, none), none⟩ (by kernel_rfl) ⟨(fun _ wz hk => vS_run (slice_hi (sz := 1) Try.underlying45 (by kernel_rfl) hN_99.1 hN_99.2 hR_89c wz)), ob_call (enters Try.func25 (by kernel_rfl) rfl) (fun hg wz hk => G_ref01_Same.calls s1.2 (t_86.take ((mnI (IntKind.i64.wrap a2) (t_86.length : Int)) : Int).toNat) A_33 c_34 ((sv_88 0).1) ((sv_88 0).2) wz (S := fun _ => True) (Arr.any (Arr.keep hq_31 (Lo.on hk))) hcap_98 (Arr.any (Arr.keep (Arr.take hR_89 _) (Lo.on hk))) (take_cap hR_89c) _ hG_101), trivial⟩ (fun a w_105 hI => ?_)
        refine then_normal ?_
        refine wpIn_ret ?_
        obtain rfl := Option.some.inj H0
        exact retM hI rfl rfl rfl (fun wz hz => ⟨rfl, (hE.below hI).trans hz.below⟩)
      · rintro r1 WX hzz ⟨A_33, c_34, hr0, hR_22, hR_23, hq_31, hE, hI⟩
        subst hzz
        replace H0 : ((bif Nat.beq r1.1 0 then ((G_ref17_Of l0 a1).bind fun t_109 => (req (inb (mnI (IntKind.i64.wrap a2) (t_109.length : Int)) (t_109.length + 1)) ((G_ref01_Same r1.2.2 (t_109.take ((mnI (IntKind.i64.wrap a2) (t_109.length : Int)) : Int).toNat)).bind fun t_123 => some t_123))) else some r1.2.1) : Option (Bool)) = _ := H0
        dsimp only
        cases hb_130 : Nat.beq r1.1 0
        · replace H0 := bif_f hb_130 H0
          simp only [cond_false]
          obtain ⟨hE', hmv⟩ := hE.sub (S0 := S) (mine' := [rb A_33]) (sub_one [rb A_33] [] _)
          have hmr : ∀ b : Nat, some b ∈ ([rb A_33, some l_35] : List (Option Nat)) → WX.heap[b]? = WX.heap[b]? := fun _ _ => rfl
          replace hr0 := Arr.keep hr0 hmv
          replace hR_22 := El.keep hR_22 hmv
          replace hR_23 := El.keep hR_23 hmv
          replace hq_31 := Row.keep hq_31 hmv (fun b hb => hmr b (by rw [← hb]; first | (simp; done) | simp [rb]))
          replace hE := hE'
          clear hE' hmv hmr
          refine wpIn_ret ?_
          refine inBlock_ret ?_
          refine then_ret ?_
          obtain rfl := Option.some.inj H0
          exact retM hI rfl rfl rfl (fun wz hz => ⟨rfl, (hE.below hI).trans hz.below⟩)
        · replace H0 := bif_t hb_130 H0
          simp only [cond_true]
          obtain ⟨hE', hmv⟩ := hE.sub (S0 := S) (mine' := [rb A_33]) (sub_one [rb A_33] [] _)
          have hmr : ∀ b : Nat, some b ∈ ([rb A_33, some l_35] : List (Option Nat)) → WX.heap[b]? = WX.heap[b]? := fun _ _ => rfl
          replace hr0 := Arr.keep hr0 hmv
          replace hR_22 := El.keep hR_22 hmv
          replace hR_23 := El.keep hR_23 hmv
          replace hq_31 := Row.keep hq_31 hmv (fun b hb => hmr b (by rw [← hb]; first | (simp; done) | simp [rb]))
          replace hE := hE'
          clear hE' hmv hmr
          refine wpIn_exit ?_
          refine inBlock_here ?_
          refine then_normal ?_
          refine wpIn_seq ?_
          refine wpIn_region_lit ?_
          refine chunkL_ (live := [52, 51, 22, 21, 8, 7, 16, 13, 6, 5, 3, 0, 1, 2]) (orc := []) hF 2 hI ⟨[⟨52, [], .v (.int .i64 a1)⟩, ⟨51, [], .v (.slice A0 l0.length c0)⟩, ⟨22, [], .v (.func (.func 42) #[] #[.pointer (some (adr (sv_21 0).1)), .pointer (some (adr (sv_21 2).1))])⟩, ⟨21, [], .v (.bool true)⟩, ⟨8, [], .v (.func (.func 42) #[] #[.pointer (some (adr (sv_21 0).1)), .pointer (some (adr (sv_21 2).1))])⟩, ⟨7, [], .p 3 0⟩, ⟨16, [], .v (.bool (decide ((l0.length : Int) > 60)))⟩, ⟨13, [], .v (.bool (!t_3))⟩, ⟨6, [], .p 2 0⟩, ⟨5, [], .p 1 0⟩, ⟨3, [], .p 0 0⟩, ⟨0, [], .v (.slice A0 l0.length c0)⟩, ⟨1, [], .v (.int .i64 a1)⟩, ⟨2, [], .v (.int .u8 a2)⟩], [], [], [([.v (.slice A0 l0.length c0)], 26), ([.v (.int .u8 a2)], 5), ([.v (.bool r1.2.1)], 4), ([.v (.slice A_33 r1.2.2.length c_34)], 45)], some (w.heap.size, none), none⟩ [] rfl (by kernel_rfl) trivial (fun ns_107 a w_108 hI => ?_)
          obtain ⟨hE', hmv, hmr⟩ := Ep.rebase (S0 := S) hE hI
          replace hr0 := Arr.keep hr0 hmv
          replace hR_22 := El.keep hR_22 hmv
          replace hR_23 := El.keep hR_23 hmv
          replace hq_31 := Row.keep hq_31 hmv (fun b hb => hmr b (by rw [← hb]; first | (simp; done) | simp [rb]))
          replace hE := hE'
          replace hI := hI.rebase
          clear hE' hmv hmr
          obtain ⟨t_109, hG_110, H0⟩ := bind_some H0
          refine callH_ (S0 := S) hF hE hI (wanted_none rfl) rfl (args := [.slice A0 l0.length c0, .int .i64 a1]) rfl (enters Try.func24 (by kernel_rfl) rfl) (fun sv_111 => .slice ((sv_111 0).1) t_109.length ((sv_111 0).2)) _ (G_ref17_Of.calls l0 a1 A0 c0 w_108 (S := Lo S w w_108 ns_107 [rb A_33]) hr0 hc0 _ hG_110) (fun sv_111 => ⟨[⟨53, [], .v (.slice ((sv_111 0).1) t_109.length ((sv_111 0).2))⟩, ⟨52, [], .v (.int .i64 a1)⟩, ⟨51, [], .v (.slice A0 l0.length c0)⟩, ⟨22, [], .v (.func (.func 42) #[] #[.pointer (some (adr (sv_21 0).1)), .pointer (some (adr (sv_21 2).1))])⟩, ⟨21, [], .v (.bool true)⟩, ⟨8, [], .v (.func (.func 42) #[] #[.pointer (some (adr (sv_21 0).1)), .pointer (some (adr (sv_21 2).1))])⟩, ⟨7, [], .p 3 0⟩, ⟨16, [], .v (.bool (decide ((l0.length : Int) > 60)))⟩, ⟨13, [], .v (.bool (!t_3))⟩, ⟨6, [], .p 2 0⟩, ⟨5, [], .p 1 0⟩, ⟨3, [], .p 0 0⟩, ⟨0, [], .v (.slice A0 l0.length c0)⟩, ⟨1, [], .v (.int .i64 a1)⟩, ⟨2, [], .v (.int .u8 a2)⟩], [], [], [([.v (.slice A0 l0.length c0)], 26), ([.v (.int .u8 a2)], 5), ([.v (.bool r1.2.1)], 4), ([.v (.slice A_33 r1.2.2.length c_34)], 45)], some (w.heap.size, none), none⟩) (fun sv_111 => by kernel_rfl) (fun sv_111 a w_113 hput hE' hI' hmv hmr hres hR => ?_)
          replace hr0 := Arr.keep hr0 hmv
          replace hR_22 := El.keep hR_22 hmv
          replace hR_23 := El.keep hR_23 hmv
          replace hq_31 := Row.keep hq_31 hmv (fun b hb => hmr b (by rw [← hb]; first | (simp; done) | simp [rb]) (by simp))
          replace hE := hE'
          replace hI := hI'
          clear hE' hI' hmv hmr
          obtain ⟨hR_112, hR_112c⟩ := hR
          replace hR_112 := Arr.keep hR_112 hres
          clear hres
          refine chunkL_ (live := [11, 22, 21, 8, 7, 16, 13, 6, 5, 3, 0, 1, 2]) (orc := []) hF 1 hI ⟨[⟨11, [], .v (.slice ((sv_111 0).1) t_109.length ((sv_111 0).2))⟩, ⟨22, [], .v (.func (.func 42) #[] #[.pointer (some (adr (sv_21 0).1)), .pointer (some (adr (sv_21 2).1))])⟩, ⟨21, [], .v (.bool true)⟩, ⟨8, [], .v (.func (.func 42) #[] #[.pointer (some (adr (sv_21 0).1)), .pointer (some (adr (sv_21 2).1))])⟩, ⟨7, [], .p 3 0⟩, ⟨16, [], .v (.bool (decide ((l0.length : Int) > 60)))⟩, ⟨13, [], .v (.bool (!t_3))⟩, ⟨6, [], .p 2 0⟩, ⟨5, [], .p 1 0⟩, ⟨3, [], .p 0 0⟩, ⟨0, [], .v (.slice A0 l0.length c0)⟩, ⟨1, [], .v (.int .i64 a1)⟩, ⟨2, [], .v (.int .u8 a2)⟩], [], [], [([.v (.slice A0 l0.length c0)], 26), ([.v (.int .u8 a2)], 5), ([.v (.bool r1.2.1)], 4), ([.v (.slice A_33 r1.2.2.length c_34)], 45)], some (w.heap.size, none), none⟩ [] rfl (by kernel_rfl) trivial (fun ns_114 a w_115 hI => ?_)
          refine wpListIn_nil ?_
          refine then_normal ?_
          refine wpIn_seq ?_
          obtain ⟨hE', hmv, hmr⟩ := Ep.rebase (S0 := S) hE hI
          replace hr0 := Arr.keep hr0 hmv
          replace hR_22 := El.keep hR_22 hmv
          replace hR_23 := El.keep hR_23 hmv
          replace hq_31 := Row.keep hq_31 hmv (fun b hb => hmr b (by rw [← hb]; first | (simp; done) | simp [rb]))
          replace hR_112 := Arr.keep hR_112 hmv
          replace hE := hE'
          replace hI := hI.rebase
          clear hE' hmv hmr
          obtain ⟨hE', hmv, hq_31, hcap_121⟩ := Row.still (l1 := []) (l2 := []) hq_31 hE
          have hmr : ∀ b : Nat, some b ∈ ([rb A_33] : List (Option Nat)) → w_115.heap[b]? = w_115.heap[b]? := fun _ _ => rfl
          replace hr0 := Arr.keep hr0 hmv
          replace hR_22 := El.keep hR_22 hmv
          replace hR_23 := El.keep hR_23 hmv
          replace hR_112 := Arr.keep hR_112 hmv
          replace hE := hE'
          clear hE' hmv hmr
          replace hI := hI.fin (live := [11, 22, 21, 8, 7, 16, 13, 6, 5, 3, 0, 1, 2]) (σ2 := ⟨[⟨11, [], .v (.slice ((sv_111 0).1) t_109.length ((sv_111 0).2))⟩, ⟨22, [], .v (.func (.func 42) #[] #[.pointer (some (adr (sv_21 0).1)), .pointer (some (adr (sv_21 2).1))])⟩, ⟨21, [], .v (.bool true)⟩, ⟨8, [], .v (.func (.func 42) #[] #[.pointer (some (adr (sv_21 0).1)), .pointer (some (adr (sv_21 2).1))])⟩, ⟨7, [], .p 3 0⟩, ⟨16, [], .v (.bool (decide ((l0.length : Int) > 60)))⟩, ⟨13, [], .v (.bool (!t_3))⟩, ⟨6, [], .p 2 0⟩, ⟨5, [], .p 1 0⟩, ⟨3, [], .p 0 0⟩, ⟨0, [], .v (.slice A0 l0.length c0)⟩, ⟨1, [], .v (.int .i64 a1)⟩, ⟨2, [], .v (.int .u8 a2)⟩], [], [], [([.v (.slice A0 l0.length c0)], 26), ([.v (.int .u8 a2)], 5), ([.v (.bool r1.2.1)], 4), ([.v (.slice A_33 r1.2.2.length c_34)], 45)], some (w.heap.size, none), none⟩) (by kernel_rfl)
          obtain ⟨hN_122, H0⟩ := req_some H0
          replace hN_122 := inb_le hN_122
          obtain ⟨t_123, hG_124, H0⟩ := bind_some H0
          refine drawnS_ hI (by kernel_rfl) [.q 54 (.v (.slice A_33 r1.2.2.length c_34)) [], .q 55 (.v (.slice ((sv_111 0).1) t_109.length ((sv_111 0).2))) [], .q 56 (.v (.int .u8 a2)) [], .q 57 (.v (.int .i64 (IntKind.i64.wrap a2))) [], .q 58 (.v (.slice ((sv_111 0).1) t_109.length ((sv_111 0).2))) [], .q 59 (.v (.int .i64 (t_109.length : Int))) [], .q 60 (.v (.int .i64 (mnI (IntKind.i64.wrap a2) (t_109.length : Int)))) [], .q 61 (.v (.slice ((sv_111 0).1) (t_109.take ((mnI (IntKind.i64.wrap a2) (t_109.length : Int)) : Int).toNat).length ((sv_111 0).2))) [.run true (vS (Instr.sliceAt 45 (.slice ((sv_111 0).1) t_109.length ((sv_111 0).2)) none (some (.int .i64 (mnI (IntKind.i64.wrap a2) (t_109.length : Int)))) none)) (.slice ((sv_111 0).1) (t_109.take ((mnI (IntKind.i64.wrap a2) (t_109.length : Int)) : Int).toNat).length ((sv_111 0).2))], .q 62 (.v (.bool t_123)) [.call true 25 [.slice A_33 r1.2.2.length c_34, .slice ((sv_111 0).1) (t_109.take ((mnI (IntKind.i64.wrap a2) (t_109.length : Int)) : Int).toNat).length ((sv_111 0).2)] (.bool t_123)], .no] (by kernel_rfl) (fun fuel listed w_125 hJ hsz hu => ?_)
          refine stage_ hJ hF hsz hu [.q [] [], .q [] [], .q [] [], .q [2] [], .q [] [], .q [4] [], .q [3, 5] [], .q [1, 6] [[.slice ((sv_111 0).1) (t_109.take ((mnI (IntKind.i64.wrap a2) (t_109.length : Int)) : Int).toNat).length ((sv_111 0).2)]], .q [0, 7] [[.bool t_123]], .no] (by kernel_rfl) (by kernel_rfl) (by kernel_rfl) (by kernel_rfl) 9 rfl (by kernel_rfl) (by kernel_rfl) [8] rfl (by kernel_rfl) (by kernel_rfl) ⟨(fun _ wz hk => vS_run (slice_hi (sz := 1) Try.underlying45 (by kernel_rfl) hN_122.1 hN_122.2 hR_112c wz)), ob_call (enters Try.func25 (by kernel_rfl) rfl) (fun hg wz hk => G_ref01_Same.calls r1.2.2 (t_109.take ((mnI (IntKind.i64.wrap a2) (t_109.length : Int)) : Int).toNat) A_33 c_34 ((sv_111 0).1) ((sv_111 0).2) wz (S := fun _ => True) (Arr.any (Arr.keep hq_31 (Lo.on hk))) hcap_121 (Arr.any (Arr.keep (Arr.take hR_112 _) (Lo.on hk))) (take_cap hR_112c) _ hG_124), trivial⟩ (fun fuel listed a w_126 hJ hI hW h1 hnl hsz hu => ?_)
          refine store_ hF hI hW rfl rfl (k := 2) (cs := [.v (.bool t_123)]) (T := 4) (by kernel_rfl) (by kernel_rfl) rfl (fun a w_127 hput hI => ?_)
          refine next_ hJ h1 hnl hsz hu (by kernel_rfl) (by kernel_rfl) hput hI (live := [11, 22, 21, 8, 7, 16, 13, 6, 5, 3, 0, 1, 2]) ⟨[⟨11, [], .v (.slice ((sv_111 0).1) t_109.length ((sv_111 0).2))⟩, ⟨22, [], .v (.func (.func 42) #[] #[.pointer (some (adr (sv_21 0).1)), .pointer (some (adr (sv_21 2).1))])⟩, ⟨21, [], .v (.bool true)⟩, ⟨8, [], .v (.func (.func 42) #[] #[.pointer (some (adr (sv_21 0).1)), .pointer (some (adr (sv_21 2).1))])⟩, ⟨7, [], .p 3 0⟩, ⟨16, [], .v (.bool (decide ((l0.length : Int) > 60)))⟩, ⟨13, [], .v (.bool (!t_3))⟩, ⟨6, [], .p 2 0⟩, ⟨5, [], .p 1 0⟩, ⟨3, [], .p 0 0⟩, ⟨0, [], .v (.slice A0 l0.length c0)⟩, ⟨1, [], .v (.int .i64 a1)⟩, ⟨2, [], .v (.int .u8 a2)⟩], [], [], [([.v (.slice A0 l0.length c0)], 26), ([.v (.int .u8 a2)], 5), ([.v (.bool t_123)], 4), ([.v (.slice A_33 r1.2.2.length c_34)], 45)], some (w.heap.size, none), none⟩ (by kernel_rfl) none (by kernel_rfl) [] [.q 54 (.v (.slice A_33 r1.2.2.length c_34)) [], .q 55 (.v (.slice ((sv_111 0).1) t_109.length ((sv_111 0).2))) [], .q 56 (.v (.int .u8 a2)) [], .q 57 (.v (.int .i64 (IntKind.i64.wrap a2))) [], .q 58 (.v (.slice ((sv_111 0).1) t_109.length ((sv_111 0).2))) [], .q 59 (.v (.int .i64 (t_109.length : Int))) [], .q 60 (.v (.int .i64 (mnI (IntKind.i64.wrap a2) (t_109.length : Int)))) [], .q 61 (.v (.slice ((sv_111 0).1) (t_109.take ((mnI (IntKind.i64.wrap a2) (t_109.length : Int)) : Int).toNat).length ((sv_111 0).2))) [.run true (vS (Instr.sliceAt 45 (.slice ((sv_111 0).1) t_109.length ((sv_111 0).2)) none (some (.int .i64 (mnI (IntKind.i64.wrap a2) (t_109.length : Int)))) none)) (.slice ((sv_111 0).1) (t_109.take ((mnI (IntKind.i64.wrap a2) (t_109.length : Int)) : Int).toNat).length ((sv_111 0).2))], .q 62 (.v (.bool t_123)) [.call true 25 [.slice A_33 r1.2.2.length c_34, .slice ((sv_111 0).1) (t_109.take ((mnI (IntKind.i64.wrap a2) (t_109.length : Int)) : Int).toNat).length ((sv_111 0).2)] (.bool t_123)], .t none none] (by kernel_rfl) (by kernel_rfl) (by kernel_rfl) (fun hJ hsz hu => ?_)
          refine end_ hJ hF hsz hu [.q [] [], .q [] [], .q [] [], .q [2] [], .q [] [], .q [4] [], .q [3, 5] [], .q [1, 6] [[.slice ((sv_111 0).1) (t_109.take ((mnI (IntKind.i64.wrap a2) (t_109.length : Int)) : Int).toNat).length ((sv_111 0).2)]], .q [0, 7] [[.bool t_123]], .t none] (by kernel_rfl) (by kernel_rfl) (by kernel_rfl) (by kernel_rfl) (by kernel_rfl) (by kernel_rfl) (live := [11, 22, 21, 8, 7, 16, 13, 6, 5, 3, 0, 1, 2]) ⟨[⟨11, [], .v (.slice ((sv_111 0).1) t_109.length ((sv_111 0).2))⟩, ⟨22, [], .v (.func (.func 42) #[] #[.pointer (some (adr (sv_21 0).1)), .pointer (some (adr (sv_21 2).1))])⟩, ⟨21, [], .v (.bool true)⟩, ⟨8, [], .v (.func (.func 42) #[] #[.pointer (some (adr (sv_21 0).1)), .pointer (some (adr (sv_21 2).1))])⟩, ⟨7, [], .p 3 0⟩, ⟨16, [], .v (.bool (decide ((l0.length : Int) > 60)))⟩, ⟨13, [], .v (.bool (!t_3))⟩, ⟨6, [], .p 2 0⟩, ⟨5, [], .p 1 0⟩, ⟨3, [], .p 0 0⟩, ⟨0, [], .v (.slice A0 l0.length c0)⟩, ⟨1, [], .v (.int .i64 a1)⟩, ⟨2, [], .v (.int .u8 a2)⟩], [], [], [([.v (.slice A0 l0.length c0)], 26), ([.v (.int .u8 a2)], 5), ([.v (.bool t_123)], 4), ([.v (.slice A_33 r1.2.2.length c_34)], 45)], some (w.heap.size, none), none⟩ (by kernel_rfl) ⟨(fun _ wz hk => vS_run (slice_hi (sz := 1) Try.underlying45 (by kernel_rfl) hN_122.1 hN_122.2 hR_112c wz)), ob_call (enters Try.func25 (by kernel_rfl) rfl) (fun hg wz hk => G_ref01_Same.calls r1.2.2 (t_109.take ((mnI (IntKind.i64.wrap a2) (t_109.length : Int)) : Int).toNat) A_33 c_34 ((sv_111 0).1) ((sv_111 0).2) wz (S := fun _ => True) (Arr.any (Arr.keep hq_31 (Lo.on hk))) hcap_121 (Arr.any (Arr.keep (Arr.take hR_112 _) (Lo.on hk))) (take_cap hR_112c) _ hG_124), trivial⟩ (fun a w_128 hI => ?_)
          refine then_normal ?_
          refine wpIn_ret ?_
          obtain rfl := Option.some.inj H0
          exact retM hI rfl rfl rfl (fun wz hz => ⟨rfl, (hE.below hI).trans hz.below⟩)

end Go.Proofs.Ytnfnincmhobpaaa
