import Derived.Test.YtnfnincmhobpaabGBx0
set_option linter.unusedVariables false
set_option linter.unusedSimpArgs false
namespace Go.Proofs.Ytnfnincmhobpaab
open Go Go.RowKit Go.Eng Go.Proofs

/-! ### porthole/portholeref07.windows: function 74 -/
noncomputable def G_ref07_windows.b1 (x0 : Config) (a1 : Int) (a2 : Int) (s1 : Int × Bool) : Option (Stp (Int × Bool) (Ex (Int × Bool) (Bool))) := (bif decide (s1.1 < (((rdA_St27 x0.Frames a1).Windows).length : Int)) then (req (inb s1.1 ((rdA_St27 x0.Frames a1).Windows).length) ((cal (a2 == 14) (G_ref07_part x0 ((rd ((rdA_St27 x0.Frames a1).Windows) s1.1).Part)) default).bind fun t_41 => (req (imp ((a2 == 14) && (!(!t_41))) (inb ((rd ((rdA_St27 x0.Frames a1).Windows) s1.1).Part) x0.Parts.length)) (bif ((a2 == 14) && ((!t_41) || (((rd x0.Parts ((rd ((rdA_St27 x0.Frames a1).Windows) s1.1).Part)).Core) != a1))) then some (.out (.ret true)) else (req (imp ((a2 == 15) && (!(decide (((rd ((rdA_St27 x0.Frames a1).Windows) s1.1).Start) < 0) || decide (((rd ((rdA_St27 x0.Frames a1).Windows) s1.1).Len) < 1)))) (inb a1 2)) (req (imp ((a2 == 15) && (!((decide (((rd ((rdA_St27 x0.Frames a1).Windows) s1.1).Start) < 0) || decide (((rd ((rdA_St27 x0.Frames a1).Windows) s1.1).Len) < 1)) || decide (((rd ((rdA_St27 x0.Frames a1).Windows) s1.1).Start) > ((rdA_St27 x0.Frames a1).Length))))) (inb a1 2)) (bif ((a2 == 15) && (((decide (((rd ((rdA_St27 x0.Frames a1).Windows) s1.1).Start) < 0) || decide (((rd ((rdA_St27 x0.Frames a1).Windows) s1.1).Len) < 1)) || decide (((rd ((rdA_St27 x0.Frames a1).Windows) s1.1).Start) > ((rdA_St27 x0.Frames a1).Length))) || decide (((rd ((rdA_St27 x0.Frames a1).Windows) s1.1).Len) > (IntKind.i64.wrap (((rdA_St27 x0.Frames a1).Length) - ((rd ((rdA_St27 x0.Frames a1).Windows) s1.1).Start)))))) then some (.out (.ret true)) else ((cal ((a2 == 16) && decide (s1.1 > 0)) (G_ref07_word ((rd ((rdA_St27 x0.Frames a1).Windows) s1.1).Start)) default).bind fun t_62 => (req (imp (((a2 == 16) && decide (s1.1 > 0)) && t_62) (inb (IntKind.i64.wrap (s1.1 - 1)) ((rdA_St27 x0.Frames a1).Windows).length)) ((cal (((a2 == 16) && decide (s1.1 > 0)) && t_62) (G_ref07_word ((rd ((rdA_St27 x0.Frames a1).Windows) (IntKind.i64.wrap (s1.1 - 1))).Start)) default).bind fun t_68 => (req (imp ((((a2 == 16) && decide (s1.1 > 0)) && t_62) && t_68) (inb (IntKind.i64.wrap (s1.1 - 1)) ((rdA_St27 x0.Frames a1).Windows).length)) ((cal ((((a2 == 16) && decide (s1.1 > 0)) && t_62) && t_68) (G_ref07_word ((rd ((rdA_St27 x0.Frames a1).Windows) (IntKind.i64.wrap (s1.1 - 1))).Len)) default).bind fun t_74 => (req (imp (((((a2 == 16) && decide (s1.1 > 0)) && t_62) && t_68) && t_74) (inb (IntKind.i64.wrap (s1.1 - 1)) ((rdA_St27 x0.Frames a1).Windows).length)) (req (imp (((((a2 == 16) && decide (s1.1 > 0)) && t_62) && t_68) && t_74) (inb (IntKind.i64.wrap (s1.1 - 1)) ((rdA_St27 x0.Frames a1).Windows).length)) (bif ((((((a2 == 16) && decide (s1.1 > 0)) && t_62) && t_68) && t_74) && decide (((rd ((rdA_St27 x0.Frames a1).Windows) s1.1).Start) < (IntKind.i64.wrap (((rd ((rdA_St27 x0.Frames a1).Windows) (IntKind.i64.wrap (s1.1 - 1))).Start) + ((rd ((rdA_St27 x0.Frames a1).Windows) (IntKind.i64.wrap (s1.1 - 1))).Len))))) then some (.out (.ret true)) else some (.next ((IntKind.i64.wrap (s1.1 + 1)), s1.2))))))))))))))))) else some (.out (.brk (s1.1, s1.2))))
noncomputable def G_ref07_windows (x0 : Config) (a1 : Int) (a2 : Int) : Option (Bool) := (req (inb a1 2) (bif (a2 == 12) then (req (inb a1 2) (req (imp (!(decide (((rdA_St27 x0.Frames a1).Length) < 1))) (inb a1 2)) (some (decide (((rdA_St27 x0.Frames a1).Length) < 1) || decide (((rdA_St27 x0.Frames a1).Length) > 64))))) else (bif (a2 == 13) then some (decide ((((rdA_St27 x0.Frames a1).Windows).length : Int) > 16)) else ((loopω (G_ref07_windows.b1 x0 a1 a2) (0, false)).bind fun o => o.on (fun s1 => some false) (fun r => some r)))))
set_option maxRecDepth 100000 in
set_option maxHeartbeats 4000000 in
theorem G_ref07_windows.calls (x0 : Config) (a1 : Int) (a2 : Int) (sv0 : SV) (w : World) {S : Nat → Prop} (hx0 : (kd_Config).cont S w x0 sv0) (r : Bool) (h : G_ref07_windows x0 a1 a2 = some r) :
    Calls Try.prog 74 #[.agg ((kd_Config).cells x0 sv0).toArray, .int .i64 a1, .int .i64 a2] w fun e w' => e = .returned (.bool r) ∧ Below w.heap.size w w' := by
  replace hx0 := Kd.lo _ hx0
  unfold G_ref07_windows at h
  have H0 := h
  clear h
  refine enter Try.func74 rfl [.agg ((kd_Config).cells x0 sv0).toArray, .int .i64 a1, .int .i64 a2] (n := 148) rfl (Nat.le_of_ble_eq_true rfl) (fun a hI => ?_)
  have hF : FOpen Fence.wide := .inl rfl
  have hE := Ep.start w
  refine seq_region (live := [6, 3, 0, 1, 2]) (orc := []) hF hI ⟨[⟨6, [], .v (.bool false)⟩, ⟨3, [], .p 0 0⟩, ⟨0, [], .v (.agg ((kd_Config).cells x0 sv0).toArray)⟩, ⟨1, [], .v (.int .i64 a1)⟩, ⟨2, [], .v (.int .i64 a2)⟩], [], [], [((((kd_Config).cells x0 sv0).map EV.v), 29)], none, none⟩ [] (by kernel_rfl) trivial (fun ns_1 a w_2 hI _ => ?_)
  obtain ⟨hE', hmv, hmr⟩ := Ep.rebase (S0 := S) hE hI
  replace hx0 := Kd.keep _ hx0 hmv
  replace hE := hE'
  replace hI := hI.rebase
  clear hE' hmv hmr
  have hct := contI (S := Lo S w w_2 ns_1 []) (w := w_2) (d := kd_Config) (x := x0) (sv := (svL [((sv0 0).1, (sv0 0).2), ((sv0 1).1, (sv0 1).2), ((sv0 2).1, (sv0 2).2), ((sv0 3).1, (sv0 3).2)])) ⟨⟨hx0.1.1, hx0.1.2⟩, ⟨hx0.2.1.1, hx0.2.1.2⟩, ⟨hx0.2.2.1.1, hx0.2.2.1.2⟩, ⟨hx0.2.2.2.1.1, hx0.2.2.2.1.2⟩, trivial⟩
  obtain ⟨B_3, ns_5, hE', hI', hmv, hB_4⟩ := freeze_ (S0 := S) (d := kd_Config) hE hI 0 x0 (svL [((sv0 0).1, (sv0 0).2), ((sv0 1).1, (sv0 1).2), ((sv0 2).1, (sv0 2).2), ((sv0 3).1, (sv0 3).2)]) 29 rfl
  replace hB_4 := hB_4 hct
  clear hct
  have hmr : ∀ b : Nat, some b ∈ ([] : List (Option Nat)) → w_2.heap[b]? = w_2.heap[b]? := fun _ _ => rfl
  replace hx0 := Kd.keep _ hx0 hmv
  replace hE := hE'
  replace hI := hI'
  clear hE' hI' hmv hmr
  obtain ⟨ns_6, hE', hI', hmv⟩ := hE.cut (S0 := S) hI [6, 3, 0, 1, 2] 0 ⟨[⟨6, [], .v (.bool false)⟩, ⟨3, [], .v (.pointer (some B_3))⟩, ⟨0, [], .v (.agg ((kd_Config).cells x0 sv0).toArray)⟩, ⟨1, [], .v (.int .i64 a1)⟩, ⟨2, [], .v (.int .i64 a2)⟩], [], [], [], none, none⟩ (by kernel_rfl)
  have hmr : ∀ b : Nat, some b ∈ ([] : List (Option Nat)) → w_2.heap[b]? = w_2.heap[b]? := fun _ _ => rfl
  replace hx0 := Kd.keep _ hx0 hmv
  replace hB_4 := El.keep hB_4 hmv
  replace hE := hE'
  replace hI := hI'
  clear hE' hI' hmv hmr
  obtain ⟨hN_7, H0⟩ := req_some H0
  have hE_9 := elA_St27 (El.part (e := kd_St27) hB_4 2 x0.Frames (svO (svL [((sv0 0).1, (sv0 0).2), ((sv0 1).1, (sv0 1).2), ((sv0 2).1, (sv0 2).2), ((sv0 3).1, (sv0 3).2)]) 2) ⟨(hB_4).cont.2.2.1, (hB_4).cont.2.2.2.1, trivial⟩ rfl) hN_7
  refine seq_region (live := [7, 6, 3, 0, 1, 2]) (orc := [[.slice (((svO (svO (svL [((sv0 0).1, (sv0 0).2), ((sv0 1).1, (sv0 1).2), ((sv0 2).1, (sv0 2).2), ((sv0 3).1, (sv0 3).2)]) 2) ((a1 : Int).toNat * 1)) 0).1) ((rdA_St27 x0.Frames a1).Windows).length (((svO (svO (svL [((sv0 0).1, (sv0 0).2), ((sv0 1).1, (sv0 1).2), ((sv0 2).1, (sv0 2).2), ((sv0 3).1, (sv0 3).2)]) 2) ((a1 : Int).toNat * 1)) 0).2)]]) hF hI ⟨[⟨7, [], .v (.slice (((svO (svO (svL [((sv0 0).1, (sv0 0).2), ((sv0 1).1, (sv0 1).2), ((sv0 2).1, (sv0 2).2), ((sv0 3).1, (sv0 3).2)]) 2) ((a1 : Int).toNat * 1)) 0).1) ((rdA_St27 x0.Frames a1).Windows).length (((svO (svO (svL [((sv0 0).1, (sv0 0).2), ((sv0 1).1, (sv0 1).2), ((sv0 2).1, (sv0 2).2), ((sv0 3).1, (sv0 3).2)]) 2) ((a1 : Int).toNat * 1)) 0).2))⟩, ⟨6, [], .v (.bool false)⟩, ⟨3, [], .v (.pointer (some B_3))⟩, ⟨0, [], .v (.agg ((kd_Config).cells x0 sv0).toArray)⟩, ⟨1, [], .v (.int .i64 a1)⟩, ⟨2, [], .v (.int .i64 a2)⟩], [], [], [], none, none⟩ [.need true (0 ≤ a1 ∧ a1 < ((2 : Nat) : Int)), .cell true (((B_3.add 2).add ((a1 : Int).toNat * 2)).add 1) [.slice (((svO (svO (svL [((sv0 0).1, (sv0 0).2), ((sv0 1).1, (sv0 1).2), ((sv0 2).1, (sv0 2).2), ((sv0 3).1, (sv0 3).2)]) 2) ((a1 : Int).toNat * 1)) 0).1) ((rdA_St27 x0.Frames a1).Windows).length (((svO (svO (svL [((sv0 0).1, (sv0 0).2), ((sv0 1).1, (sv0 1).2), ((sv0 2).1, (sv0 2).2), ((sv0 3).1, (sv0 3).2)]) 2) ((a1 : Int).toNat * 1)) 0).2)]] (by kernel_rfl) ⟨ob_inb (fun _ => hN_7), ob_el (fun _ => hE_9) 1 [.slice (((svO (svO (svL [((sv0 0).1, (sv0 0).2), ((sv0 1).1, (sv0 1).2), ((sv0 2).1, (sv0 2).2), ((sv0 3).1, (sv0 3).2)]) 2) ((a1 : Int).toNat * 1)) 0).1) ((rdA_St27 x0.Frames a1).Windows).length (((svO (svO (svL [((sv0 0).1, (sv0 0).2), ((sv0 1).1, (sv0 1).2), ((sv0 2).1, (sv0 2).2), ((sv0 3).1, (sv0 3).2)]) 2) ((a1 : Int).toNat * 1)) 0).2)] rfl, trivial⟩ (fun ns_10 a w_11 hI _ => ?_)
  refine wpIn_seq ?_
  refine seq_region (live := [16, 7, 6, 3, 0, 1, 2]) (orc := []) hF hI ⟨[⟨16, [], .v (.bool (a2 == 12))⟩, ⟨7, [], .v (.slice (((svO (svO (svL [((sv0 0).1, (sv0 0).2), ((sv0 1).1, (sv0 1).2), ((sv0 2).1, (sv0 2).2), ((sv0 3).1, (sv0 3).2)]) 2) ((a1 : Int).toNat * 1)) 0).1) ((rdA_St27 x0.Frames a1).Windows).length (((svO (svO (svL [((sv0 0).1, (sv0 0).2), ((sv0 1).1, (sv0 1).2), ((sv0 2).1, (sv0 2).2), ((sv0 3).1, (sv0 3).2)]) 2) ((a1 : Int).toNat * 1)) 0).2))⟩, ⟨6, [], .v (.bool false)⟩, ⟨3, [], .v (.pointer (some B_3))⟩, ⟨0, [], .v (.agg ((kd_Config).cells x0 sv0).toArray)⟩, ⟨1, [], .v (.int .i64 a1)⟩, ⟨2, [], .v (.int .i64 a2)⟩], [], [], [], none, none⟩ [] (by kernel_rfl) trivial (fun ns_12 a w_13 hI _ => ?_)
  refine cond_ hI ((a2 == 12)) rfl (fun hc_14 => ?_) (fun hc_14 => ?_)
  · replace H0 := bif_t hc_14 H0
    obtain ⟨hN_15, H0⟩ := req_some H0
    have hE_17 := elA_St27 (El.part (e := kd_St27) hB_4 2 x0.Frames (svO (svL [((sv0 0).1, (sv0 0).2), ((sv0 1).1, (sv0 1).2), ((sv0 2).1, (sv0 2).2), ((sv0 3).1, (sv0 3).2)]) 2) ⟨(hB_4).cont.2.2.1, (hB_4).cont.2.2.2.1, trivial⟩ rfl) hN_15
    obtain ⟨hN_18, H0⟩ := req_some H0
    have hE_20 := fun (hg : (!(decide (((rdA_St27 x0.Frames a1).Length) < 1))) = true) => elA_St27 (El.part (e := kd_St27) hB_4 2 x0.Frames (svO (svL [((sv0 0).1, (sv0 0).2), ((sv0 1).1, (sv0 1).2), ((sv0 2).1, (sv0 2).2), ((sv0 3).1, (sv0 3).2)]) 2) ⟨(hB_4).cont.2.2.1, (hB_4).cont.2.2.2.1, trivial⟩ rfl) (imp_spec hN_18 hg)
    refine seq_region (live := [6, 16, 7, 3, 0, 1, 2]) (orc := [[.int .i64 ((rdA_St27 x0.Frames a1).Length)], [.int .i64 ((rdA_St27 x0.Frames a1).Length)]]) hF hI ⟨[⟨6, [], .v (.bool (decide (((rdA_St27 x0.Frames a1).Length) < 1) || decide (((rdA_St27 x0.Frames a1).Length) > 64)))⟩, ⟨16, [], .v (.bool (a2 == 12))⟩, ⟨7, [], .v (.slice (((svO (svO (svL [((sv0 0).1, (sv0 0).2), ((sv0 1).1, (sv0 1).2), ((sv0 2).1, (sv0 2).2), ((sv0 3).1, (sv0 3).2)]) 2) ((a1 : Int).toNat * 1)) 0).1) ((rdA_St27 x0.Frames a1).Windows).length (((svO (svO (svL [((sv0 0).1, (sv0 0).2), ((sv0 1).1, (sv0 1).2), ((sv0 2).1, (sv0 2).2), ((sv0 3).1, (sv0 3).2)]) 2) ((a1 : Int).toNat * 1)) 0).2))⟩, ⟨3, [], .v (.pointer (some B_3))⟩, ⟨0, [], .v (.agg ((kd_Config).cells x0 sv0).toArray)⟩, ⟨1, [], .v (.int .i64 a1)⟩, ⟨2, [], .v (.int .i64 a2)⟩], [], [], [], none, none⟩ [.need true (0 ≤ a1 ∧ a1 < ((2 : Nat) : Int)), .cell true ((B_3.add 2).add ((a1 : Int).toNat * 2)) [.int .i64 ((rdA_St27 x0.Frames a1).Length)], .need (!(decide (((rdA_St27 x0.Frames a1).Length) < 1))) (0 ≤ a1 ∧ a1 < ((2 : Nat) : Int)), .cell (!(decide (((rdA_St27 x0.Frames a1).Length) < 1))) ((B_3.add 2).add ((a1 : Int).toNat * 2)) [.int .i64 ((rdA_St27 x0.Frames a1).Length)]] (by kernel_rfl) ⟨ob_inb (fun _ => hN_15), ob_el (fun _ => hE_17) 0 [.int .i64 ((rdA_St27 x0.Frames a1).Length)] rfl, ob_inb (fun hg => imp_spec hN_18 hg), ob_el (fun hg => hE_20 hg) 0 [.int .i64 ((rdA_St27 x0.Frames a1).Length)] rfl, trivial⟩ (fun ns_21 a w_22 hI _ => ?_)
    refine wpIn_ret ?_
    refine then_ret ?_
    obtain rfl := Option.some.inj H0
    exact ret1 hI rfl rfl ⟨rfl, hE.below hI⟩
  · replace H0 := bif_f hc_14 H0
    refine wpIn_skip ?_
    refine then_normal ?_
    refine wpIn_seq ?_
    refine seq_region (live := [32, 16, 7, 6, 3, 0, 1, 2]) (orc := []) hF hI ⟨[⟨32, [], .v (.bool (a2 == 13))⟩, ⟨16, [], .v (.bool (a2 == 12))⟩, ⟨7, [], .v (.slice (((svO (svO (svL [((sv0 0).1, (sv0 0).2), ((sv0 1).1, (sv0 1).2), ((sv0 2).1, (sv0 2).2), ((sv0 3).1, (sv0 3).2)]) 2) ((a1 : Int).toNat * 1)) 0).1) ((rdA_St27 x0.Frames a1).Windows).length (((svO (svO (svL [((sv0 0).1, (sv0 0).2), ((sv0 1).1, (sv0 1).2), ((sv0 2).1, (sv0 2).2), ((sv0 3).1, (sv0 3).2)]) 2) ((a1 : Int).toNat * 1)) 0).2))⟩, ⟨6, [], .v (.bool false)⟩, ⟨3, [], .v (.pointer (some B_3))⟩, ⟨0, [], .v (.agg ((kd_Config).cells x0 sv0).toArray)⟩, ⟨1, [], .v (.int .i64 a1)⟩, ⟨2, [], .v (.int .i64 a2)⟩], [], [], [], none, none⟩ [] (by kernel_rfl) trivial (fun ns_23 a w_24 hI _ => ?_)
    refine cond_ hI ((a2 == 13)) rfl (fun hc_25 => ?_) (fun hc_25 => ?_)
    · replace H0 := bif_t hc_25 H0
      refine seq_region (live := [6, 32, 16, 7, 3, 0, 1, 2]) (orc := []) hF hI ⟨[⟨6, [], .v (.bool (decide ((((rdA_St27 x0.Frames a1).Windows).length : Int) > 16)))⟩, ⟨32, [], .v (.bool (a2 == 13))⟩, ⟨16, [], .v (.bool (a2 == 12))⟩, ⟨7, [], .v (.slice (((svO (svO (svL [((sv0 0).1, (sv0 0).2), ((sv0 1).1, (sv0 1).2), ((sv0 2).1, (sv0 2).2), ((sv0 3).1, (sv0 3).2)]) 2) ((a1 : Int).toNat * 1)) 0).1) ((rdA_St27 x0.Frames a1).Windows).length (((svO (svO (svL [((sv0 0).1, (sv0 0).2), ((sv0 1).1, (sv0 1).2), ((sv0 2).1, (sv0 2).2), ((sv0 3).1, (sv0 3).2)]) 2) ((a1 : Int).toNat * 1)) 0).2))⟩, ⟨3, [], .v (.pointer (some B_3))⟩, ⟨0, [], .v (.agg ((kd_Config).cells x0 sv0).toArray)⟩, ⟨1, [], .v (.int .i64 a1)⟩, ⟨2, [], .v (.int .i64 a2)⟩], [], [], [], none, none⟩ [] (by kernel_rfl) trivial (fun ns_26 a w_27 hI _ => ?_)
      refine wpIn_ret ?_
      refine then_ret ?_
      obtain rfl := Option.some.inj H0
      exact ret1 hI rfl rfl ⟨rfl, hE.below hI⟩
    · replace H0 := bif_f hc_25 H0
      refine wpIn_skip ?_
      refine then_normal ?_
      refine wpIn_seq ?_
      refine seq_region (live := [8, 32, 16, 7, 6, 3, 0, 1, 2]) (orc := []) hF hI ⟨[⟨8, [], .v (.int .i64 0)⟩, ⟨32, [], .v (.bool (a2 == 13))⟩, ⟨16, [], .v (.bool (a2 == 12))⟩, ⟨7, [], .v (.slice (((svO (svO (svL [((sv0 0).1, (sv0 0).2), ((sv0 1).1, (sv0 1).2), ((sv0 2).1, (sv0 2).2), ((sv0 3).1, (sv0 3).2)]) 2) ((a1 : Int).toNat * 1)) 0).1) ((rdA_St27 x0.Frames a1).Windows).length (((svO (svO (svL [((sv0 0).1, (sv0 0).2), ((sv0 1).1, (sv0 1).2), ((sv0 2).1, (sv0 2).2), ((sv0 3).1, (sv0 3).2)]) 2) ((a1 : Int).toNat * 1)) 0).2))⟩, ⟨6, [], .v (.bool false)⟩, ⟨3, [], .v (.pointer (some B_3))⟩, ⟨0, [], .v (.agg ((kd_Config).cells x0 sv0).toArray)⟩, ⟨1, [], .v (.int .i64 a1)⟩, ⟨2, [], .v (.int .i64 a2)⟩], [], [], [], none, none⟩ [] (by kernel_rfl) trivial (fun ns_28 a w_29 hI _ => ?_)
      obtain ⟨o_90, hL_91, H0⟩ := bind_some H0
      refine block_loop (fun (s1 : Int × Bool) a w_96 => ∃ ns, St w_2 ns_6 148 ⟨[⟨8, [], .v (.int .i64 s1.1)⟩, ⟨32, [], .v (.bool (a2 == 13))⟩, ⟨16, [], .v (.bool (a2 == 12))⟩, ⟨7, [], .v (.slice (((svO (svO (svL [((sv0 0).1, (sv0 0).2), ((sv0 1).1, (sv0 1).2), ((sv0 2).1, (sv0 2).2), ((sv0 3).1, (sv0 3).2)]) 2) ((a1 : Int).toNat * 1)) 0).1) ((rdA_St27 x0.Frames a1).Windows).length (((svO (svO (svL [((sv0 0).1, (sv0 0).2), ((sv0 1).1, (sv0 1).2), ((sv0 2).1, (sv0 2).2), ((sv0 3).1, (sv0 3).2)]) 2) ((a1 : Int).toNat * 1)) 0).2))⟩, ⟨6, [], .v (.bool s1.2)⟩, ⟨3, [], .v (.pointer (some B_3))⟩, ⟨0, [], .v (.agg ((kd_Config).cells x0 sv0).toArray)⟩, ⟨1, [], .v (.int .i64 a1)⟩, ⟨2, [], .v (.int .i64 a2)⟩], [], [], [], none, none⟩ ns a w_96) (0, false) hL_91 ⟨_, hI.pick [8, 32, 16, 7, 6, 3, 0, 1, 2] 0 ⟨[⟨8, [], .v (.int .i64 0)⟩, ⟨32, [], .v (.bool (a2 == 13))⟩, ⟨16, [], .v (.bool (a2 == 12))⟩, ⟨7, [], .v (.slice (((svO (svO (svL [((sv0 0).1, (sv0 0).2), ((sv0 1).1, (sv0 1).2), ((sv0 2).1, (sv0 2).2), ((sv0 3).1, (sv0 3).2)]) 2) ((a1 : Int).toNat * 1)) 0).1) ((rdA_St27 x0.Frames a1).Windows).length (((svO (svO (svL [((sv0 0).1, (sv0 0).2), ((sv0 1).1, (sv0 1).2), ((sv0 2).1, (sv0 2).2), ((sv0 3).1, (sv0 3).2)]) 2) ((a1 : Int).toNat * 1)) 0).2))⟩, ⟨6, [], .v (.bool false)⟩, ⟨3, [], .v (.pointer (some B_3))⟩, ⟨0, [], .v (.agg ((kd_Config).cells x0 sv0).toArray)⟩, ⟨1, [], .v (.int .i64 a1)⟩, ⟨2, [], .v (.int .i64 a2)⟩], [], [], [], none, none⟩ (by kernel_rfl)⟩ ?_ ?_
      · clear hI
        rintro s1 a w_30 ⟨ns_31, hI⟩ r1 H1
        unfold G_ref07_windows.b1 at H1
        refine wpIn_seq ?_
        refine seq_region (live := [39, 8, 32, 16, 7, 6, 3, 0, 1, 2]) (orc := []) hF hI ⟨[⟨39, [], .v (.bool (decide (s1.1 < (((rdA_St27 x0.Frames a1).Windows).length : Int))))⟩, ⟨8, [], .v (.int .i64 s1.1)⟩, ⟨32, [], .v (.bool (a2 == 13))⟩, ⟨16, [], .v (.bool (a2 == 12))⟩, ⟨7, [], .v (.slice (((svO (svO (svL [((sv0 0).1, (sv0 0).2), ((sv0 1).1, (sv0 1).2), ((sv0 2).1, (sv0 2).2), ((sv0 3).1, (sv0 3).2)]) 2) ((a1 : Int).toNat * 1)) 0).1) ((rdA_St27 x0.Frames a1).Windows).length (((svO (svO (svL [((sv0 0).1, (sv0 0).2), ((sv0 1).1, (sv0 1).2), ((sv0 2).1, (sv0 2).2), ((sv0 3).1, (sv0 3).2)]) 2) ((a1 : Int).toNat * 1)) 0).2))⟩, ⟨6, [], .v (.bool s1.2)⟩, ⟨3, [], .v (.pointer (some B_3))⟩, ⟨0, [], .v (.agg ((kd_Config).cells x0 sv0).toArray)⟩, ⟨1, [], .v (.int .i64 a1)⟩, ⟨2, [], .v (.int .i64 a2)⟩], [], [], [], none, none⟩ [] (by kernel_rfl) trivial (fun ns_32 a w_33 hI _ => ?_)
        refine cond_ hI (decide (s1.1 < (((rdA_St27 x0.Frames a1).Windows).length : Int))) rfl (fun hc_34 => ?_) (fun hc_34 => ?_)
        · replace H1 := bif_t hc_34 H1
          refine wpIn_skip ?_
          refine then_normal ?_
          refine wpIn_seq ?_
          refine wpIn_block ?_
          obtain ⟨hN_35, H1⟩ := req_some H1
          obtain ⟨sv_36, hE_38, hA_37⟩ := Arr.elB (d := kd_Window) (hE_9).cont.1.1 s1.1 true (fun _ => hN_35)
          replace hE_38 := hE_38 rfl
          replace hA_37 := fun (_ : true = true) => hA_37 rfl
          refine seq_region (live := [9, 39, 8, 32, 16, 7, 6, 3, 0, 1, 2]) (orc := [(kd_Window).cells (rd ((rdA_St27 x0.Frames a1).Windows) s1.1) sv_36]) hF hI ⟨[⟨9, [], .p 0 0⟩, ⟨39, [], .v (.bool (decide (s1.1 < (((rdA_St27 x0.Frames a1).Windows).length : Int))))⟩, ⟨8, [], .v (.int .i64 s1.1)⟩, ⟨32, [], .v (.bool (a2 == 13))⟩, ⟨16, [], .v (.bool (a2 == 12))⟩, ⟨7, [], .v (.slice (((svO (svO (svL [((sv0 0).1, (sv0 0).2), ((sv0 1).1, (sv0 1).2), ((sv0 2).1, (sv0 2).2), ((sv0 3).1, (sv0 3).2)]) 2) ((a1 : Int).toNat * 1)) 0).1) ((rdA_St27 x0.Frames a1).Windows).length (((svO (svO (svL [((sv0 0).1, (sv0 0).2), ((sv0 1).1, (sv0 1).2), ((sv0 2).1, (sv0 2).2), ((sv0 3).1, (sv0 3).2)]) 2) ((a1 : Int).toNat * 1)) 0).2))⟩, ⟨6, [], .v (.bool s1.2)⟩, ⟨3, [], .v (.pointer (some B_3))⟩, ⟨0, [], .v (.agg ((kd_Config).cells x0 sv0).toArray)⟩, ⟨1, [], .v (.int .i64 a1)⟩, ⟨2, [], .v (.int .i64 a2)⟩], [], [], [((((kd_Window).cells (rd ((rdA_St27 x0.Frames a1).Windows) s1.1) sv_36).map EV.v), 88)], none, none⟩ [.need true (0 ≤ s1.1 ∧ s1.1 < (((rdA_St27 x0.Frames a1).Windows).length : Int)), .need true (((svO (svO (svL [((sv0 0).1, (sv0 0).2), ((sv0 1).1, (sv0 1).2), ((sv0 2).1, (sv0 2).2), ((sv0 3).1, (sv0 3).2)]) 2) ((a1 : Int).toNat * 1)) 0).1 = some (adr (((svO (svO (svL [((sv0 0).1, (sv0 0).2), ((sv0 1).1, (sv0 1).2), ((sv0 2).1, (sv0 2).2), ((sv0 3).1, (sv0 3).2)]) 2) ((a1 : Int).toNat * 1)) 0).1))), .cell true ((adr (((svO (svO (svL [((sv0 0).1, (sv0 0).2), ((sv0 1).1, (sv0 1).2), ((sv0 2).1, (sv0 2).2), ((sv0 3).1, (sv0 3).2)]) 2) ((a1 : Int).toNat * 1)) 0).1)).add ((s1.1 : Int).toNat * 3)) ((kd_Window).cells (rd ((rdA_St27 x0.Frames a1).Windows) s1.1) sv_36)] (by kernel_rfl) ⟨ob_inb (fun _ => hN_35), hA_37, ob_el (fun _ => hE_38) 0 ((kd_Window).cells (rd ((rdA_St27 x0.Frames a1).Windows) s1.1) sv_36) rfl, trivial⟩ (fun ns_39 a w_40 hI _ => ?_)
          refine wpIn_seq ?_
          obtain ⟨t_41, hG_42, H1⟩ := bind_some H1
          obtain ⟨hN_43, H1⟩ := req_some H1
          obtain ⟨sv_44, hE_46, hA_45⟩ := Arr.elB (d := kd_Part) (hB_4).cont.1.1 ((rd ((rdA_St27 x0.Frames a1).Windows) s1.1).Part) ((a2 == 14) && (!(!t_41))) (fun hg => imp_spec hN_43 hg)
          refine seq_region (live := [65, 9, 39, 8, 32, 16, 7, 6, 3, 0, 1, 2]) (orc := [(kd_Config).cells x0 (svL [((sv0 0).1, (sv0 0).2), ((sv0 1).1, (sv0 1).2), ((sv0 2).1, (sv0 2).2), ((sv0 3).1, (sv0 3).2)]), [.bool t_41], [.slice (((svL [((sv0 0).1, (sv0 0).2), ((sv0 1).1, (sv0 1).2), ((sv0 2).1, (sv0 2).2), ((sv0 3).1, (sv0 3).2)]) 0).1) x0.Parts.length (((svL [((sv0 0).1, (sv0 0).2), ((sv0 1).1, (sv0 1).2), ((sv0 2).1, (sv0 2).2), ((sv0 3).1, (sv0 3).2)]) 0).2)], [.int .i64 ((rd x0.Parts ((rd ((rdA_St27 x0.Frames a1).Windows) s1.1).Part)).Core)]]) hF hI ⟨[⟨65, [], .v (.bool ((a2 == 14) && ((!t_41) || (((rd x0.Parts ((rd ((rdA_St27 x0.Frames a1).Windows) s1.1).Part)).Core) != a1))))⟩, ⟨9, [], .p 0 0⟩, ⟨39, [], .v (.bool (decide (s1.1 < (((rdA_St27 x0.Frames a1).Windows).length : Int))))⟩, ⟨8, [], .v (.int .i64 s1.1)⟩, ⟨32, [], .v (.bool (a2 == 13))⟩, ⟨16, [], .v (.bool (a2 == 12))⟩, ⟨7, [], .v (.slice (((svO (svO (svL [((sv0 0).1, (sv0 0).2), ((sv0 1).1, (sv0 1).2), ((sv0 2).1, (sv0 2).2), ((sv0 3).1, (sv0 3).2)]) 2) ((a1 : Int).toNat * 1)) 0).1) ((rdA_St27 x0.Frames a1).Windows).length (((svO (svO (svL [((sv0 0).1, (sv0 0).2), ((sv0 1).1, (sv0 1).2), ((sv0 2).1, (sv0 2).2), ((sv0 3).1, (sv0 3).2)]) 2) ((a1 : Int).toNat * 1)) 0).2))⟩, ⟨6, [], .v (.bool s1.2)⟩, ⟨3, [], .v (.pointer (some B_3))⟩, ⟨0, [], .v (.agg ((kd_Config).cells x0 sv0).toArray)⟩, ⟨1, [], .v (.int .i64 a1)⟩, ⟨2, [], .v (.int .i64 a2)⟩], [], [], [((((kd_Window).cells (rd ((rdA_St27 x0.Frames a1).Windows) s1.1) sv_36).map EV.v), 88)], none, none⟩ [.cell (a2 == 14) B_3 ((kd_Config).cells x0 (svL [((sv0 0).1, (sv0 0).2), ((sv0 1).1, (sv0 1).2), ((sv0 2).1, (sv0 2).2), ((sv0 3).1, (sv0 3).2)])), .call (a2 == 14) 86 [.agg ((kd_Config).cells x0 (svL [(((svL [((sv0 0).1, (sv0 0).2), ((sv0 1).1, (sv0 1).2), ((sv0 2).1, (sv0 2).2), ((sv0 3).1, (sv0 3).2)]) 0).1, ((svL [((sv0 0).1, (sv0 0).2), ((sv0 1).1, (sv0 1).2), ((sv0 2).1, (sv0 2).2), ((sv0 3).1, (sv0 3).2)]) 0).2), (((svL [((sv0 0).1, (sv0 0).2), ((sv0 1).1, (sv0 1).2), ((sv0 2).1, (sv0 2).2), ((sv0 3).1, (sv0 3).2)]) 1).1, ((svL [((sv0 0).1, (sv0 0).2), ((sv0 1).1, (sv0 1).2), ((sv0 2).1, (sv0 2).2), ((sv0 3).1, (sv0 3).2)]) 1).2), (((svL [((sv0 0).1, (sv0 0).2), ((sv0 1).1, (sv0 1).2), ((sv0 2).1, (sv0 2).2), ((sv0 3).1, (sv0 3).2)]) 2).1, ((svL [((sv0 0).1, (sv0 0).2), ((sv0 1).1, (sv0 1).2), ((sv0 2).1, (sv0 2).2), ((sv0 3).1, (sv0 3).2)]) 2).2), (((svL [((sv0 0).1, (sv0 0).2), ((sv0 1).1, (sv0 1).2), ((sv0 2).1, (sv0 2).2), ((sv0 3).1, (sv0 3).2)]) 3).1, ((svL [((sv0 0).1, (sv0 0).2), ((sv0 1).1, (sv0 1).2), ((sv0 2).1, (sv0 2).2), ((sv0 3).1, (sv0 3).2)]) 3).2)])).toArray, .int .i64 ((rd ((rdA_St27 x0.Frames a1).Windows) s1.1).Part)] (.bool t_41), .cell ((a2 == 14) && (!(!t_41))) B_3 [.slice (((svL [((sv0 0).1, (sv0 0).2), ((sv0 1).1, (sv0 1).2), ((sv0 2).1, (sv0 2).2), ((sv0 3).1, (sv0 3).2)]) 0).1) x0.Parts.length (((svL [((sv0 0).1, (sv0 0).2), ((sv0 1).1, (sv0 1).2), ((sv0 2).1, (sv0 2).2), ((sv0 3).1, (sv0 3).2)]) 0).2)], .need ((a2 == 14) && (!(!t_41))) (0 ≤ ((rd ((rdA_St27 x0.Frames a1).Windows) s1.1).Part) ∧ ((rd ((rdA_St27 x0.Frames a1).Windows) s1.1).Part) < (x0.Parts.length : Int)), .need ((a2 == 14) && (!(!t_41))) (((svL [((sv0 0).1, (sv0 0).2), ((sv0 1).1, (sv0 1).2), ((sv0 2).1, (sv0 2).2), ((sv0 3).1, (sv0 3).2)]) 0).1 = some (adr (((svL [((sv0 0).1, (sv0 0).2), ((sv0 1).1, (sv0 1).2), ((sv0 2).1, (sv0 2).2), ((sv0 3).1, (sv0 3).2)]) 0).1))), .cell ((a2 == 14) && (!(!t_41))) ((adr (((svL [((sv0 0).1, (sv0 0).2), ((sv0 1).1, (sv0 1).2), ((sv0 2).1, (sv0 2).2), ((sv0 3).1, (sv0 3).2)]) 0).1)).add ((((rd ((rdA_St27 x0.Frames a1).Windows) s1.1).Part) : Int).toNat * 2)) [.int .i64 ((rd x0.Parts ((rd ((rdA_St27 x0.Frames a1).Windows) s1.1).Part)).Core)]] (by kernel_rfl) ⟨ob_el (fun _ => hB_4) 0 ((kd_Config).cells x0 (svL [((sv0 0).1, (sv0 0).2), ((sv0 1).1, (sv0 1).2), ((sv0 2).1, (sv0 2).2), ((sv0 3).1, (sv0 3).2)])) rfl, ob_call (enters Try.func86 (by kernel_rfl) rfl) (fun hg wz hk => G_ref07_part.calls x0 ((rd ((rdA_St27 x0.Frames a1).Windows) s1.1).Part) (svL [(((svL [((sv0 0).1, (sv0 0).2), ((sv0 1).1, (sv0 1).2), ((sv0 2).1, (sv0 2).2), ((sv0 3).1, (sv0 3).2)]) 0).1, ((svL [((sv0 0).1, (sv0 0).2), ((sv0 1).1, (sv0 1).2), ((sv0 2).1, (sv0 2).2), ((sv0 3).1, (sv0 3).2)]) 0).2), (((svL [((sv0 0).1, (sv0 0).2), ((sv0 1).1, (sv0 1).2), ((sv0 2).1, (sv0 2).2), ((sv0 3).1, (sv0 3).2)]) 1).1, ((svL [((sv0 0).1, (sv0 0).2), ((sv0 1).1, (sv0 1).2), ((sv0 2).1, (sv0 2).2), ((sv0 3).1, (sv0 3).2)]) 1).2), (((svL [((sv0 0).1, (sv0 0).2), ((sv0 1).1, (sv0 1).2), ((sv0 2).1, (sv0 2).2), ((sv0 3).1, (sv0 3).2)]) 2).1, ((svL [((sv0 0).1, (sv0 0).2), ((sv0 1).1, (sv0 1).2), ((sv0 2).1, (sv0 2).2), ((sv0 3).1, (sv0 3).2)]) 2).2), (((svL [((sv0 0).1, (sv0 0).2), ((sv0 1).1, (sv0 1).2), ((sv0 2).1, (sv0 2).2), ((sv0 3).1, (sv0 3).2)]) 3).1, ((svL [((sv0 0).1, (sv0 0).2), ((sv0 1).1, (sv0 1).2), ((sv0 2).1, (sv0 2).2), ((sv0 3).1, (sv0 3).2)]) 3).2)]) wz (S := fun _ => True) (Kd.any _ (Kd.keep kd_Config (contI (S := Lo S w w_2 ns_6 []) (w := w_2) (d := kd_Config) (x := x0) (sv := (svL [(((svL [((sv0 0).1, (sv0 0).2), ((sv0 1).1, (sv0 1).2), ((sv0 2).1, (sv0 2).2), ((sv0 3).1, (sv0 3).2)]) 0).1, ((svL [((sv0 0).1, (sv0 0).2), ((sv0 1).1, (sv0 1).2), ((sv0 2).1, (sv0 2).2), ((sv0 3).1, (sv0 3).2)]) 0).2), (((svL [((sv0 0).1, (sv0 0).2), ((sv0 1).1, (sv0 1).2), ((sv0 2).1, (sv0 2).2), ((sv0 3).1, (sv0 3).2)]) 1).1, ((svL [((sv0 0).1, (sv0 0).2), ((sv0 1).1, (sv0 1).2), ((sv0 2).1, (sv0 2).2), ((sv0 3).1, (sv0 3).2)]) 1).2), (((svL [((sv0 0).1, (sv0 0).2), ((sv0 1).1, (sv0 1).2), ((sv0 2).1, (sv0 2).2), ((sv0 3).1, (sv0 3).2)]) 2).1, ((svL [((sv0 0).1, (sv0 0).2), ((sv0 1).1, (sv0 1).2), ((sv0 2).1, (sv0 2).2), ((sv0 3).1, (sv0 3).2)]) 2).2), (((svL [((sv0 0).1, (sv0 0).2), ((sv0 1).1, (sv0 1).2), ((sv0 2).1, (sv0 2).2), ((sv0 3).1, (sv0 3).2)]) 3).1, ((svL [((sv0 0).1, (sv0 0).2), ((sv0 1).1, (sv0 1).2), ((sv0 2).1, (sv0 2).2), ((sv0 3).1, (sv0 3).2)]) 3).2)])) ⟨⟨(hB_4).cont.1.1, (hB_4).cont.1.2⟩, ⟨(hB_4).cont.2.1.1, (hB_4).cont.2.1.2⟩, ⟨(hB_4).cont.2.2.1.1, (hB_4).cont.2.2.1.2⟩, ⟨(hB_4).cont.2.2.2.1.1, (hB_4).cont.2.2.2.1.2⟩, trivial⟩) (Lo.on hk))) _ (cal_some hG_42 hg)), ob_el (fun _ => hB_4) 0 [.slice (((svL [((sv0 0).1, (sv0 0).2), ((sv0 1).1, (sv0 1).2), ((sv0 2).1, (sv0 2).2), ((sv0 3).1, (sv0 3).2)]) 0).1) x0.Parts.length (((svL [((sv0 0).1, (sv0 0).2), ((sv0 1).1, (sv0 1).2), ((sv0 2).1, (sv0 2).2), ((sv0 3).1, (sv0 3).2)]) 0).2)] rfl, ob_inb (fun hg => imp_spec hN_43 hg), hA_45, ob_el (fun hg => hE_46 hg) 0 [.int .i64 ((rd x0.Parts ((rd ((rdA_St27 x0.Frames a1).Windows) s1.1).Part)).Core)] rfl, trivial⟩ (fun ns_47 a w_48 hI _ => ?_)
          refine cond_ hI (((a2 == 14) && ((!t_41) || (((rd x0.Parts ((rd ((rdA_St27 x0.Frames a1).Windows) s1.1).Part)).Core) != a1)))) rfl (fun hc_49 => ?_) (fun hc_49 => ?_)
          · replace H1 := bif_t hc_49 H1
            refine seq_region (live := [6, 65, 9, 39, 8, 32, 16, 7, 3, 0, 1, 2]) (orc := []) hF hI ⟨[⟨6, [], .v (.bool true)⟩, ⟨65, [], .v (.bool ((a2 == 14) && ((!t_41) || (((rd x0.Parts ((rd ((rdA_St27 x0.Frames a1).Windows) s1.1).Part)).Core) != a1))))⟩, ⟨9, [], .p 0 0⟩, ⟨39, [], .v (.bool (decide (s1.1 < (((rdA_St27 x0.Frames a1).Windows).length : Int))))⟩, ⟨8, [], .v (.int .i64 s1.1)⟩, ⟨32, [], .v (.bool (a2 == 13))⟩, ⟨16, [], .v (.bool (a2 == 12))⟩, ⟨7, [], .v (.slice (((svO (svO (svL [((sv0 0).1, (sv0 0).2), ((sv0 1).1, (sv0 1).2), ((sv0 2).1, (sv0 2).2), ((sv0 3).1, (sv0 3).2)]) 2) ((a1 : Int).toNat * 1)) 0).1) ((rdA_St27 x0.Frames a1).Windows).length (((svO (svO (svL [((sv0 0).1, (sv0 0).2), ((sv0 1).1, (sv0 1).2), ((sv0 2).1, (sv0 2).2), ((sv0 3).1, (sv0 3).2)]) 2) ((a1 : Int).toNat * 1)) 0).2))⟩, ⟨3, [], .v (.pointer (some B_3))⟩, ⟨0, [], .v (.agg ((kd_Config).cells x0 sv0).toArray)⟩, ⟨1, [], .v (.int .i64 a1)⟩, ⟨2, [], .v (.int .i64 a2)⟩], [], [], [((((kd_Window).cells (rd ((rdA_St27 x0.Frames a1).Windows) s1.1) sv_36).map EV.v), 88)], none, none⟩ [] (by kernel_rfl) trivial (fun ns_50 a w_51 hI _ => ?_)
            refine wpIn_ret ?_
            refine then_ret ?_
            refine inBlock_ret ?_
            refine then_ret ?_
            refine then_ret ?_
            obtain rfl := Option.some.inj H1
            refine .inr ⟨_, rfl, fun ho => ?_⟩
            subst ho
            refine inBlock_ret ?_
            refine then_ret ?_
            obtain rfl := Option.some.inj H0
            exact ret1 hI rfl rfl ⟨rfl, hE.below hI⟩
          · replace H1 := bif_f hc_49 H1
            refine wpIn_skip ?_
            refine then_normal ?_
            refine wpIn_seq ?_
            refine wpIn_seq ?_
            obtain ⟨hN_52, H1⟩ := req_some H1
            have hE_54 := fun (hg : ((a2 == 15) && (!(decide (((rd ((rdA_St27 x0.Frames a1).Windows) s1.1).Start) < 0) || decide (((rd ((rdA_St27 x0.Frames a1).Windows) s1.1).Len) < 1)))) = true) => elA_St27 (El.part (e := kd_St27) hB_4 2 x0.Frames (svO (svL [((sv0 0).1, (sv0 0).2), ((sv0 1).1, (sv0 1).2), ((sv0 2).1, (sv0 2).2), ((sv0 3).1, (sv0 3).2)]) 2) ⟨(hB_4).cont.2.2.1, (hB_4).cont.2.2.2.1, trivial⟩ rfl) (imp_spec hN_52 hg)
            obtain ⟨hN_55, H1⟩ := req_some H1
            have hE_57 := fun (hg : ((a2 == 15) && (!((decide (((rd ((rdA_St27 x0.Frames a1).Windows) s1.1).Start) < 0) || decide (((rd ((rdA_St27 x0.Frames a1).Windows) s1.1).Len) < 1)) || decide (((rd ((rdA_St27 x0.Frames a1).Windows) s1.1).Start) > ((rdA_St27 x0.Frames a1).Length))))) = true) => elA_St27 (El.part (e := kd_St27) hB_4 2 x0.Frames (svO (svL [((sv0 0).1, (sv0 0).2), ((sv0 1).1, (sv0 1).2), ((sv0 2).1, (sv0 2).2), ((sv0 3).1, (sv0 3).2)]) 2) ⟨(hB_4).cont.2.2.1, (hB_4).cont.2.2.2.1, trivial⟩ rfl) (imp_spec hN_55 hg)
            refine drawn_ (live := [100, 65, 9, 39, 8, 32, 16, 7, 6, 3, 0, 1, 2]) (orc := [[.int .i64 ((rdA_St27 x0.Frames a1).Length)], [.int .i64 ((rdA_St27 x0.Frames a1).Length)]]) hF hI ⟨[⟨100, [], .v (.bool ((a2 == 15) && (((decide (((rd ((rdA_St27 x0.Frames a1).Windows) s1.1).Start) < 0) || decide (((rd ((rdA_St27 x0.Frames a1).Windows) s1.1).Len) < 1)) || decide (((rd ((rdA_St27 x0.Frames a1).Windows) s1.1).Start) > ((rdA_St27 x0.Frames a1).Length))) || decide (((rd ((rdA_St27 x0.Frames a1).Windows) s1.1).Len) > (IntKind.i64.wrap (((rdA_St27 x0.Frames a1).Length) - ((rd ((rdA_St27 x0.Frames a1).Windows) s1.1).Start)))))))⟩, ⟨65, [], .v (.bool ((a2 == 14) && ((!t_41) || (((rd x0.Parts ((rd ((rdA_St27 x0.Frames a1).Windows) s1.1).Part)).Core) != a1))))⟩, ⟨9, [], .p 0 0⟩, ⟨39, [], .v (.bool (decide (s1.1 < (((rdA_St27 x0.Frames a1).Windows).length : Int))))⟩, ⟨8, [], .v (.int .i64 s1.1)⟩, ⟨32, [], .v (.bool (a2 == 13))⟩, ⟨16, [], .v (.bool (a2 == 12))⟩, ⟨7, [], .v (.slice (((svO (svO (svL [((sv0 0).1, (sv0 0).2), ((sv0 1).1, (sv0 1).2), ((sv0 2).1, (sv0 2).2), ((sv0 3).1, (sv0 3).2)]) 2) ((a1 : Int).toNat * 1)) 0).1) ((rdA_St27 x0.Frames a1).Windows).length (((svO (svO (svL [((sv0 0).1, (sv0 0).2), ((sv0 1).1, (sv0 1).2), ((sv0 2).1, (sv0 2).2), ((sv0 3).1, (sv0 3).2)]) 2) ((a1 : Int).toNat * 1)) 0).2))⟩, ⟨6, [], .v (.bool s1.2)⟩, ⟨3, [], .v (.pointer (some B_3))⟩, ⟨0, [], .v (.agg ((kd_Config).cells x0 sv0).toArray)⟩, ⟨1, [], .v (.int .i64 a1)⟩, ⟨2, [], .v (.int .i64 a2)⟩], [], [], [((((kd_Window).cells (rd ((rdA_St27 x0.Frames a1).Windows) s1.1) sv_36).map EV.v), 88)], none, none⟩ [.need ((a2 == 15) && (!(decide (((rd ((rdA_St27 x0.Frames a1).Windows) s1.1).Start) < 0) || decide (((rd ((rdA_St27 x0.Frames a1).Windows) s1.1).Len) < 1)))) (0 ≤ a1 ∧ a1 < ((2 : Nat) : Int)), .cell ((a2 == 15) && (!(decide (((rd ((rdA_St27 x0.Frames a1).Windows) s1.1).Start) < 0) || decide (((rd ((rdA_St27 x0.Frames a1).Windows) s1.1).Len) < 1)))) ((B_3.add 2).add ((a1 : Int).toNat * 2)) [.int .i64 ((rdA_St27 x0.Frames a1).Length)], .need ((a2 == 15) && (!((decide (((rd ((rdA_St27 x0.Frames a1).Windows) s1.1).Start) < 0) || decide (((rd ((rdA_St27 x0.Frames a1).Windows) s1.1).Len) < 1)) || decide (((rd ((rdA_St27 x0.Frames a1).Windows) s1.1).Start) > ((rdA_St27 x0.Frames a1).Length))))) (0 ≤ a1 ∧ a1 < ((2 : Nat) : Int)), .cell ((a2 == 15) && (!((decide (((rd ((rdA_St27 x0.Frames a1).Windows) s1.1).Start) < 0) || decide (((rd ((rdA_St27 x0.Frames a1).Windows) s1.1).Len) < 1)) || decide (((rd ((rdA_St27 x0.Frames a1).Windows) s1.1).Start) > ((rdA_St27 x0.Frames a1).Length))))) ((B_3.add 2).add ((a1 : Int).toNat * 2)) [.int .i64 ((rdA_St27 x0.Frames a1).Length)]] (by kernel_rfl) (by kernel_rfl) (by kernel_rfl) ⟨ob_inb (fun hg => imp_spec hN_52 hg), ob_el (fun hg => hE_54 hg) 0 [.int .i64 ((rdA_St27 x0.Frames a1).Length)] rfl, ob_inb (fun hg => imp_spec hN_55 hg), ob_el (fun hg => hE_57 hg) 0 [.int .i64 ((rdA_St27 x0.Frames a1).Length)] rfl, trivial⟩ (fun a w_58 hI => ?_)
            refine then_normal ?_
            refine cond_ hI (((a2 == 15) && (((decide (((rd ((rdA_St27 x0.Frames a1).Windows) s1.1).Start) < 0) || decide (((rd ((rdA_St27 x0.Frames a1).Windows) s1.1).Len) < 1)) || decide (((rd ((rdA_St27 x0.Frames a1).Windows) s1.1).Start) > ((rdA_St27 x0.Frames a1).Length))) || decide (((rd ((rdA_St27 x0.Frames a1).Windows) s1.1).Len) > (IntKind.i64.wrap (((rdA_St27 x0.Frames a1).Length) - ((rd ((rdA_St27 x0.Frames a1).Windows) s1.1).Start))))))) rfl (fun hc_59 => ?_) (fun hc_59 => ?_)
            · replace H1 := bif_t hc_59 H1
              refine seq_region (live := [6, 100, 65, 9, 39, 8, 32, 16, 7, 3, 0, 1, 2]) (orc := []) hF hI ⟨[⟨6, [], .v (.bool true)⟩, ⟨100, [], .v (.bool ((a2 == 15) && (((decide (((rd ((rdA_St27 x0.Frames a1).Windows) s1.1).Start) < 0) || decide (((rd ((rdA_St27 x0.Frames a1).Windows) s1.1).Len) < 1)) || decide (((rd ((rdA_St27 x0.Frames a1).Windows) s1.1).Start) > ((rdA_St27 x0.Frames a1).Length))) || decide (((rd ((rdA_St27 x0.Frames a1).Windows) s1.1).Len) > (IntKind.i64.wrap (((rdA_St27 x0.Frames a1).Length) - ((rd ((rdA_St27 x0.Frames a1).Windows) s1.1).Start)))))))⟩, ⟨65, [], .v (.bool ((a2 == 14) && ((!t_41) || (((rd x0.Parts ((rd ((rdA_St27 x0.Frames a1).Windows) s1.1).Part)).Core) != a1))))⟩, ⟨9, [], .p 0 0⟩, ⟨39, [], .v (.bool (decide (s1.1 < (((rdA_St27 x0.Frames a1).Windows).length : Int))))⟩, ⟨8, [], .v (.int .i64 s1.1)⟩, ⟨32, [], .v (.bool (a2 == 13))⟩, ⟨16, [], .v (.bool (a2 == 12))⟩, ⟨7, [], .v (.slice (((svO (svO (svL [((sv0 0).1, (sv0 0).2), ((sv0 1).1, (sv0 1).2), ((sv0 2).1, (sv0 2).2), ((sv0 3).1, (sv0 3).2)]) 2) ((a1 : Int).toNat * 1)) 0).1) ((rdA_St27 x0.Frames a1).Windows).length (((svO (svO (svL [((sv0 0).1, (sv0 0).2), ((sv0 1).1, (sv0 1).2), ((sv0 2).1, (sv0 2).2), ((sv0 3).1, (sv0 3).2)]) 2) ((a1 : Int).toNat * 1)) 0).2))⟩, ⟨3, [], .v (.pointer (some B_3))⟩, ⟨0, [], .v (.agg ((kd_Config).cells x0 sv0).toArray)⟩, ⟨1, [], .v (.int .i64 a1)⟩, ⟨2, [], .v (.int .i64 a2)⟩], [], [], [((((kd_Window).cells (rd ((rdA_St27 x0.Frames a1).Windows) s1.1) sv_36).map EV.v), 88)], none, none⟩ [] (by kernel_rfl) trivial (fun ns_60 a w_61 hI _ => ?_)
              refine wpIn_ret ?_
              refine then_ret ?_
              refine inBlock_ret ?_
              refine then_ret ?_
              refine then_ret ?_
              obtain rfl := Option.some.inj H1
              refine .inr ⟨_, rfl, fun ho => ?_⟩
              subst ho
              refine inBlock_ret ?_
              refine then_ret ?_
              obtain rfl := Option.some.inj H0
              exact ret1 hI rfl rfl ⟨rfl, hE.below hI⟩
            · replace H1 := bif_f hc_59 H1
              refine wpIn_skip ?_
              refine then_normal ?_
              refine wpIn_seq ?_
              obtain ⟨t_62, hG_63, H1⟩ := bind_some H1
              obtain ⟨hN_64, H1⟩ := req_some H1
              obtain ⟨sv_65, hE_67, hA_66⟩ := Arr.elB (d := kd_Window) (hE_9).cont.1.1 (IntKind.i64.wrap (s1.1 - 1)) (((a2 == 16) && decide (s1.1 > 0)) && t_62) (fun hg => imp_spec hN_64 hg)
              obtain ⟨t_68, hG_69, H1⟩ := bind_some H1
              obtain ⟨hN_70, H1⟩ := req_some H1
              obtain ⟨sv_71, hE_73, hA_72⟩ := Arr.elB (d := kd_Window) (hE_9).cont.1.1 (IntKind.i64.wrap (s1.1 - 1)) ((((a2 == 16) && decide (s1.1 > 0)) && t_62) && t_68) (fun hg => imp_spec hN_70 hg)
              obtain ⟨t_74, hG_75, H1⟩ := bind_some H1
              obtain ⟨hN_76, H1⟩ := req_some H1
              obtain ⟨sv_77, hE_79, hA_78⟩ := Arr.elB (d := kd_Window) (hE_9).cont.1.1 (IntKind.i64.wrap (s1.1 - 1)) (((((a2 == 16) && decide (s1.1 > 0)) && t_62) && t_68) && t_74) (fun hg => imp_spec hN_76 hg)
              obtain ⟨hN_80, H1⟩ := req_some H1
              obtain ⟨sv_81, hE_83, hA_82⟩ := Arr.elB (d := kd_Window) (hE_9).cont.1.1 (IntKind.i64.wrap (s1.1 - 1)) (((((a2 == 16) && decide (s1.1 > 0)) && t_62) && t_68) && t_74) (fun hg => imp_spec hN_80 hg)
              refine drawn_ (live := [147, 100, 65, 9, 39, 8, 32, 16, 7, 6, 3, 0, 1, 2]) (orc := [[.bool t_62], [.int .i64 ((rd ((rdA_St27 x0.Frames a1).Windows) (IntKind.i64.wrap (s1.1 - 1))).Start)], [.bool t_68], [.int .i64 ((rd ((rdA_St27 x0.Frames a1).Windows) (IntKind.i64.wrap (s1.1 - 1))).Len)], [.bool t_74], [.int .i64 ((rd ((rdA_St27 x0.Frames a1).Windows) (IntKind.i64.wrap (s1.1 - 1))).Start)], [.int .i64 ((rd ((rdA_St27 x0.Frames a1).Windows) (IntKind.i64.wrap (s1.1 - 1))).Len)]]) hF hI ⟨[⟨147, [], .v (.bool ((((((a2 == 16) && decide (s1.1 > 0)) && t_62) && t_68) && t_74) && decide (((rd ((rdA_St27 x0.Frames a1).Windows) s1.1).Start) < (IntKind.i64.wrap (((rd ((rdA_St27 x0.Frames a1).Windows) (IntKind.i64.wrap (s1.1 - 1))).Start) + ((rd ((rdA_St27 x0.Frames a1).Windows) (IntKind.i64.wrap (s1.1 - 1))).Len))))))⟩, ⟨100, [], .v (.bool ((a2 == 15) && (((decide (((rd ((rdA_St27 x0.Frames a1).Windows) s1.1).Start) < 0) || decide (((rd ((rdA_St27 x0.Frames a1).Windows) s1.1).Len) < 1)) || decide (((rd ((rdA_St27 x0.Frames a1).Windows) s1.1).Start) > ((rdA_St27 x0.Frames a1).Length))) || decide (((rd ((rdA_St27 x0.Frames a1).Windows) s1.1).Len) > (IntKind.i64.wrap (((rdA_St27 x0.Frames a1).Length) - ((rd ((rdA_St27 x0.Frames a1).Windows) s1.1).Start)))))))⟩, ⟨65, [], .v (.bool ((a2 == 14) && ((!t_41) || (((rd x0.Parts ((rd ((rdA_St27 x0.Frames a1).Windows) s1.1).Part)).Core) != a1))))⟩, ⟨9, [], .p 0 0⟩, ⟨39, [], .v (.bool (decide (s1.1 < (((rdA_St27 x0.Frames a1).Windows).length : Int))))⟩, ⟨8, [], .v (.int .i64 s1.1)⟩, ⟨32, [], .v (.bool (a2 == 13))⟩, ⟨16, [], .v (.bool (a2 == 12))⟩, ⟨7, [], .v (.slice (((svO (svO (svL [((sv0 0).1, (sv0 0).2), ((sv0 1).1, (sv0 1).2), ((sv0 2).1, (sv0 2).2), ((sv0 3).1, (sv0 3).2)]) 2) ((a1 : Int).toNat * 1)) 0).1) ((rdA_St27 x0.Frames a1).Windows).length (((svO (svO (svL [((sv0 0).1, (sv0 0).2), ((sv0 1).1, (sv0 1).2), ((sv0 2).1, (sv0 2).2), ((sv0 3).1, (sv0 3).2)]) 2) ((a1 : Int).toNat * 1)) 0).2))⟩, ⟨6, [], .v (.bool s1.2)⟩, ⟨3, [], .v (.pointer (some B_3))⟩, ⟨0, [], .v (.agg ((kd_Config).cells x0 sv0).toArray)⟩, ⟨1, [], .v (.int .i64 a1)⟩, ⟨2, [], .v (.int .i64 a2)⟩], [], [], [((((kd_Window).cells (rd ((rdA_St27 x0.Frames a1).Windows) s1.1) sv_36).map EV.v), 88)], none, none⟩ [.call ((a2 == 16) && decide (s1.1 > 0)) 87 [.int .i64 ((rd ((rdA_St27 x0.Frames a1).Windows) s1.1).Start)] (.bool t_62), .need (((a2 == 16) && decide (s1.1 > 0)) && t_62) (0 ≤ (IntKind.i64.wrap (s1.1 - 1)) ∧ (IntKind.i64.wrap (s1.1 - 1)) < (((rdA_St27 x0.Frames a1).Windows).length : Int)), .need (((a2 == 16) && decide (s1.1 > 0)) && t_62) (((svO (svO (svL [((sv0 0).1, (sv0 0).2), ((sv0 1).1, (sv0 1).2), ((sv0 2).1, (sv0 2).2), ((sv0 3).1, (sv0 3).2)]) 2) ((a1 : Int).toNat * 1)) 0).1 = some (adr (((svO (svO (svL [((sv0 0).1, (sv0 0).2), ((sv0 1).1, (sv0 1).2), ((sv0 2).1, (sv0 2).2), ((sv0 3).1, (sv0 3).2)]) 2) ((a1 : Int).toNat * 1)) 0).1))), .cell (((a2 == 16) && decide (s1.1 > 0)) && t_62) (((adr (((svO (svO (svL [((sv0 0).1, (sv0 0).2), ((sv0 1).1, (sv0 1).2), ((sv0 2).1, (sv0 2).2), ((sv0 3).1, (sv0 3).2)]) 2) ((a1 : Int).toNat * 1)) 0).1)).add (((IntKind.i64.wrap (s1.1 - 1)) : Int).toNat * 3)).add 1) [.int .i64 ((rd ((rdA_St27 x0.Frames a1).Windows) (IntKind.i64.wrap (s1.1 - 1))).Start)], .call (((a2 == 16) && decide (s1.1 > 0)) && t_62) 87 [.int .i64 ((rd ((rdA_St27 x0.Frames a1).Windows) (IntKind.i64.wrap (s1.1 - 1))).Start)] (.bool t_68), .need ((((a2 == 16) && decide (s1.1 > 0)) && t_62) && t_68) (0 ≤ (IntKind.i64.wrap (s1.1 - 1)) ∧ (IntKind.i64.wrap (s1.1 - 1)) < (((rdA_St27 x0.Frames a1).Windows).length : Int)), .need ((((a2 == 16) && decide (s1.1 > 0)) && t_62) && t_68) (((svO (svO (svL [((sv0 0).1, (sv0 0).2), ((sv0 1).1, (sv0 1).2), ((sv0 2).1, (sv0 2).2), ((sv0 3).1, (sv0 3).2)]) 2) ((a1 : Int).toNat * 1)) 0).1 = some (adr (((svO (svO (svL [((sv0 0).1, (sv0 0).2), ((sv0 1).1, (sv0 1).2), ((sv0 2).1, (sv0 2).2), ((sv0 3).1, (sv0 3).2)]) 2) ((a1 : Int).toNat * 1)) 0).1))), .cell ((((a2 == 16) && decide (s1.1 > 0)) && t_62) && t_68) (((adr (((svO (svO (svL [((sv0 0).1, (sv0 0).2), ((sv0 1).1, (sv0 1).2), ((sv0 2).1, (sv0 2).2), ((sv0 3).1, (sv0 3).2)]) 2) ((a1 : Int).toNat * 1)) 0).1)).add (((IntKind.i64.wrap (s1.1 - 1)) : Int).toNat * 3)).add 2) [.int .i64 ((rd ((rdA_St27 x0.Frames a1).Windows) (IntKind.i64.wrap (s1.1 - 1))).Len)], .call ((((a2 == 16) && decide (s1.1 > 0)) && t_62) && t_68) 87 [.int .i64 ((rd ((rdA_St27 x0.Frames a1).Windows) (IntKind.i64.wrap (s1.1 - 1))).Len)] (.bool t_74), .need (((((a2 == 16) && decide (s1.1 > 0)) && t_62) && t_68) && t_74) (0 ≤ (IntKind.i64.wrap (s1.1 - 1)) ∧ (IntKind.i64.wrap (s1.1 - 1)) < (((rdA_St27 x0.Frames a1).Windows).length : Int)), .need (((((a2 == 16) && decide (s1.1 > 0)) && t_62) && t_68) && t_74) (((svO (svO (svL [((sv0 0).1, (sv0 0).2), ((sv0 1).1, (sv0 1).2), ((sv0 2).1, (sv0 2).2), ((sv0 3).1, (sv0 3).2)]) 2) ((a1 : Int).toNat * 1)) 0).1 = some (adr (((svO (svO (svL [((sv0 0).1, (sv0 0).2), ((sv0 1).1, (sv0 1).2), ((sv0 2).1, (sv0 2).2), ((sv0 3).1, (sv0 3).2)]) 2) ((a1 : Int).toNat * 1)) 0).1))), .cell (((((a2 == 16) && decide (s1.1 > 0)) && t_62) && t_68) && t_74) (((adr (((svO (svO (svL [((sv0 0).1, (sv0 0).2), ((sv0 1).1, (sv0 1).2), ((sv0 2).1, (sv0 2).2), ((sv0 3).1, (sv0 3).2)]) 2) ((a1 : Int).toNat * 1)) 0).1)).add (((IntKind.i64.wrap (s1.1 - 1)) : Int).toNat * 3)).add 1) [.int .i64 ((rd ((rdA_St27 x0.Frames a1).Windows) (IntKind.i64.wrap (s1.1 - 1))).Start)], .need (((((a2 == 16) && decide (s1.1 > 0)) && t_62) && t_68) && t_74) (0 ≤ (IntKind.i64.wrap (s1.1 - 1)) ∧ (IntKind.i64.wrap (s1.1 - 1)) < (((rdA_St27 x0.Frames a1).Windows).length : Int)), .need (((((a2 == 16) && decide (s1.1 > 0)) && t_62) && t_68) && t_74) (((svO (svO (svL [((sv0 0).1, (sv0 0).2), ((sv0 1).1, (sv0 1).2), ((sv0 2).1, (sv0 2).2), ((sv0 3).1, (sv0 3).2)]) 2) ((a1 : Int).toNat * 1)) 0).1 = some (adr (((svO (svO (svL [((sv0 0).1, (sv0 0).2), ((sv0 1).1, (sv0 1).2), ((sv0 2).1, (sv0 2).2), ((sv0 3).1, (sv0 3).2)]) 2) ((a1 : Int).toNat * 1)) 0).1))), .cell (((((a2 == 16) && decide (s1.1 > 0)) && t_62) && t_68) && t_74) (((adr (((svO (svO (svL [((sv0 0).1, (sv0 0).2), ((sv0 1).1, (sv0 1).2), ((sv0 2).1, (sv0 2).2), ((sv0 3).1, (sv0 3).2)]) 2) ((a1 : Int).toNat * 1)) 0).1)).add (((IntKind.i64.wrap (s1.1 - 1)) : Int).toNat * 3)).add 2) [.int .i64 ((rd ((rdA_St27 x0.Frames a1).Windows) (IntKind.i64.wrap (s1.1 - 1))).Len)]] (by kernel_rfl) (by kernel_rfl) (by kernel_rfl) ⟨ob_call (enters Try.func87 (by kernel_rfl) rfl) (fun hg wz hk => G_ref07_word.calls ((rd ((rdA_St27 x0.Frames a1).Windows) s1.1).Start)  wz (S := fun _ => True)  _ (cal_some hG_63 hg)), ob_inb (fun hg => imp_spec hN_64 hg), hA_66, ob_el (fun hg => hE_67 hg) 1 [.int .i64 ((rd ((rdA_St27 x0.Frames a1).Windows) (IntKind.i64.wrap (s1.1 - 1))).Start)] rfl, ob_call (enters Try.func87 (by kernel_rfl) rfl) (fun hg wz hk => G_ref07_word.calls ((rd ((rdA_St27 x0.Frames a1).Windows) (IntKind.i64.wrap (s1.1 - 1))).Start)  wz (S := fun _ => True)  _ (cal_some hG_69 hg)), ob_inb (fun hg => imp_spec hN_70 hg), hA_72, ob_el (fun hg => hE_73 hg) 2 [.int .i64 ((rd ((rdA_St27 x0.Frames a1).Windows) (IntKind.i64.wrap (s1.1 - 1))).Len)] rfl, ob_call (enters Try.func87 (by kernel_rfl) rfl) (fun hg wz hk => G_ref07_word.calls ((rd ((rdA_St27 x0.Frames a1).Windows) (IntKind.i64.wrap (s1.1 - 1))).Len)  wz (S := fun _ => True)  _ (cal_some hG_75 hg)), ob_inb (fun hg => imp_spec hN_76 hg), hA_78, ob_el (fun hg => hE_79 hg) 1 [.int .i64 ((rd ((rdA_St27 x0.Frames a1).Windows) (IntKind.i64.wrap (s1.1 - 1))).Start)] rfl, ob_inb (fun hg => imp_spec hN_80 hg), hA_82, ob_el (fun hg => hE_83 hg) 2 [.int .i64 ((rd ((rdA_St27 x0.Frames a1).Windows) (IntKind.i64.wrap (s1.1 - 1))).Len)] rfl, trivial⟩ (fun a w_84 hI => ?_)
              refine then_normal ?_
              refine cond_ hI (((((((a2 == 16) && decide (s1.1 > 0)) && t_62) && t_68) && t_74) && decide (((rd ((rdA_St27 x0.Frames a1).Windows) s1.1).Start) < (IntKind.i64.wrap (((rd ((rdA_St27 x0.Frames a1).Windows) (IntKind.i64.wrap (s1.1 - 1))).Start) + ((rd ((rdA_St27 x0.Frames a1).Windows) (IntKind.i64.wrap (s1.1 - 1))).Len)))))) rfl (fun hc_85 => ?_) (fun hc_85 => ?_)
              · replace H1 := bif_t hc_85 H1
                refine seq_region (live := [6, 147, 100, 65, 9, 39, 8, 32, 16, 7, 3, 0, 1, 2]) (orc := []) hF hI ⟨[⟨6, [], .v (.bool true)⟩, ⟨147, [], .v (.bool ((((((a2 == 16) && decide (s1.1 > 0)) && t_62) && t_68) && t_74) && decide (((rd ((rdA_St27 x0.Frames a1).Windows) s1.1).Start) < (IntKind.i64.wrap (((rd ((rdA_St27 x0.Frames a1).Windows) (IntKind.i64.wrap (s1.1 - 1))).Start) + ((rd ((rdA_St27 x0.Frames a1).Windows) (IntKind.i64.wrap (s1.1 - 1))).Len))))))⟩, ⟨100, [], .v (.bool ((a2 == 15) && (((decide (((rd ((rdA_St27 x0.Frames a1).Windows) s1.1).Start) < 0) || decide (((rd ((rdA_St27 x0.Frames a1).Windows) s1.1).Len) < 1)) || decide (((rd ((rdA_St27 x0.Frames a1).Windows) s1.1).Start) > ((rdA_St27 x0.Frames a1).Length))) || decide (((rd ((rdA_St27 x0.Frames a1).Windows) s1.1).Len) > (IntKind.i64.wrap (((rdA_St27 x0.Frames a1).Length) - ((rd ((rdA_St27 x0.Frames a1).Windows) s1.1).Start)))))))⟩, ⟨65, [], .v (.bool ((a2 == 14) && ((!t_41) || (((rd x0.Parts ((rd ((rdA_St27 x0.Frames a1).Windows) s1.1).Part)).Core) != a1))))⟩, ⟨9, [], .p 0 0⟩, ⟨39, [], .v (.bool (decide (s1.1 < (((rdA_St27 x0.Frames a1).Windows).length : Int))))⟩, ⟨8, [], .v (.int .i64 s1.1)⟩, ⟨32, [], .v (.bool (a2 == 13))⟩, ⟨16, [], .v (.bool (a2 == 12))⟩, ⟨7, [], .v (.slice (((svO (svO (svL [((sv0 0).1, (sv0 0).2), ((sv0 1).1, (sv0 1).2), ((sv0 2).1, (sv0 2).2), ((sv0 3).1, (sv0 3).2)]) 2) ((a1 : Int).toNat * 1)) 0).1) ((rdA_St27 x0.Frames a1).Windows).length (((svO (svO (svL [((sv0 0).1, (sv0 0).2), ((sv0 1).1, (sv0 1).2), ((sv0 2).1, (sv0 2).2), ((sv0 3).1, (sv0 3).2)]) 2) ((a1 : Int).toNat * 1)) 0).2))⟩, ⟨3, [], .v (.pointer (some B_3))⟩, ⟨0, [], .v (.agg ((kd_Config).cells x0 sv0).toArray)⟩, ⟨1, [], .v (.int .i64 a1)⟩, ⟨2, [], .v (.int .i64 a2)⟩], [], [], [((((kd_Window).cells (rd ((rdA_St27 x0.Frames a1).Windows) s1.1) sv_36).map EV.v), 88)], none, none⟩ [] (by kernel_rfl) trivial (fun ns_86 a w_87 hI _ => ?_)
                refine wpIn_ret ?_
                refine inBlock_ret ?_
                refine then_ret ?_
                refine then_ret ?_
                obtain rfl := Option.some.inj H1
                refine .inr ⟨_, rfl, fun ho => ?_⟩
                subst ho
                refine inBlock_ret ?_
                refine then_ret ?_
                obtain rfl := Option.some.inj H0
                exact ret1 hI rfl rfl ⟨rfl, hE.below hI⟩
              · replace H1 := bif_f hc_85 H1
                refine wpIn_skip ?_
                refine inBlock_normal ?_
                refine then_normal ?_
                refine region_ (live := [8, 147, 100, 65, 9, 39, 32, 16, 7, 6, 3, 0, 1, 2]) (orc := []) hF hI ⟨[⟨8, [], .v (.int .i64 (IntKind.i64.wrap (s1.1 + 1)))⟩, ⟨147, [], .v (.bool ((((((a2 == 16) && decide (s1.1 > 0)) && t_62) && t_68) && t_74) && decide (((rd ((rdA_St27 x0.Frames a1).Windows) s1.1).Start) < (IntKind.i64.wrap (((rd ((rdA_St27 x0.Frames a1).Windows) (IntKind.i64.wrap (s1.1 - 1))).Start) + ((rd ((rdA_St27 x0.Frames a1).Windows) (IntKind.i64.wrap (s1.1 - 1))).Len))))))⟩, ⟨100, [], .v (.bool ((a2 == 15) && (((decide (((rd ((rdA_St27 x0.Frames a1).Windows) s1.1).Start) < 0) || decide (((rd ((rdA_St27 x0.Frames a1).Windows) s1.1).Len) < 1)) || decide (((rd ((rdA_St27 x0.Frames a1).Windows) s1.1).Start) > ((rdA_St27 x0.Frames a1).Length))) || decide (((rd ((rdA_St27 x0.Frames a1).Windows) s1.1).Len) > (IntKind.i64.wrap (((rdA_St27 x0.Frames a1).Length) - ((rd ((rdA_St27 x0.Frames a1).Windows) s1.1).Start)))))))⟩, ⟨65, [], .v (.bool ((a2 == 14) && ((!t_41) || (((rd x0.Parts ((rd ((rdA_St27 x0.Frames a1).Windows) s1.1).Part)).Core) != a1))))⟩, ⟨9, [], .p 0 0⟩, ⟨39, [], .v (.bool (decide (s1.1 < (((rdA_St27 x0.Frames a1).Windows).length : Int))))⟩, ⟨32, [], .v (.bool (a2 == 13))⟩, ⟨16, [], .v (.bool (a2 == 12))⟩, ⟨7, [], .v (.slice (((svO (svO (svL [((sv0 0).1, (sv0 0).2), ((sv0 1).1, (sv0 1).2), ((sv0 2).1, (sv0 2).2), ((sv0 3).1, (sv0 3).2)]) 2) ((a1 : Int).toNat * 1)) 0).1) ((rdA_St27 x0.Frames a1).Windows).length (((svO (svO (svL [((sv0 0).1, (sv0 0).2), ((sv0 1).1, (sv0 1).2), ((sv0 2).1, (sv0 2).2), ((sv0 3).1, (sv0 3).2)]) 2) ((a1 : Int).toNat * 1)) 0).2))⟩, ⟨6, [], .v (.bool s1.2)⟩, ⟨3, [], .v (.pointer (some B_3))⟩, ⟨0, [], .v (.agg ((kd_Config).cells x0 sv0).toArray)⟩, ⟨1, [], .v (.int .i64 a1)⟩, ⟨2, [], .v (.int .i64 a2)⟩], [], [], [((((kd_Window).cells (rd ((rdA_St27 x0.Frames a1).Windows) s1.1) sv_36).map EV.v), 88)], none, none⟩ [] (by kernel_rfl) trivial (fun ns_88 a w_89 hI _ => ?_)
                refine then_normal ?_
                obtain rfl := Option.some.inj H1
                exact ⟨_, rfl, ⟨_, hI.pick [8, 32, 16, 7, 6, 3, 0, 1, 2] 0 ⟨[⟨8, [], .v (.int .i64 (IntKind.i64.wrap (s1.1 + 1)))⟩, ⟨32, [], .v (.bool (a2 == 13))⟩, ⟨16, [], .v (.bool (a2 == 12))⟩, ⟨7, [], .v (.slice (((svO (svO (svL [((sv0 0).1, (sv0 0).2), ((sv0 1).1, (sv0 1).2), ((sv0 2).1, (sv0 2).2), ((sv0 3).1, (sv0 3).2)]) 2) ((a1 : Int).toNat * 1)) 0).1) ((rdA_St27 x0.Frames a1).Windows).length (((svO (svO (svL [((sv0 0).1, (sv0 0).2), ((sv0 1).1, (sv0 1).2), ((sv0 2).1, (sv0 2).2), ((sv0 3).1, (sv0 3).2)]) 2) ((a1 : Int).toNat * 1)) 0).2))⟩, ⟨6, [], .v (.bool s1.2)⟩, ⟨3, [], .v (.pointer (some B_3))⟩, ⟨0, [], .v (.agg ((kd_Config).cells x0 sv0).toArray)⟩, ⟨1, [], .v (.int .i64 a1)⟩, ⟨2, [], .v (.int .i64 a2)⟩], [], [], [], none, none⟩ (by kernel_rfl)⟩⟩
        · replace H1 := bif_f hc_34 H1
          refine wpIn_exit ?_
          refine then_exit ?_
          refine then_exit ?_
          obtain rfl := Option.some.inj H1
          exact .inl ⟨_, rfl, rfl, ⟨_, hI.pick [8, 32, 16, 7, 6, 3, 0, 1, 2] 0 ⟨[⟨8, [], .v (.int .i64 s1.1)⟩, ⟨32, [], .v (.bool (a2 == 13))⟩, ⟨16, [], .v (.bool (a2 == 12))⟩, ⟨7, [], .v (.slice (((svO (svO (svL [((sv0 0).1, (sv0 0).2), ((sv0 1).1, (sv0 1).2), ((sv0 2).1, (sv0 2).2), ((sv0 3).1, (sv0 3).2)]) 2) ((a1 : Int).toNat * 1)) 0).1) ((rdA_St27 x0.Frames a1).Windows).length (((svO (svO (svL [((sv0 0).1, (sv0 0).2), ((sv0 1).1, (sv0 1).2), ((sv0 2).1, (sv0 2).2), ((sv0 3).1, (sv0 3).2)]) 2) ((a1 : Int).toNat * 1)) 0).2))⟩, ⟨6, [], .v (.bool s1.2)⟩, ⟨3, [], .v (.pointer (some B_3))⟩, ⟨0, [], .v (.agg ((kd_Config).cells x0 sv0).toArray)⟩, ⟨1, [], .v (.int .i64 a1)⟩, ⟨2, [], .v (.int .i64 a2)⟩], [], [], [], none, none⟩ (by kernel_rfl)⟩⟩
      · clear hI
        rintro s1 a w_92 ho ⟨ns_93, hI⟩
        subst ho
        replace H0 : (some false : Option (Bool)) = _ := H0
        refine then_normal ?_
        refine seq_region (live := [6, 8, 32, 16, 7, 3, 0, 1, 2]) (orc := []) hF hI ⟨[⟨6, [], .v (.bool false)⟩, ⟨8, [], .v (.int .i64 s1.1)⟩, ⟨32, [], .v (.bool (a2 == 13))⟩, ⟨16, [], .v (.bool (a2 == 12))⟩, ⟨7, [], .v (.slice (((svO (svO (svL [((sv0 0).1, (sv0 0).2), ((sv0 1).1, (sv0 1).2), ((sv0 2).1, (sv0 2).2), ((sv0 3).1, (sv0 3).2)]) 2) ((a1 : Int).toNat * 1)) 0).1) ((rdA_St27 x0.Frames a1).Windows).length (((svO (svO (svL [((sv0 0).1, (sv0 0).2), ((sv0 1).1, (sv0 1).2), ((sv0 2).1, (sv0 2).2), ((sv0 3).1, (sv0 3).2)]) 2) ((a1 : Int).toNat * 1)) 0).2))⟩, ⟨3, [], .v (.pointer (some B_3))⟩, ⟨0, [], .v (.agg ((kd_Config).cells x0 sv0).toArray)⟩, ⟨1, [], .v (.int .i64 a1)⟩, ⟨2, [], .v (.int .i64 a2)⟩], [], [], [], none, none⟩ [] (by kernel_rfl) trivial (fun ns_94 a w_95 hI _ => ?_)
        refine wpIn_ret ?_
        obtain rfl := Option.some.inj H0
        exact ret1 hI rfl rfl ⟨rfl, hE.below hI⟩

/-! ### porthole/portholeref07.Holds: function 55 -/
noncomputable def G_ref07_Holds.b1 (x0 : Config) (a1 : Int) (s1 : Int × Bool) : Option (Stp (Int × Bool) (Ex (Int × Bool) (Bool))) := (bif decide (s1.1 < (x0.Parts.length : Int)) then (req (inb s1.1 x0.Parts.length) ((cal (!((((a1 == 2) && (((rd x0.Parts s1.1).Core) != 0)) && (((rd x0.Parts s1.1).Core) != 1)) || ((a1 == 3) && (decide (((rd x0.Parts s1.1).Private) < 0) || decide (((rd x0.Parts s1.1).Private) > 64)))) && (a1 == 17)) (G_ref07_window x0 s1.1) default).bind fun t_24 => (bif (((((a1 == 2) && (((rd x0.Parts s1.1).Core) != 0)) && (((rd x0.Parts s1.1).Core) != 1)) || ((a1 == 3) && (decide (((rd x0.Parts s1.1).Private) < 0) || decide (((rd x0.Parts s1.1).Private) > 64)))) || ((a1 == 17) && (!t_24))) then some (.out (.ret true)) else some (.next ((IntKind.i64.wrap (s1.1 + 1)), s1.2))))) else some (.out (.brk (s1.1, s1.2))))
noncomputable def G_ref07_Holds (x0 : Config) (a1 : Int) : Option (Bool) := (bif (a1 == 1) then some (decide ((x0.Parts.length : Int) < 1) || decide ((x0.Parts.length : Int) > 6)) else (bif (((a1 == 2) || (a1 == 3)) || (a1 == 17)) then ((loopω (G_ref07_Holds.b1 x0 a1) (0, false)).bind fun o => o.on (fun s1 => some false) (fun r => some r)) else (bif (a1 == 4) then some (decide ((x0.Chans.length : Int) > 8)) else (bif (decide (a1 ≥ 5) && decide (a1 ≤ 11)) then ((G_ref07_chans x0 a1).bind fun t_48 => some t_48) else (bif (decide (a1 ≥ 12) && decide (a1 ≤ 16)) then ((G_ref07_windows x0 0 a1).bind fun t_55 => ((cal (!t_55) (G_ref07_windows x0 1 a1) default).bind fun t_57 => some (t_55 || t_57))) else some false)))))
set_option maxRecDepth 100000 in
set_option maxHeartbeats 4000000 in
theorem G_ref07_Holds.calls (x0 : Config) (a1 : Int) (sv0 : SV) (w : World) {S : Nat → Prop} (hx0 : (kd_Config).cont S w x0 sv0) (r : Bool) (h : G_ref07_Holds x0 a1 = some r) :
    Calls Try.prog 55 #[.agg ((kd_Config).cells x0 (svL [((sv0 0).1, (sv0 0).2), ((sv0 1).1, (sv0 1).2), ((sv0 2).1, (sv0 2).2), ((sv0 3).1, (sv0 3).2)])).toArray, .int .i64 a1] w fun e w' => e = .returned (.bool r) ∧ Below w.heap.size w w' := by
  replace hx0 := Kd.lo _ hx0
  unfold G_ref07_Holds at h
  have H0 := h
  clear h
  refine enter Try.func55 rfl [.agg ((kd_Config).cells x0 (svL [((sv0 0).1, (sv0 0).2), ((sv0 1).1, (sv0 1).2), ((sv0 2).1, (sv0 2).2), ((sv0 3).1, (sv0 3).2)])).toArray, .int .i64 a1] (n := 111) rfl (Nat.le_of_ble_eq_true rfl) (fun a hI => ?_)
  have hF : FOpen Fence.wide := .inl rfl
  have hE := Ep.start w
  refine seq_region (live := [4, 2, 0, 1]) (orc := []) hF hI ⟨[⟨4, [], .v (.bool false)⟩, ⟨2, [], .p 0 0⟩, ⟨0, [], .v (.agg ((kd_Config).cells x0 sv0).toArray)⟩, ⟨1, [], .v (.int .i64 a1)⟩], [], [], [((((kd_Config).cells x0 sv0).map EV.v), 29)], none, none⟩ [] (by kernel_rfl) trivial (fun ns_1 a w_2 hI _ => ?_)
  refine wpIn_seq ?_
  refine wpIn_block ?_
  refine seq_region (live := [7, 4, 2, 0, 1]) (orc := []) hF hI ⟨[⟨7, [], .v (.bool (a1 == 1))⟩, ⟨4, [], .v (.bool false)⟩, ⟨2, [], .p 0 0⟩, ⟨0, [], .v (.agg ((kd_Config).cells x0 sv0).toArray)⟩, ⟨1, [], .v (.int .i64 a1)⟩], [], [], [((((kd_Config).cells x0 sv0).map EV.v), 29)], none, none⟩ [] (by kernel_rfl) trivial (fun ns_3 a w_4 hI _ => ?_)
  refine cond_ hI ((a1 == 1)) rfl (fun hc_5 => ?_) (fun hc_5 => ?_)
  · replace H0 := bif_t hc_5 H0
    refine seq_region (live := [4, 7, 2, 0, 1]) (orc := []) hF hI ⟨[⟨4, [], .v (.bool (decide ((x0.Parts.length : Int) < 1) || decide ((x0.Parts.length : Int) > 6)))⟩, ⟨7, [], .v (.bool (a1 == 1))⟩, ⟨2, [], .p 0 0⟩, ⟨0, [], .v (.agg ((kd_Config).cells x0 sv0).toArray)⟩, ⟨1, [], .v (.int .i64 a1)⟩], [], [], [((((kd_Config).cells x0 sv0).map EV.v), 29)], none, none⟩ [] (by kernel_rfl) trivial (fun ns_6 a w_7 hI _ => ?_)
    refine wpIn_ret ?_
    refine inBlock_ret ?_
    refine then_ret ?_
    obtain rfl := Option.some.inj H0
    exact ret1 hI rfl rfl ⟨rfl, hE.below hI⟩
  · replace H0 := bif_f hc_5 H0
    refine seq_region (live := [20, 7, 4, 2, 0, 1]) (orc := []) hF hI ⟨[⟨20, [], .v (.bool (((a1 == 2) || (a1 == 3)) || (a1 == 17)))⟩, ⟨7, [], .v (.bool (a1 == 1))⟩, ⟨4, [], .v (.bool false)⟩, ⟨2, [], .p 0 0⟩, ⟨0, [], .v (.agg ((kd_Config).cells x0 sv0).toArray)⟩, ⟨1, [], .v (.int .i64 a1)⟩], [], [], [((((kd_Config).cells x0 sv0).map EV.v), 29)], none, none⟩ [] (by kernel_rfl) trivial (fun ns_8 a w_9 hI _ => ?_)
    refine cond_ hI ((((a1 == 2) || (a1 == 3)) || (a1 == 17))) rfl (fun hc_10 => ?_) (fun hc_10 => ?_)
    · replace H0 := bif_t hc_10 H0
      refine seq_region (live := [5, 20, 7, 4, 2, 0, 1]) (orc := []) hF hI ⟨[⟨5, [], .v (.int .i64 0)⟩, ⟨20, [], .v (.bool (((a1 == 2) || (a1 == 3)) || (a1 == 17)))⟩, ⟨7, [], .v (.bool (a1 == 1))⟩, ⟨4, [], .v (.bool false)⟩, ⟨2, [], .p 0 0⟩, ⟨0, [], .v (.agg ((kd_Config).cells x0 sv0).toArray)⟩, ⟨1, [], .v (.int .i64 a1)⟩], [], [], [((((kd_Config).cells x0 sv0).map EV.v), 29)], none, none⟩ [] (by kernel_rfl) trivial (fun ns_11 a w_12 hI _ => ?_)
      obtain ⟨o_33, hL_34, H0⟩ := bind_some H0
      refine block_loop (fun (s1 : Int × Bool) a w_39 => ∃ ns, St w [] 111 ⟨[⟨5, [], .v (.int .i64 s1.1)⟩, ⟨20, [], .v (.bool (((a1 == 2) || (a1 == 3)) || (a1 == 17)))⟩, ⟨7, [], .v (.bool (a1 == 1))⟩, ⟨4, [], .v (.bool s1.2)⟩, ⟨2, [], .p 0 0⟩, ⟨0, [], .v (.agg ((kd_Config).cells x0 (svL [((sv0 0).1, (sv0 0).2), ((sv0 1).1, (sv0 1).2), ((sv0 2).1, (sv0 2).2), ((sv0 3).1, (sv0 3).2)])).toArray)⟩, ⟨1, [], .v (.int .i64 a1)⟩], [], [], [((((kd_Config).cells x0 sv0).map EV.v), 29)], none, none⟩ ns a w_39) (0, false) hL_34 ⟨_, hI.pick [5, 20, 7, 4, 2, 0, 1] 1 ⟨[⟨5, [], .v (.int .i64 0)⟩, ⟨20, [], .v (.bool (((a1 == 2) || (a1 == 3)) || (a1 == 17)))⟩, ⟨7, [], .v (.bool (a1 == 1))⟩, ⟨4, [], .v (.bool false)⟩, ⟨2, [], .p 0 0⟩, ⟨0, [], .v (.agg ((kd_Config).cells x0 (svL [((sv0 0).1, (sv0 0).2), ((sv0 1).1, (sv0 1).2), ((sv0 2).1, (sv0 2).2), ((sv0 3).1, (sv0 3).2)])).toArray)⟩, ⟨1, [], .v (.int .i64 a1)⟩], [], [], [((((kd_Config).cells x0 sv0).map EV.v), 29)], none, none⟩ (by kernel_rfl)⟩ ?_ ?_
      · clear hI
        rintro s1 a w_13 ⟨ns_14, hI⟩ r1 H1
        unfold G_ref07_Holds.b1 at H1
        refine wpIn_seq ?_
        refine seq_region (live := [35, 5, 20, 7, 4, 2, 0, 1]) (orc := []) hF hI ⟨[⟨35, [], .v (.bool (decide (s1.1 < (x0.Parts.length : Int))))⟩, ⟨5, [], .v (.int .i64 s1.1)⟩, ⟨20, [], .v (.bool (((a1 == 2) || (a1 == 3)) || (a1 == 17)))⟩, ⟨7, [], .v (.bool (a1 == 1))⟩, ⟨4, [], .v (.bool s1.2)⟩, ⟨2, [], .p 0 0⟩, ⟨0, [], .v (.agg ((kd_Config).cells x0 sv0).toArray)⟩, ⟨1, [], .v (.int .i64 a1)⟩], [], [], [((((kd_Config).cells x0 sv0).map EV.v), 29)], none, none⟩ [] (by kernel_rfl) trivial (fun ns_15 a w_16 hI _ => ?_)
        refine cond_ hI (decide (s1.1 < (x0.Parts.length : Int))) rfl (fun hc_17 => ?_) (fun hc_17 => ?_)
        · replace H1 := bif_t hc_17 H1
          refine wpIn_skip ?_
          refine then_normal ?_
          refine wpIn_seq ?_
          refine wpIn_block ?_
          obtain ⟨hN_18, H1⟩ := req_some H1
          obtain ⟨sv_19, hE_21, hA_20⟩ := Arr.elB (d := kd_Part) hx0.1.1 s1.1 true (fun _ => hN_18)
          replace hE_21 := hE_21 rfl
          replace hA_20 := fun (_ : true = true) => hA_20 rfl
          refine seq_region (live := [6, 35, 5, 20, 7, 4, 2, 0, 1]) (orc := [(kd_Part).cells (rd x0.Parts s1.1) sv_19]) hF hI ⟨[⟨6, [], .p 1 0⟩, ⟨35, [], .v (.bool (decide (s1.1 < (x0.Parts.length : Int))))⟩, ⟨5, [], .v (.int .i64 s1.1)⟩, ⟨20, [], .v (.bool (((a1 == 2) || (a1 == 3)) || (a1 == 17)))⟩, ⟨7, [], .v (.bool (a1 == 1))⟩, ⟨4, [], .v (.bool s1.2)⟩, ⟨2, [], .p 0 0⟩, ⟨0, [], .v (.agg ((kd_Config).cells x0 sv0).toArray)⟩, ⟨1, [], .v (.int .i64 a1)⟩], [], [], [((((kd_Config).cells x0 sv0).map EV.v), 29), ((((kd_Part).cells (rd x0.Parts s1.1) sv_19).map EV.v), 86)], none, none⟩ [.need true (0 ≤ s1.1 ∧ s1.1 < (x0.Parts.length : Int)), .need true ((sv0 0).1 = some (adr ((sv0 0).1))), .cell true ((adr ((sv0 0).1)).add ((s1.1 : Int).toNat * 2)) ((kd_Part).cells (rd x0.Parts s1.1) sv_19)] (by kernel_rfl) ⟨ob_inb (fun _ => hN_18), hA_20, ob_el (fun _ => hE_21) 0 ((kd_Part).cells (rd x0.Parts s1.1) sv_19) rfl, trivial⟩ (fun ns_22 a w_23 hI _ => ?_)
          obtain ⟨t_24, hG_25, H1⟩ := bind_some H1
          refine seq_region (live := [78, 6, 35, 5, 20, 7, 4, 2, 0, 1]) (orc := [[.bool t_24]]) hF hI ⟨[⟨78, [], .v (.bool (((((a1 == 2) && (((rd x0.Parts s1.1).Core) != 0)) && (((rd x0.Parts s1.1).Core) != 1)) || ((a1 == 3) && (decide (((rd x0.Parts s1.1).Private) < 0) || decide (((rd x0.Parts s1.1).Private) > 64)))) || ((a1 == 17) && (!t_24))))⟩, ⟨6, [], .p 1 0⟩, ⟨35, [], .v (.bool (decide (s1.1 < (x0.Parts.length : Int))))⟩, ⟨5, [], .v (.int .i64 s1.1)⟩, ⟨20, [], .v (.bool (((a1 == 2) || (a1 == 3)) || (a1 == 17)))⟩, ⟨7, [], .v (.bool (a1 == 1))⟩, ⟨4, [], .v (.bool s1.2)⟩, ⟨2, [], .p 0 0⟩, ⟨0, [], .v (.agg ((kd_Config).cells x0 (svL [((sv0 0).1, (sv0 0).2), ((sv0 1).1, (sv0 1).2), ((sv0 2).1, (sv0 2).2), ((sv0 3).1, (sv0 3).2)])).toArray)⟩, ⟨1, [], .v (.int .i64 a1)⟩], [], [], [((((kd_Config).cells x0 sv0).map EV.v), 29), ((((kd_Part).cells (rd x0.Parts s1.1) sv_19).map EV.v), 86)], none, none⟩ [.call (!((((a1 == 2) && (((rd x0.Parts s1.1).Core) != 0)) && (((rd x0.Parts s1.1).Core) != 1)) || ((a1 == 3) && (decide (((rd x0.Parts s1.1).Private) < 0) || decide (((rd x0.Parts s1.1).Private) > 64)))) && (a1 == 17)) 72 [.agg ((kd_Config).cells x0 (svL [((sv0 0).1, (sv0 0).2), ((sv0 1).1, (sv0 1).2), ((sv0 2).1, (sv0 2).2), ((sv0 3).1, (sv0 3).2)])).toArray, .int .i64 s1.1] (.bool t_24)] (by kernel_rfl) ⟨ob_call (enters Try.func72 (by kernel_rfl) rfl) (fun hg wz hk => G_ref07_window.calls x0 s1.1 (svL [((sv0 0).1, (sv0 0).2), ((sv0 1).1, (sv0 1).2), ((sv0 2).1, (sv0 2).2), ((sv0 3).1, (sv0 3).2)]) wz (S := fun _ => True) (Kd.any _ (Kd.keep kd_Config (contI (S := Lo S w w [] []) (w := w) (d := kd_Config) (x := x0) (sv := (svL [((sv0 0).1, (sv0 0).2), ((sv0 1).1, (sv0 1).2), ((sv0 2).1, (sv0 2).2), ((sv0 3).1, (sv0 3).2)])) ⟨⟨hx0.1.1, hx0.1.2⟩, ⟨hx0.2.1.1, hx0.2.1.2⟩, ⟨hx0.2.2.1.1, hx0.2.2.1.2⟩, ⟨hx0.2.2.2.1.1, hx0.2.2.2.1.2⟩, trivial⟩) (Lo.on hk))) _ (cal_some hG_25 hg)), trivial⟩ (fun ns_26 a w_27 hI _ => ?_)
          refine cond_ hI ((((((a1 == 2) && (((rd x0.Parts s1.1).Core) != 0)) && (((rd x0.Parts s1.1).Core) != 1)) || ((a1 == 3) && (decide (((rd x0.Parts s1.1).Private) < 0) || decide (((rd x0.Parts s1.1).Private) > 64)))) || ((a1 == 17) && (!t_24)))) rfl (fun hc_28 => ?_) (fun hc_28 => ?_)
          · replace H1 := bif_t hc_28 H1
            refine seq_region (live := [4, 78, 6, 35, 5, 20, 7, 2, 0, 1]) (orc := []) hF hI ⟨[⟨4, [], .v (.bool true)⟩, ⟨78, [], .v (.bool (((((a1 == 2) && (((rd x0.Parts s1.1).Core) != 0)) && (((rd x0.Parts s1.1).Core) != 1)) || ((a1 == 3) && (decide (((rd x0.Parts s1.1).Private) < 0) || decide (((rd x0.Parts s1.1).Private) > 64)))) || ((a1 == 17) && (!t_24))))⟩, ⟨6, [], .p 1 0⟩, ⟨35, [], .v (.bool (decide (s1.1 < (x0.Parts.length : Int))))⟩, ⟨5, [], .v (.int .i64 s1.1)⟩, ⟨20, [], .v (.bool (((a1 == 2) || (a1 == 3)) || (a1 == 17)))⟩, ⟨7, [], .v (.bool (a1 == 1))⟩, ⟨2, [], .p 0 0⟩, ⟨0, [], .v (.agg ((kd_Config).cells x0 (svL [((sv0 0).1, (sv0 0).2), ((sv0 1).1, (sv0 1).2), ((sv0 2).1, (sv0 2).2), ((sv0 3).1, (sv0 3).2)])).toArray)⟩, ⟨1, [], .v (.int .i64 a1)⟩], [], [], [((((kd_Config).cells x0 sv0).map EV.v), 29), ((((kd_Part).cells (rd x0.Parts s1.1) sv_19).map EV.v), 86)], none, none⟩ [] (by kernel_rfl) trivial (fun ns_29 a w_30 hI _ => ?_)
            refine wpIn_ret ?_
            refine inBlock_ret ?_
            refine then_ret ?_
            refine then_ret ?_
            obtain rfl := Option.some.inj H1
            refine .inr ⟨_, rfl, fun ho => ?_⟩
            subst ho
            refine inBlock_ret ?_
            refine inBlock_ret ?_
            refine then_ret ?_
            obtain rfl := Option.some.inj H0
            exact ret1 hI rfl rfl ⟨rfl, hE.below hI⟩
          · replace H1 := bif_f hc_28 H1
            refine wpIn_skip ?_
            refine inBlock_normal ?_
            refine then_normal ?_
            refine region_ (live := [5, 78, 6, 35, 20, 7, 4, 2, 0, 1]) (orc := []) hF hI ⟨[⟨5, [], .v (.int .i64 (IntKind.i64.wrap (s1.1 + 1)))⟩, ⟨78, [], .v (.bool (((((a1 == 2) && (((rd x0.Parts s1.1).Core) != 0)) && (((rd x0.Parts s1.1).Core) != 1)) || ((a1 == 3) && (decide (((rd x0.Parts s1.1).Private) < 0) || decide (((rd x0.Parts s1.1).Private) > 64)))) || ((a1 == 17) && (!t_24))))⟩, ⟨6, [], .p 1 0⟩, ⟨35, [], .v (.bool (decide (s1.1 < (x0.Parts.length : Int))))⟩, ⟨20, [], .v (.bool (((a1 == 2) || (a1 == 3)) || (a1 == 17)))⟩, ⟨7, [], .v (.bool (a1 == 1))⟩, ⟨4, [], .v (.bool s1.2)⟩, ⟨2, [], .p 0 0⟩, ⟨0, [], .v (.agg ((kd_Config).cells x0 (svL [((sv0 0).1, (sv0 0).2), ((sv0 1).1, (sv0 1).2), ((sv0 2).1, (sv0 2).2), ((sv0 3).1, (sv0 3).2)])).toArray)⟩, ⟨1, [], .v (.int .i64 a1)⟩], [], [], [((((kd_Config).cells x0 sv0).map EV.v), 29), ((((kd_Part).cells (rd x0.Parts s1.1) sv_19).map EV.v), 86)], none, none⟩ [] (by kernel_rfl) trivial (fun ns_31 a w_32 hI _ => ?_)
            refine then_normal ?_
            obtain rfl := Option.some.inj H1
            exact ⟨_, rfl, ⟨_, hI.pick [5, 20, 7, 4, 2, 0, 1] 1 ⟨[⟨5, [], .v (.int .i64 (IntKind.i64.wrap (s1.1 + 1)))⟩, ⟨20, [], .v (.bool (((a1 == 2) || (a1 == 3)) || (a1 == 17)))⟩, ⟨7, [], .v (.bool (a1 == 1))⟩, ⟨4, [], .v (.bool s1.2)⟩, ⟨2, [], .p 0 0⟩, ⟨0, [], .v (.agg ((kd_Config).cells x0 (svL [((sv0 0).1, (sv0 0).2), ((sv0 1).1, (sv0 1).2), ((sv0 2).1, (sv0 2).2), ((sv0 3).1, (sv0 3).2)])).toArray)⟩, ⟨1, [], .v (.int .i64 a1)⟩], [], [], [((((kd_Config).cells x0 sv0).map EV.v), 29)], none, none⟩ (by kernel_rfl)⟩⟩
        · replace H1 := bif_f hc_17 H1
          refine wpIn_exit ?_
          refine then_exit ?_
          refine then_exit ?_
          obtain rfl := Option.some.inj H1
          exact .inl ⟨_, rfl, rfl, ⟨_, hI.pick [5, 20, 7, 4, 2, 0, 1] 1 ⟨[⟨5, [], .v (.int .i64 s1.1)⟩, ⟨20, [], .v (.bool (((a1 == 2) || (a1 == 3)) || (a1 == 17)))⟩, ⟨7, [], .v (.bool (a1 == 1))⟩, ⟨4, [], .v (.bool s1.2)⟩, ⟨2, [], .p 0 0⟩, ⟨0, [], .v (.agg ((kd_Config).cells x0 (svL [((sv0 0).1, (sv0 0).2), ((sv0 1).1, (sv0 1).2), ((sv0 2).1, (sv0 2).2), ((sv0 3).1, (sv0 3).2)])).toArray)⟩, ⟨1, [], .v (.int .i64 a1)⟩], [], [], [((((kd_Config).cells x0 sv0).map EV.v), 29)], none, none⟩ (by kernel_rfl)⟩⟩
      · clear hI
        rintro s1 a w_35 ho ⟨ns_36, hI⟩
        subst ho
        replace H0 : (some false : Option (Bool)) = _ := H0
        refine inBlock_normal ?_
        refine then_normal ?_
        refine seq_region (live := [4, 5, 20, 7, 2, 0, 1]) (orc := []) hF hI ⟨[⟨4, [], .v (.bool false)⟩, ⟨5, [], .v (.int .i64 s1.1)⟩, ⟨20, [], .v (.bool (((a1 == 2) || (a1 == 3)) || (a1 == 17)))⟩, ⟨7, [], .v (.bool (a1 == 1))⟩, ⟨2, [], .p 0 0⟩, ⟨0, [], .v (.agg ((kd_Config).cells x0 (svL [((sv0 0).1, (sv0 0).2), ((sv0 1).1, (sv0 1).2), ((sv0 2).1, (sv0 2).2), ((sv0 3).1, (sv0 3).2)])).toArray)⟩, ⟨1, [], .v (.int .i64 a1)⟩], [], [], [((((kd_Config).cells x0 sv0).map EV.v), 29)], none, none⟩ [] (by kernel_rfl) trivial (fun ns_37 a w_38 hI _ => ?_)
        refine wpIn_ret ?_
        obtain rfl := Option.some.inj H0
        exact ret1 hI rfl rfl ⟨rfl, hE.below hI⟩
    · replace H0 := bif_f hc_10 H0
      refine seq_region (live := [79, 20, 7, 4, 2, 0, 1]) (orc := []) hF hI ⟨[⟨79, [], .v (.bool (a1 == 4))⟩, ⟨20, [], .v (.bool (((a1 == 2) || (a1 == 3)) || (a1 == 17)))⟩, ⟨7, [], .v (.bool (a1 == 1))⟩, ⟨4, [], .v (.bool false)⟩, ⟨2, [], .p 0 0⟩, ⟨0, [], .v (.agg ((kd_Config).cells x0 (svL [((sv0 0).1, (sv0 0).2), ((sv0 1).1, (sv0 1).2), ((sv0 2).1, (sv0 2).2), ((sv0 3).1, (sv0 3).2)])).toArray)⟩, ⟨1, [], .v (.int .i64 a1)⟩], [], [], [((((kd_Config).cells x0 sv0).map EV.v), 29)], none, none⟩ [] (by kernel_rfl) trivial (fun ns_40 a w_41 hI _ => ?_)
      refine cond_ hI ((a1 == 4)) rfl (fun hc_42 => ?_) (fun hc_42 => ?_)
      · replace H0 := bif_t hc_42 H0
        refine seq_region (live := [4, 79, 20, 7, 2, 0, 1]) (orc := []) hF hI ⟨[⟨4, [], .v (.bool (decide ((x0.Chans.length : Int) > 8)))⟩, ⟨79, [], .v (.bool (a1 == 4))⟩, ⟨20, [], .v (.bool (((a1 == 2) || (a1 == 3)) || (a1 == 17)))⟩, ⟨7, [], .v (.bool (a1 == 1))⟩, ⟨2, [], .p 0 0⟩, ⟨0, [], .v (.agg ((kd_Config).cells x0 (svL [((sv0 0).1, (sv0 0).2), ((sv0 1).1, (sv0 1).2), ((sv0 2).1, (sv0 2).2), ((sv0 3).1, (sv0 3).2)])).toArray)⟩, ⟨1, [], .v (.int .i64 a1)⟩], [], [], [((((kd_Config).cells x0 sv0).map EV.v), 29)], none, none⟩ [] (by kernel_rfl) trivial (fun ns_43 a w_44 hI _ => ?_)
        refine wpIn_ret ?_
        refine inBlock_ret ?_
        refine then_ret ?_
        obtain rfl := Option.some.inj H0
        exact ret1 hI rfl rfl ⟨rfl, hE.below hI⟩
      · replace H0 := bif_f hc_42 H0
        refine seq_region (live := [86, 79, 20, 7, 4, 2, 0, 1]) (orc := []) hF hI ⟨[⟨86, [], .v (.bool (decide (a1 ≥ 5) && decide (a1 ≤ 11)))⟩, ⟨79, [], .v (.bool (a1 == 4))⟩, ⟨20, [], .v (.bool (((a1 == 2) || (a1 == 3)) || (a1 == 17)))⟩, ⟨7, [], .v (.bool (a1 == 1))⟩, ⟨4, [], .v (.bool false)⟩, ⟨2, [], .p 0 0⟩, ⟨0, [], .v (.agg ((kd_Config).cells x0 (svL [((sv0 0).1, (sv0 0).2), ((sv0 1).1, (sv0 1).2), ((sv0 2).1, (sv0 2).2), ((sv0 3).1, (sv0 3).2)])).toArray)⟩, ⟨1, [], .v (.int .i64 a1)⟩], [], [], [((((kd_Config).cells x0 sv0).map EV.v), 29)], none, none⟩ [] (by kernel_rfl) trivial (fun ns_45 a w_46 hI _ => ?_)
        refine cond_ hI ((decide (a1 ≥ 5) && decide (a1 ≤ 11))) rfl (fun hc_47 => ?_) (fun hc_47 => ?_)
        · replace H0 := bif_t hc_47 H0
          obtain ⟨t_48, hG_49, H0⟩ := bind_some H0
          refine seq_region (live := [4, 86, 79, 20, 7, 2, 0, 1]) (orc := [[.bool t_48]]) hF hI ⟨[⟨4, [], .v (.bool t_48)⟩, ⟨86, [], .v (.bool (decide (a1 ≥ 5) && decide (a1 ≤ 11)))⟩, ⟨79, [], .v (.bool (a1 == 4))⟩, ⟨20, [], .v (.bool (((a1 == 2) || (a1 == 3)) || (a1 == 17)))⟩, ⟨7, [], .v (.bool (a1 == 1))⟩, ⟨2, [], .p 0 0⟩, ⟨0, [], .v (.agg ((kd_Config).cells x0 (svL [((sv0 0).1, (sv0 0).2), ((sv0 1).1, (sv0 1).2), ((sv0 2).1, (sv0 2).2), ((sv0 3).1, (sv0 3).2)])).toArray)⟩, ⟨1, [], .v (.int .i64 a1)⟩], [], [], [((((kd_Config).cells x0 sv0).map EV.v), 29)], none, none⟩ [.call true 73 [.agg ((kd_Config).cells x0 (svL [((sv0 0).1, (sv0 0).2), ((sv0 1).1, (sv0 1).2), ((sv0 2).1, (sv0 2).2), ((sv0 3).1, (sv0 3).2)])).toArray, .int .i64 a1] (.bool t_48)] (by kernel_rfl) ⟨ob_call (enters Try.func73 (by kernel_rfl) rfl) (fun hg wz hk => G_ref07_chans.calls x0 a1 (svL [((sv0 0).1, (sv0 0).2), ((sv0 1).1, (sv0 1).2), ((sv0 2).1, (sv0 2).2), ((sv0 3).1, (sv0 3).2)]) wz (S := fun _ => True) (Kd.any _ (Kd.keep kd_Config (contI (S := Lo S w w [] []) (w := w) (d := kd_Config) (x := x0) (sv := (svL [((sv0 0).1, (sv0 0).2), ((sv0 1).1, (sv0 1).2), ((sv0 2).1, (sv0 2).2), ((sv0 3).1, (sv0 3).2)])) ⟨⟨hx0.1.1, hx0.1.2⟩, ⟨hx0.2.1.1, hx0.2.1.2⟩, ⟨hx0.2.2.1.1, hx0.2.2.1.2⟩, ⟨hx0.2.2.2.1.1, hx0.2.2.2.1.2⟩, trivial⟩) (Lo.on hk))) _ hG_49), trivial⟩ (fun ns_50 a w_51 hI _ => ?_)
          refine wpIn_ret ?_
          refine inBlock_ret ?_
          refine then_ret ?_
          obtain rfl := Option.some.inj H0
          exact ret1 hI rfl rfl ⟨rfl, hE.below hI⟩
        · replace H0 := bif_f hc_47 H0
          refine seq_region (live := [96, 86, 79, 20, 7, 4, 2, 0, 1]) (orc := []) hF hI ⟨[⟨96, [], .v (.bool (decide (a1 ≥ 12) && decide (a1 ≤ 16)))⟩, ⟨86, [], .v (.bool (decide (a1 ≥ 5) && decide (a1 ≤ 11)))⟩, ⟨79, [], .v (.bool (a1 == 4))⟩, ⟨20, [], .v (.bool (((a1 == 2) || (a1 == 3)) || (a1 == 17)))⟩, ⟨7, [], .v (.bool (a1 == 1))⟩, ⟨4, [], .v (.bool false)⟩, ⟨2, [], .p 0 0⟩, ⟨0, [], .v (.agg ((kd_Config).cells x0 (svL [((sv0 0).1, (sv0 0).2), ((sv0 1).1, (sv0 1).2), ((sv0 2).1, (sv0 2).2), ((sv0 3).1, (sv0 3).2)])).toArray)⟩, ⟨1, [], .v (.int .i64 a1)⟩], [], [], [((((kd_Config).cells x0 sv0).map EV.v), 29)], none, none⟩ [] (by kernel_rfl) trivial (fun ns_52 a w_53 hI _ => ?_)
          refine cond_ hI ((decide (a1 ≥ 12) && decide (a1 ≤ 16))) rfl (fun hc_54 => ?_) (fun hc_54 => ?_)
          · replace H0 := bif_t hc_54 H0
            obtain ⟨t_55, hG_56, H0⟩ := bind_some H0
            obtain ⟨t_57, hG_58, H0⟩ := bind_some H0
            refine seq_region (live := [4, 96, 86, 79, 20, 7, 2, 0, 1]) (orc := [[.bool t_55], [.bool t_57]]) hF hI ⟨[⟨4, [], .v (.bool (t_55 || t_57))⟩, ⟨96, [], .v (.bool (decide (a1 ≥ 12) && decide (a1 ≤ 16)))⟩, ⟨86, [], .v (.bool (decide (a1 ≥ 5) && decide (a1 ≤ 11)))⟩, ⟨79, [], .v (.bool (a1 == 4))⟩, ⟨20, [], .v (.bool (((a1 == 2) || (a1 == 3)) || (a1 == 17)))⟩, ⟨7, [], .v (.bool (a1 == 1))⟩, ⟨2, [], .p 0 0⟩, ⟨0, [], .v (.agg ((kd_Config).cells x0 (svL [((sv0 0).1, (sv0 0).2), ((sv0 1).1, (sv0 1).2), ((sv0 2).1, (sv0 2).2), ((sv0 3).1, (sv0 3).2)])).toArray)⟩, ⟨1, [], .v (.int .i64 a1)⟩], [], [], [((((kd_Config).cells x0 sv0).map EV.v), 29)], none, none⟩ [.call true 74 [.agg ((kd_Config).cells x0 (svL [((sv0 0).1, (sv0 0).2), ((sv0 1).1, (sv0 1).2), ((sv0 2).1, (sv0 2).2), ((sv0 3).1, (sv0 3).2)])).toArray, .int .i64 0, .int .i64 a1] (.bool t_55), .call (!t_55) 74 [.agg ((kd_Config).cells x0 (svL [((sv0 0).1, (sv0 0).2), ((sv0 1).1, (sv0 1).2), ((sv0 2).1, (sv0 2).2), ((sv0 3).1, (sv0 3).2)])).toArray, .int .i64 1, .int .i64 a1] (.bool t_57)] (by kernel_rfl) ⟨ob_call (enters Try.func74 (by kernel_rfl) rfl) (fun hg wz hk => G_ref07_windows.calls x0 0 a1 (svL [((sv0 0).1, (sv0 0).2), ((sv0 1).1, (sv0 1).2), ((sv0 2).1, (sv0 2).2), ((sv0 3).1, (sv0 3).2)]) wz (S := fun _ => True) (Kd.any _ (Kd.keep kd_Config (contI (S := Lo S w w [] []) (w := w) (d := kd_Config) (x := x0) (sv := (svL [((sv0 0).1, (sv0 0).2), ((sv0 1).1, (sv0 1).2), ((sv0 2).1, (sv0 2).2), ((sv0 3).1, (sv0 3).2)])) ⟨⟨hx0.1.1, hx0.1.2⟩, ⟨hx0.2.1.1, hx0.2.1.2⟩, ⟨hx0.2.2.1.1, hx0.2.2.1.2⟩, ⟨hx0.2.2.2.1.1, hx0.2.2.2.1.2⟩, trivial⟩) (Lo.on hk))) _ hG_56), ob_call (enters Try.func74 (by kernel_rfl) rfl) (fun hg wz hk => G_ref07_windows.calls x0 1 a1 (svL [((sv0 0).1, (sv0 0).2), ((sv0 1).1, (sv0 1).2), ((sv0 2).1, (sv0 2).2), ((sv0 3).1, (sv0 3).2)]) wz (S := fun _ => True) (Kd.any _ (Kd.keep kd_Config (contI (S := Lo S w w [] []) (w := w) (d := kd_Config) (x := x0) (sv := (svL [((sv0 0).1, (sv0 0).2), ((sv0 1).1, (sv0 1).2), ((sv0 2).1, (sv0 2).2), ((sv0 3).1, (sv0 3).2)])) ⟨⟨hx0.1.1, hx0.1.2⟩, ⟨hx0.2.1.1, hx0.2.1.2⟩, ⟨hx0.2.2.1.1, hx0.2.2.1.2⟩, ⟨hx0.2.2.2.1.1, hx0.2.2.2.1.2⟩, trivial⟩) (Lo.on hk))) _ (cal_some hG_58 hg)), trivial⟩ (fun ns_59 a w_60 hI _ => ?_)
            refine wpIn_ret ?_
            refine inBlock_ret ?_
            refine then_ret ?_
            obtain rfl := Option.some.inj H0
            exact ret1 hI rfl rfl ⟨rfl, hE.below hI⟩
          · replace H0 := bif_f hc_54 H0
            refine wpIn_skip ?_
            refine inBlock_normal ?_
            refine then_normal ?_
            refine seq_region (live := [4, 96, 86, 79, 20, 7, 2, 0, 1]) (orc := []) hF hI ⟨[⟨4, [], .v (.bool false)⟩, ⟨96, [], .v (.bool (decide (a1 ≥ 12) && decide (a1 ≤ 16)))⟩, ⟨86, [], .v (.bool (decide (a1 ≥ 5) && decide (a1 ≤ 11)))⟩, ⟨79, [], .v (.bool (a1 == 4))⟩, ⟨20, [], .v (.bool (((a1 == 2) || (a1 == 3)) || (a1 == 17)))⟩, ⟨7, [], .v (.bool (a1 == 1))⟩, ⟨2, [], .p 0 0⟩, ⟨0, [], .v (.agg ((kd_Config).cells x0 (svL [((sv0 0).1, (sv0 0).2), ((sv0 1).1, (sv0 1).2), ((sv0 2).1, (sv0 2).2), ((sv0 3).1, (sv0 3).2)])).toArray)⟩, ⟨1, [], .v (.int .i64 a1)⟩], [], [], [((((kd_Config).cells x0 sv0).map EV.v), 29)], none, none⟩ [] (by kernel_rfl) trivial (fun ns_61 a w_62 hI _ => ?_)
            refine wpIn_ret ?_
            obtain rfl := Option.some.inj H0
            exact ret1 hI rfl rfl ⟨rfl, hE.below hI⟩

/-! ### porthole/portholeref07.All: function 39 -/
noncomputable def G_ref07_All.b1 (x0 : Config) (s1 : Int × (List Int)) : Option (Stp (Int × (List Int)) (Ex (Int × (List Int)) ((List Int)))) := (bif decide (s1.1 ≤ 17) then ((G_ref07_Holds x0 s1.1).bind fun t_16 => (bif t_16 then (req (decide ((s1.2.length + 1) * 8 ≤ 140737488355328)) (some (.next ((IntKind.i64.wrap (s1.1 + 1)), (s1.2 ++ [s1.1]))))) else some (.next ((IntKind.i64.wrap (s1.1 + 1)), s1.2)))) else some (.out (.brk (s1.1, s1.2))))
noncomputable def G_ref07_All (x0 : Config) : Option ((List Int)) := ((loopω (G_ref07_All.b1 x0) (1, ([] : List Int))).bind fun o => o.on (fun s1 => some s1.2) (fun r => some r))
set_option maxRecDepth 100000 in
set_option maxHeartbeats 4000000 in
theorem G_ref07_All.calls (x0 : Config) (sv0 : SV) (w : World) {S : Nat → Prop} (hx0 : (kd_Config).cont S w x0 sv0) (r : (List Int)) (h : G_ref07_All x0 = some r) :
    Calls Try.prog 39 #[.agg ((kd_Config).cells x0 (svL [((sv0 0).1, (sv0 0).2), ((sv0 1).1, (sv0 1).2), ((sv0 2).1, (sv0 2).2), ((sv0 3).1, (sv0 3).2)])).toArray] w fun e w' => ∃ sv : SV, e = .returned (.slice ((sv 0).1) r.length ((sv 0).2)) ∧ Below w.heap.size w w' ∧ (Arr (Kd.int .i64) (fun b => w.heap.size ≤ b ∨ S b) w' (sv 0).1 r ∧ r.length ≤ (sv 0).2) := by
  replace hx0 := Kd.lo _ hx0
  unfold G_ref07_All at h
  have H0 := h
  clear h
  refine enter Try.func39 rfl [.agg ((kd_Config).cells x0 (svL [((sv0 0).1, (sv0 0).2), ((sv0 1).1, (sv0 1).2), ((sv0 2).1, (sv0 2).2), ((sv0 3).1, (sv0 3).2)])).toArray] (n := 17) rfl (Nat.le_of_ble_eq_true rfl) (fun a hI => ?_)
  have hF : FOpen Fence.wide := .inl rfl
  have hE := Ep.start w
  refine seq_region (live := [2, 1, 0]) (orc := []) hF hI ⟨[⟨2, [], .v (.slice none 0 0)⟩, ⟨1, [], .p 0 0⟩, ⟨0, [], .v (.agg ((kd_Config).cells x0 sv0).toArray)⟩], [], [], [((((kd_Config).cells x0 sv0).map EV.v), 29)], none, none⟩ [] (by kernel_rfl) trivial (fun ns_1 a w_2 hI _ => ?_)
  refine seq_region (live := [3, 2, 1, 0]) (orc := []) hF hI ⟨[⟨3, [], .v (.slice none 0 0)⟩, ⟨2, [], .v (.slice none 0 0)⟩, ⟨1, [], .p 0 0⟩, ⟨0, [], .v (.agg ((kd_Config).cells x0 sv0).toArray)⟩], [], [], [((((kd_Config).cells x0 sv0).map EV.v), 29)], none, none⟩ [] (by kernel_rfl) trivial (fun ns_3 a w_4 hI _ => ?_)
  refine wpIn_seq ?_
  refine seq_region (live := [4, 3, 2, 1, 0]) (orc := []) hF hI ⟨[⟨4, [], .v (.int .i64 1)⟩, ⟨3, [], .v (.slice none 0 0)⟩, ⟨2, [], .v (.slice none 0 0)⟩, ⟨1, [], .p 0 0⟩, ⟨0, [], .v (.agg ((kd_Config).cells x0 sv0).toArray)⟩], [], [], [((((kd_Config).cells x0 sv0).map EV.v), 29)], none, none⟩ [] (by kernel_rfl) trivial (fun ns_5 a w_6 hI _ => ?_)
  obtain ⟨hE', hmv, hmr⟩ := Ep.rebase (S0 := S) hE hI
  replace hx0 := Kd.keep _ hx0 hmv
  replace hE := hE'
  replace hI := hI.rebase
  clear hE' hmv hmr
  obtain ⟨hE', hmv⟩ := Ep.addNil (S0 := S) hE
  have hmr : ∀ b : Nat, some b ∈ ([] : List (Option Nat)) → w_6.heap[b]? = w_6.heap[b]? := fun _ _ => rfl
  replace hx0 := Kd.keep _ hx0 hmv
  replace hE := hE'
  clear hE' hmv hmr
  have hq_7 : Row (Kd.int .i64) 3 (Lo S w w_6 ns_5 [rb none]) w_6 w.heap.size none 0 ([] : List Int) := Row.nil
  obtain ⟨o_39, hL_40, H0⟩ := bind_some H0
  refine block_loop (fun (s1 : Int × (List Int)) a w_47 => ∃ (ow ns : List Nat) (A_8 : Option Addr) (c_9 : Nat), ((kd_Config).cont (Lo S w w_47 ow [rb A_8]) w_47 x0 sv0) ∧ (Row (Kd.int .i64) 3 (Lo S w w_47 ow [rb A_8]) w_47 w.heap.size A_8 c_9 s1.2) ∧ Ep w w_47 ow [rb A_8] ∧ St w_47 ow 17 ⟨[⟨4, [], .v (.int .i64 s1.1)⟩, ⟨3, [], .v (.slice A_8 s1.2.length c_9)⟩, ⟨2, [], .v (.slice none 0 0)⟩, ⟨1, [], .p 0 0⟩, ⟨0, [], .v (.agg ((kd_Config).cells x0 (svL [((sv0 0).1, (sv0 0).2), ((sv0 1).1, (sv0 1).2), ((sv0 2).1, (sv0 2).2), ((sv0 3).1, (sv0 3).2)])).toArray)⟩], [], [], [((((kd_Config).cells x0 sv0).map EV.v), 29)], none, none⟩ ns a w_47) (1, ([] : List Int)) hL_40 ⟨_, _, _, _, hx0, hq_7, hE, hI.pick [4, 3, 2, 1, 0] 1 ⟨[⟨4, [], .v (.int .i64 1)⟩, ⟨3, [], .v (.slice none ([] : List Int).length 0)⟩, ⟨2, [], .v (.slice none 0 0)⟩, ⟨1, [], .p 0 0⟩, ⟨0, [], .v (.agg ((kd_Config).cells x0 (svL [((sv0 0).1, (sv0 0).2), ((sv0 1).1, (sv0 1).2), ((sv0 2).1, (sv0 2).2), ((sv0 3).1, (sv0 3).2)])).toArray)⟩], [], [], [((((kd_Config).cells x0 sv0).map EV.v), 29)], none, none⟩ (by kernel_rfl)⟩ ?_ ?_
  · clear hI hE
    rintro s1 a w_10 ⟨ow_12, ns_11, A_8, c_9, hx0, hq_7, hE, hI⟩ r1 H1
    unfold G_ref07_All.b1 at H1
    refine wpIn_seq ?_
    refine seq_region (live := [6, 4, 3, 2, 1, 0]) (orc := []) hF hI ⟨[⟨6, [], .v (.bool (decide (s1.1 ≤ 17)))⟩, ⟨4, [], .v (.int .i64 s1.1)⟩, ⟨3, [], .v (.slice A_8 s1.2.length c_9)⟩, ⟨2, [], .v (.slice none 0 0)⟩, ⟨1, [], .p 0 0⟩, ⟨0, [], .v (.agg ((kd_Config).cells x0 sv0).toArray)⟩], [], [], [((((kd_Config).cells x0 sv0).map EV.v), 29)], none, none⟩ [] (by kernel_rfl) trivial (fun ns_13 a w_14 hI _ => ?_)
    refine cond_ hI (decide (s1.1 ≤ 17)) rfl (fun hc_15 => ?_) (fun hc_15 => ?_)
    · replace H1 := bif_t hc_15 H1
      refine wpIn_skip ?_
      refine then_normal ?_
      refine wpIn_seq ?_
      refine wpIn_block ?_
      obtain ⟨t_16, hG_17, H1⟩ := bind_some H1
      refine seq_region (live := [11, 6, 4, 3, 2, 1, 0]) (orc := [[.bool t_16]]) hF hI ⟨[⟨11, [], .v (.bool t_16)⟩, ⟨6, [], .v (.bool (decide (s1.1 ≤ 17)))⟩, ⟨4, [], .v (.int .i64 s1.1)⟩, ⟨3, [], .v (.slice A_8 s1.2.length c_9)⟩, ⟨2, [], .v (.slice none 0 0)⟩, ⟨1, [], .p 0 0⟩, ⟨0, [], .v (.agg ((kd_Config).cells x0 (svL [((sv0 0).1, (sv0 0).2), ((sv0 1).1, (sv0 1).2), ((sv0 2).1, (sv0 2).2), ((sv0 3).1, (sv0 3).2)])).toArray)⟩], [], [], [((((kd_Config).cells x0 sv0).map EV.v), 29)], none, none⟩ [.call true 55 [.agg ((kd_Config).cells x0 (svL [((sv0 0).1, (sv0 0).2), ((sv0 1).1, (sv0 1).2), ((sv0 2).1, (sv0 2).2), ((sv0 3).1, (sv0 3).2)])).toArray, .int .i64 s1.1] (.bool t_16)] (by kernel_rfl) ⟨ob_call (enters Try.func55 (by kernel_rfl) rfl) (fun hg wz hk => G_ref07_Holds.calls x0 s1.1 (svL [((sv0 0).1, (sv0 0).2), ((sv0 1).1, (sv0 1).2), ((sv0 2).1, (sv0 2).2), ((sv0 3).1, (sv0 3).2)]) wz (S := fun _ => True) (Kd.any _ (Kd.keep kd_Config (contI (S := Lo S w w_10 ow_12 [rb A_8]) (w := w_10) (d := kd_Config) (x := x0) (sv := (svL [((sv0 0).1, (sv0 0).2), ((sv0 1).1, (sv0 1).2), ((sv0 2).1, (sv0 2).2), ((sv0 3).1, (sv0 3).2)])) ⟨⟨hx0.1.1, hx0.1.2⟩, ⟨hx0.2.1.1, hx0.2.1.2⟩, ⟨hx0.2.2.1.1, hx0.2.2.1.2⟩, ⟨hx0.2.2.2.1.1, hx0.2.2.2.1.2⟩, trivial⟩) (Lo.on hk))) _ hG_17), trivial⟩ (fun ns_18 a w_19 hI _ => ?_)
      refine cond_ hI (t_16) rfl (fun hc_20 => ?_) (fun hc_20 => ?_)
      · replace H1 := bif_t hc_20 H1
        refine wpIn_region_lit ?_
        refine chunkL_ (live := [13, 12, 11, 6, 4, 3, 2, 1, 0]) (orc := []) hF 2 hI ⟨[⟨13, [], .v (.int .i64 s1.1)⟩, ⟨12, [], .v (.slice A_8 s1.2.length c_9)⟩, ⟨11, [], .v (.bool t_16)⟩, ⟨6, [], .v (.bool (decide (s1.1 ≤ 17)))⟩, ⟨4, [], .v (.int .i64 s1.1)⟩, ⟨3, [], .v (.slice A_8 s1.2.length c_9)⟩, ⟨2, [], .v (.slice none 0 0)⟩, ⟨1, [], .p 0 0⟩, ⟨0, [], .v (.agg ((kd_Config).cells x0 (svL [((sv0 0).1, (sv0 0).2), ((sv0 1).1, (sv0 1).2), ((sv0 2).1, (sv0 2).2), ((sv0 3).1, (sv0 3).2)])).toArray)⟩], [], [], [((((kd_Config).cells x0 sv0).map EV.v), 29)], none, none⟩ [] rfl (by kernel_rfl) trivial (fun ns_21 a w_22 hI => ?_)
        obtain ⟨hE', hmv, hmr⟩ := Ep.rebase (S0 := S) hE hI
        replace hx0 := Kd.keep _ hx0 hmv
        replace hq_7 := Row.keep hq_7 hmv (fun b hb => hmr b (by rw [← hb]; first | (simp; done) | simp [rb]))
        replace hE := hE'
        replace hI := hI.rebase
        clear hE' hmv hmr
        refine buildSlice_ (S0 := S) (d := (Kd.int .i64)) (e := 3) hF hE hI (wanted_none rfl) rfl (by kernel_rfl) (cs := [.int .i64 s1.1]) (by kernel_rfl) [s1.1] [(svL [])] rfl rfl (by simp [maxLen]) (fun i x hi => by cases i with | zero => (simp only [List.getElem?_cons_zero, Option.some.injEq] at hi; subst hi; exact ⟨trivial, rfl⟩) | succ i => (simp only [List.getElem?_cons_succ] at hi; simp at hi)) (fun A_23 => ⟨[⟨14, [], .v (.slice A_23 ([s1.1] : List Int).length (([s1.1] : List Int).length))⟩, ⟨13, [], .v (.int .i64 s1.1)⟩, ⟨12, [], .v (.slice A_8 s1.2.length c_9)⟩, ⟨11, [], .v (.bool t_16)⟩, ⟨6, [], .v (.bool (decide (s1.1 ≤ 17)))⟩, ⟨4, [], .v (.int .i64 s1.1)⟩, ⟨3, [], .v (.slice A_8 s1.2.length c_9)⟩, ⟨2, [], .v (.slice none 0 0)⟩, ⟨1, [], .p 0 0⟩, ⟨0, [], .v (.agg ((kd_Config).cells x0 (svL [((sv0 0).1, (sv0 0).2), ((sv0 1).1, (sv0 1).2), ((sv0 2).1, (sv0 2).2), ((sv0 3).1, (sv0 3).2)])).toArray)⟩], [], [], [((((kd_Config).cells x0 sv0).map EV.v), 29)], none, none⟩) (fun A_23 => by kernel_rfl) (fun A_23 a w_25 hput hE' hI' hmv hmr hq_24 => ?_)
        replace hx0 := Kd.keep _ hx0 hmv
        replace hq_7 := Row.keep hq_7 hmv (fun b hb => hmr b (by rw [← hb]; first | (simp; done) | simp [rb]) (by simp))
        replace hE := hE'
        replace hI := hI'
        clear hE' hI' hmv hmr
        refine chunkL_ (live := [14, 12, 11, 6, 4, 3, 2, 1, 0]) (orc := []) hF 0 hI ⟨[⟨14, [], .v (.slice A_23 ([s1.1] : List Int).length (([s1.1] : List Int).length))⟩, ⟨12, [], .v (.slice A_8 s1.2.length c_9)⟩, ⟨11, [], .v (.bool t_16)⟩, ⟨6, [], .v (.bool (decide (s1.1 ≤ 17)))⟩, ⟨4, [], .v (.int .i64 s1.1)⟩, ⟨3, [], .v (.slice A_8 s1.2.length c_9)⟩, ⟨2, [], .v (.slice none 0 0)⟩, ⟨1, [], .p 0 0⟩, ⟨0, [], .v (.agg ((kd_Config).cells x0 (svL [((sv0 0).1, (sv0 0).2), ((sv0 1).1, (sv0 1).2), ((sv0 2).1, (sv0 2).2), ((sv0 3).1, (sv0 3).2)])).toArray)⟩], [], [], [((((kd_Config).cells x0 sv0).map EV.v), 29)], none, none⟩ [] rfl (by kernel_rfl) trivial (fun ns_26 a w_27 hI => ?_)
        obtain ⟨hE', hmv, hmr⟩ := Ep.rebase (S0 := S) hE hI
        replace hx0 := Kd.keep _ hx0 hmv
        replace hq_7 := Row.keep hq_7 hmv (fun b hb => hmr b (by rw [← hb]; first | (simp; done) | simp [rb]))
        replace hq_24 := Row.keep hq_24 hmv (fun b hb => hmr b (by rw [← hb]; first | (simp; done) | simp [rb]))
        replace hE := hE'
        replace hI := hI.rebase
        clear hE' hmv hmr
        obtain ⟨hE', hmv, hq_24, hcap_28⟩ := Row.still (l1 := [rb A_8]) (l2 := []) hq_24 hE
        have hmr : ∀ b : Nat, some b ∈ ([rb A_8, rb A_23] : List (Option Nat)) → w_27.heap[b]? = w_27.heap[b]? := fun _ _ => rfl
        replace hx0 := Kd.keep _ hx0 hmv
        replace hq_7 := Row.keep hq_7 hmv (fun b hb => hmr b (by rw [← hb]; first | (simp; done) | simp [rb]))
        replace hE := hE'
        clear hE' hmv hmr
        obtain ⟨hN_29, H1⟩ := req_some H1
        replace hN_29 := of_decide_eq_true hN_29
        refine append_ (S0 := S) (l1 := []) (l2 := []) (d := (Kd.int .i64)) (e := 3) hF hE hI (wanted_none rfl) rfl (A := A_8) (c := c_9) (l := s1.2) rfl (A2 := A_23) (c2 := (([s1.1] : List Int).length)) rfl hq_7 hq_24 (fun sv u hu => by exact kd_one_int _ sv u hu) Try.underlying39 (zi := (.int .i64 0, 1, 8)) (by kernel_rfl) rfl (by kernel_rfl) (len_max (by decide) hN_29) hN_29 (fun A_30 c_31 => ⟨[⟨15, [], .v (.slice A_30 (s1.2 ++ [s1.1]).length c_31)⟩, ⟨14, [], .v (.slice A_23 ([s1.1] : List Int).length (([s1.1] : List Int).length))⟩, ⟨12, [], .v (.slice A_8 s1.2.length c_9)⟩, ⟨11, [], .v (.bool t_16)⟩, ⟨6, [], .v (.bool (decide (s1.1 ≤ 17)))⟩, ⟨4, [], .v (.int .i64 s1.1)⟩, ⟨3, [], .v (.slice A_8 s1.2.length c_9)⟩, ⟨2, [], .v (.slice none 0 0)⟩, ⟨1, [], .p 0 0⟩, ⟨0, [], .v (.agg ((kd_Config).cells x0 (svL [((sv0 0).1, (sv0 0).2), ((sv0 1).1, (sv0 1).2), ((sv0 2).1, (sv0 2).2), ((sv0 3).1, (sv0 3).2)])).toArray)⟩], [], [], [((((kd_Config).cells x0 sv0).map EV.v), 29)], none, none⟩) (fun A_30 c_31 => by kernel_rfl) (fun A_30 c_31 a w_32 hput hE' hI' hmv hmr hq_7 => ?_)
        replace hx0 := Kd.keep _ hx0 hmv
        replace hq_24 := Arr.keep hq_24 hmv
        replace hE := hE'
        replace hI := hI'
        clear hE' hI' hmv hmr
        refine chunkL_ (live := [3, 11, 6, 4, 2, 1, 0]) (orc := []) hF 1 hI ⟨[⟨3, [], .v (.slice A_30 (s1.2 ++ [s1.1]).length c_31)⟩, ⟨11, [], .v (.bool t_16)⟩, ⟨6, [], .v (.bool (decide (s1.1 ≤ 17)))⟩, ⟨4, [], .v (.int .i64 s1.1)⟩, ⟨2, [], .v (.slice none 0 0)⟩, ⟨1, [], .p 0 0⟩, ⟨0, [], .v (.agg ((kd_Config).cells x0 (svL [((sv0 0).1, (sv0 0).2), ((sv0 1).1, (sv0 1).2), ((sv0 2).1, (sv0 2).2), ((sv0 3).1, (sv0 3).2)])).toArray)⟩], [], [], [((((kd_Config).cells x0 sv0).map EV.v), 29)], none, none⟩ [] rfl (by kernel_rfl) trivial (fun ns_33 a w_34 hI => ?_)
        refine wpListIn_nil ?_
        refine inBlock_normal ?_
        refine then_normal ?_
        refine region_ (live := [4, 3, 11, 6, 2, 1, 0]) (orc := []) hF hI ⟨[⟨4, [], .v (.int .i64 (IntKind.i64.wrap (s1.1 + 1)))⟩, ⟨3, [], .v (.slice A_30 (s1.2 ++ [s1.1]).length c_31)⟩, ⟨11, [], .v (.bool t_16)⟩, ⟨6, [], .v (.bool (decide (s1.1 ≤ 17)))⟩, ⟨2, [], .v (.slice none 0 0)⟩, ⟨1, [], .p 0 0⟩, ⟨0, [], .v (.agg ((kd_Config).cells x0 (svL [((sv0 0).1, (sv0 0).2), ((sv0 1).1, (sv0 1).2), ((sv0 2).1, (sv0 2).2), ((sv0 3).1, (sv0 3).2)])).toArray)⟩], [], [], [((((kd_Config).cells x0 sv0).map EV.v), 29)], none, none⟩ [] (by kernel_rfl) trivial (fun ns_35 a w_36 hI _ => ?_)
        refine then_normal ?_
        obtain ⟨hE', hmv, hmr⟩ := Ep.rebase (S0 := S) hE hI
        replace hx0 := Kd.keep _ hx0 hmv
        replace hq_24 := Arr.keep hq_24 hmv
        replace hq_7 := Row.keep hq_7 hmv (fun b hb => hmr b (by rw [← hb]; first | (simp; done) | simp [rb]))
        replace hE := hE'
        replace hI := hI.rebase
        clear hE' hmv hmr
        obtain rfl := Option.some.inj H1
        exact ⟨_, rfl, ⟨_, _, _, _, hx0, hq_7, hE, hI.pick [4, 3, 2, 1, 0] 1 ⟨[⟨4, [], .v (.int .i64 (IntKind.i64.wrap (s1.1 + 1)))⟩, ⟨3, [], .v (.slice A_30 (s1.2 ++ [s1.1]).length c_31)⟩, ⟨2, [], .v (.slice none 0 0)⟩, ⟨1, [], .p 0 0⟩, ⟨0, [], .v (.agg ((kd_Config).cells x0 (svL [((sv0 0).1, (sv0 0).2), ((sv0 1).1, (sv0 1).2), ((sv0 2).1, (sv0 2).2), ((sv0 3).1, (sv0 3).2)])).toArray)⟩], [], [], [((((kd_Config).cells x0 sv0).map EV.v), 29)], none, none⟩ (by kernel_rfl)⟩⟩
      · replace H1 := bif_f hc_20 H1
        refine wpIn_skip ?_
        refine inBlock_normal ?_
        refine then_normal ?_
        refine region_ (live := [4, 11, 6, 3, 2, 1, 0]) (orc := []) hF hI ⟨[⟨4, [], .v (.int .i64 (IntKind.i64.wrap (s1.1 + 1)))⟩, ⟨11, [], .v (.bool t_16)⟩, ⟨6, [], .v (.bool (decide (s1.1 ≤ 17)))⟩, ⟨3, [], .v (.slice A_8 s1.2.length c_9)⟩, ⟨2, [], .v (.slice none 0 0)⟩, ⟨1, [], .p 0 0⟩, ⟨0, [], .v (.agg ((kd_Config).cells x0 (svL [((sv0 0).1, (sv0 0).2), ((sv0 1).1, (sv0 1).2), ((sv0 2).1, (sv0 2).2), ((sv0 3).1, (sv0 3).2)])).toArray)⟩], [], [], [((((kd_Config).cells x0 sv0).map EV.v), 29)], none, none⟩ [] (by kernel_rfl) trivial (fun ns_37 a w_38 hI _ => ?_)
        refine then_normal ?_
        obtain ⟨hE', hmv, hmr⟩ := Ep.rebase (S0 := S) hE hI
        replace hx0 := Kd.keep _ hx0 hmv
        replace hq_7 := Row.keep hq_7 hmv (fun b hb => hmr b (by rw [← hb]; first | (simp; done) | simp [rb]))
        replace hE := hE'
        replace hI := hI.rebase
        clear hE' hmv hmr
        obtain rfl := Option.some.inj H1
        exact ⟨_, rfl, ⟨_, _, _, _, hx0, hq_7, hE, hI.pick [4, 3, 2, 1, 0] 1 ⟨[⟨4, [], .v (.int .i64 (IntKind.i64.wrap (s1.1 + 1)))⟩, ⟨3, [], .v (.slice A_8 s1.2.length c_9)⟩, ⟨2, [], .v (.slice none 0 0)⟩, ⟨1, [], .p 0 0⟩, ⟨0, [], .v (.agg ((kd_Config).cells x0 (svL [((sv0 0).1, (sv0 0).2), ((sv0 1).1, (sv0 1).2), ((sv0 2).1, (sv0 2).2), ((sv0 3).1, (sv0 3).2)])).toArray)⟩], [], [], [((((kd_Config).cells x0 sv0).map EV.v), 29)], none, none⟩ (by kernel_rfl)⟩⟩
    · replace H1 := bif_f hc_15 H1
      refine wpIn_exit ?_
      refine then_exit ?_
      refine then_exit ?_
      obtain ⟨hE', hmv, hmr⟩ := Ep.rebase (S0 := S) hE hI
      replace hx0 := Kd.keep _ hx0 hmv
      replace hq_7 := Row.keep hq_7 hmv (fun b hb => hmr b (by rw [← hb]; first | (simp; done) | simp [rb]))
      replace hE := hE'
      replace hI := hI.rebase
      clear hE' hmv hmr
      obtain rfl := Option.some.inj H1
      exact .inl ⟨_, rfl, rfl, ⟨_, _, _, _, hx0, hq_7, hE, hI.pick [4, 3, 2, 1, 0] 1 ⟨[⟨4, [], .v (.int .i64 s1.1)⟩, ⟨3, [], .v (.slice A_8 s1.2.length c_9)⟩, ⟨2, [], .v (.slice none 0 0)⟩, ⟨1, [], .p 0 0⟩, ⟨0, [], .v (.agg ((kd_Config).cells x0 (svL [((sv0 0).1, (sv0 0).2), ((sv0 1).1, (sv0 1).2), ((sv0 2).1, (sv0 2).2), ((sv0 3).1, (sv0 3).2)])).toArray)⟩], [], [], [((((kd_Config).cells x0 sv0).map EV.v), 29)], none, none⟩ (by kernel_rfl)⟩⟩
  · clear hI hE
    rintro s1 a w_41 ho ⟨ow_43, ns_42, A_8, c_9, hx0, hq_7, hE, hI⟩
    subst ho
    replace H0 : (some s1.2 : Option ((List Int))) = _ := H0
    refine then_normal ?_
    refine seq_region (live := [2, 4, 3, 1, 0]) (orc := []) hF hI ⟨[⟨2, [], .v (.slice A_8 s1.2.length c_9)⟩, ⟨4, [], .v (.int .i64 s1.1)⟩, ⟨3, [], .v (.slice A_8 s1.2.length c_9)⟩, ⟨1, [], .p 0 0⟩, ⟨0, [], .v (.agg ((kd_Config).cells x0 (svL [((sv0 0).1, (sv0 0).2), ((sv0 1).1, (sv0 1).2), ((sv0 2).1, (sv0 2).2), ((sv0 3).1, (sv0 3).2)])).toArray)⟩], [], [], [((((kd_Config).cells x0 sv0).map EV.v), 29)], none, none⟩ [] (by kernel_rfl) trivial (fun ns_44 a w_45 hI _ => ?_)
    obtain ⟨hE', hmv, hmr⟩ := Ep.rebase (S0 := S) hE hI
    replace hx0 := Kd.keep _ hx0 hmv
    replace hq_7 := Row.keep hq_7 hmv (fun b hb => hmr b (by rw [← hb]; first | (simp; done) | simp [rb]))
    replace hE := hE'
    replace hI := hI.rebase
    clear hE' hmv hmr
    obtain ⟨hE', hmv, hq_7, hcap_46⟩ := Row.still (l1 := []) (l2 := []) hq_7 hE
    have hmr : ∀ b : Nat, some b ∈ ([rb A_8] : List (Option Nat)) → w_45.heap[b]? = w_45.heap[b]? := fun _ _ => rfl
    replace hx0 := Kd.keep _ hx0 hmv
    replace hE := hE'
    clear hE' hmv hmr
    refine wpIn_ret ?_
    obtain rfl := Option.some.inj H0
    exact ret1 hI rfl rfl ⟨svL [(A_8, c_9)], rfl, hE.below hI, ⟨Arr.keep hq_7 (hE.out hI), hcap_46⟩⟩

/-! ### porthole/portholeref07.Accepts: function 14 -/
noncomputable def G_ref07_Accepts (x0 : Config) : Option (Bool) := ((G_ref07_All x0).bind fun t_5 => some ((t_5.length : Int) == 0))
set_option maxRecDepth 100000 in
set_option maxHeartbeats 4000000 in
theorem G_ref07_Accepts.calls (x0 : Config) (sv0 : SV) (w : World) {S : Nat → Prop} (hx0 : (kd_Config).cont S w x0 sv0) (r : Bool) (h : G_ref07_Accepts x0 = some r) :
    Calls Try.prog 14 #[.agg ((kd_Config).cells x0 (svL [((sv0 0).1, (sv0 0).2), ((sv0 1).1, (sv0 1).2), ((sv0 2).1, (sv0 2).2), ((sv0 3).1, (sv0 3).2)])).toArray] w fun e w' => e = .returned (.bool r) ∧ Below w.heap.size w w' := by
  replace hx0 := Kd.lo _ hx0
  unfold G_ref07_Accepts at h
  have H0 := h
  clear h
  refine enter Try.func14 rfl [.agg ((kd_Config).cells x0 (svL [((sv0 0).1, (sv0 0).2), ((sv0 1).1, (sv0 1).2), ((sv0 2).1, (sv0 2).2), ((sv0 3).1, (sv0 3).2)])).toArray] (n := 7) rfl (Nat.le_of_ble_eq_true rfl) (fun a hI => ?_)
  have hF : FOpen Fence.wide := .inl rfl
  have hE := Ep.start w
  refine seq_region (live := [2, 1, 0]) (orc := []) hF hI ⟨[⟨2, [], .v (.bool false)⟩, ⟨1, [], .p 0 0⟩, ⟨0, [], .v (.agg ((kd_Config).cells x0 sv0).toArray)⟩], [], [], [((((kd_Config).cells x0 sv0).map EV.v), 29)], none, none⟩ [] (by kernel_rfl) trivial (fun ns_1 a w_2 hI _ => ?_)
  refine wpIn_seq ?_
  refine wpIn_region_lit ?_
  refine chunkL_ (live := [3, 2, 1, 0]) (orc := []) hF 1 hI ⟨[⟨3, [], .v (.agg ((kd_Config).cells x0 sv0).toArray)⟩, ⟨2, [], .v (.bool false)⟩, ⟨1, [], .p 0 0⟩, ⟨0, [], .v (.agg ((kd_Config).cells x0 sv0).toArray)⟩], [], [], [((((kd_Config).cells x0 sv0).map EV.v), 29)], none, none⟩ [] rfl (by kernel_rfl) trivial (fun ns_3 a w_4 hI => ?_)
  obtain ⟨hE', hmv, hmr⟩ := Ep.rebase (S0 := S) hE hI
  replace hx0 := Kd.keep _ hx0 hmv
  replace hE := hE'
  replace hI := hI.rebase
  clear hE' hmv hmr
  obtain ⟨t_5, hG_6, H0⟩ := bind_some H0
  refine callH_ (S0 := S) hF hE hI (wanted_none rfl) rfl (args := [.agg ((kd_Config).cells x0 (svL [((sv0 0).1, (sv0 0).2), ((sv0 1).1, (sv0 1).2), ((sv0 2).1, (sv0 2).2), ((sv0 3).1, (sv0 3).2)])).toArray]) rfl (enters Try.func39 (by kernel_rfl) rfl) (fun sv_7 => .slice ((sv_7 0).1) t_5.length ((sv_7 0).2)) _ (G_ref07_All.calls x0 (svL [((sv0 0).1, (sv0 0).2), ((sv0 1).1, (sv0 1).2), ((sv0 2).1, (sv0 2).2), ((sv0 3).1, (sv0 3).2)]) w_4 (S := Lo S w w_4 ns_3 []) (contI (d := kd_Config) (x := x0) (sv := (svL [((sv0 0).1, (sv0 0).2), ((sv0 1).1, (sv0 1).2), ((sv0 2).1, (sv0 2).2), ((sv0 3).1, (sv0 3).2)])) ⟨⟨hx0.1.1, hx0.1.2⟩, ⟨hx0.2.1.1, hx0.2.1.2⟩, ⟨hx0.2.2.1.1, hx0.2.2.1.2⟩, ⟨hx0.2.2.2.1.1, hx0.2.2.2.1.2⟩, trivial⟩) _ hG_6) (fun sv_7 => ⟨[⟨4, [], .v (.slice ((sv_7 0).1) t_5.length ((sv_7 0).2))⟩, ⟨3, [], .v (.agg ((kd_Config).cells x0 (svL [((sv0 0).1, (sv0 0).2), ((sv0 1).1, (sv0 1).2), ((sv0 2).1, (sv0 2).2), ((sv0 3).1, (sv0 3).2)])).toArray)⟩, ⟨2, [], .v (.bool false)⟩, ⟨1, [], .p 0 0⟩, ⟨0, [], .v (.agg ((kd_Config).cells x0 (svL [((sv0 0).1, (sv0 0).2), ((sv0 1).1, (sv0 1).2), ((sv0 2).1, (sv0 2).2), ((sv0 3).1, (sv0 3).2)])).toArray)⟩], [], [], [((((kd_Config).cells x0 sv0).map EV.v), 29)], none, none⟩) (fun sv_7 => by kernel_rfl) (fun sv_7 a w_9 hput hE' hI' hmv hmr hres hR => ?_)
  replace hx0 := Kd.keep _ hx0 hmv
  replace hE := hE'
  replace hI := hI'
  clear hE' hI' hmv hmr
  obtain ⟨hR_8, hR_8c⟩ := hR
  replace hR_8 := Arr.keep hR_8 hres
  clear hres
  refine chunkL_ (live := [2, 1, 0]) (orc := []) hF 3 hI ⟨[⟨2, [], .v (.bool ((t_5.length : Int) == 0))⟩, ⟨1, [], .p 0 0⟩, ⟨0, [], .v (.agg ((kd_Config).cells x0 (svL [((sv0 0).1, (sv0 0).2), ((sv0 1).1, (sv0 1).2), ((sv0 2).1, (sv0 2).2), ((sv0 3).1, (sv0 3).2)])).toArray)⟩], [], [], [((((kd_Config).cells x0 sv0).map EV.v), 29)], none, none⟩ [] rfl (by kernel_rfl) trivial (fun ns_10 a w_11 hI => ?_)
  refine wpListIn_nil ?_
  refine then_normal ?_
  refine wpIn_ret ?_
  obtain rfl := Option.some.inj H0
  exact ret1 hI rfl rfl ⟨rfl, hE.below hI⟩

/-! ### porthole/portholeref23.has: function 46 -/
noncomputable def G_ref23_has (x0 : Config) (x1 : Request) : Option (Bool) := some (((decide (x1.Op ≥ 3) && decide (x1.Op ≤ 7)) && decide (x1.Port ≥ 0)) && decide (x1.Port < (IntKind.i64.wrap (2 * (x0.Chans.length : Int)))))
set_option maxRecDepth 100000 in
set_option maxHeartbeats 4000000 in
theorem G_ref23_has.calls (x0 : Config) (x1 : Request) (sv0 : SV) (sv1 : SV) (w : World) {S : Nat → Prop} (hx0 : (kd_Config).cont S w x0 sv0) (hx1 : (kd_Request).cont S w x1 sv1) (r : Bool) (h : G_ref23_has x0 x1 = some r) :
    Calls Try.prog 46 #[.agg ((kd_Config).cells x0 sv0).toArray, .agg ((kd_Request).cells x1 sv1).toArray] w fun e w' => e = .returned (.bool r) ∧ Below w.heap.size w w' := by
  replace hx0 := Kd.lo _ hx0
  replace hx1 := Kd.lo _ hx1
  unfold G_ref23_has at h
  have H0 := h
  clear h
  refine enter Try.func46 rfl [.agg ((kd_Config).cells x0 sv0).toArray, .agg ((kd_Request).cells x1 sv1).toArray] (n := 27) rfl (Nat.le_of_ble_eq_true rfl) (fun a hI => ?_)
  have hF : FOpen Fence.wide := .inl rfl
  have hE := Ep.start w
  refine seq_region (live := [4, 3, 2, 0, 1]) (orc := []) hF hI ⟨[⟨4, [], .v (.bool false)⟩, ⟨3, [], .p 1 0⟩, ⟨2, [], .p 0 0⟩, ⟨0, [], .v (.agg ((kd_Config).cells x0 sv0).toArray)⟩, ⟨1, [], .v (.agg ((kd_Request).cells x1 sv1).toArray)⟩], [], [], [((((kd_Config).cells x0 sv0).map EV.v), 29), ((((kd_Request).cells x1 sv1).map EV.v), 49)], none, none⟩ [] (by kernel_rfl) trivial (fun ns_1 a w_2 hI _ => ?_)
  refine seq_region (live := [4, 3, 2, 0, 1]) (orc := []) hF hI ⟨[⟨4, [], .v (.bool (((decide (x1.Op ≥ 3) && decide (x1.Op ≤ 7)) && decide (x1.Port ≥ 0)) && decide (x1.Port < (IntKind.i64.wrap (2 * (x0.Chans.length : Int))))))⟩, ⟨3, [], .p 1 0⟩, ⟨2, [], .p 0 0⟩, ⟨0, [], .v (.agg ((kd_Config).cells x0 sv0).toArray)⟩, ⟨1, [], .v (.agg ((kd_Request).cells x1 sv1).toArray)⟩], [], [], [((((kd_Config).cells x0 sv0).map EV.v), 29), ((((kd_Request).cells x1 sv1).map EV.v), 49)], none, none⟩ [] (by kernel_rfl) trivial (fun ns_3 a w_4 hI _ => ?_)
  refine wpIn_ret ?_
  obtain rfl := Option.some.inj H0
  exact ret1 hI rfl rfl ⟨rfl, hE.below hI⟩

/-! ### porthole/portholeref23.Words: function 23 -/
noncomputable def G_ref23_Words (x0 : Config) (x1 : Request) : Option (Int) := ((G_ref23_has x0 x1).bind fun t_3 => (bif (!t_3) then some 0 else (req (inb (IntKind.i64.wrap (Int.tdiv x1.Port 2)) x0.Chans.length) (some ((rd x0.Chans (IntKind.i64.wrap (Int.tdiv x1.Port 2))).Words)))))
set_option maxRecDepth 100000 in
set_option maxHeartbeats 4000000 in
theorem G_ref23_Words.calls (x0 : Config) (x1 : Request) (sv0 : SV) (sv1 : SV) (w : World) {S : Nat → Prop} (hx0 : (kd_Config).cont S w x0 sv0) (hx1 : (kd_Request).cont S w x1 sv1) (r : Int) (h : G_ref23_Words x0 x1 = some r) :
    Calls Try.prog 23 #[.agg ((kd_Config).cells x0 (svL [((sv0 0).1, (sv0 0).2), ((sv0 1).1, (sv0 1).2), ((sv0 2).1, (sv0 2).2), ((sv0 3).1, (sv0 3).2)])).toArray, .agg ((kd_Request).cells x1 (svL [((sv1 0).1, (sv1 0).2)])).toArray] w fun e w' => e = .returned (.int .i64 r) ∧ Below w.heap.size w w' := by
  replace hx0 := Kd.lo _ hx0
  replace hx1 := Kd.lo _ hx1
  unfold G_ref23_Words at h
  have H0 := h
  clear h
  refine enter Try.func23 rfl [.agg ((kd_Config).cells x0 (svL [((sv0 0).1, (sv0 0).2), ((sv0 1).1, (sv0 1).2), ((sv0 2).1, (sv0 2).2), ((sv0 3).1, (sv0 3).2)])).toArray, .agg ((kd_Request).cells x1 (svL [((sv1 0).1, (sv1 0).2)])).toArray] (n := 17) rfl (Nat.le_of_ble_eq_true rfl) (fun a hI => ?_)
  have hF : FOpen Fence.wide := .inl rfl
  have hE := Ep.start w
  refine seq_region (live := [4, 3, 2, 0, 1]) (orc := []) hF hI ⟨[⟨4, [], .v (.int .i64 0)⟩, ⟨3, [], .p 1 0⟩, ⟨2, [], .p 0 0⟩, ⟨0, [], .v (.agg ((kd_Config).cells x0 sv0).toArray)⟩, ⟨1, [], .v (.agg ((kd_Request).cells x1 sv1).toArray)⟩], [], [], [((((kd_Config).cells x0 sv0).map EV.v), 29), ((((kd_Request).cells x1 sv1).map EV.v), 49)], none, none⟩ [] (by kernel_rfl) trivial (fun ns_1 a w_2 hI _ => ?_)
  refine wpIn_seq ?_
  obtain ⟨t_3, hG_4, H0⟩ := bind_some H0
  refine seq_region (live := [8, 4, 3, 2, 0, 1]) (orc := [[.bool t_3]]) hF hI ⟨[⟨8, [], .v (.bool (!t_3))⟩, ⟨4, [], .v (.int .i64 0)⟩, ⟨3, [], .p 1 0⟩, ⟨2, [], .p 0 0⟩, ⟨0, [], .v (.agg ((kd_Config).cells x0 (svL [((sv0 0).1, (sv0 0).2), ((sv0 1).1, (sv0 1).2), ((sv0 2).1, (sv0 2).2), ((sv0 3).1, (sv0 3).2)])).toArray)⟩, ⟨1, [], .v (.agg ((kd_Request).cells x1 (svL [((sv1 0).1, (sv1 0).2)])).toArray)⟩], [], [], [((((kd_Config).cells x0 sv0).map EV.v), 29), ((((kd_Request).cells x1 sv1).map EV.v), 49)], none, none⟩ [.call true 46 [.agg ((kd_Config).cells x0 (svL [((sv0 0).1, (sv0 0).2), ((sv0 1).1, (sv0 1).2), ((sv0 2).1, (sv0 2).2), ((sv0 3).1, (sv0 3).2)])).toArray, .agg ((kd_Request).cells x1 (svL [((sv1 0).1, (sv1 0).2)])).toArray] (.bool t_3)] (by kernel_rfl) ⟨ob_call (enters Try.func46 (by kernel_rfl) rfl) (fun hg wz hk => G_ref23_has.calls x0 x1 (svL [((sv0 0).1, (sv0 0).2), ((sv0 1).1, (sv0 1).2), ((sv0 2).1, (sv0 2).2), ((sv0 3).1, (sv0 3).2)]) (svL [((sv1 0).1, (sv1 0).2)]) wz (S := fun _ => True) (Kd.any _ (Kd.keep kd_Config (contI (S := Lo S w w [] []) (w := w) (d := kd_Config) (x := x0) (sv := (svL [((sv0 0).1, (sv0 0).2), ((sv0 1).1, (sv0 1).2), ((sv0 2).1, (sv0 2).2), ((sv0 3).1, (sv0 3).2)])) ⟨⟨hx0.1.1, hx0.1.2⟩, ⟨hx0.2.1.1, hx0.2.1.2⟩, ⟨hx0.2.2.1.1, hx0.2.2.1.2⟩, ⟨hx0.2.2.2.1.1, hx0.2.2.2.1.2⟩, trivial⟩) (Lo.on hk))) (Kd.any _ (Kd.keep kd_Request (contI (S := Lo S w w [] []) (w := w) (d := kd_Request) (x := x1) (sv := (svL [((sv1 0).1, (sv1 0).2)])) ⟨⟨hx1.1.1, hx1.1.2⟩, trivial⟩) (Lo.on hk))) _ hG_4), trivial⟩ (fun ns_5 a w_6 hI _ => ?_)
  refine cond_ hI ((!t_3)) rfl (fun hc_7 => ?_) (fun hc_7 => ?_)
  · replace H0 := bif_t hc_7 H0
    refine seq_region (live := [4, 8, 3, 2, 0, 1]) (orc := []) hF hI ⟨[⟨4, [], .v (.int .i64 0)⟩, ⟨8, [], .v (.bool (!t_3))⟩, ⟨3, [], .p 1 0⟩, ⟨2, [], .p 0 0⟩, ⟨0, [], .v (.agg ((kd_Config).cells x0 (svL [((sv0 0).1, (sv0 0).2), ((sv0 1).1, (sv0 1).2), ((sv0 2).1, (sv0 2).2), ((sv0 3).1, (sv0 3).2)])).toArray)⟩, ⟨1, [], .v (.agg ((kd_Request).cells x1 (svL [((sv1 0).1, (sv1 0).2)])).toArray)⟩], [], [], [((((kd_Config).cells x0 sv0).map EV.v), 29), ((((kd_Request).cells x1 sv1).map EV.v), 49)], none, none⟩ [] (by kernel_rfl) trivial (fun ns_8 a w_9 hI _ => ?_)
    refine wpIn_ret ?_
    refine then_ret ?_
    obtain rfl := Option.some.inj H0
    exact ret1 hI rfl rfl ⟨rfl, hE.below hI⟩
  · replace H0 := bif_f hc_7 H0
    refine wpIn_skip ?_
    refine then_normal ?_
    obtain ⟨hN_10, H0⟩ := req_some H0
    obtain ⟨sv_11, hE_13, hA_12⟩ := Arr.elB (d := kd_Chan) hx0.2.1.1 (IntKind.i64.wrap (Int.tdiv x1.Port 2)) true (fun _ => hN_10)
    replace hE_13 := hE_13 rfl
    replace hA_12 := fun (_ : true = true) => hA_12 rfl
    refine seq_region (live := [4, 8, 3, 2, 0, 1]) (orc := [[.int .i64 ((rd x0.Chans (IntKind.i64.wrap (Int.tdiv x1.Port 2))).Words)]]) hF hI ⟨[⟨4, [], .v (.int .i64 ((rd x0.Chans (IntKind.i64.wrap (Int.tdiv x1.Port 2))).Words))⟩, ⟨8, [], .v (.bool (!t_3))⟩, ⟨3, [], .p 1 0⟩, ⟨2, [], .p 0 0⟩, ⟨0, [], .v (.agg ((kd_Config).cells x0 (svL [((sv0 0).1, (sv0 0).2), ((sv0 1).1, (sv0 1).2), ((sv0 2).1, (sv0 2).2), ((sv0 3).1, (sv0 3).2)])).toArray)⟩, ⟨1, [], .v (.agg ((kd_Request).cells x1 (svL [((sv1 0).1, (sv1 0).2)])).toArray)⟩], [], [], [((((kd_Config).cells x0 sv0).map EV.v), 29), ((((kd_Request).cells x1 sv1).map EV.v), 49)], none, none⟩ [.need true (¬ (2 : Int) = 0), .need true (0 ≤ (IntKind.i64.wrap (Int.tdiv x1.Port 2)) ∧ (IntKind.i64.wrap (Int.tdiv x1.Port 2)) < (x0.Chans.length : Int)), .need true ((sv0 1).1 = some (adr ((sv0 1).1))), .cell true (((adr ((sv0 1).1)).add (((IntKind.i64.wrap (Int.tdiv x1.Port 2)) : Int).toNat * 7)).add 3) [.int .i64 ((rd x0.Chans (IntKind.i64.wrap (Int.tdiv x1.Port 2))).Words)]] (by kernel_rfl) ⟨(fun _ => by decide), ob_inb (fun _ => hN_10), hA_12, ob_el (fun _ => hE_13) 3 [.int .i64 ((rd x0.Chans (IntKind.i64.wrap (Int.tdiv x1.Port 2))).Words)] rfl, trivial⟩ (fun ns_14 a w_15 hI _ => ?_)
    refine wpIn_ret ?_
    obtain rfl := Option.some.inj H0
    exact ret1 hI rfl rfl ⟨rfl, hE.below hI⟩

/-! ### porthole/portholeref23.Steps: function 27 -/
noncomputable def G_ref23_Steps (x0 : Config) (x1 : Request) (x2 : Answer) : Option (Int) := (bif ((x1.Op == 3) && (x2.Code == 0)) then some (IntKind.i64.wrap ((x1.Data.length : Int) + 7)) else (bif ((x1.Op == 4) && (x2.Code == 0)) then some (IntKind.i64.wrap ((x2.Data.length : Int) + 6)) else (bif ((x1.Op == 4) && (x2.Code == 1)) then some 5 else (bif ((x1.Op == 5) && (x2.Code == 0)) then some (IntKind.i64.wrap ((x1.Data.length : Int) + 5)) else (bif ((x1.Op == 6) && (x2.Code == 0)) then some (IntKind.i64.wrap ((x2.Data.length : Int) + 4)) else (bif (((x1.Op == 5) || (x1.Op == 6)) && (x2.Code == 2)) then some 2 else ((cal ((x1.Op == 7) && (x2.Code == 0)) (G_ref23_has x0 x1) default).bind fun t_35 => (req (imp (((x1.Op == 7) && (x2.Code == 0)) && t_35) (inb (IntKind.i64.wrap (Int.tdiv x1.Port 2)) x0.Chans.length)) (bif ((((x1.Op == 7) && (x2.Code == 0)) && t_35) && (((rd x0.Chans (IntKind.i64.wrap (Int.tdiv x1.Port 2))).Kind) == 2)) then some 2 else (bif (((x1.Op == 8) || (x1.Op == 9)) && (x2.Code == 0)) then some 2 else some 1))))))))))
set_option maxRecDepth 100000 in
set_option maxHeartbeats 4000000 in
theorem G_ref23_Steps.calls (x0 : Config) (x1 : Request) (x2 : Answer) (sv0 : SV) (sv1 : SV) (sv2 : SV) (w : World) {S : Nat → Prop} (hx0 : (kd_Config).cont S w x0 sv0) (hx1 : (kd_Request).cont S w x1 sv1) (hx2 : (kd_Answer).cont S w x2 sv2) (r : Int) (h : G_ref23_Steps x0 x1 x2 = some r) :
    Calls Try.prog 27 #[.agg ((kd_Config).cells x0 (svL [((sv0 0).1, (sv0 0).2), ((sv0 1).1, (sv0 1).2), ((sv0 2).1, (sv0 2).2), ((sv0 3).1, (sv0 3).2)])).toArray, .agg ((kd_Request).cells x1 (svL [((sv1 0).1, (sv1 0).2)])).toArray, .agg ((kd_Answer).cells x2 sv2).toArray] w fun e w' => e = .returned (.int .i64 r) ∧ Below w.heap.size w w' := by
  replace hx0 := Kd.lo _ hx0
  replace hx1 := Kd.lo _ hx1
  replace hx2 := Kd.lo _ hx2
  unfold G_ref23_Steps at h
  have H0 := h
  clear h
  refine enter Try.func27 rfl [.agg ((kd_Config).cells x0 (svL [((sv0 0).1, (sv0 0).2), ((sv0 1).1, (sv0 1).2), ((sv0 2).1, (sv0 2).2), ((sv0 3).1, (sv0 3).2)])).toArray, .agg ((kd_Request).cells x1 (svL [((sv1 0).1, (sv1 0).2)])).toArray, .agg ((kd_Answer).cells x2 sv2).toArray] (n := 113) rfl (Nat.le_of_ble_eq_true rfl) (fun a hI => ?_)
  have hF : FOpen Fence.wide := .inl rfl
  have hE := Ep.start w
  refine seq_region (live := [6, 5, 4, 3, 0, 1, 2]) (orc := []) hF hI ⟨[⟨6, [], .v (.int .i64 0)⟩, ⟨5, [], .p 2 0⟩, ⟨4, [], .p 1 0⟩, ⟨3, [], .p 0 0⟩, ⟨0, [], .v (.agg ((kd_Config).cells x0 sv0).toArray)⟩, ⟨1, [], .v (.agg ((kd_Request).cells x1 sv1).toArray)⟩, ⟨2, [], .v (.agg ((kd_Answer).cells x2 sv2).toArray)⟩], [], [], [((((kd_Config).cells x0 sv0).map EV.v), 29), ((((kd_Request).cells x1 sv1).map EV.v), 49), ((((kd_Answer).cells x2 sv2).map EV.v), 52)], none, none⟩ [] (by kernel_rfl) trivial (fun ns_1 a w_2 hI _ => ?_)
  refine seq_region (live := [7, 6, 5, 4, 3, 0, 1, 2]) (orc := []) hF hI ⟨[⟨7, [], .v (.bool (x2.Code == 0))⟩, ⟨6, [], .v (.int .i64 0)⟩, ⟨5, [], .p 2 0⟩, ⟨4, [], .p 1 0⟩, ⟨3, [], .p 0 0⟩, ⟨0, [], .v (.agg ((kd_Config).cells x0 sv0).toArray)⟩, ⟨1, [], .v (.agg ((kd_Request).cells x1 sv1).toArray)⟩, ⟨2, [], .v (.agg ((kd_Answer).cells x2 sv2).toArray)⟩], [], [], [((((kd_Config).cells x0 sv0).map EV.v), 29), ((((kd_Request).cells x1 sv1).map EV.v), 49), ((((kd_Answer).cells x2 sv2).map EV.v), 52)], none, none⟩ [] (by kernel_rfl) trivial (fun ns_3 a w_4 hI _ => ?_)
  refine wpIn_seq ?_
  refine wpIn_block ?_
  refine seq_region (live := [11, 7, 6, 5, 4, 3, 0, 1, 2]) (orc := []) hF hI ⟨[⟨11, [], .v (.bool ((x1.Op == 3) && (x2.Code == 0)))⟩, ⟨7, [], .v (.bool (x2.Code == 0))⟩, ⟨6, [], .v (.int .i64 0)⟩, ⟨5, [], .p 2 0⟩, ⟨4, [], .p 1 0⟩, ⟨3, [], .p 0 0⟩, ⟨0, [], .v (.agg ((kd_Config).cells x0 sv0).toArray)⟩, ⟨1, [], .v (.agg ((kd_Request).cells x1 sv1).toArray)⟩, ⟨2, [], .v (.agg ((kd_Answer).cells x2 sv2).toArray)⟩], [], [], [((((kd_Config).cells x0 sv0).map EV.v), 29), ((((kd_Request).cells x1 sv1).map EV.v), 49), ((((kd_Answer).cells x2 sv2).map EV.v), 52)], none, none⟩ [] (by kernel_rfl) trivial (fun ns_5 a w_6 hI _ => ?_)
  refine cond_ hI (((x1.Op == 3) && (x2.Code == 0))) rfl (fun hc_7 => ?_) (fun hc_7 => ?_)
  · replace H0 := bif_t hc_7 H0
    refine seq_region (live := [6, 11, 7, 5, 4, 3, 0, 1, 2]) (orc := []) hF hI ⟨[⟨6, [], .v (.int .i64 (IntKind.i64.wrap ((x1.Data.length : Int) + 7)))⟩, ⟨11, [], .v (.bool ((x1.Op == 3) && (x2.Code == 0)))⟩, ⟨7, [], .v (.bool (x2.Code == 0))⟩, ⟨5, [], .p 2 0⟩, ⟨4, [], .p 1 0⟩, ⟨3, [], .p 0 0⟩, ⟨0, [], .v (.agg ((kd_Config).cells x0 sv0).toArray)⟩, ⟨1, [], .v (.agg ((kd_Request).cells x1 sv1).toArray)⟩, ⟨2, [], .v (.agg ((kd_Answer).cells x2 sv2).toArray)⟩], [], [], [((((kd_Config).cells x0 sv0).map EV.v), 29), ((((kd_Request).cells x1 sv1).map EV.v), 49), ((((kd_Answer).cells x2 sv2).map EV.v), 52)], none, none⟩ [] (by kernel_rfl) trivial (fun ns_8 a w_9 hI _ => ?_)
    refine wpIn_ret ?_
    refine inBlock_ret ?_
    refine then_ret ?_
    obtain rfl := Option.some.inj H0
    exact ret1 hI rfl rfl ⟨rfl, hE.below hI⟩
  · replace H0 := bif_f hc_7 H0
    refine seq_region (live := [22, 11, 7, 6, 5, 4, 3, 0, 1, 2]) (orc := []) hF hI ⟨[⟨22, [], .v (.bool ((x1.Op == 4) && (x2.Code == 0)))⟩, ⟨11, [], .v (.bool ((x1.Op == 3) && (x2.Code == 0)))⟩, ⟨7, [], .v (.bool (x2.Code == 0))⟩, ⟨6, [], .v (.int .i64 0)⟩, ⟨5, [], .p 2 0⟩, ⟨4, [], .p 1 0⟩, ⟨3, [], .p 0 0⟩, ⟨0, [], .v (.agg ((kd_Config).cells x0 sv0).toArray)⟩, ⟨1, [], .v (.agg ((kd_Request).cells x1 sv1).toArray)⟩, ⟨2, [], .v (.agg ((kd_Answer).cells x2 sv2).toArray)⟩], [], [], [((((kd_Config).cells x0 sv0).map EV.v), 29), ((((kd_Request).cells x1 sv1).map EV.v), 49), ((((kd_Answer).cells x2 sv2).map EV.v), 52)], none, none⟩ [] (by kernel_rfl) trivial (fun ns_10 a w_11 hI _ => ?_)
    refine cond_ hI (((x1.Op == 4) && (x2.Code == 0))) rfl (fun hc_12 => ?_) (fun hc_12 => ?_)
    · replace H0 := bif_t hc_12 H0
      refine seq_region (live := [6, 22, 11, 7, 5, 4, 3, 0, 1, 2]) (orc := []) hF hI ⟨[⟨6, [], .v (.int .i64 (IntKind.i64.wrap ((x2.Data.length : Int) + 6)))⟩, ⟨22, [], .v (.bool ((x1.Op == 4) && (x2.Code == 0)))⟩, ⟨11, [], .v (.bool ((x1.Op == 3) && (x2.Code == 0)))⟩, ⟨7, [], .v (.bool (x2.Code == 0))⟩, ⟨5, [], .p 2 0⟩, ⟨4, [], .p 1 0⟩, ⟨3, [], .p 0 0⟩, ⟨0, [], .v (.agg ((kd_Config).cells x0 sv0).toArray)⟩, ⟨1, [], .v (.agg ((kd_Request).cells x1 sv1).toArray)⟩, ⟨2, [], .v (.agg ((kd_Answer).cells x2 sv2).toArray)⟩], [], [], [((((kd_Config).cells x0 sv0).map EV.v), 29), ((((kd_Request).cells x1 sv1).map EV.v), 49), ((((kd_Answer).cells x2 sv2).map EV.v), 52)], none, none⟩ [] (by kernel_rfl) trivial (fun ns_13 a w_14 hI _ => ?_)
      refine wpIn_ret ?_
      refine inBlock_ret ?_
      refine then_ret ?_
      obtain rfl := Option.some.inj H0
      exact ret1 hI rfl rfl ⟨rfl, hE.below hI⟩
    · replace H0 := bif_f hc_12 H0
      refine seq_region (live := [33, 22, 11, 7, 6, 5, 4, 3, 0, 1, 2]) (orc := []) hF hI ⟨[⟨33, [], .v (.bool ((x1.Op == 4) && (x2.Code == 1)))⟩, ⟨22, [], .v (.bool ((x1.Op == 4) && (x2.Code == 0)))⟩, ⟨11, [], .v (.bool ((x1.Op == 3) && (x2.Code == 0)))⟩, ⟨7, [], .v (.bool (x2.Code == 0))⟩, ⟨6, [], .v (.int .i64 0)⟩, ⟨5, [], .p 2 0⟩, ⟨4, [], .p 1 0⟩, ⟨3, [], .p 0 0⟩, ⟨0, [], .v (.agg ((kd_Config).cells x0 sv0).toArray)⟩, ⟨1, [], .v (.agg ((kd_Request).cells x1 sv1).toArray)⟩, ⟨2, [], .v (.agg ((kd_Answer).cells x2 sv2).toArray)⟩], [], [], [((((kd_Config).cells x0 sv0).map EV.v), 29), ((((kd_Request).cells x1 sv1).map EV.v), 49), ((((kd_Answer).cells x2 sv2).map EV.v), 52)], none, none⟩ [] (by kernel_rfl) trivial (fun ns_15 a w_16 hI _ => ?_)
      refine cond_ hI (((x1.Op == 4) && (x2.Code == 1))) rfl (fun hc_17 => ?_) (fun hc_17 => ?_)
      · replace H0 := bif_t hc_17 H0
        refine seq_region (live := [6, 33, 22, 11, 7, 5, 4, 3, 0, 1, 2]) (orc := []) hF hI ⟨[⟨6, [], .v (.int .i64 5)⟩, ⟨33, [], .v (.bool ((x1.Op == 4) && (x2.Code == 1)))⟩, ⟨22, [], .v (.bool ((x1.Op == 4) && (x2.Code == 0)))⟩, ⟨11, [], .v (.bool ((x1.Op == 3) && (x2.Code == 0)))⟩, ⟨7, [], .v (.bool (x2.Code == 0))⟩, ⟨5, [], .p 2 0⟩, ⟨4, [], .p 1 0⟩, ⟨3, [], .p 0 0⟩, ⟨0, [], .v (.agg ((kd_Config).cells x0 sv0).toArray)⟩, ⟨1, [], .v (.agg ((kd_Request).cells x1 sv1).toArray)⟩, ⟨2, [], .v (.agg ((kd_Answer).cells x2 sv2).toArray)⟩], [], [], [((((kd_Config).cells x0 sv0).map EV.v), 29), ((((kd_Request).cells x1 sv1).map EV.v), 49), ((((kd_Answer).cells x2 sv2).map EV.v), 52)], none, none⟩ [] (by kernel_rfl) trivial (fun ns_18 a w_19 hI _ => ?_)
        refine wpIn_ret ?_
        refine inBlock_ret ?_
        refine then_ret ?_
        obtain rfl := Option.some.inj H0
        exact ret1 hI rfl rfl ⟨rfl, hE.below hI⟩
      · replace H0 := bif_f hc_17 H0
        refine seq_region (live := [42, 33, 22, 11, 7, 6, 5, 4, 3, 0, 1, 2]) (orc := []) hF hI ⟨[⟨42, [], .v (.bool ((x1.Op == 5) && (x2.Code == 0)))⟩, ⟨33, [], .v (.bool ((x1.Op == 4) && (x2.Code == 1)))⟩, ⟨22, [], .v (.bool ((x1.Op == 4) && (x2.Code == 0)))⟩, ⟨11, [], .v (.bool ((x1.Op == 3) && (x2.Code == 0)))⟩, ⟨7, [], .v (.bool (x2.Code == 0))⟩, ⟨6, [], .v (.int .i64 0)⟩, ⟨5, [], .p 2 0⟩, ⟨4, [], .p 1 0⟩, ⟨3, [], .p 0 0⟩, ⟨0, [], .v (.agg ((kd_Config).cells x0 sv0).toArray)⟩, ⟨1, [], .v (.agg ((kd_Request).cells x1 sv1).toArray)⟩, ⟨2, [], .v (.agg ((kd_Answer).cells x2 sv2).toArray)⟩], [], [], [((((kd_Config).cells x0 sv0).map EV.v), 29), ((((kd_Request).cells x1 sv1).map EV.v), 49), ((((kd_Answer).cells x2 sv2).map EV.v), 52)], none, none⟩ [] (by kernel_rfl) trivial (fun ns_20 a w_21 hI _ => ?_)
        refine cond_ hI (((x1.Op == 5) && (x2.Code == 0))) rfl (fun hc_22 => ?_) (fun hc_22 => ?_)
        · replace H0 := bif_t hc_22 H0
          refine seq_region (live := [6, 42, 33, 22, 11, 7, 5, 4, 3, 0, 1, 2]) (orc := []) hF hI ⟨[⟨6, [], .v (.int .i64 (IntKind.i64.wrap ((x1.Data.length : Int) + 5)))⟩, ⟨42, [], .v (.bool ((x1.Op == 5) && (x2.Code == 0)))⟩, ⟨33, [], .v (.bool ((x1.Op == 4) && (x2.Code == 1)))⟩, ⟨22, [], .v (.bool ((x1.Op == 4) && (x2.Code == 0)))⟩, ⟨11, [], .v (.bool ((x1.Op == 3) && (x2.Code == 0)))⟩, ⟨7, [], .v (.bool (x2.Code == 0))⟩, ⟨5, [], .p 2 0⟩, ⟨4, [], .p 1 0⟩, ⟨3, [], .p 0 0⟩, ⟨0, [], .v (.agg ((kd_Config).cells x0 sv0).toArray)⟩, ⟨1, [], .v (.agg ((kd_Request).cells x1 sv1).toArray)⟩, ⟨2, [], .v (.agg ((kd_Answer).cells x2 sv2).toArray)⟩], [], [], [((((kd_Config).cells x0 sv0).map EV.v), 29), ((((kd_Request).cells x1 sv1).map EV.v), 49), ((((kd_Answer).cells x2 sv2).map EV.v), 52)], none, none⟩ [] (by kernel_rfl) trivial (fun ns_23 a w_24 hI _ => ?_)
          refine wpIn_ret ?_
          refine inBlock_ret ?_
          refine then_ret ?_
          obtain rfl := Option.some.inj H0
          exact ret1 hI rfl rfl ⟨rfl, hE.below hI⟩
        · replace H0 := bif_f hc_22 H0
          refine seq_region (live := [53, 42, 33, 22, 11, 7, 6, 5, 4, 3, 0, 1, 2]) (orc := []) hF hI ⟨[⟨53, [], .v (.bool ((x1.Op == 6) && (x2.Code == 0)))⟩, ⟨42, [], .v (.bool ((x1.Op == 5) && (x2.Code == 0)))⟩, ⟨33, [], .v (.bool ((x1.Op == 4) && (x2.Code == 1)))⟩, ⟨22, [], .v (.bool ((x1.Op == 4) && (x2.Code == 0)))⟩, ⟨11, [], .v (.bool ((x1.Op == 3) && (x2.Code == 0)))⟩, ⟨7, [], .v (.bool (x2.Code == 0))⟩, ⟨6, [], .v (.int .i64 0)⟩, ⟨5, [], .p 2 0⟩, ⟨4, [], .p 1 0⟩, ⟨3, [], .p 0 0⟩, ⟨0, [], .v (.agg ((kd_Config).cells x0 sv0).toArray)⟩, ⟨1, [], .v (.agg ((kd_Request).cells x1 sv1).toArray)⟩, ⟨2, [], .v (.agg ((kd_Answer).cells x2 sv2).toArray)⟩], [], [], [((((kd_Config).cells x0 sv0).map EV.v), 29), ((((kd_Request).cells x1 sv1).map EV.v), 49), ((((kd_Answer).cells x2 sv2).map EV.v), 52)], none, none⟩ [] (by kernel_rfl) trivial (fun ns_25 a w_26 hI _ => ?_)
          refine cond_ hI (((x1.Op == 6) && (x2.Code == 0))) rfl (fun hc_27 => ?_) (fun hc_27 => ?_)
          · replace H0 := bif_t hc_27 H0
            refine seq_region (live := [6, 53, 42, 33, 22, 11, 7, 5, 4, 3, 0, 1, 2]) (orc := []) hF hI ⟨[⟨6, [], .v (.int .i64 (IntKind.i64.wrap ((x2.Data.length : Int) + 4)))⟩, ⟨53, [], .v (.bool ((x1.Op == 6) && (x2.Code == 0)))⟩, ⟨42, [], .v (.bool ((x1.Op == 5) && (x2.Code == 0)))⟩, ⟨33, [], .v (.bool ((x1.Op == 4) && (x2.Code == 1)))⟩, ⟨22, [], .v (.bool ((x1.Op == 4) && (x2.Code == 0)))⟩, ⟨11, [], .v (.bool ((x1.Op == 3) && (x2.Code == 0)))⟩, ⟨7, [], .v (.bool (x2.Code == 0))⟩, ⟨5, [], .p 2 0⟩, ⟨4, [], .p 1 0⟩, ⟨3, [], .p 0 0⟩, ⟨0, [], .v (.agg ((kd_Config).cells x0 sv0).toArray)⟩, ⟨1, [], .v (.agg ((kd_Request).cells x1 sv1).toArray)⟩, ⟨2, [], .v (.agg ((kd_Answer).cells x2 sv2).toArray)⟩], [], [], [((((kd_Config).cells x0 sv0).map EV.v), 29), ((((kd_Request).cells x1 sv1).map EV.v), 49), ((((kd_Answer).cells x2 sv2).map EV.v), 52)], none, none⟩ [] (by kernel_rfl) trivial (fun ns_28 a w_29 hI _ => ?_)
            refine wpIn_ret ?_
            refine inBlock_ret ?_
            refine then_ret ?_
            obtain rfl := Option.some.inj H0
            exact ret1 hI rfl rfl ⟨rfl, hE.below hI⟩
          · replace H0 := bif_f hc_27 H0
            refine seq_region (live := [64, 53, 42, 33, 22, 11, 7, 6, 5, 4, 3, 0, 1, 2]) (orc := []) hF hI ⟨[⟨64, [], .v (.bool (((x1.Op == 5) || (x1.Op == 6)) && (x2.Code == 2)))⟩, ⟨53, [], .v (.bool ((x1.Op == 6) && (x2.Code == 0)))⟩, ⟨42, [], .v (.bool ((x1.Op == 5) && (x2.Code == 0)))⟩, ⟨33, [], .v (.bool ((x1.Op == 4) && (x2.Code == 1)))⟩, ⟨22, [], .v (.bool ((x1.Op == 4) && (x2.Code == 0)))⟩, ⟨11, [], .v (.bool ((x1.Op == 3) && (x2.Code == 0)))⟩, ⟨7, [], .v (.bool (x2.Code == 0))⟩, ⟨6, [], .v (.int .i64 0)⟩, ⟨5, [], .p 2 0⟩, ⟨4, [], .p 1 0⟩, ⟨3, [], .p 0 0⟩, ⟨0, [], .v (.agg ((kd_Config).cells x0 sv0).toArray)⟩, ⟨1, [], .v (.agg ((kd_Request).cells x1 sv1).toArray)⟩, ⟨2, [], .v (.agg ((kd_Answer).cells x2 sv2).toArray)⟩], [], [], [((((kd_Config).cells x0 sv0).map EV.v), 29), ((((kd_Request).cells x1 sv1).map EV.v), 49), ((((kd_Answer).cells x2 sv2).map EV.v), 52)], none, none⟩ [] (by kernel_rfl) trivial (fun ns_30 a w_31 hI _ => ?_)
            refine cond_ hI ((((x1.Op == 5) || (x1.Op == 6)) && (x2.Code == 2))) rfl (fun hc_32 => ?_) (fun hc_32 => ?_)
            · replace H0 := bif_t hc_32 H0
              refine seq_region (live := [6, 64, 53, 42, 33, 22, 11, 7, 5, 4, 3, 0, 1, 2]) (orc := []) hF hI ⟨[⟨6, [], .v (.int .i64 2)⟩, ⟨64, [], .v (.bool (((x1.Op == 5) || (x1.Op == 6)) && (x2.Code == 2)))⟩, ⟨53, [], .v (.bool ((x1.Op == 6) && (x2.Code == 0)))⟩, ⟨42, [], .v (.bool ((x1.Op == 5) && (x2.Code == 0)))⟩, ⟨33, [], .v (.bool ((x1.Op == 4) && (x2.Code == 1)))⟩, ⟨22, [], .v (.bool ((x1.Op == 4) && (x2.Code == 0)))⟩, ⟨11, [], .v (.bool ((x1.Op == 3) && (x2.Code == 0)))⟩, ⟨7, [], .v (.bool (x2.Code == 0))⟩, ⟨5, [], .p 2 0⟩, ⟨4, [], .p 1 0⟩, ⟨3, [], .p 0 0⟩, ⟨0, [], .v (.agg ((kd_Config).cells x0 sv0).toArray)⟩, ⟨1, [], .v (.agg ((kd_Request).cells x1 sv1).toArray)⟩, ⟨2, [], .v (.agg ((kd_Answer).cells x2 sv2).toArray)⟩], [], [], [((((kd_Config).cells x0 sv0).map EV.v), 29), ((((kd_Request).cells x1 sv1).map EV.v), 49), ((((kd_Answer).cells x2 sv2).map EV.v), 52)], none, none⟩ [] (by kernel_rfl) trivial (fun ns_33 a w_34 hI _ => ?_)
              refine wpIn_ret ?_
              refine inBlock_ret ?_
              refine then_ret ?_
              obtain rfl := Option.some.inj H0
              exact ret1 hI rfl rfl ⟨rfl, hE.below hI⟩
            · replace H0 := bif_f hc_32 H0
              obtain ⟨t_35, hG_36, H0⟩ := bind_some H0
              obtain ⟨hN_37, H0⟩ := req_some H0
              obtain ⟨sv_38, hE_40, hA_39⟩ := Arr.elB (d := kd_Chan) hx0.2.1.1 (IntKind.i64.wrap (Int.tdiv x1.Port 2)) (((x1.Op == 7) && (x2.Code == 0)) && t_35) (fun hg => imp_spec hN_37 hg)
              refine seq_region (live := [78, 64, 53, 42, 33, 22, 11, 7, 6, 5, 4, 3, 0, 1, 2]) (orc := [[.bool t_35], [.int .i64 ((rd x0.Chans (IntKind.i64.wrap (Int.tdiv x1.Port 2))).Kind)]]) hF hI ⟨[⟨78, [], .v (.bool ((((x1.Op == 7) && (x2.Code == 0)) && t_35) && (((rd x0.Chans (IntKind.i64.wrap (Int.tdiv x1.Port 2))).Kind) == 2)))⟩, ⟨64, [], .v (.bool (((x1.Op == 5) || (x1.Op == 6)) && (x2.Code == 2)))⟩, ⟨53, [], .v (.bool ((x1.Op == 6) && (x2.Code == 0)))⟩, ⟨42, [], .v (.bool ((x1.Op == 5) && (x2.Code == 0)))⟩, ⟨33, [], .v (.bool ((x1.Op == 4) && (x2.Code == 1)))⟩, ⟨22, [], .v (.bool ((x1.Op == 4) && (x2.Code == 0)))⟩, ⟨11, [], .v (.bool ((x1.Op == 3) && (x2.Code == 0)))⟩, ⟨7, [], .v (.bool (x2.Code == 0))⟩, ⟨6, [], .v (.int .i64 0)⟩, ⟨5, [], .p 2 0⟩, ⟨4, [], .p 1 0⟩, ⟨3, [], .p 0 0⟩, ⟨0, [], .v (.agg ((kd_Config).cells x0 (svL [((sv0 0).1, (sv0 0).2), ((sv0 1).1, (sv0 1).2), ((sv0 2).1, (sv0 2).2), ((sv0 3).1, (sv0 3).2)])).toArray)⟩, ⟨1, [], .v (.agg ((kd_Request).cells x1 (svL [((sv1 0).1, (sv1 0).2)])).toArray)⟩, ⟨2, [], .v (.agg ((kd_Answer).cells x2 sv2).toArray)⟩], [], [], [((((kd_Config).cells x0 sv0).map EV.v), 29), ((((kd_Request).cells x1 sv1).map EV.v), 49), ((((kd_Answer).cells x2 sv2).map EV.v), 52)], none, none⟩ [.call ((x1.Op == 7) && (x2.Code == 0)) 46 [.agg ((kd_Config).cells x0 (svL [((sv0 0).1, (sv0 0).2), ((sv0 1).1, (sv0 1).2), ((sv0 2).1, (sv0 2).2), ((sv0 3).1, (sv0 3).2)])).toArray, .agg ((kd_Request).cells x1 (svL [((sv1 0).1, (sv1 0).2)])).toArray] (.bool t_35), .need (((x1.Op == 7) && (x2.Code == 0)) && t_35) (¬ (2 : Int) = 0), .need (((x1.Op == 7) && (x2.Code == 0)) && t_35) (0 ≤ (IntKind.i64.wrap (Int.tdiv x1.Port 2)) ∧ (IntKind.i64.wrap (Int.tdiv x1.Port 2)) < (x0.Chans.length : Int)), .need (((x1.Op == 7) && (x2.Code == 0)) && t_35) ((sv0 1).1 = some (adr ((sv0 1).1))), .cell (((x1.Op == 7) && (x2.Code == 0)) && t_35) ((adr ((sv0 1).1)).add (((IntKind.i64.wrap (Int.tdiv x1.Port 2)) : Int).toNat * 7)) [.int .i64 ((rd x0.Chans (IntKind.i64.wrap (Int.tdiv x1.Port 2))).Kind)]] (by kernel_rfl) ⟨ob_call (enters Try.func46 (by kernel_rfl) rfl) (fun hg wz hk => G_ref23_has.calls x0 x1 (svL [((sv0 0).1, (sv0 0).2), ((sv0 1).1, (sv0 1).2), ((sv0 2).1, (sv0 2).2), ((sv0 3).1, (sv0 3).2)]) (svL [((sv1 0).1, (sv1 0).2)]) wz (S := fun _ => True) (Kd.any _ (Kd.keep kd_Config (contI (S := Lo S w w [] []) (w := w) (d := kd_Config) (x := x0) (sv := (svL [((sv0 0).1, (sv0 0).2), ((sv0 1).1, (sv0 1).2), ((sv0 2).1, (sv0 2).2), ((sv0 3).1, (sv0 3).2)])) ⟨⟨hx0.1.1, hx0.1.2⟩, ⟨hx0.2.1.1, hx0.2.1.2⟩, ⟨hx0.2.2.1.1, hx0.2.2.1.2⟩, ⟨hx0.2.2.2.1.1, hx0.2.2.2.1.2⟩, trivial⟩) (Lo.on hk))) (Kd.any _ (Kd.keep kd_Request (contI (S := Lo S w w [] []) (w := w) (d := kd_Request) (x := x1) (sv := (svL [((sv1 0).1, (sv1 0).2)])) ⟨⟨hx1.1.1, hx1.1.2⟩, trivial⟩) (Lo.on hk))) _ (cal_some hG_36 hg)), (fun _ => by decide), ob_inb (fun hg => imp_spec hN_37 hg), hA_39, ob_el (fun hg => hE_40 hg) 0 [.int .i64 ((rd x0.Chans (IntKind.i64.wrap (Int.tdiv x1.Port 2))).Kind)] rfl, trivial⟩ (fun ns_41 a w_42 hI _ => ?_)
              refine cond_ hI (((((x1.Op == 7) && (x2.Code == 0)) && t_35) && (((rd x0.Chans (IntKind.i64.wrap (Int.tdiv x1.Port 2))).Kind) == 2))) rfl (fun hc_43 => ?_) (fun hc_43 => ?_)
              · replace H0 := bif_t hc_43 H0
                refine seq_region (live := [6, 78, 64, 53, 42, 33, 22, 11, 7, 5, 4, 3, 0, 1, 2]) (orc := []) hF hI ⟨[⟨6, [], .v (.int .i64 2)⟩, ⟨78, [], .v (.bool ((((x1.Op == 7) && (x2.Code == 0)) && t_35) && (((rd x0.Chans (IntKind.i64.wrap (Int.tdiv x1.Port 2))).Kind) == 2)))⟩, ⟨64, [], .v (.bool (((x1.Op == 5) || (x1.Op == 6)) && (x2.Code == 2)))⟩, ⟨53, [], .v (.bool ((x1.Op == 6) && (x2.Code == 0)))⟩, ⟨42, [], .v (.bool ((x1.Op == 5) && (x2.Code == 0)))⟩, ⟨33, [], .v (.bool ((x1.Op == 4) && (x2.Code == 1)))⟩, ⟨22, [], .v (.bool ((x1.Op == 4) && (x2.Code == 0)))⟩, ⟨11, [], .v (.bool ((x1.Op == 3) && (x2.Code == 0)))⟩, ⟨7, [], .v (.bool (x2.Code == 0))⟩, ⟨5, [], .p 2 0⟩, ⟨4, [], .p 1 0⟩, ⟨3, [], .p 0 0⟩, ⟨0, [], .v (.agg ((kd_Config).cells x0 (svL [((sv0 0).1, (sv0 0).2), ((sv0 1).1, (sv0 1).2), ((sv0 2).1, (sv0 2).2), ((sv0 3).1, (sv0 3).2)])).toArray)⟩, ⟨1, [], .v (.agg ((kd_Request).cells x1 (svL [((sv1 0).1, (sv1 0).2)])).toArray)⟩, ⟨2, [], .v (.agg ((kd_Answer).cells x2 sv2).toArray)⟩], [], [], [((((kd_Config).cells x0 sv0).map EV.v), 29), ((((kd_Request).cells x1 sv1).map EV.v), 49), ((((kd_Answer).cells x2 sv2).map EV.v), 52)], none, none⟩ [] (by kernel_rfl) trivial (fun ns_44 a w_45 hI _ => ?_)
                refine wpIn_ret ?_
                refine inBlock_ret ?_
                refine then_ret ?_
                obtain rfl := Option.some.inj H0
                exact ret1 hI rfl rfl ⟨rfl, hE.below hI⟩
              · replace H0 := bif_f hc_43 H0
                refine seq_region (live := [101, 78, 64, 53, 42, 33, 22, 11, 7, 6, 5, 4, 3, 0, 1, 2]) (orc := []) hF hI ⟨[⟨101, [], .v (.bool (((x1.Op == 8) || (x1.Op == 9)) && (x2.Code == 0)))⟩, ⟨78, [], .v (.bool ((((x1.Op == 7) && (x2.Code == 0)) && t_35) && (((rd x0.Chans (IntKind.i64.wrap (Int.tdiv x1.Port 2))).Kind) == 2)))⟩, ⟨64, [], .v (.bool (((x1.Op == 5) || (x1.Op == 6)) && (x2.Code == 2)))⟩, ⟨53, [], .v (.bool ((x1.Op == 6) && (x2.Code == 0)))⟩, ⟨42, [], .v (.bool ((x1.Op == 5) && (x2.Code == 0)))⟩, ⟨33, [], .v (.bool ((x1.Op == 4) && (x2.Code == 1)))⟩, ⟨22, [], .v (.bool ((x1.Op == 4) && (x2.Code == 0)))⟩, ⟨11, [], .v (.bool ((x1.Op == 3) && (x2.Code == 0)))⟩, ⟨7, [], .v (.bool (x2.Code == 0))⟩, ⟨6, [], .v (.int .i64 0)⟩, ⟨5, [], .p 2 0⟩, ⟨4, [], .p 1 0⟩, ⟨3, [], .p 0 0⟩, ⟨0, [], .v (.agg ((kd_Config).cells x0 (svL [((sv0 0).1, (sv0 0).2), ((sv0 1).1, (sv0 1).2), ((sv0 2).1, (sv0 2).2), ((sv0 3).1, (sv0 3).2)])).toArray)⟩, ⟨1, [], .v (.agg ((kd_Request).cells x1 (svL [((sv1 0).1, (sv1 0).2)])).toArray)⟩, ⟨2, [], .v (.agg ((kd_Answer).cells x2 sv2).toArray)⟩], [], [], [((((kd_Config).cells x0 sv0).map EV.v), 29), ((((kd_Request).cells x1 sv1).map EV.v), 49), ((((kd_Answer).cells x2 sv2).map EV.v), 52)], none, none⟩ [] (by kernel_rfl) trivial (fun ns_46 a w_47 hI _ => ?_)
                refine cond_ hI ((((x1.Op == 8) || (x1.Op == 9)) && (x2.Code == 0))) rfl (fun hc_48 => ?_) (fun hc_48 => ?_)
                · replace H0 := bif_t hc_48 H0
                  refine seq_region (live := [6, 101, 78, 64, 53, 42, 33, 22, 11, 7, 5, 4, 3, 0, 1, 2]) (orc := []) hF hI ⟨[⟨6, [], .v (.int .i64 2)⟩, ⟨101, [], .v (.bool (((x1.Op == 8) || (x1.Op == 9)) && (x2.Code == 0)))⟩, ⟨78, [], .v (.bool ((((x1.Op == 7) && (x2.Code == 0)) && t_35) && (((rd x0.Chans (IntKind.i64.wrap (Int.tdiv x1.Port 2))).Kind) == 2)))⟩, ⟨64, [], .v (.bool (((x1.Op == 5) || (x1.Op == 6)) && (x2.Code == 2)))⟩, ⟨53, [], .v (.bool ((x1.Op == 6) && (x2.Code == 0)))⟩, ⟨42, [], .v (.bool ((x1.Op == 5) && (x2.Code == 0)))⟩, ⟨33, [], .v (.bool ((x1.Op == 4) && (x2.Code == 1)))⟩, ⟨22, [], .v (.bool ((x1.Op == 4) && (x2.Code == 0)))⟩, ⟨11, [], .v (.bool ((x1.Op == 3) && (x2.Code == 0)))⟩, ⟨7, [], .v (.bool (x2.Code == 0))⟩, ⟨5, [], .p 2 0⟩, ⟨4, [], .p 1 0⟩, ⟨3, [], .p 0 0⟩, ⟨0, [], .v (.agg ((kd_Config).cells x0 (svL [((sv0 0).1, (sv0 0).2), ((sv0 1).1, (sv0 1).2), ((sv0 2).1, (sv0 2).2), ((sv0 3).1, (sv0 3).2)])).toArray)⟩, ⟨1, [], .v (.agg ((kd_Request).cells x1 (svL [((sv1 0).1, (sv1 0).2)])).toArray)⟩, ⟨2, [], .v (.agg ((kd_Answer).cells x2 sv2).toArray)⟩], [], [], [((((kd_Config).cells x0 sv0).map EV.v), 29), ((((kd_Request).cells x1 sv1).map EV.v), 49), ((((kd_Answer).cells x2 sv2).map EV.v), 52)], none, none⟩ [] (by kernel_rfl) trivial (fun ns_49 a w_50 hI _ => ?_)
                  refine wpIn_ret ?_
                  refine inBlock_ret ?_
                  refine then_ret ?_
                  obtain rfl := Option.some.inj H0
                  exact ret1 hI rfl rfl ⟨rfl, hE.below hI⟩
                · replace H0 := bif_f hc_48 H0
                  refine wpIn_skip ?_
                  refine inBlock_normal ?_
                  refine then_normal ?_
                  refine seq_region (live := [6, 101, 78, 64, 53, 42, 33, 22, 11, 7, 5, 4, 3, 0, 1, 2]) (orc := []) hF hI ⟨[⟨6, [], .v (.int .i64 1)⟩, ⟨101, [], .v (.bool (((x1.Op == 8) || (x1.Op == 9)) && (x2.Code == 0)))⟩, ⟨78, [], .v (.bool ((((x1.Op == 7) && (x2.Code == 0)) && t_35) && (((rd x0.Chans (IntKind.i64.wrap (Int.tdiv x1.Port 2))).Kind) == 2)))⟩, ⟨64, [], .v (.bool (((x1.Op == 5) || (x1.Op == 6)) && (x2.Code == 2)))⟩, ⟨53, [], .v (.bool ((x1.Op == 6) && (x2.Code == 0)))⟩, ⟨42, [], .v (.bool ((x1.Op == 5) && (x2.Code == 0)))⟩, ⟨33, [], .v (.bool ((x1.Op == 4) && (x2.Code == 1)))⟩, ⟨22, [], .v (.bool ((x1.Op == 4) && (x2.Code == 0)))⟩, ⟨11, [], .v (.bool ((x1.Op == 3) && (x2.Code == 0)))⟩, ⟨7, [], .v (.bool (x2.Code == 0))⟩, ⟨5, [], .p 2 0⟩, ⟨4, [], .p 1 0⟩, ⟨3, [], .p 0 0⟩, ⟨0, [], .v (.agg ((kd_Config).cells x0 (svL [((sv0 0).1, (sv0 0).2), ((sv0 1).1, (sv0 1).2), ((sv0 2).1, (sv0 2).2), ((sv0 3).1, (sv0 3).2)])).toArray)⟩, ⟨1, [], .v (.agg ((kd_Request).cells x1 (svL [((sv1 0).1, (sv1 0).2)])).toArray)⟩, ⟨2, [], .v (.agg ((kd_Answer).cells x2 sv2).toArray)⟩], [], [], [((((kd_Config).cells x0 sv0).map EV.v), 29), ((((kd_Request).cells x1 sv1).map EV.v), 49), ((((kd_Answer).cells x2 sv2).map EV.v), 52)], none, none⟩ [] (by kernel_rfl) trivial (fun ns_51 a w_52 hI _ => ?_)
                  refine wpIn_ret ?_
                  obtain rfl := Option.some.inj H0
                  exact ret1 hI rfl rfl ⟨rfl, hE.below hI⟩

/-! ### porthole/portholelaw23.BoundSteps: function 6 -/
noncomputable def G_law23_BoundSteps (x0 : Config) (x1 : Request) (x2 : Answer) : Option (Bool) := ((G_law23_wakes).bind fun t_3 => (bif (!t_3) then some false else ((G_ref06_Great x0).bind fun t_10 => ((cal (!t_10) (G_ref07_Accepts x0) default).bind fun t_12 => (bif (((t_10 || (!t_12)) || decide ((x1.Data.length : Int) > 100)) || decide ((x2.Data.length : Int) > 100)) then some true else ((G_ref23_Words x0 x1).bind fun t_19 => ((G_bound_Words x0 x1).bind fun t_23 => ((cal (t_23 == t_19) (G_bound_Bound x0 x1) default).bind fun t_25 => ((cal ((t_23 == t_19) && (t_25 == (IntKind.i64.wrap ((IntKind.i64.wrap (2 * t_19)) + 16)))) (G_bound_Steps x0 x1 x2) default).bind fun t_27 => ((cal ((t_23 == t_19) && (t_25 == (IntKind.i64.wrap ((IntKind.i64.wrap (2 * t_19)) + 16)))) (G_ref23_Steps x0 x1 x2) default).bind fun t_29 => some (((t_23 == t_19) && (t_25 == (IntKind.i64.wrap ((IntKind.i64.wrap (2 * t_19)) + 16)))) && (t_27 == t_29))))))))))))
set_option maxRecDepth 100000 in
set_option maxHeartbeats 4000000 in
theorem G_law23_BoundSteps.calls (x0 : Config) (x1 : Request) (x2 : Answer) (sv0 : SV) (sv1 : SV) (sv2 : SV) (w : World) {S : Nat → Prop} (hx0 : (kd_Config).cont S w x0 sv0) (hx1 : (kd_Request).cont S w x1 sv1) (hx2 : (kd_Answer).cont S w x2 sv2) (r : Bool) (h : G_law23_BoundSteps x0 x1 x2 = some r) :
    Calls Try.prog 6 #[.agg ((kd_Config).cells x0 (svL [((sv0 0).1, (sv0 0).2), ((sv0 1).1, (sv0 1).2), ((sv0 2).1, (sv0 2).2), ((sv0 3).1, (sv0 3).2)])).toArray, .agg ((kd_Request).cells x1 (svL [((sv1 0).1, (sv1 0).2)])).toArray, .agg ((kd_Answer).cells x2 (svL [((sv2 0).1, (sv2 0).2)])).toArray] w fun e w' => e = .returned (.bool r) ∧ Below w.heap.size w w' := by
  replace hx0 := Kd.lo _ hx0
  replace hx1 := Kd.lo _ hx1
  replace hx2 := Kd.lo _ hx2
  unfold G_law23_BoundSteps at h
  have H0 := h
  clear h
  refine enter Try.func6 rfl [.agg ((kd_Config).cells x0 (svL [((sv0 0).1, (sv0 0).2), ((sv0 1).1, (sv0 1).2), ((sv0 2).1, (sv0 2).2), ((sv0 3).1, (sv0 3).2)])).toArray, .agg ((kd_Request).cells x1 (svL [((sv1 0).1, (sv1 0).2)])).toArray, .agg ((kd_Answer).cells x2 (svL [((sv2 0).1, (sv2 0).2)])).toArray] (n := 57) rfl (Nat.le_of_ble_eq_true rfl) (fun a hI => ?_)
  have hF : FOpen Fence.wide := .inl rfl
  have hE := Ep.start w
  refine seq_region (live := [6, 5, 4, 3, 0, 1, 2]) (orc := []) hF hI ⟨[⟨6, [], .v (.bool false)⟩, ⟨5, [], .p 2 0⟩, ⟨4, [], .p 1 0⟩, ⟨3, [], .p 0 0⟩, ⟨0, [], .v (.agg ((kd_Config).cells x0 sv0).toArray)⟩, ⟨1, [], .v (.agg ((kd_Request).cells x1 sv1).toArray)⟩, ⟨2, [], .v (.agg ((kd_Answer).cells x2 sv2).toArray)⟩], [], [], [((((kd_Config).cells x0 sv0).map EV.v), 29), ((((kd_Request).cells x1 sv1).map EV.v), 49), ((((kd_Answer).cells x2 sv2).map EV.v), 52)], none, none⟩ [] (by kernel_rfl) trivial (fun ns_1 a w_2 hI _ => ?_)
  refine wpIn_seq ?_
  obtain ⟨t_3, hG_4, H0⟩ := bind_some H0
  refine seq_region (live := [9, 6, 5, 4, 3, 0, 1, 2]) (orc := [[.bool t_3]]) hF hI ⟨[⟨9, [], .v (.bool (!t_3))⟩, ⟨6, [], .v (.bool false)⟩, ⟨5, [], .p 2 0⟩, ⟨4, [], .p 1 0⟩, ⟨3, [], .p 0 0⟩, ⟨0, [], .v (.agg ((kd_Config).cells x0 sv0).toArray)⟩, ⟨1, [], .v (.agg ((kd_Request).cells x1 sv1).toArray)⟩, ⟨2, [], .v (.agg ((kd_Answer).cells x2 sv2).toArray)⟩], [], [], [((((kd_Config).cells x0 sv0).map EV.v), 29), ((((kd_Request).cells x1 sv1).map EV.v), 49), ((((kd_Answer).cells x2 sv2).map EV.v), 52)], none, none⟩ [.call true 22 [] (.bool t_3)] (by kernel_rfl) ⟨ob_call (enters Try.func22 (by kernel_rfl) rfl) (fun hg wz hk => G_law23_wakes.calls   wz (S := fun _ => True)  _ hG_4), trivial⟩ (fun ns_5 a w_6 hI _ => ?_)
  refine cond_ hI ((!t_3)) rfl (fun hc_7 => ?_) (fun hc_7 => ?_)
  · replace H0 := bif_t hc_7 H0
    refine seq_region (live := [6, 9, 5, 4, 3, 0, 1, 2]) (orc := []) hF hI ⟨[⟨6, [], .v (.bool false)⟩, ⟨9, [], .v (.bool (!t_3))⟩, ⟨5, [], .p 2 0⟩, ⟨4, [], .p 1 0⟩, ⟨3, [], .p 0 0⟩, ⟨0, [], .v (.agg ((kd_Config).cells x0 sv0).toArray)⟩, ⟨1, [], .v (.agg ((kd_Request).cells x1 sv1).toArray)⟩, ⟨2, [], .v (.agg ((kd_Answer).cells x2 sv2).toArray)⟩], [], [], [((((kd_Config).cells x0 sv0).map EV.v), 29), ((((kd_Request).cells x1 sv1).map EV.v), 49), ((((kd_Answer).cells x2 sv2).map EV.v), 52)], none, none⟩ [] (by kernel_rfl) trivial (fun ns_8 a w_9 hI _ => ?_)
    refine wpIn_ret ?_
    refine then_ret ?_
    obtain rfl := Option.some.inj H0
    exact ret1 hI rfl rfl ⟨rfl, hE.below hI⟩
  · replace H0 := bif_f hc_7 H0
    refine wpIn_skip ?_
    refine then_normal ?_
    refine wpIn_seq ?_
    obtain ⟨t_10, hG_11, H0⟩ := bind_some H0
    obtain ⟨t_12, hG_13, H0⟩ := bind_some H0
    refine seq_region (live := [28, 9, 6, 5, 4, 3, 0, 1, 2]) (orc := [[.bool t_10], [.bool t_12]]) hF hI ⟨[⟨28, [], .v (.bool (((t_10 || (!t_12)) || decide ((x1.Data.length : Int) > 100)) || decide ((x2.Data.length : Int) > 100)))⟩, ⟨9, [], .v (.bool (!t_3))⟩, ⟨6, [], .v (.bool false)⟩, ⟨5, [], .p 2 0⟩, ⟨4, [], .p 1 0⟩, ⟨3, [], .p 0 0⟩, ⟨0, [], .v (.agg ((kd_Config).cells x0 (svL [((sv0 0).1, (sv0 0).2), ((sv0 1).1, (sv0 1).2), ((sv0 2).1, (sv0 2).2), ((sv0 3).1, (sv0 3).2)])).toArray)⟩, ⟨1, [], .v (.agg ((kd_Request).cells x1 sv1).toArray)⟩, ⟨2, [], .v (.agg ((kd_Answer).cells x2 sv2).toArray)⟩], [], [], [((((kd_Config).cells x0 sv0).map EV.v), 29), ((((kd_Request).cells x1 sv1).map EV.v), 49), ((((kd_Answer).cells x2 sv2).map EV.v), 52)], none, none⟩ [.call true 13 [.agg ((kd_Config).cells x0 (svL [((sv0 0).1, (sv0 0).2), ((sv0 1).1, (sv0 1).2), ((sv0 2).1, (sv0 2).2), ((sv0 3).1, (sv0 3).2)])).toArray] (.bool t_10), .call (!t_10) 14 [.agg ((kd_Config).cells x0 (svL [((sv0 0).1, (sv0 0).2), ((sv0 1).1, (sv0 1).2), ((sv0 2).1, (sv0 2).2), ((sv0 3).1, (sv0 3).2)])).toArray] (.bool t_12)] (by kernel_rfl) ⟨ob_call (enters Try.func13 (by kernel_rfl) rfl) (fun hg wz hk => G_ref06_Great.calls x0 (svL [((sv0 0).1, (sv0 0).2), ((sv0 1).1, (sv0 1).2), ((sv0 2).1, (sv0 2).2), ((sv0 3).1, (sv0 3).2)]) wz (S := fun _ => True) (Kd.any _ (Kd.keep kd_Config (contI (S := Lo S w w [] []) (w := w) (d := kd_Config) (x := x0) (sv := (svL [((sv0 0).1, (sv0 0).2), ((sv0 1).1, (sv0 1).2), ((sv0 2).1, (sv0 2).2), ((sv0 3).1, (sv0 3).2)])) ⟨⟨hx0.1.1, hx0.1.2⟩, ⟨hx0.2.1.1, hx0.2.1.2⟩, ⟨hx0.2.2.1.1, hx0.2.2.1.2⟩, ⟨hx0.2.2.2.1.1, hx0.2.2.2.1.2⟩, trivial⟩) (Lo.on hk))) _ hG_11), ob_call (enters Try.func14 (by kernel_rfl) rfl) (fun hg wz hk => G_ref07_Accepts.calls x0 (svL [((sv0 0).1, (sv0 0).2), ((sv0 1).1, (sv0 1).2), ((sv0 2).1, (sv0 2).2), ((sv0 3).1, (sv0 3).2)]) wz (S := fun _ => True) (Kd.any _ (Kd.keep kd_Config (contI (S := Lo S w w [] []) (w := w) (d := kd_Config) (x := x0) (sv := (svL [((sv0 0).1, (sv0 0).2), ((sv0 1).1, (sv0 1).2), ((sv0 2).1, (sv0 2).2), ((sv0 3).1, (sv0 3).2)])) ⟨⟨hx0.1.1, hx0.1.2⟩, ⟨hx0.2.1.1, hx0.2.1.2⟩, ⟨hx0.2.2.1.1, hx0.2.2.1.2⟩, ⟨hx0.2.2.2.1.1, hx0.2.2.2.1.2⟩, trivial⟩) (Lo.on hk))) _ (cal_some hG_13 hg)), trivial⟩ (fun ns_14 a w_15 hI _ => ?_)
    refine cond_ hI ((((t_10 || (!t_12)) || decide ((x1.Data.length : Int) > 100)) || decide ((x2.Data.length : Int) > 100))) rfl (fun hc_16 => ?_) (fun hc_16 => ?_)
    · replace H0 := bif_t hc_16 H0
      refine seq_region (live := [6, 28, 9, 5, 4, 3, 0, 1, 2]) (orc := []) hF hI ⟨[⟨6, [], .v (.bool true)⟩, ⟨28, [], .v (.bool (((t_10 || (!t_12)) || decide ((x1.Data.length : Int) > 100)) || decide ((x2.Data.length : Int) > 100)))⟩, ⟨9, [], .v (.bool (!t_3))⟩, ⟨5, [], .p 2 0⟩, ⟨4, [], .p 1 0⟩, ⟨3, [], .p 0 0⟩, ⟨0, [], .v (.agg ((kd_Config).cells x0 (svL [((sv0 0).1, (sv0 0).2), ((sv0 1).1, (sv0 1).2), ((sv0 2).1, (sv0 2).2), ((sv0 3).1, (sv0 3).2)])).toArray)⟩, ⟨1, [], .v (.agg ((kd_Request).cells x1 sv1).toArray)⟩, ⟨2, [], .v (.agg ((kd_Answer).cells x2 sv2).toArray)⟩], [], [], [((((kd_Config).cells x0 sv0).map EV.v), 29), ((((kd_Request).cells x1 sv1).map EV.v), 49), ((((kd_Answer).cells x2 sv2).map EV.v), 52)], none, none⟩ [] (by kernel_rfl) trivial (fun ns_17 a w_18 hI _ => ?_)
      refine wpIn_ret ?_
      refine then_ret ?_
      obtain rfl := Option.some.inj H0
      exact ret1 hI rfl rfl ⟨rfl, hE.below hI⟩
    · replace H0 := bif_f hc_16 H0
      refine wpIn_skip ?_
      refine then_normal ?_
      obtain ⟨t_19, hG_20, H0⟩ := bind_some H0
      refine seq_region (live := [7, 28, 9, 6, 5, 4, 3, 0, 1, 2]) (orc := [[.int .i64 t_19]]) hF hI ⟨[⟨7, [], .v (.int .i64 t_19)⟩, ⟨28, [], .v (.bool (((t_10 || (!t_12)) || decide ((x1.Data.length : Int) > 100)) || decide ((x2.Data.length : Int) > 100)))⟩, ⟨9, [], .v (.bool (!t_3))⟩, ⟨6, [], .v (.bool false)⟩, ⟨5, [], .p 2 0⟩, ⟨4, [], .p 1 0⟩, ⟨3, [], .p 0 0⟩, ⟨0, [], .v (.agg ((kd_Config).cells x0 (svL [((sv0 0).1, (sv0 0).2), ((sv0 1).1, (sv0 1).2), ((sv0 2).1, (sv0 2).2), ((sv0 3).1, (sv0 3).2)])).toArray)⟩, ⟨1, [], .v (.agg ((kd_Request).cells x1 (svL [((sv1 0).1, (sv1 0).2)])).toArray)⟩, ⟨2, [], .v (.agg ((kd_Answer).cells x2 sv2).toArray)⟩], [], [], [((((kd_Config).cells x0 sv0).map EV.v), 29), ((((kd_Request).cells x1 sv1).map EV.v), 49), ((((kd_Answer).cells x2 sv2).map EV.v), 52)], none, none⟩ [.call true 23 [.agg ((kd_Config).cells x0 (svL [((sv0 0).1, (sv0 0).2), ((sv0 1).1, (sv0 1).2), ((sv0 2).1, (sv0 2).2), ((sv0 3).1, (sv0 3).2)])).toArray, .agg ((kd_Request).cells x1 (svL [((sv1 0).1, (sv1 0).2)])).toArray] (.int .i64 t_19)] (by kernel_rfl) ⟨ob_call (enters Try.func23 (by kernel_rfl) rfl) (fun hg wz hk => G_ref23_Words.calls x0 x1 (svL [((sv0 0).1, (sv0 0).2), ((sv0 1).1, (sv0 1).2), ((sv0 2).1, (sv0 2).2), ((sv0 3).1, (sv0 3).2)]) (svL [((sv1 0).1, (sv1 0).2)]) wz (S := fun _ => True) (Kd.any _ (Kd.keep kd_Config (contI (S := Lo S w w [] []) (w := w) (d := kd_Config) (x := x0) (sv := (svL [((sv0 0).1, (sv0 0).2), ((sv0 1).1, (sv0 1).2), ((sv0 2).1, (sv0 2).2), ((sv0 3).1, (sv0 3).2)])) ⟨⟨hx0.1.1, hx0.1.2⟩, ⟨hx0.2.1.1, hx0.2.1.2⟩, ⟨hx0.2.2.1.1, hx0.2.2.1.2⟩, ⟨hx0.2.2.2.1.1, hx0.2.2.2.1.2⟩, trivial⟩) (Lo.on hk))) (Kd.any _ (Kd.keep kd_Request (contI (S := Lo S w w [] []) (w := w) (d := kd_Request) (x := x1) (sv := (svL [((sv1 0).1, (sv1 0).2)])) ⟨⟨hx1.1.1, hx1.1.2⟩, trivial⟩) (Lo.on hk))) _ hG_20), trivial⟩ (fun ns_21 a w_22 hI _ => ?_)
      refine wpIn_seq ?_
      obtain ⟨t_23, hG_24, H0⟩ := bind_some H0
      obtain ⟨t_25, hG_26, H0⟩ := bind_some H0
      obtain ⟨t_27, hG_28, H0⟩ := bind_some H0
      obtain ⟨t_29, hG_30, H0⟩ := bind_some H0
      refine drawn_ (live := [6, 7, 28, 9, 5, 4, 3, 0, 1, 2]) (orc := [[.int .i64 t_23], [.int .i64 t_25], [.int .i64 t_27], [.int .i64 t_29]]) hF hI ⟨[⟨6, [], .v (.bool (((t_23 == t_19) && (t_25 == (IntKind.i64.wrap ((IntKind.i64.wrap (2 * t_19)) + 16)))) && (t_27 == t_29)))⟩, ⟨7, [], .v (.int .i64 t_19)⟩, ⟨28, [], .v (.bool (((t_10 || (!t_12)) || decide ((x1.Data.length : Int) > 100)) || decide ((x2.Data.length : Int) > 100)))⟩, ⟨9, [], .v (.bool (!t_3))⟩, ⟨5, [], .p 2 0⟩, ⟨4, [], .p 1 0⟩, ⟨3, [], .p 0 0⟩, ⟨0, [], .v (.agg ((kd_Config).cells x0 (svL [((sv0 0).1, (sv0 0).2), ((sv0 1).1, (sv0 1).2), ((sv0 2).1, (sv0 2).2), ((sv0 3).1, (sv0 3).2)])).toArray)⟩, ⟨1, [], .v (.agg ((kd_Request).cells x1 (svL [((sv1 0).1, (sv1 0).2)])).toArray)⟩, ⟨2, [], .v (.agg ((kd_Answer).cells x2 (svL [((sv2 0).1, (sv2 0).2)])).toArray)⟩], [], [], [((((kd_Config).cells x0 sv0).map EV.v), 29), ((((kd_Request).cells x1 sv1).map EV.v), 49), ((((kd_Answer).cells x2 sv2).map EV.v), 52)], none, none⟩ [.call true 24 [.agg ((kd_Config).cells x0 (svL [((sv0 0).1, (sv0 0).2), ((sv0 1).1, (sv0 1).2), ((sv0 2).1, (sv0 2).2), ((sv0 3).1, (sv0 3).2)])).toArray, .agg ((kd_Request).cells x1 (svL [((sv1 0).1, (sv1 0).2)])).toArray] (.int .i64 t_23), .call (t_23 == t_19) 25 [.agg ((kd_Config).cells x0 (svL [((sv0 0).1, (sv0 0).2), ((sv0 1).1, (sv0 1).2), ((sv0 2).1, (sv0 2).2), ((sv0 3).1, (sv0 3).2)])).toArray, .agg ((kd_Request).cells x1 (svL [((sv1 0).1, (sv1 0).2)])).toArray] (.int .i64 t_25), .call ((t_23 == t_19) && (t_25 == (IntKind.i64.wrap ((IntKind.i64.wrap (2 * t_19)) + 16)))) 26 [.agg ((kd_Config).cells x0 (svL [((sv0 0).1, (sv0 0).2), ((sv0 1).1, (sv0 1).2), ((sv0 2).1, (sv0 2).2), ((sv0 3).1, (sv0 3).2)])).toArray, .agg ((kd_Request).cells x1 (svL [((sv1 0).1, (sv1 0).2)])).toArray, .agg ((kd_Answer).cells x2 (svL [((sv2 0).1, (sv2 0).2)])).toArray] (.int .i64 t_27), .call ((t_23 == t_19) && (t_25 == (IntKind.i64.wrap ((IntKind.i64.wrap (2 * t_19)) + 16)))) 27 [.agg ((kd_Config).cells x0 (svL [((sv0 0).1, (sv0 0).2), ((sv0 1).1, (sv0 1).2), ((sv0 2).1, (sv0 2).2), ((sv0 3).1, (sv0 3).2)])).toArray, .agg ((kd_Request).cells x1 (svL [((sv1 0).1, (sv1 0).2)])).toArray, .agg ((kd_Answer).cells x2 (svL [((sv2 0).1, (sv2 0).2)])).toArray] (.int .i64 t_29)] (by kernel_rfl) (by kernel_rfl) (by kernel_rfl) ⟨ob_call (enters Try.func24 (by kernel_rfl) rfl) (fun hg wz hk => G_bound_Words.calls x0 x1 (svL [((sv0 0).1, (sv0 0).2), ((sv0 1).1, (sv0 1).2), ((sv0 2).1, (sv0 2).2), ((sv0 3).1, (sv0 3).2)]) (svL [((sv1 0).1, (sv1 0).2)]) wz (S := fun _ => True) (Kd.any _ (Kd.keep kd_Config (contI (S := Lo S w w [] []) (w := w) (d := kd_Config) (x := x0) (sv := (svL [((sv0 0).1, (sv0 0).2), ((sv0 1).1, (sv0 1).2), ((sv0 2).1, (sv0 2).2), ((sv0 3).1, (sv0 3).2)])) ⟨⟨hx0.1.1, hx0.1.2⟩, ⟨hx0.2.1.1, hx0.2.1.2⟩, ⟨hx0.2.2.1.1, hx0.2.2.1.2⟩, ⟨hx0.2.2.2.1.1, hx0.2.2.2.1.2⟩, trivial⟩) (Lo.on hk))) (Kd.any _ (Kd.keep kd_Request (contI (S := Lo S w w [] []) (w := w) (d := kd_Request) (x := x1) (sv := (svL [((sv1 0).1, (sv1 0).2)])) ⟨⟨hx1.1.1, hx1.1.2⟩, trivial⟩) (Lo.on hk))) _ hG_24), ob_call (enters Try.func25 (by kernel_rfl) rfl) (fun hg wz hk => G_bound_Bound.calls x0 x1 (svL [((sv0 0).1, (sv0 0).2), ((sv0 1).1, (sv0 1).2), ((sv0 2).1, (sv0 2).2), ((sv0 3).1, (sv0 3).2)]) (svL [((sv1 0).1, (sv1 0).2)]) wz (S := fun _ => True) (Kd.any _ (Kd.keep kd_Config (contI (S := Lo S w w [] []) (w := w) (d := kd_Config) (x := x0) (sv := (svL [((sv0 0).1, (sv0 0).2), ((sv0 1).1, (sv0 1).2), ((sv0 2).1, (sv0 2).2), ((sv0 3).1, (sv0 3).2)])) ⟨⟨hx0.1.1, hx0.1.2⟩, ⟨hx0.2.1.1, hx0.2.1.2⟩, ⟨hx0.2.2.1.1, hx0.2.2.1.2⟩, ⟨hx0.2.2.2.1.1, hx0.2.2.2.1.2⟩, trivial⟩) (Lo.on hk))) (Kd.any _ (Kd.keep kd_Request (contI (S := Lo S w w [] []) (w := w) (d := kd_Request) (x := x1) (sv := (svL [((sv1 0).1, (sv1 0).2)])) ⟨⟨hx1.1.1, hx1.1.2⟩, trivial⟩) (Lo.on hk))) _ (cal_some hG_26 hg)), ob_call (enters Try.func26 (by kernel_rfl) rfl) (fun hg wz hk => G_bound_Steps.calls x0 x1 x2 (svL [((sv0 0).1, (sv0 0).2), ((sv0 1).1, (sv0 1).2), ((sv0 2).1, (sv0 2).2), ((sv0 3).1, (sv0 3).2)]) (svL [((sv1 0).1, (sv1 0).2)]) (svL [((sv2 0).1, (sv2 0).2)]) wz (S := fun _ => True) (Kd.any _ (Kd.keep kd_Config (contI (S := Lo S w w [] []) (w := w) (d := kd_Config) (x := x0) (sv := (svL [((sv0 0).1, (sv0 0).2), ((sv0 1).1, (sv0 1).2), ((sv0 2).1, (sv0 2).2), ((sv0 3).1, (sv0 3).2)])) ⟨⟨hx0.1.1, hx0.1.2⟩, ⟨hx0.2.1.1, hx0.2.1.2⟩, ⟨hx0.2.2.1.1, hx0.2.2.1.2⟩, ⟨hx0.2.2.2.1.1, hx0.2.2.2.1.2⟩, trivial⟩) (Lo.on hk))) (Kd.any _ (Kd.keep kd_Request (contI (S := Lo S w w [] []) (w := w) (d := kd_Request) (x := x1) (sv := (svL [((sv1 0).1, (sv1 0).2)])) ⟨⟨hx1.1.1, hx1.1.2⟩, trivial⟩) (Lo.on hk))) (Kd.any _ (Kd.keep kd_Answer (contI (S := Lo S w w [] []) (w := w) (d := kd_Answer) (x := x2) (sv := (svL [((sv2 0).1, (sv2 0).2)])) ⟨⟨hx2.1.1, hx2.1.2⟩, trivial⟩) (Lo.on hk))) _ (cal_some hG_28 hg)), ob_call (enters Try.func27 (by kernel_rfl) rfl) (fun hg wz hk => G_ref23_Steps.calls x0 x1 x2 (svL [((sv0 0).1, (sv0 0).2), ((sv0 1).1, (sv0 1).2), ((sv0 2).1, (sv0 2).2), ((sv0 3).1, (sv0 3).2)]) (svL [((sv1 0).1, (sv1 0).2)]) (svL [((sv2 0).1, (sv2 0).2)]) wz (S := fun _ => True) (Kd.any _ (Kd.keep kd_Config (contI (S := Lo S w w [] []) (w := w) (d := kd_Config) (x := x0) (sv := (svL [((sv0 0).1, (sv0 0).2), ((sv0 1).1, (sv0 1).2), ((sv0 2).1, (sv0 2).2), ((sv0 3).1, (sv0 3).2)])) ⟨⟨hx0.1.1, hx0.1.2⟩, ⟨hx0.2.1.1, hx0.2.1.2⟩, ⟨hx0.2.2.1.1, hx0.2.2.1.2⟩, ⟨hx0.2.2.2.1.1, hx0.2.2.2.1.2⟩, trivial⟩) (Lo.on hk))) (Kd.any _ (Kd.keep kd_Request (contI (S := Lo S w w [] []) (w := w) (d := kd_Request) (x := x1) (sv := (svL [((sv1 0).1, (sv1 0).2)])) ⟨⟨hx1.1.1, hx1.1.2⟩, trivial⟩) (Lo.on hk))) (Kd.any _ (Kd.keep kd_Answer (contI (S := Lo S w w [] []) (w := w) (d := kd_Answer) (x := x2) (sv := (svL [((sv2 0).1, (sv2 0).2)])) ⟨⟨hx2.1.1, hx2.1.2⟩, trivial⟩) (Lo.on hk))) _ (cal_some hG_30 hg)), trivial⟩ (fun a w_31 hI => ?_)
      refine then_normal ?_
      refine wpIn_ret ?_
      obtain rfl := Option.some.inj H0
      exact ret1 hI rfl rfl ⟨rfl, hE.below hI⟩

/-! ### porthole/portholelaw23.BoundLeast: function 7 -/
noncomputable def G_law23_BoundLeast (x0 : Config) (x1 : Request) (x2 : Answer) : Option (Bool) := ((G_law23_wakes).bind fun t_3 => (bif (!t_3) then some false else ((G_ref06_Great x0).bind fun t_10 => ((cal (!t_10) (G_ref07_Accepts x0) default).bind fun t_12 => ((cal (!(t_10 || (!t_12))) (G_ref23_Words x0 x1) default).bind fun t_14 => ((cal (!((t_10 || (!t_12)) || decide ((x1.Data.length : Int) > t_14))) (G_ref23_Words x0 x1) default).bind fun t_16 => (bif (((t_10 || (!t_12)) || decide ((x1.Data.length : Int) > t_14)) || decide ((x2.Data.length : Int) > t_16)) then some true else ((G_bound_Steps x0 x1 x2).bind fun t_22 => ((cal (decide (t_22 ≥ 1)) (G_bound_Bound x0 x1) default).bind fun t_26 => ((cal (decide (t_22 ≥ 1) && decide (t_22 ≤ t_26)) (G_ref23_Words x0 x1) default).bind fun t_28 => some ((decide (t_22 ≥ 1) && decide (t_22 ≤ t_26)) && decide (t_22 ≤ (IntKind.i64.wrap (t_28 + 7))))))))))))))
set_option maxRecDepth 100000 in
set_option maxHeartbeats 4000000 in
theorem G_law23_BoundLeast.calls (x0 : Config) (x1 : Request) (x2 : Answer) (sv0 : SV) (sv1 : SV) (sv2 : SV) (w : World) {S : Nat → Prop} (hx0 : (kd_Config).cont S w x0 sv0) (hx1 : (kd_Request).cont S w x1 sv1) (hx2 : (kd_Answer).cont S w x2 sv2) (r : Bool) (h : G_law23_BoundLeast x0 x1 x2 = some r) :
    Calls Try.prog 7 #[.agg ((kd_Config).cells x0 (svL [((sv0 0).1, (sv0 0).2), ((sv0 1).1, (sv0 1).2), ((sv0 2).1, (sv0 2).2), ((sv0 3).1, (sv0 3).2)])).toArray, .agg ((kd_Request).cells x1 (svL [((sv1 0).1, (sv1 0).2)])).toArray, .agg ((kd_Answer).cells x2 (svL [((sv2 0).1, (sv2 0).2)])).toArray] w fun e w' => e = .returned (.bool r) ∧ Below w.heap.size w w' := by
  replace hx0 := Kd.lo _ hx0
  replace hx1 := Kd.lo _ hx1
  replace hx2 := Kd.lo _ hx2
  unfold G_law23_BoundLeast at h
  have H0 := h
  clear h
  refine enter Try.func7 rfl [.agg ((kd_Config).cells x0 (svL [((sv0 0).1, (sv0 0).2), ((sv0 1).1, (sv0 1).2), ((sv0 2).1, (sv0 2).2), ((sv0 3).1, (sv0 3).2)])).toArray, .agg ((kd_Request).cells x1 (svL [((sv1 0).1, (sv1 0).2)])).toArray, .agg ((kd_Answer).cells x2 (svL [((sv2 0).1, (sv2 0).2)])).toArray] (n := 56) rfl (Nat.le_of_ble_eq_true rfl) (fun a hI => ?_)
  have hF : FOpen Fence.wide := .inl rfl
  have hE := Ep.start w
  refine seq_region (live := [6, 5, 4, 3, 0, 1, 2]) (orc := []) hF hI ⟨[⟨6, [], .v (.bool false)⟩, ⟨5, [], .p 2 0⟩, ⟨4, [], .p 1 0⟩, ⟨3, [], .p 0 0⟩, ⟨0, [], .v (.agg ((kd_Config).cells x0 sv0).toArray)⟩, ⟨1, [], .v (.agg ((kd_Request).cells x1 sv1).toArray)⟩, ⟨2, [], .v (.agg ((kd_Answer).cells x2 sv2).toArray)⟩], [], [], [((((kd_Config).cells x0 sv0).map EV.v), 29), ((((kd_Request).cells x1 sv1).map EV.v), 49), ((((kd_Answer).cells x2 sv2).map EV.v), 52)], none, none⟩ [] (by kernel_rfl) trivial (fun ns_1 a w_2 hI _ => ?_)
  refine wpIn_seq ?_
  obtain ⟨t_3, hG_4, H0⟩ := bind_some H0
  refine seq_region (live := [9, 6, 5, 4, 3, 0, 1, 2]) (orc := [[.bool t_3]]) hF hI ⟨[⟨9, [], .v (.bool (!t_3))⟩, ⟨6, [], .v (.bool false)⟩, ⟨5, [], .p 2 0⟩, ⟨4, [], .p 1 0⟩, ⟨3, [], .p 0 0⟩, ⟨0, [], .v (.agg ((kd_Config).cells x0 sv0).toArray)⟩, ⟨1, [], .v (.agg ((kd_Request).cells x1 sv1).toArray)⟩, ⟨2, [], .v (.agg ((kd_Answer).cells x2 sv2).toArray)⟩], [], [], [((((kd_Config).cells x0 sv0).map EV.v), 29), ((((kd_Request).cells x1 sv1).map EV.v), 49), ((((kd_Answer).cells x2 sv2).map EV.v), 52)], none, none⟩ [.call true 22 [] (.bool t_3)] (by kernel_rfl) ⟨ob_call (enters Try.func22 (by kernel_rfl) rfl) (fun hg wz hk => G_law23_wakes.calls   wz (S := fun _ => True)  _ hG_4), trivial⟩ (fun ns_5 a w_6 hI _ => ?_)
  refine cond_ hI ((!t_3)) rfl (fun hc_7 => ?_) (fun hc_7 => ?_)
  · replace H0 := bif_t hc_7 H0
    refine seq_region (live := [6, 9, 5, 4, 3, 0, 1, 2]) (orc := []) hF hI ⟨[⟨6, [], .v (.bool false)⟩, ⟨9, [], .v (.bool (!t_3))⟩, ⟨5, [], .p 2 0⟩, ⟨4, [], .p 1 0⟩, ⟨3, [], .p 0 0⟩, ⟨0, [], .v (.agg ((kd_Config).cells x0 sv0).toArray)⟩, ⟨1, [], .v (.agg ((kd_Request).cells x1 sv1).toArray)⟩, ⟨2, [], .v (.agg ((kd_Answer).cells x2 sv2).toArray)⟩], [], [], [((((kd_Config).cells x0 sv0).map EV.v), 29), ((((kd_Request).cells x1 sv1).map EV.v), 49), ((((kd_Answer).cells x2 sv2).map EV.v), 52)], none, none⟩ [] (by kernel_rfl) trivial (fun ns_8 a w_9 hI _ => ?_)
    refine wpIn_ret ?_
    refine then_ret ?_
    obtain rfl := Option.some.inj H0
    exact ret1 hI rfl rfl ⟨rfl, hE.below hI⟩
  · replace H0 := bif_f hc_7 H0
    refine wpIn_skip ?_
    refine then_normal ?_
    refine wpIn_seq ?_
    refine wpIn_seq ?_
    obtain ⟨t_10, hG_11, H0⟩ := bind_some H0
    obtain ⟨t_12, hG_13, H0⟩ := bind_some H0
    obtain ⟨t_14, hG_15, H0⟩ := bind_some H0
    obtain ⟨t_16, hG_17, H0⟩ := bind_some H0
    refine drawn_ (live := [34, 9, 6, 5, 4, 3, 0, 1, 2]) (orc := [[.bool t_10], [.bool t_12], [.int .i64 t_14], [.int .i64 t_16]]) hF hI ⟨[⟨34, [], .v (.bool (((t_10 || (!t_12)) || decide ((x1.Data.length : Int) > t_14)) || decide ((x2.Data.length : Int) > t_16)))⟩, ⟨9, [], .v (.bool (!t_3))⟩, ⟨6, [], .v (.bool false)⟩, ⟨5, [], .p 2 0⟩, ⟨4, [], .p 1 0⟩, ⟨3, [], .p 0 0⟩, ⟨0, [], .v (.agg ((kd_Config).cells x0 (svL [((sv0 0).1, (sv0 0).2), ((sv0 1).1, (sv0 1).2), ((sv0 2).1, (sv0 2).2), ((sv0 3).1, (sv0 3).2)])).toArray)⟩, ⟨1, [], .v (.agg ((kd_Request).cells x1 (svL [((sv1 0).1, (sv1 0).2)])).toArray)⟩, ⟨2, [], .v (.agg ((kd_Answer).cells x2 sv2).toArray)⟩], [], [], [((((kd_Config).cells x0 sv0).map EV.v), 29), ((((kd_Request).cells x1 sv1).map EV.v), 49), ((((kd_Answer).cells x2 sv2).map EV.v), 52)], none, none⟩ [.call true 13 [.agg ((kd_Config).cells x0 (svL [((sv0 0).1, (sv0 0).2), ((sv0 1).1, (sv0 1).2), ((sv0 2).1, (sv0 2).2), ((sv0 3).1, (sv0 3).2)])).toArray] (.bool t_10), .call (!t_10) 14 [.agg ((kd_Config).cells x0 (svL [((sv0 0).1, (sv0 0).2), ((sv0 1).1, (sv0 1).2), ((sv0 2).1, (sv0 2).2), ((sv0 3).1, (sv0 3).2)])).toArray] (.bool t_12), .call (!(t_10 || (!t_12))) 23 [.agg ((kd_Config).cells x0 (svL [((sv0 0).1, (sv0 0).2), ((sv0 1).1, (sv0 1).2), ((sv0 2).1, (sv0 2).2), ((sv0 3).1, (sv0 3).2)])).toArray, .agg ((kd_Request).cells x1 (svL [((sv1 0).1, (sv1 0).2)])).toArray] (.int .i64 t_14), .call (!((t_10 || (!t_12)) || decide ((x1.Data.length : Int) > t_14))) 23 [.agg ((kd_Config).cells x0 (svL [((sv0 0).1, (sv0 0).2), ((sv0 1).1, (sv0 1).2), ((sv0 2).1, (sv0 2).2), ((sv0 3).1, (sv0 3).2)])).toArray, .agg ((kd_Request).cells x1 (svL [((sv1 0).1, (sv1 0).2)])).toArray] (.int .i64 t_16)] (by kernel_rfl) (by kernel_rfl) (by kernel_rfl) ⟨ob_call (enters Try.func13 (by kernel_rfl) rfl) (fun hg wz hk => G_ref06_Great.calls x0 (svL [((sv0 0).1, (sv0 0).2), ((sv0 1).1, (sv0 1).2), ((sv0 2).1, (sv0 2).2), ((sv0 3).1, (sv0 3).2)]) wz (S := fun _ => True) (Kd.any _ (Kd.keep kd_Config (contI (S := Lo S w w [] []) (w := w) (d := kd_Config) (x := x0) (sv := (svL [((sv0 0).1, (sv0 0).2), ((sv0 1).1, (sv0 1).2), ((sv0 2).1, (sv0 2).2), ((sv0 3).1, (sv0 3).2)])) ⟨⟨hx0.1.1, hx0.1.2⟩, ⟨hx0.2.1.1, hx0.2.1.2⟩, ⟨hx0.2.2.1.1, hx0.2.2.1.2⟩, ⟨hx0.2.2.2.1.1, hx0.2.2.2.1.2⟩, trivial⟩) (Lo.on hk))) _ hG_11), ob_call (enters Try.func14 (by kernel_rfl) rfl) (fun hg wz hk => G_ref07_Accepts.calls x0 (svL [((sv0 0).1, (sv0 0).2), ((sv0 1).1, (sv0 1).2), ((sv0 2).1, (sv0 2).2), ((sv0 3).1, (sv0 3).2)]) wz (S := fun _ => True) (Kd.any _ (Kd.keep kd_Config (contI (S := Lo S w w [] []) (w := w) (d := kd_Config) (x := x0) (sv := (svL [((sv0 0).1, (sv0 0).2), ((sv0 1).1, (sv0 1).2), ((sv0 2).1, (sv0 2).2), ((sv0 3).1, (sv0 3).2)])) ⟨⟨hx0.1.1, hx0.1.2⟩, ⟨hx0.2.1.1, hx0.2.1.2⟩, ⟨hx0.2.2.1.1, hx0.2.2.1.2⟩, ⟨hx0.2.2.2.1.1, hx0.2.2.2.1.2⟩, trivial⟩) (Lo.on hk))) _ (cal_some hG_13 hg)), ob_call (enters Try.func23 (by kernel_rfl) rfl) (fun hg wz hk => G_ref23_Words.calls x0 x1 (svL [((sv0 0).1, (sv0 0).2), ((sv0 1).1, (sv0 1).2), ((sv0 2).1, (sv0 2).2), ((sv0 3).1, (sv0 3).2)]) (svL [((sv1 0).1, (sv1 0).2)]) wz (S := fun _ => True) (Kd.any _ (Kd.keep kd_Config (contI (S := Lo S w w [] []) (w := w) (d := kd_Config) (x := x0) (sv := (svL [((sv0 0).1, (sv0 0).2), ((sv0 1).1, (sv0 1).2), ((sv0 2).1, (sv0 2).2), ((sv0 3).1, (sv0 3).2)])) ⟨⟨hx0.1.1, hx0.1.2⟩, ⟨hx0.2.1.1, hx0.2.1.2⟩, ⟨hx0.2.2.1.1, hx0.2.2.1.2⟩, ⟨hx0.2.2.2.1.1, hx0.2.2.2.1.2⟩, trivial⟩) (Lo.on hk))) (Kd.any _ (Kd.keep kd_Request (contI (S := Lo S w w [] []) (w := w) (d := kd_Request) (x := x1) (sv := (svL [((sv1 0).1, (sv1 0).2)])) ⟨⟨hx1.1.1, hx1.1.2⟩, trivial⟩) (Lo.on hk))) _ (cal_some hG_15 hg)), ob_call (enters Try.func23 (by kernel_rfl) rfl) (fun hg wz hk => G_ref23_Words.calls x0 x1 (svL [((sv0 0).1, (sv0 0).2), ((sv0 1).1, (sv0 1).2), ((sv0 2).1, (sv0 2).2), ((sv0 3).1, (sv0 3).2)]) (svL [((sv1 0).1, (sv1 0).2)]) wz (S := fun _ => True) (Kd.any _ (Kd.keep kd_Config (contI (S := Lo S w w [] []) (w := w) (d := kd_Config) (x := x0) (sv := (svL [((sv0 0).1, (sv0 0).2), ((sv0 1).1, (sv0 1).2), ((sv0 2).1, (sv0 2).2), ((sv0 3).1, (sv0 3).2)])) ⟨⟨hx0.1.1, hx0.1.2⟩, ⟨hx0.2.1.1, hx0.2.1.2⟩, ⟨hx0.2.2.1.1, hx0.2.2.1.2⟩, ⟨hx0.2.2.2.1.1, hx0.2.2.2.1.2⟩, trivial⟩) (Lo.on hk))) (Kd.any _ (Kd.keep kd_Request (contI (S := Lo S w w [] []) (w := w) (d := kd_Request) (x := x1) (sv := (svL [((sv1 0).1, (sv1 0).2)])) ⟨⟨hx1.1.1, hx1.1.2⟩, trivial⟩) (Lo.on hk))) _ (cal_some hG_17 hg)), trivial⟩ (fun a w_18 hI => ?_)
    refine then_normal ?_
    refine cond_ hI ((((t_10 || (!t_12)) || decide ((x1.Data.length : Int) > t_14)) || decide ((x2.Data.length : Int) > t_16))) rfl (fun hc_19 => ?_) (fun hc_19 => ?_)
    · replace H0 := bif_t hc_19 H0
      refine seq_region (live := [6, 34, 9, 5, 4, 3, 0, 1, 2]) (orc := []) hF hI ⟨[⟨6, [], .v (.bool true)⟩, ⟨34, [], .v (.bool (((t_10 || (!t_12)) || decide ((x1.Data.length : Int) > t_14)) || decide ((x2.Data.length : Int) > t_16)))⟩, ⟨9, [], .v (.bool (!t_3))⟩, ⟨5, [], .p 2 0⟩, ⟨4, [], .p 1 0⟩, ⟨3, [], .p 0 0⟩, ⟨0, [], .v (.agg ((kd_Config).cells x0 (svL [((sv0 0).1, (sv0 0).2), ((sv0 1).1, (sv0 1).2), ((sv0 2).1, (sv0 2).2), ((sv0 3).1, (sv0 3).2)])).toArray)⟩, ⟨1, [], .v (.agg ((kd_Request).cells x1 (svL [((sv1 0).1, (sv1 0).2)])).toArray)⟩, ⟨2, [], .v (.agg ((kd_Answer).cells x2 sv2).toArray)⟩], [], [], [((((kd_Config).cells x0 sv0).map EV.v), 29), ((((kd_Request).cells x1 sv1).map EV.v), 49), ((((kd_Answer).cells x2 sv2).map EV.v), 52)], none, none⟩ [] (by kernel_rfl) trivial (fun ns_20 a w_21 hI _ => ?_)
      refine wpIn_ret ?_
      refine then_ret ?_
      obtain rfl := Option.some.inj H0
      exact ret1 hI rfl rfl ⟨rfl, hE.below hI⟩
    · replace H0 := bif_f hc_19 H0
      refine wpIn_skip ?_
      refine then_normal ?_
      obtain ⟨t_22, hG_23, H0⟩ := bind_some H0
      refine seq_region (live := [7, 34, 9, 6, 5, 4, 3, 0, 1, 2]) (orc := [[.int .i64 t_22]]) hF hI ⟨[⟨7, [], .v (.int .i64 t_22)⟩, ⟨34, [], .v (.bool (((t_10 || (!t_12)) || decide ((x1.Data.length : Int) > t_14)) || decide ((x2.Data.length : Int) > t_16)))⟩, ⟨9, [], .v (.bool (!t_3))⟩, ⟨6, [], .v (.bool false)⟩, ⟨5, [], .p 2 0⟩, ⟨4, [], .p 1 0⟩, ⟨3, [], .p 0 0⟩, ⟨0, [], .v (.agg ((kd_Config).cells x0 (svL [((sv0 0).1, (sv0 0).2), ((sv0 1).1, (sv0 1).2), ((sv0 2).1, (sv0 2).2), ((sv0 3).1, (sv0 3).2)])).toArray)⟩, ⟨1, [], .v (.agg ((kd_Request).cells x1 (svL [((sv1 0).1, (sv1 0).2)])).toArray)⟩, ⟨2, [], .v (.agg ((kd_Answer).cells x2 (svL [((sv2 0).1, (sv2 0).2)])).toArray)⟩], [], [], [((((kd_Config).cells x0 sv0).map EV.v), 29), ((((kd_Request).cells x1 sv1).map EV.v), 49), ((((kd_Answer).cells x2 sv2).map EV.v), 52)], none, none⟩ [.call true 26 [.agg ((kd_Config).cells x0 (svL [((sv0 0).1, (sv0 0).2), ((sv0 1).1, (sv0 1).2), ((sv0 2).1, (sv0 2).2), ((sv0 3).1, (sv0 3).2)])).toArray, .agg ((kd_Request).cells x1 (svL [((sv1 0).1, (sv1 0).2)])).toArray, .agg ((kd_Answer).cells x2 (svL [((sv2 0).1, (sv2 0).2)])).toArray] (.int .i64 t_22)] (by kernel_rfl) ⟨ob_call (enters Try.func26 (by kernel_rfl) rfl) (fun hg wz hk => G_bound_Steps.calls x0 x1 x2 (svL [((sv0 0).1, (sv0 0).2), ((sv0 1).1, (sv0 1).2), ((sv0 2).1, (sv0 2).2), ((sv0 3).1, (sv0 3).2)]) (svL [((sv1 0).1, (sv1 0).2)]) (svL [((sv2 0).1, (sv2 0).2)]) wz (S := fun _ => True) (Kd.any _ (Kd.keep kd_Config (contI (S := Lo S w w [] []) (w := w) (d := kd_Config) (x := x0) (sv := (svL [((sv0 0).1, (sv0 0).2), ((sv0 1).1, (sv0 1).2), ((sv0 2).1, (sv0 2).2), ((sv0 3).1, (sv0 3).2)])) ⟨⟨hx0.1.1, hx0.1.2⟩, ⟨hx0.2.1.1, hx0.2.1.2⟩, ⟨hx0.2.2.1.1, hx0.2.2.1.2⟩, ⟨hx0.2.2.2.1.1, hx0.2.2.2.1.2⟩, trivial⟩) (Lo.on hk))) (Kd.any _ (Kd.keep kd_Request (contI (S := Lo S w w [] []) (w := w) (d := kd_Request) (x := x1) (sv := (svL [((sv1 0).1, (sv1 0).2)])) ⟨⟨hx1.1.1, hx1.1.2⟩, trivial⟩) (Lo.on hk))) (Kd.any _ (Kd.keep kd_Answer (contI (S := Lo S w w [] []) (w := w) (d := kd_Answer) (x := x2) (sv := (svL [((sv2 0).1, (sv2 0).2)])) ⟨⟨hx2.1.1, hx2.1.2⟩, trivial⟩) (Lo.on hk))) _ hG_23), trivial⟩ (fun ns_24 a w_25 hI _ => ?_)
      obtain ⟨t_26, hG_27, H0⟩ := bind_some H0
      obtain ⟨t_28, hG_29, H0⟩ := bind_some H0
      refine seq_region (live := [6, 7, 34, 9, 5, 4, 3, 0, 1, 2]) (orc := [[.int .i64 t_26], [.int .i64 t_28]]) hF hI ⟨[⟨6, [], .v (.bool ((decide (t_22 ≥ 1) && decide (t_22 ≤ t_26)) && decide (t_22 ≤ (IntKind.i64.wrap (t_28 + 7)))))⟩, ⟨7, [], .v (.int .i64 t_22)⟩, ⟨34, [], .v (.bool (((t_10 || (!t_12)) || decide ((x1.Data.length : Int) > t_14)) || decide ((x2.Data.length : Int) > t_16)))⟩, ⟨9, [], .v (.bool (!t_3))⟩, ⟨5, [], .p 2 0⟩, ⟨4, [], .p 1 0⟩, ⟨3, [], .p 0 0⟩, ⟨0, [], .v (.agg ((kd_Config).cells x0 (svL [((sv0 0).1, (sv0 0).2), ((sv0 1).1, (sv0 1).2), ((sv0 2).1, (sv0 2).2), ((sv0 3).1, (sv0 3).2)])).toArray)⟩, ⟨1, [], .v (.agg ((kd_Request).cells x1 (svL [((sv1 0).1, (sv1 0).2)])).toArray)⟩, ⟨2, [], .v (.agg ((kd_Answer).cells x2 (svL [((sv2 0).1, (sv2 0).2)])).toArray)⟩], [], [], [((((kd_Config).cells x0 sv0).map EV.v), 29), ((((kd_Request).cells x1 sv1).map EV.v), 49), ((((kd_Answer).cells x2 sv2).map EV.v), 52)], none, none⟩ [.call (decide (t_22 ≥ 1)) 25 [.agg ((kd_Config).cells x0 (svL [((sv0 0).1, (sv0 0).2), ((sv0 1).1, (sv0 1).2), ((sv0 2).1, (sv0 2).2), ((sv0 3).1, (sv0 3).2)])).toArray, .agg ((kd_Request).cells x1 (svL [((sv1 0).1, (sv1 0).2)])).toArray] (.int .i64 t_26), .call (decide (t_22 ≥ 1) && decide (t_22 ≤ t_26)) 23 [.agg ((kd_Config).cells x0 (svL [((sv0 0).1, (sv0 0).2), ((sv0 1).1, (sv0 1).2), ((sv0 2).1, (sv0 2).2), ((sv0 3).1, (sv0 3).2)])).toArray, .agg ((kd_Request).cells x1 (svL [((sv1 0).1, (sv1 0).2)])).toArray] (.int .i64 t_28)] (by kernel_rfl) ⟨ob_call (enters Try.func25 (by kernel_rfl) rfl) (fun hg wz hk => G_bound_Bound.calls x0 x1 (svL [((sv0 0).1, (sv0 0).2), ((sv0 1).1, (sv0 1).2), ((sv0 2).1, (sv0 2).2), ((sv0 3).1, (sv0 3).2)]) (svL [((sv1 0).1, (sv1 0).2)]) wz (S := fun _ => True) (Kd.any _ (Kd.keep kd_Config (contI (S := Lo S w w [] []) (w := w) (d := kd_Config) (x := x0) (sv := (svL [((sv0 0).1, (sv0 0).2), ((sv0 1).1, (sv0 1).2), ((sv0 2).1, (sv0 2).2), ((sv0 3).1, (sv0 3).2)])) ⟨⟨hx0.1.1, hx0.1.2⟩, ⟨hx0.2.1.1, hx0.2.1.2⟩, ⟨hx0.2.2.1.1, hx0.2.2.1.2⟩, ⟨hx0.2.2.2.1.1, hx0.2.2.2.1.2⟩, trivial⟩) (Lo.on hk))) (Kd.any _ (Kd.keep kd_Request (contI (S := Lo S w w [] []) (w := w) (d := kd_Request) (x := x1) (sv := (svL [((sv1 0).1, (sv1 0).2)])) ⟨⟨hx1.1.1, hx1.1.2⟩, trivial⟩) (Lo.on hk))) _ (cal_some hG_27 hg)), ob_call (enters Try.func23 (by kernel_rfl) rfl) (fun hg wz hk => G_ref23_Words.calls x0 x1 (svL [((sv0 0).1, (sv0 0).2), ((sv0 1).1, (sv0 1).2), ((sv0 2).1, (sv0 2).2), ((sv0 3).1, (sv0 3).2)]) (svL [((sv1 0).1, (sv1 0).2)]) wz (S := fun _ => True) (Kd.any _ (Kd.keep kd_Config (contI (S := Lo S w w [] []) (w := w) (d := kd_Config) (x := x0) (sv := (svL [((sv0 0).1, (sv0 0).2), ((sv0 1).1, (sv0 1).2), ((sv0 2).1, (sv0 2).2), ((sv0 3).1, (sv0 3).2)])) ⟨⟨hx0.1.1, hx0.1.2⟩, ⟨hx0.2.1.1, hx0.2.1.2⟩, ⟨hx0.2.2.1.1, hx0.2.2.1.2⟩, ⟨hx0.2.2.2.1.1, hx0.2.2.2.1.2⟩, trivial⟩) (Lo.on hk))) (Kd.any _ (Kd.keep kd_Request (contI (S := Lo S w w [] []) (w := w) (d := kd_Request) (x := x1) (sv := (svL [((sv1 0).1, (sv1 0).2)])) ⟨⟨hx1.1.1, hx1.1.2⟩, trivial⟩) (Lo.on hk))) _ (cal_some hG_29 hg)), trivial⟩ (fun ns_30 a w_31 hI _ => ?_)
      refine wpIn_ret ?_
      obtain rfl := Option.some.inj H0
      exact ret1 hI rfl rfl ⟨rfl, hE.below hI⟩

/-! ### porthole/bound.Kept: function 28 -/
noncomputable def G_bound_Kept.b1 (x0 : Config) (l1 : (List Call)) (s1 : Int × Bool) : Option (Stp (Int × Bool) (Ex (Int × Bool) (Bool))) := (bif decide (s1.1 < (l1.length : Int)) then (req (inb s1.1 l1.length) (bif (!((rd l1 s1.1).Done)) then some (.next ((IntKind.i64.wrap (s1.1 + 1)), s1.2)) else ((G_bound_Steps x0 ((rd l1 s1.1).Req) ((rd l1 s1.1).Ans)).bind fun t_21 => ((cal (!(decide (((rd l1 s1.1).Own1) < ((rd l1 s1.1).Own0)) || ((IntKind.u64.wrap ((IntKind.u64.wrap ((rd l1 s1.1).Own1)) - (IntKind.u64.wrap ((rd l1 s1.1).Own0)))) != (IntKind.u64.wrap (IntKind.i64.wrap (t_21 - 1)))))) (G_bound_Bound x0 ((rd l1 s1.1).Req)) default).bind fun t_25 => (bif ((decide (((rd l1 s1.1).Own1) < ((rd l1 s1.1).Own0)) || ((IntKind.u64.wrap ((IntKind.u64.wrap ((rd l1 s1.1).Own1)) - (IntKind.u64.wrap ((rd l1 s1.1).Own0)))) != (IntKind.u64.wrap (IntKind.i64.wrap (t_21 - 1))))) || decide (t_21 > t_25)) then some (.out (.ret false)) else some (.next ((IntKind.i64.wrap (s1.1 + 1)), s1.2))))))) else some (.out (.brk (s1.1, s1.2))))
noncomputable def G_bound_Kept (x0 : Config) (l1 : (List Call)) : Option (Bool) := ((loopω (G_bound_Kept.b1 x0 l1) (0, false)).bind fun o => o.on (fun s1 => some true) (fun r => some r))
set_option maxRecDepth 100000 in
set_option maxHeartbeats 4000000 in
theorem G_bound_Kept.calls (x0 : Config) (l1 : (List Call)) (sv0 : SV) (A1 : Option Addr) (c1 : Nat) (w : World) {S : Nat → Prop} (hx0 : (kd_Config).cont S w x0 sv0) (hr1 : Arr kd_Call S w A1 l1) (hc1 : l1.length ≤ c1) (r : Bool) (h : G_bound_Kept x0 l1 = some r) :
    Calls Try.prog 28 #[.agg ((kd_Config).cells x0 (svL [((sv0 0).1, (sv0 0).2), ((sv0 1).1, (sv0 1).2), ((sv0 2).1, (sv0 2).2), ((sv0 3).1, (sv0 3).2)])).toArray, .slice A1 l1.length c1] w fun e w' => e = .returned (.bool r) ∧ Below w.heap.size w w' := by
  replace hx0 := Kd.lo _ hx0
  replace hr1 := Arr.lo hr1
  unfold G_bound_Kept at h
  have H0 := h
  clear h
  refine enter Try.func28 rfl [.agg ((kd_Config).cells x0 (svL [((sv0 0).1, (sv0 0).2), ((sv0 1).1, (sv0 1).2), ((sv0 2).1, (sv0 2).2), ((sv0 3).1, (sv0 3).2)])).toArray, .slice A1 l1.length c1] (n := 50) rfl (Nat.le_of_ble_eq_true rfl) (fun a hI => ?_)
  have hF : FOpen Fence.wide := .inl rfl
  have hE := Ep.start w
  refine seq_region (live := [4, 2, 0, 1]) (orc := []) hF hI ⟨[⟨4, [], .v (.bool false)⟩, ⟨2, [], .p 0 0⟩, ⟨0, [], .v (.agg ((kd_Config).cells x0 sv0).toArray)⟩, ⟨1, [], .v (.slice A1 l1.length c1)⟩], [], [], [((((kd_Config).cells x0 sv0).map EV.v), 29)], none, none⟩ [] (by kernel_rfl) trivial (fun ns_1 a w_2 hI _ => ?_)
  refine wpIn_seq ?_
  refine seq_region (live := [10, 9, 8, 4, 2, 0, 1]) (orc := []) hF hI ⟨[⟨10, [], .v (.int .i64 0)⟩, ⟨9, [], .v (.int .i64 (l1.length : Int))⟩, ⟨8, [], .v (.slice A1 l1.length c1)⟩, ⟨4, [], .v (.bool false)⟩, ⟨2, [], .p 0 0⟩, ⟨0, [], .v (.agg ((kd_Config).cells x0 sv0).toArray)⟩, ⟨1, [], .v (.slice A1 l1.length c1)⟩], [], [], [((((kd_Config).cells x0 sv0).map EV.v), 29)], none, none⟩ [] (by kernel_rfl) trivial (fun ns_3 a w_4 hI _ => ?_)
  obtain ⟨o_34, hL_35, H0⟩ := bind_some H0
  refine block_loop (fun (s1 : Int × Bool) a w_40 => ∃ ns, St w [] 50 ⟨[⟨10, [], .v (.int .i64 s1.1)⟩, ⟨9, [], .v (.int .i64 (l1.length : Int))⟩, ⟨8, [], .v (.slice A1 l1.length c1)⟩, ⟨4, [], .v (.bool s1.2)⟩, ⟨2, [], .p 0 0⟩, ⟨0, [], .v (.agg ((kd_Config).cells x0 (svL [((sv0 0).1, (sv0 0).2), ((sv0 1).1, (sv0 1).2), ((sv0 2).1, (sv0 2).2), ((sv0 3).1, (sv0 3).2)])).toArray)⟩, ⟨1, [], .v (.slice A1 l1.length c1)⟩], [], [], [((((kd_Config).cells x0 sv0).map EV.v), 29)], none, none⟩ ns a w_40) (0, false) hL_35 ⟨_, hI.pick [10, 9, 8, 4, 2, 0, 1] 1 ⟨[⟨10, [], .v (.int .i64 0)⟩, ⟨9, [], .v (.int .i64 (l1.length : Int))⟩, ⟨8, [], .v (.slice A1 l1.length c1)⟩, ⟨4, [], .v (.bool false)⟩, ⟨2, [], .p 0 0⟩, ⟨0, [], .v (.agg ((kd_Config).cells x0 (svL [((sv0 0).1, (sv0 0).2), ((sv0 1).1, (sv0 1).2), ((sv0 2).1, (sv0 2).2), ((sv0 3).1, (sv0 3).2)])).toArray)⟩, ⟨1, [], .v (.slice A1 l1.length c1)⟩], [], [], [((((kd_Config).cells x0 sv0).map EV.v), 29)], none, none⟩ (by kernel_rfl)⟩ ?_ ?_
  · clear hI
    rintro s1 a w_5 ⟨ns_6, hI⟩ r1 H1
    unfold G_bound_Kept.b1 at H1
    refine seq_region (live := [11, 10, 9, 8, 4, 2, 0, 1]) (orc := []) hF hI ⟨[⟨11, [], .v (.bool (decide (s1.1 < (l1.length : Int))))⟩, ⟨10, [], .v (.int .i64 s1.1)⟩, ⟨9, [], .v (.int .i64 (l1.length : Int))⟩, ⟨8, [], .v (.slice A1 l1.length c1)⟩, ⟨4, [], .v (.bool s1.2)⟩, ⟨2, [], .p 0 0⟩, ⟨0, [], .v (.agg ((kd_Config).cells x0 sv0).toArray)⟩, ⟨1, [], .v (.slice A1 l1.length c1)⟩], [], [], [((((kd_Config).cells x0 sv0).map EV.v), 29)], none, none⟩ [] (by kernel_rfl) trivial (fun ns_7 a w_8 hI _ => ?_)
    refine wpIn_seq ?_
    refine cond_ hI (decide (s1.1 < (l1.length : Int))) rfl (fun hc_9 => ?_) (fun hc_9 => ?_)
    · replace H1 := bif_t hc_9 H1
      refine wpIn_skip ?_
      refine then_normal ?_
      refine wpIn_seq ?_
      refine wpIn_block ?_
      obtain ⟨hN_10, H1⟩ := req_some H1
      obtain ⟨sv_11, hE_13, hA_12⟩ := Arr.elB (d := kd_Call) hr1 s1.1 true (fun _ => hN_10)
      replace hE_13 := hE_13 rfl
      replace hA_12 := fun (_ : true = true) => hA_12 rfl
      refine seq_region (live := [6, 11, 10, 9, 8, 4, 2, 0, 1]) (orc := [(kd_Call).cells (rd l1 s1.1) sv_11]) hF hI ⟨[⟨6, [], .p 1 0⟩, ⟨11, [], .v (.bool (decide (s1.1 < (l1.length : Int))))⟩, ⟨10, [], .v (.int .i64 s1.1)⟩, ⟨9, [], .v (.int .i64 (l1.length : Int))⟩, ⟨8, [], .v (.slice A1 l1.length c1)⟩, ⟨4, [], .v (.bool s1.2)⟩, ⟨2, [], .p 0 0⟩, ⟨0, [], .v (.agg ((kd_Config).cells x0 sv0).toArray)⟩, ⟨1, [], .v (.slice A1 l1.length c1)⟩], [], [], [((((kd_Config).cells x0 sv0).map EV.v), 29), ((((kd_Call).cells (rd l1 s1.1) sv_11).map EV.v), 58)], none, none⟩ [.need true (0 ≤ s1.1 ∧ s1.1 < (l1.length : Int)), .need true (A1 = some (adr A1)), .cell true ((adr A1).add ((s1.1 : Int).toNat * 20)) ((kd_Call).cells (rd l1 s1.1) sv_11)] (by kernel_rfl) ⟨ob_inb (fun _ => hN_10), hA_12, ob_el (fun _ => hE_13) 0 ((kd_Call).cells (rd l1 s1.1) sv_11) rfl, trivial⟩ (fun ns_14 a w_15 hI _ => ?_)
      refine wpIn_seq ?_
      refine seq_region (live := [16, 6, 11, 10, 9, 8, 4, 2, 0, 1]) (orc := []) hF hI ⟨[⟨16, [], .v (.bool (!((rd l1 s1.1).Done)))⟩, ⟨6, [], .p 1 0⟩, ⟨11, [], .v (.bool (decide (s1.1 < (l1.length : Int))))⟩, ⟨10, [], .v (.int .i64 s1.1)⟩, ⟨9, [], .v (.int .i64 (l1.length : Int))⟩, ⟨8, [], .v (.slice A1 l1.length c1)⟩, ⟨4, [], .v (.bool s1.2)⟩, ⟨2, [], .p 0 0⟩, ⟨0, [], .v (.agg ((kd_Config).cells x0 sv0).toArray)⟩, ⟨1, [], .v (.slice A1 l1.length c1)⟩], [], [], [((((kd_Config).cells x0 sv0).map EV.v), 29), ((((kd_Call).cells (rd l1 s1.1) sv_11).map EV.v), 58)], none, none⟩ [] (by kernel_rfl) trivial (fun ns_16 a w_17 hI _ => ?_)
      refine cond_ hI ((!((rd l1 s1.1).Done))) rfl (fun hc_18 => ?_) (fun hc_18 => ?_)
      · replace H1 := bif_t hc_18 H1
        refine wpIn_exit ?_
        refine then_exit ?_
        refine inBlock_here ?_
        refine then_normal ?_
        refine region_ (live := [10, 16, 6, 11, 9, 8, 4, 2, 0, 1]) (orc := []) hF hI ⟨[⟨10, [], .v (.int .i64 (IntKind.i64.wrap (s1.1 + 1)))⟩, ⟨16, [], .v (.bool (!((rd l1 s1.1).Done)))⟩, ⟨6, [], .p 1 0⟩, ⟨11, [], .v (.bool (decide (s1.1 < (l1.length : Int))))⟩, ⟨9, [], .v (.int .i64 (l1.length : Int))⟩, ⟨8, [], .v (.slice A1 l1.length c1)⟩, ⟨4, [], .v (.bool s1.2)⟩, ⟨2, [], .p 0 0⟩, ⟨0, [], .v (.agg ((kd_Config).cells x0 sv0).toArray)⟩, ⟨1, [], .v (.slice A1 l1.length c1)⟩], [], [], [((((kd_Config).cells x0 sv0).map EV.v), 29), ((((kd_Call).cells (rd l1 s1.1) sv_11).map EV.v), 58)], none, none⟩ [] (by kernel_rfl) trivial (fun ns_19 a w_20 hI _ => ?_)
        refine then_normal ?_
        obtain rfl := Option.some.inj H1
        exact ⟨_, rfl, ⟨_, hI.pick [10, 9, 8, 4, 2, 0, 1] 1 ⟨[⟨10, [], .v (.int .i64 (IntKind.i64.wrap (s1.1 + 1)))⟩, ⟨9, [], .v (.int .i64 (l1.length : Int))⟩, ⟨8, [], .v (.slice A1 l1.length c1)⟩, ⟨4, [], .v (.bool s1.2)⟩, ⟨2, [], .p 0 0⟩, ⟨0, [], .v (.agg ((kd_Config).cells x0 sv0).toArray)⟩, ⟨1, [], .v (.slice A1 l1.length c1)⟩], [], [], [((((kd_Config).cells x0 sv0).map EV.v), 29)], none, none⟩ (by kernel_rfl)⟩⟩
      · replace H1 := bif_f hc_18 H1
        refine wpIn_skip ?_
        refine then_normal ?_
        obtain ⟨t_21, hG_22, H1⟩ := bind_some H1
        refine seq_region (live := [7, 16, 6, 11, 10, 9, 8, 4, 2, 0, 1]) (orc := [[.int .i64 t_21]]) hF hI ⟨[⟨7, [], .v (.int .i64 t_21)⟩, ⟨16, [], .v (.bool (!((rd l1 s1.1).Done)))⟩, ⟨6, [], .p 1 0⟩, ⟨11, [], .v (.bool (decide (s1.1 < (l1.length : Int))))⟩, ⟨10, [], .v (.int .i64 s1.1)⟩, ⟨9, [], .v (.int .i64 (l1.length : Int))⟩, ⟨8, [], .v (.slice A1 l1.length c1)⟩, ⟨4, [], .v (.bool s1.2)⟩, ⟨2, [], .p 0 0⟩, ⟨0, [], .v (.agg ((kd_Config).cells x0 (svL [((sv0 0).1, (sv0 0).2), ((sv0 1).1, (sv0 1).2), ((sv0 2).1, (sv0 2).2), ((sv0 3).1, (sv0 3).2)])).toArray)⟩, ⟨1, [], .v (.slice A1 l1.length c1)⟩], [], [], [((((kd_Config).cells x0 sv0).map EV.v), 29), ((((kd_Call).cells (rd l1 s1.1) sv_11).map EV.v), 58)], none, none⟩ [.call true 26 [.agg ((kd_Config).cells x0 (svL [((sv0 0).1, (sv0 0).2), ((sv0 1).1, (sv0 1).2), ((sv0 2).1, (sv0 2).2), ((sv0 3).1, (sv0 3).2)])).toArray, .agg ((kd_Request).cells ((rd l1 s1.1).Req) (svL [((sv_11 0).1, (sv_11 0).2)])).toArray, .agg ((kd_Answer).cells ((rd l1 s1.1).Ans) (svL [((sv_11 1).1, (sv_11 1).2)])).toArray] (.int .i64 t_21)] (by kernel_rfl) ⟨ob_call (enters Try.func26 (by kernel_rfl) rfl) (fun hg wz hk => G_bound_Steps.calls x0 ((rd l1 s1.1).Req) ((rd l1 s1.1).Ans) (svL [((sv0 0).1, (sv0 0).2), ((sv0 1).1, (sv0 1).2), ((sv0 2).1, (sv0 2).2), ((sv0 3).1, (sv0 3).2)]) (svL [((sv_11 0).1, (sv_11 0).2)]) (svL [((sv_11 1).1, (sv_11 1).2)]) wz (S := fun _ => True) (Kd.any _ (Kd.keep kd_Config (contI (S := Lo S w w [] []) (w := w) (d := kd_Config) (x := x0) (sv := (svL [((sv0 0).1, (sv0 0).2), ((sv0 1).1, (sv0 1).2), ((sv0 2).1, (sv0 2).2), ((sv0 3).1, (sv0 3).2)])) ⟨⟨hx0.1.1, hx0.1.2⟩, ⟨hx0.2.1.1, hx0.2.1.2⟩, ⟨hx0.2.2.1.1, hx0.2.2.1.2⟩, ⟨hx0.2.2.2.1.1, hx0.2.2.2.1.2⟩, trivial⟩) (Lo.on hk))) (Kd.any _ (Kd.keep kd_Request (contI (S := Lo S w w [] []) (w := w) (d := kd_Request) (x := ((rd l1 s1.1).Req)) (sv := (svL [((sv_11 0).1, (sv_11 0).2)])) ⟨⟨(hE_13).cont.1.1, (hE_13).cont.1.2⟩, trivial⟩) (Lo.on hk))) (Kd.any _ (Kd.keep kd_Answer (contI (S := Lo S w w [] []) (w := w) (d := kd_Answer) (x := ((rd l1 s1.1).Ans)) (sv := (svL [((sv_11 1).1, (sv_11 1).2)])) ⟨⟨(hE_13).cont.2.1.1, (hE_13).cont.2.1.2⟩, trivial⟩) (Lo.on hk))) _ hG_22), trivial⟩ (fun ns_23 a w_24 hI _ => ?_)
        obtain ⟨t_25, hG_26, H1⟩ := bind_some H1
        refine seq_region (live := [48, 7, 16, 6, 11, 10, 9, 8, 4, 2, 0, 1]) (orc := [[.int .i64 t_25]]) hF hI ⟨[⟨48, [], .v (.bool ((decide (((rd l1 s1.1).Own1) < ((rd l1 s1.1).Own0)) || ((IntKind.u64.wrap ((IntKind.u64.wrap ((rd l1 s1.1).Own1)) - (IntKind.u64.wrap ((rd l1 s1.1).Own0)))) != (IntKind.u64.wrap (IntKind.i64.wrap (t_21 - 1))))) || decide (t_21 > t_25)))⟩, ⟨7, [], .v (.int .i64 t_21)⟩, ⟨16, [], .v (.bool (!((rd l1 s1.1).Done)))⟩, ⟨6, [], .p 1 0⟩, ⟨11, [], .v (.bool (decide (s1.1 < (l1.length : Int))))⟩, ⟨10, [], .v (.int .i64 s1.1)⟩, ⟨9, [], .v (.int .i64 (l1.length : Int))⟩, ⟨8, [], .v (.slice A1 l1.length c1)⟩, ⟨4, [], .v (.bool s1.2)⟩, ⟨2, [], .p 0 0⟩, ⟨0, [], .v (.agg ((kd_Config).cells x0 (svL [((sv0 0).1, (sv0 0).2), ((sv0 1).1, (sv0 1).2), ((sv0 2).1, (sv0 2).2), ((sv0 3).1, (sv0 3).2)])).toArray)⟩, ⟨1, [], .v (.slice A1 l1.length c1)⟩], [], [], [((((kd_Config).cells x0 sv0).map EV.v), 29), ((((kd_Call).cells (rd l1 s1.1) sv_11).map EV.v), 58)], none, none⟩ [.call (!(decide (((rd l1 s1.1).Own1) < ((rd l1 s1.1).Own0)) || ((IntKind.u64.wrap ((IntKind.u64.wrap ((rd l1 s1.1).Own1)) - (IntKind.u64.wrap ((rd l1 s1.1).Own0)))) != (IntKind.u64.wrap (IntKind.i64.wrap (t_21 - 1)))))) 25 [.agg ((kd_Config).cells x0 (svL [((sv0 0).1, (sv0 0).2), ((sv0 1).1, (sv0 1).2), ((sv0 2).1, (sv0 2).2), ((sv0 3).1, (sv0 3).2)])).toArray, .agg ((kd_Request).cells ((rd l1 s1.1).Req) (svL [((sv_11 0).1, (sv_11 0).2)])).toArray] (.int .i64 t_25)] (by kernel_rfl) ⟨ob_call (enters Try.func25 (by kernel_rfl) rfl) (fun hg wz hk => G_bound_Bound.calls x0 ((rd l1 s1.1).Req) (svL [((sv0 0).1, (sv0 0).2), ((sv0 1).1, (sv0 1).2), ((sv0 2).1, (sv0 2).2), ((sv0 3).1, (sv0 3).2)]) (svL [((sv_11 0).1, (sv_11 0).2)]) wz (S := fun _ => True) (Kd.any _ (Kd.keep kd_Config (contI (S := Lo S w w [] []) (w := w) (d := kd_Config) (x := x0) (sv := (svL [((sv0 0).1, (sv0 0).2), ((sv0 1).1, (sv0 1).2), ((sv0 2).1, (sv0 2).2), ((sv0 3).1, (sv0 3).2)])) ⟨⟨hx0.1.1, hx0.1.2⟩, ⟨hx0.2.1.1, hx0.2.1.2⟩, ⟨hx0.2.2.1.1, hx0.2.2.1.2⟩, ⟨hx0.2.2.2.1.1, hx0.2.2.2.1.2⟩, trivial⟩) (Lo.on hk))) (Kd.any _ (Kd.keep kd_Request (contI (S := Lo S w w [] []) (w := w) (d := kd_Request) (x := ((rd l1 s1.1).Req)) (sv := (svL [((sv_11 0).1, (sv_11 0).2)])) ⟨⟨(hE_13).cont.1.1, (hE_13).cont.1.2⟩, trivial⟩) (Lo.on hk))) _ (cal_some hG_26 hg)), trivial⟩ (fun ns_27 a w_28 hI _ => ?_)
        refine cond_ hI (((decide (((rd l1 s1.1).Own1) < ((rd l1 s1.1).Own0)) || ((IntKind.u64.wrap ((IntKind.u64.wrap ((rd l1 s1.1).Own1)) - (IntKind.u64.wrap ((rd l1 s1.1).Own0)))) != (IntKind.u64.wrap (IntKind.i64.wrap (t_21 - 1))))) || decide (t_21 > t_25))) rfl (fun hc_29 => ?_) (fun hc_29 => ?_)
        · replace H1 := bif_t hc_29 H1
          refine seq_region (live := [4, 48, 7, 16, 6, 11, 10, 9, 8, 2, 0, 1]) (orc := []) hF hI ⟨[⟨4, [], .v (.bool false)⟩, ⟨48, [], .v (.bool ((decide (((rd l1 s1.1).Own1) < ((rd l1 s1.1).Own0)) || ((IntKind.u64.wrap ((IntKind.u64.wrap ((rd l1 s1.1).Own1)) - (IntKind.u64.wrap ((rd l1 s1.1).Own0)))) != (IntKind.u64.wrap (IntKind.i64.wrap (t_21 - 1))))) || decide (t_21 > t_25)))⟩, ⟨7, [], .v (.int .i64 t_21)⟩, ⟨16, [], .v (.bool (!((rd l1 s1.1).Done)))⟩, ⟨6, [], .p 1 0⟩, ⟨11, [], .v (.bool (decide (s1.1 < (l1.length : Int))))⟩, ⟨10, [], .v (.int .i64 s1.1)⟩, ⟨9, [], .v (.int .i64 (l1.length : Int))⟩, ⟨8, [], .v (.slice A1 l1.length c1)⟩, ⟨2, [], .p 0 0⟩, ⟨0, [], .v (.agg ((kd_Config).cells x0 (svL [((sv0 0).1, (sv0 0).2), ((sv0 1).1, (sv0 1).2), ((sv0 2).1, (sv0 2).2), ((sv0 3).1, (sv0 3).2)])).toArray)⟩, ⟨1, [], .v (.slice A1 l1.length c1)⟩], [], [], [((((kd_Config).cells x0 sv0).map EV.v), 29), ((((kd_Call).cells (rd l1 s1.1) sv_11).map EV.v), 58)], none, none⟩ [] (by kernel_rfl) trivial (fun ns_30 a w_31 hI _ => ?_)
          refine wpIn_ret ?_
          refine inBlock_ret ?_
          refine then_ret ?_
          refine then_ret ?_
          obtain rfl := Option.some.inj H1
          refine .inr ⟨_, rfl, fun ho => ?_⟩
          subst ho
          refine inBlock_ret ?_
          refine then_ret ?_
          obtain rfl := Option.some.inj H0
          exact ret1 hI rfl rfl ⟨rfl, hE.below hI⟩
        · replace H1 := bif_f hc_29 H1
          refine wpIn_skip ?_
          refine inBlock_normal ?_
          refine then_normal ?_
          refine region_ (live := [10, 48, 7, 16, 6, 11, 9, 8, 4, 2, 0, 1]) (orc := []) hF hI ⟨[⟨10, [], .v (.int .i64 (IntKind.i64.wrap (s1.1 + 1)))⟩, ⟨48, [], .v (.bool ((decide (((rd l1 s1.1).Own1) < ((rd l1 s1.1).Own0)) || ((IntKind.u64.wrap ((IntKind.u64.wrap ((rd l1 s1.1).Own1)) - (IntKind.u64.wrap ((rd l1 s1.1).Own0)))) != (IntKind.u64.wrap (IntKind.i64.wrap (t_21 - 1))))) || decide (t_21 > t_25)))⟩, ⟨7, [], .v (.int .i64 t_21)⟩, ⟨16, [], .v (.bool (!((rd l1 s1.1).Done)))⟩, ⟨6, [], .p 1 0⟩, ⟨11, [], .v (.bool (decide (s1.1 < (l1.length : Int))))⟩, ⟨9, [], .v (.int .i64 (l1.length : Int))⟩, ⟨8, [], .v (.slice A1 l1.length c1)⟩, ⟨4, [], .v (.bool s1.2)⟩, ⟨2, [], .p 0 0⟩, ⟨0, [], .v (.agg ((kd_Config).cells x0 (svL [((sv0 0).1, (sv0 0).2), ((sv0 1).1, (sv0 1).2), ((sv0 2).1, (sv0 2).2), ((sv0 3).1, (sv0 3).2)])).toArray)⟩, ⟨1, [], .v (.slice A1 l1.length c1)⟩], [], [], [((((kd_Config).cells x0 sv0).map EV.v), 29), ((((kd_Call).cells (rd l1 s1.1) sv_11).map EV.v), 58)], none, none⟩ [] (by kernel_rfl) trivial (fun ns_32 a w_33 hI _ => ?_)
          refine then_normal ?_
          obtain rfl := Option.some.inj H1
          exact ⟨_, rfl, ⟨_, hI.pick [10, 9, 8, 4, 2, 0, 1] 1 ⟨[⟨10, [], .v (.int .i64 (IntKind.i64.wrap (s1.1 + 1)))⟩, ⟨9, [], .v (.int .i64 (l1.length : Int))⟩, ⟨8, [], .v (.slice A1 l1.length c1)⟩, ⟨4, [], .v (.bool s1.2)⟩, ⟨2, [], .p 0 0⟩, ⟨0, [], .v (.agg ((kd_Config).cells x0 (svL [((sv0 0).1, (sv0 0).2), ((sv0 1).1, (sv0 1).2), ((sv0 2).1, (sv0 2).2), ((sv0 3).1, (sv0 3).2)])).toArray)⟩, ⟨1, [], .v (.slice A1 l1.length c1)⟩], [], [], [((((kd_Config).cells x0 sv0).map EV.v), 29)], none, none⟩ (by kernel_rfl)⟩⟩
    · replace H1 := bif_f hc_9 H1
      refine wpIn_exit ?_
      refine then_exit ?_
      refine then_exit ?_
      obtain rfl := Option.some.inj H1
      exact .inl ⟨_, rfl, rfl, ⟨_, hI.pick [10, 9, 8, 4, 2, 0, 1] 1 ⟨[⟨10, [], .v (.int .i64 s1.1)⟩, ⟨9, [], .v (.int .i64 (l1.length : Int))⟩, ⟨8, [], .v (.slice A1 l1.length c1)⟩, ⟨4, [], .v (.bool s1.2)⟩, ⟨2, [], .p 0 0⟩, ⟨0, [], .v (.agg ((kd_Config).cells x0 (svL [((sv0 0).1, (sv0 0).2), ((sv0 1).1, (sv0 1).2), ((sv0 2).1, (sv0 2).2), ((sv0 3).1, (sv0 3).2)])).toArray)⟩, ⟨1, [], .v (.slice A1 l1.length c1)⟩], [], [], [((((kd_Config).cells x0 sv0).map EV.v), 29)], none, none⟩ (by kernel_rfl)⟩⟩
  · clear hI
    rintro s1 a w_36 ho ⟨ns_37, hI⟩
    subst ho
    replace H0 : (some true : Option (Bool)) = _ := H0
    refine then_normal ?_
    refine seq_region (live := [4, 10, 9, 8, 2, 0, 1]) (orc := []) hF hI ⟨[⟨4, [], .v (.bool true)⟩, ⟨10, [], .v (.int .i64 s1.1)⟩, ⟨9, [], .v (.int .i64 (l1.length : Int))⟩, ⟨8, [], .v (.slice A1 l1.length c1)⟩, ⟨2, [], .p 0 0⟩, ⟨0, [], .v (.agg ((kd_Config).cells x0 (svL [((sv0 0).1, (sv0 0).2), ((sv0 1).1, (sv0 1).2), ((sv0 2).1, (sv0 2).2), ((sv0 3).1, (sv0 3).2)])).toArray)⟩, ⟨1, [], .v (.slice A1 l1.length c1)⟩], [], [], [((((kd_Config).cells x0 sv0).map EV.v), 29)], none, none⟩ [] (by kernel_rfl) trivial (fun ns_38 a w_39 hI _ => ?_)
    refine wpIn_ret ?_
    obtain rfl := Option.some.inj H0
    exact ret1 hI rfl rfl ⟨rfl, hE.below hI⟩

/-! ### porthole/portholeref23.Kept: function 29 -/
noncomputable def G_ref23_Kept.b1 (x0 : Config) (l1 : (List Call)) (s1 : Int × Bool) : Option (Stp (Int × Bool) (Ex (Int × Bool) (Bool))) := (bif decide (s1.1 < (l1.length : Int)) then (req (inb s1.1 l1.length) (bif (!((rd l1 s1.1).Done)) then some (.next ((IntKind.i64.wrap (s1.1 + 1)), s1.2)) else ((G_ref23_Steps x0 ((rd l1 s1.1).Req) ((rd l1 s1.1).Ans)).bind fun t_21 => ((G_ref23_Words x0 ((rd l1 s1.1).Req)).bind fun t_25 => (bif (decide (t_21 > (IntKind.i64.wrap (16 + (IntKind.i64.wrap (2 * t_25))))) || decide (((rd l1 s1.1).Own1) < ((rd l1 s1.1).Own0))) then some (.out (.ret false)) else (bif (decide ((IntKind.i64.wrap (((rd l1 s1.1).Own1) - ((rd l1 s1.1).Own0))) < 0) || ((IntKind.i64.wrap (((rd l1 s1.1).Own1) - ((rd l1 s1.1).Own0))) != (IntKind.i64.wrap (t_21 - 1)))) then some (.out (.ret false)) else some (.next ((IntKind.i64.wrap (s1.1 + 1)), s1.2)))))))) else some (.out (.brk (s1.1, s1.2))))
noncomputable def G_ref23_Kept (x0 : Config) (l1 : (List Call)) : Option (Bool) := ((loopω (G_ref23_Kept.b1 x0 l1) (0, false)).bind fun o => o.on (fun s1 => some true) (fun r => some r))
set_option maxRecDepth 100000 in
set_option maxHeartbeats 4000000 in
theorem G_ref23_Kept.calls (x0 : Config) (l1 : (List Call)) (sv0 : SV) (A1 : Option Addr) (c1 : Nat) (w : World) {S : Nat → Prop} (hx0 : (kd_Config).cont S w x0 sv0) (hr1 : Arr kd_Call S w A1 l1) (hc1 : l1.length ≤ c1) (r : Bool) (h : G_ref23_Kept x0 l1 = some r) :
    Calls Try.prog 29 #[.agg ((kd_Config).cells x0 (svL [((sv0 0).1, (sv0 0).2), ((sv0 1).1, (sv0 1).2), ((sv0 2).1, (sv0 2).2), ((sv0 3).1, (sv0 3).2)])).toArray, .slice A1 l1.length c1] w fun e w' => e = .returned (.bool r) ∧ Below w.heap.size w w' := by
  replace hx0 := Kd.lo _ hx0
  replace hr1 := Arr.lo hr1
  unfold G_ref23_Kept at h
  have H0 := h
  clear h
  refine enter Try.func29 rfl [.agg ((kd_Config).cells x0 (svL [((sv0 0).1, (sv0 0).2), ((sv0 1).1, (sv0 1).2), ((sv0 2).1, (sv0 2).2), ((sv0 3).1, (sv0 3).2)])).toArray, .slice A1 l1.length c1] (n := 56) rfl (Nat.le_of_ble_eq_true rfl) (fun a hI => ?_)
  have hF : FOpen Fence.wide := .inl rfl
  have hE := Ep.start w
  refine seq_region (live := [4, 2, 0, 1]) (orc := []) hF hI ⟨[⟨4, [], .v (.bool false)⟩, ⟨2, [], .p 0 0⟩, ⟨0, [], .v (.agg ((kd_Config).cells x0 sv0).toArray)⟩, ⟨1, [], .v (.slice A1 l1.length c1)⟩], [], [], [((((kd_Config).cells x0 sv0).map EV.v), 29)], none, none⟩ [] (by kernel_rfl) trivial (fun ns_1 a w_2 hI _ => ?_)
  refine wpIn_seq ?_
  refine seq_region (live := [5, 4, 2, 0, 1]) (orc := []) hF hI ⟨[⟨5, [], .v (.int .i64 0)⟩, ⟨4, [], .v (.bool false)⟩, ⟨2, [], .p 0 0⟩, ⟨0, [], .v (.agg ((kd_Config).cells x0 sv0).toArray)⟩, ⟨1, [], .v (.slice A1 l1.length c1)⟩], [], [], [((((kd_Config).cells x0 sv0).map EV.v), 29)], none, none⟩ [] (by kernel_rfl) trivial (fun ns_3 a w_4 hI _ => ?_)
  obtain ⟨o_41, hL_42, H0⟩ := bind_some H0
  refine block_loop (fun (s1 : Int × Bool) a w_47 => ∃ ns, St w [] 56 ⟨[⟨5, [], .v (.int .i64 s1.1)⟩, ⟨4, [], .v (.bool s1.2)⟩, ⟨2, [], .p 0 0⟩, ⟨0, [], .v (.agg ((kd_Config).cells x0 (svL [((sv0 0).1, (sv0 0).2), ((sv0 1).1, (sv0 1).2), ((sv0 2).1, (sv0 2).2), ((sv0 3).1, (sv0 3).2)])).toArray)⟩, ⟨1, [], .v (.slice A1 l1.length c1)⟩], [], [], [((((kd_Config).cells x0 sv0).map EV.v), 29)], none, none⟩ ns a w_47) (0, false) hL_42 ⟨_, hI.pick [5, 4, 2, 0, 1] 1 ⟨[⟨5, [], .v (.int .i64 0)⟩, ⟨4, [], .v (.bool false)⟩, ⟨2, [], .p 0 0⟩, ⟨0, [], .v (.agg ((kd_Config).cells x0 (svL [((sv0 0).1, (sv0 0).2), ((sv0 1).1, (sv0 1).2), ((sv0 2).1, (sv0 2).2), ((sv0 3).1, (sv0 3).2)])).toArray)⟩, ⟨1, [], .v (.slice A1 l1.length c1)⟩], [], [], [((((kd_Config).cells x0 sv0).map EV.v), 29)], none, none⟩ (by kernel_rfl)⟩ ?_ ?_
  · clear hI
    rintro s1 a w_5 ⟨ns_6, hI⟩ r1 H1
    unfold G_ref23_Kept.b1 at H1
    refine wpIn_seq ?_
    refine seq_region (live := [12, 5, 4, 2, 0, 1]) (orc := []) hF hI ⟨[⟨12, [], .v (.bool (decide (s1.1 < (l1.length : Int))))⟩, ⟨5, [], .v (.int .i64 s1.1)⟩, ⟨4, [], .v (.bool s1.2)⟩, ⟨2, [], .p 0 0⟩, ⟨0, [], .v (.agg ((kd_Config).cells x0 sv0).toArray)⟩, ⟨1, [], .v (.slice A1 l1.length c1)⟩], [], [], [((((kd_Config).cells x0 sv0).map EV.v), 29)], none, none⟩ [] (by kernel_rfl) trivial (fun ns_7 a w_8 hI _ => ?_)
    refine cond_ hI (decide (s1.1 < (l1.length : Int))) rfl (fun hc_9 => ?_) (fun hc_9 => ?_)
    · replace H1 := bif_t hc_9 H1
      refine wpIn_skip ?_
      refine then_normal ?_
      refine wpIn_seq ?_
      refine wpIn_block ?_
      obtain ⟨hN_10, H1⟩ := req_some H1
      obtain ⟨sv_11, hE_13, hA_12⟩ := Arr.elB (d := kd_Call) hr1 s1.1 true (fun _ => hN_10)
      replace hE_13 := hE_13 rfl
      replace hA_12 := fun (_ : true = true) => hA_12 rfl
      refine seq_region (live := [6, 12, 5, 4, 2, 0, 1]) (orc := [(kd_Call).cells (rd l1 s1.1) sv_11]) hF hI ⟨[⟨6, [], .p 1 0⟩, ⟨12, [], .v (.bool (decide (s1.1 < (l1.length : Int))))⟩, ⟨5, [], .v (.int .i64 s1.1)⟩, ⟨4, [], .v (.bool s1.2)⟩, ⟨2, [], .p 0 0⟩, ⟨0, [], .v (.agg ((kd_Config).cells x0 sv0).toArray)⟩, ⟨1, [], .v (.slice A1 l1.length c1)⟩], [], [], [((((kd_Config).cells x0 sv0).map EV.v), 29), ((((kd_Call).cells (rd l1 s1.1) sv_11).map EV.v), 58)], none, none⟩ [.need true (0 ≤ s1.1 ∧ s1.1 < (l1.length : Int)), .need true (A1 = some (adr A1)), .cell true ((adr A1).add ((s1.1 : Int).toNat * 20)) ((kd_Call).cells (rd l1 s1.1) sv_11)] (by kernel_rfl) ⟨ob_inb (fun _ => hN_10), hA_12, ob_el (fun _ => hE_13) 0 ((kd_Call).cells (rd l1 s1.1) sv_11) rfl, trivial⟩ (fun ns_14 a w_15 hI _ => ?_)
      refine wpIn_seq ?_
      refine seq_region (live := [21, 6, 12, 5, 4, 2, 0, 1]) (orc := []) hF hI ⟨[⟨21, [], .v (.bool (!((rd l1 s1.1).Done)))⟩, ⟨6, [], .p 1 0⟩, ⟨12, [], .v (.bool (decide (s1.1 < (l1.length : Int))))⟩, ⟨5, [], .v (.int .i64 s1.1)⟩, ⟨4, [], .v (.bool s1.2)⟩, ⟨2, [], .p 0 0⟩, ⟨0, [], .v (.agg ((kd_Config).cells x0 sv0).toArray)⟩, ⟨1, [], .v (.slice A1 l1.length c1)⟩], [], [], [((((kd_Config).cells x0 sv0).map EV.v), 29), ((((kd_Call).cells (rd l1 s1.1) sv_11).map EV.v), 58)], none, none⟩ [] (by kernel_rfl) trivial (fun ns_16 a w_17 hI _ => ?_)
      refine cond_ hI ((!((rd l1 s1.1).Done))) rfl (fun hc_18 => ?_) (fun hc_18 => ?_)
      · replace H1 := bif_t hc_18 H1
        refine wpIn_exit ?_
        refine then_exit ?_
        refine inBlock_here ?_
        refine then_normal ?_
        refine region_ (live := [5, 21, 6, 12, 4, 2, 0, 1]) (orc := []) hF hI ⟨[⟨5, [], .v (.int .i64 (IntKind.i64.wrap (s1.1 + 1)))⟩, ⟨21, [], .v (.bool (!((rd l1 s1.1).Done)))⟩, ⟨6, [], .p 1 0⟩, ⟨12, [], .v (.bool (decide (s1.1 < (l1.length : Int))))⟩, ⟨4, [], .v (.bool s1.2)⟩, ⟨2, [], .p 0 0⟩, ⟨0, [], .v (.agg ((kd_Config).cells x0 sv0).toArray)⟩, ⟨1, [], .v (.slice A1 l1.length c1)⟩], [], [], [((((kd_Config).cells x0 sv0).map EV.v), 29), ((((kd_Call).cells (rd l1 s1.1) sv_11).map EV.v), 58)], none, none⟩ [] (by kernel_rfl) trivial (fun ns_19 a w_20 hI _ => ?_)
        refine then_normal ?_
        obtain rfl := Option.some.inj H1
        exact ⟨_, rfl, ⟨_, hI.pick [5, 4, 2, 0, 1] 1 ⟨[⟨5, [], .v (.int .i64 (IntKind.i64.wrap (s1.1 + 1)))⟩, ⟨4, [], .v (.bool s1.2)⟩, ⟨2, [], .p 0 0⟩, ⟨0, [], .v (.agg ((kd_Config).cells x0 sv0).toArray)⟩, ⟨1, [], .v (.slice A1 l1.length c1)⟩], [], [], [((((kd_Config).cells x0 sv0).map EV.v), 29)], none, none⟩ (by kernel_rfl)⟩⟩
      · replace H1 := bif_f hc_18 H1
        refine wpIn_skip ?_
        refine then_normal ?_
        obtain ⟨t_21, hG_22, H1⟩ := bind_some H1
        refine seq_region (live := [7, 21, 6, 12, 5, 4, 2, 0, 1]) (orc := [[.int .i64 t_21]]) hF hI ⟨[⟨7, [], .v (.int .i64 t_21)⟩, ⟨21, [], .v (.bool (!((rd l1 s1.1).Done)))⟩, ⟨6, [], .p 1 0⟩, ⟨12, [], .v (.bool (decide (s1.1 < (l1.length : Int))))⟩, ⟨5, [], .v (.int .i64 s1.1)⟩, ⟨4, [], .v (.bool s1.2)⟩, ⟨2, [], .p 0 0⟩, ⟨0, [], .v (.agg ((kd_Config).cells x0 (svL [((sv0 0).1, (sv0 0).2), ((sv0 1).1, (sv0 1).2), ((sv0 2).1, (sv0 2).2), ((sv0 3).1, (sv0 3).2)])).toArray)⟩, ⟨1, [], .v (.slice A1 l1.length c1)⟩], [], [], [((((kd_Config).cells x0 sv0).map EV.v), 29), ((((kd_Call).cells (rd l1 s1.1) sv_11).map EV.v), 58)], none, none⟩ [.call true 27 [.agg ((kd_Config).cells x0 (svL [((sv0 0).1, (sv0 0).2), ((sv0 1).1, (sv0 1).2), ((sv0 2).1, (sv0 2).2), ((sv0 3).1, (sv0 3).2)])).toArray, .agg ((kd_Request).cells ((rd l1 s1.1).Req) (svL [((sv_11 0).1, (sv_11 0).2)])).toArray, .agg ((kd_Answer).cells ((rd l1 s1.1).Ans) (svL [((sv_11 1).1, (sv_11 1).2)])).toArray] (.int .i64 t_21)] (by kernel_rfl) ⟨ob_call (enters Try.func27 (by kernel_rfl) rfl) (fun hg wz hk => G_ref23_Steps.calls x0 ((rd l1 s1.1).Req) ((rd l1 s1.1).Ans) (svL [((sv0 0).1, (sv0 0).2), ((sv0 1).1, (sv0 1).2), ((sv0 2).1, (sv0 2).2), ((sv0 3).1, (sv0 3).2)]) (svL [((sv_11 0).1, (sv_11 0).2)]) (svL [((sv_11 1).1, (sv_11 1).2)]) wz (S := fun _ => True) (Kd.any _ (Kd.keep kd_Config (contI (S := Lo S w w [] []) (w := w) (d := kd_Config) (x := x0) (sv := (svL [((sv0 0).1, (sv0 0).2), ((sv0 1).1, (sv0 1).2), ((sv0 2).1, (sv0 2).2), ((sv0 3).1, (sv0 3).2)])) ⟨⟨hx0.1.1, hx0.1.2⟩, ⟨hx0.2.1.1, hx0.2.1.2⟩, ⟨hx0.2.2.1.1, hx0.2.2.1.2⟩, ⟨hx0.2.2.2.1.1, hx0.2.2.2.1.2⟩, trivial⟩) (Lo.on hk))) (Kd.any _ (Kd.keep kd_Request (contI (S := Lo S w w [] []) (w := w) (d := kd_Request) (x := ((rd l1 s1.1).Req)) (sv := (svL [((sv_11 0).1, (sv_11 0).2)])) ⟨⟨(hE_13).cont.1.1, (hE_13).cont.1.2⟩, trivial⟩) (Lo.on hk))) (Kd.any _ (Kd.keep kd_Answer (contI (S := Lo S w w [] []) (w := w) (d := kd_Answer) (x := ((rd l1 s1.1).Ans)) (sv := (svL [((sv_11 1).1, (sv_11 1).2)])) ⟨⟨(hE_13).cont.2.1.1, (hE_13).cont.2.1.2⟩, trivial⟩) (Lo.on hk))) _ hG_22), trivial⟩ (fun ns_23 a w_24 hI _ => ?_)
        refine wpIn_seq ?_
        obtain ⟨t_25, hG_26, H1⟩ := bind_some H1
        refine seq_region (live := [42, 7, 21, 6, 12, 5, 4, 2, 0, 1]) (orc := [[.int .i64 t_25]]) hF hI ⟨[⟨42, [], .v (.bool (decide (t_21 > (IntKind.i64.wrap (16 + (IntKind.i64.wrap (2 * t_25))))) || decide (((rd l1 s1.1).Own1) < ((rd l1 s1.1).Own0))))⟩, ⟨7, [], .v (.int .i64 t_21)⟩, ⟨21, [], .v (.bool (!((rd l1 s1.1).Done)))⟩, ⟨6, [], .p 1 0⟩, ⟨12, [], .v (.bool (decide (s1.1 < (l1.length : Int))))⟩, ⟨5, [], .v (.int .i64 s1.1)⟩, ⟨4, [], .v (.bool s1.2)⟩, ⟨2, [], .p 0 0⟩, ⟨0, [], .v (.agg ((kd_Config).cells x0 (svL [((sv0 0).1, (sv0 0).2), ((sv0 1).1, (sv0 1).2), ((sv0 2).1, (sv0 2).2), ((sv0 3).1, (sv0 3).2)])).toArray)⟩, ⟨1, [], .v (.slice A1 l1.length c1)⟩], [], [], [((((kd_Config).cells x0 sv0).map EV.v), 29), ((((kd_Call).cells (rd l1 s1.1) sv_11).map EV.v), 58)], none, none⟩ [.call true 23 [.agg ((kd_Config).cells x0 (svL [((sv0 0).1, (sv0 0).2), ((sv0 1).1, (sv0 1).2), ((sv0 2).1, (sv0 2).2), ((sv0 3).1, (sv0 3).2)])).toArray, .agg ((kd_Request).cells ((rd l1 s1.1).Req) (svL [((sv_11 0).1, (sv_11 0).2)])).toArray] (.int .i64 t_25)] (by kernel_rfl) ⟨ob_call (enters Try.func23 (by kernel_rfl) rfl) (fun hg wz hk => G_ref23_Words.calls x0 ((rd l1 s1.1).Req) (svL [((sv0 0).1, (sv0 0).2), ((sv0 1).1, (sv0 1).2), ((sv0 2).1, (sv0 2).2), ((sv0 3).1, (sv0 3).2)]) (svL [((sv_11 0).1, (sv_11 0).2)]) wz (S := fun _ => True) (Kd.any _ (Kd.keep kd_Config (contI (S := Lo S w w [] []) (w := w) (d := kd_Config) (x := x0) (sv := (svL [((sv0 0).1, (sv0 0).2), ((sv0 1).1, (sv0 1).2), ((sv0 2).1, (sv0 2).2), ((sv0 3).1, (sv0 3).2)])) ⟨⟨hx0.1.1, hx0.1.2⟩, ⟨hx0.2.1.1, hx0.2.1.2⟩, ⟨hx0.2.2.1.1, hx0.2.2.1.2⟩, ⟨hx0.2.2.2.1.1, hx0.2.2.2.1.2⟩, trivial⟩) (Lo.on hk))) (Kd.any _ (Kd.keep kd_Request (contI (S := Lo S w w [] []) (w := w) (d := kd_Request) (x := ((rd l1 s1.1).Req)) (sv := (svL [((sv_11 0).1, (sv_11 0).2)])) ⟨⟨(hE_13).cont.1.1, (hE_13).cont.1.2⟩, trivial⟩) (Lo.on hk))) _ hG_26), trivial⟩ (fun ns_27 a w_28 hI _ => ?_)
        refine cond_ hI ((decide (t_21 > (IntKind.i64.wrap (16 + (IntKind.i64.wrap (2 * t_25))))) || decide (((rd l1 s1.1).Own1) < ((rd l1 s1.1).Own0)))) rfl (fun hc_29 => ?_) (fun hc_29 => ?_)
        · replace H1 := bif_t hc_29 H1
          refine seq_region (live := [4, 42, 7, 21, 6, 12, 5, 2, 0, 1]) (orc := []) hF hI ⟨[⟨4, [], .v (.bool false)⟩, ⟨42, [], .v (.bool (decide (t_21 > (IntKind.i64.wrap (16 + (IntKind.i64.wrap (2 * t_25))))) || decide (((rd l1 s1.1).Own1) < ((rd l1 s1.1).Own0))))⟩, ⟨7, [], .v (.int .i64 t_21)⟩, ⟨21, [], .v (.bool (!((rd l1 s1.1).Done)))⟩, ⟨6, [], .p 1 0⟩, ⟨12, [], .v (.bool (decide (s1.1 < (l1.length : Int))))⟩, ⟨5, [], .v (.int .i64 s1.1)⟩, ⟨2, [], .p 0 0⟩, ⟨0, [], .v (.agg ((kd_Config).cells x0 (svL [((sv0 0).1, (sv0 0).2), ((sv0 1).1, (sv0 1).2), ((sv0 2).1, (sv0 2).2), ((sv0 3).1, (sv0 3).2)])).toArray)⟩, ⟨1, [], .v (.slice A1 l1.length c1)⟩], [], [], [((((kd_Config).cells x0 sv0).map EV.v), 29), ((((kd_Call).cells (rd l1 s1.1) sv_11).map EV.v), 58)], none, none⟩ [] (by kernel_rfl) trivial (fun ns_30 a w_31 hI _ => ?_)
          refine wpIn_ret ?_
          refine then_ret ?_
          refine inBlock_ret ?_
          refine then_ret ?_
          refine then_ret ?_
          obtain rfl := Option.some.inj H1
          refine .inr ⟨_, rfl, fun ho => ?_⟩
          subst ho
          refine inBlock_ret ?_
          refine then_ret ?_
          obtain rfl := Option.some.inj H0
          exact ret1 hI rfl rfl ⟨rfl, hE.below hI⟩
        · replace H1 := bif_f hc_29 H1
          refine wpIn_skip ?_
          refine then_normal ?_
          refine seq_region (live := [8, 42, 7, 21, 6, 12, 5, 4, 2, 0, 1]) (orc := []) hF hI ⟨[⟨8, [], .v (.int .i64 (IntKind.i64.wrap (((rd l1 s1.1).Own1) - ((rd l1 s1.1).Own0))))⟩, ⟨42, [], .v (.bool (decide (t_21 > (IntKind.i64.wrap (16 + (IntKind.i64.wrap (2 * t_25))))) || decide (((rd l1 s1.1).Own1) < ((rd l1 s1.1).Own0))))⟩, ⟨7, [], .v (.int .i64 t_21)⟩, ⟨21, [], .v (.bool (!((rd l1 s1.1).Done)))⟩, ⟨6, [], .p 1 0⟩, ⟨12, [], .v (.bool (decide (s1.1 < (l1.length : Int))))⟩, ⟨5, [], .v (.int .i64 s1.1)⟩, ⟨4, [], .v (.bool s1.2)⟩, ⟨2, [], .p 0 0⟩, ⟨0, [], .v (.agg ((kd_Config).cells x0 (svL [((sv0 0).1, (sv0 0).2), ((sv0 1).1, (sv0 1).2), ((sv0 2).1, (sv0 2).2), ((sv0 3).1, (sv0 3).2)])).toArray)⟩, ⟨1, [], .v (.slice A1 l1.length c1)⟩], [], [], [((((kd_Config).cells x0 sv0).map EV.v), 29), ((((kd_Call).cells (rd l1 s1.1) sv_11).map EV.v), 58)], none, none⟩ [] (by kernel_rfl) trivial (fun ns_32 a w_33 hI _ => ?_)
          refine seq_region (live := [55, 8, 42, 7, 21, 6, 12, 5, 4, 2, 0, 1]) (orc := []) hF hI ⟨[⟨55, [], .v (.bool (decide ((IntKind.i64.wrap (((rd l1 s1.1).Own1) - ((rd l1 s1.1).Own0))) < 0) || ((IntKind.i64.wrap (((rd l1 s1.1).Own1) - ((rd l1 s1.1).Own0))) != (IntKind.i64.wrap (t_21 - 1)))))⟩, ⟨8, [], .v (.int .i64 (IntKind.i64.wrap (((rd l1 s1.1).Own1) - ((rd l1 s1.1).Own0))))⟩, ⟨42, [], .v (.bool (decide (t_21 > (IntKind.i64.wrap (16 + (IntKind.i64.wrap (2 * t_25))))) || decide (((rd l1 s1.1).Own1) < ((rd l1 s1.1).Own0))))⟩, ⟨7, [], .v (.int .i64 t_21)⟩, ⟨21, [], .v (.bool (!((rd l1 s1.1).Done)))⟩, ⟨6, [], .p 1 0⟩, ⟨12, [], .v (.bool (decide (s1.1 < (l1.length : Int))))⟩, ⟨5, [], .v (.int .i64 s1.1)⟩, ⟨4, [], .v (.bool s1.2)⟩, ⟨2, [], .p 0 0⟩, ⟨0, [], .v (.agg ((kd_Config).cells x0 (svL [((sv0 0).1, (sv0 0).2), ((sv0 1).1, (sv0 1).2), ((sv0 2).1, (sv0 2).2), ((sv0 3).1, (sv0 3).2)])).toArray)⟩, ⟨1, [], .v (.slice A1 l1.length c1)⟩], [], [], [((((kd_Config).cells x0 sv0).map EV.v), 29), ((((kd_Call).cells (rd l1 s1.1) sv_11).map EV.v), 58)], none, none⟩ [] (by kernel_rfl) trivial (fun ns_34 a w_35 hI _ => ?_)
          refine cond_ hI ((decide ((IntKind.i64.wrap (((rd l1 s1.1).Own1) - ((rd l1 s1.1).Own0))) < 0) || ((IntKind.i64.wrap (((rd l1 s1.1).Own1) - ((rd l1 s1.1).Own0))) != (IntKind.i64.wrap (t_21 - 1))))) rfl (fun hc_36 => ?_) (fun hc_36 => ?_)
          · replace H1 := bif_t hc_36 H1
            refine seq_region (live := [4, 55, 8, 42, 7, 21, 6, 12, 5, 2, 0, 1]) (orc := []) hF hI ⟨[⟨4, [], .v (.bool false)⟩, ⟨55, [], .v (.bool (decide ((IntKind.i64.wrap (((rd l1 s1.1).Own1) - ((rd l1 s1.1).Own0))) < 0) || ((IntKind.i64.wrap (((rd l1 s1.1).Own1) - ((rd l1 s1.1).Own0))) != (IntKind.i64.wrap (t_21 - 1)))))⟩, ⟨8, [], .v (.int .i64 (IntKind.i64.wrap (((rd l1 s1.1).Own1) - ((rd l1 s1.1).Own0))))⟩, ⟨42, [], .v (.bool (decide (t_21 > (IntKind.i64.wrap (16 + (IntKind.i64.wrap (2 * t_25))))) || decide (((rd l1 s1.1).Own1) < ((rd l1 s1.1).Own0))))⟩, ⟨7, [], .v (.int .i64 t_21)⟩, ⟨21, [], .v (.bool (!((rd l1 s1.1).Done)))⟩, ⟨6, [], .p 1 0⟩, ⟨12, [], .v (.bool (decide (s1.1 < (l1.length : Int))))⟩, ⟨5, [], .v (.int .i64 s1.1)⟩, ⟨2, [], .p 0 0⟩, ⟨0, [], .v (.agg ((kd_Config).cells x0 (svL [((sv0 0).1, (sv0 0).2), ((sv0 1).1, (sv0 1).2), ((sv0 2).1, (sv0 2).2), ((sv0 3).1, (sv0 3).2)])).toArray)⟩, ⟨1, [], .v (.slice A1 l1.length c1)⟩], [], [], [((((kd_Config).cells x0 sv0).map EV.v), 29), ((((kd_Call).cells (rd l1 s1.1) sv_11).map EV.v), 58)], none, none⟩ [] (by kernel_rfl) trivial (fun ns_37 a w_38 hI _ => ?_)
            refine wpIn_ret ?_
            refine inBlock_ret ?_
            refine then_ret ?_
            refine then_ret ?_
            obtain rfl := Option.some.inj H1
            refine .inr ⟨_, rfl, fun ho => ?_⟩
            subst ho
            refine inBlock_ret ?_
            refine then_ret ?_
            obtain rfl := Option.some.inj H0
            exact ret1 hI rfl rfl ⟨rfl, hE.below hI⟩
          · replace H1 := bif_f hc_36 H1
            refine wpIn_skip ?_
            refine inBlock_normal ?_
            refine then_normal ?_
            refine region_ (live := [5, 55, 8, 42, 7, 21, 6, 12, 4, 2, 0, 1]) (orc := []) hF hI ⟨[⟨5, [], .v (.int .i64 (IntKind.i64.wrap (s1.1 + 1)))⟩, ⟨55, [], .v (.bool (decide ((IntKind.i64.wrap (((rd l1 s1.1).Own1) - ((rd l1 s1.1).Own0))) < 0) || ((IntKind.i64.wrap (((rd l1 s1.1).Own1) - ((rd l1 s1.1).Own0))) != (IntKind.i64.wrap (t_21 - 1)))))⟩, ⟨8, [], .v (.int .i64 (IntKind.i64.wrap (((rd l1 s1.1).Own1) - ((rd l1 s1.1).Own0))))⟩, ⟨42, [], .v (.bool (decide (t_21 > (IntKind.i64.wrap (16 + (IntKind.i64.wrap (2 * t_25))))) || decide (((rd l1 s1.1).Own1) < ((rd l1 s1.1).Own0))))⟩, ⟨7, [], .v (.int .i64 t_21)⟩, ⟨21, [], .v (.bool (!((rd l1 s1.1).Done)))⟩, ⟨6, [], .p 1 0⟩, ⟨12, [], .v (.bool (decide (s1.1 < (l1.length : Int))))⟩, ⟨4, [], .v (.bool s1.2)⟩, ⟨2, [], .p 0 0⟩, ⟨0, [], .v (.agg ((kd_Config).cells x0 (svL [((sv0 0).1, (sv0 0).2), ((sv0 1).1, (sv0 1).2), ((sv0 2).1, (sv0 2).2), ((sv0 3).1, (sv0 3).2)])).toArray)⟩, ⟨1, [], .v (.slice A1 l1.length c1)⟩], [], [], [((((kd_Config).cells x0 sv0).map EV.v), 29), ((((kd_Call).cells (rd l1 s1.1) sv_11).map EV.v), 58)], none, none⟩ [] (by kernel_rfl) trivial (fun ns_39 a w_40 hI _ => ?_)
            refine then_normal ?_
            obtain rfl := Option.some.inj H1
            exact ⟨_, rfl, ⟨_, hI.pick [5, 4, 2, 0, 1] 1 ⟨[⟨5, [], .v (.int .i64 (IntKind.i64.wrap (s1.1 + 1)))⟩, ⟨4, [], .v (.bool s1.2)⟩, ⟨2, [], .p 0 0⟩, ⟨0, [], .v (.agg ((kd_Config).cells x0 (svL [((sv0 0).1, (sv0 0).2), ((sv0 1).1, (sv0 1).2), ((sv0 2).1, (sv0 2).2), ((sv0 3).1, (sv0 3).2)])).toArray)⟩, ⟨1, [], .v (.slice A1 l1.length c1)⟩], [], [], [((((kd_Config).cells x0 sv0).map EV.v), 29)], none, none⟩ (by kernel_rfl)⟩⟩
    · replace H1 := bif_f hc_9 H1
      refine wpIn_exit ?_
      refine then_exit ?_
      refine then_exit ?_
      obtain rfl := Option.some.inj H1
      exact .inl ⟨_, rfl, rfl, ⟨_, hI.pick [5, 4, 2, 0, 1] 1 ⟨[⟨5, [], .v (.int .i64 s1.1)⟩, ⟨4, [], .v (.bool s1.2)⟩, ⟨2, [], .p 0 0⟩, ⟨0, [], .v (.agg ((kd_Config).cells x0 (svL [((sv0 0).1, (sv0 0).2), ((sv0 1).1, (sv0 1).2), ((sv0 2).1, (sv0 2).2), ((sv0 3).1, (sv0 3).2)])).toArray)⟩, ⟨1, [], .v (.slice A1 l1.length c1)⟩], [], [], [((((kd_Config).cells x0 sv0).map EV.v), 29)], none, none⟩ (by kernel_rfl)⟩⟩
  · clear hI
    rintro s1 a w_43 ho ⟨ns_44, hI⟩
    subst ho
    replace H0 : (some true : Option (Bool)) = _ := H0
    refine then_normal ?_
    refine seq_region (live := [4, 5, 2, 0, 1]) (orc := []) hF hI ⟨[⟨4, [], .v (.bool true)⟩, ⟨5, [], .v (.int .i64 s1.1)⟩, ⟨2, [], .p 0 0⟩, ⟨0, [], .v (.agg ((kd_Config).cells x0 (svL [((sv0 0).1, (sv0 0).2), ((sv0 1).1, (sv0 1).2), ((sv0 2).1, (sv0 2).2), ((sv0 3).1, (sv0 3).2)])).toArray)⟩, ⟨1, [], .v (.slice A1 l1.length c1)⟩], [], [], [((((kd_Config).cells x0 sv0).map EV.v), 29)], none, none⟩ [] (by kernel_rfl) trivial (fun ns_45 a w_46 hI _ => ?_)
    refine wpIn_ret ?_
    obtain rfl := Option.some.inj H0
    exact ret1 hI rfl rfl ⟨rfl, hE.below hI⟩

/-! ### porthole/portholelaw23.BoundKept: function 8 -/
noncomputable def G_law23_BoundKept.b1 (x0 : Config) (l1 : (List Call)) (t_3 : Bool) (t_10 : Bool) (t_12 : Bool) (s1 : Int × Bool) : Option (Stp (Int × Bool) (Ex (Int × Bool) (Bool))) := (bif decide (s1.1 < (l1.length : Int)) then (req (inb s1.1 l1.length) (bif (((decide ((((rd l1 s1.1).Req.Data).length : Int) > 100) || decide ((((rd l1 s1.1).Ans.Data).length : Int) > 100)) || decide (((rd l1 s1.1).Own0) < (-1099511627776))) || decide (((rd l1 s1.1).Own1) > 1099511627776)) then some (.out (.ret true)) else some (.next ((IntKind.i64.wrap (s1.1 + 1)), s1.2)))) else some (.out (.brk (s1.1, s1.2))))
noncomputable def G_law23_BoundKept (x0 : Config) (l1 : (List Call)) : Option (Bool) := ((G_law23_wakes).bind fun t_3 => (bif (!t_3) then some false else ((G_ref06_Great x0).bind fun t_10 => ((cal (!t_10) (G_ref07_Accepts x0) default).bind fun t_12 => (bif ((t_10 || (!t_12)) || decide ((l1.length : Int) > 60)) then some true else ((loopω (G_law23_BoundKept.b1 x0 l1 t_3 t_10 t_12) (0, false)).bind fun o => o.on (fun s1 => ((G_bound_Kept x0 l1).bind fun t_43 => ((G_ref23_Kept x0 l1).bind fun t_45 => some (t_43 == t_45)))) (fun r => some r)))))))
set_option maxRecDepth 100000 in
set_option maxHeartbeats 4000000 in
theorem G_law23_BoundKept.calls (x0 : Config) (l1 : (List Call)) (sv0 : SV) (A1 : Option Addr) (c1 : Nat) (w : World) {S : Nat → Prop} (hx0 : (kd_Config).cont S w x0 sv0) (hr1 : Arr kd_Call S w A1 l1) (hc1 : l1.length ≤ c1) (r : Bool) (h : G_law23_BoundKept x0 l1 = some r) :
    Calls Try.prog 8 #[.agg ((kd_Config).cells x0 (svL [((sv0 0).1, (sv0 0).2), ((sv0 1).1, (sv0 1).2), ((sv0 2).1, (sv0 2).2), ((sv0 3).1, (sv0 3).2)])).toArray, .slice A1 l1.length c1] w fun e w' => e = .returned (.bool r) ∧ Below w.heap.size w w' := by
  replace hx0 := Kd.lo _ hx0
  replace hr1 := Arr.lo hr1
  unfold G_law23_BoundKept at h
  have H0 := h
  clear h
  refine enter Try.func8 rfl [.agg ((kd_Config).cells x0 (svL [((sv0 0).1, (sv0 0).2), ((sv0 1).1, (sv0 1).2), ((sv0 2).1, (sv0 2).2), ((sv0 3).1, (sv0 3).2)])).toArray, .slice A1 l1.length c1] (n := 57) rfl (Nat.le_of_ble_eq_true rfl) (fun a hI => ?_)
  have hF : FOpen Fence.wide := .inl rfl
  have hE := Ep.start w
  refine seq_region (live := [4, 2, 0, 1]) (orc := []) hF hI ⟨[⟨4, [], .v (.bool false)⟩, ⟨2, [], .p 0 0⟩, ⟨0, [], .v (.agg ((kd_Config).cells x0 sv0).toArray)⟩, ⟨1, [], .v (.slice A1 l1.length c1)⟩], [], [], [((((kd_Config).cells x0 sv0).map EV.v), 29)], none, none⟩ [] (by kernel_rfl) trivial (fun ns_1 a w_2 hI _ => ?_)
  refine wpIn_seq ?_
  obtain ⟨t_3, hG_4, H0⟩ := bind_some H0
  refine seq_region (live := [8, 4, 2, 0, 1]) (orc := [[.bool t_3]]) hF hI ⟨[⟨8, [], .v (.bool (!t_3))⟩, ⟨4, [], .v (.bool false)⟩, ⟨2, [], .p 0 0⟩, ⟨0, [], .v (.agg ((kd_Config).cells x0 sv0).toArray)⟩, ⟨1, [], .v (.slice A1 l1.length c1)⟩], [], [], [((((kd_Config).cells x0 sv0).map EV.v), 29)], none, none⟩ [.call true 22 [] (.bool t_3)] (by kernel_rfl) ⟨ob_call (enters Try.func22 (by kernel_rfl) rfl) (fun hg wz hk => G_law23_wakes.calls   wz (S := fun _ => True)  _ hG_4), trivial⟩ (fun ns_5 a w_6 hI _ => ?_)
  refine cond_ hI ((!t_3)) rfl (fun hc_7 => ?_) (fun hc_7 => ?_)
  · replace H0 := bif_t hc_7 H0
    refine seq_region (live := [4, 8, 2, 0, 1]) (orc := []) hF hI ⟨[⟨4, [], .v (.bool false)⟩, ⟨8, [], .v (.bool (!t_3))⟩, ⟨2, [], .p 0 0⟩, ⟨0, [], .v (.agg ((kd_Config).cells x0 sv0).toArray)⟩, ⟨1, [], .v (.slice A1 l1.length c1)⟩], [], [], [((((kd_Config).cells x0 sv0).map EV.v), 29)], none, none⟩ [] (by kernel_rfl) trivial (fun ns_8 a w_9 hI _ => ?_)
    refine wpIn_ret ?_
    refine then_ret ?_
    obtain rfl := Option.some.inj H0
    exact ret1 hI rfl rfl ⟨rfl, hE.below hI⟩
  · replace H0 := bif_f hc_7 H0
    refine wpIn_skip ?_
    refine then_normal ?_
    refine wpIn_seq ?_
    obtain ⟨t_10, hG_11, H0⟩ := bind_some H0
    obtain ⟨t_12, hG_13, H0⟩ := bind_some H0
    refine seq_region (live := [20, 8, 4, 2, 0, 1]) (orc := [[.bool t_10], [.bool t_12]]) hF hI ⟨[⟨20, [], .v (.bool ((t_10 || (!t_12)) || decide ((l1.length : Int) > 60)))⟩, ⟨8, [], .v (.bool (!t_3))⟩, ⟨4, [], .v (.bool false)⟩, ⟨2, [], .p 0 0⟩, ⟨0, [], .v (.agg ((kd_Config).cells x0 (svL [((sv0 0).1, (sv0 0).2), ((sv0 1).1, (sv0 1).2), ((sv0 2).1, (sv0 2).2), ((sv0 3).1, (sv0 3).2)])).toArray)⟩, ⟨1, [], .v (.slice A1 l1.length c1)⟩], [], [], [((((kd_Config).cells x0 sv0).map EV.v), 29)], none, none⟩ [.call true 13 [.agg ((kd_Config).cells x0 (svL [((sv0 0).1, (sv0 0).2), ((sv0 1).1, (sv0 1).2), ((sv0 2).1, (sv0 2).2), ((sv0 3).1, (sv0 3).2)])).toArray] (.bool t_10), .call (!t_10) 14 [.agg ((kd_Config).cells x0 (svL [((sv0 0).1, (sv0 0).2), ((sv0 1).1, (sv0 1).2), ((sv0 2).1, (sv0 2).2), ((sv0 3).1, (sv0 3).2)])).toArray] (.bool t_12)] (by kernel_rfl) ⟨ob_call (enters Try.func13 (by kernel_rfl) rfl) (fun hg wz hk => G_ref06_Great.calls x0 (svL [((sv0 0).1, (sv0 0).2), ((sv0 1).1, (sv0 1).2), ((sv0 2).1, (sv0 2).2), ((sv0 3).1, (sv0 3).2)]) wz (S := fun _ => True) (Kd.any _ (Kd.keep kd_Config (contI (S := Lo S w w [] []) (w := w) (d := kd_Config) (x := x0) (sv := (svL [((sv0 0).1, (sv0 0).2), ((sv0 1).1, (sv0 1).2), ((sv0 2).1, (sv0 2).2), ((sv0 3).1, (sv0 3).2)])) ⟨⟨hx0.1.1, hx0.1.2⟩, ⟨hx0.2.1.1, hx0.2.1.2⟩, ⟨hx0.2.2.1.1, hx0.2.2.1.2⟩, ⟨hx0.2.2.2.1.1, hx0.2.2.2.1.2⟩, trivial⟩) (Lo.on hk))) _ hG_11), ob_call (enters Try.func14 (by kernel_rfl) rfl) (fun hg wz hk => G_ref07_Accepts.calls x0 (svL [((sv0 0).1, (sv0 0).2), ((sv0 1).1, (sv0 1).2), ((sv0 2).1, (sv0 2).2), ((sv0 3).1, (sv0 3).2)]) wz (S := fun _ => True) (Kd.any _ (Kd.keep kd_Config (contI (S := Lo S w w [] []) (w := w) (d := kd_Config) (x := x0) (sv := (svL [((sv0 0).1, (sv0 0).2), ((sv0 1).1, (sv0 1).2), ((sv0 2).1, (sv0 2).2), ((sv0 3).1, (sv0 3).2)])) ⟨⟨hx0.1.1, hx0.1.2⟩, ⟨hx0.2.1.1, hx0.2.1.2⟩, ⟨hx0.2.2.1.1, hx0.2.2.1.2⟩, ⟨hx0.2.2.2.1.1, hx0.2.2.2.1.2⟩, trivial⟩) (Lo.on hk))) _ (cal_some hG_13 hg)), trivial⟩ (fun ns_14 a w_15 hI _ => ?_)
    refine cond_ hI (((t_10 || (!t_12)) || decide ((l1.length : Int) > 60))) rfl (fun hc_16 => ?_) (fun hc_16 => ?_)
    · replace H0 := bif_t hc_16 H0
      refine seq_region (live := [4, 20, 8, 2, 0, 1]) (orc := []) hF hI ⟨[⟨4, [], .v (.bool true)⟩, ⟨20, [], .v (.bool ((t_10 || (!t_12)) || decide ((l1.length : Int) > 60)))⟩, ⟨8, [], .v (.bool (!t_3))⟩, ⟨2, [], .p 0 0⟩, ⟨0, [], .v (.agg ((kd_Config).cells x0 (svL [((sv0 0).1, (sv0 0).2), ((sv0 1).1, (sv0 1).2), ((sv0 2).1, (sv0 2).2), ((sv0 3).1, (sv0 3).2)])).toArray)⟩, ⟨1, [], .v (.slice A1 l1.length c1)⟩], [], [], [((((kd_Config).cells x0 sv0).map EV.v), 29)], none, none⟩ [] (by kernel_rfl) trivial (fun ns_17 a w_18 hI _ => ?_)
      refine wpIn_ret ?_
      refine then_ret ?_
      obtain rfl := Option.some.inj H0
      exact ret1 hI rfl rfl ⟨rfl, hE.below hI⟩
    · replace H0 := bif_f hc_16 H0
      refine wpIn_skip ?_
      refine then_normal ?_
      refine wpIn_seq ?_
      refine seq_region (live := [23, 22, 21, 20, 8, 4, 2, 0, 1]) (orc := []) hF hI ⟨[⟨23, [], .v (.int .i64 0)⟩, ⟨22, [], .v (.int .i64 (l1.length : Int))⟩, ⟨21, [], .v (.slice A1 l1.length c1)⟩, ⟨20, [], .v (.bool ((t_10 || (!t_12)) || decide ((l1.length : Int) > 60)))⟩, ⟨8, [], .v (.bool (!t_3))⟩, ⟨4, [], .v (.bool false)⟩, ⟨2, [], .p 0 0⟩, ⟨0, [], .v (.agg ((kd_Config).cells x0 (svL [((sv0 0).1, (sv0 0).2), ((sv0 1).1, (sv0 1).2), ((sv0 2).1, (sv0 2).2), ((sv0 3).1, (sv0 3).2)])).toArray)⟩, ⟨1, [], .v (.slice A1 l1.length c1)⟩], [], [], [((((kd_Config).cells x0 sv0).map EV.v), 29)], none, none⟩ [] (by kernel_rfl) trivial (fun ns_19 a w_20 hI _ => ?_)
      obtain ⟨o_39, hL_40, H0⟩ := bind_some H0
      refine block_loop (fun (s1 : Int × Bool) a w_48 => ∃ ns, St w [] 57 ⟨[⟨23, [], .v (.int .i64 s1.1)⟩, ⟨22, [], .v (.int .i64 (l1.length : Int))⟩, ⟨21, [], .v (.slice A1 l1.length c1)⟩, ⟨20, [], .v (.bool ((t_10 || (!t_12)) || decide ((l1.length : Int) > 60)))⟩, ⟨8, [], .v (.bool (!t_3))⟩, ⟨4, [], .v (.bool s1.2)⟩, ⟨2, [], .p 0 0⟩, ⟨0, [], .v (.agg ((kd_Config).cells x0 (svL [((sv0 0).1, (sv0 0).2), ((sv0 1).1, (sv0 1).2), ((sv0 2).1, (sv0 2).2), ((sv0 3).1, (sv0 3).2)])).toArray)⟩, ⟨1, [], .v (.slice A1 l1.length c1)⟩], [], [], [((((kd_Config).cells x0 sv0).map EV.v), 29)], none, none⟩ ns a w_48) (0, false) hL_40 ⟨_, hI.pick [23, 22, 21, 20, 8, 4, 2, 0, 1] 1 ⟨[⟨23, [], .v (.int .i64 0)⟩, ⟨22, [], .v (.int .i64 (l1.length : Int))⟩, ⟨21, [], .v (.slice A1 l1.length c1)⟩, ⟨20, [], .v (.bool ((t_10 || (!t_12)) || decide ((l1.length : Int) > 60)))⟩, ⟨8, [], .v (.bool (!t_3))⟩, ⟨4, [], .v (.bool false)⟩, ⟨2, [], .p 0 0⟩, ⟨0, [], .v (.agg ((kd_Config).cells x0 (svL [((sv0 0).1, (sv0 0).2), ((sv0 1).1, (sv0 1).2), ((sv0 2).1, (sv0 2).2), ((sv0 3).1, (sv0 3).2)])).toArray)⟩, ⟨1, [], .v (.slice A1 l1.length c1)⟩], [], [], [((((kd_Config).cells x0 sv0).map EV.v), 29)], none, none⟩ (by kernel_rfl)⟩ ?_ ?_
      · clear hI
        rintro s1 a w_21 ⟨ns_22, hI⟩ r1 H1
        unfold G_law23_BoundKept.b1 at H1
        refine seq_region (live := [24, 23, 22, 21, 20, 8, 4, 2, 0, 1]) (orc := []) hF hI ⟨[⟨24, [], .v (.bool (decide (s1.1 < (l1.length : Int))))⟩, ⟨23, [], .v (.int .i64 s1.1)⟩, ⟨22, [], .v (.int .i64 (l1.length : Int))⟩, ⟨21, [], .v (.slice A1 l1.length c1)⟩, ⟨20, [], .v (.bool ((t_10 || (!t_12)) || decide ((l1.length : Int) > 60)))⟩, ⟨8, [], .v (.bool (!t_3))⟩, ⟨4, [], .v (.bool s1.2)⟩, ⟨2, [], .p 0 0⟩, ⟨0, [], .v (.agg ((kd_Config).cells x0 (svL [((sv0 0).1, (sv0 0).2), ((sv0 1).1, (sv0 1).2), ((sv0 2).1, (sv0 2).2), ((sv0 3).1, (sv0 3).2)])).toArray)⟩, ⟨1, [], .v (.slice A1 l1.length c1)⟩], [], [], [((((kd_Config).cells x0 sv0).map EV.v), 29)], none, none⟩ [] (by kernel_rfl) trivial (fun ns_23 a w_24 hI _ => ?_)
        refine wpIn_seq ?_
        refine cond_ hI (decide (s1.1 < (l1.length : Int))) rfl (fun hc_25 => ?_) (fun hc_25 => ?_)
        · replace H1 := bif_t hc_25 H1
          refine wpIn_skip ?_
          refine then_normal ?_
          refine wpIn_seq ?_
          refine wpIn_block ?_
          obtain ⟨hN_26, H1⟩ := req_some H1
          obtain ⟨sv_27, hE_29, hA_28⟩ := Arr.elB (d := kd_Call) hr1 s1.1 true (fun _ => hN_26)
          replace hE_29 := hE_29 rfl
          replace hA_28 := fun (_ : true = true) => hA_28 rfl
          refine seq_region (live := [6, 24, 23, 22, 21, 20, 8, 4, 2, 0, 1]) (orc := [(kd_Call).cells (rd l1 s1.1) sv_27]) hF hI ⟨[⟨6, [], .p 1 0⟩, ⟨24, [], .v (.bool (decide (s1.1 < (l1.length : Int))))⟩, ⟨23, [], .v (.int .i64 s1.1)⟩, ⟨22, [], .v (.int .i64 (l1.length : Int))⟩, ⟨21, [], .v (.slice A1 l1.length c1)⟩, ⟨20, [], .v (.bool ((t_10 || (!t_12)) || decide ((l1.length : Int) > 60)))⟩, ⟨8, [], .v (.bool (!t_3))⟩, ⟨4, [], .v (.bool s1.2)⟩, ⟨2, [], .p 0 0⟩, ⟨0, [], .v (.agg ((kd_Config).cells x0 (svL [((sv0 0).1, (sv0 0).2), ((sv0 1).1, (sv0 1).2), ((sv0 2).1, (sv0 2).2), ((sv0 3).1, (sv0 3).2)])).toArray)⟩, ⟨1, [], .v (.slice A1 l1.length c1)⟩], [], [], [((((kd_Config).cells x0 sv0).map EV.v), 29), ((((kd_Call).cells (rd l1 s1.1) sv_27).map EV.v), 58)], none, none⟩ [.need true (0 ≤ s1.1 ∧ s1.1 < (l1.length : Int)), .need true (A1 = some (adr A1)), .cell true ((adr A1).add ((s1.1 : Int).toNat * 20)) ((kd_Call).cells (rd l1 s1.1) sv_27)] (by kernel_rfl) ⟨ob_inb (fun _ => hN_26), hA_28, ob_el (fun _ => hE_29) 0 ((kd_Call).cells (rd l1 s1.1) sv_27) rfl, trivial⟩ (fun ns_30 a w_31 hI _ => ?_)
          refine seq_region (live := [48, 6, 24, 23, 22, 21, 20, 8, 4, 2, 0, 1]) (orc := []) hF hI ⟨[⟨48, [], .v (.bool (((decide ((((rd l1 s1.1).Req.Data).length : Int) > 100) || decide ((((rd l1 s1.1).Ans.Data).length : Int) > 100)) || decide (((rd l1 s1.1).Own0) < (-1099511627776))) || decide (((rd l1 s1.1).Own1) > 1099511627776)))⟩, ⟨6, [], .p 1 0⟩, ⟨24, [], .v (.bool (decide (s1.1 < (l1.length : Int))))⟩, ⟨23, [], .v (.int .i64 s1.1)⟩, ⟨22, [], .v (.int .i64 (l1.length : Int))⟩, ⟨21, [], .v (.slice A1 l1.length c1)⟩, ⟨20, [], .v (.bool ((t_10 || (!t_12)) || decide ((l1.length : Int) > 60)))⟩, ⟨8, [], .v (.bool (!t_3))⟩, ⟨4, [], .v (.bool s1.2)⟩, ⟨2, [], .p 0 0⟩, ⟨0, [], .v (.agg ((kd_Config).cells x0 (svL [((sv0 0).1, (sv0 0).2), ((sv0 1).1, (sv0 1).2), ((sv0 2).1, (sv0 2).2), ((sv0 3).1, (sv0 3).2)])).toArray)⟩, ⟨1, [], .v (.slice A1 l1.length c1)⟩], [], [], [((((kd_Config).cells x0 sv0).map EV.v), 29), ((((kd_Call).cells (rd l1 s1.1) sv_27).map EV.v), 58)], none, none⟩ [] (by kernel_rfl) trivial (fun ns_32 a w_33 hI _ => ?_)
          refine cond_ hI ((((decide ((((rd l1 s1.1).Req.Data).length : Int) > 100) || decide ((((rd l1 s1.1).Ans.Data).length : Int) > 100)) || decide (((rd l1 s1.1).Own0) < (-1099511627776))) || decide (((rd l1 s1.1).Own1) > 1099511627776))) rfl (fun hc_34 => ?_) (fun hc_34 => ?_)
          · replace H1 := bif_t hc_34 H1
            refine seq_region (live := [4, 48, 6, 24, 23, 22, 21, 20, 8, 2, 0, 1]) (orc := []) hF hI ⟨[⟨4, [], .v (.bool true)⟩, ⟨48, [], .v (.bool (((decide ((((rd l1 s1.1).Req.Data).length : Int) > 100) || decide ((((rd l1 s1.1).Ans.Data).length : Int) > 100)) || decide (((rd l1 s1.1).Own0) < (-1099511627776))) || decide (((rd l1 s1.1).Own1) > 1099511627776)))⟩, ⟨6, [], .p 1 0⟩, ⟨24, [], .v (.bool (decide (s1.1 < (l1.length : Int))))⟩, ⟨23, [], .v (.int .i64 s1.1)⟩, ⟨22, [], .v (.int .i64 (l1.length : Int))⟩, ⟨21, [], .v (.slice A1 l1.length c1)⟩, ⟨20, [], .v (.bool ((t_10 || (!t_12)) || decide ((l1.length : Int) > 60)))⟩, ⟨8, [], .v (.bool (!t_3))⟩, ⟨2, [], .p 0 0⟩, ⟨0, [], .v (.agg ((kd_Config).cells x0 (svL [((sv0 0).1, (sv0 0).2), ((sv0 1).1, (sv0 1).2), ((sv0 2).1, (sv0 2).2), ((sv0 3).1, (sv0 3).2)])).toArray)⟩, ⟨1, [], .v (.slice A1 l1.length c1)⟩], [], [], [((((kd_Config).cells x0 sv0).map EV.v), 29), ((((kd_Call).cells (rd l1 s1.1) sv_27).map EV.v), 58)], none, none⟩ [] (by kernel_rfl) trivial (fun ns_35 a w_36 hI _ => ?_)
            refine wpIn_ret ?_
            refine inBlock_ret ?_
            refine then_ret ?_
            refine then_ret ?_
            obtain rfl := Option.some.inj H1
            refine .inr ⟨_, rfl, fun ho => ?_⟩
            subst ho
            refine inBlock_ret ?_
            refine then_ret ?_
            obtain rfl := Option.some.inj H0
            exact ret1 hI rfl rfl ⟨rfl, hE.below hI⟩
          · replace H1 := bif_f hc_34 H1
            refine wpIn_skip ?_
            refine inBlock_normal ?_
            refine then_normal ?_
            refine region_ (live := [23, 48, 6, 24, 22, 21, 20, 8, 4, 2, 0, 1]) (orc := []) hF hI ⟨[⟨23, [], .v (.int .i64 (IntKind.i64.wrap (s1.1 + 1)))⟩, ⟨48, [], .v (.bool (((decide ((((rd l1 s1.1).Req.Data).length : Int) > 100) || decide ((((rd l1 s1.1).Ans.Data).length : Int) > 100)) || decide (((rd l1 s1.1).Own0) < (-1099511627776))) || decide (((rd l1 s1.1).Own1) > 1099511627776)))⟩, ⟨6, [], .p 1 0⟩, ⟨24, [], .v (.bool (decide (s1.1 < (l1.length : Int))))⟩, ⟨22, [], .v (.int .i64 (l1.length : Int))⟩, ⟨21, [], .v (.slice A1 l1.length c1)⟩, ⟨20, [], .v (.bool ((t_10 || (!t_12)) || decide ((l1.length : Int) > 60)))⟩, ⟨8, [], .v (.bool (!t_3))⟩, ⟨4, [], .v (.bool s1.2)⟩, ⟨2, [], .p 0 0⟩, ⟨0, [], .v (.agg ((kd_Config).cells x0 (svL [((sv0 0).1, (sv0 0).2), ((sv0 1).1, (sv0 1).2), ((sv0 2).1, (sv0 2).2), ((sv0 3).1, (sv0 3).2)])).toArray)⟩, ⟨1, [], .v (.slice A1 l1.length c1)⟩], [], [], [((((kd_Config).cells x0 sv0).map EV.v), 29), ((((kd_Call).cells (rd l1 s1.1) sv_27).map EV.v), 58)], none, none⟩ [] (by kernel_rfl) trivial (fun ns_37 a w_38 hI _ => ?_)
            refine then_normal ?_
            obtain rfl := Option.some.inj H1
            exact ⟨_, rfl, ⟨_, hI.pick [23, 22, 21, 20, 8, 4, 2, 0, 1] 1 ⟨[⟨23, [], .v (.int .i64 (IntKind.i64.wrap (s1.1 + 1)))⟩, ⟨22, [], .v (.int .i64 (l1.length : Int))⟩, ⟨21, [], .v (.slice A1 l1.length c1)⟩, ⟨20, [], .v (.bool ((t_10 || (!t_12)) || decide ((l1.length : Int) > 60)))⟩, ⟨8, [], .v (.bool (!t_3))⟩, ⟨4, [], .v (.bool s1.2)⟩, ⟨2, [], .p 0 0⟩, ⟨0, [], .v (.agg ((kd_Config).cells x0 (svL [((sv0 0).1, (sv0 0).2), ((sv0 1).1, (sv0 1).2), ((sv0 2).1, (sv0 2).2), ((sv0 3).1, (sv0 3).2)])).toArray)⟩, ⟨1, [], .v (.slice A1 l1.length c1)⟩], [], [], [((((kd_Config).cells x0 sv0).map EV.v), 29)], none, none⟩ (by kernel_rfl)⟩⟩
        · replace H1 := bif_f hc_25 H1
          refine wpIn_exit ?_
          refine then_exit ?_
          refine then_exit ?_
          obtain rfl := Option.some.inj H1
          exact .inl ⟨_, rfl, rfl, ⟨_, hI.pick [23, 22, 21, 20, 8, 4, 2, 0, 1] 1 ⟨[⟨23, [], .v (.int .i64 s1.1)⟩, ⟨22, [], .v (.int .i64 (l1.length : Int))⟩, ⟨21, [], .v (.slice A1 l1.length c1)⟩, ⟨20, [], .v (.bool ((t_10 || (!t_12)) || decide ((l1.length : Int) > 60)))⟩, ⟨8, [], .v (.bool (!t_3))⟩, ⟨4, [], .v (.bool s1.2)⟩, ⟨2, [], .p 0 0⟩, ⟨0, [], .v (.agg ((kd_Config).cells x0 (svL [((sv0 0).1, (sv0 0).2), ((sv0 1).1, (sv0 1).2), ((sv0 2).1, (sv0 2).2), ((sv0 3).1, (sv0 3).2)])).toArray)⟩, ⟨1, [], .v (.slice A1 l1.length c1)⟩], [], [], [((((kd_Config).cells x0 sv0).map EV.v), 29)], none, none⟩ (by kernel_rfl)⟩⟩
      · clear hI
        rintro s1 a w_41 ho ⟨ns_42, hI⟩
        subst ho
        replace H0 : (((G_bound_Kept x0 l1).bind fun t_43 => ((G_ref23_Kept x0 l1).bind fun t_45 => some (t_43 == t_45))) : Option (Bool)) = _ := H0
        refine then_normal ?_
        refine wpIn_seq ?_
        obtain ⟨t_43, hG_44, H0⟩ := bind_some H0
        obtain ⟨t_45, hG_46, H0⟩ := bind_some H0
        refine drawn_ (live := [4, 23, 22, 21, 20, 8, 2, 0, 1]) (orc := [[.bool t_43], [.bool t_45]]) hF hI ⟨[⟨4, [], .v (.bool (t_43 == t_45))⟩, ⟨23, [], .v (.int .i64 s1.1)⟩, ⟨22, [], .v (.int .i64 (l1.length : Int))⟩, ⟨21, [], .v (.slice A1 l1.length c1)⟩, ⟨20, [], .v (.bool ((t_10 || (!t_12)) || decide ((l1.length : Int) > 60)))⟩, ⟨8, [], .v (.bool (!t_3))⟩, ⟨2, [], .p 0 0⟩, ⟨0, [], .v (.agg ((kd_Config).cells x0 (svL [((sv0 0).1, (sv0 0).2), ((sv0 1).1, (sv0 1).2), ((sv0 2).1, (sv0 2).2), ((sv0 3).1, (sv0 3).2)])).toArray)⟩, ⟨1, [], .v (.slice A1 l1.length c1)⟩], [], [], [((((kd_Config).cells x0 sv0).map EV.v), 29)], none, none⟩ [.call true 28 [.agg ((kd_Config).cells x0 (svL [((sv0 0).1, (sv0 0).2), ((sv0 1).1, (sv0 1).2), ((sv0 2).1, (sv0 2).2), ((sv0 3).1, (sv0 3).2)])).toArray, .slice A1 l1.length c1] (.bool t_43), .call true 29 [.agg ((kd_Config).cells x0 (svL [((sv0 0).1, (sv0 0).2), ((sv0 1).1, (sv0 1).2), ((sv0 2).1, (sv0 2).2), ((sv0 3).1, (sv0 3).2)])).toArray, .slice A1 l1.length c1] (.bool t_45)] (by kernel_rfl) (by kernel_rfl) (by kernel_rfl) ⟨ob_call (enters Try.func28 (by kernel_rfl) rfl) (fun hg wz hk => G_bound_Kept.calls x0 l1 (svL [((sv0 0).1, (sv0 0).2), ((sv0 1).1, (sv0 1).2), ((sv0 2).1, (sv0 2).2), ((sv0 3).1, (sv0 3).2)]) A1 c1 wz (S := fun _ => True) (Kd.any _ (Kd.keep kd_Config (contI (S := Lo S w w [] []) (w := w) (d := kd_Config) (x := x0) (sv := (svL [((sv0 0).1, (sv0 0).2), ((sv0 1).1, (sv0 1).2), ((sv0 2).1, (sv0 2).2), ((sv0 3).1, (sv0 3).2)])) ⟨⟨hx0.1.1, hx0.1.2⟩, ⟨hx0.2.1.1, hx0.2.1.2⟩, ⟨hx0.2.2.1.1, hx0.2.2.1.2⟩, ⟨hx0.2.2.2.1.1, hx0.2.2.2.1.2⟩, trivial⟩) (Lo.on hk))) (Arr.any (Arr.keep hr1 (Lo.on hk))) hc1 _ hG_44), ob_call (enters Try.func29 (by kernel_rfl) rfl) (fun hg wz hk => G_ref23_Kept.calls x0 l1 (svL [((sv0 0).1, (sv0 0).2), ((sv0 1).1, (sv0 1).2), ((sv0 2).1, (sv0 2).2), ((sv0 3).1, (sv0 3).2)]) A1 c1 wz (S := fun _ => True) (Kd.any _ (Kd.keep kd_Config (contI (S := Lo S w w [] []) (w := w) (d := kd_Config) (x := x0) (sv := (svL [((sv0 0).1, (sv0 0).2), ((sv0 1).1, (sv0 1).2), ((sv0 2).1, (sv0 2).2), ((sv0 3).1, (sv0 3).2)])) ⟨⟨hx0.1.1, hx0.1.2⟩, ⟨hx0.2.1.1, hx0.2.1.2⟩, ⟨hx0.2.2.1.1, hx0.2.2.1.2⟩, ⟨hx0.2.2.2.1.1, hx0.2.2.2.1.2⟩, trivial⟩) (Lo.on hk))) (Arr.any (Arr.keep hr1 (Lo.on hk))) hc1 _ hG_46), trivial⟩ (fun a w_47 hI => ?_)
        refine then_normal ?_
        refine wpIn_ret ?_
        obtain rfl := Option.some.inj H0
        exact ret1 hI rfl rfl ⟨rfl, hE.below hI⟩

end Go.Proofs.Ytnfnincmhobpaab
