import Derived.Test.YtnfnincmhobpaaaGXx1
set_option linter.unusedVariables false
set_option linter.unusedSimpArgs false
namespace Go.Proofs.Ytnfnincmhobpaaa
open Go Go.RowKit Go.Eng Go.Proofs

/-! ### porthole/wit.spots: function 47 -/
noncomputable def G_wit_spots.b1 (l0 : (List Call)) (l1 : (List Belling)) (s1 : Int × (List Wit_spot)) : Option (Stp (Int × (List Wit_spot)) (Ex (Int × (List Wit_spot)) ((List Wit_spot)))) := (bif decide (s1.1 < (l0.length : Int)) then (req (inb s1.1 l0.length) ((G_hist_Place l0 s1.1).bind fun t_22 => (bif t_22.2.2 then (req (decide ((s1.2.length + 1) * 32 ≤ 140737488355328)) (bif decide (((rd l0 s1.1).Ring) ≥ 0) then (req (decide (((s1.2 ++ [(⟨t_22.1, (bif t_22.2.1 then 3 else 0), (⟨1, s1.1⟩ : Item)⟩ : Wit_spot)]).length + 1) * 32 ≤ 140737488355328)) (some (.next ((IntKind.i64.wrap (s1.1 + 1)), ((s1.2 ++ [(⟨t_22.1, (bif t_22.2.1 then 3 else 0), (⟨1, s1.1⟩ : Item)⟩ : Wit_spot)]) ++ [(⟨(rd l0 s1.1).Ring, 1, (⟨2, s1.1⟩ : Item)⟩ : Wit_spot)]))))) else some (.next ((IntKind.i64.wrap (s1.1 + 1)), (s1.2 ++ [(⟨t_22.1, (bif t_22.2.1 then 3 else 0), (⟨1, s1.1⟩ : Item)⟩ : Wit_spot)]))))) else (bif decide (((rd l0 s1.1).Ring) ≥ 0) then (req (decide ((s1.2.length + 1) * 32 ≤ 140737488355328)) (some (.next ((IntKind.i64.wrap (s1.1 + 1)), (s1.2 ++ [(⟨(rd l0 s1.1).Ring, 1, (⟨2, s1.1⟩ : Item)⟩ : Wit_spot)]))))) else some (.next ((IntKind.i64.wrap (s1.1 + 1)), s1.2)))))) else some (.out (.brk (s1.1, s1.2))))
noncomputable def G_wit_spots.b2 (l0 : (List Call)) (l1 : (List Belling)) (s1 : Int × (List Wit_spot)) (s2 : Int × (List Wit_spot)) : Option (Stp (Int × (List Wit_spot)) (Ex (Int × (List Wit_spot)) ((List Wit_spot)))) := (bif decide (s2.1 < (l1.length : Int)) then (req (inb s2.1 l1.length) (req (decide ((s2.2.length + 1) * 32 ≤ 140737488355328)) (some (.next ((IntKind.i64.wrap (s2.1 + 1)), (s2.2 ++ [(⟨(rd l1 s2.1).At, 2, (⟨3, s2.1⟩ : Item)⟩ : Wit_spot)])))))) else some (.out (.brk (s2.1, s2.2))))
noncomputable def G_wit_spots (l0 : (List Call)) (l1 : (List Belling)) : Option ((List Wit_spot)) := ((loopω (G_wit_spots.b1 l0 l1) (0, ([] : List Wit_spot))).bind fun o => o.on (fun s1 => ((loopω (G_wit_spots.b2 l0 l1 s1) (0, s1.2)).bind fun o => o.on (fun s2 => ((G_wit_spot_49 s2.2 s2.2.length (Fn96.f50)).bind fun t_142 => some t_142)) (fun r => some r))) (fun r => some r))
set_option maxRecDepth 100000 in
set_option maxHeartbeats 4000000 in
theorem G_wit_spots.calls (l0 : (List Call)) (l1 : (List Belling)) (A0 : Option Addr) (c0 : Nat) (A1 : Option Addr) (c1 : Nat) (w : World) {S : Nat → Prop} (hr0 : Arr kd_Call S w A0 l0) (hc0 : l0.length ≤ c0) (hr1 : Arr kd_Belling S w A1 l1) (hc1 : l1.length ≤ c1) (r : (List Wit_spot)) (h : G_wit_spots l0 l1 = some r) :
    Calls Try.prog 47 #[.slice A0 l0.length c0, .slice A1 l1.length c1] w fun e w' => ∃ sv : SV, e = .returned (.slice ((sv 0).1) r.length ((sv 0).2)) ∧ Below w.heap.size w w' ∧ (Arr kd_Wit_spot (fun b => w.heap.size ≤ b ∨ S b) w' (sv 0).1 r ∧ r.length ≤ (sv 0).2) := by
  replace hr0 := Arr.lo hr0
  replace hr1 := Arr.lo hr1
  unfold G_wit_spots at h
  have H0 := h
  clear h
  refine enter Try.func47 rfl [.slice A0 l0.length c0, .slice A1 l1.length c1] (n := 70) rfl (Nat.le_of_ble_eq_true rfl) (fun a hI => ?_)
  have hF : FOpen Fence.wide := .inl rfl
  have hE := Ep.start w
  refine seq_region (live := [4, 0, 1]) (orc := []) hF hI ⟨[⟨4, [], .v (.slice none 0 0)⟩, ⟨0, [], .v (.slice A0 l0.length c0)⟩, ⟨1, [], .v (.slice A1 l1.length c1)⟩], [], [], [], none, none⟩ [] (by kernel_rfl) trivial (fun ns_1 a w_2 hI _ => ?_)
  refine seq_region (live := [5, 4, 0, 1]) (orc := []) hF hI ⟨[⟨5, [], .v (.slice none 0 0)⟩, ⟨4, [], .v (.slice none 0 0)⟩, ⟨0, [], .v (.slice A0 l0.length c0)⟩, ⟨1, [], .v (.slice A1 l1.length c1)⟩], [], [], [], none, none⟩ [] (by kernel_rfl) trivial (fun ns_3 a w_4 hI _ => ?_)
  refine wpIn_seq ?_
  refine seq_region (live := [16, 15, 14, 5, 4, 0, 1]) (orc := []) hF hI ⟨[⟨16, [], .v (.int .i64 0)⟩, ⟨15, [], .v (.int .i64 (l0.length : Int))⟩, ⟨14, [], .v (.slice A0 l0.length c0)⟩, ⟨5, [], .v (.slice none 0 0)⟩, ⟨4, [], .v (.slice none 0 0)⟩, ⟨0, [], .v (.slice A0 l0.length c0)⟩, ⟨1, [], .v (.slice A1 l1.length c1)⟩], [], [], [], none, none⟩ [] (by kernel_rfl) trivial (fun ns_5 a w_6 hI _ => ?_)
  obtain ⟨hE', hmv, hmr⟩ := Ep.rebase hE hI
  replace hr0 := Arr.keep hr0 (hmv _)
  replace hr1 := Arr.keep hr1 (hmv _)
  replace hE := hE'
  replace hI := hI.rebase
  clear hE' hmv hmr
  obtain ⟨hE', hmv⟩ := Ep.addNil hE
  have hmr : ∀ b ∈ ([] : List (List Nat)).flatten, w_6.heap[b]? = w_6.heap[b]? := fun _ _ => rfl
  replace hr0 := Arr.keep hr0 (hmv _)
  replace hr1 := Arr.keep hr1 (hmv _)
  replace hE := hE'
  clear hE' hmv hmr
  have hq_7 : Row kd_Wit_spot 91 (Lo S w w_6 ns_5 [rb none]) w_6 w.heap.size none 0 ([] : List Wit_spot) := Row.nil
  obtain ⟨o_100, hL_101, H0⟩ := bind_some H0
  refine block_loop (fun (s1 : Int × (List Wit_spot)) a w_154 => ∃ (ow ns : List Nat) (A_8 : Option Addr) (c_9 : Nat), (Arr kd_Call (Lo S w w_154 ow [rb A_8]) w_154 A0 l0) ∧ (Arr kd_Belling (Lo S w w_154 ow [rb A_8]) w_154 A1 l1) ∧ (Row kd_Wit_spot 91 (Lo S w w_154 ow [rb A_8]) w_154 w.heap.size A_8 c_9 s1.2) ∧ Ep [] w w_154 ow [rb A_8] ∧ St w_154 ow 70 ⟨[⟨16, [], .v (.int .i64 s1.1)⟩, ⟨15, [], .v (.int .i64 (l0.length : Int))⟩, ⟨14, [], .v (.slice A0 l0.length c0)⟩, ⟨5, [], .v (.slice A_8 s1.2.length c_9)⟩, ⟨4, [], .v (.slice none 0 0)⟩, ⟨0, [], .v (.slice A0 l0.length c0)⟩, ⟨1, [], .v (.slice A1 l1.length c1)⟩], [], [], [], none, none⟩ ns a w_154) (0, ([] : List Wit_spot)) hL_101 ⟨_, _, _, _, hr0, hr1, hq_7, hE, hI.pick [16, 15, 14, 5, 4, 0, 1] 0 ⟨[⟨16, [], .v (.int .i64 0)⟩, ⟨15, [], .v (.int .i64 (l0.length : Int))⟩, ⟨14, [], .v (.slice A0 l0.length c0)⟩, ⟨5, [], .v (.slice none ([] : List Wit_spot).length 0)⟩, ⟨4, [], .v (.slice none 0 0)⟩, ⟨0, [], .v (.slice A0 l0.length c0)⟩, ⟨1, [], .v (.slice A1 l1.length c1)⟩], [], [], [], none, none⟩ (by kernel_rfl)⟩ ?_ ?_
  ·clear hI hE
   rintro s1 a w_10 ⟨ow_12, ns_11, A_8, c_9, hr0, hr1, hq_7, hE, hI⟩ r1 H1
   unfold G_wit_spots.b1 at H1
   refine seq_region (live := [17, 16, 15, 14, 5, 4, 0, 1]) (orc := []) hF hI ⟨[⟨17, [], .v (.bool (decide (s1.1 < (l0.length : Int))))⟩, ⟨16, [], .v (.int .i64 s1.1)⟩, ⟨15, [], .v (.int .i64 (l0.length : Int))⟩, ⟨14, [], .v (.slice A0 l0.length c0)⟩, ⟨5, [], .v (.slice A_8 s1.2.length c_9)⟩, ⟨4, [], .v (.slice none 0 0)⟩, ⟨0, [], .v (.slice A0 l0.length c0)⟩, ⟨1, [], .v (.slice A1 l1.length c1)⟩], [], [], [], none, none⟩ [] (by kernel_rfl) trivial (fun ns_13 a w_14 hI _ => ?_)
   refine wpIn_seq ?_
   refine cond_ hI (decide (s1.1 < (l0.length : Int))) rfl (fun hc_15 => ?_) (fun hc_15 => ?_)
   ·replace H1 := bif_t hc_15 H1
    refine wpIn_skip ?_
    refine then_normal ?_
    refine wpIn_seq ?_
    refine wpIn_block ?_
    obtain ⟨hN_16, H1⟩ := req_some H1
    obtain ⟨sv_17, hE_19, hA_18⟩ := Arr.elB (d := kd_Call) hr0 s1.1 true (fun _ => hN_16)
    replace hE_19 := hE_19 rfl
    replace hA_18 := fun (_ : true = true) => hA_18 rfl
    refine seq_region (live := [6, 7, 16, 15, 14, 5, 4, 0, 1]) (orc := [(kd_Call).cells (rd l0 s1.1) sv_17]) hF hI ⟨[⟨6, [], .v (.int .i64 s1.1)⟩, ⟨7, [], .p 0 0⟩, ⟨16, [], .v (.int .i64 s1.1)⟩, ⟨15, [], .v (.int .i64 (l0.length : Int))⟩, ⟨14, [], .v (.slice A0 l0.length c0)⟩, ⟨5, [], .v (.slice A_8 s1.2.length c_9)⟩, ⟨4, [], .v (.slice none 0 0)⟩, ⟨0, [], .v (.slice A0 l0.length c0)⟩, ⟨1, [], .v (.slice A1 l1.length c1)⟩], [], [], [((((kd_Call).cells (rd l0 s1.1) sv_17).map EV.v), 42)], none, none⟩ [.need true ((0 : Int) ≤ s1.1 ∧ s1.1 < (l0.length : Int)), .need true (A0 = some (adr A0)), .cell true ((adr A0).add ((s1.1 : Int).toNat * 20)) ((kd_Call).cells (rd l0 s1.1) sv_17)] (by kernel_rfl) ⟨ob_inb (fun _ => hN_16), hA_18, ob_el (fun _ => hE_19) 0 ((kd_Call).cells (rd l0 s1.1) sv_17) rfl, trivial⟩ (fun ns_20 a w_21 hI _ => ?_)
    refine wpIn_seq ?_
    obtain ⟨t_22, hG_23, H1⟩ := bind_some H1
    refine seq_region (live := [10, 9, 8, 6, 7, 16, 15, 14, 5, 4, 0, 1]) (orc := [[.tuple #[.int .i64 t_22.1, .bool t_22.2.1, .bool t_22.2.2]]]) hF hI ⟨[⟨10, [], .v (.bool t_22.2.2)⟩, ⟨9, [], .v (.bool t_22.2.1)⟩, ⟨8, [], .v (.int .i64 t_22.1)⟩, ⟨6, [], .v (.int .i64 s1.1)⟩, ⟨7, [], .p 0 0⟩, ⟨16, [], .v (.int .i64 s1.1)⟩, ⟨15, [], .v (.int .i64 (l0.length : Int))⟩, ⟨14, [], .v (.slice A0 l0.length c0)⟩, ⟨5, [], .v (.slice A_8 s1.2.length c_9)⟩, ⟨4, [], .v (.slice none 0 0)⟩, ⟨0, [], .v (.slice A0 l0.length c0)⟩, ⟨1, [], .v (.slice A1 l1.length c1)⟩], [], [], [((((kd_Call).cells (rd l0 s1.1) sv_17).map EV.v), 42)], none, none⟩ [.call true 26 [.slice A0 l0.length c0, .int .i64 s1.1] (.tuple #[.int .i64 t_22.1, .bool t_22.2.1, .bool t_22.2.2])] (by kernel_rfl) ⟨ob_call (enters Try.func26 (by kernel_rfl) rfl) (fun hg wz hk => G_hist_Place.calls l0 s1.1 A0 c0 wz (S := fun _ => True) (Arr.any (Arr.keep hr0 (Lo.on hk))) hc0 _ hG_23), trivial⟩ (fun ns_24 a w_25 hI _ => ?_)
    refine seq_region (live := [28, 9, 8, 6, 7, 16, 15, 14, 5, 4, 0, 1]) (orc := []) hF hI ⟨[⟨28, [], .v (.bool t_22.2.2)⟩, ⟨9, [], .v (.bool t_22.2.1)⟩, ⟨8, [], .v (.int .i64 t_22.1)⟩, ⟨6, [], .v (.int .i64 s1.1)⟩, ⟨7, [], .p 0 0⟩, ⟨16, [], .v (.int .i64 s1.1)⟩, ⟨15, [], .v (.int .i64 (l0.length : Int))⟩, ⟨14, [], .v (.slice A0 l0.length c0)⟩, ⟨5, [], .v (.slice A_8 s1.2.length c_9)⟩, ⟨4, [], .v (.slice none 0 0)⟩, ⟨0, [], .v (.slice A0 l0.length c0)⟩, ⟨1, [], .v (.slice A1 l1.length c1)⟩], [], [], [((((kd_Call).cells (rd l0 s1.1) sv_17).map EV.v), 42)], none, none⟩ [] (by kernel_rfl) trivial (fun ns_26 a w_27 hI _ => ?_)
    refine cond_ hI (t_22.2.2) rfl (fun hc_28 => ?_) (fun hc_28 => ?_)
    ·replace H1 := bif_t hc_28 H1
     refine seq_region (live := [11, 9, 6, 7, 16, 15, 14, 5, 4, 0, 1]) (orc := []) hF hI ⟨[⟨11, [], .p 1 0⟩, ⟨9, [], .v (.bool t_22.2.1)⟩, ⟨6, [], .v (.int .i64 s1.1)⟩, ⟨7, [], .p 0 0⟩, ⟨16, [], .v (.int .i64 s1.1)⟩, ⟨15, [], .v (.int .i64 (l0.length : Int))⟩, ⟨14, [], .v (.slice A0 l0.length c0)⟩, ⟨5, [], .v (.slice A_8 s1.2.length c_9)⟩, ⟨4, [], .v (.slice none 0 0)⟩, ⟨0, [], .v (.slice A0 l0.length c0)⟩, ⟨1, [], .v (.slice A1 l1.length c1)⟩], [], [], [((((kd_Call).cells (rd l0 s1.1) sv_17).map EV.v), 42), ([.v (.int .i64 t_22.1), .v (.int .i64 0), .v (.int .i64 1), .v (.int .i64 s1.1)], 91)], none, none⟩ [] (by kernel_rfl) trivial (fun ns_29 a w_30 hI _ => ?_)
     refine wpIn_seq ?_
     refine seq_region (live := [33, 11, 6, 7, 16, 15, 14, 5, 4, 0, 1]) (orc := []) hF hI ⟨[⟨33, [], .v (.bool t_22.2.1)⟩, ⟨11, [], .p 1 0⟩, ⟨6, [], .v (.int .i64 s1.1)⟩, ⟨7, [], .p 0 0⟩, ⟨16, [], .v (.int .i64 s1.1)⟩, ⟨15, [], .v (.int .i64 (l0.length : Int))⟩, ⟨14, [], .v (.slice A0 l0.length c0)⟩, ⟨5, [], .v (.slice A_8 s1.2.length c_9)⟩, ⟨4, [], .v (.slice none 0 0)⟩, ⟨0, [], .v (.slice A0 l0.length c0)⟩, ⟨1, [], .v (.slice A1 l1.length c1)⟩], [], [], [((((kd_Call).cells (rd l0 s1.1) sv_17).map EV.v), 42), ([.v (.int .i64 t_22.1), .v (.int .i64 0), .v (.int .i64 1), .v (.int .i64 s1.1)], 91)], none, none⟩ [] (by kernel_rfl) trivial (fun ns_31 a w_32 hI _ => ?_)
     refine cond_merge hI (t_22.2.1) rfl ⟨[⟨11, [], .p 1 0⟩, ⟨6, [], .v (.int .i64 s1.1)⟩, ⟨7, [], .p 0 0⟩, ⟨16, [], .v (.int .i64 s1.1)⟩, ⟨15, [], .v (.int .i64 (l0.length : Int))⟩, ⟨14, [], .v (.slice A0 l0.length c0)⟩, ⟨5, [], .v (.slice A_8 s1.2.length c_9)⟩, ⟨4, [], .v (.slice none 0 0)⟩, ⟨0, [], .v (.slice A0 l0.length c0)⟩, ⟨1, [], .v (.slice A1 l1.length c1)⟩], [], [], [((((kd_Call).cells (rd l0 s1.1) sv_17).map EV.v), 42), ([.v (.int .i64 t_22.1), .v (.int .i64 3), .v (.int .i64 1), .v (.int .i64 s1.1)], 91)], none, none⟩ ⟨[⟨11, [], .p 1 0⟩, ⟨6, [], .v (.int .i64 s1.1)⟩, ⟨7, [], .p 0 0⟩, ⟨16, [], .v (.int .i64 s1.1)⟩, ⟨15, [], .v (.int .i64 (l0.length : Int))⟩, ⟨14, [], .v (.slice A0 l0.length c0)⟩, ⟨5, [], .v (.slice A_8 s1.2.length c_9)⟩, ⟨4, [], .v (.slice none 0 0)⟩, ⟨0, [], .v (.slice A0 l0.length c0)⟩, ⟨1, [], .v (.slice A1 l1.length c1)⟩], [], [], [((((kd_Call).cells (rd l0 s1.1) sv_17).map EV.v), 42), ([.v (.int .i64 t_22.1), .v (.int .i64 0), .v (.int .i64 1), .v (.int .i64 s1.1)], 91)], none, none⟩ (fun b => ⟨[⟨11, [], .p 1 0⟩, ⟨6, [], .v (.int .i64 s1.1)⟩, ⟨7, [], .p 0 0⟩, ⟨16, [], .v (.int .i64 s1.1)⟩, ⟨15, [], .v (.int .i64 (l0.length : Int))⟩, ⟨14, [], .v (.slice A0 l0.length c0)⟩, ⟨5, [], .v (.slice A_8 s1.2.length c_9)⟩, ⟨4, [], .v (.slice none 0 0)⟩, ⟨0, [], .v (.slice A0 l0.length c0)⟩, ⟨1, [], .v (.slice A1 l1.length c1)⟩], [], [], [((((kd_Call).cells (rd l0 s1.1) sv_17).map EV.v), 42), ([.v (.int .i64 t_22.1), .v (.int .i64 (bif b then 3 else 0)), .v (.int .i64 1), .v (.int .i64 s1.1)], 91)], none, none⟩) (fun b => by cases b <;> rfl) (fun hc_33 => ?_) (fun hc_33 => ?_) (fun ns_36 a w_37 hI => ?_)
     ·refine region_ (live := [11, 6, 7, 16, 15, 14, 5, 4, 0, 1]) (orc := []) hF hI ⟨[⟨11, [], .p 1 0⟩, ⟨6, [], .v (.int .i64 s1.1)⟩, ⟨7, [], .p 0 0⟩, ⟨16, [], .v (.int .i64 s1.1)⟩, ⟨15, [], .v (.int .i64 (l0.length : Int))⟩, ⟨14, [], .v (.slice A0 l0.length c0)⟩, ⟨5, [], .v (.slice A_8 s1.2.length c_9)⟩, ⟨4, [], .v (.slice none 0 0)⟩, ⟨0, [], .v (.slice A0 l0.length c0)⟩, ⟨1, [], .v (.slice A1 l1.length c1)⟩], [], [], [((((kd_Call).cells (rd l0 s1.1) sv_17).map EV.v), 42), ([.v (.int .i64 t_22.1), .v (.int .i64 3), .v (.int .i64 1), .v (.int .i64 s1.1)], 91)], none, none⟩ [] (by kernel_rfl) trivial (fun ns_34 a w_35 hI _ => ?_)
      refine then_normal ?_
      exact ⟨_, hI.pick [11, 6, 7, 16, 15, 14, 5, 4, 0, 1] 2 ⟨[⟨11, [], .p 1 0⟩, ⟨6, [], .v (.int .i64 s1.1)⟩, ⟨7, [], .p 0 0⟩, ⟨16, [], .v (.int .i64 s1.1)⟩, ⟨15, [], .v (.int .i64 (l0.length : Int))⟩, ⟨14, [], .v (.slice A0 l0.length c0)⟩, ⟨5, [], .v (.slice A_8 s1.2.length c_9)⟩, ⟨4, [], .v (.slice none 0 0)⟩, ⟨0, [], .v (.slice A0 l0.length c0)⟩, ⟨1, [], .v (.slice A1 l1.length c1)⟩], [], [], [((((kd_Call).cells (rd l0 s1.1) sv_17).map EV.v), 42), ([.v (.int .i64 t_22.1), .v (.int .i64 3), .v (.int .i64 1), .v (.int .i64 s1.1)], 91)], none, none⟩ (by kernel_rfl)⟩
     ·refine wpIn_skip ?_
      refine then_normal ?_
      exact ⟨_, hI.pick [11, 6, 7, 16, 15, 14, 5, 4, 0, 1] 2 ⟨[⟨11, [], .p 1 0⟩, ⟨6, [], .v (.int .i64 s1.1)⟩, ⟨7, [], .p 0 0⟩, ⟨16, [], .v (.int .i64 s1.1)⟩, ⟨15, [], .v (.int .i64 (l0.length : Int))⟩, ⟨14, [], .v (.slice A0 l0.length c0)⟩, ⟨5, [], .v (.slice A_8 s1.2.length c_9)⟩, ⟨4, [], .v (.slice none 0 0)⟩, ⟨0, [], .v (.slice A0 l0.length c0)⟩, ⟨1, [], .v (.slice A1 l1.length c1)⟩], [], [], [((((kd_Call).cells (rd l0 s1.1) sv_17).map EV.v), 42), ([.v (.int .i64 t_22.1), .v (.int .i64 0), .v (.int .i64 1), .v (.int .i64 s1.1)], 91)], none, none⟩ (by kernel_rfl)⟩
     ·refine then_normal ?_
      refine wpIn_region_lit ?_
      refine chunkL_ (live := [36, 35, 6, 7, 16, 15, 14, 5, 4, 0, 1]) (orc := []) hF 2 hI ⟨[⟨36, [], .v (.agg #[.int .i64 t_22.1, .int .i64 (bif t_22.2.1 then 3 else 0), .int .i64 1, .int .i64 s1.1])⟩, ⟨35, [], .v (.slice A_8 s1.2.length c_9)⟩, ⟨6, [], .v (.int .i64 s1.1)⟩, ⟨7, [], .p 0 0⟩, ⟨16, [], .v (.int .i64 s1.1)⟩, ⟨15, [], .v (.int .i64 (l0.length : Int))⟩, ⟨14, [], .v (.slice A0 l0.length c0)⟩, ⟨5, [], .v (.slice A_8 s1.2.length c_9)⟩, ⟨4, [], .v (.slice none 0 0)⟩, ⟨0, [], .v (.slice A0 l0.length c0)⟩, ⟨1, [], .v (.slice A1 l1.length c1)⟩], [], [], [((((kd_Call).cells (rd l0 s1.1) sv_17).map EV.v), 42), ([.v (.int .i64 t_22.1), .v (.int .i64 (bif t_22.2.1 then 3 else 0)), .v (.int .i64 1), .v (.int .i64 s1.1)], 91)], none, none⟩ [] rfl (by kernel_rfl) trivial (fun ns_50 a w_51 hI => ?_)
      obtain ⟨hE', hmv, hmr⟩ := Ep.rebase hE hI
      replace hr0 := Arr.keep hr0 (hmv _)
      replace hr1 := Arr.keep hr1 (hmv _)
      replace hq_7 := Row.keep hq_7 (hmv _) (fun b hb => hmr b (by simp [hb]))
      replace hE_19 := El.keep hE_19 (hmv _)
      replace hE := hE'
      replace hI := hI.rebase
      clear hE' hmv hmr
      refine buildSlice_ (S0 := S) (d := kd_Wit_spot) (e := 91) hF hE hI (wanted_none rfl) rfl (by kernel_rfl) (cs := [.int .i64 t_22.1, .int .i64 (bif t_22.2.1 then 3 else 0), .int .i64 1, .int .i64 s1.1]) (by kernel_rfl) [(⟨t_22.1, (bif t_22.2.1 then 3 else 0), (⟨1, s1.1⟩ : Item)⟩ : Wit_spot)] [(svL [])] rfl rfl (by simp [maxLen]) (fun i x hi => by cases i with | zero => (simp only [List.getElem?_cons_zero, Option.some.injEq] at hi; subst hi; exact ⟨trivial, rfl⟩) | succ i => (simp only [List.getElem?_cons_succ] at hi; simp at hi)) (fun A_52 => ⟨[⟨37, [], .v (.slice A_52 ([(⟨t_22.1, (bif t_22.2.1 then 3 else 0), (⟨1, s1.1⟩ : Item)⟩ : Wit_spot)] : List Wit_spot).length (([(⟨t_22.1, (bif t_22.2.1 then 3 else 0), (⟨1, s1.1⟩ : Item)⟩ : Wit_spot)] : List Wit_spot).length))⟩, ⟨36, [], .v (.agg #[.int .i64 t_22.1, .int .i64 (bif t_22.2.1 then 3 else 0), .int .i64 1, .int .i64 s1.1])⟩, ⟨35, [], .v (.slice A_8 s1.2.length c_9)⟩, ⟨6, [], .v (.int .i64 s1.1)⟩, ⟨7, [], .p 0 0⟩, ⟨16, [], .v (.int .i64 s1.1)⟩, ⟨15, [], .v (.int .i64 (l0.length : Int))⟩, ⟨14, [], .v (.slice A0 l0.length c0)⟩, ⟨5, [], .v (.slice A_8 s1.2.length c_9)⟩, ⟨4, [], .v (.slice none 0 0)⟩, ⟨0, [], .v (.slice A0 l0.length c0)⟩, ⟨1, [], .v (.slice A1 l1.length c1)⟩], [], [], [((((kd_Call).cells (rd l0 s1.1) sv_17).map EV.v), 42), ([.v (.int .i64 t_22.1), .v (.int .i64 (bif t_22.2.1 then 3 else 0)), .v (.int .i64 1), .v (.int .i64 s1.1)], 91)], none, none⟩) (fun A_52 => by kernel_rfl) (fun A_52 a w_54 hput hE' hI' hmv hmr hq_53 => ?_)
      replace hr0 := Arr.keep hr0 (hmv _)
      replace hr1 := Arr.keep hr1 (hmv _)
      replace hq_7 := Row.keep hq_7 (hmv _) (fun b hb => hmr b (by simp [hb]) (by simp))
      replace hE_19 := El.keep hE_19 (hmv _)
      replace hE := hE'
      replace hI := hI'
      clear hE' hI' hmv hmr
      obtain ⟨hE', hmv, hq_53, hcap_55⟩ := Row.still (l1 := [rb A_8]) (l2 := []) hq_53 (Nat.le_refl _) hE
      have hmr : ∀ b ∈ ([rb A_8, rb A_52] : List (List Nat)).flatten, w_54.heap[b]? = w_54.heap[b]? := fun _ _ => rfl
      replace hr0 := Arr.keep hr0 (hmv _)
      replace hr1 := Arr.keep hr1 (hmv _)
      replace hq_7 := Row.keep hq_7 (hmv _) (fun b hb => hmr b (by simp [hb]))
      replace hE_19 := El.keep hE_19 (hmv _)
      replace hE := hE'
      clear hE' hmv hmr
      obtain ⟨hN_56, H1⟩ := req_some H1
      replace hN_56 := of_decide_eq_true hN_56
      refine append_ (S0 := S) (l1 := []) (l2 := []) (d := kd_Wit_spot) (e := 91) hF hE hI (wanted_none rfl) rfl (A := A_8) (c := c_9) (l := s1.2) rfl (A2 := A_52) (c2 := (([(⟨t_22.1, (bif t_22.2.1 then 3 else 0), (⟨1, s1.1⟩ : Item)⟩ : Wit_spot)] : List Wit_spot).length)) rfl hq_7 hq_53 (fun sv u hu => by exact kd_one_Wit_spot _ sv u hu) Try.underlying88 (zi := (.agg #[.int .i64 0, .int .i64 0, .int .i64 0, .int .i64 0], 4, 32)) (by kernel_rfl) rfl (by kernel_rfl) (len_max (by decide) hN_56) hN_56 (fun A_57 c_58 => ⟨[⟨38, [], .v (.slice A_57 (s1.2 ++ [(⟨t_22.1, (bif t_22.2.1 then 3 else 0), (⟨1, s1.1⟩ : Item)⟩ : Wit_spot)]).length c_58)⟩, ⟨37, [], .v (.slice A_52 ([(⟨t_22.1, (bif t_22.2.1 then 3 else 0), (⟨1, s1.1⟩ : Item)⟩ : Wit_spot)] : List Wit_spot).length (([(⟨t_22.1, (bif t_22.2.1 then 3 else 0), (⟨1, s1.1⟩ : Item)⟩ : Wit_spot)] : List Wit_spot).length))⟩, ⟨36, [], .v (.agg #[.int .i64 t_22.1, .int .i64 (bif t_22.2.1 then 3 else 0), .int .i64 1, .int .i64 s1.1])⟩, ⟨35, [], .v (.slice A_8 s1.2.length c_9)⟩, ⟨6, [], .v (.int .i64 s1.1)⟩, ⟨7, [], .p 0 0⟩, ⟨16, [], .v (.int .i64 s1.1)⟩, ⟨15, [], .v (.int .i64 (l0.length : Int))⟩, ⟨14, [], .v (.slice A0 l0.length c0)⟩, ⟨5, [], .v (.slice A_8 s1.2.length c_9)⟩, ⟨4, [], .v (.slice none 0 0)⟩, ⟨0, [], .v (.slice A0 l0.length c0)⟩, ⟨1, [], .v (.slice A1 l1.length c1)⟩], [], [], [((((kd_Call).cells (rd l0 s1.1) sv_17).map EV.v), 42), ([.v (.int .i64 t_22.1), .v (.int .i64 (bif t_22.2.1 then 3 else 0)), .v (.int .i64 1), .v (.int .i64 s1.1)], 91)], none, none⟩) (fun A_57 c_58 => by kernel_rfl) (fun A_57 c_58 a w_59 hput hE' hI' hmv hmr hq_7 => ?_)
      replace hr0 := Arr.keep hr0 (hmv _)
      replace hr1 := Arr.keep hr1 (hmv _)
      replace hE_19 := El.keep hE_19 (hmv _)
      replace hq_53 := Arr.keep hq_53 (hmv _)
      replace hE := hE'
      replace hI := hI'
      clear hE' hI' hmv hmr
      refine chunkL_ (live := [5, 6, 7, 16, 15, 14, 4, 0, 1]) (orc := []) hF 1 hI ⟨[⟨5, [], .v (.slice A_57 (s1.2 ++ [(⟨t_22.1, (bif t_22.2.1 then 3 else 0), (⟨1, s1.1⟩ : Item)⟩ : Wit_spot)]).length c_58)⟩, ⟨6, [], .v (.int .i64 s1.1)⟩, ⟨7, [], .p 0 0⟩, ⟨16, [], .v (.int .i64 s1.1)⟩, ⟨15, [], .v (.int .i64 (l0.length : Int))⟩, ⟨14, [], .v (.slice A0 l0.length c0)⟩, ⟨4, [], .v (.slice none 0 0)⟩, ⟨0, [], .v (.slice A0 l0.length c0)⟩, ⟨1, [], .v (.slice A1 l1.length c1)⟩], [], [], [((((kd_Call).cells (rd l0 s1.1) sv_17).map EV.v), 42), ([.v (.int .i64 t_22.1), .v (.int .i64 (bif t_22.2.1 then 3 else 0)), .v (.int .i64 1), .v (.int .i64 s1.1)], 91)], none, none⟩ [] rfl (by kernel_rfl) trivial (fun ns_60 a w_61 hI => ?_)
      refine wpListIn_nil ?_
      refine then_normal ?_
      refine seq_region (live := [41, 5, 6, 7, 16, 15, 14, 4, 0, 1]) (orc := []) hF hI ⟨[⟨41, [], .v (.bool (decide (((rd l0 s1.1).Ring) ≥ 0)))⟩, ⟨5, [], .v (.slice A_57 (s1.2 ++ [(⟨t_22.1, (bif t_22.2.1 then 3 else 0), (⟨1, s1.1⟩ : Item)⟩ : Wit_spot)]).length c_58)⟩, ⟨6, [], .v (.int .i64 s1.1)⟩, ⟨7, [], .p 0 0⟩, ⟨16, [], .v (.int .i64 s1.1)⟩, ⟨15, [], .v (.int .i64 (l0.length : Int))⟩, ⟨14, [], .v (.slice A0 l0.length c0)⟩, ⟨4, [], .v (.slice none 0 0)⟩, ⟨0, [], .v (.slice A0 l0.length c0)⟩, ⟨1, [], .v (.slice A1 l1.length c1)⟩], [], [], [((((kd_Call).cells (rd l0 s1.1) sv_17).map EV.v), 42), ([.v (.int .i64 t_22.1), .v (.int .i64 (bif t_22.2.1 then 3 else 0)), .v (.int .i64 1), .v (.int .i64 s1.1)], 91)], none, none⟩ [] (by kernel_rfl) trivial (fun ns_62 a w_63 hI _ => ?_)
      refine cond_ hI (decide (((rd l0 s1.1).Ring) ≥ 0)) rfl (fun hc_64 => ?_) (fun hc_64 => ?_)
      ·replace H1 := bif_t hc_64 H1
       refine wpIn_region_lit ?_
       refine chunkL_ (live := [47, 42, 5, 16, 15, 14, 4, 0, 1]) (orc := []) hF 6 hI ⟨[⟨47, [], .v (.agg #[.int .i64 ((rd l0 s1.1).Ring), .int .i64 1, .int .i64 2, .int .i64 s1.1])⟩, ⟨42, [], .v (.slice A_57 (s1.2 ++ [(⟨t_22.1, (bif t_22.2.1 then 3 else 0), (⟨1, s1.1⟩ : Item)⟩ : Wit_spot)]).length c_58)⟩, ⟨5, [], .v (.slice A_57 (s1.2 ++ [(⟨t_22.1, (bif t_22.2.1 then 3 else 0), (⟨1, s1.1⟩ : Item)⟩ : Wit_spot)]).length c_58)⟩, ⟨16, [], .v (.int .i64 s1.1)⟩, ⟨15, [], .v (.int .i64 (l0.length : Int))⟩, ⟨14, [], .v (.slice A0 l0.length c0)⟩, ⟨4, [], .v (.slice none 0 0)⟩, ⟨0, [], .v (.slice A0 l0.length c0)⟩, ⟨1, [], .v (.slice A1 l1.length c1)⟩], [], [], [((((kd_Call).cells (rd l0 s1.1) sv_17).map EV.v), 42), ([.v (.int .i64 t_22.1), .v (.int .i64 (bif t_22.2.1 then 3 else 0)), .v (.int .i64 1), .v (.int .i64 s1.1)], 91)], none, none⟩ [] rfl (by kernel_rfl) trivial (fun ns_65 a w_66 hI => ?_)
       obtain ⟨hE', hmv, hmr⟩ := Ep.rebase hE hI
       replace hr0 := Arr.keep hr0 (hmv _)
       replace hr1 := Arr.keep hr1 (hmv _)
       replace hE_19 := El.keep hE_19 (hmv _)
       replace hq_53 := Arr.keep hq_53 (hmv _)
       replace hq_7 := Row.keep hq_7 (hmv _) (fun b hb => hmr b (by simp [hb]))
       replace hE := hE'
       replace hI := hI.rebase
       clear hE' hmv hmr
       refine buildSlice_ (S0 := S) (d := kd_Wit_spot) (e := 91) hF hE hI (wanted_none rfl) rfl (by kernel_rfl) (cs := [.int .i64 ((rd l0 s1.1).Ring), .int .i64 1, .int .i64 2, .int .i64 s1.1]) (by kernel_rfl) [(⟨(rd l0 s1.1).Ring, 1, (⟨2, s1.1⟩ : Item)⟩ : Wit_spot)] [(svL [])] rfl rfl (by simp [maxLen]) (fun i x hi => by cases i with | zero => (simp only [List.getElem?_cons_zero, Option.some.injEq] at hi; subst hi; exact ⟨trivial, rfl⟩) | succ i => (simp only [List.getElem?_cons_succ] at hi; simp at hi)) (fun A_67 => ⟨[⟨48, [], .v (.slice A_67 ([(⟨(rd l0 s1.1).Ring, 1, (⟨2, s1.1⟩ : Item)⟩ : Wit_spot)] : List Wit_spot).length (([(⟨(rd l0 s1.1).Ring, 1, (⟨2, s1.1⟩ : Item)⟩ : Wit_spot)] : List Wit_spot).length))⟩, ⟨47, [], .v (.agg #[.int .i64 ((rd l0 s1.1).Ring), .int .i64 1, .int .i64 2, .int .i64 s1.1])⟩, ⟨42, [], .v (.slice A_57 (s1.2 ++ [(⟨t_22.1, (bif t_22.2.1 then 3 else 0), (⟨1, s1.1⟩ : Item)⟩ : Wit_spot)]).length c_58)⟩, ⟨5, [], .v (.slice A_57 (s1.2 ++ [(⟨t_22.1, (bif t_22.2.1 then 3 else 0), (⟨1, s1.1⟩ : Item)⟩ : Wit_spot)]).length c_58)⟩, ⟨16, [], .v (.int .i64 s1.1)⟩, ⟨15, [], .v (.int .i64 (l0.length : Int))⟩, ⟨14, [], .v (.slice A0 l0.length c0)⟩, ⟨4, [], .v (.slice none 0 0)⟩, ⟨0, [], .v (.slice A0 l0.length c0)⟩, ⟨1, [], .v (.slice A1 l1.length c1)⟩], [], [], [((((kd_Call).cells (rd l0 s1.1) sv_17).map EV.v), 42), ([.v (.int .i64 t_22.1), .v (.int .i64 (bif t_22.2.1 then 3 else 0)), .v (.int .i64 1), .v (.int .i64 s1.1)], 91)], none, none⟩) (fun A_67 => by kernel_rfl) (fun A_67 a w_69 hput hE' hI' hmv hmr hq_68 => ?_)
       replace hr0 := Arr.keep hr0 (hmv _)
       replace hr1 := Arr.keep hr1 (hmv _)
       replace hE_19 := El.keep hE_19 (hmv _)
       replace hq_53 := Arr.keep hq_53 (hmv _)
       replace hq_7 := Row.keep hq_7 (hmv _) (fun b hb => hmr b (by simp [hb]) (by simp))
       replace hE := hE'
       replace hI := hI'
       clear hE' hI' hmv hmr
       obtain ⟨hE', hmv, hq_68, hcap_70⟩ := Row.still (l1 := [rb A_57]) (l2 := []) hq_68 (Nat.le_refl _) hE
       have hmr : ∀ b ∈ ([rb A_57, rb A_67] : List (List Nat)).flatten, w_69.heap[b]? = w_69.heap[b]? := fun _ _ => rfl
       replace hr0 := Arr.keep hr0 (hmv _)
       replace hr1 := Arr.keep hr1 (hmv _)
       replace hE_19 := El.keep hE_19 (hmv _)
       replace hq_53 := Arr.keep hq_53 (hmv _)
       replace hq_7 := Row.keep hq_7 (hmv _) (fun b hb => hmr b (by simp [hb]))
       replace hE := hE'
       clear hE' hmv hmr
       obtain ⟨hN_71, H1⟩ := req_some H1
       replace hN_71 := of_decide_eq_true hN_71
       refine append_ (S0 := S) (l1 := []) (l2 := []) (d := kd_Wit_spot) (e := 91) hF hE hI (wanted_none rfl) rfl (A := A_57) (c := c_58) (l := (s1.2 ++ [(⟨t_22.1, (bif t_22.2.1 then 3 else 0), (⟨1, s1.1⟩ : Item)⟩ : Wit_spot)])) rfl (A2 := A_67) (c2 := (([(⟨(rd l0 s1.1).Ring, 1, (⟨2, s1.1⟩ : Item)⟩ : Wit_spot)] : List Wit_spot).length)) rfl hq_7 hq_68 (fun sv u hu => by exact kd_one_Wit_spot _ sv u hu) Try.underlying88 (zi := (.agg #[.int .i64 0, .int .i64 0, .int .i64 0, .int .i64 0], 4, 32)) (by kernel_rfl) rfl (by kernel_rfl) (len_max (by decide) hN_71) hN_71 (fun A_72 c_73 => ⟨[⟨49, [], .v (.slice A_72 ((s1.2 ++ [(⟨t_22.1, (bif t_22.2.1 then 3 else 0), (⟨1, s1.1⟩ : Item)⟩ : Wit_spot)]) ++ [(⟨(rd l0 s1.1).Ring, 1, (⟨2, s1.1⟩ : Item)⟩ : Wit_spot)]).length c_73)⟩, ⟨48, [], .v (.slice A_67 ([(⟨(rd l0 s1.1).Ring, 1, (⟨2, s1.1⟩ : Item)⟩ : Wit_spot)] : List Wit_spot).length (([(⟨(rd l0 s1.1).Ring, 1, (⟨2, s1.1⟩ : Item)⟩ : Wit_spot)] : List Wit_spot).length))⟩, ⟨47, [], .v (.agg #[.int .i64 ((rd l0 s1.1).Ring), .int .i64 1, .int .i64 2, .int .i64 s1.1])⟩, ⟨42, [], .v (.slice A_57 (s1.2 ++ [(⟨t_22.1, (bif t_22.2.1 then 3 else 0), (⟨1, s1.1⟩ : Item)⟩ : Wit_spot)]).length c_58)⟩, ⟨5, [], .v (.slice A_57 (s1.2 ++ [(⟨t_22.1, (bif t_22.2.1 then 3 else 0), (⟨1, s1.1⟩ : Item)⟩ : Wit_spot)]).length c_58)⟩, ⟨16, [], .v (.int .i64 s1.1)⟩, ⟨15, [], .v (.int .i64 (l0.length : Int))⟩, ⟨14, [], .v (.slice A0 l0.length c0)⟩, ⟨4, [], .v (.slice none 0 0)⟩, ⟨0, [], .v (.slice A0 l0.length c0)⟩, ⟨1, [], .v (.slice A1 l1.length c1)⟩], [], [], [((((kd_Call).cells (rd l0 s1.1) sv_17).map EV.v), 42), ([.v (.int .i64 t_22.1), .v (.int .i64 (bif t_22.2.1 then 3 else 0)), .v (.int .i64 1), .v (.int .i64 s1.1)], 91)], none, none⟩) (fun A_72 c_73 => by kernel_rfl) (fun A_72 c_73 a w_74 hput hE' hI' hmv hmr hq_7 => ?_)
       replace hr0 := Arr.keep hr0 (hmv _)
       replace hr1 := Arr.keep hr1 (hmv _)
       replace hE_19 := El.keep hE_19 (hmv _)
       replace hq_53 := Arr.keep hq_53 (hmv _)
       replace hq_68 := Arr.keep hq_68 (hmv _)
       replace hE := hE'
       replace hI := hI'
       clear hE' hI' hmv hmr
       refine chunkL_ (live := [5, 16, 15, 14, 4, 0, 1]) (orc := []) hF 1 hI ⟨[⟨5, [], .v (.slice A_72 ((s1.2 ++ [(⟨t_22.1, (bif t_22.2.1 then 3 else 0), (⟨1, s1.1⟩ : Item)⟩ : Wit_spot)]) ++ [(⟨(rd l0 s1.1).Ring, 1, (⟨2, s1.1⟩ : Item)⟩ : Wit_spot)]).length c_73)⟩, ⟨16, [], .v (.int .i64 s1.1)⟩, ⟨15, [], .v (.int .i64 (l0.length : Int))⟩, ⟨14, [], .v (.slice A0 l0.length c0)⟩, ⟨4, [], .v (.slice none 0 0)⟩, ⟨0, [], .v (.slice A0 l0.length c0)⟩, ⟨1, [], .v (.slice A1 l1.length c1)⟩], [], [], [((((kd_Call).cells (rd l0 s1.1) sv_17).map EV.v), 42), ([.v (.int .i64 t_22.1), .v (.int .i64 (bif t_22.2.1 then 3 else 0)), .v (.int .i64 1), .v (.int .i64 s1.1)], 91)], none, none⟩ [] rfl (by kernel_rfl) trivial (fun ns_75 a w_76 hI => ?_)
       refine wpListIn_nil ?_
       refine inBlock_normal ?_
       refine then_normal ?_
       refine region_ (live := [16, 5, 15, 14, 4, 0, 1]) (orc := []) hF hI ⟨[⟨16, [], .v (.int .i64 (IntKind.i64.wrap (s1.1 + 1)))⟩, ⟨5, [], .v (.slice A_72 ((s1.2 ++ [(⟨t_22.1, (bif t_22.2.1 then 3 else 0), (⟨1, s1.1⟩ : Item)⟩ : Wit_spot)]) ++ [(⟨(rd l0 s1.1).Ring, 1, (⟨2, s1.1⟩ : Item)⟩ : Wit_spot)]).length c_73)⟩, ⟨15, [], .v (.int .i64 (l0.length : Int))⟩, ⟨14, [], .v (.slice A0 l0.length c0)⟩, ⟨4, [], .v (.slice none 0 0)⟩, ⟨0, [], .v (.slice A0 l0.length c0)⟩, ⟨1, [], .v (.slice A1 l1.length c1)⟩], [], [], [((((kd_Call).cells (rd l0 s1.1) sv_17).map EV.v), 42), ([.v (.int .i64 t_22.1), .v (.int .i64 (bif t_22.2.1 then 3 else 0)), .v (.int .i64 1), .v (.int .i64 s1.1)], 91)], none, none⟩ [] (by kernel_rfl) trivial (fun ns_77 a w_78 hI _ => ?_)
       refine then_normal ?_
       obtain ⟨hE', hmv, hmr⟩ := Ep.rebase hE hI
       replace hr0 := Arr.keep hr0 (hmv _)
       replace hr1 := Arr.keep hr1 (hmv _)
       replace hE_19 := El.keep hE_19 (hmv _)
       replace hq_53 := Arr.keep hq_53 (hmv _)
       replace hq_68 := Arr.keep hq_68 (hmv _)
       replace hq_7 := Row.keep hq_7 (hmv _) (fun b hb => hmr b (by simp [hb]))
       replace hE := hE'
       replace hI := hI.rebase
       clear hE' hmv hmr
       obtain rfl := Option.some.inj H1
       exact ⟨_, rfl, ⟨_, _, _, _, hr0, hr1, hq_7, hE, hI.pick [16, 15, 14, 5, 4, 0, 1] 0 ⟨[⟨16, [], .v (.int .i64 (IntKind.i64.wrap (s1.1 + 1)))⟩, ⟨15, [], .v (.int .i64 (l0.length : Int))⟩, ⟨14, [], .v (.slice A0 l0.length c0)⟩, ⟨5, [], .v (.slice A_72 ((s1.2 ++ [(⟨t_22.1, (bif t_22.2.1 then 3 else 0), (⟨1, s1.1⟩ : Item)⟩ : Wit_spot)]) ++ [(⟨(rd l0 s1.1).Ring, 1, (⟨2, s1.1⟩ : Item)⟩ : Wit_spot)]).length c_73)⟩, ⟨4, [], .v (.slice none 0 0)⟩, ⟨0, [], .v (.slice A0 l0.length c0)⟩, ⟨1, [], .v (.slice A1 l1.length c1)⟩], [], [], [], none, none⟩ (by kernel_rfl)⟩⟩
      ·replace H1 := bif_f hc_64 H1
       refine wpIn_skip ?_
       refine inBlock_normal ?_
       refine then_normal ?_
       refine region_ (live := [16, 5, 15, 14, 4, 0, 1]) (orc := []) hF hI ⟨[⟨16, [], .v (.int .i64 (IntKind.i64.wrap (s1.1 + 1)))⟩, ⟨5, [], .v (.slice A_57 (s1.2 ++ [(⟨t_22.1, (bif t_22.2.1 then 3 else 0), (⟨1, s1.1⟩ : Item)⟩ : Wit_spot)]).length c_58)⟩, ⟨15, [], .v (.int .i64 (l0.length : Int))⟩, ⟨14, [], .v (.slice A0 l0.length c0)⟩, ⟨4, [], .v (.slice none 0 0)⟩, ⟨0, [], .v (.slice A0 l0.length c0)⟩, ⟨1, [], .v (.slice A1 l1.length c1)⟩], [], [], [((((kd_Call).cells (rd l0 s1.1) sv_17).map EV.v), 42), ([.v (.int .i64 t_22.1), .v (.int .i64 (bif t_22.2.1 then 3 else 0)), .v (.int .i64 1), .v (.int .i64 s1.1)], 91)], none, none⟩ [] (by kernel_rfl) trivial (fun ns_79 a w_80 hI _ => ?_)
       refine then_normal ?_
       obtain ⟨hE', hmv, hmr⟩ := Ep.rebase hE hI
       replace hr0 := Arr.keep hr0 (hmv _)
       replace hr1 := Arr.keep hr1 (hmv _)
       replace hE_19 := El.keep hE_19 (hmv _)
       replace hq_53 := Arr.keep hq_53 (hmv _)
       replace hq_7 := Row.keep hq_7 (hmv _) (fun b hb => hmr b (by simp [hb]))
       replace hE := hE'
       replace hI := hI.rebase
       clear hE' hmv hmr
       obtain rfl := Option.some.inj H1
       exact ⟨_, rfl, ⟨_, _, _, _, hr0, hr1, hq_7, hE, hI.pick [16, 15, 14, 5, 4, 0, 1] 0 ⟨[⟨16, [], .v (.int .i64 (IntKind.i64.wrap (s1.1 + 1)))⟩, ⟨15, [], .v (.int .i64 (l0.length : Int))⟩, ⟨14, [], .v (.slice A0 l0.length c0)⟩, ⟨5, [], .v (.slice A_57 (s1.2 ++ [(⟨t_22.1, (bif t_22.2.1 then 3 else 0), (⟨1, s1.1⟩ : Item)⟩ : Wit_spot)]).length c_58)⟩, ⟨4, [], .v (.slice none 0 0)⟩, ⟨0, [], .v (.slice A0 l0.length c0)⟩, ⟨1, [], .v (.slice A1 l1.length c1)⟩], [], [], [], none, none⟩ (by kernel_rfl)⟩⟩
    ·replace H1 := bif_f hc_28 H1
     refine wpIn_skip ?_
     refine then_normal ?_
     refine seq_region (live := [41, 6, 7, 16, 15, 14, 5, 4, 0, 1]) (orc := []) hF hI ⟨[⟨41, [], .v (.bool (decide (((rd l0 s1.1).Ring) ≥ 0)))⟩, ⟨6, [], .v (.int .i64 s1.1)⟩, ⟨7, [], .p 0 0⟩, ⟨16, [], .v (.int .i64 s1.1)⟩, ⟨15, [], .v (.int .i64 (l0.length : Int))⟩, ⟨14, [], .v (.slice A0 l0.length c0)⟩, ⟨5, [], .v (.slice A_8 s1.2.length c_9)⟩, ⟨4, [], .v (.slice none 0 0)⟩, ⟨0, [], .v (.slice A0 l0.length c0)⟩, ⟨1, [], .v (.slice A1 l1.length c1)⟩], [], [], [((((kd_Call).cells (rd l0 s1.1) sv_17).map EV.v), 42)], none, none⟩ [] (by kernel_rfl) trivial (fun ns_81 a w_82 hI _ => ?_)
     refine cond_ hI (decide (((rd l0 s1.1).Ring) ≥ 0)) rfl (fun hc_83 => ?_) (fun hc_83 => ?_)
     ·replace H1 := bif_t hc_83 H1
      refine wpIn_region_lit ?_
      refine chunkL_ (live := [47, 42, 16, 15, 14, 5, 4, 0, 1]) (orc := []) hF 6 hI ⟨[⟨47, [], .v (.agg #[.int .i64 ((rd l0 s1.1).Ring), .int .i64 1, .int .i64 2, .int .i64 s1.1])⟩, ⟨42, [], .v (.slice A_8 s1.2.length c_9)⟩, ⟨16, [], .v (.int .i64 s1.1)⟩, ⟨15, [], .v (.int .i64 (l0.length : Int))⟩, ⟨14, [], .v (.slice A0 l0.length c0)⟩, ⟨5, [], .v (.slice A_8 s1.2.length c_9)⟩, ⟨4, [], .v (.slice none 0 0)⟩, ⟨0, [], .v (.slice A0 l0.length c0)⟩, ⟨1, [], .v (.slice A1 l1.length c1)⟩], [], [], [((((kd_Call).cells (rd l0 s1.1) sv_17).map EV.v), 42)], none, none⟩ [] rfl (by kernel_rfl) trivial (fun ns_84 a w_85 hI => ?_)
      obtain ⟨hE', hmv, hmr⟩ := Ep.rebase hE hI
      replace hr0 := Arr.keep hr0 (hmv _)
      replace hr1 := Arr.keep hr1 (hmv _)
      replace hq_7 := Row.keep hq_7 (hmv _) (fun b hb => hmr b (by simp [hb]))
      replace hE_19 := El.keep hE_19 (hmv _)
      replace hE := hE'
      replace hI := hI.rebase
      clear hE' hmv hmr
      refine buildSlice_ (S0 := S) (d := kd_Wit_spot) (e := 91) hF hE hI (wanted_none rfl) rfl (by kernel_rfl) (cs := [.int .i64 ((rd l0 s1.1).Ring), .int .i64 1, .int .i64 2, .int .i64 s1.1]) (by kernel_rfl) [(⟨(rd l0 s1.1).Ring, 1, (⟨2, s1.1⟩ : Item)⟩ : Wit_spot)] [(svL [])] rfl rfl (by simp [maxLen]) (fun i x hi => by cases i with | zero => (simp only [List.getElem?_cons_zero, Option.some.injEq] at hi; subst hi; exact ⟨trivial, rfl⟩) | succ i => (simp only [List.getElem?_cons_succ] at hi; simp at hi)) (fun A_86 => ⟨[⟨48, [], .v (.slice A_86 ([(⟨(rd l0 s1.1).Ring, 1, (⟨2, s1.1⟩ : Item)⟩ : Wit_spot)] : List Wit_spot).length (([(⟨(rd l0 s1.1).Ring, 1, (⟨2, s1.1⟩ : Item)⟩ : Wit_spot)] : List Wit_spot).length))⟩, ⟨47, [], .v (.agg #[.int .i64 ((rd l0 s1.1).Ring), .int .i64 1, .int .i64 2, .int .i64 s1.1])⟩, ⟨42, [], .v (.slice A_8 s1.2.length c_9)⟩, ⟨16, [], .v (.int .i64 s1.1)⟩, ⟨15, [], .v (.int .i64 (l0.length : Int))⟩, ⟨14, [], .v (.slice A0 l0.length c0)⟩, ⟨5, [], .v (.slice A_8 s1.2.length c_9)⟩, ⟨4, [], .v (.slice none 0 0)⟩, ⟨0, [], .v (.slice A0 l0.length c0)⟩, ⟨1, [], .v (.slice A1 l1.length c1)⟩], [], [], [((((kd_Call).cells (rd l0 s1.1) sv_17).map EV.v), 42)], none, none⟩) (fun A_86 => by kernel_rfl) (fun A_86 a w_88 hput hE' hI' hmv hmr hq_87 => ?_)
      replace hr0 := Arr.keep hr0 (hmv _)
      replace hr1 := Arr.keep hr1 (hmv _)
      replace hq_7 := Row.keep hq_7 (hmv _) (fun b hb => hmr b (by simp [hb]) (by simp))
      replace hE_19 := El.keep hE_19 (hmv _)
      replace hE := hE'
      replace hI := hI'
      clear hE' hI' hmv hmr
      obtain ⟨hE', hmv, hq_87, hcap_89⟩ := Row.still (l1 := [rb A_8]) (l2 := []) hq_87 (Nat.le_refl _) hE
      have hmr : ∀ b ∈ ([rb A_8, rb A_86] : List (List Nat)).flatten, w_88.heap[b]? = w_88.heap[b]? := fun _ _ => rfl
      replace hr0 := Arr.keep hr0 (hmv _)
      replace hr1 := Arr.keep hr1 (hmv _)
      replace hq_7 := Row.keep hq_7 (hmv _) (fun b hb => hmr b (by simp [hb]))
      replace hE_19 := El.keep hE_19 (hmv _)
      replace hE := hE'
      clear hE' hmv hmr
      obtain ⟨hN_90, H1⟩ := req_some H1
      replace hN_90 := of_decide_eq_true hN_90
      refine append_ (S0 := S) (l1 := []) (l2 := []) (d := kd_Wit_spot) (e := 91) hF hE hI (wanted_none rfl) rfl (A := A_8) (c := c_9) (l := s1.2) rfl (A2 := A_86) (c2 := (([(⟨(rd l0 s1.1).Ring, 1, (⟨2, s1.1⟩ : Item)⟩ : Wit_spot)] : List Wit_spot).length)) rfl hq_7 hq_87 (fun sv u hu => by exact kd_one_Wit_spot _ sv u hu) Try.underlying88 (zi := (.agg #[.int .i64 0, .int .i64 0, .int .i64 0, .int .i64 0], 4, 32)) (by kernel_rfl) rfl (by kernel_rfl) (len_max (by decide) hN_90) hN_90 (fun A_91 c_92 => ⟨[⟨49, [], .v (.slice A_91 (s1.2 ++ [(⟨(rd l0 s1.1).Ring, 1, (⟨2, s1.1⟩ : Item)⟩ : Wit_spot)]).length c_92)⟩, ⟨48, [], .v (.slice A_86 ([(⟨(rd l0 s1.1).Ring, 1, (⟨2, s1.1⟩ : Item)⟩ : Wit_spot)] : List Wit_spot).length (([(⟨(rd l0 s1.1).Ring, 1, (⟨2, s1.1⟩ : Item)⟩ : Wit_spot)] : List Wit_spot).length))⟩, ⟨47, [], .v (.agg #[.int .i64 ((rd l0 s1.1).Ring), .int .i64 1, .int .i64 2, .int .i64 s1.1])⟩, ⟨42, [], .v (.slice A_8 s1.2.length c_9)⟩, ⟨16, [], .v (.int .i64 s1.1)⟩, ⟨15, [], .v (.int .i64 (l0.length : Int))⟩, ⟨14, [], .v (.slice A0 l0.length c0)⟩, ⟨5, [], .v (.slice A_8 s1.2.length c_9)⟩, ⟨4, [], .v (.slice none 0 0)⟩, ⟨0, [], .v (.slice A0 l0.length c0)⟩, ⟨1, [], .v (.slice A1 l1.length c1)⟩], [], [], [((((kd_Call).cells (rd l0 s1.1) sv_17).map EV.v), 42)], none, none⟩) (fun A_91 c_92 => by kernel_rfl) (fun A_91 c_92 a w_93 hput hE' hI' hmv hmr hq_7 => ?_)
      replace hr0 := Arr.keep hr0 (hmv _)
      replace hr1 := Arr.keep hr1 (hmv _)
      replace hE_19 := El.keep hE_19 (hmv _)
      replace hq_87 := Arr.keep hq_87 (hmv _)
      replace hE := hE'
      replace hI := hI'
      clear hE' hI' hmv hmr
      refine chunkL_ (live := [5, 16, 15, 14, 4, 0, 1]) (orc := []) hF 1 hI ⟨[⟨5, [], .v (.slice A_91 (s1.2 ++ [(⟨(rd l0 s1.1).Ring, 1, (⟨2, s1.1⟩ : Item)⟩ : Wit_spot)]).length c_92)⟩, ⟨16, [], .v (.int .i64 s1.1)⟩, ⟨15, [], .v (.int .i64 (l0.length : Int))⟩, ⟨14, [], .v (.slice A0 l0.length c0)⟩, ⟨4, [], .v (.slice none 0 0)⟩, ⟨0, [], .v (.slice A0 l0.length c0)⟩, ⟨1, [], .v (.slice A1 l1.length c1)⟩], [], [], [((((kd_Call).cells (rd l0 s1.1) sv_17).map EV.v), 42)], none, none⟩ [] rfl (by kernel_rfl) trivial (fun ns_94 a w_95 hI => ?_)
      refine wpListIn_nil ?_
      refine inBlock_normal ?_
      refine then_normal ?_
      refine region_ (live := [16, 5, 15, 14, 4, 0, 1]) (orc := []) hF hI ⟨[⟨16, [], .v (.int .i64 (IntKind.i64.wrap (s1.1 + 1)))⟩, ⟨5, [], .v (.slice A_91 (s1.2 ++ [(⟨(rd l0 s1.1).Ring, 1, (⟨2, s1.1⟩ : Item)⟩ : Wit_spot)]).length c_92)⟩, ⟨15, [], .v (.int .i64 (l0.length : Int))⟩, ⟨14, [], .v (.slice A0 l0.length c0)⟩, ⟨4, [], .v (.slice none 0 0)⟩, ⟨0, [], .v (.slice A0 l0.length c0)⟩, ⟨1, [], .v (.slice A1 l1.length c1)⟩], [], [], [((((kd_Call).cells (rd l0 s1.1) sv_17).map EV.v), 42)], none, none⟩ [] (by kernel_rfl) trivial (fun ns_96 a w_97 hI _ => ?_)
      refine then_normal ?_
      obtain ⟨hE', hmv, hmr⟩ := Ep.rebase hE hI
      replace hr0 := Arr.keep hr0 (hmv _)
      replace hr1 := Arr.keep hr1 (hmv _)
      replace hE_19 := El.keep hE_19 (hmv _)
      replace hq_87 := Arr.keep hq_87 (hmv _)
      replace hq_7 := Row.keep hq_7 (hmv _) (fun b hb => hmr b (by simp [hb]))
      replace hE := hE'
      replace hI := hI.rebase
      clear hE' hmv hmr
      obtain rfl := Option.some.inj H1
      exact ⟨_, rfl, ⟨_, _, _, _, hr0, hr1, hq_7, hE, hI.pick [16, 15, 14, 5, 4, 0, 1] 0 ⟨[⟨16, [], .v (.int .i64 (IntKind.i64.wrap (s1.1 + 1)))⟩, ⟨15, [], .v (.int .i64 (l0.length : Int))⟩, ⟨14, [], .v (.slice A0 l0.length c0)⟩, ⟨5, [], .v (.slice A_91 (s1.2 ++ [(⟨(rd l0 s1.1).Ring, 1, (⟨2, s1.1⟩ : Item)⟩ : Wit_spot)]).length c_92)⟩, ⟨4, [], .v (.slice none 0 0)⟩, ⟨0, [], .v (.slice A0 l0.length c0)⟩, ⟨1, [], .v (.slice A1 l1.length c1)⟩], [], [], [], none, none⟩ (by kernel_rfl)⟩⟩
     ·replace H1 := bif_f hc_83 H1
      refine wpIn_skip ?_
      refine inBlock_normal ?_
      refine then_normal ?_
      refine region_ (live := [16, 15, 14, 5, 4, 0, 1]) (orc := []) hF hI ⟨[⟨16, [], .v (.int .i64 (IntKind.i64.wrap (s1.1 + 1)))⟩, ⟨15, [], .v (.int .i64 (l0.length : Int))⟩, ⟨14, [], .v (.slice A0 l0.length c0)⟩, ⟨5, [], .v (.slice A_8 s1.2.length c_9)⟩, ⟨4, [], .v (.slice none 0 0)⟩, ⟨0, [], .v (.slice A0 l0.length c0)⟩, ⟨1, [], .v (.slice A1 l1.length c1)⟩], [], [], [((((kd_Call).cells (rd l0 s1.1) sv_17).map EV.v), 42)], none, none⟩ [] (by kernel_rfl) trivial (fun ns_98 a w_99 hI _ => ?_)
      refine then_normal ?_
      obtain ⟨hE', hmv, hmr⟩ := Ep.rebase hE hI
      replace hr0 := Arr.keep hr0 (hmv _)
      replace hr1 := Arr.keep hr1 (hmv _)
      replace hq_7 := Row.keep hq_7 (hmv _) (fun b hb => hmr b (by simp [hb]))
      replace hE_19 := El.keep hE_19 (hmv _)
      replace hE := hE'
      replace hI := hI.rebase
      clear hE' hmv hmr
      obtain rfl := Option.some.inj H1
      exact ⟨_, rfl, ⟨_, _, _, _, hr0, hr1, hq_7, hE, hI.pick [16, 15, 14, 5, 4, 0, 1] 0 ⟨[⟨16, [], .v (.int .i64 (IntKind.i64.wrap (s1.1 + 1)))⟩, ⟨15, [], .v (.int .i64 (l0.length : Int))⟩, ⟨14, [], .v (.slice A0 l0.length c0)⟩, ⟨5, [], .v (.slice A_8 s1.2.length c_9)⟩, ⟨4, [], .v (.slice none 0 0)⟩, ⟨0, [], .v (.slice A0 l0.length c0)⟩, ⟨1, [], .v (.slice A1 l1.length c1)⟩], [], [], [], none, none⟩ (by kernel_rfl)⟩⟩
   ·replace H1 := bif_f hc_15 H1
    refine wpIn_exit ?_
    refine then_exit ?_
    refine then_exit ?_
    obtain ⟨hE', hmv, hmr⟩ := Ep.rebase hE hI
    replace hr0 := Arr.keep hr0 (hmv _)
    replace hr1 := Arr.keep hr1 (hmv _)
    replace hq_7 := Row.keep hq_7 (hmv _) (fun b hb => hmr b (by simp [hb]))
    replace hE := hE'
    replace hI := hI.rebase
    clear hE' hmv hmr
    obtain rfl := Option.some.inj H1
    exact .inl ⟨_, rfl, rfl, ⟨_, _, _, _, hr0, hr1, hq_7, hE, hI.pick [16, 15, 14, 5, 4, 0, 1] 0 ⟨[⟨16, [], .v (.int .i64 s1.1)⟩, ⟨15, [], .v (.int .i64 (l0.length : Int))⟩, ⟨14, [], .v (.slice A0 l0.length c0)⟩, ⟨5, [], .v (.slice A_8 s1.2.length c_9)⟩, ⟨4, [], .v (.slice none 0 0)⟩, ⟨0, [], .v (.slice A0 l0.length c0)⟩, ⟨1, [], .v (.slice A1 l1.length c1)⟩], [], [], [], none, none⟩ (by kernel_rfl)⟩⟩
  ·clear hI hE
   rintro s1 a w_102 ho ⟨ow_104, ns_103, A_8, c_9, hr0, hr1, hq_7, hE, hI⟩
   subst ho
   replace H0 : (((loopω (G_wit_spots.b2 l0 l1 s1) (0, s1.2)).bind fun o => o.on (fun s2 => ((G_wit_spot_49 s2.2 s2.2.length (Fn96.f50)).bind fun t_142 => some t_142)) (fun r => some r)) : Option ((List Wit_spot))) = _ := H0
   refine then_normal ?_
   refine wpIn_seq ?_
   refine seq_region (live := [53, 52, 51, 5, 4]) (orc := []) hF hI ⟨[⟨53, [], .v (.int .i64 0)⟩, ⟨52, [], .v (.int .i64 (l1.length : Int))⟩, ⟨51, [], .v (.slice A1 l1.length c1)⟩, ⟨5, [], .v (.slice A_8 s1.2.length c_9)⟩, ⟨4, [], .v (.slice none 0 0)⟩], [], [], [], none, none⟩ [] (by kernel_rfl) trivial (fun ns_105 a w_106 hI _ => ?_)
   obtain ⟨hE', hmv, hmr⟩ := Ep.rebase hE hI
   replace hr0 := Arr.keep hr0 (hmv _)
   replace hr1 := Arr.keep hr1 (hmv _)
   replace hq_7 := Row.keep hq_7 (hmv _) (fun b hb => hmr b (by simp [hb]))
   replace hE := hE'
   replace hI := hI.rebase
   clear hE' hmv hmr
   obtain ⟨o_135, hL_136, H0⟩ := bind_some H0
   refine block_loop (fun (s2 : Int × (List Wit_spot)) a w_153 => ∃ (ow ns : List Nat) (A_107 : Option Addr) (c_108 : Nat), (Arr kd_Call (Lo S w w_153 ow [rb A_107]) w_153 A0 l0) ∧ (Arr kd_Belling (Lo S w w_153 ow [rb A_107]) w_153 A1 l1) ∧ (Row kd_Wit_spot 91 (Lo S w w_153 ow [rb A_107]) w_153 w.heap.size A_107 c_108 s2.2) ∧ Ep [] w w_153 ow [rb A_107] ∧ St w_153 ow 70 ⟨[⟨53, [], .v (.int .i64 s2.1)⟩, ⟨52, [], .v (.int .i64 (l1.length : Int))⟩, ⟨51, [], .v (.slice A1 l1.length c1)⟩, ⟨5, [], .v (.slice A_107 s2.2.length c_108)⟩, ⟨4, [], .v (.slice none 0 0)⟩], [], [], [], none, none⟩ ns a w_153) (0, s1.2) hL_136 ⟨_, _, _, _, hr0, hr1, hq_7, hE, hI.pick [53, 52, 51, 5, 4] 0 ⟨[⟨53, [], .v (.int .i64 0)⟩, ⟨52, [], .v (.int .i64 (l1.length : Int))⟩, ⟨51, [], .v (.slice A1 l1.length c1)⟩, ⟨5, [], .v (.slice A_8 s1.2.length c_9)⟩, ⟨4, [], .v (.slice none 0 0)⟩], [], [], [], none, none⟩ (by kernel_rfl)⟩ ?_ ?_
   ·clear hI hE
    rintro s2 a w_109 ⟨ow_111, ns_110, A_107, c_108, hr0, hr1, hq_7, hE, hI⟩ r2 H1
    unfold G_wit_spots.b2 at H1
    refine seq_region (live := [54, 53, 52, 51, 5, 4]) (orc := []) hF hI ⟨[⟨54, [], .v (.bool (decide (s2.1 < (l1.length : Int))))⟩, ⟨53, [], .v (.int .i64 s2.1)⟩, ⟨52, [], .v (.int .i64 (l1.length : Int))⟩, ⟨51, [], .v (.slice A1 l1.length c1)⟩, ⟨5, [], .v (.slice A_107 s2.2.length c_108)⟩, ⟨4, [], .v (.slice none 0 0)⟩], [], [], [], none, none⟩ [] (by kernel_rfl) trivial (fun ns_112 a w_113 hI _ => ?_)
    refine wpIn_seq ?_
    refine cond_ hI (decide (s2.1 < (l1.length : Int))) rfl (fun hc_114 => ?_) (fun hc_114 => ?_)
    ·replace H1 := bif_t hc_114 H1
     refine wpIn_skip ?_
     refine then_normal ?_
     refine wpIn_seq ?_
     refine wpIn_block ?_
     obtain ⟨hN_115, H1⟩ := req_some H1
     obtain ⟨sv_116, hE_118, hA_117⟩ := Arr.elB (d := kd_Belling) hr1 s2.1 true (fun _ => hN_115)
     replace hE_118 := hE_118 rfl
     replace hA_117 := fun (_ : true = true) => hA_117 rfl
     refine seq_region (live := [12, 13, 53, 52, 51, 5, 4]) (orc := [(kd_Belling).cells (rd l1 s2.1) sv_116]) hF hI ⟨[⟨12, [], .v (.int .i64 s2.1)⟩, ⟨13, [], .p 0 0⟩, ⟨53, [], .v (.int .i64 s2.1)⟩, ⟨52, [], .v (.int .i64 (l1.length : Int))⟩, ⟨51, [], .v (.slice A1 l1.length c1)⟩, ⟨5, [], .v (.slice A_107 s2.2.length c_108)⟩, ⟨4, [], .v (.slice none 0 0)⟩], [], [], [((((kd_Belling).cells (rd l1 s2.1) sv_116).map EV.v), 85)], none, none⟩ [.need true ((0 : Int) ≤ s2.1 ∧ s2.1 < (l1.length : Int)), .need true (A1 = some (adr A1)), .cell true ((adr A1).add ((s2.1 : Int).toNat * 5)) ((kd_Belling).cells (rd l1 s2.1) sv_116)] (by kernel_rfl) ⟨ob_inb (fun _ => hN_115), hA_117, ob_el (fun _ => hE_118) 0 ((kd_Belling).cells (rd l1 s2.1) sv_116) rfl, trivial⟩ (fun ns_119 a w_120 hI _ => ?_)
     refine wpIn_region_lit ?_
     refine chunkL_ (live := [63, 58, 53, 52, 51, 5, 4]) (orc := []) hF 6 hI ⟨[⟨63, [], .v (.agg #[.int .i64 ((rd l1 s2.1).At), .int .i64 2, .int .i64 3, .int .i64 s2.1])⟩, ⟨58, [], .v (.slice A_107 s2.2.length c_108)⟩, ⟨53, [], .v (.int .i64 s2.1)⟩, ⟨52, [], .v (.int .i64 (l1.length : Int))⟩, ⟨51, [], .v (.slice A1 l1.length c1)⟩, ⟨5, [], .v (.slice A_107 s2.2.length c_108)⟩, ⟨4, [], .v (.slice none 0 0)⟩], [], [], [((((kd_Belling).cells (rd l1 s2.1) sv_116).map EV.v), 85)], none, none⟩ [] rfl (by kernel_rfl) trivial (fun ns_121 a w_122 hI => ?_)
     obtain ⟨hE', hmv, hmr⟩ := Ep.rebase hE hI
     replace hr0 := Arr.keep hr0 (hmv _)
     replace hr1 := Arr.keep hr1 (hmv _)
     replace hq_7 := Row.keep hq_7 (hmv _) (fun b hb => hmr b (by simp [hb]))
     replace hE_118 := El.keep hE_118 (hmv _)
     replace hE := hE'
     replace hI := hI.rebase
     clear hE' hmv hmr
     refine buildSlice_ (S0 := S) (d := kd_Wit_spot) (e := 91) hF hE hI (wanted_none rfl) rfl (by kernel_rfl) (cs := [.int .i64 ((rd l1 s2.1).At), .int .i64 2, .int .i64 3, .int .i64 s2.1]) (by kernel_rfl) [(⟨(rd l1 s2.1).At, 2, (⟨3, s2.1⟩ : Item)⟩ : Wit_spot)] [(svL [])] rfl rfl (by simp [maxLen]) (fun i x hi => by cases i with | zero => (simp only [List.getElem?_cons_zero, Option.some.injEq] at hi; subst hi; exact ⟨trivial, rfl⟩) | succ i => (simp only [List.getElem?_cons_succ] at hi; simp at hi)) (fun A_123 => ⟨[⟨64, [], .v (.slice A_123 ([(⟨(rd l1 s2.1).At, 2, (⟨3, s2.1⟩ : Item)⟩ : Wit_spot)] : List Wit_spot).length (([(⟨(rd l1 s2.1).At, 2, (⟨3, s2.1⟩ : Item)⟩ : Wit_spot)] : List Wit_spot).length))⟩, ⟨63, [], .v (.agg #[.int .i64 ((rd l1 s2.1).At), .int .i64 2, .int .i64 3, .int .i64 s2.1])⟩, ⟨58, [], .v (.slice A_107 s2.2.length c_108)⟩, ⟨53, [], .v (.int .i64 s2.1)⟩, ⟨52, [], .v (.int .i64 (l1.length : Int))⟩, ⟨51, [], .v (.slice A1 l1.length c1)⟩, ⟨5, [], .v (.slice A_107 s2.2.length c_108)⟩, ⟨4, [], .v (.slice none 0 0)⟩], [], [], [((((kd_Belling).cells (rd l1 s2.1) sv_116).map EV.v), 85)], none, none⟩) (fun A_123 => by kernel_rfl) (fun A_123 a w_125 hput hE' hI' hmv hmr hq_124 => ?_)
     replace hr0 := Arr.keep hr0 (hmv _)
     replace hr1 := Arr.keep hr1 (hmv _)
     replace hq_7 := Row.keep hq_7 (hmv _) (fun b hb => hmr b (by simp [hb]) (by simp))
     replace hE_118 := El.keep hE_118 (hmv _)
     replace hE := hE'
     replace hI := hI'
     clear hE' hI' hmv hmr
     obtain ⟨hE', hmv, hq_124, hcap_126⟩ := Row.still (l1 := [rb A_107]) (l2 := []) hq_124 (Nat.le_refl _) hE
     have hmr : ∀ b ∈ ([rb A_107, rb A_123] : List (List Nat)).flatten, w_125.heap[b]? = w_125.heap[b]? := fun _ _ => rfl
     replace hr0 := Arr.keep hr0 (hmv _)
     replace hr1 := Arr.keep hr1 (hmv _)
     replace hq_7 := Row.keep hq_7 (hmv _) (fun b hb => hmr b (by simp [hb]))
     replace hE_118 := El.keep hE_118 (hmv _)
     replace hE := hE'
     clear hE' hmv hmr
     obtain ⟨hN_127, H1⟩ := req_some H1
     replace hN_127 := of_decide_eq_true hN_127
     refine append_ (S0 := S) (l1 := []) (l2 := []) (d := kd_Wit_spot) (e := 91) hF hE hI (wanted_none rfl) rfl (A := A_107) (c := c_108) (l := s2.2) rfl (A2 := A_123) (c2 := (([(⟨(rd l1 s2.1).At, 2, (⟨3, s2.1⟩ : Item)⟩ : Wit_spot)] : List Wit_spot).length)) rfl hq_7 hq_124 (fun sv u hu => by exact kd_one_Wit_spot _ sv u hu) Try.underlying88 (zi := (.agg #[.int .i64 0, .int .i64 0, .int .i64 0, .int .i64 0], 4, 32)) (by kernel_rfl) rfl (by kernel_rfl) (len_max (by decide) hN_127) hN_127 (fun A_128 c_129 => ⟨[⟨65, [], .v (.slice A_128 (s2.2 ++ [(⟨(rd l1 s2.1).At, 2, (⟨3, s2.1⟩ : Item)⟩ : Wit_spot)]).length c_129)⟩, ⟨64, [], .v (.slice A_123 ([(⟨(rd l1 s2.1).At, 2, (⟨3, s2.1⟩ : Item)⟩ : Wit_spot)] : List Wit_spot).length (([(⟨(rd l1 s2.1).At, 2, (⟨3, s2.1⟩ : Item)⟩ : Wit_spot)] : List Wit_spot).length))⟩, ⟨63, [], .v (.agg #[.int .i64 ((rd l1 s2.1).At), .int .i64 2, .int .i64 3, .int .i64 s2.1])⟩, ⟨58, [], .v (.slice A_107 s2.2.length c_108)⟩, ⟨53, [], .v (.int .i64 s2.1)⟩, ⟨52, [], .v (.int .i64 (l1.length : Int))⟩, ⟨51, [], .v (.slice A1 l1.length c1)⟩, ⟨5, [], .v (.slice A_107 s2.2.length c_108)⟩, ⟨4, [], .v (.slice none 0 0)⟩], [], [], [((((kd_Belling).cells (rd l1 s2.1) sv_116).map EV.v), 85)], none, none⟩) (fun A_128 c_129 => by kernel_rfl) (fun A_128 c_129 a w_130 hput hE' hI' hmv hmr hq_7 => ?_)
     replace hr0 := Arr.keep hr0 (hmv _)
     replace hr1 := Arr.keep hr1 (hmv _)
     replace hE_118 := El.keep hE_118 (hmv _)
     replace hq_124 := Arr.keep hq_124 (hmv _)
     replace hE := hE'
     replace hI := hI'
     clear hE' hI' hmv hmr
     refine chunkL_ (live := [5, 53, 52, 51, 4]) (orc := []) hF 1 hI ⟨[⟨5, [], .v (.slice A_128 (s2.2 ++ [(⟨(rd l1 s2.1).At, 2, (⟨3, s2.1⟩ : Item)⟩ : Wit_spot)]).length c_129)⟩, ⟨53, [], .v (.int .i64 s2.1)⟩, ⟨52, [], .v (.int .i64 (l1.length : Int))⟩, ⟨51, [], .v (.slice A1 l1.length c1)⟩, ⟨4, [], .v (.slice none 0 0)⟩], [], [], [((((kd_Belling).cells (rd l1 s2.1) sv_116).map EV.v), 85)], none, none⟩ [] rfl (by kernel_rfl) trivial (fun ns_131 a w_132 hI => ?_)
     refine wpListIn_nil ?_
     refine inBlock_normal ?_
     refine then_normal ?_
     refine region_ (live := [53, 5, 52, 51, 4]) (orc := []) hF hI ⟨[⟨53, [], .v (.int .i64 (IntKind.i64.wrap (s2.1 + 1)))⟩, ⟨5, [], .v (.slice A_128 (s2.2 ++ [(⟨(rd l1 s2.1).At, 2, (⟨3, s2.1⟩ : Item)⟩ : Wit_spot)]).length c_129)⟩, ⟨52, [], .v (.int .i64 (l1.length : Int))⟩, ⟨51, [], .v (.slice A1 l1.length c1)⟩, ⟨4, [], .v (.slice none 0 0)⟩], [], [], [((((kd_Belling).cells (rd l1 s2.1) sv_116).map EV.v), 85)], none, none⟩ [] (by kernel_rfl) trivial (fun ns_133 a w_134 hI _ => ?_)
     refine then_normal ?_
     obtain ⟨hE', hmv, hmr⟩ := Ep.rebase hE hI
     replace hr0 := Arr.keep hr0 (hmv _)
     replace hr1 := Arr.keep hr1 (hmv _)
     replace hE_118 := El.keep hE_118 (hmv _)
     replace hq_124 := Arr.keep hq_124 (hmv _)
     replace hq_7 := Row.keep hq_7 (hmv _) (fun b hb => hmr b (by simp [hb]))
     replace hE := hE'
     replace hI := hI.rebase
     clear hE' hmv hmr
     obtain rfl := Option.some.inj H1
     exact ⟨_, rfl, ⟨_, _, _, _, hr0, hr1, hq_7, hE, hI.pick [53, 52, 51, 5, 4] 0 ⟨[⟨53, [], .v (.int .i64 (IntKind.i64.wrap (s2.1 + 1)))⟩, ⟨52, [], .v (.int .i64 (l1.length : Int))⟩, ⟨51, [], .v (.slice A1 l1.length c1)⟩, ⟨5, [], .v (.slice A_128 (s2.2 ++ [(⟨(rd l1 s2.1).At, 2, (⟨3, s2.1⟩ : Item)⟩ : Wit_spot)]).length c_129)⟩, ⟨4, [], .v (.slice none 0 0)⟩], [], [], [], none, none⟩ (by kernel_rfl)⟩⟩
    ·replace H1 := bif_f hc_114 H1
     refine wpIn_exit ?_
     refine then_exit ?_
     refine then_exit ?_
     obtain ⟨hE', hmv, hmr⟩ := Ep.rebase hE hI
     replace hr0 := Arr.keep hr0 (hmv _)
     replace hr1 := Arr.keep hr1 (hmv _)
     replace hq_7 := Row.keep hq_7 (hmv _) (fun b hb => hmr b (by simp [hb]))
     replace hE := hE'
     replace hI := hI.rebase
     clear hE' hmv hmr
     obtain rfl := Option.some.inj H1
     exact .inl ⟨_, rfl, rfl, ⟨_, _, _, _, hr0, hr1, hq_7, hE, hI.pick [53, 52, 51, 5, 4] 0 ⟨[⟨53, [], .v (.int .i64 s2.1)⟩, ⟨52, [], .v (.int .i64 (l1.length : Int))⟩, ⟨51, [], .v (.slice A1 l1.length c1)⟩, ⟨5, [], .v (.slice A_107 s2.2.length c_108)⟩, ⟨4, [], .v (.slice none 0 0)⟩], [], [], [], none, none⟩ (by kernel_rfl)⟩⟩
   ·clear hI hE
    rintro s2 a w_137 ho ⟨ow_139, ns_138, A_107, c_108, hr0, hr1, hq_7, hE, hI⟩
    subst ho
    replace H0 : (((G_wit_spot_49 s2.2 s2.2.length (Fn96.f50)).bind fun t_142 => some t_142) : Option ((List Wit_spot))) = _ := H0
    refine then_normal ?_
    refine wpIn_seq ?_
    refine wpIn_region_lit ?_
    refine chunkL_ (live := [67, 5, 4]) (orc := []) hF 1 hI ⟨[⟨67, [], .v (.slice A_107 s2.2.length c_108)⟩, ⟨5, [], .v (.slice A_107 s2.2.length c_108)⟩, ⟨4, [], .v (.slice none 0 0)⟩], [], [], [], none, none⟩ [] rfl (by kernel_rfl) trivial (fun ns_140 a w_141 hI => ?_)
    obtain ⟨hE', hmv, hmr⟩ := Ep.rebase hE hI
    replace hr0 := Arr.keep hr0 (hmv _)
    replace hr1 := Arr.keep hr1 (hmv _)
    replace hq_7 := Row.keep hq_7 (hmv _) (fun b hb => hmr b (by simp [hb]))
    replace hE := hE'
    replace hI := hI.rebase
    clear hE' hmv hmr
    obtain ⟨t_142, hG_143, H0⟩ := bind_some H0
    refine callM_ hF hE hI (wanted_none rfl) rfl (args := [.slice A_107 s2.2.length c_108, .func (.func 50) #[] #[]]) rfl (enters Try.func49 (by kernel_rfl) rfl) (fun sv_144 => .tuple #[]) [0] _ (G_wit_spot_49.calls s2.2 s2.2.length (Fn96.f50) A_107 c_108 w.heap.size (svL []) w_141 (S := Lo S w w_141 ns_140 [rb A_107]) hq_7 rfl (contI (S := Lo S w w_141 ns_140 [rb A_107]) (w := w_141) (d := kdF96) (x := (Fn96.f50)) (sv := (svL [])) trivial) (Lo.pick [0]) (hE.pick [0] (by decide)) (hE.pickLt [0]) _ hG_143) (.inl rfl) (fun sv_144 => ⟨[⟨68, [], .v (.tuple #[])⟩, ⟨67, [], .v (.slice A_107 s2.2.length c_108)⟩, ⟨5, [], .v (.slice A_107 s2.2.length c_108)⟩, ⟨4, [], .v (.slice none 0 0)⟩], [], [], [], none, none⟩) (fun sv_144 => by kernel_rfl) (fun sv_144 a w_145 hput hE' hI' hmv hmr hres hR => ?_)
    replace hr0 := Arr.keep hr0 (hmv _)
    replace hr1 := Arr.keep hr1 (hmv _)
    replace hE := hE'
    replace hI := hI'
    clear hE' hI' hmv hmr
    obtain ⟨hq_7, hln_147⟩ := hR
    replace hq_7 := Row.keep hq_7 (hres _) (fun _ _ => rfl)
    clear hres
    refine chunkL_ (live := [5, 4]) (orc := []) hF 0 hI ⟨[⟨5, [], .v (.slice A_107 s2.2.length c_108)⟩, ⟨4, [], .v (.slice none 0 0)⟩], [], [], [], none, none⟩ [] rfl (by kernel_rfl) trivial (fun ns_148 a w_149 hI => ?_)
    refine wpListIn_nil ?_
    refine then_normal ?_
    refine seq_region (live := [4]) (orc := []) hF hI ⟨[⟨4, [], .v (.slice A_107 s2.2.length c_108)⟩], [], [], [], none, none⟩ [] (by kernel_rfl) trivial (fun ns_150 a w_151 hI _ => ?_)
    replace hI := Inv.len (σf := fun q_ => ⟨[⟨4, [], .v (.slice A_107 q_ c_108)⟩], [], [], [], none, none⟩) hln_147 hI
    obtain ⟨hE', hmv, hmr⟩ := Ep.rebase hE hI
    replace hr0 := Arr.keep hr0 (hmv _)
    replace hr1 := Arr.keep hr1 (hmv _)
    replace hq_7 := Row.keep hq_7 (hmv _) (fun b hb => hmr b (by simp [hb]))
    replace hE := hE'
    replace hI := hI.rebase
    clear hE' hmv hmr
    obtain ⟨hE', hmv, hq_7, hcap_152⟩ := Row.still (l1 := []) (l2 := []) hq_7 (Nat.le_refl _) hE
    have hmr : ∀ b ∈ ([rb A_107] : List (List Nat)).flatten, w_151.heap[b]? = w_151.heap[b]? := fun _ _ => rfl
    replace hr0 := Arr.keep hr0 (hmv _)
    replace hr1 := Arr.keep hr1 (hmv _)
    replace hE := hE'
    clear hE' hmv hmr
    refine wpIn_ret ?_
    obtain rfl := Option.some.inj H0
    exact ret1 hI rfl rfl ⟨svL [(A_107, c_108)], rfl, hE.below hI, ⟨Arr.keep hq_7 (hE.out hI), hcap_152⟩⟩

/-! ### porthole/wit.All$1: function 46, an iterator -/
def G_wit_All_1.enc : (Int × Item) → SV → List Value := fun y sv => [.int .i64 y.1, .agg ((kd_Item).cells y.2 (svL [])).toArray]
def G_wit_All_1.fct : (Nat → Prop) → World → (Int × Item) → SV → Prop := fun X w y sv => True
noncomputable def G_wit_All_1.b1 {σt R : Type} (bd : σt → (Int × Item) → Option (Stp σt R)) (s0 : σt) (y1 : (List Call)) (y2 : (List Belling)) (t_3 : (List Wit_spot)) (s1 : Int × σt) : Option (Stp (Int × σt) (Ex (Int × σt) (Stp σt R))) := (bif decide (s1.1 < (t_3.length : Int)) then (req (inb s1.1 t_3.length) ((bd s1.2 ((rd t_3 s1.1).at_, (rd t_3 s1.1).item)).bind fun z => z.on (fun s_27 => some (.next ((IntKind.i64.wrap (s1.1 + 1)), s_27))) (fun r_28 => some (.out (.ret (.out r_28)))))) else some (.out (.brk (s1.1, s1.2))))
noncomputable def G_wit_All_1 {σt R : Type} (bd : σt → (Int × Item) → Option (Stp σt R)) (s0 : σt) (y1 : (List Call)) (y2 : (List Belling)) : Option (Stp σt R) := ((G_wit_spots y1 y2).bind fun t_3 => ((loopω (G_wit_All_1.b1 bd s0 y1 y2 t_3) (0, s0)).bind fun o => o.on (fun s1 => some (.next s1.2)) (fun r => some r)))
set_option maxRecDepth 100000 in
set_option maxHeartbeats 4000000 in
theorem G_wit_All_1.calls {σt R : Type} (bd : σt → (Int × Item) → Option (Stp σt R)) (s0 : σt) (y1 : (List Call)) (y2 : (List Belling)) (B1 : Addr) (sv1 : SV) (B2 : Addr) (sv2 : SV) (l : Nat) (w : World) {S : Nat → Prop} (hB1 : El (Kd.slice kd_Call) S w B1 y1 sv1) (hB2 : El (Kd.slice kd_Belling) S w B2 y2 sv2) {J : σt → (Nat → Prop) → World → Prop} {Jx : R → World → Prop} (hq : SeqH Try.prog l G_wit_All_1.enc G_wit_All_1.fct bd J Jx) (hJ : J s0 S w) (r : Stp σt R) (h : G_wit_All_1 bd s0 y1 y2 = some r) :
    Calls Try.prog 46 #[.func (.yield l) #[] #[], .pointer (some B1), .pointer (some B2)] w fun e w' => (∃ v, e = .returned v) ∧ SeqPost J Jx r w' := by
  replace hB1 := El.lo hB1
  replace hB2 := El.lo hB2
  unfold G_wit_All_1 at h
  have H0 := h
  clear h
  refine enter Try.func46 rfl [.func (.yield l) #[] #[], .pointer (some B1), .pointer (some B2)] (n := 22) rfl (Nat.le_of_ble_eq_true rfl) (fun a hI => ?_)
  have hF : FOpen Fence.wide := .inl rfl
  have hE := Ep.start w
  refine wpIn_seq ?_
  refine wpIn_region_lit ?_
  refine chunkL_ (live := [7, 6, 0]) (orc := [[.slice ((sv1 0).1) y1.length ((sv1 0).2)], [.slice ((sv2 0).1) y2.length ((sv2 0).2)]]) hF 2 hI ⟨[⟨7, [], .v (.slice ((sv2 0).1) y2.length ((sv2 0).2))⟩, ⟨6, [], .v (.slice ((sv1 0).1) y1.length ((sv1 0).2))⟩, ⟨0, [], .v (.func (.yield l) #[] #[])⟩], [], [], [], none, none⟩ [.cell true B1 [.slice ((sv1 0).1) y1.length ((sv1 0).2)], .cell true B2 [.slice ((sv2 0).1) y2.length ((sv2 0).2)]] rfl (by kernel_rfl) ⟨ob_el (fun _ => hB1) 0 [.slice ((sv1 0).1) y1.length ((sv1 0).2)] rfl, ob_el (fun _ => hB2) 0 [.slice ((sv2 0).1) y2.length ((sv2 0).2)] rfl, trivial⟩ (fun ns_1 a w_2 hI => ?_)
  obtain ⟨hE', hmv, hmr⟩ := Ep.rebase hE hI
  replace hB1 := El.keep hB1 (hmv _)
  replace hB2 := El.keep hB2 (hmv _)
  replace hE := hE'
  replace hI := hI.rebase
  clear hE' hmv hmr
  obtain ⟨t_3, hG_4, H0⟩ := bind_some H0
  refine callH_ hF hE hI (wanted_none rfl) rfl (args := [.slice ((sv1 0).1) y1.length ((sv1 0).2), .slice ((sv2 0).1) y2.length ((sv2 0).2)]) rfl (enters Try.func47 (by kernel_rfl) rfl) (fun sv_5 => .slice ((sv_5 0).1) t_3.length ((sv_5 0).2)) _ (G_wit_spots.calls y1 y2 ((sv1 0).1) ((sv1 0).2) ((sv2 0).1) ((sv2 0).2) w_2 (S := Lo S w w_2 ns_1 []) (hB1).cont.1 (hB1).cont.2 (hB2).cont.1 (hB2).cont.2 _ hG_4) (fun sv_5 => ⟨[⟨8, [], .v (.slice ((sv_5 0).1) t_3.length ((sv_5 0).2))⟩, ⟨7, [], .v (.slice ((sv2 0).1) y2.length ((sv2 0).2))⟩, ⟨6, [], .v (.slice ((sv1 0).1) y1.length ((sv1 0).2))⟩, ⟨0, [], .v (.func (.yield l) #[] #[])⟩], [], [], [], none, none⟩) (fun sv_5 => by kernel_rfl) (fun sv_5 a w_7 hput hE' hI' hmv hmr hres hR => ?_)
  replace hB1 := El.keep hB1 (hmv _)
  replace hB2 := El.keep hB2 (hmv _)
  replace hE := hE'
  replace hI := hI'
  clear hE' hI' hmv hmr
  obtain ⟨hR_6, hR_6c⟩ := hR
  replace hR_6 := Arr.keep hR_6 (hres _)
  clear hres
  refine chunkL_ (live := [10, 9, 8, 0]) (orc := []) hF 2 hI ⟨[⟨10, [], .v (.int .i64 0)⟩, ⟨9, [], .v (.int .i64 (t_3.length : Int))⟩, ⟨8, [], .v (.slice ((sv_5 0).1) t_3.length ((sv_5 0).2))⟩, ⟨0, [], .v (.func (.yield l) #[] #[])⟩], [], [], [], none, none⟩ [] rfl (by kernel_rfl) trivial (fun ns_8 a w_9 hI => ?_)
  refine wpListIn_nil ?_
  refine then_normal ?_
  obtain ⟨hE', hmv, hmr⟩ := Ep.rebase hE hI
  replace hB1 := El.keep hB1 (hmv _)
  replace hB2 := El.keep hB2 (hmv _)
  replace hR_6 := Arr.keep hR_6 (hmv _)
  replace hE := hE'
  replace hI := hI.rebase
  clear hE' hmv hmr
  have hJ' := hq.new _ _ (Tc (Lo S w w_9 ns_8 []) w_9) _ _ hJ (hE.below hI) Tc.new
  obtain ⟨o_35, hL_36, H0⟩ := bind_some H0
  refine block_loop (fun (s1 : Int × σt) a w_37 => ∃ (T : Nat → Prop), (El (Kd.slice kd_Call) T w_37 B1 y1 sv1) ∧ (El (Kd.slice kd_Belling) T w_37 B2 y2 sv2) ∧ (Arr kd_Wit_spot T w_37 (sv_5 0).1 t_3) ∧ J s1.2 T w_37 ∧ St w_37 [] 22 ⟨[⟨10, [], .v (.int .i64 s1.1)⟩, ⟨9, [], .v (.int .i64 (t_3.length : Int))⟩, ⟨8, [], .v (.slice ((sv_5 0).1) t_3.length ((sv_5 0).2))⟩, ⟨0, [], .v (.func (.yield l) #[] #[])⟩], [], [], [], none, none⟩ [] a w_37) (0, s0) hL_36 ⟨_, El.keep hB1 (Tc.mv _ _), El.keep hB2 (Tc.mv _ _), Arr.keep hR_6 (Tc.mv _ _), hJ', (hI.pick [10, 9, 8, 0] 0 ⟨[⟨10, [], .v (.int .i64 0)⟩, ⟨9, [], .v (.int .i64 (t_3.length : Int))⟩, ⟨8, [], .v (.slice ((sv_5 0).1) t_3.length ((sv_5 0).2))⟩, ⟨0, [], .v (.func (.yield l) #[] #[])⟩], [], [], [], none, none⟩ (by kernel_rfl)).reset rfl rfl rfl _⟩ ?_ ?_
  ·clear hI hE hJ hJ'
   rintro s1 a w ⟨S, hB1, hB2, hR_6, hJ, hI⟩ r1 H1
   unfold G_wit_All_1.b1 at H1
   have hE := Ep.start w
   replace hB1 := El.lo hB1
   replace hB2 := El.lo hB2
   replace hR_6 := Arr.lo hR_6
   refine seq_region (live := [11, 10, 9, 8, 0]) (orc := []) hF hI ⟨[⟨11, [], .v (.bool (decide (s1.1 < (t_3.length : Int))))⟩, ⟨10, [], .v (.int .i64 s1.1)⟩, ⟨9, [], .v (.int .i64 (t_3.length : Int))⟩, ⟨8, [], .v (.slice ((sv_5 0).1) t_3.length ((sv_5 0).2))⟩, ⟨0, [], .v (.func (.yield l) #[] #[])⟩], [], [], [], none, none⟩ [] (by kernel_rfl) trivial (fun ns_10 a w_11 hI _ => ?_)
   refine wpIn_seq ?_
   refine cond_ hI (decide (s1.1 < (t_3.length : Int))) rfl (fun hc_12 => ?_) (fun hc_12 => ?_)
   ·replace H1 := bif_t hc_12 H1
    refine wpIn_skip ?_
    refine then_normal ?_
    refine wpIn_seq ?_
    refine wpIn_block ?_
    obtain ⟨hN_13, H1⟩ := req_some H1
    obtain ⟨sv_14, hE_16, hA_15⟩ := Arr.elB (d := kd_Wit_spot) hR_6 s1.1 true (fun _ => hN_13)
    replace hE_16 := hE_16 rfl
    replace hA_15 := fun (_ : true = true) => hA_15 rfl
    refine seq_region (live := [5, 10, 9, 8, 0]) (orc := [(kd_Wit_spot).cells (rd t_3 s1.1) sv_14]) hF hI ⟨[⟨5, [], .p 0 0⟩, ⟨10, [], .v (.int .i64 s1.1)⟩, ⟨9, [], .v (.int .i64 (t_3.length : Int))⟩, ⟨8, [], .v (.slice ((sv_5 0).1) t_3.length ((sv_5 0).2))⟩, ⟨0, [], .v (.func (.yield l) #[] #[])⟩], [], [], [((((kd_Wit_spot).cells (rd t_3 s1.1) sv_14).map EV.v), 91)], none, none⟩ [.need true ((0 : Int) ≤ s1.1 ∧ s1.1 < (t_3.length : Int)), .need true ((sv_5 0).1 = some (adr ((sv_5 0).1))), .cell true ((adr ((sv_5 0).1)).add ((s1.1 : Int).toNat * 4)) ((kd_Wit_spot).cells (rd t_3 s1.1) sv_14)] (by kernel_rfl) ⟨ob_inb (fun _ => hN_13), hA_15, ob_el (fun _ => hE_16) 0 ((kd_Wit_spot).cells (rd t_3 s1.1) sv_14) rfl, trivial⟩ (fun ns_17 a w_18 hI _ => ?_)
    refine wpIn_seq ?_
    refine wpIn_region_lit ?_
    refine chunkL_ (live := [18, 16, 14, 10, 9, 8, 0]) (orc := []) hF 5 hI ⟨[⟨18, [], .v (.agg #[.int .i64 ((rd t_3 s1.1).item.Kind), .int .i64 ((rd t_3 s1.1).item.Of)])⟩, ⟨16, [], .v (.int .i64 ((rd t_3 s1.1).at_))⟩, ⟨14, [], .v (.func (.yield l) #[] #[])⟩, ⟨10, [], .v (.int .i64 s1.1)⟩, ⟨9, [], .v (.int .i64 (t_3.length : Int))⟩, ⟨8, [], .v (.slice ((sv_5 0).1) t_3.length ((sv_5 0).2))⟩, ⟨0, [], .v (.func (.yield l) #[] #[])⟩], [], [], [((((kd_Wit_spot).cells (rd t_3 s1.1) sv_14).map EV.v), 91)], none, none⟩ [] rfl (by kernel_rfl) trivial (fun ns_19 a w_20 hI => ?_)
    obtain ⟨hE', hmv, hmr⟩ := Ep.rebase hE hI
    replace hB1 := El.keep hB1 (hmv _)
    replace hB2 := El.keep hB2 (hmv _)
    replace hR_6 := Arr.keep hR_6 (hmv _)
    replace hE_16 := El.keep hE_16 (hmv _)
    replace hE := hE'
    replace hI := hI.rebase
    clear hE' hmv hmr
    have hct := contI (S := Lo S w w_20 ns_19 []) (w := w_20) (d := kd_Wit_spot) (x := (rd t_3 s1.1)) (sv := (svL [])) trivial
    obtain ⟨B_21, ns_23, hE', hI', hmv, hB_22⟩ := freeze_ (d := kd_Wit_spot) hE hI 0 (rd t_3 s1.1) (svL []) 91 rfl
    replace hB_22 := hB_22 _ hct
    clear hct
    have hmr : ∀ b ∈ ([] : List (List Nat)).flatten, w_20.heap[b]? = w_20.heap[b]? := fun _ _ => rfl
    replace hB1 := El.keep hB1 (hmv _)
    replace hB2 := El.keep hB2 (hmv _)
    replace hR_6 := Arr.keep hR_6 (hmv _)
    replace hE_16 := El.keep hE_16 (hmv _)
    replace hE := hE'
    replace hI := hI'
    clear hE' hI' hmv hmr
    obtain ⟨ns_24, hE', hI', hmv⟩ := hE.cut hI [18, 16, 14, 10, 9, 8, 0] 0 ⟨[⟨18, [], .v (.agg #[.int .i64 ((rd t_3 s1.1).item.Kind), .int .i64 ((rd t_3 s1.1).item.Of)])⟩, ⟨16, [], .v (.int .i64 ((rd t_3 s1.1).at_))⟩, ⟨14, [], .v (.func (.yield l) #[] #[])⟩, ⟨10, [], .v (.int .i64 s1.1)⟩, ⟨9, [], .v (.int .i64 (t_3.length : Int))⟩, ⟨8, [], .v (.slice ((sv_5 0).1) t_3.length ((sv_5 0).2))⟩, ⟨0, [], .v (.func (.yield l) #[] #[])⟩], [], [], [], none, none⟩ (by kernel_rfl)
    have hmr : ∀ b ∈ ([] : List (List Nat)).flatten, w_20.heap[b]? = w_20.heap[b]? := fun _ _ => rfl
    replace hB1 := El.keep hB1 (hmv _)
    replace hB2 := El.keep hB2 (hmv _)
    replace hR_6 := Arr.keep hR_6 (hmv _)
    replace hE_16 := El.keep hE_16 (hmv _)
    replace hB_22 := El.keep hB_22 (hmv _)
    replace hE := hE'
    replace hI := hI'
    clear hE' hI' hmv hmr
    obtain ⟨hE', hmv⟩ := hE.bare
    replace hB1 := El.keep hB1 (hmv _)
    replace hB2 := El.keep hB2 (hmv _)
    replace hR_6 := Arr.keep hR_6 (hmv _)
    replace hE_16 := El.keep hE_16 (hmv _)
    replace hB_22 := El.keep hB_22 (hmv _)
    replace hE := hE'
    replace hI := hI.reset rfl rfl rfl w_20
    clear hE' hmv
    obtain ⟨z_25, hz_26, H1⟩ := bind_some H1
    refine yield_ (S0 := S) hq hF hE hI rfl rfl rfl (wanted_none rfl) rfl rfl rfl hJ ((rd t_3 s1.1).at_, (rd t_3 s1.1).item) (svL []) rfl hz_26 trivial ⟨[⟨19, [], .v (.bool true)⟩, ⟨18, [], .v (.agg #[.int .i64 ((rd t_3 s1.1).item.Kind), .int .i64 ((rd t_3 s1.1).item.Of)])⟩, ⟨16, [], .v (.int .i64 ((rd t_3 s1.1).at_))⟩, ⟨14, [], .v (.func (.yield l) #[] #[])⟩, ⟨10, [], .v (.int .i64 s1.1)⟩, ⟨9, [], .v (.int .i64 (t_3.length : Int))⟩, ⟨8, [], .v (.slice ((sv_5 0).1) t_3.length ((sv_5 0).2))⟩, ⟨0, [], .v (.func (.yield l) #[] #[])⟩], [], [], [], none, none⟩ ⟨[⟨19, [], .v (.bool false)⟩, ⟨18, [], .v (.agg #[.int .i64 ((rd t_3 s1.1).item.Kind), .int .i64 ((rd t_3 s1.1).item.Of)])⟩, ⟨16, [], .v (.int .i64 ((rd t_3 s1.1).at_))⟩, ⟨14, [], .v (.func (.yield l) #[] #[])⟩, ⟨10, [], .v (.int .i64 s1.1)⟩, ⟨9, [], .v (.int .i64 (t_3.length : Int))⟩, ⟨8, [], .v (.slice ((sv_5 0).1) t_3.length ((sv_5 0).2))⟩, ⟨0, [], .v (.func (.yield l) #[] #[])⟩], [], [], [], none, none⟩ (by kernel_rfl) (by kernel_rfl) (fun S s_27 a w hzz hJ' hE' hI' hmv => ?_) (fun r_28 a w hzz hJ' hE' hI' => ?_)
    ·subst hzz
     replace hB1 := El.lo (El.keep hB1 hmv)
     replace hB2 := El.lo (El.keep hB2 hmv)
     replace hR_6 := Arr.lo (Arr.keep hR_6 hmv)
     replace hE_16 := El.lo (El.keep hE_16 hmv)
     replace hB_22 := El.lo (El.keep hB_22 hmv)
     replace hE := hE'
     replace hI := hI'
     replace hJ := hJ'
     clear hE' hI' hJ' hmv
     replace H1 : (some (.next ((IntKind.i64.wrap (s1.1 + 1)), s_27)) : Option (Stp (Int × σt) (Ex (Int × σt) (Stp σt R)))) = _ := H1
     refine chunkL_ (live := [20, 10, 9, 8, 0]) (orc := []) hF 1 hI ⟨[⟨20, [], .v (.bool false)⟩, ⟨10, [], .v (.int .i64 s1.1)⟩, ⟨9, [], .v (.int .i64 (t_3.length : Int))⟩, ⟨8, [], .v (.slice ((sv_5 0).1) t_3.length ((sv_5 0).2))⟩, ⟨0, [], .v (.func (.yield l) #[] #[])⟩], [], [], [], none, none⟩ [] rfl (by kernel_rfl) trivial (fun ns_29 a w_30 hI => ?_)
     refine wpListIn_nil ?_
     refine then_normal ?_
     refine cond_ hI false rfl (fun h => by cases h) (fun _ => ?_)
     refine wpIn_skip ?_
     refine inBlock_normal ?_
     refine then_normal ?_
     refine region_ (live := [10, 9, 8, 0]) (orc := []) hF hI ⟨[⟨10, [], .v (.int .i64 (IntKind.i64.wrap (s1.1 + 1)))⟩, ⟨9, [], .v (.int .i64 (t_3.length : Int))⟩, ⟨8, [], .v (.slice ((sv_5 0).1) t_3.length ((sv_5 0).2))⟩, ⟨0, [], .v (.func (.yield l) #[] #[])⟩], [], [], [], none, none⟩ [] (by kernel_rfl) trivial (fun ns_31 a w_32 hI _ => ?_)
     refine then_normal ?_
     obtain ⟨hE', hmv, hmr⟩ := Ep.rebase hE hI
     replace hB1 := El.keep hB1 (hmv _)
     replace hB2 := El.keep hB2 (hmv _)
     replace hR_6 := Arr.keep hR_6 (hmv _)
     replace hE_16 := El.keep hE_16 (hmv _)
     replace hB_22 := El.keep hB_22 (hmv _)
     replace hE := hE'
     replace hI := hI.rebase
     clear hE' hmv hmr
     have hJ' := hq.new _ _ (Tc (Lo S w w_32 ns_31 []) w_32) _ _ hJ (hE.below hI) Tc.new
     obtain rfl := Option.some.inj H1
     exact ⟨_, rfl, ⟨_, El.keep hB1 (Tc.mv _ _), El.keep hB2 (Tc.mv _ _), Arr.keep hR_6 (Tc.mv _ _), hJ', (hI.pick [10, 9, 8, 0] 0 ⟨[⟨10, [], .v (.int .i64 (IntKind.i64.wrap (s1.1 + 1)))⟩, ⟨9, [], .v (.int .i64 (t_3.length : Int))⟩, ⟨8, [], .v (.slice ((sv_5 0).1) t_3.length ((sv_5 0).2))⟩, ⟨0, [], .v (.func (.yield l) #[] #[])⟩], [], [], [], none, none⟩ (by kernel_rfl)).reset rfl rfl rfl _⟩⟩
    ·subst hzz
     replace hE := hE'
     replace hI := hI'
     replace hJ := hJ'
     clear hE' hI' hJ'
     replace H1 : (some (.out (.ret (.out r_28))) : Option (Stp (Int × σt) (Ex (Int × σt) (Stp σt R)))) = _ := H1
     refine chunkL_ (live := [20, 10, 9, 8, 0]) (orc := []) hF 1 hI ⟨[⟨20, [], .v (.bool true)⟩, ⟨10, [], .v (.int .i64 s1.1)⟩, ⟨9, [], .v (.int .i64 (t_3.length : Int))⟩, ⟨8, [], .v (.slice ((sv_5 0).1) t_3.length ((sv_5 0).2))⟩, ⟨0, [], .v (.func (.yield l) #[] #[])⟩], [], [], [], none, none⟩ [] rfl (by kernel_rfl) trivial (fun ns_33 a w_34 hI => ?_)
     refine wpListIn_nil ?_
     refine then_normal ?_
     refine cond_ hI true rfl (fun _ => ?_) (fun h => by cases h)
     refine wpIn_ret ?_
     refine inBlock_ret ?_
     refine then_ret ?_
     refine then_ret ?_
     obtain rfl := Option.some.inj H1
     refine .inr ⟨_, rfl, fun ho => ?_⟩
     subst ho
     refine inBlock_ret ?_
     obtain rfl := Option.some.inj H0
     exact retG hI rfl rfl ⟨⟨_, rfl⟩, SeqPost.fin (hq.stop _ _ _ hJ (hE.below hI))⟩
   ·replace H1 := bif_f hc_12 H1
    refine wpIn_exit ?_
    refine then_exit ?_
    refine then_exit ?_
    obtain ⟨hE', hmv, hmr⟩ := Ep.rebase hE hI
    replace hB1 := El.keep hB1 (hmv _)
    replace hB2 := El.keep hB2 (hmv _)
    replace hR_6 := Arr.keep hR_6 (hmv _)
    replace hE := hE'
    replace hI := hI.rebase
    clear hE' hmv hmr
    have hJ' := hq.new _ _ (Tc (Lo S w w_11 ns_10 []) w_11) _ _ hJ (hE.below hI) Tc.new
    obtain rfl := Option.some.inj H1
    exact .inl ⟨_, rfl, rfl, ⟨_, El.keep hB1 (Tc.mv _ _), El.keep hB2 (Tc.mv _ _), Arr.keep hR_6 (Tc.mv _ _), hJ', (hI.pick [10, 9, 8, 0] 0 ⟨[⟨10, [], .v (.int .i64 s1.1)⟩, ⟨9, [], .v (.int .i64 (t_3.length : Int))⟩, ⟨8, [], .v (.slice ((sv_5 0).1) t_3.length ((sv_5 0).2))⟩, ⟨0, [], .v (.func (.yield l) #[] #[])⟩], [], [], [], none, none⟩ (by kernel_rfl)).reset rfl rfl rfl _⟩⟩
  ·clear hI hE hJ hJ'
   rintro s1 a w ho ⟨S, hB1, hB2, hR_6, hJ, hI⟩
   subst ho
   replace H0 : (some (.next s1.2) : Option (Stp σt R)) = _ := H0
   have hE := Ep.start w
   replace hB1 := El.lo hB1
   replace hB2 := El.lo hB2
   replace hR_6 := Arr.lo hR_6
   obtain rfl := Option.some.inj H0
   exact retN (retG hI rfl rfl ⟨⟨_, rfl⟩, SeqPost.nxt (fun _ => False) (hq.new _ _ _ _ _ hJ (hE.below hI) (fun _ h => h.elim))⟩)

/-! ### porthole/wit.All: function 33 -/
noncomputable def G_wit_All (l0 : (List Call)) (l1 : (List Belling)) : Option (((List Call) × (List Belling))) := some (l0, l1)
set_option maxRecDepth 100000 in
set_option maxHeartbeats 4000000 in
theorem G_wit_All.calls (l0 : (List Call)) (l1 : (List Belling)) (A0 : Option Addr) (c0 : Nat) (A1 : Option Addr) (c1 : Nat) (w : World) {S : Nat → Prop} (hr0 : Arr kd_Call S w A0 l0) (hc0 : l0.length ≤ c0) (hr1 : Arr kd_Belling S w A1 l1) (hc1 : l1.length ≤ c1) (r : ((List Call) × (List Belling))) (h : G_wit_All l0 l1 = some r) :
    Calls Try.prog 33 #[.slice A0 l0.length c0, .slice A1 l1.length c1] w fun e w' => ∃ sv : SV, e = .returned (.func (.func 46) #[] #[.pointer (some (adr (sv 0).1)), .pointer (some (adr (sv 2).1))]) ∧ Below w.heap.size w w' ∧ El (Kd.slice kd_Call) (fun b => w.heap.size ≤ b ∨ S b) w' (adr (sv 0).1) r.1 (svO sv 1) ∧ El (Kd.slice kd_Belling) (fun b => w.heap.size ≤ b ∨ S b) w' (adr (sv 2).1) r.2 (svO sv 3) := by
  replace hr0 := Arr.lo hr0
  replace hr1 := Arr.lo hr1
  unfold G_wit_All at h
  have H0 := h
  clear h
  refine enter Try.func33 rfl [.slice A0 l0.length c0, .slice A1 l1.length c1] (n := 6) rfl (Nat.le_of_ble_eq_true rfl) (fun a hI => ?_)
  have hF : FOpen Fence.wide := .inl rfl
  have hE := Ep.start w
  refine seq_region (live := [4, 3, 2]) (orc := []) hF hI ⟨[⟨4, [], .v (.nilFunc)⟩, ⟨3, [], .p 1 0⟩, ⟨2, [], .p 0 0⟩], [], [], [([.v (.slice A0 l0.length c0)], 26), ([.v (.slice A1 l1.length c1)], 58)], none, none⟩ [] (by kernel_rfl) trivial (fun ns_1 a w_2 hI _ => ?_)
  refine wpIn_seq ?_
  refine wpIn_region_lit ?_
  obtain ⟨hE', hmv, hmr⟩ := Ep.rebase hE hI
  replace hr0 := Arr.keep hr0 (hmv _)
  replace hr1 := Arr.keep hr1 (hmv _)
  replace hE := hE'
  replace hI := hI.rebase
  clear hE' hmv hmr
  have hct := contI (S := Lo S w w_2 ns_1 []) (w := w_2) (d := (Kd.slice kd_Call)) (x := l0) (sv := (svL [(A0, c0)])) ⟨hr0, hc0⟩
  obtain ⟨B_3, ns_5, hE', hI', hmv, hB_4⟩ := freeze_ (d := (Kd.slice kd_Call)) hE hI 0 l0 (svL [(A0, c0)]) 26 rfl
  replace hB_4 := hB_4 _ hct
  clear hct
  have hmr : ∀ b ∈ ([] : List (List Nat)).flatten, w_2.heap[b]? = w_2.heap[b]? := fun _ _ => rfl
  replace hr0 := Arr.keep hr0 (hmv _)
  replace hr1 := Arr.keep hr1 (hmv _)
  replace hE := hE'
  replace hI := hI'
  clear hE' hI' hmv hmr
  obtain ⟨ns_6, hE', hI', hmv⟩ := hE.cut hI [4, 3, 2] 1 ⟨[⟨4, [], .v (.nilFunc)⟩, ⟨3, [], .p 0 0⟩, ⟨2, [], .v (.pointer (some B_3))⟩], [], [], [([.v (.slice A1 l1.length c1)], 58)], none, none⟩ (by kernel_rfl)
  have hmr : ∀ b ∈ ([] : List (List Nat)).flatten, w_2.heap[b]? = w_2.heap[b]? := fun _ _ => rfl
  replace hr0 := Arr.keep hr0 (hmv _)
  replace hr1 := Arr.keep hr1 (hmv _)
  replace hB_4 := El.keep hB_4 (hmv _)
  replace hE := hE'
  replace hI := hI'
  clear hE' hI' hmv hmr
  have hct := contI (S := Lo S w w_2 ns_6 []) (w := w_2) (d := (Kd.slice kd_Belling)) (x := l1) (sv := (svL [(A1, c1)])) ⟨hr1, hc1⟩
  obtain ⟨B_7, ns_9, hE', hI', hmv, hB_8⟩ := freeze_ (d := (Kd.slice kd_Belling)) hE hI 0 l1 (svL [(A1, c1)]) 58 rfl
  replace hB_8 := hB_8 _ hct
  clear hct
  have hmr : ∀ b ∈ ([] : List (List Nat)).flatten, w_2.heap[b]? = w_2.heap[b]? := fun _ _ => rfl
  replace hr0 := Arr.keep hr0 (hmv _)
  replace hr1 := Arr.keep hr1 (hmv _)
  replace hB_4 := El.keep hB_4 (hmv _)
  replace hE := hE'
  replace hI := hI'
  clear hE' hI' hmv hmr
  obtain ⟨ns_10, hE', hI', hmv⟩ := hE.cut hI [4, 3, 2] 0 ⟨[⟨4, [], .v (.nilFunc)⟩, ⟨3, [], .v (.pointer (some B_7))⟩, ⟨2, [], .v (.pointer (some B_3))⟩], [], [], [], none, none⟩ (by kernel_rfl)
  have hmr : ∀ b ∈ ([] : List (List Nat)).flatten, w_2.heap[b]? = w_2.heap[b]? := fun _ _ => rfl
  replace hr0 := Arr.keep hr0 (hmv _)
  replace hr1 := Arr.keep hr1 (hmv _)
  replace hB_4 := El.keep hB_4 (hmv _)
  replace hB_8 := El.keep hB_8 (hmv _)
  replace hE := hE'
  replace hI := hI'
  clear hE' hI' hmv hmr
  refine chunkL_ (live := [5, 4, 3, 2]) (orc := []) hF 1 hI ⟨[⟨5, [], .v (.func (.func 46) #[] #[.pointer (some B_3), .pointer (some B_7)])⟩, ⟨4, [], .v (.nilFunc)⟩, ⟨3, [], .v (.pointer (some B_7))⟩, ⟨2, [], .v (.pointer (some B_3))⟩], [], [], [], none, none⟩ [] rfl (by kernel_rfl) trivial (fun ns_11 a w_12 hI => ?_)
  refine chunkL_ (live := [4]) (orc := []) hF 1 hI ⟨[⟨4, [], .v (.func (.func 46) #[] #[.pointer (some B_3), .pointer (some B_7)])⟩], [], [], [], none, none⟩ [] rfl (by kernel_rfl) trivial (fun ns_13 a w_14 hI => ?_)
  refine wpListIn_nil ?_
  refine then_normal ?_
  refine wpIn_ret ?_
  obtain rfl := Option.some.inj H0
  exact ret1 hI rfl rfl ⟨svL [(some B_3, 0), ((svL [(A0, c0)]) 0), (some B_7, 0), ((svL [(A1, c1)]) 0)], rfl, hE.below hI, ⟨(El.keep hB_4 (hE.out hI)).cont, (El.keep hB_4 (hE.out hI)).at_, (El.keep hB_4 (hE.out hI)).cells⟩, ⟨(El.keep hB_8 (hE.out hI)).cont, (El.keep hB_8 (hE.out hI)).at_, (El.keep hB_8 (hE.out hI)).cells⟩⟩

/-! ### porthole/wit.Order: function 30 -/
noncomputable def G_wit_Order.r1 (l0 : (List Call)) (l1 : (List Belling)) (t_7 : ((List Call) × (List Belling))) (s1 : (List Item)) (y_29 : Int × Item) : Option (Stp ((List Item)) (Nat × ((List Item)))) := (req (decide ((s1.length + 1) * 16 ≤ 140737488355328)) (some (.next (s1 ++ [y_29.2]))))
noncomputable def G_wit_Order (l0 : (List Call)) (l1 : (List Belling)) : Option ((List Item)) := ((G_wit_All l0 l1).bind fun t_7 => ((G_wit_All_1 (G_wit_Order.r1 l0 l1 t_7) ([] : List Item) t_7.1 t_7.2).bind fun z => z.on (fun s1 => some s1) (fun r1 => some r1.2)))
set_option maxRecDepth 100000 in
set_option maxHeartbeats 4000000 in
theorem G_wit_Order.calls (l0 : (List Call)) (l1 : (List Belling)) (A0 : Option Addr) (c0 : Nat) (A1 : Option Addr) (c1 : Nat) (w : World) {S : Nat → Prop} (hr0 : Arr kd_Call S w A0 l0) (hc0 : l0.length ≤ c0) (hr1 : Arr kd_Belling S w A1 l1) (hc1 : l1.length ≤ c1) (r : (List Item)) (h : G_wit_Order l0 l1 = some r) :
    Calls Try.prog 30 #[.slice A0 l0.length c0, .slice A1 l1.length c1] w fun e w' => ∃ sv : SV, e = .returned (.slice ((sv 0).1) r.length ((sv 0).2)) ∧ Below w.heap.size w w' ∧ (Arr kd_Item (fun b => w.heap.size ≤ b ∨ S b) w' (sv 0).1 r ∧ r.length ≤ (sv 0).2) := by
  replace hr0 := Arr.lo hr0
  replace hr1 := Arr.lo hr1
  unfold G_wit_Order at h
  have H0 := h
  clear h
  refine enterM Try.func30 rfl [.slice A0 l0.length c0, .slice A1 l1.length c1] (n := 18) rfl (Nat.le_of_ble_eq_true rfl) (fun a hI => ?_)
  have hF : FOpen Fence.wide := .inl rfl
  have hE := Ep.start w
  refine seq_region (live := [4, 0, 1]) (orc := []) hF hI ⟨[⟨4, [], .v (.slice none 0 0)⟩, ⟨0, [], .v (.slice A0 l0.length c0)⟩, ⟨1, [], .v (.slice A1 l1.length c1)⟩], [], [], [], some (w.heap.size, none), none⟩ [] (by kernel_rfl) trivial (fun ns_1 a w_2 hI _ => ?_)
  refine seq_region (live := [5, 4, 0, 1]) (orc := []) hF hI ⟨[⟨5, [], .p 0 0⟩, ⟨4, [], .v (.slice none 0 0)⟩, ⟨0, [], .v (.slice A0 l0.length c0)⟩, ⟨1, [], .v (.slice A1 l1.length c1)⟩], [], [], [([.v (.slice none 0 0)], 60)], some (w.heap.size, none), none⟩ [] (by kernel_rfl) trivial (fun ns_3 a w_4 hI _ => ?_)
  refine wpIn_seq ?_
  refine wpIn_seq ?_
  refine wpIn_region_lit ?_
  refine chunkL_ (live := [9, 8, 5, 4]) (orc := []) hF 2 hI ⟨[⟨9, [], .v (.slice A1 l1.length c1)⟩, ⟨8, [], .v (.slice A0 l0.length c0)⟩, ⟨5, [], .p 0 0⟩, ⟨4, [], .v (.slice none 0 0)⟩], [], [], [([.v (.slice none 0 0)], 60)], some (w.heap.size, none), none⟩ [] rfl (by kernel_rfl) trivial (fun ns_5 a w_6 hI => ?_)
  obtain ⟨hE', hmv, hmr⟩ := Ep.rebase hE hI
  replace hr0 := Arr.keep hr0 (hmv _)
  replace hr1 := Arr.keep hr1 (hmv _)
  replace hE := hE'
  replace hI := hI.rebase
  clear hE' hmv hmr
  obtain ⟨t_7, hG_8, H0⟩ := bind_some H0
  refine callH_ hF hE hI (wanted_none rfl) rfl (args := [.slice A0 l0.length c0, .slice A1 l1.length c1]) rfl (enters Try.func33 (by kernel_rfl) rfl) (fun sv_9 => .func (.func 46) #[] #[.pointer (some (adr (sv_9 0).1)), .pointer (some (adr (sv_9 2).1))]) _ (G_wit_All.calls l0 l1 A0 c0 A1 c1 w_6 (S := Lo S w w_6 ns_5 []) hr0 hc0 hr1 hc1 _ hG_8) (fun sv_9 => ⟨[⟨10, [], .v (.func (.func 46) #[] #[.pointer (some (adr (sv_9 0).1)), .pointer (some (adr (sv_9 2).1))])⟩, ⟨9, [], .v (.slice A1 l1.length c1)⟩, ⟨8, [], .v (.slice A0 l0.length c0)⟩, ⟨5, [], .p 0 0⟩, ⟨4, [], .v (.slice none 0 0)⟩], [], [], [([.v (.slice none 0 0)], 60)], some (w.heap.size, none), none⟩) (fun sv_9 => by kernel_rfl) (fun sv_9 a w_12 hput hE' hI' hmv hmr hres hR => ?_)
  replace hr0 := Arr.keep hr0 (hmv _)
  replace hr1 := Arr.keep hr1 (hmv _)
  replace hE := hE'
  replace hI := hI'
  clear hE' hI' hmv hmr
  obtain ⟨hR_10, hR_11⟩ := hR
  replace hR_10 := El.keep hR_10 (hres _)
  replace hR_11 := El.keep hR_11 (hres _)
  clear hres
  refine chunkL_ (live := [10, 5, 4]) (orc := []) hF 0 hI ⟨[⟨10, [], .v (.func (.func 46) #[] #[.pointer (some (adr (sv_9 0).1)), .pointer (some (adr (sv_9 2).1))])⟩, ⟨5, [], .p 0 0⟩, ⟨4, [], .v (.slice none 0 0)⟩], [], [], [([.v (.slice none 0 0)], 60)], some (w.heap.size, none), none⟩ [] rfl (by kernel_rfl) trivial (fun ns_13 a w_14 hI => ?_)
  refine wpListIn_nil ?_
  refine then_normal ?_
  refine wpIn_block ?_
  obtain ⟨hE', hmv, hmr⟩ := Ep.rebase hE hI
  replace hr0 := Arr.keep hr0 (hmv _)
  replace hr1 := Arr.keep hr1 (hmv _)
  replace hR_10 := El.keep hR_10 (hmv _)
  replace hR_11 := El.keep hR_11 (hmv _)
  replace hE := hE'
  replace hI := hI.rebase
  clear hE' hmv hmr
  obtain ⟨hE', hmv⟩ := Ep.addNil hE
  have hmr : ∀ b ∈ ([] : List (List Nat)).flatten, w_14.heap[b]? = w_14.heap[b]? := fun _ _ => rfl
  replace hr0 := Arr.keep hr0 (hmv _)
  replace hr1 := Arr.keep hr1 (hmv _)
  replace hR_10 := El.keep hR_10 (hmv _)
  replace hR_11 := El.keep hR_11 (hmv _)
  replace hE := hE'
  clear hE' hmv hmr
  have hq_15 : Row kd_Item 70 (Lo S w w_14 ns_13 [rb none]) w_14 w.heap.size none 0 ([] : List Item) := Row.nil
  obtain ⟨ns_16, hE', hI', hmv⟩ := hE.cut hI [10, 5, 4] 1 ⟨[⟨10, [], .v (.func (.func 46) #[] #[.pointer (some (adr (sv_9 0).1)), .pointer (some (adr (sv_9 2).1))])⟩, ⟨5, [], .p 0 0⟩, ⟨4, [], .v (.slice none 0 0)⟩], [], [], [([.v (.slice none ([] : List Item).length 0)], 60)], some (w.heap.size, none), none⟩ (by kernel_rfl)
  have hmr : ∀ b ∈ ([rb none] : List (List Nat)).flatten, w_14.heap[b]? = w_14.heap[b]? := fun _ _ => rfl
  replace hr0 := Arr.keep hr0 (hmv _)
  replace hr1 := Arr.keep hr1 (hmv _)
  replace hR_10 := El.keep hR_10 (hmv _)
  replace hR_11 := El.keep hR_11 (hmv _)
  replace hq_15 := Row.keep hq_15 (hmv _) (fun b hb => by simp [rb] at hb)
  replace hE := hE'
  replace hI := hI'
  clear hE' hI' hmv hmr
  obtain ⟨z_22, hz_23, H0⟩ := bind_some H0
  refine rangeFunc_ (ps := [11, 12]) hE hI rfl (Nat.le_refl _) (lb := [.pointer (some (adr (sv_9 0).1)), .pointer (some (adr (sv_9 2).1))]) rfl (enters Try.func46 (by kernel_rfl) rfl) (fun l_19 aR_20 w_21 haR_28 hE' hI' hmv hmr => ?_)
  replace hr0 := Arr.keep hr0 (hmv _)
  replace hr1 := Arr.keep hr1 (hmv _)
  replace hR_10 := El.keep hR_10 (hmv _)
  replace hR_11 := El.keep hR_11 (hmv _)
  replace hq_15 := Row.keep hq_15 (hmv _) (fun b hb => by simp [rb] at hb)
  replace hE := hE'
  replace hI := hI'
  clear hE' hI' hmv hmr
  refine ⟨(List Item), Int × Item, Nat × ((List Item)), G_wit_All_1.enc, G_wit_All_1.fct, G_wit_Order.r1 l0 l1 t_7, (fun (s1 : (List Item)) (T : Nat → Prop) (W : World) => ∃ (A_17 : Option Addr) (c_18 : Nat), (Arr kd_Call (Lo S w W ns_16 [rb A_17, [l_19]]) W A0 l0) ∧ (Arr kd_Belling (Lo S w W ns_16 [rb A_17, [l_19]]) W A1 l1) ∧ (El (Kd.slice kd_Call) (Lo S w W ns_16 [rb A_17, [l_19]]) W (adr (sv_9 0).1) t_7.1 (svO sv_9 1)) ∧ (El (Kd.slice kd_Belling) (Lo S w W ns_16 [rb A_17, [l_19]]) W (adr (sv_9 2).1) t_7.2 (svO sv_9 3)) ∧ (Row kd_Item 70 (Lo S w W ns_16 [rb A_17, [l_19]]) W w.heap.size A_17 c_18 s1) ∧ Ep [] w W ns_16 [rb A_17, [l_19]] ∧ Inv W ns_16 18 ⟨[⟨10, [], .v (.func (.func 46) #[] #[.pointer (some (adr (sv_9 0).1)), .pointer (some (adr (sv_9 2).1))])⟩, ⟨5, [], .p 0 0⟩, ⟨4, [], .v (.slice none 0 0)⟩], [], [], [([.v (.slice A_17 s1.length c_18)], 60)], some (w.heap.size, none), none⟩ ns_16 aR_20 W ∧ Tk T W (Lo S w W ns_16 [rb A_17, [l_19]]) W), (fun (r : Nat × ((List Item))) (W : World) => ∃ (A_17 : Option Addr) (c_18 : Nat), (Arr kd_Call (Lo S w W ns_16 [rb A_17, [l_19]]) W A0 l0) ∧ (Arr kd_Belling (Lo S w W ns_16 [rb A_17, [l_19]]) W A1 l1) ∧ (El (Kd.slice kd_Call) (Lo S w W ns_16 [rb A_17, [l_19]]) W (adr (sv_9 0).1) t_7.1 (svO sv_9 1)) ∧ (El (Kd.slice kd_Belling) (Lo S w W ns_16 [rb A_17, [l_19]]) W (adr (sv_9 2).1) t_7.2 (svO sv_9 3)) ∧ (Row kd_Item 70 (Lo S w W ns_16 [rb A_17, [l_19]]) W w.heap.size A_17 c_18 r.2) ∧ Ep [] w W ns_16 [rb A_17, [l_19]] ∧ Inv W ns_16 18 ⟨[⟨10, [], .v (.func (.func 46) #[] #[.pointer (some (adr (sv_9 0).1)), .pointer (some (adr (sv_9 2).1))])⟩, ⟨5, [], .p 0 0⟩, ⟨4, [], .v (.slice none 0 0)⟩], [], [], [([.v (.slice A_17 r.2.length c_18)], 60)], some (w.heap.size, none), none⟩ ns_16 aR_20 W), (fun r => .exit 0), ([] : List Item), Tc (Lo S w w_21 ns_16 [rb none, [l_19]]) w_21, z_22, fun _ _ => rfl, ?_, ?_, ?_, ?_, ?_, ?_, ?_⟩
  ·rintro s1 T T' A B row ⟨A_17, c_18, hr0, hr1, hR_10, hR_11, hq_15, hE, hI, hT_24⟩ hg hrow hT'
   obtain ⟨hE', hI', hmv, hmr⟩ := hE.turn hI hg (by simp) hrow
   replace hr0 := Arr.keep hr0 (hmv _)
   replace hr1 := Arr.keep hr1 (hmv _)
   replace hR_10 := El.keep hR_10 (hmv _)
   replace hR_11 := El.keep hR_11 (hmv _)
   replace hq_15 := Row.keep hq_15 (hmv _) (fun b hb => hmr b (by simp [hb]) (Ep.ne hE (i := 1) (j := 0) (by decide) rfl rfl hb))
   exact ⟨A_17, c_18, hr0, hr1, hR_10, hR_11, hq_15, hE', hI', hT_24.turn (hmv _) hE hT'⟩
  ·rintro r A B row ⟨A_17, c_18, hr0, hr1, hR_10, hR_11, hq_15, hE, hI⟩ hg hrow
   obtain ⟨hE', hI', hmv, hmr⟩ := hE.turn hI hg (by simp) hrow
   replace hr0 := Arr.keep hr0 (hmv _)
   replace hr1 := Arr.keep hr1 (hmv _)
   replace hR_10 := El.keep hR_10 (hmv _)
   replace hR_11 := El.keep hR_11 (hmv _)
   replace hq_15 := Row.keep hq_15 (hmv _) (fun b hb => hmr b (by simp [hb]) (Ep.ne hE (i := 1) (j := 0) (by decide) rfl rfl hb))
   exact ⟨A_17, c_18, hr0, hr1, hR_10, hR_11, hq_15, hE', hI'⟩
  ·intro J Jx hq hJ
   exact G_wit_All_1.calls _ _ t_7.1 t_7.2 (adr (sv_9 0).1) (svO sv_9 1) (adr (sv_9 2).1) (svO sv_9 3) _ w_21 (S := Tc (Lo S w w_21 ns_16 [rb none, [l_19]]) w_21) (El.keep hR_10 (Tc.mv _ _)) (El.keep hR_11 (Tc.mv _ _)) hq hJ _ hz_23
  ·exact ⟨none, 0, hr0, hr1, hR_10, hR_11, hq_15, hE, hI, Tk.new _ _⟩
  ·rintro s1 y_29 sv_30 T_32 w_31 z hz ⟨A_17, c_18, hr0, hr1, hR_10, hR_11, hq_15, hE, hO, hT_24⟩ hf_33 oo_26 ho_27 hl_25
   unfold G_wit_Order.r1 at hz
   have H1 := hz
   clear hz
   have hF : FOpen (Fence.wide.inRound l_19) := .inr ⟨l_19, rfl⟩
   have hI : Inv w_31 ns_16 18 ⟨[⟨12, [], .v (.agg ((kd_Item).cells y_29.2 (svL [])).toArray)⟩, ⟨11, [], .v (.int .i64 y_29.1)⟩, ⟨10, [], .v (.func (.func 46) #[] #[.pointer (some (adr (sv_9 0).1)), .pointer (some (adr (sv_9 2).1))])⟩, ⟨5, [], .p 0 0⟩, ⟨4, [], .v (.slice none 0 0)⟩], [], [], [([.v (.slice A_17 s1.length c_18)], 60)], some (w.heap.size, some aR_20.defers), some (1, ns_16)⟩ ns_16 _ w_31 := hO.round rfl rfl rfl [11, 12] (G_wit_All_1.enc y_29 sv_30) (by kernel_rfl) (by kernel_rfl) _ haR_28
   refine region_ (live := [7, 5, 4]) (orc := []) hF hI ⟨[⟨7, [], .p 1 0⟩, ⟨5, [], .p 0 0⟩, ⟨4, [], .v (.slice none 0 0)⟩], [], [], [([.v (.slice A_17 s1.length c_18)], 60), ((((kd_Item).cells y_29.2 (svL [])).map EV.v), 70)], some (w.heap.size, some aR_20.defers), some (1, ns_16)⟩ [] (by kernel_rfl) trivial (fun ns_34 a w_35 hI _ => ?_)
   refine then_normal ?_
   obtain ⟨hE', hmv, hmr⟩ := Ep.rebase hE hI
   replace hr0 := Arr.keep hr0 (hmv _)
   replace hr1 := Arr.keep hr1 (hmv _)
   replace hR_10 := El.keep hR_10 (hmv _)
   replace hR_11 := El.keep hR_11 (hmv _)
   replace hq_15 := Row.keep hq_15 (hmv _) (fun b hb => hmr b (by simp [hb]))
   replace hT_24 := Tk.keep hT_24 (hmv _)
   replace hl_25 := (hmr _ (by simp)).trans hl_25
   replace hE := hE'
   replace hI := hI.rebase
   clear hE' hmv hmr
   refine begin_ hE hI (by simp) hl_25 ho_27 (fun w_36 hE' hI' hmv hmr hl_25 => ?_)
   replace hr0 := Arr.keep hr0 (hmv _)
   replace hr1 := Arr.keep hr1 (hmv _)
   replace hR_10 := El.keep hR_10 (hmv _)
   replace hR_11 := El.keep hR_11 (hmv _)
   replace hq_15 := Row.keep hq_15 (hmv _) (fun b hb => hmr b (by simp [hb]) (Ep.ne hE (i := 1) (j := 0) (by decide) rfl rfl hb))
   replace hT_24 := Tk.keep hT_24 (hmv _)
   replace hE := hE'
   replace hI := hI'
   clear hE' hI' hmv hmr
   refine wpIn_block ?_
   refine wpIn_region_lit ?_
   refine chunkL_ (live := [14, 13, 5, 4]) (orc := []) hF 2 hI ⟨[⟨14, [], .v (.agg ((kd_Item).cells y_29.2 (svL [])).toArray)⟩, ⟨13, [], .v (.slice A_17 s1.length c_18)⟩, ⟨5, [], .p 0 0⟩, ⟨4, [], .v (.slice none 0 0)⟩], [], [], [([.v (.slice A_17 s1.length c_18)], 60), ((((kd_Item).cells y_29.2 (svL [])).map EV.v), 70)], some (w.heap.size, some aR_20.defers), some (1, ns_16)⟩ [] rfl (by kernel_rfl) trivial (fun ns_37 a w_38 hI => ?_)
   obtain ⟨hE', hmv, hmr⟩ := Ep.rebase hE hI
   replace hr0 := Arr.keep hr0 (hmv _)
   replace hr1 := Arr.keep hr1 (hmv _)
   replace hR_10 := El.keep hR_10 (hmv _)
   replace hR_11 := El.keep hR_11 (hmv _)
   replace hq_15 := Row.keep hq_15 (hmv _) (fun b hb => hmr b (by simp [hb]))
   replace hT_24 := Tk.keep hT_24 (hmv _)
   replace hl_25 := (hmr _ (by simp)).trans hl_25
   replace hE := hE'
   replace hI := hI.rebase
   clear hE' hmv hmr
   refine buildSlice_ (S0 := S) (d := kd_Item) (e := 70) hF hE hI (wanted_none rfl) rfl (by kernel_rfl) (cs := [.int .i64 y_29.2.Kind, .int .i64 y_29.2.Of]) (by kernel_rfl) [y_29.2] [(svL [])] rfl rfl (by simp [maxLen]) (fun i x hi => by cases i with | zero => (simp only [List.getElem?_cons_zero, Option.some.injEq] at hi; subst hi; exact ⟨trivial, rfl⟩) | succ i => (simp only [List.getElem?_cons_succ] at hi; simp at hi)) (fun A_39 => ⟨[⟨15, [], .v (.slice A_39 ([y_29.2] : List Item).length (([y_29.2] : List Item).length))⟩, ⟨14, [], .v (.agg ((kd_Item).cells y_29.2 (svL [])).toArray)⟩, ⟨13, [], .v (.slice A_17 s1.length c_18)⟩, ⟨5, [], .p 0 0⟩, ⟨4, [], .v (.slice none 0 0)⟩], [], [], [([.v (.slice A_17 s1.length c_18)], 60), ((((kd_Item).cells y_29.2 (svL [])).map EV.v), 70)], some (w.heap.size, some aR_20.defers), some (1, ns_16)⟩) (fun A_39 => by kernel_rfl) (fun A_39 a w_41 hput hE' hI' hmv hmr hq_40 => ?_)
   replace hr0 := Arr.keep hr0 (hmv _)
   replace hr1 := Arr.keep hr1 (hmv _)
   replace hR_10 := El.keep hR_10 (hmv _)
   replace hR_11 := El.keep hR_11 (hmv _)
   replace hq_15 := Row.keep hq_15 (hmv _) (fun b hb => hmr b (by simp [hb]) (by simp))
   replace hT_24 := Tk.keep hT_24 (hmv _)
   replace hl_25 := (hmr _ (by simp) (by simp)).trans hl_25
   replace hE := hE'
   replace hI := hI'
   clear hE' hI' hmv hmr
   obtain ⟨hE', hmv, hq_40, hcap_42⟩ := Row.still (l1 := [rb A_17, [l_19]]) (l2 := []) hq_40 (Nat.le_refl _) hE
   have hmr : ∀ b ∈ ([rb A_17, [l_19], rb A_39] : List (List Nat)).flatten, w_41.heap[b]? = w_41.heap[b]? := fun _ _ => rfl
   replace hr0 := Arr.keep hr0 (hmv _)
   replace hr1 := Arr.keep hr1 (hmv _)
   replace hR_10 := El.keep hR_10 (hmv _)
   replace hR_11 := El.keep hR_11 (hmv _)
   replace hq_15 := Row.keep hq_15 (hmv _) (fun b hb => hmr b (by simp [hb]))
   replace hT_24 := Tk.keep hT_24 (hmv _)
   replace hl_25 := (hmr _ (by simp)).trans hl_25
   replace hE := hE'
   clear hE' hmv hmr
   obtain ⟨hN_43, H1⟩ := req_some H1
   replace hN_43 := of_decide_eq_true hN_43
   refine append_ (S0 := S) (l1 := []) (l2 := [[l_19]]) (d := kd_Item) (e := 70) hF hE hI (wanted_none rfl) rfl (A := A_17) (c := c_18) (l := s1) rfl (A2 := A_39) (c2 := (([y_29.2] : List Item).length)) rfl hq_15 hq_40 (fun sv u hu => by exact kd_one_Item _ sv u hu) Try.underlying60 (zi := (.agg #[.int .i64 0, .int .i64 0], 2, 16)) (by kernel_rfl) rfl (by kernel_rfl) (len_max (by decide) hN_43) hN_43 (fun A_44 c_45 => ⟨[⟨16, [], .v (.slice A_44 (s1 ++ [y_29.2]).length c_45)⟩, ⟨15, [], .v (.slice A_39 ([y_29.2] : List Item).length (([y_29.2] : List Item).length))⟩, ⟨14, [], .v (.agg ((kd_Item).cells y_29.2 (svL [])).toArray)⟩, ⟨13, [], .v (.slice A_17 s1.length c_18)⟩, ⟨5, [], .p 0 0⟩, ⟨4, [], .v (.slice none 0 0)⟩], [], [], [([.v (.slice A_17 s1.length c_18)], 60), ((((kd_Item).cells y_29.2 (svL [])).map EV.v), 70)], some (w.heap.size, some aR_20.defers), some (1, ns_16)⟩) (fun A_44 c_45 => by kernel_rfl) (fun A_44 c_45 a w_46 hput hE' hI' hmv hmr hq_15 => ?_)
   replace hr0 := Arr.keep hr0 (hmv _)
   replace hr1 := Arr.keep hr1 (hmv _)
   replace hR_10 := El.keep hR_10 (hmv _)
   replace hR_11 := El.keep hR_11 (hmv _)
   replace hT_24 := Tk.keep hT_24 (hmv _)
   replace hl_25 := (hmr _ (by simp) (Ep.ne hE (i := 0) (j := 1) (by decide) rfl rfl (List.mem_singleton.2 rfl))).trans hl_25
   replace hq_40 := Arr.keep hq_40 (hmv _)
   replace hE := hE'
   replace hI := hI'
   clear hE' hI' hmv hmr
   refine chunkL_ (live := [5, 4]) (orc := []) hF 1 hI ⟨[⟨5, [], .p 0 0⟩, ⟨4, [], .v (.slice none 0 0)⟩], [], [], [([.v (.slice A_44 (s1 ++ [y_29.2]).length c_45)], 60), ((((kd_Item).cells y_29.2 (svL [])).map EV.v), 70)], some (w.heap.size, some aR_20.defers), some (1, ns_16)⟩ [] rfl (by kernel_rfl) trivial (fun ns_47 a w_48 hI => ?_)
   refine wpListIn_nil ?_
   refine inBlock_normal ?_
   obtain ⟨hE', hmv, hmr⟩ := Ep.rebase hE hI
   replace hr0 := Arr.keep hr0 (hmv _)
   replace hr1 := Arr.keep hr1 (hmv _)
   replace hR_10 := El.keep hR_10 (hmv _)
   replace hR_11 := El.keep hR_11 (hmv _)
   replace hT_24 := Tk.keep hT_24 (hmv _)
   replace hl_25 := (hmr _ (by simp)).trans hl_25
   replace hq_40 := Arr.keep hq_40 (hmv _)
   replace hq_15 := Row.keep hq_15 (hmv _) (fun b hb => hmr b (by simp [hb]))
   replace hE := hE'
   replace hI := hI.rebase
   clear hE' hmv hmr
   obtain ⟨hE', hI', hmv⟩ := Ep.unround (bs := [([.v (.slice A_44 (s1 ++ [y_29.2]).length c_45)], 60)]) hO hE hI rfl rfl rfl rfl rfl rfl (by kernel_rfl) rfl
   have hmr : ∀ b ∈ ([rb A_44, [l_19]] : List (List Nat)).flatten, w_48.heap[b]? = w_48.heap[b]? := fun _ _ => rfl
   replace hr0 := Arr.keep hr0 (hmv _)
   replace hr1 := Arr.keep hr1 (hmv _)
   replace hR_10 := El.keep hR_10 (hmv _)
   replace hR_11 := El.keep hR_11 (hmv _)
   replace hT_24 := Tk.keep hT_24 (hmv _)
   replace hl_25 := (hmr _ (by simp)).trans hl_25
   replace hq_40 := Arr.keep hq_40 (hmv _)
   replace hq_15 := Row.keep hq_15 (hmv _) (fun b hb => hmr b (by simp [hb]))
   replace hE := hE'
   replace hI := hI'
   clear hE' hI' hmv hmr
   obtain rfl := Option.some.inj H1
   exact RndQ.nrm hl_25 rfl ⟨_, _, hr0, hr1, hR_10, hR_11, hq_15, hE, hI, hT_24.re⟩ hT_24.same
  ·rintro s1 T w_49 hzz ⟨A_17, c_18, hr0, hr1, hR_10, hR_11, hq_15, hE, hI, hT_24⟩
   subst hzz
   replace H0 : (some s1 : Option ((List Item))) = _ := H0
   obtain ⟨hE', hmv⟩ := hE.sub (mine' := [rb A_17]) (sub_one [rb A_17] [] _)
   have hmr : ∀ b ∈ ([rb A_17, [l_19]] : List (List Nat)).flatten, w_49.heap[b]? = w_49.heap[b]? := fun _ _ => rfl
   replace hr0 := Arr.keep hr0 (hmv _)
   replace hr1 := Arr.keep hr1 (hmv _)
   replace hR_10 := El.keep hR_10 (hmv _)
   replace hR_11 := El.keep hR_11 (hmv _)
   replace hq_15 := Row.keep hq_15 (hmv _) (fun b hb => hmr b (by simp [hb]))
   replace hE := hE'
   clear hE' hmv hmr
   refine inBlock_normal ?_
   refine then_normal ?_
   refine seq_region (live := [4]) (orc := []) hF hI ⟨[⟨4, [], .v (.slice A_17 s1.length c_18)⟩], [], [], [([.v (.slice A_17 s1.length c_18)], 60)], some (w.heap.size, none), none⟩ [] (by kernel_rfl) trivial (fun ns_50 a w_51 hI _ => ?_)
   obtain ⟨hE', hmv, hmr⟩ := Ep.rebase hE hI
   replace hr0 := Arr.keep hr0 (hmv _)
   replace hr1 := Arr.keep hr1 (hmv _)
   replace hR_10 := El.keep hR_10 (hmv _)
   replace hR_11 := El.keep hR_11 (hmv _)
   replace hq_15 := Row.keep hq_15 (hmv _) (fun b hb => hmr b (by simp [hb]))
   replace hE := hE'
   replace hI := hI.rebase
   clear hE' hmv hmr
   obtain ⟨hE', hmv, hq_15, hcap_52⟩ := Row.still (l1 := []) (l2 := []) hq_15 (Nat.le_refl _) hE
   have hmr : ∀ b ∈ ([rb A_17] : List (List Nat)).flatten, w_51.heap[b]? = w_51.heap[b]? := fun _ _ => rfl
   replace hr0 := Arr.keep hr0 (hmv _)
   replace hr1 := Arr.keep hr1 (hmv _)
   replace hR_10 := El.keep hR_10 (hmv _)
   replace hR_11 := El.keep hR_11 (hmv _)
   replace hE := hE'
   clear hE' hmv hmr
   refine wpIn_ret ?_
   obtain rfl := Option.some.inj H0
   exact retM hI rfl rfl rfl (fun wz hz => ⟨svL [(A_17, c_18)], rfl, (hE.below hI).trans hz.below, ⟨Arr.keep (Arr.keep hq_15 (hE.out hI)) (hz.mv _), hcap_52⟩⟩)
  ·rintro r1 WX hzz ⟨A_17, c_18, hr0, hr1, hR_10, hR_11, hq_15, hE, hI⟩
   subst hzz
   replace H0 : (some r1.2 : Option ((List Item))) = _ := H0
   dsimp only
   obtain ⟨hE', hmv⟩ := hE.sub (mine' := [rb A_17]) (sub_one [rb A_17] [] _)
   have hmr : ∀ b ∈ ([rb A_17, [l_19]] : List (List Nat)).flatten, WX.heap[b]? = WX.heap[b]? := fun _ _ => rfl
   replace hr0 := Arr.keep hr0 (hmv _)
   replace hr1 := Arr.keep hr1 (hmv _)
   replace hR_10 := El.keep hR_10 (hmv _)
   replace hR_11 := El.keep hR_11 (hmv _)
   replace hq_15 := Row.keep hq_15 (hmv _) (fun b hb => hmr b (by simp [hb]))
   replace hE := hE'
   clear hE' hmv hmr
   refine wpIn_exit ?_
   refine inBlock_here ?_
   refine then_normal ?_
   refine seq_region (live := [4]) (orc := []) hF hI ⟨[⟨4, [], .v (.slice A_17 r1.2.length c_18)⟩], [], [], [([.v (.slice A_17 r1.2.length c_18)], 60)], some (w.heap.size, none), none⟩ [] (by kernel_rfl) trivial (fun ns_54 a w_55 hI _ => ?_)
   obtain ⟨hE', hmv, hmr⟩ := Ep.rebase hE hI
   replace hr0 := Arr.keep hr0 (hmv _)
   replace hr1 := Arr.keep hr1 (hmv _)
   replace hR_10 := El.keep hR_10 (hmv _)
   replace hR_11 := El.keep hR_11 (hmv _)
   replace hq_15 := Row.keep hq_15 (hmv _) (fun b hb => hmr b (by simp [hb]))
   replace hE := hE'
   replace hI := hI.rebase
   clear hE' hmv hmr
   obtain ⟨hE', hmv, hq_15, hcap_56⟩ := Row.still (l1 := []) (l2 := []) hq_15 (Nat.le_refl _) hE
   have hmr : ∀ b ∈ ([rb A_17] : List (List Nat)).flatten, w_55.heap[b]? = w_55.heap[b]? := fun _ _ => rfl
   replace hr0 := Arr.keep hr0 (hmv _)
   replace hr1 := Arr.keep hr1 (hmv _)
   replace hR_10 := El.keep hR_10 (hmv _)
   replace hR_11 := El.keep hR_11 (hmv _)
   replace hE := hE'
   clear hE' hmv hmr
   refine wpIn_ret ?_
   obtain rfl := Option.some.inj H0
   exact retM hI rfl rfl rfl (fun wz hz => ⟨svL [(A_17, c_18)], rfl, (hE.below hI).trans hz.below, ⟨Arr.keep (Arr.keep hq_15 (hE.out hI)) (hz.mv _), hcap_56⟩⟩)

/-! ### porthole/portholeref19.Same: function 29 -/
noncomputable def G_ref19_Same.b1 (l0 : (List Item)) (l1 : (List Item)) (s1 : Int × Bool) : Option (Stp (Int × Bool) (Ex (Int × Bool) (Bool))) := (bif decide (s1.1 < (l0.length : Int)) then (req (inb s1.1 l0.length) (req (inb s1.1 l1.length) (bif (!(eqb_Item (rd l0 s1.1) (rd l1 s1.1))) then some (.out (.ret false)) else some (.next ((IntKind.i64.wrap (s1.1 + 1)), s1.2))))) else some (.out (.brk (s1.1, s1.2))))
noncomputable def G_ref19_Same (l0 : (List Item)) (l1 : (List Item)) : Option (Bool) := (bif ((l0.length : Int) != (l1.length : Int)) then some false else ((loopω (G_ref19_Same.b1 l0 l1) (0, false)).bind fun o => o.on (fun s1 => some true) (fun r => some r)))
set_option maxRecDepth 100000 in
set_option maxHeartbeats 4000000 in
theorem G_ref19_Same.calls (l0 : (List Item)) (l1 : (List Item)) (A0 : Option Addr) (c0 : Nat) (A1 : Option Addr) (c1 : Nat) (w : World) {S : Nat → Prop} (hr0 : Arr kd_Item S w A0 l0) (hc0 : l0.length ≤ c0) (hr1 : Arr kd_Item S w A1 l1) (hc1 : l1.length ≤ c1) (r : Bool) (h : G_ref19_Same l0 l1 = some r) :
    Calls Try.prog 29 #[.slice A0 l0.length c0, .slice A1 l1.length c1] w fun e w' => e = .returned (.bool r) ∧ Below w.heap.size w w' := by
  replace hr0 := Arr.lo hr0
  replace hr1 := Arr.lo hr1
  unfold G_ref19_Same at h
  have H0 := h
  clear h
  refine enter Try.func29 rfl [.slice A0 l0.length c0, .slice A1 l1.length c1] (n := 26) rfl (Nat.le_of_ble_eq_true rfl) (fun a hI => ?_)
  have hF : FOpen Fence.wide := .inl rfl
  have hE := Ep.start w
  refine seq_region (live := [4, 0, 1]) (orc := []) hF hI ⟨[⟨4, [], .v (.bool false)⟩, ⟨0, [], .v (.slice A0 l0.length c0)⟩, ⟨1, [], .v (.slice A1 l1.length c1)⟩], [], [], [], none, none⟩ [] (by kernel_rfl) trivial (fun ns_1 a w_2 hI _ => ?_)
  refine wpIn_seq ?_
  refine seq_region (live := [10, 4, 0, 1]) (orc := []) hF hI ⟨[⟨10, [], .v (.bool ((l0.length : Int) != (l1.length : Int)))⟩, ⟨4, [], .v (.bool false)⟩, ⟨0, [], .v (.slice A0 l0.length c0)⟩, ⟨1, [], .v (.slice A1 l1.length c1)⟩], [], [], [], none, none⟩ [] (by kernel_rfl) trivial (fun ns_3 a w_4 hI _ => ?_)
  refine cond_ hI (((l0.length : Int) != (l1.length : Int))) rfl (fun hc_5 => ?_) (fun hc_5 => ?_)
  ·replace H0 := bif_t hc_5 H0
   refine seq_region (live := [4]) (orc := []) hF hI ⟨[⟨4, [], .v (.bool false)⟩], [], [], [], none, none⟩ [] (by kernel_rfl) trivial (fun ns_6 a w_7 hI _ => ?_)
   refine wpIn_ret ?_
   refine then_ret ?_
   obtain rfl := Option.some.inj H0
   exact ret1 hI rfl rfl ⟨rfl, hE.below hI⟩
  ·replace H0 := bif_f hc_5 H0
   refine wpIn_skip ?_
   refine then_normal ?_
   refine wpIn_seq ?_
   refine seq_region (live := [5, 4, 0, 1]) (orc := []) hF hI ⟨[⟨5, [], .v (.int .i64 0)⟩, ⟨4, [], .v (.bool false)⟩, ⟨0, [], .v (.slice A0 l0.length c0)⟩, ⟨1, [], .v (.slice A1 l1.length c1)⟩], [], [], [], none, none⟩ [] (by kernel_rfl) trivial (fun ns_8 a w_9 hI _ => ?_)
   obtain ⟨o_29, hL_30, H0⟩ := bind_some H0
   refine block_loop (fun (s1 : Int × Bool) a w_35 => ∃ ns, St w [] 26 ⟨[⟨5, [], .v (.int .i64 s1.1)⟩, ⟨4, [], .v (.bool s1.2)⟩, ⟨0, [], .v (.slice A0 l0.length c0)⟩, ⟨1, [], .v (.slice A1 l1.length c1)⟩], [], [], [], none, none⟩ ns a w_35) (0, false) hL_30 ⟨_, hI.pick [5, 4, 0, 1] 0 ⟨[⟨5, [], .v (.int .i64 0)⟩, ⟨4, [], .v (.bool false)⟩, ⟨0, [], .v (.slice A0 l0.length c0)⟩, ⟨1, [], .v (.slice A1 l1.length c1)⟩], [], [], [], none, none⟩ (by kernel_rfl)⟩ ?_ ?_
   ·clear hI
    rintro s1 a w_10 ⟨ns_11, hI⟩ r1 H1
    unfold G_ref19_Same.b1 at H1
    refine wpIn_seq ?_
    refine seq_region (live := [14, 5, 4, 0, 1]) (orc := []) hF hI ⟨[⟨14, [], .v (.bool (decide (s1.1 < (l0.length : Int))))⟩, ⟨5, [], .v (.int .i64 s1.1)⟩, ⟨4, [], .v (.bool s1.2)⟩, ⟨0, [], .v (.slice A0 l0.length c0)⟩, ⟨1, [], .v (.slice A1 l1.length c1)⟩], [], [], [], none, none⟩ [] (by kernel_rfl) trivial (fun ns_12 a w_13 hI _ => ?_)
    refine cond_ hI (decide (s1.1 < (l0.length : Int))) rfl (fun hc_14 => ?_) (fun hc_14 => ?_)
    ·replace H1 := bif_t hc_14 H1
     refine wpIn_skip ?_
     refine then_normal ?_
     refine wpIn_seq ?_
     refine wpIn_block ?_
     refine wpIn_seq ?_
     obtain ⟨hN_15, H1⟩ := req_some H1
     obtain ⟨sv_16, hE_18, hA_17⟩ := Arr.elB (d := kd_Item) hr0 s1.1 true (fun _ => hN_15)
     replace hE_18 := hE_18 rfl
     replace hA_17 := fun (_ : true = true) => hA_17 rfl
     obtain ⟨hN_19, H1⟩ := req_some H1
     obtain ⟨sv_20, hE_22, hA_21⟩ := Arr.elB (d := kd_Item) hr1 s1.1 true (fun _ => hN_19)
     replace hE_22 := hE_22 rfl
     replace hA_21 := fun (_ : true = true) => hA_21 rfl
     refine drawn_ (live := [25, 5, 4, 0, 1]) (orc := [(kd_Item).cells (rd l0 s1.1) sv_16, (kd_Item).cells (rd l1 s1.1) sv_20, [.bool (!(eqb_Item (rd l0 s1.1) (rd l1 s1.1)))]]) hF hI ⟨[⟨25, [], .v (.bool (!(eqb_Item (rd l0 s1.1) (rd l1 s1.1))))⟩, ⟨5, [], .v (.int .i64 s1.1)⟩, ⟨4, [], .v (.bool s1.2)⟩, ⟨0, [], .v (.slice A0 l0.length c0)⟩, ⟨1, [], .v (.slice A1 l1.length c1)⟩], [], [], [], none, none⟩ [.need true ((0 : Int) ≤ s1.1 ∧ s1.1 < (l0.length : Int)), .need true (A0 = some (adr A0)), .cell true ((adr A0).add ((s1.1 : Int).toNat * 2)) ((kd_Item).cells (rd l0 s1.1) sv_16), .need true ((0 : Int) ≤ s1.1 ∧ s1.1 < (l1.length : Int)), .need true (A1 = some (adr A1)), .cell true ((adr A1).add ((s1.1 : Int).toNat * 2)) ((kd_Item).cells (rd l1 s1.1) sv_20), .run true (vS (do eqGuard .neq 70 (.tmp 20) (.tmp 24) (.agg ((kd_Item).cells (rd l0 s1.1) (svL [])).toArray) (.agg ((kd_Item).cells (rd l1 s1.1) (svL [])).toArray); binOp .neq 70 (.agg ((kd_Item).cells (rd l0 s1.1) (svL [])).toArray) (.agg ((kd_Item).cells (rd l1 s1.1) (svL [])).toArray))) (.bool (!(eqb_Item (rd l0 s1.1) (rd l1 s1.1))))] (by kernel_rfl) (by kernel_rfl) (by kernel_rfl) ⟨ob_inb (fun _ => hN_15), hA_17, ob_el (fun _ => hE_18) 0 ((kd_Item).cells (rd l0 s1.1) sv_16) rfl, ob_inb (fun _ => hN_19), hA_21, ob_el (fun _ => hE_22) 0 ((kd_Item).cells (rd l1 s1.1) sv_20) rfl, (fun _ wz hk => vS_run (neq_run (by kernel_rfl) (eqt_Item 9998 (rd l0 s1.1) (rd l1 s1.1) wz))), trivial⟩ (fun a w_23 hI => ?_)
     refine then_normal ?_
     refine cond_ hI ((!(eqb_Item (rd l0 s1.1) (rd l1 s1.1)))) rfl (fun hc_24 => ?_) (fun hc_24 => ?_)
     ·replace H1 := bif_t hc_24 H1
      refine seq_region (live := [4]) (orc := []) hF hI ⟨[⟨4, [], .v (.bool false)⟩], [], [], [], none, none⟩ [] (by kernel_rfl) trivial (fun ns_25 a w_26 hI _ => ?_)
      refine wpIn_ret ?_
      refine inBlock_ret ?_
      refine then_ret ?_
      refine then_ret ?_
      obtain rfl := Option.some.inj H1
      refine .inr ⟨_, rfl, fun ho => ?_⟩
      subst ho
      refine inBlock_ret ?_
      refine then_ret ?_
      obtain rfl := Option.some.inj H0
      exact ret1 hI rfl rfl ⟨rfl, hE.below hI⟩
     ·replace H1 := bif_f hc_24 H1
      refine wpIn_skip ?_
      refine inBlock_normal ?_
      refine then_normal ?_
      refine region_ (live := [5, 4, 0, 1]) (orc := []) hF hI ⟨[⟨5, [], .v (.int .i64 (IntKind.i64.wrap (s1.1 + 1)))⟩, ⟨4, [], .v (.bool s1.2)⟩, ⟨0, [], .v (.slice A0 l0.length c0)⟩, ⟨1, [], .v (.slice A1 l1.length c1)⟩], [], [], [], none, none⟩ [] (by kernel_rfl) trivial (fun ns_27 a w_28 hI _ => ?_)
      refine then_normal ?_
      obtain rfl := Option.some.inj H1
      exact ⟨_, rfl, ⟨_, hI.pick [5, 4, 0, 1] 0 ⟨[⟨5, [], .v (.int .i64 (IntKind.i64.wrap (s1.1 + 1)))⟩, ⟨4, [], .v (.bool s1.2)⟩, ⟨0, [], .v (.slice A0 l0.length c0)⟩, ⟨1, [], .v (.slice A1 l1.length c1)⟩], [], [], [], none, none⟩ (by kernel_rfl)⟩⟩
    ·replace H1 := bif_f hc_14 H1
     refine wpIn_exit ?_
     refine then_exit ?_
     refine then_exit ?_
     obtain rfl := Option.some.inj H1
     exact .inl ⟨_, rfl, rfl, ⟨_, hI.pick [5, 4, 0, 1] 0 ⟨[⟨5, [], .v (.int .i64 s1.1)⟩, ⟨4, [], .v (.bool s1.2)⟩, ⟨0, [], .v (.slice A0 l0.length c0)⟩, ⟨1, [], .v (.slice A1 l1.length c1)⟩], [], [], [], none, none⟩ (by kernel_rfl)⟩⟩
   ·clear hI
    rintro s1 a w_31 ho ⟨ns_32, hI⟩
    subst ho
    replace H0 : (some true : Option (Bool)) = _ := H0
    refine then_normal ?_
    refine seq_region (live := [4]) (orc := []) hF hI ⟨[⟨4, [], .v (.bool true)⟩], [], [], [], none, none⟩ [] (by kernel_rfl) trivial (fun ns_33 a w_34 hI _ => ?_)
    refine wpIn_ret ?_
    obtain rfl := Option.some.inj H0
    exact ret1 hI rfl rfl ⟨rfl, hE.below hI⟩

/-! ### porthole/portholelaw19.wakes: function 28 -/
noncomputable def G_law19_wakes  : Option (Bool) := ((G_wit_Order [] []).bind fun t_5 => (bif ((t_5.length : Int) == 0) then ((G_wit_Order ([(⟨0, (⟨0, 0, 0, []⟩ : Request), (⟨0, [], false, 0⟩ : Answer), true, 0, 0, 0, 0, 1, 1, 0, (-1), 0, (-1)⟩ : Call)] : List Call) []).bind fun t_19 => ((G_ref19_Same t_19 ([(⟨1, 0⟩ : Item)] : List Item)).bind fun t_29 => some (((t_5.length : Int) == 0) && t_29))) else some false))
set_option maxRecDepth 100000 in
set_option maxHeartbeats 4000000 in
theorem G_law19_wakes.calls   (w : World) {S : Nat → Prop}  (r : Bool) (h : G_law19_wakes = some r) :
    Calls Try.prog 28 #[] w fun e w' => e = .returned (.bool r) ∧ Below w.heap.size w w' := by
  unfold G_law19_wakes at h
  have H0 := h
  clear h
  refine enter Try.func28 rfl [] (n := 14) rfl (Nat.le_of_ble_eq_true rfl) (fun a hI => ?_)
  have hF : FOpen Fence.wide := .inl rfl
  have hE := Ep.start w
  refine seq_region (live := [0]) (orc := []) hF hI ⟨[⟨0, [], .v (.bool false)⟩], [], [], [], none, none⟩ [] (by kernel_rfl) trivial (fun ns_1 a w_2 hI _ => ?_)
  refine seq_region (live := [1, 0]) (orc := []) hF hI ⟨[⟨1, [], .p 0 0⟩, ⟨0, [], .v (.bool false)⟩], [], [], [([.v (.int .i64 0), .v (.int .i64 0), .v (.int .i64 0), .v (.int .u64 0), .v (.slice none 0 0), .v (.int .i64 0), .v (.slice none 0 0), .v (.bool false), .v (.int .i64 0), .v (.bool true), .v (.int .i64 0), .v (.int .i64 0), .v (.int .i64 0), .v (.int .i64 0), .v (.int .i64 1), .v (.int .i64 1), .v (.int .i64 0), .v (.int .i64 (-1)), .v (.int .i64 0), .v (.int .i64 (-1))], 42)], none, none⟩ [] (by kernel_rfl) trivial (fun ns_3 a w_4 hI _ => ?_)
  refine wpIn_seq ?_
  refine wpIn_region_lit ?_
  obtain ⟨hE', hmv, hmr⟩ := Ep.rebase hE hI
  replace hE := hE'
  replace hI := hI.rebase
  clear hE' hmv hmr
  obtain ⟨t_5, hG_6, H0⟩ := bind_some H0
  refine callH_ hF hE hI (wanted_none rfl) rfl (args := [.slice none 0 0, .slice none 0 0]) rfl (enters Try.func30 (by kernel_rfl) rfl) (fun sv_7 => .slice ((sv_7 0).1) t_5.length ((sv_7 0).2)) _ (G_wit_Order.calls [] [] none 0 none 0 w_4 (S := Lo S w w_4 ns_3 []) (Arr.nil _ _ _ _) (Nat.le_refl _) (Arr.nil _ _ _ _) (Nat.le_refl _) _ hG_6) (fun sv_7 => ⟨[⟨3, [], .v (.slice ((sv_7 0).1) t_5.length ((sv_7 0).2))⟩, ⟨1, [], .p 0 0⟩, ⟨0, [], .v (.bool false)⟩], [], [], [([.v (.int .i64 0), .v (.int .i64 0), .v (.int .i64 0), .v (.int .u64 0), .v (.slice none 0 0), .v (.int .i64 0), .v (.slice none 0 0), .v (.bool false), .v (.int .i64 0), .v (.bool true), .v (.int .i64 0), .v (.int .i64 0), .v (.int .i64 0), .v (.int .i64 0), .v (.int .i64 1), .v (.int .i64 1), .v (.int .i64 0), .v (.int .i64 (-1)), .v (.int .i64 0), .v (.int .i64 (-1))], 42)], none, none⟩) (fun sv_7 => by kernel_rfl) (fun sv_7 a w_9 hput hE' hI' hmv hmr hres hR => ?_)
  replace hE := hE'
  replace hI := hI'
  clear hE' hI' hmv hmr
  obtain ⟨hR_8, hR_8c⟩ := hR
  replace hR_8 := Arr.keep hR_8 (hres _)
  clear hres
  refine chunkT_ (liveT := [7, 6, 0]) (liveF := [6, 0]) (orc := []) hF 4 hI (((t_5.length : Int) == 0)) ⟨[⟨7, [], .v (.agg #[.int .i64 0, .int .i64 0, .int .i64 0, .int .u64 0, .slice none 0 0, .int .i64 0, .slice none 0 0, .bool false, .int .i64 0, .bool true, .int .i64 0, .int .i64 0, .int .i64 0, .int .i64 0, .int .i64 1, .int .i64 1, .int .i64 0, .int .i64 (-1), .int .i64 0, .int .i64 (-1)])⟩, ⟨6, [], .v (.bool ((t_5.length : Int) == 0))⟩, ⟨0, [], .v (.bool false)⟩], [], [], [([.v (.int .i64 0), .v (.int .i64 0), .v (.int .i64 0), .v (.int .u64 0), .v (.slice none 0 0), .v (.int .i64 0), .v (.slice none 0 0), .v (.bool false), .v (.int .i64 0), .v (.bool true), .v (.int .i64 0), .v (.int .i64 0), .v (.int .i64 0), .v (.int .i64 0), .v (.int .i64 1), .v (.int .i64 1), .v (.int .i64 0), .v (.int .i64 (-1)), .v (.int .i64 0), .v (.int .i64 (-1))], 42)], none, none⟩ ⟨[⟨6, [], .v (.bool ((t_5.length : Int) == 0))⟩, ⟨0, [], .v (.bool false)⟩], [], [], [([.v (.int .i64 0), .v (.int .i64 0), .v (.int .i64 0), .v (.int .u64 0), .v (.slice none 0 0), .v (.int .i64 0), .v (.slice none 0 0), .v (.bool false), .v (.int .i64 0), .v (.bool true), .v (.int .i64 0), .v (.int .i64 0), .v (.int .i64 0), .v (.int .i64 0), .v (.int .i64 1), .v (.int .i64 1), .v (.int .i64 0), .v (.int .i64 (-1)), .v (.int .i64 0), .v (.int .i64 (-1))], 42)], none, none⟩ [] rfl (by kernel_rfl) trivial (fun hb_10 ns_11 a w_12 hI hW => ?_) (fun hb_10 ns_13 a w_14 hI hW => ?_)
  ·replace H0 := bif_t hb_10 H0
   obtain ⟨hE', hmv, hmr⟩ := Ep.rebase hE hI
   replace hR_8 := Arr.keep hR_8 (hmv _)
   replace hE := hE'
   replace hI := hI.rebase
   clear hE' hmv hmr
   refine buildSlice_ (S0 := S) (d := kd_Call) (e := 42) hF hE hI hW rfl (by kernel_rfl) (cs := [.int .i64 0, .int .i64 0, .int .i64 0, .int .u64 0, .slice none 0 0, .int .i64 0, .slice none 0 0, .bool false, .int .i64 0, .bool true, .int .i64 0, .int .i64 0, .int .i64 0, .int .i64 0, .int .i64 1, .int .i64 1, .int .i64 0, .int .i64 (-1), .int .i64 0, .int .i64 (-1)]) (by kernel_rfl) [(⟨0, (⟨0, 0, 0, []⟩ : Request), (⟨0, [], false, 0⟩ : Answer), true, 0, 0, 0, 0, 1, 1, 0, (-1), 0, (-1)⟩ : Call)] [(svL [(none, 0), (none, 0)])] rfl rfl (by simp [maxLen]) (fun i x hi => by cases i with | zero => (simp only [List.getElem?_cons_zero, Option.some.injEq] at hi; subst hi; exact ⟨⟨⟨(Arr.nil _ _ _ _), (Nat.le_refl _)⟩, ⟨(Arr.nil _ _ _ _), (Nat.le_refl _)⟩, trivial⟩, rfl⟩) | succ i => (simp only [List.getElem?_cons_succ] at hi; simp at hi)) (fun A_15 => ⟨[⟨8, [], .v (.slice A_15 ([(⟨0, (⟨0, 0, 0, []⟩ : Request), (⟨0, [], false, 0⟩ : Answer), true, 0, 0, 0, 0, 1, 1, 0, (-1), 0, (-1)⟩ : Call)] : List Call).length (([(⟨0, (⟨0, 0, 0, []⟩ : Request), (⟨0, [], false, 0⟩ : Answer), true, 0, 0, 0, 0, 1, 1, 0, (-1), 0, (-1)⟩ : Call)] : List Call).length))⟩, ⟨7, [], .v (.agg #[.int .i64 0, .int .i64 0, .int .i64 0, .int .u64 0, .slice none 0 0, .int .i64 0, .slice none 0 0, .bool false, .int .i64 0, .bool true, .int .i64 0, .int .i64 0, .int .i64 0, .int .i64 0, .int .i64 1, .int .i64 1, .int .i64 0, .int .i64 (-1), .int .i64 0, .int .i64 (-1)])⟩, ⟨6, [], .v (.bool ((t_5.length : Int) == 0))⟩, ⟨0, [], .v (.bool false)⟩], [], [], [([.v (.int .i64 0), .v (.int .i64 0), .v (.int .i64 0), .v (.int .u64 0), .v (.slice none 0 0), .v (.int .i64 0), .v (.slice none 0 0), .v (.bool false), .v (.int .i64 0), .v (.bool true), .v (.int .i64 0), .v (.int .i64 0), .v (.int .i64 0), .v (.int .i64 0), .v (.int .i64 1), .v (.int .i64 1), .v (.int .i64 0), .v (.int .i64 (-1)), .v (.int .i64 0), .v (.int .i64 (-1))], 42)], none, none⟩) (fun A_15 => by kernel_rfl) (fun A_15 a w_17 hput hE' hI' hmv hmr hq_16 => ?_)
   replace hR_8 := Arr.keep hR_8 (hmv _)
   replace hE := hE'
   replace hI := hI'
   clear hE' hI' hmv hmr
   refine unguardK_ hI ((t_5.length : Int) == 0) (by kernel_rfl) (by simp [hb_10]) ?_
   obtain ⟨hE', hmv, hq_16, hcap_18⟩ := Row.still (l1 := []) (l2 := []) hq_16 (Nat.le_refl _) hE
   have hmr : ∀ b ∈ ([rb A_15] : List (List Nat)).flatten, w_17.heap[b]? = w_17.heap[b]? := fun _ _ => rfl
   replace hR_8 := Arr.keep hR_8 (hmv _)
   replace hE := hE'
   clear hE' hmv hmr
   obtain ⟨t_19, hG_20, H0⟩ := bind_some H0
   refine callH_ hF hE hI (wanted_none rfl) rfl (args := [.slice A_15 ([(⟨0, (⟨0, 0, 0, []⟩ : Request), (⟨0, [], false, 0⟩ : Answer), true, 0, 0, 0, 0, 1, 1, 0, (-1), 0, (-1)⟩ : Call)] : List Call).length (([(⟨0, (⟨0, 0, 0, []⟩ : Request), (⟨0, [], false, 0⟩ : Answer), true, 0, 0, 0, 0, 1, 1, 0, (-1), 0, (-1)⟩ : Call)] : List Call).length), .slice none 0 0]) rfl (enters Try.func30 (by kernel_rfl) rfl) (fun sv_21 => .slice ((sv_21 0).1) t_19.length ((sv_21 0).2)) _ (G_wit_Order.calls ([(⟨0, (⟨0, 0, 0, []⟩ : Request), (⟨0, [], false, 0⟩ : Answer), true, 0, 0, 0, 0, 1, 1, 0, (-1), 0, (-1)⟩ : Call)] : List Call) [] A_15 (([(⟨0, (⟨0, 0, 0, []⟩ : Request), (⟨0, [], false, 0⟩ : Answer), true, 0, 0, 0, 0, 1, 1, 0, (-1), 0, (-1)⟩ : Call)] : List Call).length) none 0 w_17 (S := Lo S w w_17 ns_11 []) hq_16 hcap_18 (Arr.nil _ _ _ _) (Nat.le_refl _) _ hG_20) (fun sv_21 => ⟨[⟨9, [], .v (.slice ((sv_21 0).1) t_19.length ((sv_21 0).2))⟩, ⟨8, [], .v (.slice A_15 ([(⟨0, (⟨0, 0, 0, []⟩ : Request), (⟨0, [], false, 0⟩ : Answer), true, 0, 0, 0, 0, 1, 1, 0, (-1), 0, (-1)⟩ : Call)] : List Call).length (([(⟨0, (⟨0, 0, 0, []⟩ : Request), (⟨0, [], false, 0⟩ : Answer), true, 0, 0, 0, 0, 1, 1, 0, (-1), 0, (-1)⟩ : Call)] : List Call).length))⟩, ⟨7, [], .v (.agg #[.int .i64 0, .int .i64 0, .int .i64 0, .int .u64 0, .slice none 0 0, .int .i64 0, .slice none 0 0, .bool false, .int .i64 0, .bool true, .int .i64 0, .int .i64 0, .int .i64 0, .int .i64 0, .int .i64 1, .int .i64 1, .int .i64 0, .int .i64 (-1), .int .i64 0, .int .i64 (-1)])⟩, ⟨6, [], .v (.bool ((t_5.length : Int) == 0))⟩, ⟨0, [], .v (.bool false)⟩], [], [], [([.v (.int .i64 0), .v (.int .i64 0), .v (.int .i64 0), .v (.int .u64 0), .v (.slice none 0 0), .v (.int .i64 0), .v (.slice none 0 0), .v (.bool false), .v (.int .i64 0), .v (.bool true), .v (.int .i64 0), .v (.int .i64 0), .v (.int .i64 0), .v (.int .i64 0), .v (.int .i64 1), .v (.int .i64 1), .v (.int .i64 0), .v (.int .i64 (-1)), .v (.int .i64 0), .v (.int .i64 (-1))], 42)], none, none⟩) (fun sv_21 => by kernel_rfl) (fun sv_21 a w_23 hput hE' hI' hmv hmr hres hR => ?_)
   replace hR_8 := Arr.keep hR_8 (hmv _)
   replace hq_16 := Arr.keep hq_16 (hmv _)
   replace hE := hE'
   replace hI := hI'
   clear hE' hI' hmv hmr
   obtain ⟨hR_22, hR_22c⟩ := hR
   replace hR_22 := Arr.keep hR_22 (hres _)
   clear hres
   refine unguardK_ hI ((t_5.length : Int) == 0) (by kernel_rfl) (by simp [hb_10]) ?_
   refine chunkL_ (live := [10, 9, 6, 0]) (orc := []) hF 1 hI ⟨[⟨10, [], .v (.agg #[.int .i64 1, .int .i64 0])⟩, ⟨9, [], .v (.slice ((sv_21 0).1) t_19.length ((sv_21 0).2))⟩, ⟨6, [], .v (.bool ((t_5.length : Int) == 0))⟩, ⟨0, [], .v (.bool false)⟩], [], [], [([.v (.int .i64 0), .v (.int .i64 0), .v (.int .i64 0), .v (.int .u64 0), .v (.slice none 0 0), .v (.int .i64 0), .v (.slice none 0 0), .v (.bool false), .v (.int .i64 0), .v (.bool true), .v (.int .i64 0), .v (.int .i64 0), .v (.int .i64 0), .v (.int .i64 0), .v (.int .i64 1), .v (.int .i64 1), .v (.int .i64 0), .v (.int .i64 (-1)), .v (.int .i64 0), .v (.int .i64 (-1))], 42)], none, none⟩ [] rfl (by kernel_rfl) trivial (fun ns_24 a w_25 hI => ?_)
   refine unguardK_ hI ((t_5.length : Int) == 0) (by kernel_rfl) (by simp [hb_10]) ?_
   obtain ⟨hE', hmv, hmr⟩ := Ep.rebase hE hI
   replace hR_8 := Arr.keep hR_8 (hmv _)
   replace hq_16 := Arr.keep hq_16 (hmv _)
   replace hR_22 := Arr.keep hR_22 (hmv _)
   replace hE := hE'
   replace hI := hI.rebase
   clear hE' hmv hmr
   refine buildSlice_ (S0 := S) (d := kd_Item) (e := 70) hF hE hI (wanted_none rfl) rfl (by kernel_rfl) (cs := [.int .i64 1, .int .i64 0]) (by kernel_rfl) [(⟨1, 0⟩ : Item)] [(svL [])] rfl rfl (by simp [maxLen]) (fun i x hi => by cases i with | zero => (simp only [List.getElem?_cons_zero, Option.some.injEq] at hi; subst hi; exact ⟨trivial, rfl⟩) | succ i => (simp only [List.getElem?_cons_succ] at hi; simp at hi)) (fun A_26 => ⟨[⟨11, [], .v (.slice A_26 ([(⟨1, 0⟩ : Item)] : List Item).length (([(⟨1, 0⟩ : Item)] : List Item).length))⟩, ⟨10, [], .v (.agg #[.int .i64 1, .int .i64 0])⟩, ⟨9, [], .v (.slice ((sv_21 0).1) t_19.length ((sv_21 0).2))⟩, ⟨6, [], .v (.bool ((t_5.length : Int) == 0))⟩, ⟨0, [], .v (.bool false)⟩], [], [], [([.v (.int .i64 0), .v (.int .i64 0), .v (.int .i64 0), .v (.int .u64 0), .v (.slice none 0 0), .v (.int .i64 0), .v (.slice none 0 0), .v (.bool false), .v (.int .i64 0), .v (.bool true), .v (.int .i64 0), .v (.int .i64 0), .v (.int .i64 0), .v (.int .i64 0), .v (.int .i64 1), .v (.int .i64 1), .v (.int .i64 0), .v (.int .i64 (-1)), .v (.int .i64 0), .v (.int .i64 (-1))], 42)], none, none⟩) (fun A_26 => by kernel_rfl) (fun A_26 a w_28 hput hE' hI' hmv hmr hq_27 => ?_)
   replace hR_8 := Arr.keep hR_8 (hmv _)
   replace hq_16 := Arr.keep hq_16 (hmv _)
   replace hR_22 := Arr.keep hR_22 (hmv _)
   replace hE := hE'
   replace hI := hI'
   clear hE' hI' hmv hmr
   refine unguardK_ hI ((t_5.length : Int) == 0) (by kernel_rfl) (by simp [hb_10]) ?_
   obtain ⟨t_29, hG_30, H0⟩ := bind_some H0
   refine chunkL_ (live := [0]) (orc := [[.bool t_29]]) hF 3 hI ⟨[⟨0, [], .v (.bool (((t_5.length : Int) == 0) && t_29))⟩], [], [], [([.v (.int .i64 0), .v (.int .i64 0), .v (.int .i64 0), .v (.int .u64 0), .v (.slice none 0 0), .v (.int .i64 0), .v (.slice none 0 0), .v (.bool false), .v (.int .i64 0), .v (.bool true), .v (.int .i64 0), .v (.int .i64 0), .v (.int .i64 0), .v (.int .i64 0), .v (.int .i64 1), .v (.int .i64 1), .v (.int .i64 0), .v (.int .i64 (-1)), .v (.int .i64 0), .v (.int .i64 (-1))], 42)], none, none⟩ [.call true 29 [.slice ((sv_21 0).1) t_19.length ((sv_21 0).2), .slice A_26 ([(⟨1, 0⟩ : Item)] : List Item).length (([(⟨1, 0⟩ : Item)] : List Item).length)] (.bool t_29)] rfl (by kernel_rfl) ⟨ob_call (enters Try.func29 (by kernel_rfl) rfl) (fun hg wz hk => G_ref19_Same.calls t_19 ([(⟨1, 0⟩ : Item)] : List Item) ((sv_21 0).1) ((sv_21 0).2) A_26 (([(⟨1, 0⟩ : Item)] : List Item).length) wz (S := fun _ => True) (Arr.any (Arr.keep hR_22 (Lo.on hk))) hR_22c (Row.arr (S' := fun _ => True) (Row.on hq_27 hE (by simp) hk) (fun _ _ => trivial) (fun _ _ => trivial)).1 (Row.arr (S' := fun _ => True) hq_27 (fun _ _ => trivial) (fun _ _ => trivial)).2 _ hG_30), trivial⟩ (fun ns_31 a w_32 hI => ?_)
   refine wpListIn_nil ?_
   refine then_normal ?_
   refine wpIn_ret ?_
   obtain rfl := Option.some.inj H0
   exact ret1 hI rfl rfl ⟨rfl, hE.below hI⟩
  ·replace H0 := bif_f hb_10 H0
   refine skip1 hF hI hW ⟨[⟨6, [], .v (.bool ((t_5.length : Int) == 0))⟩, ⟨0, [], .v (.bool false)⟩], [], [], [([.v (.int .i64 0), .v (.int .i64 0), .v (.int .i64 0), .v (.int .u64 0), .v (.slice none 0 0), .v (.int .i64 0), .v (.slice none 0 0), .v (.bool false), .v (.int .i64 0), .v (.bool true), .v (.int .i64 0), .v (.int .i64 0), .v (.int .i64 0), .v (.int .i64 0), .v (.int .i64 1), .v (.int .i64 1), .v (.int .i64 0), .v (.int .i64 (-1)), .v (.int .i64 0), .v (.int .i64 (-1))], 42)], none, none⟩ (by kernel_rfl) (fun a hI => ?_)
   refine wantK_then hI ((t_5.length : Int) == 0) (by kernel_rfl) (by simp [hb_10]) (fun hW => ?_)
   refine skip1 hF hI hW ⟨[⟨6, [], .v (.bool ((t_5.length : Int) == 0))⟩, ⟨0, [], .v (.bool false)⟩], [], [], [([.v (.int .i64 0), .v (.int .i64 0), .v (.int .i64 0), .v (.int .u64 0), .v (.slice none 0 0), .v (.int .i64 0), .v (.slice none 0 0), .v (.bool false), .v (.int .i64 0), .v (.bool true), .v (.int .i64 0), .v (.int .i64 0), .v (.int .i64 0), .v (.int .i64 0), .v (.int .i64 1), .v (.int .i64 1), .v (.int .i64 0), .v (.int .i64 (-1)), .v (.int .i64 0), .v (.int .i64 (-1))], 42)], none, none⟩ (by kernel_rfl) (fun a hI => ?_)
   refine wantK_then hI ((t_5.length : Int) == 0) (by kernel_rfl) (by simp [hb_10]) (fun hW => ?_)
   refine skip1 hF hI hW ⟨[⟨6, [], .v (.bool ((t_5.length : Int) == 0))⟩, ⟨0, [], .v (.bool false)⟩], [], [], [([.v (.int .i64 0), .v (.int .i64 0), .v (.int .i64 0), .v (.int .u64 0), .v (.slice none 0 0), .v (.int .i64 0), .v (.slice none 0 0), .v (.bool false), .v (.int .i64 0), .v (.bool true), .v (.int .i64 0), .v (.int .i64 0), .v (.int .i64 0), .v (.int .i64 0), .v (.int .i64 1), .v (.int .i64 1), .v (.int .i64 0), .v (.int .i64 (-1)), .v (.int .i64 0), .v (.int .i64 (-1))], 42)], none, none⟩ (by kernel_rfl) (fun a hI => ?_)
   refine wantK_then hI ((t_5.length : Int) == 0) (by kernel_rfl) (by simp [hb_10]) (fun hW => ?_)
   refine skip1 hF hI hW ⟨[⟨6, [], .v (.bool ((t_5.length : Int) == 0))⟩, ⟨0, [], .v (.bool false)⟩], [], [], [([.v (.int .i64 0), .v (.int .i64 0), .v (.int .i64 0), .v (.int .u64 0), .v (.slice none 0 0), .v (.int .i64 0), .v (.slice none 0 0), .v (.bool false), .v (.int .i64 0), .v (.bool true), .v (.int .i64 0), .v (.int .i64 0), .v (.int .i64 0), .v (.int .i64 0), .v (.int .i64 1), .v (.int .i64 1), .v (.int .i64 0), .v (.int .i64 (-1)), .v (.int .i64 0), .v (.int .i64 (-1))], 42)], none, none⟩ (by kernel_rfl) (fun a hI => ?_)
   refine wantK_then hI ((t_5.length : Int) == 0) (by kernel_rfl) (by simp [hb_10]) (fun hW => ?_)
   refine skip1 hF hI hW ⟨[⟨6, [], .v (.bool ((t_5.length : Int) == 0))⟩, ⟨0, [], .v (.bool false)⟩], [], [], [([.v (.int .i64 0), .v (.int .i64 0), .v (.int .i64 0), .v (.int .u64 0), .v (.slice none 0 0), .v (.int .i64 0), .v (.slice none 0 0), .v (.bool false), .v (.int .i64 0), .v (.bool true), .v (.int .i64 0), .v (.int .i64 0), .v (.int .i64 0), .v (.int .i64 0), .v (.int .i64 1), .v (.int .i64 1), .v (.int .i64 0), .v (.int .i64 (-1)), .v (.int .i64 0), .v (.int .i64 (-1))], 42)], none, none⟩ (by kernel_rfl) (fun a hI => ?_)
   refine pick1 hF hI rfl rfl (((t_5.length : Int) == 0)) false rfl (by simp [hb_10]) rfl ⟨[⟨13, [], .v (.bool false)⟩, ⟨6, [], .v (.bool ((t_5.length : Int) == 0))⟩, ⟨0, [], .v (.bool false)⟩], [], [], [([.v (.int .i64 0), .v (.int .i64 0), .v (.int .i64 0), .v (.int .u64 0), .v (.slice none 0 0), .v (.int .i64 0), .v (.slice none 0 0), .v (.bool false), .v (.int .i64 0), .v (.bool true), .v (.int .i64 0), .v (.int .i64 0), .v (.int .i64 0), .v (.int .i64 0), .v (.int .i64 1), .v (.int .i64 1), .v (.int .i64 0), .v (.int .i64 (-1)), .v (.int .i64 0), .v (.int .i64 (-1))], 42)], none, none⟩ (by kernel_rfl) (fun a hI => ?_)
   refine chunkL_ (live := [0]) (orc := []) hF 1 hI ⟨[⟨0, [], .v (.bool false)⟩], [], [], [([.v (.int .i64 0), .v (.int .i64 0), .v (.int .i64 0), .v (.int .u64 0), .v (.slice none 0 0), .v (.int .i64 0), .v (.slice none 0 0), .v (.bool false), .v (.int .i64 0), .v (.bool true), .v (.int .i64 0), .v (.int .i64 0), .v (.int .i64 0), .v (.int .i64 0), .v (.int .i64 1), .v (.int .i64 1), .v (.int .i64 0), .v (.int .i64 (-1)), .v (.int .i64 0), .v (.int .i64 (-1))], 42)], none, none⟩ [] rfl (by kernel_rfl) trivial (fun ns_33 a w_34 hI => ?_)
   refine wpListIn_nil ?_
   refine then_normal ?_
   refine wpIn_ret ?_
   obtain rfl := Option.some.inj H0
   exact ret1 hI rfl rfl ⟨rfl, hE.below hI⟩

/-! ### porthole/portholeref17.one: function 35 -/
noncomputable def G_ref17_one (x0 : Call) : Option (Bool) := (bif ((decide (x0.From < 0) || decide (x0.T0 < 0)) || decide (x0.Own0 < 1)) then some false else (bif ((x0.Done && ((decide (x0.To < x0.From) || decide (x0.T1 < x0.T0)) || decide (x0.Own1 < x0.Own0))) || ((!x0.Done) && (((x0.To != (-1)) || (x0.T1 != (-1))) || (x0.Own1 != (-1))))) then some false else (bif ((x0.Mark != (-1)) && (decide (x0.Mark < x0.From) || (x0.Done && decide (x0.Mark > x0.To)))) then some false else some ((x0.Ring == (-1)) || ((decide (x0.Mark ≥ 0) && decide (x0.Ring > x0.Mark)) && ((!x0.Done) || decide (x0.Ring ≤ x0.To)))))))
set_option maxRecDepth 100000 in
set_option maxHeartbeats 4000000 in
theorem G_ref17_one.calls (x0 : Call) (sv0 : SV) (w : World) {S : Nat → Prop} (hx0 : (kd_Call).cont S w x0 sv0) (r : Bool) (h : G_ref17_one x0 = some r) :
    Calls Try.prog 35 #[.agg ((kd_Call).cells x0 sv0).toArray] w fun e w' => e = .returned (.bool r) ∧ Below w.heap.size w w' := by
  replace hx0 := Kd.lo _ hx0
  unfold G_ref17_one at h
  have H0 := h
  clear h
  refine enter Try.func35 rfl [.agg ((kd_Call).cells x0 sv0).toArray] (n := 107) rfl (Nat.le_of_ble_eq_true rfl) (fun a hI => ?_)
  have hF : FOpen Fence.wide := .inl rfl
  have hE := Ep.start w
  refine seq_region (live := [2, 1]) (orc := []) hF hI ⟨[⟨2, [], .v (.bool false)⟩, ⟨1, [], .p 0 0⟩], [], [], [((((kd_Call).cells x0 sv0).map EV.v), 42)], none, none⟩ [] (by kernel_rfl) trivial (fun ns_1 a w_2 hI _ => ?_)
  refine wpIn_seq ?_
  refine seq_region (live := [15, 2, 1]) (orc := []) hF hI ⟨[⟨15, [], .v (.bool ((decide (x0.From < 0) || decide (x0.T0 < 0)) || decide (x0.Own0 < 1)))⟩, ⟨2, [], .v (.bool false)⟩, ⟨1, [], .p 0 0⟩], [], [], [((((kd_Call).cells x0 sv0).map EV.v), 42)], none, none⟩ [] (by kernel_rfl) trivial (fun ns_3 a w_4 hI _ => ?_)
  refine cond_ hI (((decide (x0.From < 0) || decide (x0.T0 < 0)) || decide (x0.Own0 < 1))) rfl (fun hc_5 => ?_) (fun hc_5 => ?_)
  ·replace H0 := bif_t hc_5 H0
   refine seq_region (live := [2]) (orc := []) hF hI ⟨[⟨2, [], .v (.bool false)⟩], [], [], [((((kd_Call).cells x0 sv0).map EV.v), 42)], none, none⟩ [] (by kernel_rfl) trivial (fun ns_6 a w_7 hI _ => ?_)
   refine wpIn_ret ?_
   refine then_ret ?_
   obtain rfl := Option.some.inj H0
   exact ret1 hI rfl rfl ⟨rfl, hE.below hI⟩
  ·replace H0 := bif_f hc_5 H0
   refine wpIn_skip ?_
   refine then_normal ?_
   refine wpIn_seq ?_
   refine seq_region (live := [58, 2, 1]) (orc := []) hF hI ⟨[⟨58, [], .v (.bool ((x0.Done && ((decide (x0.To < x0.From) || decide (x0.T1 < x0.T0)) || decide (x0.Own1 < x0.Own0))) || ((!x0.Done) && (((x0.To != (-1)) || (x0.T1 != (-1))) || (x0.Own1 != (-1))))))⟩, ⟨2, [], .v (.bool false)⟩, ⟨1, [], .p 0 0⟩], [], [], [((((kd_Call).cells x0 sv0).map EV.v), 42)], none, none⟩ [] (by kernel_rfl) trivial (fun ns_8 a w_9 hI _ => ?_)
   refine cond_ hI (((x0.Done && ((decide (x0.To < x0.From) || decide (x0.T1 < x0.T0)) || decide (x0.Own1 < x0.Own0))) || ((!x0.Done) && (((x0.To != (-1)) || (x0.T1 != (-1))) || (x0.Own1 != (-1)))))) rfl (fun hc_10 => ?_) (fun hc_10 => ?_)
   ·replace H0 := bif_t hc_10 H0
    refine seq_region (live := [2]) (orc := []) hF hI ⟨[⟨2, [], .v (.bool false)⟩], [], [], [((((kd_Call).cells x0 sv0).map EV.v), 42)], none, none⟩ [] (by kernel_rfl) trivial (fun ns_11 a w_12 hI _ => ?_)
    refine wpIn_ret ?_
    refine then_ret ?_
    obtain rfl := Option.some.inj H0
    exact ret1 hI rfl rfl ⟨rfl, hE.below hI⟩
   ·replace H0 := bif_f hc_10 H0
    refine wpIn_skip ?_
    refine then_normal ?_
    refine wpIn_seq ?_
    refine seq_region (live := [79, 2, 1]) (orc := []) hF hI ⟨[⟨79, [], .v (.bool ((x0.Mark != (-1)) && (decide (x0.Mark < x0.From) || (x0.Done && decide (x0.Mark > x0.To)))))⟩, ⟨2, [], .v (.bool false)⟩, ⟨1, [], .p 0 0⟩], [], [], [((((kd_Call).cells x0 sv0).map EV.v), 42)], none, none⟩ [] (by kernel_rfl) trivial (fun ns_13 a w_14 hI _ => ?_)
    refine cond_ hI (((x0.Mark != (-1)) && (decide (x0.Mark < x0.From) || (x0.Done && decide (x0.Mark > x0.To))))) rfl (fun hc_15 => ?_) (fun hc_15 => ?_)
    ·replace H0 := bif_t hc_15 H0
     refine seq_region (live := [2]) (orc := []) hF hI ⟨[⟨2, [], .v (.bool false)⟩], [], [], [((((kd_Call).cells x0 sv0).map EV.v), 42)], none, none⟩ [] (by kernel_rfl) trivial (fun ns_16 a w_17 hI _ => ?_)
     refine wpIn_ret ?_
     refine then_ret ?_
     obtain rfl := Option.some.inj H0
     exact ret1 hI rfl rfl ⟨rfl, hE.below hI⟩
    ·replace H0 := bif_f hc_15 H0
     refine wpIn_skip ?_
     refine then_normal ?_
     refine seq_region (live := [2]) (orc := []) hF hI ⟨[⟨2, [], .v (.bool ((x0.Ring == (-1)) || ((decide (x0.Mark ≥ 0) && decide (x0.Ring > x0.Mark)) && ((!x0.Done) || decide (x0.Ring ≤ x0.To)))))⟩], [], [], [((((kd_Call).cells x0 sv0).map EV.v), 42)], none, none⟩ [] (by kernel_rfl) trivial (fun ns_18 a w_19 hI _ => ?_)
     refine wpIn_ret ?_
     obtain rfl := Option.some.inj H0
     exact ret1 hI rfl rfl ⟨rfl, hE.below hI⟩

/-! ### porthole/portholeref17.before: function 36 -/
noncomputable def G_ref17_before.b1 (l0 : (List Call)) (a1 : Int) (s1 : Int × Int) : Option (Stp (Int × Int) (Ex (Int × Int) (Int))) := (bif decide (s1.1 ≥ 0) then (req (inb s1.1 l0.length) (req (inb a1 l0.length) (bif (((rd l0 s1.1).Part) == ((rd l0 a1).Part)) then some (.out (.ret s1.1)) else some (.next ((IntKind.i64.wrap (s1.1 - 1)), s1.2))))) else some (.out (.brk (s1.1, s1.2))))
noncomputable def G_ref17_before (l0 : (List Call)) (a1 : Int) : Option (Int) := ((loopω (G_ref17_before.b1 l0 a1) ((IntKind.i64.wrap (a1 - 1)), 0)).bind fun o => o.on (fun s1 => some (-1)) (fun r => some r))
set_option maxRecDepth 100000 in
set_option maxHeartbeats 4000000 in
theorem G_ref17_before.calls (l0 : (List Call)) (a1 : Int) (A0 : Option Addr) (c0 : Nat) (w : World) {S : Nat → Prop} (hr0 : Arr kd_Call S w A0 l0) (hc0 : l0.length ≤ c0) (r : Int) (h : G_ref17_before l0 a1 = some r) :
    Calls Try.prog 36 #[.slice A0 l0.length c0, .int .i64 a1] w fun e w' => e = .returned (.int .i64 r) ∧ Below w.heap.size w w' := by
  replace hr0 := Arr.lo hr0
  unfold G_ref17_before at h
  have H0 := h
  clear h
  refine enter Try.func36 rfl [.slice A0 l0.length c0, .int .i64 a1] (n := 24) rfl (Nat.le_of_ble_eq_true rfl) (fun a hI => ?_)
  have hF : FOpen Fence.wide := .inl rfl
  have hE := Ep.start w
  refine seq_region (live := [4, 0, 1]) (orc := []) hF hI ⟨[⟨4, [], .v (.int .i64 0)⟩, ⟨0, [], .v (.slice A0 l0.length c0)⟩, ⟨1, [], .v (.int .i64 a1)⟩], [], [], [], none, none⟩ [] (by kernel_rfl) trivial (fun ns_1 a w_2 hI _ => ?_)
  refine wpIn_seq ?_
  refine seq_region (live := [5, 4, 0, 1]) (orc := []) hF hI ⟨[⟨5, [], .v (.int .i64 (IntKind.i64.wrap (a1 - 1)))⟩, ⟨4, [], .v (.int .i64 0)⟩, ⟨0, [], .v (.slice A0 l0.length c0)⟩, ⟨1, [], .v (.int .i64 a1)⟩], [], [], [], none, none⟩ [] (by kernel_rfl) trivial (fun ns_3 a w_4 hI _ => ?_)
  obtain ⟨o_24, hL_25, H0⟩ := bind_some H0
  refine block_loop (fun (s1 : Int × Int) a w_30 => ∃ ns, St w [] 24 ⟨[⟨5, [], .v (.int .i64 s1.1)⟩, ⟨4, [], .v (.int .i64 s1.2)⟩, ⟨0, [], .v (.slice A0 l0.length c0)⟩, ⟨1, [], .v (.int .i64 a1)⟩], [], [], [], none, none⟩ ns a w_30) ((IntKind.i64.wrap (a1 - 1)), 0) hL_25 ⟨_, hI.pick [5, 4, 0, 1] 0 ⟨[⟨5, [], .v (.int .i64 (IntKind.i64.wrap (a1 - 1)))⟩, ⟨4, [], .v (.int .i64 0)⟩, ⟨0, [], .v (.slice A0 l0.length c0)⟩, ⟨1, [], .v (.int .i64 a1)⟩], [], [], [], none, none⟩ (by kernel_rfl)⟩ ?_ ?_
  ·clear hI
   rintro s1 a w_5 ⟨ns_6, hI⟩ r1 H1
   unfold G_ref17_before.b1 at H1
   refine wpIn_seq ?_
   refine seq_region (live := [9, 5, 4, 0, 1]) (orc := []) hF hI ⟨[⟨9, [], .v (.bool (decide (s1.1 ≥ 0)))⟩, ⟨5, [], .v (.int .i64 s1.1)⟩, ⟨4, [], .v (.int .i64 s1.2)⟩, ⟨0, [], .v (.slice A0 l0.length c0)⟩, ⟨1, [], .v (.int .i64 a1)⟩], [], [], [], none, none⟩ [] (by kernel_rfl) trivial (fun ns_7 a w_8 hI _ => ?_)
   refine cond_ hI (decide (s1.1 ≥ 0)) rfl (fun hc_9 => ?_) (fun hc_9 => ?_)
   ·replace H1 := bif_t hc_9 H1
    refine wpIn_skip ?_
    refine then_normal ?_
    refine wpIn_seq ?_
    refine wpIn_block ?_
    refine wpIn_seq ?_
    obtain ⟨hN_10, H1⟩ := req_some H1
    obtain ⟨sv_11, hE_13, hA_12⟩ := Arr.elB (d := kd_Call) hr0 s1.1 true (fun _ => hN_10)
    replace hE_13 := hE_13 rfl
    replace hA_12 := fun (_ : true = true) => hA_12 rfl
    obtain ⟨hN_14, H1⟩ := req_some H1
    obtain ⟨sv_15, hE_17, hA_16⟩ := Arr.elB (d := kd_Call) hr0 a1 true (fun _ => hN_14)
    replace hE_17 := hE_17 rfl
    replace hA_16 := fun (_ : true = true) => hA_16 rfl
    refine drawn_ (live := [22, 5, 4, 0, 1]) (orc := [[.int .i64 ((rd l0 s1.1).Part)], [.int .i64 ((rd l0 a1).Part)]]) hF hI ⟨[⟨22, [], .v (.bool (((rd l0 s1.1).Part) == ((rd l0 a1).Part)))⟩, ⟨5, [], .v (.int .i64 s1.1)⟩, ⟨4, [], .v (.int .i64 s1.2)⟩, ⟨0, [], .v (.slice A0 l0.length c0)⟩, ⟨1, [], .v (.int .i64 a1)⟩], [], [], [], none, none⟩ [.need true ((0 : Int) ≤ s1.1 ∧ s1.1 < (l0.length : Int)), .need true (A0 = some (adr A0)), .cell true ((adr A0).add ((s1.1 : Int).toNat * 20)) [.int .i64 ((rd l0 s1.1).Part)], .need true ((0 : Int) ≤ a1 ∧ a1 < (l0.length : Int)), .need true (A0 = some (adr A0)), .cell true ((adr A0).add ((a1 : Int).toNat * 20)) [.int .i64 ((rd l0 a1).Part)]] (by kernel_rfl) (by kernel_rfl) (by kernel_rfl) ⟨ob_inb (fun _ => hN_10), hA_12, ob_el (fun _ => hE_13) 0 [.int .i64 ((rd l0 s1.1).Part)] rfl, ob_inb (fun _ => hN_14), hA_16, ob_el (fun _ => hE_17) 0 [.int .i64 ((rd l0 a1).Part)] rfl, trivial⟩ (fun a w_18 hI => ?_)
    refine then_normal ?_
    refine cond_ hI ((((rd l0 s1.1).Part) == ((rd l0 a1).Part))) rfl (fun hc_19 => ?_) (fun hc_19 => ?_)
    ·replace H1 := bif_t hc_19 H1
     refine seq_region (live := [4]) (orc := []) hF hI ⟨[⟨4, [], .v (.int .i64 s1.1)⟩], [], [], [], none, none⟩ [] (by kernel_rfl) trivial (fun ns_20 a w_21 hI _ => ?_)
     refine wpIn_ret ?_
     refine inBlock_ret ?_
     refine then_ret ?_
     refine then_ret ?_
     obtain rfl := Option.some.inj H1
     refine .inr ⟨_, rfl, fun ho => ?_⟩
     subst ho
     refine inBlock_ret ?_
     refine then_ret ?_
     obtain rfl := Option.some.inj H0
     exact ret1 hI rfl rfl ⟨rfl, hE.below hI⟩
    ·replace H1 := bif_f hc_19 H1
     refine wpIn_skip ?_
     refine inBlock_normal ?_
     refine then_normal ?_
     refine region_ (live := [5, 4, 0, 1]) (orc := []) hF hI ⟨[⟨5, [], .v (.int .i64 (IntKind.i64.wrap (s1.1 - 1)))⟩, ⟨4, [], .v (.int .i64 s1.2)⟩, ⟨0, [], .v (.slice A0 l0.length c0)⟩, ⟨1, [], .v (.int .i64 a1)⟩], [], [], [], none, none⟩ [] (by kernel_rfl) trivial (fun ns_22 a w_23 hI _ => ?_)
     refine then_normal ?_
     obtain rfl := Option.some.inj H1
     exact ⟨_, rfl, ⟨_, hI.pick [5, 4, 0, 1] 0 ⟨[⟨5, [], .v (.int .i64 (IntKind.i64.wrap (s1.1 - 1)))⟩, ⟨4, [], .v (.int .i64 s1.2)⟩, ⟨0, [], .v (.slice A0 l0.length c0)⟩, ⟨1, [], .v (.int .i64 a1)⟩], [], [], [], none, none⟩ (by kernel_rfl)⟩⟩
   ·replace H1 := bif_f hc_9 H1
    refine wpIn_exit ?_
    refine then_exit ?_
    refine then_exit ?_
    obtain rfl := Option.some.inj H1
    exact .inl ⟨_, rfl, rfl, ⟨_, hI.pick [5, 4, 0, 1] 0 ⟨[⟨5, [], .v (.int .i64 s1.1)⟩, ⟨4, [], .v (.int .i64 s1.2)⟩, ⟨0, [], .v (.slice A0 l0.length c0)⟩, ⟨1, [], .v (.int .i64 a1)⟩], [], [], [], none, none⟩ (by kernel_rfl)⟩⟩
  ·clear hI
   rintro s1 a w_26 ho ⟨ns_27, hI⟩
   subst ho
   replace H0 : (some (-1) : Option (Int)) = _ := H0
   refine then_normal ?_
   refine seq_region (live := [4]) (orc := []) hF hI ⟨[⟨4, [], .v (.int .i64 (-1))⟩], [], [], [], none, none⟩ [] (by kernel_rfl) trivial (fun ns_28 a w_29 hI _ => ?_)
   refine wpIn_ret ?_
   obtain rfl := Option.some.inj H0
   exact ret1 hI rfl rfl ⟨rfl, hE.below hI⟩

/-! ### porthole/portholeref17.Ahead: function 21 -/
noncomputable def G_ref17_Ahead (x0 : Call) (x1 : Call) : Option (Bool) := some (x0.Done && decide (x0.To < x1.From))
set_option maxRecDepth 100000 in
set_option maxHeartbeats 4000000 in
theorem G_ref17_Ahead.calls (x0 : Call) (x1 : Call) (sv0 : SV) (sv1 : SV) (w : World) {S : Nat → Prop} (hx0 : (kd_Call).cont S w x0 sv0) (hx1 : (kd_Call).cont S w x1 sv1) (r : Bool) (h : G_ref17_Ahead x0 x1 = some r) :
    Calls Try.prog 21 #[.agg ((kd_Call).cells x0 sv0).toArray, .agg ((kd_Call).cells x1 sv1).toArray] w fun e w' => e = .returned (.bool r) ∧ Below w.heap.size w w' := by
  replace hx0 := Kd.lo _ hx0
  replace hx1 := Kd.lo _ hx1
  unfold G_ref17_Ahead at h
  have H0 := h
  clear h
  refine enter Try.func21 rfl [.agg ((kd_Call).cells x0 sv0).toArray, .agg ((kd_Call).cells x1 sv1).toArray] (n := 14) rfl (Nat.le_of_ble_eq_true rfl) (fun a hI => ?_)
  have hF : FOpen Fence.wide := .inl rfl
  have hE := Ep.start w
  refine seq_region (live := [4, 3, 2]) (orc := []) hF hI ⟨[⟨4, [], .v (.bool false)⟩, ⟨3, [], .p 1 0⟩, ⟨2, [], .p 0 0⟩], [], [], [((((kd_Call).cells x0 sv0).map EV.v), 42), ((((kd_Call).cells x1 sv1).map EV.v), 42)], none, none⟩ [] (by kernel_rfl) trivial (fun ns_1 a w_2 hI _ => ?_)
  refine seq_region (live := [4]) (orc := []) hF hI ⟨[⟨4, [], .v (.bool (x0.Done && decide (x0.To < x1.From)))⟩], [], [], [((((kd_Call).cells x0 sv0).map EV.v), 42), ((((kd_Call).cells x1 sv1).map EV.v), 42)], none, none⟩ [] (by kernel_rfl) trivial (fun ns_3 a w_4 hI _ => ?_)
  refine wpIn_ret ?_
  obtain rfl := Option.some.inj H0
  exact ret1 hI rfl rfl ⟨rfl, hE.below hI⟩

/-! ### porthole/portholeref17.Sound: function 14 -/
noncomputable def G_ref17_Sound.b1 (l0 : (List Call)) (s1 : Int × Bool) : Option (Stp (Int × Bool) (Ex (Int × Bool) (Bool))) := (bif decide (s1.1 < (l0.length : Int)) then (req (inb s1.1 l0.length) ((G_ref17_one (rd l0 s1.1)).bind fun t_16 => (req (imp (!(!t_16) && (decide (s1.1 > 0))) (inb (IntKind.i64.wrap (s1.1 - 1)) l0.length)) (bif ((!t_16) || (decide (s1.1 > 0) && decide (((rd l0 (IntKind.i64.wrap (s1.1 - 1))).From) ≥ ((rd l0 s1.1).From)))) then some (.out (.ret false)) else ((G_ref17_before l0 s1.1).bind fun t_26 => (bif (decide (t_26 < 0) && (((rd l0 s1.1).Own0) != 1)) then some (.out (.ret false)) else (req (imp (decide (t_26 ≥ 0)) (inb t_26 l0.length)) ((cal (decide (t_26 ≥ 0)) (G_ref17_Ahead (rd l0 t_26) (rd l0 s1.1)) default).bind fun t_39 => (req (imp (decide (t_26 ≥ 0) && (!(!t_39))) (inb t_26 l0.length)) (req (imp (decide (t_26 ≥ 0) && (!((!t_39) || decide (((rd l0 t_26).T1) > ((rd l0 s1.1).T0))))) (inb t_26 l0.length)) (bif (decide (t_26 ≥ 0) && (((!t_39) || decide (((rd l0 t_26).T1) > ((rd l0 s1.1).T0))) || ((IntKind.i64.wrap (((rd l0 s1.1).Own0) - ((rd l0 t_26).Own1))) != 1))) then some (.out (.ret false)) else (bif (((rd l0 s1.1).Saw) != (-1)) then (bif (decide (((rd l0 s1.1).Saw) < 0) || decide (((rd l0 s1.1).Saw) ≥ (l0.length : Int))) then some (.out (.ret false)) else (req (inb ((rd l0 s1.1).Saw) l0.length) (bif (((((rd l0 ((rd l0 s1.1).Saw)).Req.Op) != 3) || decide (((rd l0 ((rd l0 s1.1).Saw)).Mark) < 0)) || ((rd l0 s1.1).Done && decide (((rd l0 ((rd l0 s1.1).Saw)).Mark) > ((rd l0 s1.1).To)))) then some (.out (.ret false)) else some (.next ((IntKind.i64.wrap (s1.1 + 1)), s1.2))))) else some (.next ((IntKind.i64.wrap (s1.1 + 1)), s1.2)))))))))))))) else some (.out (.brk (s1.1, s1.2))))
noncomputable def G_ref17_Sound (l0 : (List Call)) : Option (Bool) := ((loopω (G_ref17_Sound.b1 l0) (0, false)).bind fun o => o.on (fun s1 => some true) (fun r => some r))
set_option maxRecDepth 100000 in
set_option maxHeartbeats 4000000 in
theorem G_ref17_Sound.calls (l0 : (List Call)) (A0 : Option Addr) (c0 : Nat) (w : World) {S : Nat → Prop} (hr0 : Arr kd_Call S w A0 l0) (hc0 : l0.length ≤ c0) (r : Bool) (h : G_ref17_Sound l0 = some r) :
    Calls Try.prog 14 #[.slice A0 l0.length c0] w fun e w' => e = .returned (.bool r) ∧ Below w.heap.size w w' := by
  replace hr0 := Arr.lo hr0
  unfold G_ref17_Sound at h
  have H0 := h
  clear h
  refine enter Try.func14 rfl [.slice A0 l0.length c0] (n := 115) rfl (Nat.le_of_ble_eq_true rfl) (fun a hI => ?_)
  have hF : FOpen Fence.wide := .inl rfl
  have hE := Ep.start w
  refine seq_region (live := [2, 0]) (orc := []) hF hI ⟨[⟨2, [], .v (.bool false)⟩, ⟨0, [], .v (.slice A0 l0.length c0)⟩], [], [], [], none, none⟩ [] (by kernel_rfl) trivial (fun ns_1 a w_2 hI _ => ?_)
  refine wpIn_seq ?_
  refine seq_region (live := [3, 2, 0]) (orc := []) hF hI ⟨[⟨3, [], .v (.int .i64 0)⟩, ⟨2, [], .v (.bool false)⟩, ⟨0, [], .v (.slice A0 l0.length c0)⟩], [], [], [], none, none⟩ [] (by kernel_rfl) trivial (fun ns_3 a w_4 hI _ => ?_)
  obtain ⟨o_76, hL_77, H0⟩ := bind_some H0
  refine block_loop (fun (s1 : Int × Bool) a w_82 => ∃ ns, St w [] 115 ⟨[⟨3, [], .v (.int .i64 s1.1)⟩, ⟨2, [], .v (.bool s1.2)⟩, ⟨0, [], .v (.slice A0 l0.length c0)⟩], [], [], [], none, none⟩ ns a w_82) (0, false) hL_77 ⟨_, hI.pick [3, 2, 0] 0 ⟨[⟨3, [], .v (.int .i64 0)⟩, ⟨2, [], .v (.bool false)⟩, ⟨0, [], .v (.slice A0 l0.length c0)⟩], [], [], [], none, none⟩ (by kernel_rfl)⟩ ?_ ?_
  ·clear hI
   rintro s1 a w_5 ⟨ns_6, hI⟩ r1 H1
   unfold G_ref17_Sound.b1 at H1
   refine wpIn_seq ?_
   refine seq_region (live := [10, 3, 2, 0]) (orc := []) hF hI ⟨[⟨10, [], .v (.bool (decide (s1.1 < (l0.length : Int))))⟩, ⟨3, [], .v (.int .i64 s1.1)⟩, ⟨2, [], .v (.bool s1.2)⟩, ⟨0, [], .v (.slice A0 l0.length c0)⟩], [], [], [], none, none⟩ [] (by kernel_rfl) trivial (fun ns_7 a w_8 hI _ => ?_)
   refine cond_ hI (decide (s1.1 < (l0.length : Int))) rfl (fun hc_9 => ?_) (fun hc_9 => ?_)
   ·replace H1 := bif_t hc_9 H1
    refine wpIn_skip ?_
    refine then_normal ?_
    refine wpIn_seq ?_
    refine wpIn_block ?_
    obtain ⟨hN_10, H1⟩ := req_some H1
    obtain ⟨sv_11, hE_13, hA_12⟩ := Arr.elB (d := kd_Call) hr0 s1.1 true (fun _ => hN_10)
    replace hE_13 := hE_13 rfl
    replace hA_12 := fun (_ : true = true) => hA_12 rfl
    refine seq_region (live := [4, 3, 2, 0]) (orc := [(kd_Call).cells (rd l0 s1.1) sv_11]) hF hI ⟨[⟨4, [], .p 0 0⟩, ⟨3, [], .v (.int .i64 s1.1)⟩, ⟨2, [], .v (.bool s1.2)⟩, ⟨0, [], .v (.slice A0 l0.length c0)⟩], [], [], [((((kd_Call).cells (rd l0 s1.1) sv_11).map EV.v), 42)], none, none⟩ [.need true ((0 : Int) ≤ s1.1 ∧ s1.1 < (l0.length : Int)), .need true (A0 = some (adr A0)), .cell true ((adr A0).add ((s1.1 : Int).toNat * 20)) ((kd_Call).cells (rd l0 s1.1) sv_11)] (by kernel_rfl) ⟨ob_inb (fun _ => hN_10), hA_12, ob_el (fun _ => hE_13) 0 ((kd_Call).cells (rd l0 s1.1) sv_11) rfl, trivial⟩ (fun ns_14 a w_15 hI _ => ?_)
    refine wpIn_seq ?_
    refine wpIn_seq ?_
    obtain ⟨t_16, hG_17, H1⟩ := bind_some H1
    obtain ⟨hN_18, H1⟩ := req_some H1
    obtain ⟨sv_19, hE_21, hA_20⟩ := Arr.elB (d := kd_Call) hr0 (IntKind.i64.wrap (s1.1 - 1)) (!(!t_16) && (decide (s1.1 > 0))) (fun hg => imp_spec hN_18 hg)
    refine drawn_ (live := [34, 4, 3, 2, 0]) (orc := [[.bool t_16], [.int .i64 ((rd l0 (IntKind.i64.wrap (s1.1 - 1))).From)]]) hF hI ⟨[⟨34, [], .v (.bool ((!t_16) || (decide (s1.1 > 0) && decide (((rd l0 (IntKind.i64.wrap (s1.1 - 1))).From) ≥ ((rd l0 s1.1).From)))))⟩, ⟨4, [], .p 0 0⟩, ⟨3, [], .v (.int .i64 s1.1)⟩, ⟨2, [], .v (.bool s1.2)⟩, ⟨0, [], .v (.slice A0 l0.length c0)⟩], [], [], [((((kd_Call).cells (rd l0 s1.1) sv_11).map EV.v), 42)], none, none⟩ [.call true 35 [.agg ((kd_Call).cells (rd l0 s1.1) sv_11).toArray] (.bool t_16), .need (!(!t_16) && (decide (s1.1 > 0))) ((0 : Int) ≤ (IntKind.i64.wrap (s1.1 - 1)) ∧ (IntKind.i64.wrap (s1.1 - 1)) < (l0.length : Int)), .need (!(!t_16) && (decide (s1.1 > 0))) (A0 = some (adr A0)), .cell (!(!t_16) && (decide (s1.1 > 0))) (((adr A0).add (((IntKind.i64.wrap (s1.1 - 1)) : Int).toNat * 20)).add 10) [.int .i64 ((rd l0 (IntKind.i64.wrap (s1.1 - 1))).From)]] (by kernel_rfl) (by kernel_rfl) (by kernel_rfl) ⟨ob_call (enters Try.func35 (by kernel_rfl) rfl) (fun hg wz hk => G_ref17_one.calls (rd l0 s1.1) sv_11 wz (S := fun _ => True) (Kd.any _ (Kd.keep kd_Call (contI (S := Lo S w w [] []) (w := w) (d := kd_Call) (x := (rd l0 s1.1)) (sv := sv_11) ⟨⟨(hE_13).cont.1.1, (hE_13).cont.1.2⟩, ⟨(hE_13).cont.2.1.1, (hE_13).cont.2.1.2⟩, trivial⟩) (Lo.on hk))) _ hG_17), ob_inb (fun hg => imp_spec hN_18 hg), hA_20, ob_el (fun hg => hE_21 hg) 10 [.int .i64 ((rd l0 (IntKind.i64.wrap (s1.1 - 1))).From)] rfl, trivial⟩ (fun a w_22 hI => ?_)
    refine then_normal ?_
    refine cond_ hI (((!t_16) || (decide (s1.1 > 0) && decide (((rd l0 (IntKind.i64.wrap (s1.1 - 1))).From) ≥ ((rd l0 s1.1).From))))) rfl (fun hc_23 => ?_) (fun hc_23 => ?_)
    ·replace H1 := bif_t hc_23 H1
     refine seq_region (live := [2]) (orc := []) hF hI ⟨[⟨2, [], .v (.bool false)⟩], [], [], [((((kd_Call).cells (rd l0 s1.1) sv_11).map EV.v), 42)], none, none⟩ [] (by kernel_rfl) trivial (fun ns_24 a w_25 hI _ => ?_)
     refine wpIn_ret ?_
     refine then_ret ?_
     refine inBlock_ret ?_
     refine then_ret ?_
     refine then_ret ?_
     obtain rfl := Option.some.inj H1
     refine .inr ⟨_, rfl, fun ho => ?_⟩
     subst ho
     refine inBlock_ret ?_
     refine then_ret ?_
     obtain rfl := Option.some.inj H0
     exact ret1 hI rfl rfl ⟨rfl, hE.below hI⟩
    ·replace H1 := bif_f hc_23 H1
     refine wpIn_skip ?_
     refine then_normal ?_
     obtain ⟨t_26, hG_27, H1⟩ := bind_some H1
     refine seq_region (live := [5, 4, 3, 2, 0]) (orc := [[.int .i64 t_26]]) hF hI ⟨[⟨5, [], .v (.int .i64 t_26)⟩, ⟨4, [], .p 0 0⟩, ⟨3, [], .v (.int .i64 s1.1)⟩, ⟨2, [], .v (.bool s1.2)⟩, ⟨0, [], .v (.slice A0 l0.length c0)⟩], [], [], [((((kd_Call).cells (rd l0 s1.1) sv_11).map EV.v), 42)], none, none⟩ [.call true 36 [.slice A0 l0.length c0, .int .i64 s1.1] (.int .i64 t_26)] (by kernel_rfl) ⟨ob_call (enters Try.func36 (by kernel_rfl) rfl) (fun hg wz hk => G_ref17_before.calls l0 s1.1 A0 c0 wz (S := fun _ => True) (Arr.any (Arr.keep hr0 (Lo.on hk))) hc0 _ hG_27), trivial⟩ (fun ns_28 a w_29 hI _ => ?_)
     refine wpIn_seq ?_
     refine seq_region (live := [44, 5, 4, 3, 2, 0]) (orc := []) hF hI ⟨[⟨44, [], .v (.bool (decide (t_26 < 0) && (((rd l0 s1.1).Own0) != 1)))⟩, ⟨5, [], .v (.int .i64 t_26)⟩, ⟨4, [], .p 0 0⟩, ⟨3, [], .v (.int .i64 s1.1)⟩, ⟨2, [], .v (.bool s1.2)⟩, ⟨0, [], .v (.slice A0 l0.length c0)⟩], [], [], [((((kd_Call).cells (rd l0 s1.1) sv_11).map EV.v), 42)], none, none⟩ [] (by kernel_rfl) trivial (fun ns_30 a w_31 hI _ => ?_)
     refine cond_ hI ((decide (t_26 < 0) && (((rd l0 s1.1).Own0) != 1))) rfl (fun hc_32 => ?_) (fun hc_32 => ?_)
     ·replace H1 := bif_t hc_32 H1
      refine seq_region (live := [2]) (orc := []) hF hI ⟨[⟨2, [], .v (.bool false)⟩], [], [], [((((kd_Call).cells (rd l0 s1.1) sv_11).map EV.v), 42)], none, none⟩ [] (by kernel_rfl) trivial (fun ns_33 a w_34 hI _ => ?_)
      refine wpIn_ret ?_
      refine then_ret ?_
      refine inBlock_ret ?_
      refine then_ret ?_
      refine then_ret ?_
      obtain rfl := Option.some.inj H1
      refine .inr ⟨_, rfl, fun ho => ?_⟩
      subst ho
      refine inBlock_ret ?_
      refine then_ret ?_
      obtain rfl := Option.some.inj H0
      exact ret1 hI rfl rfl ⟨rfl, hE.below hI⟩
     ·replace H1 := bif_f hc_32 H1
      refine wpIn_skip ?_
      refine then_normal ?_
      refine wpIn_seq ?_
      refine wpIn_seq ?_
      obtain ⟨hN_35, H1⟩ := req_some H1
      obtain ⟨sv_36, hE_38, hA_37⟩ := Arr.elB (d := kd_Call) hr0 t_26 (decide (t_26 ≥ 0)) (fun hg => imp_spec hN_35 hg)
      obtain ⟨t_39, hG_40, H1⟩ := bind_some H1
      obtain ⟨hN_41, H1⟩ := req_some H1
      obtain ⟨sv_42, hE_44, hA_43⟩ := Arr.elB (d := kd_Call) hr0 t_26 (decide (t_26 ≥ 0) && (!(!t_39))) (fun hg => imp_spec hN_41 hg)
      obtain ⟨hN_45, H1⟩ := req_some H1
      obtain ⟨sv_46, hE_48, hA_47⟩ := Arr.elB (d := kd_Call) hr0 t_26 (decide (t_26 ≥ 0) && (!((!t_39) || decide (((rd l0 t_26).T1) > ((rd l0 s1.1).T0))))) (fun hg => imp_spec hN_45 hg)
      refine drawn_ (live := [76, 4, 3, 2, 0]) (orc := [(kd_Call).cells (rd l0 t_26) sv_36, [.bool t_39], [.int .i64 ((rd l0 t_26).T1)], [.int .i64 ((rd l0 t_26).Own1)]]) hF hI ⟨[⟨76, [], .v (.bool (decide (t_26 ≥ 0) && (((!t_39) || decide (((rd l0 t_26).T1) > ((rd l0 s1.1).T0))) || ((IntKind.i64.wrap (((rd l0 s1.1).Own0) - ((rd l0 t_26).Own1))) != 1))))⟩, ⟨4, [], .p 0 0⟩, ⟨3, [], .v (.int .i64 s1.1)⟩, ⟨2, [], .v (.bool s1.2)⟩, ⟨0, [], .v (.slice A0 l0.length c0)⟩], [], [], [((((kd_Call).cells (rd l0 s1.1) sv_11).map EV.v), 42)], none, none⟩ [.need (decide (t_26 ≥ 0)) ((0 : Int) ≤ t_26 ∧ t_26 < (l0.length : Int)), .need (decide (t_26 ≥ 0)) (A0 = some (adr A0)), .cell (decide (t_26 ≥ 0)) ((adr A0).add ((t_26 : Int).toNat * 20)) ((kd_Call).cells (rd l0 t_26) sv_36), .call (decide (t_26 ≥ 0)) 21 [.agg ((kd_Call).cells (rd l0 t_26) sv_36).toArray, .agg ((kd_Call).cells (rd l0 s1.1) sv_11).toArray] (.bool t_39), .need (decide (t_26 ≥ 0) && (!(!t_39))) ((0 : Int) ≤ t_26 ∧ t_26 < (l0.length : Int)), .need (decide (t_26 ≥ 0) && (!(!t_39))) (A0 = some (adr A0)), .cell (decide (t_26 ≥ 0) && (!(!t_39))) (((adr A0).add ((t_26 : Int).toNat * 20)).add 13) [.int .i64 ((rd l0 t_26).T1)], .need (decide (t_26 ≥ 0) && (!((!t_39) || decide (((rd l0 t_26).T1) > ((rd l0 s1.1).T0))))) ((0 : Int) ≤ t_26 ∧ t_26 < (l0.length : Int)), .need (decide (t_26 ≥ 0) && (!((!t_39) || decide (((rd l0 t_26).T1) > ((rd l0 s1.1).T0))))) (A0 = some (adr A0)), .cell (decide (t_26 ≥ 0) && (!((!t_39) || decide (((rd l0 t_26).T1) > ((rd l0 s1.1).T0))))) (((adr A0).add ((t_26 : Int).toNat * 20)).add 15) [.int .i64 ((rd l0 t_26).Own1)]] (by kernel_rfl) (by kernel_rfl) (by kernel_rfl) ⟨ob_inb (fun hg => imp_spec hN_35 hg), hA_37, ob_el (fun hg => hE_38 hg) 0 ((kd_Call).cells (rd l0 t_26) sv_36) rfl, ob_call (enters Try.func21 (by kernel_rfl) rfl) (fun hg wz hk => G_ref17_Ahead.calls (rd l0 t_26) (rd l0 s1.1) sv_36 sv_11 wz (S := fun _ => True) (Kd.any _ (Kd.keep kd_Call (contI (S := Lo S w w [] []) (w := w) (d := kd_Call) (x := (rd l0 t_26)) (sv := sv_36) ⟨⟨((hE_38 hg)).cont.1.1, ((hE_38 hg)).cont.1.2⟩, ⟨((hE_38 hg)).cont.2.1.1, ((hE_38 hg)).cont.2.1.2⟩, trivial⟩) (Lo.on hk))) (Kd.any _ (Kd.keep kd_Call (contI (S := Lo S w w [] []) (w := w) (d := kd_Call) (x := (rd l0 s1.1)) (sv := sv_11) ⟨⟨(hE_13).cont.1.1, (hE_13).cont.1.2⟩, ⟨(hE_13).cont.2.1.1, (hE_13).cont.2.1.2⟩, trivial⟩) (Lo.on hk))) _ (cal_some hG_40 hg)), ob_inb (fun hg => imp_spec hN_41 hg), hA_43, ob_el (fun hg => hE_44 hg) 13 [.int .i64 ((rd l0 t_26).T1)] rfl, ob_inb (fun hg => imp_spec hN_45 hg), hA_47, ob_el (fun hg => hE_48 hg) 15 [.int .i64 ((rd l0 t_26).Own1)] rfl, trivial⟩ (fun a w_49 hI => ?_)
      refine then_normal ?_
      refine cond_ hI ((decide (t_26 ≥ 0) && (((!t_39) || decide (((rd l0 t_26).T1) > ((rd l0 s1.1).T0))) || ((IntKind.i64.wrap (((rd l0 s1.1).Own0) - ((rd l0 t_26).Own1))) != 1)))) rfl (fun hc_50 => ?_) (fun hc_50 => ?_)
      ·replace H1 := bif_t hc_50 H1
       refine seq_region (live := [2]) (orc := []) hF hI ⟨[⟨2, [], .v (.bool false)⟩], [], [], [((((kd_Call).cells (rd l0 s1.1) sv_11).map EV.v), 42)], none, none⟩ [] (by kernel_rfl) trivial (fun ns_51 a w_52 hI _ => ?_)
       refine wpIn_ret ?_
       refine then_ret ?_
       refine inBlock_ret ?_
       refine then_ret ?_
       refine then_ret ?_
       obtain rfl := Option.some.inj H1
       refine .inr ⟨_, rfl, fun ho => ?_⟩
       subst ho
       refine inBlock_ret ?_
       refine then_ret ?_
       obtain rfl := Option.some.inj H0
       exact ret1 hI rfl rfl ⟨rfl, hE.below hI⟩
      ·replace H1 := bif_f hc_50 H1
       refine wpIn_skip ?_
       refine then_normal ?_
       refine seq_region (live := [79, 4, 3, 2, 0]) (orc := []) hF hI ⟨[⟨79, [], .v (.bool (((rd l0 s1.1).Saw) != (-1)))⟩, ⟨4, [], .p 0 0⟩, ⟨3, [], .v (.int .i64 s1.1)⟩, ⟨2, [], .v (.bool s1.2)⟩, ⟨0, [], .v (.slice A0 l0.length c0)⟩], [], [], [((((kd_Call).cells (rd l0 s1.1) sv_11).map EV.v), 42)], none, none⟩ [] (by kernel_rfl) trivial (fun ns_53 a w_54 hI _ => ?_)
       refine cond_ hI ((((rd l0 s1.1).Saw) != (-1))) rfl (fun hc_55 => ?_) (fun hc_55 => ?_)
       ·replace H1 := bif_t hc_55 H1
        refine wpIn_seq ?_
        refine seq_region (live := [89, 4, 3, 2, 0]) (orc := []) hF hI ⟨[⟨89, [], .v (.bool (decide (((rd l0 s1.1).Saw) < 0) || decide (((rd l0 s1.1).Saw) ≥ (l0.length : Int))))⟩, ⟨4, [], .p 0 0⟩, ⟨3, [], .v (.int .i64 s1.1)⟩, ⟨2, [], .v (.bool s1.2)⟩, ⟨0, [], .v (.slice A0 l0.length c0)⟩], [], [], [((((kd_Call).cells (rd l0 s1.1) sv_11).map EV.v), 42)], none, none⟩ [] (by kernel_rfl) trivial (fun ns_56 a w_57 hI _ => ?_)
        refine cond_ hI ((decide (((rd l0 s1.1).Saw) < 0) || decide (((rd l0 s1.1).Saw) ≥ (l0.length : Int)))) rfl (fun hc_58 => ?_) (fun hc_58 => ?_)
        ·replace H1 := bif_t hc_58 H1
         refine seq_region (live := [2]) (orc := []) hF hI ⟨[⟨2, [], .v (.bool false)⟩], [], [], [((((kd_Call).cells (rd l0 s1.1) sv_11).map EV.v), 42)], none, none⟩ [] (by kernel_rfl) trivial (fun ns_59 a w_60 hI _ => ?_)
         refine wpIn_ret ?_
         refine then_ret ?_
         refine inBlock_ret ?_
         refine then_ret ?_
         refine then_ret ?_
         obtain rfl := Option.some.inj H1
         refine .inr ⟨_, rfl, fun ho => ?_⟩
         subst ho
         refine inBlock_ret ?_
         refine then_ret ?_
         obtain rfl := Option.some.inj H0
         exact ret1 hI rfl rfl ⟨rfl, hE.below hI⟩
        ·replace H1 := bif_f hc_58 H1
         refine wpIn_skip ?_
         refine then_normal ?_
         obtain ⟨hN_61, H1⟩ := req_some H1
         obtain ⟨sv_62, hE_64, hA_63⟩ := Arr.elB (d := kd_Call) hr0 ((rd l0 s1.1).Saw) true (fun _ => hN_61)
         replace hE_64 := hE_64 rfl
         replace hA_63 := fun (_ : true = true) => hA_63 rfl
         refine seq_region (live := [6, 4, 3, 2, 0]) (orc := [(kd_Call).cells (rd l0 ((rd l0 s1.1).Saw)) sv_62]) hF hI ⟨[⟨6, [], .p 1 0⟩, ⟨4, [], .p 0 0⟩, ⟨3, [], .v (.int .i64 s1.1)⟩, ⟨2, [], .v (.bool s1.2)⟩, ⟨0, [], .v (.slice A0 l0.length c0)⟩], [], [], [((((kd_Call).cells (rd l0 s1.1) sv_11).map EV.v), 42), ((((kd_Call).cells (rd l0 ((rd l0 s1.1).Saw)) sv_62).map EV.v), 42)], none, none⟩ [.need true ((0 : Int) ≤ ((rd l0 s1.1).Saw) ∧ ((rd l0 s1.1).Saw) < (l0.length : Int)), .need true (A0 = some (adr A0)), .cell true ((adr A0).add ((((rd l0 s1.1).Saw) : Int).toNat * 20)) ((kd_Call).cells (rd l0 ((rd l0 s1.1).Saw)) sv_62)] (by kernel_rfl) ⟨ob_inb (fun _ => hN_61), hA_63, ob_el (fun _ => hE_64) 0 ((kd_Call).cells (rd l0 ((rd l0 s1.1).Saw)) sv_62) rfl, trivial⟩ (fun ns_65 a w_66 hI _ => ?_)
         refine seq_region (live := [114, 3, 2, 0]) (orc := []) hF hI ⟨[⟨114, [], .v (.bool (((((rd l0 ((rd l0 s1.1).Saw)).Req.Op) != 3) || decide (((rd l0 ((rd l0 s1.1).Saw)).Mark) < 0)) || ((rd l0 s1.1).Done && decide (((rd l0 ((rd l0 s1.1).Saw)).Mark) > ((rd l0 s1.1).To)))))⟩, ⟨3, [], .v (.int .i64 s1.1)⟩, ⟨2, [], .v (.bool s1.2)⟩, ⟨0, [], .v (.slice A0 l0.length c0)⟩], [], [], [((((kd_Call).cells (rd l0 s1.1) sv_11).map EV.v), 42), ((((kd_Call).cells (rd l0 ((rd l0 s1.1).Saw)) sv_62).map EV.v), 42)], none, none⟩ [] (by kernel_rfl) trivial (fun ns_67 a w_68 hI _ => ?_)
         refine cond_ hI ((((((rd l0 ((rd l0 s1.1).Saw)).Req.Op) != 3) || decide (((rd l0 ((rd l0 s1.1).Saw)).Mark) < 0)) || ((rd l0 s1.1).Done && decide (((rd l0 ((rd l0 s1.1).Saw)).Mark) > ((rd l0 s1.1).To))))) rfl (fun hc_69 => ?_) (fun hc_69 => ?_)
         ·replace H1 := bif_t hc_69 H1
          refine seq_region (live := [2]) (orc := []) hF hI ⟨[⟨2, [], .v (.bool false)⟩], [], [], [((((kd_Call).cells (rd l0 s1.1) sv_11).map EV.v), 42), ((((kd_Call).cells (rd l0 ((rd l0 s1.1).Saw)) sv_62).map EV.v), 42)], none, none⟩ [] (by kernel_rfl) trivial (fun ns_70 a w_71 hI _ => ?_)
          refine wpIn_ret ?_
          refine inBlock_ret ?_
          refine then_ret ?_
          refine then_ret ?_
          obtain rfl := Option.some.inj H1
          refine .inr ⟨_, rfl, fun ho => ?_⟩
          subst ho
          refine inBlock_ret ?_
          refine then_ret ?_
          obtain rfl := Option.some.inj H0
          exact ret1 hI rfl rfl ⟨rfl, hE.below hI⟩
         ·replace H1 := bif_f hc_69 H1
          refine wpIn_skip ?_
          refine inBlock_normal ?_
          refine then_normal ?_
          refine region_ (live := [3, 2, 0]) (orc := []) hF hI ⟨[⟨3, [], .v (.int .i64 (IntKind.i64.wrap (s1.1 + 1)))⟩, ⟨2, [], .v (.bool s1.2)⟩, ⟨0, [], .v (.slice A0 l0.length c0)⟩], [], [], [((((kd_Call).cells (rd l0 s1.1) sv_11).map EV.v), 42), ((((kd_Call).cells (rd l0 ((rd l0 s1.1).Saw)) sv_62).map EV.v), 42)], none, none⟩ [] (by kernel_rfl) trivial (fun ns_72 a w_73 hI _ => ?_)
          refine then_normal ?_
          obtain rfl := Option.some.inj H1
          exact ⟨_, rfl, ⟨_, hI.pick [3, 2, 0] 0 ⟨[⟨3, [], .v (.int .i64 (IntKind.i64.wrap (s1.1 + 1)))⟩, ⟨2, [], .v (.bool s1.2)⟩, ⟨0, [], .v (.slice A0 l0.length c0)⟩], [], [], [], none, none⟩ (by kernel_rfl)⟩⟩
       ·replace H1 := bif_f hc_55 H1
        refine wpIn_skip ?_
        refine inBlock_normal ?_
        refine then_normal ?_
        refine region_ (live := [3, 2, 0]) (orc := []) hF hI ⟨[⟨3, [], .v (.int .i64 (IntKind.i64.wrap (s1.1 + 1)))⟩, ⟨2, [], .v (.bool s1.2)⟩, ⟨0, [], .v (.slice A0 l0.length c0)⟩], [], [], [((((kd_Call).cells (rd l0 s1.1) sv_11).map EV.v), 42)], none, none⟩ [] (by kernel_rfl) trivial (fun ns_74 a w_75 hI _ => ?_)
        refine then_normal ?_
        obtain rfl := Option.some.inj H1
        exact ⟨_, rfl, ⟨_, hI.pick [3, 2, 0] 0 ⟨[⟨3, [], .v (.int .i64 (IntKind.i64.wrap (s1.1 + 1)))⟩, ⟨2, [], .v (.bool s1.2)⟩, ⟨0, [], .v (.slice A0 l0.length c0)⟩], [], [], [], none, none⟩ (by kernel_rfl)⟩⟩
   ·replace H1 := bif_f hc_9 H1
    refine wpIn_exit ?_
    refine then_exit ?_
    refine then_exit ?_
    obtain rfl := Option.some.inj H1
    exact .inl ⟨_, rfl, rfl, ⟨_, hI.pick [3, 2, 0] 0 ⟨[⟨3, [], .v (.int .i64 s1.1)⟩, ⟨2, [], .v (.bool s1.2)⟩, ⟨0, [], .v (.slice A0 l0.length c0)⟩], [], [], [], none, none⟩ (by kernel_rfl)⟩⟩
  ·clear hI
   rintro s1 a w_78 ho ⟨ns_79, hI⟩
   subst ho
   replace H0 : (some true : Option (Bool)) = _ := H0
   refine then_normal ?_
   refine seq_region (live := [2]) (orc := []) hF hI ⟨[⟨2, [], .v (.bool true)⟩], [], [], [], none, none⟩ [] (by kernel_rfl) trivial (fun ns_80 a w_81 hI _ => ?_)
   refine wpIn_ret ?_
   obtain rfl := Option.some.inj H0
   exact ret1 hI rfl rfl ⟨rfl, hE.below hI⟩

/-! ### porthole/portholeref17.Place: function 27 -/
noncomputable def G_ref17_Place (l0 : (List Call)) (a1 : Int) : Option (Portholeref17_Spot) := (req (inb a1 l0.length) (bif decide (((rd l0 a1).Mark) ≥ 0) then some (⟨(rd l0 a1).Mark, false, true⟩ : Portholeref17_Spot) else (bif ((!((rd l0 a1).Done)) || (((rd l0 a1).Req.Op) != 4)) then some (⟨0, false, false⟩ : Portholeref17_Spot) else (req (imp (decide (((rd l0 a1).Saw) ≥ 0)) (inb ((rd l0 a1).Saw) l0.length)) (bif (decide (((rd l0 a1).Saw) ≥ 0) && decide (((rd l0 ((rd l0 a1).Saw)).Mark) > ((rd l0 a1).From))) then (req (inb ((rd l0 a1).Saw) l0.length) (some (⟨(rd l0 ((rd l0 a1).Saw)).Mark, true, true⟩ : Portholeref17_Spot))) else some (⟨(rd l0 a1).From, true, true⟩ : Portholeref17_Spot))))))
set_option maxRecDepth 100000 in
set_option maxHeartbeats 4000000 in
theorem G_ref17_Place.calls (l0 : (List Call)) (a1 : Int) (A0 : Option Addr) (c0 : Nat) (w : World) {S : Nat → Prop} (hr0 : Arr kd_Call S w A0 l0) (hc0 : l0.length ≤ c0) (r : Portholeref17_Spot) (h : G_ref17_Place l0 a1 = some r) :
    Calls Try.prog 27 #[.slice A0 l0.length c0, .int .i64 a1] w fun e w' => e = .returned (.agg ((kd_Portholeref17_Spot).cells r (svL [])).toArray) ∧ Below w.heap.size w w' := by
  replace hr0 := Arr.lo hr0
  unfold G_ref17_Place at h
  have H0 := h
  clear h
  refine enter Try.func27 rfl [.slice A0 l0.length c0, .int .i64 a1] (n := 50) rfl (Nat.le_of_ble_eq_true rfl) (fun a hI => ?_)
  have hF : FOpen Fence.wide := .inl rfl
  have hE := Ep.start w
  refine seq_region (live := [4, 0, 1]) (orc := []) hF hI ⟨[⟨4, [], .p 0 0⟩, ⟨0, [], .v (.slice A0 l0.length c0)⟩, ⟨1, [], .v (.int .i64 a1)⟩], [], [], [([.v (.int .i64 0), .v (.bool false), .v (.bool false)], 55)], none, none⟩ [] (by kernel_rfl) trivial (fun ns_1 a w_2 hI _ => ?_)
  obtain ⟨hN_3, H0⟩ := req_some H0
  obtain ⟨sv_4, hE_6, hA_5⟩ := Arr.elB (d := kd_Call) hr0 a1 true (fun _ => hN_3)
  replace hE_6 := hE_6 rfl
  replace hA_5 := fun (_ : true = true) => hA_5 rfl
  refine seq_region (live := [5, 4, 0]) (orc := [(kd_Call).cells (rd l0 a1) sv_4]) hF hI ⟨[⟨5, [], .p 1 0⟩, ⟨4, [], .p 0 0⟩, ⟨0, [], .v (.slice A0 l0.length c0)⟩], [], [], [([.v (.int .i64 0), .v (.bool false), .v (.bool false)], 55), ((((kd_Call).cells (rd l0 a1) sv_4).map EV.v), 42)], none, none⟩ [.need true ((0 : Int) ≤ a1 ∧ a1 < (l0.length : Int)), .need true (A0 = some (adr A0)), .cell true ((adr A0).add ((a1 : Int).toNat * 20)) ((kd_Call).cells (rd l0 a1) sv_4)] (by kernel_rfl) ⟨ob_inb (fun _ => hN_3), hA_5, ob_el (fun _ => hE_6) 0 ((kd_Call).cells (rd l0 a1) sv_4) rfl, trivial⟩ (fun ns_7 a w_8 hI _ => ?_)
  refine wpIn_seq ?_
  refine seq_region (live := [13, 5, 4, 0]) (orc := []) hF hI ⟨[⟨13, [], .v (.bool (decide (((rd l0 a1).Mark) ≥ 0)))⟩, ⟨5, [], .p 1 0⟩, ⟨4, [], .p 0 0⟩, ⟨0, [], .v (.slice A0 l0.length c0)⟩], [], [], [([.v (.int .i64 0), .v (.bool false), .v (.bool false)], 55), ((((kd_Call).cells (rd l0 a1) sv_4).map EV.v), 42)], none, none⟩ [] (by kernel_rfl) trivial (fun ns_9 a w_10 hI _ => ?_)
  refine cond_ hI (decide (((rd l0 a1).Mark) ≥ 0)) rfl (fun hc_11 => ?_) (fun hc_11 => ?_)
  ·replace H0 := bif_t hc_11 H0
   refine seq_region (live := [4]) (orc := []) hF hI ⟨[⟨4, [], .p 0 0⟩], [], [], [([.v (.int .i64 ((rd l0 a1).Mark)), .v (.bool false), .v (.bool true)], 55), ((((kd_Call).cells (rd l0 a1) sv_4).map EV.v), 42)], none, none⟩ [] (by kernel_rfl) trivial (fun ns_12 a w_13 hI _ => ?_)
   refine wpIn_ret ?_
   refine then_ret ?_
   obtain rfl := Option.some.inj H0
   exact retCell hI rfl rfl rfl rfl rfl rfl ⟨rfl, hE.below hI⟩
  ·replace H0 := bif_f hc_11 H0
   refine wpIn_skip ?_
   refine then_normal ?_
   refine wpIn_seq ?_
   refine seq_region (live := [25, 5, 4, 0]) (orc := []) hF hI ⟨[⟨25, [], .v (.bool ((!((rd l0 a1).Done)) || (((rd l0 a1).Req.Op) != 4)))⟩, ⟨5, [], .p 1 0⟩, ⟨4, [], .p 0 0⟩, ⟨0, [], .v (.slice A0 l0.length c0)⟩], [], [], [([.v (.int .i64 0), .v (.bool false), .v (.bool false)], 55), ((((kd_Call).cells (rd l0 a1) sv_4).map EV.v), 42)], none, none⟩ [] (by kernel_rfl) trivial (fun ns_14 a w_15 hI _ => ?_)
   refine cond_ hI (((!((rd l0 a1).Done)) || (((rd l0 a1).Req.Op) != 4))) rfl (fun hc_16 => ?_) (fun hc_16 => ?_)
   ·replace H0 := bif_t hc_16 H0
    refine seq_region (live := [4]) (orc := []) hF hI ⟨[⟨4, [], .p 0 0⟩], [], [], [([.v (.int .i64 0), .v (.bool false), .v (.bool false)], 55), ((((kd_Call).cells (rd l0 a1) sv_4).map EV.v), 42)], none, none⟩ [] (by kernel_rfl) trivial (fun ns_17 a w_18 hI _ => ?_)
    refine wpIn_ret ?_
    refine then_ret ?_
    obtain rfl := Option.some.inj H0
    exact retCell hI rfl rfl rfl rfl rfl rfl ⟨rfl, hE.below hI⟩
   ·replace H0 := bif_f hc_16 H0
    refine wpIn_skip ?_
    refine then_normal ?_
    refine seq_region (live := [6, 5, 4, 0]) (orc := []) hF hI ⟨[⟨6, [], .v (.int .i64 ((rd l0 a1).From))⟩, ⟨5, [], .p 1 0⟩, ⟨4, [], .p 0 0⟩, ⟨0, [], .v (.slice A0 l0.length c0)⟩], [], [], [([.v (.int .i64 0), .v (.bool false), .v (.bool false)], 55), ((((kd_Call).cells (rd l0 a1) sv_4).map EV.v), 42)], none, none⟩ [] (by kernel_rfl) trivial (fun ns_19 a w_20 hI _ => ?_)
    refine wpIn_seq ?_
    obtain ⟨hN_21, H0⟩ := req_some H0
    obtain ⟨sv_22, hE_24, hA_23⟩ := Arr.elB (d := kd_Call) hr0 ((rd l0 a1).Saw) (decide (((rd l0 a1).Saw) ≥ 0)) (fun hg => imp_spec hN_21 hg)
    refine seq_region (live := [41, 6, 5, 4, 0]) (orc := [[.int .i64 ((rd l0 ((rd l0 a1).Saw)).Mark)]]) hF hI ⟨[⟨41, [], .v (.bool (decide (((rd l0 a1).Saw) ≥ 0) && decide (((rd l0 ((rd l0 a1).Saw)).Mark) > ((rd l0 a1).From))))⟩, ⟨6, [], .v (.int .i64 ((rd l0 a1).From))⟩, ⟨5, [], .p 1 0⟩, ⟨4, [], .p 0 0⟩, ⟨0, [], .v (.slice A0 l0.length c0)⟩], [], [], [([.v (.int .i64 0), .v (.bool false), .v (.bool false)], 55), ((((kd_Call).cells (rd l0 a1) sv_4).map EV.v), 42)], none, none⟩ [.need (decide (((rd l0 a1).Saw) ≥ 0)) ((0 : Int) ≤ ((rd l0 a1).Saw) ∧ ((rd l0 a1).Saw) < (l0.length : Int)), .need (decide (((rd l0 a1).Saw) ≥ 0)) (A0 = some (adr A0)), .cell (decide (((rd l0 a1).Saw) ≥ 0)) (((adr A0).add ((((rd l0 a1).Saw) : Int).toNat * 20)).add 16) [.int .i64 ((rd l0 ((rd l0 a1).Saw)).Mark)]] (by kernel_rfl) ⟨ob_inb (fun hg => imp_spec hN_21 hg), hA_23, ob_el (fun hg => hE_24 hg) 16 [.int .i64 ((rd l0 ((rd l0 a1).Saw)).Mark)] rfl, trivial⟩ (fun ns_25 a w_26 hI _ => ?_)
    refine cond_ hI ((decide (((rd l0 a1).Saw) ≥ 0) && decide (((rd l0 ((rd l0 a1).Saw)).Mark) > ((rd l0 a1).From)))) rfl (fun hc_27 => ?_) (fun hc_27 => ?_)
    ·replace H0 := bif_t hc_27 H0
     obtain ⟨hN_28, H0⟩ := req_some H0
     obtain ⟨sv_29, hE_31, hA_30⟩ := Arr.elB (d := kd_Call) hr0 ((rd l0 a1).Saw) true (fun _ => hN_28)
     replace hE_31 := hE_31 rfl
     replace hA_30 := fun (_ : true = true) => hA_30 rfl
     refine region_ (live := [6, 4]) (orc := [[.int .i64 ((rd l0 ((rd l0 a1).Saw)).Mark)]]) hF hI ⟨[⟨6, [], .v (.int .i64 ((rd l0 ((rd l0 a1).Saw)).Mark))⟩, ⟨4, [], .p 0 0⟩], [], [], [([.v (.int .i64 0), .v (.bool false), .v (.bool false)], 55), ((((kd_Call).cells (rd l0 a1) sv_4).map EV.v), 42)], none, none⟩ [.need true ((0 : Int) ≤ ((rd l0 a1).Saw) ∧ ((rd l0 a1).Saw) < (l0.length : Int)), .need true (A0 = some (adr A0)), .cell true (((adr A0).add ((((rd l0 a1).Saw) : Int).toNat * 20)).add 16) [.int .i64 ((rd l0 ((rd l0 a1).Saw)).Mark)]] (by kernel_rfl) ⟨ob_inb (fun _ => hN_28), hA_30, ob_el (fun _ => hE_31) 16 [.int .i64 ((rd l0 ((rd l0 a1).Saw)).Mark)] rfl, trivial⟩ (fun ns_32 a w_33 hI _ => ?_)
     refine then_normal ?_
     refine seq_region (live := [4]) (orc := []) hF hI ⟨[⟨4, [], .p 0 0⟩], [], [], [([.v (.int .i64 ((rd l0 ((rd l0 a1).Saw)).Mark)), .v (.bool true), .v (.bool true)], 55), ((((kd_Call).cells (rd l0 a1) sv_4).map EV.v), 42)], none, none⟩ [] (by kernel_rfl) trivial (fun ns_34 a w_35 hI _ => ?_)
     refine wpIn_ret ?_
     obtain rfl := Option.some.inj H0
     exact retCell hI rfl rfl rfl rfl rfl rfl ⟨rfl, hE.below hI⟩
    ·replace H0 := bif_f hc_27 H0
     refine wpIn_skip ?_
     refine then_normal ?_
     refine seq_region (live := [4]) (orc := []) hF hI ⟨[⟨4, [], .p 0 0⟩], [], [], [([.v (.int .i64 ((rd l0 a1).From)), .v (.bool true), .v (.bool true)], 55), ((((kd_Call).cells (rd l0 a1) sv_4).map EV.v), 42)], none, none⟩ [] (by kernel_rfl) trivial (fun ns_36 a w_37 hI _ => ?_)
     refine wpIn_ret ?_
     obtain rfl := Option.some.inj H0
     exact retCell hI rfl rfl rfl rfl rfl rfl ⟨rfl, hE.below hI⟩

end Go.Proofs.Ytnfnincmhobpaaa
