import Derived.Test.YtnfnincmhobpaaaGWx1
set_option linter.unusedVariables false
set_option linter.unusedSimpArgs false
namespace Go.Proofs.Ytnfnincmhobpaaa
open Go Go.RowKit Go.Eng Go.Proofs

/-! ### porthole/portholeref19.Order: function 32 -/
noncomputable def G_ref19_Order.b1 (l0 : (List Call)) (l1 : (List Belling)) (s1 : Int × (List Portholeref19_Spot)) : Option (Stp (Int × (List Portholeref19_Spot)) (Ex (Int × (List Portholeref19_Spot)) ((List Portholeref19_Spot)))) := (bif decide (s1.1 < (l0.length : Int)) then ((G_ref17_Place l0 s1.1).bind fun t_16 => (bif (t_16.Is && t_16.Behind) then (req (decide ((s1.2.length + 1) * 32 ≤ 140737488355328)) (some (.next ((IntKind.i64.wrap (s1.1 + 1)), (s1.2 ++ [(⟨t_16.At, 3, (⟨1, s1.1⟩ : Item)⟩ : Portholeref19_Spot)]))))) else (bif t_16.Is then (req (decide ((s1.2.length + 1) * 32 ≤ 140737488355328)) (some (.next ((IntKind.i64.wrap (s1.1 + 1)), (s1.2 ++ [(⟨t_16.At, 0, (⟨1, s1.1⟩ : Item)⟩ : Portholeref19_Spot)]))))) else some (.next ((IntKind.i64.wrap (s1.1 + 1)), s1.2))))) else some (.out (.brk (s1.1, s1.2))))
noncomputable def G_ref19_Order.b2 (l0 : (List Call)) (l1 : (List Belling)) (s1 : Int × (List Portholeref19_Spot)) (s2 : Int × (List Portholeref19_Spot)) : Option (Stp (Int × (List Portholeref19_Spot)) (Ex (Int × (List Portholeref19_Spot)) ((List Portholeref19_Spot)))) := (bif decide (s2.1 < (l0.length : Int)) then (req (inb s2.1 l0.length) (bif decide (((rd l0 s2.1).Ring) ≥ 0) then (req (inb s2.1 l0.length) (req (decide ((s2.2.length + 1) * 32 ≤ 140737488355328)) (some (.next ((IntKind.i64.wrap (s2.1 + 1)), (s2.2 ++ [(⟨(rd l0 s2.1).Ring, 1, (⟨2, s2.1⟩ : Item)⟩ : Portholeref19_Spot)])))))) else some (.next ((IntKind.i64.wrap (s2.1 + 1)), s2.2)))) else some (.out (.brk (s2.1, s2.2))))
noncomputable def G_ref19_Order.b3 (l0 : (List Call)) (l1 : (List Belling)) (s1 : Int × (List Portholeref19_Spot)) (s2 : Int × (List Portholeref19_Spot)) (s3 : Int × (List Portholeref19_Spot)) : Option (Stp (Int × (List Portholeref19_Spot)) (Ex (Int × (List Portholeref19_Spot)) ((List Portholeref19_Spot)))) := (bif decide (s3.1 < (l1.length : Int)) then (req (inb s3.1 l1.length) (req (decide ((s3.2.length + 1) * 32 ≤ 140737488355328)) (some (.next ((IntKind.i64.wrap (s3.1 + 1)), (s3.2 ++ [(⟨(rd l1 s3.1).At, 2, (⟨3, s3.1⟩ : Item)⟩ : Portholeref19_Spot)])))))) else some (.out (.brk (s3.1, s3.2))))
noncomputable def G_ref19_Order.b5 (l0 : (List Call)) (l1 : (List Belling)) (s1 : Int × (List Portholeref19_Spot)) (s2 : Int × (List Portholeref19_Spot)) (s3 : Int × (List Portholeref19_Spot)) (s4 : (List Portholeref19_Spot)) (s5 : Int × Int) : Option (Stp (Int × Int) (Ex (Int × Int) ((List Portholeref19_Spot)))) := (bif decide (s5.1 < (s3.2.length : Int)) then (req (inb s5.1 s3.2.length) ((G_ref19_taken s4 ((rd s3.2 s5.1).Item)).bind fun t_161 => (bif t_161 then some (.next ((IntKind.i64.wrap (s5.1 + 1)), s5.2)) else (req (imp (!(decide (s5.2 < 0))) (inb s5.1 s3.2.length)) (req (imp (!(decide (s5.2 < 0))) (inb s5.2 s3.2.length)) (req (imp (!(decide (s5.2 < 0) || decide (((rd s3.2 s5.1).At) < ((rd s3.2 s5.2).At)))) (inb s5.1 s3.2.length)) (req (imp (!(decide (s5.2 < 0) || decide (((rd s3.2 s5.1).At) < ((rd s3.2 s5.2).At)))) (inb s5.2 s3.2.length)) (req (imp (!(decide (s5.2 < 0) || decide (((rd s3.2 s5.1).At) < ((rd s3.2 s5.2).At))) && (((rd s3.2 s5.1).At) == ((rd s3.2 s5.2).At))) (inb s5.1 s3.2.length)) (req (imp (!(decide (s5.2 < 0) || decide (((rd s3.2 s5.1).At) < ((rd s3.2 s5.2).At))) && (((rd s3.2 s5.1).At) == ((rd s3.2 s5.2).At))) (inb s5.2 s3.2.length)) (some (.next ((IntKind.i64.wrap (s5.1 + 1)), (bif ((decide (s5.2 < 0) || decide (((rd s3.2 s5.1).At) < ((rd s3.2 s5.2).At))) || ((((rd s3.2 s5.1).At) == ((rd s3.2 s5.2).At)) && decide (((rd s3.2 s5.1).Rank) < ((rd s3.2 s5.2).Rank)))) then s5.1 else s5.2))))))))))))) else some (.out (.brk (s5.1, s5.2))))
noncomputable def G_ref19_Order.b4 (l0 : (List Call)) (l1 : (List Belling)) (s1 : Int × (List Portholeref19_Spot)) (s2 : Int × (List Portholeref19_Spot)) (s3 : Int × (List Portholeref19_Spot)) (s4 : (List Portholeref19_Spot)) : Option (Stp ((List Portholeref19_Spot)) (Ex ((List Portholeref19_Spot)) ((List Portholeref19_Spot)))) := (bif decide ((s4.length : Int) < (s3.2.length : Int)) then ((loopω (G_ref19_Order.b5 l0 l1 s1 s2 s3 s4) (0, (-1))).bind fun o => o.on (fun s5 => (req (inb s5.2 s3.2.length) (req (decide ((s4.length + 1) * 32 ≤ 140737488355328)) (some (.next (s4 ++ [(rd s3.2 s5.2)])))))) (fun r => some (.out (.ret r)))) else some (.out (.brk s4)))
noncomputable def G_ref19_Order (l0 : (List Call)) (l1 : (List Belling)) : Option ((List Portholeref19_Spot)) := ((loopω (G_ref19_Order.b1 l0 l1) (0, ([] : List Portholeref19_Spot))).bind fun o => o.on (fun s1 => ((loopω (G_ref19_Order.b2 l0 l1 s1) (0, s1.2)).bind fun o => o.on (fun s2 => ((loopω (G_ref19_Order.b3 l0 l1 s1 s2) (0, s2.2)).bind fun o => o.on (fun s3 => ((loopω (G_ref19_Order.b4 l0 l1 s1 s2 s3) ([] : List Portholeref19_Spot)).bind fun o => o.on (fun s4 => some s4) (fun r => some r))) (fun r => some r))) (fun r => some r))) (fun r => some r))
set_option maxRecDepth 100000 in
set_option maxHeartbeats 4000000 in
theorem G_ref19_Order.calls (l0 : (List Call)) (l1 : (List Belling)) (A0 : Option Addr) (c0 : Nat) (A1 : Option Addr) (c1 : Nat) (w : World) {S : Nat → Prop} (hr0 : Arr kd_Call S w A0 l0) (hc0 : l0.length ≤ c0) (hr1 : Arr kd_Belling S w A1 l1) (hc1 : l1.length ≤ c1) (r : (List Portholeref19_Spot)) (h : G_ref19_Order l0 l1 = some r) :
    Calls Try.prog 32 #[.slice A0 l0.length c0, .slice A1 l1.length c1] w fun e w' => ∃ sv : SV, e = .returned (.slice ((sv 0).1) r.length ((sv 0).2)) ∧ Below w.heap.size w w' ∧ (Arr kd_Portholeref19_Spot (fun b => w.heap.size ≤ b ∨ S b) w' (sv 0).1 r ∧ r.length ≤ (sv 0).2) := by
  replace hr0 := Arr.lo hr0
  replace hr1 := Arr.lo hr1
  unfold G_ref19_Order at h
  have H0 := h
  clear h
  refine enter Try.func32 rfl [.slice A0 l0.length c0, .slice A1 l1.length c1] (n := 154) rfl (Nat.le_of_ble_eq_true rfl) (fun a hI => ?_)
  have hF : FOpen Fence.wide := .inl rfl
  have hE := Ep.start w
  refine seq_region (live := [4, 0, 1]) (orc := []) hF hI ⟨[⟨4, [], .v (.slice none 0 0)⟩, ⟨0, [], .v (.slice A0 l0.length c0)⟩, ⟨1, [], .v (.slice A1 l1.length c1)⟩], [], [], [], none, none⟩ [] (by kernel_rfl) trivial (fun ns_1 a w_2 hI _ => ?_)
  refine seq_region (live := [5, 4, 0, 1]) (orc := []) hF hI ⟨[⟨5, [], .v (.slice none 0 0)⟩, ⟨4, [], .v (.slice none 0 0)⟩, ⟨0, [], .v (.slice A0 l0.length c0)⟩, ⟨1, [], .v (.slice A1 l1.length c1)⟩], [], [], [], none, none⟩ [] (by kernel_rfl) trivial (fun ns_3 a w_4 hI _ => ?_)
  refine wpIn_seq ?_
  refine seq_region (live := [6, 5, 4, 0, 1]) (orc := []) hF hI ⟨[⟨6, [], .v (.int .i64 0)⟩, ⟨5, [], .v (.slice none 0 0)⟩, ⟨4, [], .v (.slice none 0 0)⟩, ⟨0, [], .v (.slice A0 l0.length c0)⟩, ⟨1, [], .v (.slice A1 l1.length c1)⟩], [], [], [], none, none⟩ [] (by kernel_rfl) trivial (fun ns_5 a w_6 hI _ => ?_)
  obtain ⟨hE', hmv, hmr⟩ := Ep.rebase hE hI
  replace hr0 := Arr.keep hr0 (hmv _)
  replace hr1 := Arr.keep hr1 (hmv _)
  replace hE := hE'
  replace hI := hI.rebase
  clear hE' hmv hmr
  obtain ⟨hE', hmv⟩ := Ep.addNil hE
  have hmr : ∀ b ∈ ([] : List (List Nat)).flatten, w_6.heap[b]? = w_6.heap[b]? := fun _ _ => rfl
  replace hr0 := Arr.keep hr0 (hmv _)
  replace hr1 := Arr.keep hr1 (hmv _)
  replace hE := hE'
  clear hE' hmv hmr
  have hq_7 : Row kd_Portholeref19_Spot 72 (Lo S w w_6 ns_5 [rb none]) w_6 w.heap.size none 0 ([] : List Portholeref19_Spot) := Row.nil
  obtain ⟨o_56, hL_57, H0⟩ := bind_some H0
  refine block_loop (fun (s1 : Int × (List Portholeref19_Spot)) a w_244 => ∃ (ow ns : List Nat) (A_8 : Option Addr) (c_9 : Nat), (Arr kd_Call (Lo S w w_244 ow [rb A_8]) w_244 A0 l0) ∧ (Arr kd_Belling (Lo S w w_244 ow [rb A_8]) w_244 A1 l1) ∧ (Row kd_Portholeref19_Spot 72 (Lo S w w_244 ow [rb A_8]) w_244 w.heap.size A_8 c_9 s1.2) ∧ Ep [] w w_244 ow [rb A_8] ∧ St w_244 ow 154 ⟨[⟨6, [], .v (.int .i64 s1.1)⟩, ⟨5, [], .v (.slice A_8 s1.2.length c_9)⟩, ⟨4, [], .v (.slice none 0 0)⟩, ⟨0, [], .v (.slice A0 l0.length c0)⟩, ⟨1, [], .v (.slice A1 l1.length c1)⟩], [], [], [], none, none⟩ ns a w_244) (0, ([] : List Portholeref19_Spot)) hL_57 ⟨_, _, _, _, hr0, hr1, hq_7, hE, hI.pick [6, 5, 4, 0, 1] 0 ⟨[⟨6, [], .v (.int .i64 0)⟩, ⟨5, [], .v (.slice none ([] : List Portholeref19_Spot).length 0)⟩, ⟨4, [], .v (.slice none 0 0)⟩, ⟨0, [], .v (.slice A0 l0.length c0)⟩, ⟨1, [], .v (.slice A1 l1.length c1)⟩], [], [], [], none, none⟩ (by kernel_rfl)⟩ ?_ ?_
  · clear hI hE
    rintro s1 a w_10 ⟨ow_12, ns_11, A_8, c_9, hr0, hr1, hq_7, hE, hI⟩ r1 H1
    unfold G_ref19_Order.b1 at H1
    refine wpIn_seq ?_
    refine seq_region (live := [16, 6, 5, 4, 0, 1]) (orc := []) hF hI ⟨[⟨16, [], .v (.bool (decide (s1.1 < (l0.length : Int))))⟩, ⟨6, [], .v (.int .i64 s1.1)⟩, ⟨5, [], .v (.slice A_8 s1.2.length c_9)⟩, ⟨4, [], .v (.slice none 0 0)⟩, ⟨0, [], .v (.slice A0 l0.length c0)⟩, ⟨1, [], .v (.slice A1 l1.length c1)⟩], [], [], [], none, none⟩ [] (by kernel_rfl) trivial (fun ns_13 a w_14 hI _ => ?_)
    refine cond_ hI (decide (s1.1 < (l0.length : Int))) rfl (fun hc_15 => ?_) (fun hc_15 => ?_)
    · replace H1 := bif_t hc_15 H1
      refine wpIn_skip ?_
      refine then_normal ?_
      refine wpIn_seq ?_
      refine wpIn_block ?_
      obtain ⟨t_16, hG_17, H1⟩ := bind_some H1
      refine seq_region (live := [7, 6, 5, 4, 0, 1]) (orc := [[.agg ((kd_Portholeref17_Spot).cells t_16 (svL [])).toArray]]) hF hI ⟨[⟨7, [], .p 0 0⟩, ⟨6, [], .v (.int .i64 s1.1)⟩, ⟨5, [], .v (.slice A_8 s1.2.length c_9)⟩, ⟨4, [], .v (.slice none 0 0)⟩, ⟨0, [], .v (.slice A0 l0.length c0)⟩, ⟨1, [], .v (.slice A1 l1.length c1)⟩], [], [], [((((kd_Portholeref17_Spot).cells t_16 (svL [])).map EV.v), 55)], none, none⟩ [.call true 27 [.slice A0 l0.length c0, .int .i64 s1.1] (.agg ((kd_Portholeref17_Spot).cells t_16 (svL [])).toArray)] (by kernel_rfl) ⟨ob_call (enters Try.func27 (by kernel_rfl) rfl) (fun hg wz hk => G_ref17_Place.calls l0 s1.1 A0 c0 wz (S := fun _ => True) (Arr.any (Arr.keep hr0 (Lo.on hk))) hc0 _ hG_17), trivial⟩ (fun ns_18 a w_19 hI _ => ?_)
      refine seq_region (live := [27, 7, 6, 5, 4, 0, 1]) (orc := []) hF hI ⟨[⟨27, [], .v (.bool (t_16.Is && t_16.Behind))⟩, ⟨7, [], .p 0 0⟩, ⟨6, [], .v (.int .i64 s1.1)⟩, ⟨5, [], .v (.slice A_8 s1.2.length c_9)⟩, ⟨4, [], .v (.slice none 0 0)⟩, ⟨0, [], .v (.slice A0 l0.length c0)⟩, ⟨1, [], .v (.slice A1 l1.length c1)⟩], [], [], [((((kd_Portholeref17_Spot).cells t_16 (svL [])).map EV.v), 55)], none, none⟩ [] (by kernel_rfl) trivial (fun ns_20 a w_21 hI _ => ?_)
      refine cond_ hI ((t_16.Is && t_16.Behind)) rfl (fun hc_22 => ?_) (fun hc_22 => ?_)
      · replace H1 := bif_t hc_22 H1
        refine wpIn_region_lit ?_
        refine chunkL_ (live := [33, 28, 6, 5, 4, 0, 1]) (orc := []) hF 6 hI ⟨[⟨33, [], .v (.agg #[.int .i64 t_16.At, .int .i64 3, .int .i64 1, .int .i64 s1.1])⟩, ⟨28, [], .v (.slice A_8 s1.2.length c_9)⟩, ⟨6, [], .v (.int .i64 s1.1)⟩, ⟨5, [], .v (.slice A_8 s1.2.length c_9)⟩, ⟨4, [], .v (.slice none 0 0)⟩, ⟨0, [], .v (.slice A0 l0.length c0)⟩, ⟨1, [], .v (.slice A1 l1.length c1)⟩], [], [], [((((kd_Portholeref17_Spot).cells t_16 (svL [])).map EV.v), 55)], none, none⟩ [] rfl (by kernel_rfl) trivial (fun ns_23 a w_24 hI => ?_)
        obtain ⟨hE', hmv, hmr⟩ := Ep.rebase hE hI
        replace hr0 := Arr.keep hr0 (hmv _)
        replace hr1 := Arr.keep hr1 (hmv _)
        replace hq_7 := Row.keep hq_7 (hmv _) (fun b hb => hmr b (by simp [hb]))
        replace hE := hE'
        replace hI := hI.rebase
        clear hE' hmv hmr
        refine buildSlice_ (S0 := S) (d := kd_Portholeref19_Spot) (e := 72) hF hE hI (wanted_none rfl) rfl (by kernel_rfl) (cs := [.int .i64 t_16.At, .int .i64 3, .int .i64 1, .int .i64 s1.1]) (by kernel_rfl) [(⟨t_16.At, 3, (⟨1, s1.1⟩ : Item)⟩ : Portholeref19_Spot)] [(svL [])] rfl rfl (by simp [maxLen]) (fun i x hi => by cases i with | zero => (simp only [List.getElem?_cons_zero, Option.some.injEq] at hi; subst hi; exact ⟨trivial, rfl⟩) | succ i => (simp only [List.getElem?_cons_succ] at hi; simp at hi)) (fun A_25 => ⟨[⟨34, [], .v (.slice A_25 ([(⟨t_16.At, 3, (⟨1, s1.1⟩ : Item)⟩ : Portholeref19_Spot)] : List Portholeref19_Spot).length (([(⟨t_16.At, 3, (⟨1, s1.1⟩ : Item)⟩ : Portholeref19_Spot)] : List Portholeref19_Spot).length))⟩, ⟨33, [], .v (.agg #[.int .i64 t_16.At, .int .i64 3, .int .i64 1, .int .i64 s1.1])⟩, ⟨28, [], .v (.slice A_8 s1.2.length c_9)⟩, ⟨6, [], .v (.int .i64 s1.1)⟩, ⟨5, [], .v (.slice A_8 s1.2.length c_9)⟩, ⟨4, [], .v (.slice none 0 0)⟩, ⟨0, [], .v (.slice A0 l0.length c0)⟩, ⟨1, [], .v (.slice A1 l1.length c1)⟩], [], [], [((((kd_Portholeref17_Spot).cells t_16 (svL [])).map EV.v), 55)], none, none⟩) (fun A_25 => by kernel_rfl) (fun A_25 a w_27 hput hE' hI' hmv hmr hq_26 => ?_)
        replace hr0 := Arr.keep hr0 (hmv _)
        replace hr1 := Arr.keep hr1 (hmv _)
        replace hq_7 := Row.keep hq_7 (hmv _) (fun b hb => hmr b (by simp [hb]) (by simp))
        replace hE := hE'
        replace hI := hI'
        clear hE' hI' hmv hmr
        obtain ⟨hE', hmv, hq_26, hcap_28⟩ := Row.still (l1 := [rb A_8]) (l2 := []) hq_26 (Nat.le_refl _) hE
        have hmr : ∀ b ∈ ([rb A_8, rb A_25] : List (List Nat)).flatten, w_27.heap[b]? = w_27.heap[b]? := fun _ _ => rfl
        replace hr0 := Arr.keep hr0 (hmv _)
        replace hr1 := Arr.keep hr1 (hmv _)
        replace hq_7 := Row.keep hq_7 (hmv _) (fun b hb => hmr b (by simp [hb]))
        replace hE := hE'
        clear hE' hmv hmr
        obtain ⟨hN_29, H1⟩ := req_some H1
        replace hN_29 := of_decide_eq_true hN_29
        refine append_ (S0 := S) (l1 := []) (l2 := []) (d := kd_Portholeref19_Spot) (e := 72) hF hE hI (wanted_none rfl) rfl (A := A_8) (c := c_9) (l := s1.2) rfl (A2 := A_25) (c2 := (([(⟨t_16.At, 3, (⟨1, s1.1⟩ : Item)⟩ : Portholeref19_Spot)] : List Portholeref19_Spot).length)) rfl hq_7 hq_26 (fun sv u hu => by exact kd_one_Portholeref19_Spot _ sv u hu) Try.underlying63 (zi := (.agg #[.int .i64 0, .int .i64 0, .int .i64 0, .int .i64 0], 4, 32)) (by kernel_rfl) rfl (by kernel_rfl) (len_max (by decide) hN_29) hN_29 (fun A_30 c_31 => ⟨[⟨35, [], .v (.slice A_30 (s1.2 ++ [(⟨t_16.At, 3, (⟨1, s1.1⟩ : Item)⟩ : Portholeref19_Spot)]).length c_31)⟩, ⟨34, [], .v (.slice A_25 ([(⟨t_16.At, 3, (⟨1, s1.1⟩ : Item)⟩ : Portholeref19_Spot)] : List Portholeref19_Spot).length (([(⟨t_16.At, 3, (⟨1, s1.1⟩ : Item)⟩ : Portholeref19_Spot)] : List Portholeref19_Spot).length))⟩, ⟨33, [], .v (.agg #[.int .i64 t_16.At, .int .i64 3, .int .i64 1, .int .i64 s1.1])⟩, ⟨28, [], .v (.slice A_8 s1.2.length c_9)⟩, ⟨6, [], .v (.int .i64 s1.1)⟩, ⟨5, [], .v (.slice A_8 s1.2.length c_9)⟩, ⟨4, [], .v (.slice none 0 0)⟩, ⟨0, [], .v (.slice A0 l0.length c0)⟩, ⟨1, [], .v (.slice A1 l1.length c1)⟩], [], [], [((((kd_Portholeref17_Spot).cells t_16 (svL [])).map EV.v), 55)], none, none⟩) (fun A_30 c_31 => by kernel_rfl) (fun A_30 c_31 a w_32 hput hE' hI' hmv hmr hq_7 => ?_)
        replace hr0 := Arr.keep hr0 (hmv _)
        replace hr1 := Arr.keep hr1 (hmv _)
        replace hq_26 := Arr.keep hq_26 (hmv _)
        replace hE := hE'
        replace hI := hI'
        clear hE' hI' hmv hmr
        refine chunkL_ (live := [5, 6, 4, 0, 1]) (orc := []) hF 1 hI ⟨[⟨5, [], .v (.slice A_30 (s1.2 ++ [(⟨t_16.At, 3, (⟨1, s1.1⟩ : Item)⟩ : Portholeref19_Spot)]).length c_31)⟩, ⟨6, [], .v (.int .i64 s1.1)⟩, ⟨4, [], .v (.slice none 0 0)⟩, ⟨0, [], .v (.slice A0 l0.length c0)⟩, ⟨1, [], .v (.slice A1 l1.length c1)⟩], [], [], [((((kd_Portholeref17_Spot).cells t_16 (svL [])).map EV.v), 55)], none, none⟩ [] rfl (by kernel_rfl) trivial (fun ns_33 a w_34 hI => ?_)
        refine wpListIn_nil ?_
        refine inBlock_normal ?_
        refine then_normal ?_
        refine region_ (live := [6, 5, 4, 0, 1]) (orc := []) hF hI ⟨[⟨6, [], .v (.int .i64 (IntKind.i64.wrap (s1.1 + 1)))⟩, ⟨5, [], .v (.slice A_30 (s1.2 ++ [(⟨t_16.At, 3, (⟨1, s1.1⟩ : Item)⟩ : Portholeref19_Spot)]).length c_31)⟩, ⟨4, [], .v (.slice none 0 0)⟩, ⟨0, [], .v (.slice A0 l0.length c0)⟩, ⟨1, [], .v (.slice A1 l1.length c1)⟩], [], [], [((((kd_Portholeref17_Spot).cells t_16 (svL [])).map EV.v), 55)], none, none⟩ [] (by kernel_rfl) trivial (fun ns_35 a w_36 hI _ => ?_)
        refine then_normal ?_
        obtain ⟨hE', hmv, hmr⟩ := Ep.rebase hE hI
        replace hr0 := Arr.keep hr0 (hmv _)
        replace hr1 := Arr.keep hr1 (hmv _)
        replace hq_26 := Arr.keep hq_26 (hmv _)
        replace hq_7 := Row.keep hq_7 (hmv _) (fun b hb => hmr b (by simp [hb]))
        replace hE := hE'
        replace hI := hI.rebase
        clear hE' hmv hmr
        obtain rfl := Option.some.inj H1
        exact ⟨_, rfl, ⟨_, _, _, _, hr0, hr1, hq_7, hE, hI.pick [6, 5, 4, 0, 1] 0 ⟨[⟨6, [], .v (.int .i64 (IntKind.i64.wrap (s1.1 + 1)))⟩, ⟨5, [], .v (.slice A_30 (s1.2 ++ [(⟨t_16.At, 3, (⟨1, s1.1⟩ : Item)⟩ : Portholeref19_Spot)]).length c_31)⟩, ⟨4, [], .v (.slice none 0 0)⟩, ⟨0, [], .v (.slice A0 l0.length c0)⟩, ⟨1, [], .v (.slice A1 l1.length c1)⟩], [], [], [], none, none⟩ (by kernel_rfl)⟩⟩
      · replace H1 := bif_f hc_22 H1
        refine seq_region (live := [37, 7, 6, 5, 4, 0, 1]) (orc := []) hF hI ⟨[⟨37, [], .v (.bool t_16.Is)⟩, ⟨7, [], .p 0 0⟩, ⟨6, [], .v (.int .i64 s1.1)⟩, ⟨5, [], .v (.slice A_8 s1.2.length c_9)⟩, ⟨4, [], .v (.slice none 0 0)⟩, ⟨0, [], .v (.slice A0 l0.length c0)⟩, ⟨1, [], .v (.slice A1 l1.length c1)⟩], [], [], [((((kd_Portholeref17_Spot).cells t_16 (svL [])).map EV.v), 55)], none, none⟩ [] (by kernel_rfl) trivial (fun ns_37 a w_38 hI _ => ?_)
        refine cond_ hI (t_16.Is) rfl (fun hc_39 => ?_) (fun hc_39 => ?_)
        · replace H1 := bif_t hc_39 H1
          refine wpIn_region_lit ?_
          refine chunkL_ (live := [43, 38, 6, 5, 4, 0, 1]) (orc := []) hF 6 hI ⟨[⟨43, [], .v (.agg #[.int .i64 t_16.At, .int .i64 0, .int .i64 1, .int .i64 s1.1])⟩, ⟨38, [], .v (.slice A_8 s1.2.length c_9)⟩, ⟨6, [], .v (.int .i64 s1.1)⟩, ⟨5, [], .v (.slice A_8 s1.2.length c_9)⟩, ⟨4, [], .v (.slice none 0 0)⟩, ⟨0, [], .v (.slice A0 l0.length c0)⟩, ⟨1, [], .v (.slice A1 l1.length c1)⟩], [], [], [((((kd_Portholeref17_Spot).cells t_16 (svL [])).map EV.v), 55)], none, none⟩ [] rfl (by kernel_rfl) trivial (fun ns_40 a w_41 hI => ?_)
          obtain ⟨hE', hmv, hmr⟩ := Ep.rebase hE hI
          replace hr0 := Arr.keep hr0 (hmv _)
          replace hr1 := Arr.keep hr1 (hmv _)
          replace hq_7 := Row.keep hq_7 (hmv _) (fun b hb => hmr b (by simp [hb]))
          replace hE := hE'
          replace hI := hI.rebase
          clear hE' hmv hmr
          refine buildSlice_ (S0 := S) (d := kd_Portholeref19_Spot) (e := 72) hF hE hI (wanted_none rfl) rfl (by kernel_rfl) (cs := [.int .i64 t_16.At, .int .i64 0, .int .i64 1, .int .i64 s1.1]) (by kernel_rfl) [(⟨t_16.At, 0, (⟨1, s1.1⟩ : Item)⟩ : Portholeref19_Spot)] [(svL [])] rfl rfl (by simp [maxLen]) (fun i x hi => by cases i with | zero => (simp only [List.getElem?_cons_zero, Option.some.injEq] at hi; subst hi; exact ⟨trivial, rfl⟩) | succ i => (simp only [List.getElem?_cons_succ] at hi; simp at hi)) (fun A_42 => ⟨[⟨44, [], .v (.slice A_42 ([(⟨t_16.At, 0, (⟨1, s1.1⟩ : Item)⟩ : Portholeref19_Spot)] : List Portholeref19_Spot).length (([(⟨t_16.At, 0, (⟨1, s1.1⟩ : Item)⟩ : Portholeref19_Spot)] : List Portholeref19_Spot).length))⟩, ⟨43, [], .v (.agg #[.int .i64 t_16.At, .int .i64 0, .int .i64 1, .int .i64 s1.1])⟩, ⟨38, [], .v (.slice A_8 s1.2.length c_9)⟩, ⟨6, [], .v (.int .i64 s1.1)⟩, ⟨5, [], .v (.slice A_8 s1.2.length c_9)⟩, ⟨4, [], .v (.slice none 0 0)⟩, ⟨0, [], .v (.slice A0 l0.length c0)⟩, ⟨1, [], .v (.slice A1 l1.length c1)⟩], [], [], [((((kd_Portholeref17_Spot).cells t_16 (svL [])).map EV.v), 55)], none, none⟩) (fun A_42 => by kernel_rfl) (fun A_42 a w_44 hput hE' hI' hmv hmr hq_43 => ?_)
          replace hr0 := Arr.keep hr0 (hmv _)
          replace hr1 := Arr.keep hr1 (hmv _)
          replace hq_7 := Row.keep hq_7 (hmv _) (fun b hb => hmr b (by simp [hb]) (by simp))
          replace hE := hE'
          replace hI := hI'
          clear hE' hI' hmv hmr
          obtain ⟨hE', hmv, hq_43, hcap_45⟩ := Row.still (l1 := [rb A_8]) (l2 := []) hq_43 (Nat.le_refl _) hE
          have hmr : ∀ b ∈ ([rb A_8, rb A_42] : List (List Nat)).flatten, w_44.heap[b]? = w_44.heap[b]? := fun _ _ => rfl
          replace hr0 := Arr.keep hr0 (hmv _)
          replace hr1 := Arr.keep hr1 (hmv _)
          replace hq_7 := Row.keep hq_7 (hmv _) (fun b hb => hmr b (by simp [hb]))
          replace hE := hE'
          clear hE' hmv hmr
          obtain ⟨hN_46, H1⟩ := req_some H1
          replace hN_46 := of_decide_eq_true hN_46
          refine append_ (S0 := S) (l1 := []) (l2 := []) (d := kd_Portholeref19_Spot) (e := 72) hF hE hI (wanted_none rfl) rfl (A := A_8) (c := c_9) (l := s1.2) rfl (A2 := A_42) (c2 := (([(⟨t_16.At, 0, (⟨1, s1.1⟩ : Item)⟩ : Portholeref19_Spot)] : List Portholeref19_Spot).length)) rfl hq_7 hq_43 (fun sv u hu => by exact kd_one_Portholeref19_Spot _ sv u hu) Try.underlying63 (zi := (.agg #[.int .i64 0, .int .i64 0, .int .i64 0, .int .i64 0], 4, 32)) (by kernel_rfl) rfl (by kernel_rfl) (len_max (by decide) hN_46) hN_46 (fun A_47 c_48 => ⟨[⟨45, [], .v (.slice A_47 (s1.2 ++ [(⟨t_16.At, 0, (⟨1, s1.1⟩ : Item)⟩ : Portholeref19_Spot)]).length c_48)⟩, ⟨44, [], .v (.slice A_42 ([(⟨t_16.At, 0, (⟨1, s1.1⟩ : Item)⟩ : Portholeref19_Spot)] : List Portholeref19_Spot).length (([(⟨t_16.At, 0, (⟨1, s1.1⟩ : Item)⟩ : Portholeref19_Spot)] : List Portholeref19_Spot).length))⟩, ⟨43, [], .v (.agg #[.int .i64 t_16.At, .int .i64 0, .int .i64 1, .int .i64 s1.1])⟩, ⟨38, [], .v (.slice A_8 s1.2.length c_9)⟩, ⟨6, [], .v (.int .i64 s1.1)⟩, ⟨5, [], .v (.slice A_8 s1.2.length c_9)⟩, ⟨4, [], .v (.slice none 0 0)⟩, ⟨0, [], .v (.slice A0 l0.length c0)⟩, ⟨1, [], .v (.slice A1 l1.length c1)⟩], [], [], [((((kd_Portholeref17_Spot).cells t_16 (svL [])).map EV.v), 55)], none, none⟩) (fun A_47 c_48 => by kernel_rfl) (fun A_47 c_48 a w_49 hput hE' hI' hmv hmr hq_7 => ?_)
          replace hr0 := Arr.keep hr0 (hmv _)
          replace hr1 := Arr.keep hr1 (hmv _)
          replace hq_43 := Arr.keep hq_43 (hmv _)
          replace hE := hE'
          replace hI := hI'
          clear hE' hI' hmv hmr
          refine chunkL_ (live := [5, 6, 4, 0, 1]) (orc := []) hF 1 hI ⟨[⟨5, [], .v (.slice A_47 (s1.2 ++ [(⟨t_16.At, 0, (⟨1, s1.1⟩ : Item)⟩ : Portholeref19_Spot)]).length c_48)⟩, ⟨6, [], .v (.int .i64 s1.1)⟩, ⟨4, [], .v (.slice none 0 0)⟩, ⟨0, [], .v (.slice A0 l0.length c0)⟩, ⟨1, [], .v (.slice A1 l1.length c1)⟩], [], [], [((((kd_Portholeref17_Spot).cells t_16 (svL [])).map EV.v), 55)], none, none⟩ [] rfl (by kernel_rfl) trivial (fun ns_50 a w_51 hI => ?_)
          refine wpListIn_nil ?_
          refine inBlock_normal ?_
          refine then_normal ?_
          refine region_ (live := [6, 5, 4, 0, 1]) (orc := []) hF hI ⟨[⟨6, [], .v (.int .i64 (IntKind.i64.wrap (s1.1 + 1)))⟩, ⟨5, [], .v (.slice A_47 (s1.2 ++ [(⟨t_16.At, 0, (⟨1, s1.1⟩ : Item)⟩ : Portholeref19_Spot)]).length c_48)⟩, ⟨4, [], .v (.slice none 0 0)⟩, ⟨0, [], .v (.slice A0 l0.length c0)⟩, ⟨1, [], .v (.slice A1 l1.length c1)⟩], [], [], [((((kd_Portholeref17_Spot).cells t_16 (svL [])).map EV.v), 55)], none, none⟩ [] (by kernel_rfl) trivial (fun ns_52 a w_53 hI _ => ?_)
          refine then_normal ?_
          obtain ⟨hE', hmv, hmr⟩ := Ep.rebase hE hI
          replace hr0 := Arr.keep hr0 (hmv _)
          replace hr1 := Arr.keep hr1 (hmv _)
          replace hq_43 := Arr.keep hq_43 (hmv _)
          replace hq_7 := Row.keep hq_7 (hmv _) (fun b hb => hmr b (by simp [hb]))
          replace hE := hE'
          replace hI := hI.rebase
          clear hE' hmv hmr
          obtain rfl := Option.some.inj H1
          exact ⟨_, rfl, ⟨_, _, _, _, hr0, hr1, hq_7, hE, hI.pick [6, 5, 4, 0, 1] 0 ⟨[⟨6, [], .v (.int .i64 (IntKind.i64.wrap (s1.1 + 1)))⟩, ⟨5, [], .v (.slice A_47 (s1.2 ++ [(⟨t_16.At, 0, (⟨1, s1.1⟩ : Item)⟩ : Portholeref19_Spot)]).length c_48)⟩, ⟨4, [], .v (.slice none 0 0)⟩, ⟨0, [], .v (.slice A0 l0.length c0)⟩, ⟨1, [], .v (.slice A1 l1.length c1)⟩], [], [], [], none, none⟩ (by kernel_rfl)⟩⟩
        · replace H1 := bif_f hc_39 H1
          refine wpIn_skip ?_
          refine inBlock_normal ?_
          refine then_normal ?_
          refine region_ (live := [6, 5, 4, 0, 1]) (orc := []) hF hI ⟨[⟨6, [], .v (.int .i64 (IntKind.i64.wrap (s1.1 + 1)))⟩, ⟨5, [], .v (.slice A_8 s1.2.length c_9)⟩, ⟨4, [], .v (.slice none 0 0)⟩, ⟨0, [], .v (.slice A0 l0.length c0)⟩, ⟨1, [], .v (.slice A1 l1.length c1)⟩], [], [], [((((kd_Portholeref17_Spot).cells t_16 (svL [])).map EV.v), 55)], none, none⟩ [] (by kernel_rfl) trivial (fun ns_54 a w_55 hI _ => ?_)
          refine then_normal ?_
          obtain ⟨hE', hmv, hmr⟩ := Ep.rebase hE hI
          replace hr0 := Arr.keep hr0 (hmv _)
          replace hr1 := Arr.keep hr1 (hmv _)
          replace hq_7 := Row.keep hq_7 (hmv _) (fun b hb => hmr b (by simp [hb]))
          replace hE := hE'
          replace hI := hI.rebase
          clear hE' hmv hmr
          obtain rfl := Option.some.inj H1
          exact ⟨_, rfl, ⟨_, _, _, _, hr0, hr1, hq_7, hE, hI.pick [6, 5, 4, 0, 1] 0 ⟨[⟨6, [], .v (.int .i64 (IntKind.i64.wrap (s1.1 + 1)))⟩, ⟨5, [], .v (.slice A_8 s1.2.length c_9)⟩, ⟨4, [], .v (.slice none 0 0)⟩, ⟨0, [], .v (.slice A0 l0.length c0)⟩, ⟨1, [], .v (.slice A1 l1.length c1)⟩], [], [], [], none, none⟩ (by kernel_rfl)⟩⟩
    · replace H1 := bif_f hc_15 H1
      refine wpIn_exit ?_
      refine then_exit ?_
      refine then_exit ?_
      obtain ⟨hE', hmv, hmr⟩ := Ep.rebase hE hI
      replace hr0 := Arr.keep hr0 (hmv _)
      replace hr1 := Arr.keep hr1 (hmv _)
      replace hq_7 := Row.keep hq_7 (hmv _) (fun b hb => hmr b (by simp [hb]))
      replace hE := hE'
      replace hI := hI.rebase
      clear hE' hmv hmr
      obtain rfl := Option.some.inj H1
      exact .inl ⟨_, rfl, rfl, ⟨_, _, _, _, hr0, hr1, hq_7, hE, hI.pick [6, 5, 4, 0, 1] 0 ⟨[⟨6, [], .v (.int .i64 s1.1)⟩, ⟨5, [], .v (.slice A_8 s1.2.length c_9)⟩, ⟨4, [], .v (.slice none 0 0)⟩, ⟨0, [], .v (.slice A0 l0.length c0)⟩, ⟨1, [], .v (.slice A1 l1.length c1)⟩], [], [], [], none, none⟩ (by kernel_rfl)⟩⟩
  · clear hI hE
    rintro s1 a w_58 ho ⟨ow_60, ns_59, A_8, c_9, hr0, hr1, hq_7, hE, hI⟩
    subst ho
    replace H0 : (((loopω (G_ref19_Order.b2 l0 l1 s1) (0, s1.2)).bind fun o => o.on (fun s2 => ((loopω (G_ref19_Order.b3 l0 l1 s1 s2) (0, s2.2)).bind fun o => o.on (fun s3 => ((loopω (G_ref19_Order.b4 l0 l1 s1 s2 s3) ([] : List Portholeref19_Spot)).bind fun o => o.on (fun s4 => some s4) (fun r => some r))) (fun r => some r))) (fun r => some r)) : Option ((List Portholeref19_Spot))) = _ := H0
    refine then_normal ?_
    refine wpIn_seq ?_
    refine seq_region (live := [8, 5, 4, 0, 1]) (orc := []) hF hI ⟨[⟨8, [], .v (.int .i64 0)⟩, ⟨5, [], .v (.slice A_8 s1.2.length c_9)⟩, ⟨4, [], .v (.slice none 0 0)⟩, ⟨0, [], .v (.slice A0 l0.length c0)⟩, ⟨1, [], .v (.slice A1 l1.length c1)⟩], [], [], [], none, none⟩ [] (by kernel_rfl) trivial (fun ns_61 a w_62 hI _ => ?_)
    obtain ⟨hE', hmv, hmr⟩ := Ep.rebase hE hI
    replace hr0 := Arr.keep hr0 (hmv _)
    replace hr1 := Arr.keep hr1 (hmv _)
    replace hq_7 := Row.keep hq_7 (hmv _) (fun b hb => hmr b (by simp [hb]))
    replace hE := hE'
    replace hI := hI.rebase
    clear hE' hmv hmr
    obtain ⟨o_98, hL_99, H0⟩ := bind_some H0
    refine block_loop (fun (s2 : Int × (List Portholeref19_Spot)) a w_243 => ∃ (ow ns : List Nat) (A_63 : Option Addr) (c_64 : Nat), (Arr kd_Call (Lo S w w_243 ow [rb A_63]) w_243 A0 l0) ∧ (Arr kd_Belling (Lo S w w_243 ow [rb A_63]) w_243 A1 l1) ∧ (Row kd_Portholeref19_Spot 72 (Lo S w w_243 ow [rb A_63]) w_243 w.heap.size A_63 c_64 s2.2) ∧ Ep [] w w_243 ow [rb A_63] ∧ St w_243 ow 154 ⟨[⟨8, [], .v (.int .i64 s2.1)⟩, ⟨5, [], .v (.slice A_63 s2.2.length c_64)⟩, ⟨4, [], .v (.slice none 0 0)⟩, ⟨0, [], .v (.slice A0 l0.length c0)⟩, ⟨1, [], .v (.slice A1 l1.length c1)⟩], [], [], [], none, none⟩ ns a w_243) (0, s1.2) hL_99 ⟨_, _, _, _, hr0, hr1, hq_7, hE, hI.pick [8, 5, 4, 0, 1] 0 ⟨[⟨8, [], .v (.int .i64 0)⟩, ⟨5, [], .v (.slice A_8 s1.2.length c_9)⟩, ⟨4, [], .v (.slice none 0 0)⟩, ⟨0, [], .v (.slice A0 l0.length c0)⟩, ⟨1, [], .v (.slice A1 l1.length c1)⟩], [], [], [], none, none⟩ (by kernel_rfl)⟩ ?_ ?_
    · clear hI hE
      rintro s2 a w_65 ⟨ow_67, ns_66, A_63, c_64, hr0, hr1, hq_7, hE, hI⟩ r2 H1
      unfold G_ref19_Order.b2 at H1
      refine wpIn_seq ?_
      refine seq_region (live := [49, 8, 5, 4, 0, 1]) (orc := []) hF hI ⟨[⟨49, [], .v (.bool (decide (s2.1 < (l0.length : Int))))⟩, ⟨8, [], .v (.int .i64 s2.1)⟩, ⟨5, [], .v (.slice A_63 s2.2.length c_64)⟩, ⟨4, [], .v (.slice none 0 0)⟩, ⟨0, [], .v (.slice A0 l0.length c0)⟩, ⟨1, [], .v (.slice A1 l1.length c1)⟩], [], [], [], none, none⟩ [] (by kernel_rfl) trivial (fun ns_68 a w_69 hI _ => ?_)
      refine cond_ hI (decide (s2.1 < (l0.length : Int))) rfl (fun hc_70 => ?_) (fun hc_70 => ?_)
      · replace H1 := bif_t hc_70 H1
        refine wpIn_skip ?_
        refine then_normal ?_
        refine wpIn_seq ?_
        refine wpIn_block ?_
        obtain ⟨hN_71, H1⟩ := req_some H1
        obtain ⟨sv_72, hE_74, hA_73⟩ := Arr.elB (d := kd_Call) hr0 s2.1 true (fun _ => hN_71)
        replace hE_74 := hE_74 rfl
        replace hA_73 := fun (_ : true = true) => hA_73 rfl
        refine seq_region (live := [57, 8, 5, 4, 0, 1]) (orc := [[.int .i64 ((rd l0 s2.1).Ring)]]) hF hI ⟨[⟨57, [], .v (.bool (decide (((rd l0 s2.1).Ring) ≥ 0)))⟩, ⟨8, [], .v (.int .i64 s2.1)⟩, ⟨5, [], .v (.slice A_63 s2.2.length c_64)⟩, ⟨4, [], .v (.slice none 0 0)⟩, ⟨0, [], .v (.slice A0 l0.length c0)⟩, ⟨1, [], .v (.slice A1 l1.length c1)⟩], [], [], [], none, none⟩ [.need true (0 ≤ s2.1 ∧ s2.1 < (l0.length : Int)), .need true (A0 = some (adr A0)), .cell true (((adr A0).add ((s2.1 : Int).toNat * 20)).add 17) [.int .i64 ((rd l0 s2.1).Ring)]] (by kernel_rfl) ⟨ob_inb (fun _ => hN_71), hA_73, ob_el (fun _ => hE_74) 17 [.int .i64 ((rd l0 s2.1).Ring)] rfl, trivial⟩ (fun ns_75 a w_76 hI _ => ?_)
        refine cond_ hI (decide (((rd l0 s2.1).Ring) ≥ 0)) rfl (fun hc_77 => ?_) (fun hc_77 => ?_)
        · replace H1 := bif_t hc_77 H1
          refine wpIn_region_lit ?_
          obtain ⟨hN_78, H1⟩ := req_some H1
          obtain ⟨sv_79, hE_81, hA_80⟩ := Arr.elB (d := kd_Call) hr0 s2.1 true (fun _ => hN_78)
          replace hE_81 := hE_81 rfl
          replace hA_80 := fun (_ : true = true) => hA_80 rfl
          refine chunkL_ (live := [66, 58, 8, 5, 4, 0, 1]) (orc := [[.int .i64 ((rd l0 s2.1).Ring)]]) hF 9 hI ⟨[⟨66, [], .v (.agg #[.int .i64 ((rd l0 s2.1).Ring), .int .i64 1, .int .i64 2, .int .i64 s2.1])⟩, ⟨58, [], .v (.slice A_63 s2.2.length c_64)⟩, ⟨8, [], .v (.int .i64 s2.1)⟩, ⟨5, [], .v (.slice A_63 s2.2.length c_64)⟩, ⟨4, [], .v (.slice none 0 0)⟩, ⟨0, [], .v (.slice A0 l0.length c0)⟩, ⟨1, [], .v (.slice A1 l1.length c1)⟩], [], [], [], none, none⟩ [.need true (0 ≤ s2.1 ∧ s2.1 < (l0.length : Int)), .need true (A0 = some (adr A0)), .cell true (((adr A0).add ((s2.1 : Int).toNat * 20)).add 17) [.int .i64 ((rd l0 s2.1).Ring)]] rfl (by kernel_rfl) ⟨ob_inb (fun _ => hN_78), hA_80, ob_el (fun _ => hE_81) 17 [.int .i64 ((rd l0 s2.1).Ring)] rfl, trivial⟩ (fun ns_82 a w_83 hI => ?_)
          obtain ⟨hE', hmv, hmr⟩ := Ep.rebase hE hI
          replace hr0 := Arr.keep hr0 (hmv _)
          replace hr1 := Arr.keep hr1 (hmv _)
          replace hq_7 := Row.keep hq_7 (hmv _) (fun b hb => hmr b (by simp [hb]))
          replace hE_74 := El.keep hE_74 (hmv _)
          replace hE_81 := El.keep hE_81 (hmv _)
          replace hE := hE'
          replace hI := hI.rebase
          clear hE' hmv hmr
          refine buildSlice_ (S0 := S) (d := kd_Portholeref19_Spot) (e := 72) hF hE hI (wanted_none rfl) rfl (by kernel_rfl) (cs := [.int .i64 ((rd l0 s2.1).Ring), .int .i64 1, .int .i64 2, .int .i64 s2.1]) (by kernel_rfl) [(⟨(rd l0 s2.1).Ring, 1, (⟨2, s2.1⟩ : Item)⟩ : Portholeref19_Spot)] [(svL [])] rfl rfl (by simp [maxLen]) (fun i x hi => by cases i with | zero => (simp only [List.getElem?_cons_zero, Option.some.injEq] at hi; subst hi; exact ⟨trivial, rfl⟩) | succ i => (simp only [List.getElem?_cons_succ] at hi; simp at hi)) (fun A_84 => ⟨[⟨67, [], .v (.slice A_84 ([(⟨(rd l0 s2.1).Ring, 1, (⟨2, s2.1⟩ : Item)⟩ : Portholeref19_Spot)] : List Portholeref19_Spot).length (([(⟨(rd l0 s2.1).Ring, 1, (⟨2, s2.1⟩ : Item)⟩ : Portholeref19_Spot)] : List Portholeref19_Spot).length))⟩, ⟨66, [], .v (.agg #[.int .i64 ((rd l0 s2.1).Ring), .int .i64 1, .int .i64 2, .int .i64 s2.1])⟩, ⟨58, [], .v (.slice A_63 s2.2.length c_64)⟩, ⟨8, [], .v (.int .i64 s2.1)⟩, ⟨5, [], .v (.slice A_63 s2.2.length c_64)⟩, ⟨4, [], .v (.slice none 0 0)⟩, ⟨0, [], .v (.slice A0 l0.length c0)⟩, ⟨1, [], .v (.slice A1 l1.length c1)⟩], [], [], [], none, none⟩) (fun A_84 => by kernel_rfl) (fun A_84 a w_86 hput hE' hI' hmv hmr hq_85 => ?_)
          replace hr0 := Arr.keep hr0 (hmv _)
          replace hr1 := Arr.keep hr1 (hmv _)
          replace hq_7 := Row.keep hq_7 (hmv _) (fun b hb => hmr b (by simp [hb]) (by simp))
          replace hE_74 := El.keep hE_74 (hmv _)
          replace hE_81 := El.keep hE_81 (hmv _)
          replace hE := hE'
          replace hI := hI'
          clear hE' hI' hmv hmr
          obtain ⟨hE', hmv, hq_85, hcap_87⟩ := Row.still (l1 := [rb A_63]) (l2 := []) hq_85 (Nat.le_refl _) hE
          have hmr : ∀ b ∈ ([rb A_63, rb A_84] : List (List Nat)).flatten, w_86.heap[b]? = w_86.heap[b]? := fun _ _ => rfl
          replace hr0 := Arr.keep hr0 (hmv _)
          replace hr1 := Arr.keep hr1 (hmv _)
          replace hq_7 := Row.keep hq_7 (hmv _) (fun b hb => hmr b (by simp [hb]))
          replace hE_74 := El.keep hE_74 (hmv _)
          replace hE_81 := El.keep hE_81 (hmv _)
          replace hE := hE'
          clear hE' hmv hmr
          obtain ⟨hN_88, H1⟩ := req_some H1
          replace hN_88 := of_decide_eq_true hN_88
          refine append_ (S0 := S) (l1 := []) (l2 := []) (d := kd_Portholeref19_Spot) (e := 72) hF hE hI (wanted_none rfl) rfl (A := A_63) (c := c_64) (l := s2.2) rfl (A2 := A_84) (c2 := (([(⟨(rd l0 s2.1).Ring, 1, (⟨2, s2.1⟩ : Item)⟩ : Portholeref19_Spot)] : List Portholeref19_Spot).length)) rfl hq_7 hq_85 (fun sv u hu => by exact kd_one_Portholeref19_Spot _ sv u hu) Try.underlying63 (zi := (.agg #[.int .i64 0, .int .i64 0, .int .i64 0, .int .i64 0], 4, 32)) (by kernel_rfl) rfl (by kernel_rfl) (len_max (by decide) hN_88) hN_88 (fun A_89 c_90 => ⟨[⟨68, [], .v (.slice A_89 (s2.2 ++ [(⟨(rd l0 s2.1).Ring, 1, (⟨2, s2.1⟩ : Item)⟩ : Portholeref19_Spot)]).length c_90)⟩, ⟨67, [], .v (.slice A_84 ([(⟨(rd l0 s2.1).Ring, 1, (⟨2, s2.1⟩ : Item)⟩ : Portholeref19_Spot)] : List Portholeref19_Spot).length (([(⟨(rd l0 s2.1).Ring, 1, (⟨2, s2.1⟩ : Item)⟩ : Portholeref19_Spot)] : List Portholeref19_Spot).length))⟩, ⟨66, [], .v (.agg #[.int .i64 ((rd l0 s2.1).Ring), .int .i64 1, .int .i64 2, .int .i64 s2.1])⟩, ⟨58, [], .v (.slice A_63 s2.2.length c_64)⟩, ⟨8, [], .v (.int .i64 s2.1)⟩, ⟨5, [], .v (.slice A_63 s2.2.length c_64)⟩, ⟨4, [], .v (.slice none 0 0)⟩, ⟨0, [], .v (.slice A0 l0.length c0)⟩, ⟨1, [], .v (.slice A1 l1.length c1)⟩], [], [], [], none, none⟩) (fun A_89 c_90 => by kernel_rfl) (fun A_89 c_90 a w_91 hput hE' hI' hmv hmr hq_7 => ?_)
          replace hr0 := Arr.keep hr0 (hmv _)
          replace hr1 := Arr.keep hr1 (hmv _)
          replace hE_74 := El.keep hE_74 (hmv _)
          replace hE_81 := El.keep hE_81 (hmv _)
          replace hq_85 := Arr.keep hq_85 (hmv _)
          replace hE := hE'
          replace hI := hI'
          clear hE' hI' hmv hmr
          refine chunkL_ (live := [5, 8, 4, 0, 1]) (orc := []) hF 1 hI ⟨[⟨5, [], .v (.slice A_89 (s2.2 ++ [(⟨(rd l0 s2.1).Ring, 1, (⟨2, s2.1⟩ : Item)⟩ : Portholeref19_Spot)]).length c_90)⟩, ⟨8, [], .v (.int .i64 s2.1)⟩, ⟨4, [], .v (.slice none 0 0)⟩, ⟨0, [], .v (.slice A0 l0.length c0)⟩, ⟨1, [], .v (.slice A1 l1.length c1)⟩], [], [], [], none, none⟩ [] rfl (by kernel_rfl) trivial (fun ns_92 a w_93 hI => ?_)
          refine wpListIn_nil ?_
          refine inBlock_normal ?_
          refine then_normal ?_
          refine region_ (live := [8, 5, 4, 0, 1]) (orc := []) hF hI ⟨[⟨8, [], .v (.int .i64 (IntKind.i64.wrap (s2.1 + 1)))⟩, ⟨5, [], .v (.slice A_89 (s2.2 ++ [(⟨(rd l0 s2.1).Ring, 1, (⟨2, s2.1⟩ : Item)⟩ : Portholeref19_Spot)]).length c_90)⟩, ⟨4, [], .v (.slice none 0 0)⟩, ⟨0, [], .v (.slice A0 l0.length c0)⟩, ⟨1, [], .v (.slice A1 l1.length c1)⟩], [], [], [], none, none⟩ [] (by kernel_rfl) trivial (fun ns_94 a w_95 hI _ => ?_)
          refine then_normal ?_
          obtain ⟨hE', hmv, hmr⟩ := Ep.rebase hE hI
          replace hr0 := Arr.keep hr0 (hmv _)
          replace hr1 := Arr.keep hr1 (hmv _)
          replace hE_74 := El.keep hE_74 (hmv _)
          replace hE_81 := El.keep hE_81 (hmv _)
          replace hq_85 := Arr.keep hq_85 (hmv _)
          replace hq_7 := Row.keep hq_7 (hmv _) (fun b hb => hmr b (by simp [hb]))
          replace hE := hE'
          replace hI := hI.rebase
          clear hE' hmv hmr
          obtain rfl := Option.some.inj H1
          exact ⟨_, rfl, ⟨_, _, _, _, hr0, hr1, hq_7, hE, hI.pick [8, 5, 4, 0, 1] 0 ⟨[⟨8, [], .v (.int .i64 (IntKind.i64.wrap (s2.1 + 1)))⟩, ⟨5, [], .v (.slice A_89 (s2.2 ++ [(⟨(rd l0 s2.1).Ring, 1, (⟨2, s2.1⟩ : Item)⟩ : Portholeref19_Spot)]).length c_90)⟩, ⟨4, [], .v (.slice none 0 0)⟩, ⟨0, [], .v (.slice A0 l0.length c0)⟩, ⟨1, [], .v (.slice A1 l1.length c1)⟩], [], [], [], none, none⟩ (by kernel_rfl)⟩⟩
        · replace H1 := bif_f hc_77 H1
          refine wpIn_skip ?_
          refine inBlock_normal ?_
          refine then_normal ?_
          refine region_ (live := [8, 5, 4, 0, 1]) (orc := []) hF hI ⟨[⟨8, [], .v (.int .i64 (IntKind.i64.wrap (s2.1 + 1)))⟩, ⟨5, [], .v (.slice A_63 s2.2.length c_64)⟩, ⟨4, [], .v (.slice none 0 0)⟩, ⟨0, [], .v (.slice A0 l0.length c0)⟩, ⟨1, [], .v (.slice A1 l1.length c1)⟩], [], [], [], none, none⟩ [] (by kernel_rfl) trivial (fun ns_96 a w_97 hI _ => ?_)
          refine then_normal ?_
          obtain ⟨hE', hmv, hmr⟩ := Ep.rebase hE hI
          replace hr0 := Arr.keep hr0 (hmv _)
          replace hr1 := Arr.keep hr1 (hmv _)
          replace hq_7 := Row.keep hq_7 (hmv _) (fun b hb => hmr b (by simp [hb]))
          replace hE_74 := El.keep hE_74 (hmv _)
          replace hE := hE'
          replace hI := hI.rebase
          clear hE' hmv hmr
          obtain rfl := Option.some.inj H1
          exact ⟨_, rfl, ⟨_, _, _, _, hr0, hr1, hq_7, hE, hI.pick [8, 5, 4, 0, 1] 0 ⟨[⟨8, [], .v (.int .i64 (IntKind.i64.wrap (s2.1 + 1)))⟩, ⟨5, [], .v (.slice A_63 s2.2.length c_64)⟩, ⟨4, [], .v (.slice none 0 0)⟩, ⟨0, [], .v (.slice A0 l0.length c0)⟩, ⟨1, [], .v (.slice A1 l1.length c1)⟩], [], [], [], none, none⟩ (by kernel_rfl)⟩⟩
      · replace H1 := bif_f hc_70 H1
        refine wpIn_exit ?_
        refine then_exit ?_
        refine then_exit ?_
        obtain ⟨hE', hmv, hmr⟩ := Ep.rebase hE hI
        replace hr0 := Arr.keep hr0 (hmv _)
        replace hr1 := Arr.keep hr1 (hmv _)
        replace hq_7 := Row.keep hq_7 (hmv _) (fun b hb => hmr b (by simp [hb]))
        replace hE := hE'
        replace hI := hI.rebase
        clear hE' hmv hmr
        obtain rfl := Option.some.inj H1
        exact .inl ⟨_, rfl, rfl, ⟨_, _, _, _, hr0, hr1, hq_7, hE, hI.pick [8, 5, 4, 0, 1] 0 ⟨[⟨8, [], .v (.int .i64 s2.1)⟩, ⟨5, [], .v (.slice A_63 s2.2.length c_64)⟩, ⟨4, [], .v (.slice none 0 0)⟩, ⟨0, [], .v (.slice A0 l0.length c0)⟩, ⟨1, [], .v (.slice A1 l1.length c1)⟩], [], [], [], none, none⟩ (by kernel_rfl)⟩⟩
    · clear hI hE
      rintro s2 a w_100 ho ⟨ow_102, ns_101, A_63, c_64, hr0, hr1, hq_7, hE, hI⟩
      subst ho
      replace H0 : (((loopω (G_ref19_Order.b3 l0 l1 s1 s2) (0, s2.2)).bind fun o => o.on (fun s3 => ((loopω (G_ref19_Order.b4 l0 l1 s1 s2 s3) ([] : List Portholeref19_Spot)).bind fun o => o.on (fun s4 => some s4) (fun r => some r))) (fun r => some r)) : Option ((List Portholeref19_Spot))) = _ := H0
      refine then_normal ?_
      refine wpIn_seq ?_
      refine seq_region (live := [9, 5, 4, 1]) (orc := []) hF hI ⟨[⟨9, [], .v (.int .i64 0)⟩, ⟨5, [], .v (.slice A_63 s2.2.length c_64)⟩, ⟨4, [], .v (.slice none 0 0)⟩, ⟨1, [], .v (.slice A1 l1.length c1)⟩], [], [], [], none, none⟩ [] (by kernel_rfl) trivial (fun ns_103 a w_104 hI _ => ?_)
      obtain ⟨hE', hmv, hmr⟩ := Ep.rebase hE hI
      replace hr0 := Arr.keep hr0 (hmv _)
      replace hr1 := Arr.keep hr1 (hmv _)
      replace hq_7 := Row.keep hq_7 (hmv _) (fun b hb => hmr b (by simp [hb]))
      replace hE := hE'
      replace hI := hI.rebase
      clear hE' hmv hmr
      obtain ⟨o_131, hL_132, H0⟩ := bind_some H0
      refine block_loop (fun (s3 : Int × (List Portholeref19_Spot)) a w_242 => ∃ (ow ns : List Nat) (A_105 : Option Addr) (c_106 : Nat), (Arr kd_Call (Lo S w w_242 ow [rb A_105]) w_242 A0 l0) ∧ (Arr kd_Belling (Lo S w w_242 ow [rb A_105]) w_242 A1 l1) ∧ (Row kd_Portholeref19_Spot 72 (Lo S w w_242 ow [rb A_105]) w_242 w.heap.size A_105 c_106 s3.2) ∧ Ep [] w w_242 ow [rb A_105] ∧ St w_242 ow 154 ⟨[⟨9, [], .v (.int .i64 s3.1)⟩, ⟨5, [], .v (.slice A_105 s3.2.length c_106)⟩, ⟨4, [], .v (.slice none 0 0)⟩, ⟨1, [], .v (.slice A1 l1.length c1)⟩], [], [], [], none, none⟩ ns a w_242) (0, s2.2) hL_132 ⟨_, _, _, _, hr0, hr1, hq_7, hE, hI.pick [9, 5, 4, 1] 0 ⟨[⟨9, [], .v (.int .i64 0)⟩, ⟨5, [], .v (.slice A_63 s2.2.length c_64)⟩, ⟨4, [], .v (.slice none 0 0)⟩, ⟨1, [], .v (.slice A1 l1.length c1)⟩], [], [], [], none, none⟩ (by kernel_rfl)⟩ ?_ ?_
      · clear hI hE
        rintro s3 a w_107 ⟨ow_109, ns_108, A_105, c_106, hr0, hr1, hq_7, hE, hI⟩ r3 H1
        unfold G_ref19_Order.b3 at H1
        refine wpIn_seq ?_
        refine seq_region (live := [72, 9, 5, 4, 1]) (orc := []) hF hI ⟨[⟨72, [], .v (.bool (decide (s3.1 < (l1.length : Int))))⟩, ⟨9, [], .v (.int .i64 s3.1)⟩, ⟨5, [], .v (.slice A_105 s3.2.length c_106)⟩, ⟨4, [], .v (.slice none 0 0)⟩, ⟨1, [], .v (.slice A1 l1.length c1)⟩], [], [], [], none, none⟩ [] (by kernel_rfl) trivial (fun ns_110 a w_111 hI _ => ?_)
        refine cond_ hI (decide (s3.1 < (l1.length : Int))) rfl (fun hc_112 => ?_) (fun hc_112 => ?_)
        · replace H1 := bif_t hc_112 H1
          refine wpIn_skip ?_
          refine then_normal ?_
          refine wpIn_seq ?_
          refine wpIn_block ?_
          refine wpIn_region_lit ?_
          obtain ⟨hN_113, H1⟩ := req_some H1
          obtain ⟨sv_114, hE_116, hA_115⟩ := Arr.elB (d := kd_Belling) hr1 s3.1 true (fun _ => hN_113)
          replace hE_116 := hE_116 rfl
          replace hA_115 := fun (_ : true = true) => hA_115 rfl
          refine chunkL_ (live := [83, 75, 9, 5, 4, 1]) (orc := [[.int .i64 ((rd l1 s3.1).At)]]) hF 9 hI ⟨[⟨83, [], .v (.agg #[.int .i64 ((rd l1 s3.1).At), .int .i64 2, .int .i64 3, .int .i64 s3.1])⟩, ⟨75, [], .v (.slice A_105 s3.2.length c_106)⟩, ⟨9, [], .v (.int .i64 s3.1)⟩, ⟨5, [], .v (.slice A_105 s3.2.length c_106)⟩, ⟨4, [], .v (.slice none 0 0)⟩, ⟨1, [], .v (.slice A1 l1.length c1)⟩], [], [], [], none, none⟩ [.need true (0 ≤ s3.1 ∧ s3.1 < (l1.length : Int)), .need true (A1 = some (adr A1)), .cell true (((adr A1).add ((s3.1 : Int).toNat * 5)).add 2) [.int .i64 ((rd l1 s3.1).At)]] rfl (by kernel_rfl) ⟨ob_inb (fun _ => hN_113), hA_115, ob_el (fun _ => hE_116) 2 [.int .i64 ((rd l1 s3.1).At)] rfl, trivial⟩ (fun ns_117 a w_118 hI => ?_)
          obtain ⟨hE', hmv, hmr⟩ := Ep.rebase hE hI
          replace hr0 := Arr.keep hr0 (hmv _)
          replace hr1 := Arr.keep hr1 (hmv _)
          replace hq_7 := Row.keep hq_7 (hmv _) (fun b hb => hmr b (by simp [hb]))
          replace hE_116 := El.keep hE_116 (hmv _)
          replace hE := hE'
          replace hI := hI.rebase
          clear hE' hmv hmr
          refine buildSlice_ (S0 := S) (d := kd_Portholeref19_Spot) (e := 72) hF hE hI (wanted_none rfl) rfl (by kernel_rfl) (cs := [.int .i64 ((rd l1 s3.1).At), .int .i64 2, .int .i64 3, .int .i64 s3.1]) (by kernel_rfl) [(⟨(rd l1 s3.1).At, 2, (⟨3, s3.1⟩ : Item)⟩ : Portholeref19_Spot)] [(svL [])] rfl rfl (by simp [maxLen]) (fun i x hi => by cases i with | zero => (simp only [List.getElem?_cons_zero, Option.some.injEq] at hi; subst hi; exact ⟨trivial, rfl⟩) | succ i => (simp only [List.getElem?_cons_succ] at hi; simp at hi)) (fun A_119 => ⟨[⟨84, [], .v (.slice A_119 ([(⟨(rd l1 s3.1).At, 2, (⟨3, s3.1⟩ : Item)⟩ : Portholeref19_Spot)] : List Portholeref19_Spot).length (([(⟨(rd l1 s3.1).At, 2, (⟨3, s3.1⟩ : Item)⟩ : Portholeref19_Spot)] : List Portholeref19_Spot).length))⟩, ⟨83, [], .v (.agg #[.int .i64 ((rd l1 s3.1).At), .int .i64 2, .int .i64 3, .int .i64 s3.1])⟩, ⟨75, [], .v (.slice A_105 s3.2.length c_106)⟩, ⟨9, [], .v (.int .i64 s3.1)⟩, ⟨5, [], .v (.slice A_105 s3.2.length c_106)⟩, ⟨4, [], .v (.slice none 0 0)⟩, ⟨1, [], .v (.slice A1 l1.length c1)⟩], [], [], [], none, none⟩) (fun A_119 => by kernel_rfl) (fun A_119 a w_121 hput hE' hI' hmv hmr hq_120 => ?_)
          replace hr0 := Arr.keep hr0 (hmv _)
          replace hr1 := Arr.keep hr1 (hmv _)
          replace hq_7 := Row.keep hq_7 (hmv _) (fun b hb => hmr b (by simp [hb]) (by simp))
          replace hE_116 := El.keep hE_116 (hmv _)
          replace hE := hE'
          replace hI := hI'
          clear hE' hI' hmv hmr
          obtain ⟨hE', hmv, hq_120, hcap_122⟩ := Row.still (l1 := [rb A_105]) (l2 := []) hq_120 (Nat.le_refl _) hE
          have hmr : ∀ b ∈ ([rb A_105, rb A_119] : List (List Nat)).flatten, w_121.heap[b]? = w_121.heap[b]? := fun _ _ => rfl
          replace hr0 := Arr.keep hr0 (hmv _)
          replace hr1 := Arr.keep hr1 (hmv _)
          replace hq_7 := Row.keep hq_7 (hmv _) (fun b hb => hmr b (by simp [hb]))
          replace hE_116 := El.keep hE_116 (hmv _)
          replace hE := hE'
          clear hE' hmv hmr
          obtain ⟨hN_123, H1⟩ := req_some H1
          replace hN_123 := of_decide_eq_true hN_123
          refine append_ (S0 := S) (l1 := []) (l2 := []) (d := kd_Portholeref19_Spot) (e := 72) hF hE hI (wanted_none rfl) rfl (A := A_105) (c := c_106) (l := s3.2) rfl (A2 := A_119) (c2 := (([(⟨(rd l1 s3.1).At, 2, (⟨3, s3.1⟩ : Item)⟩ : Portholeref19_Spot)] : List Portholeref19_Spot).length)) rfl hq_7 hq_120 (fun sv u hu => by exact kd_one_Portholeref19_Spot _ sv u hu) Try.underlying63 (zi := (.agg #[.int .i64 0, .int .i64 0, .int .i64 0, .int .i64 0], 4, 32)) (by kernel_rfl) rfl (by kernel_rfl) (len_max (by decide) hN_123) hN_123 (fun A_124 c_125 => ⟨[⟨85, [], .v (.slice A_124 (s3.2 ++ [(⟨(rd l1 s3.1).At, 2, (⟨3, s3.1⟩ : Item)⟩ : Portholeref19_Spot)]).length c_125)⟩, ⟨84, [], .v (.slice A_119 ([(⟨(rd l1 s3.1).At, 2, (⟨3, s3.1⟩ : Item)⟩ : Portholeref19_Spot)] : List Portholeref19_Spot).length (([(⟨(rd l1 s3.1).At, 2, (⟨3, s3.1⟩ : Item)⟩ : Portholeref19_Spot)] : List Portholeref19_Spot).length))⟩, ⟨83, [], .v (.agg #[.int .i64 ((rd l1 s3.1).At), .int .i64 2, .int .i64 3, .int .i64 s3.1])⟩, ⟨75, [], .v (.slice A_105 s3.2.length c_106)⟩, ⟨9, [], .v (.int .i64 s3.1)⟩, ⟨5, [], .v (.slice A_105 s3.2.length c_106)⟩, ⟨4, [], .v (.slice none 0 0)⟩, ⟨1, [], .v (.slice A1 l1.length c1)⟩], [], [], [], none, none⟩) (fun A_124 c_125 => by kernel_rfl) (fun A_124 c_125 a w_126 hput hE' hI' hmv hmr hq_7 => ?_)
          replace hr0 := Arr.keep hr0 (hmv _)
          replace hr1 := Arr.keep hr1 (hmv _)
          replace hE_116 := El.keep hE_116 (hmv _)
          replace hq_120 := Arr.keep hq_120 (hmv _)
          replace hE := hE'
          replace hI := hI'
          clear hE' hI' hmv hmr
          refine chunkL_ (live := [5, 9, 4, 1]) (orc := []) hF 1 hI ⟨[⟨5, [], .v (.slice A_124 (s3.2 ++ [(⟨(rd l1 s3.1).At, 2, (⟨3, s3.1⟩ : Item)⟩ : Portholeref19_Spot)]).length c_125)⟩, ⟨9, [], .v (.int .i64 s3.1)⟩, ⟨4, [], .v (.slice none 0 0)⟩, ⟨1, [], .v (.slice A1 l1.length c1)⟩], [], [], [], none, none⟩ [] rfl (by kernel_rfl) trivial (fun ns_127 a w_128 hI => ?_)
          refine wpListIn_nil ?_
          refine inBlock_normal ?_
          refine then_normal ?_
          refine region_ (live := [9, 5, 4, 1]) (orc := []) hF hI ⟨[⟨9, [], .v (.int .i64 (IntKind.i64.wrap (s3.1 + 1)))⟩, ⟨5, [], .v (.slice A_124 (s3.2 ++ [(⟨(rd l1 s3.1).At, 2, (⟨3, s3.1⟩ : Item)⟩ : Portholeref19_Spot)]).length c_125)⟩, ⟨4, [], .v (.slice none 0 0)⟩, ⟨1, [], .v (.slice A1 l1.length c1)⟩], [], [], [], none, none⟩ [] (by kernel_rfl) trivial (fun ns_129 a w_130 hI _ => ?_)
          refine then_normal ?_
          obtain ⟨hE', hmv, hmr⟩ := Ep.rebase hE hI
          replace hr0 := Arr.keep hr0 (hmv _)
          replace hr1 := Arr.keep hr1 (hmv _)
          replace hE_116 := El.keep hE_116 (hmv _)
          replace hq_120 := Arr.keep hq_120 (hmv _)
          replace hq_7 := Row.keep hq_7 (hmv _) (fun b hb => hmr b (by simp [hb]))
          replace hE := hE'
          replace hI := hI.rebase
          clear hE' hmv hmr
          obtain rfl := Option.some.inj H1
          exact ⟨_, rfl, ⟨_, _, _, _, hr0, hr1, hq_7, hE, hI.pick [9, 5, 4, 1] 0 ⟨[⟨9, [], .v (.int .i64 (IntKind.i64.wrap (s3.1 + 1)))⟩, ⟨5, [], .v (.slice A_124 (s3.2 ++ [(⟨(rd l1 s3.1).At, 2, (⟨3, s3.1⟩ : Item)⟩ : Portholeref19_Spot)]).length c_125)⟩, ⟨4, [], .v (.slice none 0 0)⟩, ⟨1, [], .v (.slice A1 l1.length c1)⟩], [], [], [], none, none⟩ (by kernel_rfl)⟩⟩
        · replace H1 := bif_f hc_112 H1
          refine wpIn_exit ?_
          refine then_exit ?_
          refine then_exit ?_
          obtain ⟨hE', hmv, hmr⟩ := Ep.rebase hE hI
          replace hr0 := Arr.keep hr0 (hmv _)
          replace hr1 := Arr.keep hr1 (hmv _)
          replace hq_7 := Row.keep hq_7 (hmv _) (fun b hb => hmr b (by simp [hb]))
          replace hE := hE'
          replace hI := hI.rebase
          clear hE' hmv hmr
          obtain rfl := Option.some.inj H1
          exact .inl ⟨_, rfl, rfl, ⟨_, _, _, _, hr0, hr1, hq_7, hE, hI.pick [9, 5, 4, 1] 0 ⟨[⟨9, [], .v (.int .i64 s3.1)⟩, ⟨5, [], .v (.slice A_105 s3.2.length c_106)⟩, ⟨4, [], .v (.slice none 0 0)⟩, ⟨1, [], .v (.slice A1 l1.length c1)⟩], [], [], [], none, none⟩ (by kernel_rfl)⟩⟩
      · clear hI hE
        rintro s3 a w_133 ho ⟨ow_135, ns_134, A_105, c_106, hr0, hr1, hq_7, hE, hI⟩
        subst ho
        replace H0 : (((loopω (G_ref19_Order.b4 l0 l1 s1 s2 s3) ([] : List Portholeref19_Spot)).bind fun o => o.on (fun s4 => some s4) (fun r => some r)) : Option ((List Portholeref19_Spot))) = _ := H0
        refine then_normal ?_
        refine seq_region (live := [10, 5, 4]) (orc := []) hF hI ⟨[⟨10, [], .v (.slice none 0 0)⟩, ⟨5, [], .v (.slice A_105 s3.2.length c_106)⟩, ⟨4, [], .v (.slice none 0 0)⟩], [], [], [], none, none⟩ [] (by kernel_rfl) trivial (fun ns_136 a w_137 hI _ => ?_)
        refine wpIn_seq ?_
        obtain ⟨hE', hmv, hmr⟩ := Ep.rebase hE hI
        replace hr0 := Arr.keep hr0 (hmv _)
        replace hr1 := Arr.keep hr1 (hmv _)
        replace hq_7 := Row.keep hq_7 (hmv _) (fun b hb => hmr b (by simp [hb]))
        replace hE := hE'
        replace hI := hI.rebase
        clear hE' hmv hmr
        obtain ⟨hE', hmv⟩ := Ep.addNil hE
        have hmr : ∀ b ∈ ([rb A_105] : List (List Nat)).flatten, w_137.heap[b]? = w_137.heap[b]? := fun _ _ => rfl
        replace hr0 := Arr.keep hr0 (hmv _)
        replace hr1 := Arr.keep hr1 (hmv _)
        replace hq_7 := Row.keep hq_7 (hmv _) (fun b hb => hmr b (by simp [hb]))
        replace hE := hE'
        clear hE' hmv hmr
        have hq_138 : Row kd_Portholeref19_Spot 72 (Lo S w w_137 ns_136 [rb A_105, rb none]) w_137 w.heap.size none 0 ([] : List Portholeref19_Spot) := Row.nil
        obtain ⟨hE', hmv, hq_7, hcap_139⟩ := Row.still (l1 := []) (l2 := [rb none]) hq_7 (Nat.le_refl _) hE
        have hmr : ∀ b ∈ ([rb A_105, rb none] : List (List Nat)).flatten, w_137.heap[b]? = w_137.heap[b]? := fun _ _ => rfl
        replace hr0 := Arr.keep hr0 (hmv _)
        replace hr1 := Arr.keep hr1 (hmv _)
        replace hq_138 := Row.keep hq_138 (hmv _) (fun b hb => by simp [rb] at hb)
        replace hE := hE'
        clear hE' hmv hmr
        obtain ⟨o_233, hL_234, H0⟩ := bind_some H0
        refine block_loop (fun (s4 : (List Portholeref19_Spot)) a w_241 => ∃ (ow ns : List Nat) (A_140 : Option Addr) (c_141 : Nat), (Arr kd_Call (Lo S w w_241 ow [rb A_140]) w_241 A0 l0) ∧ (Arr kd_Belling (Lo S w w_241 ow [rb A_140]) w_241 A1 l1) ∧ (Row kd_Portholeref19_Spot 72 (Lo S w w_241 ow [rb A_140]) w_241 w.heap.size A_140 c_141 s4) ∧ (Arr kd_Portholeref19_Spot (Lo S w w_241 ow [rb A_140]) w_241 A_105 s3.2) ∧ Ep [] w w_241 ow [rb A_140] ∧ St w_241 ow 154 ⟨[⟨10, [], .v (.slice A_140 s4.length c_141)⟩, ⟨5, [], .v (.slice A_105 s3.2.length c_106)⟩, ⟨4, [], .v (.slice none 0 0)⟩], [], [], [], none, none⟩ ns a w_241) ([] : List Portholeref19_Spot) hL_234 ⟨_, _, _, _, hr0, hr1, hq_138, hq_7, hE, hI.pick [10, 5, 4] 0 ⟨[⟨10, [], .v (.slice none ([] : List Portholeref19_Spot).length 0)⟩, ⟨5, [], .v (.slice A_105 s3.2.length c_106)⟩, ⟨4, [], .v (.slice none 0 0)⟩], [], [], [], none, none⟩ (by kernel_rfl)⟩ ?_ ?_
        · clear hI hE
          rintro s4 a w_142 ⟨ow_144, ns_143, A_140, c_141, hr0, hr1, hq_138, hq_7, hE, hI⟩ r4 H1
          unfold G_ref19_Order.b4 at H1
          refine wpIn_seq ?_
          refine seq_region (live := [90, 10, 5, 4]) (orc := []) hF hI ⟨[⟨90, [], .v (.bool (decide ((s4.length : Int) < (s3.2.length : Int))))⟩, ⟨10, [], .v (.slice A_140 s4.length c_141)⟩, ⟨5, [], .v (.slice A_105 s3.2.length c_106)⟩, ⟨4, [], .v (.slice none 0 0)⟩], [], [], [], none, none⟩ [] (by kernel_rfl) trivial (fun ns_145 a w_146 hI _ => ?_)
          refine cond_ hI (decide ((s4.length : Int) < (s3.2.length : Int))) rfl (fun hc_147 => ?_) (fun hc_147 => ?_)
          · replace H1 := bif_t hc_147 H1
            refine wpIn_skip ?_
            refine then_normal ?_
            refine wpIn_block ?_
            refine seq_region (live := [11, 10, 5, 4]) (orc := []) hF hI ⟨[⟨11, [], .v (.int .i64 (-1))⟩, ⟨10, [], .v (.slice A_140 s4.length c_141)⟩, ⟨5, [], .v (.slice A_105 s3.2.length c_106)⟩, ⟨4, [], .v (.slice none 0 0)⟩], [], [], [], none, none⟩ [] (by kernel_rfl) trivial (fun ns_148 a w_149 hI _ => ?_)
            refine wpIn_seq ?_
            refine seq_region (live := [12, 11, 10, 5, 4]) (orc := []) hF hI ⟨[⟨12, [], .v (.int .i64 0)⟩, ⟨11, [], .v (.int .i64 (-1))⟩, ⟨10, [], .v (.slice A_140 s4.length c_141)⟩, ⟨5, [], .v (.slice A_105 s3.2.length c_106)⟩, ⟨4, [], .v (.slice none 0 0)⟩], [], [], [], none, none⟩ [] (by kernel_rfl) trivial (fun ns_150 a w_151 hI _ => ?_)
            obtain ⟨o_212, hL_213, H1⟩ := bind_some H1
            refine block_loop (fun (s5 : Int × Int) a w_232 => ∃ ns, St w_142 ow_144 154 ⟨[⟨12, [], .v (.int .i64 s5.1)⟩, ⟨11, [], .v (.int .i64 s5.2)⟩, ⟨10, [], .v (.slice A_140 s4.length c_141)⟩, ⟨5, [], .v (.slice A_105 s3.2.length c_106)⟩, ⟨4, [], .v (.slice none 0 0)⟩], [], [], [], none, none⟩ ns a w_232) (0, (-1)) hL_213 ⟨_, hI.pick [12, 11, 10, 5, 4] 0 ⟨[⟨12, [], .v (.int .i64 0)⟩, ⟨11, [], .v (.int .i64 (-1))⟩, ⟨10, [], .v (.slice A_140 s4.length c_141)⟩, ⟨5, [], .v (.slice A_105 s3.2.length c_106)⟩, ⟨4, [], .v (.slice none 0 0)⟩], [], [], [], none, none⟩ (by kernel_rfl)⟩ ?_ ?_
            · clear hI
              rintro s5 a w_152 ⟨ns_153, hI⟩ r5 H2
              unfold G_ref19_Order.b5 at H2
              refine wpIn_seq ?_
              refine seq_region (live := [94, 12, 11, 10, 5, 4]) (orc := []) hF hI ⟨[⟨94, [], .v (.bool (decide (s5.1 < (s3.2.length : Int))))⟩, ⟨12, [], .v (.int .i64 s5.1)⟩, ⟨11, [], .v (.int .i64 s5.2)⟩, ⟨10, [], .v (.slice A_140 s4.length c_141)⟩, ⟨5, [], .v (.slice A_105 s3.2.length c_106)⟩, ⟨4, [], .v (.slice none 0 0)⟩], [], [], [], none, none⟩ [] (by kernel_rfl) trivial (fun ns_154 a w_155 hI _ => ?_)
              refine cond_ hI (decide (s5.1 < (s3.2.length : Int))) rfl (fun hc_156 => ?_) (fun hc_156 => ?_)
              · replace H2 := bif_t hc_156 H2
                refine wpIn_skip ?_
                refine then_normal ?_
                refine wpIn_seq ?_
                refine wpIn_block ?_
                refine wpIn_seq ?_
                obtain ⟨hN_157, H2⟩ := req_some H2
                obtain ⟨sv_158, hE_160, hA_159⟩ := Arr.elB (d := kd_Portholeref19_Spot) hq_7 s5.1 true (fun _ => hN_157)
                replace hE_160 := hE_160 rfl
                replace hA_159 := fun (_ : true = true) => hA_159 rfl
                obtain ⟨t_161, hG_162, H2⟩ := bind_some H2
                refine seq_region (live := [103, 12, 11, 10, 5, 4]) (orc := [[.int .i64 ((rd s3.2 s5.1).Item.Kind), .int .i64 ((rd s3.2 s5.1).Item.Of)], [.bool t_161]]) hF hI ⟨[⟨103, [], .v (.bool t_161)⟩, ⟨12, [], .v (.int .i64 s5.1)⟩, ⟨11, [], .v (.int .i64 s5.2)⟩, ⟨10, [], .v (.slice A_140 s4.length c_141)⟩, ⟨5, [], .v (.slice A_105 s3.2.length c_106)⟩, ⟨4, [], .v (.slice none 0 0)⟩], [], [], [], none, none⟩ [.need true (0 ≤ s5.1 ∧ s5.1 < (s3.2.length : Int)), .need true (A_105 = some (adr A_105)), .cell true (((adr A_105).add ((s5.1 : Int).toNat * 4)).add 2) [.int .i64 ((rd s3.2 s5.1).Item.Kind), .int .i64 ((rd s3.2 s5.1).Item.Of)], .call true 45 [.slice A_140 s4.length c_141, .agg ((kd_Item).cells ((rd s3.2 s5.1).Item) (svL [])).toArray] (.bool t_161)] (by kernel_rfl) ⟨ob_inb (fun _ => hN_157), hA_159, ob_el (fun _ => hE_160) 2 [.int .i64 ((rd s3.2 s5.1).Item.Kind), .int .i64 ((rd s3.2 s5.1).Item.Of)] rfl, ob_call (enters Try.func45 (by kernel_rfl) rfl) (fun hg wz hk => G_ref19_taken.calls s4 ((rd s3.2 s5.1).Item) A_140 c_141 (svL []) wz (S := fun _ => True) (Row.arr (S' := fun _ => True) (Row.on hq_138 hE (by simp) hk) (fun _ _ => trivial) (fun _ _ => trivial)).1 (Row.arr (S' := fun _ => True) hq_138 (fun _ _ => trivial) (fun _ _ => trivial)).2 (Kd.any _ (Kd.keep kd_Item (contI (S := Lo S w w_142 ow_144 [rb A_140]) (w := w_142) (d := kd_Item) (x := ((rd s3.2 s5.1).Item)) (sv := (svL [])) trivial) (Lo.on hk))) _ hG_162), trivial⟩ (fun ns_163 a w_164 hI _ => ?_)
                refine cond_ hI (t_161) rfl (fun hc_165 => ?_) (fun hc_165 => ?_)
                · replace H2 := bif_t hc_165 H2
                  refine wpIn_exit ?_
                  refine then_exit ?_
                  refine inBlock_here ?_
                  refine then_normal ?_
                  refine region_ (live := [12, 11, 10, 5, 4]) (orc := []) hF hI ⟨[⟨12, [], .v (.int .i64 (IntKind.i64.wrap (s5.1 + 1)))⟩, ⟨11, [], .v (.int .i64 s5.2)⟩, ⟨10, [], .v (.slice A_140 s4.length c_141)⟩, ⟨5, [], .v (.slice A_105 s3.2.length c_106)⟩, ⟨4, [], .v (.slice none 0 0)⟩], [], [], [], none, none⟩ [] (by kernel_rfl) trivial (fun ns_166 a w_167 hI _ => ?_)
                  refine then_normal ?_
                  obtain rfl := Option.some.inj H2
                  exact ⟨_, rfl, ⟨_, hI.pick [12, 11, 10, 5, 4] 0 ⟨[⟨12, [], .v (.int .i64 (IntKind.i64.wrap (s5.1 + 1)))⟩, ⟨11, [], .v (.int .i64 s5.2)⟩, ⟨10, [], .v (.slice A_140 s4.length c_141)⟩, ⟨5, [], .v (.slice A_105 s3.2.length c_106)⟩, ⟨4, [], .v (.slice none 0 0)⟩], [], [], [], none, none⟩ (by kernel_rfl)⟩⟩
                · replace H2 := bif_f hc_165 H2
                  refine wpIn_skip ?_
                  refine then_normal ?_
                  refine wpIn_seq ?_
                  obtain ⟨hN_168, H2⟩ := req_some H2
                  obtain ⟨sv_169, hE_171, hA_170⟩ := Arr.elB (d := kd_Portholeref19_Spot) hq_7 s5.1 (!(decide (s5.2 < 0))) (fun hg => imp_spec hN_168 hg)
                  obtain ⟨hN_172, H2⟩ := req_some H2
                  obtain ⟨sv_173, hE_175, hA_174⟩ := Arr.elB (d := kd_Portholeref19_Spot) hq_7 s5.2 (!(decide (s5.2 < 0))) (fun hg => imp_spec hN_172 hg)
                  obtain ⟨hN_176, H2⟩ := req_some H2
                  obtain ⟨sv_177, hE_179, hA_178⟩ := Arr.elB (d := kd_Portholeref19_Spot) hq_7 s5.1 (!(decide (s5.2 < 0) || decide (((rd s3.2 s5.1).At) < ((rd s3.2 s5.2).At)))) (fun hg => imp_spec hN_176 hg)
                  obtain ⟨hN_180, H2⟩ := req_some H2
                  obtain ⟨sv_181, hE_183, hA_182⟩ := Arr.elB (d := kd_Portholeref19_Spot) hq_7 s5.2 (!(decide (s5.2 < 0) || decide (((rd s3.2 s5.1).At) < ((rd s3.2 s5.2).At)))) (fun hg => imp_spec hN_180 hg)
                  obtain ⟨hN_184, H2⟩ := req_some H2
                  obtain ⟨sv_185, hE_187, hA_186⟩ := Arr.elB (d := kd_Portholeref19_Spot) hq_7 s5.1 (!(decide (s5.2 < 0) || decide (((rd s3.2 s5.1).At) < ((rd s3.2 s5.2).At))) && (((rd s3.2 s5.1).At) == ((rd s3.2 s5.2).At))) (fun hg => imp_spec hN_184 hg)
                  obtain ⟨hN_188, H2⟩ := req_some H2
                  obtain ⟨sv_189, hE_191, hA_190⟩ := Arr.elB (d := kd_Portholeref19_Spot) hq_7 s5.2 (!(decide (s5.2 < 0) || decide (((rd s3.2 s5.1).At) < ((rd s3.2 s5.2).At))) && (((rd s3.2 s5.1).At) == ((rd s3.2 s5.2).At))) (fun hg => imp_spec hN_188 hg)
                  refine drawn_ (live := [144, 12, 11, 10, 5, 4]) (orc := [[.int .i64 ((rd s3.2 s5.1).At)], [.int .i64 ((rd s3.2 s5.2).At)], [.int .i64 ((rd s3.2 s5.1).At)], [.int .i64 ((rd s3.2 s5.2).At)], [.int .i64 ((rd s3.2 s5.1).Rank)], [.int .i64 ((rd s3.2 s5.2).Rank)]]) hF hI ⟨[⟨144, [], .v (.bool ((decide (s5.2 < 0) || decide (((rd s3.2 s5.1).At) < ((rd s3.2 s5.2).At))) || ((((rd s3.2 s5.1).At) == ((rd s3.2 s5.2).At)) && decide (((rd s3.2 s5.1).Rank) < ((rd s3.2 s5.2).Rank)))))⟩, ⟨12, [], .v (.int .i64 s5.1)⟩, ⟨11, [], .v (.int .i64 s5.2)⟩, ⟨10, [], .v (.slice A_140 s4.length c_141)⟩, ⟨5, [], .v (.slice A_105 s3.2.length c_106)⟩, ⟨4, [], .v (.slice none 0 0)⟩], [], [], [], none, none⟩ [.need (!(decide (s5.2 < 0))) (0 ≤ s5.1 ∧ s5.1 < (s3.2.length : Int)), .need (!(decide (s5.2 < 0))) (A_105 = some (adr A_105)), .cell (!(decide (s5.2 < 0))) ((adr A_105).add ((s5.1 : Int).toNat * 4)) [.int .i64 ((rd s3.2 s5.1).At)], .need (!(decide (s5.2 < 0))) (0 ≤ s5.2 ∧ s5.2 < (s3.2.length : Int)), .need (!(decide (s5.2 < 0))) (A_105 = some (adr A_105)), .cell (!(decide (s5.2 < 0))) ((adr A_105).add ((s5.2 : Int).toNat * 4)) [.int .i64 ((rd s3.2 s5.2).At)], .need (!(decide (s5.2 < 0) || decide (((rd s3.2 s5.1).At) < ((rd s3.2 s5.2).At)))) (0 ≤ s5.1 ∧ s5.1 < (s3.2.length : Int)), .need (!(decide (s5.2 < 0) || decide (((rd s3.2 s5.1).At) < ((rd s3.2 s5.2).At)))) (A_105 = some (adr A_105)), .cell (!(decide (s5.2 < 0) || decide (((rd s3.2 s5.1).At) < ((rd s3.2 s5.2).At)))) ((adr A_105).add ((s5.1 : Int).toNat * 4)) [.int .i64 ((rd s3.2 s5.1).At)], .need (!(decide (s5.2 < 0) || decide (((rd s3.2 s5.1).At) < ((rd s3.2 s5.2).At)))) (0 ≤ s5.2 ∧ s5.2 < (s3.2.length : Int)), .need (!(decide (s5.2 < 0) || decide (((rd s3.2 s5.1).At) < ((rd s3.2 s5.2).At)))) (A_105 = some (adr A_105)), .cell (!(decide (s5.2 < 0) || decide (((rd s3.2 s5.1).At) < ((rd s3.2 s5.2).At)))) ((adr A_105).add ((s5.2 : Int).toNat * 4)) [.int .i64 ((rd s3.2 s5.2).At)], .need (!(decide (s5.2 < 0) || decide (((rd s3.2 s5.1).At) < ((rd s3.2 s5.2).At))) && (((rd s3.2 s5.1).At) == ((rd s3.2 s5.2).At))) (0 ≤ s5.1 ∧ s5.1 < (s3.2.length : Int)), .need (!(decide (s5.2 < 0) || decide (((rd s3.2 s5.1).At) < ((rd s3.2 s5.2).At))) && (((rd s3.2 s5.1).At) == ((rd s3.2 s5.2).At))) (A_105 = some (adr A_105)), .cell (!(decide (s5.2 < 0) || decide (((rd s3.2 s5.1).At) < ((rd s3.2 s5.2).At))) && (((rd s3.2 s5.1).At) == ((rd s3.2 s5.2).At))) (((adr A_105).add ((s5.1 : Int).toNat * 4)).add 1) [.int .i64 ((rd s3.2 s5.1).Rank)], .need (!(decide (s5.2 < 0) || decide (((rd s3.2 s5.1).At) < ((rd s3.2 s5.2).At))) && (((rd s3.2 s5.1).At) == ((rd s3.2 s5.2).At))) (0 ≤ s5.2 ∧ s5.2 < (s3.2.length : Int)), .need (!(decide (s5.2 < 0) || decide (((rd s3.2 s5.1).At) < ((rd s3.2 s5.2).At))) && (((rd s3.2 s5.1).At) == ((rd s3.2 s5.2).At))) (A_105 = some (adr A_105)), .cell (!(decide (s5.2 < 0) || decide (((rd s3.2 s5.1).At) < ((rd s3.2 s5.2).At))) && (((rd s3.2 s5.1).At) == ((rd s3.2 s5.2).At))) (((adr A_105).add ((s5.2 : Int).toNat * 4)).add 1) [.int .i64 ((rd s3.2 s5.2).Rank)]] (by kernel_rfl) (by kernel_rfl) (by kernel_rfl) ⟨ob_inb (fun hg => imp_spec hN_168 hg), hA_170, ob_el (fun hg => hE_171 hg) 0 [.int .i64 ((rd s3.2 s5.1).At)] rfl, ob_inb (fun hg => imp_spec hN_172 hg), hA_174, ob_el (fun hg => hE_175 hg) 0 [.int .i64 ((rd s3.2 s5.2).At)] rfl, ob_inb (fun hg => imp_spec hN_176 hg), hA_178, ob_el (fun hg => hE_179 hg) 0 [.int .i64 ((rd s3.2 s5.1).At)] rfl, ob_inb (fun hg => imp_spec hN_180 hg), hA_182, ob_el (fun hg => hE_183 hg) 0 [.int .i64 ((rd s3.2 s5.2).At)] rfl, ob_inb (fun hg => imp_spec hN_184 hg), hA_186, ob_el (fun hg => hE_187 hg) 1 [.int .i64 ((rd s3.2 s5.1).Rank)] rfl, ob_inb (fun hg => imp_spec hN_188 hg), hA_190, ob_el (fun hg => hE_191 hg) 1 [.int .i64 ((rd s3.2 s5.2).Rank)] rfl, trivial⟩ (fun a w_192 hI => ?_)
                  refine then_normal ?_
                  refine cond_merge hI (((decide (s5.2 < 0) || decide (((rd s3.2 s5.1).At) < ((rd s3.2 s5.2).At))) || ((((rd s3.2 s5.1).At) == ((rd s3.2 s5.2).At)) && decide (((rd s3.2 s5.1).Rank) < ((rd s3.2 s5.2).Rank))))) rfl ⟨[⟨11, [], .v (.int .i64 s5.1)⟩, ⟨12, [], .v (.int .i64 s5.1)⟩, ⟨10, [], .v (.slice A_140 s4.length c_141)⟩, ⟨5, [], .v (.slice A_105 s3.2.length c_106)⟩, ⟨4, [], .v (.slice none 0 0)⟩], [], [], [], none, none⟩ ⟨[⟨11, [], .v (.int .i64 s5.2)⟩, ⟨12, [], .v (.int .i64 s5.1)⟩, ⟨10, [], .v (.slice A_140 s4.length c_141)⟩, ⟨5, [], .v (.slice A_105 s3.2.length c_106)⟩, ⟨4, [], .v (.slice none 0 0)⟩], [], [], [], none, none⟩ (fun b => ⟨[⟨11, [], .v (.int .i64 (bif b then s5.1 else s5.2))⟩, ⟨12, [], .v (.int .i64 s5.1)⟩, ⟨10, [], .v (.slice A_140 s4.length c_141)⟩, ⟨5, [], .v (.slice A_105 s3.2.length c_106)⟩, ⟨4, [], .v (.slice none 0 0)⟩], [], [], [], none, none⟩) (fun b => by cases b <;> rfl) (fun hc_193 => ?_) (fun hc_193 => ?_) (fun ns_196 a w_197 hI => ?_)
                  · refine region_ (live := [11, 12, 10, 5, 4]) (orc := []) hF hI ⟨[⟨11, [], .v (.int .i64 s5.1)⟩, ⟨12, [], .v (.int .i64 s5.1)⟩, ⟨10, [], .v (.slice A_140 s4.length c_141)⟩, ⟨5, [], .v (.slice A_105 s3.2.length c_106)⟩, ⟨4, [], .v (.slice none 0 0)⟩], [], [], [], none, none⟩ [] (by kernel_rfl) trivial (fun ns_194 a w_195 hI _ => ?_)
                    refine then_normal ?_
                    exact ⟨_, hI.pick [11, 12, 10, 5, 4] 0 ⟨[⟨11, [], .v (.int .i64 s5.1)⟩, ⟨12, [], .v (.int .i64 s5.1)⟩, ⟨10, [], .v (.slice A_140 s4.length c_141)⟩, ⟨5, [], .v (.slice A_105 s3.2.length c_106)⟩, ⟨4, [], .v (.slice none 0 0)⟩], [], [], [], none, none⟩ (by kernel_rfl)⟩
                  · refine wpIn_skip ?_
                    refine then_normal ?_
                    exact ⟨_, hI.pick [11, 12, 10, 5, 4] 0 ⟨[⟨11, [], .v (.int .i64 s5.2)⟩, ⟨12, [], .v (.int .i64 s5.1)⟩, ⟨10, [], .v (.slice A_140 s4.length c_141)⟩, ⟨5, [], .v (.slice A_105 s3.2.length c_106)⟩, ⟨4, [], .v (.slice none 0 0)⟩], [], [], [], none, none⟩ (by kernel_rfl)⟩
                  · refine inBlock_normal ?_
                    refine then_normal ?_
                    refine region_ (live := [12, 11, 10, 5, 4]) (orc := []) hF hI ⟨[⟨12, [], .v (.int .i64 (IntKind.i64.wrap (s5.1 + 1)))⟩, ⟨11, [], .v (.int .i64 (bif ((decide (s5.2 < 0) || decide (((rd s3.2 s5.1).At) < ((rd s3.2 s5.2).At))) || ((((rd s3.2 s5.1).At) == ((rd s3.2 s5.2).At)) && decide (((rd s3.2 s5.1).Rank) < ((rd s3.2 s5.2).Rank)))) then s5.1 else s5.2))⟩, ⟨10, [], .v (.slice A_140 s4.length c_141)⟩, ⟨5, [], .v (.slice A_105 s3.2.length c_106)⟩, ⟨4, [], .v (.slice none 0 0)⟩], [], [], [], none, none⟩ [] (by kernel_rfl) trivial (fun ns_210 a w_211 hI _ => ?_)
                    refine then_normal ?_
                    obtain rfl := Option.some.inj H2
                    exact ⟨_, rfl, ⟨_, hI.pick [12, 11, 10, 5, 4] 0 ⟨[⟨12, [], .v (.int .i64 (IntKind.i64.wrap (s5.1 + 1)))⟩, ⟨11, [], .v (.int .i64 (bif ((decide (s5.2 < 0) || decide (((rd s3.2 s5.1).At) < ((rd s3.2 s5.2).At))) || ((((rd s3.2 s5.1).At) == ((rd s3.2 s5.2).At)) && decide (((rd s3.2 s5.1).Rank) < ((rd s3.2 s5.2).Rank)))) then s5.1 else s5.2))⟩, ⟨10, [], .v (.slice A_140 s4.length c_141)⟩, ⟨5, [], .v (.slice A_105 s3.2.length c_106)⟩, ⟨4, [], .v (.slice none 0 0)⟩], [], [], [], none, none⟩ (by kernel_rfl)⟩⟩
              · replace H2 := bif_f hc_156 H2
                refine wpIn_exit ?_
                refine then_exit ?_
                refine then_exit ?_
                obtain rfl := Option.some.inj H2
                exact .inl ⟨_, rfl, rfl, ⟨_, hI.pick [12, 11, 10, 5, 4] 0 ⟨[⟨12, [], .v (.int .i64 s5.1)⟩, ⟨11, [], .v (.int .i64 s5.2)⟩, ⟨10, [], .v (.slice A_140 s4.length c_141)⟩, ⟨5, [], .v (.slice A_105 s3.2.length c_106)⟩, ⟨4, [], .v (.slice none 0 0)⟩], [], [], [], none, none⟩ (by kernel_rfl)⟩⟩
            · clear hI
              rintro s5 a w_214 ho ⟨ns_215, hI⟩
              subst ho
              replace H1 : ((req (inb s5.2 s3.2.length) (req (decide ((s4.length + 1) * 32 ≤ 140737488355328)) (some (.next (s4 ++ [(rd s3.2 s5.2)]))))) : Option (Stp ((List Portholeref19_Spot)) (Ex ((List Portholeref19_Spot)) ((List Portholeref19_Spot))))) = _ := H1
              refine then_normal ?_
              refine wpIn_region_lit ?_
              obtain ⟨hN_216, H1⟩ := req_some H1
              obtain ⟨sv_217, hE_219, hA_218⟩ := Arr.elB (d := kd_Portholeref19_Spot) hq_7 s5.2 true (fun _ => hN_216)
              replace hE_219 := hE_219 rfl
              replace hA_218 := fun (_ : true = true) => hA_218 rfl
              refine chunkL_ (live := [150, 146, 10, 5, 4]) (orc := [(kd_Portholeref19_Spot).cells (rd s3.2 s5.2) sv_217]) hF 5 hI ⟨[⟨150, [], .v (.agg ((kd_Portholeref19_Spot).cells (rd s3.2 s5.2) sv_217).toArray)⟩, ⟨146, [], .v (.slice A_140 s4.length c_141)⟩, ⟨10, [], .v (.slice A_140 s4.length c_141)⟩, ⟨5, [], .v (.slice A_105 s3.2.length c_106)⟩, ⟨4, [], .v (.slice none 0 0)⟩], [], [], [], none, none⟩ [.need true (0 ≤ s5.2 ∧ s5.2 < (s3.2.length : Int)), .need true (A_105 = some (adr A_105)), .cell true ((adr A_105).add ((s5.2 : Int).toNat * 4)) ((kd_Portholeref19_Spot).cells (rd s3.2 s5.2) sv_217)] rfl (by kernel_rfl) ⟨ob_inb (fun _ => hN_216), hA_218, ob_el (fun _ => hE_219) 0 ((kd_Portholeref19_Spot).cells (rd s3.2 s5.2) sv_217) rfl, trivial⟩ (fun ns_220 a w_221 hI => ?_)
              obtain ⟨hE', hmv, hmr⟩ := Ep.rebase hE hI
              replace hr0 := Arr.keep hr0 (hmv _)
              replace hr1 := Arr.keep hr1 (hmv _)
              replace hq_138 := Row.keep hq_138 (hmv _) (fun b hb => hmr b (by simp [hb]))
              replace hq_7 := Arr.keep hq_7 (hmv _)
              replace hE_219 := El.keep hE_219 (hmv _)
              replace hE := hE'
              replace hI := hI.rebase
              clear hE' hmv hmr
              refine buildSlice_ (S0 := S) (d := kd_Portholeref19_Spot) (e := 72) hF hE hI (wanted_none rfl) rfl (by kernel_rfl) (cs := [.int .i64 ((rd s3.2 s5.2).At), .int .i64 ((rd s3.2 s5.2).Rank), .int .i64 ((rd s3.2 s5.2).Item.Kind), .int .i64 ((rd s3.2 s5.2).Item.Of)]) (by kernel_rfl) [(rd s3.2 s5.2)] [(svL [])] rfl rfl (by simp [maxLen]) (fun i x hi => by cases i with | zero => (simp only [List.getElem?_cons_zero, Option.some.injEq] at hi; subst hi; exact ⟨trivial, rfl⟩) | succ i => (simp only [List.getElem?_cons_succ] at hi; simp at hi)) (fun A_222 => ⟨[⟨151, [], .v (.slice A_222 ([(rd s3.2 s5.2)] : List Portholeref19_Spot).length (([(rd s3.2 s5.2)] : List Portholeref19_Spot).length))⟩, ⟨150, [], .v (.agg ((kd_Portholeref19_Spot).cells (rd s3.2 s5.2) sv_217).toArray)⟩, ⟨146, [], .v (.slice A_140 s4.length c_141)⟩, ⟨10, [], .v (.slice A_140 s4.length c_141)⟩, ⟨5, [], .v (.slice A_105 s3.2.length c_106)⟩, ⟨4, [], .v (.slice none 0 0)⟩], [], [], [], none, none⟩) (fun A_222 => by kernel_rfl) (fun A_222 a w_224 hput hE' hI' hmv hmr hq_223 => ?_)
              replace hr0 := Arr.keep hr0 (hmv _)
              replace hr1 := Arr.keep hr1 (hmv _)
              replace hq_138 := Row.keep hq_138 (hmv _) (fun b hb => hmr b (by simp [hb]) (by simp))
              replace hq_7 := Arr.keep hq_7 (hmv _)
              replace hE_219 := El.keep hE_219 (hmv _)
              replace hE := hE'
              replace hI := hI'
              clear hE' hI' hmv hmr
              obtain ⟨hE', hmv, hq_223, hcap_225⟩ := Row.still (l1 := [rb A_140]) (l2 := []) hq_223 (Nat.le_refl _) hE
              have hmr : ∀ b ∈ ([rb A_140, rb A_222] : List (List Nat)).flatten, w_224.heap[b]? = w_224.heap[b]? := fun _ _ => rfl
              replace hr0 := Arr.keep hr0 (hmv _)
              replace hr1 := Arr.keep hr1 (hmv _)
              replace hq_138 := Row.keep hq_138 (hmv _) (fun b hb => hmr b (by simp [hb]))
              replace hq_7 := Arr.keep hq_7 (hmv _)
              replace hE_219 := El.keep hE_219 (hmv _)
              replace hE := hE'
              clear hE' hmv hmr
              obtain ⟨hN_226, H1⟩ := req_some H1
              replace hN_226 := of_decide_eq_true hN_226
              refine append_ (S0 := S) (l1 := []) (l2 := []) (d := kd_Portholeref19_Spot) (e := 72) hF hE hI (wanted_none rfl) rfl (A := A_140) (c := c_141) (l := s4) rfl (A2 := A_222) (c2 := (([(rd s3.2 s5.2)] : List Portholeref19_Spot).length)) rfl hq_138 hq_223 (fun sv u hu => by exact kd_one_Portholeref19_Spot _ sv u hu) Try.underlying63 (zi := (.agg #[.int .i64 0, .int .i64 0, .int .i64 0, .int .i64 0], 4, 32)) (by kernel_rfl) rfl (by kernel_rfl) (len_max (by decide) hN_226) hN_226 (fun A_227 c_228 => ⟨[⟨152, [], .v (.slice A_227 (s4 ++ [(rd s3.2 s5.2)]).length c_228)⟩, ⟨151, [], .v (.slice A_222 ([(rd s3.2 s5.2)] : List Portholeref19_Spot).length (([(rd s3.2 s5.2)] : List Portholeref19_Spot).length))⟩, ⟨150, [], .v (.agg ((kd_Portholeref19_Spot).cells (rd s3.2 s5.2) sv_217).toArray)⟩, ⟨146, [], .v (.slice A_140 s4.length c_141)⟩, ⟨10, [], .v (.slice A_140 s4.length c_141)⟩, ⟨5, [], .v (.slice A_105 s3.2.length c_106)⟩, ⟨4, [], .v (.slice none 0 0)⟩], [], [], [], none, none⟩) (fun A_227 c_228 => by kernel_rfl) (fun A_227 c_228 a w_229 hput hE' hI' hmv hmr hq_138 => ?_)
              replace hr0 := Arr.keep hr0 (hmv _)
              replace hr1 := Arr.keep hr1 (hmv _)
              replace hq_7 := Arr.keep hq_7 (hmv _)
              replace hE_219 := El.keep hE_219 (hmv _)
              replace hq_223 := Arr.keep hq_223 (hmv _)
              replace hE := hE'
              replace hI := hI'
              clear hE' hI' hmv hmr
              refine chunkL_ (live := [10, 5, 4]) (orc := []) hF 1 hI ⟨[⟨10, [], .v (.slice A_227 (s4 ++ [(rd s3.2 s5.2)]).length c_228)⟩, ⟨5, [], .v (.slice A_105 s3.2.length c_106)⟩, ⟨4, [], .v (.slice none 0 0)⟩], [], [], [], none, none⟩ [] rfl (by kernel_rfl) trivial (fun ns_230 a w_231 hI => ?_)
              refine wpListIn_nil ?_
              refine inBlock_normal ?_
              refine then_normal ?_
              obtain ⟨hE', hmv, hmr⟩ := Ep.rebase hE hI
              replace hr0 := Arr.keep hr0 (hmv _)
              replace hr1 := Arr.keep hr1 (hmv _)
              replace hq_7 := Arr.keep hq_7 (hmv _)
              replace hE_219 := El.keep hE_219 (hmv _)
              replace hq_223 := Arr.keep hq_223 (hmv _)
              replace hq_138 := Row.keep hq_138 (hmv _) (fun b hb => hmr b (by simp [hb]))
              replace hE := hE'
              replace hI := hI.rebase
              clear hE' hmv hmr
              obtain rfl := Option.some.inj H1
              exact ⟨_, rfl, ⟨_, _, _, _, hr0, hr1, hq_138, hq_7, hE, hI.pick [10, 5, 4] 0 ⟨[⟨10, [], .v (.slice A_227 (s4 ++ [(rd s3.2 s5.2)]).length c_228)⟩, ⟨5, [], .v (.slice A_105 s3.2.length c_106)⟩, ⟨4, [], .v (.slice none 0 0)⟩], [], [], [], none, none⟩ (by kernel_rfl)⟩⟩
          · replace H1 := bif_f hc_147 H1
            refine wpIn_exit ?_
            refine then_exit ?_
            refine then_exit ?_
            obtain ⟨hE', hmv, hmr⟩ := Ep.rebase hE hI
            replace hr0 := Arr.keep hr0 (hmv _)
            replace hr1 := Arr.keep hr1 (hmv _)
            replace hq_138 := Row.keep hq_138 (hmv _) (fun b hb => hmr b (by simp [hb]))
            replace hq_7 := Arr.keep hq_7 (hmv _)
            replace hE := hE'
            replace hI := hI.rebase
            clear hE' hmv hmr
            obtain rfl := Option.some.inj H1
            exact .inl ⟨_, rfl, rfl, ⟨_, _, _, _, hr0, hr1, hq_138, hq_7, hE, hI.pick [10, 5, 4] 0 ⟨[⟨10, [], .v (.slice A_140 s4.length c_141)⟩, ⟨5, [], .v (.slice A_105 s3.2.length c_106)⟩, ⟨4, [], .v (.slice none 0 0)⟩], [], [], [], none, none⟩ (by kernel_rfl)⟩⟩
        · clear hI hE
          rintro s4 a w_235 ho ⟨ow_237, ns_236, A_140, c_141, hr0, hr1, hq_138, hq_7, hE, hI⟩
          subst ho
          replace H0 : (some s4 : Option ((List Portholeref19_Spot))) = _ := H0
          refine then_normal ?_
          refine seq_region (live := [4]) (orc := []) hF hI ⟨[⟨4, [], .v (.slice A_140 s4.length c_141)⟩], [], [], [], none, none⟩ [] (by kernel_rfl) trivial (fun ns_238 a w_239 hI _ => ?_)
          obtain ⟨hE', hmv, hmr⟩ := Ep.rebase hE hI
          replace hr0 := Arr.keep hr0 (hmv _)
          replace hr1 := Arr.keep hr1 (hmv _)
          replace hq_138 := Row.keep hq_138 (hmv _) (fun b hb => hmr b (by simp [hb]))
          replace hq_7 := Arr.keep hq_7 (hmv _)
          replace hE := hE'
          replace hI := hI.rebase
          clear hE' hmv hmr
          obtain ⟨hE', hmv, hq_138, hcap_240⟩ := Row.still (l1 := []) (l2 := []) hq_138 (Nat.le_refl _) hE
          have hmr : ∀ b ∈ ([rb A_140] : List (List Nat)).flatten, w_239.heap[b]? = w_239.heap[b]? := fun _ _ => rfl
          replace hr0 := Arr.keep hr0 (hmv _)
          replace hr1 := Arr.keep hr1 (hmv _)
          replace hq_7 := Arr.keep hq_7 (hmv _)
          replace hE := hE'
          clear hE' hmv hmr
          refine wpIn_ret ?_
          obtain rfl := Option.some.inj H0
          exact ret1 hI rfl rfl ⟨svL [(A_140, c_141)], rfl, hE.below hI, ⟨Arr.keep hq_138 (hE.out hI), hcap_240⟩⟩

/-! ### porthole/portholeref19.Items: function 31 -/
noncomputable def G_ref19_Items.b1 (l0 : (List Portholeref19_Spot)) (s1 : Int × (List Item)) : Option (Stp (Int × (List Item)) (Ex (Int × (List Item)) ((List Item)))) := (bif decide (s1.1 < (l0.length : Int)) then (req (inb s1.1 l0.length) (req (decide ((s1.2.length + 1) * 16 ≤ 140737488355328)) (some (.next ((IntKind.i64.wrap (s1.1 + 1)), (s1.2 ++ [(rd l0 s1.1).Item])))))) else some (.out (.brk (s1.1, s1.2))))
noncomputable def G_ref19_Items (l0 : (List Portholeref19_Spot)) : Option ((List Item)) := ((loopω (G_ref19_Items.b1 l0) (0, ([] : List Item))).bind fun o => o.on (fun s1 => some s1.2) (fun r => some r))
set_option maxRecDepth 100000 in
set_option maxHeartbeats 4000000 in
theorem G_ref19_Items.calls (l0 : (List Portholeref19_Spot)) (A0 : Option Addr) (c0 : Nat) (w : World) {S : Nat → Prop} (hr0 : Arr kd_Portholeref19_Spot S w A0 l0) (hc0 : l0.length ≤ c0) (r : (List Item)) (h : G_ref19_Items l0 = some r) :
    Calls Try.prog 31 #[.slice A0 l0.length c0] w fun e w' => ∃ sv : SV, e = .returned (.slice ((sv 0).1) r.length ((sv 0).2)) ∧ Below w.heap.size w w' ∧ (Arr kd_Item (fun b => w.heap.size ≤ b ∨ S b) w' (sv 0).1 r ∧ r.length ≤ (sv 0).2) := by
  replace hr0 := Arr.lo hr0
  unfold G_ref19_Items at h
  have H0 := h
  clear h
  refine enter Try.func31 rfl [.slice A0 l0.length c0] (n := 20) rfl (Nat.le_of_ble_eq_true rfl) (fun a hI => ?_)
  have hF : FOpen Fence.wide := .inl rfl
  have hE := Ep.start w
  refine seq_region (live := [2, 0]) (orc := []) hF hI ⟨[⟨2, [], .v (.slice none 0 0)⟩, ⟨0, [], .v (.slice A0 l0.length c0)⟩], [], [], [], none, none⟩ [] (by kernel_rfl) trivial (fun ns_1 a w_2 hI _ => ?_)
  refine seq_region (live := [3, 2, 0]) (orc := []) hF hI ⟨[⟨3, [], .v (.slice none 0 0)⟩, ⟨2, [], .v (.slice none 0 0)⟩, ⟨0, [], .v (.slice A0 l0.length c0)⟩], [], [], [], none, none⟩ [] (by kernel_rfl) trivial (fun ns_3 a w_4 hI _ => ?_)
  refine wpIn_seq ?_
  refine seq_region (live := [4, 3, 2, 0]) (orc := []) hF hI ⟨[⟨4, [], .v (.int .i64 0)⟩, ⟨3, [], .v (.slice none 0 0)⟩, ⟨2, [], .v (.slice none 0 0)⟩, ⟨0, [], .v (.slice A0 l0.length c0)⟩], [], [], [], none, none⟩ [] (by kernel_rfl) trivial (fun ns_5 a w_6 hI _ => ?_)
  obtain ⟨hE', hmv, hmr⟩ := Ep.rebase hE hI
  replace hr0 := Arr.keep hr0 (hmv _)
  replace hE := hE'
  replace hI := hI.rebase
  clear hE' hmv hmr
  obtain ⟨hE', hmv⟩ := Ep.addNil hE
  have hmr : ∀ b ∈ ([] : List (List Nat)).flatten, w_6.heap[b]? = w_6.heap[b]? := fun _ _ => rfl
  replace hr0 := Arr.keep hr0 (hmv _)
  replace hE := hE'
  clear hE' hmv hmr
  have hq_7 : Row kd_Item 70 (Lo S w w_6 ns_5 [rb none]) w_6 w.heap.size none 0 ([] : List Item) := Row.nil
  obtain ⟨o_34, hL_35, H0⟩ := bind_some H0
  refine block_loop (fun (s1 : Int × (List Item)) a w_42 => ∃ (ow ns : List Nat) (A_8 : Option Addr) (c_9 : Nat), (Arr kd_Portholeref19_Spot (Lo S w w_42 ow [rb A_8]) w_42 A0 l0) ∧ (Row kd_Item 70 (Lo S w w_42 ow [rb A_8]) w_42 w.heap.size A_8 c_9 s1.2) ∧ Ep [] w w_42 ow [rb A_8] ∧ St w_42 ow 20 ⟨[⟨4, [], .v (.int .i64 s1.1)⟩, ⟨3, [], .v (.slice A_8 s1.2.length c_9)⟩, ⟨2, [], .v (.slice none 0 0)⟩, ⟨0, [], .v (.slice A0 l0.length c0)⟩], [], [], [], none, none⟩ ns a w_42) (0, ([] : List Item)) hL_35 ⟨_, _, _, _, hr0, hq_7, hE, hI.pick [4, 3, 2, 0] 0 ⟨[⟨4, [], .v (.int .i64 0)⟩, ⟨3, [], .v (.slice none ([] : List Item).length 0)⟩, ⟨2, [], .v (.slice none 0 0)⟩, ⟨0, [], .v (.slice A0 l0.length c0)⟩], [], [], [], none, none⟩ (by kernel_rfl)⟩ ?_ ?_
  · clear hI hE
    rintro s1 a w_10 ⟨ow_12, ns_11, A_8, c_9, hr0, hq_7, hE, hI⟩ r1 H1
    unfold G_ref19_Items.b1 at H1
    refine wpIn_seq ?_
    refine seq_region (live := [8, 4, 3, 2, 0]) (orc := []) hF hI ⟨[⟨8, [], .v (.bool (decide (s1.1 < (l0.length : Int))))⟩, ⟨4, [], .v (.int .i64 s1.1)⟩, ⟨3, [], .v (.slice A_8 s1.2.length c_9)⟩, ⟨2, [], .v (.slice none 0 0)⟩, ⟨0, [], .v (.slice A0 l0.length c0)⟩], [], [], [], none, none⟩ [] (by kernel_rfl) trivial (fun ns_13 a w_14 hI _ => ?_)
    refine cond_ hI (decide (s1.1 < (l0.length : Int))) rfl (fun hc_15 => ?_) (fun hc_15 => ?_)
    · replace H1 := bif_t hc_15 H1
      refine wpIn_skip ?_
      refine then_normal ?_
      refine wpIn_seq ?_
      refine wpIn_block ?_
      refine wpIn_region_lit ?_
      obtain ⟨hN_16, H1⟩ := req_some H1
      obtain ⟨sv_17, hE_19, hA_18⟩ := Arr.elB (d := kd_Portholeref19_Spot) hr0 s1.1 true (fun _ => hN_16)
      replace hE_19 := hE_19 rfl
      replace hA_18 := fun (_ : true = true) => hA_18 rfl
      refine chunkL_ (live := [16, 11, 4, 3, 2, 0]) (orc := [[.int .i64 ((rd l0 s1.1).Item.Kind), .int .i64 ((rd l0 s1.1).Item.Of)]]) hF 6 hI ⟨[⟨16, [], .v (.agg #[.int .i64 ((rd l0 s1.1).Item.Kind), .int .i64 ((rd l0 s1.1).Item.Of)])⟩, ⟨11, [], .v (.slice A_8 s1.2.length c_9)⟩, ⟨4, [], .v (.int .i64 s1.1)⟩, ⟨3, [], .v (.slice A_8 s1.2.length c_9)⟩, ⟨2, [], .v (.slice none 0 0)⟩, ⟨0, [], .v (.slice A0 l0.length c0)⟩], [], [], [], none, none⟩ [.need true (0 ≤ s1.1 ∧ s1.1 < (l0.length : Int)), .need true (A0 = some (adr A0)), .cell true (((adr A0).add ((s1.1 : Int).toNat * 4)).add 2) [.int .i64 ((rd l0 s1.1).Item.Kind), .int .i64 ((rd l0 s1.1).Item.Of)]] rfl (by kernel_rfl) ⟨ob_inb (fun _ => hN_16), hA_18, ob_el (fun _ => hE_19) 2 [.int .i64 ((rd l0 s1.1).Item.Kind), .int .i64 ((rd l0 s1.1).Item.Of)] rfl, trivial⟩ (fun ns_20 a w_21 hI => ?_)
      obtain ⟨hE', hmv, hmr⟩ := Ep.rebase hE hI
      replace hr0 := Arr.keep hr0 (hmv _)
      replace hq_7 := Row.keep hq_7 (hmv _) (fun b hb => hmr b (by simp [hb]))
      replace hE_19 := El.keep hE_19 (hmv _)
      replace hE := hE'
      replace hI := hI.rebase
      clear hE' hmv hmr
      refine buildSlice_ (S0 := S) (d := kd_Item) (e := 70) hF hE hI (wanted_none rfl) rfl (by kernel_rfl) (cs := [.int .i64 ((rd l0 s1.1).Item.Kind), .int .i64 ((rd l0 s1.1).Item.Of)]) (by kernel_rfl) [(rd l0 s1.1).Item] [(svL [])] rfl rfl (by simp [maxLen]) (fun i x hi => by cases i with | zero => (simp only [List.getElem?_cons_zero, Option.some.injEq] at hi; subst hi; exact ⟨trivial, rfl⟩) | succ i => (simp only [List.getElem?_cons_succ] at hi; simp at hi)) (fun A_22 => ⟨[⟨17, [], .v (.slice A_22 ([(rd l0 s1.1).Item] : List Item).length (([(rd l0 s1.1).Item] : List Item).length))⟩, ⟨16, [], .v (.agg #[.int .i64 ((rd l0 s1.1).Item.Kind), .int .i64 ((rd l0 s1.1).Item.Of)])⟩, ⟨11, [], .v (.slice A_8 s1.2.length c_9)⟩, ⟨4, [], .v (.int .i64 s1.1)⟩, ⟨3, [], .v (.slice A_8 s1.2.length c_9)⟩, ⟨2, [], .v (.slice none 0 0)⟩, ⟨0, [], .v (.slice A0 l0.length c0)⟩], [], [], [], none, none⟩) (fun A_22 => by kernel_rfl) (fun A_22 a w_24 hput hE' hI' hmv hmr hq_23 => ?_)
      replace hr0 := Arr.keep hr0 (hmv _)
      replace hq_7 := Row.keep hq_7 (hmv _) (fun b hb => hmr b (by simp [hb]) (by simp))
      replace hE_19 := El.keep hE_19 (hmv _)
      replace hE := hE'
      replace hI := hI'
      clear hE' hI' hmv hmr
      obtain ⟨hE', hmv, hq_23, hcap_25⟩ := Row.still (l1 := [rb A_8]) (l2 := []) hq_23 (Nat.le_refl _) hE
      have hmr : ∀ b ∈ ([rb A_8, rb A_22] : List (List Nat)).flatten, w_24.heap[b]? = w_24.heap[b]? := fun _ _ => rfl
      replace hr0 := Arr.keep hr0 (hmv _)
      replace hq_7 := Row.keep hq_7 (hmv _) (fun b hb => hmr b (by simp [hb]))
      replace hE_19 := El.keep hE_19 (hmv _)
      replace hE := hE'
      clear hE' hmv hmr
      obtain ⟨hN_26, H1⟩ := req_some H1
      replace hN_26 := of_decide_eq_true hN_26
      refine append_ (S0 := S) (l1 := []) (l2 := []) (d := kd_Item) (e := 70) hF hE hI (wanted_none rfl) rfl (A := A_8) (c := c_9) (l := s1.2) rfl (A2 := A_22) (c2 := (([(rd l0 s1.1).Item] : List Item).length)) rfl hq_7 hq_23 (fun sv u hu => by exact kd_one_Item _ sv u hu) Try.underlying60 (zi := (.agg #[.int .i64 0, .int .i64 0], 2, 16)) (by kernel_rfl) rfl (by kernel_rfl) (len_max (by decide) hN_26) hN_26 (fun A_27 c_28 => ⟨[⟨18, [], .v (.slice A_27 (s1.2 ++ [(rd l0 s1.1).Item]).length c_28)⟩, ⟨17, [], .v (.slice A_22 ([(rd l0 s1.1).Item] : List Item).length (([(rd l0 s1.1).Item] : List Item).length))⟩, ⟨16, [], .v (.agg #[.int .i64 ((rd l0 s1.1).Item.Kind), .int .i64 ((rd l0 s1.1).Item.Of)])⟩, ⟨11, [], .v (.slice A_8 s1.2.length c_9)⟩, ⟨4, [], .v (.int .i64 s1.1)⟩, ⟨3, [], .v (.slice A_8 s1.2.length c_9)⟩, ⟨2, [], .v (.slice none 0 0)⟩, ⟨0, [], .v (.slice A0 l0.length c0)⟩], [], [], [], none, none⟩) (fun A_27 c_28 => by kernel_rfl) (fun A_27 c_28 a w_29 hput hE' hI' hmv hmr hq_7 => ?_)
      replace hr0 := Arr.keep hr0 (hmv _)
      replace hE_19 := El.keep hE_19 (hmv _)
      replace hq_23 := Arr.keep hq_23 (hmv _)
      replace hE := hE'
      replace hI := hI'
      clear hE' hI' hmv hmr
      refine chunkL_ (live := [3, 4, 2, 0]) (orc := []) hF 1 hI ⟨[⟨3, [], .v (.slice A_27 (s1.2 ++ [(rd l0 s1.1).Item]).length c_28)⟩, ⟨4, [], .v (.int .i64 s1.1)⟩, ⟨2, [], .v (.slice none 0 0)⟩, ⟨0, [], .v (.slice A0 l0.length c0)⟩], [], [], [], none, none⟩ [] rfl (by kernel_rfl) trivial (fun ns_30 a w_31 hI => ?_)
      refine wpListIn_nil ?_
      refine inBlock_normal ?_
      refine then_normal ?_
      refine region_ (live := [4, 3, 2, 0]) (orc := []) hF hI ⟨[⟨4, [], .v (.int .i64 (IntKind.i64.wrap (s1.1 + 1)))⟩, ⟨3, [], .v (.slice A_27 (s1.2 ++ [(rd l0 s1.1).Item]).length c_28)⟩, ⟨2, [], .v (.slice none 0 0)⟩, ⟨0, [], .v (.slice A0 l0.length c0)⟩], [], [], [], none, none⟩ [] (by kernel_rfl) trivial (fun ns_32 a w_33 hI _ => ?_)
      refine then_normal ?_
      obtain ⟨hE', hmv, hmr⟩ := Ep.rebase hE hI
      replace hr0 := Arr.keep hr0 (hmv _)
      replace hE_19 := El.keep hE_19 (hmv _)
      replace hq_23 := Arr.keep hq_23 (hmv _)
      replace hq_7 := Row.keep hq_7 (hmv _) (fun b hb => hmr b (by simp [hb]))
      replace hE := hE'
      replace hI := hI.rebase
      clear hE' hmv hmr
      obtain rfl := Option.some.inj H1
      exact ⟨_, rfl, ⟨_, _, _, _, hr0, hq_7, hE, hI.pick [4, 3, 2, 0] 0 ⟨[⟨4, [], .v (.int .i64 (IntKind.i64.wrap (s1.1 + 1)))⟩, ⟨3, [], .v (.slice A_27 (s1.2 ++ [(rd l0 s1.1).Item]).length c_28)⟩, ⟨2, [], .v (.slice none 0 0)⟩, ⟨0, [], .v (.slice A0 l0.length c0)⟩], [], [], [], none, none⟩ (by kernel_rfl)⟩⟩
    · replace H1 := bif_f hc_15 H1
      refine wpIn_exit ?_
      refine then_exit ?_
      refine then_exit ?_
      obtain ⟨hE', hmv, hmr⟩ := Ep.rebase hE hI
      replace hr0 := Arr.keep hr0 (hmv _)
      replace hq_7 := Row.keep hq_7 (hmv _) (fun b hb => hmr b (by simp [hb]))
      replace hE := hE'
      replace hI := hI.rebase
      clear hE' hmv hmr
      obtain rfl := Option.some.inj H1
      exact .inl ⟨_, rfl, rfl, ⟨_, _, _, _, hr0, hq_7, hE, hI.pick [4, 3, 2, 0] 0 ⟨[⟨4, [], .v (.int .i64 s1.1)⟩, ⟨3, [], .v (.slice A_8 s1.2.length c_9)⟩, ⟨2, [], .v (.slice none 0 0)⟩, ⟨0, [], .v (.slice A0 l0.length c0)⟩], [], [], [], none, none⟩ (by kernel_rfl)⟩⟩
  · clear hI hE
    rintro s1 a w_36 ho ⟨ow_38, ns_37, A_8, c_9, hr0, hq_7, hE, hI⟩
    subst ho
    replace H0 : (some s1.2 : Option ((List Item))) = _ := H0
    refine then_normal ?_
    refine seq_region (live := [2]) (orc := []) hF hI ⟨[⟨2, [], .v (.slice A_8 s1.2.length c_9)⟩], [], [], [], none, none⟩ [] (by kernel_rfl) trivial (fun ns_39 a w_40 hI _ => ?_)
    obtain ⟨hE', hmv, hmr⟩ := Ep.rebase hE hI
    replace hr0 := Arr.keep hr0 (hmv _)
    replace hq_7 := Row.keep hq_7 (hmv _) (fun b hb => hmr b (by simp [hb]))
    replace hE := hE'
    replace hI := hI.rebase
    clear hE' hmv hmr
    obtain ⟨hE', hmv, hq_7, hcap_41⟩ := Row.still (l1 := []) (l2 := []) hq_7 (Nat.le_refl _) hE
    have hmr : ∀ b ∈ ([rb A_8] : List (List Nat)).flatten, w_40.heap[b]? = w_40.heap[b]? := fun _ _ => rfl
    replace hr0 := Arr.keep hr0 (hmv _)
    replace hE := hE'
    clear hE' hmv hmr
    refine wpIn_ret ?_
    obtain rfl := Option.some.inj H0
    exact ret1 hI rfl rfl ⟨svL [(A_8, c_9)], rfl, hE.below hI, ⟨Arr.keep hq_7 (hE.out hI), hcap_41⟩⟩

/-! ### porthole/portholelaw19.WitOrder: function 9 -/
noncomputable def G_law19_WitOrder (l0 : (List Call)) (l1 : (List Belling)) : Option (Bool) := ((G_law19_wakes).bind fun t_3 => (bif (!t_3) then some false else ((cal (!(decide ((l0.length : Int) > 60) || decide ((l1.length : Int) > 60))) (G_ref17_Sound l0) default).bind fun t_10 => (bif ((decide ((l0.length : Int) > 60) || decide ((l1.length : Int) > 60)) || (!t_10)) then some true else ((G_wit_Order l0 l1).bind fun t_19 => ((G_ref19_Order l0 l1).bind fun t_26 => ((G_ref19_Items t_26).bind fun t_31 => ((G_ref19_Same t_19 t_31).bind fun t_36 => some t_36))))))))
set_option maxRecDepth 100000 in
set_option maxHeartbeats 4000000 in
theorem G_law19_WitOrder.calls (l0 : (List Call)) (l1 : (List Belling)) (A0 : Option Addr) (c0 : Nat) (A1 : Option Addr) (c1 : Nat) (w : World) {S : Nat → Prop} (hr0 : Arr kd_Call S w A0 l0) (hc0 : l0.length ≤ c0) (hr1 : Arr kd_Belling S w A1 l1) (hc1 : l1.length ≤ c1) (r : Bool) (h : G_law19_WitOrder l0 l1 = some r) :
    Calls Try.prog 9 #[.slice A0 l0.length c0, .slice A1 l1.length c1] w fun e w' => e = .returned (.bool r) ∧ Below w.heap.size w w' := by
  replace hr0 := Arr.lo hr0
  replace hr1 := Arr.lo hr1
  unfold G_law19_WitOrder at h
  have H0 := h
  clear h
  refine enter Try.func9 rfl [.slice A0 l0.length c0, .slice A1 l1.length c1] (n := 28) rfl (Nat.le_of_ble_eq_true rfl) (fun a hI => ?_)
  have hF : FOpen Fence.wide := .inl rfl
  have hE := Ep.start w
  refine seq_region (live := [4, 0, 1]) (orc := []) hF hI ⟨[⟨4, [], .v (.bool false)⟩, ⟨0, [], .v (.slice A0 l0.length c0)⟩, ⟨1, [], .v (.slice A1 l1.length c1)⟩], [], [], [], none, none⟩ [] (by kernel_rfl) trivial (fun ns_1 a w_2 hI _ => ?_)
  refine wpIn_seq ?_
  obtain ⟨t_3, hG_4, H0⟩ := bind_some H0
  refine seq_region (live := [6, 4, 0, 1]) (orc := [[.bool t_3]]) hF hI ⟨[⟨6, [], .v (.bool (!t_3))⟩, ⟨4, [], .v (.bool false)⟩, ⟨0, [], .v (.slice A0 l0.length c0)⟩, ⟨1, [], .v (.slice A1 l1.length c1)⟩], [], [], [], none, none⟩ [.call true 28 [] (.bool t_3)] (by kernel_rfl) ⟨ob_call (enters Try.func28 (by kernel_rfl) rfl) (fun hg wz hk => G_law19_wakes.calls   wz (S := fun _ => True)  _ hG_4), trivial⟩ (fun ns_5 a w_6 hI _ => ?_)
  refine cond_ hI ((!t_3)) rfl (fun hc_7 => ?_) (fun hc_7 => ?_)
  · replace H0 := bif_t hc_7 H0
    refine seq_region (live := [4]) (orc := []) hF hI ⟨[⟨4, [], .v (.bool false)⟩], [], [], [], none, none⟩ [] (by kernel_rfl) trivial (fun ns_8 a w_9 hI _ => ?_)
    refine wpIn_ret ?_
    refine then_ret ?_
    obtain rfl := Option.some.inj H0
    exact ret1 hI rfl rfl ⟨rfl, hE.below hI⟩
  · replace H0 := bif_f hc_7 H0
    refine wpIn_skip ?_
    refine then_normal ?_
    refine wpIn_seq ?_
    obtain ⟨t_10, hG_11, H0⟩ := bind_some H0
    refine seq_region (live := [19, 4, 0, 1]) (orc := [[.bool t_10]]) hF hI ⟨[⟨19, [], .v (.bool ((decide ((l0.length : Int) > 60) || decide ((l1.length : Int) > 60)) || (!t_10)))⟩, ⟨4, [], .v (.bool false)⟩, ⟨0, [], .v (.slice A0 l0.length c0)⟩, ⟨1, [], .v (.slice A1 l1.length c1)⟩], [], [], [], none, none⟩ [.call (!(decide ((l0.length : Int) > 60) || decide ((l1.length : Int) > 60))) 14 [.slice A0 l0.length c0] (.bool t_10)] (by kernel_rfl) ⟨ob_call (enters Try.func14 (by kernel_rfl) rfl) (fun hg wz hk => G_ref17_Sound.calls l0 A0 c0 wz (S := fun _ => True) (Arr.any (Arr.keep hr0 (Lo.on hk))) hc0 _ (cal_some hG_11 hg)), trivial⟩ (fun ns_12 a w_13 hI _ => ?_)
    refine cond_ hI (((decide ((l0.length : Int) > 60) || decide ((l1.length : Int) > 60)) || (!t_10))) rfl (fun hc_14 => ?_) (fun hc_14 => ?_)
    · replace H0 := bif_t hc_14 H0
      refine seq_region (live := [4]) (orc := []) hF hI ⟨[⟨4, [], .v (.bool true)⟩], [], [], [], none, none⟩ [] (by kernel_rfl) trivial (fun ns_15 a w_16 hI _ => ?_)
      refine wpIn_ret ?_
      refine then_ret ?_
      obtain rfl := Option.some.inj H0
      exact ret1 hI rfl rfl ⟨rfl, hE.below hI⟩
    · replace H0 := bif_f hc_14 H0
      refine wpIn_skip ?_
      refine then_normal ?_
      refine wpIn_seq ?_
      refine wpIn_region_lit ?_
      refine chunkL_ (live := [21, 20, 4, 0, 1]) (orc := []) hF 2 hI ⟨[⟨21, [], .v (.slice A1 l1.length c1)⟩, ⟨20, [], .v (.slice A0 l0.length c0)⟩, ⟨4, [], .v (.bool false)⟩, ⟨0, [], .v (.slice A0 l0.length c0)⟩, ⟨1, [], .v (.slice A1 l1.length c1)⟩], [], [], [], none, none⟩ [] rfl (by kernel_rfl) trivial (fun ns_17 a w_18 hI => ?_)
      obtain ⟨hE', hmv, hmr⟩ := Ep.rebase hE hI
      replace hr0 := Arr.keep hr0 (hmv _)
      replace hr1 := Arr.keep hr1 (hmv _)
      replace hE := hE'
      replace hI := hI.rebase
      clear hE' hmv hmr
      obtain ⟨t_19, hG_20, H0⟩ := bind_some H0
      refine callH_ hF hE hI (wanted_none rfl) rfl (args := [.slice A0 l0.length c0, .slice A1 l1.length c1]) rfl (enters Try.func30 (by kernel_rfl) rfl) (fun sv_21 => .slice ((sv_21 0).1) t_19.length ((sv_21 0).2)) _ (G_wit_Order.calls l0 l1 A0 c0 A1 c1 w_18 (S := Lo S w w_18 ns_17 []) hr0 hc0 hr1 hc1 _ hG_20) (fun sv_21 => ⟨[⟨22, [], .v (.slice ((sv_21 0).1) t_19.length ((sv_21 0).2))⟩, ⟨21, [], .v (.slice A1 l1.length c1)⟩, ⟨20, [], .v (.slice A0 l0.length c0)⟩, ⟨4, [], .v (.bool false)⟩, ⟨0, [], .v (.slice A0 l0.length c0)⟩, ⟨1, [], .v (.slice A1 l1.length c1)⟩], [], [], [], none, none⟩) (fun sv_21 => by kernel_rfl) (fun sv_21 a w_23 hput hE' hI' hmv hmr hres hR => ?_)
      replace hr0 := Arr.keep hr0 (hmv _)
      replace hr1 := Arr.keep hr1 (hmv _)
      replace hE := hE'
      replace hI := hI'
      clear hE' hI' hmv hmr
      obtain ⟨hR_22, hR_22c⟩ := hR
      replace hR_22 := Arr.keep hR_22 (hres _)
      clear hres
      refine chunkL_ (live := [24, 23, 22, 4]) (orc := []) hF 2 hI ⟨[⟨24, [], .v (.slice A1 l1.length c1)⟩, ⟨23, [], .v (.slice A0 l0.length c0)⟩, ⟨22, [], .v (.slice ((sv_21 0).1) t_19.length ((sv_21 0).2))⟩, ⟨4, [], .v (.bool false)⟩], [], [], [], none, none⟩ [] rfl (by kernel_rfl) trivial (fun ns_24 a w_25 hI => ?_)
      obtain ⟨hE', hmv, hmr⟩ := Ep.rebase hE hI
      replace hr0 := Arr.keep hr0 (hmv _)
      replace hr1 := Arr.keep hr1 (hmv _)
      replace hR_22 := Arr.keep hR_22 (hmv _)
      replace hE := hE'
      replace hI := hI.rebase
      clear hE' hmv hmr
      obtain ⟨t_26, hG_27, H0⟩ := bind_some H0
      refine callH_ hF hE hI (wanted_none rfl) rfl (args := [.slice A0 l0.length c0, .slice A1 l1.length c1]) rfl (enters Try.func32 (by kernel_rfl) rfl) (fun sv_28 => .slice ((sv_28 0).1) t_26.length ((sv_28 0).2)) _ (G_ref19_Order.calls l0 l1 A0 c0 A1 c1 w_25 (S := Lo S w w_25 ns_24 []) hr0 hc0 hr1 hc1 _ hG_27) (fun sv_28 => ⟨[⟨25, [], .v (.slice ((sv_28 0).1) t_26.length ((sv_28 0).2))⟩, ⟨24, [], .v (.slice A1 l1.length c1)⟩, ⟨23, [], .v (.slice A0 l0.length c0)⟩, ⟨22, [], .v (.slice ((sv_21 0).1) t_19.length ((sv_21 0).2))⟩, ⟨4, [], .v (.bool false)⟩], [], [], [], none, none⟩) (fun sv_28 => by kernel_rfl) (fun sv_28 a w_30 hput hE' hI' hmv hmr hres hR => ?_)
      replace hr0 := Arr.keep hr0 (hmv _)
      replace hr1 := Arr.keep hr1 (hmv _)
      replace hR_22 := Arr.keep hR_22 (hmv _)
      replace hE := hE'
      replace hI := hI'
      clear hE' hI' hmv hmr
      obtain ⟨hR_29, hR_29c⟩ := hR
      replace hR_29 := Arr.keep hR_29 (hres _)
      clear hres
      obtain ⟨t_31, hG_32, H0⟩ := bind_some H0
      refine callH_ hF hE hI (wanted_none rfl) rfl (args := [.slice ((sv_28 0).1) t_26.length ((sv_28 0).2)]) rfl (enters Try.func31 (by kernel_rfl) rfl) (fun sv_33 => .slice ((sv_33 0).1) t_31.length ((sv_33 0).2)) _ (G_ref19_Items.calls t_26 ((sv_28 0).1) ((sv_28 0).2) w_30 (S := Lo S w w_30 ns_24 []) hR_29 hR_29c _ hG_32) (fun sv_33 => ⟨[⟨26, [], .v (.slice ((sv_33 0).1) t_31.length ((sv_33 0).2))⟩, ⟨25, [], .v (.slice ((sv_28 0).1) t_26.length ((sv_28 0).2))⟩, ⟨24, [], .v (.slice A1 l1.length c1)⟩, ⟨23, [], .v (.slice A0 l0.length c0)⟩, ⟨22, [], .v (.slice ((sv_21 0).1) t_19.length ((sv_21 0).2))⟩, ⟨4, [], .v (.bool false)⟩], [], [], [], none, none⟩) (fun sv_33 => by kernel_rfl) (fun sv_33 a w_35 hput hE' hI' hmv hmr hres hR => ?_)
      replace hr0 := Arr.keep hr0 (hmv _)
      replace hr1 := Arr.keep hr1 (hmv _)
      replace hR_22 := Arr.keep hR_22 (hmv _)
      replace hR_29 := Arr.keep hR_29 (hmv _)
      replace hE := hE'
      replace hI := hI'
      clear hE' hI' hmv hmr
      obtain ⟨hR_34, hR_34c⟩ := hR
      replace hR_34 := Arr.keep hR_34 (hres _)
      clear hres
      obtain ⟨t_36, hG_37, H0⟩ := bind_some H0
      refine chunkL_ (live := [4]) (orc := [[.bool t_36]]) hF 2 hI ⟨[⟨4, [], .v (.bool t_36)⟩], [], [], [], none, none⟩ [.call true 29 [.slice ((sv_21 0).1) t_19.length ((sv_21 0).2), .slice ((sv_33 0).1) t_31.length ((sv_33 0).2)] (.bool t_36)] rfl (by kernel_rfl) ⟨ob_call (enters Try.func29 (by kernel_rfl) rfl) (fun hg wz hk => G_ref19_Same.calls t_19 t_31 ((sv_21 0).1) ((sv_21 0).2) ((sv_33 0).1) ((sv_33 0).2) wz (S := fun _ => True) (Arr.any (Arr.keep hR_22 (Lo.on hk))) hR_22c (Arr.any (Arr.keep hR_34 (Lo.on hk))) hR_34c _ hG_37), trivial⟩ (fun ns_38 a w_39 hI => ?_)
      refine wpListIn_nil ?_
      refine then_normal ?_
      refine wpIn_ret ?_
      obtain rfl := Option.some.inj H0
      exact ret1 hI rfl rfl ⟨rfl, hE.below hI⟩

/-! ### porthole/portholelaw19.WitAll: function 10 -/
noncomputable def G_law19_WitAll.r1 (l0 : (List Call)) (l1 : (List Belling)) (a2 : Int) (t_3 : Bool) (t_10 : Bool) (t_19 : (List Portholeref19_Spot)) (t_30 : ((List Call) × (List Belling))) (s1 : Bool × Int) (y_53 : Int × Item) : Option (Stp (Bool × Int) (Nat × (Bool × Int))) := (bif decide (s1.2 ≥ (IntKind.i64.wrap a2)) then some (.out (0, (s1.1, s1.2))) else (req (imp (!(decide (s1.2 ≥ (t_19.length : Int)))) (inb s1.2 t_19.length)) (req (imp (!(decide (s1.2 ≥ (t_19.length : Int)) || (y_53.1 != ((rd t_19 s1.2).At)))) (inb s1.2 t_19.length)) (bif ((decide (s1.2 ≥ (t_19.length : Int)) || (y_53.1 != ((rd t_19 s1.2).At))) || (!(eqb_Item y_53.2 ((rd t_19 s1.2).Item)))) then some (.out (1, (false, s1.2))) else some (.next (s1.1, (IntKind.i64.wrap (s1.2 + 1))))))))
noncomputable def G_law19_WitAll (l0 : (List Call)) (l1 : (List Belling)) (a2 : Int) : Option (Bool) := ((G_law19_wakes).bind fun t_3 => (bif (!t_3) then some false else ((cal (!(decide ((l0.length : Int) > 60) || decide ((l1.length : Int) > 60))) (G_ref17_Sound l0) default).bind fun t_10 => (bif ((decide ((l0.length : Int) > 60) || decide ((l1.length : Int) > 60)) || (!t_10)) then some true else ((G_ref19_Order l0 l1).bind fun t_19 => ((G_wit_All l0 l1).bind fun t_30 => ((G_wit_All_1 (G_law19_WitAll.r1 l0 l1 a2 t_3 t_10 t_19 t_30) (false, 0) t_30.1 t_30.2).bind fun z => z.on (fun s1 => some (s1.2 == (mnI (IntKind.i64.wrap a2) (t_19.length : Int)))) (fun r1 => (bif Nat.beq r1.1 0 then some (r1.2.2 == (mnI (IntKind.i64.wrap a2) (t_19.length : Int))) else some r1.2.1)))))))))
set_option maxRecDepth 100000 in
set_option maxHeartbeats 4000000 in
theorem G_law19_WitAll.calls (l0 : (List Call)) (l1 : (List Belling)) (a2 : Int) (A0 : Option Addr) (c0 : Nat) (A1 : Option Addr) (c1 : Nat) (w : World) {S : Nat → Prop} (hr0 : Arr kd_Call S w A0 l0) (hc0 : l0.length ≤ c0) (hr1 : Arr kd_Belling S w A1 l1) (hc1 : l1.length ≤ c1) (r : Bool) (h : G_law19_WitAll l0 l1 a2 = some r) :
    Calls Try.prog 10 #[.slice A0 l0.length c0, .slice A1 l1.length c1, .int .u8 a2] w fun e w' => e = .returned (.bool r) ∧ Below w.heap.size w w' := by
  replace hr0 := Arr.lo hr0
  replace hr1 := Arr.lo hr1
  unfold G_law19_WitAll at h
  have H0 := h
  clear h
  refine enterM Try.func10 rfl [.slice A0 l0.length c0, .slice A1 l1.length c1, .int .u8 a2] (n := 73) rfl (Nat.le_of_ble_eq_true rfl) (fun a hI => ?_)
  have hF : FOpen Fence.wide := .inl rfl
  have hE := Ep.start w
  refine seq_region (live := [6, 5, 0, 1]) (orc := []) hF hI ⟨[⟨6, [], .p 1 0⟩, ⟨5, [], .p 0 0⟩, ⟨0, [], .v (.slice A0 l0.length c0)⟩, ⟨1, [], .v (.slice A1 l1.length c1)⟩], [], [], [([.v (.int .u8 a2)], 5), ([.v (.bool false)], 4)], some (w.heap.size, none), none⟩ [] (by kernel_rfl) trivial (fun ns_1 a w_2 hI _ => ?_)
  refine wpIn_seq ?_
  obtain ⟨t_3, hG_4, H0⟩ := bind_some H0
  refine seq_region (live := [13, 6, 5, 0, 1]) (orc := [[.bool t_3]]) hF hI ⟨[⟨13, [], .v (.bool (!t_3))⟩, ⟨6, [], .p 1 0⟩, ⟨5, [], .p 0 0⟩, ⟨0, [], .v (.slice A0 l0.length c0)⟩, ⟨1, [], .v (.slice A1 l1.length c1)⟩], [], [], [([.v (.int .u8 a2)], 5), ([.v (.bool false)], 4)], some (w.heap.size, none), none⟩ [.call true 28 [] (.bool t_3)] (by kernel_rfl) ⟨ob_call (enters Try.func28 (by kernel_rfl) rfl) (fun hg wz hk => G_law19_wakes.calls   wz (S := fun _ => True)  _ hG_4), trivial⟩ (fun ns_5 a w_6 hI _ => ?_)
  refine cond_ hI ((!t_3)) rfl (fun hc_7 => ?_) (fun hc_7 => ?_)
  · replace H0 := bif_t hc_7 H0
    refine seq_region (live := [6]) (orc := []) hF hI ⟨[⟨6, [], .p 1 0⟩], [], [], [([.v (.int .u8 a2)], 5), ([.v (.bool false)], 4)], some (w.heap.size, none), none⟩ [] (by kernel_rfl) trivial (fun ns_8 a w_9 hI _ => ?_)
    refine wpIn_ret ?_
    refine then_ret ?_
    obtain rfl := Option.some.inj H0
    exact retM hI rfl rfl rfl (fun wz hz => ⟨rfl, (hE.below hI).trans hz.below⟩)
  · replace H0 := bif_f hc_7 H0
    refine wpIn_skip ?_
    refine then_normal ?_
    refine wpIn_seq ?_
    obtain ⟨t_10, hG_11, H0⟩ := bind_some H0
    refine seq_region (live := [26, 6, 5, 0, 1]) (orc := [[.bool t_10]]) hF hI ⟨[⟨26, [], .v (.bool ((decide ((l0.length : Int) > 60) || decide ((l1.length : Int) > 60)) || (!t_10)))⟩, ⟨6, [], .p 1 0⟩, ⟨5, [], .p 0 0⟩, ⟨0, [], .v (.slice A0 l0.length c0)⟩, ⟨1, [], .v (.slice A1 l1.length c1)⟩], [], [], [([.v (.int .u8 a2)], 5), ([.v (.bool false)], 4)], some (w.heap.size, none), none⟩ [.call (!(decide ((l0.length : Int) > 60) || decide ((l1.length : Int) > 60))) 14 [.slice A0 l0.length c0] (.bool t_10)] (by kernel_rfl) ⟨ob_call (enters Try.func14 (by kernel_rfl) rfl) (fun hg wz hk => G_ref17_Sound.calls l0 A0 c0 wz (S := fun _ => True) (Arr.any (Arr.keep hr0 (Lo.on hk))) hc0 _ (cal_some hG_11 hg)), trivial⟩ (fun ns_12 a w_13 hI _ => ?_)
    refine cond_ hI (((decide ((l0.length : Int) > 60) || decide ((l1.length : Int) > 60)) || (!t_10))) rfl (fun hc_14 => ?_) (fun hc_14 => ?_)
    · replace H0 := bif_t hc_14 H0
      refine seq_region (live := [6]) (orc := []) hF hI ⟨[⟨6, [], .p 1 0⟩], [], [], [([.v (.int .u8 a2)], 5), ([.v (.bool true)], 4)], some (w.heap.size, none), none⟩ [] (by kernel_rfl) trivial (fun ns_15 a w_16 hI _ => ?_)
      refine wpIn_ret ?_
      refine then_ret ?_
      obtain rfl := Option.some.inj H0
      exact retM hI rfl rfl rfl (fun wz hz => ⟨rfl, (hE.below hI).trans hz.below⟩)
    · replace H0 := bif_f hc_14 H0
      refine wpIn_skip ?_
      refine then_normal ?_
      refine wpIn_seq ?_
      refine wpIn_region_lit ?_
      refine chunkL_ (live := [28, 27, 6, 5, 0, 1]) (orc := []) hF 2 hI ⟨[⟨28, [], .v (.slice A1 l1.length c1)⟩, ⟨27, [], .v (.slice A0 l0.length c0)⟩, ⟨6, [], .p 1 0⟩, ⟨5, [], .p 0 0⟩, ⟨0, [], .v (.slice A0 l0.length c0)⟩, ⟨1, [], .v (.slice A1 l1.length c1)⟩], [], [], [([.v (.int .u8 a2)], 5), ([.v (.bool false)], 4)], some (w.heap.size, none), none⟩ [] rfl (by kernel_rfl) trivial (fun ns_17 a w_18 hI => ?_)
      obtain ⟨hE', hmv, hmr⟩ := Ep.rebase hE hI
      replace hr0 := Arr.keep hr0 (hmv _)
      replace hr1 := Arr.keep hr1 (hmv _)
      replace hE := hE'
      replace hI := hI.rebase
      clear hE' hmv hmr
      obtain ⟨t_19, hG_20, H0⟩ := bind_some H0
      refine callH_ hF hE hI (wanted_none rfl) rfl (args := [.slice A0 l0.length c0, .slice A1 l1.length c1]) rfl (enters Try.func32 (by kernel_rfl) rfl) (fun sv_21 => .slice ((sv_21 0).1) t_19.length ((sv_21 0).2)) _ (G_ref19_Order.calls l0 l1 A0 c0 A1 c1 w_18 (S := Lo S w w_18 ns_17 []) hr0 hc0 hr1 hc1 _ hG_20) (fun sv_21 => ⟨[⟨29, [], .v (.slice ((sv_21 0).1) t_19.length ((sv_21 0).2))⟩, ⟨28, [], .v (.slice A1 l1.length c1)⟩, ⟨27, [], .v (.slice A0 l0.length c0)⟩, ⟨6, [], .p 1 0⟩, ⟨5, [], .p 0 0⟩, ⟨0, [], .v (.slice A0 l0.length c0)⟩, ⟨1, [], .v (.slice A1 l1.length c1)⟩], [], [], [([.v (.int .u8 a2)], 5), ([.v (.bool false)], 4)], some (w.heap.size, none), none⟩) (fun sv_21 => by kernel_rfl) (fun sv_21 a w_23 hput hE' hI' hmv hmr hres hR => ?_)
      replace hr0 := Arr.keep hr0 (hmv _)
      replace hr1 := Arr.keep hr1 (hmv _)
      replace hE := hE'
      replace hI := hI'
      clear hE' hI' hmv hmr
      obtain ⟨hR_22, hR_22c⟩ := hR
      replace hR_22 := Arr.keep hR_22 (hres _)
      clear hres
      refine chunkL_ (live := [7, 6, 5, 0, 1]) (orc := []) hF 2 hI ⟨[⟨7, [], .p 2 0⟩, ⟨6, [], .p 1 0⟩, ⟨5, [], .p 0 0⟩, ⟨0, [], .v (.slice A0 l0.length c0)⟩, ⟨1, [], .v (.slice A1 l1.length c1)⟩], [], [], [([.v (.int .u8 a2)], 5), ([.v (.bool false)], 4), ([.v (.slice ((sv_21 0).1) t_19.length ((sv_21 0).2))], 63)], some (w.heap.size, none), none⟩ [] rfl (by kernel_rfl) trivial (fun ns_24 a w_25 hI => ?_)
      refine wpListIn_nil ?_
      refine then_normal ?_
      refine seq_region (live := [8, 7, 6, 5, 0, 1]) (orc := []) hF hI ⟨[⟨8, [], .p 3 0⟩, ⟨7, [], .p 2 0⟩, ⟨6, [], .p 1 0⟩, ⟨5, [], .p 0 0⟩, ⟨0, [], .v (.slice A0 l0.length c0)⟩, ⟨1, [], .v (.slice A1 l1.length c1)⟩], [], [], [([.v (.int .u8 a2)], 5), ([.v (.bool false)], 4), ([.v (.slice ((sv_21 0).1) t_19.length ((sv_21 0).2))], 63), ([.v (.int .i64 0)], 3)], some (w.heap.size, none), none⟩ [] (by kernel_rfl) trivial (fun ns_26 a w_27 hI _ => ?_)
      refine wpIn_seq ?_
      refine wpIn_seq ?_
      refine wpIn_region_lit ?_
      refine chunkL_ (live := [31, 30, 8, 7, 6, 5]) (orc := []) hF 2 hI ⟨[⟨31, [], .v (.slice A1 l1.length c1)⟩, ⟨30, [], .v (.slice A0 l0.length c0)⟩, ⟨8, [], .p 3 0⟩, ⟨7, [], .p 2 0⟩, ⟨6, [], .p 1 0⟩, ⟨5, [], .p 0 0⟩], [], [], [([.v (.int .u8 a2)], 5), ([.v (.bool false)], 4), ([.v (.slice ((sv_21 0).1) t_19.length ((sv_21 0).2))], 63), ([.v (.int .i64 0)], 3)], some (w.heap.size, none), none⟩ [] rfl (by kernel_rfl) trivial (fun ns_28 a w_29 hI => ?_)
      obtain ⟨hE', hmv, hmr⟩ := Ep.rebase hE hI
      replace hr0 := Arr.keep hr0 (hmv _)
      replace hr1 := Arr.keep hr1 (hmv _)
      replace hR_22 := Arr.keep hR_22 (hmv _)
      replace hE := hE'
      replace hI := hI.rebase
      clear hE' hmv hmr
      obtain ⟨t_30, hG_31, H0⟩ := bind_some H0
      refine callH_ hF hE hI (wanted_none rfl) rfl (args := [.slice A0 l0.length c0, .slice A1 l1.length c1]) rfl (enters Try.func33 (by kernel_rfl) rfl) (fun sv_32 => .func (.func 46) #[] #[.pointer (some (adr (sv_32 0).1)), .pointer (some (adr (sv_32 2).1))]) _ (G_wit_All.calls l0 l1 A0 c0 A1 c1 w_29 (S := Lo S w w_29 ns_28 []) hr0 hc0 hr1 hc1 _ hG_31) (fun sv_32 => ⟨[⟨32, [], .v (.func (.func 46) #[] #[.pointer (some (adr (sv_32 0).1)), .pointer (some (adr (sv_32 2).1))])⟩, ⟨31, [], .v (.slice A1 l1.length c1)⟩, ⟨30, [], .v (.slice A0 l0.length c0)⟩, ⟨8, [], .p 3 0⟩, ⟨7, [], .p 2 0⟩, ⟨6, [], .p 1 0⟩, ⟨5, [], .p 0 0⟩], [], [], [([.v (.int .u8 a2)], 5), ([.v (.bool false)], 4), ([.v (.slice ((sv_21 0).1) t_19.length ((sv_21 0).2))], 63), ([.v (.int .i64 0)], 3)], some (w.heap.size, none), none⟩) (fun sv_32 => by kernel_rfl) (fun sv_32 a w_35 hput hE' hI' hmv hmr hres hR => ?_)
      replace hr0 := Arr.keep hr0 (hmv _)
      replace hr1 := Arr.keep hr1 (hmv _)
      replace hR_22 := Arr.keep hR_22 (hmv _)
      replace hE := hE'
      replace hI := hI'
      clear hE' hI' hmv hmr
      obtain ⟨hR_33, hR_34⟩ := hR
      replace hR_33 := El.keep hR_33 (hres _)
      replace hR_34 := El.keep hR_34 (hres _)
      clear hres
      refine chunkL_ (live := [9, 8, 7, 6, 5]) (orc := []) hF 1 hI ⟨[⟨9, [], .v (.func (.func 46) #[] #[.pointer (some (adr (sv_32 0).1)), .pointer (some (adr (sv_32 2).1))])⟩, ⟨8, [], .p 3 0⟩, ⟨7, [], .p 2 0⟩, ⟨6, [], .p 1 0⟩, ⟨5, [], .p 0 0⟩], [], [], [([.v (.int .u8 a2)], 5), ([.v (.bool false)], 4), ([.v (.slice ((sv_21 0).1) t_19.length ((sv_21 0).2))], 63), ([.v (.int .i64 0)], 3)], some (w.heap.size, none), none⟩ [] rfl (by kernel_rfl) trivial (fun ns_36 a w_37 hI => ?_)
      refine wpListIn_nil ?_
      refine then_normal ?_
      refine seq_region (live := [34, 9, 8, 7, 6, 5]) (orc := []) hF hI ⟨[⟨34, [], .v (.bool true)⟩, ⟨9, [], .v (.func (.func 46) #[] #[.pointer (some (adr (sv_32 0).1)), .pointer (some (adr (sv_32 2).1))])⟩, ⟨8, [], .p 3 0⟩, ⟨7, [], .p 2 0⟩, ⟨6, [], .p 1 0⟩, ⟨5, [], .p 0 0⟩], [], [], [([.v (.int .u8 a2)], 5), ([.v (.bool false)], 4), ([.v (.slice ((sv_21 0).1) t_19.length ((sv_21 0).2))], 63), ([.v (.int .i64 0)], 3)], some (w.heap.size, none), none⟩ [] (by kernel_rfl) trivial (fun ns_38 a w_39 hI _ => ?_)
      refine cond_ hI true rfl (fun _ => ?_) (fun h => by cases h)
      refine seq_region (live := [35, 8, 7, 6, 5]) (orc := []) hF hI ⟨[⟨35, [], .v (.func (.func 46) #[] #[.pointer (some (adr (sv_32 0).1)), .pointer (some (adr (sv_32 2).1))])⟩, ⟨8, [], .p 3 0⟩, ⟨7, [], .p 2 0⟩, ⟨6, [], .p 1 0⟩, ⟨5, [], .p 0 0⟩], [], [], [([.v (.int .u8 a2)], 5), ([.v (.bool false)], 4), ([.v (.slice ((sv_21 0).1) t_19.length ((sv_21 0).2))], 63), ([.v (.int .i64 0)], 3)], some (w.heap.size, none), none⟩ [] (by kernel_rfl) trivial (fun ns_40 a w_41 hI _ => ?_)
      refine wpIn_block ?_
      obtain ⟨hE', hmv, hmr⟩ := Ep.rebase hE hI
      replace hr0 := Arr.keep hr0 (hmv _)
      replace hr1 := Arr.keep hr1 (hmv _)
      replace hR_22 := Arr.keep hR_22 (hmv _)
      replace hR_33 := El.keep hR_33 (hmv _)
      replace hR_34 := El.keep hR_34 (hmv _)
      replace hE := hE'
      replace hI := hI.rebase
      clear hE' hmv hmr
      obtain ⟨ns_42, hE', hI', hmv⟩ := hE.cut hI [35, 8, 7, 6, 5] 4 ⟨[⟨35, [], .v (.func (.func 46) #[] #[.pointer (some (adr (sv_32 0).1)), .pointer (some (adr (sv_32 2).1))])⟩, ⟨8, [], .p 3 0⟩, ⟨7, [], .p 2 0⟩, ⟨6, [], .p 1 0⟩, ⟨5, [], .p 0 0⟩], [], [], [([.v (.int .u8 a2)], 5), ([.v (.bool false)], 4), ([.v (.slice ((sv_21 0).1) t_19.length ((sv_21 0).2))], 63), ([.v (.int .i64 0)], 3)], some (w.heap.size, none), none⟩ (by kernel_rfl)
      have hmr : ∀ b ∈ ([] : List (List Nat)).flatten, w_41.heap[b]? = w_41.heap[b]? := fun _ _ => rfl
      replace hr0 := Arr.keep hr0 (hmv _)
      replace hr1 := Arr.keep hr1 (hmv _)
      replace hR_22 := Arr.keep hR_22 (hmv _)
      replace hR_33 := El.keep hR_33 (hmv _)
      replace hR_34 := El.keep hR_34 (hmv _)
      replace hE := hE'
      replace hI := hI'
      clear hE' hI' hmv hmr
      obtain ⟨z_46, hz_47, H0⟩ := bind_some H0
      refine rangeFunc_ (ps := [36, 37]) hE hI rfl (Nat.le_refl _) (lb := [.pointer (some (adr (sv_32 0).1)), .pointer (some (adr (sv_32 2).1))]) rfl (enters Try.func46 (by kernel_rfl) rfl) (fun l_43 aR_44 w_45 haR_52 hE' hI' hmv hmr => ?_)
      replace hr0 := Arr.keep hr0 (hmv _)
      replace hr1 := Arr.keep hr1 (hmv _)
      replace hR_22 := Arr.keep hR_22 (hmv _)
      replace hR_33 := El.keep hR_33 (hmv _)
      replace hR_34 := El.keep hR_34 (hmv _)
      replace hE := hE'
      replace hI := hI'
      clear hE' hI' hmv hmr
      refine ⟨Bool × Int, Int × Item, Nat × (Bool × Int), G_wit_All_1.enc, G_wit_All_1.fct, G_law19_WitAll.r1 l0 l1 a2 t_3 t_10 t_19 t_30, (fun (s1 : Bool × Int) (T : Nat → Prop) (W : World) => (Arr kd_Call (Lo S w W ns_42 [[l_43]]) W A0 l0) ∧ (Arr kd_Belling (Lo S w W ns_42 [[l_43]]) W A1 l1) ∧ (Arr kd_Portholeref19_Spot (Lo S w W ns_42 [[l_43]]) W (sv_21 0).1 t_19) ∧ (El (Kd.slice kd_Call) (Lo S w W ns_42 [[l_43]]) W (adr (sv_32 0).1) t_30.1 (svO sv_32 1)) ∧ (El (Kd.slice kd_Belling) (Lo S w W ns_42 [[l_43]]) W (adr (sv_32 2).1) t_30.2 (svO sv_32 3)) ∧ Ep [] w W ns_42 [[l_43]] ∧ Inv W ns_42 73 ⟨[⟨35, [], .v (.func (.func 46) #[] #[.pointer (some (adr (sv_32 0).1)), .pointer (some (adr (sv_32 2).1))])⟩, ⟨8, [], .p 3 0⟩, ⟨7, [], .p 2 0⟩, ⟨6, [], .p 1 0⟩, ⟨5, [], .p 0 0⟩], [], [], [([.v (.int .u8 a2)], 5), ([.v (.bool s1.1)], 4), ([.v (.slice ((sv_21 0).1) t_19.length ((sv_21 0).2))], 63), ([.v (.int .i64 s1.2)], 3)], some (w.heap.size, none), none⟩ ns_42 aR_44 W ∧ Tk T W (Lo S w W ns_42 [[l_43]]) W), (fun (r : Nat × (Bool × Int)) (W : World) => (Arr kd_Call (Lo S w W ns_42 [[l_43]]) W A0 l0) ∧ (Arr kd_Belling (Lo S w W ns_42 [[l_43]]) W A1 l1) ∧ (Arr kd_Portholeref19_Spot (Lo S w W ns_42 [[l_43]]) W (sv_21 0).1 t_19) ∧ (El (Kd.slice kd_Call) (Lo S w W ns_42 [[l_43]]) W (adr (sv_32 0).1) t_30.1 (svO sv_32 1)) ∧ (El (Kd.slice kd_Belling) (Lo S w W ns_42 [[l_43]]) W (adr (sv_32 2).1) t_30.2 (svO sv_32 3)) ∧ Ep [] w W ns_42 [[l_43]] ∧ Inv W ns_42 73 ⟨[⟨35, [], .v (.func (.func 46) #[] #[.pointer (some (adr (sv_32 0).1)), .pointer (some (adr (sv_32 2).1))])⟩, ⟨8, [], .p 3 0⟩, ⟨7, [], .p 2 0⟩, ⟨6, [], .p 1 0⟩, ⟨5, [], .p 0 0⟩], [], [], [([.v (.int .u8 a2)], 5), ([.v (.bool r.2.1)], 4), ([.v (.slice ((sv_21 0).1) t_19.length ((sv_21 0).2))], 63), ([.v (.int .i64 r.2.2)], 3)], some (w.heap.size, none), none⟩ ns_42 aR_44 W), (fun r => bif Nat.beq r.1 0 then .exit 0 else .ret), (false, 0), Tc (Lo S w w_45 ns_42 [[l_43]]) w_45, z_46, fun _ _ => rfl, ?_, ?_, ?_, ?_, ?_, ?_, ?_⟩
      · rintro s1 T T' A B row ⟨hr0, hr1, hR_22, hR_33, hR_34, hE, hI, hT_48⟩ hg hrow hT'
        obtain ⟨hE', hI', hmv, hmr⟩ := hE.turn hI hg (by simp) hrow
        replace hr0 := Arr.keep hr0 (hmv _)
        replace hr1 := Arr.keep hr1 (hmv _)
        replace hR_22 := Arr.keep hR_22 (hmv _)
        replace hR_33 := El.keep hR_33 (hmv _)
        replace hR_34 := El.keep hR_34 (hmv _)
        exact ⟨hr0, hr1, hR_22, hR_33, hR_34, hE', hI', hT_48.turn (hmv _) hE hT'⟩
      · rintro r A B row ⟨hr0, hr1, hR_22, hR_33, hR_34, hE, hI⟩ hg hrow
        obtain ⟨hE', hI', hmv, hmr⟩ := hE.turn hI hg (by simp) hrow
        replace hr0 := Arr.keep hr0 (hmv _)
        replace hr1 := Arr.keep hr1 (hmv _)
        replace hR_22 := Arr.keep hR_22 (hmv _)
        replace hR_33 := El.keep hR_33 (hmv _)
        replace hR_34 := El.keep hR_34 (hmv _)
        exact ⟨hr0, hr1, hR_22, hR_33, hR_34, hE', hI'⟩
      · intro J Jx hq hJ
        exact G_wit_All_1.calls _ _ t_30.1 t_30.2 (adr (sv_32 0).1) (svO sv_32 1) (adr (sv_32 2).1) (svO sv_32 3) _ w_45 (S := Tc (Lo S w w_45 ns_42 [[l_43]]) w_45) (El.keep hR_33 (Tc.mv _ _)) (El.keep hR_34 (Tc.mv _ _)) hq hJ _ hz_47
      · exact ⟨hr0, hr1, hR_22, hR_33, hR_34, hE, hI, Tk.new _ _⟩
      · rintro s1 y_53 sv_54 T_56 w_55 z hz ⟨hr0, hr1, hR_22, hR_33, hR_34, hE, hO, hT_48⟩ hf_57 oo_50 ho_51 hl_49
        unfold G_law19_WitAll.r1 at hz
        have H1 := hz
        clear hz
        have hF : FOpen (Fence.wide.inRound l_43) := .inr ⟨l_43, rfl⟩
        have hI : Inv w_55 ns_42 73 ⟨[⟨37, [], .v (.agg ((kd_Item).cells y_53.2 (svL [])).toArray)⟩, ⟨36, [], .v (.int .i64 y_53.1)⟩, ⟨35, [], .v (.func (.func 46) #[] #[.pointer (some (adr (sv_32 0).1)), .pointer (some (adr (sv_32 2).1))])⟩, ⟨8, [], .p 3 0⟩, ⟨7, [], .p 2 0⟩, ⟨6, [], .p 1 0⟩, ⟨5, [], .p 0 0⟩], [], [], [([.v (.int .u8 a2)], 5), ([.v (.bool s1.1)], 4), ([.v (.slice ((sv_21 0).1) t_19.length ((sv_21 0).2))], 63), ([.v (.int .i64 s1.2)], 3)], some (w.heap.size, some aR_44.defers), some (4, ns_42)⟩ ns_42 _ w_55 := hO.round rfl rfl rfl [36, 37] (G_wit_All_1.enc y_53 sv_54) (by kernel_rfl) (by kernel_rfl) _ haR_52
        refine seq_region (live := [10, 37, 8, 7, 6, 5]) (orc := []) hF hI ⟨[⟨10, [], .v (.int .i64 y_53.1)⟩, ⟨37, [], .v (.agg ((kd_Item).cells y_53.2 (svL [])).toArray)⟩, ⟨8, [], .p 3 0⟩, ⟨7, [], .p 2 0⟩, ⟨6, [], .p 1 0⟩, ⟨5, [], .p 0 0⟩], [], [], [([.v (.int .u8 a2)], 5), ([.v (.bool s1.1)], 4), ([.v (.slice ((sv_21 0).1) t_19.length ((sv_21 0).2))], 63), ([.v (.int .i64 s1.2)], 3)], some (w.heap.size, some aR_44.defers), some (4, ns_42)⟩ [] (by kernel_rfl) trivial (fun ns_58 a w_59 hI _ => ?_)
        refine region_ (live := [11, 10, 8, 7, 6, 5]) (orc := []) hF hI ⟨[⟨11, [], .p 4 0⟩, ⟨10, [], .v (.int .i64 y_53.1)⟩, ⟨8, [], .p 3 0⟩, ⟨7, [], .p 2 0⟩, ⟨6, [], .p 1 0⟩, ⟨5, [], .p 0 0⟩], [], [], [([.v (.int .u8 a2)], 5), ([.v (.bool s1.1)], 4), ([.v (.slice ((sv_21 0).1) t_19.length ((sv_21 0).2))], 63), ([.v (.int .i64 s1.2)], 3), ((((kd_Item).cells y_53.2 (svL [])).map EV.v), 70)], some (w.heap.size, some aR_44.defers), some (4, ns_42)⟩ [] (by kernel_rfl) trivial (fun ns_60 a w_61 hI _ => ?_)
        refine then_normal ?_
        obtain ⟨hE', hmv, hmr⟩ := Ep.rebase hE hI
        replace hr0 := Arr.keep hr0 (hmv _)
        replace hr1 := Arr.keep hr1 (hmv _)
        replace hR_22 := Arr.keep hR_22 (hmv _)
        replace hR_33 := El.keep hR_33 (hmv _)
        replace hR_34 := El.keep hR_34 (hmv _)
        replace hT_48 := Tk.keep hT_48 (hmv _)
        replace hl_49 := (hmr _ (by simp)).trans hl_49
        replace hE := hE'
        replace hI := hI.rebase
        clear hE' hmv hmr
        refine begin_ hE hI (by simp) hl_49 ho_51 (fun w_62 hE' hI' hmv hmr hl_49 => ?_)
        replace hr0 := Arr.keep hr0 (hmv _)
        replace hr1 := Arr.keep hr1 (hmv _)
        replace hR_22 := Arr.keep hR_22 (hmv _)
        replace hR_33 := El.keep hR_33 (hmv _)
        replace hR_34 := El.keep hR_34 (hmv _)
        replace hT_48 := Tk.keep hT_48 (hmv _)
        replace hE := hE'
        replace hI := hI'
        clear hE' hI' hmv hmr
        refine wpIn_block ?_
        refine wpIn_seq ?_
        refine seq_region (live := [41, 11, 10, 8, 7, 6, 5]) (orc := []) hF hI ⟨[⟨41, [], .v (.bool (decide (s1.2 ≥ (IntKind.i64.wrap a2))))⟩, ⟨11, [], .p 4 0⟩, ⟨10, [], .v (.int .i64 y_53.1)⟩, ⟨8, [], .p 3 0⟩, ⟨7, [], .p 2 0⟩, ⟨6, [], .p 1 0⟩, ⟨5, [], .p 0 0⟩], [], [], [([.v (.int .u8 a2)], 5), ([.v (.bool s1.1)], 4), ([.v (.slice ((sv_21 0).1) t_19.length ((sv_21 0).2))], 63), ([.v (.int .i64 s1.2)], 3), ((((kd_Item).cells y_53.2 (svL [])).map EV.v), 70)], some (w.heap.size, some aR_44.defers), some (4, ns_42)⟩ [] (by kernel_rfl) trivial (fun ns_63 a w_64 hI _ => ?_)
        refine cond_ hI (decide (s1.2 ≥ (IntKind.i64.wrap a2))) rfl (fun hc_65 => ?_) (fun hc_65 => ?_)
        · replace H1 := bif_t hc_65 H1
          refine wpIn_exit ?_
          refine then_exit ?_
          refine inBlock_other (by decide) ?_
          obtain ⟨hE', hmv, hmr⟩ := Ep.rebase hE hI
          replace hr0 := Arr.keep hr0 (hmv _)
          replace hr1 := Arr.keep hr1 (hmv _)
          replace hR_22 := Arr.keep hR_22 (hmv _)
          replace hR_33 := El.keep hR_33 (hmv _)
          replace hR_34 := El.keep hR_34 (hmv _)
          replace hT_48 := Tk.keep hT_48 (hmv _)
          replace hl_49 := (hmr _ (by simp)).trans hl_49
          replace hE := hE'
          replace hI := hI.rebase
          clear hE' hmv hmr
          obtain ⟨hE', hI', hmv⟩ := Ep.unround (bs := [([.v (.int .u8 a2)], 5), ([.v (.bool s1.1)], 4), ([.v (.slice ((sv_21 0).1) t_19.length ((sv_21 0).2))], 63), ([.v (.int .i64 s1.2)], 3)]) hO hE hI rfl rfl rfl rfl rfl rfl (by kernel_rfl) rfl
          have hmr : ∀ b ∈ ([[l_43]] : List (List Nat)).flatten, w_64.heap[b]? = w_64.heap[b]? := fun _ _ => rfl
          replace hr0 := Arr.keep hr0 (hmv _)
          replace hr1 := Arr.keep hr1 (hmv _)
          replace hR_22 := Arr.keep hR_22 (hmv _)
          replace hR_33 := El.keep hR_33 (hmv _)
          replace hR_34 := El.keep hR_34 (hmv _)
          replace hT_48 := Tk.keep hT_48 (hmv _)
          replace hl_49 := (hmr _ (by simp)).trans hl_49
          replace hE := hE'
          replace hI := hI'
          clear hE' hI' hmv hmr
          obtain rfl := Option.some.inj H1
          exact RndQ.ex hl_49 rfl rfl ⟨hr0, hr1, hR_22, hR_33, hR_34, hE, hI⟩
        · replace H1 := bif_f hc_65 H1
          refine wpIn_skip ?_
          refine then_normal ?_
          refine wpIn_seq ?_
          refine wpIn_seq ?_
          obtain ⟨hN_66, H1⟩ := req_some H1
          obtain ⟨sv_67, hE_69, hA_68⟩ := Arr.elB (d := kd_Portholeref19_Spot) hR_22 s1.2 (!(decide (s1.2 ≥ (t_19.length : Int)))) (fun hg => imp_spec hN_66 hg)
          obtain ⟨hN_70, H1⟩ := req_some H1
          obtain ⟨sv_71, hE_73, hA_72⟩ := Arr.elB (d := kd_Portholeref19_Spot) hR_22 s1.2 (!(decide (s1.2 ≥ (t_19.length : Int)) || (y_53.1 != ((rd t_19 s1.2).At)))) (fun hg => imp_spec hN_70 hg)
          refine drawn_ (live := [63, 8, 7, 6, 5]) (orc := [[.int .i64 ((rd t_19 s1.2).At)], [.int .i64 ((rd t_19 s1.2).Item.Kind), .int .i64 ((rd t_19 s1.2).Item.Of)], [.bool (!(eqb_Item y_53.2 ((rd t_19 s1.2).Item)))]]) hF hI ⟨[⟨63, [], .v (.bool ((decide (s1.2 ≥ (t_19.length : Int)) || (y_53.1 != ((rd t_19 s1.2).At))) || (!(eqb_Item y_53.2 ((rd t_19 s1.2).Item)))))⟩, ⟨8, [], .p 3 0⟩, ⟨7, [], .p 2 0⟩, ⟨6, [], .p 1 0⟩, ⟨5, [], .p 0 0⟩], [], [], [([.v (.int .u8 a2)], 5), ([.v (.bool s1.1)], 4), ([.v (.slice ((sv_21 0).1) t_19.length ((sv_21 0).2))], 63), ([.v (.int .i64 s1.2)], 3), ((((kd_Item).cells y_53.2 (svL [])).map EV.v), 70)], some (w.heap.size, some aR_44.defers), some (4, ns_42)⟩ [.need (!(decide (s1.2 ≥ (t_19.length : Int)))) (0 ≤ s1.2 ∧ s1.2 < (t_19.length : Int)), .need (!(decide (s1.2 ≥ (t_19.length : Int)))) ((sv_21 0).1 = some (adr ((sv_21 0).1))), .cell (!(decide (s1.2 ≥ (t_19.length : Int)))) ((adr ((sv_21 0).1)).add ((s1.2 : Int).toNat * 4)) [.int .i64 ((rd t_19 s1.2).At)], .need (!(decide (s1.2 ≥ (t_19.length : Int)) || (y_53.1 != ((rd t_19 s1.2).At)))) (0 ≤ s1.2 ∧ s1.2 < (t_19.length : Int)), .need (!(decide (s1.2 ≥ (t_19.length : Int)) || (y_53.1 != ((rd t_19 s1.2).At)))) ((sv_21 0).1 = some (adr ((sv_21 0).1))), .cell (!(decide (s1.2 ≥ (t_19.length : Int)) || (y_53.1 != ((rd t_19 s1.2).At)))) (((adr ((sv_21 0).1)).add ((s1.2 : Int).toNat * 4)).add 2) [.int .i64 ((rd t_19 s1.2).Item.Kind), .int .i64 ((rd t_19 s1.2).Item.Of)], .run (!(decide (s1.2 ≥ (t_19.length : Int)) || (y_53.1 != ((rd t_19 s1.2).At)))) (vS (do eqGuard .neq 70 (.tmp 56) (.tmp 61) (.agg ((kd_Item).cells y_53.2 (svL [])).toArray) (.agg ((kd_Item).cells ((rd t_19 s1.2).Item) (svL [])).toArray); binOp .neq 70 (.agg ((kd_Item).cells y_53.2 (svL [])).toArray) (.agg ((kd_Item).cells ((rd t_19 s1.2).Item) (svL [])).toArray))) (.bool (!(eqb_Item y_53.2 ((rd t_19 s1.2).Item))))] (by kernel_rfl) (by kernel_rfl) (by kernel_rfl) ⟨ob_inb (fun hg => imp_spec hN_66 hg), hA_68, ob_el (fun hg => hE_69 hg) 0 [.int .i64 ((rd t_19 s1.2).At)] rfl, ob_inb (fun hg => imp_spec hN_70 hg), hA_72, ob_el (fun hg => hE_73 hg) 2 [.int .i64 ((rd t_19 s1.2).Item.Kind), .int .i64 ((rd t_19 s1.2).Item.Of)] rfl, (fun _ wz hk => vS_run (neq_run (by kernel_rfl) (eqt_Item 9998 y_53.2 ((rd t_19 s1.2).Item) wz))), trivial⟩ (fun a w_74 hI => ?_)
          refine then_normal ?_
          refine cond_ hI (((decide (s1.2 ≥ (t_19.length : Int)) || (y_53.1 != ((rd t_19 s1.2).At))) || (!(eqb_Item y_53.2 ((rd t_19 s1.2).Item))))) rfl (fun hc_75 => ?_) (fun hc_75 => ?_)
          · replace H1 := bif_t hc_75 H1
            refine seq_region (live := [6]) (orc := []) hF hI ⟨[⟨6, [], .p 1 0⟩], [], [], [([.v (.int .u8 a2)], 5), ([.v (.bool false)], 4), ([.v (.slice ((sv_21 0).1) t_19.length ((sv_21 0).2))], 63), ([.v (.int .i64 s1.2)], 3), ((((kd_Item).cells y_53.2 (svL [])).map EV.v), 70)], some (w.heap.size, some aR_44.defers), some (4, ns_42)⟩ [] (by kernel_rfl) trivial (fun ns_76 a w_77 hI _ => ?_)
            refine wpIn_ret ?_
            refine then_ret ?_
            refine inBlock_ret ?_
            obtain ⟨hE', hmv, hmr⟩ := Ep.rebase hE hI
            replace hr0 := Arr.keep hr0 (hmv _)
            replace hr1 := Arr.keep hr1 (hmv _)
            replace hR_22 := Arr.keep hR_22 (hmv _)
            replace hR_33 := El.keep hR_33 (hmv _)
            replace hR_34 := El.keep hR_34 (hmv _)
            replace hT_48 := Tk.keep hT_48 (hmv _)
            replace hl_49 := (hmr _ (by simp)).trans hl_49
            replace hE := hE'
            replace hI := hI.rebase
            clear hE' hmv hmr
            obtain ⟨hE', hI', hmv⟩ := Ep.unround (bs := [([.v (.int .u8 a2)], 5), ([.v (.bool false)], 4), ([.v (.slice ((sv_21 0).1) t_19.length ((sv_21 0).2))], 63), ([.v (.int .i64 s1.2)], 3)]) hO hE hI rfl rfl rfl rfl rfl rfl (by kernel_rfl) rfl
            have hmr : ∀ b ∈ ([[l_43]] : List (List Nat)).flatten, w_77.heap[b]? = w_77.heap[b]? := fun _ _ => rfl
            replace hr0 := Arr.keep hr0 (hmv _)
            replace hr1 := Arr.keep hr1 (hmv _)
            replace hR_22 := Arr.keep hR_22 (hmv _)
            replace hR_33 := El.keep hR_33 (hmv _)
            replace hR_34 := El.keep hR_34 (hmv _)
            replace hT_48 := Tk.keep hT_48 (hmv _)
            replace hl_49 := (hmr _ (by simp)).trans hl_49
            replace hE := hE'
            replace hI := hI'
            clear hE' hI' hmv hmr
            obtain rfl := Option.some.inj H1
            exact RndQ.rt hl_49 rfl rfl ⟨hr0, hr1, hR_22, hR_33, hR_34, hE, hI⟩
          · replace H1 := bif_f hc_75 H1
            refine wpIn_skip ?_
            refine then_normal ?_
            refine region_ (live := [8, 7, 6, 5]) (orc := []) hF hI ⟨[⟨8, [], .p 3 0⟩, ⟨7, [], .p 2 0⟩, ⟨6, [], .p 1 0⟩, ⟨5, [], .p 0 0⟩], [], [], [([.v (.int .u8 a2)], 5), ([.v (.bool s1.1)], 4), ([.v (.slice ((sv_21 0).1) t_19.length ((sv_21 0).2))], 63), ([.v (.int .i64 (IntKind.i64.wrap (s1.2 + 1)))], 3), ((((kd_Item).cells y_53.2 (svL [])).map EV.v), 70)], some (w.heap.size, some aR_44.defers), some (4, ns_42)⟩ [] (by kernel_rfl) trivial (fun ns_78 a w_79 hI _ => ?_)
            refine inBlock_normal ?_
            obtain ⟨hE', hmv, hmr⟩ := Ep.rebase hE hI
            replace hr0 := Arr.keep hr0 (hmv _)
            replace hr1 := Arr.keep hr1 (hmv _)
            replace hR_22 := Arr.keep hR_22 (hmv _)
            replace hR_33 := El.keep hR_33 (hmv _)
            replace hR_34 := El.keep hR_34 (hmv _)
            replace hT_48 := Tk.keep hT_48 (hmv _)
            replace hl_49 := (hmr _ (by simp)).trans hl_49
            replace hE := hE'
            replace hI := hI.rebase
            clear hE' hmv hmr
            obtain ⟨hE', hI', hmv⟩ := Ep.unround (bs := [([.v (.int .u8 a2)], 5), ([.v (.bool s1.1)], 4), ([.v (.slice ((sv_21 0).1) t_19.length ((sv_21 0).2))], 63), ([.v (.int .i64 (IntKind.i64.wrap (s1.2 + 1)))], 3)]) hO hE hI rfl rfl rfl rfl rfl rfl (by kernel_rfl) rfl
            have hmr : ∀ b ∈ ([[l_43]] : List (List Nat)).flatten, w_79.heap[b]? = w_79.heap[b]? := fun _ _ => rfl
            replace hr0 := Arr.keep hr0 (hmv _)
            replace hr1 := Arr.keep hr1 (hmv _)
            replace hR_22 := Arr.keep hR_22 (hmv _)
            replace hR_33 := El.keep hR_33 (hmv _)
            replace hR_34 := El.keep hR_34 (hmv _)
            replace hT_48 := Tk.keep hT_48 (hmv _)
            replace hl_49 := (hmr _ (by simp)).trans hl_49
            replace hE := hE'
            replace hI := hI'
            clear hE' hI' hmv hmr
            obtain rfl := Option.some.inj H1
            exact RndQ.nrm hl_49 rfl ⟨hr0, hr1, hR_22, hR_33, hR_34, hE, hI, hT_48.re⟩ hT_48.same
      · rintro s1 T w_80 hzz ⟨hr0, hr1, hR_22, hR_33, hR_34, hE, hI, hT_48⟩
        subst hzz
        replace H0 : (some (s1.2 == (mnI (IntKind.i64.wrap a2) (t_19.length : Int))) : Option (Bool)) = _ := H0
        obtain ⟨hE', hmv⟩ := hE.sub (mine' := []) (sub_one [] [] _)
        have hmr : ∀ b ∈ ([[l_43]] : List (List Nat)).flatten, w_80.heap[b]? = w_80.heap[b]? := fun _ _ => rfl
        replace hr0 := Arr.keep hr0 (hmv _)
        replace hr1 := Arr.keep hr1 (hmv _)
        replace hR_22 := Arr.keep hR_22 (hmv _)
        replace hR_33 := El.keep hR_33 (hmv _)
        replace hR_34 := El.keep hR_34 (hmv _)
        replace hE := hE'
        clear hE' hmv hmr
        refine inBlock_normal ?_
        refine then_normal ?_
        refine seq_region (live := [6]) (orc := []) hF hI ⟨[⟨6, [], .p 1 0⟩], [], [], [([.v (.int .u8 a2)], 5), ([.v (.bool (s1.2 == (mnI (IntKind.i64.wrap a2) (t_19.length : Int))))], 4), ([.v (.slice ((sv_21 0).1) t_19.length ((sv_21 0).2))], 63), ([.v (.int .i64 s1.2)], 3)], some (w.heap.size, none), none⟩ [] (by kernel_rfl) trivial (fun ns_81 a w_82 hI _ => ?_)
        refine wpIn_ret ?_
        obtain rfl := Option.some.inj H0
        exact retM hI rfl rfl rfl (fun wz hz => ⟨rfl, (hE.below hI).trans hz.below⟩)
      · rintro r1 WX hzz ⟨hr0, hr1, hR_22, hR_33, hR_34, hE, hI⟩
        subst hzz
        replace H0 : ((bif Nat.beq r1.1 0 then some (r1.2.2 == (mnI (IntKind.i64.wrap a2) (t_19.length : Int))) else some r1.2.1) : Option (Bool)) = _ := H0
        dsimp only
        cases hb_87 : Nat.beq r1.1 0
        · replace H0 := bif_f hb_87 H0
          simp only [cond_false]
          obtain ⟨hE', hmv⟩ := hE.sub (mine' := []) (sub_one [] [] _)
          have hmr : ∀ b ∈ ([[l_43]] : List (List Nat)).flatten, WX.heap[b]? = WX.heap[b]? := fun _ _ => rfl
          replace hr0 := Arr.keep hr0 (hmv _)
          replace hr1 := Arr.keep hr1 (hmv _)
          replace hR_22 := Arr.keep hR_22 (hmv _)
          replace hR_33 := El.keep hR_33 (hmv _)
          replace hR_34 := El.keep hR_34 (hmv _)
          replace hE := hE'
          clear hE' hmv hmr
          refine wpIn_ret ?_
          refine inBlock_ret ?_
          refine then_ret ?_
          obtain rfl := Option.some.inj H0
          exact retM hI rfl rfl rfl (fun wz hz => ⟨rfl, (hE.below hI).trans hz.below⟩)
        · replace H0 := bif_t hb_87 H0
          simp only [cond_true]
          obtain ⟨hE', hmv⟩ := hE.sub (mine' := []) (sub_one [] [] _)
          have hmr : ∀ b ∈ ([[l_43]] : List (List Nat)).flatten, WX.heap[b]? = WX.heap[b]? := fun _ _ => rfl
          replace hr0 := Arr.keep hr0 (hmv _)
          replace hr1 := Arr.keep hr1 (hmv _)
          replace hR_22 := Arr.keep hR_22 (hmv _)
          replace hR_33 := El.keep hR_33 (hmv _)
          replace hR_34 := El.keep hR_34 (hmv _)
          replace hE := hE'
          clear hE' hmv hmr
          refine wpIn_exit ?_
          refine inBlock_here ?_
          refine then_normal ?_
          refine seq_region (live := [6]) (orc := []) hF hI ⟨[⟨6, [], .p 1 0⟩], [], [], [([.v (.int .u8 a2)], 5), ([.v (.bool (r1.2.2 == (mnI (IntKind.i64.wrap a2) (t_19.length : Int))))], 4), ([.v (.slice ((sv_21 0).1) t_19.length ((sv_21 0).2))], 63), ([.v (.int .i64 r1.2.2)], 3)], some (w.heap.size, none), none⟩ [] (by kernel_rfl) trivial (fun ns_84 a w_85 hI _ => ?_)
          refine wpIn_ret ?_
          obtain rfl := Option.some.inj H0
          exact retM hI rfl rfl rfl (fun wz hz => ⟨rfl, (hE.below hI).trans hz.below⟩)

end Go.Proofs.Ytnfnincmhobpaaa
