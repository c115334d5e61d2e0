/- Walks of the seat's functions. No statement is proved here. Conditions: none. -/
import Derived.Test.YtiiidfgdejfhhaaGreatDoorGTx2
set_option linter.unusedVariables false
set_option linter.unusedSimpArgs false
set_option maxRecDepth 100000
set_option maxHeartbeats 4000000
namespace Go.Proofs.YtiiidfgdejfhhaaGreatDoor
open Go Go.RowKit Go.Eng Go.Proofs

noncomputable def G_ref08_before.b1 (x0 : Config) (a1 : Int) (s1 : Int × Int) : Option (Stp (Int × Int) (Ex (Int × Int) (Int))) := (bif decide (s1.1 < (x0.Parts.length : Int)) then (req (inb s1.1 x0.Parts.length) (some (.next ((IntKind.i64.wrap (s1.1 + 1)), (IntKind.i64.wrap (s1.2 + ((rd x0.Parts s1.1).Private))))))) else some (.out (.brk (s1.1, s1.2))))
noncomputable def G_ref08_before.b2 (x0 : Config) (a1 : Int) (s1 : Int × Int) (s2 : Int × Int) : Option (Stp (Int × Int) (Ex (Int × Int) (Int))) := (bif decide (s2.1 < a1) then (req (inb s2.1 x0.Chans.length) ((G_ref08_source (rd x0.Chans s2.1)).bind fun t_35 => some (.next ((IntKind.i64.wrap (s2.1 + 1)), (IntKind.i64.wrap ((IntKind.i64.wrap (s2.2 + t_35)) + 1)))))) else some (.out (.brk (s2.1, s2.2))))
noncomputable def G_ref08_before (x0 : Config) (a1 : Int) : Option (Int) := ((loopω (G_ref08_before.b1 x0 a1) (0, 0)).bind fun o => o.on (fun s1 => ((loopω (G_ref08_before.b2 x0 a1 s1) (0, s1.2)).bind fun o => o.on (fun s2 => some s2.2) (fun r => some r))) (fun r => some r))
theorem G_ref08_before.calls (x0 : Config) (a1 : Int) (sv0 : SV) (w : World) {S : Nat → Prop} (hx0 : (kd_Config).cont S w x0 sv0) (r : Int) (h : G_ref08_before x0 a1 = some r) :
    Calls Tryz.prog 73 #[.agg ((kd_Config).cells x0 sv0).toArray, .int .i64 a1] w fun e w' => e = .returned (.int .i64 r) ∧ Below w.heap.size w w' := by
  replace hx0 := Kd.lo _ hx0
  unfold G_ref08_before at h
  have H0 := h
  clear h
  refine enter Tryz.func73 rfl [.agg ((kd_Config).cells x0 sv0).toArray, .int .i64 a1] (n := 38) rfl (Nat.le_of_ble_eq_true rfl) (fun a hI => ?_)
  have hF : FOpen Fence.wide := .inl rfl
  have hE := Ep.start w
  refine sr0_ hF hI (s_ [e_ 4 (.int .i64 0), p_ 2 0 0, e_ 1 (.int .i64 a1)] [((((kd_Config).cells x0 sv0).map EV.v), 29)]) (by kernel_rfl) (fun ns_1 a w_2 hI => ?_)
  refine sr0_ hF hI (s_ [e_ 5 (.int .i64 0), e_ 4 (.int .i64 0), p_ 2 0 0, e_ 1 (.int .i64 a1)] [((((kd_Config).cells x0 sv0).map EV.v), 29)]) (by kernel_rfl) (fun ns_3 a w_4 hI => ?_)
  refine wpIn_seq ?_
  refine sr0_ hF hI (s_ [e_ 6 (.int .i64 0), e_ 5 (.int .i64 0), e_ 4 (.int .i64 0), p_ 2 0 0, e_ 1 (.int .i64 a1)] [((((kd_Config).cells x0 sv0).map EV.v), 29)]) (by kernel_rfl) (fun ns_5 a w_6 hI => ?_)
  obtain ⟨o_20, hL_21, H0⟩ := bind_some H0
  refine block_loop (fun (s1 : Int × Int) a w_48 => ∃ ns, St w [] 38 (s_ [e_ 6 (.int .i64 s1.1), e_ 5 (.int .i64 s1.2), e_ 4 (.int .i64 0), p_ 2 0 0, e_ 1 (.int .i64 a1)] [((((kd_Config).cells x0 sv0).map EV.v), 29)]) ns a w_48) (0, 0) hL_21 ⟨_, hI.pick [6, 5, 4, 2, 1] 1 (s_ [e_ 6 (.int .i64 0), e_ 5 (.int .i64 0), e_ 4 (.int .i64 0), p_ 2 0 0, e_ 1 (.int .i64 a1)] [((((kd_Config).cells x0 sv0).map EV.v), 29)]) (by kernel_rfl)⟩ ?_ ?_
  ·clear hI
   rintro s1 a w_7 ⟨ns_8, hI⟩ r1 H1
   unfold G_ref08_before.b1 at H1
   refine wpIn_seq ?_
   refine sr0_ hF hI (s_ [e_ 12 (.bool (decide (s1.1 < (x0.Parts.length : Int)))), e_ 6 (.int .i64 s1.1), e_ 5 (.int .i64 s1.2), e_ 4 (.int .i64 0), p_ 2 0 0, e_ 1 (.int .i64 a1)] [((((kd_Config).cells x0 sv0).map EV.v), 29)]) (by kernel_rfl) (fun ns_9 a w_10 hI => ?_)
   refine cond_ hI (decide (s1.1 < (x0.Parts.length : Int))) rfl (fun hc_11 => ?_) (fun hc_11 => ?_)
   ·replace H1 := bif_t hc_11 H1
    refine wpIn_skip ?_
    refine then_normal ?_
    refine wpIn_seq ?_
    refine wpIn_block ?_
    obtain ⟨hN_12, H1⟩ := req_some H1
    obtain ⟨sv_13, hE_15, hA_14⟩ := Arr.elB (d := kd_Part) hx0.1.1 s1.1 true (fun _ => hN_12)
    replace hE_15 := hE_15 rfl
    replace hA_14 := fun (_ : true = true) => hA_14 rfl
    refine rg_ (orc := [[.int .i64 ((rd x0.Parts s1.1).Private)]]) hF hI (s_ [e_ 5 (.int .i64 (IntKind.i64.wrap (s1.2 + ((rd x0.Parts s1.1).Private)))), e_ 6 (.int .i64 s1.1), e_ 4 (.int .i64 0), p_ 2 0 0, e_ 1 (.int .i64 a1)] [((((kd_Config).cells x0 sv0).map EV.v), 29)]) [.need true ((0 : Int) ≤ s1.1 ∧ s1.1 < (x0.Parts.length : Int)), .need true ((sv0 0).1 = some (adr ((sv0 0).1))), .cell true (((adr ((sv0 0).1)).add ((s1.1 : Int).toNat * 2)).add 1) [.int .i64 ((rd x0.Parts s1.1).Private)]] (by kernel_rfl) ⟨ob_inb (fun _ => hN_12), hA_14, ob_el (fun _ => hE_15) 1 [.int .i64 ((rd x0.Parts s1.1).Private)] rfl, trivial⟩ (fun ns_16 a w_17 hI => ?_)
    refine inBlock_normal ?_
    refine then_normal ?_
    refine rg0_ hF hI (s_ [e_ 6 (.int .i64 (IntKind.i64.wrap (s1.1 + 1))), e_ 5 (.int .i64 (IntKind.i64.wrap (s1.2 + ((rd x0.Parts s1.1).Private)))), e_ 4 (.int .i64 0), p_ 2 0 0, e_ 1 (.int .i64 a1)] [((((kd_Config).cells x0 sv0).map EV.v), 29)]) (by kernel_rfl) (fun ns_18 a w_19 hI => ?_)
    refine then_normal ?_
    obtain rfl := Option.some.inj H1
    exact ⟨_, rfl, ⟨_, hI.pick [6, 5, 4, 2, 1] 1 (s_ [e_ 6 (.int .i64 (IntKind.i64.wrap (s1.1 + 1))), e_ 5 (.int .i64 (IntKind.i64.wrap (s1.2 + ((rd x0.Parts s1.1).Private)))), e_ 4 (.int .i64 0), p_ 2 0 0, e_ 1 (.int .i64 a1)] [((((kd_Config).cells x0 sv0).map EV.v), 29)]) (by kernel_rfl)⟩⟩
   ·replace H1 := bif_f hc_11 H1
    refine wpIn_exit ?_
    refine then_exit ?_
    refine then_exit ?_
    obtain rfl := Option.some.inj H1
    exact .inl ⟨_, rfl, rfl, ⟨_, hI.pick [6, 5, 4, 2, 1] 1 (s_ [e_ 6 (.int .i64 s1.1), e_ 5 (.int .i64 s1.2), e_ 4 (.int .i64 0), p_ 2 0 0, e_ 1 (.int .i64 a1)] [((((kd_Config).cells x0 sv0).map EV.v), 29)]) (by kernel_rfl)⟩⟩
  ·clear hI
   rintro s1 a w_22 ho ⟨ns_23, hI⟩
   subst ho
   replace H0 : (((loopω (G_ref08_before.b2 x0 a1 s1) (0, s1.2)).bind fun o => o.on (fun s2 => some s2.2) (fun r => some r)) : Option (Int)) = _ := H0
   refine then_normal ?_
   refine wpIn_seq ?_
   refine sr0_ hF hI (s_ [e_ 7 (.int .i64 0), e_ 5 (.int .i64 s1.2), e_ 4 (.int .i64 0), p_ 2 0 0, e_ 1 (.int .i64 a1)] [((((kd_Config).cells x0 sv0).map EV.v), 29)]) (by kernel_rfl) (fun ns_24 a w_25 hI => ?_)
   obtain ⟨o_41, hL_42, H0⟩ := bind_some H0
   refine block_loop (fun (s2 : Int × Int) a w_47 => ∃ ns, St w [] 38 (s_ [e_ 7 (.int .i64 s2.1), e_ 5 (.int .i64 s2.2), e_ 4 (.int .i64 0), p_ 2 0 0, e_ 1 (.int .i64 a1)] [((((kd_Config).cells x0 sv0).map EV.v), 29)]) ns a w_47) (0, s1.2) hL_42 ⟨_, hI.pick [7, 5, 4, 2, 1] 1 (s_ [e_ 7 (.int .i64 0), e_ 5 (.int .i64 s1.2), e_ 4 (.int .i64 0), p_ 2 0 0, e_ 1 (.int .i64 a1)] [((((kd_Config).cells x0 sv0).map EV.v), 29)]) (by kernel_rfl)⟩ ?_ ?_
   ·clear hI
    rintro s2 a w_26 ⟨ns_27, hI⟩ r2 H1
    unfold G_ref08_before.b2 at H1
    refine wpIn_seq ?_
    refine sr0_ hF hI (s_ [e_ 25 (.bool (decide (s2.1 < a1))), e_ 7 (.int .i64 s2.1), e_ 5 (.int .i64 s2.2), e_ 4 (.int .i64 0), p_ 2 0 0, e_ 1 (.int .i64 a1)] [((((kd_Config).cells x0 sv0).map EV.v), 29)]) (by kernel_rfl) (fun ns_28 a w_29 hI => ?_)
    refine cond_ hI (decide (s2.1 < a1)) rfl (fun hc_30 => ?_) (fun hc_30 => ?_)
    ·replace H1 := bif_t hc_30 H1
     refine wpIn_skip ?_
     refine then_normal ?_
     refine wpIn_seq ?_
     refine wpIn_block ?_
     obtain ⟨hN_31, H1⟩ := req_some H1
     obtain ⟨sv_32, hE_34, hA_33⟩ := Arr.elB (d := kd_Chan) hx0.2.1.1 s2.1 true (fun _ => hN_31)
     replace hE_34 := hE_34 rfl
     replace hA_33 := fun (_ : true = true) => hA_33 rfl
     obtain ⟨t_35, hG_36, H1⟩ := bind_some H1
     refine rg_ (orc := [(kd_Chan).cells (rd x0.Chans s2.1) sv_32, [.int .i64 t_35]]) hF hI (s_ [e_ 5 (.int .i64 (IntKind.i64.wrap ((IntKind.i64.wrap (s2.2 + t_35)) + 1))), e_ 7 (.int .i64 s2.1), e_ 4 (.int .i64 0), p_ 2 0 0, e_ 1 (.int .i64 a1)] [((((kd_Config).cells x0 sv0).map EV.v), 29)]) [.need true ((0 : Int) ≤ s2.1 ∧ s2.1 < (x0.Chans.length : Int)), .need true ((sv0 1).1 = some (adr ((sv0 1).1))), .cell true ((adr ((sv0 1).1)).add ((s2.1 : Int).toNat * 7)) ((kd_Chan).cells (rd x0.Chans s2.1) sv_32), .call true 126 [.agg ((kd_Chan).cells (rd x0.Chans s2.1) (svL [])).toArray] (.int .i64 t_35)] (by kernel_rfl) ⟨ob_inb (fun _ => hN_31), hA_33, ob_el (fun _ => hE_34) 0 ((kd_Chan).cells (rd x0.Chans s2.1) sv_32) rfl, ob_call (enters Tryz.func126 (by kernel_rfl) rfl) (fun hg wz hk => G_ref08_source.calls (rd x0.Chans s2.1) (svL []) wz (S := fun _ => True) (Kd.any _ (Kd.keep kd_Chan (contI (S := Lo S w w [] []) (w := w) (d := kd_Chan) (x := (rd x0.Chans s2.1)) (sv := (svL [])) trivial) (Lo.on hk))) _ hG_36), trivial⟩ (fun ns_37 a w_38 hI => ?_)
     refine inBlock_normal ?_
     refine then_normal ?_
     refine rg0_ hF hI (s_ [e_ 7 (.int .i64 (IntKind.i64.wrap (s2.1 + 1))), e_ 5 (.int .i64 (IntKind.i64.wrap ((IntKind.i64.wrap (s2.2 + t_35)) + 1))), e_ 4 (.int .i64 0), p_ 2 0 0, e_ 1 (.int .i64 a1)] [((((kd_Config).cells x0 sv0).map EV.v), 29)]) (by kernel_rfl) (fun ns_39 a w_40 hI => ?_)
     refine then_normal ?_
     obtain rfl := Option.some.inj H1
     exact ⟨_, rfl, ⟨_, hI.pick [7, 5, 4, 2, 1] 1 (s_ [e_ 7 (.int .i64 (IntKind.i64.wrap (s2.1 + 1))), e_ 5 (.int .i64 (IntKind.i64.wrap ((IntKind.i64.wrap (s2.2 + t_35)) + 1))), e_ 4 (.int .i64 0), p_ 2 0 0, e_ 1 (.int .i64 a1)] [((((kd_Config).cells x0 sv0).map EV.v), 29)]) (by kernel_rfl)⟩⟩
    ·replace H1 := bif_f hc_30 H1
     refine wpIn_exit ?_
     refine then_exit ?_
     refine then_exit ?_
     obtain rfl := Option.some.inj H1
     exact .inl ⟨_, rfl, rfl, ⟨_, hI.pick [7, 5, 4, 2, 1] 1 (s_ [e_ 7 (.int .i64 s2.1), e_ 5 (.int .i64 s2.2), e_ 4 (.int .i64 0), p_ 2 0 0, e_ 1 (.int .i64 a1)] [((((kd_Config).cells x0 sv0).map EV.v), 29)]) (by kernel_rfl)⟩⟩
   ·clear hI
    rintro s2 a w_43 ho ⟨ns_44, hI⟩
    subst ho
    replace H0 : (some s2.2 : Option (Int)) = _ := H0
    refine then_normal ?_
    refine sr0_ hF hI (s_ [e_ 4 (.int .i64 s2.2)] [((((kd_Config).cells x0 sv0).map EV.v), 29)]) (by kernel_rfl) (fun ns_45 a w_46 hI => ?_)
    refine wpIn_ret ?_
    obtain rfl := Option.some.inj H0
    exact ret1 hI rfl rfl ⟨rfl, hE.below hI⟩

noncomputable def G_ref08_Size (x0 : Config) : Option (Int) := ((G_ref07_Accepts x0).bind fun t_3 => (bif (!t_3) then some 0 else ((G_ref08_before x0 (x0.Chans.length : Int)).bind fun t_10 => some t_10)))
theorem G_ref08_Size.calls (x0 : Config) (sv0 : SV) (w : World) {S : Nat → Prop} (hx0 : (kd_Config).cont S w x0 sv0) (r : Int) (h : G_ref08_Size x0 = some r) :
    Calls Tryz.prog 29 #[.agg ((kd_Config).cells x0 sv0).toArray] w fun e w' => e = .returned (.int .i64 r) ∧ Below w.heap.size w w' := by
  replace hx0 := Kd.lo _ hx0
  unfold G_ref08_Size at h
  have H0 := h
  clear h
  refine enter Tryz.func29 rfl [.agg ((kd_Config).cells x0 sv0).toArray] (n := 11) rfl (Nat.le_of_ble_eq_true rfl) (fun a hI => ?_)
  have hF : FOpen Fence.wide := .inl rfl
  have hE := Ep.start w
  refine sr0_ hF hI (s_ [e_ 2 (.int .i64 0), p_ 1 0 0] [((((kd_Config).cells x0 sv0).map EV.v), 29)]) (by kernel_rfl) (fun ns_1 a w_2 hI => ?_)
  refine wpIn_seq ?_
  obtain ⟨t_3, hG_4, H0⟩ := bind_some H0
  refine sr_ (orc := [[.bool t_3]]) hF hI (s_ [e_ 5 (.bool (!t_3)), e_ 2 (.int .i64 0), p_ 1 0 0] [((((kd_Config).cells x0 sv0).map EV.v), 29)]) [.call true 16 [.agg ((kd_Config).cells x0 sv0).toArray] (.bool t_3)] (by kernel_rfl) ⟨ob_call (enters Tryz.func16 (by kernel_rfl) rfl) (fun hg wz hk => G_ref07_Accepts.calls x0 sv0 wz (S := fun _ => True) (Kd.any _ (Kd.keep kd_Config (contI (S := Lo S w w [] []) (w := w) (d := kd_Config) (x := x0) (sv := sv0) ⟨⟨hx0.1.1, hx0.1.2⟩, ⟨hx0.2.1.1, hx0.2.1.2⟩, ⟨hx0.2.2.1.1, hx0.2.2.1.2⟩, ⟨hx0.2.2.2.1.1, hx0.2.2.2.1.2⟩, trivial⟩) (Lo.on hk))) _ hG_4), trivial⟩ (fun ns_5 a w_6 hI => ?_)
  refine cond_ hI ((!t_3)) rfl (fun hc_7 => ?_) (fun hc_7 => ?_)
  ·replace H0 := bif_t hc_7 H0
   refine sr0_ hF hI (s_ [e_ 2 (.int .i64 0)] [((((kd_Config).cells x0 sv0).map EV.v), 29)]) (by kernel_rfl) (fun ns_8 a w_9 hI => ?_)
   refine wpIn_ret ?_
   refine then_ret ?_
   obtain rfl := Option.some.inj H0
   exact ret1 hI rfl rfl ⟨rfl, hE.below hI⟩
  ·replace H0 := bif_f hc_7 H0
   refine wpIn_skip ?_
   refine then_normal ?_
   obtain ⟨t_10, hG_11, H0⟩ := bind_some H0
   refine sr_ (orc := [[.int .i64 t_10]]) hF hI (s_ [e_ 2 (.int .i64 t_10)] [((((kd_Config).cells x0 sv0).map EV.v), 29)]) [.call true 73 [.agg ((kd_Config).cells x0 sv0).toArray, .int .i64 (x0.Chans.length : Int)] (.int .i64 t_10)] (by kernel_rfl) ⟨ob_call (enters Tryz.func73 (by kernel_rfl) rfl) (fun hg wz hk => G_ref08_before.calls x0 (x0.Chans.length : Int) sv0 wz (S := fun _ => True) (Kd.any _ (Kd.keep kd_Config (contI (S := Lo S w w [] []) (w := w) (d := kd_Config) (x := x0) (sv := sv0) ⟨⟨hx0.1.1, hx0.1.2⟩, ⟨hx0.2.1.1, hx0.2.1.2⟩, ⟨hx0.2.2.1.1, hx0.2.2.1.2⟩, ⟨hx0.2.2.2.1.1, hx0.2.2.2.1.2⟩, trivial⟩) (Lo.on hk))) _ hG_11), trivial⟩ (fun ns_12 a w_13 hI => ?_)
   refine wpIn_ret ?_
   obtain rfl := Option.some.inj H0
   exact ret1 hI rfl rfl ⟨rfl, hE.below hI⟩

noncomputable def G_mem_New (a0 : Int) : Option ((Option Mem_Mem) × Int) := (bif (decide (a0 < 0) || decide (a0 > 65536)) then some (none, 7) else (req (decide (0 ≤ a0) && decide ((a0 : Int).toNat * (1 + 4) ≤ 16777216)) (some ((some (⟨(List.replicate (a0 : Int).toNat (0 : Int))⟩ : Mem_Mem)), 0))))
theorem G_mem_New.calls (a0 : Int)  (w : World) {S0_ : Nat → Prop}  (r : (Option Mem_Mem) × Int) (h : G_mem_New a0 = some r) :
    Calls Tryz.prog 28 #[.int .i64 a0] w fun e w' => ∃ q : SV × (Nat → List Nat), e = .returned (.tuple #[.pointer ((q.1 0).1), .int .i64 r.2]) ∧ Keeps [] w w' ∧ Handed w w' [] [q.2 0] ∧ OjtN lk_Mem_Mem (fun b => b ∉ ([q.2 0] : List (List Nat)).flatten ∧ (w.heap.size ≤ b ∨ S0_ b ∨ b ∈ [])) w' (q.1 0).1 r.1 (q.2 0) := by
  obtain ⟨S, hSd⟩ : ∃ S : Nat → Prop, S = fun b => S0_ b ∨ b ∈ ([] : List Nat) := ⟨_, rfl⟩
  unfold G_mem_New at h
  have H0 := h
  clear h
  refine enter Tryz.func28 rfl [.int .i64 a0] (n := 14) rfl (Nat.le_of_ble_eq_true rfl) (fun a hI => ?_)
  have hF : FOpen Fence.wide := .inl rfl
  have hE := Ep.start w
  refine sr0_ hF hI (s_ [e_ 3 (.int .i64 0), e_ 2 (.pointer none), e_ 0 (.int .i64 a0)] []) (by kernel_rfl) (fun ns_1 a w_2 hI => ?_)
  refine wpIn_seq ?_
  refine sr0_ hF hI (s_ [e_ 9 (.bool (decide (a0 < 0) || decide (a0 > 65536))), e_ 3 (.int .i64 0), e_ 2 (.pointer none), e_ 0 (.int .i64 a0)] []) (by kernel_rfl) (fun ns_3 a w_4 hI => ?_)
  refine cond_ hI ((decide (a0 < 0) || decide (a0 > 65536))) rfl (fun hc_5 => ?_) (fun hc_5 => ?_)
  ·replace H0 := bif_t hc_5 H0
   refine sr0_ hF hI (s_ [e_ 3 (.int .i64 7), e_ 2 (.pointer none)] []) (by kernel_rfl) (fun ns_6 a w_7 hI => ?_)
   obtain ⟨hE', hmv, hmr⟩ := Ep.rebase hE hI
   replace hE := hE'; replace hI := hI.rebase; clear hE' hmv hmr
   obtain ⟨hE', hmv⟩ := Ep.addNil hE
   have hmr := hmr_ ([] : List (List Nat)) w_7
   replace hE := hE'
   clear hE' hmv hmr
   refine wpIn_ret ?_
   refine then_ret ?_
   obtain rfl := Option.some.inj H0
   subst hSd
   exact ret2 hI rfl rfl rfl ⟨(svL [(none, 0)], fun i => ([[]] : List (List Nat)).getD i []), rfl, hE.keeps hI, hE.handed [0] (by decide), OjtN.nil _ _ _⟩
  ·replace H0 := bif_f hc_5 H0
   refine wpIn_skip ?_
   refine then_normal ?_
   refine wpIn_seq ?_
   refine wpIn_region_lit ?_
   refine ck0_ hF 1 hI (s_ [e_ 10 (.int .i64 a0), e_ 3 (.int .i64 0), e_ 2 (.pointer none)] []) rfl (by kernel_rfl) (fun ns_9 a w_10 hI => ?_)
   obtain ⟨hE', hmv, hmr⟩ := Ep.rebase hE hI
   replace hE := hE'; replace hI := hI.rebase; clear hE' hmv hmr
   obtain ⟨hN_11, H0⟩ := req_some H0
   rw [Bool.and_eq_true, decide_eq_true_iff, decide_eq_true_iff] at hN_11
   refine makeSlice_ (S0 := S) (d := (Kd.int .u32)) (e := 60) hF hE hI (wanted_none rfl) rfl (k := a0) rfl rfl Tryz.underlying43 (zi := (.int .u32 0, 1, 4)) (by kernel_rfl) rfl (0) (svL []) rfl trivial hN_11.1 hN_11.2 (fun A_12 => (s_ [e_ 11 (.slice A_12 (List.replicate (a0 : Int).toNat (0 : Int)).length ((List.replicate (a0 : Int).toNat (0 : Int)).length)), e_ 10 (.int .i64 a0), e_ 3 (.int .i64 0), e_ 2 (.pointer none)] [])) (fun A_12 => by kernel_rfl) (fun A_12 a w_14 hput hE' hI' hmv hmr hq_13 => ?_)
   replace hE := hE'; replace hI := hI'; clear hE' hI' hmv hmr
   refine ck0_ hF 4 hI (s_ [e_ 3 (.int .i64 0), p_ 2 0 0] [([.v (.slice A_12 (List.replicate (a0 : Int).toNat (0 : Int)).length ((List.replicate (a0 : Int).toNat (0 : Int)).length))], 159)]) rfl (by kernel_rfl) (fun ns_15 a w_16 hI => ?_)
   refine wpListIn_nil ?_
   refine then_normal ?_
   obtain ⟨hE', hmv, hmr⟩ := Ep.rebase hE hI
   replace hq_13 := Row.keep hq_13 (hmv _) (fun b hb => hmr b (by simp [hb]))
   replace hE := hE'; replace hI := hI.rebase; clear hE' hmv hmr
   have hct := contI (S := Lo S w w_16 ns_15 [rb A_12]) (w := w_16) (d := kd_Mem_Mem) (x := (⟨(List.replicate (a0 : Int).toNat (0 : Int))⟩ : Mem_Mem)) (sv := (svL [(A_12, (List.replicate (a0 : Int).toNat (0 : Int)).length), (none, (List.replicate (a0 : Int).toNat (0 : Int)).length)])) trivial
   obtain ⟨B_17, ns_18, hE', hI', hmv, hB_20, ho_19⟩ := publish_ (d := kd_Mem_Mem) hE hI 0 (⟨(List.replicate (a0 : Int).toNat (0 : Int))⟩ : Mem_Mem) (svL [(A_12, (List.replicate (a0 : Int).toNat (0 : Int)).length), (none, (List.replicate (a0 : Int).toNat (0 : Int)).length)]) 159 rfl
   replace ho_19 := ho_19 _ hct
   clear hct
   replace hE : Ep [] w w_16 ns_18 [rb A_12, [B_17]] := hE'
   have hmr := hmr_ ([rb A_12, [B_17]] : List (List Nat)) w_16
   replace hq_13 := Row.keep hq_13 (hmv _) (fun b hb => hmr b (by simp [hb]))
   replace hI := hI'
   clear hE' hI' hmv hmr
   obtain ⟨ns_22, hE', hI', hmv⟩ := hE.cut hI [3, 2] 0 (s_ [e_ 3 (.int .i64 0), e_ 2 (.pointer (some ⟨B_17, 0, none⟩))] []) (by kernel_rfl)
   have hmr := hmr_ ([rb A_12, [B_17]] : List (List Nat)) w_16
   replace hq_13 := Row.keep hq_13 (hmv _) (fun b hb => hmr b (by simp [hb]))
   replace ho_19 := Ob1.keep ho_19 (hmv _) (hmr _ (by simp))
   replace hE := hE'; replace hI := hI'; clear hE' hI' hmv hmr
   have ho_23 : Ojt lk_Mem_Mem (Lo S w w_16 ns_22 [rb A_12, [B_17]]) w_16 B_17 (⟨(List.replicate (a0 : Int).toNat (0 : Int))⟩ : Mem_Mem) (B_17 :: (rb A_12 ++ ([]))) := Ojt.mk' (k := lk_Mem_Mem) (svL [(A_12, (List.replicate (a0 : Int).toNat (0 : Int)).length), (none, (List.replicate (a0 : Int).toNat (0 : Int)).length)]) (Ob1.as ho_19 rfl id) ⟨rfl, ⟨Row.down hq_13, rfl⟩, trivial⟩
   obtain ⟨hE', hmv⟩ := Ep.group hE [1, 0] (by decide) (B_17 :: (rb A_12 ++ ([]))) rfl
   replace hE : Ep [] w w_16 ns_22 [(B_17 :: (rb A_12 ++ ([])))] := hE'
   replace hmv : ∀ S0, Mv (Lo S0 w w_16 ns_22 [rb A_12, [B_17]]) w_16 (Lo S0 w w_16 ns_22 [(B_17 :: (rb A_12 ++ ([])))]) w_16 := hmv
   have hmr := hmr_ ([(B_17 :: (rb A_12 ++ ([])))] : List (List Nat)) w_16
   replace ho_23 := Ojt.keep ho_23 (hmv _) (fun b hb => hmr b (flat_mem (by simp) hb))
   clear hE' hmv hmr
   refine wpIn_ret ?_
   obtain rfl := Option.some.inj H0
   subst hSd
   exact ret2 hI rfl rfl rfl ⟨(svL [(some ⟨B_17, 0, none⟩, 0)], fun i => ([(B_17 :: (rb A_12 ++ ([])))] : List (List Nat)).getD i []), rfl, hE.keeps hI, hE.handed [0] (by decide), OjtN.of (Ojt.keep ho_23 (hE.outO [0] _) (fun _ _ => rfl))⟩

noncomputable def G_bell_New (a0 : Int) : Option ((Option Bell_Set) × Int) := (bif (decide (a0 < 0) || decide (a0 > 64)) then some (none, 7) else some ((some (⟨a0, 0⟩ : Bell_Set)), 0))
theorem G_bell_New.calls (a0 : Int)  (w : World) {S0_ : Nat → Prop}  (r : (Option Bell_Set) × Int) (h : G_bell_New a0 = some r) :
    Calls Tryz.prog 30 #[.int .i64 a0] w fun e w' => ∃ q : SV × (Nat → List Nat), e = .returned (.tuple #[.pointer ((q.1 0).1), .int .i64 r.2]) ∧ Keeps [] w w' ∧ Handed w w' [] [q.2 0] ∧ OjtN lk_Bell_Set (fun b => b ∉ ([q.2 0] : List (List Nat)).flatten ∧ (w.heap.size ≤ b ∨ S0_ b ∨ b ∈ [])) w' (q.1 0).1 r.1 (q.2 0) := by
  obtain ⟨S, hSd⟩ : ∃ S : Nat → Prop, S = fun b => S0_ b ∨ b ∈ ([] : List Nat) := ⟨_, rfl⟩
  unfold G_bell_New at h
  have H0 := h
  clear h
  refine enter Tryz.func30 rfl [.int .i64 a0] (n := 13) rfl (Nat.le_of_ble_eq_true rfl) (fun a hI => ?_)
  have hF : FOpen Fence.wide := .inl rfl
  have hE := Ep.start w
  refine sr0_ hF hI (s_ [e_ 3 (.int .i64 0), e_ 2 (.pointer none), e_ 0 (.int .i64 a0)] []) (by kernel_rfl) (fun ns_1 a w_2 hI => ?_)
  refine wpIn_seq ?_
  refine sr0_ hF hI (s_ [e_ 9 (.bool (decide (a0 < 0) || decide (a0 > 64))), e_ 3 (.int .i64 0), e_ 2 (.pointer none), e_ 0 (.int .i64 a0)] []) (by kernel_rfl) (fun ns_3 a w_4 hI => ?_)
  refine cond_ hI ((decide (a0 < 0) || decide (a0 > 64))) rfl (fun hc_5 => ?_) (fun hc_5 => ?_)
  ·replace H0 := bif_t hc_5 H0
   refine sr0_ hF hI (s_ [e_ 3 (.int .i64 7), e_ 2 (.pointer none)] []) (by kernel_rfl) (fun ns_6 a w_7 hI => ?_)
   obtain ⟨hE', hmv, hmr⟩ := Ep.rebase hE hI
   replace hE := hE'; replace hI := hI.rebase; clear hE' hmv hmr
   obtain ⟨hE', hmv⟩ := Ep.addNil hE
   have hmr := hmr_ ([] : List (List Nat)) w_7
   replace hE := hE'
   clear hE' hmv hmr
   refine wpIn_ret ?_
   refine then_ret ?_
   obtain rfl := Option.some.inj H0
   subst hSd
   exact ret2 hI rfl rfl rfl ⟨(svL [(none, 0)], fun i => ([[]] : List (List Nat)).getD i []), rfl, hE.keeps hI, hE.handed [0] (by decide), OjtN.nil _ _ _⟩
  ·replace H0 := bif_f hc_5 H0
   refine wpIn_skip ?_
   refine then_normal ?_
   refine sr0_ hF hI (s_ [e_ 3 (.int .i64 0), p_ 2 0 0] [([.v (.int .i64 a0), .v (.int .u64 0)], 162)]) (by kernel_rfl) (fun ns_9 a w_10 hI => ?_)
   obtain ⟨hE', hmv, hmr⟩ := Ep.rebase hE hI
   replace hE := hE'; replace hI := hI.rebase; clear hE' hmv hmr
   have hct := contI (S := Lo S w w_10 ns_9 []) (w := w_10) (d := kd_Bell_Set) (x := (⟨a0, 0⟩ : Bell_Set)) (sv := (svL [])) trivial
   obtain ⟨B_11, ns_12, hE', hI', hmv, hB_14, ho_13⟩ := publish_ (d := kd_Bell_Set) hE hI 0 (⟨a0, 0⟩ : Bell_Set) (svL []) 162 rfl
   replace ho_13 := ho_13 _ hct
   clear hct
   replace hE : Ep [] w w_10 ns_12 [[B_11]] := hE'
   have hmr := hmr_ ([[B_11]] : List (List Nat)) w_10
   replace hI := hI'
   clear hE' hI' hmv hmr
   obtain ⟨ns_16, hE', hI', hmv⟩ := hE.cut hI [3, 2] 0 (s_ [e_ 3 (.int .i64 0), e_ 2 (.pointer (some ⟨B_11, 0, none⟩))] []) (by kernel_rfl)
   have hmr := hmr_ ([[B_11]] : List (List Nat)) w_10
   replace ho_13 := Ob1.keep ho_13 (hmv _) (hmr _ (by simp))
   replace hE := hE'; replace hI := hI'; clear hE' hI' hmv hmr
   have ho_17 : Ojt lk_Bell_Set (Lo S w w_10 ns_16 [[B_11]]) w_10 B_11 (⟨a0, 0⟩ : Bell_Set) (B_11 :: ([])) := Ojt.mk' (k := lk_Bell_Set) (svL []) (Ob1.as ho_13 rfl id) ⟨rfl, trivial⟩
   obtain ⟨hE', hmv⟩ := Ep.group hE [0] (by decide) (B_11 :: ([])) rfl
   replace hE : Ep [] w w_10 ns_16 [(B_11 :: ([]))] := hE'
   replace hmv : ∀ S0, Mv (Lo S0 w w_10 ns_16 [[B_11]]) w_10 (Lo S0 w w_10 ns_16 [(B_11 :: ([]))]) w_10 := hmv
   have hmr := hmr_ ([(B_11 :: ([]))] : List (List Nat)) w_10
   replace ho_17 := Ojt.keep ho_17 (hmv _) (fun b hb => hmr b (flat_mem (by simp) hb))
   clear hE' hmv hmr
   refine wpIn_ret ?_
   obtain rfl := Option.some.inj H0
   subst hSd
   exact ret2 hI rfl rfl rfl ⟨(svL [(some ⟨B_11, 0, none⟩, 0)], fun i => ([(B_11 :: ([]))] : List (List Nat)).getD i []), rfl, hE.keeps hI, hE.handed [0] (by decide), OjtN.of (Ojt.keep ho_17 (hE.outO [0] _) (fun _ _ => rfl))⟩

noncomputable def G_mem_Mem_there (x0 : Mem_Mem) (a1 : Int) : Option (Bool) := some (decide (a1 < (IntKind.u64.wrap (x0.words.length : Int))))
theorem G_mem_Mem_there.calls (x0 : Mem_Mem) (a1 : Int) (B0 : Nat) (F0 : List Nat) (w : World) {S : Nat → Prop} (ho0 : Ojt lk_Mem_Mem (fun _ => True) w B0 x0 F0) (r : Bool) (h : G_mem_Mem_there x0 a1 = some r) :
    Calls Tryz.prog 127 #[.pointer (some (⟨B0, 0, none⟩ : Addr)), .int .u64 a1] w fun e w' => e = .returned (.bool r) ∧ Below w.heap.size w w' := by
  have hoK0 := ho0
  obtain ⟨svo0, F'0, hF0, hoE0, hl0⟩ := ho0.ex
  replace hoE0 := El.lo (Ob1.el hoE0 trivial)
  obtain ⟨_, hl0_0, _⟩ := hl0
  obtain ⟨hl0_0, hoR0_0l⟩ := hl0_0
  obtain ⟨hoR0_0, hoR0_0c⟩ := Row.arr (S' := fun _ => True) hl0_0 (fun _ _ => trivial) (fun _ _ => trivial)
  replace hoR0_0 := Arr.lo hoR0_0
  unfold G_mem_Mem_there at h
  have H0 := h
  clear h
  refine enter Tryz.func127 rfl [.pointer (some (⟨B0, 0, none⟩ : Addr)), .int .u64 a1] (n := 13) rfl (Nat.le_of_ble_eq_true rfl) (fun a hI => ?_)
  have hF : FOpen Fence.wide := .inl rfl
  have hE := Ep.start w
  refine sr0_ hF hI (s_ [e_ 4 (.bool false), e_ 0 (.pointer (some (⟨B0, 0, none⟩ : Addr))), e_ 1 (.int .u64 a1)] []) (by kernel_rfl) (fun ns_1 a w_2 hI => ?_)
  refine sr_ (orc := [[.slice ((svo0 0).1) x0.words.length ((svo0 0).2)]]) hF hI (s_ [e_ 4 (.bool (decide (a1 < (IntKind.u64.wrap (x0.words.length : Int)))))] []) [.cell true (⟨B0, 0, none⟩ : Addr) [.slice ((svo0 0).1) x0.words.length ((svo0 0).2)]] (by kernel_rfl) ⟨ob_el (fun _ => hoE0) 0 [.slice ((svo0 0).1) x0.words.length ((svo0 0).2)] (by rw [hoR0_0l]; rfl), trivial⟩ (fun ns_3 a w_4 hI => ?_)
  refine wpIn_ret ?_
  obtain rfl := Option.some.inj H0
  exact ret1 hI rfl rfl ⟨rfl, hE.below hI⟩

noncomputable def G_mem_Mem_Load (x0 : Mem_Mem) (a1 : Int) : Option (Int × Int) := ((G_mem_Mem_there x0 a1).bind fun t_3 => (bif (!t_3) then some (0, 6) else (req (inb a1 x0.words.length) (some ((rd x0.words a1), 0)))))
theorem G_mem_Mem_Load.calls (x0 : Mem_Mem) (a1 : Int) (B0 : Nat) (F0 : List Nat) (w : World) {S : Nat → Prop} (ho0 : Ojt lk_Mem_Mem (fun _ => True) w B0 x0 F0) (r : Int × Int) (h : G_mem_Mem_Load x0 a1 = some r) :
    Calls Tryz.prog 194 #[.pointer (some (⟨B0, 0, none⟩ : Addr)), .int .u64 a1] w fun e w' => e = .returned (.tuple #[.int .u32 r.1, .int .i64 r.2]) ∧ Below w.heap.size w w' := by
  have hoK0 := ho0
  obtain ⟨svo0, F'0, hF0, hoE0, hl0⟩ := ho0.ex
  replace hoE0 := El.lo (Ob1.el hoE0 trivial)
  obtain ⟨_, hl0_0, _⟩ := hl0
  obtain ⟨hl0_0, hoR0_0l⟩ := hl0_0
  obtain ⟨hoR0_0, hoR0_0c⟩ := Row.arr (S' := fun _ => True) hl0_0 (fun _ _ => trivial) (fun _ _ => trivial)
  replace hoR0_0 := Arr.lo hoR0_0
  unfold G_mem_Mem_Load at h
  have H0 := h
  clear h
  refine enter Tryz.func194 rfl [.pointer (some (⟨B0, 0, none⟩ : Addr)), .int .u64 a1] (n := 17) rfl (Nat.le_of_ble_eq_true rfl) (fun a hI => ?_)
  have hF : FOpen Fence.wide := .inl rfl
  have hE := Ep.start w
  refine sr0_ hF hI (s_ [e_ 5 (.int .i64 0), e_ 4 (.int .u32 0), e_ 0 (.pointer (some (⟨B0, 0, none⟩ : Addr))), e_ 1 (.int .u64 a1)] []) (by kernel_rfl) (fun ns_1 a w_2 hI => ?_)
  refine wpIn_seq ?_
  obtain ⟨t_3, hG_4, H0⟩ := bind_some H0
  refine sr_ (orc := [[.bool t_3]]) hF hI (s_ [e_ 9 (.bool (!t_3)), e_ 5 (.int .i64 0), e_ 4 (.int .u32 0), e_ 0 (.pointer (some (⟨B0, 0, none⟩ : Addr))), e_ 1 (.int .u64 a1)] []) [.call true 127 [.pointer (some (⟨B0, 0, none⟩ : Addr)), .int .u64 a1] (.bool t_3)] (by kernel_rfl) ⟨ob_call (enters Tryz.func127 (by kernel_rfl) rfl) (fun hg wz hk => G_mem_Mem_there.calls x0 a1 B0 F0 wz (S := fun _ => True) (hE.roOn hk hoK0) _ hG_4), trivial⟩ (fun ns_5 a w_6 hI => ?_)
  refine cond_ hI ((!t_3)) rfl (fun hc_7 => ?_) (fun hc_7 => ?_)
  ·replace H0 := bif_t hc_7 H0
   refine sr0_ hF hI (s_ [e_ 5 (.int .i64 6), e_ 4 (.int .u32 0)] []) (by kernel_rfl) (fun ns_8 a w_9 hI => ?_)
   refine wpIn_ret ?_
   refine then_ret ?_
   obtain rfl := Option.some.inj H0
   exact ret2 hI rfl rfl rfl ⟨rfl, hE.below hI⟩
  ·replace H0 := bif_f hc_7 H0
   refine wpIn_skip ?_
   refine then_normal ?_
   obtain ⟨hN_10, H0⟩ := req_some H0
   obtain ⟨sv_11, hE_13, hA_12⟩ := Arr.elB (d := (Kd.int .u32)) hoR0_0 a1 true (fun _ => hN_10)
   replace hE_13 := hE_13 rfl
   replace hA_12 := fun (_ : true = true) => hA_12 rfl
   refine sr_ (orc := [[.slice ((svo0 0).1) x0.words.length ((svo0 0).2)], [.int .u32 (rd x0.words a1)]]) hF hI (s_ [e_ 5 (.int .i64 0), e_ 4 (.int .u32 (rd x0.words a1))] []) [.cell true (⟨B0, 0, none⟩ : Addr) [.slice ((svo0 0).1) x0.words.length ((svo0 0).2)], .need true ((0 : Int) ≤ a1 ∧ a1 < (x0.words.length : Int)), .need true ((svo0 0).1 = some (adr ((svo0 0).1))), .cell true ((adr ((svo0 0).1)).add ((a1 : Int).toNat * 1)) [.int .u32 (rd x0.words a1)]] (by kernel_rfl) ⟨ob_el (fun _ => hoE0) 0 [.slice ((svo0 0).1) x0.words.length ((svo0 0).2)] (by rw [hoR0_0l]; rfl), ob_inb (fun _ => hN_10), hA_12, ob_el (fun _ => hE_13) 0 [.int .u32 (rd x0.words a1)] rfl, trivial⟩ (fun ns_14 a w_15 hI => ?_)
   refine wpIn_ret ?_
   obtain rfl := Option.some.inj H0
   exact ret2 hI rfl rfl rfl ⟨rfl, hE.below hI⟩

noncomputable def G_mem_Mem_Store (x0 : Mem_Mem) (a1 : Int) (a2 : Int) : Option (Int × Mem_Mem) := ((G_mem_Mem_there x0 a1).bind fun t_3 => (bif (!t_3) then some (6, x0) else (req (inb a1 x0.words.length) (some (0, (⟨(x0.words.set (a1 : Int).toNat a2)⟩ : Mem_Mem))))))
theorem G_mem_Mem_Store.calls (x0 : Mem_Mem) (a1 : Int) (a2 : Int) (B0 : Nat) (F0 : List Nat) (w : World) {S0_ : Nat → Prop} (ho0 : Ojt lk_Mem_Mem S0_ w B0 x0 F0) (hms : ∀ b, S0_ b → b ∉ ([F0] : List (List Nat)).flatten) (hmd : ([F0] : List (List Nat)).flatten.Nodup) (hml : ∀ b ∈ ([F0] : List (List Nat)).flatten, b < w.heap.size) (r : Int × Mem_Mem) (h : G_mem_Mem_Store x0 a1 a2 = some r) :
    Calls Tryz.prog 76 #[.pointer (some ⟨B0, 0, none⟩), .int .u64 a1, .int .u32 a2] w fun e w' => ∃ q : SV × (Nat → List Nat), e = .returned (.int .i64 r.1) ∧ Keeps (([F0] : List (List Nat)).flatten) w w' ∧ Handed w w' (([F0] : List (List Nat)).flatten) [q.2 0] ∧ Ojt lk_Mem_Mem (fun b => b ∉ ([q.2 0] : List (List Nat)).flatten ∧ (w.heap.size ≤ b ∨ S0_ b ∨ b ∈ ([F0] : List (List Nat)).flatten)) w' B0 r.2 (q.2 0) := by
  obtain ⟨S, hSd⟩ : ∃ S : Nat → Prop, S = fun b => S0_ b ∨ b ∈ (([F0] : List (List Nat)).flatten : List Nat) := ⟨_, rfl⟩
  replace ho0 := Ojt.keep ho0 (Mv.startP w hSd hms) (fun _ _ => rfl)
  unfold G_mem_Mem_Store at h
  have H0 := h
  clear h
  refine enter Tryz.func76 rfl [.pointer (some ⟨B0, 0, none⟩), .int .u64 a1, .int .u32 a2] (n := 18) rfl (Nat.le_of_ble_eq_true rfl) (fun a hI => ?_)
  have hF : FOpen Fence.wide := .inl rfl
  have hE := Ep.startM w [F0] hmd hml
  refine sr0_ hF hI (s_ [e_ 6 (.int .i64 0), e_ 0 (.pointer (some ⟨B0, 0, none⟩)), e_ 1 (.int .u64 a1), e_ 2 (.int .u32 a2)] []) (by kernel_rfl) (fun ns_1 a w_2 hI => ?_)
  refine wpIn_seq ?_
  obtain ⟨t_3, hG_4, H0⟩ := bind_some H0
  refine sr_ (orc := [[.bool t_3]]) hF hI (s_ [e_ 10 (.bool (!t_3)), e_ 6 (.int .i64 0), e_ 0 (.pointer (some ⟨B0, 0, none⟩)), e_ 1 (.int .u64 a1), e_ 2 (.int .u32 a2)] []) [.call true 127 [.pointer (some ⟨B0, 0, none⟩), .int .u64 a1] (.bool t_3)] (by kernel_rfl) ⟨ob_call (enters Tryz.func127 (by kernel_rfl) rfl) (fun hg wz hk => G_mem_Mem_there.calls x0 a1 B0 F0 wz (S := fun _ => True) (Ojt.any (Ojt.keep ho0 (Lo.on hk) (fun b hb => hk.block b (hE.mi b (flat_mem (by simp) hb)).2.1 (hE.mi b (flat_mem (by simp) hb)).2.2))) _ hG_4), trivial⟩ (fun ns_5 a w_6 hI => ?_)
  refine cond_ hI ((!t_3)) rfl (fun hc_7 => ?_) (fun hc_7 => ?_)
  ·replace H0 := bif_t hc_7 H0
   refine sr0_ hF hI (s_ [e_ 6 (.int .i64 6)] []) (by kernel_rfl) (fun ns_8 a w_9 hI => ?_)
   obtain ⟨hE', hmv, hmr⟩ := Ep.rebase hE hI
   replace ho0 := Ojt.keep ho0 (hmv _) (fun b hb => hmr b (flat_mem (by simp) hb))
   replace hE := hE'; replace hI := hI.rebase; clear hE' hmv hmr
   refine wpIn_ret ?_
   refine then_ret ?_
   obtain rfl := Option.some.inj H0
   subst hSd
   exact ret1 hI rfl rfl ⟨(svL [], fun i => ([F0] : List (List Nat)).getD i []), rfl, hE.keeps hI, hE.handed [0] (by decide), Ojt.keep ho0 (hE.outO [0] _) (fun _ _ => rfl)⟩
  ·replace H0 := bif_f hc_7 H0
   refine wpIn_skip ?_
   refine then_normal ?_
   obtain ⟨hE', hmv, hmr⟩ := Ep.rebase hE hI
   replace ho0 := Ojt.keep ho0 (hmv _) (fun b hb => hmr b (flat_mem (by simp) hb))
   replace hE := hE'; replace hI := hI.rebase; clear hE' hmv hmr
   obtain ⟨svo_10, F_11, hF_12, ho0, hl_13⟩ := ho0.ex
   obtain ⟨hF_15, hc_14, _⟩ := hl_13
   obtain ⟨hc_14, hc_14l⟩ := hc_14
   obtain ⟨hE', hmv⟩ := Ep.parts hE 0 [[B0], rb (svo_10 0).1] (by show F0 = _; rw [hF_12, hF_15]; rfl)
   replace hE : Ep ([F0] : List (List Nat)).flatten w w_6 ns_5 [[B0], rb (svo_10 0).1] := hE'
   replace hmv : ∀ S0, Mv (Lo S0 w w_6 ns_5 [F0]) w_6 (Lo S0 w w_6 ns_5 [[B0], rb (svo_10 0).1]) w_6 := hmv
   have hmr := hmr_ ([[B0], rb (svo_10 0).1] : List (List Nat)) w_6
   replace ho0 := Ob1.keep ho0 (hmv _) (hmr _ (by simp))
   replace hc_14 := Row.keep hc_14 (hmv _) (fun b hb => hmr b (by simp [hb]))
   clear hE' hmv hmr
   refine wpIn_seq ?_
   refine wpIn_region_lit ?_
   obtain ⟨hN_20, H0⟩ := req_some H0
   obtain ⟨sv_21, hE_23, hA_22⟩ := Row.elB hc_14 hE (by simp) a1 true (fun _ => hN_20)
   refine ck_ (orc := [[.slice ((svo_10 0).1) x0.words.length ((svo_10 0).2)]]) hF 7 hI (s_ [e_ 17 (.pointer (some ((adr ((svo_10 0).1)).add ((a1 : Int).toNat * 1)))), e_ 16 (.int .u32 a2), e_ 6 (.int .i64 0)] []) [.cell true ⟨B0, 0, none⟩ [.slice ((svo_10 0).1) x0.words.length ((svo_10 0).2)], .need true ((0 : Int) ≤ a1 ∧ a1 < (x0.words.length : Int)), .need true ((svo_10 0).1 = some (adr ((svo_10 0).1)))] rfl (by kernel_rfl) ⟨ob_o1 ho0 hE (by simp) true 0 [.slice ((svo_10 0).1) x0.words.length ((svo_10 0).2)] (by rw [hc_14l]; rfl), ob_inb (fun _ => hN_20), hA_22, trivial⟩ (fun ns_24 a w_25 hI => ?_)
   obtain ⟨hE', hmv, hmr⟩ := Ep.rebase hE hI
   replace ho0 := Ob1.keep ho0 (hmv _) (hmr _ (by simp))
   replace hc_14 := Row.keep hc_14 (hmv _) (fun b hb => hmr b (by simp [hb]))
   replace hE := hE'; replace hI := hI.rebase; clear hE' hmv hmr
   refine storeSeg_ (S0 := S) (d := (Kd.int .u32)) (e := 60) (l := x0.words) (A := ((svo_10 0).1)) (i := a1) (off := 0) hF hE hI (wanted_none rfl) rfl rfl (ad := ((adr ((svo_10 0).1)).add ((a1 : Int).toNat * 1))) rfl rfl rfl (vs := [.int .u32 a2]) rfl rfl rfl rfl (by simp) hN_20 hc_14 a2 (fun _ => (svL [])) (fun _ => rfl) (fun sv h => trivial) (fun a w_26 hput hE' hI' hmv hmr hc_14 => ?_)
   replace ho0 := Ob1.keep ho0 (hmv _) (hmr _ (by simp) (Ep.ne hE (i := 1) (j := 0) (by decide) rfl rfl (List.mem_singleton.2 rfl)))
   replace hE := hE'; replace hI := hI'; clear hE' hI' hmv hmr
   have hln_27 : (x0.words.set (a1 : Int).toNat a2).length = x0.words.length := List.length_set
   refine ck0_ hF 0 hI (s_ [e_ 6 (.int .i64 0)] []) rfl (by kernel_rfl) (fun ns_29 a w_30 hI => ?_)
   refine wpListIn_nil ?_
   refine then_normal ?_
   refine sr0_ hF hI (s_ [e_ 6 (.int .i64 0)] []) (by kernel_rfl) (fun ns_31 a w_32 hI => ?_)
   obtain ⟨hE', hmv, hmr⟩ := Ep.rebase hE hI
   replace ho0 := Ob1.keep ho0 (hmv _) (hmr _ (by simp))
   replace hc_14 := Row.keep hc_14 (hmv _) (fun b hb => hmr b (by simp [hb]))
   replace hE := hE'; replace hI := hI.rebase; clear hE' hmv hmr
   have ho_33 : Ojt lk_Mem_Mem (Lo S w w_32 ns_31 [[B0], rb (svo_10 0).1]) w_32 B0 (⟨(x0.words.set (a1 : Int).toNat a2)⟩ : Mem_Mem) (B0 :: (rb (svo_10 0).1 ++ ([]))) := Ojt.mk' (k := lk_Mem_Mem) svo_10 (Ob1.as ho0 rfl id) ⟨rfl, ⟨Row.down hc_14, (hln_27.trans hc_14l)⟩, trivial⟩
   obtain ⟨hE', hmv⟩ := Ep.group hE [0, 1] (by decide) (B0 :: (rb (svo_10 0).1 ++ ([]))) rfl
   replace hE : Ep ([F0] : List (List Nat)).flatten w w_32 ns_31 [(B0 :: (rb (svo_10 0).1 ++ ([])))] := hE'
   replace hmv : ∀ S0, Mv (Lo S0 w w_32 ns_31 [[B0], rb (svo_10 0).1]) w_32 (Lo S0 w w_32 ns_31 [(B0 :: (rb (svo_10 0).1 ++ ([])))]) w_32 := hmv
   have hmr := hmr_ ([(B0 :: (rb (svo_10 0).1 ++ ([])))] : List (List Nat)) w_32
   replace ho_33 := Ojt.keep ho_33 (hmv _) (fun b hb => hmr b (flat_mem (by simp) hb))
   clear hE' hmv hmr
   refine wpIn_ret ?_
   obtain rfl := Option.some.inj H0
   subst hSd
   exact ret1 hI rfl rfl ⟨(svL [], fun i => ([(B0 :: (rb (svo_10 0).1 ++ ([])))] : List (List Nat)).getD i []), rfl, hE.keeps hI, hE.handed [0] (by decide), Ojt.keep ho_33 (hE.outO [0] _) (fun _ _ => rfl)⟩

noncomputable def G_task_Task_Step (x0 : Task_Task) (x1 : Mem_Mem) (x2 : Bell_Set) (a3 : Int) : Option (Did × Task_Task × Mem_Mem × Bell_Set) := (bif x0.all.over then some ((⟨false, (⟨0, [], false, 0⟩ : Answer), false, false, false, 0⟩ : Did), x0, x1, x2) else (Fn133.on x0.all.work none (fun y_27 => (bif ((y_27.words.length : Int) == 0) then ((G_mem_Mem_Load x1 y_27.at_).bind fun t_40 => some ((⟨true, (⟨0, ([t_40.1] : List Int), false, 0⟩ : Answer), true, false, false, 0⟩ : Did), (⟨(⟨(Fn133.t221 y_27), (IntKind.i64.wrap (x0.all.steps + 1)), true⟩ : Task_work_), x0.own⟩ : Task_Task), x1, x2)) else (req (inb 0 y_27.words.length) ((G_mem_Mem_Store x1 y_27.at_ (rd y_27.words 0)).bind fun t_78 => some ((⟨true, (⟨0, [], false, 0⟩ : Answer), true, false, false, 0⟩ : Did), (⟨(⟨(Fn133.t221 y_27), (IntKind.i64.wrap (x0.all.steps + 1)), true⟩ : Task_work_), x0.own⟩ : Task_Task), t_78.2, x2)))))))
theorem G_task_Task_Step.calls (x0 : Task_Task) (x1 : Mem_Mem) (x2 : Bell_Set) (a3 : Int) (B0 : Nat) (F0 : List Nat) (B1 : Nat) (F1 : List Nat) (B2 : Nat) (F2 : List Nat) (w : World) {S0_ : Nat → Prop} (ho0 : Ojt lk_Task_Task S0_ w B0 x0 F0) (ho1 : Ojt lk_Mem_Mem S0_ w B1 x1 F1) (ho2 : Ojt lk_Bell_Set S0_ w B2 x2 F2) (hms : ∀ b, S0_ b → b ∉ ([F0, F1, F2] : List (List Nat)).flatten) (hmd : ([F0, F1, F2] : List (List Nat)).flatten.Nodup) (hml : ∀ b ∈ ([F0, F1, F2] : List (List Nat)).flatten, b < w.heap.size) (r : Did × Task_Task × Mem_Mem × Bell_Set) (h : G_task_Task_Step x0 x1 x2 a3 = some r) :
    Calls Tryz.prog 31 #[.pointer (some ⟨B0, 0, none⟩), .pointer (some ⟨B1, 0, none⟩), .pointer (some ⟨B2, 0, none⟩), .int .i64 a3] w fun e w' => ∃ q : SV × (Nat → List Nat), e = .returned (.agg ((kd_Did).cells r.1 q.1).toArray) ∧ Keeps (([F0, F1, F2] : List (List Nat)).flatten) w w' ∧ Handed w w' (([F0, F1, F2] : List (List Nat)).flatten) [q.2 0, q.2 1, q.2 2] ∧ (kd_Did).cont (fun b => b ∉ ([q.2 0, q.2 1, q.2 2] : List (List Nat)).flatten ∧ (w.heap.size ≤ b ∨ S0_ b ∨ b ∈ ([F0, F1, F2] : List (List Nat)).flatten)) w' r.1 q.1 ∧ Ojt lk_Task_Task (fun b => b ∉ ([q.2 0, q.2 1, q.2 2] : List (List Nat)).flatten ∧ (w.heap.size ≤ b ∨ S0_ b ∨ b ∈ ([F0, F1, F2] : List (List Nat)).flatten)) w' B0 r.2.1 (q.2 0) ∧ Ojt lk_Mem_Mem (fun b => b ∉ ([q.2 0, q.2 1, q.2 2] : List (List Nat)).flatten ∧ (w.heap.size ≤ b ∨ S0_ b ∨ b ∈ ([F0, F1, F2] : List (List Nat)).flatten)) w' B1 r.2.2.1 (q.2 1) ∧ Ojt lk_Bell_Set (fun b => b ∉ ([q.2 0, q.2 1, q.2 2] : List (List Nat)).flatten ∧ (w.heap.size ≤ b ∨ S0_ b ∨ b ∈ ([F0, F1, F2] : List (List Nat)).flatten)) w' B2 r.2.2.2 (q.2 2) := by
  obtain ⟨S, hSd⟩ : ∃ S : Nat → Prop, S = fun b => S0_ b ∨ b ∈ (([F0, F1, F2] : List (List Nat)).flatten : List Nat) := ⟨_, rfl⟩
  replace ho0 := Ojt.keep ho0 (Mv.startP w hSd hms) (fun _ _ => rfl)
  replace ho1 := Ojt.keep ho1 (Mv.startP w hSd hms) (fun _ _ => rfl)
  replace ho2 := Ojt.keep ho2 (Mv.startP w hSd hms) (fun _ _ => rfl)
  unfold G_task_Task_Step at h
  have H0 := h
  clear h
  refine enter Tryz.func31 rfl [.pointer (some ⟨B0, 0, none⟩), .pointer (some ⟨B1, 0, none⟩), .pointer (some ⟨B2, 0, none⟩), .int .i64 a3] (n := 16) rfl (Nat.le_of_ble_eq_true rfl) (fun a hI => ?_)
  have hF : FOpen Fence.wide := .inl rfl
  have hE := Ep.startM w [F0, F1, F2] hmd hml
  refine sr0_ hF hI (s_ [p_ 8 0 0, e_ 0 (.pointer (some ⟨B0, 0, none⟩)), e_ 1 (.pointer (some ⟨B1, 0, none⟩)), e_ 2 (.pointer (some ⟨B2, 0, none⟩)), e_ 3 (.int .i64 a3)] [([.v (.bool false), .v (.int .i64 0), .v (.slice none 0 0), .v (.bool false), .v (.int .i64 0), .v (.bool false), .v (.bool false), .v (.bool false), .v (.int .i64 0)], 76)]) (by kernel_rfl) (fun ns_1 a w_2 hI => ?_)
  refine wpIn_seq ?_
  refine wpIn_region_lit ?_
  refine ck0_ hF 6 hI (s_ [e_ 14 (.int .i64 a3), e_ 13 (.pointer (some ⟨B2, 0, none⟩)), e_ 12 (.pointer (some ⟨B1, 0, none⟩)), e_ 11 (.pointer (some ⟨B0, 0, none⟩)), p_ 8 0 0] [([.v (.bool false), .v (.int .i64 0), .v (.slice none 0 0), .v (.bool false), .v (.int .i64 0), .v (.bool false), .v (.bool false), .v (.bool false), .v (.int .i64 0)], 76)]) rfl (by kernel_rfl) (fun ns_3 a w_4 hI => ?_)
  obtain ⟨hE', hmv, hmr⟩ := Ep.rebase hE hI
  replace ho0 := Ojt.keep ho0 (hmv _) (fun b hb => hmr b (flat_mem (by simp) hb))
  replace ho1 := Ojt.keep ho1 (hmv _) (fun b hb => hmr b (flat_mem (by simp) hb))
  replace ho2 := Ojt.keep ho2 (hmv _) (fun b hb => hmr b (flat_mem (by simp) hb))
  replace hE := hE'; replace hI := hI.rebase; clear hE' hmv hmr
  refine callI_ hF hI (wanted_none rfl) rfl Tryz.func74 (by kernel_rfl) rfl (n' := 36) rfl (by kernel_rfl) (by kernel_rfl) (fun au_5 hIu_5 => ?_)
  have hOu_5 := hI
  have hFu_5 := hF
  have hF : FOpen Fence.wide := .inl rfl
  have hI : St w_4 ns_3 36 ⟨[e_ 0 (.pointer (some ⟨B0, 0, none⟩)), e_ 1 (.pointer (some ⟨B1, 0, none⟩)), e_ 2 (.pointer (some ⟨B2, 0, none⟩)), e_ 3 (.int .i64 a3)], [], [], [([.v (.bool false), .v (.int .i64 0), .v (.slice none 0 0), .v (.bool false), .v (.int .i64 0), .v (.bool false), .v (.bool false), .v (.bool false), .v (.int .i64 0)], 76)], none, some (1, ns_3)⟩ ns_3 au_5 w_4 := hIu_5
  clear hIu_5
  refine seq_region (live := [8, 0, 1, 2, 3]) (orc := []) hF hI ⟨[p_ 8 1 0, e_ 0 (.pointer (some ⟨B0, 0, none⟩)), e_ 1 (.pointer (some ⟨B1, 0, none⟩)), e_ 2 (.pointer (some ⟨B2, 0, none⟩)), e_ 3 (.int .i64 a3)], [], [], [([.v (.bool false), .v (.int .i64 0), .v (.slice none 0 0), .v (.bool false), .v (.int .i64 0), .v (.bool false), .v (.bool false), .v (.bool false), .v (.int .i64 0)], 76), ([.v (.bool false), .v (.int .i64 0), .v (.slice none 0 0), .v (.bool false), .v (.int .i64 0), .v (.bool false), .v (.bool false), .v (.bool false), .v (.int .i64 0)], 76)], none, some (1, ns_3)⟩ [] (by kernel_rfl) trivial (fun ns_6 a w_7 hI _ => ?_)
  refine wpIn_seq ?_
  obtain ⟨hE', hmv, hmr⟩ := Ep.rebase hE hI
  replace ho0 := Ojt.keep ho0 (hmv _) (fun b hb => hmr b (flat_mem (by simp) hb))
  replace ho1 := Ojt.keep ho1 (hmv _) (fun b hb => hmr b (flat_mem (by simp) hb))
  replace ho2 := Ojt.keep ho2 (hmv _) (fun b hb => hmr b (flat_mem (by simp) hb))
  replace hE := hE'; replace hI := hI.rebase; clear hE' hmv hmr
  obtain ⟨svo_8, F_9, hF_10, ho0, hl_11⟩ := ho0.ex
  obtain ⟨hF_12, _⟩ := hl_11
  obtain ⟨hE', hmv⟩ := Ep.parts hE 0 [[B0]] (by show F0 = _; rw [hF_10, hF_12]; rfl)
  replace hE : Ep ([F0, F1, F2] : List (List Nat)).flatten w w_7 ns_6 [F1, F2, [B0]] := hE'
  replace hmv : ∀ S0, Mv (Lo S0 w w_7 ns_6 [F0, F1, F2]) w_7 (Lo S0 w w_7 ns_6 [F1, F2, [B0]]) w_7 := hmv
  have hmr := hmr_ ([F1, F2, [B0]] : List (List Nat)) w_7
  replace ho1 := Ojt.keep ho1 (hmv _) (fun b hb => hmr b (flat_mem (by simp) hb))
  replace ho2 := Ojt.keep ho2 (hmv _) (fun b hb => hmr b (flat_mem (by simp) hb))
  replace ho0 := Ob1.keep ho0 (hmv _) (hmr _ (by simp))
  clear hE' hmv hmr
  refine seq_region (live := [13, 8, 0, 1, 2, 3]) (orc := [[.bool x0.all.over]]) hF hI ⟨[e_ 13 (.bool x0.all.over), p_ 8 1 0, e_ 0 (.pointer (some ⟨B0, 0, none⟩)), e_ 1 (.pointer (some ⟨B1, 0, none⟩)), e_ 2 (.pointer (some ⟨B2, 0, none⟩)), e_ 3 (.int .i64 a3)], [], [], [([.v (.bool false), .v (.int .i64 0), .v (.slice none 0 0), .v (.bool false), .v (.int .i64 0), .v (.bool false), .v (.bool false), .v (.bool false), .v (.int .i64 0)], 76), ([.v (.bool false), .v (.int .i64 0), .v (.slice none 0 0), .v (.bool false), .v (.int .i64 0), .v (.bool false), .v (.bool false), .v (.bool false), .v (.int .i64 0)], 76)], none, some (1, ns_3)⟩ [.cell true ((⟨B0, 0, none⟩ : Addr).add 2) [.bool x0.all.over]] (by kernel_rfl) ⟨ob_o1 ho0 hE (by simp) true 2 [.bool x0.all.over] rfl, trivial⟩ (fun ns_15 a w_16 hI _ => ?_)
  refine cond_ hI (x0.all.over) rfl (fun hc_17 => ?_) (fun hc_17 => ?_)
  ·replace H0 := bif_t hc_17 H0
   refine seq_region (live := [8]) (orc := []) hF hI ⟨[p_ 8 1 0], [], [], [([.v (.bool false), .v (.int .i64 0), .v (.slice none 0 0), .v (.bool false), .v (.int .i64 0), .v (.bool false), .v (.bool false), .v (.bool false), .v (.int .i64 0)], 76), ([.v (.bool false), .v (.int .i64 0), .v (.slice none 0 0), .v (.bool false), .v (.int .i64 0), .v (.bool false), .v (.bool false), .v (.bool false), .v (.int .i64 0)], 76)], none, some (1, ns_3)⟩ [] (by kernel_rfl) trivial (fun ns_18 a w_19 hI _ => ?_)
   refine wpIn_ret ?_
   refine then_ret ?_
   obtain ⟨hE', hmv, hmr⟩ := Ep.rebase hE hI
   replace ho1 := Ojt.keep ho1 (hmv _) (fun b hb => hmr b (flat_mem (by simp) hb))
   replace ho2 := Ojt.keep ho2 (hmv _) (fun b hb => hmr b (flat_mem (by simp) hb))
   replace ho0 := Ob1.keep ho0 (hmv _) (hmr _ (by simp))
   replace hE := hE'; replace hI := hI.rebase; clear hE' hmv hmr
   obtain ⟨hE', hI', hmv⟩ := Ep.uncall (bs := [([.v (.bool false), .v (.int .i64 0), .v (.slice none 0 0), .v (.bool false), .v (.int .i64 0), .v (.bool false), .v (.bool false), .v (.bool false), .v (.int .i64 0)], 76)]) hOu_5 hE hI rfl rfl rfl rfl (by kernel_rfl) rfl
   have hmr := hmr_ ([F1, F2, [B0]] : List (List Nat)) w_19
   replace ho1 := Ojt.keep ho1 (hmv _) (fun b hb => hmr b (flat_mem (by simp) hb))
   replace ho2 := Ojt.keep ho2 (hmv _) (fun b hb => hmr b (flat_mem (by simp) hb))
   replace ho0 := Ob1.keep ho0 (hmv _) (hmr _ (by simp))
   replace hE := hE'
   clear hE' hmv hmr
   refine retG hI rfl rfl ⟨.agg #[.bool false, .int .i64 0, .slice none 0 0, .bool false, .int .i64 0, .bool false, .bool false, .bool false, .int .i64 0], rfl, ?_⟩
   refine putI_ hI' (s_ [e_ 15 (.agg #[.bool false, .int .i64 0, .slice none 0 0, .bool false, .int .i64 0, .bool false, .bool false, .bool false, .int .i64 0]), e_ 14 (.int .i64 a3), e_ 13 (.pointer (some ⟨B2, 0, none⟩)), e_ 12 (.pointer (some ⟨B1, 0, none⟩)), e_ 11 (.pointer (some ⟨B0, 0, none⟩)), p_ 8 0 0] [([.v (.bool false), .v (.int .i64 0), .v (.slice none 0 0), .v (.bool false), .v (.int .i64 0), .v (.bool false), .v (.bool false), .v (.bool false), .v (.int .i64 0)], 76)]) (by kernel_rfl) (fun a hI => ?_)
   clear hI'
   have hF := hFu_5
   refine ck0_ hF 1 hI (s_ [p_ 8 0 0] [([.v (.bool false), .v (.int .i64 0), .v (.slice none 0 0), .v (.bool false), .v (.int .i64 0), .v (.bool false), .v (.bool false), .v (.bool false), .v (.int .i64 0)], 76)]) rfl (by kernel_rfl) (fun ns_20 a w_21 hI => ?_)
   refine wpListIn_nil ?_
   refine then_normal ?_
   obtain ⟨hE', hmv, hmr⟩ := Ep.rebase hE hI
   replace ho1 := Ojt.keep ho1 (hmv _) (fun b hb => hmr b (flat_mem (by simp) hb))
   replace ho2 := Ojt.keep ho2 (hmv _) (fun b hb => hmr b (flat_mem (by simp) hb))
   replace ho0 := Ob1.keep ho0 (hmv _) (hmr _ (by simp))
   replace hE := hE'; replace hI := hI.rebase; clear hE' hmv hmr
   have ho_22 : Ojt lk_Task_Task (Lo S w w_21 ns_20 [F1, F2, [B0]]) w_21 B0 x0 (B0 :: ([])) := Ojt.mk' (k := lk_Task_Task) svo_8 (Ob1.as ho0 rfl id) ⟨rfl, trivial⟩
   obtain ⟨hE', hmv⟩ := Ep.group hE [2] (by decide) (B0 :: ([])) rfl
   replace hE : Ep ([F0, F1, F2] : List (List Nat)).flatten w w_21 ns_20 [F1, F2, (B0 :: ([]))] := hE'
   replace hmv : ∀ S0, Mv (Lo S0 w w_21 ns_20 [F1, F2, [B0]]) w_21 (Lo S0 w w_21 ns_20 [F1, F2, (B0 :: ([]))]) w_21 := hmv
   have hmr := hmr_ ([F1, F2, (B0 :: ([]))] : List (List Nat)) w_21
   replace ho1 := Ojt.keep ho1 (hmv _) (fun b hb => hmr b (flat_mem (by simp) hb))
   replace ho2 := Ojt.keep ho2 (hmv _) (fun b hb => hmr b (flat_mem (by simp) hb))
   replace ho_22 := Ojt.keep ho_22 (hmv _) (fun b hb => hmr b (flat_mem (by simp) hb))
   clear hE' hmv hmr
   refine wpIn_ret ?_
   obtain rfl := Option.some.inj H0
   subst hSd
   exact retCell hI rfl rfl rfl rfl rfl rfl ⟨(svL [(none, 0)], fun i => ([(B0 :: ([])), F1, F2] : List (List Nat)).getD i []), rfl, hE.keeps hI, hE.handed [2, 0, 1] (by decide), ⟨⟨(Arr.nil _ _ _ _), (Nat.le_refl _)⟩, trivial⟩, Ojt.keep ho_22 (hE.outO [2, 0, 1] _) (fun _ _ => rfl), Ojt.keep ho1 (hE.outO [2, 0, 1] _) (fun _ _ => rfl), Ojt.keep ho2 (hE.outO [2, 0, 1] _) (fun _ _ => rfl)⟩
  ·replace H0 := bif_f hc_17 H0
   refine wpIn_skip ?_
   refine then_normal ?_
   obtain ⟨hE', hmv, hmr⟩ := Ep.rebase hE hI
   replace ho1 := Ojt.keep ho1 (hmv _) (fun b hb => hmr b (flat_mem (by simp) hb))
   replace ho2 := Ojt.keep ho2 (hmv _) (fun b hb => hmr b (flat_mem (by simp) hb))
   replace ho0 := Ob1.keep ho0 (hmv _) (hmr _ (by simp))
   replace hE := hE'; replace hI := hI.rebase; clear hE' hmv hmr
   rcases Fn133.split H0 with ⟨hx_26, H0⟩ | ⟨y_27, hx_26, H0⟩
   ·replace hI := Inv.cast (σf := fun q_ => ⟨[e_ 13 (.bool x0.all.over), p_ 8 1 0, e_ 0 (.pointer (some ⟨B0, 0, none⟩)), e_ 1 (.pointer (some ⟨B1, 0, none⟩)), e_ 2 (.pointer (some ⟨B2, 0, none⟩)), e_ 3 (.int .i64 a3)], [], [], [([.v (.bool false), .v (.int .i64 0), .v (.slice none 0 0), .v (.bool false), .v (.int .i64 0), .v (.bool false), .v (.bool false), .v (.bool false), .v (.int .i64 0)], 76), ([.v (.bool false), .v (.int .i64 0), .v (.slice none 0 0), .v (.bool false), .v (.int .i64 0), .v (.bool false), .v (.bool false), .v (.bool false), .v (.int .i64 0)], 76)], none, some (1, ns_3)⟩) (show fnv133 x0.all.work svo_8 = .nilIface from by rw [hx_26]; rfl) hI
    replace ho0 : Ob1 kd_Task_Task 140 (Lo S w w_16 ns_15 [F1, F2, [B0]]) w_16 B0 (⟨(⟨Fn133.nil, x0.all.steps, x0.all.over⟩ : Task_work_), x0.own⟩ : Task_Task) svo_8 := by rw [← hx_26]; exact Ob1.as ho0 rfl id
    cases H0
   ·replace hI := Inv.cast (σf := fun q_ => ⟨[e_ 13 (.bool x0.all.over), p_ 8 1 0, e_ 0 (.pointer (some ⟨B0, 0, none⟩)), e_ 1 (.pointer (some ⟨B1, 0, none⟩)), e_ 2 (.pointer (some ⟨B2, 0, none⟩)), e_ 3 (.int .i64 a3)], [], [], [([.v (.bool false), .v (.int .i64 0), .v (.slice none 0 0), .v (.bool false), .v (.int .i64 0), .v (.bool false), .v (.bool false), .v (.bool false), .v (.int .i64 0)], 76), ([.v (.bool false), .v (.int .i64 0), .v (.slice none 0 0), .v (.bool false), .v (.int .i64 0), .v (.bool false), .v (.bool false), .v (.bool false), .v (.int .i64 0)], 76)], none, some (1, ns_3)⟩) (show fnv133 x0.all.work svo_8 = .iface 221 (.agg ((kd_Task_cell).cells y_27 svo_8).toArray) from by rw [hx_26]; rfl) hI
    replace ho0 : Ob1 kd_Task_Task 140 (Lo S w w_16 ns_15 [F1, F2, [B0]]) w_16 B0 (⟨(⟨(Fn133.t221 y_27), x0.all.steps, x0.all.over⟩ : Task_work_), x0.own⟩ : Task_Task) svo_8 := by rw [← hx_26]; exact Ob1.as ho0 rfl id
    refine wpIn_seq ?_
    refine wpIn_region_lit ?_
    refine chunkL_ (live := [21, 20, 19, 18, 8, 0]) (orc := [[.iface 221 (.agg ((kd_Task_cell).cells y_27 svo_8).toArray)]]) hF 7 hI ⟨[e_ 21 (.int .i64 a3), e_ 20 (.pointer (some ⟨B2, 0, none⟩)), e_ 19 (.pointer (some ⟨B1, 0, none⟩)), e_ 18 (.iface 221 (.agg ((kd_Task_cell).cells y_27 svo_8).toArray)), p_ 8 1 0, e_ 0 (.pointer (some ⟨B0, 0, none⟩))], [], [], [([.v (.bool false), .v (.int .i64 0), .v (.slice none 0 0), .v (.bool false), .v (.int .i64 0), .v (.bool false), .v (.bool false), .v (.bool false), .v (.int .i64 0)], 76), ([.v (.bool false), .v (.int .i64 0), .v (.slice none 0 0), .v (.bool false), .v (.int .i64 0), .v (.bool false), .v (.bool false), .v (.bool false), .v (.int .i64 0)], 76)], none, some (1, ns_3)⟩ [.cell true ⟨B0, 0, none⟩ [.iface 221 (.agg ((kd_Task_cell).cells y_27 svo_8).toArray)]] rfl (by kernel_rfl) ⟨ob_o1 ho0 hE (by simp) true 0 [.iface 221 (.agg ((kd_Task_cell).cells y_27 svo_8).toArray)] rfl, trivial⟩ (fun ns_30 a w_31 hI => ?_)
    obtain ⟨hE', hmv, hmr⟩ := Ep.rebase hE hI
    replace ho1 := Ojt.keep ho1 (hmv _) (fun b hb => hmr b (flat_mem (by simp) hb))
    replace ho2 := Ojt.keep ho2 (hmv _) (fun b hb => hmr b (flat_mem (by simp) hb))
    replace ho0 := Ob1.keep ho0 (hmv _) (hmr _ (by simp))
    replace hE := hE'; replace hI := hI.rebase; clear hE' hmv hmr
    refine callIm_ hF hI (wanted_none rfl) (f := 280) (es := [.v (.agg ((kd_Task_cell).cells y_27 svo_8).toArray), .v (.pointer (some ⟨B1, 0, none⟩)), .v (.pointer (some ⟨B2, 0, none⟩)), .v (.int .i64 a3)]) (cs := []) (by kernel_rfl) Tryz.func280 (by kernel_rfl) rfl (n' := 38) rfl (by kernel_rfl) (by kernel_rfl) (fun au_32 hIu_32 => ?_)
    have hOu_32 := hI
    have hFu_32 := hF
    have hF : FOpen Fence.wide := .inl rfl
    have hI : St w_31 ns_30 38 ⟨[e_ 0 (.agg ((kd_Task_cell).cells y_27 svo_8).toArray), e_ 1 (.pointer (some ⟨B1, 0, none⟩)), e_ 2 (.pointer (some ⟨B2, 0, none⟩)), e_ 3 (.int .i64 a3)], [], [], [([.v (.bool false), .v (.int .i64 0), .v (.slice none 0 0), .v (.bool false), .v (.int .i64 0), .v (.bool false), .v (.bool false), .v (.bool false), .v (.int .i64 0)], 76), ([.v (.bool false), .v (.int .i64 0), .v (.slice none 0 0), .v (.bool false), .v (.int .i64 0), .v (.bool false), .v (.bool false), .v (.bool false), .v (.int .i64 0)], 76)], none, some (2, ns_30)⟩ ns_30 au_32 w_31 := hIu_32
    clear hIu_32
    refine seq_region (live := [8, 4, 1]) (orc := []) hF hI ⟨[p_ 8 3 0, p_ 4 2 0, e_ 1 (.pointer (some ⟨B1, 0, none⟩))], [], [], [([.v (.bool false), .v (.int .i64 0), .v (.slice none 0 0), .v (.bool false), .v (.int .i64 0), .v (.bool false), .v (.bool false), .v (.bool false), .v (.int .i64 0)], 76), ([.v (.bool false), .v (.int .i64 0), .v (.slice none 0 0), .v (.bool false), .v (.int .i64 0), .v (.bool false), .v (.bool false), .v (.bool false), .v (.int .i64 0)], 76), ((((kd_Task_cell).cells y_27 svo_8).map EV.v), 221), ([.v (.bool false), .v (.int .i64 0), .v (.slice none 0 0), .v (.bool false), .v (.int .i64 0), .v (.bool false), .v (.bool false), .v (.bool false), .v (.int .i64 0)], 76)], none, some (2, ns_30)⟩ [] (by kernel_rfl) trivial (fun ns_33 a w_34 hI _ => ?_)
    refine seq_region (live := [9, 8, 4, 1]) (orc := []) hF hI ⟨[p_ 9 4 0, p_ 8 3 0, p_ 4 2 0, e_ 1 (.pointer (some ⟨B1, 0, none⟩))], [], [], [([.v (.bool false), .v (.int .i64 0), .v (.slice none 0 0), .v (.bool false), .v (.int .i64 0), .v (.bool false), .v (.bool false), .v (.bool false), .v (.int .i64 0)], 76), ([.v (.bool false), .v (.int .i64 0), .v (.slice none 0 0), .v (.bool false), .v (.int .i64 0), .v (.bool false), .v (.bool false), .v (.bool false), .v (.int .i64 0)], 76), ((((kd_Task_cell).cells y_27 svo_8).map EV.v), 221), ([.v (.bool false), .v (.int .i64 0), .v (.slice none 0 0), .v (.bool false), .v (.int .i64 0), .v (.bool false), .v (.bool false), .v (.bool false), .v (.int .i64 0)], 76), ([.v (.bool true), .v (.int .i64 0), .v (.slice none 0 0), .v (.bool false), .v (.int .i64 0), .v (.bool true), .v (.bool false), .v (.bool false), .v (.int .i64 0)], 76)], none, some (2, ns_30)⟩ [] (by kernel_rfl) trivial (fun ns_35 a w_36 hI _ => ?_)
    refine wpIn_seq ?_
    refine seq_region (live := [16, 9, 8, 4, 1]) (orc := []) hF hI ⟨[e_ 16 (.bool ((y_27.words.length : Int) == 0)), p_ 9 4 0, p_ 8 3 0, p_ 4 2 0, e_ 1 (.pointer (some ⟨B1, 0, none⟩))], [], [], [([.v (.bool false), .v (.int .i64 0), .v (.slice none 0 0), .v (.bool false), .v (.int .i64 0), .v (.bool false), .v (.bool false), .v (.bool false), .v (.int .i64 0)], 76), ([.v (.bool false), .v (.int .i64 0), .v (.slice none 0 0), .v (.bool false), .v (.int .i64 0), .v (.bool false), .v (.bool false), .v (.bool false), .v (.int .i64 0)], 76), ((((kd_Task_cell).cells y_27 svo_8).map EV.v), 221), ([.v (.bool false), .v (.int .i64 0), .v (.slice none 0 0), .v (.bool false), .v (.int .i64 0), .v (.bool false), .v (.bool false), .v (.bool false), .v (.int .i64 0)], 76), ([.v (.bool true), .v (.int .i64 0), .v (.slice none 0 0), .v (.bool false), .v (.int .i64 0), .v (.bool true), .v (.bool false), .v (.bool false), .v (.int .i64 0)], 76)], none, some (2, ns_30)⟩ [] (by kernel_rfl) trivial (fun ns_37 a w_38 hI _ => ?_)
    refine cond_ hI (((y_27.words.length : Int) == 0)) rfl (fun hc_39 => ?_) (fun hc_39 => ?_)
    ·replace H0 := bif_t hc_39 H0
     obtain ⟨t_40, hG_41, H0⟩ := bind_some H0
     refine seq_region (live := [10, 9, 8]) (orc := [[.tuple #[.int .u32 t_40.1, .int .i64 t_40.2]]]) hF hI ⟨[e_ 10 (.int .u32 t_40.1), p_ 9 4 0, p_ 8 3 0], [], [], [([.v (.bool false), .v (.int .i64 0), .v (.slice none 0 0), .v (.bool false), .v (.int .i64 0), .v (.bool false), .v (.bool false), .v (.bool false), .v (.int .i64 0)], 76), ([.v (.bool false), .v (.int .i64 0), .v (.slice none 0 0), .v (.bool false), .v (.int .i64 0), .v (.bool false), .v (.bool false), .v (.bool false), .v (.int .i64 0)], 76), ((((kd_Task_cell).cells y_27 svo_8).map EV.v), 221), ([.v (.bool false), .v (.int .i64 0), .v (.slice none 0 0), .v (.bool false), .v (.int .i64 0), .v (.bool false), .v (.bool false), .v (.bool false), .v (.int .i64 0)], 76), ([.v (.bool true), .v (.int .i64 0), .v (.slice none 0 0), .v (.bool false), .v (.int .i64 0), .v (.bool true), .v (.bool false), .v (.bool false), .v (.int .i64 0)], 76)], none, some (2, ns_30)⟩ [.call true 194 [.pointer (some ⟨B1, 0, none⟩), .int .u64 y_27.at_] (.tuple #[.int .u32 t_40.1, .int .i64 t_40.2])] (by kernel_rfl) ⟨ob_call (enters Tryz.func194 (by kernel_rfl) rfl) (fun hg wz hk => G_mem_Mem_Load.calls x1 y_27.at_ B1 F1 wz (S := fun _ => True) (Ojt.any (Ojt.keep ho1 (Lo.on hk) (fun b hb => hk.block b (hE.mi b (flat_mem (by simp) hb)).2.1 (hE.mi b (flat_mem (by simp) hb)).2.2))) _ hG_41), trivial⟩ (fun ns_42 a w_43 hI _ => ?_)
     refine wpIn_seq ?_
     refine wpIn_region_lit ?_
     refine chunkL_ (live := [24, 9, 8]) (orc := []) hF 1 hI ⟨[e_ 24 (.int .u32 t_40.1), p_ 9 4 0, p_ 8 3 0], [], [], [([.v (.bool false), .v (.int .i64 0), .v (.slice none 0 0), .v (.bool false), .v (.int .i64 0), .v (.bool false), .v (.bool false), .v (.bool false), .v (.int .i64 0)], 76), ([.v (.bool false), .v (.int .i64 0), .v (.slice none 0 0), .v (.bool false), .v (.int .i64 0), .v (.bool false), .v (.bool false), .v (.bool false), .v (.int .i64 0)], 76), ((((kd_Task_cell).cells y_27 svo_8).map EV.v), 221), ([.v (.bool false), .v (.int .i64 0), .v (.slice none 0 0), .v (.bool false), .v (.int .i64 0), .v (.bool false), .v (.bool false), .v (.bool false), .v (.int .i64 0)], 76), ([.v (.bool true), .v (.int .i64 0), .v (.slice none 0 0), .v (.bool false), .v (.int .i64 0), .v (.bool true), .v (.bool false), .v (.bool false), .v (.int .i64 0)], 76)], none, some (2, ns_30)⟩ [] rfl (by kernel_rfl) trivial (fun ns_44 a w_45 hI => ?_)
     obtain ⟨hE', hmv, hmr⟩ := Ep.rebase hE hI
     replace ho1 := Ojt.keep ho1 (hmv _) (fun b hb => hmr b (flat_mem (by simp) hb))
     replace ho2 := Ojt.keep ho2 (hmv _) (fun b hb => hmr b (flat_mem (by simp) hb))
     replace ho0 := Ob1.keep ho0 (hmv _) (hmr _ (by simp))
     replace hE := hE'; replace hI := hI.rebase; clear hE' hmv hmr
     refine buildSlice_ (S0 := S) (d := (Kd.int .u32)) (e := 60) hF hE hI (wanted_none rfl) rfl (by kernel_rfl) (cs := [.int .u32 t_40.1]) (by kernel_rfl) [t_40.1] [(svL [])] rfl rfl (by simp [maxLen]) (fun i x hi => by cases i with | zero => (simp only [List.getElem?_cons_zero, Option.some.injEq] at hi; subst hi; exact ⟨trivial, rfl⟩) | succ i => (simp only [List.getElem?_cons_succ] at hi; simp at hi)) (fun A_46 => ⟨[e_ 25 (.slice A_46 ([t_40.1] : List Int).length (([t_40.1] : List Int).length)), e_ 24 (.int .u32 t_40.1), p_ 9 4 0, p_ 8 3 0], [], [], [([.v (.bool false), .v (.int .i64 0), .v (.slice none 0 0), .v (.bool false), .v (.int .i64 0), .v (.bool false), .v (.bool false), .v (.bool false), .v (.int .i64 0)], 76), ([.v (.bool false), .v (.int .i64 0), .v (.slice none 0 0), .v (.bool false), .v (.int .i64 0), .v (.bool false), .v (.bool false), .v (.bool false), .v (.int .i64 0)], 76), ((((kd_Task_cell).cells y_27 svo_8).map EV.v), 221), ([.v (.bool false), .v (.int .i64 0), .v (.slice none 0 0), .v (.bool false), .v (.int .i64 0), .v (.bool false), .v (.bool false), .v (.bool false), .v (.int .i64 0)], 76), ([.v (.bool true), .v (.int .i64 0), .v (.slice none 0 0), .v (.bool false), .v (.int .i64 0), .v (.bool true), .v (.bool false), .v (.bool false), .v (.int .i64 0)], 76)], none, some (2, ns_30)⟩) (fun A_46 => by kernel_rfl) (fun A_46 a w_48 hput hE' hI' hmv hmr hq_47 => ?_)
     replace ho1 := Ojt.keep ho1 (hmv _) (fun b hb => hmr b (flat_mem (by simp) hb) (by simp))
     replace ho2 := Ojt.keep ho2 (hmv _) (fun b hb => hmr b (flat_mem (by simp) hb) (by simp))
     replace ho0 := Ob1.keep ho0 (hmv _) (hmr _ (by simp) (by simp))
     replace hE := hE'; replace hI := hI'; clear hE' hI' hmv hmr
     refine chunkL_ (live := [9, 8]) (orc := []) hF 3 hI ⟨[p_ 9 4 0, p_ 8 3 0], [], [], [([.v (.bool false), .v (.int .i64 0), .v (.slice none 0 0), .v (.bool false), .v (.int .i64 0), .v (.bool false), .v (.bool false), .v (.bool false), .v (.int .i64 0)], 76), ([.v (.bool false), .v (.int .i64 0), .v (.slice none 0 0), .v (.bool false), .v (.int .i64 0), .v (.bool false), .v (.bool false), .v (.bool false), .v (.int .i64 0)], 76), ((((kd_Task_cell).cells y_27 svo_8).map EV.v), 221), ([.v (.bool false), .v (.int .i64 0), .v (.slice none 0 0), .v (.bool false), .v (.int .i64 0), .v (.bool false), .v (.bool false), .v (.bool false), .v (.int .i64 0)], 76), ([.v (.bool true), .v (.int .i64 0), .v (.slice A_46 ([t_40.1] : List Int).length (([t_40.1] : List Int).length)), .v (.bool false), .v (.int .i64 0), .v (.bool true), .v (.bool false), .v (.bool false), .v (.int .i64 0)], 76)], none, some (2, ns_30)⟩ [] rfl (by kernel_rfl) trivial (fun ns_49 a w_50 hI => ?_)
     refine wpListIn_nil ?_
     refine then_normal ?_
     refine seq_region (live := [8]) (orc := []) hF hI ⟨[p_ 8 3 0], [], [], [([.v (.bool false), .v (.int .i64 0), .v (.slice none 0 0), .v (.bool false), .v (.int .i64 0), .v (.bool false), .v (.bool false), .v (.bool false), .v (.int .i64 0)], 76), ([.v (.bool false), .v (.int .i64 0), .v (.slice none 0 0), .v (.bool false), .v (.int .i64 0), .v (.bool false), .v (.bool false), .v (.bool false), .v (.int .i64 0)], 76), ((((kd_Task_cell).cells y_27 svo_8).map EV.v), 221), ([.v (.bool true), .v (.int .i64 0), .v (.slice A_46 ([t_40.1] : List Int).length (([t_40.1] : List Int).length)), .v (.bool false), .v (.int .i64 0), .v (.bool true), .v (.bool false), .v (.bool false), .v (.int .i64 0)], 76), ([.v (.bool true), .v (.int .i64 0), .v (.slice A_46 ([t_40.1] : List Int).length (([t_40.1] : List Int).length)), .v (.bool false), .v (.int .i64 0), .v (.bool true), .v (.bool false), .v (.bool false), .v (.int .i64 0)], 76)], none, some (2, ns_30)⟩ [] (by kernel_rfl) trivial (fun ns_51 a w_52 hI _ => ?_)
     refine wpIn_ret ?_
     refine then_ret ?_
     obtain ⟨hE', hmv, hmr⟩ := Ep.rebase hE hI
     replace ho1 := Ojt.keep ho1 (hmv _) (fun b hb => hmr b (flat_mem (by simp) hb))
     replace ho2 := Ojt.keep ho2 (hmv _) (fun b hb => hmr b (flat_mem (by simp) hb))
     replace ho0 := Ob1.keep ho0 (hmv _) (hmr _ (by simp))
     replace hq_47 := Row.keep hq_47 (hmv _) (fun b hb => hmr b (by simp [hb]))
     replace hE := hE'; replace hI := hI.rebase; clear hE' hmv hmr
     obtain ⟨hE', hmv, hq_47, hcap_53⟩ := Row.stillP (l1 := [F1, F2, [B0]]) (l2 := []) hq_47 (fun b hb => by rw [hSd]; exact .inr hb) hE
     have hmr := hmr_ ([F1, F2, [B0], rb A_46] : List (List Nat)) w_52
     replace ho1 := Ojt.keep ho1 (hmv _) (fun b hb => hmr b (flat_mem (by simp) hb))
     replace ho2 := Ojt.keep ho2 (hmv _) (fun b hb => hmr b (flat_mem (by simp) hb))
     replace ho0 := Ob1.keep ho0 (hmv _) (hmr _ (by simp))
     replace hE := hE'
     clear hE' hmv hmr
     obtain ⟨hE', hI', hmv⟩ := Ep.uncall (bs := [([.v (.bool false), .v (.int .i64 0), .v (.slice none 0 0), .v (.bool false), .v (.int .i64 0), .v (.bool false), .v (.bool false), .v (.bool false), .v (.int .i64 0)], 76), ([.v (.bool false), .v (.int .i64 0), .v (.slice none 0 0), .v (.bool false), .v (.int .i64 0), .v (.bool false), .v (.bool false), .v (.bool false), .v (.int .i64 0)], 76)]) hOu_32 hE hI rfl rfl rfl rfl (by kernel_rfl) rfl
     have hmr := hmr_ ([F1, F2, [B0]] : List (List Nat)) w_52
     replace ho1 := Ojt.keep ho1 (hmv _) (fun b hb => hmr b (flat_mem (by simp) hb))
     replace ho2 := Ojt.keep ho2 (hmv _) (fun b hb => hmr b (flat_mem (by simp) hb))
     replace ho0 := Ob1.keep ho0 (hmv _) (hmr _ (by simp))
     replace hq_47 := Arr.keep hq_47 (hmv _)
     replace hE := hE'
     clear hE' hmv hmr
     refine retG hI rfl rfl ⟨.agg #[.bool true, .int .i64 0, .slice A_46 ([t_40.1] : List Int).length (([t_40.1] : List Int).length), .bool false, .int .i64 0, .bool true, .bool false, .bool false, .int .i64 0], rfl, ?_⟩
     refine putI_ hI' ⟨[e_ 22 (.agg #[.bool true, .int .i64 0, .slice A_46 ([t_40.1] : List Int).length (([t_40.1] : List Int).length), .bool false, .int .i64 0, .bool true, .bool false, .bool false, .int .i64 0]), e_ 21 (.int .i64 a3), e_ 20 (.pointer (some ⟨B2, 0, none⟩)), e_ 19 (.pointer (some ⟨B1, 0, none⟩)), e_ 18 (.iface 221 (.agg ((kd_Task_cell).cells y_27 svo_8).toArray)), p_ 8 1 0, e_ 0 (.pointer (some ⟨B0, 0, none⟩))], [], [], [([.v (.bool false), .v (.int .i64 0), .v (.slice none 0 0), .v (.bool false), .v (.int .i64 0), .v (.bool false), .v (.bool false), .v (.bool false), .v (.int .i64 0)], 76), ([.v (.bool false), .v (.int .i64 0), .v (.slice none 0 0), .v (.bool false), .v (.int .i64 0), .v (.bool false), .v (.bool false), .v (.bool false), .v (.int .i64 0)], 76)], none, some (1, ns_3)⟩ (by kernel_rfl) (fun a hI => ?_)
     clear hI'
     have hF := hFu_32
     refine chunkL_ (live := [9, 8, 0]) (orc := []) hF 2 hI ⟨[p_ 9 2 0, p_ 8 1 0, e_ 0 (.pointer (some ⟨B0, 0, none⟩))], [], [], [([.v (.bool false), .v (.int .i64 0), .v (.slice none 0 0), .v (.bool false), .v (.int .i64 0), .v (.bool false), .v (.bool false), .v (.bool false), .v (.int .i64 0)], 76), ([.v (.bool false), .v (.int .i64 0), .v (.slice none 0 0), .v (.bool false), .v (.int .i64 0), .v (.bool false), .v (.bool false), .v (.bool false), .v (.int .i64 0)], 76), ([.v (.bool true), .v (.int .i64 0), .v (.slice A_46 ([t_40.1] : List Int).length (([t_40.1] : List Int).length)), .v (.bool false), .v (.int .i64 0), .v (.bool true), .v (.bool false), .v (.bool false), .v (.int .i64 0)], 76)], none, some (1, ns_3)⟩ [] rfl (by kernel_rfl) trivial (fun ns_54 a w_55 hI => ?_)
     refine wpListIn_nil ?_
     refine then_normal ?_
     refine wpIn_seq ?_
     refine wpIn_region_lit ?_
     refine chunkL_ (live := [29, 27, 9, 8, 0]) (orc := [[.int .i64 x0.all.steps]]) hF 7 hI ⟨[e_ 29 (.pointer (some ((⟨B0, 0, none⟩ : Addr).add 1))), e_ 27 (.int .i64 (IntKind.i64.wrap (x0.all.steps + 1))), p_ 9 2 0, p_ 8 1 0, e_ 0 (.pointer (some ⟨B0, 0, none⟩))], [], [], [([.v (.bool false), .v (.int .i64 0), .v (.slice none 0 0), .v (.bool false), .v (.int .i64 0), .v (.bool false), .v (.bool false), .v (.bool false), .v (.int .i64 0)], 76), ([.v (.bool false), .v (.int .i64 0), .v (.slice none 0 0), .v (.bool false), .v (.int .i64 0), .v (.bool false), .v (.bool false), .v (.bool false), .v (.int .i64 0)], 76), ([.v (.bool true), .v (.int .i64 0), .v (.slice A_46 ([t_40.1] : List Int).length (([t_40.1] : List Int).length)), .v (.bool false), .v (.int .i64 0), .v (.bool true), .v (.bool false), .v (.bool false), .v (.int .i64 0)], 76)], none, some (1, ns_3)⟩ [.cell true ((⟨B0, 0, none⟩ : Addr).add 1) [.int .i64 x0.all.steps]] rfl (by kernel_rfl) ⟨ob_o1 ho0 hE (by simp) true 1 [.int .i64 x0.all.steps] rfl, trivial⟩ (fun ns_56 a w_57 hI => ?_)
     obtain ⟨hE', hmv, hmr⟩ := Ep.rebase hE hI
     replace ho1 := Ojt.keep ho1 (hmv _) (fun b hb => hmr b (flat_mem (by simp) hb))
     replace ho2 := Ojt.keep ho2 (hmv _) (fun b hb => hmr b (flat_mem (by simp) hb))
     replace ho0 := Ob1.keep ho0 (hmv _) (hmr _ (by simp))
     replace hq_47 := Arr.keep hq_47 (hmv _)
     replace hE := hE'; replace hI := hI.rebase; clear hE' hmv hmr
     refine storeO_ (S0 := S) (d := kd_Task_Task) (e := 140) (off := 1) hF hE hI (wanted_none rfl) rfl rfl (ad := ((⟨B0, 0, none⟩ : Addr).add 1)) rfl rfl rfl (vs := [.int .i64 (IntKind.i64.wrap (x0.all.steps + 1))]) rfl rfl rfl rfl (by simp) (Ob1.as (y := (⟨(⟨(Fn133.t221 y_27), x0.all.steps, x0.all.over⟩ : Task_work_), x0.own⟩ : Task_Task)) ho0 rfl id) (⟨(⟨(Fn133.t221 y_27), (IntKind.i64.wrap (x0.all.steps + 1)), x0.all.over⟩ : Task_work_), x0.own⟩ : Task_Task) svo_8 rfl (fun h => ⟨h.1, trivial⟩) (fun a w_58 hput hE' hI' hmv hmr ho0 => ?_)
     replace ho1 := Ojt.keep ho1 (hmv _) (fun b hb => hmr b (flat_mem (by simp) hb) (Ep.ne hE (i := 2) (j := 0) (by decide) rfl rfl hb))
     replace ho2 := Ojt.keep ho2 (hmv _) (fun b hb => hmr b (flat_mem (by simp) hb) (Ep.ne hE (i := 2) (j := 1) (by decide) rfl rfl hb))
     replace hq_47 := Arr.keep hq_47 (hmv _)
     replace hE := hE'; replace hI := hI'; clear hE' hI' hmv hmr
     refine chunkL_ (live := [9, 8, 0]) (orc := []) hF 0 hI ⟨[p_ 9 2 0, p_ 8 1 0, e_ 0 (.pointer (some ⟨B0, 0, none⟩))], [], [], [([.v (.bool false), .v (.int .i64 0), .v (.slice none 0 0), .v (.bool false), .v (.int .i64 0), .v (.bool false), .v (.bool false), .v (.bool false), .v (.int .i64 0)], 76), ([.v (.bool false), .v (.int .i64 0), .v (.slice none 0 0), .v (.bool false), .v (.int .i64 0), .v (.bool false), .v (.bool false), .v (.bool false), .v (.int .i64 0)], 76), ([.v (.bool true), .v (.int .i64 0), .v (.slice A_46 ([t_40.1] : List Int).length (([t_40.1] : List Int).length)), .v (.bool false), .v (.int .i64 0), .v (.bool true), .v (.bool false), .v (.bool false), .v (.int .i64 0)], 76)], none, some (1, ns_3)⟩ [] rfl (by kernel_rfl) trivial (fun ns_59 a w_60 hI => ?_)
     refine wpListIn_nil ?_
     refine then_normal ?_
     refine wpIn_seq ?_
     refine wpIn_region_lit ?_
     refine chunkL_ (live := [34, 32, 9, 8]) (orc := []) hF 5 hI ⟨[e_ 34 (.pointer (some ((⟨B0, 0, none⟩ : Addr).add 2))), e_ 32 (.bool true), p_ 9 2 0, p_ 8 1 0], [], [], [([.v (.bool false), .v (.int .i64 0), .v (.slice none 0 0), .v (.bool false), .v (.int .i64 0), .v (.bool false), .v (.bool false), .v (.bool false), .v (.int .i64 0)], 76), ([.v (.bool false), .v (.int .i64 0), .v (.slice none 0 0), .v (.bool false), .v (.int .i64 0), .v (.bool false), .v (.bool false), .v (.bool false), .v (.int .i64 0)], 76), ([.v (.bool true), .v (.int .i64 0), .v (.slice A_46 ([t_40.1] : List Int).length (([t_40.1] : List Int).length)), .v (.bool false), .v (.int .i64 0), .v (.bool true), .v (.bool false), .v (.bool false), .v (.int .i64 0)], 76)], none, some (1, ns_3)⟩ [] rfl (by kernel_rfl) trivial (fun ns_61 a w_62 hI => ?_)
     obtain ⟨hE', hmv, hmr⟩ := Ep.rebase hE hI
     replace ho1 := Ojt.keep ho1 (hmv _) (fun b hb => hmr b (flat_mem (by simp) hb))
     replace ho2 := Ojt.keep ho2 (hmv _) (fun b hb => hmr b (flat_mem (by simp) hb))
     replace hq_47 := Arr.keep hq_47 (hmv _)
     replace ho0 := Ob1.keep ho0 (hmv _) (hmr _ (by simp))
     replace hE := hE'; replace hI := hI.rebase; clear hE' hmv hmr
     refine storeO_ (S0 := S) (d := kd_Task_Task) (e := 140) (off := 2) hF hE hI (wanted_none rfl) rfl rfl (ad := ((⟨B0, 0, none⟩ : Addr).add 2)) rfl rfl rfl (vs := [.bool true]) rfl rfl rfl rfl (by simp) (Ob1.as (y := (⟨(⟨(Fn133.t221 y_27), (IntKind.i64.wrap (x0.all.steps + 1)), x0.all.over⟩ : Task_work_), x0.own⟩ : Task_Task)) ho0 rfl id) (⟨(⟨(Fn133.t221 y_27), (IntKind.i64.wrap (x0.all.steps + 1)), true⟩ : Task_work_), x0.own⟩ : Task_Task) svo_8 rfl (fun h => ⟨h.1, trivial⟩) (fun a w_63 hput hE' hI' hmv hmr ho0 => ?_)
     replace ho1 := Ojt.keep ho1 (hmv _) (fun b hb => hmr b (flat_mem (by simp) hb) (Ep.ne hE (i := 2) (j := 0) (by decide) rfl rfl hb))
     replace ho2 := Ojt.keep ho2 (hmv _) (fun b hb => hmr b (flat_mem (by simp) hb) (Ep.ne hE (i := 2) (j := 1) (by decide) rfl rfl hb))
     replace hq_47 := Arr.keep hq_47 (hmv _)
     replace hE := hE'; replace hI := hI'; clear hE' hI' hmv hmr
     refine chunkL_ (live := [9, 8]) (orc := []) hF 0 hI ⟨[p_ 9 2 0, p_ 8 1 0], [], [], [([.v (.bool false), .v (.int .i64 0), .v (.slice none 0 0), .v (.bool false), .v (.int .i64 0), .v (.bool false), .v (.bool false), .v (.bool false), .v (.int .i64 0)], 76), ([.v (.bool false), .v (.int .i64 0), .v (.slice none 0 0), .v (.bool false), .v (.int .i64 0), .v (.bool false), .v (.bool false), .v (.bool false), .v (.int .i64 0)], 76), ([.v (.bool true), .v (.int .i64 0), .v (.slice A_46 ([t_40.1] : List Int).length (([t_40.1] : List Int).length)), .v (.bool false), .v (.int .i64 0), .v (.bool true), .v (.bool false), .v (.bool false), .v (.int .i64 0)], 76)], none, some (1, ns_3)⟩ [] rfl (by kernel_rfl) trivial (fun ns_64 a w_65 hI => ?_)
     refine wpListIn_nil ?_
     refine then_normal ?_
     refine seq_region (live := [8]) (orc := []) hF hI ⟨[p_ 8 1 0], [], [], [([.v (.bool false), .v (.int .i64 0), .v (.slice none 0 0), .v (.bool false), .v (.int .i64 0), .v (.bool false), .v (.bool false), .v (.bool false), .v (.int .i64 0)], 76), ([.v (.bool true), .v (.int .i64 0), .v (.slice A_46 ([t_40.1] : List Int).length (([t_40.1] : List Int).length)), .v (.bool false), .v (.int .i64 0), .v (.bool true), .v (.bool false), .v (.bool false), .v (.int .i64 0)], 76), ([.v (.bool true), .v (.int .i64 0), .v (.slice A_46 ([t_40.1] : List Int).length (([t_40.1] : List Int).length)), .v (.bool false), .v (.int .i64 0), .v (.bool true), .v (.bool false), .v (.bool false), .v (.int .i64 0)], 76)], none, some (1, ns_3)⟩ [] (by kernel_rfl) trivial (fun ns_66 a w_67 hI _ => ?_)
     refine wpIn_ret ?_
     obtain ⟨hE', hmv, hmr⟩ := Ep.rebase hE hI
     replace ho1 := Ojt.keep ho1 (hmv _) (fun b hb => hmr b (flat_mem (by simp) hb))
     replace ho2 := Ojt.keep ho2 (hmv _) (fun b hb => hmr b (flat_mem (by simp) hb))
     replace hq_47 := Arr.keep hq_47 (hmv _)
     replace ho0 := Ob1.keep ho0 (hmv _) (hmr _ (by simp))
     replace hE := hE'; replace hI := hI.rebase; clear hE' hmv hmr
     obtain ⟨hE', hI', hmv⟩ := Ep.uncall (bs := [([.v (.bool false), .v (.int .i64 0), .v (.slice none 0 0), .v (.bool false), .v (.int .i64 0), .v (.bool false), .v (.bool false), .v (.bool false), .v (.int .i64 0)], 76)]) hOu_5 hE hI rfl rfl rfl rfl (by kernel_rfl) rfl
     have hmr := hmr_ ([F1, F2, [B0]] : List (List Nat)) w_67
     replace ho1 := Ojt.keep ho1 (hmv _) (fun b hb => hmr b (flat_mem (by simp) hb))
     replace ho2 := Ojt.keep ho2 (hmv _) (fun b hb => hmr b (flat_mem (by simp) hb))
     replace hq_47 := Arr.keep hq_47 (hmv _)
     replace ho0 := Ob1.keep ho0 (hmv _) (hmr _ (by simp))
     replace hE := hE'
     clear hE' hmv hmr
     refine retG hI rfl rfl ⟨.agg #[.bool true, .int .i64 0, .slice A_46 ([t_40.1] : List Int).length (([t_40.1] : List Int).length), .bool false, .int .i64 0, .bool true, .bool false, .bool false, .int .i64 0], rfl, ?_⟩
     refine putI_ hI' (s_ [e_ 15 (.agg #[.bool true, .int .i64 0, .slice A_46 ([t_40.1] : List Int).length (([t_40.1] : List Int).length), .bool false, .int .i64 0, .bool true, .bool false, .bool false, .int .i64 0]), e_ 14 (.int .i64 a3), e_ 13 (.pointer (some ⟨B2, 0, none⟩)), e_ 12 (.pointer (some ⟨B1, 0, none⟩)), e_ 11 (.pointer (some ⟨B0, 0, none⟩)), p_ 8 0 0] [([.v (.bool false), .v (.int .i64 0), .v (.slice none 0 0), .v (.bool false), .v (.int .i64 0), .v (.bool false), .v (.bool false), .v (.bool false), .v (.int .i64 0)], 76)]) (by kernel_rfl) (fun a hI => ?_)
     clear hI'
     have hF := hFu_5
     refine ck0_ hF 1 hI (s_ [p_ 8 0 0] [([.v (.bool true), .v (.int .i64 0), .v (.slice A_46 ([t_40.1] : List Int).length (([t_40.1] : List Int).length)), .v (.bool false), .v (.int .i64 0), .v (.bool true), .v (.bool false), .v (.bool false), .v (.int .i64 0)], 76)]) rfl (by kernel_rfl) (fun ns_68 a w_69 hI => ?_)
     refine wpListIn_nil ?_
     refine then_normal ?_
     obtain ⟨hE', hmv, hmr⟩ := Ep.rebase hE hI
     replace ho1 := Ojt.keep ho1 (hmv _) (fun b hb => hmr b (flat_mem (by simp) hb))
     replace ho2 := Ojt.keep ho2 (hmv _) (fun b hb => hmr b (flat_mem (by simp) hb))
     replace hq_47 := Arr.keep hq_47 (hmv _)
     replace ho0 := Ob1.keep ho0 (hmv _) (hmr _ (by simp))
     replace hE := hE'; replace hI := hI.rebase; clear hE' hmv hmr
     have ho_70 : Ojt lk_Task_Task (Lo S w w_69 ns_68 [F1, F2, [B0]]) w_69 B0 (⟨(⟨(Fn133.t221 y_27), (IntKind.i64.wrap (x0.all.steps + 1)), true⟩ : Task_work_), x0.own⟩ : Task_Task) (B0 :: ([])) := Ojt.mk' (k := lk_Task_Task) svo_8 (Ob1.as ho0 rfl id) ⟨rfl, trivial⟩
     obtain ⟨hE', hmv⟩ := Ep.group hE [2] (by decide) (B0 :: ([])) rfl
     replace hE : Ep ([F0, F1, F2] : List (List Nat)).flatten w w_69 ns_68 [F1, F2, (B0 :: ([]))] := hE'
     replace hmv : ∀ S0, Mv (Lo S0 w w_69 ns_68 [F1, F2, [B0]]) w_69 (Lo S0 w w_69 ns_68 [F1, F2, (B0 :: ([]))]) w_69 := hmv
     have hmr := hmr_ ([F1, F2, (B0 :: ([]))] : List (List Nat)) w_69
     replace ho1 := Ojt.keep ho1 (hmv _) (fun b hb => hmr b (flat_mem (by simp) hb))
     replace ho2 := Ojt.keep ho2 (hmv _) (fun b hb => hmr b (flat_mem (by simp) hb))
     replace hq_47 := Arr.keep hq_47 (hmv _)
     replace ho_70 := Ojt.keep ho_70 (hmv _) (fun b hb => hmr b (flat_mem (by simp) hb))
     clear hE' hmv hmr
     refine wpIn_ret ?_
     obtain rfl := Option.some.inj H0
     subst hSd
     exact retCell hI rfl rfl rfl rfl rfl rfl ⟨(svL [(A_46, ([t_40.1] : List Int).length)], fun i => ([(B0 :: ([])), F1, F2] : List (List Nat)).getD i []), rfl, hE.keeps hI, hE.handed [2, 0, 1] (by decide), ⟨⟨Arr.keep hq_47 (hE.outO [2, 0, 1] _), hcap_53⟩, trivial⟩, Ojt.keep ho_70 (hE.outO [2, 0, 1] _) (fun _ _ => rfl), Ojt.keep ho1 (hE.outO [2, 0, 1] _) (fun _ _ => rfl), Ojt.keep ho2 (hE.outO [2, 0, 1] _) (fun _ _ => rfl)⟩
    ·replace H0 := bif_f hc_39 H0
     refine wpIn_skip ?_
     refine then_normal ?_
     refine wpIn_seq ?_
     replace hI := hI.fin (live := [16, 9, 8, 4, 1]) (σ2 := ⟨[e_ 16 (.bool ((y_27.words.length : Int) == 0)), p_ 9 4 0, p_ 8 3 0, p_ 4 2 0, e_ 1 (.pointer (some ⟨B1, 0, none⟩))], [], [], [([.v (.bool false), .v (.int .i64 0), .v (.slice none 0 0), .v (.bool false), .v (.int .i64 0), .v (.bool false), .v (.bool false), .v (.bool false), .v (.int .i64 0)], 76), ([.v (.bool false), .v (.int .i64 0), .v (.slice none 0 0), .v (.bool false), .v (.int .i64 0), .v (.bool false), .v (.bool false), .v (.bool false), .v (.int .i64 0)], 76), ((((kd_Task_cell).cells y_27 svo_8).map EV.v), 221), ([.v (.bool false), .v (.int .i64 0), .v (.slice none 0 0), .v (.bool false), .v (.int .i64 0), .v (.bool false), .v (.bool false), .v (.bool false), .v (.int .i64 0)], 76), ([.v (.bool true), .v (.int .i64 0), .v (.slice none 0 0), .v (.bool false), .v (.int .i64 0), .v (.bool true), .v (.bool false), .v (.bool false), .v (.int .i64 0)], 76)], none, some (2, ns_30)⟩) (by kernel_rfl)
     obtain ⟨hN_72, H0⟩ := req_some H0
     obtain ⟨sv_73, hE_75, hA_74⟩ := Arr.elB (d := (Kd.int .u32)) (show (kd_Task_cell).cont _ _ y_27 svo_8 from ho0.cont.1).1.1 0 true (fun _ => hN_72)
     replace hE_75 := hE_75 rfl
     replace hA_74 := fun (_ : true = true) => hA_74 rfl
     refine drawnS_ hI (by kernel_rfl) [.q 29 (.v (.pointer (some ⟨B1, 0, none⟩))) [], .q 30 (.p 2 0) [], .q 31 (.v (.int .u64 y_27.at_)) [], .q 32 (.p 2 1) [], .q 33 (.v (.slice ((svo_8 0).1) y_27.words.length ((svo_8 0).2))) [], .q 34 (.v (.pointer (some ((adr ((svo_8 0).1)).add ((0 : Int).toNat * 1))))) [.need true ((0 : Int) ≤ 0 ∧ 0 < (y_27.words.length : Int)), .need true ((svo_8 0).1 = some (adr ((svo_8 0).1)))], .q 35 (.v (.int .u32 (rd y_27.words 0))) [.cell true ((adr ((svo_8 0).1)).add ((0 : Int).toNat * 1)) [.int .u32 (rd y_27.words 0)]], .no] (by kernel_rfl) (fun fuel listed w_76 hJ hsz hu => ?_)
     refine stage_ hJ hF hsz hu [.q [] [], .q [] [], .q [1] [], .q [] [], .q [3] [], .q [4] [], .q [5] [[.int .u32 (rd y_27.words 0)]], .no] (by kernel_rfl) (by kernel_rfl) (by kernel_rfl) (by kernel_rfl) 7 rfl (by kernel_rfl) (by kernel_rfl) [0, 2, 6] rfl (by kernel_rfl) (by kernel_rfl) ⟨ob_inb (fun _ => hN_72), hA_74, ob_el (fun _ => hE_75) 0 [.int .u32 (rd y_27.words 0)] rfl, trivial⟩ [0, 2, 6] (by kernel_rfl) [.t (some 29) (some (.v (.pointer (some ⟨B1, 0, none⟩)))), .q 30 (.p 2 0) [], .t (some 31) (some (.v (.int .u64 y_27.at_))), .q 32 (.p 2 1) [], .q 33 (.v (.slice ((svo_8 0).1) y_27.words.length ((svo_8 0).2))) [], .q 34 (.v (.pointer (some ((adr ((svo_8 0).1)).add ((0 : Int).toNat * 1))))) [.need true ((0 : Int) ≤ 0 ∧ 0 < (y_27.words.length : Int)), .need true ((svo_8 0).1 = some (adr ((svo_8 0).1)))], .t (some 35) (some (.v (.int .u32 (rd y_27.words 0)))), .no] (by kernel_rfl) (fun fuel listed a w_77 hJ hI hW h1 hnl hsz hu => ?_)
     obtain ⟨hE', hmv, hmr⟩ := Ep.rebase hE hI
     replace ho1 := Ojt.keep ho1 (hmv _) (fun b hb => hmr b (flat_mem (by simp) hb))
     replace ho2 := Ojt.keep ho2 (hmv _) (fun b hb => hmr b (flat_mem (by simp) hb))
     replace ho0 := Ob1.keep ho0 (hmv _) (hmr _ (by simp))
     replace hE_75 := El.keep hE_75 (hmv _)
     replace hE := hE'; replace hI := hI.rebase; clear hE' hmv hmr
     obtain ⟨t_78, hG_79, H0⟩ := bind_some H0
     have hbs_81 := hE.k.size
     refine callO_ hF hE hI hW rfl (args := [.pointer (some ⟨B1, 0, none⟩), .int .u64 y_27.at_, .int .u32 (rd y_27.words 0)]) rfl (enters Tryz.func76 (by kernel_rfl) rfl) (fun q_80 : SV × (Nat → List Nat) => .int .i64 t_78.1) [0] (fun q_80 => [q_80.2 0]) _ (G_mem_Mem_Store.calls x1 y_27.at_ (rd y_27.words 0) B1 F1 w_77 (S0_ := Lo S w w_77 ns_37 [F1, F2, [B0]]) ho1 (Lo.pick [0]) (hE.pick [0] (by decide)) (hE.pickLt [0]) _ hG_79) (.inl rfl) (fun q_80 => ⟨[e_ 36 (.int .i64 t_78.1), e_ 29 (.pointer (some ⟨B1, 0, none⟩)), e_ 31 (.int .u64 y_27.at_), e_ 35 (.int .u32 (rd y_27.words 0)), e_ 16 (.bool ((y_27.words.length : Int) == 0)), p_ 9 4 0, p_ 8 3 0, p_ 4 2 0, e_ 1 (.pointer (some ⟨B1, 0, none⟩))], [], [], [([.v (.bool false), .v (.int .i64 0), .v (.slice none 0 0), .v (.bool false), .v (.int .i64 0), .v (.bool false), .v (.bool false), .v (.bool false), .v (.int .i64 0)], 76), ([.v (.bool false), .v (.int .i64 0), .v (.slice none 0 0), .v (.bool false), .v (.int .i64 0), .v (.bool false), .v (.bool false), .v (.bool false), .v (.int .i64 0)], 76), ((((kd_Task_cell).cells y_27 svo_8).map EV.v), 221), ([.v (.bool false), .v (.int .i64 0), .v (.slice none 0 0), .v (.bool false), .v (.int .i64 0), .v (.bool false), .v (.bool false), .v (.bool false), .v (.int .i64 0)], 76), ([.v (.bool true), .v (.int .i64 0), .v (.slice none 0 0), .v (.bool false), .v (.int .i64 0), .v (.bool true), .v (.bool false), .v (.bool false), .v (.int .i64 0)], 76)], none, some (2, ns_30)⟩) (fun q_80 => by kernel_rfl) (fun q_80 a w_82 hput hE' hI' hmv hmr hres hR => ?_)
     replace hmv : ∀ S0, Mv (Lo S0 w w_77 ns_37 [F1, F2, [B0]]) w_77 (Lo S0 w w_82 ns_37 [F2, [B0], (q_80.2 0)]) w_82 := hmv
     replace hmr : ∀ b ∈ ([F2, [B0]] : List (List Nat)).flatten, w_82.heap[b]? = w_77.heap[b]? := hmr
     replace hE : Ep ([F0, F1, F2] : List (List Nat)).flatten w w_82 ns_37 [F2, [B0], (q_80.2 0)] := hE'
     replace hI := hI'
     clear hE' hI'
     replace ho2 := Ojt.keep ho2 (hmv _) (fun b hb => hmr b (flat_mem (by simp) hb))
     replace ho0 := Ob1.keep ho0 (hmv _) (hmr _ (by simp))
     replace hE_75 := El.keep hE_75 (hmv _)
     clear hmv hmr
     have ho1 := hR
     replace ho1 := Ojt.keep ho1 (hres _ (fun b hb => by rw [hSd]; exact .inr hb)) (fun _ _ => rfl)
     clear hres
     refine next_ hJ h1 hnl hsz hu (by kernel_rfl) (by kernel_rfl) hput hI (live := [16, 9, 8, 4, 1]) ⟨[e_ 16 (.bool ((y_27.words.length : Int) == 0)), p_ 9 4 0, p_ 8 3 0, p_ 4 2 0, e_ 1 (.pointer (some ⟨B1, 0, none⟩))], [], [], [([.v (.bool false), .v (.int .i64 0), .v (.slice none 0 0), .v (.bool false), .v (.int .i64 0), .v (.bool false), .v (.bool false), .v (.bool false), .v (.int .i64 0)], 76), ([.v (.bool false), .v (.int .i64 0), .v (.slice none 0 0), .v (.bool false), .v (.int .i64 0), .v (.bool false), .v (.bool false), .v (.bool false), .v (.int .i64 0)], 76), ((((kd_Task_cell).cells y_27 svo_8).map EV.v), 221), ([.v (.bool false), .v (.int .i64 0), .v (.slice none 0 0), .v (.bool false), .v (.int .i64 0), .v (.bool false), .v (.bool false), .v (.bool false), .v (.int .i64 0)], 76), ([.v (.bool true), .v (.int .i64 0), .v (.slice none 0 0), .v (.bool false), .v (.int .i64 0), .v (.bool true), .v (.bool false), .v (.bool false), .v (.int .i64 0)], 76)], none, some (2, ns_30)⟩ (by kernel_rfl) (some (.v (.int .i64 t_78.1))) (by kernel_rfl) [] [.t (some 29) (some (.v (.pointer (some ⟨B1, 0, none⟩)))), .q 30 (.p 2 0) [], .t (some 31) (some (.v (.int .u64 y_27.at_))), .q 32 (.p 2 1) [], .q 33 (.v (.slice ((svo_8 0).1) y_27.words.length ((svo_8 0).2))) [], .q 34 (.v (.pointer (some ((adr ((svo_8 0).1)).add ((0 : Int).toNat * 1))))) [.need true ((0 : Int) ≤ 0 ∧ 0 < (y_27.words.length : Int)), .need true ((svo_8 0).1 = some (adr ((svo_8 0).1)))], .t (some 35) (some (.v (.int .u32 (rd y_27.words 0)))), .t (some 36) (some (.v (.int .i64 t_78.1)))] (by kernel_rfl) (by kernel_rfl) (by kernel_rfl) True.intro (AL.none (by kernel_rfl)) (fun hJ hsz hu => ?_)
     refine end_ hJ hF hsz hu [.t (some (.v (.pointer (some ⟨B1, 0, none⟩)))), .q [] [], .t (some (.v (.int .u64 y_27.at_))), .q [] [], .q [3] [], .q [4] [], .t (some (.v (.int .u32 (rd y_27.words 0)))), .t (some (.v (.int .i64 t_78.1)))] (by kernel_rfl) (by kernel_rfl) (by kernel_rfl) (by kernel_rfl) (by kernel_rfl) (by kernel_rfl) (live := [9, 8]) ⟨[p_ 9 4 0, p_ 8 3 0], [], [], [([.v (.bool false), .v (.int .i64 0), .v (.slice none 0 0), .v (.bool false), .v (.int .i64 0), .v (.bool false), .v (.bool false), .v (.bool false), .v (.int .i64 0)], 76), ([.v (.bool false), .v (.int .i64 0), .v (.slice none 0 0), .v (.bool false), .v (.int .i64 0), .v (.bool false), .v (.bool false), .v (.bool false), .v (.int .i64 0)], 76), ((((kd_Task_cell).cells y_27 svo_8).map EV.v), 221), ([.v (.bool false), .v (.int .i64 0), .v (.slice none 0 0), .v (.bool false), .v (.int .i64 0), .v (.bool false), .v (.bool false), .v (.bool false), .v (.int .i64 0)], 76), ([.v (.bool true), .v (.int .i64 0), .v (.slice none 0 0), .v (.bool false), .v (.int .i64 0), .v (.bool true), .v (.bool false), .v (.bool false), .v (.int .i64 0)], 76)], none, some (2, ns_30)⟩ (by kernel_rfl) ⟨ob_inb (fun _ => hN_72), hA_74, trivial⟩ (fun a w_83 hI => ?_)
     refine then_normal ?_
     refine seq_region (live := [8]) (orc := []) hF hI ⟨[p_ 8 3 0], [], [], [([.v (.bool false), .v (.int .i64 0), .v (.slice none 0 0), .v (.bool false), .v (.int .i64 0), .v (.bool false), .v (.bool false), .v (.bool false), .v (.int .i64 0)], 76), ([.v (.bool false), .v (.int .i64 0), .v (.slice none 0 0), .v (.bool false), .v (.int .i64 0), .v (.bool false), .v (.bool false), .v (.bool false), .v (.int .i64 0)], 76), ((((kd_Task_cell).cells y_27 svo_8).map EV.v), 221), ([.v (.bool true), .v (.int .i64 0), .v (.slice none 0 0), .v (.bool false), .v (.int .i64 0), .v (.bool true), .v (.bool false), .v (.bool false), .v (.int .i64 0)], 76), ([.v (.bool true), .v (.int .i64 0), .v (.slice none 0 0), .v (.bool false), .v (.int .i64 0), .v (.bool true), .v (.bool false), .v (.bool false), .v (.int .i64 0)], 76)], none, some (2, ns_30)⟩ [] (by kernel_rfl) trivial (fun ns_84 a w_85 hI _ => ?_)
     refine wpIn_ret ?_
     obtain ⟨hE', hmv, hmr⟩ := Ep.rebase hE hI
     replace ho2 := Ojt.keep ho2 (hmv _) (fun b hb => hmr b (flat_mem (by simp) hb))
     replace ho0 := Ob1.keep ho0 (hmv _) (hmr _ (by simp))
     replace hE_75 := El.keep hE_75 (hmv _)
     replace ho1 := Ojt.keep ho1 (hmv _) (fun b hb => hmr b (flat_mem (by simp) hb))
     replace hE := hE'; replace hI := hI.rebase; clear hE' hmv hmr
     obtain ⟨hE', hI', hmv⟩ := Ep.uncall (bs := [([.v (.bool false), .v (.int .i64 0), .v (.slice none 0 0), .v (.bool false), .v (.int .i64 0), .v (.bool false), .v (.bool false), .v (.bool false), .v (.int .i64 0)], 76), ([.v (.bool false), .v (.int .i64 0), .v (.slice none 0 0), .v (.bool false), .v (.int .i64 0), .v (.bool false), .v (.bool false), .v (.bool false), .v (.int .i64 0)], 76)]) hOu_32 hE hI rfl rfl rfl rfl (by kernel_rfl) rfl
     have hmr := hmr_ ([F2, [B0], (q_80.2 0)] : List (List Nat)) w_85
     replace ho2 := Ojt.keep ho2 (hmv _) (fun b hb => hmr b (flat_mem (by simp) hb))
     replace ho0 := Ob1.keep ho0 (hmv _) (hmr _ (by simp))
     replace hE_75 := El.keep hE_75 (hmv _)
     replace ho1 := Ojt.keep ho1 (hmv _) (fun b hb => hmr b (flat_mem (by simp) hb))
     replace hE := hE'
     clear hE' hmv hmr
     refine retG hI rfl rfl ⟨.agg #[.bool true, .int .i64 0, .slice none 0 0, .bool false, .int .i64 0, .bool true, .bool false, .bool false, .int .i64 0], rfl, ?_⟩
     refine putI_ hI' ⟨[e_ 22 (.agg #[.bool true, .int .i64 0, .slice none 0 0, .bool false, .int .i64 0, .bool true, .bool false, .bool false, .int .i64 0]), e_ 21 (.int .i64 a3), e_ 20 (.pointer (some ⟨B2, 0, none⟩)), e_ 19 (.pointer (some ⟨B1, 0, none⟩)), e_ 18 (.iface 221 (.agg ((kd_Task_cell).cells y_27 svo_8).toArray)), p_ 8 1 0, e_ 0 (.pointer (some ⟨B0, 0, none⟩))], [], [], [([.v (.bool false), .v (.int .i64 0), .v (.slice none 0 0), .v (.bool false), .v (.int .i64 0), .v (.bool false), .v (.bool false), .v (.bool false), .v (.int .i64 0)], 76), ([.v (.bool false), .v (.int .i64 0), .v (.slice none 0 0), .v (.bool false), .v (.int .i64 0), .v (.bool false), .v (.bool false), .v (.bool false), .v (.int .i64 0)], 76)], none, some (1, ns_3)⟩ (by kernel_rfl) (fun a hI => ?_)
     clear hI'
     have hF := hFu_32
     refine chunkL_ (live := [9, 8, 0]) (orc := []) hF 2 hI ⟨[p_ 9 2 0, p_ 8 1 0, e_ 0 (.pointer (some ⟨B0, 0, none⟩))], [], [], [([.v (.bool false), .v (.int .i64 0), .v (.slice none 0 0), .v (.bool false), .v (.int .i64 0), .v (.bool false), .v (.bool false), .v (.bool false), .v (.int .i64 0)], 76), ([.v (.bool false), .v (.int .i64 0), .v (.slice none 0 0), .v (.bool false), .v (.int .i64 0), .v (.bool false), .v (.bool false), .v (.bool false), .v (.int .i64 0)], 76), ([.v (.bool true), .v (.int .i64 0), .v (.slice none 0 0), .v (.bool false), .v (.int .i64 0), .v (.bool true), .v (.bool false), .v (.bool false), .v (.int .i64 0)], 76)], none, some (1, ns_3)⟩ [] rfl (by kernel_rfl) trivial (fun ns_86 a w_87 hI => ?_)
     refine wpListIn_nil ?_
     refine then_normal ?_
     refine wpIn_seq ?_
     refine wpIn_region_lit ?_
     refine chunkL_ (live := [29, 27, 9, 8, 0]) (orc := [[.int .i64 x0.all.steps]]) hF 7 hI ⟨[e_ 29 (.pointer (some ((⟨B0, 0, none⟩ : Addr).add 1))), e_ 27 (.int .i64 (IntKind.i64.wrap (x0.all.steps + 1))), p_ 9 2 0, p_ 8 1 0, e_ 0 (.pointer (some ⟨B0, 0, none⟩))], [], [], [([.v (.bool false), .v (.int .i64 0), .v (.slice none 0 0), .v (.bool false), .v (.int .i64 0), .v (.bool false), .v (.bool false), .v (.bool false), .v (.int .i64 0)], 76), ([.v (.bool false), .v (.int .i64 0), .v (.slice none 0 0), .v (.bool false), .v (.int .i64 0), .v (.bool false), .v (.bool false), .v (.bool false), .v (.int .i64 0)], 76), ([.v (.bool true), .v (.int .i64 0), .v (.slice none 0 0), .v (.bool false), .v (.int .i64 0), .v (.bool true), .v (.bool false), .v (.bool false), .v (.int .i64 0)], 76)], none, some (1, ns_3)⟩ [.cell true ((⟨B0, 0, none⟩ : Addr).add 1) [.int .i64 x0.all.steps]] rfl (by kernel_rfl) ⟨ob_o1 ho0 hE (by simp) true 1 [.int .i64 x0.all.steps] rfl, trivial⟩ (fun ns_88 a w_89 hI => ?_)
     obtain ⟨hE', hmv, hmr⟩ := Ep.rebase hE hI
     replace ho2 := Ojt.keep ho2 (hmv _) (fun b hb => hmr b (flat_mem (by simp) hb))
     replace ho0 := Ob1.keep ho0 (hmv _) (hmr _ (by simp))
     replace hE_75 := El.keep hE_75 (hmv _)
     replace ho1 := Ojt.keep ho1 (hmv _) (fun b hb => hmr b (flat_mem (by simp) hb))
     replace hE := hE'; replace hI := hI.rebase; clear hE' hmv hmr
     refine storeO_ (S0 := S) (d := kd_Task_Task) (e := 140) (off := 1) hF hE hI (wanted_none rfl) rfl rfl (ad := ((⟨B0, 0, none⟩ : Addr).add 1)) rfl rfl rfl (vs := [.int .i64 (IntKind.i64.wrap (x0.all.steps + 1))]) rfl rfl rfl rfl (by simp) (Ob1.as (y := (⟨(⟨(Fn133.t221 y_27), x0.all.steps, x0.all.over⟩ : Task_work_), x0.own⟩ : Task_Task)) ho0 rfl id) (⟨(⟨(Fn133.t221 y_27), (IntKind.i64.wrap (x0.all.steps + 1)), x0.all.over⟩ : Task_work_), x0.own⟩ : Task_Task) svo_8 rfl (fun h => ⟨h.1, trivial⟩) (fun a w_90 hput hE' hI' hmv hmr ho0 => ?_)
     replace ho2 := Ojt.keep ho2 (hmv _) (fun b hb => hmr b (flat_mem (by simp) hb) (Ep.ne hE (i := 1) (j := 0) (by decide) rfl rfl hb))
     replace hE_75 := El.keep hE_75 (hmv _)
     replace ho1 := Ojt.keep ho1 (hmv _) (fun b hb => hmr b (flat_mem (by simp) hb) (Ep.ne hE (i := 1) (j := 2) (by decide) rfl rfl hb))
     replace hE := hE'; replace hI := hI'; clear hE' hI' hmv hmr
     refine chunkL_ (live := [9, 8, 0]) (orc := []) hF 0 hI ⟨[p_ 9 2 0, p_ 8 1 0, e_ 0 (.pointer (some ⟨B0, 0, none⟩))], [], [], [([.v (.bool false), .v (.int .i64 0), .v (.slice none 0 0), .v (.bool false), .v (.int .i64 0), .v (.bool false), .v (.bool false), .v (.bool false), .v (.int .i64 0)], 76), ([.v (.bool false), .v (.int .i64 0), .v (.slice none 0 0), .v (.bool false), .v (.int .i64 0), .v (.bool false), .v (.bool false), .v (.bool false), .v (.int .i64 0)], 76), ([.v (.bool true), .v (.int .i64 0), .v (.slice none 0 0), .v (.bool false), .v (.int .i64 0), .v (.bool true), .v (.bool false), .v (.bool false), .v (.int .i64 0)], 76)], none, some (1, ns_3)⟩ [] rfl (by kernel_rfl) trivial (fun ns_91 a w_92 hI => ?_)
     refine wpListIn_nil ?_
     refine then_normal ?_
     refine wpIn_seq ?_
     refine wpIn_region_lit ?_
     refine chunkL_ (live := [34, 32, 9, 8]) (orc := []) hF 5 hI ⟨[e_ 34 (.pointer (some ((⟨B0, 0, none⟩ : Addr).add 2))), e_ 32 (.bool true), p_ 9 2 0, p_ 8 1 0], [], [], [([.v (.bool false), .v (.int .i64 0), .v (.slice none 0 0), .v (.bool false), .v (.int .i64 0), .v (.bool false), .v (.bool false), .v (.bool false), .v (.int .i64 0)], 76), ([.v (.bool false), .v (.int .i64 0), .v (.slice none 0 0), .v (.bool false), .v (.int .i64 0), .v (.bool false), .v (.bool false), .v (.bool false), .v (.int .i64 0)], 76), ([.v (.bool true), .v (.int .i64 0), .v (.slice none 0 0), .v (.bool false), .v (.int .i64 0), .v (.bool true), .v (.bool false), .v (.bool false), .v (.int .i64 0)], 76)], none, some (1, ns_3)⟩ [] rfl (by kernel_rfl) trivial (fun ns_93 a w_94 hI => ?_)
     obtain ⟨hE', hmv, hmr⟩ := Ep.rebase hE hI
     replace ho2 := Ojt.keep ho2 (hmv _) (fun b hb => hmr b (flat_mem (by simp) hb))
     replace hE_75 := El.keep hE_75 (hmv _)
     replace ho1 := Ojt.keep ho1 (hmv _) (fun b hb => hmr b (flat_mem (by simp) hb))
     replace ho0 := Ob1.keep ho0 (hmv _) (hmr _ (by simp))
     replace hE := hE'; replace hI := hI.rebase; clear hE' hmv hmr
     refine storeO_ (S0 := S) (d := kd_Task_Task) (e := 140) (off := 2) hF hE hI (wanted_none rfl) rfl rfl (ad := ((⟨B0, 0, none⟩ : Addr).add 2)) rfl rfl rfl (vs := [.bool true]) rfl rfl rfl rfl (by simp) (Ob1.as (y := (⟨(⟨(Fn133.t221 y_27), (IntKind.i64.wrap (x0.all.steps + 1)), x0.all.over⟩ : Task_work_), x0.own⟩ : Task_Task)) ho0 rfl id) (⟨(⟨(Fn133.t221 y_27), (IntKind.i64.wrap (x0.all.steps + 1)), true⟩ : Task_work_), x0.own⟩ : Task_Task) svo_8 rfl (fun h => ⟨h.1, trivial⟩) (fun a w_95 hput hE' hI' hmv hmr ho0 => ?_)
     replace ho2 := Ojt.keep ho2 (hmv _) (fun b hb => hmr b (flat_mem (by simp) hb) (Ep.ne hE (i := 1) (j := 0) (by decide) rfl rfl hb))
     replace hE_75 := El.keep hE_75 (hmv _)
     replace ho1 := Ojt.keep ho1 (hmv _) (fun b hb => hmr b (flat_mem (by simp) hb) (Ep.ne hE (i := 1) (j := 2) (by decide) rfl rfl hb))
     replace hE := hE'; replace hI := hI'; clear hE' hI' hmv hmr
     refine chunkL_ (live := [9, 8]) (orc := []) hF 0 hI ⟨[p_ 9 2 0, p_ 8 1 0], [], [], [([.v (.bool false), .v (.int .i64 0), .v (.slice none 0 0), .v (.bool false), .v (.int .i64 0), .v (.bool false), .v (.bool false), .v (.bool false), .v (.int .i64 0)], 76), ([.v (.bool false), .v (.int .i64 0), .v (.slice none 0 0), .v (.bool false), .v (.int .i64 0), .v (.bool false), .v (.bool false), .v (.bool false), .v (.int .i64 0)], 76), ([.v (.bool true), .v (.int .i64 0), .v (.slice none 0 0), .v (.bool false), .v (.int .i64 0), .v (.bool true), .v (.bool false), .v (.bool false), .v (.int .i64 0)], 76)], none, some (1, ns_3)⟩ [] rfl (by kernel_rfl) trivial (fun ns_96 a w_97 hI => ?_)
     refine wpListIn_nil ?_
     refine then_normal ?_
     refine seq_region (live := [8]) (orc := []) hF hI ⟨[p_ 8 1 0], [], [], [([.v (.bool false), .v (.int .i64 0), .v (.slice none 0 0), .v (.bool false), .v (.int .i64 0), .v (.bool false), .v (.bool false), .v (.bool false), .v (.int .i64 0)], 76), ([.v (.bool true), .v (.int .i64 0), .v (.slice none 0 0), .v (.bool false), .v (.int .i64 0), .v (.bool true), .v (.bool false), .v (.bool false), .v (.int .i64 0)], 76), ([.v (.bool true), .v (.int .i64 0), .v (.slice none 0 0), .v (.bool false), .v (.int .i64 0), .v (.bool true), .v (.bool false), .v (.bool false), .v (.int .i64 0)], 76)], none, some (1, ns_3)⟩ [] (by kernel_rfl) trivial (fun ns_98 a w_99 hI _ => ?_)
     refine wpIn_ret ?_
     obtain ⟨hE', hmv, hmr⟩ := Ep.rebase hE hI
     replace ho2 := Ojt.keep ho2 (hmv _) (fun b hb => hmr b (flat_mem (by simp) hb))
     replace hE_75 := El.keep hE_75 (hmv _)
     replace ho1 := Ojt.keep ho1 (hmv _) (fun b hb => hmr b (flat_mem (by simp) hb))
     replace ho0 := Ob1.keep ho0 (hmv _) (hmr _ (by simp))
     replace hE := hE'; replace hI := hI.rebase; clear hE' hmv hmr
     obtain ⟨hE', hI', hmv⟩ := Ep.uncall (bs := [([.v (.bool false), .v (.int .i64 0), .v (.slice none 0 0), .v (.bool false), .v (.int .i64 0), .v (.bool false), .v (.bool false), .v (.bool false), .v (.int .i64 0)], 76)]) hOu_5 hE hI rfl rfl rfl rfl (by kernel_rfl) rfl
     have hmr := hmr_ ([F2, [B0], (q_80.2 0)] : List (List Nat)) w_99
     replace ho2 := Ojt.keep ho2 (hmv _) (fun b hb => hmr b (flat_mem (by simp) hb))
     replace hE_75 := El.keep hE_75 (hmv _)
     replace ho1 := Ojt.keep ho1 (hmv _) (fun b hb => hmr b (flat_mem (by simp) hb))
     replace ho0 := Ob1.keep ho0 (hmv _) (hmr _ (by simp))
     replace hE := hE'
     clear hE' hmv hmr
     refine retG hI rfl rfl ⟨.agg #[.bool true, .int .i64 0, .slice none 0 0, .bool false, .int .i64 0, .bool true, .bool false, .bool false, .int .i64 0], rfl, ?_⟩
     refine putI_ hI' (s_ [e_ 15 (.agg #[.bool true, .int .i64 0, .slice none 0 0, .bool false, .int .i64 0, .bool true, .bool false, .bool false, .int .i64 0]), e_ 14 (.int .i64 a3), e_ 13 (.pointer (some ⟨B2, 0, none⟩)), e_ 12 (.pointer (some ⟨B1, 0, none⟩)), e_ 11 (.pointer (some ⟨B0, 0, none⟩)), p_ 8 0 0] [([.v (.bool false), .v (.int .i64 0), .v (.slice none 0 0), .v (.bool false), .v (.int .i64 0), .v (.bool false), .v (.bool false), .v (.bool false), .v (.int .i64 0)], 76)]) (by kernel_rfl) (fun a hI => ?_)
     clear hI'
     have hF := hFu_5
     refine ck0_ hF 1 hI (s_ [p_ 8 0 0] [([.v (.bool true), .v (.int .i64 0), .v (.slice none 0 0), .v (.bool false), .v (.int .i64 0), .v (.bool true), .v (.bool false), .v (.bool false), .v (.int .i64 0)], 76)]) rfl (by kernel_rfl) (fun ns_100 a w_101 hI => ?_)
     refine wpListIn_nil ?_
     refine then_normal ?_
     obtain ⟨hE', hmv, hmr⟩ := Ep.rebase hE hI
     replace ho2 := Ojt.keep ho2 (hmv _) (fun b hb => hmr b (flat_mem (by simp) hb))
     replace hE_75 := El.keep hE_75 (hmv _)
     replace ho1 := Ojt.keep ho1 (hmv _) (fun b hb => hmr b (flat_mem (by simp) hb))
     replace ho0 := Ob1.keep ho0 (hmv _) (hmr _ (by simp))
     replace hE := hE'; replace hI := hI.rebase; clear hE' hmv hmr
     have ho_102 : Ojt lk_Task_Task (Lo S w w_101 ns_100 [F2, [B0], (q_80.2 0)]) w_101 B0 (⟨(⟨(Fn133.t221 y_27), (IntKind.i64.wrap (x0.all.steps + 1)), true⟩ : Task_work_), x0.own⟩ : Task_Task) (B0 :: ([])) := Ojt.mk' (k := lk_Task_Task) svo_8 (Ob1.as ho0 rfl id) ⟨rfl, trivial⟩
     obtain ⟨hE', hmv⟩ := Ep.group hE [1] (by decide) (B0 :: ([])) rfl
     replace hE : Ep ([F0, F1, F2] : List (List Nat)).flatten w w_101 ns_100 [F2, (q_80.2 0), (B0 :: ([]))] := hE'
     replace hmv : ∀ S0, Mv (Lo S0 w w_101 ns_100 [F2, [B0], (q_80.2 0)]) w_101 (Lo S0 w w_101 ns_100 [F2, (q_80.2 0), (B0 :: ([]))]) w_101 := hmv
     have hmr := hmr_ ([F2, (q_80.2 0), (B0 :: ([]))] : List (List Nat)) w_101
     replace ho2 := Ojt.keep ho2 (hmv _) (fun b hb => hmr b (flat_mem (by simp) hb))
     replace hE_75 := El.keep hE_75 (hmv _)
     replace ho1 := Ojt.keep ho1 (hmv _) (fun b hb => hmr b (flat_mem (by simp) hb))
     replace ho_102 := Ojt.keep ho_102 (hmv _) (fun b hb => hmr b (flat_mem (by simp) hb))
     clear hE' hmv hmr
     refine wpIn_ret ?_
     obtain rfl := Option.some.inj H0
     subst hSd
     exact retCell hI rfl rfl rfl rfl rfl rfl ⟨(svL [(none, 0)], fun i => ([(B0 :: ([])), (q_80.2 0), F2] : List (List Nat)).getD i []), rfl, hE.keeps hI, hE.handed [2, 1, 0] (by decide), ⟨⟨(Arr.nil _ _ _ _), (Nat.le_refl _)⟩, trivial⟩, Ojt.keep ho_102 (hE.outO [2, 1, 0] _) (fun _ _ => rfl), Ojt.keep ho1 (hE.outO [2, 1, 0] _) (fun _ _ => rfl), Ojt.keep ho2 (hE.outO [2, 1, 0] _) (fun _ _ => rfl)⟩

noncomputable def G_task_Task_Steps (x0 : Task_Task) : Option (Int) := some x0.all.steps
theorem G_task_Task_Steps.calls (x0 : Task_Task) (B0 : Nat) (F0 : List Nat) (w : World) {S : Nat → Prop} (ho0 : Ojt lk_Task_Task (fun _ => True) w B0 x0 F0) (r : Int) (h : G_task_Task_Steps x0 = some r) :
    Calls Tryz.prog 25 #[.pointer (some (⟨B0, 0, none⟩ : Addr))] w fun e w' => e = .returned (.int .i64 r) ∧ Below w.heap.size w w' := by
  have hoK0 := ho0
  obtain ⟨svo0, F'0, hF0, hoE0, hl0⟩ := ho0.ex
  replace hoE0 := El.lo (Ob1.el hoE0 trivial)
  obtain ⟨_, _⟩ := hl0
  unfold G_task_Task_Steps at h
  have H0 := h
  clear h
  refine enter Tryz.func25 rfl [.pointer (some (⟨B0, 0, none⟩ : Addr))] (n := 8) rfl (Nat.le_of_ble_eq_true rfl) (fun a hI => ?_)
  have hF : FOpen Fence.wide := .inl rfl
  have hE := Ep.start w
  refine sr0_ hF hI (s_ [e_ 2 (.int .i64 0), e_ 0 (.pointer (some (⟨B0, 0, none⟩ : Addr)))] []) (by kernel_rfl) (fun ns_1 a w_2 hI => ?_)
  refine sr_ (orc := [[.int .i64 x0.all.steps]]) hF hI (s_ [e_ 2 (.int .i64 x0.all.steps)] []) [.cell true ((⟨B0, 0, none⟩ : Addr).add 1) [.int .i64 x0.all.steps]] (by kernel_rfl) ⟨ob_el (fun _ => hoE0) 1 [.int .i64 x0.all.steps] rfl, trivial⟩ (fun ns_3 a w_4 hI => ?_)
  refine wpIn_ret ?_
  obtain rfl := Option.some.inj H0
  exact ret1 hI rfl rfl ⟨rfl, hE.below hI⟩

noncomputable def G_law13_wakes  : Option (Bool) := ((G_law13_example).bind fun t_3 => ((G_task_Begin t_3 (⟨0, false, [], []⟩ : Standing) 0 (⟨1, 0, 0, []⟩ : Request)).bind fun t_12 => ((G_task_Begin t_3 (⟨0, false, [], []⟩ : Standing) 0 (⟨8, 0, 1, []⟩ : Request)).bind fun t_24 => (opt t_24.1 (bif ((((!t_12.2.2) || (t_12.2.1.Code != 0)) || t_24.2.2) || true) then some false else ((G_ref08_Size t_3).bind fun t_43 => ((G_mem_New t_43).bind fun t_47 => ((G_bell_New 2).bind fun t_56 => (opt t_47.1 (opt t_56.1 (bif ((((t_47.2 != 0) || (t_56.2 != 0)) || true) || true) then some false else none) (fun y_70 => (bif ((((t_47.2 != 0) || (t_56.2 != 0)) || true) || false) then some false else none))) (fun y_66 => (opt t_56.1 (bif ((((t_47.2 != 0) || (t_56.2 != 0)) || false) || true) then some false else none) (fun y_88 => (bif ((((t_47.2 != 0) || (t_56.2 != 0)) || false) || false) then some false else none))))))))) (fun y_35 => (bif ((((!t_12.2.2) || (t_12.2.1.Code != 0)) || t_24.2.2) || false) then some false else ((G_ref08_Size t_3).bind fun t_110 => ((G_mem_New t_110).bind fun t_114 => ((G_bell_New 2).bind fun t_123 => (opt t_114.1 (opt t_123.1 (bif ((((t_114.2 != 0) || (t_123.2 != 0)) || true) || true) then some false else none) (fun y_137 => (bif ((((t_114.2 != 0) || (t_123.2 != 0)) || true) || false) then some false else none))) (fun y_133 => (opt t_123.1 (bif ((((t_114.2 != 0) || (t_123.2 != 0)) || false) || true) then some false else none) (fun y_155 => (bif ((((t_114.2 != 0) || (t_123.2 != 0)) || false) || false) then some false else ((G_task_Task_Step y_35 y_133 y_155 0).bind fun t_172 => ((cal t_172.1.Done (G_task_Task_Steps t_172.2.1) default).bind fun t_178 => some (t_172.1.Done && (t_178 == 2))))))))))))))))))
theorem G_law13_wakes.calls   (w : World) {S : Nat → Prop} (hg0 : El kd_St257 S w ⟨0, 0, none⟩ gv0 (svL [])) (r : Bool) (h : G_law13_wakes = some r) :
    Calls Tryz.prog 20 #[] w fun e w' => e = .returned (.bool r) ∧ Below w.heap.size w w' := by
  replace hg0 := El.lo hg0
  unfold G_law13_wakes at h
  have H0 := h
  clear h
  refine enter Tryz.func20 rfl [] (n := 77) rfl (Nat.le_of_ble_eq_true rfl) (fun a hI => ?_)
  have hF : FOpen Fence.wide := .inl rfl
  have hE := Ep.start w
  refine sr0_ hF hI (s_ [e_ 0 (.bool false)] []) (by kernel_rfl) (fun ns_1 a w_2 hI => ?_)
  refine wpIn_seq ?_
  refine wpIn_region_lit ?_
  obtain ⟨hE', hmv, hmr⟩ := Ep.rebase hE hI
  replace hg0 := El.keep hg0 (hmv _)
  replace hE := hE'; replace hI := hI.rebase; clear hE' hmv hmr
  obtain ⟨t_3, hG_4, H0⟩ := bind_some H0
  refine callH_ hF hE hI (wanted_none rfl) rfl (args := []) rfl (enters Tryz.func27 (by kernel_rfl) rfl) (fun sv_5 => .agg ((kd_Config).cells t_3 sv_5).toArray) _ (G_law13_example.calls   w_2 (S := Lo S w w_2 ns_1 [])  _ hG_4) (fun sv_5 => (s_ [e_ 12 (.agg ((kd_Config).cells t_3 sv_5).toArray), e_ 0 (.bool false)] [])) (fun sv_5 => by kernel_rfl) (fun sv_5 a w_7 hput hE' hI' hmv hmr hres hR => ?_)
  replace hg0 := El.keep hg0 (hmv _)
  replace hE := hE'; replace hI := hI'; clear hE' hI' hmv hmr
  have hR_6 := hR
  replace hR_6 := Kd.keep _ hR_6 (hres _)
  clear hres
  refine ck0_ hF 2 hI (s_ [p_ 1 0 0, e_ 0 (.bool false)] [((((kd_Config).cells t_3 sv_5).map EV.v), 29)]) rfl (by kernel_rfl) (fun ns_8 a w_9 hI => ?_)
  refine wpListIn_nil ?_
  refine then_normal ?_
  refine wpIn_seq ?_
  refine wpIn_region_lit ?_
  refine ck0_ hF 3 hI (s_ [e_ 16 (.agg #[.int .i64 1, .int .i64 0, .int .u64 0, .slice none 0 0]), e_ 15 (.agg #[.int .i64 0, .bool false, .slice none 0 0, .slice none 0 0]), e_ 14 (.agg ((kd_Config).cells t_3 sv_5).toArray), p_ 1 0 0, e_ 0 (.bool false)] [((((kd_Config).cells t_3 sv_5).map EV.v), 29)]) rfl (by kernel_rfl) (fun ns_10 a w_11 hI => ?_)
  obtain ⟨hE', hmv, hmr⟩ := Ep.rebase hE hI
  replace hg0 := El.keep hg0 (hmv _)
  replace hR_6 := Kd.keep _ hR_6 (hmv _)
  replace hE := hE'; replace hI := hI.rebase; clear hE' hmv hmr
  obtain ⟨t_12, hG_13, H0⟩ := bind_some H0
  have hbs_15 := hE.k.size
  refine callO_ hF hE hI (wanted_none rfl) rfl (args := [.agg ((kd_Config).cells t_3 sv_5).toArray, .agg ((kd_Standing).cells (⟨0, false, [], []⟩ : Standing) (svL [(none, 0), (none, 0)])).toArray, .int .u32 0, .agg ((kd_Request).cells (⟨1, 0, 0, []⟩ : Request) (svL [(none, 0)])).toArray]) rfl (enters Tryz.func22 (by kernel_rfl) rfl) (fun q_14 : SV × (Nat → List Nat) => .tuple #[.pointer ((q_14.1 0).1), .agg ((kd_Answer).cells t_12.2.1 (svO q_14.1 1)).toArray, .bool t_12.2.2]) [] (fun q_14 => [q_14.2 0]) _ (G_task_Begin.calls t_3 (⟨0, false, [], []⟩ : Standing) 0 (⟨1, 0, 0, []⟩ : Request) sv_5 (svL [(none, 0), (none, 0)]) (svL [(none, 0)]) w_11 (S0_ := Lo S w w_11 ns_10 []) (contI (S := Lo S w w_11 ns_10 []) (w := w_11) (d := kd_Config) (x := t_3) (sv := sv_5) ⟨⟨hR_6.1.1, hR_6.1.2⟩, ⟨hR_6.2.1.1, hR_6.2.1.2⟩, ⟨hR_6.2.2.1.1, hR_6.2.2.1.2⟩, ⟨hR_6.2.2.2.1.1, hR_6.2.2.2.1.2⟩, trivial⟩) (contI (S := Lo S w w_11 ns_10 []) (w := w_11) (d := kd_Standing) (x := (⟨0, false, [], []⟩ : Standing)) (sv := (svL [(none, 0), (none, 0)])) ⟨⟨(Arr.nil _ _ _ _), (Nat.le_refl _)⟩, ⟨(Arr.nil _ _ _ _), (Nat.le_refl _)⟩, trivial⟩) (contI (S := Lo S w w_11 ns_10 []) (w := w_11) (d := kd_Request) (x := (⟨1, 0, 0, []⟩ : Request)) (sv := (svL [(none, 0)])) ⟨⟨(Arr.nil _ _ _ _), (Nat.le_refl _)⟩, trivial⟩) hg0 _ hG_13) (.inr (fun b hb => by simp at hb)) (fun q_14 => (s_ [e_ 17 (.tuple #[.pointer ((q_14.1 0).1), .agg ((kd_Answer).cells t_12.2.1 (svO q_14.1 1)).toArray, .bool t_12.2.2]), e_ 16 (.agg ((kd_Request).cells (⟨1, 0, 0, []⟩ : Request) (svL [(none, 0)])).toArray), e_ 15 (.agg ((kd_Standing).cells (⟨0, false, [], []⟩ : Standing) (svL [(none, 0), (none, 0)])).toArray), e_ 14 (.agg ((kd_Config).cells t_3 sv_5).toArray), p_ 1 0 0, e_ 0 (.bool false)] [((((kd_Config).cells t_3 sv_5).map EV.v), 29)])) (fun q_14 => by kernel_rfl) (fun q_14 a w_19 hput hE' hI' hmv hmr hres hR => ?_)
  replace hmv : ∀ S0, Mv (Lo S0 w w_11 ns_10 []) w_11 (Lo S0 w w_19 ns_10 [(q_14.2 0)]) w_19 := hmv
  replace hmr : ∀ b ∈ ([] : List (List Nat)).flatten, w_19.heap[b]? = w_11.heap[b]? := hmr
  replace hE : Ep [] w w_19 ns_10 [(q_14.2 0)] := hE'
  replace hI := hI'
  clear hE' hI'
  replace hg0 := El.keep hg0 (hmv _)
  replace hR_6 := Kd.keep _ hR_6 (hmv _)
  clear hmv hmr
  obtain ⟨hR_16, hR_17⟩ := hR
  replace hR_16 := OjtN.keep hR_16 (hres _ (fun b hb => by simp at hb)) (fun _ _ => rfl)
  replace hR_17 := Kd.keep _ hR_17 (hres _ (fun b hb => by simp at hb))
  clear hres
  refine ck0_ hF 8 hI (s_ [e_ 4 (.bool t_12.2.2), p_ 3 1 0, p_ 1 0 0, e_ 0 (.bool false)] [((((kd_Config).cells t_3 sv_5).map EV.v), 29), ((((kd_Answer).cells t_12.2.1 (svO q_14.1 1)).map EV.v), 48)]) rfl (by kernel_rfl) (fun ns_20 a w_21 hI => ?_)
  refine wpListIn_nil ?_
  refine then_normal ?_
  refine wpIn_seq ?_
  refine wpIn_region_lit ?_
  refine ck0_ hF 3 hI (s_ [e_ 24 (.agg #[.int .i64 8, .int .i64 0, .int .u64 1, .slice none 0 0]), e_ 23 (.agg #[.int .i64 0, .bool false, .slice none 0 0, .slice none 0 0]), e_ 22 (.agg ((kd_Config).cells t_3 sv_5).toArray), e_ 4 (.bool t_12.2.2), p_ 3 1 0, p_ 1 0 0, e_ 0 (.bool false)] [((((kd_Config).cells t_3 sv_5).map EV.v), 29), ((((kd_Answer).cells t_12.2.1 (svO q_14.1 1)).map EV.v), 48)]) rfl (by kernel_rfl) (fun ns_22 a w_23 hI => ?_)
  obtain ⟨hE', hmv, hmr⟩ := Ep.rebase hE hI
  replace hg0 := El.keep hg0 (hmv _)
  replace hR_6 := Kd.keep _ hR_6 (hmv _)
  replace hR_16 := OjtN.keep hR_16 (hmv _) (fun b hb => hmr b (flat_mem (by simp) hb))
  replace hR_17 := Kd.keep _ hR_17 (hmv _)
  replace hE := hE'; replace hI := hI.rebase; clear hE' hmv hmr
  obtain ⟨t_24, hG_25, H0⟩ := bind_some H0
  have hbs_27 := hE.k.size
  refine callO_ hF hE hI (wanted_none rfl) rfl (args := [.agg ((kd_Config).cells t_3 sv_5).toArray, .agg ((kd_Standing).cells (⟨0, false, [], []⟩ : Standing) (svL [(none, 0), (none, 0)])).toArray, .int .u32 0, .agg ((kd_Request).cells (⟨8, 0, 1, []⟩ : Request) (svL [(none, 0)])).toArray]) rfl (enters Tryz.func22 (by kernel_rfl) rfl) (fun q_26 : SV × (Nat → List Nat) => .tuple #[.pointer ((q_26.1 0).1), .agg ((kd_Answer).cells t_24.2.1 (svO q_26.1 1)).toArray, .bool t_24.2.2]) [] (fun q_26 => [q_26.2 0]) _ (G_task_Begin.calls t_3 (⟨0, false, [], []⟩ : Standing) 0 (⟨8, 0, 1, []⟩ : Request) sv_5 (svL [(none, 0), (none, 0)]) (svL [(none, 0)]) w_23 (S0_ := Lo S w w_23 ns_22 [(q_14.2 0)]) (contI (S := Lo S w w_23 ns_22 [(q_14.2 0)]) (w := w_23) (d := kd_Config) (x := t_3) (sv := sv_5) ⟨⟨hR_6.1.1, hR_6.1.2⟩, ⟨hR_6.2.1.1, hR_6.2.1.2⟩, ⟨hR_6.2.2.1.1, hR_6.2.2.1.2⟩, ⟨hR_6.2.2.2.1.1, hR_6.2.2.2.1.2⟩, trivial⟩) (contI (S := Lo S w w_23 ns_22 [(q_14.2 0)]) (w := w_23) (d := kd_Standing) (x := (⟨0, false, [], []⟩ : Standing)) (sv := (svL [(none, 0), (none, 0)])) ⟨⟨(Arr.nil _ _ _ _), (Nat.le_refl _)⟩, ⟨(Arr.nil _ _ _ _), (Nat.le_refl _)⟩, trivial⟩) (contI (S := Lo S w w_23 ns_22 [(q_14.2 0)]) (w := w_23) (d := kd_Request) (x := (⟨8, 0, 1, []⟩ : Request)) (sv := (svL [(none, 0)])) ⟨⟨(Arr.nil _ _ _ _), (Nat.le_refl _)⟩, trivial⟩) hg0 _ hG_25) (.inr (fun b hb => by simp at hb)) (fun q_26 => (s_ [e_ 25 (.tuple #[.pointer ((q_26.1 0).1), .agg ((kd_Answer).cells t_24.2.1 (svO q_26.1 1)).toArray, .bool t_24.2.2]), e_ 24 (.agg ((kd_Request).cells (⟨8, 0, 1, []⟩ : Request) (svL [(none, 0)])).toArray), e_ 23 (.agg ((kd_Standing).cells (⟨0, false, [], []⟩ : Standing) (svL [(none, 0), (none, 0)])).toArray), e_ 22 (.agg ((kd_Config).cells t_3 sv_5).toArray), e_ 4 (.bool t_12.2.2), p_ 3 1 0, p_ 1 0 0, e_ 0 (.bool false)] [((((kd_Config).cells t_3 sv_5).map EV.v), 29), ((((kd_Answer).cells t_12.2.1 (svO q_14.1 1)).map EV.v), 48)])) (fun q_26 => by kernel_rfl) (fun q_26 a w_31 hput hE' hI' hmv hmr hres hR => ?_)
  replace hmv : ∀ S0, Mv (Lo S0 w w_23 ns_22 [(q_14.2 0)]) w_23 (Lo S0 w w_31 ns_22 [(q_14.2 0), (q_26.2 0)]) w_31 := hmv
  replace hmr : ∀ b ∈ ([(q_14.2 0)] : List (List Nat)).flatten, w_31.heap[b]? = w_23.heap[b]? := hmr
  replace hE : Ep [] w w_31 ns_22 [(q_14.2 0), (q_26.2 0)] := hE'
  replace hI := hI'
  clear hE' hI'
  replace hg0 := El.keep hg0 (hmv _)
  replace hR_6 := Kd.keep _ hR_6 (hmv _)
  replace hR_16 := OjtN.keep hR_16 (hmv _) (fun b hb => hmr b (flat_mem (by simp) hb))
  replace hR_17 := Kd.keep _ hR_17 (hmv _)
  clear hmv hmr
  obtain ⟨hR_28, hR_29⟩ := hR
  replace hR_28 := OjtN.keep hR_28 (hres _ (fun b hb => by simp at hb)) (fun _ _ => rfl)
  replace hR_29 := Kd.keep _ hR_29 (hres _ (fun b hb => by simp at hb))
  clear hres
  refine ck0_ hF 8 hI (s_ [e_ 7 (.bool t_24.2.2), e_ 5 (.pointer ((q_26.1 0).1)), e_ 4 (.bool t_12.2.2), p_ 3 1 0, p_ 1 0 0, e_ 0 (.bool false)] [((((kd_Config).cells t_3 sv_5).map EV.v), 29), ((((kd_Answer).cells t_12.2.1 (svO q_14.1 1)).map EV.v), 48), ((((kd_Answer).cells t_24.2.1 (svO q_26.1 1)).map EV.v), 48)]) rfl (by kernel_rfl) (fun ns_32 a w_33 hI => ?_)
  refine wpListIn_nil ?_
  refine then_normal ?_
  refine wpIn_seq ?_
  obtain ⟨hE', hmv, hmr⟩ := Ep.rebase hE hI
  replace hg0 := El.keep hg0 (hmv _)
  replace hR_6 := Kd.keep _ hR_6 (hmv _)
  replace hR_16 := OjtN.keep hR_16 (hmv _) (fun b hb => hmr b (flat_mem (by simp) hb))
  replace hR_17 := Kd.keep _ hR_17 (hmv _)
  replace hR_28 := OjtN.keep hR_28 (hmv _) (fun b hb => hmr b (flat_mem (by simp) hb))
  replace hR_29 := Kd.keep _ hR_29 (hmv _)
  replace hE := hE'; replace hI := hI.rebase; clear hE' hmv hmr
  rcases opt_split H0 with ⟨hx_34, H0⟩ | ⟨y_35, hx_34, H0⟩
  ·obtain ⟨hA_37, _⟩ := OjtN.none_of hR_28 hx_34
   replace hI := Inv.cast (σf := fun q_ => (s_ [e_ 7 (.bool t_24.2.2), e_ 5 (.pointer q_), e_ 4 (.bool t_12.2.2), p_ 3 1 0, p_ 1 0 0, e_ 0 (.bool false)] [((((kd_Config).cells t_3 sv_5).map EV.v), 29), ((((kd_Answer).cells t_12.2.1 (svO q_14.1 1)).map EV.v), 48), ((((kd_Answer).cells t_24.2.1 (svO q_26.1 1)).map EV.v), 48)])) hA_37 hI
   refine sr0_ hF hI (s_ [e_ 42 (.bool ((((!t_12.2.2) || (t_12.2.1.Code != 0)) || t_24.2.2) || true)), e_ 5 (.pointer none), p_ 1 0 0, e_ 0 (.bool false)] [((((kd_Config).cells t_3 sv_5).map EV.v), 29), ((((kd_Answer).cells t_12.2.1 (svO q_14.1 1)).map EV.v), 48), ((((kd_Answer).cells t_24.2.1 (svO q_26.1 1)).map EV.v), 48)]) (by kernel_rfl) (fun ns_38 a w_39 hI => ?_)
   refine cond_ hI (((((!t_12.2.2) || (t_12.2.1.Code != 0)) || t_24.2.2) || true)) rfl (fun hc_40 => ?_) (fun hc_40 => ?_)
   ·replace H0 := bif_t hc_40 H0
    refine sr0_ hF hI (s_ [e_ 0 (.bool false)] [((((kd_Config).cells t_3 sv_5).map EV.v), 29), ((((kd_Answer).cells t_12.2.1 (svO q_14.1 1)).map EV.v), 48), ((((kd_Answer).cells t_24.2.1 (svO q_26.1 1)).map EV.v), 48)]) (by kernel_rfl) (fun ns_41 a w_42 hI => ?_)
    refine wpIn_ret ?_
    refine then_ret ?_
    obtain rfl := Option.some.inj H0
    exact ret1 hI rfl rfl ⟨rfl, hE.below hI⟩
   ·replace H0 := bif_f hc_40 H0
    refine wpIn_skip ?_
    refine then_normal ?_
    refine wpIn_seq ?_
    refine wpIn_region_lit ?_
    obtain ⟨t_43, hG_44, H0⟩ := bind_some H0
    refine ck_ (orc := [[.int .i64 t_43]]) hF 2 hI (s_ [e_ 45 (.int .i64 t_43), e_ 5 (.pointer none), e_ 0 (.bool false)] [((((kd_Config).cells t_3 sv_5).map EV.v), 29), ((((kd_Answer).cells t_12.2.1 (svO q_14.1 1)).map EV.v), 48), ((((kd_Answer).cells t_24.2.1 (svO q_26.1 1)).map EV.v), 48)]) [.call true 29 [.agg ((kd_Config).cells t_3 sv_5).toArray] (.int .i64 t_43)] rfl (by kernel_rfl) ⟨ob_call (enters Tryz.func29 (by kernel_rfl) rfl) (fun hg wz hk => G_ref08_Size.calls t_3 sv_5 wz (S := fun _ => True) (Kd.any _ (Kd.keep kd_Config (contI (S := Lo S w w_33 ns_32 [(q_14.2 0), (q_26.2 0)]) (w := w_33) (d := kd_Config) (x := t_3) (sv := sv_5) ⟨⟨hR_6.1.1, hR_6.1.2⟩, ⟨hR_6.2.1.1, hR_6.2.1.2⟩, ⟨hR_6.2.2.1.1, hR_6.2.2.1.2⟩, ⟨hR_6.2.2.2.1.1, hR_6.2.2.2.1.2⟩, trivial⟩) (Lo.on hk))) _ hG_44), trivial⟩ (fun ns_45 a w_46 hI => ?_)
    obtain ⟨hE', hmv, hmr⟩ := Ep.rebase hE hI
    replace hg0 := El.keep hg0 (hmv _)
    replace hR_6 := Kd.keep _ hR_6 (hmv _)
    replace hR_16 := OjtN.keep hR_16 (hmv _) (fun b hb => hmr b (flat_mem (by simp) hb))
    replace hR_17 := Kd.keep _ hR_17 (hmv _)
    replace hR_29 := Kd.keep _ hR_29 (hmv _)
    replace hE := hE'; replace hI := hI.rebase; clear hE' hmv hmr
    obtain ⟨t_47, hG_48, H0⟩ := bind_some H0
    have hbs_50 := hE.k.size
    refine callO_ hF hE hI (wanted_none rfl) rfl (args := [.int .i64 t_43]) rfl (enters Tryz.func28 (by kernel_rfl) rfl) (fun q_49 : SV × (Nat → List Nat) => .tuple #[.pointer ((q_49.1 0).1), .int .i64 t_47.2]) [] (fun q_49 => [q_49.2 0]) _ (G_mem_New.calls t_43  w_46 (S0_ := Lo S w w_46 ns_45 [(q_14.2 0), (q_26.2 0)])  _ hG_48) (.inr (fun b hb => by simp at hb)) (fun q_49 => (s_ [e_ 46 (.tuple #[.pointer ((q_49.1 0).1), .int .i64 t_47.2]), e_ 45 (.int .i64 t_43), e_ 5 (.pointer none), e_ 0 (.bool false)] [((((kd_Config).cells t_3 sv_5).map EV.v), 29), ((((kd_Answer).cells t_12.2.1 (svO q_14.1 1)).map EV.v), 48), ((((kd_Answer).cells t_24.2.1 (svO q_26.1 1)).map EV.v), 48)])) (fun q_49 => by kernel_rfl) (fun q_49 a w_53 hput hE' hI' hmv hmr hres hR => ?_)
    replace hmv : ∀ S0, Mv (Lo S0 w w_46 ns_45 [(q_14.2 0), (q_26.2 0)]) w_46 (Lo S0 w w_53 ns_45 [(q_14.2 0), (q_26.2 0), (q_49.2 0)]) w_53 := hmv
    replace hmr : ∀ b ∈ ([(q_14.2 0), (q_26.2 0)] : List (List Nat)).flatten, w_53.heap[b]? = w_46.heap[b]? := hmr
    replace hE : Ep [] w w_53 ns_45 [(q_14.2 0), (q_26.2 0), (q_49.2 0)] := hE'
    replace hI := hI'
    clear hE' hI'
    replace hg0 := El.keep hg0 (hmv _)
    replace hR_6 := Kd.keep _ hR_6 (hmv _)
    replace hR_16 := OjtN.keep hR_16 (hmv _) (fun b hb => hmr b (flat_mem (by simp) hb))
    replace hR_17 := Kd.keep _ hR_17 (hmv _)
    replace hR_29 := Kd.keep _ hR_29 (hmv _)
    clear hmv hmr
    have hR_51 := hR
    replace hR_51 := OjtN.keep hR_51 (hres _ (fun b hb => by simp at hb)) (fun _ _ => rfl)
    clear hres
    refine ck0_ hF 5 hI (s_ [e_ 9 (.int .i64 t_47.2), e_ 8 (.pointer ((q_49.1 0).1)), e_ 5 (.pointer none), e_ 0 (.bool false)] [((((kd_Config).cells t_3 sv_5).map EV.v), 29), ((((kd_Answer).cells t_12.2.1 (svO q_14.1 1)).map EV.v), 48), ((((kd_Answer).cells t_24.2.1 (svO q_26.1 1)).map EV.v), 48)]) rfl (by kernel_rfl) (fun ns_54 a w_55 hI => ?_)
    refine wpListIn_nil ?_
    refine then_normal ?_
    refine wpIn_seq ?_
    refine wpIn_region_lit ?_
    obtain ⟨hE', hmv, hmr⟩ := Ep.rebase hE hI
    replace hg0 := El.keep hg0 (hmv _)
    replace hR_6 := Kd.keep _ hR_6 (hmv _)
    replace hR_16 := OjtN.keep hR_16 (hmv _) (fun b hb => hmr b (flat_mem (by simp) hb))
    replace hR_17 := Kd.keep _ hR_17 (hmv _)
    replace hR_29 := Kd.keep _ hR_29 (hmv _)
    replace hR_51 := OjtN.keep hR_51 (hmv _) (fun b hb => hmr b (flat_mem (by simp) hb))
    replace hE := hE'; replace hI := hI.rebase; clear hE' hmv hmr
    obtain ⟨t_56, hG_57, H0⟩ := bind_some H0
    have hbs_59 := hE.k.size
    refine callO_ hF hE hI (wanted_none rfl) rfl (args := [.int .i64 2]) rfl (enters Tryz.func30 (by kernel_rfl) rfl) (fun q_58 : SV × (Nat → List Nat) => .tuple #[.pointer ((q_58.1 0).1), .int .i64 t_56.2]) [] (fun q_58 => [q_58.2 0]) _ (G_bell_New.calls 2  w_55 (S0_ := Lo S w w_55 ns_54 [(q_14.2 0), (q_26.2 0), (q_49.2 0)])  _ hG_57) (.inr (fun b hb => by simp at hb)) (fun q_58 => (s_ [e_ 50 (.tuple #[.pointer ((q_58.1 0).1), .int .i64 t_56.2]), e_ 9 (.int .i64 t_47.2), e_ 8 (.pointer ((q_49.1 0).1)), e_ 5 (.pointer none), e_ 0 (.bool false)] [((((kd_Config).cells t_3 sv_5).map EV.v), 29), ((((kd_Answer).cells t_12.2.1 (svO q_14.1 1)).map EV.v), 48), ((((kd_Answer).cells t_24.2.1 (svO q_26.1 1)).map EV.v), 48)])) (fun q_58 => by kernel_rfl) (fun q_58 a w_62 hput hE' hI' hmv hmr hres hR => ?_)
    replace hmv : ∀ S0, Mv (Lo S0 w w_55 ns_54 [(q_14.2 0), (q_26.2 0), (q_49.2 0)]) w_55 (Lo S0 w w_62 ns_54 [(q_14.2 0), (q_26.2 0), (q_49.2 0), (q_58.2 0)]) w_62 := hmv
    replace hmr : ∀ b ∈ ([(q_14.2 0), (q_26.2 0), (q_49.2 0)] : List (List Nat)).flatten, w_62.heap[b]? = w_55.heap[b]? := hmr
    replace hE : Ep [] w w_62 ns_54 [(q_14.2 0), (q_26.2 0), (q_49.2 0), (q_58.2 0)] := hE'
    replace hI := hI'
    clear hE' hI'
    replace hg0 := El.keep hg0 (hmv _)
    replace hR_6 := Kd.keep _ hR_6 (hmv _)
    replace hR_16 := OjtN.keep hR_16 (hmv _) (fun b hb => hmr b (flat_mem (by simp) hb))
    replace hR_17 := Kd.keep _ hR_17 (hmv _)
    replace hR_29 := Kd.keep _ hR_29 (hmv _)
    replace hR_51 := OjtN.keep hR_51 (hmv _) (fun b hb => hmr b (flat_mem (by simp) hb))
    clear hmv hmr
    have hR_60 := hR
    replace hR_60 := OjtN.keep hR_60 (hres _ (fun b hb => by simp at hb)) (fun _ _ => rfl)
    clear hres
    refine ck0_ hF 5 hI (s_ [e_ 11 (.int .i64 t_56.2), e_ 10 (.pointer ((q_58.1 0).1)), e_ 9 (.int .i64 t_47.2), e_ 8 (.pointer ((q_49.1 0).1)), e_ 5 (.pointer none), e_ 0 (.bool false)] [((((kd_Config).cells t_3 sv_5).map EV.v), 29), ((((kd_Answer).cells t_12.2.1 (svO q_14.1 1)).map EV.v), 48), ((((kd_Answer).cells t_24.2.1 (svO q_26.1 1)).map EV.v), 48)]) rfl (by kernel_rfl) (fun ns_63 a w_64 hI => ?_)
    refine wpListIn_nil ?_
    refine then_normal ?_
    refine wpIn_seq ?_
    obtain ⟨hE', hmv, hmr⟩ := Ep.rebase hE hI
    replace hg0 := El.keep hg0 (hmv _)
    replace hR_6 := Kd.keep _ hR_6 (hmv _)
    replace hR_16 := OjtN.keep hR_16 (hmv _) (fun b hb => hmr b (flat_mem (by simp) hb))
    replace hR_17 := Kd.keep _ hR_17 (hmv _)
    replace hR_29 := Kd.keep _ hR_29 (hmv _)
    replace hR_51 := OjtN.keep hR_51 (hmv _) (fun b hb => hmr b (flat_mem (by simp) hb))
    replace hR_60 := OjtN.keep hR_60 (hmv _) (fun b hb => hmr b (flat_mem (by simp) hb))
    replace hE := hE'; replace hI := hI.rebase; clear hE' hmv hmr
    rcases opt_split H0 with ⟨hx_65, H0⟩ | ⟨y_66, hx_65, H0⟩
    ·obtain ⟨hA_68, _⟩ := OjtN.none_of hR_51 hx_65
     replace hI := Inv.cast (σf := fun q_ => (s_ [e_ 11 (.int .i64 t_56.2), e_ 10 (.pointer ((q_58.1 0).1)), e_ 9 (.int .i64 t_47.2), e_ 8 (.pointer q_), e_ 5 (.pointer none), e_ 0 (.bool false)] [((((kd_Config).cells t_3 sv_5).map EV.v), 29), ((((kd_Answer).cells t_12.2.1 (svO q_14.1 1)).map EV.v), 48), ((((kd_Answer).cells t_24.2.1 (svO q_26.1 1)).map EV.v), 48)])) hA_68 hI
     rcases opt_split H0 with ⟨hx_69, H0⟩ | ⟨y_70, hx_69, H0⟩
     ·obtain ⟨hA_72, _⟩ := OjtN.none_of hR_60 hx_69
      replace hI := Inv.cast (σf := fun q_ => (s_ [e_ 11 (.int .i64 t_56.2), e_ 10 (.pointer q_), e_ 9 (.int .i64 t_47.2), e_ 8 (.pointer none), e_ 5 (.pointer none), e_ 0 (.bool false)] [((((kd_Config).cells t_3 sv_5).map EV.v), 29), ((((kd_Answer).cells t_12.2.1 (svO q_14.1 1)).map EV.v), 48), ((((kd_Answer).cells t_24.2.1 (svO q_26.1 1)).map EV.v), 48)])) hA_72 hI
      refine sr0_ hF hI (s_ [e_ 66 (.bool ((((t_47.2 != 0) || (t_56.2 != 0)) || true) || true)), e_ 10 (.pointer none), e_ 8 (.pointer none), e_ 5 (.pointer none), e_ 0 (.bool false)] [((((kd_Config).cells t_3 sv_5).map EV.v), 29), ((((kd_Answer).cells t_12.2.1 (svO q_14.1 1)).map EV.v), 48), ((((kd_Answer).cells t_24.2.1 (svO q_26.1 1)).map EV.v), 48)]) (by kernel_rfl) (fun ns_73 a w_74 hI => ?_)
      refine cond_ hI (((((t_47.2 != 0) || (t_56.2 != 0)) || true) || true)) rfl (fun hc_75 => ?_) (fun hc_75 => ?_)
      ·replace H0 := bif_t hc_75 H0
       refine sr0_ hF hI (s_ [e_ 0 (.bool false)] [((((kd_Config).cells t_3 sv_5).map EV.v), 29), ((((kd_Answer).cells t_12.2.1 (svO q_14.1 1)).map EV.v), 48), ((((kd_Answer).cells t_24.2.1 (svO q_26.1 1)).map EV.v), 48)]) (by kernel_rfl) (fun ns_76 a w_77 hI => ?_)
       refine wpIn_ret ?_
       refine then_ret ?_
       obtain rfl := Option.some.inj H0
       exact ret1 hI rfl rfl ⟨rfl, hE.below hI⟩
      ·replace H0 := bif_f hc_75 H0
       refine wpIn_skip ?_
       refine then_normal ?_
       cases H0
     ·obtain ⟨B_71, hA_72, hR_60⟩ := OjtN.some_of hR_60 hx_69
      replace hI := Inv.cast (σf := fun q_ => (s_ [e_ 11 (.int .i64 t_56.2), e_ 10 (.pointer q_), e_ 9 (.int .i64 t_47.2), e_ 8 (.pointer none), e_ 5 (.pointer none), e_ 0 (.bool false)] [((((kd_Config).cells t_3 sv_5).map EV.v), 29), ((((kd_Answer).cells t_12.2.1 (svO q_14.1 1)).map EV.v), 48), ((((kd_Answer).cells t_24.2.1 (svO q_26.1 1)).map EV.v), 48)])) hA_72 hI
      refine sr0_ hF hI (s_ [e_ 66 (.bool ((((t_47.2 != 0) || (t_56.2 != 0)) || true) || false)), e_ 10 (.pointer (some ⟨B_71, 0, none⟩)), e_ 8 (.pointer none), e_ 5 (.pointer none), e_ 0 (.bool false)] [((((kd_Config).cells t_3 sv_5).map EV.v), 29), ((((kd_Answer).cells t_12.2.1 (svO q_14.1 1)).map EV.v), 48), ((((kd_Answer).cells t_24.2.1 (svO q_26.1 1)).map EV.v), 48)]) (by kernel_rfl) (fun ns_80 a w_81 hI => ?_)
      refine cond_ hI (((((t_47.2 != 0) || (t_56.2 != 0)) || true) || false)) rfl (fun hc_82 => ?_) (fun hc_82 => ?_)
      ·replace H0 := bif_t hc_82 H0
       refine sr0_ hF hI (s_ [e_ 0 (.bool false)] [((((kd_Config).cells t_3 sv_5).map EV.v), 29), ((((kd_Answer).cells t_12.2.1 (svO q_14.1 1)).map EV.v), 48), ((((kd_Answer).cells t_24.2.1 (svO q_26.1 1)).map EV.v), 48)]) (by kernel_rfl) (fun ns_83 a w_84 hI => ?_)
       refine wpIn_ret ?_
       refine then_ret ?_
       obtain rfl := Option.some.inj H0
       exact ret1 hI rfl rfl ⟨rfl, hE.below hI⟩
      ·replace H0 := bif_f hc_82 H0
       refine wpIn_skip ?_
       refine then_normal ?_
       cases H0
    ·obtain ⟨B_67, hA_68, hR_51⟩ := OjtN.some_of hR_51 hx_65
     replace hI := Inv.cast (σf := fun q_ => (s_ [e_ 11 (.int .i64 t_56.2), e_ 10 (.pointer ((q_58.1 0).1)), e_ 9 (.int .i64 t_47.2), e_ 8 (.pointer q_), e_ 5 (.pointer none), e_ 0 (.bool false)] [((((kd_Config).cells t_3 sv_5).map EV.v), 29), ((((kd_Answer).cells t_12.2.1 (svO q_14.1 1)).map EV.v), 48), ((((kd_Answer).cells t_24.2.1 (svO q_26.1 1)).map EV.v), 48)])) hA_68 hI
     rcases opt_split H0 with ⟨hx_87, H0⟩ | ⟨y_88, hx_87, H0⟩
     ·obtain ⟨hA_90, _⟩ := OjtN.none_of hR_60 hx_87
      replace hI := Inv.cast (σf := fun q_ => (s_ [e_ 11 (.int .i64 t_56.2), e_ 10 (.pointer q_), e_ 9 (.int .i64 t_47.2), e_ 8 (.pointer (some ⟨B_67, 0, none⟩)), e_ 5 (.pointer none), e_ 0 (.bool false)] [((((kd_Config).cells t_3 sv_5).map EV.v), 29), ((((kd_Answer).cells t_12.2.1 (svO q_14.1 1)).map EV.v), 48), ((((kd_Answer).cells t_24.2.1 (svO q_26.1 1)).map EV.v), 48)])) hA_90 hI
      refine sr0_ hF hI (s_ [e_ 66 (.bool ((((t_47.2 != 0) || (t_56.2 != 0)) || false) || true)), e_ 10 (.pointer none), e_ 8 (.pointer (some ⟨B_67, 0, none⟩)), e_ 5 (.pointer none), e_ 0 (.bool false)] [((((kd_Config).cells t_3 sv_5).map EV.v), 29), ((((kd_Answer).cells t_12.2.1 (svO q_14.1 1)).map EV.v), 48), ((((kd_Answer).cells t_24.2.1 (svO q_26.1 1)).map EV.v), 48)]) (by kernel_rfl) (fun ns_91 a w_92 hI => ?_)
      refine cond_ hI (((((t_47.2 != 0) || (t_56.2 != 0)) || false) || true)) rfl (fun hc_93 => ?_) (fun hc_93 => ?_)
      ·replace H0 := bif_t hc_93 H0
       refine sr0_ hF hI (s_ [e_ 0 (.bool false)] [((((kd_Config).cells t_3 sv_5).map EV.v), 29), ((((kd_Answer).cells t_12.2.1 (svO q_14.1 1)).map EV.v), 48), ((((kd_Answer).cells t_24.2.1 (svO q_26.1 1)).map EV.v), 48)]) (by kernel_rfl) (fun ns_94 a w_95 hI => ?_)
       refine wpIn_ret ?_
       refine then_ret ?_
       obtain rfl := Option.some.inj H0
       exact ret1 hI rfl rfl ⟨rfl, hE.below hI⟩
      ·replace H0 := bif_f hc_93 H0
       refine wpIn_skip ?_
       refine then_normal ?_
       cases H0
     ·obtain ⟨B_89, hA_90, hR_60⟩ := OjtN.some_of hR_60 hx_87
      replace hI := Inv.cast (σf := fun q_ => (s_ [e_ 11 (.int .i64 t_56.2), e_ 10 (.pointer q_), e_ 9 (.int .i64 t_47.2), e_ 8 (.pointer (some ⟨B_67, 0, none⟩)), e_ 5 (.pointer none), e_ 0 (.bool false)] [((((kd_Config).cells t_3 sv_5).map EV.v), 29), ((((kd_Answer).cells t_12.2.1 (svO q_14.1 1)).map EV.v), 48), ((((kd_Answer).cells t_24.2.1 (svO q_26.1 1)).map EV.v), 48)])) hA_90 hI
      refine sr0_ hF hI (s_ [e_ 66 (.bool ((((t_47.2 != 0) || (t_56.2 != 0)) || false) || false)), e_ 10 (.pointer (some ⟨B_89, 0, none⟩)), e_ 8 (.pointer (some ⟨B_67, 0, none⟩)), e_ 5 (.pointer none), e_ 0 (.bool false)] [((((kd_Config).cells t_3 sv_5).map EV.v), 29), ((((kd_Answer).cells t_12.2.1 (svO q_14.1 1)).map EV.v), 48), ((((kd_Answer).cells t_24.2.1 (svO q_26.1 1)).map EV.v), 48)]) (by kernel_rfl) (fun ns_98 a w_99 hI => ?_)
      refine cond_ hI (((((t_47.2 != 0) || (t_56.2 != 0)) || false) || false)) rfl (fun hc_100 => ?_) (fun hc_100 => ?_)
      ·replace H0 := bif_t hc_100 H0
       refine sr0_ hF hI (s_ [e_ 0 (.bool false)] [((((kd_Config).cells t_3 sv_5).map EV.v), 29), ((((kd_Answer).cells t_12.2.1 (svO q_14.1 1)).map EV.v), 48), ((((kd_Answer).cells t_24.2.1 (svO q_26.1 1)).map EV.v), 48)]) (by kernel_rfl) (fun ns_101 a w_102 hI => ?_)
       refine wpIn_ret ?_
       refine then_ret ?_
       obtain rfl := Option.some.inj H0
       exact ret1 hI rfl rfl ⟨rfl, hE.below hI⟩
      ·replace H0 := bif_f hc_100 H0
       refine wpIn_skip ?_
       refine then_normal ?_
       cases H0
  ·obtain ⟨B_36, hA_37, hR_28⟩ := OjtN.some_of hR_28 hx_34
   replace hI := Inv.cast (σf := fun q_ => (s_ [e_ 7 (.bool t_24.2.2), e_ 5 (.pointer q_), e_ 4 (.bool t_12.2.2), p_ 3 1 0, p_ 1 0 0, e_ 0 (.bool false)] [((((kd_Config).cells t_3 sv_5).map EV.v), 29), ((((kd_Answer).cells t_12.2.1 (svO q_14.1 1)).map EV.v), 48), ((((kd_Answer).cells t_24.2.1 (svO q_26.1 1)).map EV.v), 48)])) hA_37 hI
   refine sr0_ hF hI (s_ [e_ 42 (.bool ((((!t_12.2.2) || (t_12.2.1.Code != 0)) || t_24.2.2) || false)), e_ 5 (.pointer (some ⟨B_36, 0, none⟩)), p_ 1 0 0, e_ 0 (.bool false)] [((((kd_Config).cells t_3 sv_5).map EV.v), 29), ((((kd_Answer).cells t_12.2.1 (svO q_14.1 1)).map EV.v), 48), ((((kd_Answer).cells t_24.2.1 (svO q_26.1 1)).map EV.v), 48)]) (by kernel_rfl) (fun ns_105 a w_106 hI => ?_)
   refine cond_ hI (((((!t_12.2.2) || (t_12.2.1.Code != 0)) || t_24.2.2) || false)) rfl (fun hc_107 => ?_) (fun hc_107 => ?_)
   ·replace H0 := bif_t hc_107 H0
    refine sr0_ hF hI (s_ [e_ 0 (.bool false)] [((((kd_Config).cells t_3 sv_5).map EV.v), 29), ((((kd_Answer).cells t_12.2.1 (svO q_14.1 1)).map EV.v), 48), ((((kd_Answer).cells t_24.2.1 (svO q_26.1 1)).map EV.v), 48)]) (by kernel_rfl) (fun ns_108 a w_109 hI => ?_)
    refine wpIn_ret ?_
    refine then_ret ?_
    obtain rfl := Option.some.inj H0
    exact ret1 hI rfl rfl ⟨rfl, hE.below hI⟩
   ·replace H0 := bif_f hc_107 H0
    refine wpIn_skip ?_
    refine then_normal ?_
    refine wpIn_seq ?_
    refine wpIn_region_lit ?_
    obtain ⟨t_110, hG_111, H0⟩ := bind_some H0
    refine ck_ (orc := [[.int .i64 t_110]]) hF 2 hI (s_ [e_ 45 (.int .i64 t_110), e_ 5 (.pointer (some ⟨B_36, 0, none⟩)), e_ 0 (.bool false)] [((((kd_Config).cells t_3 sv_5).map EV.v), 29), ((((kd_Answer).cells t_12.2.1 (svO q_14.1 1)).map EV.v), 48), ((((kd_Answer).cells t_24.2.1 (svO q_26.1 1)).map EV.v), 48)]) [.call true 29 [.agg ((kd_Config).cells t_3 sv_5).toArray] (.int .i64 t_110)] rfl (by kernel_rfl) ⟨ob_call (enters Tryz.func29 (by kernel_rfl) rfl) (fun hg wz hk => G_ref08_Size.calls t_3 sv_5 wz (S := fun _ => True) (Kd.any _ (Kd.keep kd_Config (contI (S := Lo S w w_33 ns_32 [(q_14.2 0), (q_26.2 0)]) (w := w_33) (d := kd_Config) (x := t_3) (sv := sv_5) ⟨⟨hR_6.1.1, hR_6.1.2⟩, ⟨hR_6.2.1.1, hR_6.2.1.2⟩, ⟨hR_6.2.2.1.1, hR_6.2.2.1.2⟩, ⟨hR_6.2.2.2.1.1, hR_6.2.2.2.1.2⟩, trivial⟩) (Lo.on hk))) _ hG_111), trivial⟩ (fun ns_112 a w_113 hI => ?_)
    obtain ⟨hE', hmv, hmr⟩ := Ep.rebase hE hI
    replace hg0 := El.keep hg0 (hmv _)
    replace hR_6 := Kd.keep _ hR_6 (hmv _)
    replace hR_16 := OjtN.keep hR_16 (hmv _) (fun b hb => hmr b (flat_mem (by simp) hb))
    replace hR_17 := Kd.keep _ hR_17 (hmv _)
    replace hR_29 := Kd.keep _ hR_29 (hmv _)
    replace hR_28 := Ojt.keep hR_28 (hmv _) (fun b hb => hmr b (flat_mem (by simp) hb))
    replace hE := hE'; replace hI := hI.rebase; clear hE' hmv hmr
    obtain ⟨t_114, hG_115, H0⟩ := bind_some H0
    have hbs_117 := hE.k.size
    refine callO_ hF hE hI (wanted_none rfl) rfl (args := [.int .i64 t_110]) rfl (enters Tryz.func28 (by kernel_rfl) rfl) (fun q_116 : SV × (Nat → List Nat) => .tuple #[.pointer ((q_116.1 0).1), .int .i64 t_114.2]) [] (fun q_116 => [q_116.2 0]) _ (G_mem_New.calls t_110  w_113 (S0_ := Lo S w w_113 ns_112 [(q_14.2 0), (q_26.2 0)])  _ hG_115) (.inr (fun b hb => by simp at hb)) (fun q_116 => (s_ [e_ 46 (.tuple #[.pointer ((q_116.1 0).1), .int .i64 t_114.2]), e_ 45 (.int .i64 t_110), e_ 5 (.pointer (some ⟨B_36, 0, none⟩)), e_ 0 (.bool false)] [((((kd_Config).cells t_3 sv_5).map EV.v), 29), ((((kd_Answer).cells t_12.2.1 (svO q_14.1 1)).map EV.v), 48), ((((kd_Answer).cells t_24.2.1 (svO q_26.1 1)).map EV.v), 48)])) (fun q_116 => by kernel_rfl) (fun q_116 a w_120 hput hE' hI' hmv hmr hres hR => ?_)
    replace hmv : ∀ S0, Mv (Lo S0 w w_113 ns_112 [(q_14.2 0), (q_26.2 0)]) w_113 (Lo S0 w w_120 ns_112 [(q_14.2 0), (q_26.2 0), (q_116.2 0)]) w_120 := hmv
    replace hmr : ∀ b ∈ ([(q_14.2 0), (q_26.2 0)] : List (List Nat)).flatten, w_120.heap[b]? = w_113.heap[b]? := hmr
    replace hE : Ep [] w w_120 ns_112 [(q_14.2 0), (q_26.2 0), (q_116.2 0)] := hE'
    replace hI := hI'
    clear hE' hI'
    replace hg0 := El.keep hg0 (hmv _)
    replace hR_6 := Kd.keep _ hR_6 (hmv _)
    replace hR_16 := OjtN.keep hR_16 (hmv _) (fun b hb => hmr b (flat_mem (by simp) hb))
    replace hR_17 := Kd.keep _ hR_17 (hmv _)
    replace hR_29 := Kd.keep _ hR_29 (hmv _)
    replace hR_28 := Ojt.keep hR_28 (hmv _) (fun b hb => hmr b (flat_mem (by simp) hb))
    clear hmv hmr
    have hR_118 := hR
    replace hR_118 := OjtN.keep hR_118 (hres _ (fun b hb => by simp at hb)) (fun _ _ => rfl)
    clear hres
    refine ck0_ hF 5 hI (s_ [e_ 9 (.int .i64 t_114.2), e_ 8 (.pointer ((q_116.1 0).1)), e_ 5 (.pointer (some ⟨B_36, 0, none⟩)), e_ 0 (.bool false)] [((((kd_Config).cells t_3 sv_5).map EV.v), 29), ((((kd_Answer).cells t_12.2.1 (svO q_14.1 1)).map EV.v), 48), ((((kd_Answer).cells t_24.2.1 (svO q_26.1 1)).map EV.v), 48)]) rfl (by kernel_rfl) (fun ns_121 a w_122 hI => ?_)
    refine wpListIn_nil ?_
    refine then_normal ?_
    refine wpIn_seq ?_
    refine wpIn_region_lit ?_
    obtain ⟨hE', hmv, hmr⟩ := Ep.rebase hE hI
    replace hg0 := El.keep hg0 (hmv _)
    replace hR_6 := Kd.keep _ hR_6 (hmv _)
    replace hR_16 := OjtN.keep hR_16 (hmv _) (fun b hb => hmr b (flat_mem (by simp) hb))
    replace hR_17 := Kd.keep _ hR_17 (hmv _)
    replace hR_29 := Kd.keep _ hR_29 (hmv _)
    replace hR_28 := Ojt.keep hR_28 (hmv _) (fun b hb => hmr b (flat_mem (by simp) hb))
    replace hR_118 := OjtN.keep hR_118 (hmv _) (fun b hb => hmr b (flat_mem (by simp) hb))
    replace hE := hE'; replace hI := hI.rebase; clear hE' hmv hmr
    obtain ⟨t_123, hG_124, H0⟩ := bind_some H0
    have hbs_126 := hE.k.size
    refine callO_ hF hE hI (wanted_none rfl) rfl (args := [.int .i64 2]) rfl (enters Tryz.func30 (by kernel_rfl) rfl) (fun q_125 : SV × (Nat → List Nat) => .tuple #[.pointer ((q_125.1 0).1), .int .i64 t_123.2]) [] (fun q_125 => [q_125.2 0]) _ (G_bell_New.calls 2  w_122 (S0_ := Lo S w w_122 ns_121 [(q_14.2 0), (q_26.2 0), (q_116.2 0)])  _ hG_124) (.inr (fun b hb => by simp at hb)) (fun q_125 => (s_ [e_ 50 (.tuple #[.pointer ((q_125.1 0).1), .int .i64 t_123.2]), e_ 9 (.int .i64 t_114.2), e_ 8 (.pointer ((q_116.1 0).1)), e_ 5 (.pointer (some ⟨B_36, 0, none⟩)), e_ 0 (.bool false)] [((((kd_Config).cells t_3 sv_5).map EV.v), 29), ((((kd_Answer).cells t_12.2.1 (svO q_14.1 1)).map EV.v), 48), ((((kd_Answer).cells t_24.2.1 (svO q_26.1 1)).map EV.v), 48)])) (fun q_125 => by kernel_rfl) (fun q_125 a w_129 hput hE' hI' hmv hmr hres hR => ?_)
    replace hmv : ∀ S0, Mv (Lo S0 w w_122 ns_121 [(q_14.2 0), (q_26.2 0), (q_116.2 0)]) w_122 (Lo S0 w w_129 ns_121 [(q_14.2 0), (q_26.2 0), (q_116.2 0), (q_125.2 0)]) w_129 := hmv
    replace hmr : ∀ b ∈ ([(q_14.2 0), (q_26.2 0), (q_116.2 0)] : List (List Nat)).flatten, w_129.heap[b]? = w_122.heap[b]? := hmr
    replace hE : Ep [] w w_129 ns_121 [(q_14.2 0), (q_26.2 0), (q_116.2 0), (q_125.2 0)] := hE'
    replace hI := hI'
    clear hE' hI'
    replace hg0 := El.keep hg0 (hmv _)
    replace hR_6 := Kd.keep _ hR_6 (hmv _)
    replace hR_16 := OjtN.keep hR_16 (hmv _) (fun b hb => hmr b (flat_mem (by simp) hb))
    replace hR_17 := Kd.keep _ hR_17 (hmv _)
    replace hR_29 := Kd.keep _ hR_29 (hmv _)
    replace hR_28 := Ojt.keep hR_28 (hmv _) (fun b hb => hmr b (flat_mem (by simp) hb))
    replace hR_118 := OjtN.keep hR_118 (hmv _) (fun b hb => hmr b (flat_mem (by simp) hb))
    clear hmv hmr
    have hR_127 := hR
    replace hR_127 := OjtN.keep hR_127 (hres _ (fun b hb => by simp at hb)) (fun _ _ => rfl)
    clear hres
    refine ck0_ hF 5 hI (s_ [e_ 11 (.int .i64 t_123.2), e_ 10 (.pointer ((q_125.1 0).1)), e_ 9 (.int .i64 t_114.2), e_ 8 (.pointer ((q_116.1 0).1)), e_ 5 (.pointer (some ⟨B_36, 0, none⟩)), e_ 0 (.bool false)] [((((kd_Config).cells t_3 sv_5).map EV.v), 29), ((((kd_Answer).cells t_12.2.1 (svO q_14.1 1)).map EV.v), 48), ((((kd_Answer).cells t_24.2.1 (svO q_26.1 1)).map EV.v), 48)]) rfl (by kernel_rfl) (fun ns_130 a w_131 hI => ?_)
    refine wpListIn_nil ?_
    refine then_normal ?_
    refine wpIn_seq ?_
    obtain ⟨hE', hmv, hmr⟩ := Ep.rebase hE hI
    replace hg0 := El.keep hg0 (hmv _)
    replace hR_6 := Kd.keep _ hR_6 (hmv _)
    replace hR_16 := OjtN.keep hR_16 (hmv _) (fun b hb => hmr b (flat_mem (by simp) hb))
    replace hR_17 := Kd.keep _ hR_17 (hmv _)
    replace hR_29 := Kd.keep _ hR_29 (hmv _)
    replace hR_28 := Ojt.keep hR_28 (hmv _) (fun b hb => hmr b (flat_mem (by simp) hb))
    replace hR_118 := OjtN.keep hR_118 (hmv _) (fun b hb => hmr b (flat_mem (by simp) hb))
    replace hR_127 := OjtN.keep hR_127 (hmv _) (fun b hb => hmr b (flat_mem (by simp) hb))
    replace hE := hE'; replace hI := hI.rebase; clear hE' hmv hmr
    rcases opt_split H0 with ⟨hx_132, H0⟩ | ⟨y_133, hx_132, H0⟩
    ·obtain ⟨hA_135, _⟩ := OjtN.none_of hR_118 hx_132
     replace hI := Inv.cast (σf := fun q_ => (s_ [e_ 11 (.int .i64 t_123.2), e_ 10 (.pointer ((q_125.1 0).1)), e_ 9 (.int .i64 t_114.2), e_ 8 (.pointer q_), e_ 5 (.pointer (some ⟨B_36, 0, none⟩)), e_ 0 (.bool false)] [((((kd_Config).cells t_3 sv_5).map EV.v), 29), ((((kd_Answer).cells t_12.2.1 (svO q_14.1 1)).map EV.v), 48), ((((kd_Answer).cells t_24.2.1 (svO q_26.1 1)).map EV.v), 48)])) hA_135 hI
     rcases opt_split H0 with ⟨hx_136, H0⟩ | ⟨y_137, hx_136, H0⟩
     ·obtain ⟨hA_139, _⟩ := OjtN.none_of hR_127 hx_136
      replace hI := Inv.cast (σf := fun q_ => (s_ [e_ 11 (.int .i64 t_123.2), e_ 10 (.pointer q_), e_ 9 (.int .i64 t_114.2), e_ 8 (.pointer none), e_ 5 (.pointer (some ⟨B_36, 0, none⟩)), e_ 0 (.bool false)] [((((kd_Config).cells t_3 sv_5).map EV.v), 29), ((((kd_Answer).cells t_12.2.1 (svO q_14.1 1)).map EV.v), 48), ((((kd_Answer).cells t_24.2.1 (svO q_26.1 1)).map EV.v), 48)])) hA_139 hI
      refine sr0_ hF hI (s_ [e_ 66 (.bool ((((t_114.2 != 0) || (t_123.2 != 0)) || true) || true)), e_ 10 (.pointer none), e_ 8 (.pointer none), e_ 5 (.pointer (some ⟨B_36, 0, none⟩)), e_ 0 (.bool false)] [((((kd_Config).cells t_3 sv_5).map EV.v), 29), ((((kd_Answer).cells t_12.2.1 (svO q_14.1 1)).map EV.v), 48), ((((kd_Answer).cells t_24.2.1 (svO q_26.1 1)).map EV.v), 48)]) (by kernel_rfl) (fun ns_140 a w_141 hI => ?_)
      refine cond_ hI (((((t_114.2 != 0) || (t_123.2 != 0)) || true) || true)) rfl (fun hc_142 => ?_) (fun hc_142 => ?_)
      ·replace H0 := bif_t hc_142 H0
       refine sr0_ hF hI (s_ [e_ 0 (.bool false)] [((((kd_Config).cells t_3 sv_5).map EV.v), 29), ((((kd_Answer).cells t_12.2.1 (svO q_14.1 1)).map EV.v), 48), ((((kd_Answer).cells t_24.2.1 (svO q_26.1 1)).map EV.v), 48)]) (by kernel_rfl) (fun ns_143 a w_144 hI => ?_)
       refine wpIn_ret ?_
       refine then_ret ?_
       obtain rfl := Option.some.inj H0
       exact ret1 hI rfl rfl ⟨rfl, hE.below hI⟩
      ·replace H0 := bif_f hc_142 H0
       refine wpIn_skip ?_
       refine then_normal ?_
       cases H0
     ·obtain ⟨B_138, hA_139, hR_127⟩ := OjtN.some_of hR_127 hx_136
      replace hI := Inv.cast (σf := fun q_ => (s_ [e_ 11 (.int .i64 t_123.2), e_ 10 (.pointer q_), e_ 9 (.int .i64 t_114.2), e_ 8 (.pointer none), e_ 5 (.pointer (some ⟨B_36, 0, none⟩)), e_ 0 (.bool false)] [((((kd_Config).cells t_3 sv_5).map EV.v), 29), ((((kd_Answer).cells t_12.2.1 (svO q_14.1 1)).map EV.v), 48), ((((kd_Answer).cells t_24.2.1 (svO q_26.1 1)).map EV.v), 48)])) hA_139 hI
      refine sr0_ hF hI (s_ [e_ 66 (.bool ((((t_114.2 != 0) || (t_123.2 != 0)) || true) || false)), e_ 10 (.pointer (some ⟨B_138, 0, none⟩)), e_ 8 (.pointer none), e_ 5 (.pointer (some ⟨B_36, 0, none⟩)), e_ 0 (.bool false)] [((((kd_Config).cells t_3 sv_5).map EV.v), 29), ((((kd_Answer).cells t_12.2.1 (svO q_14.1 1)).map EV.v), 48), ((((kd_Answer).cells t_24.2.1 (svO q_26.1 1)).map EV.v), 48)]) (by kernel_rfl) (fun ns_147 a w_148 hI => ?_)
      refine cond_ hI (((((t_114.2 != 0) || (t_123.2 != 0)) || true) || false)) rfl (fun hc_149 => ?_) (fun hc_149 => ?_)
      ·replace H0 := bif_t hc_149 H0
       refine sr0_ hF hI (s_ [e_ 0 (.bool false)] [((((kd_Config).cells t_3 sv_5).map EV.v), 29), ((((kd_Answer).cells t_12.2.1 (svO q_14.1 1)).map EV.v), 48), ((((kd_Answer).cells t_24.2.1 (svO q_26.1 1)).map EV.v), 48)]) (by kernel_rfl) (fun ns_150 a w_151 hI => ?_)
       refine wpIn_ret ?_
       refine then_ret ?_
       obtain rfl := Option.some.inj H0
       exact ret1 hI rfl rfl ⟨rfl, hE.below hI⟩
      ·replace H0 := bif_f hc_149 H0
       refine wpIn_skip ?_
       refine then_normal ?_
       cases H0
    ·obtain ⟨B_134, hA_135, hR_118⟩ := OjtN.some_of hR_118 hx_132
     replace hI := Inv.cast (σf := fun q_ => (s_ [e_ 11 (.int .i64 t_123.2), e_ 10 (.pointer ((q_125.1 0).1)), e_ 9 (.int .i64 t_114.2), e_ 8 (.pointer q_), e_ 5 (.pointer (some ⟨B_36, 0, none⟩)), e_ 0 (.bool false)] [((((kd_Config).cells t_3 sv_5).map EV.v), 29), ((((kd_Answer).cells t_12.2.1 (svO q_14.1 1)).map EV.v), 48), ((((kd_Answer).cells t_24.2.1 (svO q_26.1 1)).map EV.v), 48)])) hA_135 hI
     rcases opt_split H0 with ⟨hx_154, H0⟩ | ⟨y_155, hx_154, H0⟩
     ·obtain ⟨hA_157, _⟩ := OjtN.none_of hR_127 hx_154
      replace hI := Inv.cast (σf := fun q_ => (s_ [e_ 11 (.int .i64 t_123.2), e_ 10 (.pointer q_), e_ 9 (.int .i64 t_114.2), e_ 8 (.pointer (some ⟨B_134, 0, none⟩)), e_ 5 (.pointer (some ⟨B_36, 0, none⟩)), e_ 0 (.bool false)] [((((kd_Config).cells t_3 sv_5).map EV.v), 29), ((((kd_Answer).cells t_12.2.1 (svO q_14.1 1)).map EV.v), 48), ((((kd_Answer).cells t_24.2.1 (svO q_26.1 1)).map EV.v), 48)])) hA_157 hI
      refine sr0_ hF hI (s_ [e_ 66 (.bool ((((t_114.2 != 0) || (t_123.2 != 0)) || false) || true)), e_ 10 (.pointer none), e_ 8 (.pointer (some ⟨B_134, 0, none⟩)), e_ 5 (.pointer (some ⟨B_36, 0, none⟩)), e_ 0 (.bool false)] [((((kd_Config).cells t_3 sv_5).map EV.v), 29), ((((kd_Answer).cells t_12.2.1 (svO q_14.1 1)).map EV.v), 48), ((((kd_Answer).cells t_24.2.1 (svO q_26.1 1)).map EV.v), 48)]) (by kernel_rfl) (fun ns_158 a w_159 hI => ?_)
      refine cond_ hI (((((t_114.2 != 0) || (t_123.2 != 0)) || false) || true)) rfl (fun hc_160 => ?_) (fun hc_160 => ?_)
      ·replace H0 := bif_t hc_160 H0
       refine sr0_ hF hI (s_ [e_ 0 (.bool false)] [((((kd_Config).cells t_3 sv_5).map EV.v), 29), ((((kd_Answer).cells t_12.2.1 (svO q_14.1 1)).map EV.v), 48), ((((kd_Answer).cells t_24.2.1 (svO q_26.1 1)).map EV.v), 48)]) (by kernel_rfl) (fun ns_161 a w_162 hI => ?_)
       refine wpIn_ret ?_
       refine then_ret ?_
       obtain rfl := Option.some.inj H0
       exact ret1 hI rfl rfl ⟨rfl, hE.below hI⟩
      ·replace H0 := bif_f hc_160 H0
       refine wpIn_skip ?_
       refine then_normal ?_
       cases H0
     ·obtain ⟨B_156, hA_157, hR_127⟩ := OjtN.some_of hR_127 hx_154
      replace hI := Inv.cast (σf := fun q_ => (s_ [e_ 11 (.int .i64 t_123.2), e_ 10 (.pointer q_), e_ 9 (.int .i64 t_114.2), e_ 8 (.pointer (some ⟨B_134, 0, none⟩)), e_ 5 (.pointer (some ⟨B_36, 0, none⟩)), e_ 0 (.bool false)] [((((kd_Config).cells t_3 sv_5).map EV.v), 29), ((((kd_Answer).cells t_12.2.1 (svO q_14.1 1)).map EV.v), 48), ((((kd_Answer).cells t_24.2.1 (svO q_26.1 1)).map EV.v), 48)])) hA_157 hI
      refine sr0_ hF hI (s_ [e_ 66 (.bool ((((t_114.2 != 0) || (t_123.2 != 0)) || false) || false)), e_ 10 (.pointer (some ⟨B_156, 0, none⟩)), e_ 8 (.pointer (some ⟨B_134, 0, none⟩)), e_ 5 (.pointer (some ⟨B_36, 0, none⟩)), e_ 0 (.bool false)] [((((kd_Config).cells t_3 sv_5).map EV.v), 29), ((((kd_Answer).cells t_12.2.1 (svO q_14.1 1)).map EV.v), 48), ((((kd_Answer).cells t_24.2.1 (svO q_26.1 1)).map EV.v), 48)]) (by kernel_rfl) (fun ns_165 a w_166 hI => ?_)
      refine cond_ hI (((((t_114.2 != 0) || (t_123.2 != 0)) || false) || false)) rfl (fun hc_167 => ?_) (fun hc_167 => ?_)
      ·replace H0 := bif_t hc_167 H0
       refine sr0_ hF hI (s_ [e_ 0 (.bool false)] [((((kd_Config).cells t_3 sv_5).map EV.v), 29), ((((kd_Answer).cells t_12.2.1 (svO q_14.1 1)).map EV.v), 48), ((((kd_Answer).cells t_24.2.1 (svO q_26.1 1)).map EV.v), 48)]) (by kernel_rfl) (fun ns_168 a w_169 hI => ?_)
       refine wpIn_ret ?_
       refine then_ret ?_
       obtain rfl := Option.some.inj H0
       exact ret1 hI rfl rfl ⟨rfl, hE.below hI⟩
      ·replace H0 := bif_f hc_167 H0
       refine wpIn_skip ?_
       refine then_normal ?_
       refine wpIn_seq ?_
       refine wpIn_region_lit ?_
       refine ck0_ hF 3 hI (s_ [e_ 69 (.pointer (some ⟨B_156, 0, none⟩)), e_ 68 (.pointer (some ⟨B_134, 0, none⟩)), e_ 67 (.pointer (some ⟨B_36, 0, none⟩)), e_ 5 (.pointer (some ⟨B_36, 0, none⟩)), e_ 0 (.bool false)] [((((kd_Config).cells t_3 sv_5).map EV.v), 29), ((((kd_Answer).cells t_12.2.1 (svO q_14.1 1)).map EV.v), 48), ((((kd_Answer).cells t_24.2.1 (svO q_26.1 1)).map EV.v), 48)]) rfl (by kernel_rfl) (fun ns_170 a w_171 hI => ?_)
       obtain ⟨hE', hmv, hmr⟩ := Ep.rebase hE hI
       replace hg0 := El.keep hg0 (hmv _)
       replace hR_6 := Kd.keep _ hR_6 (hmv _)
       replace hR_16 := OjtN.keep hR_16 (hmv _) (fun b hb => hmr b (flat_mem (by simp) hb))
       replace hR_17 := Kd.keep _ hR_17 (hmv _)
       replace hR_29 := Kd.keep _ hR_29 (hmv _)
       replace hR_28 := Ojt.keep hR_28 (hmv _) (fun b hb => hmr b (flat_mem (by simp) hb))
       replace hR_118 := Ojt.keep hR_118 (hmv _) (fun b hb => hmr b (flat_mem (by simp) hb))
       replace hR_127 := Ojt.keep hR_127 (hmv _) (fun b hb => hmr b (flat_mem (by simp) hb))
       replace hE := hE'; replace hI := hI.rebase; clear hE' hmv hmr
       obtain ⟨t_172, hG_173, H0⟩ := bind_some H0
       have hbs_175 := hE.k.size
       refine callO_ hF hE hI (wanted_none rfl) rfl (args := [.pointer (some ⟨B_36, 0, none⟩), .pointer (some ⟨B_134, 0, none⟩), .pointer (some ⟨B_156, 0, none⟩), .int .i64 0]) rfl (enters Tryz.func31 (by kernel_rfl) rfl) (fun q_174 : SV × (Nat → List Nat) => .agg ((kd_Did).cells t_172.1 q_174.1).toArray) [1, 2, 3] (fun q_174 => [q_174.2 0, q_174.2 1, q_174.2 2]) _ (G_task_Task_Step.calls y_35 y_133 y_155 0 B_36 (q_26.2 0) B_134 (q_116.2 0) B_156 (q_125.2 0) w_171 (S0_ := Lo S w w_171 ns_170 [(q_14.2 0), (q_26.2 0), (q_116.2 0), (q_125.2 0)]) hR_28 hR_118 hR_127 (Lo.pick [1, 2, 3]) (hE.pick [1, 2, 3] (by decide)) (hE.pickLt [1, 2, 3]) _ hG_173) (.inl rfl) (fun q_174 => (s_ [e_ 70 (.agg ((kd_Did).cells t_172.1 q_174.1).toArray), e_ 69 (.pointer (some ⟨B_156, 0, none⟩)), e_ 68 (.pointer (some ⟨B_134, 0, none⟩)), e_ 67 (.pointer (some ⟨B_36, 0, none⟩)), e_ 5 (.pointer (some ⟨B_36, 0, none⟩)), e_ 0 (.bool false)] [((((kd_Config).cells t_3 sv_5).map EV.v), 29), ((((kd_Answer).cells t_12.2.1 (svO q_14.1 1)).map EV.v), 48), ((((kd_Answer).cells t_24.2.1 (svO q_26.1 1)).map EV.v), 48)])) (fun q_174 => by kernel_rfl) (fun q_174 a w_177 hput hE' hI' hmv hmr hres hR => ?_)
       replace hmv : ∀ S0, Mv (Lo S0 w w_171 ns_170 [(q_14.2 0), (q_26.2 0), (q_116.2 0), (q_125.2 0)]) w_171 (Lo S0 w w_177 ns_170 [(q_14.2 0), (q_174.2 0), (q_174.2 1), (q_174.2 2)]) w_177 := hmv
       replace hmr : ∀ b ∈ ([(q_14.2 0)] : List (List Nat)).flatten, w_177.heap[b]? = w_171.heap[b]? := hmr
       replace hE : Ep [] w w_177 ns_170 [(q_14.2 0), (q_174.2 0), (q_174.2 1), (q_174.2 2)] := hE'
       replace hI := hI'
       clear hE' hI'
       replace hg0 := El.keep hg0 (hmv _)
       replace hR_6 := Kd.keep _ hR_6 (hmv _)
       replace hR_16 := OjtN.keep hR_16 (hmv _) (fun b hb => hmr b (flat_mem (by simp) hb))
       replace hR_17 := Kd.keep _ hR_17 (hmv _)
       replace hR_29 := Kd.keep _ hR_29 (hmv _)
       clear hmv hmr
       obtain ⟨hR_176, hR_28, hR_118, hR_127⟩ := hR
       replace hR_28 := Ojt.keep hR_28 (hres _ (fun b hb => by simp at hb)) (fun _ _ => rfl)
       replace hR_118 := Ojt.keep hR_118 (hres _ (fun b hb => by simp at hb)) (fun _ _ => rfl)
       replace hR_127 := Ojt.keep hR_127 (hres _ (fun b hb => by simp at hb)) (fun _ _ => rfl)
       replace hR_176 := Kd.keep _ hR_176 (hres _ (fun b hb => by simp at hb))
       clear hres
       obtain ⟨t_178, hG_179, H0⟩ := bind_some H0
       refine ck_ (orc := [[.int .i64 t_178]]) hF 7 hI (s_ [e_ 0 (.bool (t_172.1.Done && (t_178 == 2)))] [((((kd_Config).cells t_3 sv_5).map EV.v), 29), ((((kd_Answer).cells t_12.2.1 (svO q_14.1 1)).map EV.v), 48), ((((kd_Answer).cells t_24.2.1 (svO q_26.1 1)).map EV.v), 48)]) [.call t_172.1.Done 25 [.pointer (some ⟨B_36, 0, none⟩)] (.int .i64 t_178)] rfl (by kernel_rfl) ⟨ob_call (enters Tryz.func25 (by kernel_rfl) rfl) (fun hg wz hk => G_task_Task_Steps.calls t_172.2.1 B_36 (q_174.2 0) wz (S := fun _ => True) (Ojt.any (Ojt.keep hR_28 (Lo.on hk) (fun b hb => hk.block b (hE.mi b (flat_mem (by simp) hb)).2.1 (hE.mi b (flat_mem (by simp) hb)).2.2))) _ (cal_some hG_179 hg)), trivial⟩ (fun ns_180 a w_181 hI => ?_)
       refine wpListIn_nil ?_
       refine then_normal ?_
       refine wpIn_ret ?_
       obtain rfl := Option.some.inj H0
       exact ret1 hI rfl rfl ⟨rfl, hE.below hI⟩

noncomputable def G_mem_Mem_Words (x0 : Mem_Mem) : Option ((List Int)) := (req (decide (0 ≤ (x0.words.length : Int)) && decide (((x0.words.length : Int) : Int).toNat * (1 + 4) ≤ 16777216)) (some (cpl (List.replicate ((x0.words.length : Int) : Int).toNat (0 : Int)) x0.words)))
theorem G_mem_Mem_Words.calls (x0 : Mem_Mem) (B0 : Nat) (F0 : List Nat) (w : World) {S : Nat → Prop} (ho0 : Ojt lk_Mem_Mem (fun _ => True) w B0 x0 F0) (r : (List Int)) (h : G_mem_Mem_Words x0 = some r) :
    Calls Tryz.prog 32 #[.pointer (some (⟨B0, 0, none⟩ : Addr))] w fun e w' => ∃ sv : SV, e = .returned (.slice ((sv 0).1) r.length ((sv 0).2)) ∧ Below w.heap.size w w' ∧ (Arr (Kd.int .u32) (fun b => w.heap.size ≤ b ∨ S b) w' (sv 0).1 r ∧ r.length ≤ (sv 0).2) := by
  have hoK0 := ho0
  obtain ⟨svo0, F'0, hF0, hoE0, hl0⟩ := ho0.ex
  replace hoE0 := El.lo (Ob1.el hoE0 trivial)
  obtain ⟨_, hl0_0, _⟩ := hl0
  obtain ⟨hl0_0, hoR0_0l⟩ := hl0_0
  obtain ⟨hoR0_0, hoR0_0c⟩ := Row.arr (S' := fun _ => True) hl0_0 (fun _ _ => trivial) (fun _ _ => trivial)
  replace hoR0_0 := Arr.lo hoR0_0
  unfold G_mem_Mem_Words at h
  have H0 := h
  clear h
  refine enter Tryz.func32 rfl [.pointer (some (⟨B0, 0, none⟩ : Addr))] (n := 17) rfl (Nat.le_of_ble_eq_true rfl) (fun a hI => ?_)
  have hF : FOpen Fence.wide := .inl rfl
  have hE := Ep.start w
  refine sr0_ hF hI (s_ [e_ 2 (.slice none 0 0), e_ 0 (.pointer (some (⟨B0, 0, none⟩ : Addr)))] []) (by kernel_rfl) (fun ns_1 a w_2 hI => ?_)
  refine wpIn_seq ?_
  refine wpIn_region_lit ?_
  refine ck_ (orc := [[.slice ((svo0 0).1) x0.words.length ((svo0 0).2)]]) hF 5 hI (s_ [e_ 8 (.int .i64 (x0.words.length : Int)), e_ 2 (.slice none 0 0), e_ 0 (.pointer (some (⟨B0, 0, none⟩ : Addr)))] []) [.cell true (⟨B0, 0, none⟩ : Addr) [.slice ((svo0 0).1) x0.words.length ((svo0 0).2)]] rfl (by kernel_rfl) ⟨ob_el (fun _ => hoE0) 0 [.slice ((svo0 0).1) x0.words.length ((svo0 0).2)] (by rw [hoR0_0l]; rfl), trivial⟩ (fun ns_3 a w_4 hI => ?_)
  obtain ⟨hE', hmv, hmr⟩ := Ep.rebase hE hI
  replace hoR0_0 := Arr.keep hoR0_0 (hmv _)
  replace hoE0 := El.keep hoE0 (hmv _)
  replace hE := hE'; replace hI := hI.rebase; clear hE' hmv hmr
  obtain ⟨hN_5, H0⟩ := req_some H0
  rw [Bool.and_eq_true, decide_eq_true_iff, decide_eq_true_iff] at hN_5
  refine makeSlice_ (S0 := S) (d := (Kd.int .u32)) (e := 60) hF hE hI (wanted_none rfl) rfl (k := (x0.words.length : Int)) rfl rfl Tryz.underlying43 (zi := (.int .u32 0, 1, 4)) (by kernel_rfl) rfl (0) (svL []) rfl trivial hN_5.1 hN_5.2 (fun A_6 => (s_ [e_ 9 (.slice A_6 (List.replicate ((x0.words.length : Int) : Int).toNat (0 : Int)).length ((List.replicate ((x0.words.length : Int) : Int).toNat (0 : Int)).length)), e_ 8 (.int .i64 (x0.words.length : Int)), e_ 2 (.slice none 0 0), e_ 0 (.pointer (some (⟨B0, 0, none⟩ : Addr)))] [])) (fun A_6 => by kernel_rfl) (fun A_6 a w_8 hput hE' hI' hmv hmr hq_7 => ?_)
  replace hoR0_0 := Arr.keep hoR0_0 (hmv _)
  replace hoE0 := El.keep hoE0 (hmv _)
  replace hE := hE'; replace hI := hI'; clear hE' hI' hmv hmr
  refine ck0_ hF 1 hI (s_ [e_ 3 (.slice A_6 (List.replicate ((x0.words.length : Int) : Int).toNat (0 : Int)).length ((List.replicate ((x0.words.length : Int) : Int).toNat (0 : Int)).length)), e_ 2 (.slice none 0 0), e_ 0 (.pointer (some (⟨B0, 0, none⟩ : Addr)))] []) rfl (by kernel_rfl) (fun ns_9 a w_10 hI => ?_)
  refine wpListIn_nil ?_
  refine then_normal ?_
  refine wpIn_seq ?_
  refine wpIn_region_lit ?_
  refine ck_ (orc := [[.slice ((svo0 0).1) x0.words.length ((svo0 0).2)]]) hF 5 hI (s_ [e_ 14 (.slice ((svo0 0).1) x0.words.length ((svo0 0).2)), e_ 10 (.slice A_6 (List.replicate ((x0.words.length : Int) : Int).toNat (0 : Int)).length ((List.replicate ((x0.words.length : Int) : Int).toNat (0 : Int)).length)), e_ 3 (.slice A_6 (List.replicate ((x0.words.length : Int) : Int).toNat (0 : Int)).length ((List.replicate ((x0.words.length : Int) : Int).toNat (0 : Int)).length)), e_ 2 (.slice none 0 0)] []) [.cell true (⟨B0, 0, none⟩ : Addr) [.slice ((svo0 0).1) x0.words.length ((svo0 0).2)]] rfl (by kernel_rfl) ⟨ob_el (fun _ => hoE0) 0 [.slice ((svo0 0).1) x0.words.length ((svo0 0).2)] (by rw [hoR0_0l]; rfl), trivial⟩ (fun ns_11 a w_12 hI => ?_)
  obtain ⟨hE', hmv, hmr⟩ := Ep.rebase hE hI
  replace hoR0_0 := Arr.keep hoR0_0 (hmv _)
  replace hoE0 := El.keep hoE0 (hmv _)
  replace hq_7 := Row.keep hq_7 (hmv _) (fun b hb => hmr b (by simp [hb]))
  replace hE := hE'; replace hI := hI.rebase; clear hE' hmv hmr
  refine copy_ (S0 := S) (l1 := []) (l2 := []) (d := (Kd.int .u32)) (e := 60) hF hE hI (wanted_none rfl) rfl (A := A_6) (c := ((List.replicate ((x0.words.length : Int) : Int).toNat (0 : Int)).length)) (l := (List.replicate ((x0.words.length : Int) : Int).toNat (0 : Int))) rfl (A2 := ((svo0 0).1)) (c2 := ((svo0 0).2)) (ys := x0.words) rfl hq_7 hoR0_0 (fun _ _ _ _ => trivial) (fun y sv u hu => by exact kd_one_int _ sv u hu) Tryz.underlying43 (by kernel_rfl) rfl (s_ [e_ 15 (.int .i64 ((min x0.words.length (List.replicate ((x0.words.length : Int) : Int).toNat (0 : Int)).length : Nat) : Int)), e_ 14 (.slice ((svo0 0).1) x0.words.length ((svo0 0).2)), e_ 10 (.slice A_6 (List.replicate ((x0.words.length : Int) : Int).toNat (0 : Int)).length ((List.replicate ((x0.words.length : Int) : Int).toNat (0 : Int)).length)), e_ 3 (.slice A_6 (List.replicate ((x0.words.length : Int) : Int).toNat (0 : Int)).length ((List.replicate ((x0.words.length : Int) : Int).toNat (0 : Int)).length)), e_ 2 (.slice none 0 0)] []) (by kernel_rfl) (fun a w_13 hput hE' hI' hmv hmr hq_7 => ?_)
  replace hoR0_0 := Arr.keep hoR0_0 (hmv _)
  replace hoE0 := El.keep hoE0 (hmv _)
  replace hE := hE'; replace hI := hI'; clear hE' hI' hmv hmr
  have hln_14 : (cpl (List.replicate ((x0.words.length : Int) : Int).toNat (0 : Int)) x0.words).length = (List.replicate ((x0.words.length : Int) : Int).toNat (0 : Int)).length := cpl_len _ _
  refine ck0_ hF 0 hI (s_ [e_ 3 (.slice A_6 (List.replicate ((x0.words.length : Int) : Int).toNat (0 : Int)).length ((List.replicate ((x0.words.length : Int) : Int).toNat (0 : Int)).length)), e_ 2 (.slice none 0 0)] []) rfl (by kernel_rfl) (fun ns_16 a w_17 hI => ?_)
  refine wpListIn_nil ?_
  refine then_normal ?_
  refine sr0_ hF hI (s_ [e_ 2 (.slice A_6 (List.replicate ((x0.words.length : Int) : Int).toNat (0 : Int)).length ((List.replicate ((x0.words.length : Int) : Int).toNat (0 : Int)).length))] []) (by kernel_rfl) (fun ns_18 a w_19 hI => ?_)
  replace hI := Inv.len (σf := fun q_ => (s_ [e_ 2 (.slice A_6 q_ ((List.replicate ((x0.words.length : Int) : Int).toNat (0 : Int)).length))] [])) hln_14 hI
  obtain ⟨hE', hmv, hmr⟩ := Ep.rebase hE hI
  replace hoR0_0 := Arr.keep hoR0_0 (hmv _)
  replace hoE0 := El.keep hoE0 (hmv _)
  replace hq_7 := Row.keep hq_7 (hmv _) (fun b hb => hmr b (by simp [hb]))
  replace hE := hE'; replace hI := hI.rebase; clear hE' hmv hmr
  obtain ⟨hE', hmv, hq_7, hcap_20⟩ := Row.still (l1 := []) (l2 := []) hq_7 (Nat.le_refl _) hE
  have hmr := hmr_ ([rb A_6] : List (List Nat)) w_19
  replace hoR0_0 := Arr.keep hoR0_0 (hmv _)
  replace hoE0 := El.keep hoE0 (hmv _)
  replace hE := hE'
  clear hE' hmv hmr
  refine wpIn_ret ?_
  obtain rfl := Option.some.inj H0
  exact ret1 hI rfl rfl ⟨svL [(A_6, (List.replicate ((x0.words.length : Int) : Int).toNat (0 : Int)).length)], rfl, hE.below hI, ⟨Arr.keep hq_7 (hE.out hI), hcap_20⟩⟩

noncomputable def G_ref02_Same.b1 (l0 : (List Int)) (l1 : (List Int)) (s1 : Int × Bool) : Option (Stp (Int × Bool) (Ex (Int × Bool) (Bool))) := (bif decide (s1.1 < (l0.length : Int)) then (req (inb s1.1 l0.length) (req (inb s1.1 l1.length) (bif ((rd l0 s1.1) != (rd l1 s1.1)) then some (.out (.ret false)) else some (.next ((IntKind.i64.wrap (s1.1 + 1)), s1.2))))) else some (.out (.brk (s1.1, s1.2))))
noncomputable def G_ref02_Same (l0 : (List Int)) (l1 : (List Int)) : Option (Bool) := (bif ((l0.length : Int) != (l1.length : Int)) then some false else ((loopω (G_ref02_Same.b1 l0 l1) (0, false)).bind fun o => o.on (fun s1 => some true) (fun r => some r)))
theorem G_ref02_Same.calls (l0 : (List Int)) (l1 : (List Int)) (A0 : Option Addr) (c0 : Nat) (A1 : Option Addr) (c1 : Nat) (w : World) {S : Nat → Prop} (hr0 : Arr (Kd.int .u32) S w A0 l0) (hc0 : l0.length ≤ c0) (hr1 : Arr (Kd.int .u32) S w A1 l1) (hc1 : l1.length ≤ c1) (r : Bool) (h : G_ref02_Same l0 l1 = some r) :
    Calls Tryz.prog 33 #[.slice A0 l0.length c0, .slice A1 l1.length c1] w fun e w' => e = .returned (.bool r) ∧ Below w.heap.size w w' := by
  replace hr0 := Arr.lo hr0
  replace hr1 := Arr.lo hr1
  unfold G_ref02_Same at h
  have H0 := h
  clear h
  refine enter Tryz.func33 rfl [.slice A0 l0.length c0, .slice A1 l1.length c1] (n := 26) rfl (Nat.le_of_ble_eq_true rfl) (fun a hI => ?_)
  have hF : FOpen Fence.wide := .inl rfl
  have hE := Ep.start w
  refine sr0_ hF hI (s_ [e_ 4 (.bool false), e_ 0 (.slice A0 l0.length c0), e_ 1 (.slice A1 l1.length c1)] []) (by kernel_rfl) (fun ns_1 a w_2 hI => ?_)
  refine wpIn_seq ?_
  refine sr0_ hF hI (s_ [e_ 10 (.bool ((l0.length : Int) != (l1.length : Int))), e_ 4 (.bool false), e_ 0 (.slice A0 l0.length c0), e_ 1 (.slice A1 l1.length c1)] []) (by kernel_rfl) (fun ns_3 a w_4 hI => ?_)
  refine cond_ hI (((l0.length : Int) != (l1.length : Int))) rfl (fun hc_5 => ?_) (fun hc_5 => ?_)
  ·replace H0 := bif_t hc_5 H0
   refine sr0_ hF hI (s_ [e_ 4 (.bool false)] []) (by kernel_rfl) (fun ns_6 a w_7 hI => ?_)
   refine wpIn_ret ?_
   refine then_ret ?_
   obtain rfl := Option.some.inj H0
   exact ret1 hI rfl rfl ⟨rfl, hE.below hI⟩
  ·replace H0 := bif_f hc_5 H0
   refine wpIn_skip ?_
   refine then_normal ?_
   refine wpIn_seq ?_
   refine sr0_ hF hI (s_ [e_ 5 (.int .i64 0), e_ 4 (.bool false), e_ 0 (.slice A0 l0.length c0), e_ 1 (.slice A1 l1.length c1)] []) (by kernel_rfl) (fun ns_8 a w_9 hI => ?_)
   obtain ⟨o_29, hL_30, H0⟩ := bind_some H0
   refine block_loop (fun (s1 : Int × Bool) a w_35 => ∃ ns, St w [] 26 (s_ [e_ 5 (.int .i64 s1.1), e_ 4 (.bool s1.2), e_ 0 (.slice A0 l0.length c0), e_ 1 (.slice A1 l1.length c1)] []) ns a w_35) (0, false) hL_30 ⟨_, hI.pick [5, 4, 0, 1] 0 (s_ [e_ 5 (.int .i64 0), e_ 4 (.bool false), e_ 0 (.slice A0 l0.length c0), e_ 1 (.slice A1 l1.length c1)] []) (by kernel_rfl)⟩ ?_ ?_
   ·clear hI
    rintro s1 a w_10 ⟨ns_11, hI⟩ r1 H1
    unfold G_ref02_Same.b1 at H1
    refine wpIn_seq ?_
    refine sr0_ hF hI (s_ [e_ 14 (.bool (decide (s1.1 < (l0.length : Int)))), e_ 5 (.int .i64 s1.1), e_ 4 (.bool s1.2), e_ 0 (.slice A0 l0.length c0), e_ 1 (.slice A1 l1.length c1)] []) (by kernel_rfl) (fun ns_12 a w_13 hI => ?_)
    refine cond_ hI (decide (s1.1 < (l0.length : Int))) rfl (fun hc_14 => ?_) (fun hc_14 => ?_)
    ·replace H1 := bif_t hc_14 H1
     refine wpIn_skip ?_
     refine then_normal ?_
     refine wpIn_seq ?_
     refine wpIn_block ?_
     refine wpIn_seq ?_
     obtain ⟨hN_15, H1⟩ := req_some H1
     obtain ⟨sv_16, hE_18, hA_17⟩ := Arr.elB (d := (Kd.int .u32)) hr0 s1.1 true (fun _ => hN_15)
     replace hE_18 := hE_18 rfl
     replace hA_17 := fun (_ : true = true) => hA_17 rfl
     obtain ⟨hN_19, H1⟩ := req_some H1
     obtain ⟨sv_20, hE_22, hA_21⟩ := Arr.elB (d := (Kd.int .u32)) hr1 s1.1 true (fun _ => hN_19)
     replace hE_22 := hE_22 rfl
     replace hA_21 := fun (_ : true = true) => hA_21 rfl
     refine drawn_ (live := [25, 5, 4, 0, 1]) (orc := [[.int .u32 (rd l0 s1.1)], [.int .u32 (rd l1 s1.1)]]) hF hI (s_ [e_ 25 (.bool ((rd l0 s1.1) != (rd l1 s1.1))), e_ 5 (.int .i64 s1.1), e_ 4 (.bool s1.2), e_ 0 (.slice A0 l0.length c0), e_ 1 (.slice A1 l1.length c1)] []) [.need true ((0 : Int) ≤ s1.1 ∧ s1.1 < (l0.length : Int)), .need true (A0 = some (adr A0)), .cell true ((adr A0).add ((s1.1 : Int).toNat * 1)) [.int .u32 (rd l0 s1.1)], .need true ((0 : Int) ≤ s1.1 ∧ s1.1 < (l1.length : Int)), .need true (A1 = some (adr A1)), .cell true ((adr A1).add ((s1.1 : Int).toNat * 1)) [.int .u32 (rd l1 s1.1)]] (by kernel_rfl) (by kernel_rfl) (by kernel_rfl) ⟨ob_inb (fun _ => hN_15), hA_17, ob_el (fun _ => hE_18) 0 [.int .u32 (rd l0 s1.1)] rfl, ob_inb (fun _ => hN_19), hA_21, ob_el (fun _ => hE_22) 0 [.int .u32 (rd l1 s1.1)] rfl, trivial⟩ (fun a w_23 hI => ?_)
     refine then_normal ?_
     refine cond_ hI (((rd l0 s1.1) != (rd l1 s1.1))) rfl (fun hc_24 => ?_) (fun hc_24 => ?_)
     ·replace H1 := bif_t hc_24 H1
      refine sr0_ hF hI (s_ [e_ 4 (.bool false)] []) (by kernel_rfl) (fun ns_25 a w_26 hI => ?_)
      refine wpIn_ret ?_
      refine inBlock_ret ?_
      refine then_ret ?_
      refine then_ret ?_
      obtain rfl := Option.some.inj H1
      refine .inr ⟨_, rfl, fun ho => ?_⟩
      subst ho
      refine inBlock_ret ?_
      refine then_ret ?_
      obtain rfl := Option.some.inj H0
      exact ret1 hI rfl rfl ⟨rfl, hE.below hI⟩
     ·replace H1 := bif_f hc_24 H1
      refine wpIn_skip ?_
      refine inBlock_normal ?_
      refine then_normal ?_
      refine rg0_ hF hI (s_ [e_ 5 (.int .i64 (IntKind.i64.wrap (s1.1 + 1))), e_ 4 (.bool s1.2), e_ 0 (.slice A0 l0.length c0), e_ 1 (.slice A1 l1.length c1)] []) (by kernel_rfl) (fun ns_27 a w_28 hI => ?_)
      refine then_normal ?_
      obtain rfl := Option.some.inj H1
      exact ⟨_, rfl, ⟨_, hI.pick [5, 4, 0, 1] 0 (s_ [e_ 5 (.int .i64 (IntKind.i64.wrap (s1.1 + 1))), e_ 4 (.bool s1.2), e_ 0 (.slice A0 l0.length c0), e_ 1 (.slice A1 l1.length c1)] []) (by kernel_rfl)⟩⟩
    ·replace H1 := bif_f hc_14 H1
     refine wpIn_exit ?_
     refine then_exit ?_
     refine then_exit ?_
     obtain rfl := Option.some.inj H1
     exact .inl ⟨_, rfl, rfl, ⟨_, hI.pick [5, 4, 0, 1] 0 (s_ [e_ 5 (.int .i64 s1.1), e_ 4 (.bool s1.2), e_ 0 (.slice A0 l0.length c0), e_ 1 (.slice A1 l1.length c1)] []) (by kernel_rfl)⟩⟩
   ·clear hI
    rintro s1 a w_31 ho ⟨ns_32, hI⟩
    subst ho
    replace H0 : (some true : Option (Bool)) = _ := H0
    refine then_normal ?_
    refine sr0_ hF hI (s_ [e_ 4 (.bool true)] []) (by kernel_rfl) (fun ns_33 a w_34 hI => ?_)
    refine wpIn_ret ?_
    obtain rfl := Option.some.inj H0
    exact ret1 hI rfl rfl ⟨rfl, hE.below hI⟩

end Go.Proofs.YtiiidfgdejfhhaaGreatDoor
