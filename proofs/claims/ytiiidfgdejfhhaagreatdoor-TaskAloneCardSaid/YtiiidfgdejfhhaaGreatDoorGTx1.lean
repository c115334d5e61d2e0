/- Walks of the seat's functions. No statement is proved here. Conditions: none. -/
import Derived.Test.YtiiidfgdejfhhaaGreatDoorGTx0
set_option linter.unusedVariables false
set_option linter.unusedSimpArgs false
set_option maxRecDepth 100000
set_option maxHeartbeats 4000000
namespace Go.Proofs.YtiiidfgdejfhhaaGreatDoor
open Go Go.RowKit Go.Eng Go.Proofs

noncomputable def G_defect_idle.b1 (x0 : Config) (s1 : Int × Bool) : Option (Stp (Int × Bool) (Ex (Int × Bool) (Bool))) := (bif decide (s1.1 < (x0.Parts.length : Int)) then (req (inb s1.1 x0.Parts.length) ((G_defect_within ((rd x0.Parts s1.1).Core) 0 1).bind fun t_29 => (req (imp (!(!t_29)) (inb ((rd x0.Parts s1.1).Core) 2)) ((cal (!(!t_29)) (G_api_Window_248 ((rdA_St27 x0.Frames ((rd x0.Parts s1.1).Core)).Windows) (Fn328.f252 s1.1)) default).bind fun t_34 => (bif ((!t_29) || (!t_34)) then some (.out (.ret true)) else some (.next ((IntKind.i64.wrap (s1.1 + 1)), s1.2))))))) else some (.out (.brk (s1.1, s1.2))))
noncomputable def G_defect_idle (x0 : Config) : Option (Bool) := ((loopω (G_defect_idle.b1 x0) (0, false)).bind fun o => o.on (fun s1 => some false) (fun r => some r))
theorem G_defect_idle.calls (x0 : Config) (sv0 : SV) (w : World) {S : Nat → Prop} (hx0 : (kd_Config).cont S w x0 sv0) (r : Bool) (h : G_defect_idle x0 = some r) :
    Calls Tryz.prog 235 #[.agg ((kd_Config).cells x0 sv0).toArray] w fun e w' => e = .returned (.bool r) ∧ Below w.heap.size w w' := by
  replace hx0 := Kd.lo _ hx0
  unfold G_defect_idle at h
  have H0 := h
  clear h
  refine enter Tryz.func235 rfl [.agg ((kd_Config).cells x0 sv0).toArray] (n := 31) rfl (Nat.le_of_ble_eq_true rfl) (fun a hI => ?_)
  have hF : FOpen Fence.wide := .inl rfl
  have hE := Ep.start w
  refine sr0_ hF hI (s_ [e_ 2 (.bool false), p_ 1 0 0] [((((kd_Config).cells x0 sv0).map EV.v), 29)]) (by kernel_rfl) (fun ns_1 a w_2 hI => ?_)
  refine wpIn_seq ?_
  obtain ⟨hE', hmv, hmr⟩ := Ep.rebase hE hI
  replace hx0 := Kd.keep _ hx0 (hmv _)
  replace hE := hE'; replace hI := hI.rebase; clear hE' hmv hmr
  have hct := contI (S := Lo S w w_2 ns_1 []) (w := w_2) (d := kd_Config) (x := x0) (sv := sv0) ⟨⟨hx0.1.1, hx0.1.2⟩, ⟨hx0.2.1.1, hx0.2.1.2⟩, ⟨hx0.2.2.1.1, hx0.2.2.1.2⟩, ⟨hx0.2.2.2.1.1, hx0.2.2.2.1.2⟩, trivial⟩
  obtain ⟨B_3, ns_5, hE', hI', hmv, hB_4⟩ := freeze_ (d := kd_Config) hE hI 0 x0 sv0 29 rfl
  replace hB_4 := hB_4 _ hct
  clear hct
  have hmr := hmr_ ([] : List (List Nat)) w_2
  replace hx0 := Kd.keep _ hx0 (hmv _)
  replace hE := hE'; replace hI := hI'; clear hE' hI' hmv hmr
  obtain ⟨ns_6, hE', hI', hmv⟩ := hE.cut hI [2, 1] 0 (s_ [e_ 2 (.bool false), e_ 1 (.pointer (some B_3))] []) (by kernel_rfl)
  have hmr := hmr_ ([] : List (List Nat)) w_2
  replace hx0 := Kd.keep _ hx0 (hmv _)
  replace hB_4 := El.keep hB_4 (hmv _)
  replace hE := hE'; replace hI := hI'; clear hE' hI' hmv hmr
  refine sr_ (orc := [[.slice ((sv0 0).1) x0.Parts.length ((sv0 0).2)]]) hF hI (s_ [e_ 9 (.int .i64 0), e_ 8 (.int .i64 (x0.Parts.length : Int)), e_ 7 (.slice ((sv0 0).1) x0.Parts.length ((sv0 0).2)), e_ 2 (.bool false), e_ 1 (.pointer (some B_3))] []) [.cell true B_3 [.slice ((sv0 0).1) x0.Parts.length ((sv0 0).2)]] (by kernel_rfl) ⟨ob_el (fun _ => hB_4) 0 [.slice ((sv0 0).1) x0.Parts.length ((sv0 0).2)] rfl, trivial⟩ (fun ns_7 a w_8 hI => ?_)
  obtain ⟨hE', hmv, hmr⟩ := Ep.rebase hE hI
  replace hx0 := Kd.keep _ hx0 (hmv _)
  replace hB_4 := El.keep hB_4 (hmv _)
  replace hE := hE'; replace hI := hI.rebase; clear hE' hmv hmr
  obtain ⟨o_43, hL_44, H0⟩ := bind_some H0
  refine block_loop (fun (s1 : Int × Bool) a w_50 => ∃ (ow ns : List Nat) , ((kd_Config).cont (Lo S w w_50 ow []) w_50 x0 sv0) ∧ (El kd_Config (Lo S w w_50 ow []) w_50 B_3 x0 sv0) ∧ Ep [] w w_50 ow [] ∧ St w_50 ow 31 (s_ [e_ 9 (.int .i64 s1.1), e_ 8 (.int .i64 (x0.Parts.length : Int)), e_ 7 (.slice ((sv0 0).1) x0.Parts.length ((sv0 0).2)), e_ 2 (.bool s1.2), e_ 1 (.pointer (some B_3))] []) ns a w_50) (0, false) hL_44 ⟨_, _, hx0, hB_4, hE, hI.pick [9, 8, 7, 2, 1] 0 (s_ [e_ 9 (.int .i64 0), e_ 8 (.int .i64 (x0.Parts.length : Int)), e_ 7 (.slice ((sv0 0).1) x0.Parts.length ((sv0 0).2)), e_ 2 (.bool false), e_ 1 (.pointer (some B_3))] []) (by kernel_rfl)⟩ ?_ ?_
  ·clear hI hE
   rintro s1 a w_9 ⟨ow_11, ns_10, hx0, hB_4, hE, hI⟩ r1 H1
   unfold G_defect_idle.b1 at H1
   refine sr0_ hF hI (s_ [e_ 10 (.bool (decide (s1.1 < (x0.Parts.length : Int)))), e_ 9 (.int .i64 s1.1), e_ 8 (.int .i64 (x0.Parts.length : Int)), e_ 7 (.slice ((sv0 0).1) x0.Parts.length ((sv0 0).2)), e_ 2 (.bool s1.2), e_ 1 (.pointer (some B_3))] []) (by kernel_rfl) (fun ns_12 a w_13 hI => ?_)
   refine wpIn_seq ?_
   refine cond_ hI (decide (s1.1 < (x0.Parts.length : Int))) rfl (fun hc_14 => ?_) (fun hc_14 => ?_)
   ·replace H1 := bif_t hc_14 H1
    refine wpIn_skip ?_
    refine then_normal ?_
    refine wpIn_seq ?_
    refine wpIn_block ?_
    obtain ⟨hN_15, H1⟩ := req_some H1
    obtain ⟨sv_16, hE_18, hA_17⟩ := Arr.elB (d := kd_Part) (hB_4).cont.1.1 s1.1 true (fun _ => hN_15)
    replace hE_18 := hE_18 rfl
    replace hA_17 := fun (_ : true = true) => hA_17 rfl
    refine sr_ (orc := [(kd_Part).cells (rd x0.Parts s1.1) sv_16]) hF hI (s_ [p_ 4 1 0, p_ 3 0 0, e_ 9 (.int .i64 s1.1), e_ 8 (.int .i64 (x0.Parts.length : Int)), e_ 7 (.slice ((sv0 0).1) x0.Parts.length ((sv0 0).2)), e_ 2 (.bool s1.2), e_ 1 (.pointer (some B_3))] [([.v (.int .i64 s1.1)], 3), ((((kd_Part).cells (rd x0.Parts s1.1) sv_16).map EV.v), 155)]) [.need true ((0 : Int) ≤ s1.1 ∧ s1.1 < (x0.Parts.length : Int)), .need true ((sv0 0).1 = some (adr ((sv0 0).1))), .cell true ((adr ((sv0 0).1)).add ((s1.1 : Int).toNat * 2)) ((kd_Part).cells (rd x0.Parts s1.1) sv_16)] (by kernel_rfl) ⟨ob_inb (fun _ => hN_15), hA_17, ob_el (fun _ => hE_18) 0 ((kd_Part).cells (rd x0.Parts s1.1) sv_16) rfl, trivial⟩ (fun ns_19 a w_20 hI => ?_)
    refine wpIn_seq ?_
    refine wpIn_region_lit ?_
    obtain ⟨hE', hmv, hmr⟩ := Ep.rebase hE hI
    replace hx0 := Kd.keep _ hx0 (hmv _)
    replace hB_4 := El.keep hB_4 (hmv _)
    replace hE_18 := El.keep hE_18 (hmv _)
    replace hE := hE'; replace hI := hI.rebase; clear hE' hmv hmr
    have hct := contI (S := Lo S w w_20 ns_19 []) (w := w_20) (d := (Kd.int .i64)) (x := s1.1) (sv := (svL [])) trivial
    obtain ⟨B_21, ns_23, hE', hI', hmv, hB_22⟩ := freeze_ (d := (Kd.int .i64)) hE hI 0 s1.1 (svL []) 3 rfl
    replace hB_22 := hB_22 _ hct
    clear hct
    have hmr := hmr_ ([] : List (List Nat)) w_20
    replace hx0 := Kd.keep _ hx0 (hmv _)
    replace hB_4 := El.keep hB_4 (hmv _)
    replace hE_18 := El.keep hE_18 (hmv _)
    replace hE := hE'; replace hI := hI'; clear hE' hI' hmv hmr
    obtain ⟨ns_24, hE', hI', hmv⟩ := hE.cut hI [4, 3, 9, 8, 7, 2, 1] 1 (s_ [p_ 4 0 0, e_ 3 (.pointer (some B_21)), e_ 9 (.int .i64 s1.1), e_ 8 (.int .i64 (x0.Parts.length : Int)), e_ 7 (.slice ((sv0 0).1) x0.Parts.length ((sv0 0).2)), e_ 2 (.bool s1.2), e_ 1 (.pointer (some B_3))] [((((kd_Part).cells (rd x0.Parts s1.1) sv_16).map EV.v), 155)]) (by kernel_rfl)
    have hmr := hmr_ ([] : List (List Nat)) w_20
    replace hx0 := Kd.keep _ hx0 (hmv _)
    replace hB_4 := El.keep hB_4 (hmv _)
    replace hE_18 := El.keep hE_18 (hmv _)
    replace hB_22 := El.keep hB_22 (hmv _)
    replace hE := hE'; replace hI := hI'; clear hE' hI' hmv hmr
    refine ck0_ hF 1 hI (s_ [e_ 14 (.func (.func 252) #[] #[.pointer (some B_21)]), p_ 4 0 0, e_ 3 (.pointer (some B_21)), e_ 9 (.int .i64 s1.1), e_ 8 (.int .i64 (x0.Parts.length : Int)), e_ 7 (.slice ((sv0 0).1) x0.Parts.length ((sv0 0).2)), e_ 2 (.bool s1.2), e_ 1 (.pointer (some B_3))] [((((kd_Part).cells (rd x0.Parts s1.1) sv_16).map EV.v), 155)]) rfl (by kernel_rfl) (fun ns_25 a w_26 hI => ?_)
    refine ck0_ hF 1 hI (s_ [e_ 5 (.func (.func 252) #[] #[.pointer (some B_21)]), p_ 4 0 0, e_ 9 (.int .i64 s1.1), e_ 8 (.int .i64 (x0.Parts.length : Int)), e_ 7 (.slice ((sv0 0).1) x0.Parts.length ((sv0 0).2)), e_ 2 (.bool s1.2), e_ 1 (.pointer (some B_3))] [((((kd_Part).cells (rd x0.Parts s1.1) sv_16).map EV.v), 155)]) rfl (by kernel_rfl) (fun ns_27 a w_28 hI => ?_)
    refine wpListIn_nil ?_
    refine then_normal ?_
    obtain ⟨t_29, hG_30, H1⟩ := bind_some H1
    obtain ⟨hN_31, H1⟩ := req_some H1
    have hE_33 := fun (hg : (!(!t_29)) = true) => elA_St27 (El.part (e := kd_St27) hB_4 2 x0.Frames (svO sv0 2) ⟨(hB_4).cont.2.2.1, (hB_4).cont.2.2.2.1, trivial⟩ rfl) (imp_spec hN_31 hg)
    obtain ⟨t_34, hG_35, H1⟩ := bind_some H1
    refine sr_ (orc := [[.bool t_29], [.slice (((svO (svO sv0 2) (((rd x0.Parts s1.1).Core : Int).toNat * 1)) 0).1) ((rdA_St27 x0.Frames ((rd x0.Parts s1.1).Core)).Windows).length (((svO (svO sv0 2) (((rd x0.Parts s1.1).Core : Int).toNat * 1)) 0).2)], [.bool t_34]]) hF hI (s_ [e_ 29 (.bool ((!t_29) || (!t_34))), e_ 9 (.int .i64 s1.1), e_ 8 (.int .i64 (x0.Parts.length : Int)), e_ 7 (.slice ((sv0 0).1) x0.Parts.length ((sv0 0).2)), e_ 2 (.bool s1.2), e_ 1 (.pointer (some B_3))] [((((kd_Part).cells (rd x0.Parts s1.1) sv_16).map EV.v), 155)]) [.call true 212 [.int .i64 ((rd x0.Parts s1.1).Core), .int .i64 0, .int .i64 1] (.bool t_29), .need (!(!t_29)) ((0 : Int) ≤ ((rd x0.Parts s1.1).Core) ∧ ((rd x0.Parts s1.1).Core) < ((2 : Nat) : Int)), .cell (!(!t_29)) (((B_3.add 2).add (((rd x0.Parts s1.1).Core : Int).toNat * 2)).add 1) [.slice (((svO (svO sv0 2) (((rd x0.Parts s1.1).Core : Int).toNat * 1)) 0).1) ((rdA_St27 x0.Frames ((rd x0.Parts s1.1).Core)).Windows).length (((svO (svO sv0 2) (((rd x0.Parts s1.1).Core : Int).toNat * 1)) 0).2)], .call (!(!t_29)) 248 [.slice (((svO (svO sv0 2) (((rd x0.Parts s1.1).Core : Int).toNat * 1)) 0).1) ((rdA_St27 x0.Frames ((rd x0.Parts s1.1).Core)).Windows).length (((svO (svO sv0 2) (((rd x0.Parts s1.1).Core : Int).toNat * 1)) 0).2), .func (.func 252) #[] #[.pointer (some B_21)]] (.bool t_34)] (by kernel_rfl) ⟨ob_call (enters Tryz.func212 (by kernel_rfl) rfl) (fun hg wz hk => G_defect_within.calls ((rd x0.Parts s1.1).Core) 0 1  wz (S := fun _ => True)  _ hG_30), ob_inb (fun hg => imp_spec hN_31 hg), ob_el (fun hg => hE_33 hg) 1 [.slice (((svO (svO sv0 2) (((rd x0.Parts s1.1).Core : Int).toNat * 1)) 0).1) ((rdA_St27 x0.Frames ((rd x0.Parts s1.1).Core)).Windows).length (((svO (svO sv0 2) (((rd x0.Parts s1.1).Core : Int).toNat * 1)) 0).2)] rfl, ob_call (enters Tryz.func248 (by kernel_rfl) rfl) (fun hg wz hk => G_api_Window_248.calls ((rdA_St27 x0.Frames ((rd x0.Parts s1.1).Core)).Windows) (Fn328.f252 s1.1) (((svO (svO sv0 2) (((rd x0.Parts s1.1).Core : Int).toNat * 1)) 0).1) (((svO (svO sv0 2) (((rd x0.Parts s1.1).Core : Int).toNat * 1)) 0).2) (svL [(some B_21, 0), (none, 0), (none, 0), (none, 0), (none, 0), (none, 0), (none, 0)]) wz (S := fun _ => True) (Arr.any (Arr.keep ((hE_33 hg)).cont.1.1 (Lo.on hk))) ((hE_33 hg)).cont.1.2 (Kd.any _ (Kd.keep kdF328 (contI (S := Lo S w w_20 ns_24 []) (w := w_20) (d := kdF328) (x := (Fn328.f252 s1.1)) (sv := (svL [(some B_21, 0), (none, 0), (none, 0), (none, 0), (none, 0), (none, 0), (none, 0)])) ⟨hB_22.cont, hB_22.at_, hB_22.cells⟩) (Lo.on hk))) _ (cal_some hG_35 hg)), trivial⟩ (fun ns_36 a w_37 hI => ?_)
    refine cond_ hI (((!t_29) || (!t_34))) rfl (fun hc_38 => ?_) (fun hc_38 => ?_)
    ·replace H1 := bif_t hc_38 H1
     refine sr0_ hF hI (s_ [e_ 2 (.bool true)] [((((kd_Part).cells (rd x0.Parts s1.1) sv_16).map EV.v), 155)]) (by kernel_rfl) (fun ns_39 a w_40 hI => ?_)
     refine wpIn_ret ?_
     refine inBlock_ret ?_
     refine then_ret ?_
     refine then_ret ?_
     obtain rfl := Option.some.inj H1
     refine .inr ⟨_, rfl, fun ho => ?_⟩
     subst ho
     refine inBlock_ret ?_
     refine then_ret ?_
     obtain rfl := Option.some.inj H0
     exact ret1 hI rfl rfl ⟨rfl, hE.below hI⟩
    ·replace H1 := bif_f hc_38 H1
     refine wpIn_skip ?_
     refine inBlock_normal ?_
     refine then_normal ?_
     refine rg0_ hF hI (s_ [e_ 9 (.int .i64 (IntKind.i64.wrap (s1.1 + 1))), e_ 8 (.int .i64 (x0.Parts.length : Int)), e_ 7 (.slice ((sv0 0).1) x0.Parts.length ((sv0 0).2)), e_ 2 (.bool s1.2), e_ 1 (.pointer (some B_3))] [((((kd_Part).cells (rd x0.Parts s1.1) sv_16).map EV.v), 155)]) (by kernel_rfl) (fun ns_41 a w_42 hI => ?_)
     refine then_normal ?_
     obtain ⟨hE', hmv, hmr⟩ := Ep.rebase hE hI
     replace hx0 := Kd.keep _ hx0 (hmv _)
     replace hB_4 := El.keep hB_4 (hmv _)
     replace hE_18 := El.keep hE_18 (hmv _)
     replace hB_22 := El.keep hB_22 (hmv _)
     replace hE := hE'; replace hI := hI.rebase; clear hE' hmv hmr
     obtain rfl := Option.some.inj H1
     exact ⟨_, rfl, ⟨_, _, hx0, hB_4, hE, hI.pick [9, 8, 7, 2, 1] 0 (s_ [e_ 9 (.int .i64 (IntKind.i64.wrap (s1.1 + 1))), e_ 8 (.int .i64 (x0.Parts.length : Int)), e_ 7 (.slice ((sv0 0).1) x0.Parts.length ((sv0 0).2)), e_ 2 (.bool s1.2), e_ 1 (.pointer (some B_3))] []) (by kernel_rfl)⟩⟩
   ·replace H1 := bif_f hc_14 H1
    refine wpIn_exit ?_
    refine then_exit ?_
    refine then_exit ?_
    obtain ⟨hE', hmv, hmr⟩ := Ep.rebase hE hI
    replace hx0 := Kd.keep _ hx0 (hmv _)
    replace hB_4 := El.keep hB_4 (hmv _)
    replace hE := hE'; replace hI := hI.rebase; clear hE' hmv hmr
    obtain rfl := Option.some.inj H1
    exact .inl ⟨_, rfl, rfl, ⟨_, _, hx0, hB_4, hE, hI.pick [9, 8, 7, 2, 1] 0 (s_ [e_ 9 (.int .i64 s1.1), e_ 8 (.int .i64 (x0.Parts.length : Int)), e_ 7 (.slice ((sv0 0).1) x0.Parts.length ((sv0 0).2)), e_ 2 (.bool s1.2), e_ 1 (.pointer (some B_3))] []) (by kernel_rfl)⟩⟩
  ·clear hI hE
   rintro s1 a w_45 ho ⟨ow_47, ns_46, hx0, hB_4, hE, hI⟩
   subst ho
   replace H0 : (some false : Option (Bool)) = _ := H0
   refine then_normal ?_
   refine sr0_ hF hI (s_ [e_ 2 (.bool false)] []) (by kernel_rfl) (fun ns_48 a w_49 hI => ?_)
   refine wpIn_ret ?_
   obtain rfl := Option.some.inj H0
   exact ret1 hI rfl rfl ⟨rfl, hE.below hI⟩

noncomputable def Fn37.run (f : Fn37) (x0 : Config) : Option (Bool) := match f with
  | .f241 c0 => G_defect_part_1 x0 c0
  | .f243 c0 => G_defect_channel_1 x0 c0
  | .f246 c0 => G_defect_frame_1 x0 c0
  | .f211 => G_defect_rules_1 x0
  | .f216 => G_defect_rules_4 x0
  | .f235 => G_defect_idle x0
theorem Fn37.ent (f : Fn37) (args : Array Value) (w : World) : (callFunc (fid37 f) args).run Tryz.prog w = .ok (.enter (fid37 f) args) w := by
  cases f with
  | f241 _ => exact enters Tryz.func241 (by kernel_rfl) rfl args w
  | f243 _ => exact enters Tryz.func243 (by kernel_rfl) rfl args w
  | f246 _ => exact enters Tryz.func246 (by kernel_rfl) rfl args w
  | f211 => exact enters Tryz.func211 (by kernel_rfl) rfl args w
  | f216 => exact enters Tryz.func216 (by kernel_rfl) rfl args w
  | f235 => exact enters Tryz.func235 (by kernel_rfl) rfl args w
theorem Fn37.calls (f : Fn37) (x0 : Config) (svf : SV) (sv0 : SV) (w : World) {S : Nat → Prop} (hf : (kdF37).cont S w f svf) (hx0 : (kd_Config).cont S w x0 sv0) (r : Bool) (h : Fn37.run f x0 = some r) :
    Calls Tryz.prog (fid37 f) (([.agg ((kd_Config).cells x0 sv0).toArray] : List Value) ++ (fca37 f svf).toList).toArray w fun e w' => e = .returned (.bool r) ∧ Below w.heap.size w w' := by
  cases f with
  | f241 c0 => exact G_defect_part_1.calls x0 c0 sv0 (adr (svf 0).1) (svO svf 1) w hx0 hf r h
  | f243 c0 => exact G_defect_channel_1.calls x0 c0 sv0 (adr (svf 0).1) (svO svf 1) w hx0 hf r h
  | f246 c0 => exact G_defect_frame_1.calls x0 c0 sv0 (adr (svf 0).1) (svO svf 1) w hx0 hf r h
  | f211 => exact G_defect_rules_1.calls x0  sv0  w hx0  r h
  | f216 => exact G_defect_rules_4.calls x0  sv0  w hx0  r h
  | f235 => exact G_defect_idle.calls x0  sv0  w hx0  r h

def G_defect_All_1.enc : (Int) → SV → List Value := fun y sv => [.int .i64 y]
def G_defect_All_1.fct : (Nat → Prop) → World → (Int) → SV → Prop := fun X w y sv => True
noncomputable def G_defect_All_1.b1 {σt R : Type} (bd : σt → (Int) → Option (Stp σt R)) (s0 : σt) (y1 : Config) (t_1 : (List Defect_rule)) (s1 : Int × σt) : Option (Stp (Int × σt) (Ex (Int × σt) (Stp σt R))) := (bif decide (s1.1 < (t_1.length : Int)) then (req (inb s1.1 t_1.length) ((Fn37.run ((rd t_1 s1.1).holds) y1).bind fun t_17 => (bif t_17 then ((bd s1.2 (IntKind.i64.wrap (s1.1 + 1))).bind fun z => z.on (fun s_30 => some (.next ((IntKind.i64.wrap (s1.1 + 1)), s_30))) (fun r_31 => some (.out (.ret (.out r_31))))) else some (.next ((IntKind.i64.wrap (s1.1 + 1)), s1.2))))) else some (.out (.brk (s1.1, s1.2))))
noncomputable def G_defect_All_1 {σt R : Type} (bd : σt → (Int) → Option (Stp σt R)) (s0 : σt) (y1 : Config) : Option (Stp σt R) := ((G_defect_rules).bind fun t_1 => ((loopω (G_defect_All_1.b1 bd s0 y1 t_1) (0, s0)).bind fun o => o.on (fun s1 => some (.next s1.2)) (fun r => some r)))
theorem G_defect_All_1.calls {σt R : Type} (bd : σt → (Int) → Option (Stp σt R)) (s0 : σt) (y1 : Config) (B1 : Addr) (sv1 : SV) (l : Nat) (w : World) {S : Nat → Prop} (hB1 : El kd_Config S w B1 y1 sv1) {J : σt → (Nat → Prop) → World → Prop} {Jx : R → World → Prop} (hq : SeqH Tryz.prog l G_defect_All_1.enc G_defect_All_1.fct bd J Jx) (hJ : J s0 S w) (r : Stp σt R) (h : G_defect_All_1 bd s0 y1 = some r) :
    Calls Tryz.prog 200 #[.func (.yield l) #[] #[], .pointer (some B1)] w fun e w' => (∃ v, e = .returned v) ∧ SeqPost J Jx r w' := by
  replace hB1 := El.lo hB1
  unfold G_defect_All_1 at h
  have H0 := h
  clear h
  refine enter Tryz.func200 rfl [.func (.yield l) #[] #[], .pointer (some B1)] (n := 24) rfl (Nat.le_of_ble_eq_true rfl) (fun a hI => ?_)
  have hF : FOpen Fence.wide := .inl rfl
  have hE := Ep.start w
  refine wpIn_seq ?_
  refine wpIn_region_lit ?_
  obtain ⟨t_1, hG_2, H0⟩ := bind_some H0
  refine callH_ hF hE hI (wanted_none rfl) rfl (args := []) rfl (enters Tryz.func201 (by kernel_rfl) rfl) (fun sv_3 => .slice ((sv_3 0).1) t_1.length ((sv_3 0).2)) _ (G_defect_rules.calls   w (S := Lo S w w [] [])  _ hG_2) (fun sv_3 => (s_ [e_ 5 (.slice ((sv_3 0).1) t_1.length ((sv_3 0).2)), e_ 0 (.func (.yield l) #[] #[]), e_ 1 (.pointer (some B1))] [])) (fun sv_3 => by kernel_rfl) (fun sv_3 a w_5 hput hE' hI' hmv hmr hres hR => ?_)
  replace hB1 := El.keep hB1 (hmv _)
  replace hE := hE'; replace hI := hI'; clear hE' hI' hmv hmr
  obtain ⟨hR_4, hR_4c⟩ := hR
  replace hR_4 := Arr.keep hR_4 (hres _)
  clear hres
  refine ck0_ hF 2 hI (s_ [e_ 7 (.int .i64 0), e_ 6 (.int .i64 (t_1.length : Int)), e_ 5 (.slice ((sv_3 0).1) t_1.length ((sv_3 0).2)), e_ 0 (.func (.yield l) #[] #[]), e_ 1 (.pointer (some B1))] []) rfl (by kernel_rfl) (fun ns_6 a w_7 hI => ?_)
  refine wpListIn_nil ?_
  refine then_normal ?_
  obtain ⟨hE', hmv, hmr⟩ := Ep.rebase hE hI
  replace hB1 := El.keep hB1 (hmv _)
  replace hR_4 := Arr.keep hR_4 (hmv _)
  replace hE := hE'; replace hI := hI.rebase; clear hE' hmv hmr
  have hJ' := hq.new _ _ (Tc (Lo S w w_7 ns_6 []) w_7) _ _ hJ (hE.below hI) Tc.new
  obtain ⟨o_46, hL_47, H0⟩ := bind_some H0
  refine block_loop (fun (s1 : Int × σt) a w_48 => ∃ (T : Nat → Prop), (El kd_Config T w_48 B1 y1 sv1) ∧ (Arr kd_Defect_rule T w_48 (sv_3 0).1 t_1) ∧ J s1.2 T w_48 ∧ St w_48 [] 24 (s_ [e_ 7 (.int .i64 s1.1), e_ 6 (.int .i64 (t_1.length : Int)), e_ 5 (.slice ((sv_3 0).1) t_1.length ((sv_3 0).2)), e_ 0 (.func (.yield l) #[] #[]), e_ 1 (.pointer (some B1))] []) [] a w_48) (0, s0) hL_47 ⟨_, El.keep hB1 (Tc.mv _ _), Arr.keep hR_4 (Tc.mv _ _), hJ', (hI.pick [7, 6, 5, 0, 1] 0 (s_ [e_ 7 (.int .i64 0), e_ 6 (.int .i64 (t_1.length : Int)), e_ 5 (.slice ((sv_3 0).1) t_1.length ((sv_3 0).2)), e_ 0 (.func (.yield l) #[] #[]), e_ 1 (.pointer (some B1))] []) (by kernel_rfl)).reset rfl rfl rfl _⟩ ?_ ?_
  ·clear hI hE hJ hJ'
   rintro s1 a w ⟨S, hB1, hR_4, hJ, hI⟩ r1 H1
   unfold G_defect_All_1.b1 at H1
   have hE := Ep.start w
   replace hB1 := El.lo hB1
   replace hR_4 := Arr.lo hR_4
   refine sr0_ hF hI (s_ [e_ 8 (.bool (decide (s1.1 < (t_1.length : Int)))), e_ 7 (.int .i64 s1.1), e_ 6 (.int .i64 (t_1.length : Int)), e_ 5 (.slice ((sv_3 0).1) t_1.length ((sv_3 0).2)), e_ 0 (.func (.yield l) #[] #[]), e_ 1 (.pointer (some B1))] []) (by kernel_rfl) (fun ns_8 a w_9 hI => ?_)
   refine wpIn_seq ?_
   refine cond_ hI (decide (s1.1 < (t_1.length : Int))) rfl (fun hc_10 => ?_) (fun hc_10 => ?_)
   ·replace H1 := bif_t hc_10 H1
    refine wpIn_skip ?_
    refine then_normal ?_
    refine wpIn_seq ?_
    refine wpIn_block ?_
    obtain ⟨hN_11, H1⟩ := req_some H1
    obtain ⟨sv_12, hE_14, hA_13⟩ := Arr.elB (d := kd_Defect_rule) hR_4 s1.1 true (fun _ => hN_11)
    replace hE_14 := hE_14 rfl
    replace hA_13 := fun (_ : true = true) => hA_13 rfl
    refine sr_ (orc := [(kd_Defect_rule).cells (rd t_1 s1.1) sv_12]) hF hI (s_ [e_ 3 (.int .i64 s1.1), p_ 4 0 0, e_ 7 (.int .i64 s1.1), e_ 6 (.int .i64 (t_1.length : Int)), e_ 5 (.slice ((sv_3 0).1) t_1.length ((sv_3 0).2)), e_ 0 (.func (.yield l) #[] #[]), e_ 1 (.pointer (some B1))] [((((kd_Defect_rule).cells (rd t_1 s1.1) sv_12).map EV.v), 304)]) [.need true ((0 : Int) ≤ s1.1 ∧ s1.1 < (t_1.length : Int)), .need true ((sv_3 0).1 = some (adr ((sv_3 0).1))), .cell true ((adr ((sv_3 0).1)).add ((s1.1 : Int).toNat * 1)) ((kd_Defect_rule).cells (rd t_1 s1.1) sv_12)] (by kernel_rfl) ⟨ob_inb (fun _ => hN_11), hA_13, ob_el (fun _ => hE_14) 0 ((kd_Defect_rule).cells (rd t_1 s1.1) sv_12) rfl, trivial⟩ (fun ns_15 a w_16 hI => ?_)
    refine wpIn_seq ?_
    refine wpIn_region_lit ?_
    obtain ⟨t_17, hG_18, H1⟩ := bind_some H1
    refine chunkT_ (liveT := [19, 18, 17, 16, 7, 6, 5, 0, 1]) (liveF := [16, 7, 6, 5, 0, 1]) (orc := [(kd_Config).cells y1 sv1, [.bool t_17]]) hF 8 hI (t_17) (s_ [e_ 19 (.int .i64 (IntKind.i64.wrap (s1.1 + 1))), e_ 18 (.int .i64 s1.1), e_ 17 (.func (.yield l) #[] #[]), e_ 16 (.bool t_17), e_ 7 (.int .i64 s1.1), e_ 6 (.int .i64 (t_1.length : Int)), e_ 5 (.slice ((sv_3 0).1) t_1.length ((sv_3 0).2)), e_ 0 (.func (.yield l) #[] #[]), e_ 1 (.pointer (some B1))] [((((kd_Defect_rule).cells (rd t_1 s1.1) sv_12).map EV.v), 304)]) (s_ [e_ 16 (.bool t_17), e_ 7 (.int .i64 s1.1), e_ 6 (.int .i64 (t_1.length : Int)), e_ 5 (.slice ((sv_3 0).1) t_1.length ((sv_3 0).2)), e_ 0 (.func (.yield l) #[] #[]), e_ 1 (.pointer (some B1))] [((((kd_Defect_rule).cells (rd t_1 s1.1) sv_12).map EV.v), 304)]) [.cell true B1 ((kd_Config).cells y1 sv1), .call true (fid37 ((rd t_1 s1.1).holds)) (([.agg ((kd_Config).cells y1 sv1).toArray] : List Value) ++ (fca37 ((rd t_1 s1.1).holds) sv_12).toList) (.bool t_17)] rfl (by kernel_rfl) ⟨ob_el (fun _ => hB1) 0 ((kd_Config).cells y1 sv1) rfl, ob_call (Fn37.ent ((rd t_1 s1.1).holds)) (fun hg wz hk => Fn37.calls ((rd t_1 s1.1).holds) y1 sv_12 sv1 wz (S := fun _ => True) (Kd.any _ (Kd.keep kdF37 (hE_14).cont.1 (Lo.on hk))) (Kd.any _ (Kd.keep kd_Config (contI (S := Lo S w w [] []) (w := w) (d := kd_Config) (x := y1) (sv := sv1) ⟨⟨(hB1).cont.1.1, (hB1).cont.1.2⟩, ⟨(hB1).cont.2.1.1, (hB1).cont.2.1.2⟩, ⟨(hB1).cont.2.2.1.1, (hB1).cont.2.2.1.2⟩, ⟨(hB1).cont.2.2.2.1.1, (hB1).cont.2.2.2.1.2⟩, trivial⟩) (Lo.on hk))) _ hG_18), trivial⟩ (fun hb_19 ns_20 a w_21 hI hW => ?_) (fun hb_19 ns_22 a w_23 hI hW => ?_)
    ·replace H1 := bif_t hb_19 H1
     obtain ⟨hE', hmv, hmr⟩ := Ep.rebase hE hI
     replace hB1 := El.keep hB1 (hmv _)
     replace hR_4 := Arr.keep hR_4 (hmv _)
     replace hE_14 := El.keep hE_14 (hmv _)
     replace hE := hE'; replace hI := hI.rebase; clear hE' hmv hmr
     have hct := contI (S := Lo S w w_21 ns_20 []) (w := w_21) (d := kd_Defect_rule) (x := (rd t_1 s1.1)) (sv := sv_12) ⟨(hE_14).cont.1, trivial⟩
     obtain ⟨B_24, ns_26, hE', hI', hmv, hB_25⟩ := freeze_ (d := kd_Defect_rule) hE hI 0 (rd t_1 s1.1) sv_12 304 rfl
     replace hB_25 := hB_25 _ hct
     clear hct
     have hmr := hmr_ ([] : List (List Nat)) w_21
     replace hB1 := El.keep hB1 (hmv _)
     replace hR_4 := Arr.keep hR_4 (hmv _)
     replace hE_14 := El.keep hE_14 (hmv _)
     replace hE := hE'; replace hI := hI'; clear hE' hI' hmv hmr
     obtain ⟨ns_27, hE', hI', hmv⟩ := hE.cut hI [19, 18, 17, 16, 7, 6, 5, 0, 1] 0 (s_ [e_ 19 (.int .i64 (IntKind.i64.wrap (s1.1 + 1))), e_ 18 (.int .i64 s1.1), e_ 17 (.func (.yield l) #[] #[]), e_ 16 (.bool t_17), e_ 7 (.int .i64 s1.1), e_ 6 (.int .i64 (t_1.length : Int)), e_ 5 (.slice ((sv_3 0).1) t_1.length ((sv_3 0).2)), e_ 0 (.func (.yield l) #[] #[]), e_ 1 (.pointer (some B1))] []) (by kernel_rfl)
     have hmr := hmr_ ([] : List (List Nat)) w_21
     replace hB1 := El.keep hB1 (hmv _)
     replace hR_4 := Arr.keep hR_4 (hmv _)
     replace hE_14 := El.keep hE_14 (hmv _)
     replace hB_25 := El.keep hB_25 (hmv _)
     replace hE := hE'; replace hI := hI'; clear hE' hI' hmv hmr
     obtain ⟨hE', hmv⟩ := hE.bare
     replace hB1 := El.keep hB1 (hmv _)
     replace hR_4 := Arr.keep hR_4 (hmv _)
     replace hE_14 := El.keep hE_14 (hmv _)
     replace hB_25 := El.keep hB_25 (hmv _)
     replace hE := hE'
     replace hI := hI.reset rfl rfl rfl w_21
     clear hE' hmv
     obtain ⟨z_28, hz_29, H1⟩ := bind_some H1
     refine yield_ (S0 := S) hq hF hE hI rfl rfl rfl hW rfl rfl rfl hJ (IntKind.i64.wrap (s1.1 + 1)) (svL []) rfl hz_29 trivial (s_ [e_ 20 (.bool true), e_ 19 (.int .i64 (IntKind.i64.wrap (s1.1 + 1))), e_ 18 (.int .i64 s1.1), e_ 17 (.func (.yield l) #[] #[]), e_ 16 (.bool t_17), e_ 7 (.int .i64 s1.1), e_ 6 (.int .i64 (t_1.length : Int)), e_ 5 (.slice ((sv_3 0).1) t_1.length ((sv_3 0).2)), e_ 0 (.func (.yield l) #[] #[]), e_ 1 (.pointer (some B1))] []) (s_ [e_ 20 (.bool false), e_ 19 (.int .i64 (IntKind.i64.wrap (s1.1 + 1))), e_ 18 (.int .i64 s1.1), e_ 17 (.func (.yield l) #[] #[]), e_ 16 (.bool t_17), e_ 7 (.int .i64 s1.1), e_ 6 (.int .i64 (t_1.length : Int)), e_ 5 (.slice ((sv_3 0).1) t_1.length ((sv_3 0).2)), e_ 0 (.func (.yield l) #[] #[]), e_ 1 (.pointer (some B1))] []) (by kernel_rfl) (by kernel_rfl) (fun S s_30 a w hzz hJ' hE' hI' hmv => ?_) (fun r_31 a w hzz hJ' hE' hI' => ?_)
     ·subst hzz
      replace hB1 := El.lo (El.keep hB1 hmv)
      replace hR_4 := Arr.lo (Arr.keep hR_4 hmv)
      replace hE_14 := El.lo (El.keep hE_14 hmv)
      replace hB_25 := El.lo (El.keep hB_25 hmv)
      replace hE := hE'
      replace hI := hI'
      replace hJ := hJ'
      clear hE' hI' hJ' hmv
      replace H1 : (some (.next ((IntKind.i64.wrap (s1.1 + 1)), s_30)) : Option (Stp (Int × σt) (Ex (Int × σt) (Stp σt R)))) = _ := H1
      refine unguardK_ hI t_17 (by kernel_rfl) (by first | exact hb_19 | exact b_nf hb_19 | exact b_nt hb_19 | exact b_fn hb_19 | exact b_tn hb_19 | simp [hb_19]) ?_
      refine ck0_ hF 1 hI (s_ [e_ 21 (.bool false), e_ 20 (.bool true), e_ 19 (.int .i64 (IntKind.i64.wrap (s1.1 + 1))), e_ 18 (.int .i64 s1.1), e_ 17 (.func (.yield l) #[] #[]), e_ 16 (.bool t_17), e_ 7 (.int .i64 s1.1), e_ 6 (.int .i64 (t_1.length : Int)), e_ 5 (.slice ((sv_3 0).1) t_1.length ((sv_3 0).2)), e_ 0 (.func (.yield l) #[] #[]), e_ 1 (.pointer (some B1))] []) rfl (by kernel_rfl) (fun ns_32 a w_33 hI => ?_)
      refine pick1 hF hI rfl rfl (t_17) true rfl (by first | exact hb_19 | exact b_nf hb_19 | exact b_nt hb_19 | exact b_fn hb_19 | exact b_tn hb_19 | simp [hb_19]) rfl (s_ [e_ 22 (.bool false), e_ 21 (.bool false), e_ 20 (.bool true), e_ 19 (.int .i64 (IntKind.i64.wrap (s1.1 + 1))), e_ 18 (.int .i64 s1.1), e_ 17 (.func (.yield l) #[] #[]), e_ 16 (.bool t_17), e_ 7 (.int .i64 s1.1), e_ 6 (.int .i64 (t_1.length : Int)), e_ 5 (.slice ((sv_3 0).1) t_1.length ((sv_3 0).2)), e_ 0 (.func (.yield l) #[] #[]), e_ 1 (.pointer (some B1))] []) (by kernel_rfl) (fun a hI => ?_)
      refine ck0_ hF 0 hI (s_ [e_ 22 (.bool false), e_ 21 (.bool false), e_ 20 (.bool true), e_ 19 (.int .i64 (IntKind.i64.wrap (s1.1 + 1))), e_ 18 (.int .i64 s1.1), e_ 17 (.func (.yield l) #[] #[]), e_ 7 (.int .i64 s1.1), e_ 6 (.int .i64 (t_1.length : Int)), e_ 5 (.slice ((sv_3 0).1) t_1.length ((sv_3 0).2)), e_ 0 (.func (.yield l) #[] #[]), e_ 1 (.pointer (some B1))] []) rfl (by kernel_rfl) (fun ns_34 a w_35 hI => ?_)
      refine wpListIn_nil ?_
      refine then_normal ?_
      refine cond_ hI false rfl (fun h => by cases h) (fun _ => ?_)
      refine wpIn_skip ?_
      refine inBlock_normal ?_
      refine then_normal ?_
      refine rg0_ hF hI (s_ [e_ 7 (.int .i64 (IntKind.i64.wrap (s1.1 + 1))), e_ 21 (.bool false), e_ 20 (.bool true), e_ 19 (.int .i64 (IntKind.i64.wrap (s1.1 + 1))), e_ 18 (.int .i64 s1.1), e_ 17 (.func (.yield l) #[] #[]), e_ 6 (.int .i64 (t_1.length : Int)), e_ 5 (.slice ((sv_3 0).1) t_1.length ((sv_3 0).2)), e_ 0 (.func (.yield l) #[] #[]), e_ 1 (.pointer (some B1))] []) (by kernel_rfl) (fun ns_36 a w_37 hI => ?_)
      refine then_normal ?_
      obtain ⟨hE', hmv, hmr⟩ := Ep.rebase hE hI
      replace hB1 := El.keep hB1 (hmv _)
      replace hR_4 := Arr.keep hR_4 (hmv _)
      replace hE_14 := El.keep hE_14 (hmv _)
      replace hB_25 := El.keep hB_25 (hmv _)
      replace hE := hE'; replace hI := hI.rebase; clear hE' hmv hmr
      have hJ' := hq.new _ _ (Tc (Lo S w w_37 ns_36 []) w_37) _ _ hJ (hE.below hI) Tc.new
      obtain rfl := Option.some.inj H1
      exact ⟨_, rfl, ⟨_, El.keep hB1 (Tc.mv _ _), Arr.keep hR_4 (Tc.mv _ _), hJ', (hI.pick [7, 6, 5, 0, 1] 0 (s_ [e_ 7 (.int .i64 (IntKind.i64.wrap (s1.1 + 1))), e_ 6 (.int .i64 (t_1.length : Int)), e_ 5 (.slice ((sv_3 0).1) t_1.length ((sv_3 0).2)), e_ 0 (.func (.yield l) #[] #[]), e_ 1 (.pointer (some B1))] []) (by kernel_rfl)).reset rfl rfl rfl _⟩⟩
     ·subst hzz
      replace hE := hE'
      replace hI := hI'
      replace hJ := hJ'
      clear hE' hI' hJ'
      replace H1 : (some (.out (.ret (.out r_31))) : Option (Stp (Int × σt) (Ex (Int × σt) (Stp σt R)))) = _ := H1
      refine unguardK_ hI t_17 (by kernel_rfl) (by first | exact hb_19 | exact b_nf hb_19 | exact b_nt hb_19 | exact b_fn hb_19 | exact b_tn hb_19 | simp [hb_19]) ?_
      refine ck0_ hF 1 hI (s_ [e_ 21 (.bool true), e_ 20 (.bool false), e_ 19 (.int .i64 (IntKind.i64.wrap (s1.1 + 1))), e_ 18 (.int .i64 s1.1), e_ 17 (.func (.yield l) #[] #[]), e_ 16 (.bool t_17), e_ 7 (.int .i64 s1.1), e_ 6 (.int .i64 (t_1.length : Int)), e_ 5 (.slice ((sv_3 0).1) t_1.length ((sv_3 0).2)), e_ 0 (.func (.yield l) #[] #[]), e_ 1 (.pointer (some B1))] []) rfl (by kernel_rfl) (fun ns_38 a w_39 hI => ?_)
      refine pick1 hF hI rfl rfl (t_17) true rfl (by first | exact hb_19 | exact b_nf hb_19 | exact b_nt hb_19 | exact b_fn hb_19 | exact b_tn hb_19 | simp [hb_19]) rfl (s_ [e_ 22 (.bool true), e_ 21 (.bool true), e_ 20 (.bool false), e_ 19 (.int .i64 (IntKind.i64.wrap (s1.1 + 1))), e_ 18 (.int .i64 s1.1), e_ 17 (.func (.yield l) #[] #[]), e_ 16 (.bool t_17), e_ 7 (.int .i64 s1.1), e_ 6 (.int .i64 (t_1.length : Int)), e_ 5 (.slice ((sv_3 0).1) t_1.length ((sv_3 0).2)), e_ 0 (.func (.yield l) #[] #[]), e_ 1 (.pointer (some B1))] []) (by kernel_rfl) (fun a hI => ?_)
      refine ck0_ hF 0 hI (s_ [e_ 22 (.bool true), e_ 21 (.bool true), e_ 20 (.bool false), e_ 19 (.int .i64 (IntKind.i64.wrap (s1.1 + 1))), e_ 18 (.int .i64 s1.1), e_ 17 (.func (.yield l) #[] #[]), e_ 7 (.int .i64 s1.1), e_ 6 (.int .i64 (t_1.length : Int)), e_ 5 (.slice ((sv_3 0).1) t_1.length ((sv_3 0).2)), e_ 0 (.func (.yield l) #[] #[]), e_ 1 (.pointer (some B1))] []) rfl (by kernel_rfl) (fun ns_40 a w_41 hI => ?_)
      refine wpListIn_nil ?_
      refine then_normal ?_
      refine cond_ hI true rfl (fun _ => ?_) (fun h => by cases h)
      refine wpIn_ret ?_
      refine inBlock_ret ?_
      refine then_ret ?_
      refine then_ret ?_
      obtain rfl := Option.some.inj H1
      refine .inr ⟨_, rfl, fun ho => ?_⟩
      subst ho
      refine inBlock_ret ?_
      obtain rfl := Option.some.inj H0
      exact retG hI rfl rfl ⟨⟨_, rfl⟩, SeqPost.fin (hq.stop _ _ _ hJ (hE.below hI))⟩
    ·replace H1 := bif_f hb_19 H1
     refine skip1 hF hI hW (s_ [e_ 16 (.bool t_17), e_ 7 (.int .i64 s1.1), e_ 6 (.int .i64 (t_1.length : Int)), e_ 5 (.slice ((sv_3 0).1) t_1.length ((sv_3 0).2)), e_ 0 (.func (.yield l) #[] #[]), e_ 1 (.pointer (some B1))] [((((kd_Defect_rule).cells (rd t_1 s1.1) sv_12).map EV.v), 304)]) (by kernel_rfl) (fun a hI => ?_)
     refine wantK_then hI t_17 (by kernel_rfl) (by first | exact hb_19 | exact b_nf hb_19 | exact b_nt hb_19 | exact b_fn hb_19 | exact b_tn hb_19 | simp [hb_19]) (fun hW => ?_)
     refine skip1 hF hI hW (s_ [e_ 16 (.bool t_17), e_ 7 (.int .i64 s1.1), e_ 6 (.int .i64 (t_1.length : Int)), e_ 5 (.slice ((sv_3 0).1) t_1.length ((sv_3 0).2)), e_ 0 (.func (.yield l) #[] #[]), e_ 1 (.pointer (some B1))] [((((kd_Defect_rule).cells (rd t_1 s1.1) sv_12).map EV.v), 304)]) (by kernel_rfl) (fun a hI => ?_)
     refine pick1 hF hI rfl rfl (t_17) false rfl (by first | exact hb_19 | exact b_nf hb_19 | exact b_nt hb_19 | exact b_fn hb_19 | exact b_tn hb_19 | simp [hb_19]) rfl (s_ [e_ 22 (.bool false), e_ 16 (.bool t_17), e_ 7 (.int .i64 s1.1), e_ 6 (.int .i64 (t_1.length : Int)), e_ 5 (.slice ((sv_3 0).1) t_1.length ((sv_3 0).2)), e_ 0 (.func (.yield l) #[] #[]), e_ 1 (.pointer (some B1))] [((((kd_Defect_rule).cells (rd t_1 s1.1) sv_12).map EV.v), 304)]) (by kernel_rfl) (fun a hI => ?_)
     refine ck0_ hF 0 hI (s_ [e_ 22 (.bool false), e_ 7 (.int .i64 s1.1), e_ 6 (.int .i64 (t_1.length : Int)), e_ 5 (.slice ((sv_3 0).1) t_1.length ((sv_3 0).2)), e_ 0 (.func (.yield l) #[] #[]), e_ 1 (.pointer (some B1))] [((((kd_Defect_rule).cells (rd t_1 s1.1) sv_12).map EV.v), 304)]) rfl (by kernel_rfl) (fun ns_42 a w_43 hI => ?_)
     refine wpListIn_nil ?_
     refine then_normal ?_
     refine cond_ hI false rfl (fun h => by cases h) (fun _ => ?_)
     refine wpIn_skip ?_
     refine inBlock_normal ?_
     refine then_normal ?_
     refine rg0_ hF hI (s_ [e_ 7 (.int .i64 (IntKind.i64.wrap (s1.1 + 1))), e_ 6 (.int .i64 (t_1.length : Int)), e_ 5 (.slice ((sv_3 0).1) t_1.length ((sv_3 0).2)), e_ 0 (.func (.yield l) #[] #[]), e_ 1 (.pointer (some B1))] [((((kd_Defect_rule).cells (rd t_1 s1.1) sv_12).map EV.v), 304)]) (by kernel_rfl) (fun ns_44 a w_45 hI => ?_)
     refine then_normal ?_
     obtain ⟨hE', hmv, hmr⟩ := Ep.rebase hE hI
     replace hB1 := El.keep hB1 (hmv _)
     replace hR_4 := Arr.keep hR_4 (hmv _)
     replace hE_14 := El.keep hE_14 (hmv _)
     replace hE := hE'; replace hI := hI.rebase; clear hE' hmv hmr
     have hJ' := hq.new _ _ (Tc (Lo S w w_45 ns_44 []) w_45) _ _ hJ (hE.below hI) Tc.new
     obtain rfl := Option.some.inj H1
     exact ⟨_, rfl, ⟨_, El.keep hB1 (Tc.mv _ _), Arr.keep hR_4 (Tc.mv _ _), hJ', (hI.pick [7, 6, 5, 0, 1] 0 (s_ [e_ 7 (.int .i64 (IntKind.i64.wrap (s1.1 + 1))), e_ 6 (.int .i64 (t_1.length : Int)), e_ 5 (.slice ((sv_3 0).1) t_1.length ((sv_3 0).2)), e_ 0 (.func (.yield l) #[] #[]), e_ 1 (.pointer (some B1))] []) (by kernel_rfl)).reset rfl rfl rfl _⟩⟩
   ·replace H1 := bif_f hc_10 H1
    refine wpIn_exit ?_
    refine then_exit ?_
    refine then_exit ?_
    obtain ⟨hE', hmv, hmr⟩ := Ep.rebase hE hI
    replace hB1 := El.keep hB1 (hmv _)
    replace hR_4 := Arr.keep hR_4 (hmv _)
    replace hE := hE'; replace hI := hI.rebase; clear hE' hmv hmr
    have hJ' := hq.new _ _ (Tc (Lo S w w_9 ns_8 []) w_9) _ _ hJ (hE.below hI) Tc.new
    obtain rfl := Option.some.inj H1
    exact .inl ⟨_, rfl, rfl, ⟨_, El.keep hB1 (Tc.mv _ _), Arr.keep hR_4 (Tc.mv _ _), hJ', (hI.pick [7, 6, 5, 0, 1] 0 (s_ [e_ 7 (.int .i64 s1.1), e_ 6 (.int .i64 (t_1.length : Int)), e_ 5 (.slice ((sv_3 0).1) t_1.length ((sv_3 0).2)), e_ 0 (.func (.yield l) #[] #[]), e_ 1 (.pointer (some B1))] []) (by kernel_rfl)).reset rfl rfl rfl _⟩⟩
  ·clear hI hE hJ hJ'
   rintro s1 a w ho ⟨S, hB1, hR_4, hJ, hI⟩
   subst ho
   replace H0 : (some (.next s1.2) : Option (Stp σt R)) = _ := H0
   have hE := Ep.start w
   replace hB1 := El.lo hB1
   replace hR_4 := Arr.lo hR_4
   obtain rfl := Option.some.inj H0
   exact retN (retG hI rfl rfl ⟨⟨_, rfl⟩, SeqPost.nxt (fun _ => False) (hq.new _ _ _ _ _ hJ (hE.below hI) (fun _ h => h.elim))⟩)

noncomputable def G_defect_First.r1 (x0 : Config) (t_5 : Config) (s1 : Int) (y_23 : Int) : Option (Stp (Int) (Nat × (Int))) := some (.out (0, y_23))
noncomputable def G_defect_First (x0 : Config) : Option (Int) := ((G_defect_All x0).bind fun t_5 => ((G_defect_All_1 (G_defect_First.r1 x0 t_5) 0 t_5).bind fun z => z.on (fun s1 => some 0) (fun r1 => some r1.2)))
theorem G_defect_First.calls (x0 : Config) (sv0 : SV) (w : World) {S : Nat → Prop} (hx0 : (kd_Config).cont S w x0 sv0) (r : Int) (h : G_defect_First x0 = some r) :
    Calls Tryz.prog 141 #[.agg ((kd_Config).cells x0 sv0).toArray] w fun e w' => e = .returned (.int .i64 r) ∧ Below w.heap.size w w' := by
  replace hx0 := Kd.lo _ hx0
  unfold G_defect_First at h
  have H0 := h
  clear h
  refine enterM Tryz.func141 rfl [.agg ((kd_Config).cells x0 sv0).toArray] (n := 8) rfl (Nat.le_of_ble_eq_true rfl) (fun a hI => ?_)
  have hF : FOpen Fence.wide := .inl rfl
  have hE := Ep.start w
  refine seq_region (live := [2, 1]) (orc := []) hF hI ⟨[p_ 2 1 0, p_ 1 0 0], [], [], [((((kd_Config).cells x0 sv0).map EV.v), 29), ([.v (.int .i64 0)], 3)], some (w.heap.size, none), none⟩ [] (by kernel_rfl) trivial (fun ns_1 a w_2 hI _ => ?_)
  refine wpIn_seq ?_
  refine wpIn_seq ?_
  refine wpIn_region_lit ?_
  refine chunkL_ (live := [4, 2]) (orc := []) hF 1 hI ⟨[e_ 4 (.agg ((kd_Config).cells x0 sv0).toArray), p_ 2 1 0], [], [], [((((kd_Config).cells x0 sv0).map EV.v), 29), ([.v (.int .i64 0)], 3)], some (w.heap.size, none), none⟩ [] rfl (by kernel_rfl) trivial (fun ns_3 a w_4 hI => ?_)
  obtain ⟨hE', hmv, hmr⟩ := Ep.rebase hE hI
  replace hx0 := Kd.keep _ hx0 (hmv _)
  replace hE := hE'; replace hI := hI.rebase; clear hE' hmv hmr
  obtain ⟨t_5, hG_6, H0⟩ := bind_some H0
  refine callH_ hF hE hI (wanted_none rfl) rfl (args := [.agg ((kd_Config).cells x0 sv0).toArray]) rfl (enters Tryz.func185 (by kernel_rfl) rfl) (fun sv_7 => .func (.func 200) #[] #[.pointer (some (adr (sv_7 0).1))]) _ (G_defect_All.calls x0 sv0 w_4 (S := Lo S w w_4 ns_3 []) (contI (S := Lo S w w_4 ns_3 []) (w := w_4) (d := kd_Config) (x := x0) (sv := sv0) ⟨⟨hx0.1.1, hx0.1.2⟩, ⟨hx0.2.1.1, hx0.2.1.2⟩, ⟨hx0.2.2.1.1, hx0.2.2.1.2⟩, ⟨hx0.2.2.2.1.1, hx0.2.2.2.1.2⟩, trivial⟩) _ hG_6) (fun sv_7 => ⟨[e_ 5 (.func (.func 200) #[] #[.pointer (some (adr (sv_7 0).1))]), e_ 4 (.agg ((kd_Config).cells x0 sv0).toArray), p_ 2 1 0], [], [], [((((kd_Config).cells x0 sv0).map EV.v), 29), ([.v (.int .i64 0)], 3)], some (w.heap.size, none), none⟩) (fun sv_7 => by kernel_rfl) (fun sv_7 a w_9 hput hE' hI' hmv hmr hres hR => ?_)
  replace hx0 := Kd.keep _ hx0 (hmv _)
  replace hE := hE'; replace hI := hI'; clear hE' hI' hmv hmr
  have hR_8 := hR
  replace hR_8 := El.keep hR_8 (hres _)
  clear hres
  refine chunkL_ (live := [5, 2]) (orc := []) hF 0 hI ⟨[e_ 5 (.func (.func 200) #[] #[.pointer (some (adr (sv_7 0).1))]), p_ 2 1 0], [], [], [((((kd_Config).cells x0 sv0).map EV.v), 29), ([.v (.int .i64 0)], 3)], some (w.heap.size, none), none⟩ [] rfl (by kernel_rfl) trivial (fun ns_10 a w_11 hI => ?_)
  refine wpListIn_nil ?_
  refine then_normal ?_
  refine wpIn_block ?_
  obtain ⟨hE', hmv, hmr⟩ := Ep.rebase hE hI
  replace hx0 := Kd.keep _ hx0 (hmv _)
  replace hR_8 := El.keep hR_8 (hmv _)
  replace hE := hE'; replace hI := hI.rebase; clear hE' hmv hmr
  obtain ⟨ns_12, hE', hI', hmv⟩ := hE.cut hI [5, 2] 2 ⟨[e_ 5 (.func (.func 200) #[] #[.pointer (some (adr (sv_7 0).1))]), p_ 2 1 0], [], [], [((((kd_Config).cells x0 sv0).map EV.v), 29), ([.v (.int .i64 0)], 3)], some (w.heap.size, none), none⟩ (by kernel_rfl)
  have hmr := hmr_ ([] : List (List Nat)) w_11
  replace hx0 := Kd.keep _ hx0 (hmv _)
  replace hR_8 := El.keep hR_8 (hmv _)
  replace hE := hE'; replace hI := hI'; clear hE' hI' hmv hmr
  obtain ⟨z_16, hz_17, H0⟩ := bind_some H0
  refine rangeFunc_ (ps := [6]) hE hI rfl (Nat.le_refl _) (lb := [.pointer (some (adr (sv_7 0).1))]) rfl (enters Tryz.func200 (by kernel_rfl) rfl) (fun l_13 aR_14 w_15 haR_22 hE' hI' hmv hmr => ?_)
  replace hx0 := Kd.keep _ hx0 (hmv _)
  replace hR_8 := El.keep hR_8 (hmv _)
  replace hE := hE'; replace hI := hI'; clear hE' hI' hmv hmr
  refine ⟨Int, Int, Nat × (Int), G_defect_All_1.enc, G_defect_All_1.fct, G_defect_First.r1 x0 t_5, (fun (s1 : Int) (T : Nat → Prop) (W : World) => ((kd_Config).cont (Lo S w W ns_12 [[l_13]]) W x0 sv0) ∧ (El kd_Config (Lo S w W ns_12 [[l_13]]) W (adr (sv_7 0).1) t_5 (svO sv_7 1)) ∧ Ep [] w W ns_12 [[l_13]] ∧ Inv W ns_12 8 ⟨[e_ 5 (.func (.func 200) #[] #[.pointer (some (adr (sv_7 0).1))]), p_ 2 1 0], [], [], [((((kd_Config).cells x0 sv0).map EV.v), 29), ([.v (.int .i64 s1)], 3)], some (w.heap.size, none), none⟩ ns_12 aR_14 W ∧ Tk T W (Lo S w W ns_12 [[l_13]]) W), (fun (r : Nat × (Int)) (W : World) => ((kd_Config).cont (Lo S w W ns_12 [[l_13]]) W x0 sv0) ∧ (El kd_Config (Lo S w W ns_12 [[l_13]]) W (adr (sv_7 0).1) t_5 (svO sv_7 1)) ∧ Ep [] w W ns_12 [[l_13]] ∧ Inv W ns_12 8 ⟨[e_ 5 (.func (.func 200) #[] #[.pointer (some (adr (sv_7 0).1))]), p_ 2 1 0], [], [], [((((kd_Config).cells x0 sv0).map EV.v), 29), ([.v (.int .i64 r.2)], 3)], some (w.heap.size, none), none⟩ ns_12 aR_14 W), (fun r => .ret), 0, Tc (Lo S w w_15 ns_12 [[l_13]]) w_15, z_16, fun _ _ => rfl, ?_, ?_, ?_, ?_, ?_, ?_, ?_⟩
  ·rintro s1 T T' A B row ⟨hx0, hR_8, hE, hI, hT_18⟩ hg hrow hT'
   obtain ⟨hE', hI', hmv, hmr⟩ := hE.turn hI hg (by simp) hrow
   replace hx0 := Kd.keep _ hx0 (hmv _)
   replace hR_8 := El.keep hR_8 (hmv _)
   exact ⟨hx0, hR_8, hE', hI', hT_18.turn (hmv _) hE hT'⟩
  ·rintro r A B row ⟨hx0, hR_8, hE, hI⟩ hg hrow
   obtain ⟨hE', hI', hmv, hmr⟩ := hE.turn hI hg (by simp) hrow
   replace hx0 := Kd.keep _ hx0 (hmv _)
   replace hR_8 := El.keep hR_8 (hmv _)
   exact ⟨hx0, hR_8, hE', hI'⟩
  ·intro J Jx hq hJ
   exact G_defect_All_1.calls _ _ t_5 (adr (sv_7 0).1) (svO sv_7 1) _ w_15 (S := Tc (Lo S w w_15 ns_12 [[l_13]]) w_15) (El.keep hR_8 (Tc.mv _ _)) hq hJ _ hz_17
  ·exact ⟨hx0, hR_8, hE, hI, Tk.new _ _⟩
  ·rintro s1 y_23 sv_24 T_26 w_25 z hz ⟨hx0, hR_8, hE, hO, hT_18⟩ hf_27 oo_20 ho_21 hl_19
   unfold G_defect_First.r1 at hz
   have H1 := hz
   clear hz
   have hF : FOpen (Fence.wide.inRound l_13) := .inr ⟨l_13, rfl⟩
   have hI : Inv w_25 ns_12 8 ⟨[e_ 6 (.int .i64 y_23), e_ 5 (.func (.func 200) #[] #[.pointer (some (adr (sv_7 0).1))]), p_ 2 1 0], [], [], [((((kd_Config).cells x0 sv0).map EV.v), 29), ([.v (.int .i64 s1)], 3)], some (w.heap.size, some aR_14.defers), some (2, ns_12)⟩ ns_12 _ w_25 := hO.round rfl rfl rfl [6] (G_defect_All_1.enc y_23 sv_24) (by kernel_rfl) (by kernel_rfl) _ haR_22
   refine region_ (live := [3, 2]) (orc := []) hF hI ⟨[e_ 3 (.int .i64 y_23), p_ 2 1 0], [], [], [((((kd_Config).cells x0 sv0).map EV.v), 29), ([.v (.int .i64 s1)], 3)], some (w.heap.size, some aR_14.defers), some (2, ns_12)⟩ [] (by kernel_rfl) trivial (fun ns_28 a w_29 hI _ => ?_)
   refine then_normal ?_
   obtain ⟨hE', hmv, hmr⟩ := Ep.rebase hE hI
   replace hx0 := Kd.keep _ hx0 (hmv _)
   replace hR_8 := El.keep hR_8 (hmv _)
   replace hT_18 := Tk.keep hT_18 (hmv _)
   replace hl_19 := (hmr _ (by simp)).trans hl_19
   replace hE := hE'; replace hI := hI.rebase; clear hE' hmv hmr
   refine begin_ hE hI (by simp) hl_19 ho_21 (fun w_30 hE' hI' hmv hmr hl_19 => ?_)
   replace hx0 := Kd.keep _ hx0 (hmv _)
   replace hR_8 := El.keep hR_8 (hmv _)
   replace hT_18 := Tk.keep hT_18 (hmv _)
   replace hE := hE'; replace hI := hI'; clear hE' hI' hmv hmr
   refine wpIn_block ?_
   refine seq_region (live := [2]) (orc := []) hF hI ⟨[p_ 2 1 0], [], [], [((((kd_Config).cells x0 sv0).map EV.v), 29), ([.v (.int .i64 y_23)], 3)], some (w.heap.size, some aR_14.defers), some (2, ns_12)⟩ [] (by kernel_rfl) trivial (fun ns_31 a w_32 hI _ => ?_)
   refine wpIn_ret ?_
   refine inBlock_ret ?_
   obtain ⟨hE', hmv, hmr⟩ := Ep.rebase hE hI
   replace hx0 := Kd.keep _ hx0 (hmv _)
   replace hR_8 := El.keep hR_8 (hmv _)
   replace hT_18 := Tk.keep hT_18 (hmv _)
   replace hl_19 := (hmr _ (by simp)).trans hl_19
   replace hE := hE'; replace hI := hI.rebase; clear hE' hmv hmr
   obtain ⟨hE', hI', hmv⟩ := Ep.unround (bs := [((((kd_Config).cells x0 sv0).map EV.v), 29), ([.v (.int .i64 y_23)], 3)]) hO hE hI rfl rfl rfl rfl rfl rfl (by kernel_rfl) rfl
   have hmr := hmr_ ([[l_13]] : List (List Nat)) w_32
   replace hx0 := Kd.keep _ hx0 (hmv _)
   replace hR_8 := El.keep hR_8 (hmv _)
   replace hT_18 := Tk.keep hT_18 (hmv _)
   replace hl_19 := (hmr _ (by simp)).trans hl_19
   replace hE := hE'; replace hI := hI'; clear hE' hI' hmv hmr
   obtain rfl := Option.some.inj H1
   exact RndQ.rt hl_19 rfl rfl ⟨hx0, hR_8, hE, hI⟩
  ·rintro s1 T w_33 hzz ⟨hx0, hR_8, hE, hI, hT_18⟩
   subst hzz
   replace H0 : (some 0 : Option (Int)) = _ := H0
   obtain ⟨hE', hmv⟩ := hE.sub (mine' := []) (sub_one [] [] _)
   have hmr := hmr_ ([[l_13]] : List (List Nat)) w_33
   replace hx0 := Kd.keep _ hx0 (hmv _)
   replace hR_8 := El.keep hR_8 (hmv _)
   replace hE := hE'
   clear hE' hmv hmr
   refine inBlock_normal ?_
   refine then_normal ?_
   refine seq_region (live := [2]) (orc := []) hF hI ⟨[p_ 2 1 0], [], [], [((((kd_Config).cells x0 sv0).map EV.v), 29), ([.v (.int .i64 0)], 3)], some (w.heap.size, none), none⟩ [] (by kernel_rfl) trivial (fun ns_34 a w_35 hI _ => ?_)
   refine wpIn_ret ?_
   obtain rfl := Option.some.inj H0
   exact retM hI rfl rfl rfl (fun wz hz => ⟨rfl, (hE.below hI).trans hz.below⟩)
  ·rintro r1 WX hzz ⟨hx0, hR_8, hE, hI⟩
   subst hzz
   replace H0 : (some r1.2 : Option (Int)) = _ := H0
   dsimp only
   obtain ⟨hE', hmv⟩ := hE.sub (mine' := []) (sub_one [] [] _)
   have hmr := hmr_ ([[l_13]] : List (List Nat)) WX
   replace hx0 := Kd.keep _ hx0 (hmv _)
   replace hR_8 := El.keep hR_8 (hmv _)
   replace hE := hE'
   clear hE' hmv hmr
   refine wpIn_ret ?_
   refine inBlock_ret ?_
   refine then_ret ?_
   obtain rfl := Option.some.inj H0
   exact retM hI rfl rfl rfl (fun wz hz => ⟨rfl, (hE.below hI).trans hz.below⟩)

noncomputable def G_defect_Accepts (x0 : Config) : Option (Bool) := ((G_defect_First x0).bind fun t_3 => some (t_3 == 0))
theorem G_defect_Accepts.calls (x0 : Config) (sv0 : SV) (w : World) {S : Nat → Prop} (hx0 : (kd_Config).cont S w x0 sv0) (r : Bool) (h : G_defect_Accepts x0 = some r) :
    Calls Tryz.prog 113 #[.agg ((kd_Config).cells x0 sv0).toArray] w fun e w' => e = .returned (.bool r) ∧ Below w.heap.size w w' := by
  replace hx0 := Kd.lo _ hx0
  unfold G_defect_Accepts at h
  have H0 := h
  clear h
  refine enter Tryz.func113 rfl [.agg ((kd_Config).cells x0 sv0).toArray] (n := 6) rfl (Nat.le_of_ble_eq_true rfl) (fun a hI => ?_)
  have hF : FOpen Fence.wide := .inl rfl
  have hE := Ep.start w
  refine sr0_ hF hI (s_ [e_ 2 (.bool false), p_ 1 0 0] [((((kd_Config).cells x0 sv0).map EV.v), 29)]) (by kernel_rfl) (fun ns_1 a w_2 hI => ?_)
  obtain ⟨t_3, hG_4, H0⟩ := bind_some H0
  refine sr_ (orc := [[.int .i64 t_3]]) hF hI (s_ [e_ 2 (.bool (t_3 == 0))] [((((kd_Config).cells x0 sv0).map EV.v), 29)]) [.call true 141 [.agg ((kd_Config).cells x0 sv0).toArray] (.int .i64 t_3)] (by kernel_rfl) ⟨ob_call (enters Tryz.func141 (by kernel_rfl) rfl) (fun hg wz hk => G_defect_First.calls x0 sv0 wz (S := fun _ => True) (Kd.any _ (Kd.keep kd_Config (contI (S := Lo S w w [] []) (w := w) (d := kd_Config) (x := x0) (sv := sv0) ⟨⟨hx0.1.1, hx0.1.2⟩, ⟨hx0.2.1.1, hx0.2.1.2⟩, ⟨hx0.2.2.1.1, hx0.2.2.1.2⟩, ⟨hx0.2.2.2.1.1, hx0.2.2.2.1.2⟩, trivial⟩) (Lo.on hk))) _ hG_4), trivial⟩ (fun ns_5 a w_6 hI => ?_)
  refine wpIn_ret ?_
  obtain rfl := Option.some.inj H0
  exact ret1 hI rfl rfl ⟨rfl, hE.below hI⟩

noncomputable def G_sign_Name (a0 : Int) : Option (ByteArray) := (bif (decide (a0 < 1) || decide (a0 ≥ 10)) then some (⟨#[]⟩ : ByteArray) else (req (inb a0 10) (some (rdA_St257 gv0 a0))))
theorem G_sign_Name.calls (a0 : Int)  (w : World) {S : Nat → Prop} (hg0 : El kd_St257 S w ⟨0, 0, none⟩ gv0 (svL [])) (r : ByteArray) (h : G_sign_Name a0 = some r) :
    Calls Tryz.prog 114 #[.int .i64 a0] w fun e w' => e = .returned (.string r) ∧ Below w.heap.size w w' := by
  replace hg0 := El.lo hg0
  unfold G_sign_Name at h
  have H0 := h
  clear h
  refine enter Tryz.func114 rfl [.int .i64 a0] (n := 12) rfl (Nat.le_of_ble_eq_true rfl) (fun a hI => ?_)
  have hF : FOpen Fence.wide := .inl rfl
  have hE := Ep.start w
  refine sr0_ hF hI (s_ [e_ 2 (.string (⟨#[]⟩ : ByteArray)), e_ 0 (.int .i64 a0)] []) (by kernel_rfl) (fun ns_1 a w_2 hI => ?_)
  refine wpIn_seq ?_
  refine sr0_ hF hI (s_ [e_ 8 (.bool (decide (a0 < 1) || decide (a0 ≥ 10))), e_ 2 (.string (⟨#[]⟩ : ByteArray)), e_ 0 (.int .i64 a0)] []) (by kernel_rfl) (fun ns_3 a w_4 hI => ?_)
  refine cond_ hI ((decide (a0 < 1) || decide (a0 ≥ 10))) rfl (fun hc_5 => ?_) (fun hc_5 => ?_)
  ·replace H0 := bif_t hc_5 H0
   refine sr0_ hF hI (s_ [e_ 2 (.string (⟨#[]⟩ : ByteArray))] []) (by kernel_rfl) (fun ns_6 a w_7 hI => ?_)
   refine wpIn_ret ?_
   refine then_ret ?_
   obtain rfl := Option.some.inj H0
   exact ret1 hI rfl rfl ⟨rfl, hE.below hI⟩
  ·replace H0 := bif_f hc_5 H0
   refine wpIn_skip ?_
   refine then_normal ?_
   obtain ⟨hN_8, H0⟩ := req_some H0
   have hE_10 := elA_St257 hg0 hN_8
   refine sr_ (orc := [[.string (rdA_St257 gv0 a0)]]) hF hI (s_ [e_ 2 (.string (rdA_St257 gv0 a0))] []) [.need true ((0 : Int) ≤ a0 ∧ a0 < ((10 : Nat) : Int)), .cell true ((⟨0, 0, none⟩ : Addr).add ((a0 : Int).toNat * 1)) [.string (rdA_St257 gv0 a0)]] (by kernel_rfl) ⟨ob_inb (fun _ => hN_8), ob_el (fun _ => hE_10) 0 [.string (rdA_St257 gv0 a0)] rfl, trivial⟩ (fun ns_11 a w_12 hI => ?_)
   refine wpIn_ret ?_
   obtain rfl := Option.some.inj H0
   exact ret1 hI rfl rfl ⟨rfl, hE.below hI⟩

noncomputable def G_sign_Port (x0 : Config) (a1 : Int) : Option (Int × Int × Bool × Bool) := ((cal (!(decide (a1 < 0) || decide ((IntKind.i64.wrap (Int.tdiv a1 2)) ≥ (x0.Chans.length : Int)))) (G_defect_Accepts x0) default).bind fun t_3 => (bif ((decide (a1 < 0) || decide ((IntKind.i64.wrap (Int.tdiv a1 2)) ≥ (x0.Chans.length : Int))) || (!t_3)) then some (0, 0, false, false) else (req (inb (IntKind.i64.wrap (Int.tdiv a1 2)) x0.Chans.length) (bif ((Int.tmod a1 2) == 0) then some ((IntKind.i64.wrap (Int.tdiv a1 2)), (rd x0.Chans (IntKind.i64.wrap (Int.tdiv a1 2))).From, true, true) else some ((IntKind.i64.wrap (Int.tdiv a1 2)), (rd x0.Chans (IntKind.i64.wrap (Int.tdiv a1 2))).To, false, true)))))
theorem G_sign_Port.calls (x0 : Config) (a1 : Int) (sv0 : SV) (w : World) {S : Nat → Prop} (hx0 : (kd_Config).cont S w x0 sv0) (r : Int × Int × Bool × Bool) (h : G_sign_Port x0 a1 = some r) :
    Calls Tryz.prog 101 #[.agg ((kd_Config).cells x0 sv0).toArray, .int .i64 a1] w fun e w' => e = .returned (.tuple #[.int .i64 r.1, .int .i64 r.2.1, .bool r.2.2.1, .bool r.2.2.2]) ∧ Below w.heap.size w w' := by
  replace hx0 := Kd.lo _ hx0
  unfold G_sign_Port at h
  have H0 := h
  clear h
  refine enter Tryz.func101 rfl [.agg ((kd_Config).cells x0 sv0).toArray, .int .i64 a1] (n := 41) rfl (Nat.le_of_ble_eq_true rfl) (fun a hI => ?_)
  have hF : FOpen Fence.wide := .inl rfl
  have hE := Ep.start w
  refine sr0_ hF hI (s_ [e_ 7 (.bool false), e_ 6 (.bool false), e_ 5 (.int .i64 0), e_ 4 (.int .i64 0), p_ 2 0 0, e_ 1 (.int .i64 a1)] [((((kd_Config).cells x0 sv0).map EV.v), 29)]) (by kernel_rfl) (fun ns_1 a w_2 hI => ?_)
  refine wpIn_seq ?_
  obtain ⟨t_3, hG_4, H0⟩ := bind_some H0
  refine sr_ (orc := [[.bool t_3]]) hF hI (s_ [e_ 23 (.bool ((decide (a1 < 0) || decide ((IntKind.i64.wrap (Int.tdiv a1 2)) ≥ (x0.Chans.length : Int))) || (!t_3))), e_ 7 (.bool false), e_ 6 (.bool false), e_ 5 (.int .i64 0), e_ 4 (.int .i64 0), p_ 2 0 0, e_ 1 (.int .i64 a1)] [((((kd_Config).cells x0 sv0).map EV.v), 29)]) [.need (!(decide (a1 < 0))) (¬ (2 : Int) = 0), .call (!(decide (a1 < 0) || decide ((IntKind.i64.wrap (Int.tdiv a1 2)) ≥ (x0.Chans.length : Int)))) 113 [.agg ((kd_Config).cells x0 sv0).toArray] (.bool t_3)] (by kernel_rfl) ⟨(fun _ => by decide), ob_call (enters Tryz.func113 (by kernel_rfl) rfl) (fun hg wz hk => G_defect_Accepts.calls x0 sv0 wz (S := fun _ => True) (Kd.any _ (Kd.keep kd_Config (contI (S := Lo S w w [] []) (w := w) (d := kd_Config) (x := x0) (sv := sv0) ⟨⟨hx0.1.1, hx0.1.2⟩, ⟨hx0.2.1.1, hx0.2.1.2⟩, ⟨hx0.2.2.1.1, hx0.2.2.1.2⟩, ⟨hx0.2.2.2.1.1, hx0.2.2.2.1.2⟩, trivial⟩) (Lo.on hk))) _ (cal_some hG_4 hg)), trivial⟩ (fun ns_5 a w_6 hI => ?_)
  refine cond_ hI (((decide (a1 < 0) || decide ((IntKind.i64.wrap (Int.tdiv a1 2)) ≥ (x0.Chans.length : Int))) || (!t_3))) rfl (fun hc_7 => ?_) (fun hc_7 => ?_)
  ·replace H0 := bif_t hc_7 H0
   refine sr0_ hF hI (s_ [e_ 7 (.bool false), e_ 6 (.bool false), e_ 5 (.int .i64 0), e_ 4 (.int .i64 0)] [((((kd_Config).cells x0 sv0).map EV.v), 29)]) (by kernel_rfl) (fun ns_8 a w_9 hI => ?_)
   refine wpIn_ret ?_
   refine then_ret ?_
   obtain rfl := Option.some.inj H0
   exact retG hI rfl rfl ⟨rfl, hE.below hI⟩
  ·replace H0 := bif_f hc_7 H0
   refine wpIn_skip ?_
   refine then_normal ?_
   obtain ⟨hN_10, H0⟩ := req_some H0
   obtain ⟨sv_11, hE_13, hA_12⟩ := Arr.elB (d := kd_Chan) hx0.2.1.1 (IntKind.i64.wrap (Int.tdiv a1 2)) true (fun _ => hN_10)
   replace hE_13 := hE_13 rfl
   replace hA_12 := fun (_ : true = true) => hA_12 rfl
   refine sr_ (orc := [(kd_Chan).cells (rd x0.Chans (IntKind.i64.wrap (Int.tdiv a1 2))) sv_11]) hF hI (s_ [p_ 8 1 0, e_ 7 (.bool false), e_ 6 (.bool false), e_ 5 (.int .i64 0), e_ 4 (.int .i64 0), e_ 1 (.int .i64 a1)] [((((kd_Config).cells x0 sv0).map EV.v), 29), ((((kd_Chan).cells (rd x0.Chans (IntKind.i64.wrap (Int.tdiv a1 2))) sv_11).map EV.v), 86)]) [.need true (¬ (2 : Int) = 0), .need true ((0 : Int) ≤ (IntKind.i64.wrap (Int.tdiv a1 2)) ∧ (IntKind.i64.wrap (Int.tdiv a1 2)) < (x0.Chans.length : Int)), .need true ((sv0 1).1 = some (adr ((sv0 1).1))), .cell true ((adr ((sv0 1).1)).add (((IntKind.i64.wrap (Int.tdiv a1 2)) : Int).toNat * 7)) ((kd_Chan).cells (rd x0.Chans (IntKind.i64.wrap (Int.tdiv a1 2))) sv_11)] (by kernel_rfl) ⟨(fun _ => by decide), ob_inb (fun _ => hN_10), hA_12, ob_el (fun _ => hE_13) 0 ((kd_Chan).cells (rd x0.Chans (IntKind.i64.wrap (Int.tdiv a1 2))) sv_11) rfl, trivial⟩ (fun ns_14 a w_15 hI => ?_)
   refine wpIn_seq ?_
   refine sr_ (orc := []) hF hI (s_ [e_ 32 (.bool ((Int.tmod a1 2) == 0)), p_ 8 1 0, e_ 7 (.bool false), e_ 6 (.bool false), e_ 5 (.int .i64 0), e_ 4 (.int .i64 0), e_ 1 (.int .i64 a1)] [((((kd_Config).cells x0 sv0).map EV.v), 29), ((((kd_Chan).cells (rd x0.Chans (IntKind.i64.wrap (Int.tdiv a1 2))) sv_11).map EV.v), 86)]) [.need true (¬ (2 : Int) = 0)] (by kernel_rfl) ⟨(fun _ => by decide), trivial⟩ (fun ns_16 a w_17 hI => ?_)
   refine cond_ hI (((Int.tmod a1 2) == 0)) rfl (fun hc_18 => ?_) (fun hc_18 => ?_)
   ·replace H0 := bif_t hc_18 H0
    refine wpIn_seq ?_
    refine drawn_ (live := [7, 6, 5, 4]) (orc := []) hF hI (s_ [e_ 7 (.bool true), e_ 6 (.bool true), e_ 5 (.int .i64 ((rd x0.Chans (IntKind.i64.wrap (Int.tdiv a1 2))).From)), e_ 4 (.int .i64 (IntKind.i64.wrap (Int.tdiv a1 2)))] [((((kd_Config).cells x0 sv0).map EV.v), 29), ((((kd_Chan).cells (rd x0.Chans (IntKind.i64.wrap (Int.tdiv a1 2))) sv_11).map EV.v), 86)]) [.need true (¬ (2 : Int) = 0)] (by kernel_rfl) (by kernel_rfl) (by kernel_rfl) ⟨(fun _ => by decide), trivial⟩ (fun a w_19 hI => ?_)
    refine then_normal ?_
    refine wpIn_ret ?_
    refine then_ret ?_
    obtain rfl := Option.some.inj H0
    exact retG hI rfl rfl ⟨rfl, hE.below hI⟩
   ·replace H0 := bif_f hc_18 H0
    refine wpIn_skip ?_
    refine then_normal ?_
    refine wpIn_seq ?_
    refine drawn_ (live := [7, 6, 5, 4]) (orc := []) hF hI (s_ [e_ 7 (.bool true), e_ 6 (.bool false), e_ 5 (.int .i64 ((rd x0.Chans (IntKind.i64.wrap (Int.tdiv a1 2))).To)), e_ 4 (.int .i64 (IntKind.i64.wrap (Int.tdiv a1 2)))] [((((kd_Config).cells x0 sv0).map EV.v), 29), ((((kd_Chan).cells (rd x0.Chans (IntKind.i64.wrap (Int.tdiv a1 2))) sv_11).map EV.v), 86)]) [.need true (¬ (2 : Int) = 0)] (by kernel_rfl) (by kernel_rfl) (by kernel_rfl) ⟨(fun _ => by decide), trivial⟩ (fun a w_20 hI => ?_)
    refine then_normal ?_
    refine wpIn_ret ?_
    obtain rfl := Option.some.inj H0
    exact retG hI rfl rfl ⟨rfl, hE.below hI⟩

noncomputable def G_sign_rows_1 (a0 : Int) (a1 : Bool) : Option (Fn214) := some (Fn214.f143 a0 a1)
theorem G_sign_rows_1.calls (a0 : Int) (a1 : Bool)  (w : World) {S : Nat → Prop}  (r : Fn214) (h : G_sign_rows_1 a0 a1 = some r) :
    Calls Tryz.prog 142 #[.int .i64 a0, .bool a1] w fun e w' => ∃ sv : SV, e = .returned (fnv214 r sv) ∧ Below w.heap.size w w' ∧ (kdF214).cont (fun b => w.heap.size ≤ b ∨ S b) w' r sv := by
  unfold G_sign_rows_1 at h
  have H0 := h
  clear h
  refine enter Tryz.func142 rfl [.int .i64 a0, .bool a1] (n := 6) rfl (Nat.le_of_ble_eq_true rfl) (fun a hI => ?_)
  have hF : FOpen Fence.wide := .inl rfl
  have hE := Ep.start w
  refine sr0_ hF hI (s_ [e_ 4 (.nilFunc), p_ 3 1 0, p_ 2 0 0] [([.v (.int .i64 a0)], 3), ([.v (.bool a1)], 4)]) (by kernel_rfl) (fun ns_1 a w_2 hI => ?_)
  refine wpIn_seq ?_
  refine wpIn_region_lit ?_
  obtain ⟨hE', hmv, hmr⟩ := Ep.rebase hE hI
  replace hE := hE'; replace hI := hI.rebase; clear hE' hmv hmr
  have hct := contI (S := Lo S w w_2 ns_1 []) (w := w_2) (d := (Kd.int .i64)) (x := a0) (sv := (svL [])) trivial
  obtain ⟨B_3, ns_5, hE', hI', hmv, hB_4⟩ := freeze_ (d := (Kd.int .i64)) hE hI 0 a0 (svL []) 3 rfl
  replace hB_4 := hB_4 _ hct
  clear hct
  have hmr := hmr_ ([] : List (List Nat)) w_2
  replace hE := hE'; replace hI := hI'; clear hE' hI' hmv hmr
  obtain ⟨ns_6, hE', hI', hmv⟩ := hE.cut hI [4, 3, 2] 1 (s_ [e_ 4 (.nilFunc), p_ 3 0 0, e_ 2 (.pointer (some B_3))] [([.v (.bool a1)], 4)]) (by kernel_rfl)
  have hmr := hmr_ ([] : List (List Nat)) w_2
  replace hB_4 := El.keep hB_4 (hmv _)
  replace hE := hE'; replace hI := hI'; clear hE' hI' hmv hmr
  have hct := contI (S := Lo S w w_2 ns_6 []) (w := w_2) (d := Kd.bool) (x := a1) (sv := (svL [])) trivial
  obtain ⟨B_7, ns_9, hE', hI', hmv, hB_8⟩ := freeze_ (d := Kd.bool) hE hI 0 a1 (svL []) 4 rfl
  replace hB_8 := hB_8 _ hct
  clear hct
  have hmr := hmr_ ([] : List (List Nat)) w_2
  replace hB_4 := El.keep hB_4 (hmv _)
  replace hE := hE'; replace hI := hI'; clear hE' hI' hmv hmr
  obtain ⟨ns_10, hE', hI', hmv⟩ := hE.cut hI [4, 3, 2] 0 (s_ [e_ 4 (.nilFunc), e_ 3 (.pointer (some B_7)), e_ 2 (.pointer (some B_3))] []) (by kernel_rfl)
  have hmr := hmr_ ([] : List (List Nat)) w_2
  replace hB_4 := El.keep hB_4 (hmv _)
  replace hB_8 := El.keep hB_8 (hmv _)
  replace hE := hE'; replace hI := hI'; clear hE' hI' hmv hmr
  refine ck0_ hF 1 hI (s_ [e_ 5 (.func (.func 143) #[] #[.pointer (some B_3), .pointer (some B_7)]), e_ 4 (.nilFunc), e_ 3 (.pointer (some B_7)), e_ 2 (.pointer (some B_3))] []) rfl (by kernel_rfl) (fun ns_11 a w_12 hI => ?_)
  refine ck0_ hF 1 hI (s_ [e_ 4 (.func (.func 143) #[] #[.pointer (some B_3), .pointer (some B_7)])] []) rfl (by kernel_rfl) (fun ns_13 a w_14 hI => ?_)
  refine wpListIn_nil ?_
  refine then_normal ?_
  refine wpIn_ret ?_
  obtain rfl := Option.some.inj H0
  exact ret1 hI rfl rfl ⟨svL [(some B_3, 0), (some B_7, 0)], rfl, hE.below hI, ⟨⟨((El.keep hB_4 (hE.out hI))).cont, ((El.keep hB_4 (hE.out hI))).at_, ((El.keep hB_4 (hE.out hI))).cells⟩, ⟨((El.keep hB_8 (hE.out hI))).cont, ((El.keep hB_8 (hE.out hI))).at_, ((El.keep hB_8 (hE.out hI))).cells⟩⟩⟩

noncomputable def G_sign_rows  : Option ((List Sign_row)) := ((G_sign_rows_1 1 true).bind fun t_7 => ((G_sign_rows_1 1 false).bind fun t_14 => ((G_sign_rows_1 2 true).bind fun t_21 => ((G_sign_rows_1 2 false).bind fun t_28 => some ([(⟨(⟨#[49]⟩ : ByteArray), (Fn214.f145), 4⟩ : Sign_row), (⟨(⟨#[49]⟩ : ByteArray), (Fn214.f146), 1⟩ : Sign_row), (⟨(⟨#[49, 50]⟩ : ByteArray), (Fn214.f147), 5⟩ : Sign_row), (⟨(⟨#[51, 52, 53, 54, 55]⟩ : ByteArray), (Fn214.f148), 3⟩ : Sign_row), (⟨(⟨#[51, 52, 53, 54, 55]⟩ : ByteArray), (Fn214.f149), 5⟩ : Sign_row), (⟨(⟨#[51]⟩ : ByteArray), t_7, 5⟩ : Sign_row), (⟨(⟨#[52]⟩ : ByteArray), t_14, 5⟩ : Sign_row), (⟨(⟨#[53]⟩ : ByteArray), t_21, 5⟩ : Sign_row), (⟨(⟨#[54]⟩ : ByteArray), t_28, 5⟩ : Sign_row), (⟨(⟨#[51, 53]⟩ : ByteArray), (Fn214.f150), 3⟩ : Sign_row), (⟨(⟨#[51, 53]⟩ : ByteArray), (Fn214.f151), 4⟩ : Sign_row), (⟨(⟨#[57]⟩ : ByteArray), (Fn214.f152), 3⟩ : Sign_row), (⟨(⟨#[56, 57]⟩ : ByteArray), (Fn214.f153), 6⟩ : Sign_row)] : List Sign_row)))))
theorem G_sign_rows.calls   (w : World) {S : Nat → Prop}  (r : (List Sign_row)) (h : G_sign_rows = some r) :
    Calls Tryz.prog 115 #[] w fun e w' => ∃ sv : SV, e = .returned (.slice ((sv 0).1) r.length ((sv 0).2)) ∧ Below w.heap.size w w' ∧ (Arr kd_Sign_row (fun b => w.heap.size ≤ b ∨ S b) w' (sv 0).1 r ∧ r.length ≤ (sv 0).2) := by
  unfold G_sign_rows at h
  have H0 := h
  clear h
  refine enter Tryz.func115 rfl [] (n := 24) rfl (Nat.le_of_ble_eq_true rfl) (fun a hI => ?_)
  have hF : FOpen Fence.wide := .inl rfl
  have hE := Ep.start w
  refine sr0_ hF hI (s_ [e_ 0 (.slice none 0 0)] []) (by kernel_rfl) (fun ns_1 a w_2 hI => ?_)
  refine sr0_ hF hI (s_ [e_ 1 (.func (.func 142) #[] #[]), e_ 0 (.slice none 0 0)] []) (by kernel_rfl) (fun ns_3 a w_4 hI => ?_)
  refine wpIn_seq ?_
  refine wpIn_region_lit ?_
  refine ck0_ hF 6 hI (s_ [e_ 7 (.func (.func 142) #[] #[]), e_ 6 (.agg #[.string (⟨#[51, 52, 53, 54, 55]⟩ : ByteArray), .func (.func 149) #[] #[], .int .i64 5]), e_ 5 (.agg #[.string (⟨#[51, 52, 53, 54, 55]⟩ : ByteArray), .func (.func 148) #[] #[], .int .i64 3]), e_ 4 (.agg #[.string (⟨#[49, 50]⟩ : ByteArray), .func (.func 147) #[] #[], .int .i64 5]), e_ 3 (.agg #[.string (⟨#[49]⟩ : ByteArray), .func (.func 146) #[] #[], .int .i64 1]), e_ 2 (.agg #[.string (⟨#[49]⟩ : ByteArray), .func (.func 145) #[] #[], .int .i64 4]), e_ 1 (.func (.func 142) #[] #[]), e_ 0 (.slice none 0 0)] []) rfl (by kernel_rfl) (fun ns_5 a w_6 hI => ?_)
  obtain ⟨hE', hmv, hmr⟩ := Ep.rebase hE hI
  replace hE := hE'; replace hI := hI.rebase; clear hE' hmv hmr
  obtain ⟨t_7, hG_8, H0⟩ := bind_some H0
  refine callH_ hF hE hI (wanted_none rfl) rfl (args := [.int .i64 1, .bool true]) rfl (enters Tryz.func142 (by kernel_rfl) rfl) (fun sv_9 => fnv214 t_7 sv_9) _ (G_sign_rows_1.calls 1 true  w_6 (S := Lo S w w_6 ns_5 [])  _ hG_8) (fun sv_9 => (s_ [e_ 8 (fnv214 t_7 sv_9), e_ 7 (.func (.func 142) #[] #[]), e_ 6 (.agg #[.string (⟨#[51, 52, 53, 54, 55]⟩ : ByteArray), .func (.func 149) #[] #[], .int .i64 5]), e_ 5 (.agg #[.string (⟨#[51, 52, 53, 54, 55]⟩ : ByteArray), .func (.func 148) #[] #[], .int .i64 3]), e_ 4 (.agg #[.string (⟨#[49, 50]⟩ : ByteArray), .func (.func 147) #[] #[], .int .i64 5]), e_ 3 (.agg #[.string (⟨#[49]⟩ : ByteArray), .func (.func 146) #[] #[], .int .i64 1]), e_ 2 (.agg #[.string (⟨#[49]⟩ : ByteArray), .func (.func 145) #[] #[], .int .i64 4]), e_ 1 (.func (.func 142) #[] #[]), e_ 0 (.slice none 0 0)] [])) (fun sv_9 => by kernel_rfl) (fun sv_9 a w_11 hput hE' hI' hmv hmr hres hR => ?_)
  replace hE := hE'; replace hI := hI'; clear hE' hI' hmv hmr
  have hR_10 := hR
  replace hR_10 := Kd.keep _ hR_10 (hres _)
  clear hres
  refine ck0_ hF 2 hI (s_ [e_ 10 (.func (.func 142) #[] #[]), e_ 9 (.agg #[.string (⟨#[51]⟩ : ByteArray), fnv214 t_7 sv_9, .int .i64 5]), e_ 6 (.agg #[.string (⟨#[51, 52, 53, 54, 55]⟩ : ByteArray), .func (.func 149) #[] #[], .int .i64 5]), e_ 5 (.agg #[.string (⟨#[51, 52, 53, 54, 55]⟩ : ByteArray), .func (.func 148) #[] #[], .int .i64 3]), e_ 4 (.agg #[.string (⟨#[49, 50]⟩ : ByteArray), .func (.func 147) #[] #[], .int .i64 5]), e_ 3 (.agg #[.string (⟨#[49]⟩ : ByteArray), .func (.func 146) #[] #[], .int .i64 1]), e_ 2 (.agg #[.string (⟨#[49]⟩ : ByteArray), .func (.func 145) #[] #[], .int .i64 4]), e_ 1 (.func (.func 142) #[] #[]), e_ 0 (.slice none 0 0)] []) rfl (by kernel_rfl) (fun ns_12 a w_13 hI => ?_)
  obtain ⟨hE', hmv, hmr⟩ := Ep.rebase hE hI
  replace hR_10 := Kd.keep _ hR_10 (hmv _)
  replace hE := hE'; replace hI := hI.rebase; clear hE' hmv hmr
  obtain ⟨t_14, hG_15, H0⟩ := bind_some H0
  refine callH_ hF hE hI (wanted_none rfl) rfl (args := [.int .i64 1, .bool false]) rfl (enters Tryz.func142 (by kernel_rfl) rfl) (fun sv_16 => fnv214 t_14 sv_16) _ (G_sign_rows_1.calls 1 false  w_13 (S := Lo S w w_13 ns_12 [])  _ hG_15) (fun sv_16 => (s_ [e_ 11 (fnv214 t_14 sv_16), e_ 10 (.func (.func 142) #[] #[]), e_ 9 (.agg #[.string (⟨#[51]⟩ : ByteArray), fnv214 t_7 sv_9, .int .i64 5]), e_ 6 (.agg #[.string (⟨#[51, 52, 53, 54, 55]⟩ : ByteArray), .func (.func 149) #[] #[], .int .i64 5]), e_ 5 (.agg #[.string (⟨#[51, 52, 53, 54, 55]⟩ : ByteArray), .func (.func 148) #[] #[], .int .i64 3]), e_ 4 (.agg #[.string (⟨#[49, 50]⟩ : ByteArray), .func (.func 147) #[] #[], .int .i64 5]), e_ 3 (.agg #[.string (⟨#[49]⟩ : ByteArray), .func (.func 146) #[] #[], .int .i64 1]), e_ 2 (.agg #[.string (⟨#[49]⟩ : ByteArray), .func (.func 145) #[] #[], .int .i64 4]), e_ 1 (.func (.func 142) #[] #[]), e_ 0 (.slice none 0 0)] [])) (fun sv_16 => by kernel_rfl) (fun sv_16 a w_18 hput hE' hI' hmv hmr hres hR => ?_)
  replace hR_10 := Kd.keep _ hR_10 (hmv _)
  replace hE := hE'; replace hI := hI'; clear hE' hI' hmv hmr
  have hR_17 := hR
  replace hR_17 := Kd.keep _ hR_17 (hres _)
  clear hres
  refine ck0_ hF 2 hI (s_ [e_ 13 (.func (.func 142) #[] #[]), e_ 12 (.agg #[.string (⟨#[52]⟩ : ByteArray), fnv214 t_14 sv_16, .int .i64 5]), e_ 9 (.agg #[.string (⟨#[51]⟩ : ByteArray), fnv214 t_7 sv_9, .int .i64 5]), e_ 6 (.agg #[.string (⟨#[51, 52, 53, 54, 55]⟩ : ByteArray), .func (.func 149) #[] #[], .int .i64 5]), e_ 5 (.agg #[.string (⟨#[51, 52, 53, 54, 55]⟩ : ByteArray), .func (.func 148) #[] #[], .int .i64 3]), e_ 4 (.agg #[.string (⟨#[49, 50]⟩ : ByteArray), .func (.func 147) #[] #[], .int .i64 5]), e_ 3 (.agg #[.string (⟨#[49]⟩ : ByteArray), .func (.func 146) #[] #[], .int .i64 1]), e_ 2 (.agg #[.string (⟨#[49]⟩ : ByteArray), .func (.func 145) #[] #[], .int .i64 4]), e_ 1 (.func (.func 142) #[] #[]), e_ 0 (.slice none 0 0)] []) rfl (by kernel_rfl) (fun ns_19 a w_20 hI => ?_)
  obtain ⟨hE', hmv, hmr⟩ := Ep.rebase hE hI
  replace hR_10 := Kd.keep _ hR_10 (hmv _)
  replace hR_17 := Kd.keep _ hR_17 (hmv _)
  replace hE := hE'; replace hI := hI.rebase; clear hE' hmv hmr
  obtain ⟨t_21, hG_22, H0⟩ := bind_some H0
  refine callH_ hF hE hI (wanted_none rfl) rfl (args := [.int .i64 2, .bool true]) rfl (enters Tryz.func142 (by kernel_rfl) rfl) (fun sv_23 => fnv214 t_21 sv_23) _ (G_sign_rows_1.calls 2 true  w_20 (S := Lo S w w_20 ns_19 [])  _ hG_22) (fun sv_23 => (s_ [e_ 14 (fnv214 t_21 sv_23), e_ 13 (.func (.func 142) #[] #[]), e_ 12 (.agg #[.string (⟨#[52]⟩ : ByteArray), fnv214 t_14 sv_16, .int .i64 5]), e_ 9 (.agg #[.string (⟨#[51]⟩ : ByteArray), fnv214 t_7 sv_9, .int .i64 5]), e_ 6 (.agg #[.string (⟨#[51, 52, 53, 54, 55]⟩ : ByteArray), .func (.func 149) #[] #[], .int .i64 5]), e_ 5 (.agg #[.string (⟨#[51, 52, 53, 54, 55]⟩ : ByteArray), .func (.func 148) #[] #[], .int .i64 3]), e_ 4 (.agg #[.string (⟨#[49, 50]⟩ : ByteArray), .func (.func 147) #[] #[], .int .i64 5]), e_ 3 (.agg #[.string (⟨#[49]⟩ : ByteArray), .func (.func 146) #[] #[], .int .i64 1]), e_ 2 (.agg #[.string (⟨#[49]⟩ : ByteArray), .func (.func 145) #[] #[], .int .i64 4]), e_ 1 (.func (.func 142) #[] #[]), e_ 0 (.slice none 0 0)] [])) (fun sv_23 => by kernel_rfl) (fun sv_23 a w_25 hput hE' hI' hmv hmr hres hR => ?_)
  replace hR_10 := Kd.keep _ hR_10 (hmv _)
  replace hR_17 := Kd.keep _ hR_17 (hmv _)
  replace hE := hE'; replace hI := hI'; clear hE' hI' hmv hmr
  have hR_24 := hR
  replace hR_24 := Kd.keep _ hR_24 (hres _)
  clear hres
  refine ck0_ hF 2 hI (s_ [e_ 16 (.func (.func 142) #[] #[]), e_ 15 (.agg #[.string (⟨#[53]⟩ : ByteArray), fnv214 t_21 sv_23, .int .i64 5]), e_ 12 (.agg #[.string (⟨#[52]⟩ : ByteArray), fnv214 t_14 sv_16, .int .i64 5]), e_ 9 (.agg #[.string (⟨#[51]⟩ : ByteArray), fnv214 t_7 sv_9, .int .i64 5]), e_ 6 (.agg #[.string (⟨#[51, 52, 53, 54, 55]⟩ : ByteArray), .func (.func 149) #[] #[], .int .i64 5]), e_ 5 (.agg #[.string (⟨#[51, 52, 53, 54, 55]⟩ : ByteArray), .func (.func 148) #[] #[], .int .i64 3]), e_ 4 (.agg #[.string (⟨#[49, 50]⟩ : ByteArray), .func (.func 147) #[] #[], .int .i64 5]), e_ 3 (.agg #[.string (⟨#[49]⟩ : ByteArray), .func (.func 146) #[] #[], .int .i64 1]), e_ 2 (.agg #[.string (⟨#[49]⟩ : ByteArray), .func (.func 145) #[] #[], .int .i64 4]), e_ 0 (.slice none 0 0)] []) rfl (by kernel_rfl) (fun ns_26 a w_27 hI => ?_)
  obtain ⟨hE', hmv, hmr⟩ := Ep.rebase hE hI
  replace hR_10 := Kd.keep _ hR_10 (hmv _)
  replace hR_17 := Kd.keep _ hR_17 (hmv _)
  replace hR_24 := Kd.keep _ hR_24 (hmv _)
  replace hE := hE'; replace hI := hI.rebase; clear hE' hmv hmr
  obtain ⟨t_28, hG_29, H0⟩ := bind_some H0
  refine callH_ hF hE hI (wanted_none rfl) rfl (args := [.int .i64 2, .bool false]) rfl (enters Tryz.func142 (by kernel_rfl) rfl) (fun sv_30 => fnv214 t_28 sv_30) _ (G_sign_rows_1.calls 2 false  w_27 (S := Lo S w w_27 ns_26 [])  _ hG_29) (fun sv_30 => (s_ [e_ 17 (fnv214 t_28 sv_30), e_ 16 (.func (.func 142) #[] #[]), e_ 15 (.agg #[.string (⟨#[53]⟩ : ByteArray), fnv214 t_21 sv_23, .int .i64 5]), e_ 12 (.agg #[.string (⟨#[52]⟩ : ByteArray), fnv214 t_14 sv_16, .int .i64 5]), e_ 9 (.agg #[.string (⟨#[51]⟩ : ByteArray), fnv214 t_7 sv_9, .int .i64 5]), e_ 6 (.agg #[.string (⟨#[51, 52, 53, 54, 55]⟩ : ByteArray), .func (.func 149) #[] #[], .int .i64 5]), e_ 5 (.agg #[.string (⟨#[51, 52, 53, 54, 55]⟩ : ByteArray), .func (.func 148) #[] #[], .int .i64 3]), e_ 4 (.agg #[.string (⟨#[49, 50]⟩ : ByteArray), .func (.func 147) #[] #[], .int .i64 5]), e_ 3 (.agg #[.string (⟨#[49]⟩ : ByteArray), .func (.func 146) #[] #[], .int .i64 1]), e_ 2 (.agg #[.string (⟨#[49]⟩ : ByteArray), .func (.func 145) #[] #[], .int .i64 4]), e_ 0 (.slice none 0 0)] [])) (fun sv_30 => by kernel_rfl) (fun sv_30 a w_32 hput hE' hI' hmv hmr hres hR => ?_)
  replace hR_10 := Kd.keep _ hR_10 (hmv _)
  replace hR_17 := Kd.keep _ hR_17 (hmv _)
  replace hR_24 := Kd.keep _ hR_24 (hmv _)
  replace hE := hE'; replace hI := hI'; clear hE' hI' hmv hmr
  have hR_31 := hR
  replace hR_31 := Kd.keep _ hR_31 (hres _)
  clear hres
  refine ck0_ hF 5 hI (s_ [e_ 22 (.agg #[.string (⟨#[56, 57]⟩ : ByteArray), .func (.func 153) #[] #[], .int .i64 6]), e_ 21 (.agg #[.string (⟨#[57]⟩ : ByteArray), .func (.func 152) #[] #[], .int .i64 3]), e_ 20 (.agg #[.string (⟨#[51, 53]⟩ : ByteArray), .func (.func 151) #[] #[], .int .i64 4]), e_ 19 (.agg #[.string (⟨#[51, 53]⟩ : ByteArray), .func (.func 150) #[] #[], .int .i64 3]), e_ 18 (.agg #[.string (⟨#[54]⟩ : ByteArray), fnv214 t_28 sv_30, .int .i64 5]), e_ 15 (.agg #[.string (⟨#[53]⟩ : ByteArray), fnv214 t_21 sv_23, .int .i64 5]), e_ 12 (.agg #[.string (⟨#[52]⟩ : ByteArray), fnv214 t_14 sv_16, .int .i64 5]), e_ 9 (.agg #[.string (⟨#[51]⟩ : ByteArray), fnv214 t_7 sv_9, .int .i64 5]), e_ 6 (.agg #[.string (⟨#[51, 52, 53, 54, 55]⟩ : ByteArray), .func (.func 149) #[] #[], .int .i64 5]), e_ 5 (.agg #[.string (⟨#[51, 52, 53, 54, 55]⟩ : ByteArray), .func (.func 148) #[] #[], .int .i64 3]), e_ 4 (.agg #[.string (⟨#[49, 50]⟩ : ByteArray), .func (.func 147) #[] #[], .int .i64 5]), e_ 3 (.agg #[.string (⟨#[49]⟩ : ByteArray), .func (.func 146) #[] #[], .int .i64 1]), e_ 2 (.agg #[.string (⟨#[49]⟩ : ByteArray), .func (.func 145) #[] #[], .int .i64 4]), e_ 0 (.slice none 0 0)] []) rfl (by kernel_rfl) (fun ns_33 a w_34 hI => ?_)
  obtain ⟨hE', hmv, hmr⟩ := Ep.rebase hE hI
  replace hR_10 := Kd.keep _ hR_10 (hmv _)
  replace hR_17 := Kd.keep _ hR_17 (hmv _)
  replace hR_24 := Kd.keep _ hR_24 (hmv _)
  replace hR_31 := Kd.keep _ hR_31 (hmv _)
  replace hE := hE'; replace hI := hI.rebase; clear hE' hmv hmr
  refine buildSlice_ (S0 := S) (d := kd_Sign_row) (e := 216) hF hE hI (wanted_none rfl) rfl (by kernel_rfl) (cs := [.string (⟨#[49]⟩ : ByteArray), .func (.func 145) #[] #[], .int .i64 4, .string (⟨#[49]⟩ : ByteArray), .func (.func 146) #[] #[], .int .i64 1, .string (⟨#[49, 50]⟩ : ByteArray), .func (.func 147) #[] #[], .int .i64 5, .string (⟨#[51, 52, 53, 54, 55]⟩ : ByteArray), .func (.func 148) #[] #[], .int .i64 3, .string (⟨#[51, 52, 53, 54, 55]⟩ : ByteArray), .func (.func 149) #[] #[], .int .i64 5, .string (⟨#[51]⟩ : ByteArray), fnv214 t_7 sv_9, .int .i64 5, .string (⟨#[52]⟩ : ByteArray), fnv214 t_14 sv_16, .int .i64 5, .string (⟨#[53]⟩ : ByteArray), fnv214 t_21 sv_23, .int .i64 5, .string (⟨#[54]⟩ : ByteArray), fnv214 t_28 sv_30, .int .i64 5, .string (⟨#[51, 53]⟩ : ByteArray), .func (.func 150) #[] #[], .int .i64 3, .string (⟨#[51, 53]⟩ : ByteArray), .func (.func 151) #[] #[], .int .i64 4, .string (⟨#[57]⟩ : ByteArray), .func (.func 152) #[] #[], .int .i64 3, .string (⟨#[56, 57]⟩ : ByteArray), .func (.func 153) #[] #[], .int .i64 6]) (by kernel_rfl) [(⟨(⟨#[49]⟩ : ByteArray), (Fn214.f145), 4⟩ : Sign_row), (⟨(⟨#[49]⟩ : ByteArray), (Fn214.f146), 1⟩ : Sign_row), (⟨(⟨#[49, 50]⟩ : ByteArray), (Fn214.f147), 5⟩ : Sign_row), (⟨(⟨#[51, 52, 53, 54, 55]⟩ : ByteArray), (Fn214.f148), 3⟩ : Sign_row), (⟨(⟨#[51, 52, 53, 54, 55]⟩ : ByteArray), (Fn214.f149), 5⟩ : Sign_row), (⟨(⟨#[51]⟩ : ByteArray), t_7, 5⟩ : Sign_row), (⟨(⟨#[52]⟩ : ByteArray), t_14, 5⟩ : Sign_row), (⟨(⟨#[53]⟩ : ByteArray), t_21, 5⟩ : Sign_row), (⟨(⟨#[54]⟩ : ByteArray), t_28, 5⟩ : Sign_row), (⟨(⟨#[51, 53]⟩ : ByteArray), (Fn214.f150), 3⟩ : Sign_row), (⟨(⟨#[51, 53]⟩ : ByteArray), (Fn214.f151), 4⟩ : Sign_row), (⟨(⟨#[57]⟩ : ByteArray), (Fn214.f152), 3⟩ : Sign_row), (⟨(⟨#[56, 57]⟩ : ByteArray), (Fn214.f153), 6⟩ : Sign_row)] [(svL [(none, 0), (none, 0)]), (svL [(none, 0), (none, 0)]), (svL [(none, 0), (none, 0)]), (svL [(none, 0), (none, 0)]), (svL [(none, 0), (none, 0)]), sv_9, sv_16, sv_23, sv_30, (svL [(none, 0), (none, 0)]), (svL [(none, 0), (none, 0)]), (svL [(none, 0), (none, 0)]), (svL [(none, 0), (none, 0)])] rfl rfl (by simp [maxLen]) (fun i x hi => by cases i with | zero => (simp only [List.getElem?_cons_zero, Option.some.injEq] at hi; subst hi; exact ⟨⟨trivial, trivial⟩, rfl⟩) | succ i => (simp only [List.getElem?_cons_succ] at hi; cases i with | zero => (simp only [List.getElem?_cons_zero, Option.some.injEq] at hi; subst hi; exact ⟨⟨trivial, trivial⟩, rfl⟩) | succ i => (simp only [List.getElem?_cons_succ] at hi; cases i with | zero => (simp only [List.getElem?_cons_zero, Option.some.injEq] at hi; subst hi; exact ⟨⟨trivial, trivial⟩, rfl⟩) | succ i => (simp only [List.getElem?_cons_succ] at hi; cases i with | zero => (simp only [List.getElem?_cons_zero, Option.some.injEq] at hi; subst hi; exact ⟨⟨trivial, trivial⟩, rfl⟩) | succ i => (simp only [List.getElem?_cons_succ] at hi; cases i with | zero => (simp only [List.getElem?_cons_zero, Option.some.injEq] at hi; subst hi; exact ⟨⟨trivial, trivial⟩, rfl⟩) | succ i => (simp only [List.getElem?_cons_succ] at hi; cases i with | zero => (simp only [List.getElem?_cons_zero, Option.some.injEq] at hi; subst hi; exact ⟨⟨hR_10, trivial⟩, rfl⟩) | succ i => (simp only [List.getElem?_cons_succ] at hi; cases i with | zero => (simp only [List.getElem?_cons_zero, Option.some.injEq] at hi; subst hi; exact ⟨⟨hR_17, trivial⟩, rfl⟩) | succ i => (simp only [List.getElem?_cons_succ] at hi; cases i with | zero => (simp only [List.getElem?_cons_zero, Option.some.injEq] at hi; subst hi; exact ⟨⟨hR_24, trivial⟩, rfl⟩) | succ i => (simp only [List.getElem?_cons_succ] at hi; cases i with | zero => (simp only [List.getElem?_cons_zero, Option.some.injEq] at hi; subst hi; exact ⟨⟨hR_31, trivial⟩, rfl⟩) | succ i => (simp only [List.getElem?_cons_succ] at hi; cases i with | zero => (simp only [List.getElem?_cons_zero, Option.some.injEq] at hi; subst hi; exact ⟨⟨trivial, trivial⟩, rfl⟩) | succ i => (simp only [List.getElem?_cons_succ] at hi; cases i with | zero => (simp only [List.getElem?_cons_zero, Option.some.injEq] at hi; subst hi; exact ⟨⟨trivial, trivial⟩, rfl⟩) | succ i => (simp only [List.getElem?_cons_succ] at hi; cases i with | zero => (simp only [List.getElem?_cons_zero, Option.some.injEq] at hi; subst hi; exact ⟨⟨trivial, trivial⟩, rfl⟩) | succ i => (simp only [List.getElem?_cons_succ] at hi; cases i with | zero => (simp only [List.getElem?_cons_zero, Option.some.injEq] at hi; subst hi; exact ⟨⟨trivial, trivial⟩, rfl⟩) | succ i => (simp only [List.getElem?_cons_succ] at hi; simp at hi)))))))))))))) (fun A_35 => (s_ [e_ 23 (.slice A_35 ([(⟨(⟨#[49]⟩ : ByteArray), (Fn214.f145), 4⟩ : Sign_row), (⟨(⟨#[49]⟩ : ByteArray), (Fn214.f146), 1⟩ : Sign_row), (⟨(⟨#[49, 50]⟩ : ByteArray), (Fn214.f147), 5⟩ : Sign_row), (⟨(⟨#[51, 52, 53, 54, 55]⟩ : ByteArray), (Fn214.f148), 3⟩ : Sign_row), (⟨(⟨#[51, 52, 53, 54, 55]⟩ : ByteArray), (Fn214.f149), 5⟩ : Sign_row), (⟨(⟨#[51]⟩ : ByteArray), t_7, 5⟩ : Sign_row), (⟨(⟨#[52]⟩ : ByteArray), t_14, 5⟩ : Sign_row), (⟨(⟨#[53]⟩ : ByteArray), t_21, 5⟩ : Sign_row), (⟨(⟨#[54]⟩ : ByteArray), t_28, 5⟩ : Sign_row), (⟨(⟨#[51, 53]⟩ : ByteArray), (Fn214.f150), 3⟩ : Sign_row), (⟨(⟨#[51, 53]⟩ : ByteArray), (Fn214.f151), 4⟩ : Sign_row), (⟨(⟨#[57]⟩ : ByteArray), (Fn214.f152), 3⟩ : Sign_row), (⟨(⟨#[56, 57]⟩ : ByteArray), (Fn214.f153), 6⟩ : Sign_row)] : List Sign_row).length (([(⟨(⟨#[49]⟩ : ByteArray), (Fn214.f145), 4⟩ : Sign_row), (⟨(⟨#[49]⟩ : ByteArray), (Fn214.f146), 1⟩ : Sign_row), (⟨(⟨#[49, 50]⟩ : ByteArray), (Fn214.f147), 5⟩ : Sign_row), (⟨(⟨#[51, 52, 53, 54, 55]⟩ : ByteArray), (Fn214.f148), 3⟩ : Sign_row), (⟨(⟨#[51, 52, 53, 54, 55]⟩ : ByteArray), (Fn214.f149), 5⟩ : Sign_row), (⟨(⟨#[51]⟩ : ByteArray), t_7, 5⟩ : Sign_row), (⟨(⟨#[52]⟩ : ByteArray), t_14, 5⟩ : Sign_row), (⟨(⟨#[53]⟩ : ByteArray), t_21, 5⟩ : Sign_row), (⟨(⟨#[54]⟩ : ByteArray), t_28, 5⟩ : Sign_row), (⟨(⟨#[51, 53]⟩ : ByteArray), (Fn214.f150), 3⟩ : Sign_row), (⟨(⟨#[51, 53]⟩ : ByteArray), (Fn214.f151), 4⟩ : Sign_row), (⟨(⟨#[57]⟩ : ByteArray), (Fn214.f152), 3⟩ : Sign_row), (⟨(⟨#[56, 57]⟩ : ByteArray), (Fn214.f153), 6⟩ : Sign_row)] : List Sign_row).length)), e_ 22 (.agg #[.string (⟨#[56, 57]⟩ : ByteArray), .func (.func 153) #[] #[], .int .i64 6]), e_ 21 (.agg #[.string (⟨#[57]⟩ : ByteArray), .func (.func 152) #[] #[], .int .i64 3]), e_ 20 (.agg #[.string (⟨#[51, 53]⟩ : ByteArray), .func (.func 151) #[] #[], .int .i64 4]), e_ 19 (.agg #[.string (⟨#[51, 53]⟩ : ByteArray), .func (.func 150) #[] #[], .int .i64 3]), e_ 18 (.agg #[.string (⟨#[54]⟩ : ByteArray), fnv214 t_28 sv_30, .int .i64 5]), e_ 15 (.agg #[.string (⟨#[53]⟩ : ByteArray), fnv214 t_21 sv_23, .int .i64 5]), e_ 12 (.agg #[.string (⟨#[52]⟩ : ByteArray), fnv214 t_14 sv_16, .int .i64 5]), e_ 9 (.agg #[.string (⟨#[51]⟩ : ByteArray), fnv214 t_7 sv_9, .int .i64 5]), e_ 6 (.agg #[.string (⟨#[51, 52, 53, 54, 55]⟩ : ByteArray), .func (.func 149) #[] #[], .int .i64 5]), e_ 5 (.agg #[.string (⟨#[51, 52, 53, 54, 55]⟩ : ByteArray), .func (.func 148) #[] #[], .int .i64 3]), e_ 4 (.agg #[.string (⟨#[49, 50]⟩ : ByteArray), .func (.func 147) #[] #[], .int .i64 5]), e_ 3 (.agg #[.string (⟨#[49]⟩ : ByteArray), .func (.func 146) #[] #[], .int .i64 1]), e_ 2 (.agg #[.string (⟨#[49]⟩ : ByteArray), .func (.func 145) #[] #[], .int .i64 4]), e_ 0 (.slice none 0 0)] [])) (fun A_35 => by kernel_rfl) (fun A_35 a w_37 hput hE' hI' hmv hmr hq_36 => ?_)
  replace hR_10 := Kd.keep _ hR_10 (hmv _)
  replace hR_17 := Kd.keep _ hR_17 (hmv _)
  replace hR_24 := Kd.keep _ hR_24 (hmv _)
  replace hR_31 := Kd.keep _ hR_31 (hmv _)
  replace hE := hE'; replace hI := hI'; clear hE' hI' hmv hmr
  refine ck0_ hF 1 hI (s_ [e_ 0 (.slice A_35 ([(⟨(⟨#[49]⟩ : ByteArray), (Fn214.f145), 4⟩ : Sign_row), (⟨(⟨#[49]⟩ : ByteArray), (Fn214.f146), 1⟩ : Sign_row), (⟨(⟨#[49, 50]⟩ : ByteArray), (Fn214.f147), 5⟩ : Sign_row), (⟨(⟨#[51, 52, 53, 54, 55]⟩ : ByteArray), (Fn214.f148), 3⟩ : Sign_row), (⟨(⟨#[51, 52, 53, 54, 55]⟩ : ByteArray), (Fn214.f149), 5⟩ : Sign_row), (⟨(⟨#[51]⟩ : ByteArray), t_7, 5⟩ : Sign_row), (⟨(⟨#[52]⟩ : ByteArray), t_14, 5⟩ : Sign_row), (⟨(⟨#[53]⟩ : ByteArray), t_21, 5⟩ : Sign_row), (⟨(⟨#[54]⟩ : ByteArray), t_28, 5⟩ : Sign_row), (⟨(⟨#[51, 53]⟩ : ByteArray), (Fn214.f150), 3⟩ : Sign_row), (⟨(⟨#[51, 53]⟩ : ByteArray), (Fn214.f151), 4⟩ : Sign_row), (⟨(⟨#[57]⟩ : ByteArray), (Fn214.f152), 3⟩ : Sign_row), (⟨(⟨#[56, 57]⟩ : ByteArray), (Fn214.f153), 6⟩ : Sign_row)] : List Sign_row).length (([(⟨(⟨#[49]⟩ : ByteArray), (Fn214.f145), 4⟩ : Sign_row), (⟨(⟨#[49]⟩ : ByteArray), (Fn214.f146), 1⟩ : Sign_row), (⟨(⟨#[49, 50]⟩ : ByteArray), (Fn214.f147), 5⟩ : Sign_row), (⟨(⟨#[51, 52, 53, 54, 55]⟩ : ByteArray), (Fn214.f148), 3⟩ : Sign_row), (⟨(⟨#[51, 52, 53, 54, 55]⟩ : ByteArray), (Fn214.f149), 5⟩ : Sign_row), (⟨(⟨#[51]⟩ : ByteArray), t_7, 5⟩ : Sign_row), (⟨(⟨#[52]⟩ : ByteArray), t_14, 5⟩ : Sign_row), (⟨(⟨#[53]⟩ : ByteArray), t_21, 5⟩ : Sign_row), (⟨(⟨#[54]⟩ : ByteArray), t_28, 5⟩ : Sign_row), (⟨(⟨#[51, 53]⟩ : ByteArray), (Fn214.f150), 3⟩ : Sign_row), (⟨(⟨#[51, 53]⟩ : ByteArray), (Fn214.f151), 4⟩ : Sign_row), (⟨(⟨#[57]⟩ : ByteArray), (Fn214.f152), 3⟩ : Sign_row), (⟨(⟨#[56, 57]⟩ : ByteArray), (Fn214.f153), 6⟩ : Sign_row)] : List Sign_row).length))] []) rfl (by kernel_rfl) (fun ns_38 a w_39 hI => ?_)
  refine wpListIn_nil ?_
  refine then_normal ?_
  obtain ⟨hE', hmv, hmr⟩ := Ep.rebase hE hI
  replace hR_10 := Kd.keep _ hR_10 (hmv _)
  replace hR_17 := Kd.keep _ hR_17 (hmv _)
  replace hR_24 := Kd.keep _ hR_24 (hmv _)
  replace hR_31 := Kd.keep _ hR_31 (hmv _)
  replace hq_36 := Row.keep hq_36 (hmv _) (fun b hb => hmr b (by simp [hb]))
  replace hE := hE'; replace hI := hI.rebase; clear hE' hmv hmr
  obtain ⟨hE', hmv, hq_36, hcap_40⟩ := Row.still (l1 := []) (l2 := []) hq_36 (Nat.le_refl _) hE
  have hmr := hmr_ ([rb A_35] : List (List Nat)) w_39
  replace hR_10 := Kd.keep _ hR_10 (hmv _)
  replace hR_17 := Kd.keep _ hR_17 (hmv _)
  replace hR_24 := Kd.keep _ hR_24 (hmv _)
  replace hR_31 := Kd.keep _ hR_31 (hmv _)
  replace hE := hE'
  clear hE' hmv hmr
  refine wpIn_ret ?_
  obtain rfl := Option.some.inj H0
  exact ret1 hI rfl rfl ⟨svL [(A_35, ([(⟨(⟨#[49]⟩ : ByteArray), (Fn214.f145), 4⟩ : Sign_row), (⟨(⟨#[49]⟩ : ByteArray), (Fn214.f146), 1⟩ : Sign_row), (⟨(⟨#[49, 50]⟩ : ByteArray), (Fn214.f147), 5⟩ : Sign_row), (⟨(⟨#[51, 52, 53, 54, 55]⟩ : ByteArray), (Fn214.f148), 3⟩ : Sign_row), (⟨(⟨#[51, 52, 53, 54, 55]⟩ : ByteArray), (Fn214.f149), 5⟩ : Sign_row), (⟨(⟨#[51]⟩ : ByteArray), t_7, 5⟩ : Sign_row), (⟨(⟨#[52]⟩ : ByteArray), t_14, 5⟩ : Sign_row), (⟨(⟨#[53]⟩ : ByteArray), t_21, 5⟩ : Sign_row), (⟨(⟨#[54]⟩ : ByteArray), t_28, 5⟩ : Sign_row), (⟨(⟨#[51, 53]⟩ : ByteArray), (Fn214.f150), 3⟩ : Sign_row), (⟨(⟨#[51, 53]⟩ : ByteArray), (Fn214.f151), 4⟩ : Sign_row), (⟨(⟨#[57]⟩ : ByteArray), (Fn214.f152), 3⟩ : Sign_row), (⟨(⟨#[56, 57]⟩ : ByteArray), (Fn214.f153), 6⟩ : Sign_row)] : List Sign_row).length)], rfl, hE.below hI, ⟨Arr.keep hq_36 (hE.out hI), hcap_40⟩⟩

noncomputable def G_slices_Index_byte_byte.b1 (l0 : (List Int)) (a1 : Int) (s1 : Int × Int) : Option (Stp (Int × Int) (Ex (Int × Int) (Int))) := (bif decide (s1.1 < (l0.length : Int)) then (req (inb s1.1 l0.length) (bif (a1 == (rd l0 s1.1)) then some (.out (.ret s1.1)) else some (.next ((IntKind.i64.wrap (s1.1 + 1)), s1.2)))) else some (.out (.brk (s1.1, s1.2))))
noncomputable def G_slices_Index_byte_byte (l0 : (List Int)) (a1 : Int) : Option (Int) := ((loopω (G_slices_Index_byte_byte.b1 l0 a1) (0, 0)).bind fun o => o.on (fun s1 => some (-1)) (fun r => some r))
theorem G_slices_Index_byte_byte.calls (l0 : (List Int)) (a1 : Int) (A0 : Option Addr) (c0 : Nat) (w : World) {S : Nat → Prop} (hr0 : Arr (Kd.int .u8) S w A0 l0) (hc0 : l0.length ≤ c0) (r : Int) (h : G_slices_Index_byte_byte l0 a1 = some r) :
    Calls Tryz.prog 155 #[.slice A0 l0.length c0, .int .u8 a1] w fun e w' => e = .returned (.int .i64 r) ∧ Below w.heap.size w w' := by
  replace hr0 := Arr.lo hr0
  unfold G_slices_Index_byte_byte at h
  have H0 := h
  clear h
  refine enter Tryz.func155 rfl [.slice A0 l0.length c0, .int .u8 a1] (n := 19) rfl (Nat.le_of_ble_eq_true rfl) (fun a hI => ?_)
  have hF : FOpen Fence.wide := .inl rfl
  have hE := Ep.start w
  refine sr0_ hF hI (s_ [e_ 4 (.int .i64 0), e_ 0 (.slice A0 l0.length c0), e_ 1 (.int .u8 a1)] []) (by kernel_rfl) (fun ns_1 a w_2 hI => ?_)
  refine wpIn_seq ?_
  refine sr0_ hF hI (s_ [e_ 8 (.int .i64 0), e_ 7 (.int .i64 (l0.length : Int)), e_ 4 (.int .i64 0), e_ 0 (.slice A0 l0.length c0), e_ 1 (.int .u8 a1)] []) (by kernel_rfl) (fun ns_3 a w_4 hI => ?_)
  obtain ⟨o_23, hL_24, H0⟩ := bind_some H0
  refine block_loop (fun (s1 : Int × Int) a w_29 => ∃ ns, St w [] 19 (s_ [e_ 8 (.int .i64 s1.1), e_ 7 (.int .i64 (l0.length : Int)), e_ 4 (.int .i64 s1.2), e_ 0 (.slice A0 l0.length c0), e_ 1 (.int .u8 a1)] []) ns a w_29) (0, 0) hL_24 ⟨_, hI.pick [8, 7, 4, 0, 1] 0 (s_ [e_ 8 (.int .i64 0), e_ 7 (.int .i64 (l0.length : Int)), e_ 4 (.int .i64 0), e_ 0 (.slice A0 l0.length c0), e_ 1 (.int .u8 a1)] []) (by kernel_rfl)⟩ ?_ ?_
  ·clear hI
   rintro s1 a w_5 ⟨ns_6, hI⟩ r1 H1
   unfold G_slices_Index_byte_byte.b1 at H1
   refine sr0_ hF hI (s_ [e_ 9 (.bool (decide (s1.1 < (l0.length : Int)))), e_ 8 (.int .i64 s1.1), e_ 7 (.int .i64 (l0.length : Int)), e_ 4 (.int .i64 s1.2), e_ 0 (.slice A0 l0.length c0), e_ 1 (.int .u8 a1)] []) (by kernel_rfl) (fun ns_7 a w_8 hI => ?_)
   refine wpIn_seq ?_
   refine cond_ hI (decide (s1.1 < (l0.length : Int))) rfl (fun hc_9 => ?_) (fun hc_9 => ?_)
   ·replace H1 := bif_t hc_9 H1
    refine wpIn_skip ?_
    refine then_normal ?_
    refine wpIn_seq ?_
    refine wpIn_block ?_
    refine sr0_ hF hI (s_ [e_ 5 (.int .i64 s1.1), e_ 8 (.int .i64 s1.1), e_ 7 (.int .i64 (l0.length : Int)), e_ 4 (.int .i64 s1.2), e_ 0 (.slice A0 l0.length c0), e_ 1 (.int .u8 a1)] []) (by kernel_rfl) (fun ns_10 a w_11 hI => ?_)
    obtain ⟨hN_12, H1⟩ := req_some H1
    obtain ⟨sv_13, hE_15, hA_14⟩ := Arr.elB (d := (Kd.int .u8)) hr0 s1.1 true (fun _ => hN_12)
    replace hE_15 := hE_15 rfl
    replace hA_14 := fun (_ : true = true) => hA_14 rfl
    refine sr_ (orc := [[.int .u8 (rd l0 s1.1)]]) hF hI (s_ [e_ 16 (.bool (a1 == (rd l0 s1.1))), e_ 5 (.int .i64 s1.1), e_ 8 (.int .i64 s1.1), e_ 7 (.int .i64 (l0.length : Int)), e_ 4 (.int .i64 s1.2), e_ 0 (.slice A0 l0.length c0), e_ 1 (.int .u8 a1)] []) [.need true ((0 : Int) ≤ s1.1 ∧ s1.1 < (l0.length : Int)), .need true (A0 = some (adr A0)), .cell true ((adr A0).add ((s1.1 : Int).toNat * 1)) [.int .u8 (rd l0 s1.1)]] (by kernel_rfl) ⟨ob_inb (fun _ => hN_12), hA_14, ob_el (fun _ => hE_15) 0 [.int .u8 (rd l0 s1.1)] rfl, trivial⟩ (fun ns_16 a w_17 hI => ?_)
    refine cond_ hI ((a1 == (rd l0 s1.1))) rfl (fun hc_18 => ?_) (fun hc_18 => ?_)
    ·replace H1 := bif_t hc_18 H1
     refine sr0_ hF hI (s_ [e_ 4 (.int .i64 s1.1)] []) (by kernel_rfl) (fun ns_19 a w_20 hI => ?_)
     refine wpIn_ret ?_
     refine inBlock_ret ?_
     refine then_ret ?_
     refine then_ret ?_
     obtain rfl := Option.some.inj H1
     refine .inr ⟨_, rfl, fun ho => ?_⟩
     subst ho
     refine inBlock_ret ?_
     refine then_ret ?_
     obtain rfl := Option.some.inj H0
     exact ret1 hI rfl rfl ⟨rfl, hE.below hI⟩
    ·replace H1 := bif_f hc_18 H1
     refine wpIn_skip ?_
     refine inBlock_normal ?_
     refine then_normal ?_
     refine rg0_ hF hI (s_ [e_ 8 (.int .i64 (IntKind.i64.wrap (s1.1 + 1))), e_ 7 (.int .i64 (l0.length : Int)), e_ 4 (.int .i64 s1.2), e_ 0 (.slice A0 l0.length c0), e_ 1 (.int .u8 a1)] []) (by kernel_rfl) (fun ns_21 a w_22 hI => ?_)
     refine then_normal ?_
     obtain rfl := Option.some.inj H1
     exact ⟨_, rfl, ⟨_, hI.pick [8, 7, 4, 0, 1] 0 (s_ [e_ 8 (.int .i64 (IntKind.i64.wrap (s1.1 + 1))), e_ 7 (.int .i64 (l0.length : Int)), e_ 4 (.int .i64 s1.2), e_ 0 (.slice A0 l0.length c0), e_ 1 (.int .u8 a1)] []) (by kernel_rfl)⟩⟩
   ·replace H1 := bif_f hc_9 H1
    refine wpIn_exit ?_
    refine then_exit ?_
    refine then_exit ?_
    obtain rfl := Option.some.inj H1
    exact .inl ⟨_, rfl, rfl, ⟨_, hI.pick [8, 7, 4, 0, 1] 0 (s_ [e_ 8 (.int .i64 s1.1), e_ 7 (.int .i64 (l0.length : Int)), e_ 4 (.int .i64 s1.2), e_ 0 (.slice A0 l0.length c0), e_ 1 (.int .u8 a1)] []) (by kernel_rfl)⟩⟩
  ·clear hI
   rintro s1 a w_25 ho ⟨ns_26, hI⟩
   subst ho
   replace H0 : (some (-1) : Option (Int)) = _ := H0
   refine then_normal ?_
   refine sr0_ hF hI (s_ [e_ 4 (.int .i64 (-1))] []) (by kernel_rfl) (fun ns_27 a w_28 hI => ?_)
   refine wpIn_ret ?_
   obtain rfl := Option.some.inj H0
   exact ret1 hI rfl rfl ⟨rfl, hE.below hI⟩

noncomputable def G_slices_Contains_byte_byte (l0 : (List Int)) (a1 : Int) : Option (Bool) := ((G_slices_Index_byte_byte l0 a1).bind fun t_3 => some (decide (t_3 ≥ 0)))
theorem G_slices_Contains_byte_byte.calls (l0 : (List Int)) (a1 : Int) (A0 : Option Addr) (c0 : Nat) (w : World) {S : Nat → Prop} (hr0 : Arr (Kd.int .u8) S w A0 l0) (hc0 : l0.length ≤ c0) (r : Bool) (h : G_slices_Contains_byte_byte l0 a1 = some r) :
    Calls Tryz.prog 116 #[.slice A0 l0.length c0, .int .u8 a1] w fun e w' => e = .returned (.bool r) ∧ Below w.heap.size w w' := by
  replace hr0 := Arr.lo hr0
  unfold G_slices_Contains_byte_byte at h
  have H0 := h
  clear h
  refine enter Tryz.func116 rfl [.slice A0 l0.length c0, .int .u8 a1] (n := 9) rfl (Nat.le_of_ble_eq_true rfl) (fun a hI => ?_)
  have hF : FOpen Fence.wide := .inl rfl
  have hE := Ep.start w
  refine sr0_ hF hI (s_ [e_ 4 (.bool false), e_ 0 (.slice A0 l0.length c0), e_ 1 (.int .u8 a1)] []) (by kernel_rfl) (fun ns_1 a w_2 hI => ?_)
  obtain ⟨t_3, hG_4, H0⟩ := bind_some H0
  refine sr_ (orc := [[.int .i64 t_3]]) hF hI (s_ [e_ 4 (.bool (decide (t_3 ≥ 0)))] []) [.call true 155 [.slice A0 l0.length c0, .int .u8 a1] (.int .i64 t_3)] (by kernel_rfl) ⟨ob_call (enters Tryz.func155 (by kernel_rfl) rfl) (fun hg wz hk => G_slices_Index_byte_byte.calls l0 a1 A0 c0 wz (S := fun _ => True) (Arr.any (Arr.keep hr0 (Lo.on hk))) hc0 _ hG_4), trivial⟩ (fun ns_5 a w_6 hI => ?_)
  refine wpIn_ret ?_
  obtain rfl := Option.some.inj H0
  exact ret1 hI rfl rfl ⟨rfl, hE.below hI⟩

noncomputable def G_sign_asked_is (x0 : Sign_asked) (a1 : Int) (a2 : Bool) : Option (Bool) := some ((x0.channel.Kind == a1) && (x0.source == a2))
theorem G_sign_asked_is.calls (x0 : Sign_asked) (a1 : Int) (a2 : Bool) (sv0 : SV) (w : World) {S : Nat → Prop} (hx0 : (kd_Sign_asked).cont S w x0 sv0) (r : Bool) (h : G_sign_asked_is x0 a1 a2 = some r) :
    Calls Tryz.prog 144 #[.agg ((kd_Sign_asked).cells x0 sv0).toArray, .int .i64 a1, .bool a2] w fun e w' => e = .returned (.bool r) ∧ Below w.heap.size w w' := by
  replace hx0 := Kd.lo _ hx0
  unfold G_sign_asked_is at h
  have H0 := h
  clear h
  refine enter Tryz.func144 rfl [.agg ((kd_Sign_asked).cells x0 sv0).toArray, .int .i64 a1, .bool a2] (n := 18) rfl (Nat.le_of_ble_eq_true rfl) (fun a hI => ?_)
  have hF : FOpen Fence.wide := .inl rfl
  have hE := Ep.start w
  refine sr0_ hF hI (s_ [e_ 6 (.bool false), p_ 3 0 0, e_ 1 (.int .i64 a1), e_ 2 (.bool a2)] [((((kd_Sign_asked).cells x0 sv0).map EV.v), 211)]) (by kernel_rfl) (fun ns_1 a w_2 hI => ?_)
  refine sr0_ hF hI (s_ [e_ 6 (.bool ((x0.channel.Kind == a1) && (x0.source == a2)))] [((((kd_Sign_asked).cells x0 sv0).map EV.v), 211)]) (by kernel_rfl) (fun ns_3 a w_4 hI => ?_)
  refine wpIn_ret ?_
  obtain rfl := Option.some.inj H0
  exact ret1 hI rfl rfl ⟨rfl, hE.below hI⟩

noncomputable def G_sign_rows_1_1 (x0 : Sign_asked) (y1 : Int) (y2 : Bool) : Option (Bool) := ((G_sign_asked_is x0 y1 y2).bind fun t_3 => some (!t_3))
theorem G_sign_rows_1_1.calls (x0 : Sign_asked) (y1 : Int) (y2 : Bool) (sv0 : SV) (B1 : Addr) (sv1 : SV) (B2 : Addr) (sv2 : SV) (w : World) {S : Nat → Prop} (hx0 : (kd_Sign_asked).cont S w x0 sv0) (hB1 : El (Kd.int .i64) S w B1 y1 sv1) (hB2 : El Kd.bool S w B2 y2 sv2) (r : Bool) (h : G_sign_rows_1_1 x0 y1 y2 = some r) :
    Calls Tryz.prog 143 #[.agg ((kd_Sign_asked).cells x0 sv0).toArray, .pointer (some B1), .pointer (some B2)] w fun e w' => e = .returned (.bool r) ∧ Below w.heap.size w w' := by
  replace hx0 := Kd.lo _ hx0
  replace hB1 := El.lo hB1
  replace hB2 := El.lo hB2
  unfold G_sign_rows_1_1 at h
  have H0 := h
  clear h
  refine enter Tryz.func143 rfl [.agg ((kd_Sign_asked).cells x0 sv0).toArray, .pointer (some B1), .pointer (some B2)] (n := 10) rfl (Nat.le_of_ble_eq_true rfl) (fun a hI => ?_)
  have hF : FOpen Fence.wide := .inl rfl
  have hE := Ep.start w
  refine sr0_ hF hI (s_ [e_ 4 (.bool false), p_ 3 0 0, e_ 1 (.pointer (some B1)), e_ 2 (.pointer (some B2))] [((((kd_Sign_asked).cells x0 sv0).map EV.v), 211)]) (by kernel_rfl) (fun ns_1 a w_2 hI => ?_)
  obtain ⟨t_3, hG_4, H0⟩ := bind_some H0
  refine sr_ (orc := [[.int .i64 y1], [.bool y2], [.bool t_3]]) hF hI (s_ [e_ 4 (.bool (!t_3))] [((((kd_Sign_asked).cells x0 sv0).map EV.v), 211)]) [.cell true B1 [.int .i64 y1], .cell true B2 [.bool y2], .call true 144 [.agg ((kd_Sign_asked).cells x0 sv0).toArray, .int .i64 y1, .bool y2] (.bool t_3)] (by kernel_rfl) ⟨ob_el (fun _ => hB1) 0 [.int .i64 y1] rfl, ob_el (fun _ => hB2) 0 [.bool y2] rfl, ob_call (enters Tryz.func144 (by kernel_rfl) rfl) (fun hg wz hk => G_sign_asked_is.calls x0 y1 y2 sv0 wz (S := fun _ => True) (Kd.any _ (Kd.keep kd_Sign_asked (contI (S := Lo S w w [] []) (w := w) (d := kd_Sign_asked) (x := x0) (sv := sv0) ⟨⟨hx0.1.1, hx0.1.2⟩, ⟨hx0.2.1.1, hx0.2.1.2⟩, ⟨hx0.2.2.1.1, hx0.2.2.1.2⟩, ⟨hx0.2.2.2.1.1, hx0.2.2.2.1.2⟩, ⟨hx0.2.2.2.2.1.1, hx0.2.2.2.2.1.2⟩, ⟨hx0.2.2.2.2.2.1.1, hx0.2.2.2.2.2.1.2⟩, ⟨hx0.2.2.2.2.2.2.1.1, hx0.2.2.2.2.2.2.1.2⟩, trivial⟩) (Lo.on hk))) _ hG_4), trivial⟩ (fun ns_5 a w_6 hI => ?_)
  refine wpIn_ret ?_
  obtain rfl := Option.some.inj H0
  exact ret1 hI rfl rfl ⟨rfl, hE.below hI⟩

noncomputable def G_sign_rows_2 (x0 : Sign_asked) : Option (Bool) := some (!x0.own)
theorem G_sign_rows_2.calls (x0 : Sign_asked) (sv0 : SV) (w : World) {S : Nat → Prop} (hx0 : (kd_Sign_asked).cont S w x0 sv0) (r : Bool) (h : G_sign_rows_2 x0 = some r) :
    Calls Tryz.prog 145 #[.agg ((kd_Sign_asked).cells x0 sv0).toArray] w fun e w' => e = .returned (.bool r) ∧ Below w.heap.size w w' := by
  replace hx0 := Kd.lo _ hx0
  unfold G_sign_rows_2 at h
  have H0 := h
  clear h
  refine enter Tryz.func145 rfl [.agg ((kd_Sign_asked).cells x0 sv0).toArray] (n := 6) rfl (Nat.le_of_ble_eq_true rfl) (fun a hI => ?_)
  have hF : FOpen Fence.wide := .inl rfl
  have hE := Ep.start w
  refine sr0_ hF hI (s_ [e_ 2 (.bool false), p_ 1 0 0] [((((kd_Sign_asked).cells x0 sv0).map EV.v), 211)]) (by kernel_rfl) (fun ns_1 a w_2 hI => ?_)
  refine sr0_ hF hI (s_ [e_ 2 (.bool (!x0.own))] [((((kd_Sign_asked).cells x0 sv0).map EV.v), 211)]) (by kernel_rfl) (fun ns_3 a w_4 hI => ?_)
  refine wpIn_ret ?_
  obtain rfl := Option.some.inj H0
  exact ret1 hI rfl rfl ⟨rfl, hE.below hI⟩

noncomputable def G_slices_Index_int_int.b1 (l0 : (List Int)) (a1 : Int) (s1 : Int × Int) : Option (Stp (Int × Int) (Ex (Int × Int) (Int))) := (bif decide (s1.1 < (l0.length : Int)) then (req (inb s1.1 l0.length) (bif (a1 == (rd l0 s1.1)) then some (.out (.ret s1.1)) else some (.next ((IntKind.i64.wrap (s1.1 + 1)), s1.2)))) else some (.out (.brk (s1.1, s1.2))))
noncomputable def G_slices_Index_int_int (l0 : (List Int)) (a1 : Int) : Option (Int) := ((loopω (G_slices_Index_int_int.b1 l0 a1) (0, 0)).bind fun o => o.on (fun s1 => some (-1)) (fun r => some r))
theorem G_slices_Index_int_int.calls (l0 : (List Int)) (a1 : Int) (A0 : Option Addr) (c0 : Nat) (w : World) {S : Nat → Prop} (hr0 : Arr (Kd.int .i64) S w A0 l0) (hc0 : l0.length ≤ c0) (r : Int) (h : G_slices_Index_int_int l0 a1 = some r) :
    Calls Tryz.prog 122 #[.slice A0 l0.length c0, .int .i64 a1] w fun e w' => e = .returned (.int .i64 r) ∧ Below w.heap.size w w' := by
  replace hr0 := Arr.lo hr0
  unfold G_slices_Index_int_int at h
  have H0 := h
  clear h
  refine enter Tryz.func122 rfl [.slice A0 l0.length c0, .int .i64 a1] (n := 19) rfl (Nat.le_of_ble_eq_true rfl) (fun a hI => ?_)
  have hF : FOpen Fence.wide := .inl rfl
  have hE := Ep.start w
  refine sr0_ hF hI (s_ [e_ 4 (.int .i64 0), e_ 0 (.slice A0 l0.length c0), e_ 1 (.int .i64 a1)] []) (by kernel_rfl) (fun ns_1 a w_2 hI => ?_)
  refine wpIn_seq ?_
  refine sr0_ hF hI (s_ [e_ 8 (.int .i64 0), e_ 7 (.int .i64 (l0.length : Int)), e_ 4 (.int .i64 0), e_ 0 (.slice A0 l0.length c0), e_ 1 (.int .i64 a1)] []) (by kernel_rfl) (fun ns_3 a w_4 hI => ?_)
  obtain ⟨o_23, hL_24, H0⟩ := bind_some H0
  refine block_loop (fun (s1 : Int × Int) a w_29 => ∃ ns, St w [] 19 (s_ [e_ 8 (.int .i64 s1.1), e_ 7 (.int .i64 (l0.length : Int)), e_ 4 (.int .i64 s1.2), e_ 0 (.slice A0 l0.length c0), e_ 1 (.int .i64 a1)] []) ns a w_29) (0, 0) hL_24 ⟨_, hI.pick [8, 7, 4, 0, 1] 0 (s_ [e_ 8 (.int .i64 0), e_ 7 (.int .i64 (l0.length : Int)), e_ 4 (.int .i64 0), e_ 0 (.slice A0 l0.length c0), e_ 1 (.int .i64 a1)] []) (by kernel_rfl)⟩ ?_ ?_
  ·clear hI
   rintro s1 a w_5 ⟨ns_6, hI⟩ r1 H1
   unfold G_slices_Index_int_int.b1 at H1
   refine sr0_ hF hI (s_ [e_ 9 (.bool (decide (s1.1 < (l0.length : Int)))), e_ 8 (.int .i64 s1.1), e_ 7 (.int .i64 (l0.length : Int)), e_ 4 (.int .i64 s1.2), e_ 0 (.slice A0 l0.length c0), e_ 1 (.int .i64 a1)] []) (by kernel_rfl) (fun ns_7 a w_8 hI => ?_)
   refine wpIn_seq ?_
   refine cond_ hI (decide (s1.1 < (l0.length : Int))) rfl (fun hc_9 => ?_) (fun hc_9 => ?_)
   ·replace H1 := bif_t hc_9 H1
    refine wpIn_skip ?_
    refine then_normal ?_
    refine wpIn_seq ?_
    refine wpIn_block ?_
    refine sr0_ hF hI (s_ [e_ 5 (.int .i64 s1.1), e_ 8 (.int .i64 s1.1), e_ 7 (.int .i64 (l0.length : Int)), e_ 4 (.int .i64 s1.2), e_ 0 (.slice A0 l0.length c0), e_ 1 (.int .i64 a1)] []) (by kernel_rfl) (fun ns_10 a w_11 hI => ?_)
    obtain ⟨hN_12, H1⟩ := req_some H1
    obtain ⟨sv_13, hE_15, hA_14⟩ := Arr.elB (d := (Kd.int .i64)) hr0 s1.1 true (fun _ => hN_12)
    replace hE_15 := hE_15 rfl
    replace hA_14 := fun (_ : true = true) => hA_14 rfl
    refine sr_ (orc := [[.int .i64 (rd l0 s1.1)]]) hF hI (s_ [e_ 16 (.bool (a1 == (rd l0 s1.1))), e_ 5 (.int .i64 s1.1), e_ 8 (.int .i64 s1.1), e_ 7 (.int .i64 (l0.length : Int)), e_ 4 (.int .i64 s1.2), e_ 0 (.slice A0 l0.length c0), e_ 1 (.int .i64 a1)] []) [.need true ((0 : Int) ≤ s1.1 ∧ s1.1 < (l0.length : Int)), .need true (A0 = some (adr A0)), .cell true ((adr A0).add ((s1.1 : Int).toNat * 1)) [.int .i64 (rd l0 s1.1)]] (by kernel_rfl) ⟨ob_inb (fun _ => hN_12), hA_14, ob_el (fun _ => hE_15) 0 [.int .i64 (rd l0 s1.1)] rfl, trivial⟩ (fun ns_16 a w_17 hI => ?_)
    refine cond_ hI ((a1 == (rd l0 s1.1))) rfl (fun hc_18 => ?_) (fun hc_18 => ?_)
    ·replace H1 := bif_t hc_18 H1
     refine sr0_ hF hI (s_ [e_ 4 (.int .i64 s1.1)] []) (by kernel_rfl) (fun ns_19 a w_20 hI => ?_)
     refine wpIn_ret ?_
     refine inBlock_ret ?_
     refine then_ret ?_
     refine then_ret ?_
     obtain rfl := Option.some.inj H1
     refine .inr ⟨_, rfl, fun ho => ?_⟩
     subst ho
     refine inBlock_ret ?_
     refine then_ret ?_
     obtain rfl := Option.some.inj H0
     exact ret1 hI rfl rfl ⟨rfl, hE.below hI⟩
    ·replace H1 := bif_f hc_18 H1
     refine wpIn_skip ?_
     refine inBlock_normal ?_
     refine then_normal ?_
     refine rg0_ hF hI (s_ [e_ 8 (.int .i64 (IntKind.i64.wrap (s1.1 + 1))), e_ 7 (.int .i64 (l0.length : Int)), e_ 4 (.int .i64 s1.2), e_ 0 (.slice A0 l0.length c0), e_ 1 (.int .i64 a1)] []) (by kernel_rfl) (fun ns_21 a w_22 hI => ?_)
     refine then_normal ?_
     obtain rfl := Option.some.inj H1
     exact ⟨_, rfl, ⟨_, hI.pick [8, 7, 4, 0, 1] 0 (s_ [e_ 8 (.int .i64 (IntKind.i64.wrap (s1.1 + 1))), e_ 7 (.int .i64 (l0.length : Int)), e_ 4 (.int .i64 s1.2), e_ 0 (.slice A0 l0.length c0), e_ 1 (.int .i64 a1)] []) (by kernel_rfl)⟩⟩
   ·replace H1 := bif_f hc_9 H1
    refine wpIn_exit ?_
    refine then_exit ?_
    refine then_exit ?_
    obtain rfl := Option.some.inj H1
    exact .inl ⟨_, rfl, rfl, ⟨_, hI.pick [8, 7, 4, 0, 1] 0 (s_ [e_ 8 (.int .i64 s1.1), e_ 7 (.int .i64 (l0.length : Int)), e_ 4 (.int .i64 s1.2), e_ 0 (.slice A0 l0.length c0), e_ 1 (.int .i64 a1)] []) (by kernel_rfl)⟩⟩
  ·clear hI
   rintro s1 a w_25 ho ⟨ns_26, hI⟩
   subst ho
   replace H0 : (some (-1) : Option (Int)) = _ := H0
   refine then_normal ?_
   refine sr0_ hF hI (s_ [e_ 4 (.int .i64 (-1))] []) (by kernel_rfl) (fun ns_27 a w_28 hI => ?_)
   refine wpIn_ret ?_
   obtain rfl := Option.some.inj H0
   exact ret1 hI rfl rfl ⟨rfl, hE.below hI⟩

noncomputable def G_slices_Contains_int_int (l0 : (List Int)) (a1 : Int) : Option (Bool) := ((G_slices_Index_int_int l0 a1).bind fun t_3 => some (decide (t_3 ≥ 0)))
theorem G_slices_Contains_int_int.calls (l0 : (List Int)) (a1 : Int) (A0 : Option Addr) (c0 : Nat) (w : World) {S : Nat → Prop} (hr0 : Arr (Kd.int .i64) S w A0 l0) (hc0 : l0.length ≤ c0) (r : Bool) (h : G_slices_Contains_int_int l0 a1 = some r) :
    Calls Tryz.prog 69 #[.slice A0 l0.length c0, .int .i64 a1] w fun e w' => e = .returned (.bool r) ∧ Below w.heap.size w w' := by
  replace hr0 := Arr.lo hr0
  unfold G_slices_Contains_int_int at h
  have H0 := h
  clear h
  refine enter Tryz.func69 rfl [.slice A0 l0.length c0, .int .i64 a1] (n := 9) rfl (Nat.le_of_ble_eq_true rfl) (fun a hI => ?_)
  have hF : FOpen Fence.wide := .inl rfl
  have hE := Ep.start w
  refine sr0_ hF hI (s_ [e_ 4 (.bool false), e_ 0 (.slice A0 l0.length c0), e_ 1 (.int .i64 a1)] []) (by kernel_rfl) (fun ns_1 a w_2 hI => ?_)
  obtain ⟨t_3, hG_4, H0⟩ := bind_some H0
  refine sr_ (orc := [[.int .i64 t_3]]) hF hI (s_ [e_ 4 (.bool (decide (t_3 ≥ 0)))] []) [.call true 122 [.slice A0 l0.length c0, .int .i64 a1] (.int .i64 t_3)] (by kernel_rfl) ⟨ob_call (enters Tryz.func122 (by kernel_rfl) rfl) (fun hg wz hk => G_slices_Index_int_int.calls l0 a1 A0 c0 wz (S := fun _ => True) (Arr.any (Arr.keep hr0 (Lo.on hk))) hc0 _ hG_4), trivial⟩ (fun ns_5 a w_6 hI => ?_)
  refine wpIn_ret ?_
  obtain rfl := Option.some.inj H0
  exact ret1 hI rfl rfl ⟨rfl, hE.below hI⟩

noncomputable def G_sign_asked_made (x0 : Sign_asked) : Option (Bool) := ((G_slices_Contains_int_int x0.s.Made x0.Request.Port).bind fun t_3 => some t_3)
theorem G_sign_asked_made.calls (x0 : Sign_asked) (sv0 : SV) (w : World) {S : Nat → Prop} (hx0 : (kd_Sign_asked).cont S w x0 sv0) (r : Bool) (h : G_sign_asked_made x0 = some r) :
    Calls Tryz.prog 146 #[.agg ((kd_Sign_asked).cells x0 sv0).toArray] w fun e w' => e = .returned (.bool r) ∧ Below w.heap.size w w' := by
  replace hx0 := Kd.lo _ hx0
  unfold G_sign_asked_made at h
  have H0 := h
  clear h
  refine enter Tryz.func146 rfl [.agg ((kd_Sign_asked).cells x0 sv0).toArray] (n := 10) rfl (Nat.le_of_ble_eq_true rfl) (fun a hI => ?_)
  have hF : FOpen Fence.wide := .inl rfl
  have hE := Ep.start w
  refine sr0_ hF hI (s_ [e_ 2 (.bool false), p_ 1 0 0] [((((kd_Sign_asked).cells x0 sv0).map EV.v), 211)]) (by kernel_rfl) (fun ns_1 a w_2 hI => ?_)
  obtain ⟨t_3, hG_4, H0⟩ := bind_some H0
  refine sr_ (orc := [[.bool t_3]]) hF hI (s_ [e_ 2 (.bool t_3)] [((((kd_Sign_asked).cells x0 sv0).map EV.v), 211)]) [.call true 69 [.slice ((sv0 5).1) x0.s.Made.length ((sv0 5).2), .int .i64 x0.Request.Port] (.bool t_3)] (by kernel_rfl) ⟨ob_call (enters Tryz.func69 (by kernel_rfl) rfl) (fun hg wz hk => G_slices_Contains_int_int.calls x0.s.Made x0.Request.Port ((sv0 5).1) ((sv0 5).2) wz (S := fun _ => True) (Arr.any (Arr.keep hx0.2.2.2.2.2.1.1 (Lo.on hk))) hx0.2.2.2.2.2.1.2 _ hG_4), trivial⟩ (fun ns_5 a w_6 hI => ?_)
  refine wpIn_ret ?_
  obtain rfl := Option.some.inj H0
  exact ret1 hI rfl rfl ⟨rfl, hE.below hI⟩

noncomputable def G_sign_rows_3 (x0 : Sign_asked) : Option (Bool) := some x0.s.Normal
theorem G_sign_rows_3.calls (x0 : Sign_asked) (sv0 : SV) (w : World) {S : Nat → Prop} (hx0 : (kd_Sign_asked).cont S w x0 sv0) (r : Bool) (h : G_sign_rows_3 x0 = some r) :
    Calls Tryz.prog 147 #[.agg ((kd_Sign_asked).cells x0 sv0).toArray] w fun e w' => e = .returned (.bool r) ∧ Below w.heap.size w w' := by
  replace hx0 := Kd.lo _ hx0
  unfold G_sign_rows_3 at h
  have H0 := h
  clear h
  refine enter Tryz.func147 rfl [.agg ((kd_Sign_asked).cells x0 sv0).toArray] (n := 6) rfl (Nat.le_of_ble_eq_true rfl) (fun a hI => ?_)
  have hF : FOpen Fence.wide := .inl rfl
  have hE := Ep.start w
  refine sr0_ hF hI (s_ [e_ 2 (.bool false), p_ 1 0 0] [((((kd_Sign_asked).cells x0 sv0).map EV.v), 211)]) (by kernel_rfl) (fun ns_1 a w_2 hI => ?_)
  refine sr0_ hF hI (s_ [e_ 2 (.bool x0.s.Normal)] [((((kd_Sign_asked).cells x0 sv0).map EV.v), 211)]) (by kernel_rfl) (fun ns_3 a w_4 hI => ?_)
  refine wpIn_ret ?_
  obtain rfl := Option.some.inj H0
  exact ret1 hI rfl rfl ⟨rfl, hE.below hI⟩

noncomputable def G_sign_rows_4 (x0 : Sign_asked) : Option (Bool) := ((cal (!(!x0.own)) (G_sign_asked_made x0) default).bind fun t_3 => some ((!x0.own) || (!t_3)))
theorem G_sign_rows_4.calls (x0 : Sign_asked) (sv0 : SV) (w : World) {S : Nat → Prop} (hx0 : (kd_Sign_asked).cont S w x0 sv0) (r : Bool) (h : G_sign_rows_4 x0 = some r) :
    Calls Tryz.prog 148 #[.agg ((kd_Sign_asked).cells x0 sv0).toArray] w fun e w' => e = .returned (.bool r) ∧ Below w.heap.size w w' := by
  replace hx0 := Kd.lo _ hx0
  unfold G_sign_rows_4 at h
  have H0 := h
  clear h
  refine enter Tryz.func148 rfl [.agg ((kd_Sign_asked).cells x0 sv0).toArray] (n := 11) rfl (Nat.le_of_ble_eq_true rfl) (fun a hI => ?_)
  have hF : FOpen Fence.wide := .inl rfl
  have hE := Ep.start w
  refine sr0_ hF hI (s_ [e_ 2 (.bool false), p_ 1 0 0] [((((kd_Sign_asked).cells x0 sv0).map EV.v), 211)]) (by kernel_rfl) (fun ns_1 a w_2 hI => ?_)
  obtain ⟨t_3, hG_4, H0⟩ := bind_some H0
  refine sr_ (orc := [[.bool t_3]]) hF hI (s_ [e_ 2 (.bool ((!x0.own) || (!t_3)))] [((((kd_Sign_asked).cells x0 sv0).map EV.v), 211)]) [.call (!(!x0.own)) 146 [.agg ((kd_Sign_asked).cells x0 sv0).toArray] (.bool t_3)] (by kernel_rfl) ⟨ob_call (enters Tryz.func146 (by kernel_rfl) rfl) (fun hg wz hk => G_sign_asked_made.calls x0 sv0 wz (S := fun _ => True) (Kd.any _ (Kd.keep kd_Sign_asked (contI (S := Lo S w w [] []) (w := w) (d := kd_Sign_asked) (x := x0) (sv := sv0) ⟨⟨hx0.1.1, hx0.1.2⟩, ⟨hx0.2.1.1, hx0.2.1.2⟩, ⟨hx0.2.2.1.1, hx0.2.2.1.2⟩, ⟨hx0.2.2.2.1.1, hx0.2.2.2.1.2⟩, ⟨hx0.2.2.2.2.1.1, hx0.2.2.2.2.1.2⟩, ⟨hx0.2.2.2.2.2.1.1, hx0.2.2.2.2.2.1.2⟩, ⟨hx0.2.2.2.2.2.2.1.1, hx0.2.2.2.2.2.2.1.2⟩, trivial⟩) (Lo.on hk))) _ (cal_some hG_4 hg)), trivial⟩ (fun ns_5 a w_6 hI => ?_)
  refine wpIn_ret ?_
  obtain rfl := Option.some.inj H0
  exact ret1 hI rfl rfl ⟨rfl, hE.below hI⟩

noncomputable def G_sign_rows_5 (x0 : Sign_asked) : Option (Bool) := some (!x0.s.Normal)
theorem G_sign_rows_5.calls (x0 : Sign_asked) (sv0 : SV) (w : World) {S : Nat → Prop} (hx0 : (kd_Sign_asked).cont S w x0 sv0) (r : Bool) (h : G_sign_rows_5 x0 = some r) :
    Calls Tryz.prog 149 #[.agg ((kd_Sign_asked).cells x0 sv0).toArray] w fun e w' => e = .returned (.bool r) ∧ Below w.heap.size w w' := by
  replace hx0 := Kd.lo _ hx0
  unfold G_sign_rows_5 at h
  have H0 := h
  clear h
  refine enter Tryz.func149 rfl [.agg ((kd_Sign_asked).cells x0 sv0).toArray] (n := 7) rfl (Nat.le_of_ble_eq_true rfl) (fun a hI => ?_)
  have hF : FOpen Fence.wide := .inl rfl
  have hE := Ep.start w
  refine sr0_ hF hI (s_ [e_ 2 (.bool false), p_ 1 0 0] [((((kd_Sign_asked).cells x0 sv0).map EV.v), 211)]) (by kernel_rfl) (fun ns_1 a w_2 hI => ?_)
  refine sr0_ hF hI (s_ [e_ 2 (.bool (!x0.s.Normal))] [((((kd_Sign_asked).cells x0 sv0).map EV.v), 211)]) (by kernel_rfl) (fun ns_3 a w_4 hI => ?_)
  refine wpIn_ret ?_
  obtain rfl := Option.some.inj H0
  exact ret1 hI rfl rfl ⟨rfl, hE.below hI⟩

noncomputable def G_sign_rows_6 (x0 : Sign_asked) : Option (Bool) := some ((x0.Request.Data.length : Int) == 0)
theorem G_sign_rows_6.calls (x0 : Sign_asked) (sv0 : SV) (w : World) {S : Nat → Prop} (hx0 : (kd_Sign_asked).cont S w x0 sv0) (r : Bool) (h : G_sign_rows_6 x0 = some r) :
    Calls Tryz.prog 150 #[.agg ((kd_Sign_asked).cells x0 sv0).toArray] w fun e w' => e = .returned (.bool r) ∧ Below w.heap.size w w' := by
  replace hx0 := Kd.lo _ hx0
  unfold G_sign_rows_6 at h
  have H0 := h
  clear h
  refine enter Tryz.func150 rfl [.agg ((kd_Sign_asked).cells x0 sv0).toArray] (n := 8) rfl (Nat.le_of_ble_eq_true rfl) (fun a hI => ?_)
  have hF : FOpen Fence.wide := .inl rfl
  have hE := Ep.start w
  refine sr0_ hF hI (s_ [e_ 2 (.bool false), p_ 1 0 0] [((((kd_Sign_asked).cells x0 sv0).map EV.v), 211)]) (by kernel_rfl) (fun ns_1 a w_2 hI => ?_)
  refine sr0_ hF hI (s_ [e_ 2 (.bool ((x0.Request.Data.length : Int) == 0))] [((((kd_Sign_asked).cells x0 sv0).map EV.v), 211)]) (by kernel_rfl) (fun ns_3 a w_4 hI => ?_)
  refine wpIn_ret ?_
  obtain rfl := Option.some.inj H0
  exact ret1 hI rfl rfl ⟨rfl, hE.below hI⟩

noncomputable def G_sign_rows_7 (x0 : Sign_asked) : Option (Bool) := some (decide ((x0.Request.Data.length : Int) > x0.channel.Words))
theorem G_sign_rows_7.calls (x0 : Sign_asked) (sv0 : SV) (w : World) {S : Nat → Prop} (hx0 : (kd_Sign_asked).cont S w x0 sv0) (r : Bool) (h : G_sign_rows_7 x0 = some r) :
    Calls Tryz.prog 151 #[.agg ((kd_Sign_asked).cells x0 sv0).toArray] w fun e w' => e = .returned (.bool r) ∧ Below w.heap.size w w' := by
  replace hx0 := Kd.lo _ hx0
  unfold G_sign_rows_7 at h
  have H0 := h
  clear h
  refine enter Tryz.func151 rfl [.agg ((kd_Sign_asked).cells x0 sv0).toArray] (n := 11) rfl (Nat.le_of_ble_eq_true rfl) (fun a hI => ?_)
  have hF : FOpen Fence.wide := .inl rfl
  have hE := Ep.start w
  refine sr0_ hF hI (s_ [e_ 2 (.bool false), p_ 1 0 0] [((((kd_Sign_asked).cells x0 sv0).map EV.v), 211)]) (by kernel_rfl) (fun ns_1 a w_2 hI => ?_)
  refine sr0_ hF hI (s_ [e_ 2 (.bool (decide ((x0.Request.Data.length : Int) > x0.channel.Words)))] [((((kd_Sign_asked).cells x0 sv0).map EV.v), 211)]) (by kernel_rfl) (fun ns_3 a w_4 hI => ?_)
  refine wpIn_ret ?_
  obtain rfl := Option.some.inj H0
  exact ret1 hI rfl rfl ⟨rfl, hE.below hI⟩

noncomputable def G_sign_rows_8 (x0 : Sign_asked) : Option (Bool) := some ((x0.Request.Data.length : Int) != 1)
theorem G_sign_rows_8.calls (x0 : Sign_asked) (sv0 : SV) (w : World) {S : Nat → Prop} (hx0 : (kd_Sign_asked).cont S w x0 sv0) (r : Bool) (h : G_sign_rows_8 x0 = some r) :
    Calls Tryz.prog 152 #[.agg ((kd_Sign_asked).cells x0 sv0).toArray] w fun e w' => e = .returned (.bool r) ∧ Below w.heap.size w w' := by
  replace hx0 := Kd.lo _ hx0
  unfold G_sign_rows_8 at h
  have H0 := h
  clear h
  refine enter Tryz.func152 rfl [.agg ((kd_Sign_asked).cells x0 sv0).toArray] (n := 8) rfl (Nat.le_of_ble_eq_true rfl) (fun a hI => ?_)
  have hF : FOpen Fence.wide := .inl rfl
  have hE := Ep.start w
  refine sr0_ hF hI (s_ [e_ 2 (.bool false), p_ 1 0 0] [((((kd_Sign_asked).cells x0 sv0).map EV.v), 211)]) (by kernel_rfl) (fun ns_1 a w_2 hI => ?_)
  refine sr0_ hF hI (s_ [e_ 2 (.bool ((x0.Request.Data.length : Int) != 1))] [((((kd_Sign_asked).cells x0 sv0).map EV.v), 211)]) (by kernel_rfl) (fun ns_3 a w_4 hI => ?_)
  refine wpIn_ret ?_
  obtain rfl := Option.some.inj H0
  exact ret1 hI rfl rfl ⟨rfl, hE.below hI⟩

noncomputable def G_layout_sized (x0 : Chan) : Option (Int) := (bif (x0.Kind == 1) then some (IntKind.i64.wrap (3 + (IntKind.i64.wrap (4 * (IntKind.i64.wrap (2 + x0.Words)))))) else some (IntKind.i64.wrap (1 + (IntKind.i64.wrap (x0.Depth * (IntKind.i64.wrap (1 + x0.Words)))))))
theorem G_layout_sized.calls (x0 : Chan) (sv0 : SV) (w : World) {S : Nat → Prop} (hx0 : (kd_Chan).cont S w x0 sv0) (r : Int) (h : G_layout_sized x0 = some r) :
    Calls Tryz.prog 237 #[.agg ((kd_Chan).cells x0 sv0).toArray] w fun e w' => e = .returned (.int .i64 r) ∧ Below w.heap.size w w' := by
  replace hx0 := Kd.lo _ hx0
  unfold G_layout_sized at h
  have H0 := h
  clear h
  refine enter Tryz.func237 rfl [.agg ((kd_Chan).cells x0 sv0).toArray] (n := 18) rfl (Nat.le_of_ble_eq_true rfl) (fun a hI => ?_)
  have hF : FOpen Fence.wide := .inl rfl
  have hE := Ep.start w
  refine sr0_ hF hI (s_ [e_ 2 (.int .i64 0), p_ 1 0 0] [((((kd_Chan).cells x0 sv0).map EV.v), 86)]) (by kernel_rfl) (fun ns_1 a w_2 hI => ?_)
  refine wpIn_seq ?_
  refine sr0_ hF hI (s_ [e_ 5 (.bool (x0.Kind == 1)), e_ 2 (.int .i64 0), p_ 1 0 0] [((((kd_Chan).cells x0 sv0).map EV.v), 86)]) (by kernel_rfl) (fun ns_3 a w_4 hI => ?_)
  refine cond_ hI ((x0.Kind == 1)) rfl (fun hc_5 => ?_) (fun hc_5 => ?_)
  ·replace H0 := bif_t hc_5 H0
   refine sr0_ hF hI (s_ [e_ 2 (.int .i64 (IntKind.i64.wrap (3 + (IntKind.i64.wrap (4 * (IntKind.i64.wrap (2 + x0.Words)))))))] [((((kd_Chan).cells x0 sv0).map EV.v), 86)]) (by kernel_rfl) (fun ns_6 a w_7 hI => ?_)
   refine wpIn_ret ?_
   refine then_ret ?_
   obtain rfl := Option.some.inj H0
   exact ret1 hI rfl rfl ⟨rfl, hE.below hI⟩
  ·replace H0 := bif_f hc_5 H0
   refine wpIn_skip ?_
   refine then_normal ?_
   refine sr0_ hF hI (s_ [e_ 2 (.int .i64 (IntKind.i64.wrap (1 + (IntKind.i64.wrap (x0.Depth * (IntKind.i64.wrap (1 + x0.Words)))))))] [((((kd_Chan).cells x0 sv0).map EV.v), 86)]) (by kernel_rfl) (fun ns_8 a w_9 hI => ?_)
   refine wpIn_ret ?_
   obtain rfl := Option.some.inj H0
   exact ret1 hI rfl rfl ⟨rfl, hE.below hI⟩

noncomputable def G_layout_of.b1 (x0 : Config) (t_3 : Bool) (s1 : Int × Int × (List Span) × Int) : Option (Stp (Int × Int × (List Span) × Int) (Ex (Int × Int × (List Span) × Int) (Layout_plan))) := (bif decide (s1.1 < (x0.Parts.length : Int)) then (req (inb s1.1 x0.Parts.length) (req (decide ((s1.2.2.1.length + 1) * 16 ≤ 140737488355328)) (some (.next ((IntKind.i64.wrap (s1.1 + 1)), s1.2.1, (s1.2.2.1 ++ [(⟨s1.2.2.2, (rd x0.Parts s1.1).Private⟩ : Span)]), (IntKind.i64.wrap (s1.2.2.2 + ((rd x0.Parts s1.1).Private)))))))) else some (.out (.brk (s1.1, s1.2.1, s1.2.2.1, s1.2.2.2))))
noncomputable def G_layout_of.b2 (x0 : Config) (t_3 : Bool) (s1 : Int × Int × (List Span) × Int) (s2 : Int × Int × (List Span) × Int) : Option (Stp (Int × Int × (List Span) × Int) (Ex (Int × Int × (List Span) × Int) (Layout_plan))) := (bif decide (s2.1 < (x0.Chans.length : Int)) then (req (inb s2.1 x0.Chans.length) ((G_layout_sized (rd x0.Chans s2.1)).bind fun t_75 => (req (decide ((s2.2.2.1.length + 1) * 16 ≤ 140737488355328)) (req (decide (((s2.2.2.1 ++ [(⟨s2.2.2.2, t_75⟩ : Span)]).length + 1) * 16 ≤ 140737488355328)) (some (.next ((IntKind.i64.wrap (s2.1 + 1)), s2.2.1, ((s2.2.2.1 ++ [(⟨s2.2.2.2, t_75⟩ : Span)]) ++ [(⟨(IntKind.i64.wrap (s2.2.2.2 + t_75)), 1⟩ : Span)]), (IntKind.i64.wrap ((IntKind.i64.wrap (s2.2.2.2 + t_75)) + 1))))))))) else some (.out (.brk (s2.1, s2.2.1, s2.2.2.1, s2.2.2.2))))
noncomputable def G_layout_of (x0 : Config) : Option (Layout_plan) := ((G_defect_Accepts x0).bind fun t_3 => (bif (!t_3) then some (⟨0, [], 0⟩ : Layout_plan) else ((loopω (G_layout_of.b1 x0 t_3) (0, (x0.Parts.length : Int), ([] : List Span), 0)).bind fun o => o.on (fun s1 => ((loopω (G_layout_of.b2 x0 t_3 s1) (0, s1.2.1, s1.2.2.1, s1.2.2.2)).bind fun o => o.on (fun s2 => some (⟨s2.2.1, s2.2.2.1, s2.2.2.2⟩ : Layout_plan)) (fun r => some r))) (fun r => some r))))
theorem G_layout_of.calls (x0 : Config) (sv0 : SV) (w : World) {S : Nat → Prop} (hx0 : (kd_Config).cont S w x0 sv0) (r : Layout_plan) (h : G_layout_of x0 = some r) :
    Calls Tryz.prog 203 #[.agg ((kd_Config).cells x0 sv0).toArray] w fun e w' => ∃ sv : SV, e = .returned (.agg ((kd_Layout_plan).cells r sv).toArray) ∧ Below w.heap.size w w' ∧ (kd_Layout_plan).cont (fun b => w.heap.size ≤ b ∨ S b) w' r sv := by
  replace hx0 := Kd.lo _ hx0
  unfold G_layout_of at h
  have H0 := h
  clear h
  refine enter Tryz.func203 rfl [.agg ((kd_Config).cells x0 sv0).toArray] (n := 45) rfl (Nat.le_of_ble_eq_true rfl) (fun a hI => ?_)
  have hF : FOpen Fence.wide := .inl rfl
  have hE := Ep.start w
  refine sr0_ hF hI (s_ [p_ 2 1 0, p_ 1 0 0] [((((kd_Config).cells x0 sv0).map EV.v), 29), ([.v (.int .i64 0), .v (.slice none 0 0), .v (.int .i64 0)], 308)]) (by kernel_rfl) (fun ns_1 a w_2 hI => ?_)
  refine wpIn_seq ?_
  obtain ⟨t_3, hG_4, H0⟩ := bind_some H0
  refine sr_ (orc := [[.bool t_3]]) hF hI (s_ [e_ 11 (.bool (!t_3)), p_ 2 1 0, p_ 1 0 0] [((((kd_Config).cells x0 sv0).map EV.v), 29), ([.v (.int .i64 0), .v (.slice none 0 0), .v (.int .i64 0)], 308)]) [.call true 113 [.agg ((kd_Config).cells x0 sv0).toArray] (.bool t_3)] (by kernel_rfl) ⟨ob_call (enters Tryz.func113 (by kernel_rfl) rfl) (fun hg wz hk => G_defect_Accepts.calls x0 sv0 wz (S := fun _ => True) (Kd.any _ (Kd.keep kd_Config (contI (S := Lo S w w [] []) (w := w) (d := kd_Config) (x := x0) (sv := sv0) ⟨⟨hx0.1.1, hx0.1.2⟩, ⟨hx0.2.1.1, hx0.2.1.2⟩, ⟨hx0.2.2.1.1, hx0.2.2.1.2⟩, ⟨hx0.2.2.2.1.1, hx0.2.2.2.1.2⟩, trivial⟩) (Lo.on hk))) _ hG_4), trivial⟩ (fun ns_5 a w_6 hI => ?_)
  refine cond_ hI ((!t_3)) rfl (fun hc_7 => ?_) (fun hc_7 => ?_)
  ·replace H0 := bif_t hc_7 H0
   refine sr0_ hF hI (s_ [p_ 2 1 0] [((((kd_Config).cells x0 sv0).map EV.v), 29), ([.v (.int .i64 0), .v (.slice none 0 0), .v (.int .i64 0)], 308)]) (by kernel_rfl) (fun ns_8 a w_9 hI => ?_)
   refine wpIn_ret ?_
   refine then_ret ?_
   obtain rfl := Option.some.inj H0
   exact retCell hI rfl rfl rfl rfl rfl rfl ⟨svL [(none, 0)], rfl, hE.below hI, ⟨⟨(Arr.nil _ _ _ _), (Nat.le_refl _)⟩, trivial⟩⟩
  ·replace H0 := bif_f hc_7 H0
   refine wpIn_skip ?_
   refine then_normal ?_
   refine sr0_ hF hI (s_ [p_ 3 2 0, p_ 2 1 0, p_ 1 0 0] [((((kd_Config).cells x0 sv0).map EV.v), 29), ([.v (.int .i64 0), .v (.slice none 0 0), .v (.int .i64 0)], 308), ([.v (.int .i64 (x0.Parts.length : Int)), .v (.slice none 0 0), .v (.int .i64 0)], 308)]) (by kernel_rfl) (fun ns_10 a w_11 hI => ?_)
   refine wpIn_seq ?_
   refine wpIn_region_lit ?_
   refine makeFuncP_ hF hI (wanted_none rfl) rfl rfl rfl (l1 := [.inr (2, 0)]) (l2 := []) rfl rfl (s_ [⟨17, [], .f (.func 236) [.inr (2, 0)] []⟩, p_ 3 2 0, p_ 2 1 0, p_ 1 0 0] [((((kd_Config).cells x0 sv0).map EV.v), 29), ([.v (.int .i64 0), .v (.slice none 0 0), .v (.int .i64 0)], 308), ([.v (.int .i64 (x0.Parts.length : Int)), .v (.slice none 0 0), .v (.int .i64 0)], 308)]) (by kernel_rfl) (fun a hI => ?_)
   refine ck0_ hF 1 hI (s_ [⟨4, [], .f (.func 236) [.inr (2, 0)] []⟩, p_ 3 2 0, p_ 2 1 0, p_ 1 0 0] [((((kd_Config).cells x0 sv0).map EV.v), 29), ([.v (.int .i64 0), .v (.slice none 0 0), .v (.int .i64 0)], 308), ([.v (.int .i64 (x0.Parts.length : Int)), .v (.slice none 0 0), .v (.int .i64 0)], 308)]) rfl (by kernel_rfl) (fun ns_12 a w_13 hI => ?_)
   refine wpListIn_nil ?_
   refine then_normal ?_
   refine wpIn_seq ?_
   refine sr0_ hF hI (s_ [e_ 21 (.int .i64 0), e_ 20 (.int .i64 (x0.Parts.length : Int)), e_ 19 (.slice ((sv0 0).1) x0.Parts.length ((sv0 0).2)), ⟨4, [], .f (.func 236) [.inr (2, 0)] []⟩, p_ 3 2 0, p_ 2 1 0, p_ 1 0 0] [((((kd_Config).cells x0 sv0).map EV.v), 29), ([.v (.int .i64 0), .v (.slice none 0 0), .v (.int .i64 0)], 308), ([.v (.int .i64 (x0.Parts.length : Int)), .v (.slice none 0 0), .v (.int .i64 0)], 308)]) (by kernel_rfl) (fun ns_14 a w_15 hI => ?_)
   obtain ⟨hE', hmv, hmr⟩ := Ep.rebase hE hI
   replace hx0 := Kd.keep _ hx0 (hmv _)
   replace hE := hE'; replace hI := hI.rebase; clear hE' hmv hmr
   obtain ⟨hE', hmv⟩ := Ep.addNil hE
   have hmr := hmr_ ([] : List (List Nat)) w_15
   replace hx0 := Kd.keep _ hx0 (hmv _)
   replace hE := hE'
   clear hE' hmv hmr
   have hq_16 : Row kd_Span 167 (Lo S w w_15 ns_14 [rb none]) w_15 w.heap.size none 0 ([] : List Span) := Row.nil
   obtain ⟨o_54, hL_55, H0⟩ := bind_some H0
   refine block_loop (fun (s1 : Int × Int × (List Span) × Int) a w_130 => ∃ (ow ns : List Nat) (A_17 : Option Addr) (c_18 : Nat), ((kd_Config).cont (Lo S w w_130 ow [rb A_17]) w_130 x0 sv0) ∧ (Row kd_Span 167 (Lo S w w_130 ow [rb A_17]) w_130 w.heap.size A_17 c_18 s1.2.2.1) ∧ Ep [] w w_130 ow [rb A_17] ∧ St w_130 ow 45 (s_ [e_ 21 (.int .i64 s1.1), e_ 20 (.int .i64 (x0.Parts.length : Int)), e_ 19 (.slice ((sv0 0).1) x0.Parts.length ((sv0 0).2)), ⟨4, [], .f (.func 236) [.inr (2, 0)] []⟩, p_ 3 2 0, p_ 2 1 0, p_ 1 0 0] [((((kd_Config).cells x0 sv0).map EV.v), 29), ([.v (.int .i64 0), .v (.slice none 0 0), .v (.int .i64 0)], 308), ([.v (.int .i64 s1.2.1), .v (.slice A_17 s1.2.2.1.length c_18), .v (.int .i64 s1.2.2.2)], 308)]) ns a w_130) (0, (x0.Parts.length : Int), ([] : List Span), 0) hL_55 ⟨_, _, _, _, hx0, hq_16, hE, hI.pick [21, 20, 19, 4, 3, 2, 1] 3 (s_ [e_ 21 (.int .i64 0), e_ 20 (.int .i64 (x0.Parts.length : Int)), e_ 19 (.slice ((sv0 0).1) x0.Parts.length ((sv0 0).2)), ⟨4, [], .f (.func 236) [.inr (2, 0)] []⟩, p_ 3 2 0, p_ 2 1 0, p_ 1 0 0] [((((kd_Config).cells x0 sv0).map EV.v), 29), ([.v (.int .i64 0), .v (.slice none 0 0), .v (.int .i64 0)], 308), ([.v (.int .i64 (x0.Parts.length : Int)), .v (.slice none ([] : List Span).length 0), .v (.int .i64 0)], 308)]) (by kernel_rfl)⟩ ?_ ?_
   ·clear hI hE
    rintro s1 a w_19 ⟨ow_21, ns_20, A_17, c_18, hx0, hq_16, hE, hI⟩ r1 H1
    unfold G_layout_of.b1 at H1
    refine sr0_ hF hI (s_ [e_ 22 (.bool (decide (s1.1 < (x0.Parts.length : Int)))), e_ 21 (.int .i64 s1.1), e_ 20 (.int .i64 (x0.Parts.length : Int)), e_ 19 (.slice ((sv0 0).1) x0.Parts.length ((sv0 0).2)), ⟨4, [], .f (.func 236) [.inr (2, 0)] []⟩, p_ 3 2 0, p_ 2 1 0, p_ 1 0 0] [((((kd_Config).cells x0 sv0).map EV.v), 29), ([.v (.int .i64 0), .v (.slice none 0 0), .v (.int .i64 0)], 308), ([.v (.int .i64 s1.2.1), .v (.slice A_17 s1.2.2.1.length c_18), .v (.int .i64 s1.2.2.2)], 308)]) (by kernel_rfl) (fun ns_22 a w_23 hI => ?_)
    refine wpIn_seq ?_
    refine cond_ hI (decide (s1.1 < (x0.Parts.length : Int))) rfl (fun hc_24 => ?_) (fun hc_24 => ?_)
    ·replace H1 := bif_t hc_24 H1
     refine wpIn_skip ?_
     refine then_normal ?_
     refine wpIn_seq ?_
     refine wpIn_block ?_
     obtain ⟨hN_25, H1⟩ := req_some H1
     obtain ⟨sv_26, hE_28, hA_27⟩ := Arr.elB (d := kd_Part) hx0.1.1 s1.1 true (fun _ => hN_25)
     replace hE_28 := hE_28 rfl
     replace hA_27 := fun (_ : true = true) => hA_27 rfl
     refine sr_ (orc := [(kd_Part).cells (rd x0.Parts s1.1) sv_26]) hF hI (s_ [p_ 6 3 0, e_ 21 (.int .i64 s1.1), e_ 20 (.int .i64 (x0.Parts.length : Int)), e_ 19 (.slice ((sv0 0).1) x0.Parts.length ((sv0 0).2)), ⟨4, [], .f (.func 236) [.inr (2, 0)] []⟩, p_ 3 2 0, p_ 2 1 0, p_ 1 0 0] [((((kd_Config).cells x0 sv0).map EV.v), 29), ([.v (.int .i64 0), .v (.slice none 0 0), .v (.int .i64 0)], 308), ([.v (.int .i64 s1.2.1), .v (.slice A_17 s1.2.2.1.length c_18), .v (.int .i64 s1.2.2.2)], 308), ((((kd_Part).cells (rd x0.Parts s1.1) sv_26).map EV.v), 155)]) [.need true ((0 : Int) ≤ s1.1 ∧ s1.1 < (x0.Parts.length : Int)), .need true ((sv0 0).1 = some (adr ((sv0 0).1))), .cell true ((adr ((sv0 0).1)).add ((s1.1 : Int).toNat * 2)) ((kd_Part).cells (rd x0.Parts s1.1) sv_26)] (by kernel_rfl) ⟨ob_inb (fun _ => hN_25), hA_27, ob_el (fun _ => hE_28) 0 ((kd_Part).cells (rd x0.Parts s1.1) sv_26) rfl, trivial⟩ (fun ns_29 a w_30 hI => ?_)
     refine wpIn_region_lit ?_
     refine ck0_ hF 3 hI (s_ [e_ 27 (.int .i64 ((rd x0.Parts s1.1).Private)), ⟨25, [], .f (.func 236) [.inr (2, 0)] []⟩, e_ 21 (.int .i64 s1.1), e_ 20 (.int .i64 (x0.Parts.length : Int)), e_ 19 (.slice ((sv0 0).1) x0.Parts.length ((sv0 0).2)), ⟨4, [], .f (.func 236) [.inr (2, 0)] []⟩, p_ 3 2 0, p_ 2 1 0, p_ 1 0 0] [((((kd_Config).cells x0 sv0).map EV.v), 29), ([.v (.int .i64 0), .v (.slice none 0 0), .v (.int .i64 0)], 308), ([.v (.int .i64 s1.2.1), .v (.slice A_17 s1.2.2.1.length c_18), .v (.int .i64 s1.2.2.2)], 308), ((((kd_Part).cells (rd x0.Parts s1.1) sv_26).map EV.v), 155)]) rfl (by kernel_rfl) (fun ns_31 a w_32 hI => ?_)
     obtain ⟨hE', hmv, hmr⟩ := Ep.rebase hE hI
     replace hx0 := Kd.keep _ hx0 (hmv _)
     replace hq_16 := Row.keep hq_16 (hmv _) (fun b hb => hmr b (by simp [hb]))
     replace hE_28 := El.keep hE_28 (hmv _)
     replace hE := hE'; replace hI := hI.rebase; clear hE' hmv hmr
     refine callI_ hF hI (wanted_none rfl) rfl Tryz.func236 (by kernel_rfl) rfl (n' := 27) rfl (by kernel_rfl) (by kernel_rfl) (fun au_33 hIu_33 => ?_)
     have hOu_33 := hI
     have hFu_33 := hF
     have hF : FOpen Fence.wide := .inl rfl
     have hI : St w_32 ns_31 27 ⟨[p_ 0 2 0, e_ 1 (.int .i64 ((rd x0.Parts s1.1).Private))], [], [], [((((kd_Config).cells x0 sv0).map EV.v), 29), ([.v (.int .i64 0), .v (.slice none 0 0), .v (.int .i64 0)], 308), ([.v (.int .i64 s1.2.1), .v (.slice A_17 s1.2.2.1.length c_18), .v (.int .i64 s1.2.2.2)], 308), ((((kd_Part).cells (rd x0.Parts s1.1) sv_26).map EV.v), 155)], none, some (4, ns_31)⟩ ns_31 au_33 w_32 := hIu_33
     clear hIu_33
     refine wpIn_seq ?_
     replace hI := hI.fin (live := [0, 1]) (σ2 := ⟨[p_ 0 2 0, e_ 1 (.int .i64 ((rd x0.Parts s1.1).Private))], [], [], [((((kd_Config).cells x0 sv0).map EV.v), 29), ([.v (.int .i64 0), .v (.slice none 0 0), .v (.int .i64 0)], 308), ([.v (.int .i64 s1.2.1), .v (.slice A_17 s1.2.2.1.length c_18), .v (.int .i64 s1.2.2.2)], 308), ((((kd_Part).cells (rd x0.Parts s1.1) sv_26).map EV.v), 155)], none, some (4, ns_31)⟩) (by kernel_rfl)
     refine drawnS_ hI (by kernel_rfl) [.q 4 (.p 2 0) [], .q 5 (.p 2 0) [], .q 6 (.p 2 0) [], .q 7 (.p 2 1) [], .q 8 (.v (.slice A_17 s1.2.2.1.length c_18)) [], .q 9 (.p 2 0) [], .q 10 (.p 2 0) [], .q 11 (.p 2 2) [], .q 12 (.v (.int .i64 s1.2.2.2)) [], .q 13 (.v (.int .i64 ((rd x0.Parts s1.1).Private))) [], .q 14 (.v (.agg #[.int .i64 s1.2.2.2, .int .i64 ((rd x0.Parts s1.1).Private)])) [], .no, .no, .q 17 (.p 2 0) [], .q 18 (.p 2 1) [], .no] (by kernel_rfl) (fun fuel listed w_34 hJ hsz hu => ?_)
     refine stage_ hJ hF hsz hu [.q [] [], .q [] [], .q [1] [], .q [2] [], .q [3] [], .q [] [], .q [5] [], .q [6] [], .q [7] [], .q [] [], .q [8, 9] [], .no, .no, .q [0] [], .q [13] [], .no] (by kernel_rfl) (by kernel_rfl) (by kernel_rfl) (by kernel_rfl) 11 rfl (by kernel_rfl) (by kernel_rfl) [10] rfl (by kernel_rfl) (by kernel_rfl) trivial [10] (by kernel_rfl) [.q 4 (.p 2 0) [], .q 5 (.p 2 0) [], .q 6 (.p 2 0) [], .q 7 (.p 2 1) [], .q 8 (.v (.slice A_17 s1.2.2.1.length c_18)) [], .q 9 (.p 2 0) [], .q 10 (.p 2 0) [], .q 11 (.p 2 2) [], .q 12 (.v (.int .i64 s1.2.2.2)) [], .q 13 (.v (.int .i64 ((rd x0.Parts s1.1).Private))) [], .t (some 14) (some (.v (.agg #[.int .i64 s1.2.2.2, .int .i64 ((rd x0.Parts s1.1).Private)]))), .no, .no, .q 17 (.p 2 0) [], .q 18 (.p 2 1) [], .no] (by kernel_rfl) (fun fuel listed a w_35 hJ hI hW h1 hnl hsz hu => ?_)
     obtain ⟨hE', hmv, hmr⟩ := Ep.rebase hE hI
     replace hx0 := Kd.keep _ hx0 (hmv _)
     replace hq_16 := Row.keep hq_16 (hmv _) (fun b hb => hmr b (by simp [hb]))
     replace hE_28 := El.keep hE_28 (hmv _)
     replace hE := hE'; replace hI := hI.rebase; clear hE' hmv hmr
     refine buildSlice_ (S0 := S) (d := kd_Span) (e := 167) hF hE hI hW rfl (by kernel_rfl) (cs := [.int .i64 s1.2.2.2, .int .i64 ((rd x0.Parts s1.1).Private)]) (by kernel_rfl) [(⟨s1.2.2.2, (rd x0.Parts s1.1).Private⟩ : Span)] [(svL [])] rfl rfl (by simp [maxLen]) (fun i x hi => by cases i with | zero => (simp only [List.getElem?_cons_zero, Option.some.injEq] at hi; subst hi; exact ⟨trivial, rfl⟩) | succ i => (simp only [List.getElem?_cons_succ] at hi; simp at hi)) (fun A_36 => ⟨[e_ 15 (.slice A_36 ([(⟨s1.2.2.2, (rd x0.Parts s1.1).Private⟩ : Span)] : List Span).length (([(⟨s1.2.2.2, (rd x0.Parts s1.1).Private⟩ : Span)] : List Span).length)), e_ 14 (.agg #[.int .i64 s1.2.2.2, .int .i64 ((rd x0.Parts s1.1).Private)]), p_ 0 2 0, e_ 1 (.int .i64 ((rd x0.Parts s1.1).Private))], [], [], [((((kd_Config).cells x0 sv0).map EV.v), 29), ([.v (.int .i64 0), .v (.slice none 0 0), .v (.int .i64 0)], 308), ([.v (.int .i64 s1.2.1), .v (.slice A_17 s1.2.2.1.length c_18), .v (.int .i64 s1.2.2.2)], 308), ((((kd_Part).cells (rd x0.Parts s1.1) sv_26).map EV.v), 155)], none, some (4, ns_31)⟩) (fun A_36 => by kernel_rfl) (fun A_36 a w_38 hput hE' hI' hmv hmr hq_37 => ?_)
     replace hx0 := Kd.keep _ hx0 (hmv _)
     replace hq_16 := Row.keep hq_16 (hmv _) (fun b hb => hmr b (by simp [hb]) (by simp))
     replace hE_28 := El.keep hE_28 (hmv _)
     replace hE := hE'; replace hI := hI'; clear hE' hI' hmv hmr
     refine next_ hJ h1 hnl hsz hu (by kernel_rfl) (by kernel_rfl) hput hI (live := [0, 1]) ⟨[p_ 0 2 0, e_ 1 (.int .i64 ((rd x0.Parts s1.1).Private))], [], [], [((((kd_Config).cells x0 sv0).map EV.v), 29), ([.v (.int .i64 0), .v (.slice none 0 0), .v (.int .i64 0)], 308), ([.v (.int .i64 s1.2.1), .v (.slice A_17 s1.2.2.1.length c_18), .v (.int .i64 s1.2.2.2)], 308), ((((kd_Part).cells (rd x0.Parts s1.1) sv_26).map EV.v), 155)], none, some (4, ns_31)⟩ (by kernel_rfl) (some (.v (.slice A_36 ([(⟨s1.2.2.2, (rd x0.Parts s1.1).Private⟩ : Span)] : List Span).length (([(⟨s1.2.2.2, (rd x0.Parts s1.1).Private⟩ : Span)] : List Span).length)))) (by kernel_rfl) [] [.q 4 (.p 2 0) [], .q 5 (.p 2 0) [], .q 6 (.p 2 0) [], .q 7 (.p 2 1) [], .q 8 (.v (.slice A_17 s1.2.2.1.length c_18)) [], .q 9 (.p 2 0) [], .q 10 (.p 2 0) [], .q 11 (.p 2 2) [], .q 12 (.v (.int .i64 s1.2.2.2)) [], .q 13 (.v (.int .i64 ((rd x0.Parts s1.1).Private))) [], .t (some 14) (some (.v (.agg #[.int .i64 s1.2.2.2, .int .i64 ((rd x0.Parts s1.1).Private)]))), .t (some 15) (some (.v (.slice A_36 ([(⟨s1.2.2.2, (rd x0.Parts s1.1).Private⟩ : Span)] : List Span).length (([(⟨s1.2.2.2, (rd x0.Parts s1.1).Private⟩ : Span)] : List Span).length)))), .no, .q 17 (.p 2 0) [], .q 18 (.p 2 1) [], .no] (by kernel_rfl) (by kernel_rfl) (by kernel_rfl) True.intro (AL.none (by kernel_rfl)) (fun hJ hsz hu => ?_)
     refine stage_ hJ hF hsz hu [.q [] [], .q [] [], .q [1] [], .q [2] [], .q [3] [], .q [] [], .q [5] [], .q [6] [], .q [7] [], .q [] [], .t (some (.v (.agg #[.int .i64 s1.2.2.2, .int .i64 ((rd x0.Parts s1.1).Private)]))), .t (some (.v (.slice A_36 ([(⟨s1.2.2.2, (rd x0.Parts s1.1).Private⟩ : Span)] : List Span).length (([(⟨s1.2.2.2, (rd x0.Parts s1.1).Private⟩ : Span)] : List Span).length)))), .no, .q [0] [], .q [13] [], .no] (by kernel_rfl) (by kernel_rfl) (by kernel_rfl) (by kernel_rfl) 12 rfl (by kernel_rfl) (by kernel_rfl) [4, 11] rfl (by kernel_rfl) (by kernel_rfl) trivial [4] (by kernel_rfl) [.q 4 (.p 2 0) [], .q 5 (.p 2 0) [], .q 6 (.p 2 0) [], .q 7 (.p 2 1) [], .t (some 8) (some (.v (.slice A_17 s1.2.2.1.length c_18))), .q 9 (.p 2 0) [], .q 10 (.p 2 0) [], .q 11 (.p 2 2) [], .q 12 (.v (.int .i64 s1.2.2.2)) [], .q 13 (.v (.int .i64 ((rd x0.Parts s1.1).Private))) [], .t (some 14) (some (.v (.agg #[.int .i64 s1.2.2.2, .int .i64 ((rd x0.Parts s1.1).Private)]))), .t (some 15) (some (.v (.slice A_36 ([(⟨s1.2.2.2, (rd x0.Parts s1.1).Private⟩ : Span)] : List Span).length (([(⟨s1.2.2.2, (rd x0.Parts s1.1).Private⟩ : Span)] : List Span).length)))), .no, .q 17 (.p 2 0) [], .q 18 (.p 2 1) [], .no] (by kernel_rfl) (fun fuel listed a w_39 hJ hI hW h1 hnl hsz hu => ?_)
     obtain ⟨hE', hmv, hmr⟩ := Ep.rebase hE hI
     replace hx0 := Kd.keep _ hx0 (hmv _)
     replace hq_16 := Row.keep hq_16 (hmv _) (fun b hb => hmr b (by simp [hb]))
     replace hE_28 := El.keep hE_28 (hmv _)
     replace hq_37 := Row.keep hq_37 (hmv _) (fun b hb => hmr b (by simp [hb]))
     replace hE := hE'; replace hI := hI.rebase; clear hE' hmv hmr
     obtain ⟨hE', hmv, hq_37, hcap_40⟩ := Row.still (l1 := [rb A_17]) (l2 := []) hq_37 (Nat.le_refl _) hE
     have hmr := hmr_ ([rb A_17, rb A_36] : List (List Nat)) w_39
     replace hx0 := Kd.keep _ hx0 (hmv _)
     replace hq_16 := Row.keep hq_16 (hmv _) (fun b hb => hmr b (by simp [hb]))
     replace hE_28 := El.keep hE_28 (hmv _)
     replace hE := hE'
     clear hE' hmv hmr
     obtain ⟨hN_41, H1⟩ := req_some H1
     replace hN_41 := of_decide_eq_true hN_41
     refine append_ (S0 := S) (l1 := []) (l2 := []) (d := kd_Span) (e := 167) hF hE hI hW rfl (A := A_17) (c := c_18) (l := s1.2.2.1) rfl (A2 := A_36) (c2 := (([(⟨s1.2.2.2, (rd x0.Parts s1.1).Private⟩ : Span)] : List Span).length)) rfl hq_16 hq_37 (fun sv u hu => by exact kd_one_Span _ sv u hu) Tryz.underlying306 (zi := (.agg #[.int .i64 0, .int .i64 0], 2, 16)) (by kernel_rfl) rfl (by kernel_rfl) (len_max (by decide) hN_41) hN_41 (fun A_42 c_43 => ⟨[e_ 16 (.slice A_42 (s1.2.2.1 ++ [(⟨s1.2.2.2, (rd x0.Parts s1.1).Private⟩ : Span)]).length c_43), e_ 8 (.slice A_17 s1.2.2.1.length c_18), e_ 15 (.slice A_36 ([(⟨s1.2.2.2, (rd x0.Parts s1.1).Private⟩ : Span)] : List Span).length (([(⟨s1.2.2.2, (rd x0.Parts s1.1).Private⟩ : Span)] : List Span).length)), p_ 0 2 0, e_ 1 (.int .i64 ((rd x0.Parts s1.1).Private))], [], [], [((((kd_Config).cells x0 sv0).map EV.v), 29), ([.v (.int .i64 0), .v (.slice none 0 0), .v (.int .i64 0)], 308), ([.v (.int .i64 s1.2.1), .v (.slice A_17 s1.2.2.1.length c_18), .v (.int .i64 s1.2.2.2)], 308), ((((kd_Part).cells (rd x0.Parts s1.1) sv_26).map EV.v), 155)], none, some (4, ns_31)⟩) (fun A_42 c_43 => by kernel_rfl) (fun A_42 c_43 a w_44 hput hE' hI' hmv hmr hq_16 => ?_)
     replace hx0 := Kd.keep _ hx0 (hmv _)
     replace hE_28 := El.keep hE_28 (hmv _)
     replace hq_37 := Arr.keep hq_37 (hmv _)
     replace hE := hE'; replace hI := hI'; clear hE' hI' hmv hmr
     refine next_ hJ h1 hnl hsz hu (by kernel_rfl) (by kernel_rfl) hput hI (live := [0, 1]) ⟨[p_ 0 2 0, e_ 1 (.int .i64 ((rd x0.Parts s1.1).Private))], [], [], [((((kd_Config).cells x0 sv0).map EV.v), 29), ([.v (.int .i64 0), .v (.slice none 0 0), .v (.int .i64 0)], 308), ([.v (.int .i64 s1.2.1), .v (.slice A_17 s1.2.2.1.length c_18), .v (.int .i64 s1.2.2.2)], 308), ((((kd_Part).cells (rd x0.Parts s1.1) sv_26).map EV.v), 155)], none, some (4, ns_31)⟩ (by kernel_rfl) (some (.v (.slice A_42 (s1.2.2.1 ++ [(⟨s1.2.2.2, (rd x0.Parts s1.1).Private⟩ : Span)]).length c_43))) (by kernel_rfl) [] [.q 4 (.p 2 0) [], .q 5 (.p 2 0) [], .q 6 (.p 2 0) [], .q 7 (.p 2 1) [], .t (some 8) (some (.v (.slice A_17 s1.2.2.1.length c_18))), .q 9 (.p 2 0) [], .q 10 (.p 2 0) [], .q 11 (.p 2 2) [], .q 12 (.v (.int .i64 s1.2.2.2)) [], .q 13 (.v (.int .i64 ((rd x0.Parts s1.1).Private))) [], .t (some 14) (some (.v (.agg #[.int .i64 s1.2.2.2, .int .i64 ((rd x0.Parts s1.1).Private)]))), .t (some 15) (some (.v (.slice A_36 ([(⟨s1.2.2.2, (rd x0.Parts s1.1).Private⟩ : Span)] : List Span).length (([(⟨s1.2.2.2, (rd x0.Parts s1.1).Private⟩ : Span)] : List Span).length)))), .t (some 16) (some (.v (.slice A_42 (s1.2.2.1 ++ [(⟨s1.2.2.2, (rd x0.Parts s1.1).Private⟩ : Span)]).length c_43))), .q 17 (.p 2 0) [], .q 18 (.p 2 1) [], .no] (by kernel_rfl) (by kernel_rfl) (by kernel_rfl) True.intro (AL.none (by kernel_rfl)) (fun hJ hsz hu => ?_)
     refine stage_ hJ hF hsz hu [.q [] [], .q [] [], .q [1] [], .q [2] [], .t (some (.v (.slice A_17 s1.2.2.1.length c_18))), .q [] [], .q [5] [], .q [6] [], .q [7] [], .q [] [], .t (some (.v (.agg #[.int .i64 s1.2.2.2, .int .i64 ((rd x0.Parts s1.1).Private)]))), .t (some (.v (.slice A_36 ([(⟨s1.2.2.2, (rd x0.Parts s1.1).Private⟩ : Span)] : List Span).length (([(⟨s1.2.2.2, (rd x0.Parts s1.1).Private⟩ : Span)] : List Span).length)))), .t (some (.v (.slice A_42 (s1.2.2.1 ++ [(⟨s1.2.2.2, (rd x0.Parts s1.1).Private⟩ : Span)]).length c_43))), .q [0] [], .q [13] [], .no] (by kernel_rfl) (by kernel_rfl) (by kernel_rfl) (by kernel_rfl) 15 rfl (by kernel_rfl) (by kernel_rfl) [14, 12] rfl (by kernel_rfl) (by kernel_rfl) trivial [0, 1, 2, 3, 5, 6, 7, 8, 9, 14] (by kernel_rfl) [.t (some 4) (some (.p 2 0)), .t (some 5) (some (.p 2 0)), .t (some 6) (some (.p 2 0)), .t (some 7) (some (.p 2 1)), .t (some 8) (some (.v (.slice A_17 s1.2.2.1.length c_18))), .t (some 9) (some (.p 2 0)), .t (some 10) (some (.p 2 0)), .t (some 11) (some (.p 2 2)), .t (some 12) (some (.v (.int .i64 s1.2.2.2))), .t (some 13) (some (.v (.int .i64 ((rd x0.Parts s1.1).Private)))), .t (some 14) (some (.v (.agg #[.int .i64 s1.2.2.2, .int .i64 ((rd x0.Parts s1.1).Private)]))), .t (some 15) (some (.v (.slice A_36 ([(⟨s1.2.2.2, (rd x0.Parts s1.1).Private⟩ : Span)] : List Span).length (([(⟨s1.2.2.2, (rd x0.Parts s1.1).Private⟩ : Span)] : List Span).length)))), .t (some 16) (some (.v (.slice A_42 (s1.2.2.1 ++ [(⟨s1.2.2.2, (rd x0.Parts s1.1).Private⟩ : Span)]).length c_43))), .q 17 (.p 2 0) [], .t (some 18) (some (.p 2 1)), .no] (by kernel_rfl) (fun fuel listed a w_45 hJ hI hW h1 hnl hsz hu => ?_)
     refine store_ hF hI hW rfl rfl (k := 2) (cs := [.v (.int .i64 s1.2.1), .v (.slice A_42 (s1.2.2.1 ++ [(⟨s1.2.2.2, (rd x0.Parts s1.1).Private⟩ : Span)]).length c_43), .v (.int .i64 s1.2.2.2)]) (T := 308) (by kernel_rfl) (by kernel_rfl) rfl (fun a w_46 hput hI => ?_)
     refine next_ hJ h1 hnl hsz hu (by kernel_rfl) (by kernel_rfl) hput hI (live := [0, 1]) ⟨[p_ 0 2 0, e_ 1 (.int .i64 ((rd x0.Parts s1.1).Private))], [], [], [((((kd_Config).cells x0 sv0).map EV.v), 29), ([.v (.int .i64 0), .v (.slice none 0 0), .v (.int .i64 0)], 308), ([.v (.int .i64 s1.2.1), .v (.slice A_42 (s1.2.2.1 ++ [(⟨s1.2.2.2, (rd x0.Parts s1.1).Private⟩ : Span)]).length c_43), .v (.int .i64 s1.2.2.2)], 308), ((((kd_Part).cells (rd x0.Parts s1.1) sv_26).map EV.v), 155)], none, some (4, ns_31)⟩ (by kernel_rfl) none (by kernel_rfl) [] [.t (some 4) (some (.p 2 0)), .t (some 5) (some (.p 2 0)), .t (some 6) (some (.p 2 0)), .t (some 7) (some (.p 2 1)), .t (some 8) (some (.v (.slice A_17 s1.2.2.1.length c_18))), .t (some 9) (some (.p 2 0)), .t (some 10) (some (.p 2 0)), .t (some 11) (some (.p 2 2)), .t (some 12) (some (.v (.int .i64 s1.2.2.2))), .t (some 13) (some (.v (.int .i64 ((rd x0.Parts s1.1).Private)))), .t (some 14) (some (.v (.agg #[.int .i64 s1.2.2.2, .int .i64 ((rd x0.Parts s1.1).Private)]))), .t (some 15) (some (.v (.slice A_36 ([(⟨s1.2.2.2, (rd x0.Parts s1.1).Private⟩ : Span)] : List Span).length (([(⟨s1.2.2.2, (rd x0.Parts s1.1).Private⟩ : Span)] : List Span).length)))), .t (some 16) (some (.v (.slice A_42 (s1.2.2.1 ++ [(⟨s1.2.2.2, (rd x0.Parts s1.1).Private⟩ : Span)]).length c_43))), .q 17 (.p 2 0) [], .t (some 18) (some (.p 2 1)), .t none none] (by kernel_rfl) (by kernel_rfl) (by kernel_rfl) True.intro (AL.none (by kernel_rfl)) (fun hJ hsz hu => ?_)
     refine end_ hJ hF hsz hu [.t (some (.p 2 0)), .t (some (.p 2 0)), .t (some (.p 2 0)), .t (some (.p 2 1)), .t (some (.v (.slice A_17 s1.2.2.1.length c_18))), .t (some (.p 2 0)), .t (some (.p 2 0)), .t (some (.p 2 2)), .t (some (.v (.int .i64 s1.2.2.2))), .t (some (.v (.int .i64 ((rd x0.Parts s1.1).Private)))), .t (some (.v (.agg #[.int .i64 s1.2.2.2, .int .i64 ((rd x0.Parts s1.1).Private)]))), .t (some (.v (.slice A_36 ([(⟨s1.2.2.2, (rd x0.Parts s1.1).Private⟩ : Span)] : List Span).length (([(⟨s1.2.2.2, (rd x0.Parts s1.1).Private⟩ : Span)] : List Span).length)))), .t (some (.v (.slice A_42 (s1.2.2.1 ++ [(⟨s1.2.2.2, (rd x0.Parts s1.1).Private⟩ : Span)]).length c_43))), .q [0] [], .t (some (.p 2 1)), .t none] (by kernel_rfl) (by kernel_rfl) (by kernel_rfl) (by kernel_rfl) (by kernel_rfl) (by kernel_rfl) (live := [0, 1]) ⟨[p_ 0 2 0, e_ 1 (.int .i64 ((rd x0.Parts s1.1).Private))], [], [], [((((kd_Config).cells x0 sv0).map EV.v), 29), ([.v (.int .i64 0), .v (.slice none 0 0), .v (.int .i64 0)], 308), ([.v (.int .i64 s1.2.1), .v (.slice A_42 (s1.2.2.1 ++ [(⟨s1.2.2.2, (rd x0.Parts s1.1).Private⟩ : Span)]).length c_43), .v (.int .i64 s1.2.2.2)], 308), ((((kd_Part).cells (rd x0.Parts s1.1) sv_26).map EV.v), 155)], none, some (4, ns_31)⟩ (by kernel_rfl) trivial (fun a w_47 hI => ?_)
     refine then_normal ?_
     refine region_ (live := []) (orc := []) hF hI ⟨[], [], [], [((((kd_Config).cells x0 sv0).map EV.v), 29), ([.v (.int .i64 0), .v (.slice none 0 0), .v (.int .i64 0)], 308), ([.v (.int .i64 s1.2.1), .v (.slice A_42 (s1.2.2.1 ++ [(⟨s1.2.2.2, (rd x0.Parts s1.1).Private⟩ : Span)]).length c_43), .v (.int .i64 (IntKind.i64.wrap (s1.2.2.2 + ((rd x0.Parts s1.1).Private))))], 308), ((((kd_Part).cells (rd x0.Parts s1.1) sv_26).map EV.v), 155)], none, some (4, ns_31)⟩ [] (by kernel_rfl) trivial (fun ns_48 a w_49 hI _ => ?_)
     obtain ⟨hE', hmv, hmr⟩ := Ep.rebase hE hI
     replace hx0 := Kd.keep _ hx0 (hmv _)
     replace hE_28 := El.keep hE_28 (hmv _)
     replace hq_37 := Arr.keep hq_37 (hmv _)
     replace hq_16 := Row.keep hq_16 (hmv _) (fun b hb => hmr b (by simp [hb]))
     replace hE := hE'; replace hI := hI.rebase; clear hE' hmv hmr
     obtain ⟨hE', hI', hmv⟩ := Ep.uncall (bs := [((((kd_Config).cells x0 sv0).map EV.v), 29), ([.v (.int .i64 0), .v (.slice none 0 0), .v (.int .i64 0)], 308), ([.v (.int .i64 s1.2.1), .v (.slice A_42 (s1.2.2.1 ++ [(⟨s1.2.2.2, (rd x0.Parts s1.1).Private⟩ : Span)]).length c_43), .v (.int .i64 (IntKind.i64.wrap (s1.2.2.2 + ((rd x0.Parts s1.1).Private))))], 308), ((((kd_Part).cells (rd x0.Parts s1.1) sv_26).map EV.v), 155)]) hOu_33 hE hI rfl rfl rfl rfl (by kernel_rfl) rfl
     have hmr := hmr_ ([rb A_42] : List (List Nat)) w_49
     replace hx0 := Kd.keep _ hx0 (hmv _)
     replace hE_28 := El.keep hE_28 (hmv _)
     replace hq_37 := Arr.keep hq_37 (hmv _)
     replace hq_16 := Row.keep hq_16 (hmv _) (fun b hb => hmr b (by simp [hb]))
     replace hE := hE'
     clear hE' hmv hmr
     refine retN (retG hI rfl rfl ⟨.tuple #[], rfl, ?_⟩)
     refine putI_ hI' (s_ [e_ 28 (.tuple #[]), e_ 27 (.int .i64 ((rd x0.Parts s1.1).Private)), ⟨25, [], .f (.func 236) [.inr (2, 0)] []⟩, e_ 21 (.int .i64 s1.1), e_ 20 (.int .i64 (x0.Parts.length : Int)), e_ 19 (.slice ((sv0 0).1) x0.Parts.length ((sv0 0).2)), ⟨4, [], .f (.func 236) [.inr (2, 0)] []⟩, p_ 3 2 0, p_ 2 1 0, p_ 1 0 0] [((((kd_Config).cells x0 sv0).map EV.v), 29), ([.v (.int .i64 0), .v (.slice none 0 0), .v (.int .i64 0)], 308), ([.v (.int .i64 s1.2.1), .v (.slice A_42 (s1.2.2.1 ++ [(⟨s1.2.2.2, (rd x0.Parts s1.1).Private⟩ : Span)]).length c_43), .v (.int .i64 (IntKind.i64.wrap (s1.2.2.2 + ((rd x0.Parts s1.1).Private))))], 308), ((((kd_Part).cells (rd x0.Parts s1.1) sv_26).map EV.v), 155)]) (by kernel_rfl) (fun a hI => ?_)
     clear hI'
     have hF := hFu_33
     refine ck0_ hF 0 hI (s_ [e_ 21 (.int .i64 s1.1), e_ 20 (.int .i64 (x0.Parts.length : Int)), e_ 19 (.slice ((sv0 0).1) x0.Parts.length ((sv0 0).2)), ⟨4, [], .f (.func 236) [.inr (2, 0)] []⟩, p_ 3 2 0, p_ 2 1 0, p_ 1 0 0] [((((kd_Config).cells x0 sv0).map EV.v), 29), ([.v (.int .i64 0), .v (.slice none 0 0), .v (.int .i64 0)], 308), ([.v (.int .i64 s1.2.1), .v (.slice A_42 (s1.2.2.1 ++ [(⟨s1.2.2.2, (rd x0.Parts s1.1).Private⟩ : Span)]).length c_43), .v (.int .i64 (IntKind.i64.wrap (s1.2.2.2 + ((rd x0.Parts s1.1).Private))))], 308), ((((kd_Part).cells (rd x0.Parts s1.1) sv_26).map EV.v), 155)]) rfl (by kernel_rfl) (fun ns_50 a w_51 hI => ?_)
     refine wpListIn_nil ?_
     refine inBlock_normal ?_
     refine then_normal ?_
     refine rg0_ hF hI (s_ [e_ 21 (.int .i64 (IntKind.i64.wrap (s1.1 + 1))), e_ 20 (.int .i64 (x0.Parts.length : Int)), e_ 19 (.slice ((sv0 0).1) x0.Parts.length ((sv0 0).2)), ⟨4, [], .f (.func 236) [.inr (2, 0)] []⟩, p_ 3 2 0, p_ 2 1 0, p_ 1 0 0] [((((kd_Config).cells x0 sv0).map EV.v), 29), ([.v (.int .i64 0), .v (.slice none 0 0), .v (.int .i64 0)], 308), ([.v (.int .i64 s1.2.1), .v (.slice A_42 (s1.2.2.1 ++ [(⟨s1.2.2.2, (rd x0.Parts s1.1).Private⟩ : Span)]).length c_43), .v (.int .i64 (IntKind.i64.wrap (s1.2.2.2 + ((rd x0.Parts s1.1).Private))))], 308), ((((kd_Part).cells (rd x0.Parts s1.1) sv_26).map EV.v), 155)]) (by kernel_rfl) (fun ns_52 a w_53 hI => ?_)
     refine then_normal ?_
     obtain ⟨hE', hmv, hmr⟩ := Ep.rebase hE hI
     replace hx0 := Kd.keep _ hx0 (hmv _)
     replace hE_28 := El.keep hE_28 (hmv _)
     replace hq_37 := Arr.keep hq_37 (hmv _)
     replace hq_16 := Row.keep hq_16 (hmv _) (fun b hb => hmr b (by simp [hb]))
     replace hE := hE'; replace hI := hI.rebase; clear hE' hmv hmr
     obtain rfl := Option.some.inj H1
     exact ⟨_, rfl, ⟨_, _, _, _, hx0, hq_16, hE, hI.pick [21, 20, 19, 4, 3, 2, 1] 3 (s_ [e_ 21 (.int .i64 (IntKind.i64.wrap (s1.1 + 1))), e_ 20 (.int .i64 (x0.Parts.length : Int)), e_ 19 (.slice ((sv0 0).1) x0.Parts.length ((sv0 0).2)), ⟨4, [], .f (.func 236) [.inr (2, 0)] []⟩, p_ 3 2 0, p_ 2 1 0, p_ 1 0 0] [((((kd_Config).cells x0 sv0).map EV.v), 29), ([.v (.int .i64 0), .v (.slice none 0 0), .v (.int .i64 0)], 308), ([.v (.int .i64 s1.2.1), .v (.slice A_42 (s1.2.2.1 ++ [(⟨s1.2.2.2, (rd x0.Parts s1.1).Private⟩ : Span)]).length c_43), .v (.int .i64 (IntKind.i64.wrap (s1.2.2.2 + ((rd x0.Parts s1.1).Private))))], 308)]) (by kernel_rfl)⟩⟩
    ·replace H1 := bif_f hc_24 H1
     refine wpIn_exit ?_
     refine then_exit ?_
     refine then_exit ?_
     obtain ⟨hE', hmv, hmr⟩ := Ep.rebase hE hI
     replace hx0 := Kd.keep _ hx0 (hmv _)
     replace hq_16 := Row.keep hq_16 (hmv _) (fun b hb => hmr b (by simp [hb]))
     replace hE := hE'; replace hI := hI.rebase; clear hE' hmv hmr
     obtain rfl := Option.some.inj H1
     exact .inl ⟨_, rfl, rfl, ⟨_, _, _, _, hx0, hq_16, hE, hI.pick [21, 20, 19, 4, 3, 2, 1] 3 (s_ [e_ 21 (.int .i64 s1.1), e_ 20 (.int .i64 (x0.Parts.length : Int)), e_ 19 (.slice ((sv0 0).1) x0.Parts.length ((sv0 0).2)), ⟨4, [], .f (.func 236) [.inr (2, 0)] []⟩, p_ 3 2 0, p_ 2 1 0, p_ 1 0 0] [((((kd_Config).cells x0 sv0).map EV.v), 29), ([.v (.int .i64 0), .v (.slice none 0 0), .v (.int .i64 0)], 308), ([.v (.int .i64 s1.2.1), .v (.slice A_17 s1.2.2.1.length c_18), .v (.int .i64 s1.2.2.2)], 308)]) (by kernel_rfl)⟩⟩
   ·clear hI hE
    rintro s1 a w_56 ho ⟨ow_58, ns_57, A_17, c_18, hx0, hq_16, hE, hI⟩
    subst ho
    replace H0 : (((loopω (G_layout_of.b2 x0 t_3 s1) (0, s1.2.1, s1.2.2.1, s1.2.2.2)).bind fun o => o.on (fun s2 => some (⟨s2.2.1, s2.2.2.1, s2.2.2.2⟩ : Layout_plan)) (fun r => some r)) : Option (Layout_plan)) = _ := H0
    refine then_normal ?_
    refine wpIn_seq ?_
    refine sr0_ hF hI (s_ [e_ 33 (.int .i64 0), e_ 32 (.int .i64 (x0.Chans.length : Int)), e_ 31 (.slice ((sv0 1).1) x0.Chans.length ((sv0 1).2)), ⟨4, [], .f (.func 236) [.inr (2, 0)] []⟩, p_ 3 2 0, p_ 2 1 0] [((((kd_Config).cells x0 sv0).map EV.v), 29), ([.v (.int .i64 0), .v (.slice none 0 0), .v (.int .i64 0)], 308), ([.v (.int .i64 s1.2.1), .v (.slice A_17 s1.2.2.1.length c_18), .v (.int .i64 s1.2.2.2)], 308)]) (by kernel_rfl) (fun ns_59 a w_60 hI => ?_)
    obtain ⟨hE', hmv, hmr⟩ := Ep.rebase hE hI
    replace hx0 := Kd.keep _ hx0 (hmv _)
    replace hq_16 := Row.keep hq_16 (hmv _) (fun b hb => hmr b (by simp [hb]))
    replace hE := hE'; replace hI := hI.rebase; clear hE' hmv hmr
    obtain ⟨o_121, hL_122, H0⟩ := bind_some H0
    refine block_loop (fun (s2 : Int × Int × (List Span) × Int) a w_129 => ∃ (ow ns : List Nat) (A_61 : Option Addr) (c_62 : Nat), ((kd_Config).cont (Lo S w w_129 ow [rb A_61]) w_129 x0 sv0) ∧ (Row kd_Span 167 (Lo S w w_129 ow [rb A_61]) w_129 w.heap.size A_61 c_62 s2.2.2.1) ∧ Ep [] w w_129 ow [rb A_61] ∧ St w_129 ow 45 (s_ [e_ 33 (.int .i64 s2.1), e_ 32 (.int .i64 (x0.Chans.length : Int)), e_ 31 (.slice ((sv0 1).1) x0.Chans.length ((sv0 1).2)), ⟨4, [], .f (.func 236) [.inr (2, 0)] []⟩, p_ 3 2 0, p_ 2 1 0] [((((kd_Config).cells x0 sv0).map EV.v), 29), ([.v (.int .i64 0), .v (.slice none 0 0), .v (.int .i64 0)], 308), ([.v (.int .i64 s2.2.1), .v (.slice A_61 s2.2.2.1.length c_62), .v (.int .i64 s2.2.2.2)], 308)]) ns a w_129) (0, s1.2.1, s1.2.2.1, s1.2.2.2) hL_122 ⟨_, _, _, _, hx0, hq_16, hE, hI.pick [33, 32, 31, 4, 3, 2] 3 (s_ [e_ 33 (.int .i64 0), e_ 32 (.int .i64 (x0.Chans.length : Int)), e_ 31 (.slice ((sv0 1).1) x0.Chans.length ((sv0 1).2)), ⟨4, [], .f (.func 236) [.inr (2, 0)] []⟩, p_ 3 2 0, p_ 2 1 0] [((((kd_Config).cells x0 sv0).map EV.v), 29), ([.v (.int .i64 0), .v (.slice none 0 0), .v (.int .i64 0)], 308), ([.v (.int .i64 s1.2.1), .v (.slice A_17 s1.2.2.1.length c_18), .v (.int .i64 s1.2.2.2)], 308)]) (by kernel_rfl)⟩ ?_ ?_
    ·clear hI hE
     rintro s2 a w_63 ⟨ow_65, ns_64, A_61, c_62, hx0, hq_16, hE, hI⟩ r2 H1
     unfold G_layout_of.b2 at H1
     refine sr0_ hF hI (s_ [e_ 34 (.bool (decide (s2.1 < (x0.Chans.length : Int)))), e_ 33 (.int .i64 s2.1), e_ 32 (.int .i64 (x0.Chans.length : Int)), e_ 31 (.slice ((sv0 1).1) x0.Chans.length ((sv0 1).2)), ⟨4, [], .f (.func 236) [.inr (2, 0)] []⟩, p_ 3 2 0, p_ 2 1 0] [((((kd_Config).cells x0 sv0).map EV.v), 29), ([.v (.int .i64 0), .v (.slice none 0 0), .v (.int .i64 0)], 308), ([.v (.int .i64 s2.2.1), .v (.slice A_61 s2.2.2.1.length c_62), .v (.int .i64 s2.2.2.2)], 308)]) (by kernel_rfl) (fun ns_66 a w_67 hI => ?_)
     refine wpIn_seq ?_
     refine cond_ hI (decide (s2.1 < (x0.Chans.length : Int))) rfl (fun hc_68 => ?_) (fun hc_68 => ?_)
     ·replace H1 := bif_t hc_68 H1
      refine wpIn_skip ?_
      refine then_normal ?_
      refine wpIn_seq ?_
      refine wpIn_block ?_
      obtain ⟨hN_69, H1⟩ := req_some H1
      obtain ⟨sv_70, hE_72, hA_71⟩ := Arr.elB (d := kd_Chan) hx0.2.1.1 s2.1 true (fun _ => hN_69)
      replace hE_72 := hE_72 rfl
      replace hA_71 := fun (_ : true = true) => hA_71 rfl
      refine sr_ (orc := [(kd_Chan).cells (rd x0.Chans s2.1) sv_70]) hF hI (s_ [p_ 8 3 0, e_ 33 (.int .i64 s2.1), e_ 32 (.int .i64 (x0.Chans.length : Int)), e_ 31 (.slice ((sv0 1).1) x0.Chans.length ((sv0 1).2)), ⟨4, [], .f (.func 236) [.inr (2, 0)] []⟩, p_ 3 2 0, p_ 2 1 0] [((((kd_Config).cells x0 sv0).map EV.v), 29), ([.v (.int .i64 0), .v (.slice none 0 0), .v (.int .i64 0)], 308), ([.v (.int .i64 s2.2.1), .v (.slice A_61 s2.2.2.1.length c_62), .v (.int .i64 s2.2.2.2)], 308), ((((kd_Chan).cells (rd x0.Chans s2.1) sv_70).map EV.v), 86)]) [.need true ((0 : Int) ≤ s2.1 ∧ s2.1 < (x0.Chans.length : Int)), .need true ((sv0 1).1 = some (adr ((sv0 1).1))), .cell true ((adr ((sv0 1).1)).add ((s2.1 : Int).toNat * 7)) ((kd_Chan).cells (rd x0.Chans s2.1) sv_70)] (by kernel_rfl) ⟨ob_inb (fun _ => hN_69), hA_71, ob_el (fun _ => hE_72) 0 ((kd_Chan).cells (rd x0.Chans s2.1) sv_70) rfl, trivial⟩ (fun ns_73 a w_74 hI => ?_)
      refine wpIn_seq ?_
      refine wpIn_region_lit ?_
      obtain ⟨t_75, hG_76, H1⟩ := bind_some H1
      refine ck_ (orc := [[.int .i64 t_75]]) hF 3 hI (s_ [e_ 39 (.int .i64 t_75), ⟨37, [], .f (.func 236) [.inr (2, 0)] []⟩, e_ 33 (.int .i64 s2.1), e_ 32 (.int .i64 (x0.Chans.length : Int)), e_ 31 (.slice ((sv0 1).1) x0.Chans.length ((sv0 1).2)), ⟨4, [], .f (.func 236) [.inr (2, 0)] []⟩, p_ 3 2 0, p_ 2 1 0] [((((kd_Config).cells x0 sv0).map EV.v), 29), ([.v (.int .i64 0), .v (.slice none 0 0), .v (.int .i64 0)], 308), ([.v (.int .i64 s2.2.1), .v (.slice A_61 s2.2.2.1.length c_62), .v (.int .i64 s2.2.2.2)], 308), ((((kd_Chan).cells (rd x0.Chans s2.1) sv_70).map EV.v), 86)]) [.call true 237 [.agg ((kd_Chan).cells (rd x0.Chans s2.1) (svL [])).toArray] (.int .i64 t_75)] rfl (by kernel_rfl) ⟨ob_call (enters Tryz.func237 (by kernel_rfl) rfl) (fun hg wz hk => G_layout_sized.calls (rd x0.Chans s2.1) (svL []) wz (S := fun _ => True) (Kd.any _ (Kd.keep kd_Chan (contI (S := Lo S w w_63 ow_65 [rb A_61]) (w := w_63) (d := kd_Chan) (x := (rd x0.Chans s2.1)) (sv := (svL [])) trivial) (Lo.on hk))) _ hG_76), trivial⟩ (fun ns_77 a w_78 hI => ?_)
      obtain ⟨hE', hmv, hmr⟩ := Ep.rebase hE hI
      replace hx0 := Kd.keep _ hx0 (hmv _)
      replace hq_16 := Row.keep hq_16 (hmv _) (fun b hb => hmr b (by simp [hb]))
      replace hE_72 := El.keep hE_72 (hmv _)
      replace hE := hE'; replace hI := hI.rebase; clear hE' hmv hmr
      refine callI_ hF hI (wanted_none rfl) rfl Tryz.func236 (by kernel_rfl) rfl (n' := 27) rfl (by kernel_rfl) (by kernel_rfl) (fun au_79 hIu_79 => ?_)
      have hOu_79 := hI
      have hFu_79 := hF
      have hF : FOpen Fence.wide := .inl rfl
      have hI : St w_78 ns_77 27 ⟨[p_ 0 2 0, e_ 1 (.int .i64 t_75)], [], [], [((((kd_Config).cells x0 sv0).map EV.v), 29), ([.v (.int .i64 0), .v (.slice none 0 0), .v (.int .i64 0)], 308), ([.v (.int .i64 s2.2.1), .v (.slice A_61 s2.2.2.1.length c_62), .v (.int .i64 s2.2.2.2)], 308), ((((kd_Chan).cells (rd x0.Chans s2.1) sv_70).map EV.v), 86)], none, some (4, ns_77)⟩ ns_77 au_79 w_78 := hIu_79
      clear hIu_79
      refine wpIn_seq ?_
      replace hI := hI.fin (live := [0, 1]) (σ2 := ⟨[p_ 0 2 0, e_ 1 (.int .i64 t_75)], [], [], [((((kd_Config).cells x0 sv0).map EV.v), 29), ([.v (.int .i64 0), .v (.slice none 0 0), .v (.int .i64 0)], 308), ([.v (.int .i64 s2.2.1), .v (.slice A_61 s2.2.2.1.length c_62), .v (.int .i64 s2.2.2.2)], 308), ((((kd_Chan).cells (rd x0.Chans s2.1) sv_70).map EV.v), 86)], none, some (4, ns_77)⟩) (by kernel_rfl)
      refine drawnS_ hI (by kernel_rfl) [.q 4 (.p 2 0) [], .q 5 (.p 2 0) [], .q 6 (.p 2 0) [], .q 7 (.p 2 1) [], .q 8 (.v (.slice A_61 s2.2.2.1.length c_62)) [], .q 9 (.p 2 0) [], .q 10 (.p 2 0) [], .q 11 (.p 2 2) [], .q 12 (.v (.int .i64 s2.2.2.2)) [], .q 13 (.v (.int .i64 t_75)) [], .q 14 (.v (.agg #[.int .i64 s2.2.2.2, .int .i64 t_75])) [], .no, .no, .q 17 (.p 2 0) [], .q 18 (.p 2 1) [], .no] (by kernel_rfl) (fun fuel listed w_80 hJ hsz hu => ?_)
      refine stage_ hJ hF hsz hu [.q [] [], .q [] [], .q [1] [], .q [2] [], .q [3] [], .q [] [], .q [5] [], .q [6] [], .q [7] [], .q [] [], .q [8, 9] [], .no, .no, .q [0] [], .q [13] [], .no] (by kernel_rfl) (by kernel_rfl) (by kernel_rfl) (by kernel_rfl) 11 rfl (by kernel_rfl) (by kernel_rfl) [10] rfl (by kernel_rfl) (by kernel_rfl) trivial [10] (by kernel_rfl) [.q 4 (.p 2 0) [], .q 5 (.p 2 0) [], .q 6 (.p 2 0) [], .q 7 (.p 2 1) [], .q 8 (.v (.slice A_61 s2.2.2.1.length c_62)) [], .q 9 (.p 2 0) [], .q 10 (.p 2 0) [], .q 11 (.p 2 2) [], .q 12 (.v (.int .i64 s2.2.2.2)) [], .q 13 (.v (.int .i64 t_75)) [], .t (some 14) (some (.v (.agg #[.int .i64 s2.2.2.2, .int .i64 t_75]))), .no, .no, .q 17 (.p 2 0) [], .q 18 (.p 2 1) [], .no] (by kernel_rfl) (fun fuel listed a w_81 hJ hI hW h1 hnl hsz hu => ?_)
      obtain ⟨hE', hmv, hmr⟩ := Ep.rebase hE hI
      replace hx0 := Kd.keep _ hx0 (hmv _)
      replace hq_16 := Row.keep hq_16 (hmv _) (fun b hb => hmr b (by simp [hb]))
      replace hE_72 := El.keep hE_72 (hmv _)
      replace hE := hE'; replace hI := hI.rebase; clear hE' hmv hmr
      refine buildSlice_ (S0 := S) (d := kd_Span) (e := 167) hF hE hI hW rfl (by kernel_rfl) (cs := [.int .i64 s2.2.2.2, .int .i64 t_75]) (by kernel_rfl) [(⟨s2.2.2.2, t_75⟩ : Span)] [(svL [])] rfl rfl (by simp [maxLen]) (fun i x hi => by cases i with | zero => (simp only [List.getElem?_cons_zero, Option.some.injEq] at hi; subst hi; exact ⟨trivial, rfl⟩) | succ i => (simp only [List.getElem?_cons_succ] at hi; simp at hi)) (fun A_82 => ⟨[e_ 15 (.slice A_82 ([(⟨s2.2.2.2, t_75⟩ : Span)] : List Span).length (([(⟨s2.2.2.2, t_75⟩ : Span)] : List Span).length)), e_ 14 (.agg #[.int .i64 s2.2.2.2, .int .i64 t_75]), p_ 0 2 0, e_ 1 (.int .i64 t_75)], [], [], [((((kd_Config).cells x0 sv0).map EV.v), 29), ([.v (.int .i64 0), .v (.slice none 0 0), .v (.int .i64 0)], 308), ([.v (.int .i64 s2.2.1), .v (.slice A_61 s2.2.2.1.length c_62), .v (.int .i64 s2.2.2.2)], 308), ((((kd_Chan).cells (rd x0.Chans s2.1) sv_70).map EV.v), 86)], none, some (4, ns_77)⟩) (fun A_82 => by kernel_rfl) (fun A_82 a w_84 hput hE' hI' hmv hmr hq_83 => ?_)
      replace hx0 := Kd.keep _ hx0 (hmv _)
      replace hq_16 := Row.keep hq_16 (hmv _) (fun b hb => hmr b (by simp [hb]) (by simp))
      replace hE_72 := El.keep hE_72 (hmv _)
      replace hE := hE'; replace hI := hI'; clear hE' hI' hmv hmr
      refine next_ hJ h1 hnl hsz hu (by kernel_rfl) (by kernel_rfl) hput hI (live := [0, 1]) ⟨[p_ 0 2 0, e_ 1 (.int .i64 t_75)], [], [], [((((kd_Config).cells x0 sv0).map EV.v), 29), ([.v (.int .i64 0), .v (.slice none 0 0), .v (.int .i64 0)], 308), ([.v (.int .i64 s2.2.1), .v (.slice A_61 s2.2.2.1.length c_62), .v (.int .i64 s2.2.2.2)], 308), ((((kd_Chan).cells (rd x0.Chans s2.1) sv_70).map EV.v), 86)], none, some (4, ns_77)⟩ (by kernel_rfl) (some (.v (.slice A_82 ([(⟨s2.2.2.2, t_75⟩ : Span)] : List Span).length (([(⟨s2.2.2.2, t_75⟩ : Span)] : List Span).length)))) (by kernel_rfl) [] [.q 4 (.p 2 0) [], .q 5 (.p 2 0) [], .q 6 (.p 2 0) [], .q 7 (.p 2 1) [], .q 8 (.v (.slice A_61 s2.2.2.1.length c_62)) [], .q 9 (.p 2 0) [], .q 10 (.p 2 0) [], .q 11 (.p 2 2) [], .q 12 (.v (.int .i64 s2.2.2.2)) [], .q 13 (.v (.int .i64 t_75)) [], .t (some 14) (some (.v (.agg #[.int .i64 s2.2.2.2, .int .i64 t_75]))), .t (some 15) (some (.v (.slice A_82 ([(⟨s2.2.2.2, t_75⟩ : Span)] : List Span).length (([(⟨s2.2.2.2, t_75⟩ : Span)] : List Span).length)))), .no, .q 17 (.p 2 0) [], .q 18 (.p 2 1) [], .no] (by kernel_rfl) (by kernel_rfl) (by kernel_rfl) True.intro (AL.none (by kernel_rfl)) (fun hJ hsz hu => ?_)
      refine stage_ hJ hF hsz hu [.q [] [], .q [] [], .q [1] [], .q [2] [], .q [3] [], .q [] [], .q [5] [], .q [6] [], .q [7] [], .q [] [], .t (some (.v (.agg #[.int .i64 s2.2.2.2, .int .i64 t_75]))), .t (some (.v (.slice A_82 ([(⟨s2.2.2.2, t_75⟩ : Span)] : List Span).length (([(⟨s2.2.2.2, t_75⟩ : Span)] : List Span).length)))), .no, .q [0] [], .q [13] [], .no] (by kernel_rfl) (by kernel_rfl) (by kernel_rfl) (by kernel_rfl) 12 rfl (by kernel_rfl) (by kernel_rfl) [4, 11] rfl (by kernel_rfl) (by kernel_rfl) trivial [4] (by kernel_rfl) [.q 4 (.p 2 0) [], .q 5 (.p 2 0) [], .q 6 (.p 2 0) [], .q 7 (.p 2 1) [], .t (some 8) (some (.v (.slice A_61 s2.2.2.1.length c_62))), .q 9 (.p 2 0) [], .q 10 (.p 2 0) [], .q 11 (.p 2 2) [], .q 12 (.v (.int .i64 s2.2.2.2)) [], .q 13 (.v (.int .i64 t_75)) [], .t (some 14) (some (.v (.agg #[.int .i64 s2.2.2.2, .int .i64 t_75]))), .t (some 15) (some (.v (.slice A_82 ([(⟨s2.2.2.2, t_75⟩ : Span)] : List Span).length (([(⟨s2.2.2.2, t_75⟩ : Span)] : List Span).length)))), .no, .q 17 (.p 2 0) [], .q 18 (.p 2 1) [], .no] (by kernel_rfl) (fun fuel listed a w_85 hJ hI hW h1 hnl hsz hu => ?_)
      obtain ⟨hE', hmv, hmr⟩ := Ep.rebase hE hI
      replace hx0 := Kd.keep _ hx0 (hmv _)
      replace hq_16 := Row.keep hq_16 (hmv _) (fun b hb => hmr b (by simp [hb]))
      replace hE_72 := El.keep hE_72 (hmv _)
      replace hq_83 := Row.keep hq_83 (hmv _) (fun b hb => hmr b (by simp [hb]))
      replace hE := hE'; replace hI := hI.rebase; clear hE' hmv hmr
      obtain ⟨hE', hmv, hq_83, hcap_86⟩ := Row.still (l1 := [rb A_61]) (l2 := []) hq_83 (Nat.le_refl _) hE
      have hmr := hmr_ ([rb A_61, rb A_82] : List (List Nat)) w_85
      replace hx0 := Kd.keep _ hx0 (hmv _)
      replace hq_16 := Row.keep hq_16 (hmv _) (fun b hb => hmr b (by simp [hb]))
      replace hE_72 := El.keep hE_72 (hmv _)
      replace hE := hE'
      clear hE' hmv hmr
      obtain ⟨hN_87, H1⟩ := req_some H1
      replace hN_87 := of_decide_eq_true hN_87
      refine append_ (S0 := S) (l1 := []) (l2 := []) (d := kd_Span) (e := 167) hF hE hI hW rfl (A := A_61) (c := c_62) (l := s2.2.2.1) rfl (A2 := A_82) (c2 := (([(⟨s2.2.2.2, t_75⟩ : Span)] : List Span).length)) rfl hq_16 hq_83 (fun sv u hu => by exact kd_one_Span _ sv u hu) Tryz.underlying306 (zi := (.agg #[.int .i64 0, .int .i64 0], 2, 16)) (by kernel_rfl) rfl (by kernel_rfl) (len_max (by decide) hN_87) hN_87 (fun A_88 c_89 => ⟨[e_ 16 (.slice A_88 (s2.2.2.1 ++ [(⟨s2.2.2.2, t_75⟩ : Span)]).length c_89), e_ 8 (.slice A_61 s2.2.2.1.length c_62), e_ 15 (.slice A_82 ([(⟨s2.2.2.2, t_75⟩ : Span)] : List Span).length (([(⟨s2.2.2.2, t_75⟩ : Span)] : List Span).length)), p_ 0 2 0, e_ 1 (.int .i64 t_75)], [], [], [((((kd_Config).cells x0 sv0).map EV.v), 29), ([.v (.int .i64 0), .v (.slice none 0 0), .v (.int .i64 0)], 308), ([.v (.int .i64 s2.2.1), .v (.slice A_61 s2.2.2.1.length c_62), .v (.int .i64 s2.2.2.2)], 308), ((((kd_Chan).cells (rd x0.Chans s2.1) sv_70).map EV.v), 86)], none, some (4, ns_77)⟩) (fun A_88 c_89 => by kernel_rfl) (fun A_88 c_89 a w_90 hput hE' hI' hmv hmr hq_16 => ?_)
      replace hx0 := Kd.keep _ hx0 (hmv _)
      replace hE_72 := El.keep hE_72 (hmv _)
      replace hq_83 := Arr.keep hq_83 (hmv _)
      replace hE := hE'; replace hI := hI'; clear hE' hI' hmv hmr
      refine next_ hJ h1 hnl hsz hu (by kernel_rfl) (by kernel_rfl) hput hI (live := [0, 1]) ⟨[p_ 0 2 0, e_ 1 (.int .i64 t_75)], [], [], [((((kd_Config).cells x0 sv0).map EV.v), 29), ([.v (.int .i64 0), .v (.slice none 0 0), .v (.int .i64 0)], 308), ([.v (.int .i64 s2.2.1), .v (.slice A_61 s2.2.2.1.length c_62), .v (.int .i64 s2.2.2.2)], 308), ((((kd_Chan).cells (rd x0.Chans s2.1) sv_70).map EV.v), 86)], none, some (4, ns_77)⟩ (by kernel_rfl) (some (.v (.slice A_88 (s2.2.2.1 ++ [(⟨s2.2.2.2, t_75⟩ : Span)]).length c_89))) (by kernel_rfl) [] [.q 4 (.p 2 0) [], .q 5 (.p 2 0) [], .q 6 (.p 2 0) [], .q 7 (.p 2 1) [], .t (some 8) (some (.v (.slice A_61 s2.2.2.1.length c_62))), .q 9 (.p 2 0) [], .q 10 (.p 2 0) [], .q 11 (.p 2 2) [], .q 12 (.v (.int .i64 s2.2.2.2)) [], .q 13 (.v (.int .i64 t_75)) [], .t (some 14) (some (.v (.agg #[.int .i64 s2.2.2.2, .int .i64 t_75]))), .t (some 15) (some (.v (.slice A_82 ([(⟨s2.2.2.2, t_75⟩ : Span)] : List Span).length (([(⟨s2.2.2.2, t_75⟩ : Span)] : List Span).length)))), .t (some 16) (some (.v (.slice A_88 (s2.2.2.1 ++ [(⟨s2.2.2.2, t_75⟩ : Span)]).length c_89))), .q 17 (.p 2 0) [], .q 18 (.p 2 1) [], .no] (by kernel_rfl) (by kernel_rfl) (by kernel_rfl) True.intro (AL.none (by kernel_rfl)) (fun hJ hsz hu => ?_)
      refine stage_ hJ hF hsz hu [.q [] [], .q [] [], .q [1] [], .q [2] [], .t (some (.v (.slice A_61 s2.2.2.1.length c_62))), .q [] [], .q [5] [], .q [6] [], .q [7] [], .q [] [], .t (some (.v (.agg #[.int .i64 s2.2.2.2, .int .i64 t_75]))), .t (some (.v (.slice A_82 ([(⟨s2.2.2.2, t_75⟩ : Span)] : List Span).length (([(⟨s2.2.2.2, t_75⟩ : Span)] : List Span).length)))), .t (some (.v (.slice A_88 (s2.2.2.1 ++ [(⟨s2.2.2.2, t_75⟩ : Span)]).length c_89))), .q [0] [], .q [13] [], .no] (by kernel_rfl) (by kernel_rfl) (by kernel_rfl) (by kernel_rfl) 15 rfl (by kernel_rfl) (by kernel_rfl) [14, 12] rfl (by kernel_rfl) (by kernel_rfl) trivial [0, 1, 2, 3, 5, 6, 7, 8, 9, 14] (by kernel_rfl) [.t (some 4) (some (.p 2 0)), .t (some 5) (some (.p 2 0)), .t (some 6) (some (.p 2 0)), .t (some 7) (some (.p 2 1)), .t (some 8) (some (.v (.slice A_61 s2.2.2.1.length c_62))), .t (some 9) (some (.p 2 0)), .t (some 10) (some (.p 2 0)), .t (some 11) (some (.p 2 2)), .t (some 12) (some (.v (.int .i64 s2.2.2.2))), .t (some 13) (some (.v (.int .i64 t_75))), .t (some 14) (some (.v (.agg #[.int .i64 s2.2.2.2, .int .i64 t_75]))), .t (some 15) (some (.v (.slice A_82 ([(⟨s2.2.2.2, t_75⟩ : Span)] : List Span).length (([(⟨s2.2.2.2, t_75⟩ : Span)] : List Span).length)))), .t (some 16) (some (.v (.slice A_88 (s2.2.2.1 ++ [(⟨s2.2.2.2, t_75⟩ : Span)]).length c_89))), .q 17 (.p 2 0) [], .t (some 18) (some (.p 2 1)), .no] (by kernel_rfl) (fun fuel listed a w_91 hJ hI hW h1 hnl hsz hu => ?_)
      refine store_ hF hI hW rfl rfl (k := 2) (cs := [.v (.int .i64 s2.2.1), .v (.slice A_88 (s2.2.2.1 ++ [(⟨s2.2.2.2, t_75⟩ : Span)]).length c_89), .v (.int .i64 s2.2.2.2)]) (T := 308) (by kernel_rfl) (by kernel_rfl) rfl (fun a w_92 hput hI => ?_)
      refine next_ hJ h1 hnl hsz hu (by kernel_rfl) (by kernel_rfl) hput hI (live := [0, 1]) ⟨[p_ 0 2 0, e_ 1 (.int .i64 t_75)], [], [], [((((kd_Config).cells x0 sv0).map EV.v), 29), ([.v (.int .i64 0), .v (.slice none 0 0), .v (.int .i64 0)], 308), ([.v (.int .i64 s2.2.1), .v (.slice A_88 (s2.2.2.1 ++ [(⟨s2.2.2.2, t_75⟩ : Span)]).length c_89), .v (.int .i64 s2.2.2.2)], 308), ((((kd_Chan).cells (rd x0.Chans s2.1) sv_70).map EV.v), 86)], none, some (4, ns_77)⟩ (by kernel_rfl) none (by kernel_rfl) [] [.t (some 4) (some (.p 2 0)), .t (some 5) (some (.p 2 0)), .t (some 6) (some (.p 2 0)), .t (some 7) (some (.p 2 1)), .t (some 8) (some (.v (.slice A_61 s2.2.2.1.length c_62))), .t (some 9) (some (.p 2 0)), .t (some 10) (some (.p 2 0)), .t (some 11) (some (.p 2 2)), .t (some 12) (some (.v (.int .i64 s2.2.2.2))), .t (some 13) (some (.v (.int .i64 t_75))), .t (some 14) (some (.v (.agg #[.int .i64 s2.2.2.2, .int .i64 t_75]))), .t (some 15) (some (.v (.slice A_82 ([(⟨s2.2.2.2, t_75⟩ : Span)] : List Span).length (([(⟨s2.2.2.2, t_75⟩ : Span)] : List Span).length)))), .t (some 16) (some (.v (.slice A_88 (s2.2.2.1 ++ [(⟨s2.2.2.2, t_75⟩ : Span)]).length c_89))), .q 17 (.p 2 0) [], .t (some 18) (some (.p 2 1)), .t none none] (by kernel_rfl) (by kernel_rfl) (by kernel_rfl) True.intro (AL.none (by kernel_rfl)) (fun hJ hsz hu => ?_)
      refine end_ hJ hF hsz hu [.t (some (.p 2 0)), .t (some (.p 2 0)), .t (some (.p 2 0)), .t (some (.p 2 1)), .t (some (.v (.slice A_61 s2.2.2.1.length c_62))), .t (some (.p 2 0)), .t (some (.p 2 0)), .t (some (.p 2 2)), .t (some (.v (.int .i64 s2.2.2.2))), .t (some (.v (.int .i64 t_75))), .t (some (.v (.agg #[.int .i64 s2.2.2.2, .int .i64 t_75]))), .t (some (.v (.slice A_82 ([(⟨s2.2.2.2, t_75⟩ : Span)] : List Span).length (([(⟨s2.2.2.2, t_75⟩ : Span)] : List Span).length)))), .t (some (.v (.slice A_88 (s2.2.2.1 ++ [(⟨s2.2.2.2, t_75⟩ : Span)]).length c_89))), .q [0] [], .t (some (.p 2 1)), .t none] (by kernel_rfl) (by kernel_rfl) (by kernel_rfl) (by kernel_rfl) (by kernel_rfl) (by kernel_rfl) (live := [0, 1]) ⟨[p_ 0 2 0, e_ 1 (.int .i64 t_75)], [], [], [((((kd_Config).cells x0 sv0).map EV.v), 29), ([.v (.int .i64 0), .v (.slice none 0 0), .v (.int .i64 0)], 308), ([.v (.int .i64 s2.2.1), .v (.slice A_88 (s2.2.2.1 ++ [(⟨s2.2.2.2, t_75⟩ : Span)]).length c_89), .v (.int .i64 s2.2.2.2)], 308), ((((kd_Chan).cells (rd x0.Chans s2.1) sv_70).map EV.v), 86)], none, some (4, ns_77)⟩ (by kernel_rfl) trivial (fun a w_93 hI => ?_)
      refine then_normal ?_
      refine region_ (live := []) (orc := []) hF hI ⟨[], [], [], [((((kd_Config).cells x0 sv0).map EV.v), 29), ([.v (.int .i64 0), .v (.slice none 0 0), .v (.int .i64 0)], 308), ([.v (.int .i64 s2.2.1), .v (.slice A_88 (s2.2.2.1 ++ [(⟨s2.2.2.2, t_75⟩ : Span)]).length c_89), .v (.int .i64 (IntKind.i64.wrap (s2.2.2.2 + t_75)))], 308), ((((kd_Chan).cells (rd x0.Chans s2.1) sv_70).map EV.v), 86)], none, some (4, ns_77)⟩ [] (by kernel_rfl) trivial (fun ns_94 a w_95 hI _ => ?_)
      obtain ⟨hE', hmv, hmr⟩ := Ep.rebase hE hI
      replace hx0 := Kd.keep _ hx0 (hmv _)
      replace hE_72 := El.keep hE_72 (hmv _)
      replace hq_83 := Arr.keep hq_83 (hmv _)
      replace hq_16 := Row.keep hq_16 (hmv _) (fun b hb => hmr b (by simp [hb]))
      replace hE := hE'; replace hI := hI.rebase; clear hE' hmv hmr
      obtain ⟨hE', hI', hmv⟩ := Ep.uncall (bs := [((((kd_Config).cells x0 sv0).map EV.v), 29), ([.v (.int .i64 0), .v (.slice none 0 0), .v (.int .i64 0)], 308), ([.v (.int .i64 s2.2.1), .v (.slice A_88 (s2.2.2.1 ++ [(⟨s2.2.2.2, t_75⟩ : Span)]).length c_89), .v (.int .i64 (IntKind.i64.wrap (s2.2.2.2 + t_75)))], 308), ((((kd_Chan).cells (rd x0.Chans s2.1) sv_70).map EV.v), 86)]) hOu_79 hE hI rfl rfl rfl rfl (by kernel_rfl) rfl
      have hmr := hmr_ ([rb A_88] : List (List Nat)) w_95
      replace hx0 := Kd.keep _ hx0 (hmv _)
      replace hE_72 := El.keep hE_72 (hmv _)
      replace hq_83 := Arr.keep hq_83 (hmv _)
      replace hq_16 := Row.keep hq_16 (hmv _) (fun b hb => hmr b (by simp [hb]))
      replace hE := hE'
      clear hE' hmv hmr
      refine retN (retG hI rfl rfl ⟨.tuple #[], rfl, ?_⟩)
      refine putI_ hI' (s_ [e_ 40 (.tuple #[]), e_ 39 (.int .i64 t_75), ⟨37, [], .f (.func 236) [.inr (2, 0)] []⟩, e_ 33 (.int .i64 s2.1), e_ 32 (.int .i64 (x0.Chans.length : Int)), e_ 31 (.slice ((sv0 1).1) x0.Chans.length ((sv0 1).2)), ⟨4, [], .f (.func 236) [.inr (2, 0)] []⟩, p_ 3 2 0, p_ 2 1 0] [((((kd_Config).cells x0 sv0).map EV.v), 29), ([.v (.int .i64 0), .v (.slice none 0 0), .v (.int .i64 0)], 308), ([.v (.int .i64 s2.2.1), .v (.slice A_88 (s2.2.2.1 ++ [(⟨s2.2.2.2, t_75⟩ : Span)]).length c_89), .v (.int .i64 (IntKind.i64.wrap (s2.2.2.2 + t_75)))], 308), ((((kd_Chan).cells (rd x0.Chans s2.1) sv_70).map EV.v), 86)]) (by kernel_rfl) (fun a hI => ?_)
      clear hI'
      have hF := hFu_79
      refine ck0_ hF 0 hI (s_ [e_ 33 (.int .i64 s2.1), e_ 32 (.int .i64 (x0.Chans.length : Int)), e_ 31 (.slice ((sv0 1).1) x0.Chans.length ((sv0 1).2)), ⟨4, [], .f (.func 236) [.inr (2, 0)] []⟩, p_ 3 2 0, p_ 2 1 0] [((((kd_Config).cells x0 sv0).map EV.v), 29), ([.v (.int .i64 0), .v (.slice none 0 0), .v (.int .i64 0)], 308), ([.v (.int .i64 s2.2.1), .v (.slice A_88 (s2.2.2.1 ++ [(⟨s2.2.2.2, t_75⟩ : Span)]).length c_89), .v (.int .i64 (IntKind.i64.wrap (s2.2.2.2 + t_75)))], 308), ((((kd_Chan).cells (rd x0.Chans s2.1) sv_70).map EV.v), 86)]) rfl (by kernel_rfl) (fun ns_96 a w_97 hI => ?_)
      refine wpListIn_nil ?_
      refine then_normal ?_
      refine wpIn_region_lit ?_
      refine ck0_ hF 1 hI (s_ [⟨41, [], .f (.func 236) [.inr (2, 0)] []⟩, e_ 33 (.int .i64 s2.1), e_ 32 (.int .i64 (x0.Chans.length : Int)), e_ 31 (.slice ((sv0 1).1) x0.Chans.length ((sv0 1).2)), ⟨4, [], .f (.func 236) [.inr (2, 0)] []⟩, p_ 3 2 0, p_ 2 1 0] [((((kd_Config).cells x0 sv0).map EV.v), 29), ([.v (.int .i64 0), .v (.slice none 0 0), .v (.int .i64 0)], 308), ([.v (.int .i64 s2.2.1), .v (.slice A_88 (s2.2.2.1 ++ [(⟨s2.2.2.2, t_75⟩ : Span)]).length c_89), .v (.int .i64 (IntKind.i64.wrap (s2.2.2.2 + t_75)))], 308), ((((kd_Chan).cells (rd x0.Chans s2.1) sv_70).map EV.v), 86)]) rfl (by kernel_rfl) (fun ns_98 a w_99 hI => ?_)
      obtain ⟨hE', hmv, hmr⟩ := Ep.rebase hE hI
      replace hx0 := Kd.keep _ hx0 (hmv _)
      replace hE_72 := El.keep hE_72 (hmv _)
      replace hq_83 := Arr.keep hq_83 (hmv _)
      replace hq_16 := Row.keep hq_16 (hmv _) (fun b hb => hmr b (by simp [hb]))
      replace hE := hE'; replace hI := hI.rebase; clear hE' hmv hmr
      refine callI_ hF hI (wanted_none rfl) rfl Tryz.func236 (by kernel_rfl) rfl (n' := 27) rfl (by kernel_rfl) (by kernel_rfl) (fun au_100 hIu_100 => ?_)
      have hOu_100 := hI
      have hFu_100 := hF
      have hF : FOpen Fence.wide := .inl rfl
      have hI : St w_99 ns_98 27 ⟨[p_ 0 2 0, e_ 1 (.int .i64 1)], [], [], [((((kd_Config).cells x0 sv0).map EV.v), 29), ([.v (.int .i64 0), .v (.slice none 0 0), .v (.int .i64 0)], 308), ([.v (.int .i64 s2.2.1), .v (.slice A_88 (s2.2.2.1 ++ [(⟨s2.2.2.2, t_75⟩ : Span)]).length c_89), .v (.int .i64 (IntKind.i64.wrap (s2.2.2.2 + t_75)))], 308), ((((kd_Chan).cells (rd x0.Chans s2.1) sv_70).map EV.v), 86)], none, some (4, ns_98)⟩ ns_98 au_100 w_99 := hIu_100
      clear hIu_100
      refine wpIn_seq ?_
      replace hI := hI.fin (live := [0, 1]) (σ2 := ⟨[p_ 0 2 0, e_ 1 (.int .i64 1)], [], [], [((((kd_Config).cells x0 sv0).map EV.v), 29), ([.v (.int .i64 0), .v (.slice none 0 0), .v (.int .i64 0)], 308), ([.v (.int .i64 s2.2.1), .v (.slice A_88 (s2.2.2.1 ++ [(⟨s2.2.2.2, t_75⟩ : Span)]).length c_89), .v (.int .i64 (IntKind.i64.wrap (s2.2.2.2 + t_75)))], 308), ((((kd_Chan).cells (rd x0.Chans s2.1) sv_70).map EV.v), 86)], none, some (4, ns_98)⟩) (by kernel_rfl)
      refine drawnS_ hI (by kernel_rfl) [.q 4 (.p 2 0) [], .q 5 (.p 2 0) [], .q 6 (.p 2 0) [], .q 7 (.p 2 1) [], .q 8 (.v (.slice A_88 (s2.2.2.1 ++ [(⟨s2.2.2.2, t_75⟩ : Span)]).length c_89)) [], .q 9 (.p 2 0) [], .q 10 (.p 2 0) [], .q 11 (.p 2 2) [], .q 12 (.v (.int .i64 (IntKind.i64.wrap (s2.2.2.2 + t_75)))) [], .q 13 (.v (.int .i64 1)) [], .q 14 (.v (.agg #[.int .i64 (IntKind.i64.wrap (s2.2.2.2 + t_75)), .int .i64 1])) [], .no, .no, .q 17 (.p 2 0) [], .q 18 (.p 2 1) [], .no] (by kernel_rfl) (fun fuel listed w_101 hJ hsz hu => ?_)
      refine stage_ hJ hF hsz hu [.q [] [], .q [] [], .q [1] [], .q [2] [], .q [3] [], .q [] [], .q [5] [], .q [6] [], .q [7] [], .q [] [], .q [8, 9] [], .no, .no, .q [0] [], .q [13] [], .no] (by kernel_rfl) (by kernel_rfl) (by kernel_rfl) (by kernel_rfl) 11 rfl (by kernel_rfl) (by kernel_rfl) [10] rfl (by kernel_rfl) (by kernel_rfl) trivial [10] (by kernel_rfl) [.q 4 (.p 2 0) [], .q 5 (.p 2 0) [], .q 6 (.p 2 0) [], .q 7 (.p 2 1) [], .q 8 (.v (.slice A_88 (s2.2.2.1 ++ [(⟨s2.2.2.2, t_75⟩ : Span)]).length c_89)) [], .q 9 (.p 2 0) [], .q 10 (.p 2 0) [], .q 11 (.p 2 2) [], .q 12 (.v (.int .i64 (IntKind.i64.wrap (s2.2.2.2 + t_75)))) [], .q 13 (.v (.int .i64 1)) [], .t (some 14) (some (.v (.agg #[.int .i64 (IntKind.i64.wrap (s2.2.2.2 + t_75)), .int .i64 1]))), .no, .no, .q 17 (.p 2 0) [], .q 18 (.p 2 1) [], .no] (by kernel_rfl) (fun fuel listed a w_102 hJ hI hW h1 hnl hsz hu => ?_)
      obtain ⟨hE', hmv, hmr⟩ := Ep.rebase hE hI
      replace hx0 := Kd.keep _ hx0 (hmv _)
      replace hE_72 := El.keep hE_72 (hmv _)
      replace hq_83 := Arr.keep hq_83 (hmv _)
      replace hq_16 := Row.keep hq_16 (hmv _) (fun b hb => hmr b (by simp [hb]))
      replace hE := hE'; replace hI := hI.rebase; clear hE' hmv hmr
      refine buildSlice_ (S0 := S) (d := kd_Span) (e := 167) hF hE hI hW rfl (by kernel_rfl) (cs := [.int .i64 (IntKind.i64.wrap (s2.2.2.2 + t_75)), .int .i64 1]) (by kernel_rfl) [(⟨(IntKind.i64.wrap (s2.2.2.2 + t_75)), 1⟩ : Span)] [(svL [])] rfl rfl (by simp [maxLen]) (fun i x hi => by cases i with | zero => (simp only [List.getElem?_cons_zero, Option.some.injEq] at hi; subst hi; exact ⟨trivial, rfl⟩) | succ i => (simp only [List.getElem?_cons_succ] at hi; simp at hi)) (fun A_103 => ⟨[e_ 15 (.slice A_103 ([(⟨(IntKind.i64.wrap (s2.2.2.2 + t_75)), 1⟩ : Span)] : List Span).length (([(⟨(IntKind.i64.wrap (s2.2.2.2 + t_75)), 1⟩ : Span)] : List Span).length)), e_ 14 (.agg #[.int .i64 (IntKind.i64.wrap (s2.2.2.2 + t_75)), .int .i64 1]), p_ 0 2 0, e_ 1 (.int .i64 1)], [], [], [((((kd_Config).cells x0 sv0).map EV.v), 29), ([.v (.int .i64 0), .v (.slice none 0 0), .v (.int .i64 0)], 308), ([.v (.int .i64 s2.2.1), .v (.slice A_88 (s2.2.2.1 ++ [(⟨s2.2.2.2, t_75⟩ : Span)]).length c_89), .v (.int .i64 (IntKind.i64.wrap (s2.2.2.2 + t_75)))], 308), ((((kd_Chan).cells (rd x0.Chans s2.1) sv_70).map EV.v), 86)], none, some (4, ns_98)⟩) (fun A_103 => by kernel_rfl) (fun A_103 a w_105 hput hE' hI' hmv hmr hq_104 => ?_)
      replace hx0 := Kd.keep _ hx0 (hmv _)
      replace hE_72 := El.keep hE_72 (hmv _)
      replace hq_83 := Arr.keep hq_83 (hmv _)
      replace hq_16 := Row.keep hq_16 (hmv _) (fun b hb => hmr b (by simp [hb]) (by simp))
      replace hE := hE'; replace hI := hI'; clear hE' hI' hmv hmr
      refine next_ hJ h1 hnl hsz hu (by kernel_rfl) (by kernel_rfl) hput hI (live := [0, 1]) ⟨[p_ 0 2 0, e_ 1 (.int .i64 1)], [], [], [((((kd_Config).cells x0 sv0).map EV.v), 29), ([.v (.int .i64 0), .v (.slice none 0 0), .v (.int .i64 0)], 308), ([.v (.int .i64 s2.2.1), .v (.slice A_88 (s2.2.2.1 ++ [(⟨s2.2.2.2, t_75⟩ : Span)]).length c_89), .v (.int .i64 (IntKind.i64.wrap (s2.2.2.2 + t_75)))], 308), ((((kd_Chan).cells (rd x0.Chans s2.1) sv_70).map EV.v), 86)], none, some (4, ns_98)⟩ (by kernel_rfl) (some (.v (.slice A_103 ([(⟨(IntKind.i64.wrap (s2.2.2.2 + t_75)), 1⟩ : Span)] : List Span).length (([(⟨(IntKind.i64.wrap (s2.2.2.2 + t_75)), 1⟩ : Span)] : List Span).length)))) (by kernel_rfl) [] [.q 4 (.p 2 0) [], .q 5 (.p 2 0) [], .q 6 (.p 2 0) [], .q 7 (.p 2 1) [], .q 8 (.v (.slice A_88 (s2.2.2.1 ++ [(⟨s2.2.2.2, t_75⟩ : Span)]).length c_89)) [], .q 9 (.p 2 0) [], .q 10 (.p 2 0) [], .q 11 (.p 2 2) [], .q 12 (.v (.int .i64 (IntKind.i64.wrap (s2.2.2.2 + t_75)))) [], .q 13 (.v (.int .i64 1)) [], .t (some 14) (some (.v (.agg #[.int .i64 (IntKind.i64.wrap (s2.2.2.2 + t_75)), .int .i64 1]))), .t (some 15) (some (.v (.slice A_103 ([(⟨(IntKind.i64.wrap (s2.2.2.2 + t_75)), 1⟩ : Span)] : List Span).length (([(⟨(IntKind.i64.wrap (s2.2.2.2 + t_75)), 1⟩ : Span)] : List Span).length)))), .no, .q 17 (.p 2 0) [], .q 18 (.p 2 1) [], .no] (by kernel_rfl) (by kernel_rfl) (by kernel_rfl) True.intro (AL.none (by kernel_rfl)) (fun hJ hsz hu => ?_)
      refine stage_ hJ hF hsz hu [.q [] [], .q [] [], .q [1] [], .q [2] [], .q [3] [], .q [] [], .q [5] [], .q [6] [], .q [7] [], .q [] [], .t (some (.v (.agg #[.int .i64 (IntKind.i64.wrap (s2.2.2.2 + t_75)), .int .i64 1]))), .t (some (.v (.slice A_103 ([(⟨(IntKind.i64.wrap (s2.2.2.2 + t_75)), 1⟩ : Span)] : List Span).length (([(⟨(IntKind.i64.wrap (s2.2.2.2 + t_75)), 1⟩ : Span)] : List Span).length)))), .no, .q [0] [], .q [13] [], .no] (by kernel_rfl) (by kernel_rfl) (by kernel_rfl) (by kernel_rfl) 12 rfl (by kernel_rfl) (by kernel_rfl) [4, 11] rfl (by kernel_rfl) (by kernel_rfl) trivial [4] (by kernel_rfl) [.q 4 (.p 2 0) [], .q 5 (.p 2 0) [], .q 6 (.p 2 0) [], .q 7 (.p 2 1) [], .t (some 8) (some (.v (.slice A_88 (s2.2.2.1 ++ [(⟨s2.2.2.2, t_75⟩ : Span)]).length c_89))), .q 9 (.p 2 0) [], .q 10 (.p 2 0) [], .q 11 (.p 2 2) [], .q 12 (.v (.int .i64 (IntKind.i64.wrap (s2.2.2.2 + t_75)))) [], .q 13 (.v (.int .i64 1)) [], .t (some 14) (some (.v (.agg #[.int .i64 (IntKind.i64.wrap (s2.2.2.2 + t_75)), .int .i64 1]))), .t (some 15) (some (.v (.slice A_103 ([(⟨(IntKind.i64.wrap (s2.2.2.2 + t_75)), 1⟩ : Span)] : List Span).length (([(⟨(IntKind.i64.wrap (s2.2.2.2 + t_75)), 1⟩ : Span)] : List Span).length)))), .no, .q 17 (.p 2 0) [], .q 18 (.p 2 1) [], .no] (by kernel_rfl) (fun fuel listed a w_106 hJ hI hW h1 hnl hsz hu => ?_)
      obtain ⟨hE', hmv, hmr⟩ := Ep.rebase hE hI
      replace hx0 := Kd.keep _ hx0 (hmv _)
      replace hE_72 := El.keep hE_72 (hmv _)
      replace hq_83 := Arr.keep hq_83 (hmv _)
      replace hq_16 := Row.keep hq_16 (hmv _) (fun b hb => hmr b (by simp [hb]))
      replace hq_104 := Row.keep hq_104 (hmv _) (fun b hb => hmr b (by simp [hb]))
      replace hE := hE'; replace hI := hI.rebase; clear hE' hmv hmr
      obtain ⟨hE', hmv, hq_104, hcap_107⟩ := Row.still (l1 := [rb A_88]) (l2 := []) hq_104 (Nat.le_refl _) hE
      have hmr := hmr_ ([rb A_88, rb A_103] : List (List Nat)) w_106
      replace hx0 := Kd.keep _ hx0 (hmv _)
      replace hE_72 := El.keep hE_72 (hmv _)
      replace hq_83 := Arr.keep hq_83 (hmv _)
      replace hq_16 := Row.keep hq_16 (hmv _) (fun b hb => hmr b (by simp [hb]))
      replace hE := hE'
      clear hE' hmv hmr
      obtain ⟨hN_108, H1⟩ := req_some H1
      replace hN_108 := of_decide_eq_true hN_108
      refine append_ (S0 := S) (l1 := []) (l2 := []) (d := kd_Span) (e := 167) hF hE hI hW rfl (A := A_88) (c := c_89) (l := (s2.2.2.1 ++ [(⟨s2.2.2.2, t_75⟩ : Span)])) rfl (A2 := A_103) (c2 := (([(⟨(IntKind.i64.wrap (s2.2.2.2 + t_75)), 1⟩ : Span)] : List Span).length)) rfl hq_16 hq_104 (fun sv u hu => by exact kd_one_Span _ sv u hu) Tryz.underlying306 (zi := (.agg #[.int .i64 0, .int .i64 0], 2, 16)) (by kernel_rfl) rfl (by kernel_rfl) (len_max (by decide) hN_108) hN_108 (fun A_109 c_110 => ⟨[e_ 16 (.slice A_109 ((s2.2.2.1 ++ [(⟨s2.2.2.2, t_75⟩ : Span)]) ++ [(⟨(IntKind.i64.wrap (s2.2.2.2 + t_75)), 1⟩ : Span)]).length c_110), e_ 8 (.slice A_88 (s2.2.2.1 ++ [(⟨s2.2.2.2, t_75⟩ : Span)]).length c_89), e_ 15 (.slice A_103 ([(⟨(IntKind.i64.wrap (s2.2.2.2 + t_75)), 1⟩ : Span)] : List Span).length (([(⟨(IntKind.i64.wrap (s2.2.2.2 + t_75)), 1⟩ : Span)] : List Span).length)), p_ 0 2 0, e_ 1 (.int .i64 1)], [], [], [((((kd_Config).cells x0 sv0).map EV.v), 29), ([.v (.int .i64 0), .v (.slice none 0 0), .v (.int .i64 0)], 308), ([.v (.int .i64 s2.2.1), .v (.slice A_88 (s2.2.2.1 ++ [(⟨s2.2.2.2, t_75⟩ : Span)]).length c_89), .v (.int .i64 (IntKind.i64.wrap (s2.2.2.2 + t_75)))], 308), ((((kd_Chan).cells (rd x0.Chans s2.1) sv_70).map EV.v), 86)], none, some (4, ns_98)⟩) (fun A_109 c_110 => by kernel_rfl) (fun A_109 c_110 a w_111 hput hE' hI' hmv hmr hq_16 => ?_)
      replace hx0 := Kd.keep _ hx0 (hmv _)
      replace hE_72 := El.keep hE_72 (hmv _)
      replace hq_83 := Arr.keep hq_83 (hmv _)
      replace hq_104 := Arr.keep hq_104 (hmv _)
      replace hE := hE'; replace hI := hI'; clear hE' hI' hmv hmr
      refine next_ hJ h1 hnl hsz hu (by kernel_rfl) (by kernel_rfl) hput hI (live := [0, 1]) ⟨[p_ 0 2 0, e_ 1 (.int .i64 1)], [], [], [((((kd_Config).cells x0 sv0).map EV.v), 29), ([.v (.int .i64 0), .v (.slice none 0 0), .v (.int .i64 0)], 308), ([.v (.int .i64 s2.2.1), .v (.slice A_88 (s2.2.2.1 ++ [(⟨s2.2.2.2, t_75⟩ : Span)]).length c_89), .v (.int .i64 (IntKind.i64.wrap (s2.2.2.2 + t_75)))], 308), ((((kd_Chan).cells (rd x0.Chans s2.1) sv_70).map EV.v), 86)], none, some (4, ns_98)⟩ (by kernel_rfl) (some (.v (.slice A_109 ((s2.2.2.1 ++ [(⟨s2.2.2.2, t_75⟩ : Span)]) ++ [(⟨(IntKind.i64.wrap (s2.2.2.2 + t_75)), 1⟩ : Span)]).length c_110))) (by kernel_rfl) [] [.q 4 (.p 2 0) [], .q 5 (.p 2 0) [], .q 6 (.p 2 0) [], .q 7 (.p 2 1) [], .t (some 8) (some (.v (.slice A_88 (s2.2.2.1 ++ [(⟨s2.2.2.2, t_75⟩ : Span)]).length c_89))), .q 9 (.p 2 0) [], .q 10 (.p 2 0) [], .q 11 (.p 2 2) [], .q 12 (.v (.int .i64 (IntKind.i64.wrap (s2.2.2.2 + t_75)))) [], .q 13 (.v (.int .i64 1)) [], .t (some 14) (some (.v (.agg #[.int .i64 (IntKind.i64.wrap (s2.2.2.2 + t_75)), .int .i64 1]))), .t (some 15) (some (.v (.slice A_103 ([(⟨(IntKind.i64.wrap (s2.2.2.2 + t_75)), 1⟩ : Span)] : List Span).length (([(⟨(IntKind.i64.wrap (s2.2.2.2 + t_75)), 1⟩ : Span)] : List Span).length)))), .t (some 16) (some (.v (.slice A_109 ((s2.2.2.1 ++ [(⟨s2.2.2.2, t_75⟩ : Span)]) ++ [(⟨(IntKind.i64.wrap (s2.2.2.2 + t_75)), 1⟩ : Span)]).length c_110))), .q 17 (.p 2 0) [], .q 18 (.p 2 1) [], .no] (by kernel_rfl) (by kernel_rfl) (by kernel_rfl) True.intro (AL.none (by kernel_rfl)) (fun hJ hsz hu => ?_)
      refine stage_ hJ hF hsz hu [.q [] [], .q [] [], .q [1] [], .q [2] [], .t (some (.v (.slice A_88 (s2.2.2.1 ++ [(⟨s2.2.2.2, t_75⟩ : Span)]).length c_89))), .q [] [], .q [5] [], .q [6] [], .q [7] [], .q [] [], .t (some (.v (.agg #[.int .i64 (IntKind.i64.wrap (s2.2.2.2 + t_75)), .int .i64 1]))), .t (some (.v (.slice A_103 ([(⟨(IntKind.i64.wrap (s2.2.2.2 + t_75)), 1⟩ : Span)] : List Span).length (([(⟨(IntKind.i64.wrap (s2.2.2.2 + t_75)), 1⟩ : Span)] : List Span).length)))), .t (some (.v (.slice A_109 ((s2.2.2.1 ++ [(⟨s2.2.2.2, t_75⟩ : Span)]) ++ [(⟨(IntKind.i64.wrap (s2.2.2.2 + t_75)), 1⟩ : Span)]).length c_110))), .q [0] [], .q [13] [], .no] (by kernel_rfl) (by kernel_rfl) (by kernel_rfl) (by kernel_rfl) 15 rfl (by kernel_rfl) (by kernel_rfl) [14, 12] rfl (by kernel_rfl) (by kernel_rfl) trivial [0, 1, 2, 3, 5, 6, 7, 8, 9, 14] (by kernel_rfl) [.t (some 4) (some (.p 2 0)), .t (some 5) (some (.p 2 0)), .t (some 6) (some (.p 2 0)), .t (some 7) (some (.p 2 1)), .t (some 8) (some (.v (.slice A_88 (s2.2.2.1 ++ [(⟨s2.2.2.2, t_75⟩ : Span)]).length c_89))), .t (some 9) (some (.p 2 0)), .t (some 10) (some (.p 2 0)), .t (some 11) (some (.p 2 2)), .t (some 12) (some (.v (.int .i64 (IntKind.i64.wrap (s2.2.2.2 + t_75))))), .t (some 13) (some (.v (.int .i64 1))), .t (some 14) (some (.v (.agg #[.int .i64 (IntKind.i64.wrap (s2.2.2.2 + t_75)), .int .i64 1]))), .t (some 15) (some (.v (.slice A_103 ([(⟨(IntKind.i64.wrap (s2.2.2.2 + t_75)), 1⟩ : Span)] : List Span).length (([(⟨(IntKind.i64.wrap (s2.2.2.2 + t_75)), 1⟩ : Span)] : List Span).length)))), .t (some 16) (some (.v (.slice A_109 ((s2.2.2.1 ++ [(⟨s2.2.2.2, t_75⟩ : Span)]) ++ [(⟨(IntKind.i64.wrap (s2.2.2.2 + t_75)), 1⟩ : Span)]).length c_110))), .q 17 (.p 2 0) [], .t (some 18) (some (.p 2 1)), .no] (by kernel_rfl) (fun fuel listed a w_112 hJ hI hW h1 hnl hsz hu => ?_)
      refine store_ hF hI hW rfl rfl (k := 2) (cs := [.v (.int .i64 s2.2.1), .v (.slice A_109 ((s2.2.2.1 ++ [(⟨s2.2.2.2, t_75⟩ : Span)]) ++ [(⟨(IntKind.i64.wrap (s2.2.2.2 + t_75)), 1⟩ : Span)]).length c_110), .v (.int .i64 (IntKind.i64.wrap (s2.2.2.2 + t_75)))]) (T := 308) (by kernel_rfl) (by kernel_rfl) rfl (fun a w_113 hput hI => ?_)
      refine next_ hJ h1 hnl hsz hu (by kernel_rfl) (by kernel_rfl) hput hI (live := [0, 1]) ⟨[p_ 0 2 0, e_ 1 (.int .i64 1)], [], [], [((((kd_Config).cells x0 sv0).map EV.v), 29), ([.v (.int .i64 0), .v (.slice none 0 0), .v (.int .i64 0)], 308), ([.v (.int .i64 s2.2.1), .v (.slice A_109 ((s2.2.2.1 ++ [(⟨s2.2.2.2, t_75⟩ : Span)]) ++ [(⟨(IntKind.i64.wrap (s2.2.2.2 + t_75)), 1⟩ : Span)]).length c_110), .v (.int .i64 (IntKind.i64.wrap (s2.2.2.2 + t_75)))], 308), ((((kd_Chan).cells (rd x0.Chans s2.1) sv_70).map EV.v), 86)], none, some (4, ns_98)⟩ (by kernel_rfl) none (by kernel_rfl) [] [.t (some 4) (some (.p 2 0)), .t (some 5) (some (.p 2 0)), .t (some 6) (some (.p 2 0)), .t (some 7) (some (.p 2 1)), .t (some 8) (some (.v (.slice A_88 (s2.2.2.1 ++ [(⟨s2.2.2.2, t_75⟩ : Span)]).length c_89))), .t (some 9) (some (.p 2 0)), .t (some 10) (some (.p 2 0)), .t (some 11) (some (.p 2 2)), .t (some 12) (some (.v (.int .i64 (IntKind.i64.wrap (s2.2.2.2 + t_75))))), .t (some 13) (some (.v (.int .i64 1))), .t (some 14) (some (.v (.agg #[.int .i64 (IntKind.i64.wrap (s2.2.2.2 + t_75)), .int .i64 1]))), .t (some 15) (some (.v (.slice A_103 ([(⟨(IntKind.i64.wrap (s2.2.2.2 + t_75)), 1⟩ : Span)] : List Span).length (([(⟨(IntKind.i64.wrap (s2.2.2.2 + t_75)), 1⟩ : Span)] : List Span).length)))), .t (some 16) (some (.v (.slice A_109 ((s2.2.2.1 ++ [(⟨s2.2.2.2, t_75⟩ : Span)]) ++ [(⟨(IntKind.i64.wrap (s2.2.2.2 + t_75)), 1⟩ : Span)]).length c_110))), .q 17 (.p 2 0) [], .t (some 18) (some (.p 2 1)), .t none none] (by kernel_rfl) (by kernel_rfl) (by kernel_rfl) True.intro (AL.none (by kernel_rfl)) (fun hJ hsz hu => ?_)
      refine end_ hJ hF hsz hu [.t (some (.p 2 0)), .t (some (.p 2 0)), .t (some (.p 2 0)), .t (some (.p 2 1)), .t (some (.v (.slice A_88 (s2.2.2.1 ++ [(⟨s2.2.2.2, t_75⟩ : Span)]).length c_89))), .t (some (.p 2 0)), .t (some (.p 2 0)), .t (some (.p 2 2)), .t (some (.v (.int .i64 (IntKind.i64.wrap (s2.2.2.2 + t_75))))), .t (some (.v (.int .i64 1))), .t (some (.v (.agg #[.int .i64 (IntKind.i64.wrap (s2.2.2.2 + t_75)), .int .i64 1]))), .t (some (.v (.slice A_103 ([(⟨(IntKind.i64.wrap (s2.2.2.2 + t_75)), 1⟩ : Span)] : List Span).length (([(⟨(IntKind.i64.wrap (s2.2.2.2 + t_75)), 1⟩ : Span)] : List Span).length)))), .t (some (.v (.slice A_109 ((s2.2.2.1 ++ [(⟨s2.2.2.2, t_75⟩ : Span)]) ++ [(⟨(IntKind.i64.wrap (s2.2.2.2 + t_75)), 1⟩ : Span)]).length c_110))), .q [0] [], .t (some (.p 2 1)), .t none] (by kernel_rfl) (by kernel_rfl) (by kernel_rfl) (by kernel_rfl) (by kernel_rfl) (by kernel_rfl) (live := [0, 1]) ⟨[p_ 0 2 0, e_ 1 (.int .i64 1)], [], [], [((((kd_Config).cells x0 sv0).map EV.v), 29), ([.v (.int .i64 0), .v (.slice none 0 0), .v (.int .i64 0)], 308), ([.v (.int .i64 s2.2.1), .v (.slice A_109 ((s2.2.2.1 ++ [(⟨s2.2.2.2, t_75⟩ : Span)]) ++ [(⟨(IntKind.i64.wrap (s2.2.2.2 + t_75)), 1⟩ : Span)]).length c_110), .v (.int .i64 (IntKind.i64.wrap (s2.2.2.2 + t_75)))], 308), ((((kd_Chan).cells (rd x0.Chans s2.1) sv_70).map EV.v), 86)], none, some (4, ns_98)⟩ (by kernel_rfl) trivial (fun a w_114 hI => ?_)
      refine then_normal ?_
      refine region_ (live := []) (orc := []) hF hI ⟨[], [], [], [((((kd_Config).cells x0 sv0).map EV.v), 29), ([.v (.int .i64 0), .v (.slice none 0 0), .v (.int .i64 0)], 308), ([.v (.int .i64 s2.2.1), .v (.slice A_109 ((s2.2.2.1 ++ [(⟨s2.2.2.2, t_75⟩ : Span)]) ++ [(⟨(IntKind.i64.wrap (s2.2.2.2 + t_75)), 1⟩ : Span)]).length c_110), .v (.int .i64 (IntKind.i64.wrap ((IntKind.i64.wrap (s2.2.2.2 + t_75)) + 1)))], 308), ((((kd_Chan).cells (rd x0.Chans s2.1) sv_70).map EV.v), 86)], none, some (4, ns_98)⟩ [] (by kernel_rfl) trivial (fun ns_115 a w_116 hI _ => ?_)
      obtain ⟨hE', hmv, hmr⟩ := Ep.rebase hE hI
      replace hx0 := Kd.keep _ hx0 (hmv _)
      replace hE_72 := El.keep hE_72 (hmv _)
      replace hq_83 := Arr.keep hq_83 (hmv _)
      replace hq_104 := Arr.keep hq_104 (hmv _)
      replace hq_16 := Row.keep hq_16 (hmv _) (fun b hb => hmr b (by simp [hb]))
      replace hE := hE'; replace hI := hI.rebase; clear hE' hmv hmr
      obtain ⟨hE', hI', hmv⟩ := Ep.uncall (bs := [((((kd_Config).cells x0 sv0).map EV.v), 29), ([.v (.int .i64 0), .v (.slice none 0 0), .v (.int .i64 0)], 308), ([.v (.int .i64 s2.2.1), .v (.slice A_109 ((s2.2.2.1 ++ [(⟨s2.2.2.2, t_75⟩ : Span)]) ++ [(⟨(IntKind.i64.wrap (s2.2.2.2 + t_75)), 1⟩ : Span)]).length c_110), .v (.int .i64 (IntKind.i64.wrap ((IntKind.i64.wrap (s2.2.2.2 + t_75)) + 1)))], 308), ((((kd_Chan).cells (rd x0.Chans s2.1) sv_70).map EV.v), 86)]) hOu_100 hE hI rfl rfl rfl rfl (by kernel_rfl) rfl
      have hmr := hmr_ ([rb A_109] : List (List Nat)) w_116
      replace hx0 := Kd.keep _ hx0 (hmv _)
      replace hE_72 := El.keep hE_72 (hmv _)
      replace hq_83 := Arr.keep hq_83 (hmv _)
      replace hq_104 := Arr.keep hq_104 (hmv _)
      replace hq_16 := Row.keep hq_16 (hmv _) (fun b hb => hmr b (by simp [hb]))
      replace hE := hE'
      clear hE' hmv hmr
      refine retN (retG hI rfl rfl ⟨.tuple #[], rfl, ?_⟩)
      refine putI_ hI' (s_ [e_ 42 (.tuple #[]), ⟨41, [], .f (.func 236) [.inr (2, 0)] []⟩, e_ 33 (.int .i64 s2.1), e_ 32 (.int .i64 (x0.Chans.length : Int)), e_ 31 (.slice ((sv0 1).1) x0.Chans.length ((sv0 1).2)), ⟨4, [], .f (.func 236) [.inr (2, 0)] []⟩, p_ 3 2 0, p_ 2 1 0] [((((kd_Config).cells x0 sv0).map EV.v), 29), ([.v (.int .i64 0), .v (.slice none 0 0), .v (.int .i64 0)], 308), ([.v (.int .i64 s2.2.1), .v (.slice A_109 ((s2.2.2.1 ++ [(⟨s2.2.2.2, t_75⟩ : Span)]) ++ [(⟨(IntKind.i64.wrap (s2.2.2.2 + t_75)), 1⟩ : Span)]).length c_110), .v (.int .i64 (IntKind.i64.wrap ((IntKind.i64.wrap (s2.2.2.2 + t_75)) + 1)))], 308), ((((kd_Chan).cells (rd x0.Chans s2.1) sv_70).map EV.v), 86)]) (by kernel_rfl) (fun a hI => ?_)
      clear hI'
      have hF := hFu_100
      refine ck0_ hF 0 hI (s_ [e_ 33 (.int .i64 s2.1), e_ 32 (.int .i64 (x0.Chans.length : Int)), e_ 31 (.slice ((sv0 1).1) x0.Chans.length ((sv0 1).2)), ⟨4, [], .f (.func 236) [.inr (2, 0)] []⟩, p_ 3 2 0, p_ 2 1 0] [((((kd_Config).cells x0 sv0).map EV.v), 29), ([.v (.int .i64 0), .v (.slice none 0 0), .v (.int .i64 0)], 308), ([.v (.int .i64 s2.2.1), .v (.slice A_109 ((s2.2.2.1 ++ [(⟨s2.2.2.2, t_75⟩ : Span)]) ++ [(⟨(IntKind.i64.wrap (s2.2.2.2 + t_75)), 1⟩ : Span)]).length c_110), .v (.int .i64 (IntKind.i64.wrap ((IntKind.i64.wrap (s2.2.2.2 + t_75)) + 1)))], 308), ((((kd_Chan).cells (rd x0.Chans s2.1) sv_70).map EV.v), 86)]) rfl (by kernel_rfl) (fun ns_117 a w_118 hI => ?_)
      refine wpListIn_nil ?_
      refine inBlock_normal ?_
      refine then_normal ?_
      refine rg0_ hF hI (s_ [e_ 33 (.int .i64 (IntKind.i64.wrap (s2.1 + 1))), e_ 32 (.int .i64 (x0.Chans.length : Int)), e_ 31 (.slice ((sv0 1).1) x0.Chans.length ((sv0 1).2)), ⟨4, [], .f (.func 236) [.inr (2, 0)] []⟩, p_ 3 2 0, p_ 2 1 0] [((((kd_Config).cells x0 sv0).map EV.v), 29), ([.v (.int .i64 0), .v (.slice none 0 0), .v (.int .i64 0)], 308), ([.v (.int .i64 s2.2.1), .v (.slice A_109 ((s2.2.2.1 ++ [(⟨s2.2.2.2, t_75⟩ : Span)]) ++ [(⟨(IntKind.i64.wrap (s2.2.2.2 + t_75)), 1⟩ : Span)]).length c_110), .v (.int .i64 (IntKind.i64.wrap ((IntKind.i64.wrap (s2.2.2.2 + t_75)) + 1)))], 308), ((((kd_Chan).cells (rd x0.Chans s2.1) sv_70).map EV.v), 86)]) (by kernel_rfl) (fun ns_119 a w_120 hI => ?_)
      refine then_normal ?_
      obtain ⟨hE', hmv, hmr⟩ := Ep.rebase hE hI
      replace hx0 := Kd.keep _ hx0 (hmv _)
      replace hE_72 := El.keep hE_72 (hmv _)
      replace hq_83 := Arr.keep hq_83 (hmv _)
      replace hq_104 := Arr.keep hq_104 (hmv _)
      replace hq_16 := Row.keep hq_16 (hmv _) (fun b hb => hmr b (by simp [hb]))
      replace hE := hE'; replace hI := hI.rebase; clear hE' hmv hmr
      obtain rfl := Option.some.inj H1
      exact ⟨_, rfl, ⟨_, _, _, _, hx0, hq_16, hE, hI.pick [33, 32, 31, 4, 3, 2] 3 (s_ [e_ 33 (.int .i64 (IntKind.i64.wrap (s2.1 + 1))), e_ 32 (.int .i64 (x0.Chans.length : Int)), e_ 31 (.slice ((sv0 1).1) x0.Chans.length ((sv0 1).2)), ⟨4, [], .f (.func 236) [.inr (2, 0)] []⟩, p_ 3 2 0, p_ 2 1 0] [((((kd_Config).cells x0 sv0).map EV.v), 29), ([.v (.int .i64 0), .v (.slice none 0 0), .v (.int .i64 0)], 308), ([.v (.int .i64 s2.2.1), .v (.slice A_109 ((s2.2.2.1 ++ [(⟨s2.2.2.2, t_75⟩ : Span)]) ++ [(⟨(IntKind.i64.wrap (s2.2.2.2 + t_75)), 1⟩ : Span)]).length c_110), .v (.int .i64 (IntKind.i64.wrap ((IntKind.i64.wrap (s2.2.2.2 + t_75)) + 1)))], 308)]) (by kernel_rfl)⟩⟩
     ·replace H1 := bif_f hc_68 H1
      refine wpIn_exit ?_
      refine then_exit ?_
      refine then_exit ?_
      obtain ⟨hE', hmv, hmr⟩ := Ep.rebase hE hI
      replace hx0 := Kd.keep _ hx0 (hmv _)
      replace hq_16 := Row.keep hq_16 (hmv _) (fun b hb => hmr b (by simp [hb]))
      replace hE := hE'; replace hI := hI.rebase; clear hE' hmv hmr
      obtain rfl := Option.some.inj H1
      exact .inl ⟨_, rfl, rfl, ⟨_, _, _, _, hx0, hq_16, hE, hI.pick [33, 32, 31, 4, 3, 2] 3 (s_ [e_ 33 (.int .i64 s2.1), e_ 32 (.int .i64 (x0.Chans.length : Int)), e_ 31 (.slice ((sv0 1).1) x0.Chans.length ((sv0 1).2)), ⟨4, [], .f (.func 236) [.inr (2, 0)] []⟩, p_ 3 2 0, p_ 2 1 0] [((((kd_Config).cells x0 sv0).map EV.v), 29), ([.v (.int .i64 0), .v (.slice none 0 0), .v (.int .i64 0)], 308), ([.v (.int .i64 s2.2.1), .v (.slice A_61 s2.2.2.1.length c_62), .v (.int .i64 s2.2.2.2)], 308)]) (by kernel_rfl)⟩⟩
    ·clear hI hE
     rintro s2 a w_123 ho ⟨ow_125, ns_124, A_61, c_62, hx0, hq_16, hE, hI⟩
     subst ho
     replace H0 : (some (⟨s2.2.1, s2.2.2.1, s2.2.2.2⟩ : Layout_plan) : Option (Layout_plan)) = _ := H0
     refine then_normal ?_
     refine sr0_ hF hI (s_ [p_ 2 1 0] [((((kd_Config).cells x0 sv0).map EV.v), 29), ([.v (.int .i64 s2.2.1), .v (.slice A_61 s2.2.2.1.length c_62), .v (.int .i64 s2.2.2.2)], 308), ([.v (.int .i64 s2.2.1), .v (.slice A_61 s2.2.2.1.length c_62), .v (.int .i64 s2.2.2.2)], 308)]) (by kernel_rfl) (fun ns_126 a w_127 hI => ?_)
     obtain ⟨hE', hmv, hmr⟩ := Ep.rebase hE hI
     replace hx0 := Kd.keep _ hx0 (hmv _)
     replace hq_16 := Row.keep hq_16 (hmv _) (fun b hb => hmr b (by simp [hb]))
     replace hE := hE'; replace hI := hI.rebase; clear hE' hmv hmr
     obtain ⟨hE', hmv, hq_16, hcap_128⟩ := Row.still (l1 := []) (l2 := []) hq_16 (Nat.le_refl _) hE
     have hmr := hmr_ ([rb A_61] : List (List Nat)) w_127
     replace hx0 := Kd.keep _ hx0 (hmv _)
     replace hE := hE'
     clear hE' hmv hmr
     refine wpIn_ret ?_
     obtain rfl := Option.some.inj H0
     exact retCell hI rfl rfl rfl rfl rfl rfl ⟨svL [(A_61, c_62)], rfl, hE.below hI, ⟨⟨Arr.keep hq_16 (hE.out hI), hcap_128⟩, trivial⟩⟩

noncomputable def G_layout_plan_at (x0 : Layout_plan) (a1 : Int) (a2 : Int) (a3 : Int) : Option (Span) := (bif (decide (a2 < 0) || decide (a2 ≥ a3)) then some (⟨0, 0⟩ : Span) else (req (inb (IntKind.i64.wrap (a1 + a2)) x0.l.length) (some (rd x0.l (IntKind.i64.wrap (a1 + a2))))))
theorem G_layout_plan_at.calls (x0 : Layout_plan) (a1 : Int) (a2 : Int) (a3 : Int) (sv0 : SV) (w : World) {S : Nat → Prop} (hx0 : (kd_Layout_plan).cont S w x0 sv0) (r : Span) (h : G_layout_plan_at x0 a1 a2 a3 = some r) :
    Calls Tryz.prog 204 #[.agg ((kd_Layout_plan).cells x0 sv0).toArray, .int .i64 a1, .int .i64 a2, .int .i64 a3] w fun e w' => e = .returned (.agg ((kd_Span).cells r (svL [])).toArray) ∧ Below w.heap.size w w' := by
  replace hx0 := Kd.lo _ hx0
  unfold G_layout_plan_at at h
  have H0 := h
  clear h
  refine enter Tryz.func204 rfl [.agg ((kd_Layout_plan).cells x0 sv0).toArray, .int .i64 a1, .int .i64 a2, .int .i64 a3] (n := 24) rfl (Nat.le_of_ble_eq_true rfl) (fun a hI => ?_)
  have hF : FOpen Fence.wide := .inl rfl
  have hE := Ep.start w
  refine sr0_ hF hI (s_ [p_ 8 1 0, p_ 4 0 0, e_ 1 (.int .i64 a1), e_ 2 (.int .i64 a2), e_ 3 (.int .i64 a3)] [((((kd_Layout_plan).cells x0 sv0).map EV.v), 308), ([.v (.int .i64 0), .v (.int .i64 0)], 167)]) (by kernel_rfl) (fun ns_1 a w_2 hI => ?_)
  refine wpIn_seq ?_
  refine sr0_ hF hI (s_ [e_ 15 (.bool (decide (a2 < 0) || decide (a2 ≥ a3))), p_ 8 1 0, p_ 4 0 0, e_ 1 (.int .i64 a1), e_ 2 (.int .i64 a2)] [((((kd_Layout_plan).cells x0 sv0).map EV.v), 308), ([.v (.int .i64 0), .v (.int .i64 0)], 167)]) (by kernel_rfl) (fun ns_3 a w_4 hI => ?_)
  refine cond_ hI ((decide (a2 < 0) || decide (a2 ≥ a3))) rfl (fun hc_5 => ?_) (fun hc_5 => ?_)
  ·replace H0 := bif_t hc_5 H0
   refine sr0_ hF hI (s_ [p_ 8 1 0] [((((kd_Layout_plan).cells x0 sv0).map EV.v), 308), ([.v (.int .i64 0), .v (.int .i64 0)], 167)]) (by kernel_rfl) (fun ns_6 a w_7 hI => ?_)
   refine wpIn_ret ?_
   refine then_ret ?_
   obtain rfl := Option.some.inj H0
   exact retCell hI rfl rfl rfl rfl rfl rfl ⟨rfl, hE.below hI⟩
  ·replace H0 := bif_f hc_5 H0
   refine wpIn_skip ?_
   refine then_normal ?_
   obtain ⟨hN_8, H0⟩ := req_some H0
   obtain ⟨sv_9, hE_11, hA_10⟩ := Arr.elB (d := kd_Span) hx0.1.1 (IntKind.i64.wrap (a1 + a2)) true (fun _ => hN_8)
   replace hE_11 := hE_11 rfl
   replace hA_10 := fun (_ : true = true) => hA_10 rfl
   refine sr_ (orc := [(kd_Span).cells (rd x0.l (IntKind.i64.wrap (a1 + a2))) sv_9]) hF hI (s_ [p_ 8 1 0] [((((kd_Layout_plan).cells x0 sv0).map EV.v), 308), ((((kd_Span).cells (rd x0.l (IntKind.i64.wrap (a1 + a2))) sv_9).map EV.v), 167)]) [.need true ((0 : Int) ≤ (IntKind.i64.wrap (a1 + a2)) ∧ (IntKind.i64.wrap (a1 + a2)) < (x0.l.length : Int)), .need true ((sv0 0).1 = some (adr ((sv0 0).1))), .cell true ((adr ((sv0 0).1)).add (((IntKind.i64.wrap (a1 + a2)) : Int).toNat * 2)) ((kd_Span).cells (rd x0.l (IntKind.i64.wrap (a1 + a2))) sv_9)] (by kernel_rfl) ⟨ob_inb (fun _ => hN_8), hA_10, ob_el (fun _ => hE_11) 0 ((kd_Span).cells (rd x0.l (IntKind.i64.wrap (a1 + a2))) sv_9) rfl, trivial⟩ (fun ns_12 a w_13 hI => ?_)
   refine wpIn_ret ?_
   obtain rfl := Option.some.inj H0
   exact retCell hI rfl rfl rfl rfl rfl rfl ⟨rfl, hE.below hI⟩

noncomputable def G_layout_Private (x0 : Config) (a1 : Int) : Option (Span) := ((G_layout_of x0).bind fun t_5 => ((G_layout_plan_at t_5 0 a1 t_5.parts).bind fun t_12 => some t_12))
theorem G_layout_Private.calls (x0 : Config) (a1 : Int) (sv0 : SV) (w : World) {S : Nat → Prop} (hx0 : (kd_Config).cont S w x0 sv0) (r : Span) (h : G_layout_Private x0 a1 = some r) :
    Calls Tryz.prog 187 #[.agg ((kd_Config).cells x0 sv0).toArray, .int .i64 a1] w fun e w' => e = .returned (.agg ((kd_Span).cells r (svL [])).toArray) ∧ Below w.heap.size w w' := by
  replace hx0 := Kd.lo _ hx0
  unfold G_layout_Private at h
  have H0 := h
  clear h
  refine enter Tryz.func187 rfl [.agg ((kd_Config).cells x0 sv0).toArray, .int .i64 a1] (n := 13) rfl (Nat.le_of_ble_eq_true rfl) (fun a hI => ?_)
  have hF : FOpen Fence.wide := .inl rfl
  have hE := Ep.start w
  refine sr0_ hF hI (s_ [p_ 4 1 0, p_ 2 0 0, e_ 1 (.int .i64 a1)] [((((kd_Config).cells x0 sv0).map EV.v), 29), ([.v (.int .i64 0), .v (.int .i64 0)], 167)]) (by kernel_rfl) (fun ns_1 a w_2 hI => ?_)
  refine wpIn_seq ?_
  refine wpIn_region_lit ?_
  refine ck0_ hF 1 hI (s_ [e_ 6 (.agg ((kd_Config).cells x0 sv0).toArray), p_ 4 1 0, e_ 1 (.int .i64 a1)] [((((kd_Config).cells x0 sv0).map EV.v), 29), ([.v (.int .i64 0), .v (.int .i64 0)], 167)]) rfl (by kernel_rfl) (fun ns_3 a w_4 hI => ?_)
  obtain ⟨hE', hmv, hmr⟩ := Ep.rebase hE hI
  replace hx0 := Kd.keep _ hx0 (hmv _)
  replace hE := hE'; replace hI := hI.rebase; clear hE' hmv hmr
  obtain ⟨t_5, hG_6, H0⟩ := bind_some H0
  refine callH_ hF hE hI (wanted_none rfl) rfl (args := [.agg ((kd_Config).cells x0 sv0).toArray]) rfl (enters Tryz.func203 (by kernel_rfl) rfl) (fun sv_7 => .agg ((kd_Layout_plan).cells t_5 sv_7).toArray) _ (G_layout_of.calls x0 sv0 w_4 (S := Lo S w w_4 ns_3 []) (contI (S := Lo S w w_4 ns_3 []) (w := w_4) (d := kd_Config) (x := x0) (sv := sv0) ⟨⟨hx0.1.1, hx0.1.2⟩, ⟨hx0.2.1.1, hx0.2.1.2⟩, ⟨hx0.2.2.1.1, hx0.2.2.1.2⟩, ⟨hx0.2.2.2.1.1, hx0.2.2.2.1.2⟩, trivial⟩) _ hG_6) (fun sv_7 => (s_ [e_ 7 (.agg ((kd_Layout_plan).cells t_5 sv_7).toArray), e_ 6 (.agg ((kd_Config).cells x0 sv0).toArray), p_ 4 1 0, e_ 1 (.int .i64 a1)] [((((kd_Config).cells x0 sv0).map EV.v), 29), ([.v (.int .i64 0), .v (.int .i64 0)], 167)])) (fun sv_7 => by kernel_rfl) (fun sv_7 a w_9 hput hE' hI' hmv hmr hres hR => ?_)
  replace hx0 := Kd.keep _ hx0 (hmv _)
  replace hE := hE'; replace hI := hI'; clear hE' hI' hmv hmr
  have hR_8 := hR
  replace hR_8 := Kd.keep _ hR_8 (hres _)
  clear hres
  refine ck0_ hF 2 hI (s_ [p_ 5 2 0, p_ 4 1 0, e_ 1 (.int .i64 a1)] [((((kd_Config).cells x0 sv0).map EV.v), 29), ([.v (.int .i64 0), .v (.int .i64 0)], 167), ((((kd_Layout_plan).cells t_5 sv_7).map EV.v), 308)]) rfl (by kernel_rfl) (fun ns_10 a w_11 hI => ?_)
  refine wpListIn_nil ?_
  refine then_normal ?_
  obtain ⟨t_12, hG_13, H0⟩ := bind_some H0
  refine sr_ (orc := [[.agg ((kd_Span).cells t_12 (svL [])).toArray]]) hF hI (s_ [p_ 4 1 0] [((((kd_Config).cells x0 sv0).map EV.v), 29), ((((kd_Span).cells t_12 (svL [])).map EV.v), 167), ((((kd_Layout_plan).cells t_5 sv_7).map EV.v), 308)]) [.call true 204 [.agg ((kd_Layout_plan).cells t_5 sv_7).toArray, .int .i64 0, .int .i64 a1, .int .i64 t_5.parts] (.agg ((kd_Span).cells t_12 (svL [])).toArray)] (by kernel_rfl) ⟨ob_call (enters Tryz.func204 (by kernel_rfl) rfl) (fun hg wz hk => G_layout_plan_at.calls t_5 0 a1 t_5.parts sv_7 wz (S := fun _ => True) (Kd.any _ (Kd.keep kd_Layout_plan (contI (S := Lo S w w_9 ns_3 []) (w := w_9) (d := kd_Layout_plan) (x := t_5) (sv := sv_7) ⟨⟨hR_8.1.1, hR_8.1.2⟩, trivial⟩) (Lo.on hk))) _ hG_13), trivial⟩ (fun ns_14 a w_15 hI => ?_)
  refine wpIn_ret ?_
  obtain rfl := Option.some.inj H0
  exact retCell hI rfl rfl rfl rfl rfl rfl ⟨rfl, hE.below hI⟩

noncomputable def G_span_Right (x0 : Span) : Option (Bool) := some (((decide (x0.From ≥ 0) && decide (x0.Size ≥ 0)) && decide (x0.From ≤ 2147483647)) && decide (x0.Size ≤ (IntKind.i64.wrap (2147483647 - x0.From))))
theorem G_span_Right.calls (x0 : Span) (sv0 : SV) (w : World) {S : Nat → Prop} (hx0 : (kd_Span).cont S w x0 sv0) (r : Bool) (h : G_span_Right x0 = some r) :
    Calls Tryz.prog 202 #[.agg ((kd_Span).cells x0 sv0).toArray] w fun e w' => e = .returned (.bool r) ∧ Below w.heap.size w w' := by
  replace hx0 := Kd.lo _ hx0
  unfold G_span_Right at h
  have H0 := h
  clear h
  refine enter Tryz.func202 rfl [.agg ((kd_Span).cells x0 sv0).toArray] (n := 24) rfl (Nat.le_of_ble_eq_true rfl) (fun a hI => ?_)
  have hF : FOpen Fence.wide := .inl rfl
  have hE := Ep.start w
  refine sr0_ hF hI (s_ [e_ 2 (.bool false), p_ 1 0 0] [((((kd_Span).cells x0 sv0).map EV.v), 167)]) (by kernel_rfl) (fun ns_1 a w_2 hI => ?_)
  refine sr0_ hF hI (s_ [e_ 2 (.bool (((decide (x0.From ≥ 0) && decide (x0.Size ≥ 0)) && decide (x0.From ≤ 2147483647)) && decide (x0.Size ≤ (IntKind.i64.wrap (2147483647 - x0.From)))))] [((((kd_Span).cells x0 sv0).map EV.v), 167)]) (by kernel_rfl) (fun ns_3 a w_4 hI => ?_)
  refine wpIn_ret ?_
  obtain rfl := Option.some.inj H0
  exact ret1 hI rfl rfl ⟨rfl, hE.below hI⟩

noncomputable def G_span_Has (x0 : Span) (a1 : Int) : Option (Bool) := ((G_span_Right x0).bind fun t_3 => some ((t_3 && decide (a1 ≥ x0.From)) && decide (a1 < (IntKind.i64.wrap (x0.From + x0.Size)))))
theorem G_span_Has.calls (x0 : Span) (a1 : Int) (sv0 : SV) (w : World) {S : Nat → Prop} (hx0 : (kd_Span).cont S w x0 sv0) (r : Bool) (h : G_span_Has x0 a1 = some r) :
    Calls Tryz.prog 186 #[.agg ((kd_Span).cells x0 (svL [])).toArray, .int .i64 a1] w fun e w' => e = .returned (.bool r) ∧ Below w.heap.size w w' := by
  replace hx0 := Kd.lo _ hx0
  unfold G_span_Has at h
  have H0 := h
  clear h
  refine enter Tryz.func186 rfl [.agg ((kd_Span).cells x0 (svL [])).toArray, .int .i64 a1] (n := 22) rfl (Nat.le_of_ble_eq_true rfl) (fun a hI => ?_)
  have hF : FOpen Fence.wide := .inl rfl
  have hE := Ep.start w
  refine sr0_ hF hI (s_ [e_ 4 (.bool false), p_ 2 0 0, e_ 1 (.int .i64 a1)] [((((kd_Span).cells x0 sv0).map EV.v), 167)]) (by kernel_rfl) (fun ns_1 a w_2 hI => ?_)
  obtain ⟨t_3, hG_4, H0⟩ := bind_some H0
  refine sr_ (orc := [[.bool t_3]]) hF hI (s_ [e_ 4 (.bool ((t_3 && decide (a1 ≥ x0.From)) && decide (a1 < (IntKind.i64.wrap (x0.From + x0.Size)))))] [((((kd_Span).cells x0 sv0).map EV.v), 167)]) [.call true 202 [.agg ((kd_Span).cells x0 (svL [])).toArray] (.bool t_3)] (by kernel_rfl) ⟨ob_call (enters Tryz.func202 (by kernel_rfl) rfl) (fun hg wz hk => G_span_Right.calls x0 (svL []) wz (S := fun _ => True) (Kd.any _ (Kd.keep kd_Span (contI (S := Lo S w w [] []) (w := w) (d := kd_Span) (x := x0) (sv := (svL [])) trivial) (Lo.on hk))) _ hG_4), trivial⟩ (fun ns_5 a w_6 hI => ?_)
  refine wpIn_ret ?_
  obtain rfl := Option.some.inj H0
  exact ret1 hI rfl rfl ⟨rfl, hE.below hI⟩

noncomputable def G_sign_asked_private (x0 : Sign_asked) : Option (Bool) := ((cal (decide (x0.Request.Addr < 2147483648)) (G_layout_Private x0.c x0.s.Part) default).bind fun t_3 => ((cal (decide (x0.Request.Addr < 2147483648)) (G_span_Has t_3 (IntKind.i64.wrap x0.Request.Addr)) default).bind fun t_5 => some (decide (x0.Request.Addr < 2147483648) && t_5)))
theorem G_sign_asked_private.calls (x0 : Sign_asked) (sv0 : SV) (w : World) {S : Nat → Prop} (hx0 : (kd_Sign_asked).cont S w x0 sv0) (r : Bool) (h : G_sign_asked_private x0 = some r) :
    Calls Tryz.prog 154 #[.agg ((kd_Sign_asked).cells x0 sv0).toArray] w fun e w' => e = .returned (.bool r) ∧ Below w.heap.size w w' := by
  replace hx0 := Kd.lo _ hx0
  unfold G_sign_asked_private at h
  have H0 := h
  clear h
  refine enter Tryz.func154 rfl [.agg ((kd_Sign_asked).cells x0 sv0).toArray] (n := 20) rfl (Nat.le_of_ble_eq_true rfl) (fun a hI => ?_)
  have hF : FOpen Fence.wide := .inl rfl
  have hE := Ep.start w
  refine sr0_ hF hI (s_ [e_ 2 (.bool false), p_ 1 0 0] [((((kd_Sign_asked).cells x0 sv0).map EV.v), 211)]) (by kernel_rfl) (fun ns_1 a w_2 hI => ?_)
  refine wpIn_seq ?_
  obtain ⟨t_3, hG_4, H0⟩ := bind_some H0
  obtain ⟨t_5, hG_6, H0⟩ := bind_some H0
  refine drawn_ (live := [2]) (orc := [[.agg ((kd_Span).cells t_3 (svL [])).toArray], [.bool t_5]]) hF hI (s_ [e_ 2 (.bool (decide (x0.Request.Addr < 2147483648) && t_5))] [((((kd_Sign_asked).cells x0 sv0).map EV.v), 211)]) [.call (decide (x0.Request.Addr < 2147483648)) 187 [.agg ((kd_Config).cells x0.c (svO sv0 1)).toArray, .int .i64 x0.s.Part] (.agg ((kd_Span).cells t_3 (svL [])).toArray), .call (decide (x0.Request.Addr < 2147483648)) 186 [.agg ((kd_Span).cells t_3 (svL [])).toArray, .int .i64 (IntKind.i64.wrap x0.Request.Addr)] (.bool t_5)] (by kernel_rfl) (by kernel_rfl) (by kernel_rfl) ⟨ob_call (enters Tryz.func187 (by kernel_rfl) rfl) (fun hg wz hk => G_layout_Private.calls x0.c x0.s.Part (svO sv0 1) wz (S := fun _ => True) (Kd.any _ (Kd.keep kd_Config (contI (S := Lo S w w [] []) (w := w) (d := kd_Config) (x := x0.c) (sv := (svO sv0 1)) ⟨⟨hx0.2.1.1, hx0.2.1.2⟩, ⟨hx0.2.2.1.1, hx0.2.2.1.2⟩, ⟨hx0.2.2.2.1.1, hx0.2.2.2.1.2⟩, ⟨hx0.2.2.2.2.1.1, hx0.2.2.2.2.1.2⟩, trivial⟩) (Lo.on hk))) _ (cal_some hG_4 hg)), ob_call (enters Tryz.func186 (by kernel_rfl) rfl) (fun hg wz hk => G_span_Has.calls t_3 (IntKind.i64.wrap x0.Request.Addr) (svL []) wz (S := fun _ => True) (Kd.any _ (Kd.keep kd_Span (contI (S := Lo S w w [] []) (w := w) (d := kd_Span) (x := t_3) (sv := (svL [])) trivial) (Lo.on hk))) _ (cal_some hG_6 hg)), trivial⟩ (fun a w_7 hI => ?_)
  refine then_normal ?_
  refine wpIn_ret ?_
  obtain rfl := Option.some.inj H0
  exact ret1 hI rfl rfl ⟨rfl, hE.below hI⟩

noncomputable def G_sign_rows_9 (x0 : Sign_asked) : Option (Bool) := ((G_sign_asked_private x0).bind fun t_3 => some (!t_3))
theorem G_sign_rows_9.calls (x0 : Sign_asked) (sv0 : SV) (w : World) {S : Nat → Prop} (hx0 : (kd_Sign_asked).cont S w x0 sv0) (r : Bool) (h : G_sign_rows_9 x0 = some r) :
    Calls Tryz.prog 153 #[.agg ((kd_Sign_asked).cells x0 sv0).toArray] w fun e w' => e = .returned (.bool r) ∧ Below w.heap.size w w' := by
  replace hx0 := Kd.lo _ hx0
  unfold G_sign_rows_9 at h
  have H0 := h
  clear h
  refine enter Tryz.func153 rfl [.agg ((kd_Sign_asked).cells x0 sv0).toArray] (n := 6) rfl (Nat.le_of_ble_eq_true rfl) (fun a hI => ?_)
  have hF : FOpen Fence.wide := .inl rfl
  have hE := Ep.start w
  refine sr0_ hF hI (s_ [e_ 2 (.bool false), p_ 1 0 0] [((((kd_Sign_asked).cells x0 sv0).map EV.v), 211)]) (by kernel_rfl) (fun ns_1 a w_2 hI => ?_)
  obtain ⟨t_3, hG_4, H0⟩ := bind_some H0
  refine sr_ (orc := [[.bool t_3]]) hF hI (s_ [e_ 2 (.bool (!t_3))] [((((kd_Sign_asked).cells x0 sv0).map EV.v), 211)]) [.call true 154 [.agg ((kd_Sign_asked).cells x0 sv0).toArray] (.bool t_3)] (by kernel_rfl) ⟨ob_call (enters Tryz.func154 (by kernel_rfl) rfl) (fun hg wz hk => G_sign_asked_private.calls x0 sv0 wz (S := fun _ => True) (Kd.any _ (Kd.keep kd_Sign_asked (contI (S := Lo S w w [] []) (w := w) (d := kd_Sign_asked) (x := x0) (sv := sv0) ⟨⟨hx0.1.1, hx0.1.2⟩, ⟨hx0.2.1.1, hx0.2.1.2⟩, ⟨hx0.2.2.1.1, hx0.2.2.1.2⟩, ⟨hx0.2.2.2.1.1, hx0.2.2.2.1.2⟩, ⟨hx0.2.2.2.2.1.1, hx0.2.2.2.2.1.2⟩, ⟨hx0.2.2.2.2.2.1.1, hx0.2.2.2.2.2.1.2⟩, ⟨hx0.2.2.2.2.2.2.1.1, hx0.2.2.2.2.2.2.1.2⟩, trivial⟩) (Lo.on hk))) _ hG_4), trivial⟩ (fun ns_5 a w_6 hI => ?_)
  refine wpIn_ret ?_
  obtain rfl := Option.some.inj H0
  exact ret1 hI rfl rfl ⟨rfl, hE.below hI⟩

noncomputable def Fn214.run (f : Fn214) (x0 : Sign_asked) : Option (Bool) := match f with
  | .f143 c0 c1 => G_sign_rows_1_1 x0 c0 c1
  | .f145 => G_sign_rows_2 x0
  | .f146 => G_sign_asked_made x0
  | .f147 => G_sign_rows_3 x0
  | .f148 => G_sign_rows_4 x0
  | .f149 => G_sign_rows_5 x0
  | .f150 => G_sign_rows_6 x0
  | .f151 => G_sign_rows_7 x0
  | .f152 => G_sign_rows_8 x0
  | .f153 => G_sign_rows_9 x0
theorem Fn214.ent (f : Fn214) (args : Array Value) (w : World) : (callFunc (fid214 f) args).run Tryz.prog w = .ok (.enter (fid214 f) args) w := by
  cases f with
  | f143 _ _ => exact enters Tryz.func143 (by kernel_rfl) rfl args w
  | f145 => exact enters Tryz.func145 (by kernel_rfl) rfl args w
  | f146 => exact enters Tryz.func146 (by kernel_rfl) rfl args w
  | f147 => exact enters Tryz.func147 (by kernel_rfl) rfl args w
  | f148 => exact enters Tryz.func148 (by kernel_rfl) rfl args w
  | f149 => exact enters Tryz.func149 (by kernel_rfl) rfl args w
  | f150 => exact enters Tryz.func150 (by kernel_rfl) rfl args w
  | f151 => exact enters Tryz.func151 (by kernel_rfl) rfl args w
  | f152 => exact enters Tryz.func152 (by kernel_rfl) rfl args w
  | f153 => exact enters Tryz.func153 (by kernel_rfl) rfl args w
theorem Fn214.calls (f : Fn214) (x0 : Sign_asked) (svf : SV) (sv0 : SV) (w : World) {S : Nat → Prop} (hf : (kdF214).cont S w f svf) (hx0 : (kd_Sign_asked).cont S w x0 sv0) (r : Bool) (h : Fn214.run f x0 = some r) :
    Calls Tryz.prog (fid214 f) (([.agg ((kd_Sign_asked).cells x0 sv0).toArray] : List Value) ++ (fca214 f svf).toList).toArray w fun e w' => e = .returned (.bool r) ∧ Below w.heap.size w w' := by
  cases f with
  | f143 c0 c1 => exact G_sign_rows_1_1.calls x0 c0 c1 sv0 (adr (svf 0).1) (svO svf 1) (adr (svf 1).1) (svO svf 2) w hx0 hf.1 hf.2 r h
  | f145 => exact G_sign_rows_2.calls x0  sv0  w hx0  r h
  | f146 => exact G_sign_asked_made.calls x0  sv0  w hx0  r h
  | f147 => exact G_sign_rows_3.calls x0  sv0  w hx0  r h
  | f148 => exact G_sign_rows_4.calls x0  sv0  w hx0  r h
  | f149 => exact G_sign_rows_5.calls x0  sv0  w hx0  r h
  | f150 => exact G_sign_rows_6.calls x0  sv0  w hx0  r h
  | f151 => exact G_sign_rows_7.calls x0  sv0  w hx0  r h
  | f152 => exact G_sign_rows_8.calls x0  sv0  w hx0  r h
  | f153 => exact G_sign_rows_9.calls x0  sv0  w hx0  r h

end Go.Proofs.YtiiidfgdejfhhaaGreatDoor
