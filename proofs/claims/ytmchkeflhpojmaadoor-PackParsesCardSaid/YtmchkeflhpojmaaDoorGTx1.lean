/- Walks of the seat's functions. No statement is proved here. Conditions: none. -/
import Derived.Test.YtmchkeflhpojmaaDoorGTx0
set_option linter.unusedVariables false
set_option linter.unusedSimpArgs false
set_option maxRecDepth 100000
set_option maxHeartbeats 4000000
namespace Go.Proofs.YtmchkeflhpojmaaDoor
open Go Go.RowKit Go.Eng Go.Proofs

noncomputable def G_pack_Parse.b1 (a0 : ByteArray) (s1 : Bool × (List Int) × Bool × (List Int) × Int × ByteArray × Nat) : Option (Stp (Bool × (List Int) × Bool × (List Int) × Int × ByteArray × Nat) (Ex (Bool × (List Int) × Bool × (List Int) × Int × ByteArray × Nat) ((List Int) × Bool))) := (bif decide (s1.2.2.2.2.2.2 < a0.size) then ((G_strings_IndexByte (⟨#[97, 98, 116]⟩ : ByteArray) (IntKind.u8.wrap ((Utf8.decode a0 s1.2.2.2.2.2.2).1 : Int))).bind fun t_31 => (bif (((decide (((Utf8.decode a0 s1.2.2.2.2.2.2).1 : Int) ≥ 48) && decide (((Utf8.decode a0 s1.2.2.2.2.2.2).1 : Int) ≤ 57)) && decide (s1.2.2.2.2.1 ≥ 0)) && decide ((s1.2.2.2.2.2.1.size : Int) < 5)) then (req (decide (s1.2.2.2.2.2.1.size + (Utf8.encode (IntKind.u8.wrap ((Utf8.decode a0 s1.2.2.2.2.2.2).1 : Int))).size ≤ 140737488355328)) (some (.next (s1.1, s1.2.1, s1.2.2.1, s1.2.2.2.1, s1.2.2.2.2.1, (s1.2.2.2.2.2.1 ++ (Utf8.encode (IntKind.u8.wrap ((Utf8.decode a0 s1.2.2.2.2.2.2).1 : Int)))), (s1.2.2.2.2.2.2 + (Utf8.decode a0 s1.2.2.2.2.2.2).2))))) else (bif ((decide (((Utf8.decode a0 s1.2.2.2.2.2.2).1 : Int) > 127) || decide (t_31 < 0)) || (t_31 == s1.2.2.2.2.1)) then some (.out (.ret ([], false))) else (bif decide (s1.2.2.2.2.1 ≥ 0) then (bif (!(s1.2.2.2.2.2.1.toList == (⟨#[]⟩ : ByteArray).toList)) then ((G_strconv_Atoi_27 s1.2.2.2.2.2.1).bind fun t_63 => (req (imp (!(decide (t_63.1 < 2) || decide (t_63.1 > 4096))) (inb 0 s1.2.2.2.2.2.1.size)) (bif ((decide (t_63.1 < 2) || decide (t_63.1 > 4096)) || ((rdB s1.2.2.2.2.2.1 0) == 48)) then some (.out (.ret ([], false))) else (bif decide (t_63.1 > (IntKind.i64.wrap (4096 - (s1.2.1.length : Int)))) then some (.out (.ret ([], false))) else ((G_slices_Repeat_int_int ([s1.2.2.2.2.1] : List Int) t_63.1).bind fun t_101 => (req (decide ((s1.2.1.length + t_101.length) * 8 ≤ 140737488355328)) (some (.next (true, (s1.2.1 ++ t_101), s1.2.2.1, s1.2.2.2.1, t_31, ByteArray.empty, (s1.2.2.2.2.2.2 + (Utf8.decode a0 s1.2.2.2.2.2.2).2)))))))))) else (bif decide (1 > (IntKind.i64.wrap (4096 - (s1.2.1.length : Int)))) then some (.out (.ret ([], false))) else ((G_slices_Repeat_int_int ([s1.2.2.2.2.1] : List Int) 1).bind fun t_137 => (req (decide ((s1.2.1.length + t_137.length) * 8 ≤ 140737488355328)) (some (.next (true, (s1.2.1 ++ t_137), s1.2.2.1, s1.2.2.2.1, t_31, ByteArray.empty, (s1.2.2.2.2.2.2 + (Utf8.decode a0 s1.2.2.2.2.2.2).2)))))))) else some (.next (s1.1, s1.2.1, s1.2.2.1, s1.2.2.2.1, t_31, ByteArray.empty, (s1.2.2.2.2.2.2 + (Utf8.decode a0 s1.2.2.2.2.2.2).2))))))) else some (.out (.brk (s1.1, s1.2.1, s1.2.2.1, s1.2.2.2.1, s1.2.2.2.2.1, s1.2.2.2.2.2.1, s1.2.2.2.2.2.2))))
noncomputable def G_pack_Parse (a0 : ByteArray) : Option ((List Int) × Bool) := ((loopω (G_pack_Parse.b1 a0) (true, ([] : List Int), false, ([] : List Int), (-1), ByteArray.empty, 0)).bind fun o => o.on (fun s1 => (bif decide (s1.2.2.2.2.1 ≥ 0) then (bif (!(s1.2.2.2.2.2.1.toList == (⟨#[]⟩ : ByteArray).toList)) then ((G_strconv_Atoi_27 s1.2.2.2.2.2.1).bind fun t_178 => (req (imp (!(decide (t_178.1 < 2) || decide (t_178.1 > 4096))) (inb 0 s1.2.2.2.2.2.1.size)) (bif ((decide (t_178.1 < 2) || decide (t_178.1 > 4096)) || ((rdB s1.2.2.2.2.2.1 0) == 48)) then some ([], false) else (bif decide (t_178.1 > (IntKind.i64.wrap (4096 - (s1.2.1.length : Int)))) then some ([], false) else ((G_slices_Repeat_int_int ([s1.2.2.2.2.1] : List Int) t_178.1).bind fun t_216 => (req (decide ((s1.2.1.length + t_216.length) * 8 ≤ 140737488355328)) (some ((s1.2.1 ++ t_216), true)))))))) else (bif decide (1 > (IntKind.i64.wrap (4096 - (s1.2.1.length : Int)))) then some ([], false) else ((G_slices_Repeat_int_int ([s1.2.2.2.2.1] : List Int) 1).bind fun t_253 => (req (decide ((s1.2.1.length + t_253.length) * 8 ≤ 140737488355328)) (some ((s1.2.1 ++ t_253), true)))))) else (bif (!s1.1) then some ([], false) else some (s1.2.1, true)))) (fun r => some r))
theorem G_pack_Parse.calls (a0 : ByteArray)  (w : World) {S : Nat → Prop}  (r : (List Int) × Bool) (h : G_pack_Parse a0 = some r) :
    Calls Tryd.prog 11 #[.string a0] w fun e w' => ∃ sv : SV, e = .returned (.tuple #[.slice ((sv 0).1) r.1.length ((sv 0).2), .bool r.2]) ∧ Below w.heap.size w w' ∧ (Arr (Kd.int .i64) (fun b => w.heap.size ≤ b ∨ S b) w' (sv 0).1 r.1 ∧ r.1.length ≤ (sv 0).2) := by
  unfold G_pack_Parse at h
  have H0 := h
  clear h
  refine enter Tryd.func11 rfl [.string a0] (n := 83) rfl (Nat.le_of_ble_eq_true rfl) (fun a hI => ?_)
  have hF : FOpen Fence.wide := .inl rfl
  have hE := Ep.start w
  refine sr0_ hF hI (s_ [e_ 3 (.bool false), e_ 2 (.slice none 0 0), e_ 0 (.string a0)] []) (by kernel_rfl) (fun ns_1 a w_2 hI => ?_)
  refine srn0_ hF hI [4, 3, 2, 0] [e_ 4 (.slice none 0 0)] [] (by kernel_rfl) (fun ns_3 a w_4 hI => ?_)
  refine srn0_ hF hI [5, 4, 3, 2, 0] [p_ 5 0 0] [(0, ([.v (.int .i64 (-1)), .v (.string ByteArray.empty)], 54))] (by kernel_rfl) (fun ns_5 a w_6 hI => ?_)
  refine srn0_ hF hI [6, 5, 4, 3, 2, 0] [e_ 6 (.bool true)] [] (by kernel_rfl) (fun ns_7 a w_8 hI => ?_)
  refine wpIn_seq ?_
  refine wpIn_seq ?_
  refine wpIn_region_lit ?_
  refine ckn0_ hF 1 hI [11, 6, 5, 4, 3, 2] [e_ 11 (.string a0)] [] rfl (by kernel_rfl) (fun ns_9 a w_10 hI => ?_)
  obtain ⟨hE', hmv, hmr⟩ := Ep.rebase hE hI
  replace hE := hE'
  replace hI := hI.rebase
  clear hE' hmv hmr
  refine rangeS_ hF hE hI (wanted_none rfl) rfl Tryd.underlying9 (s := a0) rfl (fun b_11 => (s_ [e_ 12 (.pointer (some ⟨b_11, 0, none⟩)), e_ 11 (.string a0), e_ 6 (.bool true), p_ 5 0 0, e_ 4 (.slice none 0 0), e_ 3 (.bool false), e_ 2 (.slice none 0 0)] [([.v (.int .i64 (-1)), .v (.string ByteArray.empty)], 54)])) (fun b_11 => by kernel_rfl) (fun b_11 a w_13 hput hE' hI' hmv hmr hq_12 => ?_)
  replace hE := hE'
  replace hI := hI'
  clear hE' hI' hmv hmr
  refine ckn0_ hF 0 hI [12, 6, 5, 4, 3, 2] [] [] rfl (by kernel_rfl) (fun ns_14 a w_15 hI => ?_)
  refine wpListIn_nil ?_
  refine then_normal ?_
  obtain ⟨hE', hmv, hmr⟩ := Ep.rebase hE hI
  replace hq_12 := ItIs.keep hq_12 (hmr _ (by simp))
  replace hE := hE'
  replace hI := hI.rebase
  clear hE' hmv hmr
  obtain ⟨hE', hmv⟩ := Ep.addNil hE
  have hmr : ∀ b ∈ ([[b_11]] : List (List Nat)).flatten, w_15.heap[b]? = w_15.heap[b]? := fun _ _ => rfl
  replace hq_12 := ItIs.keep hq_12 (hmr _ (by simp))
  replace hE := hE'
  clear hE' hmv hmr
  have hq_16 : Row (Kd.int .i64) 3 (Lo S w w_15 ns_14 [[b_11], rb none]) w_15 w.heap.size none 0 ([] : List Int) := Row.nil
  obtain ⟨hE', hmv⟩ := Ep.addNil hE
  have hmr : ∀ b ∈ ([[b_11], rb none] : List (List Nat)).flatten, w_15.heap[b]? = w_15.heap[b]? := fun _ _ => rfl
  replace hq_12 := ItIs.keep hq_12 (hmr _ (by simp))
  replace hq_16 := Row.keep hq_16 (hmv _) (fun b hb => by simp [rb] at hb)
  replace hE := hE'
  clear hE' hmv hmr
  have hq_17 : Row (Kd.int .i64) 3 (Lo S w w_15 ns_14 [[b_11], rb none, rb none]) w_15 w.heap.size none 0 ([] : List Int) := Row.nil
  obtain ⟨o_158, hL_159, H0⟩ := bind_some H0
  refine block_loop (fun (s1 : Bool × (List Int) × Bool × (List Int) × Int × ByteArray × Nat) a w_279 => ∃ (ow ns : List Nat) (A_18 : Option Addr) (c_19 : Nat) (A_20 : Option Addr) (c_21 : Nat), (ItIs w_279 b_11 a0 s1.2.2.2.2.2.2) ∧ (Row (Kd.int .i64) 3 (Lo S w w_279 ow [[b_11], rb A_18, rb A_20]) w_279 w.heap.size A_18 c_19 s1.2.1) ∧ (Row (Kd.int .i64) 3 (Lo S w w_279 ow [[b_11], rb A_18, rb A_20]) w_279 w.heap.size A_20 c_21 s1.2.2.2.1) ∧ Ep [] w w_279 ow [[b_11], rb A_18, rb A_20] ∧ St w_279 ow 83 (s_ [e_ 12 (.pointer (some ⟨b_11, 0, none⟩)), e_ 6 (.bool s1.1), p_ 5 0 0, e_ 4 (.slice A_18 s1.2.1.length c_19), e_ 3 (.bool s1.2.2.1), e_ 2 (.slice A_20 s1.2.2.2.1.length c_21)] [([.v (.int .i64 s1.2.2.2.2.1), .v (.string s1.2.2.2.2.2.1)], 54)]) ns a w_279) (true, ([] : List Int), false, ([] : List Int), (-1), ByteArray.empty, 0) hL_159 ⟨_, _, _, _, _, _, hq_12, hq_16, hq_17, hE, hI.pick [12, 6, 5, 4, 3, 2] 1 (s_ [e_ 12 (.pointer (some ⟨b_11, 0, none⟩)), e_ 6 (.bool true), p_ 5 0 0, e_ 4 (.slice none ([] : List Int).length 0), e_ 3 (.bool false), e_ 2 (.slice none ([] : List Int).length 0)] [([.v (.int .i64 (-1)), .v (.string ByteArray.empty)], 54)]) (by kernel_rfl)⟩ ?_ ?_
  ·clear hI hE
   rintro s1 a w_22 ⟨ow_24, ns_23, A_18, c_19, A_20, c_21, hq_12, hq_16, hq_17, hE, hI⟩ r1 H1
   unfold G_pack_Parse.b1 at H1
   refine wpIn_seq ?_
   refine wpIn_region_lit ?_
   obtain ⟨hE', hmv, hmr⟩ := Ep.rebase hE hI
   replace hq_12 := ItIs.keep hq_12 (hmr _ (by simp))
   replace hq_16 := Row.keep hq_16 (hmv _) (fun b hb => hmr b (by simp [hb]))
   replace hq_17 := Row.keep hq_17 (hmv _) (fun b hb => hmr b (by simp [hb]))
   replace hE := hE'
   replace hI := hI.rebase
   clear hE' hmv hmr
   refine nextS_ hF hE hI (wanted_none rfl) rfl (by simp) hq_12 rfl (s_ [e_ 13 (.tuple #[.bool true, .int .i64 (s1.2.2.2.2.2.2 : Int), .int .i32 ((Utf8.decode a0 s1.2.2.2.2.2.2).1 : Int)]), e_ 12 (.pointer (some ⟨b_11, 0, none⟩)), e_ 6 (.bool s1.1), p_ 5 0 0, e_ 4 (.slice A_18 s1.2.1.length c_19), e_ 3 (.bool s1.2.2.1), e_ 2 (.slice A_20 s1.2.2.2.1.length c_21)] [([.v (.int .i64 s1.2.2.2.2.1), .v (.string s1.2.2.2.2.2.1)], 54)]) (s_ [e_ 13 (.tuple #[.bool false]), e_ 12 (.pointer (some ⟨b_11, 0, none⟩)), e_ 6 (.bool s1.1), p_ 5 0 0, e_ 4 (.slice A_18 s1.2.1.length c_19), e_ 3 (.bool s1.2.2.1), e_ 2 (.slice A_20 s1.2.2.2.1.length c_21)] [([.v (.int .i64 s1.2.2.2.2.1), .v (.string s1.2.2.2.2.2.1)], 54)]) (by kernel_rfl) (by kernel_rfl) (fun a w_25 hb_26 hput hE' hI' hmv hmr hq_12 => ?_) (fun a hb_26 hI => ?_)
   ·replace H1 := bif_t hb_26 H1
    replace hq_16 := Row.keep hq_16 (hmv _) (fun b hb => hmr b (by simp [hb]) (Ep.ne hE (i := 0) (j := 1) (by decide) rfl rfl hb))
    replace hq_17 := Row.keep hq_17 (hmv _) (fun b hb => hmr b (by simp [hb]) (Ep.ne hE (i := 0) (j := 2) (by decide) rfl rfl hb))
    replace hE := hE'
    replace hI := hI'
    clear hE' hI' hmv hmr
    refine ckn0_ hF 1 hI [14, 13, 12, 6, 5, 4, 3, 2] [e_ 14 (.bool true)] [] rfl (by kernel_rfl) (fun ns_27 a w_28 hI => ?_)
    refine wpListIn_nil ?_
    refine then_normal ?_
    refine wpIn_seq ?_
    refine cond_ hI true rfl (fun _ => ?_) (fun h => by cases h)
    refine wpIn_skip ?_
    refine then_normal ?_
    refine wpIn_block ?_
    refine srn0_ hF hI [8, 12, 6, 5, 4, 3, 2] [e_ 8 (.int .i32 ((Utf8.decode a0 s1.2.2.2.2.2.2).1 : Int))] [] (by kernel_rfl) (fun ns_29 a w_30 hI => ?_)
    obtain ⟨t_31, hG_32, H1⟩ := bind_some H1
    refine srn_ (orc := [[.int .i64 t_31]]) hF hI [9, 8, 12, 6, 5, 4, 3, 2] [e_ 9 (.int .i64 t_31)] [] [.call true 21 [.string (⟨#[97, 98, 116]⟩ : ByteArray), .int .u8 (IntKind.u8.wrap ((Utf8.decode a0 s1.2.2.2.2.2.2).1 : Int))] (.int .i64 t_31)] (by kernel_rfl) ⟨ob_call (enters Tryd.func21 (by kernel_rfl) rfl) (fun hg wz hk => G_strings_IndexByte.calls (⟨#[97, 98, 116]⟩ : ByteArray) (IntKind.u8.wrap ((Utf8.decode a0 s1.2.2.2.2.2.2).1 : Int))  wz (S := fun _ => True)  _ hG_32), trivial⟩ (fun ns_33 a w_34 hI => ?_)
    refine wpIn_seq ?_
    refine wpIn_block ?_
    refine srn0_ hF hI [19, 9, 8, 12, 6, 5, 4, 3, 2] [e_ 19 (.bool (((decide (((Utf8.decode a0 s1.2.2.2.2.2.2).1 : Int) ≥ 48) && decide (((Utf8.decode a0 s1.2.2.2.2.2.2).1 : Int) ≤ 57)) && decide (s1.2.2.2.2.1 ≥ 0)) && decide ((s1.2.2.2.2.2.1.size : Int) < 5)))] [] (by kernel_rfl) (fun ns_35 a w_36 hI => ?_)
    refine cond_ hI ((((decide (((Utf8.decode a0 s1.2.2.2.2.2.2).1 : Int) ≥ 48) && decide (((Utf8.decode a0 s1.2.2.2.2.2.2).1 : Int) ≤ 57)) && decide (s1.2.2.2.2.1 ≥ 0)) && decide ((s1.2.2.2.2.2.1.size : Int) < 5))) rfl (fun hc_37 => ?_) (fun hc_37 => ?_)
    ·replace H1 := bif_t hc_37 H1
     refine wpIn_seq ?_
     refine wpIn_region_lit ?_
     refine ckn0_ hF 4 hI [40, 38, 12, 6, 5, 4, 3, 2] [e_ 40 (.int .u8 (IntKind.u8.wrap ((Utf8.decode a0 s1.2.2.2.2.2.2).1 : Int))), e_ 38 (.string s1.2.2.2.2.2.1)] [] rfl (by kernel_rfl) (fun ns_38 a w_39 hI => ?_)
     refine enc_ hF hI (wanted_none rfl) rfl (by kernel_rfl) Tryd.underlying9 rfl (s_ [e_ 41 (.string (Utf8.encode (IntKind.u8.wrap ((Utf8.decode a0 s1.2.2.2.2.2.2).1 : Int)))), e_ 40 (.int .u8 (IntKind.u8.wrap ((Utf8.decode a0 s1.2.2.2.2.2.2).1 : Int))), e_ 38 (.string s1.2.2.2.2.2.1), e_ 12 (.pointer (some ⟨b_11, 0, none⟩)), e_ 6 (.bool s1.1), p_ 5 0 0, e_ 4 (.slice A_18 s1.2.1.length c_19), e_ 3 (.bool s1.2.2.1), e_ 2 (.slice A_20 s1.2.2.2.1.length c_21)] [([.v (.int .i64 s1.2.2.2.2.1), .v (.string s1.2.2.2.2.2.1)], 54)]) (by kernel_rfl) (fun a hput hI => ?_)
     obtain ⟨hN_40, H1⟩ := req_some H1
     refine cat_ hF hI (wanted_none rfl) rfl (s := s1.2.2.2.2.2.1) (t := (Utf8.encode (IntKind.u8.wrap ((Utf8.decode a0 s1.2.2.2.2.2.2).1 : Int)))) rfl rfl (of_decide_eq_true hN_40) (s_ [e_ 42 (.string (s1.2.2.2.2.2.1 ++ (Utf8.encode (IntKind.u8.wrap ((Utf8.decode a0 s1.2.2.2.2.2.2).1 : Int))))), e_ 41 (.string (Utf8.encode (IntKind.u8.wrap ((Utf8.decode a0 s1.2.2.2.2.2.2).1 : Int)))), e_ 40 (.int .u8 (IntKind.u8.wrap ((Utf8.decode a0 s1.2.2.2.2.2.2).1 : Int))), e_ 38 (.string s1.2.2.2.2.2.1), e_ 12 (.pointer (some ⟨b_11, 0, none⟩)), e_ 6 (.bool s1.1), p_ 5 0 0, e_ 4 (.slice A_18 s1.2.1.length c_19), e_ 3 (.bool s1.2.2.1), e_ 2 (.slice A_20 s1.2.2.2.1.length c_21)] [([.v (.int .i64 s1.2.2.2.2.1), .v (.string s1.2.2.2.2.2.1)], 54)]) (by kernel_rfl) (fun a hput hI => ?_)
     refine ckn0_ hF 2 hI [12, 6, 5, 4, 3, 2] [] [(0, ([.v (.int .i64 s1.2.2.2.2.1), .v (.string (s1.2.2.2.2.2.1 ++ (Utf8.encode (IntKind.u8.wrap ((Utf8.decode a0 s1.2.2.2.2.2.2).1 : Int)))))], 54))] rfl (by kernel_rfl) (fun ns_41 a w_42 hI => ?_)
     refine wpListIn_nil ?_
     refine then_normal ?_
     refine wpIn_exit ?_
     refine inBlock_other (by decide) ?_
     refine then_exit ?_
     refine inBlock_here ?_
     refine then_normal ?_
     obtain ⟨hE', hmv, hmr⟩ := Ep.rebase hE hI
     replace hq_16 := Row.keep hq_16 (hmv _) (fun b hb => hmr b (by simp [hb]))
     replace hq_17 := Row.keep hq_17 (hmv _) (fun b hb => hmr b (by simp [hb]))
     replace hq_12 := ItIs.keep hq_12 (hmr _ (by simp))
     replace hE := hE'
     replace hI := hI.rebase
     clear hE' hmv hmr
     obtain rfl := Option.some.inj H1
     exact ⟨_, rfl, ⟨_, _, _, _, _, _, hq_12, hq_16, hq_17, hE, hI.pick [12, 6, 5, 4, 3, 2] 1 (s_ [e_ 12 (.pointer (some ⟨b_11, 0, none⟩)), e_ 6 (.bool s1.1), p_ 5 0 0, e_ 4 (.slice A_18 s1.2.1.length c_19), e_ 3 (.bool s1.2.2.1), e_ 2 (.slice A_20 s1.2.2.2.1.length c_21)] [([.v (.int .i64 s1.2.2.2.2.1), .v (.string (s1.2.2.2.2.2.1 ++ (Utf8.encode (IntKind.u8.wrap ((Utf8.decode a0 s1.2.2.2.2.2.2).1 : Int)))))], 54)]) (by kernel_rfl)⟩⟩
    ·replace H1 := bif_f hc_37 H1
     refine srn0_ hF hI [44, 9, 12, 6, 5, 4, 3, 2] [e_ 44 (.bool ((decide (((Utf8.decode a0 s1.2.2.2.2.2.2).1 : Int) > 127) || decide (t_31 < 0)) || (t_31 == s1.2.2.2.2.1)))] [] (by kernel_rfl) (fun ns_43 a w_44 hI => ?_)
     refine cond_ hI (((decide (((Utf8.decode a0 s1.2.2.2.2.2.2).1 : Int) > 127) || decide (t_31 < 0)) || (t_31 == s1.2.2.2.2.1))) rfl (fun hc_45 => ?_) (fun hc_45 => ?_)
     ·replace H1 := bif_t hc_45 H1
      refine srn0_ hF hI [3, 2] [e_ 3 (.bool false), e_ 2 (.slice none 0 0)] [] (by kernel_rfl) (fun ns_46 a w_47 hI => ?_)
      refine wpIn_ret ?_
      refine inBlock_ret ?_
      refine then_ret ?_
      refine inBlock_ret ?_
      refine then_ret ?_
      obtain rfl := Option.some.inj H1
      refine .inr ⟨_, rfl, fun ho => ?_⟩
      subst ho
      refine inBlock_ret ?_
      refine then_ret ?_
      obtain rfl := Option.some.inj H0
      exact ret2 hI rfl rfl rfl ⟨svL [(none, 0)], rfl, hE.below hI, ⟨(Arr.nil _ _ _ _), (Nat.le_refl _)⟩⟩
     ·replace H1 := bif_f hc_45 H1
      refine srn0_ hF hI [57, 9, 12, 6, 5, 4, 3, 2] [e_ 57 (.bool (decide (s1.2.2.2.2.1 ≥ 0)))] [] (by kernel_rfl) (fun ns_48 a w_49 hI => ?_)
      refine cond_ hI (decide (s1.2.2.2.2.1 ≥ 0)) rfl (fun hc_50 => ?_) (fun hc_50 => ?_)
      ·replace H1 := bif_t hc_50 H1
       refine wpIn_seq ?_
       refine wpIn_region_lit ?_
       refine ckn0_ hF 2 hI [63, 62, 9, 12, 6, 5, 4, 3, 2] [e_ 63 (.slice A_18 s1.2.1.length c_19), e_ 62 (.agg #[.int .i64 s1.2.2.2.2.1, .string s1.2.2.2.2.2.1])] [] rfl (by kernel_rfl) (fun ns_51 a w_52 hI => ?_)
       obtain ⟨hE', hmv, hmr⟩ := Ep.rebase hE hI
       replace hq_16 := Row.keep hq_16 (hmv _) (fun b hb => hmr b (by simp [hb]))
       replace hq_17 := Row.keep hq_17 (hmv _) (fun b hb => hmr b (by simp [hb]))
       replace hq_12 := ItIs.keep hq_12 (hmr _ (by simp))
       replace hE := hE'
       replace hI := hI.rebase
       clear hE' hmv hmr
       refine callI_ hF hI (wanted_none rfl) rfl Tryd.func22 (by kernel_rfl) rfl (n' := 40) rfl (by kernel_rfl) (by kernel_rfl) (fun au_53 hIu_53 => ?_)
       have hOu_53 := hI
       have hFu_53 := hF
       have hF : FOpen Fence.wide := .inl rfl
       have hI : St w_52 ns_51 40 ⟨[e_ 0 (.agg #[.int .i64 s1.2.2.2.2.1, .string s1.2.2.2.2.2.1]), e_ 1 (.slice A_18 s1.2.1.length c_19)], [], [], [([.v (.int .i64 s1.2.2.2.2.1), .v (.string s1.2.2.2.2.2.1)], 54)], none, some (1, ns_51)⟩ ns_51 au_53 w_52 := hIu_53
       clear hIu_53
       refine sr0_ hF hI ⟨[e_ 5 (.bool false), e_ 4 (.slice none 0 0), p_ 2 1 0, e_ 1 (.slice A_18 s1.2.1.length c_19)], [], [], [([.v (.int .i64 s1.2.2.2.2.1), .v (.string s1.2.2.2.2.2.1)], 54), ([.v (.int .i64 s1.2.2.2.2.1), .v (.string s1.2.2.2.2.2.1)], 54)], none, some (1, ns_51)⟩ (by kernel_rfl) (fun ns_54 a w_55 hI => ?_)
       refine srn0_ hF hI [6, 5, 4, 2, 1] [e_ 6 (.int .i64 1)] [] (by kernel_rfl) (fun ns_56 a w_57 hI => ?_)
       refine wpIn_seq ?_
       refine srn0_ hF hI [9, 6, 5, 4, 2, 1] [e_ 9 (.bool (!(s1.2.2.2.2.2.1.toList == (⟨#[]⟩ : ByteArray).toList)))] [] (by kernel_rfl) (fun ns_58 a w_59 hI => ?_)
       refine cond_ hI ((!(s1.2.2.2.2.2.1.toList == (⟨#[]⟩ : ByteArray).toList))) rfl (fun hc_60 => ?_) (fun hc_60 => ?_)
       ·replace H1 := bif_t hc_60 H1
        refine wpIn_seq ?_
        refine wpIn_region_lit ?_
        refine ckn0_ hF 2 hI [12, 6, 5, 4, 2, 1] [e_ 12 (.string s1.2.2.2.2.2.1)] [] rfl (by kernel_rfl) (fun ns_61 a w_62 hI => ?_)
        obtain ⟨hE', hmv, hmr⟩ := Ep.rebase hE hI
        replace hq_16 := Row.keep hq_16 (hmv _) (fun b hb => hmr b (by simp [hb]))
        replace hq_17 := Row.keep hq_17 (hmv _) (fun b hb => hmr b (by simp [hb]))
        replace hq_12 := ItIs.keep hq_12 (hmr _ (by simp))
        replace hE := hE'
        replace hI := hI.rebase
        clear hE' hmv hmr
        obtain ⟨t_63, hG_64, H1⟩ := bind_some H1
        refine callH_ hF hE hI (wanted_none rfl) rfl (args := [.string s1.2.2.2.2.2.1]) rfl (enters Tryd.func27 (by kernel_rfl) rfl) (fun sv_65 => .tuple #[.int .i64 t_63.1, fnv46 t_63.2 sv_65]) _ (G_strconv_Atoi_27.calls s1.2.2.2.2.2.1  w_62 (S := Lo S w w_62 ns_61 [[b_11], rb A_18, rb A_20])  _ hG_64) (fun sv_65 => ⟨[e_ 13 (.tuple #[.int .i64 t_63.1, fnv46 t_63.2 sv_65]), e_ 12 (.string s1.2.2.2.2.2.1), e_ 6 (.int .i64 1), e_ 5 (.bool false), e_ 4 (.slice none 0 0), p_ 2 1 0, e_ 1 (.slice A_18 s1.2.1.length c_19)], [], [], [([.v (.int .i64 s1.2.2.2.2.1), .v (.string s1.2.2.2.2.2.1)], 54), ([.v (.int .i64 s1.2.2.2.2.1), .v (.string s1.2.2.2.2.2.1)], 54)], none, some (1, ns_51)⟩) (fun sv_65 => by kernel_rfl) (fun sv_65 a w_67 hput hE' hI' hmv hmr hres hR => ?_)
        replace hq_16 := Row.keep hq_16 (hmv _) (fun b hb => hmr b (by simp [hb]) (by simp))
        replace hq_17 := Row.keep hq_17 (hmv _) (fun b hb => hmr b (by simp [hb]) (by simp))
        replace hq_12 := ItIs.keep hq_12 (hmr _ (by simp) (by simp))
        replace hE := hE'
        replace hI := hI'
        clear hE' hI' hmv hmr
        have hR_66 := hR
        replace hR_66 := Kd.keep _ hR_66 (hres _)
        clear hres
        refine ckn0_ hF 4 hI [6, 5, 4, 2, 1] [e_ 6 (.int .i64 t_63.1)] [] rfl (by kernel_rfl) (fun ns_68 a w_69 hI => ?_)
        refine wpListIn_nil ?_
        refine then_normal ?_
        obtain ⟨hN_70, H1⟩ := req_some H1
        refine srn_ (orc := [[.int .u8 (rdB s1.2.2.2.2.2.1 0)]]) hF hI [27, 6, 5, 4, 2, 1] [e_ 27 (.bool ((decide (t_63.1 < 2) || decide (t_63.1 > 4096)) || ((rdB s1.2.2.2.2.2.1 0) == 48)))] [] [.run (!(decide (t_63.1 < 2) || decide (t_63.1 > 4096))) (vS (Instr.index 9 (.string s1.2.2.2.2.2.1) (.int .i64 0))) (.int .u8 (rdB s1.2.2.2.2.2.1 0))] (by kernel_rfl) ⟨(fun hg wz hk => vS_run (index_run Tryd.underlying9 _ _ (imp_spec hN_70 hg) wz)), trivial⟩ (fun ns_71 a w_72 hI => ?_)
        refine cond_ hI (((decide (t_63.1 < 2) || decide (t_63.1 > 4096)) || ((rdB s1.2.2.2.2.2.1 0) == 48))) rfl (fun hc_73 => ?_) (fun hc_73 => ?_)
        ·replace H1 := bif_t hc_73 H1
         refine srn0_ hF hI [5, 4] [] [] (by kernel_rfl) (fun ns_74 a w_75 hI => ?_)
         refine wpIn_ret ?_
         refine then_ret ?_
         obtain ⟨hE', hmv, hmr⟩ := Ep.rebase hE hI
         replace hq_16 := Row.keep hq_16 (hmv _) (fun b hb => hmr b (by simp [hb]))
         replace hq_17 := Row.keep hq_17 (hmv _) (fun b hb => hmr b (by simp [hb]))
         replace hq_12 := ItIs.keep hq_12 (hmr _ (by simp))
         replace hR_66 := Kd.keep _ hR_66 (hmv _)
         replace hE := hE'
         replace hI := hI.rebase
         clear hE' hmv hmr
         obtain ⟨hE', hI', hmv⟩ := Ep.uncall (bs := [([.v (.int .i64 s1.2.2.2.2.1), .v (.string s1.2.2.2.2.2.1)], 54)]) hOu_53 hE hI rfl rfl rfl rfl (by kernel_rfl) rfl
         have hmr : ∀ b ∈ ([[b_11], rb A_18, rb A_20] : List (List Nat)).flatten, w_75.heap[b]? = w_75.heap[b]? := fun _ _ => rfl
         replace hq_16 := Row.keep hq_16 (hmv _) (fun b hb => hmr b (by simp [hb]))
         replace hq_17 := Row.keep hq_17 (hmv _) (fun b hb => hmr b (by simp [hb]))
         replace hq_12 := ItIs.keep hq_12 (hmr _ (by simp))
         replace hR_66 := Kd.keep _ hR_66 (hmv _)
         replace hE := hE'
         clear hE' hmv hmr
         refine retG hI rfl rfl ⟨.tuple #[.slice none 0 0, .bool false], rfl, ?_⟩
         refine putI_ hI' (s_ [e_ 64 (.tuple #[.slice none 0 0, .bool false]), e_ 63 (.slice A_18 s1.2.1.length c_19), e_ 62 (.agg #[.int .i64 s1.2.2.2.2.1, .string s1.2.2.2.2.2.1]), e_ 9 (.int .i64 t_31), e_ 12 (.pointer (some ⟨b_11, 0, none⟩)), e_ 6 (.bool s1.1), p_ 5 0 0, e_ 4 (.slice A_18 s1.2.1.length c_19), e_ 3 (.bool s1.2.2.1), e_ 2 (.slice A_20 s1.2.2.2.1.length c_21)] [([.v (.int .i64 s1.2.2.2.2.1), .v (.string s1.2.2.2.2.2.1)], 54)]) (by kernel_rfl) (fun a hI => ?_)
         clear hI'
         have hF := hFu_53
         refine ckn0_ hF 5 hI [6, 4, 9, 12, 5, 3, 2] [e_ 6 (.bool false), e_ 4 (.slice none 0 0)] [] rfl (by kernel_rfl) (fun ns_76 a w_77 hI => ?_)
         refine wpListIn_nil ?_
         refine then_normal ?_
         refine srn0_ hF hI [68, 6, 4, 9, 12, 5, 3, 2] [e_ 68 (.bool true)] [] (by kernel_rfl) (fun ns_78 a w_79 hI => ?_)
         refine cond_ hI true rfl (fun _ => ?_) (fun h => by cases h)
         refine srn0_ hF hI [3, 2] [e_ 3 (.bool false), e_ 2 (.slice none 0 0)] [] (by kernel_rfl) (fun ns_80 a w_81 hI => ?_)
         refine wpIn_ret ?_
         refine inBlock_ret ?_
         refine then_ret ?_
         refine inBlock_ret ?_
         refine then_ret ?_
         obtain rfl := Option.some.inj H1
         refine .inr ⟨_, rfl, fun ho => ?_⟩
         subst ho
         refine inBlock_ret ?_
         refine then_ret ?_
         obtain rfl := Option.some.inj H0
         exact ret2 hI rfl rfl rfl ⟨svL [(none, 0)], rfl, hE.below hI, ⟨(Arr.nil _ _ _ _), (Nat.le_refl _)⟩⟩
        ·replace H1 := bif_f hc_73 H1
         refine wpIn_skip ?_
         refine then_normal ?_
         refine wpIn_seq ?_
         refine srn0_ hF hI [32, 6, 5, 4, 2, 1] [e_ 32 (.bool (decide (t_63.1 > (IntKind.i64.wrap (4096 - (s1.2.1.length : Int))))))] [] (by kernel_rfl) (fun ns_82 a w_83 hI => ?_)
         refine cond_ hI (decide (t_63.1 > (IntKind.i64.wrap (4096 - (s1.2.1.length : Int))))) rfl (fun hc_84 => ?_) (fun hc_84 => ?_)
         ·replace H1 := bif_t hc_84 H1
          refine srn0_ hF hI [5, 4] [] [] (by kernel_rfl) (fun ns_85 a w_86 hI => ?_)
          refine wpIn_ret ?_
          refine then_ret ?_
          obtain ⟨hE', hmv, hmr⟩ := Ep.rebase hE hI
          replace hq_16 := Row.keep hq_16 (hmv _) (fun b hb => hmr b (by simp [hb]))
          replace hq_17 := Row.keep hq_17 (hmv _) (fun b hb => hmr b (by simp [hb]))
          replace hq_12 := ItIs.keep hq_12 (hmr _ (by simp))
          replace hR_66 := Kd.keep _ hR_66 (hmv _)
          replace hE := hE'
          replace hI := hI.rebase
          clear hE' hmv hmr
          obtain ⟨hE', hI', hmv⟩ := Ep.uncall (bs := [([.v (.int .i64 s1.2.2.2.2.1), .v (.string s1.2.2.2.2.2.1)], 54)]) hOu_53 hE hI rfl rfl rfl rfl (by kernel_rfl) rfl
          have hmr : ∀ b ∈ ([[b_11], rb A_18, rb A_20] : List (List Nat)).flatten, w_86.heap[b]? = w_86.heap[b]? := fun _ _ => rfl
          replace hq_16 := Row.keep hq_16 (hmv _) (fun b hb => hmr b (by simp [hb]))
          replace hq_17 := Row.keep hq_17 (hmv _) (fun b hb => hmr b (by simp [hb]))
          replace hq_12 := ItIs.keep hq_12 (hmr _ (by simp))
          replace hR_66 := Kd.keep _ hR_66 (hmv _)
          replace hE := hE'
          clear hE' hmv hmr
          refine retG hI rfl rfl ⟨.tuple #[.slice none 0 0, .bool false], rfl, ?_⟩
          refine putI_ hI' (s_ [e_ 64 (.tuple #[.slice none 0 0, .bool false]), e_ 63 (.slice A_18 s1.2.1.length c_19), e_ 62 (.agg #[.int .i64 s1.2.2.2.2.1, .string s1.2.2.2.2.2.1]), e_ 9 (.int .i64 t_31), e_ 12 (.pointer (some ⟨b_11, 0, none⟩)), e_ 6 (.bool s1.1), p_ 5 0 0, e_ 4 (.slice A_18 s1.2.1.length c_19), e_ 3 (.bool s1.2.2.1), e_ 2 (.slice A_20 s1.2.2.2.1.length c_21)] [([.v (.int .i64 s1.2.2.2.2.1), .v (.string s1.2.2.2.2.2.1)], 54)]) (by kernel_rfl) (fun a hI => ?_)
          clear hI'
          have hF := hFu_53
          refine ckn0_ hF 5 hI [6, 4, 9, 12, 5, 3, 2] [e_ 6 (.bool false), e_ 4 (.slice none 0 0)] [] rfl (by kernel_rfl) (fun ns_87 a w_88 hI => ?_)
          refine wpListIn_nil ?_
          refine then_normal ?_
          refine srn0_ hF hI [68, 6, 4, 9, 12, 5, 3, 2] [e_ 68 (.bool true)] [] (by kernel_rfl) (fun ns_89 a w_90 hI => ?_)
          refine cond_ hI true rfl (fun _ => ?_) (fun h => by cases h)
          refine srn0_ hF hI [3, 2] [e_ 3 (.bool false), e_ 2 (.slice none 0 0)] [] (by kernel_rfl) (fun ns_91 a w_92 hI => ?_)
          refine wpIn_ret ?_
          refine inBlock_ret ?_
          refine then_ret ?_
          refine inBlock_ret ?_
          refine then_ret ?_
          obtain rfl := Option.some.inj H1
          refine .inr ⟨_, rfl, fun ho => ?_⟩
          subst ho
          refine inBlock_ret ?_
          refine then_ret ?_
          obtain rfl := Option.some.inj H0
          exact ret2 hI rfl rfl rfl ⟨svL [(none, 0)], rfl, hE.below hI, ⟨(Arr.nil _ _ _ _), (Nat.le_refl _)⟩⟩
         ·replace H1 := bif_f hc_84 H1
          refine wpIn_skip ?_
          refine then_normal ?_
          refine wpIn_seq ?_
          refine wpIn_region_lit ?_
          refine ckn0_ hF 3 hI [35, 33, 6, 5, 4] [e_ 35 (.int .i64 s1.2.2.2.2.1), e_ 33 (.slice A_18 s1.2.1.length c_19)] [] rfl (by kernel_rfl) (fun ns_93 a w_94 hI => ?_)
          obtain ⟨hE', hmv, hmr⟩ := Ep.rebase hE hI
          replace hq_16 := Row.keep hq_16 (hmv _) (fun b hb => hmr b (by simp [hb]))
          replace hq_17 := Row.keep hq_17 (hmv _) (fun b hb => hmr b (by simp [hb]))
          replace hq_12 := ItIs.keep hq_12 (hmr _ (by simp))
          replace hR_66 := Kd.keep _ hR_66 (hmv _)
          replace hE := hE'
          replace hI := hI.rebase
          clear hE' hmv hmr
          refine buildSlice_ (S0 := S) (d := (Kd.int .i64)) (e := 3) hF hE hI (wanted_none rfl) rfl (by kernel_rfl) (cs := [.int .i64 s1.2.2.2.2.1]) (by kernel_rfl) [s1.2.2.2.2.1] [(svL [])] rfl rfl (by simp [maxLen]) (fun i x hi => by cases i with | zero => (simp only [List.getElem?_cons_zero, Option.some.injEq] at hi; subst hi; exact ⟨trivial, rfl⟩) | succ i => (simp only [List.getElem?_cons_succ] at hi; simp at hi)) (fun A_95 => ⟨[e_ 36 (.slice A_95 ([s1.2.2.2.2.1] : List Int).length (([s1.2.2.2.2.1] : List Int).length)), e_ 35 (.int .i64 s1.2.2.2.2.1), e_ 33 (.slice A_18 s1.2.1.length c_19), e_ 6 (.int .i64 t_63.1), e_ 5 (.bool false), e_ 4 (.slice none 0 0)], [], [], [([.v (.int .i64 s1.2.2.2.2.1), .v (.string s1.2.2.2.2.2.1)], 54), ([.v (.int .i64 s1.2.2.2.2.1), .v (.string s1.2.2.2.2.2.1)], 54)], none, some (1, ns_51)⟩) (fun A_95 => by kernel_rfl) (fun A_95 a w_97 hput hE' hI' hmv hmr hq_96 => ?_)
          replace hq_16 := Row.keep hq_16 (hmv _) (fun b hb => hmr b (by simp [hb]) (by simp))
          replace hq_17 := Row.keep hq_17 (hmv _) (fun b hb => hmr b (by simp [hb]) (by simp))
          replace hq_12 := ItIs.keep hq_12 (hmr _ (by simp) (by simp))
          replace hR_66 := Kd.keep _ hR_66 (hmv _)
          replace hE := hE'
          replace hI := hI'
          clear hE' hI' hmv hmr
          refine ckn0_ hF 1 hI [37, 36, 33, 5, 4] [e_ 37 (.int .i64 t_63.1)] [] rfl (by kernel_rfl) (fun ns_98 a w_99 hI => ?_)
          obtain ⟨hE', hmv, hmr⟩ := Ep.rebase hE hI
          replace hq_16 := Row.keep hq_16 (hmv _) (fun b hb => hmr b (by simp [hb]))
          replace hq_17 := Row.keep hq_17 (hmv _) (fun b hb => hmr b (by simp [hb]))
          replace hq_12 := ItIs.keep hq_12 (hmr _ (by simp))
          replace hR_66 := Kd.keep _ hR_66 (hmv _)
          replace hq_96 := Row.keep hq_96 (hmv _) (fun b hb => hmr b (by simp [hb]))
          replace hE := hE'
          replace hI := hI.rebase
          clear hE' hmv hmr
          obtain ⟨hE', hmv, hq_96, hcap_100⟩ := Row.still (l1 := [[b_11], rb A_18, rb A_20]) (l2 := []) hq_96 (Nat.le_refl _) hE
          have hmr : ∀ b ∈ ([[b_11], rb A_18, rb A_20, rb A_95] : List (List Nat)).flatten, w_99.heap[b]? = w_99.heap[b]? := fun _ _ => rfl
          replace hq_16 := Row.keep hq_16 (hmv _) (fun b hb => hmr b (by simp [hb]))
          replace hq_17 := Row.keep hq_17 (hmv _) (fun b hb => hmr b (by simp [hb]))
          replace hq_12 := ItIs.keep hq_12 (hmr _ (by simp))
          replace hR_66 := Kd.keep _ hR_66 (hmv _)
          replace hE := hE'
          clear hE' hmv hmr
          obtain ⟨t_101, hG_102, H1⟩ := bind_some H1
          refine callH_ hF hE hI (wanted_none rfl) rfl (args := [.slice A_95 ([s1.2.2.2.2.1] : List Int).length (([s1.2.2.2.2.1] : List Int).length), .int .i64 t_63.1]) rfl (enters Tryd.func28 (by kernel_rfl) rfl) (fun sv_103 => .slice ((sv_103 0).1) t_101.length ((sv_103 0).2)) _ (G_slices_Repeat_int_int.calls ([s1.2.2.2.2.1] : List Int) t_63.1 A_95 (([s1.2.2.2.2.1] : List Int).length) w_99 (S := Lo S w w_99 ns_98 [[b_11], rb A_18, rb A_20]) hq_96 hcap_100 _ hG_102) (fun sv_103 => ⟨[e_ 38 (.slice ((sv_103 0).1) t_101.length ((sv_103 0).2)), e_ 37 (.int .i64 t_63.1), e_ 36 (.slice A_95 ([s1.2.2.2.2.1] : List Int).length (([s1.2.2.2.2.1] : List Int).length)), e_ 33 (.slice A_18 s1.2.1.length c_19), e_ 5 (.bool false), e_ 4 (.slice none 0 0)], [], [], [([.v (.int .i64 s1.2.2.2.2.1), .v (.string s1.2.2.2.2.2.1)], 54), ([.v (.int .i64 s1.2.2.2.2.1), .v (.string s1.2.2.2.2.2.1)], 54)], none, some (1, ns_51)⟩) (fun sv_103 => by kernel_rfl) (fun sv_103 a w_105 hput hE' hI' hmv hmr hres hR => ?_)
          replace hq_16 := Row.keep hq_16 (hmv _) (fun b hb => hmr b (by simp [hb]) (by simp))
          replace hq_17 := Row.keep hq_17 (hmv _) (fun b hb => hmr b (by simp [hb]) (by simp))
          replace hq_12 := ItIs.keep hq_12 (hmr _ (by simp) (by simp))
          replace hR_66 := Kd.keep _ hR_66 (hmv _)
          replace hq_96 := Arr.keep hq_96 (hmv _)
          replace hE := hE'
          replace hI := hI'
          clear hE' hI' hmv hmr
          obtain ⟨hR_104, hR_104c⟩ := hR
          replace hR_104 := Arr.keep hR_104 (hres _)
          clear hres
          obtain ⟨hN_106, H1⟩ := req_some H1
          replace hN_106 := of_decide_eq_true hN_106
          refine appendN_ (S0 := S) (l1 := [[b_11]]) (l2 := [rb A_20]) (d := (Kd.int .i64)) (e := 3) hF hE hI (wanted_none rfl) rfl (A := A_18) (c := c_19) (l := s1.2.1) rfl (A2 := ((sv_103 0).1)) (c2 := ((sv_103 0).2)) (ys := t_101) rfl hq_16 hE.k.size hR_104 (fun y sv u hu => by exact kd_one_int _ sv u hu) Tryd.underlying22 (zi := (.int .i64 0, 1, 8)) (by kernel_rfl) rfl (by kernel_rfl) (len_maxN (b := 8) (by decide) hN_106) hN_106 (fun A_107 c_108 => ⟨[e_ 39 (.slice A_107 (s1.2.1 ++ t_101).length c_108), e_ 38 (.slice ((sv_103 0).1) t_101.length ((sv_103 0).2)), e_ 37 (.int .i64 t_63.1), e_ 36 (.slice A_95 ([s1.2.2.2.2.1] : List Int).length (([s1.2.2.2.2.1] : List Int).length)), e_ 33 (.slice A_18 s1.2.1.length c_19), e_ 5 (.bool false), e_ 4 (.slice none 0 0)], [], [], [([.v (.int .i64 s1.2.2.2.2.1), .v (.string s1.2.2.2.2.2.1)], 54), ([.v (.int .i64 s1.2.2.2.2.1), .v (.string s1.2.2.2.2.2.1)], 54)], none, some (1, ns_51)⟩) (fun A_107 c_108 => by kernel_rfl) (fun A_107 c_108 a w_109 hput hE' hI' hmv hmr hq_16 => ?_)
          replace hq_17 := Row.keep hq_17 (hmv _) (fun b hb => hmr b (by simp [hb]) (Ep.ne hE (i := 1) (j := 2) (by decide) rfl rfl hb))
          replace hq_12 := ItIs.keep hq_12 (hmr _ (by simp) (Ep.ne hE (i := 1) (j := 0) (by decide) rfl rfl (List.mem_singleton.2 rfl)))
          replace hR_66 := Kd.keep _ hR_66 (hmv _)
          replace hq_96 := Arr.keep hq_96 (hmv _)
          replace hR_104 := Arr.keep hR_104 (hmv _)
          replace hE := hE'
          replace hI := hI'
          clear hE' hI' hmv hmr
          refine ckn0_ hF 2 hI [5, 4] [e_ 5 (.bool true), e_ 4 (.slice A_107 (s1.2.1 ++ t_101).length c_108)] [] rfl (by kernel_rfl) (fun ns_110 a w_111 hI => ?_)
          refine wpListIn_nil ?_
          refine then_normal ?_
          refine wpIn_ret ?_
          obtain ⟨hE', hmv, hmr⟩ := Ep.rebase hE hI
          replace hq_17 := Row.keep hq_17 (hmv _) (fun b hb => hmr b (by simp [hb]))
          replace hq_12 := ItIs.keep hq_12 (hmr _ (by simp))
          replace hR_66 := Kd.keep _ hR_66 (hmv _)
          replace hq_96 := Arr.keep hq_96 (hmv _)
          replace hR_104 := Arr.keep hR_104 (hmv _)
          replace hq_16 := Row.keep hq_16 (hmv _) (fun b hb => hmr b (by simp [hb]))
          replace hE := hE'
          replace hI := hI.rebase
          clear hE' hmv hmr
          obtain ⟨hE', hI', hmv⟩ := Ep.uncall (bs := [([.v (.int .i64 s1.2.2.2.2.1), .v (.string s1.2.2.2.2.2.1)], 54)]) hOu_53 hE hI rfl rfl rfl rfl (by kernel_rfl) rfl
          have hmr : ∀ b ∈ ([[b_11], rb A_107, rb A_20] : List (List Nat)).flatten, w_111.heap[b]? = w_111.heap[b]? := fun _ _ => rfl
          replace hq_17 := Row.keep hq_17 (hmv _) (fun b hb => hmr b (by simp [hb]))
          replace hq_12 := ItIs.keep hq_12 (hmr _ (by simp))
          replace hR_66 := Kd.keep _ hR_66 (hmv _)
          replace hq_96 := Arr.keep hq_96 (hmv _)
          replace hR_104 := Arr.keep hR_104 (hmv _)
          replace hq_16 := Row.keep hq_16 (hmv _) (fun b hb => hmr b (by simp [hb]))
          replace hE := hE'
          clear hE' hmv hmr
          refine retG hI rfl rfl ⟨.tuple #[.slice A_107 (s1.2.1 ++ t_101).length c_108, .bool true], rfl, ?_⟩
          refine putI_ hI' (s_ [e_ 64 (.tuple #[.slice A_107 (s1.2.1 ++ t_101).length c_108, .bool true]), e_ 63 (.slice A_18 s1.2.1.length c_19), e_ 62 (.agg #[.int .i64 s1.2.2.2.2.1, .string s1.2.2.2.2.2.1]), e_ 9 (.int .i64 t_31), e_ 12 (.pointer (some ⟨b_11, 0, none⟩)), e_ 6 (.bool s1.1), p_ 5 0 0, e_ 4 (.slice A_18 s1.2.1.length c_19), e_ 3 (.bool s1.2.2.1), e_ 2 (.slice A_20 s1.2.2.2.1.length c_21)] [([.v (.int .i64 s1.2.2.2.2.1), .v (.string s1.2.2.2.2.2.1)], 54)]) (by kernel_rfl) (fun a hI => ?_)
          clear hI'
          have hF := hFu_53
          refine ckn0_ hF 5 hI [6, 4, 9, 12, 5, 3, 2] [e_ 6 (.bool true), e_ 4 (.slice A_107 (s1.2.1 ++ t_101).length c_108)] [] rfl (by kernel_rfl) (fun ns_112 a w_113 hI => ?_)
          refine wpListIn_nil ?_
          refine then_normal ?_
          refine srn0_ hF hI [68, 6, 4, 9, 12, 5, 3, 2] [e_ 68 (.bool false)] [] (by kernel_rfl) (fun ns_114 a w_115 hI => ?_)
          refine cond_ hI false rfl (fun h => by cases h) (fun _ => ?_)
          refine wpIn_skip ?_
          refine inBlock_normal ?_
          refine then_normal ?_
          refine rgn0_ hF hI [6, 4, 12, 5, 3, 2] [] [(0, ([.v (.int .i64 t_31), .v (.string ByteArray.empty)], 54))] (by kernel_rfl) (fun ns_116 a w_117 hI => ?_)
          refine inBlock_normal ?_
          refine then_normal ?_
          obtain ⟨hE', hmv, hmr⟩ := Ep.rebase hE hI
          replace hq_17 := Row.keep hq_17 (hmv _) (fun b hb => hmr b (by simp [hb]))
          replace hq_12 := ItIs.keep hq_12 (hmr _ (by simp))
          replace hR_66 := Kd.keep _ hR_66 (hmv _)
          replace hq_96 := Arr.keep hq_96 (hmv _)
          replace hR_104 := Arr.keep hR_104 (hmv _)
          replace hq_16 := Row.keep hq_16 (hmv _) (fun b hb => hmr b (by simp [hb]))
          replace hE := hE'
          replace hI := hI.rebase
          clear hE' hmv hmr
          obtain rfl := Option.some.inj H1
          exact ⟨_, rfl, ⟨_, _, _, _, _, _, hq_12, hq_16, hq_17, hE, hI.pick [12, 6, 5, 4, 3, 2] 1 (s_ [e_ 12 (.pointer (some ⟨b_11, 0, none⟩)), e_ 6 (.bool true), p_ 5 0 0, e_ 4 (.slice A_107 (s1.2.1 ++ t_101).length c_108), e_ 3 (.bool s1.2.2.1), e_ 2 (.slice A_20 s1.2.2.2.1.length c_21)] [([.v (.int .i64 t_31), .v (.string ByteArray.empty)], 54)]) (by kernel_rfl)⟩⟩
       ·replace H1 := bif_f hc_60 H1
        refine wpIn_skip ?_
        refine then_normal ?_
        refine wpIn_seq ?_
        refine srn0_ hF hI [32, 6, 5, 4, 2, 1] [e_ 32 (.bool (decide (1 > (IntKind.i64.wrap (4096 - (s1.2.1.length : Int))))))] [] (by kernel_rfl) (fun ns_118 a w_119 hI => ?_)
        refine cond_ hI (decide (1 > (IntKind.i64.wrap (4096 - (s1.2.1.length : Int))))) rfl (fun hc_120 => ?_) (fun hc_120 => ?_)
        ·replace H1 := bif_t hc_120 H1
         refine srn0_ hF hI [5, 4] [] [] (by kernel_rfl) (fun ns_121 a w_122 hI => ?_)
         refine wpIn_ret ?_
         refine then_ret ?_
         obtain ⟨hE', hmv, hmr⟩ := Ep.rebase hE hI
         replace hq_16 := Row.keep hq_16 (hmv _) (fun b hb => hmr b (by simp [hb]))
         replace hq_17 := Row.keep hq_17 (hmv _) (fun b hb => hmr b (by simp [hb]))
         replace hq_12 := ItIs.keep hq_12 (hmr _ (by simp))
         replace hE := hE'
         replace hI := hI.rebase
         clear hE' hmv hmr
         obtain ⟨hE', hI', hmv⟩ := Ep.uncall (bs := [([.v (.int .i64 s1.2.2.2.2.1), .v (.string s1.2.2.2.2.2.1)], 54)]) hOu_53 hE hI rfl rfl rfl rfl (by kernel_rfl) rfl
         have hmr : ∀ b ∈ ([[b_11], rb A_18, rb A_20] : List (List Nat)).flatten, w_122.heap[b]? = w_122.heap[b]? := fun _ _ => rfl
         replace hq_16 := Row.keep hq_16 (hmv _) (fun b hb => hmr b (by simp [hb]))
         replace hq_17 := Row.keep hq_17 (hmv _) (fun b hb => hmr b (by simp [hb]))
         replace hq_12 := ItIs.keep hq_12 (hmr _ (by simp))
         replace hE := hE'
         clear hE' hmv hmr
         refine retG hI rfl rfl ⟨.tuple #[.slice none 0 0, .bool false], rfl, ?_⟩
         refine putI_ hI' (s_ [e_ 64 (.tuple #[.slice none 0 0, .bool false]), e_ 63 (.slice A_18 s1.2.1.length c_19), e_ 62 (.agg #[.int .i64 s1.2.2.2.2.1, .string s1.2.2.2.2.2.1]), e_ 9 (.int .i64 t_31), e_ 12 (.pointer (some ⟨b_11, 0, none⟩)), e_ 6 (.bool s1.1), p_ 5 0 0, e_ 4 (.slice A_18 s1.2.1.length c_19), e_ 3 (.bool s1.2.2.1), e_ 2 (.slice A_20 s1.2.2.2.1.length c_21)] [([.v (.int .i64 s1.2.2.2.2.1), .v (.string s1.2.2.2.2.2.1)], 54)]) (by kernel_rfl) (fun a hI => ?_)
         clear hI'
         have hF := hFu_53
         refine ckn0_ hF 5 hI [6, 4, 9, 12, 5, 3, 2] [e_ 6 (.bool false), e_ 4 (.slice none 0 0)] [] rfl (by kernel_rfl) (fun ns_123 a w_124 hI => ?_)
         refine wpListIn_nil ?_
         refine then_normal ?_
         refine srn0_ hF hI [68, 6, 4, 9, 12, 5, 3, 2] [e_ 68 (.bool true)] [] (by kernel_rfl) (fun ns_125 a w_126 hI => ?_)
         refine cond_ hI true rfl (fun _ => ?_) (fun h => by cases h)
         refine srn0_ hF hI [3, 2] [e_ 3 (.bool false), e_ 2 (.slice none 0 0)] [] (by kernel_rfl) (fun ns_127 a w_128 hI => ?_)
         refine wpIn_ret ?_
         refine inBlock_ret ?_
         refine then_ret ?_
         refine inBlock_ret ?_
         refine then_ret ?_
         obtain rfl := Option.some.inj H1
         refine .inr ⟨_, rfl, fun ho => ?_⟩
         subst ho
         refine inBlock_ret ?_
         refine then_ret ?_
         obtain rfl := Option.some.inj H0
         exact ret2 hI rfl rfl rfl ⟨svL [(none, 0)], rfl, hE.below hI, ⟨(Arr.nil _ _ _ _), (Nat.le_refl _)⟩⟩
        ·replace H1 := bif_f hc_120 H1
         refine wpIn_skip ?_
         refine then_normal ?_
         refine wpIn_seq ?_
         refine wpIn_region_lit ?_
         refine ckn0_ hF 3 hI [35, 33, 6, 5, 4] [e_ 35 (.int .i64 s1.2.2.2.2.1), e_ 33 (.slice A_18 s1.2.1.length c_19)] [] rfl (by kernel_rfl) (fun ns_129 a w_130 hI => ?_)
         obtain ⟨hE', hmv, hmr⟩ := Ep.rebase hE hI
         replace hq_16 := Row.keep hq_16 (hmv _) (fun b hb => hmr b (by simp [hb]))
         replace hq_17 := Row.keep hq_17 (hmv _) (fun b hb => hmr b (by simp [hb]))
         replace hq_12 := ItIs.keep hq_12 (hmr _ (by simp))
         replace hE := hE'
         replace hI := hI.rebase
         clear hE' hmv hmr
         refine buildSlice_ (S0 := S) (d := (Kd.int .i64)) (e := 3) hF hE hI (wanted_none rfl) rfl (by kernel_rfl) (cs := [.int .i64 s1.2.2.2.2.1]) (by kernel_rfl) [s1.2.2.2.2.1] [(svL [])] rfl rfl (by simp [maxLen]) (fun i x hi => by cases i with | zero => (simp only [List.getElem?_cons_zero, Option.some.injEq] at hi; subst hi; exact ⟨trivial, rfl⟩) | succ i => (simp only [List.getElem?_cons_succ] at hi; simp at hi)) (fun A_131 => ⟨[e_ 36 (.slice A_131 ([s1.2.2.2.2.1] : List Int).length (([s1.2.2.2.2.1] : List Int).length)), e_ 35 (.int .i64 s1.2.2.2.2.1), e_ 33 (.slice A_18 s1.2.1.length c_19), e_ 6 (.int .i64 1), e_ 5 (.bool false), e_ 4 (.slice none 0 0)], [], [], [([.v (.int .i64 s1.2.2.2.2.1), .v (.string s1.2.2.2.2.2.1)], 54), ([.v (.int .i64 s1.2.2.2.2.1), .v (.string s1.2.2.2.2.2.1)], 54)], none, some (1, ns_51)⟩) (fun A_131 => by kernel_rfl) (fun A_131 a w_133 hput hE' hI' hmv hmr hq_132 => ?_)
         replace hq_16 := Row.keep hq_16 (hmv _) (fun b hb => hmr b (by simp [hb]) (by simp))
         replace hq_17 := Row.keep hq_17 (hmv _) (fun b hb => hmr b (by simp [hb]) (by simp))
         replace hq_12 := ItIs.keep hq_12 (hmr _ (by simp) (by simp))
         replace hE := hE'
         replace hI := hI'
         clear hE' hI' hmv hmr
         refine ckn0_ hF 1 hI [37, 36, 33, 5, 4] [e_ 37 (.int .i64 1)] [] rfl (by kernel_rfl) (fun ns_134 a w_135 hI => ?_)
         obtain ⟨hE', hmv, hmr⟩ := Ep.rebase hE hI
         replace hq_16 := Row.keep hq_16 (hmv _) (fun b hb => hmr b (by simp [hb]))
         replace hq_17 := Row.keep hq_17 (hmv _) (fun b hb => hmr b (by simp [hb]))
         replace hq_12 := ItIs.keep hq_12 (hmr _ (by simp))
         replace hq_132 := Row.keep hq_132 (hmv _) (fun b hb => hmr b (by simp [hb]))
         replace hE := hE'
         replace hI := hI.rebase
         clear hE' hmv hmr
         obtain ⟨hE', hmv, hq_132, hcap_136⟩ := Row.still (l1 := [[b_11], rb A_18, rb A_20]) (l2 := []) hq_132 (Nat.le_refl _) hE
         have hmr : ∀ b ∈ ([[b_11], rb A_18, rb A_20, rb A_131] : List (List Nat)).flatten, w_135.heap[b]? = w_135.heap[b]? := fun _ _ => rfl
         replace hq_16 := Row.keep hq_16 (hmv _) (fun b hb => hmr b (by simp [hb]))
         replace hq_17 := Row.keep hq_17 (hmv _) (fun b hb => hmr b (by simp [hb]))
         replace hq_12 := ItIs.keep hq_12 (hmr _ (by simp))
         replace hE := hE'
         clear hE' hmv hmr
         obtain ⟨t_137, hG_138, H1⟩ := bind_some H1
         refine callH_ hF hE hI (wanted_none rfl) rfl (args := [.slice A_131 ([s1.2.2.2.2.1] : List Int).length (([s1.2.2.2.2.1] : List Int).length), .int .i64 1]) rfl (enters Tryd.func28 (by kernel_rfl) rfl) (fun sv_139 => .slice ((sv_139 0).1) t_137.length ((sv_139 0).2)) _ (G_slices_Repeat_int_int.calls ([s1.2.2.2.2.1] : List Int) 1 A_131 (([s1.2.2.2.2.1] : List Int).length) w_135 (S := Lo S w w_135 ns_134 [[b_11], rb A_18, rb A_20]) hq_132 hcap_136 _ hG_138) (fun sv_139 => ⟨[e_ 38 (.slice ((sv_139 0).1) t_137.length ((sv_139 0).2)), e_ 37 (.int .i64 1), e_ 36 (.slice A_131 ([s1.2.2.2.2.1] : List Int).length (([s1.2.2.2.2.1] : List Int).length)), e_ 33 (.slice A_18 s1.2.1.length c_19), e_ 5 (.bool false), e_ 4 (.slice none 0 0)], [], [], [([.v (.int .i64 s1.2.2.2.2.1), .v (.string s1.2.2.2.2.2.1)], 54), ([.v (.int .i64 s1.2.2.2.2.1), .v (.string s1.2.2.2.2.2.1)], 54)], none, some (1, ns_51)⟩) (fun sv_139 => by kernel_rfl) (fun sv_139 a w_141 hput hE' hI' hmv hmr hres hR => ?_)
         replace hq_16 := Row.keep hq_16 (hmv _) (fun b hb => hmr b (by simp [hb]) (by simp))
         replace hq_17 := Row.keep hq_17 (hmv _) (fun b hb => hmr b (by simp [hb]) (by simp))
         replace hq_12 := ItIs.keep hq_12 (hmr _ (by simp) (by simp))
         replace hq_132 := Arr.keep hq_132 (hmv _)
         replace hE := hE'
         replace hI := hI'
         clear hE' hI' hmv hmr
         obtain ⟨hR_140, hR_140c⟩ := hR
         replace hR_140 := Arr.keep hR_140 (hres _)
         clear hres
         obtain ⟨hN_142, H1⟩ := req_some H1
         replace hN_142 := of_decide_eq_true hN_142
         refine appendN_ (S0 := S) (l1 := [[b_11]]) (l2 := [rb A_20]) (d := (Kd.int .i64)) (e := 3) hF hE hI (wanted_none rfl) rfl (A := A_18) (c := c_19) (l := s1.2.1) rfl (A2 := ((sv_139 0).1)) (c2 := ((sv_139 0).2)) (ys := t_137) rfl hq_16 hE.k.size hR_140 (fun y sv u hu => by exact kd_one_int _ sv u hu) Tryd.underlying22 (zi := (.int .i64 0, 1, 8)) (by kernel_rfl) rfl (by kernel_rfl) (len_maxN (b := 8) (by decide) hN_142) hN_142 (fun A_143 c_144 => ⟨[e_ 39 (.slice A_143 (s1.2.1 ++ t_137).length c_144), e_ 38 (.slice ((sv_139 0).1) t_137.length ((sv_139 0).2)), e_ 37 (.int .i64 1), e_ 36 (.slice A_131 ([s1.2.2.2.2.1] : List Int).length (([s1.2.2.2.2.1] : List Int).length)), e_ 33 (.slice A_18 s1.2.1.length c_19), e_ 5 (.bool false), e_ 4 (.slice none 0 0)], [], [], [([.v (.int .i64 s1.2.2.2.2.1), .v (.string s1.2.2.2.2.2.1)], 54), ([.v (.int .i64 s1.2.2.2.2.1), .v (.string s1.2.2.2.2.2.1)], 54)], none, some (1, ns_51)⟩) (fun A_143 c_144 => by kernel_rfl) (fun A_143 c_144 a w_145 hput hE' hI' hmv hmr hq_16 => ?_)
         replace hq_17 := Row.keep hq_17 (hmv _) (fun b hb => hmr b (by simp [hb]) (Ep.ne hE (i := 1) (j := 2) (by decide) rfl rfl hb))
         replace hq_12 := ItIs.keep hq_12 (hmr _ (by simp) (Ep.ne hE (i := 1) (j := 0) (by decide) rfl rfl (List.mem_singleton.2 rfl)))
         replace hq_132 := Arr.keep hq_132 (hmv _)
         replace hR_140 := Arr.keep hR_140 (hmv _)
         replace hE := hE'
         replace hI := hI'
         clear hE' hI' hmv hmr
         refine ckn0_ hF 2 hI [5, 4] [e_ 5 (.bool true), e_ 4 (.slice A_143 (s1.2.1 ++ t_137).length c_144)] [] rfl (by kernel_rfl) (fun ns_146 a w_147 hI => ?_)
         refine wpListIn_nil ?_
         refine then_normal ?_
         refine wpIn_ret ?_
         obtain ⟨hE', hmv, hmr⟩ := Ep.rebase hE hI
         replace hq_17 := Row.keep hq_17 (hmv _) (fun b hb => hmr b (by simp [hb]))
         replace hq_12 := ItIs.keep hq_12 (hmr _ (by simp))
         replace hq_132 := Arr.keep hq_132 (hmv _)
         replace hR_140 := Arr.keep hR_140 (hmv _)
         replace hq_16 := Row.keep hq_16 (hmv _) (fun b hb => hmr b (by simp [hb]))
         replace hE := hE'
         replace hI := hI.rebase
         clear hE' hmv hmr
         obtain ⟨hE', hI', hmv⟩ := Ep.uncall (bs := [([.v (.int .i64 s1.2.2.2.2.1), .v (.string s1.2.2.2.2.2.1)], 54)]) hOu_53 hE hI rfl rfl rfl rfl (by kernel_rfl) rfl
         have hmr : ∀ b ∈ ([[b_11], rb A_143, rb A_20] : List (List Nat)).flatten, w_147.heap[b]? = w_147.heap[b]? := fun _ _ => rfl
         replace hq_17 := Row.keep hq_17 (hmv _) (fun b hb => hmr b (by simp [hb]))
         replace hq_12 := ItIs.keep hq_12 (hmr _ (by simp))
         replace hq_132 := Arr.keep hq_132 (hmv _)
         replace hR_140 := Arr.keep hR_140 (hmv _)
         replace hq_16 := Row.keep hq_16 (hmv _) (fun b hb => hmr b (by simp [hb]))
         replace hE := hE'
         clear hE' hmv hmr
         refine retG hI rfl rfl ⟨.tuple #[.slice A_143 (s1.2.1 ++ t_137).length c_144, .bool true], rfl, ?_⟩
         refine putI_ hI' (s_ [e_ 64 (.tuple #[.slice A_143 (s1.2.1 ++ t_137).length c_144, .bool true]), e_ 63 (.slice A_18 s1.2.1.length c_19), e_ 62 (.agg #[.int .i64 s1.2.2.2.2.1, .string s1.2.2.2.2.2.1]), e_ 9 (.int .i64 t_31), e_ 12 (.pointer (some ⟨b_11, 0, none⟩)), e_ 6 (.bool s1.1), p_ 5 0 0, e_ 4 (.slice A_18 s1.2.1.length c_19), e_ 3 (.bool s1.2.2.1), e_ 2 (.slice A_20 s1.2.2.2.1.length c_21)] [([.v (.int .i64 s1.2.2.2.2.1), .v (.string s1.2.2.2.2.2.1)], 54)]) (by kernel_rfl) (fun a hI => ?_)
         clear hI'
         have hF := hFu_53
         refine ckn0_ hF 5 hI [6, 4, 9, 12, 5, 3, 2] [e_ 6 (.bool true), e_ 4 (.slice A_143 (s1.2.1 ++ t_137).length c_144)] [] rfl (by kernel_rfl) (fun ns_148 a w_149 hI => ?_)
         refine wpListIn_nil ?_
         refine then_normal ?_
         refine srn0_ hF hI [68, 6, 4, 9, 12, 5, 3, 2] [e_ 68 (.bool false)] [] (by kernel_rfl) (fun ns_150 a w_151 hI => ?_)
         refine cond_ hI false rfl (fun h => by cases h) (fun _ => ?_)
         refine wpIn_skip ?_
         refine inBlock_normal ?_
         refine then_normal ?_
         refine rgn0_ hF hI [6, 4, 12, 5, 3, 2] [] [(0, ([.v (.int .i64 t_31), .v (.string ByteArray.empty)], 54))] (by kernel_rfl) (fun ns_152 a w_153 hI => ?_)
         refine inBlock_normal ?_
         refine then_normal ?_
         obtain ⟨hE', hmv, hmr⟩ := Ep.rebase hE hI
         replace hq_17 := Row.keep hq_17 (hmv _) (fun b hb => hmr b (by simp [hb]))
         replace hq_12 := ItIs.keep hq_12 (hmr _ (by simp))
         replace hq_132 := Arr.keep hq_132 (hmv _)
         replace hR_140 := Arr.keep hR_140 (hmv _)
         replace hq_16 := Row.keep hq_16 (hmv _) (fun b hb => hmr b (by simp [hb]))
         replace hE := hE'
         replace hI := hI.rebase
         clear hE' hmv hmr
         obtain rfl := Option.some.inj H1
         exact ⟨_, rfl, ⟨_, _, _, _, _, _, hq_12, hq_16, hq_17, hE, hI.pick [12, 6, 5, 4, 3, 2] 1 (s_ [e_ 12 (.pointer (some ⟨b_11, 0, none⟩)), e_ 6 (.bool true), p_ 5 0 0, e_ 4 (.slice A_143 (s1.2.1 ++ t_137).length c_144), e_ 3 (.bool s1.2.2.1), e_ 2 (.slice A_20 s1.2.2.2.1.length c_21)] [([.v (.int .i64 t_31), .v (.string ByteArray.empty)], 54)]) (by kernel_rfl)⟩⟩
      ·replace H1 := bif_f hc_50 H1
       refine wpIn_skip ?_
       refine inBlock_normal ?_
       refine then_normal ?_
       refine rgn0_ hF hI [12, 6, 5, 4, 3, 2] [] [(0, ([.v (.int .i64 t_31), .v (.string ByteArray.empty)], 54))] (by kernel_rfl) (fun ns_154 a w_155 hI => ?_)
       refine inBlock_normal ?_
       refine then_normal ?_
       obtain ⟨hE', hmv, hmr⟩ := Ep.rebase hE hI
       replace hq_16 := Row.keep hq_16 (hmv _) (fun b hb => hmr b (by simp [hb]))
       replace hq_17 := Row.keep hq_17 (hmv _) (fun b hb => hmr b (by simp [hb]))
       replace hq_12 := ItIs.keep hq_12 (hmr _ (by simp))
       replace hE := hE'
       replace hI := hI.rebase
       clear hE' hmv hmr
       obtain rfl := Option.some.inj H1
       exact ⟨_, rfl, ⟨_, _, _, _, _, _, hq_12, hq_16, hq_17, hE, hI.pick [12, 6, 5, 4, 3, 2] 1 (s_ [e_ 12 (.pointer (some ⟨b_11, 0, none⟩)), e_ 6 (.bool s1.1), p_ 5 0 0, e_ 4 (.slice A_18 s1.2.1.length c_19), e_ 3 (.bool s1.2.2.1), e_ 2 (.slice A_20 s1.2.2.2.1.length c_21)] [([.v (.int .i64 t_31), .v (.string ByteArray.empty)], 54)]) (by kernel_rfl)⟩⟩
   ·replace H1 := bif_f hb_26 H1
    refine ckn0_ hF 1 hI [14, 13, 12, 6, 5, 4, 3, 2] [e_ 14 (.bool false)] [] rfl (by kernel_rfl) (fun ns_156 a w_157 hI => ?_)
    refine wpListIn_nil ?_
    refine then_normal ?_
    refine wpIn_seq ?_
    refine cond_ hI false rfl (fun h => by cases h) (fun _ => ?_)
    refine wpIn_exit ?_
    refine then_exit ?_
    refine then_exit ?_
    obtain ⟨hE', hmv, hmr⟩ := Ep.rebase hE hI
    replace hq_12 := ItIs.keep hq_12 (hmr _ (by simp))
    replace hq_16 := Row.keep hq_16 (hmv _) (fun b hb => hmr b (by simp [hb]))
    replace hq_17 := Row.keep hq_17 (hmv _) (fun b hb => hmr b (by simp [hb]))
    replace hE := hE'
    replace hI := hI.rebase
    clear hE' hmv hmr
    obtain rfl := Option.some.inj H1
    exact .inl ⟨_, rfl, rfl, ⟨_, _, _, _, _, _, hq_12, hq_16, hq_17, hE, hI.pick [12, 6, 5, 4, 3, 2] 1 (s_ [e_ 12 (.pointer (some ⟨b_11, 0, none⟩)), e_ 6 (.bool s1.1), p_ 5 0 0, e_ 4 (.slice A_18 s1.2.1.length c_19), e_ 3 (.bool s1.2.2.1), e_ 2 (.slice A_20 s1.2.2.2.1.length c_21)] [([.v (.int .i64 s1.2.2.2.2.1), .v (.string s1.2.2.2.2.2.1)], 54)]) (by kernel_rfl)⟩⟩
  ·clear hI hE
   rintro s1 a w_160 ho ⟨ow_162, ns_161, A_18, c_19, A_20, c_21, hq_12, hq_16, hq_17, hE, hI⟩
   subst ho
   replace H0 : ((bif decide (s1.2.2.2.2.1 ≥ 0) then (bif (!(s1.2.2.2.2.2.1.toList == (⟨#[]⟩ : ByteArray).toList)) then ((G_strconv_Atoi_27 s1.2.2.2.2.2.1).bind fun t_178 => (req (imp (!(decide (t_178.1 < 2) || decide (t_178.1 > 4096))) (inb 0 s1.2.2.2.2.2.1.size)) (bif ((decide (t_178.1 < 2) || decide (t_178.1 > 4096)) || ((rdB s1.2.2.2.2.2.1 0) == 48)) then some ([], false) else (bif decide (t_178.1 > (IntKind.i64.wrap (4096 - (s1.2.1.length : Int)))) then some ([], false) else ((G_slices_Repeat_int_int ([s1.2.2.2.2.1] : List Int) t_178.1).bind fun t_216 => (req (decide ((s1.2.1.length + t_216.length) * 8 ≤ 140737488355328)) (some ((s1.2.1 ++ t_216), true)))))))) else (bif decide (1 > (IntKind.i64.wrap (4096 - (s1.2.1.length : Int)))) then some ([], false) else ((G_slices_Repeat_int_int ([s1.2.2.2.2.1] : List Int) 1).bind fun t_253 => (req (decide ((s1.2.1.length + t_253.length) * 8 ≤ 140737488355328)) (some ((s1.2.1 ++ t_253), true)))))) else (bif (!s1.1) then some ([], false) else some (s1.2.1, true))) : Option ((List Int) × Bool)) = _ := H0
   refine then_normal ?_
   refine wpIn_seq ?_
   refine sr0_ hF hI (s_ [e_ 73 (.bool (decide (s1.2.2.2.2.1 ≥ 0))), e_ 6 (.bool s1.1), p_ 5 0 0, e_ 4 (.slice A_18 s1.2.1.length c_19), e_ 3 (.bool s1.2.2.1), e_ 2 (.slice A_20 s1.2.2.2.1.length c_21)] [([.v (.int .i64 s1.2.2.2.2.1), .v (.string s1.2.2.2.2.2.1)], 54)]) (by kernel_rfl) (fun ns_163 a w_164 hI => ?_)
   refine cond_ hI (decide (s1.2.2.2.2.1 ≥ 0)) rfl (fun hc_165 => ?_) (fun hc_165 => ?_)
   ·replace H0 := bif_t hc_165 H0
    refine wpIn_region_lit ?_
    refine ckn0_ hF 2 hI [76, 75, 6, 4, 3, 2] [e_ 76 (.slice A_18 s1.2.1.length c_19), e_ 75 (.agg #[.int .i64 s1.2.2.2.2.1, .string s1.2.2.2.2.2.1])] [] rfl (by kernel_rfl) (fun ns_166 a w_167 hI => ?_)
    obtain ⟨hE', hmv, hmr⟩ := Ep.rebase hE hI
    replace hq_12 := ItIs.keep hq_12 (hmr _ (by simp))
    replace hq_16 := Row.keep hq_16 (hmv _) (fun b hb => hmr b (by simp [hb]))
    replace hq_17 := Row.keep hq_17 (hmv _) (fun b hb => hmr b (by simp [hb]))
    replace hE := hE'
    replace hI := hI.rebase
    clear hE' hmv hmr
    refine callI_ hF hI (wanted_none rfl) rfl Tryd.func22 (by kernel_rfl) rfl (n' := 40) rfl (by kernel_rfl) (by kernel_rfl) (fun au_168 hIu_168 => ?_)
    have hOu_168 := hI
    have hFu_168 := hF
    have hF : FOpen Fence.wide := .inl rfl
    have hI : St w_167 ns_166 40 ⟨[e_ 0 (.agg #[.int .i64 s1.2.2.2.2.1, .string s1.2.2.2.2.2.1]), e_ 1 (.slice A_18 s1.2.1.length c_19)], [], [], [([.v (.int .i64 s1.2.2.2.2.1), .v (.string s1.2.2.2.2.2.1)], 54)], none, some (1, ns_166)⟩ ns_166 au_168 w_167 := hIu_168
    clear hIu_168
    refine sr0_ hF hI ⟨[e_ 5 (.bool false), e_ 4 (.slice none 0 0), p_ 2 1 0, e_ 1 (.slice A_18 s1.2.1.length c_19)], [], [], [([.v (.int .i64 s1.2.2.2.2.1), .v (.string s1.2.2.2.2.2.1)], 54), ([.v (.int .i64 s1.2.2.2.2.1), .v (.string s1.2.2.2.2.2.1)], 54)], none, some (1, ns_166)⟩ (by kernel_rfl) (fun ns_169 a w_170 hI => ?_)
    refine srn0_ hF hI [6, 5, 4, 2, 1] [e_ 6 (.int .i64 1)] [] (by kernel_rfl) (fun ns_171 a w_172 hI => ?_)
    refine wpIn_seq ?_
    refine srn0_ hF hI [9, 6, 5, 4, 2, 1] [e_ 9 (.bool (!(s1.2.2.2.2.2.1.toList == (⟨#[]⟩ : ByteArray).toList)))] [] (by kernel_rfl) (fun ns_173 a w_174 hI => ?_)
    refine cond_ hI ((!(s1.2.2.2.2.2.1.toList == (⟨#[]⟩ : ByteArray).toList))) rfl (fun hc_175 => ?_) (fun hc_175 => ?_)
    ·replace H0 := bif_t hc_175 H0
     refine wpIn_seq ?_
     refine wpIn_region_lit ?_
     refine ckn0_ hF 2 hI [12, 6, 5, 4, 2, 1] [e_ 12 (.string s1.2.2.2.2.2.1)] [] rfl (by kernel_rfl) (fun ns_176 a w_177 hI => ?_)
     obtain ⟨hE', hmv, hmr⟩ := Ep.rebase hE hI
     replace hq_12 := ItIs.keep hq_12 (hmr _ (by simp))
     replace hq_16 := Row.keep hq_16 (hmv _) (fun b hb => hmr b (by simp [hb]))
     replace hq_17 := Row.keep hq_17 (hmv _) (fun b hb => hmr b (by simp [hb]))
     replace hE := hE'
     replace hI := hI.rebase
     clear hE' hmv hmr
     obtain ⟨t_178, hG_179, H0⟩ := bind_some H0
     refine callH_ hF hE hI (wanted_none rfl) rfl (args := [.string s1.2.2.2.2.2.1]) rfl (enters Tryd.func27 (by kernel_rfl) rfl) (fun sv_180 => .tuple #[.int .i64 t_178.1, fnv46 t_178.2 sv_180]) _ (G_strconv_Atoi_27.calls s1.2.2.2.2.2.1  w_177 (S := Lo S w w_177 ns_176 [[b_11], rb A_18, rb A_20])  _ hG_179) (fun sv_180 => ⟨[e_ 13 (.tuple #[.int .i64 t_178.1, fnv46 t_178.2 sv_180]), e_ 12 (.string s1.2.2.2.2.2.1), e_ 6 (.int .i64 1), e_ 5 (.bool false), e_ 4 (.slice none 0 0), p_ 2 1 0, e_ 1 (.slice A_18 s1.2.1.length c_19)], [], [], [([.v (.int .i64 s1.2.2.2.2.1), .v (.string s1.2.2.2.2.2.1)], 54), ([.v (.int .i64 s1.2.2.2.2.1), .v (.string s1.2.2.2.2.2.1)], 54)], none, some (1, ns_166)⟩) (fun sv_180 => by kernel_rfl) (fun sv_180 a w_182 hput hE' hI' hmv hmr hres hR => ?_)
     replace hq_12 := ItIs.keep hq_12 (hmr _ (by simp) (by simp))
     replace hq_16 := Row.keep hq_16 (hmv _) (fun b hb => hmr b (by simp [hb]) (by simp))
     replace hq_17 := Row.keep hq_17 (hmv _) (fun b hb => hmr b (by simp [hb]) (by simp))
     replace hE := hE'
     replace hI := hI'
     clear hE' hI' hmv hmr
     have hR_181 := hR
     replace hR_181 := Kd.keep _ hR_181 (hres _)
     clear hres
     refine ckn0_ hF 4 hI [6, 5, 4, 2, 1] [e_ 6 (.int .i64 t_178.1)] [] rfl (by kernel_rfl) (fun ns_183 a w_184 hI => ?_)
     refine wpListIn_nil ?_
     refine then_normal ?_
     obtain ⟨hN_185, H0⟩ := req_some H0
     refine srn_ (orc := [[.int .u8 (rdB s1.2.2.2.2.2.1 0)]]) hF hI [27, 6, 5, 4, 2, 1] [e_ 27 (.bool ((decide (t_178.1 < 2) || decide (t_178.1 > 4096)) || ((rdB s1.2.2.2.2.2.1 0) == 48)))] [] [.run (!(decide (t_178.1 < 2) || decide (t_178.1 > 4096))) (vS (Instr.index 9 (.string s1.2.2.2.2.2.1) (.int .i64 0))) (.int .u8 (rdB s1.2.2.2.2.2.1 0))] (by kernel_rfl) ⟨(fun hg wz hk => vS_run (index_run Tryd.underlying9 _ _ (imp_spec hN_185 hg) wz)), trivial⟩ (fun ns_186 a w_187 hI => ?_)
     refine cond_ hI (((decide (t_178.1 < 2) || decide (t_178.1 > 4096)) || ((rdB s1.2.2.2.2.2.1 0) == 48))) rfl (fun hc_188 => ?_) (fun hc_188 => ?_)
     ·replace H0 := bif_t hc_188 H0
      refine srn0_ hF hI [5, 4] [] [] (by kernel_rfl) (fun ns_189 a w_190 hI => ?_)
      refine wpIn_ret ?_
      refine then_ret ?_
      obtain ⟨hE', hmv, hmr⟩ := Ep.rebase hE hI
      replace hq_12 := ItIs.keep hq_12 (hmr _ (by simp))
      replace hq_16 := Row.keep hq_16 (hmv _) (fun b hb => hmr b (by simp [hb]))
      replace hq_17 := Row.keep hq_17 (hmv _) (fun b hb => hmr b (by simp [hb]))
      replace hR_181 := Kd.keep _ hR_181 (hmv _)
      replace hE := hE'
      replace hI := hI.rebase
      clear hE' hmv hmr
      obtain ⟨hE', hI', hmv⟩ := Ep.uncall (bs := [([.v (.int .i64 s1.2.2.2.2.1), .v (.string s1.2.2.2.2.2.1)], 54)]) hOu_168 hE hI rfl rfl rfl rfl (by kernel_rfl) rfl
      have hmr : ∀ b ∈ ([[b_11], rb A_18, rb A_20] : List (List Nat)).flatten, w_190.heap[b]? = w_190.heap[b]? := fun _ _ => rfl
      replace hq_12 := ItIs.keep hq_12 (hmr _ (by simp))
      replace hq_16 := Row.keep hq_16 (hmv _) (fun b hb => hmr b (by simp [hb]))
      replace hq_17 := Row.keep hq_17 (hmv _) (fun b hb => hmr b (by simp [hb]))
      replace hR_181 := Kd.keep _ hR_181 (hmv _)
      replace hE := hE'
      clear hE' hmv hmr
      refine retG hI rfl rfl ⟨.tuple #[.slice none 0 0, .bool false], rfl, ?_⟩
      refine putI_ hI' (s_ [e_ 77 (.tuple #[.slice none 0 0, .bool false]), e_ 76 (.slice A_18 s1.2.1.length c_19), e_ 75 (.agg #[.int .i64 s1.2.2.2.2.1, .string s1.2.2.2.2.2.1]), e_ 6 (.bool s1.1), e_ 4 (.slice A_18 s1.2.1.length c_19), e_ 3 (.bool s1.2.2.1), e_ 2 (.slice A_20 s1.2.2.2.1.length c_21)] [([.v (.int .i64 s1.2.2.2.2.1), .v (.string s1.2.2.2.2.2.1)], 54)]) (by kernel_rfl) (fun a hI => ?_)
      clear hI'
      have hF := hFu_168
      refine ckn0_ hF 5 hI [6, 4, 3, 2] [e_ 6 (.bool false), e_ 4 (.slice none 0 0)] [] rfl (by kernel_rfl) (fun ns_191 a w_192 hI => ?_)
      refine wpListIn_nil ?_
      refine then_normal ?_
      refine wpIn_seq ?_
      refine srn0_ hF hI [81, 4, 3, 2] [e_ 81 (.bool true)] [] (by kernel_rfl) (fun ns_193 a w_194 hI => ?_)
      refine cond_ hI true rfl (fun _ => ?_) (fun h => by cases h)
      refine srn0_ hF hI [3, 2] [e_ 3 (.bool false), e_ 2 (.slice none 0 0)] [] (by kernel_rfl) (fun ns_195 a w_196 hI => ?_)
      refine wpIn_ret ?_
      refine then_ret ?_
      obtain rfl := Option.some.inj H0
      exact ret2 hI rfl rfl rfl ⟨svL [(none, 0)], rfl, hE.below hI, ⟨(Arr.nil _ _ _ _), (Nat.le_refl _)⟩⟩
     ·replace H0 := bif_f hc_188 H0
      refine wpIn_skip ?_
      refine then_normal ?_
      refine wpIn_seq ?_
      refine srn0_ hF hI [32, 6, 5, 4, 2, 1] [e_ 32 (.bool (decide (t_178.1 > (IntKind.i64.wrap (4096 - (s1.2.1.length : Int))))))] [] (by kernel_rfl) (fun ns_197 a w_198 hI => ?_)
      refine cond_ hI (decide (t_178.1 > (IntKind.i64.wrap (4096 - (s1.2.1.length : Int))))) rfl (fun hc_199 => ?_) (fun hc_199 => ?_)
      ·replace H0 := bif_t hc_199 H0
       refine srn0_ hF hI [5, 4] [] [] (by kernel_rfl) (fun ns_200 a w_201 hI => ?_)
       refine wpIn_ret ?_
       refine then_ret ?_
       obtain ⟨hE', hmv, hmr⟩ := Ep.rebase hE hI
       replace hq_12 := ItIs.keep hq_12 (hmr _ (by simp))
       replace hq_16 := Row.keep hq_16 (hmv _) (fun b hb => hmr b (by simp [hb]))
       replace hq_17 := Row.keep hq_17 (hmv _) (fun b hb => hmr b (by simp [hb]))
       replace hR_181 := Kd.keep _ hR_181 (hmv _)
       replace hE := hE'
       replace hI := hI.rebase
       clear hE' hmv hmr
       obtain ⟨hE', hI', hmv⟩ := Ep.uncall (bs := [([.v (.int .i64 s1.2.2.2.2.1), .v (.string s1.2.2.2.2.2.1)], 54)]) hOu_168 hE hI rfl rfl rfl rfl (by kernel_rfl) rfl
       have hmr : ∀ b ∈ ([[b_11], rb A_18, rb A_20] : List (List Nat)).flatten, w_201.heap[b]? = w_201.heap[b]? := fun _ _ => rfl
       replace hq_12 := ItIs.keep hq_12 (hmr _ (by simp))
       replace hq_16 := Row.keep hq_16 (hmv _) (fun b hb => hmr b (by simp [hb]))
       replace hq_17 := Row.keep hq_17 (hmv _) (fun b hb => hmr b (by simp [hb]))
       replace hR_181 := Kd.keep _ hR_181 (hmv _)
       replace hE := hE'
       clear hE' hmv hmr
       refine retG hI rfl rfl ⟨.tuple #[.slice none 0 0, .bool false], rfl, ?_⟩
       refine putI_ hI' (s_ [e_ 77 (.tuple #[.slice none 0 0, .bool false]), e_ 76 (.slice A_18 s1.2.1.length c_19), e_ 75 (.agg #[.int .i64 s1.2.2.2.2.1, .string s1.2.2.2.2.2.1]), e_ 6 (.bool s1.1), e_ 4 (.slice A_18 s1.2.1.length c_19), e_ 3 (.bool s1.2.2.1), e_ 2 (.slice A_20 s1.2.2.2.1.length c_21)] [([.v (.int .i64 s1.2.2.2.2.1), .v (.string s1.2.2.2.2.2.1)], 54)]) (by kernel_rfl) (fun a hI => ?_)
       clear hI'
       have hF := hFu_168
       refine ckn0_ hF 5 hI [6, 4, 3, 2] [e_ 6 (.bool false), e_ 4 (.slice none 0 0)] [] rfl (by kernel_rfl) (fun ns_202 a w_203 hI => ?_)
       refine wpListIn_nil ?_
       refine then_normal ?_
       refine wpIn_seq ?_
       refine srn0_ hF hI [81, 4, 3, 2] [e_ 81 (.bool true)] [] (by kernel_rfl) (fun ns_204 a w_205 hI => ?_)
       refine cond_ hI true rfl (fun _ => ?_) (fun h => by cases h)
       refine srn0_ hF hI [3, 2] [e_ 3 (.bool false), e_ 2 (.slice none 0 0)] [] (by kernel_rfl) (fun ns_206 a w_207 hI => ?_)
       refine wpIn_ret ?_
       refine then_ret ?_
       obtain rfl := Option.some.inj H0
       exact ret2 hI rfl rfl rfl ⟨svL [(none, 0)], rfl, hE.below hI, ⟨(Arr.nil _ _ _ _), (Nat.le_refl _)⟩⟩
      ·replace H0 := bif_f hc_199 H0
       refine wpIn_skip ?_
       refine then_normal ?_
       refine wpIn_seq ?_
       refine wpIn_region_lit ?_
       refine ckn0_ hF 3 hI [35, 33, 6, 5, 4] [e_ 35 (.int .i64 s1.2.2.2.2.1), e_ 33 (.slice A_18 s1.2.1.length c_19)] [] rfl (by kernel_rfl) (fun ns_208 a w_209 hI => ?_)
       obtain ⟨hE', hmv, hmr⟩ := Ep.rebase hE hI
       replace hq_12 := ItIs.keep hq_12 (hmr _ (by simp))
       replace hq_16 := Row.keep hq_16 (hmv _) (fun b hb => hmr b (by simp [hb]))
       replace hq_17 := Row.keep hq_17 (hmv _) (fun b hb => hmr b (by simp [hb]))
       replace hR_181 := Kd.keep _ hR_181 (hmv _)
       replace hE := hE'
       replace hI := hI.rebase
       clear hE' hmv hmr
       refine buildSlice_ (S0 := S) (d := (Kd.int .i64)) (e := 3) hF hE hI (wanted_none rfl) rfl (by kernel_rfl) (cs := [.int .i64 s1.2.2.2.2.1]) (by kernel_rfl) [s1.2.2.2.2.1] [(svL [])] rfl rfl (by simp [maxLen]) (fun i x hi => by cases i with | zero => (simp only [List.getElem?_cons_zero, Option.some.injEq] at hi; subst hi; exact ⟨trivial, rfl⟩) | succ i => (simp only [List.getElem?_cons_succ] at hi; simp at hi)) (fun A_210 => ⟨[e_ 36 (.slice A_210 ([s1.2.2.2.2.1] : List Int).length (([s1.2.2.2.2.1] : List Int).length)), e_ 35 (.int .i64 s1.2.2.2.2.1), e_ 33 (.slice A_18 s1.2.1.length c_19), e_ 6 (.int .i64 t_178.1), e_ 5 (.bool false), e_ 4 (.slice none 0 0)], [], [], [([.v (.int .i64 s1.2.2.2.2.1), .v (.string s1.2.2.2.2.2.1)], 54), ([.v (.int .i64 s1.2.2.2.2.1), .v (.string s1.2.2.2.2.2.1)], 54)], none, some (1, ns_166)⟩) (fun A_210 => by kernel_rfl) (fun A_210 a w_212 hput hE' hI' hmv hmr hq_211 => ?_)
       replace hq_12 := ItIs.keep hq_12 (hmr _ (by simp) (by simp))
       replace hq_16 := Row.keep hq_16 (hmv _) (fun b hb => hmr b (by simp [hb]) (by simp))
       replace hq_17 := Row.keep hq_17 (hmv _) (fun b hb => hmr b (by simp [hb]) (by simp))
       replace hR_181 := Kd.keep _ hR_181 (hmv _)
       replace hE := hE'
       replace hI := hI'
       clear hE' hI' hmv hmr
       refine ckn0_ hF 1 hI [37, 36, 33, 5, 4] [e_ 37 (.int .i64 t_178.1)] [] rfl (by kernel_rfl) (fun ns_213 a w_214 hI => ?_)
       obtain ⟨hE', hmv, hmr⟩ := Ep.rebase hE hI
       replace hq_12 := ItIs.keep hq_12 (hmr _ (by simp))
       replace hq_16 := Row.keep hq_16 (hmv _) (fun b hb => hmr b (by simp [hb]))
       replace hq_17 := Row.keep hq_17 (hmv _) (fun b hb => hmr b (by simp [hb]))
       replace hR_181 := Kd.keep _ hR_181 (hmv _)
       replace hq_211 := Row.keep hq_211 (hmv _) (fun b hb => hmr b (by simp [hb]))
       replace hE := hE'
       replace hI := hI.rebase
       clear hE' hmv hmr
       obtain ⟨hE', hmv, hq_211, hcap_215⟩ := Row.still (l1 := [[b_11], rb A_18, rb A_20]) (l2 := []) hq_211 (Nat.le_refl _) hE
       have hmr : ∀ b ∈ ([[b_11], rb A_18, rb A_20, rb A_210] : List (List Nat)).flatten, w_214.heap[b]? = w_214.heap[b]? := fun _ _ => rfl
       replace hq_12 := ItIs.keep hq_12 (hmr _ (by simp))
       replace hq_16 := Row.keep hq_16 (hmv _) (fun b hb => hmr b (by simp [hb]))
       replace hq_17 := Row.keep hq_17 (hmv _) (fun b hb => hmr b (by simp [hb]))
       replace hR_181 := Kd.keep _ hR_181 (hmv _)
       replace hE := hE'
       clear hE' hmv hmr
       obtain ⟨t_216, hG_217, H0⟩ := bind_some H0
       refine callH_ hF hE hI (wanted_none rfl) rfl (args := [.slice A_210 ([s1.2.2.2.2.1] : List Int).length (([s1.2.2.2.2.1] : List Int).length), .int .i64 t_178.1]) rfl (enters Tryd.func28 (by kernel_rfl) rfl) (fun sv_218 => .slice ((sv_218 0).1) t_216.length ((sv_218 0).2)) _ (G_slices_Repeat_int_int.calls ([s1.2.2.2.2.1] : List Int) t_178.1 A_210 (([s1.2.2.2.2.1] : List Int).length) w_214 (S := Lo S w w_214 ns_213 [[b_11], rb A_18, rb A_20]) hq_211 hcap_215 _ hG_217) (fun sv_218 => ⟨[e_ 38 (.slice ((sv_218 0).1) t_216.length ((sv_218 0).2)), e_ 37 (.int .i64 t_178.1), e_ 36 (.slice A_210 ([s1.2.2.2.2.1] : List Int).length (([s1.2.2.2.2.1] : List Int).length)), e_ 33 (.slice A_18 s1.2.1.length c_19), e_ 5 (.bool false), e_ 4 (.slice none 0 0)], [], [], [([.v (.int .i64 s1.2.2.2.2.1), .v (.string s1.2.2.2.2.2.1)], 54), ([.v (.int .i64 s1.2.2.2.2.1), .v (.string s1.2.2.2.2.2.1)], 54)], none, some (1, ns_166)⟩) (fun sv_218 => by kernel_rfl) (fun sv_218 a w_220 hput hE' hI' hmv hmr hres hR => ?_)
       replace hq_12 := ItIs.keep hq_12 (hmr _ (by simp) (by simp))
       replace hq_16 := Row.keep hq_16 (hmv _) (fun b hb => hmr b (by simp [hb]) (by simp))
       replace hq_17 := Row.keep hq_17 (hmv _) (fun b hb => hmr b (by simp [hb]) (by simp))
       replace hR_181 := Kd.keep _ hR_181 (hmv _)
       replace hq_211 := Arr.keep hq_211 (hmv _)
       replace hE := hE'
       replace hI := hI'
       clear hE' hI' hmv hmr
       obtain ⟨hR_219, hR_219c⟩ := hR
       replace hR_219 := Arr.keep hR_219 (hres _)
       clear hres
       obtain ⟨hN_221, H0⟩ := req_some H0
       replace hN_221 := of_decide_eq_true hN_221
       refine appendN_ (S0 := S) (l1 := [[b_11]]) (l2 := [rb A_20]) (d := (Kd.int .i64)) (e := 3) hF hE hI (wanted_none rfl) rfl (A := A_18) (c := c_19) (l := s1.2.1) rfl (A2 := ((sv_218 0).1)) (c2 := ((sv_218 0).2)) (ys := t_216) rfl hq_16 hE.k.size hR_219 (fun y sv u hu => by exact kd_one_int _ sv u hu) Tryd.underlying22 (zi := (.int .i64 0, 1, 8)) (by kernel_rfl) rfl (by kernel_rfl) (len_maxN (b := 8) (by decide) hN_221) hN_221 (fun A_222 c_223 => ⟨[e_ 39 (.slice A_222 (s1.2.1 ++ t_216).length c_223), e_ 38 (.slice ((sv_218 0).1) t_216.length ((sv_218 0).2)), e_ 37 (.int .i64 t_178.1), e_ 36 (.slice A_210 ([s1.2.2.2.2.1] : List Int).length (([s1.2.2.2.2.1] : List Int).length)), e_ 33 (.slice A_18 s1.2.1.length c_19), e_ 5 (.bool false), e_ 4 (.slice none 0 0)], [], [], [([.v (.int .i64 s1.2.2.2.2.1), .v (.string s1.2.2.2.2.2.1)], 54), ([.v (.int .i64 s1.2.2.2.2.1), .v (.string s1.2.2.2.2.2.1)], 54)], none, some (1, ns_166)⟩) (fun A_222 c_223 => by kernel_rfl) (fun A_222 c_223 a w_224 hput hE' hI' hmv hmr hq_16 => ?_)
       replace hq_12 := ItIs.keep hq_12 (hmr _ (by simp) (Ep.ne hE (i := 1) (j := 0) (by decide) rfl rfl (List.mem_singleton.2 rfl)))
       replace hq_17 := Row.keep hq_17 (hmv _) (fun b hb => hmr b (by simp [hb]) (Ep.ne hE (i := 1) (j := 2) (by decide) rfl rfl hb))
       replace hR_181 := Kd.keep _ hR_181 (hmv _)
       replace hq_211 := Arr.keep hq_211 (hmv _)
       replace hR_219 := Arr.keep hR_219 (hmv _)
       replace hE := hE'
       replace hI := hI'
       clear hE' hI' hmv hmr
       refine ckn0_ hF 2 hI [5, 4] [e_ 5 (.bool true), e_ 4 (.slice A_222 (s1.2.1 ++ t_216).length c_223)] [] rfl (by kernel_rfl) (fun ns_225 a w_226 hI => ?_)
       refine wpListIn_nil ?_
       refine then_normal ?_
       refine wpIn_ret ?_
       obtain ⟨hE', hmv, hmr⟩ := Ep.rebase hE hI
       replace hq_12 := ItIs.keep hq_12 (hmr _ (by simp))
       replace hq_17 := Row.keep hq_17 (hmv _) (fun b hb => hmr b (by simp [hb]))
       replace hR_181 := Kd.keep _ hR_181 (hmv _)
       replace hq_211 := Arr.keep hq_211 (hmv _)
       replace hR_219 := Arr.keep hR_219 (hmv _)
       replace hq_16 := Row.keep hq_16 (hmv _) (fun b hb => hmr b (by simp [hb]))
       replace hE := hE'
       replace hI := hI.rebase
       clear hE' hmv hmr
       obtain ⟨hE', hI', hmv⟩ := Ep.uncall (bs := [([.v (.int .i64 s1.2.2.2.2.1), .v (.string s1.2.2.2.2.2.1)], 54)]) hOu_168 hE hI rfl rfl rfl rfl (by kernel_rfl) rfl
       have hmr : ∀ b ∈ ([[b_11], rb A_222, rb A_20] : List (List Nat)).flatten, w_226.heap[b]? = w_226.heap[b]? := fun _ _ => rfl
       replace hq_12 := ItIs.keep hq_12 (hmr _ (by simp))
       replace hq_17 := Row.keep hq_17 (hmv _) (fun b hb => hmr b (by simp [hb]))
       replace hR_181 := Kd.keep _ hR_181 (hmv _)
       replace hq_211 := Arr.keep hq_211 (hmv _)
       replace hR_219 := Arr.keep hR_219 (hmv _)
       replace hq_16 := Row.keep hq_16 (hmv _) (fun b hb => hmr b (by simp [hb]))
       replace hE := hE'
       clear hE' hmv hmr
       refine retG hI rfl rfl ⟨.tuple #[.slice A_222 (s1.2.1 ++ t_216).length c_223, .bool true], rfl, ?_⟩
       refine putI_ hI' (s_ [e_ 77 (.tuple #[.slice A_222 (s1.2.1 ++ t_216).length c_223, .bool true]), e_ 76 (.slice A_18 s1.2.1.length c_19), e_ 75 (.agg #[.int .i64 s1.2.2.2.2.1, .string s1.2.2.2.2.2.1]), e_ 6 (.bool s1.1), e_ 4 (.slice A_18 s1.2.1.length c_19), e_ 3 (.bool s1.2.2.1), e_ 2 (.slice A_20 s1.2.2.2.1.length c_21)] [([.v (.int .i64 s1.2.2.2.2.1), .v (.string s1.2.2.2.2.2.1)], 54)]) (by kernel_rfl) (fun a hI => ?_)
       clear hI'
       have hF := hFu_168
       refine ckn0_ hF 5 hI [6, 4, 3, 2] [e_ 6 (.bool true), e_ 4 (.slice A_222 (s1.2.1 ++ t_216).length c_223)] [] rfl (by kernel_rfl) (fun ns_227 a w_228 hI => ?_)
       refine wpListIn_nil ?_
       refine then_normal ?_
       refine wpIn_seq ?_
       refine srn0_ hF hI [81, 4, 3, 2] [e_ 81 (.bool false)] [] (by kernel_rfl) (fun ns_229 a w_230 hI => ?_)
       refine cond_ hI false rfl (fun h => by cases h) (fun _ => ?_)
       refine wpIn_skip ?_
       refine then_normal ?_
       refine srn0_ hF hI [3, 2] [e_ 3 (.bool true), e_ 2 (.slice A_222 (s1.2.1 ++ t_216).length c_223)] [] (by kernel_rfl) (fun ns_231 a w_232 hI => ?_)
       obtain ⟨hE', hmv, hmr⟩ := Ep.rebase hE hI
       replace hq_12 := ItIs.keep hq_12 (hmr _ (by simp))
       replace hq_17 := Row.keep hq_17 (hmv _) (fun b hb => hmr b (by simp [hb]))
       replace hR_181 := Kd.keep _ hR_181 (hmv _)
       replace hq_211 := Arr.keep hq_211 (hmv _)
       replace hR_219 := Arr.keep hR_219 (hmv _)
       replace hq_16 := Row.keep hq_16 (hmv _) (fun b hb => hmr b (by simp [hb]))
       replace hE := hE'
       replace hI := hI.rebase
       clear hE' hmv hmr
       obtain ⟨hE', hmv, hq_16, hcap_233⟩ := Row.still (l1 := [[b_11]]) (l2 := [rb A_20]) hq_16 (Nat.le_refl _) hE
       have hmr : ∀ b ∈ ([[b_11], rb A_222, rb A_20] : List (List Nat)).flatten, w_232.heap[b]? = w_232.heap[b]? := fun _ _ => rfl
       replace hq_12 := ItIs.keep hq_12 (hmr _ (by simp))
       replace hq_17 := Row.keep hq_17 (hmv _) (fun b hb => hmr b (by simp [hb]))
       replace hR_181 := Kd.keep _ hR_181 (hmv _)
       replace hq_211 := Arr.keep hq_211 (hmv _)
       replace hR_219 := Arr.keep hR_219 (hmv _)
       replace hE := hE'
       clear hE' hmv hmr
       refine wpIn_ret ?_
       obtain rfl := Option.some.inj H0
       exact ret2 hI rfl rfl rfl ⟨svL [(A_222, c_223)], rfl, hE.below hI, ⟨Arr.keep hq_16 (hE.out hI), hcap_233⟩⟩
    ·replace H0 := bif_f hc_175 H0
     refine wpIn_skip ?_
     refine then_normal ?_
     refine wpIn_seq ?_
     refine srn0_ hF hI [32, 6, 5, 4, 2, 1] [e_ 32 (.bool (decide (1 > (IntKind.i64.wrap (4096 - (s1.2.1.length : Int))))))] [] (by kernel_rfl) (fun ns_234 a w_235 hI => ?_)
     refine cond_ hI (decide (1 > (IntKind.i64.wrap (4096 - (s1.2.1.length : Int))))) rfl (fun hc_236 => ?_) (fun hc_236 => ?_)
     ·replace H0 := bif_t hc_236 H0
      refine srn0_ hF hI [5, 4] [] [] (by kernel_rfl) (fun ns_237 a w_238 hI => ?_)
      refine wpIn_ret ?_
      refine then_ret ?_
      obtain ⟨hE', hmv, hmr⟩ := Ep.rebase hE hI
      replace hq_12 := ItIs.keep hq_12 (hmr _ (by simp))
      replace hq_16 := Row.keep hq_16 (hmv _) (fun b hb => hmr b (by simp [hb]))
      replace hq_17 := Row.keep hq_17 (hmv _) (fun b hb => hmr b (by simp [hb]))
      replace hE := hE'
      replace hI := hI.rebase
      clear hE' hmv hmr
      obtain ⟨hE', hI', hmv⟩ := Ep.uncall (bs := [([.v (.int .i64 s1.2.2.2.2.1), .v (.string s1.2.2.2.2.2.1)], 54)]) hOu_168 hE hI rfl rfl rfl rfl (by kernel_rfl) rfl
      have hmr : ∀ b ∈ ([[b_11], rb A_18, rb A_20] : List (List Nat)).flatten, w_238.heap[b]? = w_238.heap[b]? := fun _ _ => rfl
      replace hq_12 := ItIs.keep hq_12 (hmr _ (by simp))
      replace hq_16 := Row.keep hq_16 (hmv _) (fun b hb => hmr b (by simp [hb]))
      replace hq_17 := Row.keep hq_17 (hmv _) (fun b hb => hmr b (by simp [hb]))
      replace hE := hE'
      clear hE' hmv hmr
      refine retG hI rfl rfl ⟨.tuple #[.slice none 0 0, .bool false], rfl, ?_⟩
      refine putI_ hI' (s_ [e_ 77 (.tuple #[.slice none 0 0, .bool false]), e_ 76 (.slice A_18 s1.2.1.length c_19), e_ 75 (.agg #[.int .i64 s1.2.2.2.2.1, .string s1.2.2.2.2.2.1]), e_ 6 (.bool s1.1), e_ 4 (.slice A_18 s1.2.1.length c_19), e_ 3 (.bool s1.2.2.1), e_ 2 (.slice A_20 s1.2.2.2.1.length c_21)] [([.v (.int .i64 s1.2.2.2.2.1), .v (.string s1.2.2.2.2.2.1)], 54)]) (by kernel_rfl) (fun a hI => ?_)
      clear hI'
      have hF := hFu_168
      refine ckn0_ hF 5 hI [6, 4, 3, 2] [e_ 6 (.bool false), e_ 4 (.slice none 0 0)] [] rfl (by kernel_rfl) (fun ns_239 a w_240 hI => ?_)
      refine wpListIn_nil ?_
      refine then_normal ?_
      refine wpIn_seq ?_
      refine srn0_ hF hI [81, 4, 3, 2] [e_ 81 (.bool true)] [] (by kernel_rfl) (fun ns_241 a w_242 hI => ?_)
      refine cond_ hI true rfl (fun _ => ?_) (fun h => by cases h)
      refine srn0_ hF hI [3, 2] [e_ 3 (.bool false), e_ 2 (.slice none 0 0)] [] (by kernel_rfl) (fun ns_243 a w_244 hI => ?_)
      refine wpIn_ret ?_
      refine then_ret ?_
      obtain rfl := Option.some.inj H0
      exact ret2 hI rfl rfl rfl ⟨svL [(none, 0)], rfl, hE.below hI, ⟨(Arr.nil _ _ _ _), (Nat.le_refl _)⟩⟩
     ·replace H0 := bif_f hc_236 H0
      refine wpIn_skip ?_
      refine then_normal ?_
      refine wpIn_seq ?_
      refine wpIn_region_lit ?_
      refine ckn0_ hF 3 hI [35, 33, 6, 5, 4] [e_ 35 (.int .i64 s1.2.2.2.2.1), e_ 33 (.slice A_18 s1.2.1.length c_19)] [] rfl (by kernel_rfl) (fun ns_245 a w_246 hI => ?_)
      obtain ⟨hE', hmv, hmr⟩ := Ep.rebase hE hI
      replace hq_12 := ItIs.keep hq_12 (hmr _ (by simp))
      replace hq_16 := Row.keep hq_16 (hmv _) (fun b hb => hmr b (by simp [hb]))
      replace hq_17 := Row.keep hq_17 (hmv _) (fun b hb => hmr b (by simp [hb]))
      replace hE := hE'
      replace hI := hI.rebase
      clear hE' hmv hmr
      refine buildSlice_ (S0 := S) (d := (Kd.int .i64)) (e := 3) hF hE hI (wanted_none rfl) rfl (by kernel_rfl) (cs := [.int .i64 s1.2.2.2.2.1]) (by kernel_rfl) [s1.2.2.2.2.1] [(svL [])] rfl rfl (by simp [maxLen]) (fun i x hi => by cases i with | zero => (simp only [List.getElem?_cons_zero, Option.some.injEq] at hi; subst hi; exact ⟨trivial, rfl⟩) | succ i => (simp only [List.getElem?_cons_succ] at hi; simp at hi)) (fun A_247 => ⟨[e_ 36 (.slice A_247 ([s1.2.2.2.2.1] : List Int).length (([s1.2.2.2.2.1] : List Int).length)), e_ 35 (.int .i64 s1.2.2.2.2.1), e_ 33 (.slice A_18 s1.2.1.length c_19), e_ 6 (.int .i64 1), e_ 5 (.bool false), e_ 4 (.slice none 0 0)], [], [], [([.v (.int .i64 s1.2.2.2.2.1), .v (.string s1.2.2.2.2.2.1)], 54), ([.v (.int .i64 s1.2.2.2.2.1), .v (.string s1.2.2.2.2.2.1)], 54)], none, some (1, ns_166)⟩) (fun A_247 => by kernel_rfl) (fun A_247 a w_249 hput hE' hI' hmv hmr hq_248 => ?_)
      replace hq_12 := ItIs.keep hq_12 (hmr _ (by simp) (by simp))
      replace hq_16 := Row.keep hq_16 (hmv _) (fun b hb => hmr b (by simp [hb]) (by simp))
      replace hq_17 := Row.keep hq_17 (hmv _) (fun b hb => hmr b (by simp [hb]) (by simp))
      replace hE := hE'
      replace hI := hI'
      clear hE' hI' hmv hmr
      refine ckn0_ hF 1 hI [37, 36, 33, 5, 4] [e_ 37 (.int .i64 1)] [] rfl (by kernel_rfl) (fun ns_250 a w_251 hI => ?_)
      obtain ⟨hE', hmv, hmr⟩ := Ep.rebase hE hI
      replace hq_12 := ItIs.keep hq_12 (hmr _ (by simp))
      replace hq_16 := Row.keep hq_16 (hmv _) (fun b hb => hmr b (by simp [hb]))
      replace hq_17 := Row.keep hq_17 (hmv _) (fun b hb => hmr b (by simp [hb]))
      replace hq_248 := Row.keep hq_248 (hmv _) (fun b hb => hmr b (by simp [hb]))
      replace hE := hE'
      replace hI := hI.rebase
      clear hE' hmv hmr
      obtain ⟨hE', hmv, hq_248, hcap_252⟩ := Row.still (l1 := [[b_11], rb A_18, rb A_20]) (l2 := []) hq_248 (Nat.le_refl _) hE
      have hmr : ∀ b ∈ ([[b_11], rb A_18, rb A_20, rb A_247] : List (List Nat)).flatten, w_251.heap[b]? = w_251.heap[b]? := fun _ _ => rfl
      replace hq_12 := ItIs.keep hq_12 (hmr _ (by simp))
      replace hq_16 := Row.keep hq_16 (hmv _) (fun b hb => hmr b (by simp [hb]))
      replace hq_17 := Row.keep hq_17 (hmv _) (fun b hb => hmr b (by simp [hb]))
      replace hE := hE'
      clear hE' hmv hmr
      obtain ⟨t_253, hG_254, H0⟩ := bind_some H0
      refine callH_ hF hE hI (wanted_none rfl) rfl (args := [.slice A_247 ([s1.2.2.2.2.1] : List Int).length (([s1.2.2.2.2.1] : List Int).length), .int .i64 1]) rfl (enters Tryd.func28 (by kernel_rfl) rfl) (fun sv_255 => .slice ((sv_255 0).1) t_253.length ((sv_255 0).2)) _ (G_slices_Repeat_int_int.calls ([s1.2.2.2.2.1] : List Int) 1 A_247 (([s1.2.2.2.2.1] : List Int).length) w_251 (S := Lo S w w_251 ns_250 [[b_11], rb A_18, rb A_20]) hq_248 hcap_252 _ hG_254) (fun sv_255 => ⟨[e_ 38 (.slice ((sv_255 0).1) t_253.length ((sv_255 0).2)), e_ 37 (.int .i64 1), e_ 36 (.slice A_247 ([s1.2.2.2.2.1] : List Int).length (([s1.2.2.2.2.1] : List Int).length)), e_ 33 (.slice A_18 s1.2.1.length c_19), e_ 5 (.bool false), e_ 4 (.slice none 0 0)], [], [], [([.v (.int .i64 s1.2.2.2.2.1), .v (.string s1.2.2.2.2.2.1)], 54), ([.v (.int .i64 s1.2.2.2.2.1), .v (.string s1.2.2.2.2.2.1)], 54)], none, some (1, ns_166)⟩) (fun sv_255 => by kernel_rfl) (fun sv_255 a w_257 hput hE' hI' hmv hmr hres hR => ?_)
      replace hq_12 := ItIs.keep hq_12 (hmr _ (by simp) (by simp))
      replace hq_16 := Row.keep hq_16 (hmv _) (fun b hb => hmr b (by simp [hb]) (by simp))
      replace hq_17 := Row.keep hq_17 (hmv _) (fun b hb => hmr b (by simp [hb]) (by simp))
      replace hq_248 := Arr.keep hq_248 (hmv _)
      replace hE := hE'
      replace hI := hI'
      clear hE' hI' hmv hmr
      obtain ⟨hR_256, hR_256c⟩ := hR
      replace hR_256 := Arr.keep hR_256 (hres _)
      clear hres
      obtain ⟨hN_258, H0⟩ := req_some H0
      replace hN_258 := of_decide_eq_true hN_258
      refine appendN_ (S0 := S) (l1 := [[b_11]]) (l2 := [rb A_20]) (d := (Kd.int .i64)) (e := 3) hF hE hI (wanted_none rfl) rfl (A := A_18) (c := c_19) (l := s1.2.1) rfl (A2 := ((sv_255 0).1)) (c2 := ((sv_255 0).2)) (ys := t_253) rfl hq_16 hE.k.size hR_256 (fun y sv u hu => by exact kd_one_int _ sv u hu) Tryd.underlying22 (zi := (.int .i64 0, 1, 8)) (by kernel_rfl) rfl (by kernel_rfl) (len_maxN (b := 8) (by decide) hN_258) hN_258 (fun A_259 c_260 => ⟨[e_ 39 (.slice A_259 (s1.2.1 ++ t_253).length c_260), e_ 38 (.slice ((sv_255 0).1) t_253.length ((sv_255 0).2)), e_ 37 (.int .i64 1), e_ 36 (.slice A_247 ([s1.2.2.2.2.1] : List Int).length (([s1.2.2.2.2.1] : List Int).length)), e_ 33 (.slice A_18 s1.2.1.length c_19), e_ 5 (.bool false), e_ 4 (.slice none 0 0)], [], [], [([.v (.int .i64 s1.2.2.2.2.1), .v (.string s1.2.2.2.2.2.1)], 54), ([.v (.int .i64 s1.2.2.2.2.1), .v (.string s1.2.2.2.2.2.1)], 54)], none, some (1, ns_166)⟩) (fun A_259 c_260 => by kernel_rfl) (fun A_259 c_260 a w_261 hput hE' hI' hmv hmr hq_16 => ?_)
      replace hq_12 := ItIs.keep hq_12 (hmr _ (by simp) (Ep.ne hE (i := 1) (j := 0) (by decide) rfl rfl (List.mem_singleton.2 rfl)))
      replace hq_17 := Row.keep hq_17 (hmv _) (fun b hb => hmr b (by simp [hb]) (Ep.ne hE (i := 1) (j := 2) (by decide) rfl rfl hb))
      replace hq_248 := Arr.keep hq_248 (hmv _)
      replace hR_256 := Arr.keep hR_256 (hmv _)
      replace hE := hE'
      replace hI := hI'
      clear hE' hI' hmv hmr
      refine ckn0_ hF 2 hI [5, 4] [e_ 5 (.bool true), e_ 4 (.slice A_259 (s1.2.1 ++ t_253).length c_260)] [] rfl (by kernel_rfl) (fun ns_262 a w_263 hI => ?_)
      refine wpListIn_nil ?_
      refine then_normal ?_
      refine wpIn_ret ?_
      obtain ⟨hE', hmv, hmr⟩ := Ep.rebase hE hI
      replace hq_12 := ItIs.keep hq_12 (hmr _ (by simp))
      replace hq_17 := Row.keep hq_17 (hmv _) (fun b hb => hmr b (by simp [hb]))
      replace hq_248 := Arr.keep hq_248 (hmv _)
      replace hR_256 := Arr.keep hR_256 (hmv _)
      replace hq_16 := Row.keep hq_16 (hmv _) (fun b hb => hmr b (by simp [hb]))
      replace hE := hE'
      replace hI := hI.rebase
      clear hE' hmv hmr
      obtain ⟨hE', hI', hmv⟩ := Ep.uncall (bs := [([.v (.int .i64 s1.2.2.2.2.1), .v (.string s1.2.2.2.2.2.1)], 54)]) hOu_168 hE hI rfl rfl rfl rfl (by kernel_rfl) rfl
      have hmr : ∀ b ∈ ([[b_11], rb A_259, rb A_20] : List (List Nat)).flatten, w_263.heap[b]? = w_263.heap[b]? := fun _ _ => rfl
      replace hq_12 := ItIs.keep hq_12 (hmr _ (by simp))
      replace hq_17 := Row.keep hq_17 (hmv _) (fun b hb => hmr b (by simp [hb]))
      replace hq_248 := Arr.keep hq_248 (hmv _)
      replace hR_256 := Arr.keep hR_256 (hmv _)
      replace hq_16 := Row.keep hq_16 (hmv _) (fun b hb => hmr b (by simp [hb]))
      replace hE := hE'
      clear hE' hmv hmr
      refine retG hI rfl rfl ⟨.tuple #[.slice A_259 (s1.2.1 ++ t_253).length c_260, .bool true], rfl, ?_⟩
      refine putI_ hI' (s_ [e_ 77 (.tuple #[.slice A_259 (s1.2.1 ++ t_253).length c_260, .bool true]), e_ 76 (.slice A_18 s1.2.1.length c_19), e_ 75 (.agg #[.int .i64 s1.2.2.2.2.1, .string s1.2.2.2.2.2.1]), e_ 6 (.bool s1.1), e_ 4 (.slice A_18 s1.2.1.length c_19), e_ 3 (.bool s1.2.2.1), e_ 2 (.slice A_20 s1.2.2.2.1.length c_21)] [([.v (.int .i64 s1.2.2.2.2.1), .v (.string s1.2.2.2.2.2.1)], 54)]) (by kernel_rfl) (fun a hI => ?_)
      clear hI'
      have hF := hFu_168
      refine ckn0_ hF 5 hI [6, 4, 3, 2] [e_ 6 (.bool true), e_ 4 (.slice A_259 (s1.2.1 ++ t_253).length c_260)] [] rfl (by kernel_rfl) (fun ns_264 a w_265 hI => ?_)
      refine wpListIn_nil ?_
      refine then_normal ?_
      refine wpIn_seq ?_
      refine srn0_ hF hI [81, 4, 3, 2] [e_ 81 (.bool false)] [] (by kernel_rfl) (fun ns_266 a w_267 hI => ?_)
      refine cond_ hI false rfl (fun h => by cases h) (fun _ => ?_)
      refine wpIn_skip ?_
      refine then_normal ?_
      refine srn0_ hF hI [3, 2] [e_ 3 (.bool true), e_ 2 (.slice A_259 (s1.2.1 ++ t_253).length c_260)] [] (by kernel_rfl) (fun ns_268 a w_269 hI => ?_)
      obtain ⟨hE', hmv, hmr⟩ := Ep.rebase hE hI
      replace hq_12 := ItIs.keep hq_12 (hmr _ (by simp))
      replace hq_17 := Row.keep hq_17 (hmv _) (fun b hb => hmr b (by simp [hb]))
      replace hq_248 := Arr.keep hq_248 (hmv _)
      replace hR_256 := Arr.keep hR_256 (hmv _)
      replace hq_16 := Row.keep hq_16 (hmv _) (fun b hb => hmr b (by simp [hb]))
      replace hE := hE'
      replace hI := hI.rebase
      clear hE' hmv hmr
      obtain ⟨hE', hmv, hq_16, hcap_270⟩ := Row.still (l1 := [[b_11]]) (l2 := [rb A_20]) hq_16 (Nat.le_refl _) hE
      have hmr : ∀ b ∈ ([[b_11], rb A_259, rb A_20] : List (List Nat)).flatten, w_269.heap[b]? = w_269.heap[b]? := fun _ _ => rfl
      replace hq_12 := ItIs.keep hq_12 (hmr _ (by simp))
      replace hq_17 := Row.keep hq_17 (hmv _) (fun b hb => hmr b (by simp [hb]))
      replace hq_248 := Arr.keep hq_248 (hmv _)
      replace hR_256 := Arr.keep hR_256 (hmv _)
      replace hE := hE'
      clear hE' hmv hmr
      refine wpIn_ret ?_
      obtain rfl := Option.some.inj H0
      exact ret2 hI rfl rfl rfl ⟨svL [(A_259, c_260)], rfl, hE.below hI, ⟨Arr.keep hq_16 (hE.out hI), hcap_270⟩⟩
   ·replace H0 := bif_f hc_165 H0
    refine wpIn_skip ?_
    refine then_normal ?_
    refine wpIn_seq ?_
    refine srn0_ hF hI [81, 4, 3, 2] [e_ 81 (.bool (!s1.1))] [] (by kernel_rfl) (fun ns_271 a w_272 hI => ?_)
    refine cond_ hI ((!s1.1)) rfl (fun hc_273 => ?_) (fun hc_273 => ?_)
    ·replace H0 := bif_t hc_273 H0
     refine srn0_ hF hI [3, 2] [e_ 3 (.bool false), e_ 2 (.slice none 0 0)] [] (by kernel_rfl) (fun ns_274 a w_275 hI => ?_)
     refine wpIn_ret ?_
     refine then_ret ?_
     obtain rfl := Option.some.inj H0
     exact ret2 hI rfl rfl rfl ⟨svL [(none, 0)], rfl, hE.below hI, ⟨(Arr.nil _ _ _ _), (Nat.le_refl _)⟩⟩
    ·replace H0 := bif_f hc_273 H0
     refine wpIn_skip ?_
     refine then_normal ?_
     refine srn0_ hF hI [3, 2] [e_ 3 (.bool true), e_ 2 (.slice A_18 s1.2.1.length c_19)] [] (by kernel_rfl) (fun ns_276 a w_277 hI => ?_)
     obtain ⟨hE', hmv, hmr⟩ := Ep.rebase hE hI
     replace hq_12 := ItIs.keep hq_12 (hmr _ (by simp))
     replace hq_16 := Row.keep hq_16 (hmv _) (fun b hb => hmr b (by simp [hb]))
     replace hq_17 := Row.keep hq_17 (hmv _) (fun b hb => hmr b (by simp [hb]))
     replace hE := hE'
     replace hI := hI.rebase
     clear hE' hmv hmr
     obtain ⟨hE', hmv, hq_16, hcap_278⟩ := Row.still (l1 := [[b_11]]) (l2 := [rb A_20]) hq_16 (Nat.le_refl _) hE
     have hmr : ∀ b ∈ ([[b_11], rb A_18, rb A_20] : List (List Nat)).flatten, w_277.heap[b]? = w_277.heap[b]? := fun _ _ => rfl
     replace hq_12 := ItIs.keep hq_12 (hmr _ (by simp))
     replace hq_17 := Row.keep hq_17 (hmv _) (fun b hb => hmr b (by simp [hb]))
     replace hE := hE'
     clear hE' hmv hmr
     refine wpIn_ret ?_
     obtain rfl := Option.some.inj H0
     exact ret2 hI rfl rfl rfl ⟨svL [(A_18, c_19)], rfl, hE.below hI, ⟨Arr.keep hq_16 (hE.out hI), hcap_278⟩⟩

noncomputable def G_law30_wakes  : Option (Bool) := ((G_pack_Print ([0, 0, 2, 1] : List Int)).bind fun t_6 => ((G_pack_Parse (⟨#[97, 49]⟩ : ByteArray)).bind fun t_10 => ((G_pack_Parse (⟨#[97, 97]⟩ : ByteArray)).bind fun t_17 => some (((t_6.2 && (t_6.1.toList == (⟨#[97, 50, 116, 98]⟩ : ByteArray).toList)) && (!t_10.2)) && (!t_17.2)))))
theorem G_law30_wakes.calls   (w : World) {S : Nat → Prop} (hg1 : El (kdG 1 gv1) S w ⟨1, 0, none⟩ () (svL [])) (r : Bool) (h : G_law30_wakes = some r) :
    Calls Tryd.prog 6 #[] w fun e w' => e = .returned (.bool r) ∧ Below w.heap.size w w' := by
  replace hg1 := El.lo hg1
  unfold G_law30_wakes at h
  have H0 := h
  clear h
  refine enter Tryd.func6 rfl [] (n := 33) rfl (Nat.le_of_ble_eq_true rfl) (fun a hI => ?_)
  have hF : FOpen Fence.wide := .inl rfl
  have hE := Ep.start w
  refine sr0_ hF hI (s_ [e_ 0 (.bool false)] []) (by kernel_rfl) (fun ns_1 a w_2 hI => ?_)
  refine wpIn_seq ?_
  refine wpIn_region_lit ?_
  obtain ⟨hE', hmv, hmr⟩ := Ep.rebase hE hI
  replace hg1 := El.keep hg1 (hmv _)
  replace hE := hE'
  replace hI := hI.rebase
  clear hE' hmv hmr
  refine buildSlice_ (S0 := S) (d := (Kd.int .i64)) (e := 3) hF hE hI (wanted_none rfl) rfl (by kernel_rfl) (cs := [.int .i64 0, .int .i64 0, .int .i64 2, .int .i64 1]) (by kernel_rfl) [0, 0, 2, 1] [(svL []), (svL []), (svL []), (svL [])] rfl rfl (by simp [maxLen]) (fun i x hi => by cases i with | zero => (simp only [List.getElem?_cons_zero, Option.some.injEq] at hi; subst hi; exact ⟨trivial, rfl⟩) | succ i => (simp only [List.getElem?_cons_succ] at hi; cases i with | zero => (simp only [List.getElem?_cons_zero, Option.some.injEq] at hi; subst hi; exact ⟨trivial, rfl⟩) | succ i => (simp only [List.getElem?_cons_succ] at hi; cases i with | zero => (simp only [List.getElem?_cons_zero, Option.some.injEq] at hi; subst hi; exact ⟨trivial, rfl⟩) | succ i => (simp only [List.getElem?_cons_succ] at hi; cases i with | zero => (simp only [List.getElem?_cons_zero, Option.some.injEq] at hi; subst hi; exact ⟨trivial, rfl⟩) | succ i => (simp only [List.getElem?_cons_succ] at hi; simp at hi))))) (fun A_3 => (s_ [e_ 8 (.slice A_3 ([0, 0, 2, 1] : List Int).length (([0, 0, 2, 1] : List Int).length)), e_ 0 (.bool false)] [])) (fun A_3 => by kernel_rfl) (fun A_3 a w_5 hput hE' hI' hmv hmr hq_4 => ?_)
  replace hg1 := El.keep hg1 (hmv _)
  replace hE := hE'
  replace hI := hI'
  clear hE' hI' hmv hmr
  obtain ⟨t_6, hG_7, H0⟩ := bind_some H0
  refine ckn_ (orc := [[.tuple #[.string t_6.1, .bool t_6.2]]]) hF 6 hI [2, 1, 0] [e_ 2 (.bool t_6.2), e_ 1 (.string t_6.1)] [] [.call true 9 [.slice A_3 ([0, 0, 2, 1] : List Int).length (([0, 0, 2, 1] : List Int).length)] (.tuple #[.string t_6.1, .bool t_6.2])] rfl (by kernel_rfl) ⟨ob_call (enters Tryd.func9 (by kernel_rfl) rfl) (fun hg wz hk => G_pack_Print.calls ([0, 0, 2, 1] : List Int) A_3 (([0, 0, 2, 1] : List Int).length) wz (S := fun _ => True) (Row.arr (S' := fun _ => True) (Row.on hq_4 hE (by simp) hk) (fun _ _ => trivial) (fun _ _ => trivial)).1 (Row.arr (S' := fun _ => True) hq_4 (fun _ _ => trivial) (fun _ _ => trivial)).2 (El.any (El.keep hg1 (Lo.on hk))) _ hG_7), trivial⟩ (fun ns_8 a w_9 hI => ?_)
  refine wpListIn_nil ?_
  refine then_normal ?_
  refine wpIn_seq ?_
  refine wpIn_region_lit ?_
  obtain ⟨hE', hmv, hmr⟩ := Ep.rebase hE hI
  replace hg1 := El.keep hg1 (hmv _)
  replace hq_4 := Row.keep hq_4 (hmv _) (fun b hb => hmr b (by simp [hb]))
  replace hE := hE'
  replace hI := hI.rebase
  clear hE' hmv hmr
  obtain ⟨t_10, hG_11, H0⟩ := bind_some H0
  refine callH_ hF hE hI (wanted_none rfl) rfl (args := [.string (⟨#[97, 49]⟩ : ByteArray)]) rfl (enters Tryd.func11 (by kernel_rfl) rfl) (fun sv_12 => .tuple #[.slice ((sv_12 0).1) t_10.1.length ((sv_12 0).2), .bool t_10.2]) _ (G_pack_Parse.calls (⟨#[97, 49]⟩ : ByteArray)  w_9 (S := Lo S w w_9 ns_8 [rb A_3])  _ hG_11) (fun sv_12 => (s_ [e_ 13 (.tuple #[.slice ((sv_12 0).1) t_10.1.length ((sv_12 0).2), .bool t_10.2]), e_ 2 (.bool t_6.2), e_ 1 (.string t_6.1), e_ 0 (.bool false)] [])) (fun sv_12 => by kernel_rfl) (fun sv_12 a w_14 hput hE' hI' hmv hmr hres hR => ?_)
  replace hg1 := El.keep hg1 (hmv _)
  replace hq_4 := Row.keep hq_4 (hmv _) (fun b hb => hmr b (by simp [hb]) (by simp))
  replace hE := hE'
  replace hI := hI'
  clear hE' hI' hmv hmr
  obtain ⟨hR_13, hR_13c⟩ := hR
  replace hR_13 := Arr.keep hR_13 (hres _)
  clear hres
  refine ckn0_ hF 5 hI [4, 2, 1, 0] [e_ 4 (.bool t_10.2)] [] rfl (by kernel_rfl) (fun ns_15 a w_16 hI => ?_)
  refine wpListIn_nil ?_
  refine then_normal ?_
  refine wpIn_seq ?_
  refine wpIn_region_lit ?_
  obtain ⟨hE', hmv, hmr⟩ := Ep.rebase hE hI
  replace hg1 := El.keep hg1 (hmv _)
  replace hq_4 := Row.keep hq_4 (hmv _) (fun b hb => hmr b (by simp [hb]))
  replace hR_13 := Arr.keep hR_13 (hmv _)
  replace hE := hE'
  replace hI := hI.rebase
  clear hE' hmv hmr
  obtain ⟨t_17, hG_18, H0⟩ := bind_some H0
  refine callH_ hF hE hI (wanted_none rfl) rfl (args := [.string (⟨#[97, 97]⟩ : ByteArray)]) rfl (enters Tryd.func11 (by kernel_rfl) rfl) (fun sv_19 => .tuple #[.slice ((sv_19 0).1) t_17.1.length ((sv_19 0).2), .bool t_17.2]) _ (G_pack_Parse.calls (⟨#[97, 97]⟩ : ByteArray)  w_16 (S := Lo S w w_16 ns_15 [rb A_3])  _ hG_18) (fun sv_19 => (s_ [e_ 17 (.tuple #[.slice ((sv_19 0).1) t_17.1.length ((sv_19 0).2), .bool t_17.2]), e_ 4 (.bool t_10.2), e_ 2 (.bool t_6.2), e_ 1 (.string t_6.1), e_ 0 (.bool false)] [])) (fun sv_19 => by kernel_rfl) (fun sv_19 a w_21 hput hE' hI' hmv hmr hres hR => ?_)
  replace hg1 := El.keep hg1 (hmv _)
  replace hq_4 := Row.keep hq_4 (hmv _) (fun b hb => hmr b (by simp [hb]) (by simp))
  replace hR_13 := Arr.keep hR_13 (hmv _)
  replace hE := hE'
  replace hI := hI'
  clear hE' hI' hmv hmr
  obtain ⟨hR_20, hR_20c⟩ := hR
  replace hR_20 := Arr.keep hR_20 (hres _)
  clear hres
  refine ckn0_ hF 5 hI [6, 4, 2, 1, 0] [e_ 6 (.bool t_17.2)] [] rfl (by kernel_rfl) (fun ns_22 a w_23 hI => ?_)
  refine wpListIn_nil ?_
  refine then_normal ?_
  refine srn0_ hF hI [0] [e_ 0 (.bool (((t_6.2 && (t_6.1.toList == (⟨#[97, 50, 116, 98]⟩ : ByteArray).toList)) && (!t_10.2)) && (!t_17.2)))] [] (by kernel_rfl) (fun ns_24 a w_25 hI => ?_)
  refine wpIn_ret ?_
  obtain rfl := Option.some.inj H0
  exact ret1 hI rfl rfl ⟨rfl, hE.below hI⟩

noncomputable def G_ref30_Runs.b1 (l0 : (List Int)) (s1 : Int × (List Portholeref30_Run)) : Option (Stp (Int × (List Portholeref30_Run)) (Ex (Int × (List Portholeref30_Run)) ((List Portholeref30_Run)))) := (bif decide (s1.1 < (l0.length : Int)) then (req (imp (decide (s1.1 > 0)) (inb s1.1 l0.length)) (req (imp (decide (s1.1 > 0)) (inb (IntKind.i64.wrap (s1.1 - 1)) l0.length)) (bif (decide (s1.1 > 0) && ((rd l0 s1.1) == (rd l0 (IntKind.i64.wrap (s1.1 - 1))))) then (req (inb (IntKind.i64.wrap ((s1.2.length : Int) - 1)) s1.2.length) (req (inb (IntKind.i64.wrap ((s1.2.length : Int) - 1)) s1.2.length) (some (.next ((IntKind.i64.wrap (s1.1 + 1)), (s1.2.set ((IntKind.i64.wrap ((s1.2.length : Int) - 1)) : Int).toNat (⟨(rd s1.2 (IntKind.i64.wrap ((s1.2.length : Int) - 1))).Act, (IntKind.i64.wrap (((rd s1.2 (IntKind.i64.wrap ((s1.2.length : Int) - 1))).Many) + 1))⟩ : Portholeref30_Run))))))) else (req (inb s1.1 l0.length) (req (decide ((s1.2.length + 1) * 16 ≤ 140737488355328)) (some (.next ((IntKind.i64.wrap (s1.1 + 1)), (s1.2 ++ [(⟨(rd l0 s1.1), 1⟩ : Portholeref30_Run)]))))))))) else some (.out (.brk (s1.1, s1.2))))
noncomputable def G_ref30_Runs (l0 : (List Int)) : Option ((List Portholeref30_Run)) := ((loopω (G_ref30_Runs.b1 l0) (0, ([] : List Portholeref30_Run))).bind fun o => o.on (fun s1 => some s1.2) (fun r => some r))
theorem G_ref30_Runs.calls (l0 : (List Int)) (A0 : Option Addr) (c0 : Nat) (w : World) {S : Nat → Prop} (hr0 : Arr (Kd.int .i64) S w A0 l0) (hc0 : l0.length ≤ c0) (r : (List Portholeref30_Run)) (h : G_ref30_Runs l0 = some r) :
    Calls Tryd.prog 7 #[.slice A0 l0.length c0] w fun e w' => ∃ sv : SV, e = .returned (.slice ((sv 0).1) r.length ((sv 0).2)) ∧ Below w.heap.size w w' ∧ (Arr kd_Portholeref30_Run (fun b => w.heap.size ≤ b ∨ S b) w' (sv 0).1 r ∧ r.length ≤ (sv 0).2) := by
  replace hr0 := Arr.lo hr0
  unfold G_ref30_Runs at h
  have H0 := h
  clear h
  refine enter Tryd.func7 rfl [.slice A0 l0.length c0] (n := 44) rfl (Nat.le_of_ble_eq_true rfl) (fun a hI => ?_)
  have hF : FOpen Fence.wide := .inl rfl
  have hE := Ep.start w
  refine sr0_ hF hI (s_ [e_ 2 (.slice none 0 0), e_ 0 (.slice A0 l0.length c0)] []) (by kernel_rfl) (fun ns_1 a w_2 hI => ?_)
  refine srn0_ hF hI [3, 2, 0] [e_ 3 (.slice none 0 0)] [] (by kernel_rfl) (fun ns_3 a w_4 hI => ?_)
  refine wpIn_seq ?_
  refine srn0_ hF hI [4, 3, 2, 0] [e_ 4 (.int .i64 0)] [] (by kernel_rfl) (fun ns_5 a w_6 hI => ?_)
  obtain ⟨hE', hmv, hmr⟩ := Ep.rebase hE hI
  replace hr0 := Arr.keep hr0 (hmv _)
  replace hE := hE'
  replace hI := hI.rebase
  clear hE' hmv hmr
  obtain ⟨hE', hmv⟩ := Ep.addNil hE
  have hmr : ∀ b ∈ ([] : List (List Nat)).flatten, w_6.heap[b]? = w_6.heap[b]? := fun _ _ => rfl
  replace hr0 := Arr.keep hr0 (hmv _)
  replace hE := hE'
  clear hE' hmv hmr
  have hq_7 : Row kd_Portholeref30_Run 30 (Lo S w w_6 ns_5 [rb none]) w_6 w.heap.size none 0 ([] : List Portholeref30_Run) := Row.nil
  obtain ⟨o_61, hL_62, H0⟩ := bind_some H0
  refine block_loop (fun (s1 : Int × (List Portholeref30_Run)) a w_69 => ∃ (ow ns : List Nat) (A_8 : Option Addr) (c_9 : Nat), (Arr (Kd.int .i64) (Lo S w w_69 ow [rb A_8]) w_69 A0 l0) ∧ (Row kd_Portholeref30_Run 30 (Lo S w w_69 ow [rb A_8]) w_69 w.heap.size A_8 c_9 s1.2) ∧ Ep [] w w_69 ow [rb A_8] ∧ St w_69 ow 44 (s_ [e_ 4 (.int .i64 s1.1), e_ 3 (.slice A_8 s1.2.length c_9), e_ 2 (.slice none 0 0), e_ 0 (.slice A0 l0.length c0)] []) ns a w_69) (0, ([] : List Portholeref30_Run)) hL_62 ⟨_, _, _, _, hr0, hq_7, hE, hI.pick [4, 3, 2, 0] 0 (s_ [e_ 4 (.int .i64 0), e_ 3 (.slice none ([] : List Portholeref30_Run).length 0), e_ 2 (.slice none 0 0), e_ 0 (.slice A0 l0.length c0)] []) (by kernel_rfl)⟩ ?_ ?_
  ·clear hI hE
   rintro s1 a w_10 ⟨ow_12, ns_11, A_8, c_9, hr0, hq_7, hE, hI⟩ r1 H1
   unfold G_ref30_Runs.b1 at H1
   refine wpIn_seq ?_
   refine sr0_ hF hI (s_ [e_ 8 (.bool (decide (s1.1 < (l0.length : Int)))), e_ 4 (.int .i64 s1.1), e_ 3 (.slice A_8 s1.2.length c_9), e_ 2 (.slice none 0 0), e_ 0 (.slice A0 l0.length c0)] []) (by kernel_rfl) (fun ns_13 a w_14 hI => ?_)
   refine cond_ hI (decide (s1.1 < (l0.length : Int))) rfl (fun hc_15 => ?_) (fun hc_15 => ?_)
   ·replace H1 := bif_t hc_15 H1
    refine wpIn_skip ?_
    refine then_normal ?_
    refine wpIn_seq ?_
    refine wpIn_block ?_
    refine wpIn_seq ?_
    obtain ⟨hN_16, H1⟩ := req_some H1
    obtain ⟨sv_17, hE_19, hA_18⟩ := Arr.elB (d := (Kd.int .i64)) hr0 s1.1 (decide (s1.1 > 0)) (fun hg => imp_spec hN_16 hg)
    obtain ⟨hN_20, H1⟩ := req_some H1
    obtain ⟨sv_21, hE_23, hA_22⟩ := Arr.elB (d := (Kd.int .i64)) hr0 (IntKind.i64.wrap (s1.1 - 1)) (decide (s1.1 > 0)) (fun hg => imp_spec hN_20 hg)
    refine drawn_ (live := [24, 4, 3, 2, 0]) (orc := [[.int .i64 (rd l0 s1.1)], [.int .i64 (rd l0 (IntKind.i64.wrap (s1.1 - 1)))]]) hF hI (s_ [e_ 24 (.bool (decide (s1.1 > 0) && ((rd l0 s1.1) == (rd l0 (IntKind.i64.wrap (s1.1 - 1)))))), e_ 4 (.int .i64 s1.1), e_ 3 (.slice A_8 s1.2.length c_9), e_ 2 (.slice none 0 0), e_ 0 (.slice A0 l0.length c0)] []) [.need (decide (s1.1 > 0)) ((0 : Int) ≤ s1.1 ∧ s1.1 < (l0.length : Int)), .need (decide (s1.1 > 0)) (A0 = some (adr A0)), .cell (decide (s1.1 > 0)) ((adr A0).add ((s1.1 : Int).toNat * 1)) [.int .i64 (rd l0 s1.1)], .need (decide (s1.1 > 0)) ((0 : Int) ≤ (IntKind.i64.wrap (s1.1 - 1)) ∧ (IntKind.i64.wrap (s1.1 - 1)) < (l0.length : Int)), .need (decide (s1.1 > 0)) (A0 = some (adr A0)), .cell (decide (s1.1 > 0)) ((adr A0).add (((IntKind.i64.wrap (s1.1 - 1)) : Int).toNat * 1)) [.int .i64 (rd l0 (IntKind.i64.wrap (s1.1 - 1)))]] (by kernel_rfl) (by kernel_rfl) (by kernel_rfl) ⟨ob_inb (fun hg => imp_spec hN_16 hg), hA_18, ob_el (fun hg => hE_19 hg) 0 [.int .i64 (rd l0 s1.1)] rfl, ob_inb (fun hg => imp_spec hN_20 hg), hA_22, ob_el (fun hg => hE_23 hg) 0 [.int .i64 (rd l0 (IntKind.i64.wrap (s1.1 - 1)))] rfl, trivial⟩ (fun a w_24 hI => ?_)
    refine then_normal ?_
    refine cond_ hI ((decide (s1.1 > 0) && ((rd l0 s1.1) == (rd l0 (IntKind.i64.wrap (s1.1 - 1)))))) rfl (fun hc_25 => ?_) (fun hc_25 => ?_)
    ·replace H1 := bif_t hc_25 H1
     refine wpIn_region_lit ?_
     obtain ⟨hN_26, H1⟩ := req_some H1
     obtain ⟨sv_27, hE_29, hA_28⟩ := Row.elB hq_7 hE (by simp) (IntKind.i64.wrap ((s1.2.length : Int) - 1)) true (fun _ => hN_26)
     obtain ⟨hN_30, H1⟩ := req_some H1
     obtain ⟨sv_31, hE_33, hA_32⟩ := Row.elB hq_7 hE (by simp) (IntKind.i64.wrap ((s1.2.length : Int) - 1)) true (fun _ => hN_30)
     refine ck_ (orc := [[.int .i64 ((rd s1.2 (IntKind.i64.wrap ((s1.2.length : Int) - 1))).Many)]]) hF 10 hI (s_ [e_ 34 (.pointer (some (((adr A_8).add (((IntKind.i64.wrap ((s1.2.length : Int) - 1)) : Int).toNat * 2)).add 1))), e_ 32 (.int .i64 (IntKind.i64.wrap (((rd s1.2 (IntKind.i64.wrap ((s1.2.length : Int) - 1))).Many) + 1))), e_ 4 (.int .i64 s1.1), e_ 3 (.slice A_8 s1.2.length c_9), e_ 2 (.slice none 0 0), e_ 0 (.slice A0 l0.length c0)] []) [.need true ((0 : Int) ≤ (IntKind.i64.wrap ((s1.2.length : Int) - 1)) ∧ (IntKind.i64.wrap ((s1.2.length : Int) - 1)) < (s1.2.length : Int)), .need true (A_8 = some (adr A_8)), .cell true (((adr A_8).add (((IntKind.i64.wrap ((s1.2.length : Int) - 1)) : Int).toNat * 2)).add 1) [.int .i64 ((rd s1.2 (IntKind.i64.wrap ((s1.2.length : Int) - 1))).Many)], .need true ((0 : Int) ≤ (IntKind.i64.wrap ((s1.2.length : Int) - 1)) ∧ (IntKind.i64.wrap ((s1.2.length : Int) - 1)) < (s1.2.length : Int)), .need true (A_8 = some (adr A_8))] rfl (by kernel_rfl) ⟨ob_inb (fun _ => hN_26), hA_28, ob_elR hE_29 1 [.int .i64 ((rd s1.2 (IntKind.i64.wrap ((s1.2.length : Int) - 1))).Many)] rfl, ob_inb (fun _ => hN_30), hA_32, trivial⟩ (fun ns_34 a w_35 hI => ?_)
     obtain ⟨hE', hmv, hmr⟩ := Ep.rebase hE hI
     replace hr0 := Arr.keep hr0 (hmv _)
     replace hq_7 := Row.keep hq_7 (hmv _) (fun b hb => hmr b (by simp [hb]))
     replace hE := hE'
     replace hI := hI.rebase
     clear hE' hmv hmr
     refine storeSeg_ (S0 := S) (d := kd_Portholeref30_Run) (e := 30) (l := s1.2) (A := A_8) (i := (IntKind.i64.wrap ((s1.2.length : Int) - 1))) (off := 1) hF hE hI (wanted_none rfl) rfl rfl (ad := (((adr A_8).add (((IntKind.i64.wrap ((s1.2.length : Int) - 1)) : Int).toNat * 2)).add 1)) rfl (add_add _ _ _) rfl (vs := [.int .i64 (IntKind.i64.wrap (((rd s1.2 (IntKind.i64.wrap ((s1.2.length : Int) - 1))).Many) + 1))]) rfl rfl rfl rfl (by simp) hN_30 hq_7 (⟨(rd s1.2 (IntKind.i64.wrap ((s1.2.length : Int) - 1))).Act, (IntKind.i64.wrap (((rd s1.2 (IntKind.i64.wrap ((s1.2.length : Int) - 1))).Many) + 1))⟩ : Portholeref30_Run) (fun sv => sv) (fun _ => rfl) (fun sv h => h) (fun a w_36 hput hE' hI' hmv hmr hq_7 => ?_)
     replace hr0 := Arr.keep hr0 (hmv _)
     replace hE := hE'
     replace hI := hI'
     clear hE' hI' hmv hmr
     have hln_37 : (s1.2.set ((IntKind.i64.wrap ((s1.2.length : Int) - 1)) : Int).toNat (⟨(rd s1.2 (IntKind.i64.wrap ((s1.2.length : Int) - 1))).Act, (IntKind.i64.wrap (((rd s1.2 (IntKind.i64.wrap ((s1.2.length : Int) - 1))).Many) + 1))⟩ : Portholeref30_Run)).length = s1.2.length := List.length_set
     refine ck0_ hF 0 hI (s_ [e_ 4 (.int .i64 s1.1), e_ 3 (.slice A_8 s1.2.length c_9), e_ 2 (.slice none 0 0), e_ 0 (.slice A0 l0.length c0)] []) rfl (by kernel_rfl) (fun ns_39 a w_40 hI => ?_)
     refine wpListIn_nil ?_
     refine inBlock_normal ?_
     refine then_normal ?_
     refine rgn0_ hF hI [4, 3, 2, 0] [e_ 4 (.int .i64 (IntKind.i64.wrap (s1.1 + 1)))] [] (by kernel_rfl) (fun ns_41 a w_42 hI => ?_)
     refine then_normal ?_
     replace hI := Inv.len (σf := fun q_ => (s_ [e_ 4 (.int .i64 (IntKind.i64.wrap (s1.1 + 1))), e_ 3 (.slice A_8 q_ c_9), e_ 2 (.slice none 0 0), e_ 0 (.slice A0 l0.length c0)] [])) hln_37 hI
     obtain ⟨hE', hmv, hmr⟩ := Ep.rebase hE hI
     replace hr0 := Arr.keep hr0 (hmv _)
     replace hq_7 := Row.keep hq_7 (hmv _) (fun b hb => hmr b (by simp [hb]))
     replace hE := hE'
     replace hI := hI.rebase
     clear hE' hmv hmr
     obtain rfl := Option.some.inj H1
     exact ⟨_, rfl, ⟨_, _, _, _, hr0, hq_7, hE, hI.pick [4, 3, 2, 0] 0 (s_ [e_ 4 (.int .i64 (IntKind.i64.wrap (s1.1 + 1))), e_ 3 (.slice A_8 (s1.2.set ((IntKind.i64.wrap ((s1.2.length : Int) - 1)) : Int).toNat (⟨(rd s1.2 (IntKind.i64.wrap ((s1.2.length : Int) - 1))).Act, (IntKind.i64.wrap (((rd s1.2 (IntKind.i64.wrap ((s1.2.length : Int) - 1))).Many) + 1))⟩ : Portholeref30_Run)).length c_9), e_ 2 (.slice none 0 0), e_ 0 (.slice A0 l0.length c0)] []) (by kernel_rfl)⟩⟩
    ·replace H1 := bif_f hc_25 H1
     refine wpIn_region_lit ?_
     obtain ⟨hN_43, H1⟩ := req_some H1
     obtain ⟨sv_44, hE_46, hA_45⟩ := Arr.elB (d := (Kd.int .i64)) hr0 s1.1 true (fun _ => hN_43)
     replace hE_46 := hE_46 rfl
     replace hA_45 := fun (_ : true = true) => hA_45 rfl
     refine ck_ (orc := [[.int .i64 (rd l0 s1.1)]]) hF 6 hI (s_ [e_ 40 (.agg #[.int .i64 (rd l0 s1.1), .int .i64 1]), e_ 35 (.slice A_8 s1.2.length c_9), e_ 4 (.int .i64 s1.1), e_ 3 (.slice A_8 s1.2.length c_9), e_ 2 (.slice none 0 0), e_ 0 (.slice A0 l0.length c0)] []) [.need true ((0 : Int) ≤ s1.1 ∧ s1.1 < (l0.length : Int)), .need true (A0 = some (adr A0)), .cell true ((adr A0).add ((s1.1 : Int).toNat * 1)) [.int .i64 (rd l0 s1.1)]] rfl (by kernel_rfl) ⟨ob_inb (fun _ => hN_43), hA_45, ob_el (fun _ => hE_46) 0 [.int .i64 (rd l0 s1.1)] rfl, trivial⟩ (fun ns_47 a w_48 hI => ?_)
     obtain ⟨hE', hmv, hmr⟩ := Ep.rebase hE hI
     replace hr0 := Arr.keep hr0 (hmv _)
     replace hq_7 := Row.keep hq_7 (hmv _) (fun b hb => hmr b (by simp [hb]))
     replace hE_46 := El.keep hE_46 (hmv _)
     replace hE := hE'
     replace hI := hI.rebase
     clear hE' hmv hmr
     refine buildSlice_ (S0 := S) (d := kd_Portholeref30_Run) (e := 30) hF hE hI (wanted_none rfl) rfl (by kernel_rfl) (cs := [.int .i64 (rd l0 s1.1), .int .i64 1]) (by kernel_rfl) [(⟨(rd l0 s1.1), 1⟩ : Portholeref30_Run)] [(svL [])] rfl rfl (by simp [maxLen]) (fun i x hi => by cases i with | zero => (simp only [List.getElem?_cons_zero, Option.some.injEq] at hi; subst hi; exact ⟨trivial, rfl⟩) | succ i => (simp only [List.getElem?_cons_succ] at hi; simp at hi)) (fun A_49 => (s_ [e_ 41 (.slice A_49 ([(⟨(rd l0 s1.1), 1⟩ : Portholeref30_Run)] : List Portholeref30_Run).length (([(⟨(rd l0 s1.1), 1⟩ : Portholeref30_Run)] : List Portholeref30_Run).length)), e_ 40 (.agg #[.int .i64 (rd l0 s1.1), .int .i64 1]), e_ 35 (.slice A_8 s1.2.length c_9), e_ 4 (.int .i64 s1.1), e_ 3 (.slice A_8 s1.2.length c_9), e_ 2 (.slice none 0 0), e_ 0 (.slice A0 l0.length c0)] [])) (fun A_49 => by kernel_rfl) (fun A_49 a w_51 hput hE' hI' hmv hmr hq_50 => ?_)
     replace hr0 := Arr.keep hr0 (hmv _)
     replace hq_7 := Row.keep hq_7 (hmv _) (fun b hb => hmr b (by simp [hb]) (by simp))
     replace hE_46 := El.keep hE_46 (hmv _)
     replace hE := hE'
     replace hI := hI'
     clear hE' hI' hmv hmr
     obtain ⟨hE', hmv, hq_50, hcap_52⟩ := Row.still (l1 := [rb A_8]) (l2 := []) hq_50 (Nat.le_refl _) hE
     have hmr : ∀ b ∈ ([rb A_8, rb A_49] : List (List Nat)).flatten, w_51.heap[b]? = w_51.heap[b]? := fun _ _ => rfl
     replace hr0 := Arr.keep hr0 (hmv _)
     replace hq_7 := Row.keep hq_7 (hmv _) (fun b hb => hmr b (by simp [hb]))
     replace hE_46 := El.keep hE_46 (hmv _)
     replace hE := hE'
     clear hE' hmv hmr
     obtain ⟨hN_53, H1⟩ := req_some H1
     replace hN_53 := of_decide_eq_true hN_53
     refine append_ (S0 := S) (l1 := []) (l2 := []) (d := kd_Portholeref30_Run) (e := 30) hF hE hI (wanted_none rfl) rfl (A := A_8) (c := c_9) (l := s1.2) rfl (A2 := A_49) (c2 := (([(⟨(rd l0 s1.1), 1⟩ : Portholeref30_Run)] : List Portholeref30_Run).length)) rfl hq_7 hq_50 (fun sv u hu => by exact kd_one_Portholeref30_Run _ sv u hu) Tryd.underlying24 (zi := (.agg #[.int .i64 0, .int .i64 0], 2, 16)) (by kernel_rfl) rfl (by kernel_rfl) (len_max (by decide) hN_53) hN_53 (fun A_54 c_55 => (s_ [e_ 42 (.slice A_54 (s1.2 ++ [(⟨(rd l0 s1.1), 1⟩ : Portholeref30_Run)]).length c_55), e_ 41 (.slice A_49 ([(⟨(rd l0 s1.1), 1⟩ : Portholeref30_Run)] : List Portholeref30_Run).length (([(⟨(rd l0 s1.1), 1⟩ : Portholeref30_Run)] : List Portholeref30_Run).length)), e_ 40 (.agg #[.int .i64 (rd l0 s1.1), .int .i64 1]), e_ 35 (.slice A_8 s1.2.length c_9), e_ 4 (.int .i64 s1.1), e_ 3 (.slice A_8 s1.2.length c_9), e_ 2 (.slice none 0 0), e_ 0 (.slice A0 l0.length c0)] [])) (fun A_54 c_55 => by kernel_rfl) (fun A_54 c_55 a w_56 hput hE' hI' hmv hmr hq_7 => ?_)
     replace hr0 := Arr.keep hr0 (hmv _)
     replace hE_46 := El.keep hE_46 (hmv _)
     replace hq_50 := Arr.keep hq_50 (hmv _)
     replace hE := hE'
     replace hI := hI'
     clear hE' hI' hmv hmr
     refine ckn0_ hF 1 hI [3, 4, 2, 0] [e_ 3 (.slice A_54 (s1.2 ++ [(⟨(rd l0 s1.1), 1⟩ : Portholeref30_Run)]).length c_55)] [] rfl (by kernel_rfl) (fun ns_57 a w_58 hI => ?_)
     refine wpListIn_nil ?_
     refine inBlock_normal ?_
     refine then_normal ?_
     refine rgn0_ hF hI [4, 3, 2, 0] [e_ 4 (.int .i64 (IntKind.i64.wrap (s1.1 + 1)))] [] (by kernel_rfl) (fun ns_59 a w_60 hI => ?_)
     refine then_normal ?_
     obtain ⟨hE', hmv, hmr⟩ := Ep.rebase hE hI
     replace hr0 := Arr.keep hr0 (hmv _)
     replace hE_46 := El.keep hE_46 (hmv _)
     replace hq_50 := Arr.keep hq_50 (hmv _)
     replace hq_7 := Row.keep hq_7 (hmv _) (fun b hb => hmr b (by simp [hb]))
     replace hE := hE'
     replace hI := hI.rebase
     clear hE' hmv hmr
     obtain rfl := Option.some.inj H1
     exact ⟨_, rfl, ⟨_, _, _, _, hr0, hq_7, hE, hI.pick [4, 3, 2, 0] 0 (s_ [e_ 4 (.int .i64 (IntKind.i64.wrap (s1.1 + 1))), e_ 3 (.slice A_54 (s1.2 ++ [(⟨(rd l0 s1.1), 1⟩ : Portholeref30_Run)]).length c_55), e_ 2 (.slice none 0 0), e_ 0 (.slice A0 l0.length c0)] []) (by kernel_rfl)⟩⟩
   ·replace H1 := bif_f hc_15 H1
    refine wpIn_exit ?_
    refine then_exit ?_
    refine then_exit ?_
    obtain ⟨hE', hmv, hmr⟩ := Ep.rebase hE hI
    replace hr0 := Arr.keep hr0 (hmv _)
    replace hq_7 := Row.keep hq_7 (hmv _) (fun b hb => hmr b (by simp [hb]))
    replace hE := hE'
    replace hI := hI.rebase
    clear hE' hmv hmr
    obtain rfl := Option.some.inj H1
    exact .inl ⟨_, rfl, rfl, ⟨_, _, _, _, hr0, hq_7, hE, hI.pick [4, 3, 2, 0] 0 (s_ [e_ 4 (.int .i64 s1.1), e_ 3 (.slice A_8 s1.2.length c_9), e_ 2 (.slice none 0 0), e_ 0 (.slice A0 l0.length c0)] []) (by kernel_rfl)⟩⟩
  ·clear hI hE
   rintro s1 a w_63 ho ⟨ow_65, ns_64, A_8, c_9, hr0, hq_7, hE, hI⟩
   subst ho
   replace H0 : (some s1.2 : Option ((List Portholeref30_Run))) = _ := H0
   refine then_normal ?_
   refine sr0_ hF hI (s_ [e_ 2 (.slice A_8 s1.2.length c_9)] []) (by kernel_rfl) (fun ns_66 a w_67 hI => ?_)
   obtain ⟨hE', hmv, hmr⟩ := Ep.rebase hE hI
   replace hr0 := Arr.keep hr0 (hmv _)
   replace hq_7 := Row.keep hq_7 (hmv _) (fun b hb => hmr b (by simp [hb]))
   replace hE := hE'
   replace hI := hI.rebase
   clear hE' hmv hmr
   obtain ⟨hE', hmv, hq_7, hcap_68⟩ := Row.still (l1 := []) (l2 := []) hq_7 (Nat.le_refl _) hE
   have hmr : ∀ b ∈ ([rb A_8] : List (List Nat)).flatten, w_67.heap[b]? = w_67.heap[b]? := fun _ _ => rfl
   replace hr0 := Arr.keep hr0 (hmv _)
   replace hE := hE'
   clear hE' hmv hmr
   refine wpIn_ret ?_
   obtain rfl := Option.some.inj H0
   exact ret1 hI rfl rfl ⟨svL [(A_8, c_9)], rfl, hE.below hI, ⟨Arr.keep hq_7 (hE.out hI), hcap_68⟩⟩

noncomputable def G_ref30_digits.step (self_ : Int → Option (ByteArray)) (a0 : Int) : Option (ByteArray) := (bif decide (a0 < 10) then some (bytesOf ([(IntKind.u8.wrap (IntKind.i64.wrap (48 + a0)))] : List Int)) else ((self_ (IntKind.i64.wrap (Int.tdiv a0 10))).bind fun t_13 => (req (decide (t_13.size + (bytesOf ([(IntKind.u8.wrap (IntKind.i64.wrap (48 + (Int.tmod a0 10))))] : List Int)).size ≤ 140737488355328)) (some (t_13 ++ (bytesOf ([(IntKind.u8.wrap (IntKind.i64.wrap (48 + (Int.tmod a0 10))))] : List Int)))))))
noncomputable def G_ref30_digits.n : Nat → Int → Option (ByteArray)
  | 0 => fun _ => none
  | n + 1 => G_ref30_digits.step (G_ref30_digits.n n)
noncomputable def G_ref30_digits (a0 : Int) : Option (ByteArray) := recω fun n => G_ref30_digits.n n a0
theorem G_ref30_digits.callsN : ∀ (n : Nat) (a0 : Int)  (w : World) {S : Nat → Prop}  (r : ByteArray) (h : G_ref30_digits.n n a0 = some r),
    Calls Tryd.prog 20 #[.int .i64 a0] w fun e w' => e = .returned (.string r) ∧ Below w.heap.size w w' := by
  intro n
  induction n with
  | zero => intro a0 w S r h; cases h
  | succ n ih =>
    intro a0 w S r h
    unfold G_ref30_digits.n at h
    unfold G_ref30_digits.step at h
    have H0 := h
    clear h
    refine enter Tryd.func20 rfl [.int .i64 a0] (n := 20) rfl (Nat.le_of_ble_eq_true rfl) (fun a hI => ?_)
    have hF : FOpen Fence.wide := .inl rfl
    have hE := Ep.start w
    refine sr0_ hF hI (s_ [e_ 2 (.string (⟨#[]⟩ : ByteArray)), e_ 0 (.int .i64 a0)] []) (by kernel_rfl) (fun ns_1 a w_2 hI => ?_)
    refine wpIn_seq ?_
    refine srn0_ hF hI [4, 2, 0] [e_ 4 (.bool (decide (a0 < 10)))] [] (by kernel_rfl) (fun ns_3 a w_4 hI => ?_)
    refine cond_ hI (decide (a0 < 10)) rfl (fun hc_5 => ?_) (fun hc_5 => ?_)
    ·replace H0 := bif_t hc_5 H0
     refine wpIn_seq ?_
     refine wpIn_region_lit ?_
     refine ckn0_ hF 3 hI [7, 2] [e_ 7 (.int .u8 (IntKind.u8.wrap (IntKind.i64.wrap (48 + a0))))] [] rfl (by kernel_rfl) (fun ns_6 a w_7 hI => ?_)
     obtain ⟨hE', hmv, hmr⟩ := Ep.rebase hE hI
     replace hE := hE'
     replace hI := hI.rebase
     clear hE' hmv hmr
     refine buildSlice_ (S0 := S) (d := (Kd.int .u8)) (e := 5) hF hE hI (wanted_none rfl) rfl (by kernel_rfl) (cs := [.int .u8 (IntKind.u8.wrap (IntKind.i64.wrap (48 + a0)))]) (by kernel_rfl) [(IntKind.u8.wrap (IntKind.i64.wrap (48 + a0)))] [(svL [])] rfl rfl (by simp [maxLen]) (fun i x hi => by cases i with | zero => (simp only [List.getElem?_cons_zero, Option.some.injEq] at hi; subst hi; exact ⟨trivial, rfl⟩) | succ i => (simp only [List.getElem?_cons_succ] at hi; simp at hi)) (fun A_8 => (s_ [e_ 8 (.slice A_8 ([(IntKind.u8.wrap (IntKind.i64.wrap (48 + a0)))] : List Int).length (([(IntKind.u8.wrap (IntKind.i64.wrap (48 + a0)))] : List Int).length)), e_ 7 (.int .u8 (IntKind.u8.wrap (IntKind.i64.wrap (48 + a0)))), e_ 2 (.string (⟨#[]⟩ : ByteArray))] [])) (fun A_8 => by kernel_rfl) (fun A_8 a w_10 hput hE' hI' hmv hmr hq_9 => ?_)
     replace hE := hE'
     replace hI := hI'
     clear hE' hI' hmv hmr
     refine strof_ hF hI (wanted_none rfl) rfl Tryd.underlying43 Tryd.underlying5 Tryd.underlying9 (l := ([(IntKind.u8.wrap (IntKind.i64.wrap (48 + a0)))] : List Int)) rfl (Row.arr (S' := fun _ => True) hq_9 (fun _ _ => trivial) (fun _ _ => trivial)).1 rfl (s_ [e_ 9 (.string (bytesOf ([(IntKind.u8.wrap (IntKind.i64.wrap (48 + a0)))] : List Int))), e_ 8 (.slice A_8 ([(IntKind.u8.wrap (IntKind.i64.wrap (48 + a0)))] : List Int).length (([(IntKind.u8.wrap (IntKind.i64.wrap (48 + a0)))] : List Int).length)), e_ 7 (.int .u8 (IntKind.u8.wrap (IntKind.i64.wrap (48 + a0)))), e_ 2 (.string (⟨#[]⟩ : ByteArray))] []) (by kernel_rfl) (fun a hput hI => ?_)
     refine ckn0_ hF 1 hI [2] [e_ 2 (.string (bytesOf ([(IntKind.u8.wrap (IntKind.i64.wrap (48 + a0)))] : List Int)))] [] rfl (by kernel_rfl) (fun ns_11 a w_12 hI => ?_)
     refine wpListIn_nil ?_
     refine then_normal ?_
     refine wpIn_ret ?_
     refine then_ret ?_
     obtain rfl := Option.some.inj H0
     exact ret1 hI rfl rfl ⟨rfl, hE.below hI⟩
    ·replace H0 := bif_f hc_5 H0
     refine wpIn_skip ?_
     refine then_normal ?_
     refine wpIn_seq ?_
     replace hI := hI.fin (live := [4, 0]) (σ2 := (s_ [e_ 4 (.bool (decide (a0 < 10))), e_ 0 (.int .i64 a0)] [])) (by kernel_rfl)
     obtain ⟨t_13, hG_14, H0⟩ := bind_some H0
     refine drawnS_ hI (by kernel_rfl) [.q 10 (.v (.int .i64 a0)) [], .q 11 (.v (.int .i64 (IntKind.i64.wrap (Int.tdiv a0 10)))) [.need true (¬ (10 : Int) = 0)], .q 12 (.v (.string t_13)) [.call true 20 [.int .i64 (IntKind.i64.wrap (Int.tdiv a0 10))] (.string t_13)], .q 13 (.v (.int .i64 a0)) [], .q 14 (.v (.int .i64 (Int.tmod a0 10))) [.need true (¬ (10 : Int) = 0)], .q 15 (.v (.int .i64 (IntKind.i64.wrap (48 + (Int.tmod a0 10))))) [], .q 16 (.v (.int .u8 (IntKind.u8.wrap (IntKind.i64.wrap (48 + (Int.tmod a0 10)))))) [], .no, .no, .no, .no] (by kernel_rfl) (fun fuel listed w_15 hJ hsz hu => ?_)
     refine stage_ hJ hF hsz hu [.q [] [], .q [0] [], .q [1] [[.string t_13]], .q [] [], .q [3] [], .q [4] [], .q [5] [], .no, .no, .no, .no] (by kernel_rfl) (by kernel_rfl) (by kernel_rfl) (by kernel_rfl) 7 rfl (by kernel_rfl) (by kernel_rfl) [6] rfl (by kernel_rfl) (by kernel_rfl) ⟨(fun _ => by decide), ob_call (enters Tryd.func20 (by kernel_rfl) rfl) (fun hg wz hk => ih (IntKind.i64.wrap (Int.tdiv a0 10))  wz (S := fun _ => True)  _ hG_14), (fun _ => by decide), trivial⟩ [6] (by kernel_rfl) [.q 10 (.v (.int .i64 a0)) [], .q 11 (.v (.int .i64 (IntKind.i64.wrap (Int.tdiv a0 10)))) [.need true (¬ (10 : Int) = 0)], .q 12 (.v (.string t_13)) [.call true 20 [.int .i64 (IntKind.i64.wrap (Int.tdiv a0 10))] (.string t_13)], .q 13 (.v (.int .i64 a0)) [], .q 14 (.v (.int .i64 (Int.tmod a0 10))) [.need true (¬ (10 : Int) = 0)], .q 15 (.v (.int .i64 (IntKind.i64.wrap (48 + (Int.tmod a0 10))))) [], .t (some 16) (some (.v (.int .u8 (IntKind.u8.wrap (IntKind.i64.wrap (48 + (Int.tmod a0 10))))))), .no, .no, .no, .no] (by kernel_rfl) (fun fuel listed a w_16 hJ hI hW h1 hnl hsz hu => ?_)
     obtain ⟨hE', hmv, hmr⟩ := Ep.rebase hE hI
     replace hE := hE'
     replace hI := hI.rebase
     clear hE' hmv hmr
     refine buildSlice_ (S0 := S) (d := (Kd.int .u8)) (e := 5) hF hE hI hW rfl (by kernel_rfl) (cs := [.int .u8 (IntKind.u8.wrap (IntKind.i64.wrap (48 + (Int.tmod a0 10))))]) (by kernel_rfl) [(IntKind.u8.wrap (IntKind.i64.wrap (48 + (Int.tmod a0 10))))] [(svL [])] rfl rfl (by simp [maxLen]) (fun i x hi => by cases i with | zero => (simp only [List.getElem?_cons_zero, Option.some.injEq] at hi; subst hi; exact ⟨trivial, rfl⟩) | succ i => (simp only [List.getElem?_cons_succ] at hi; simp at hi)) (fun A_17 => (s_ [e_ 17 (.slice A_17 ([(IntKind.u8.wrap (IntKind.i64.wrap (48 + (Int.tmod a0 10))))] : List Int).length (([(IntKind.u8.wrap (IntKind.i64.wrap (48 + (Int.tmod a0 10))))] : List Int).length)), e_ 16 (.int .u8 (IntKind.u8.wrap (IntKind.i64.wrap (48 + (Int.tmod a0 10))))), e_ 4 (.bool (decide (a0 < 10))), e_ 0 (.int .i64 a0)] [])) (fun A_17 => by kernel_rfl) (fun A_17 a w_19 hput hE' hI' hmv hmr hq_18 => ?_)
     replace hE := hE'
     replace hI := hI'
     clear hE' hI' hmv hmr
     refine next_ hJ h1 hnl hsz hu (by kernel_rfl) (by kernel_rfl) hput hI (live := [4, 0]) (s_ [e_ 4 (.bool (decide (a0 < 10))), e_ 0 (.int .i64 a0)] []) (by kernel_rfl) (some (.v (.slice A_17 ([(IntKind.u8.wrap (IntKind.i64.wrap (48 + (Int.tmod a0 10))))] : List Int).length (([(IntKind.u8.wrap (IntKind.i64.wrap (48 + (Int.tmod a0 10))))] : List Int).length)))) (by kernel_rfl) [] [.q 10 (.v (.int .i64 a0)) [], .q 11 (.v (.int .i64 (IntKind.i64.wrap (Int.tdiv a0 10)))) [.need true (¬ (10 : Int) = 0)], .q 12 (.v (.string t_13)) [.call true 20 [.int .i64 (IntKind.i64.wrap (Int.tdiv a0 10))] (.string t_13)], .q 13 (.v (.int .i64 a0)) [], .q 14 (.v (.int .i64 (Int.tmod a0 10))) [.need true (¬ (10 : Int) = 0)], .q 15 (.v (.int .i64 (IntKind.i64.wrap (48 + (Int.tmod a0 10))))) [], .t (some 16) (some (.v (.int .u8 (IntKind.u8.wrap (IntKind.i64.wrap (48 + (Int.tmod a0 10))))))), .t (some 17) (some (.v (.slice A_17 ([(IntKind.u8.wrap (IntKind.i64.wrap (48 + (Int.tmod a0 10))))] : List Int).length (([(IntKind.u8.wrap (IntKind.i64.wrap (48 + (Int.tmod a0 10))))] : List Int).length)))), .no, .no, .no] (by kernel_rfl) (by kernel_rfl) (by kernel_rfl) True.intro (AL.none (by kernel_rfl)) (fun hJ hsz hu => ?_)
     refine stage_ hJ hF hsz hu [.q [] [], .q [0] [], .q [1] [[.string t_13]], .q [] [], .q [3] [], .q [4] [], .t (some (.v (.int .u8 (IntKind.u8.wrap (IntKind.i64.wrap (48 + (Int.tmod a0 10))))))), .t (some (.v (.slice A_17 ([(IntKind.u8.wrap (IntKind.i64.wrap (48 + (Int.tmod a0 10))))] : List Int).length (([(IntKind.u8.wrap (IntKind.i64.wrap (48 + (Int.tmod a0 10))))] : List Int).length)))), .no, .no, .no] (by kernel_rfl) (by kernel_rfl) (by kernel_rfl) (by kernel_rfl) 8 rfl (by kernel_rfl) (by kernel_rfl) [7] rfl (by kernel_rfl) (by kernel_rfl) ⟨(fun _ => by decide), ob_call (enters Tryd.func20 (by kernel_rfl) rfl) (fun hg wz hk => ih (IntKind.i64.wrap (Int.tdiv a0 10))  wz (S := fun _ => True)  _ hG_14), (fun _ => by decide), trivial⟩ [] (by kernel_rfl) [.q 10 (.v (.int .i64 a0)) [], .q 11 (.v (.int .i64 (IntKind.i64.wrap (Int.tdiv a0 10)))) [.need true (¬ (10 : Int) = 0)], .q 12 (.v (.string t_13)) [.call true 20 [.int .i64 (IntKind.i64.wrap (Int.tdiv a0 10))] (.string t_13)], .q 13 (.v (.int .i64 a0)) [], .q 14 (.v (.int .i64 (Int.tmod a0 10))) [.need true (¬ (10 : Int) = 0)], .q 15 (.v (.int .i64 (IntKind.i64.wrap (48 + (Int.tmod a0 10))))) [], .t (some 16) (some (.v (.int .u8 (IntKind.u8.wrap (IntKind.i64.wrap (48 + (Int.tmod a0 10))))))), .t (some 17) (some (.v (.slice A_17 ([(IntKind.u8.wrap (IntKind.i64.wrap (48 + (Int.tmod a0 10))))] : List Int).length (([(IntKind.u8.wrap (IntKind.i64.wrap (48 + (Int.tmod a0 10))))] : List Int).length)))), .no, .no, .no] (by kernel_rfl) (fun fuel listed a w_20 hJ hI hW h1 hnl hsz hu => ?_)
     obtain ⟨hE', hmv, hmr⟩ := Ep.rebase hE hI
     replace hq_18 := Row.keep hq_18 (hmv _) (fun b hb => hmr b (by simp [hb]))
     replace hE := hE'
     replace hI := hI.rebase
     clear hE' hmv hmr
     refine strof_ hF hI hW rfl Tryd.underlying43 Tryd.underlying5 Tryd.underlying9 (l := ([(IntKind.u8.wrap (IntKind.i64.wrap (48 + (Int.tmod a0 10))))] : List Int)) rfl (Row.arr (S' := fun _ => True) hq_18 (fun _ _ => trivial) (fun _ _ => trivial)).1 rfl (s_ [e_ 18 (.string (bytesOf ([(IntKind.u8.wrap (IntKind.i64.wrap (48 + (Int.tmod a0 10))))] : List Int))), e_ 17 (.slice A_17 ([(IntKind.u8.wrap (IntKind.i64.wrap (48 + (Int.tmod a0 10))))] : List Int).length (([(IntKind.u8.wrap (IntKind.i64.wrap (48 + (Int.tmod a0 10))))] : List Int).length)), e_ 4 (.bool (decide (a0 < 10))), e_ 0 (.int .i64 a0)] []) (by kernel_rfl) (fun a hput hI => ?_)
     refine next_ hJ h1 hnl hsz hu (by kernel_rfl) (by kernel_rfl) hput hI (live := [4, 0]) (s_ [e_ 4 (.bool (decide (a0 < 10))), e_ 0 (.int .i64 a0)] []) (by kernel_rfl) (some (.v (.string (bytesOf ([(IntKind.u8.wrap (IntKind.i64.wrap (48 + (Int.tmod a0 10))))] : List Int))))) (by kernel_rfl) [] [.q 10 (.v (.int .i64 a0)) [], .q 11 (.v (.int .i64 (IntKind.i64.wrap (Int.tdiv a0 10)))) [.need true (¬ (10 : Int) = 0)], .q 12 (.v (.string t_13)) [.call true 20 [.int .i64 (IntKind.i64.wrap (Int.tdiv a0 10))] (.string t_13)], .q 13 (.v (.int .i64 a0)) [], .q 14 (.v (.int .i64 (Int.tmod a0 10))) [.need true (¬ (10 : Int) = 0)], .q 15 (.v (.int .i64 (IntKind.i64.wrap (48 + (Int.tmod a0 10))))) [], .t (some 16) (some (.v (.int .u8 (IntKind.u8.wrap (IntKind.i64.wrap (48 + (Int.tmod a0 10))))))), .t (some 17) (some (.v (.slice A_17 ([(IntKind.u8.wrap (IntKind.i64.wrap (48 + (Int.tmod a0 10))))] : List Int).length (([(IntKind.u8.wrap (IntKind.i64.wrap (48 + (Int.tmod a0 10))))] : List Int).length)))), .t (some 18) (some (.v (.string (bytesOf ([(IntKind.u8.wrap (IntKind.i64.wrap (48 + (Int.tmod a0 10))))] : List Int))))), .no, .no] (by kernel_rfl) (by kernel_rfl) (by kernel_rfl) True.intro (AL.none (by kernel_rfl)) (fun hJ hsz hu => ?_)
     refine stage_ hJ hF hsz hu [.q [] [], .q [0] [], .q [1] [[.string t_13]], .q [] [], .q [3] [], .q [4] [], .t (some (.v (.int .u8 (IntKind.u8.wrap (IntKind.i64.wrap (48 + (Int.tmod a0 10))))))), .t (some (.v (.slice A_17 ([(IntKind.u8.wrap (IntKind.i64.wrap (48 + (Int.tmod a0 10))))] : List Int).length (([(IntKind.u8.wrap (IntKind.i64.wrap (48 + (Int.tmod a0 10))))] : List Int).length)))), .t (some (.v (.string (bytesOf ([(IntKind.u8.wrap (IntKind.i64.wrap (48 + (Int.tmod a0 10))))] : List Int))))), .no, .no] (by kernel_rfl) (by kernel_rfl) (by kernel_rfl) (by kernel_rfl) 9 rfl (by kernel_rfl) (by kernel_rfl) [2, 8] rfl (by kernel_rfl) (by kernel_rfl) ⟨(fun _ => by decide), ob_call (enters Tryd.func20 (by kernel_rfl) rfl) (fun hg wz hk => ih (IntKind.i64.wrap (Int.tdiv a0 10))  wz (S := fun _ => True)  _ hG_14), (fun _ => by decide), trivial⟩ [2] (by kernel_rfl) [.q 10 (.v (.int .i64 a0)) [], .q 11 (.v (.int .i64 (IntKind.i64.wrap (Int.tdiv a0 10)))) [.need true (¬ (10 : Int) = 0)], .t (some 12) (some (.v (.string t_13))), .q 13 (.v (.int .i64 a0)) [], .q 14 (.v (.int .i64 (Int.tmod a0 10))) [.need true (¬ (10 : Int) = 0)], .q 15 (.v (.int .i64 (IntKind.i64.wrap (48 + (Int.tmod a0 10))))) [], .t (some 16) (some (.v (.int .u8 (IntKind.u8.wrap (IntKind.i64.wrap (48 + (Int.tmod a0 10))))))), .t (some 17) (some (.v (.slice A_17 ([(IntKind.u8.wrap (IntKind.i64.wrap (48 + (Int.tmod a0 10))))] : List Int).length (([(IntKind.u8.wrap (IntKind.i64.wrap (48 + (Int.tmod a0 10))))] : List Int).length)))), .t (some 18) (some (.v (.string (bytesOf ([(IntKind.u8.wrap (IntKind.i64.wrap (48 + (Int.tmod a0 10))))] : List Int))))), .no, .no] (by kernel_rfl) (fun fuel listed a w_21 hJ hI hW h1 hnl hsz hu => ?_)
     obtain ⟨hN_22, H0⟩ := req_some H0
     refine cat_ hF hI hW rfl (s := t_13) (t := (bytesOf ([(IntKind.u8.wrap (IntKind.i64.wrap (48 + (Int.tmod a0 10))))] : List Int))) rfl rfl (of_decide_eq_true hN_22) (s_ [e_ 19 (.string (t_13 ++ (bytesOf ([(IntKind.u8.wrap (IntKind.i64.wrap (48 + (Int.tmod a0 10))))] : List Int)))), e_ 12 (.string t_13), e_ 18 (.string (bytesOf ([(IntKind.u8.wrap (IntKind.i64.wrap (48 + (Int.tmod a0 10))))] : List Int))), e_ 4 (.bool (decide (a0 < 10))), e_ 0 (.int .i64 a0)] []) (by kernel_rfl) (fun a hput hI => ?_)
     refine next_ hJ h1 hnl hsz hu (by kernel_rfl) (by kernel_rfl) hput hI (live := [4, 0]) (s_ [e_ 4 (.bool (decide (a0 < 10))), e_ 0 (.int .i64 a0)] []) (by kernel_rfl) (some (.v (.string (t_13 ++ (bytesOf ([(IntKind.u8.wrap (IntKind.i64.wrap (48 + (Int.tmod a0 10))))] : List Int)))))) (by kernel_rfl) [(10, .q 2 (.v (.string (t_13 ++ (bytesOf ([(IntKind.u8.wrap (IntKind.i64.wrap (48 + (Int.tmod a0 10))))] : List Int))))) [])] [.q 10 (.v (.int .i64 a0)) [], .q 11 (.v (.int .i64 (IntKind.i64.wrap (Int.tdiv a0 10)))) [.need true (¬ (10 : Int) = 0)], .t (some 12) (some (.v (.string t_13))), .q 13 (.v (.int .i64 a0)) [], .q 14 (.v (.int .i64 (Int.tmod a0 10))) [.need true (¬ (10 : Int) = 0)], .q 15 (.v (.int .i64 (IntKind.i64.wrap (48 + (Int.tmod a0 10))))) [], .t (some 16) (some (.v (.int .u8 (IntKind.u8.wrap (IntKind.i64.wrap (48 + (Int.tmod a0 10))))))), .t (some 17) (some (.v (.slice A_17 ([(IntKind.u8.wrap (IntKind.i64.wrap (48 + (Int.tmod a0 10))))] : List Int).length (([(IntKind.u8.wrap (IntKind.i64.wrap (48 + (Int.tmod a0 10))))] : List Int).length)))), .t (some 18) (some (.v (.string (bytesOf ([(IntKind.u8.wrap (IntKind.i64.wrap (48 + (Int.tmod a0 10))))] : List Int))))), .t (some 19) (some (.v (.string (t_13 ++ (bytesOf ([(IntKind.u8.wrap (IntKind.i64.wrap (48 + (Int.tmod a0 10))))] : List Int)))))), .q 2 (.v (.string (t_13 ++ (bytesOf ([(IntKind.u8.wrap (IntKind.i64.wrap (48 + (Int.tmod a0 10))))] : List Int))))) []] (by kernel_rfl) (by kernel_rfl) (by kernel_rfl) True.intro (AL.none (by kernel_rfl)) (fun hJ hsz hu => ?_)
     refine end_ hJ hF hsz hu [.q [] [], .q [0] [], .t (some (.v (.string t_13))), .q [] [], .q [3] [], .q [4] [], .t (some (.v (.int .u8 (IntKind.u8.wrap (IntKind.i64.wrap (48 + (Int.tmod a0 10))))))), .t (some (.v (.slice A_17 ([(IntKind.u8.wrap (IntKind.i64.wrap (48 + (Int.tmod a0 10))))] : List Int).length (([(IntKind.u8.wrap (IntKind.i64.wrap (48 + (Int.tmod a0 10))))] : List Int).length)))), .t (some (.v (.string (bytesOf ([(IntKind.u8.wrap (IntKind.i64.wrap (48 + (Int.tmod a0 10))))] : List Int))))), .t (some (.v (.string (t_13 ++ (bytesOf ([(IntKind.u8.wrap (IntKind.i64.wrap (48 + (Int.tmod a0 10))))] : List Int)))))), .q [9] []] (by kernel_rfl) (by kernel_rfl) (by kernel_rfl) (by kernel_rfl) (by kernel_rfl) (by kernel_rfl) (live := [2]) (s_ [e_ 2 (.string (t_13 ++ (bytesOf ([(IntKind.u8.wrap (IntKind.i64.wrap (48 + (Int.tmod a0 10))))] : List Int))))] []) (by kernel_rfl) ⟨(fun _ => by decide), (fun _ => by decide), trivial⟩ (fun a w_23 hI => ?_)
     refine then_normal ?_
     refine wpIn_ret ?_
     obtain rfl := Option.some.inj H0
     exact ret1 hI rfl rfl ⟨rfl, hE.below hI⟩
theorem G_ref30_digits.calls (a0 : Int)  (w : World) {S : Nat → Prop}  (r : ByteArray) (h : G_ref30_digits a0 = some r) :
    Calls Tryd.prog 20 #[.int .i64 a0] w fun e w' => e = .returned (.string r) ∧ Below w.heap.size w w' := by
  obtain ⟨n, hn⟩ := recω_some h
  exact G_ref30_digits.callsN (S := S) n a0 w r hn

noncomputable def G_ref30_Print.b1 (l0 : (List Int)) (t_10 : (List Portholeref30_Run)) (s1 : Int × ByteArray × Bool × ByteArray) : Option (Stp (Int × ByteArray × Bool × ByteArray) (Ex (Int × ByteArray × Bool × ByteArray) (ByteArray × Bool))) := (bif decide (s1.1 < (t_10.length : Int)) then (req (inb s1.1 t_10.length) (bif (((rd t_10 s1.1).Act) == 0) then (req (decide (s1.2.1.size + (⟨#[97]⟩ : ByteArray).size ≤ 140737488355328)) (req (inb s1.1 t_10.length) (bif decide (((rd t_10 s1.1).Many) > 1) then (req (inb s1.1 t_10.length) ((G_ref30_digits ((rd t_10 s1.1).Many)).bind fun t_52 => (req (decide ((s1.2.1 ++ (⟨#[97]⟩ : ByteArray)).size + t_52.size ≤ 140737488355328)) (some (.next ((IntKind.i64.wrap (s1.1 + 1)), ((s1.2.1 ++ (⟨#[97]⟩ : ByteArray)) ++ t_52), s1.2.2.1, s1.2.2.2)))))) else some (.next ((IntKind.i64.wrap (s1.1 + 1)), (s1.2.1 ++ (⟨#[97]⟩ : ByteArray)), s1.2.2.1, s1.2.2.2))))) else (bif (((rd t_10 s1.1).Act) == 1) then (req (decide (s1.2.1.size + (⟨#[98]⟩ : ByteArray).size ≤ 140737488355328)) (req (inb s1.1 t_10.length) (bif decide (((rd t_10 s1.1).Many) > 1) then (req (inb s1.1 t_10.length) ((G_ref30_digits ((rd t_10 s1.1).Many)).bind fun t_82 => (req (decide ((s1.2.1 ++ (⟨#[98]⟩ : ByteArray)).size + t_82.size ≤ 140737488355328)) (some (.next ((IntKind.i64.wrap (s1.1 + 1)), ((s1.2.1 ++ (⟨#[98]⟩ : ByteArray)) ++ t_82), s1.2.2.1, s1.2.2.2)))))) else some (.next ((IntKind.i64.wrap (s1.1 + 1)), (s1.2.1 ++ (⟨#[98]⟩ : ByteArray)), s1.2.2.1, s1.2.2.2))))) else (bif (((rd t_10 s1.1).Act) == 2) then (req (decide (s1.2.1.size + (⟨#[116]⟩ : ByteArray).size ≤ 140737488355328)) (req (inb s1.1 t_10.length) (bif decide (((rd t_10 s1.1).Many) > 1) then (req (inb s1.1 t_10.length) ((G_ref30_digits ((rd t_10 s1.1).Many)).bind fun t_112 => (req (decide ((s1.2.1 ++ (⟨#[116]⟩ : ByteArray)).size + t_112.size ≤ 140737488355328)) (some (.next ((IntKind.i64.wrap (s1.1 + 1)), ((s1.2.1 ++ (⟨#[116]⟩ : ByteArray)) ++ t_112), s1.2.2.1, s1.2.2.2)))))) else some (.next ((IntKind.i64.wrap (s1.1 + 1)), (s1.2.1 ++ (⟨#[116]⟩ : ByteArray)), s1.2.2.1, s1.2.2.2))))) else some (.out (.ret ((⟨#[]⟩ : ByteArray), false))))))) else some (.out (.brk (s1.1, s1.2.1, s1.2.2.1, s1.2.2.2))))
noncomputable def G_ref30_Print (l0 : (List Int)) : Option (ByteArray × Bool) := (bif decide ((l0.length : Int) > 4096) then some ((⟨#[]⟩ : ByteArray), false) else ((G_ref30_Runs l0).bind fun t_10 => ((loopω (G_ref30_Print.b1 l0 t_10) (0, (⟨#[]⟩ : ByteArray), false, (⟨#[]⟩ : ByteArray))).bind fun o => o.on (fun s1 => some (s1.2.1, true)) (fun r => some r))))
theorem G_ref30_Print.calls (l0 : (List Int)) (A0 : Option Addr) (c0 : Nat) (w : World) {S : Nat → Prop} (hr0 : Arr (Kd.int .i64) S w A0 l0) (hc0 : l0.length ≤ c0) (r : ByteArray × Bool) (h : G_ref30_Print l0 = some r) :
    Calls Tryd.prog 10 #[.slice A0 l0.length c0] w fun e w' => e = .returned (.tuple #[.string r.1, .bool r.2]) ∧ Below w.heap.size w w' := by
  replace hr0 := Arr.lo hr0
  unfold G_ref30_Print at h
  have H0 := h
  clear h
  refine enter Tryd.func10 rfl [.slice A0 l0.length c0] (n := 50) rfl (Nat.le_of_ble_eq_true rfl) (fun a hI => ?_)
  have hF : FOpen Fence.wide := .inl rfl
  have hE := Ep.start w
  refine sr0_ hF hI (s_ [e_ 3 (.bool false), e_ 2 (.string (⟨#[]⟩ : ByteArray)), e_ 0 (.slice A0 l0.length c0)] []) (by kernel_rfl) (fun ns_1 a w_2 hI => ?_)
  refine wpIn_seq ?_
  refine srn0_ hF hI [9, 3, 2, 0] [e_ 9 (.bool (decide ((l0.length : Int) > 4096)))] [] (by kernel_rfl) (fun ns_3 a w_4 hI => ?_)
  refine cond_ hI (decide ((l0.length : Int) > 4096)) rfl (fun hc_5 => ?_) (fun hc_5 => ?_)
  ·replace H0 := bif_t hc_5 H0
   refine srn0_ hF hI [3, 2] [] [] (by kernel_rfl) (fun ns_6 a w_7 hI => ?_)
   refine wpIn_ret ?_
   refine then_ret ?_
   obtain rfl := Option.some.inj H0
   exact ret2 hI rfl rfl rfl ⟨rfl, hE.below hI⟩
  ·replace H0 := bif_f hc_5 H0
   refine wpIn_skip ?_
   refine then_normal ?_
   refine wpIn_seq ?_
   refine wpIn_region_lit ?_
   refine ckn0_ hF 1 hI [10, 3, 2] [e_ 10 (.slice A0 l0.length c0)] [] rfl (by kernel_rfl) (fun ns_8 a w_9 hI => ?_)
   obtain ⟨hE', hmv, hmr⟩ := Ep.rebase hE hI
   replace hr0 := Arr.keep hr0 (hmv _)
   replace hE := hE'
   replace hI := hI.rebase
   clear hE' hmv hmr
   obtain ⟨t_10, hG_11, H0⟩ := bind_some H0
   refine callH_ hF hE hI (wanted_none rfl) rfl (args := [.slice A0 l0.length c0]) rfl (enters Tryd.func7 (by kernel_rfl) rfl) (fun sv_12 => .slice ((sv_12 0).1) t_10.length ((sv_12 0).2)) _ (G_ref30_Runs.calls l0 A0 c0 w_9 (S := Lo S w w_9 ns_8 []) hr0 hc0 _ hG_11) (fun sv_12 => (s_ [e_ 11 (.slice ((sv_12 0).1) t_10.length ((sv_12 0).2)), e_ 10 (.slice A0 l0.length c0), e_ 3 (.bool false), e_ 2 (.string (⟨#[]⟩ : ByteArray))] [])) (fun sv_12 => by kernel_rfl) (fun sv_12 a w_14 hput hE' hI' hmv hmr hres hR => ?_)
   replace hr0 := Arr.keep hr0 (hmv _)
   replace hE := hE'
   replace hI := hI'
   clear hE' hI' hmv hmr
   obtain ⟨hR_13, hR_13c⟩ := hR
   replace hR_13 := Arr.keep hR_13 (hres _)
   clear hres
   refine ckn0_ hF 1 hI [4, 3, 2] [e_ 4 (.slice ((sv_12 0).1) t_10.length ((sv_12 0).2))] [] rfl (by kernel_rfl) (fun ns_15 a w_16 hI => ?_)
   refine wpListIn_nil ?_
   refine then_normal ?_
   refine srn0_ hF hI [5, 4, 3, 2] [e_ 5 (.string (⟨#[]⟩ : ByteArray))] [] (by kernel_rfl) (fun ns_17 a w_18 hI => ?_)
   refine wpIn_seq ?_
   refine srn0_ hF hI [6, 5, 4, 3, 2] [e_ 6 (.int .i64 0)] [] (by kernel_rfl) (fun ns_19 a w_20 hI => ?_)
   obtain ⟨hE', hmv, hmr⟩ := Ep.rebase hE hI
   replace hr0 := Arr.keep hr0 (hmv _)
   replace hR_13 := Arr.keep hR_13 (hmv _)
   replace hE := hE'
   replace hI := hI.rebase
   clear hE' hmv hmr
   obtain ⟨o_125, hL_126, H0⟩ := bind_some H0
   refine block_loop (fun (s1 : Int × ByteArray × Bool × ByteArray) a w_132 => ∃ (ow ns : List Nat) , (Arr (Kd.int .i64) (Lo S w w_132 ow []) w_132 A0 l0) ∧ (Arr kd_Portholeref30_Run (Lo S w w_132 ow []) w_132 (sv_12 0).1 t_10) ∧ Ep [] w w_132 ow [] ∧ St w_132 ow 50 (s_ [e_ 6 (.int .i64 s1.1), e_ 5 (.string s1.2.1), e_ 4 (.slice ((sv_12 0).1) t_10.length ((sv_12 0).2)), e_ 3 (.bool s1.2.2.1), e_ 2 (.string s1.2.2.2)] []) ns a w_132) (0, (⟨#[]⟩ : ByteArray), false, (⟨#[]⟩ : ByteArray)) hL_126 ⟨_, _, hr0, hR_13, hE, hI.pick [6, 5, 4, 3, 2] 0 (s_ [e_ 6 (.int .i64 0), e_ 5 (.string (⟨#[]⟩ : ByteArray)), e_ 4 (.slice ((sv_12 0).1) t_10.length ((sv_12 0).2)), e_ 3 (.bool false), e_ 2 (.string (⟨#[]⟩ : ByteArray))] []) (by kernel_rfl)⟩ ?_ ?_
   ·clear hI hE
    rintro s1 a w_21 ⟨ow_23, ns_22, hr0, hR_13, hE, hI⟩ r1 H1
    unfold G_ref30_Print.b1 at H1
    refine wpIn_seq ?_
    refine sr0_ hF hI (s_ [e_ 15 (.bool (decide (s1.1 < (t_10.length : Int)))), e_ 6 (.int .i64 s1.1), e_ 5 (.string s1.2.1), e_ 4 (.slice ((sv_12 0).1) t_10.length ((sv_12 0).2)), e_ 3 (.bool s1.2.2.1), e_ 2 (.string s1.2.2.2)] []) (by kernel_rfl) (fun ns_24 a w_25 hI => ?_)
    refine cond_ hI (decide (s1.1 < (t_10.length : Int))) rfl (fun hc_26 => ?_) (fun hc_26 => ?_)
    ·replace H1 := bif_t hc_26 H1
     refine wpIn_skip ?_
     refine then_normal ?_
     refine wpIn_seq ?_
     refine wpIn_block ?_
     refine wpIn_seq ?_
     obtain ⟨hN_27, H1⟩ := req_some H1
     obtain ⟨sv_28, hE_30, hA_29⟩ := Arr.elB (d := kd_Portholeref30_Run) hR_13 s1.1 true (fun _ => hN_27)
     replace hE_30 := hE_30 rfl
     replace hA_29 := fun (_ : true = true) => hA_29 rfl
     refine srn_ (orc := [[.int .i64 ((rd t_10 s1.1).Act)]]) hF hI [22, 6, 5, 4, 3, 2] [e_ 22 (.int .i64 ((rd t_10 s1.1).Act))] [] [.need true ((0 : Int) ≤ s1.1 ∧ s1.1 < (t_10.length : Int)), .need true ((sv_12 0).1 = some (adr ((sv_12 0).1))), .cell true ((adr ((sv_12 0).1)).add ((s1.1 : Int).toNat * 2)) [.int .i64 ((rd t_10 s1.1).Act)]] (by kernel_rfl) ⟨ob_inb (fun _ => hN_27), hA_29, ob_el (fun _ => hE_30) 0 [.int .i64 ((rd t_10 s1.1).Act)] rfl, trivial⟩ (fun ns_31 a w_32 hI => ?_)
     refine wpIn_block ?_
     refine srn0_ hF hI [23, 22, 6, 5, 4, 3, 2] [e_ 23 (.bool (((rd t_10 s1.1).Act) == 0))] [] (by kernel_rfl) (fun ns_33 a w_34 hI => ?_)
     refine cond_ hI ((((rd t_10 s1.1).Act) == 0)) rfl (fun hc_35 => ?_) (fun hc_35 => ?_)
     ·replace H1 := bif_t hc_35 H1
      refine wpIn_region_lit ?_
      refine ckn0_ hF 1 hI [25, 6, 5, 4, 3, 2] [e_ 25 (.string s1.2.1)] [] rfl (by kernel_rfl) (fun ns_36 a w_37 hI => ?_)
      obtain ⟨hN_38, H1⟩ := req_some H1
      refine cat_ hF hI (wanted_none rfl) rfl (s := s1.2.1) (t := (⟨#[97]⟩ : ByteArray)) rfl rfl (of_decide_eq_true hN_38) (s_ [e_ 26 (.string (s1.2.1 ++ (⟨#[97]⟩ : ByteArray))), e_ 25 (.string s1.2.1), e_ 6 (.int .i64 s1.1), e_ 5 (.string s1.2.1), e_ 4 (.slice ((sv_12 0).1) t_10.length ((sv_12 0).2)), e_ 3 (.bool s1.2.2.1), e_ 2 (.string s1.2.2.2)] []) (by kernel_rfl) (fun a hput hI => ?_)
      refine ckn0_ hF 1 hI [5, 6, 4, 3, 2] [e_ 5 (.string (s1.2.1 ++ (⟨#[97]⟩ : ByteArray)))] [] rfl (by kernel_rfl) (fun ns_39 a w_40 hI => ?_)
      refine wpListIn_nil ?_
      refine inBlock_normal ?_
      refine then_normal ?_
      obtain ⟨hN_41, H1⟩ := req_some H1
      obtain ⟨sv_42, hE_44, hA_43⟩ := Arr.elB (d := kd_Portholeref30_Run) hR_13 s1.1 true (fun _ => hN_41)
      replace hE_44 := hE_44 rfl
      replace hA_43 := fun (_ : true = true) => hA_43 rfl
      refine srn_ (orc := [[.int .i64 ((rd t_10 s1.1).Many)]]) hF hI [40, 5, 6, 4, 3, 2] [e_ 40 (.bool (decide (((rd t_10 s1.1).Many) > 1)))] [] [.need true ((0 : Int) ≤ s1.1 ∧ s1.1 < (t_10.length : Int)), .need true ((sv_12 0).1 = some (adr ((sv_12 0).1))), .cell true (((adr ((sv_12 0).1)).add ((s1.1 : Int).toNat * 2)).add 1) [.int .i64 ((rd t_10 s1.1).Many)]] (by kernel_rfl) ⟨ob_inb (fun _ => hN_41), hA_43, ob_el (fun _ => hE_44) 1 [.int .i64 ((rd t_10 s1.1).Many)] rfl, trivial⟩ (fun ns_45 a w_46 hI => ?_)
      refine cond_ hI (decide (((rd t_10 s1.1).Many) > 1)) rfl (fun hc_47 => ?_) (fun hc_47 => ?_)
      ·replace H1 := bif_t hc_47 H1
       refine wpIn_region_lit ?_
       obtain ⟨hN_48, H1⟩ := req_some H1
       obtain ⟨sv_49, hE_51, hA_50⟩ := Arr.elB (d := kd_Portholeref30_Run) hR_13 s1.1 true (fun _ => hN_48)
       replace hE_51 := hE_51 rfl
       replace hA_50 := fun (_ : true = true) => hA_50 rfl
       obtain ⟨t_52, hG_53, H1⟩ := bind_some H1
       refine ckn_ (orc := [[.int .i64 ((rd t_10 s1.1).Many)], [.string t_52]]) hF 7 hI [47, 41, 5, 6, 4, 3, 2] [e_ 47 (.string t_52), e_ 41 (.string (s1.2.1 ++ (⟨#[97]⟩ : ByteArray)))] [] [.need true ((0 : Int) ≤ s1.1 ∧ s1.1 < (t_10.length : Int)), .need true ((sv_12 0).1 = some (adr ((sv_12 0).1))), .cell true (((adr ((sv_12 0).1)).add ((s1.1 : Int).toNat * 2)).add 1) [.int .i64 ((rd t_10 s1.1).Many)], .call true 20 [.int .i64 ((rd t_10 s1.1).Many)] (.string t_52)] rfl (by kernel_rfl) ⟨ob_inb (fun _ => hN_48), hA_50, ob_el (fun _ => hE_51) 1 [.int .i64 ((rd t_10 s1.1).Many)] rfl, ob_call (enters Tryd.func20 (by kernel_rfl) rfl) (fun hg wz hk => G_ref30_digits.calls ((rd t_10 s1.1).Many)  wz (S := fun _ => True)  _ hG_53), trivial⟩ (fun ns_54 a w_55 hI => ?_)
       obtain ⟨hN_56, H1⟩ := req_some H1
       refine cat_ hF hI (wanted_none rfl) rfl (s := (s1.2.1 ++ (⟨#[97]⟩ : ByteArray))) (t := t_52) rfl rfl (of_decide_eq_true hN_56) (s_ [e_ 48 (.string ((s1.2.1 ++ (⟨#[97]⟩ : ByteArray)) ++ t_52)), e_ 47 (.string t_52), e_ 41 (.string (s1.2.1 ++ (⟨#[97]⟩ : ByteArray))), e_ 5 (.string (s1.2.1 ++ (⟨#[97]⟩ : ByteArray))), e_ 6 (.int .i64 s1.1), e_ 4 (.slice ((sv_12 0).1) t_10.length ((sv_12 0).2)), e_ 3 (.bool s1.2.2.1), e_ 2 (.string s1.2.2.2)] []) (by kernel_rfl) (fun a hput hI => ?_)
       refine ckn0_ hF 1 hI [5, 6, 4, 3, 2] [e_ 5 (.string ((s1.2.1 ++ (⟨#[97]⟩ : ByteArray)) ++ t_52))] [] rfl (by kernel_rfl) (fun ns_57 a w_58 hI => ?_)
       refine wpListIn_nil ?_
       refine inBlock_normal ?_
       refine then_normal ?_
       refine rgn0_ hF hI [6, 5, 4, 3, 2] [e_ 6 (.int .i64 (IntKind.i64.wrap (s1.1 + 1)))] [] (by kernel_rfl) (fun ns_59 a w_60 hI => ?_)
       refine then_normal ?_
       obtain ⟨hE', hmv, hmr⟩ := Ep.rebase hE hI
       replace hr0 := Arr.keep hr0 (hmv _)
       replace hR_13 := Arr.keep hR_13 (hmv _)
       replace hE_30 := El.keep hE_30 (hmv _)
       replace hE_44 := El.keep hE_44 (hmv _)
       replace hE_51 := El.keep hE_51 (hmv _)
       replace hE := hE'
       replace hI := hI.rebase
       clear hE' hmv hmr
       obtain rfl := Option.some.inj H1
       exact ⟨_, rfl, ⟨_, _, hr0, hR_13, hE, hI.pick [6, 5, 4, 3, 2] 0 (s_ [e_ 6 (.int .i64 (IntKind.i64.wrap (s1.1 + 1))), e_ 5 (.string ((s1.2.1 ++ (⟨#[97]⟩ : ByteArray)) ++ t_52)), e_ 4 (.slice ((sv_12 0).1) t_10.length ((sv_12 0).2)), e_ 3 (.bool s1.2.2.1), e_ 2 (.string s1.2.2.2)] []) (by kernel_rfl)⟩⟩
      ·replace H1 := bif_f hc_47 H1
       refine wpIn_skip ?_
       refine inBlock_normal ?_
       refine then_normal ?_
       refine rgn0_ hF hI [6, 5, 4, 3, 2] [e_ 6 (.int .i64 (IntKind.i64.wrap (s1.1 + 1)))] [] (by kernel_rfl) (fun ns_61 a w_62 hI => ?_)
       refine then_normal ?_
       obtain ⟨hE', hmv, hmr⟩ := Ep.rebase hE hI
       replace hr0 := Arr.keep hr0 (hmv _)
       replace hR_13 := Arr.keep hR_13 (hmv _)
       replace hE_30 := El.keep hE_30 (hmv _)
       replace hE_44 := El.keep hE_44 (hmv _)
       replace hE := hE'
       replace hI := hI.rebase
       clear hE' hmv hmr
       obtain rfl := Option.some.inj H1
       exact ⟨_, rfl, ⟨_, _, hr0, hR_13, hE, hI.pick [6, 5, 4, 3, 2] 0 (s_ [e_ 6 (.int .i64 (IntKind.i64.wrap (s1.1 + 1))), e_ 5 (.string (s1.2.1 ++ (⟨#[97]⟩ : ByteArray))), e_ 4 (.slice ((sv_12 0).1) t_10.length ((sv_12 0).2)), e_ 3 (.bool s1.2.2.1), e_ 2 (.string s1.2.2.2)] []) (by kernel_rfl)⟩⟩
     ·replace H1 := bif_f hc_35 H1
      refine srn0_ hF hI [27, 22, 6, 5, 4, 3, 2] [e_ 27 (.bool (((rd t_10 s1.1).Act) == 1))] [] (by kernel_rfl) (fun ns_63 a w_64 hI => ?_)
      refine cond_ hI ((((rd t_10 s1.1).Act) == 1)) rfl (fun hc_65 => ?_) (fun hc_65 => ?_)
      ·replace H1 := bif_t hc_65 H1
       refine wpIn_region_lit ?_
       refine ckn0_ hF 1 hI [29, 6, 5, 4, 3, 2] [e_ 29 (.string s1.2.1)] [] rfl (by kernel_rfl) (fun ns_66 a w_67 hI => ?_)
       obtain ⟨hN_68, H1⟩ := req_some H1
       refine cat_ hF hI (wanted_none rfl) rfl (s := s1.2.1) (t := (⟨#[98]⟩ : ByteArray)) rfl rfl (of_decide_eq_true hN_68) (s_ [e_ 30 (.string (s1.2.1 ++ (⟨#[98]⟩ : ByteArray))), e_ 29 (.string s1.2.1), e_ 6 (.int .i64 s1.1), e_ 5 (.string s1.2.1), e_ 4 (.slice ((sv_12 0).1) t_10.length ((sv_12 0).2)), e_ 3 (.bool s1.2.2.1), e_ 2 (.string s1.2.2.2)] []) (by kernel_rfl) (fun a hput hI => ?_)
       refine ckn0_ hF 1 hI [5, 6, 4, 3, 2] [e_ 5 (.string (s1.2.1 ++ (⟨#[98]⟩ : ByteArray)))] [] rfl (by kernel_rfl) (fun ns_69 a w_70 hI => ?_)
       refine wpListIn_nil ?_
       refine inBlock_normal ?_
       refine then_normal ?_
       obtain ⟨hN_71, H1⟩ := req_some H1
       obtain ⟨sv_72, hE_74, hA_73⟩ := Arr.elB (d := kd_Portholeref30_Run) hR_13 s1.1 true (fun _ => hN_71)
       replace hE_74 := hE_74 rfl
       replace hA_73 := fun (_ : true = true) => hA_73 rfl
       refine srn_ (orc := [[.int .i64 ((rd t_10 s1.1).Many)]]) hF hI [40, 5, 6, 4, 3, 2] [e_ 40 (.bool (decide (((rd t_10 s1.1).Many) > 1)))] [] [.need true ((0 : Int) ≤ s1.1 ∧ s1.1 < (t_10.length : Int)), .need true ((sv_12 0).1 = some (adr ((sv_12 0).1))), .cell true (((adr ((sv_12 0).1)).add ((s1.1 : Int).toNat * 2)).add 1) [.int .i64 ((rd t_10 s1.1).Many)]] (by kernel_rfl) ⟨ob_inb (fun _ => hN_71), hA_73, ob_el (fun _ => hE_74) 1 [.int .i64 ((rd t_10 s1.1).Many)] rfl, trivial⟩ (fun ns_75 a w_76 hI => ?_)
       refine cond_ hI (decide (((rd t_10 s1.1).Many) > 1)) rfl (fun hc_77 => ?_) (fun hc_77 => ?_)
       ·replace H1 := bif_t hc_77 H1
        refine wpIn_region_lit ?_
        obtain ⟨hN_78, H1⟩ := req_some H1
        obtain ⟨sv_79, hE_81, hA_80⟩ := Arr.elB (d := kd_Portholeref30_Run) hR_13 s1.1 true (fun _ => hN_78)
        replace hE_81 := hE_81 rfl
        replace hA_80 := fun (_ : true = true) => hA_80 rfl
        obtain ⟨t_82, hG_83, H1⟩ := bind_some H1
        refine ckn_ (orc := [[.int .i64 ((rd t_10 s1.1).Many)], [.string t_82]]) hF 7 hI [47, 41, 5, 6, 4, 3, 2] [e_ 47 (.string t_82), e_ 41 (.string (s1.2.1 ++ (⟨#[98]⟩ : ByteArray)))] [] [.need true ((0 : Int) ≤ s1.1 ∧ s1.1 < (t_10.length : Int)), .need true ((sv_12 0).1 = some (adr ((sv_12 0).1))), .cell true (((adr ((sv_12 0).1)).add ((s1.1 : Int).toNat * 2)).add 1) [.int .i64 ((rd t_10 s1.1).Many)], .call true 20 [.int .i64 ((rd t_10 s1.1).Many)] (.string t_82)] rfl (by kernel_rfl) ⟨ob_inb (fun _ => hN_78), hA_80, ob_el (fun _ => hE_81) 1 [.int .i64 ((rd t_10 s1.1).Many)] rfl, ob_call (enters Tryd.func20 (by kernel_rfl) rfl) (fun hg wz hk => G_ref30_digits.calls ((rd t_10 s1.1).Many)  wz (S := fun _ => True)  _ hG_83), trivial⟩ (fun ns_84 a w_85 hI => ?_)
        obtain ⟨hN_86, H1⟩ := req_some H1
        refine cat_ hF hI (wanted_none rfl) rfl (s := (s1.2.1 ++ (⟨#[98]⟩ : ByteArray))) (t := t_82) rfl rfl (of_decide_eq_true hN_86) (s_ [e_ 48 (.string ((s1.2.1 ++ (⟨#[98]⟩ : ByteArray)) ++ t_82)), e_ 47 (.string t_82), e_ 41 (.string (s1.2.1 ++ (⟨#[98]⟩ : ByteArray))), e_ 5 (.string (s1.2.1 ++ (⟨#[98]⟩ : ByteArray))), e_ 6 (.int .i64 s1.1), e_ 4 (.slice ((sv_12 0).1) t_10.length ((sv_12 0).2)), e_ 3 (.bool s1.2.2.1), e_ 2 (.string s1.2.2.2)] []) (by kernel_rfl) (fun a hput hI => ?_)
        refine ckn0_ hF 1 hI [5, 6, 4, 3, 2] [e_ 5 (.string ((s1.2.1 ++ (⟨#[98]⟩ : ByteArray)) ++ t_82))] [] rfl (by kernel_rfl) (fun ns_87 a w_88 hI => ?_)
        refine wpListIn_nil ?_
        refine inBlock_normal ?_
        refine then_normal ?_
        refine rgn0_ hF hI [6, 5, 4, 3, 2] [e_ 6 (.int .i64 (IntKind.i64.wrap (s1.1 + 1)))] [] (by kernel_rfl) (fun ns_89 a w_90 hI => ?_)
        refine then_normal ?_
        obtain ⟨hE', hmv, hmr⟩ := Ep.rebase hE hI
        replace hr0 := Arr.keep hr0 (hmv _)
        replace hR_13 := Arr.keep hR_13 (hmv _)
        replace hE_30 := El.keep hE_30 (hmv _)
        replace hE_74 := El.keep hE_74 (hmv _)
        replace hE_81 := El.keep hE_81 (hmv _)
        replace hE := hE'
        replace hI := hI.rebase
        clear hE' hmv hmr
        obtain rfl := Option.some.inj H1
        exact ⟨_, rfl, ⟨_, _, hr0, hR_13, hE, hI.pick [6, 5, 4, 3, 2] 0 (s_ [e_ 6 (.int .i64 (IntKind.i64.wrap (s1.1 + 1))), e_ 5 (.string ((s1.2.1 ++ (⟨#[98]⟩ : ByteArray)) ++ t_82)), e_ 4 (.slice ((sv_12 0).1) t_10.length ((sv_12 0).2)), e_ 3 (.bool s1.2.2.1), e_ 2 (.string s1.2.2.2)] []) (by kernel_rfl)⟩⟩
       ·replace H1 := bif_f hc_77 H1
        refine wpIn_skip ?_
        refine inBlock_normal ?_
        refine then_normal ?_
        refine rgn0_ hF hI [6, 5, 4, 3, 2] [e_ 6 (.int .i64 (IntKind.i64.wrap (s1.1 + 1)))] [] (by kernel_rfl) (fun ns_91 a w_92 hI => ?_)
        refine then_normal ?_
        obtain ⟨hE', hmv, hmr⟩ := Ep.rebase hE hI
        replace hr0 := Arr.keep hr0 (hmv _)
        replace hR_13 := Arr.keep hR_13 (hmv _)
        replace hE_30 := El.keep hE_30 (hmv _)
        replace hE_74 := El.keep hE_74 (hmv _)
        replace hE := hE'
        replace hI := hI.rebase
        clear hE' hmv hmr
        obtain rfl := Option.some.inj H1
        exact ⟨_, rfl, ⟨_, _, hr0, hR_13, hE, hI.pick [6, 5, 4, 3, 2] 0 (s_ [e_ 6 (.int .i64 (IntKind.i64.wrap (s1.1 + 1))), e_ 5 (.string (s1.2.1 ++ (⟨#[98]⟩ : ByteArray))), e_ 4 (.slice ((sv_12 0).1) t_10.length ((sv_12 0).2)), e_ 3 (.bool s1.2.2.1), e_ 2 (.string s1.2.2.2)] []) (by kernel_rfl)⟩⟩
      ·replace H1 := bif_f hc_65 H1
       refine srn0_ hF hI [31, 6, 5, 4, 3, 2] [e_ 31 (.bool (((rd t_10 s1.1).Act) == 2))] [] (by kernel_rfl) (fun ns_93 a w_94 hI => ?_)
       refine cond_ hI ((((rd t_10 s1.1).Act) == 2)) rfl (fun hc_95 => ?_) (fun hc_95 => ?_)
       ·replace H1 := bif_t hc_95 H1
        refine wpIn_region_lit ?_
        refine ckn0_ hF 1 hI [33, 6, 5, 4, 3, 2] [e_ 33 (.string s1.2.1)] [] rfl (by kernel_rfl) (fun ns_96 a w_97 hI => ?_)
        obtain ⟨hN_98, H1⟩ := req_some H1
        refine cat_ hF hI (wanted_none rfl) rfl (s := s1.2.1) (t := (⟨#[116]⟩ : ByteArray)) rfl rfl (of_decide_eq_true hN_98) (s_ [e_ 34 (.string (s1.2.1 ++ (⟨#[116]⟩ : ByteArray))), e_ 33 (.string s1.2.1), e_ 6 (.int .i64 s1.1), e_ 5 (.string s1.2.1), e_ 4 (.slice ((sv_12 0).1) t_10.length ((sv_12 0).2)), e_ 3 (.bool s1.2.2.1), e_ 2 (.string s1.2.2.2)] []) (by kernel_rfl) (fun a hput hI => ?_)
        refine ckn0_ hF 1 hI [5, 6, 4, 3, 2] [e_ 5 (.string (s1.2.1 ++ (⟨#[116]⟩ : ByteArray)))] [] rfl (by kernel_rfl) (fun ns_99 a w_100 hI => ?_)
        refine wpListIn_nil ?_
        refine inBlock_normal ?_
        refine then_normal ?_
        obtain ⟨hN_101, H1⟩ := req_some H1
        obtain ⟨sv_102, hE_104, hA_103⟩ := Arr.elB (d := kd_Portholeref30_Run) hR_13 s1.1 true (fun _ => hN_101)
        replace hE_104 := hE_104 rfl
        replace hA_103 := fun (_ : true = true) => hA_103 rfl
        refine srn_ (orc := [[.int .i64 ((rd t_10 s1.1).Many)]]) hF hI [40, 5, 6, 4, 3, 2] [e_ 40 (.bool (decide (((rd t_10 s1.1).Many) > 1)))] [] [.need true ((0 : Int) ≤ s1.1 ∧ s1.1 < (t_10.length : Int)), .need true ((sv_12 0).1 = some (adr ((sv_12 0).1))), .cell true (((adr ((sv_12 0).1)).add ((s1.1 : Int).toNat * 2)).add 1) [.int .i64 ((rd t_10 s1.1).Many)]] (by kernel_rfl) ⟨ob_inb (fun _ => hN_101), hA_103, ob_el (fun _ => hE_104) 1 [.int .i64 ((rd t_10 s1.1).Many)] rfl, trivial⟩ (fun ns_105 a w_106 hI => ?_)
        refine cond_ hI (decide (((rd t_10 s1.1).Many) > 1)) rfl (fun hc_107 => ?_) (fun hc_107 => ?_)
        ·replace H1 := bif_t hc_107 H1
         refine wpIn_region_lit ?_
         obtain ⟨hN_108, H1⟩ := req_some H1
         obtain ⟨sv_109, hE_111, hA_110⟩ := Arr.elB (d := kd_Portholeref30_Run) hR_13 s1.1 true (fun _ => hN_108)
         replace hE_111 := hE_111 rfl
         replace hA_110 := fun (_ : true = true) => hA_110 rfl
         obtain ⟨t_112, hG_113, H1⟩ := bind_some H1
         refine ckn_ (orc := [[.int .i64 ((rd t_10 s1.1).Many)], [.string t_112]]) hF 7 hI [47, 41, 5, 6, 4, 3, 2] [e_ 47 (.string t_112), e_ 41 (.string (s1.2.1 ++ (⟨#[116]⟩ : ByteArray)))] [] [.need true ((0 : Int) ≤ s1.1 ∧ s1.1 < (t_10.length : Int)), .need true ((sv_12 0).1 = some (adr ((sv_12 0).1))), .cell true (((adr ((sv_12 0).1)).add ((s1.1 : Int).toNat * 2)).add 1) [.int .i64 ((rd t_10 s1.1).Many)], .call true 20 [.int .i64 ((rd t_10 s1.1).Many)] (.string t_112)] rfl (by kernel_rfl) ⟨ob_inb (fun _ => hN_108), hA_110, ob_el (fun _ => hE_111) 1 [.int .i64 ((rd t_10 s1.1).Many)] rfl, ob_call (enters Tryd.func20 (by kernel_rfl) rfl) (fun hg wz hk => G_ref30_digits.calls ((rd t_10 s1.1).Many)  wz (S := fun _ => True)  _ hG_113), trivial⟩ (fun ns_114 a w_115 hI => ?_)
         obtain ⟨hN_116, H1⟩ := req_some H1
         refine cat_ hF hI (wanted_none rfl) rfl (s := (s1.2.1 ++ (⟨#[116]⟩ : ByteArray))) (t := t_112) rfl rfl (of_decide_eq_true hN_116) (s_ [e_ 48 (.string ((s1.2.1 ++ (⟨#[116]⟩ : ByteArray)) ++ t_112)), e_ 47 (.string t_112), e_ 41 (.string (s1.2.1 ++ (⟨#[116]⟩ : ByteArray))), e_ 5 (.string (s1.2.1 ++ (⟨#[116]⟩ : ByteArray))), e_ 6 (.int .i64 s1.1), e_ 4 (.slice ((sv_12 0).1) t_10.length ((sv_12 0).2)), e_ 3 (.bool s1.2.2.1), e_ 2 (.string s1.2.2.2)] []) (by kernel_rfl) (fun a hput hI => ?_)
         refine ckn0_ hF 1 hI [5, 6, 4, 3, 2] [e_ 5 (.string ((s1.2.1 ++ (⟨#[116]⟩ : ByteArray)) ++ t_112))] [] rfl (by kernel_rfl) (fun ns_117 a w_118 hI => ?_)
         refine wpListIn_nil ?_
         refine inBlock_normal ?_
         refine then_normal ?_
         refine rgn0_ hF hI [6, 5, 4, 3, 2] [e_ 6 (.int .i64 (IntKind.i64.wrap (s1.1 + 1)))] [] (by kernel_rfl) (fun ns_119 a w_120 hI => ?_)
         refine then_normal ?_
         obtain ⟨hE', hmv, hmr⟩ := Ep.rebase hE hI
         replace hr0 := Arr.keep hr0 (hmv _)
         replace hR_13 := Arr.keep hR_13 (hmv _)
         replace hE_30 := El.keep hE_30 (hmv _)
         replace hE_104 := El.keep hE_104 (hmv _)
         replace hE_111 := El.keep hE_111 (hmv _)
         replace hE := hE'
         replace hI := hI.rebase
         clear hE' hmv hmr
         obtain rfl := Option.some.inj H1
         exact ⟨_, rfl, ⟨_, _, hr0, hR_13, hE, hI.pick [6, 5, 4, 3, 2] 0 (s_ [e_ 6 (.int .i64 (IntKind.i64.wrap (s1.1 + 1))), e_ 5 (.string ((s1.2.1 ++ (⟨#[116]⟩ : ByteArray)) ++ t_112)), e_ 4 (.slice ((sv_12 0).1) t_10.length ((sv_12 0).2)), e_ 3 (.bool s1.2.2.1), e_ 2 (.string s1.2.2.2)] []) (by kernel_rfl)⟩⟩
        ·replace H1 := bif_f hc_107 H1
         refine wpIn_skip ?_
         refine inBlock_normal ?_
         refine then_normal ?_
         refine rgn0_ hF hI [6, 5, 4, 3, 2] [e_ 6 (.int .i64 (IntKind.i64.wrap (s1.1 + 1)))] [] (by kernel_rfl) (fun ns_121 a w_122 hI => ?_)
         refine then_normal ?_
         obtain ⟨hE', hmv, hmr⟩ := Ep.rebase hE hI
         replace hr0 := Arr.keep hr0 (hmv _)
         replace hR_13 := Arr.keep hR_13 (hmv _)
         replace hE_30 := El.keep hE_30 (hmv _)
         replace hE_104 := El.keep hE_104 (hmv _)
         replace hE := hE'
         replace hI := hI.rebase
         clear hE' hmv hmr
         obtain rfl := Option.some.inj H1
         exact ⟨_, rfl, ⟨_, _, hr0, hR_13, hE, hI.pick [6, 5, 4, 3, 2] 0 (s_ [e_ 6 (.int .i64 (IntKind.i64.wrap (s1.1 + 1))), e_ 5 (.string (s1.2.1 ++ (⟨#[116]⟩ : ByteArray))), e_ 4 (.slice ((sv_12 0).1) t_10.length ((sv_12 0).2)), e_ 3 (.bool s1.2.2.1), e_ 2 (.string s1.2.2.2)] []) (by kernel_rfl)⟩⟩
       ·replace H1 := bif_f hc_95 H1
        refine srn0_ hF hI [3, 2] [e_ 3 (.bool false), e_ 2 (.string (⟨#[]⟩ : ByteArray))] [] (by kernel_rfl) (fun ns_123 a w_124 hI => ?_)
        refine wpIn_ret ?_
        refine inBlock_ret ?_
        refine then_ret ?_
        refine inBlock_ret ?_
        refine then_ret ?_
        refine then_ret ?_
        obtain rfl := Option.some.inj H1
        refine .inr ⟨_, rfl, fun ho => ?_⟩
        subst ho
        refine inBlock_ret ?_
        refine then_ret ?_
        obtain rfl := Option.some.inj H0
        exact ret2 hI rfl rfl rfl ⟨rfl, hE.below hI⟩
    ·replace H1 := bif_f hc_26 H1
     refine wpIn_exit ?_
     refine then_exit ?_
     refine then_exit ?_
     obtain ⟨hE', hmv, hmr⟩ := Ep.rebase hE hI
     replace hr0 := Arr.keep hr0 (hmv _)
     replace hR_13 := Arr.keep hR_13 (hmv _)
     replace hE := hE'
     replace hI := hI.rebase
     clear hE' hmv hmr
     obtain rfl := Option.some.inj H1
     exact .inl ⟨_, rfl, rfl, ⟨_, _, hr0, hR_13, hE, hI.pick [6, 5, 4, 3, 2] 0 (s_ [e_ 6 (.int .i64 s1.1), e_ 5 (.string s1.2.1), e_ 4 (.slice ((sv_12 0).1) t_10.length ((sv_12 0).2)), e_ 3 (.bool s1.2.2.1), e_ 2 (.string s1.2.2.2)] []) (by kernel_rfl)⟩⟩
   ·clear hI hE
    rintro s1 a w_127 ho ⟨ow_129, ns_128, hr0, hR_13, hE, hI⟩
    subst ho
    replace H0 : (some (s1.2.1, true) : Option (ByteArray × Bool)) = _ := H0
    refine then_normal ?_
    refine sr0_ hF hI (s_ [e_ 3 (.bool true), e_ 2 (.string s1.2.1)] []) (by kernel_rfl) (fun ns_130 a w_131 hI => ?_)
    refine wpIn_ret ?_
    obtain rfl := Option.some.inj H0
    exact ret2 hI rfl rfl rfl ⟨rfl, hE.below hI⟩

noncomputable def G_ref01_Same.b1 (l0 : (List Int)) (l1 : (List Int)) (s1 : Int × Bool) : Option (Stp (Int × Bool) (Ex (Int × Bool) (Bool))) := (bif decide (s1.1 < (l0.length : Int)) then (req (inb s1.1 l0.length) (req (inb s1.1 l1.length) (bif ((rd l0 s1.1) != (rd l1 s1.1)) then some (.out (.ret false)) else some (.next ((IntKind.i64.wrap (s1.1 + 1)), s1.2))))) else some (.out (.brk (s1.1, s1.2))))
noncomputable def G_ref01_Same (l0 : (List Int)) (l1 : (List Int)) : Option (Bool) := (bif ((l0.length : Int) != (l1.length : Int)) then some false else ((loopω (G_ref01_Same.b1 l0 l1) (0, false)).bind fun o => o.on (fun s1 => some true) (fun r => some r)))
theorem G_ref01_Same.calls (l0 : (List Int)) (l1 : (List Int)) (A0 : Option Addr) (c0 : Nat) (A1 : Option Addr) (c1 : Nat) (w : World) {S : Nat → Prop} (hr0 : Arr (Kd.int .i64) S w A0 l0) (hc0 : l0.length ≤ c0) (hr1 : Arr (Kd.int .i64) S w A1 l1) (hc1 : l1.length ≤ c1) (r : Bool) (h : G_ref01_Same l0 l1 = some r) :
    Calls Tryd.prog 12 #[.slice A0 l0.length c0, .slice A1 l1.length c1] w fun e w' => e = .returned (.bool r) ∧ Below w.heap.size w w' := by
  replace hr0 := Arr.lo hr0
  replace hr1 := Arr.lo hr1
  unfold G_ref01_Same at h
  have H0 := h
  clear h
  refine enter Tryd.func12 rfl [.slice A0 l0.length c0, .slice A1 l1.length c1] (n := 26) rfl (Nat.le_of_ble_eq_true rfl) (fun a hI => ?_)
  have hF : FOpen Fence.wide := .inl rfl
  have hE := Ep.start w
  refine sr0_ hF hI (s_ [e_ 4 (.bool false), e_ 0 (.slice A0 l0.length c0), e_ 1 (.slice A1 l1.length c1)] []) (by kernel_rfl) (fun ns_1 a w_2 hI => ?_)
  refine wpIn_seq ?_
  refine srn0_ hF hI [10, 4, 0, 1] [e_ 10 (.bool ((l0.length : Int) != (l1.length : Int)))] [] (by kernel_rfl) (fun ns_3 a w_4 hI => ?_)
  refine cond_ hI (((l0.length : Int) != (l1.length : Int))) rfl (fun hc_5 => ?_) (fun hc_5 => ?_)
  ·replace H0 := bif_t hc_5 H0
   refine srn0_ hF hI [4] [] [] (by kernel_rfl) (fun ns_6 a w_7 hI => ?_)
   refine wpIn_ret ?_
   refine then_ret ?_
   obtain rfl := Option.some.inj H0
   exact ret1 hI rfl rfl ⟨rfl, hE.below hI⟩
  ·replace H0 := bif_f hc_5 H0
   refine wpIn_skip ?_
   refine then_normal ?_
   refine wpIn_seq ?_
   refine srn0_ hF hI [5, 4, 0, 1] [e_ 5 (.int .i64 0)] [] (by kernel_rfl) (fun ns_8 a w_9 hI => ?_)
   obtain ⟨o_29, hL_30, H0⟩ := bind_some H0
   refine block_loop (fun (s1 : Int × Bool) a w_35 => ∃ ns, St w [] 26 (s_ [e_ 5 (.int .i64 s1.1), e_ 4 (.bool s1.2), e_ 0 (.slice A0 l0.length c0), e_ 1 (.slice A1 l1.length c1)] []) ns a w_35) (0, false) hL_30 ⟨_, hI.pick [5, 4, 0, 1] 0 (s_ [e_ 5 (.int .i64 0), e_ 4 (.bool false), e_ 0 (.slice A0 l0.length c0), e_ 1 (.slice A1 l1.length c1)] []) (by kernel_rfl)⟩ ?_ ?_
   ·clear hI
    rintro s1 a w_10 ⟨ns_11, hI⟩ r1 H1
    unfold G_ref01_Same.b1 at H1
    refine wpIn_seq ?_
    refine sr0_ hF hI (s_ [e_ 14 (.bool (decide (s1.1 < (l0.length : Int)))), e_ 5 (.int .i64 s1.1), e_ 4 (.bool s1.2), e_ 0 (.slice A0 l0.length c0), e_ 1 (.slice A1 l1.length c1)] []) (by kernel_rfl) (fun ns_12 a w_13 hI => ?_)
    refine cond_ hI (decide (s1.1 < (l0.length : Int))) rfl (fun hc_14 => ?_) (fun hc_14 => ?_)
    ·replace H1 := bif_t hc_14 H1
     refine wpIn_skip ?_
     refine then_normal ?_
     refine wpIn_seq ?_
     refine wpIn_block ?_
     refine wpIn_seq ?_
     obtain ⟨hN_15, H1⟩ := req_some H1
     obtain ⟨sv_16, hE_18, hA_17⟩ := Arr.elB (d := (Kd.int .i64)) hr0 s1.1 true (fun _ => hN_15)
     replace hE_18 := hE_18 rfl
     replace hA_17 := fun (_ : true = true) => hA_17 rfl
     obtain ⟨hN_19, H1⟩ := req_some H1
     obtain ⟨sv_20, hE_22, hA_21⟩ := Arr.elB (d := (Kd.int .i64)) hr1 s1.1 true (fun _ => hN_19)
     replace hE_22 := hE_22 rfl
     replace hA_21 := fun (_ : true = true) => hA_21 rfl
     refine drawn_ (live := [25, 5, 4, 0, 1]) (orc := [[.int .i64 (rd l0 s1.1)], [.int .i64 (rd l1 s1.1)]]) hF hI (s_ [e_ 25 (.bool ((rd l0 s1.1) != (rd l1 s1.1))), e_ 5 (.int .i64 s1.1), e_ 4 (.bool s1.2), e_ 0 (.slice A0 l0.length c0), e_ 1 (.slice A1 l1.length c1)] []) [.need true ((0 : Int) ≤ s1.1 ∧ s1.1 < (l0.length : Int)), .need true (A0 = some (adr A0)), .cell true ((adr A0).add ((s1.1 : Int).toNat * 1)) [.int .i64 (rd l0 s1.1)], .need true ((0 : Int) ≤ s1.1 ∧ s1.1 < (l1.length : Int)), .need true (A1 = some (adr A1)), .cell true ((adr A1).add ((s1.1 : Int).toNat * 1)) [.int .i64 (rd l1 s1.1)]] (by kernel_rfl) (by kernel_rfl) (by kernel_rfl) ⟨ob_inb (fun _ => hN_15), hA_17, ob_el (fun _ => hE_18) 0 [.int .i64 (rd l0 s1.1)] rfl, ob_inb (fun _ => hN_19), hA_21, ob_el (fun _ => hE_22) 0 [.int .i64 (rd l1 s1.1)] rfl, trivial⟩ (fun a w_23 hI => ?_)
     refine then_normal ?_
     refine cond_ hI (((rd l0 s1.1) != (rd l1 s1.1))) rfl (fun hc_24 => ?_) (fun hc_24 => ?_)
     ·replace H1 := bif_t hc_24 H1
      refine sr0_ hF hI (s_ [e_ 4 (.bool false)] []) (by kernel_rfl) (fun ns_25 a w_26 hI => ?_)
      refine wpIn_ret ?_
      refine inBlock_ret ?_
      refine then_ret ?_
      refine then_ret ?_
      obtain rfl := Option.some.inj H1
      refine .inr ⟨_, rfl, fun ho => ?_⟩
      subst ho
      refine inBlock_ret ?_
      refine then_ret ?_
      obtain rfl := Option.some.inj H0
      exact ret1 hI rfl rfl ⟨rfl, hE.below hI⟩
     ·replace H1 := bif_f hc_24 H1
      refine wpIn_skip ?_
      refine inBlock_normal ?_
      refine then_normal ?_
      refine rg0_ hF hI (s_ [e_ 5 (.int .i64 (IntKind.i64.wrap (s1.1 + 1))), e_ 4 (.bool s1.2), e_ 0 (.slice A0 l0.length c0), e_ 1 (.slice A1 l1.length c1)] []) (by kernel_rfl) (fun ns_27 a w_28 hI => ?_)
      refine then_normal ?_
      obtain rfl := Option.some.inj H1
      exact ⟨_, rfl, ⟨_, hI.pick [5, 4, 0, 1] 0 (s_ [e_ 5 (.int .i64 (IntKind.i64.wrap (s1.1 + 1))), e_ 4 (.bool s1.2), e_ 0 (.slice A0 l0.length c0), e_ 1 (.slice A1 l1.length c1)] []) (by kernel_rfl)⟩⟩
    ·replace H1 := bif_f hc_14 H1
     refine wpIn_exit ?_
     refine then_exit ?_
     refine then_exit ?_
     obtain rfl := Option.some.inj H1
     exact .inl ⟨_, rfl, rfl, ⟨_, hI.pick [5, 4, 0, 1] 0 (s_ [e_ 5 (.int .i64 s1.1), e_ 4 (.bool s1.2), e_ 0 (.slice A0 l0.length c0), e_ 1 (.slice A1 l1.length c1)] []) (by kernel_rfl)⟩⟩
   ·clear hI
    rintro s1 a w_31 ho ⟨ns_32, hI⟩
    subst ho
    replace H0 : (some true : Option (Bool)) = _ := H0
    refine then_normal ?_
    refine sr0_ hF hI (s_ [e_ 4 (.bool true)] []) (by kernel_rfl) (fun ns_33 a w_34 hI => ?_)
    refine wpIn_ret ?_
    obtain rfl := Option.some.inj H0
    exact ret1 hI rfl rfl ⟨rfl, hE.below hI⟩

noncomputable def G_pack_Size (a0 : ByteArray) : Option (Int) := ((G_pack_Parse a0).bind fun t_5 => some (t_5.1.length : Int))
theorem G_pack_Size.calls (a0 : ByteArray)  (w : World) {S : Nat → Prop}  (r : Int) (h : G_pack_Size a0 = some r) :
    Calls Tryd.prog 13 #[.string a0] w fun e w' => e = .returned (.int .i64 r) ∧ Below w.heap.size w w' := by
  unfold G_pack_Size at h
  have H0 := h
  clear h
  refine enter Tryd.func13 rfl [.string a0] (n := 12) rfl (Nat.le_of_ble_eq_true rfl) (fun a hI => ?_)
  have hF : FOpen Fence.wide := .inl rfl
  have hE := Ep.start w
  refine sr0_ hF hI (s_ [e_ 2 (.int .i64 0), e_ 0 (.string a0)] []) (by kernel_rfl) (fun ns_1 a w_2 hI => ?_)
  refine wpIn_seq ?_
  refine wpIn_region_lit ?_
  refine ckn0_ hF 1 hI [6, 2] [e_ 6 (.string a0)] [] rfl (by kernel_rfl) (fun ns_3 a w_4 hI => ?_)
  obtain ⟨hE', hmv, hmr⟩ := Ep.rebase hE hI
  replace hE := hE'
  replace hI := hI.rebase
  clear hE' hmv hmr
  obtain ⟨t_5, hG_6, H0⟩ := bind_some H0
  refine callH_ hF hE hI (wanted_none rfl) rfl (args := [.string a0]) rfl (enters Tryd.func11 (by kernel_rfl) rfl) (fun sv_7 => .tuple #[.slice ((sv_7 0).1) t_5.1.length ((sv_7 0).2), .bool t_5.2]) _ (G_pack_Parse.calls a0  w_4 (S := Lo S w w_4 ns_3 [])  _ hG_6) (fun sv_7 => (s_ [e_ 7 (.tuple #[.slice ((sv_7 0).1) t_5.1.length ((sv_7 0).2), .bool t_5.2]), e_ 6 (.string a0), e_ 2 (.int .i64 0)] [])) (fun sv_7 => by kernel_rfl) (fun sv_7 a w_9 hput hE' hI' hmv hmr hres hR => ?_)
  replace hE := hE'
  replace hI := hI'
  clear hE' hI' hmv hmr
  obtain ⟨hR_8, hR_8c⟩ := hR
  replace hR_8 := Arr.keep hR_8 (hres _)
  clear hres
  refine ckn0_ hF 5 hI [3, 2] [e_ 3 (.slice ((sv_7 0).1) t_5.1.length ((sv_7 0).2))] [] rfl (by kernel_rfl) (fun ns_10 a w_11 hI => ?_)
  refine wpListIn_nil ?_
  refine then_normal ?_
  refine srn0_ hF hI [2] [e_ 2 (.int .i64 (t_5.1.length : Int))] [] (by kernel_rfl) (fun ns_12 a w_13 hI => ?_)
  refine wpIn_ret ?_
  obtain rfl := Option.some.inj H0
  exact ret1 hI rfl rfl ⟨rfl, hE.below hI⟩

noncomputable def G_law30_PackPrints (l0 : (List Int)) : Option (Bool) := ((G_law30_wakes).bind fun t_3 => (bif (!t_3) then some false else (bif decide ((l0.length : Int) > 5000) then some true else ((G_pack_Print l0).bind fun t_15 => ((G_ref30_Print l0).bind fun t_19 => (bif ((!(t_15.1.toList == t_19.1.toList)) || (!(t_15.2 == t_19.2))) then some false else ((G_pack_Parse t_15.1).bind fun t_30 => ((cal (!(!t_15.2) && t_30.2) (G_ref01_Same t_30.1 l0) default).bind fun t_37 => ((cal (!(!t_15.2) && (t_30.2 && t_37)) (G_pack_Size t_15.1) default).bind fun t_39 => some ((!t_15.2) || ((t_30.2 && t_37) && (t_39 == (l0.length : Int)))))))))))))
theorem G_law30_PackPrints.calls (l0 : (List Int)) (A0 : Option Addr) (c0 : Nat) (w : World) {S : Nat → Prop} (hr0 : Arr (Kd.int .i64) S w A0 l0) (hc0 : l0.length ≤ c0) (hg1 : El (kdG 1 gv1) S w ⟨1, 0, none⟩ () (svL [])) (r : Bool) (h : G_law30_PackPrints l0 = some r) :
    Calls Tryd.prog 4 #[.slice A0 l0.length c0] w fun e w' => e = .returned (.bool r) ∧ Below w.heap.size w w' := by
  replace hr0 := Arr.lo hr0
  replace hg1 := El.lo hg1
  unfold G_law30_PackPrints at h
  have H0 := h
  clear h
  refine enter Tryd.func4 rfl [.slice A0 l0.length c0] (n := 54) rfl (Nat.le_of_ble_eq_true rfl) (fun a hI => ?_)
  have hF : FOpen Fence.wide := .inl rfl
  have hE := Ep.start w
  refine sr0_ hF hI (s_ [e_ 2 (.bool false), e_ 0 (.slice A0 l0.length c0)] []) (by kernel_rfl) (fun ns_1 a w_2 hI => ?_)
  refine wpIn_seq ?_
  obtain ⟨t_3, hG_4, H0⟩ := bind_some H0
  refine srn_ (orc := [[.bool t_3]]) hF hI [10, 2, 0] [e_ 10 (.bool (!t_3))] [] [.call true 6 [] (.bool t_3)] (by kernel_rfl) ⟨ob_call (enters Tryd.func6 (by kernel_rfl) rfl) (fun hg wz hk => G_law30_wakes.calls   wz (S := fun _ => True) (El.any (El.keep hg1 (Lo.on hk))) _ hG_4), trivial⟩ (fun ns_5 a w_6 hI => ?_)
  refine cond_ hI ((!t_3)) rfl (fun hc_7 => ?_) (fun hc_7 => ?_)
  ·replace H0 := bif_t hc_7 H0
   refine srn0_ hF hI [2] [] [] (by kernel_rfl) (fun ns_8 a w_9 hI => ?_)
   refine wpIn_ret ?_
   refine then_ret ?_
   obtain rfl := Option.some.inj H0
   exact ret1 hI rfl rfl ⟨rfl, hE.below hI⟩
  ·replace H0 := bif_f hc_7 H0
   refine wpIn_skip ?_
   refine then_normal ?_
   refine wpIn_seq ?_
   refine srn0_ hF hI [13, 2, 0] [e_ 13 (.bool (decide ((l0.length : Int) > 5000)))] [] (by kernel_rfl) (fun ns_10 a w_11 hI => ?_)
   refine cond_ hI (decide ((l0.length : Int) > 5000)) rfl (fun hc_12 => ?_) (fun hc_12 => ?_)
   ·replace H0 := bif_t hc_12 H0
    refine srn0_ hF hI [2] [e_ 2 (.bool true)] [] (by kernel_rfl) (fun ns_13 a w_14 hI => ?_)
    refine wpIn_ret ?_
    refine then_ret ?_
    obtain rfl := Option.some.inj H0
    exact ret1 hI rfl rfl ⟨rfl, hE.below hI⟩
   ·replace H0 := bif_f hc_12 H0
    refine wpIn_skip ?_
    refine then_normal ?_
    obtain ⟨t_15, hG_16, H0⟩ := bind_some H0
    refine srn_ (orc := [[.tuple #[.string t_15.1, .bool t_15.2]]]) hF hI [4, 3, 2, 0] [e_ 4 (.bool t_15.2), e_ 3 (.string t_15.1)] [] [.call true 9 [.slice A0 l0.length c0] (.tuple #[.string t_15.1, .bool t_15.2])] (by kernel_rfl) ⟨ob_call (enters Tryd.func9 (by kernel_rfl) rfl) (fun hg wz hk => G_pack_Print.calls l0 A0 c0 wz (S := fun _ => True) (Arr.any (Arr.keep hr0 (Lo.on hk))) hc0 (El.any (El.keep hg1 (Lo.on hk))) _ hG_16), trivial⟩ (fun ns_17 a w_18 hI => ?_)
    obtain ⟨t_19, hG_20, H0⟩ := bind_some H0
    refine srn_ (orc := [[.tuple #[.string t_19.1, .bool t_19.2]]]) hF hI [6, 5, 4, 3, 2, 0] [e_ 6 (.bool t_19.2), e_ 5 (.string t_19.1)] [] [.call true 10 [.slice A0 l0.length c0] (.tuple #[.string t_19.1, .bool t_19.2])] (by kernel_rfl) ⟨ob_call (enters Tryd.func10 (by kernel_rfl) rfl) (fun hg wz hk => G_ref30_Print.calls l0 A0 c0 wz (S := fun _ => True) (Arr.any (Arr.keep hr0 (Lo.on hk))) hc0 _ hG_20), trivial⟩ (fun ns_21 a w_22 hI => ?_)
    refine wpIn_seq ?_
    refine srn0_ hF hI [31, 4, 3, 2, 0] [e_ 31 (.bool ((!(t_15.1.toList == t_19.1.toList)) || (!(t_15.2 == t_19.2))))] [] (by kernel_rfl) (fun ns_23 a w_24 hI => ?_)
    refine cond_ hI (((!(t_15.1.toList == t_19.1.toList)) || (!(t_15.2 == t_19.2)))) rfl (fun hc_25 => ?_) (fun hc_25 => ?_)
    ·replace H0 := bif_t hc_25 H0
     refine srn0_ hF hI [2] [] [] (by kernel_rfl) (fun ns_26 a w_27 hI => ?_)
     refine wpIn_ret ?_
     refine then_ret ?_
     obtain rfl := Option.some.inj H0
     exact ret1 hI rfl rfl ⟨rfl, hE.below hI⟩
    ·replace H0 := bif_f hc_25 H0
     refine wpIn_skip ?_
     refine then_normal ?_
     refine wpIn_seq ?_
     refine wpIn_region_lit ?_
     refine ckn0_ hF 1 hI [33, 4, 3, 2, 0] [e_ 33 (.string t_15.1)] [] rfl (by kernel_rfl) (fun ns_28 a w_29 hI => ?_)
     obtain ⟨hE', hmv, hmr⟩ := Ep.rebase hE hI
     replace hr0 := Arr.keep hr0 (hmv _)
     replace hg1 := El.keep hg1 (hmv _)
     replace hE := hE'
     replace hI := hI.rebase
     clear hE' hmv hmr
     obtain ⟨t_30, hG_31, H0⟩ := bind_some H0
     refine callH_ hF hE hI (wanted_none rfl) rfl (args := [.string t_15.1]) rfl (enters Tryd.func11 (by kernel_rfl) rfl) (fun sv_32 => .tuple #[.slice ((sv_32 0).1) t_30.1.length ((sv_32 0).2), .bool t_30.2]) _ (G_pack_Parse.calls t_15.1  w_29 (S := Lo S w w_29 ns_28 [])  _ hG_31) (fun sv_32 => (s_ [e_ 34 (.tuple #[.slice ((sv_32 0).1) t_30.1.length ((sv_32 0).2), .bool t_30.2]), e_ 33 (.string t_15.1), e_ 4 (.bool t_15.2), e_ 3 (.string t_15.1), e_ 2 (.bool false), e_ 0 (.slice A0 l0.length c0)] [])) (fun sv_32 => by kernel_rfl) (fun sv_32 a w_34 hput hE' hI' hmv hmr hres hR => ?_)
     replace hr0 := Arr.keep hr0 (hmv _)
     replace hg1 := El.keep hg1 (hmv _)
     replace hE := hE'
     replace hI := hI'
     clear hE' hI' hmv hmr
     obtain ⟨hR_33, hR_33c⟩ := hR
     replace hR_33 := Arr.keep hR_33 (hres _)
     clear hres
     refine ckn0_ hF 5 hI [8, 7, 4, 3, 2, 0] [e_ 8 (.bool t_30.2), e_ 7 (.slice ((sv_32 0).1) t_30.1.length ((sv_32 0).2))] [] rfl (by kernel_rfl) (fun ns_35 a w_36 hI => ?_)
     refine wpListIn_nil ?_
     refine then_normal ?_
     obtain ⟨t_37, hG_38, H0⟩ := bind_some H0
     obtain ⟨t_39, hG_40, H0⟩ := bind_some H0
     refine srn_ (orc := [[.bool t_37], [.int .i64 t_39]]) hF hI [2] [e_ 2 (.bool ((!t_15.2) || ((t_30.2 && t_37) && (t_39 == (l0.length : Int)))))] [] [.call (!(!t_15.2) && t_30.2) 12 [.slice ((sv_32 0).1) t_30.1.length ((sv_32 0).2), .slice A0 l0.length c0] (.bool t_37), .call (!(!t_15.2) && (t_30.2 && t_37)) 13 [.string t_15.1] (.int .i64 t_39)] (by kernel_rfl) ⟨ob_call (enters Tryd.func12 (by kernel_rfl) rfl) (fun hg wz hk => G_ref01_Same.calls t_30.1 l0 ((sv_32 0).1) ((sv_32 0).2) A0 c0 wz (S := fun _ => True) (Arr.any (Arr.keep hR_33 (Lo.on hk))) hR_33c (Arr.any (Arr.keep hr0 (Lo.on hk))) hc0 _ (cal_some hG_38 hg)), ob_call (enters Tryd.func13 (by kernel_rfl) rfl) (fun hg wz hk => G_pack_Size.calls t_15.1  wz (S := fun _ => True)  _ (cal_some hG_40 hg)), trivial⟩ (fun ns_41 a w_42 hI => ?_)
     refine wpIn_ret ?_
     obtain rfl := Option.some.inj H0
     exact ret1 hI rfl rfl ⟨rfl, hE.below hI⟩

noncomputable def G_ref30_letter (a0 : Int) : Option (Int) := (bif (a0 == 97) then some 0 else (bif (a0 == 98) then some 1 else (bif (a0 == 116) then some 2 else some (-1))))
theorem G_ref30_letter.calls (a0 : Int)  (w : World) {S : Nat → Prop}  (r : Int) (h : G_ref30_letter a0 = some r) :
    Calls Tryd.prog 23 #[.int .u8 a0] w fun e w' => e = .returned (.int .i64 r) ∧ Below w.heap.size w w' := by
  unfold G_ref30_letter at h
  have H0 := h
  clear h
  refine enter Tryd.func23 rfl [.int .u8 a0] (n := 10) rfl (Nat.le_of_ble_eq_true rfl) (fun a hI => ?_)
  have hF : FOpen Fence.wide := .inl rfl
  have hE := Ep.start w
  refine sr0_ hF hI (s_ [e_ 2 (.int .i64 0), e_ 0 (.int .u8 a0)] []) (by kernel_rfl) (fun ns_1 a w_2 hI => ?_)
  refine wpIn_seq ?_
  refine srn0_ hF hI [3, 2] [e_ 3 (.int .u8 a0)] [] (by kernel_rfl) (fun ns_3 a w_4 hI => ?_)
  refine wpIn_block ?_
  refine srn0_ hF hI [4, 3, 2] [e_ 4 (.bool (a0 == 97))] [] (by kernel_rfl) (fun ns_5 a w_6 hI => ?_)
  refine cond_ hI ((a0 == 97)) rfl (fun hc_7 => ?_) (fun hc_7 => ?_)
  ·replace H0 := bif_t hc_7 H0
   refine srn0_ hF hI [2] [] [] (by kernel_rfl) (fun ns_8 a w_9 hI => ?_)
   refine wpIn_ret ?_
   refine inBlock_ret ?_
   refine then_ret ?_
   obtain rfl := Option.some.inj H0
   exact ret1 hI rfl rfl ⟨rfl, hE.below hI⟩
  ·replace H0 := bif_f hc_7 H0
   refine srn0_ hF hI [6, 3, 2] [e_ 6 (.bool (a0 == 98))] [] (by kernel_rfl) (fun ns_10 a w_11 hI => ?_)
   refine cond_ hI ((a0 == 98)) rfl (fun hc_12 => ?_) (fun hc_12 => ?_)
   ·replace H0 := bif_t hc_12 H0
    refine srn0_ hF hI [2] [e_ 2 (.int .i64 1)] [] (by kernel_rfl) (fun ns_13 a w_14 hI => ?_)
    refine wpIn_ret ?_
    refine inBlock_ret ?_
    refine then_ret ?_
    obtain rfl := Option.some.inj H0
    exact ret1 hI rfl rfl ⟨rfl, hE.below hI⟩
   ·replace H0 := bif_f hc_12 H0
    refine srn0_ hF hI [8, 2] [e_ 8 (.bool (a0 == 116))] [] (by kernel_rfl) (fun ns_15 a w_16 hI => ?_)
    refine cond_ hI ((a0 == 116)) rfl (fun hc_17 => ?_) (fun hc_17 => ?_)
    ·replace H0 := bif_t hc_17 H0
     refine srn0_ hF hI [2] [e_ 2 (.int .i64 2)] [] (by kernel_rfl) (fun ns_18 a w_19 hI => ?_)
     refine wpIn_ret ?_
     refine inBlock_ret ?_
     refine then_ret ?_
     obtain rfl := Option.some.inj H0
     exact ret1 hI rfl rfl ⟨rfl, hE.below hI⟩
    ·replace H0 := bif_f hc_17 H0
     refine wpIn_skip ?_
     refine inBlock_normal ?_
     refine then_normal ?_
     refine srn0_ hF hI [2] [e_ 2 (.int .i64 (-1))] [] (by kernel_rfl) (fun ns_20 a w_21 hI => ?_)
     refine wpIn_ret ?_
     obtain rfl := Option.some.inj H0
     exact ret1 hI rfl rfl ⟨rfl, hE.below hI⟩

end Go.Proofs.YtmchkeflhpojmaaDoor
