/- Walks of the seat's functions. No statement is proved here. Conditions: none. -/
import Derived.Test.YtiiidfgdejfhhaaGreatDoorGTx1
set_option linter.unusedVariables false
set_option linter.unusedSimpArgs false
set_option maxRecDepth 100000
set_option maxHeartbeats 4000000
namespace Go.Proofs.YtiiidfgdejfhhaaGreatDoor
open Go Go.RowKit Go.Eng Go.Proofs

noncomputable def G_sign_Refused.b1 (x0 : Config) (x1 : Standing) (x2 : Request) (t_3 : Bool) (t_10 : ByteArray) (t_19 : Int × Int × Bool × Bool) (t_40 : (List Sign_row)) (s1 : Int × Int) : Option (Stp (Int × Int) (Ex (Int × Int) (Int))) := (bif decide (s1.1 < (t_40.length : Int)) then (req (inb s1.1 t_40.length) ((G_slices_Contains_byte_byte (bytesI ((rd t_40 s1.1).ops)) (IntKind.u8.wrap (IntKind.i64.wrap (48 + x2.Op)))).bind fun t_66 => ((cal t_66 (Fn214.run ((rd t_40 s1.1).holds) (⟨x2, x0, x1, (rd x0.Chans t_19.1), t_19.2.2.1, (t_19.2.1 == x1.Part)⟩ : Sign_asked)) default).bind fun t_68 => (bif (t_66 && t_68) then some (.out (.ret ((rd t_40 s1.1).code))) else some (.next ((IntKind.i64.wrap (s1.1 + 1)), s1.2)))))) else some (.out (.brk (s1.1, s1.2))))
noncomputable def G_sign_Refused.b2 (x0 : Config) (x1 : Standing) (x2 : Request) (t_3 : Bool) (t_10 : ByteArray) (t_19 : Int × Int × Bool × Bool) (t_87 : (List Sign_row)) (s2 : Int × Int) : Option (Stp (Int × Int) (Ex (Int × Int) (Int))) := (bif decide (s2.1 < (t_87.length : Int)) then (req (inb s2.1 t_87.length) ((G_slices_Contains_byte_byte (bytesI ((rd t_87 s2.1).ops)) (IntKind.u8.wrap (IntKind.i64.wrap (48 + x2.Op)))).bind fun t_113 => ((cal t_113 (Fn214.run ((rd t_87 s2.1).holds) (⟨x2, x0, x1, (⟨0, 0, 0, 0, 0, 0, 0⟩ : Chan), false, false⟩ : Sign_asked)) default).bind fun t_115 => (bif (t_113 && t_115) then some (.out (.ret ((rd t_87 s2.1).code))) else some (.next ((IntKind.i64.wrap (s2.1 + 1)), s2.2)))))) else some (.out (.brk (s2.1, s2.2))))
noncomputable def G_sign_Refused (x0 : Config) (x1 : Standing) (x2 : Request) : Option (Int) := ((G_defect_Accepts x0).bind fun t_3 => (bif (((!t_3) || decide (x1.Part < 0)) || decide (x1.Part ≥ (x0.Parts.length : Int))) then some 4 else ((G_sign_Name x2.Op).bind fun t_10 => (bif (t_10.toList == (⟨#[]⟩ : ByteArray).toList) then some 3 else ((G_sign_Port x0 x2.Port).bind fun t_19 => (bif t_19.2.2.2 then (req (inb t_19.1 x0.Chans.length) ((G_sign_rows).bind fun t_40 => ((loopω (G_sign_Refused.b1 x0 x1 x2 t_3 t_10 t_19 t_40) (0, 0)).bind fun o => o.on (fun s1 => some 0) (fun r => some r)))) else ((G_sign_rows).bind fun t_87 => ((loopω (G_sign_Refused.b2 x0 x1 x2 t_3 t_10 t_19 t_87) (0, 0)).bind fun o => o.on (fun s2 => some 0) (fun r => some r)))))))))
theorem G_sign_Refused.calls (x0 : Config) (x1 : Standing) (x2 : Request) (sv0 : SV) (sv1 : SV) (sv2 : SV) (w : World) {S : Nat → Prop} (hx0 : (kd_Config).cont S w x0 sv0) (hx1 : (kd_Standing).cont S w x1 sv1) (hx2 : (kd_Request).cont S w x2 sv2) (hg0 : El kd_St257 S w ⟨0, 0, none⟩ gv0 (svL [])) (r : Int) (h : G_sign_Refused x0 x1 x2 = some r) :
    Calls Tryz.prog 67 #[.agg ((kd_Config).cells x0 sv0).toArray, .agg ((kd_Standing).cells x1 sv1).toArray, .agg ((kd_Request).cells x2 sv2).toArray] w fun e w' => e = .returned (.int .i64 r) ∧ Below w.heap.size w w' := by
  replace hx0 := Kd.lo _ hx0
  replace hx1 := Kd.lo _ hx1
  replace hx2 := Kd.lo _ hx2
  replace hg0 := El.lo hg0
  unfold G_sign_Refused at h
  have H0 := h
  clear h
  refine enter Tryz.func67 rfl [.agg ((kd_Config).cells x0 sv0).toArray, .agg ((kd_Standing).cells x1 sv1).toArray, .agg ((kd_Request).cells x2 sv2).toArray] (n := 88) rfl (Nat.le_of_ble_eq_true rfl) (fun a hI => ?_)
  have hF : FOpen Fence.wide := .inl rfl
  have hE := Ep.start w
  refine sr0_ hF hI (s_ [e_ 6 (.int .i64 0), p_ 5 2 0, p_ 4 1 0, p_ 3 0 0] [((((kd_Config).cells x0 sv0).map EV.v), 29), ((((kd_Standing).cells x1 sv1).map EV.v), 55), ((((kd_Request).cells x2 sv2).map EV.v), 45)]) (by kernel_rfl) (fun ns_1 a w_2 hI => ?_)
  refine wpIn_seq ?_
  refine wpIn_block ?_
  obtain ⟨t_3, hG_4, H0⟩ := bind_some H0
  refine sr_ (orc := [[.bool t_3]]) hF hI (s_ [e_ 15 (.bool (((!t_3) || decide (x1.Part < 0)) || decide (x1.Part ≥ (x0.Parts.length : Int)))), e_ 6 (.int .i64 0), p_ 5 2 0, p_ 4 1 0, p_ 3 0 0] [((((kd_Config).cells x0 sv0).map EV.v), 29), ((((kd_Standing).cells x1 sv1).map EV.v), 55), ((((kd_Request).cells x2 sv2).map EV.v), 45)]) [.call true 113 [.agg ((kd_Config).cells x0 sv0).toArray] (.bool t_3)] (by kernel_rfl) ⟨ob_call (enters Tryz.func113 (by kernel_rfl) rfl) (fun hg wz hk => G_defect_Accepts.calls x0 sv0 wz (S := fun _ => True) (Kd.any _ (Kd.keep kd_Config (contI (S := Lo S w w [] []) (w := w) (d := kd_Config) (x := x0) (sv := sv0) ⟨⟨hx0.1.1, hx0.1.2⟩, ⟨hx0.2.1.1, hx0.2.1.2⟩, ⟨hx0.2.2.1.1, hx0.2.2.1.2⟩, ⟨hx0.2.2.2.1.1, hx0.2.2.2.1.2⟩, trivial⟩) (Lo.on hk))) _ hG_4), trivial⟩ (fun ns_5 a w_6 hI => ?_)
  refine cond_ hI ((((!t_3) || decide (x1.Part < 0)) || decide (x1.Part ≥ (x0.Parts.length : Int)))) rfl (fun hc_7 => ?_) (fun hc_7 => ?_)
  ·replace H0 := bif_t hc_7 H0
   refine sr0_ hF hI (s_ [e_ 6 (.int .i64 4)] [((((kd_Config).cells x0 sv0).map EV.v), 29), ((((kd_Standing).cells x1 sv1).map EV.v), 55), ((((kd_Request).cells x2 sv2).map EV.v), 45)]) (by kernel_rfl) (fun ns_8 a w_9 hI => ?_)
   refine wpIn_ret ?_
   refine inBlock_ret ?_
   refine then_ret ?_
   obtain rfl := Option.some.inj H0
   exact ret1 hI rfl rfl ⟨rfl, hE.below hI⟩
  ·replace H0 := bif_f hc_7 H0
   obtain ⟨t_10, hG_11, H0⟩ := bind_some H0
   refine sr_ (orc := [[.string t_10]]) hF hI (s_ [e_ 32 (.bool (t_10.toList == (⟨#[]⟩ : ByteArray).toList)), e_ 6 (.int .i64 0), p_ 5 2 0, p_ 4 1 0, p_ 3 0 0] [((((kd_Config).cells x0 sv0).map EV.v), 29), ((((kd_Standing).cells x1 sv1).map EV.v), 55), ((((kd_Request).cells x2 sv2).map EV.v), 45)]) [.call true 114 [.int .i64 x2.Op] (.string t_10)] (by kernel_rfl) ⟨ob_call (enters Tryz.func114 (by kernel_rfl) rfl) (fun hg wz hk => G_sign_Name.calls x2.Op  wz (S := fun _ => True) (El.any (El.keep hg0 (Lo.on hk))) _ hG_11), trivial⟩ (fun ns_12 a w_13 hI => ?_)
   refine cond_ hI ((t_10.toList == (⟨#[]⟩ : ByteArray).toList)) rfl (fun hc_14 => ?_) (fun hc_14 => ?_)
   ·replace H0 := bif_t hc_14 H0
    refine sr0_ hF hI (s_ [e_ 6 (.int .i64 3)] [((((kd_Config).cells x0 sv0).map EV.v), 29), ((((kd_Standing).cells x1 sv1).map EV.v), 55), ((((kd_Request).cells x2 sv2).map EV.v), 45)]) (by kernel_rfl) (fun ns_15 a w_16 hI => ?_)
    refine wpIn_ret ?_
    refine inBlock_ret ?_
    refine then_ret ?_
    obtain rfl := Option.some.inj H0
    exact ret1 hI rfl rfl ⟨rfl, hE.below hI⟩
   ·replace H0 := bif_f hc_14 H0
    refine wpIn_skip ?_
    refine inBlock_normal ?_
    refine then_normal ?_
    refine sr0_ hF hI (s_ [p_ 7 3 0, e_ 6 (.int .i64 0), p_ 5 2 0, p_ 4 1 0, p_ 3 0 0] [((((kd_Config).cells x0 sv0).map EV.v), 29), ((((kd_Standing).cells x1 sv1).map EV.v), 55), ((((kd_Request).cells x2 sv2).map EV.v), 45), ([.v (.int .i64 x2.Op), .v (.int .i64 x2.Port), .v (.int .u64 x2.Addr), .v (.slice ((sv2 0).1) x2.Data.length ((sv2 0).2)), .v (.slice ((sv0 0).1) x0.Parts.length ((sv0 0).2)), .v (.slice ((sv0 1).1) x0.Chans.length ((sv0 1).2)), .v (.int .i64 x0.Frames.e0.Length), .v (.slice ((sv0 2).1) x0.Frames.e0.Windows.length ((sv0 2).2)), .v (.int .i64 x0.Frames.e1.Length), .v (.slice ((sv0 3).1) x0.Frames.e1.Windows.length ((sv0 3).2)), .v (.int .i64 x1.Part), .v (.bool x1.Normal), .v (.slice ((sv1 0).1) x1.Made.length ((sv1 0).2)), .v (.slice ((sv1 1).1) x1.Valid.length ((sv1 1).2)), .v (.int .i64 0), .v (.int .i64 0), .v (.int .i64 0), .v (.int .i64 0), .v (.int .i64 0), .v (.int .i64 0), .v (.int .u32 0), .v (.bool false), .v (.bool false)], 211)]) (by kernel_rfl) (fun ns_17 a w_18 hI => ?_)
    refine wpIn_seq ?_
    obtain ⟨t_19, hG_20, H0⟩ := bind_some H0
    refine sr_ (orc := [[.tuple #[.int .i64 t_19.1, .int .i64 t_19.2.1, .bool t_19.2.2.1, .bool t_19.2.2.2]]]) hF hI (s_ [e_ 11 (.bool t_19.2.2.2), e_ 10 (.bool t_19.2.2.1), e_ 9 (.int .i64 t_19.2.1), e_ 8 (.int .i64 t_19.1), p_ 7 3 0, e_ 6 (.int .i64 0), p_ 5 2 0, p_ 4 1 0, p_ 3 0 0] [((((kd_Config).cells x0 sv0).map EV.v), 29), ((((kd_Standing).cells x1 sv1).map EV.v), 55), ((((kd_Request).cells x2 sv2).map EV.v), 45), ([.v (.int .i64 x2.Op), .v (.int .i64 x2.Port), .v (.int .u64 x2.Addr), .v (.slice ((sv2 0).1) x2.Data.length ((sv2 0).2)), .v (.slice ((sv0 0).1) x0.Parts.length ((sv0 0).2)), .v (.slice ((sv0 1).1) x0.Chans.length ((sv0 1).2)), .v (.int .i64 x0.Frames.e0.Length), .v (.slice ((sv0 2).1) x0.Frames.e0.Windows.length ((sv0 2).2)), .v (.int .i64 x0.Frames.e1.Length), .v (.slice ((sv0 3).1) x0.Frames.e1.Windows.length ((sv0 3).2)), .v (.int .i64 x1.Part), .v (.bool x1.Normal), .v (.slice ((sv1 0).1) x1.Made.length ((sv1 0).2)), .v (.slice ((sv1 1).1) x1.Valid.length ((sv1 1).2)), .v (.int .i64 0), .v (.int .i64 0), .v (.int .i64 0), .v (.int .i64 0), .v (.int .i64 0), .v (.int .i64 0), .v (.int .u32 0), .v (.bool false), .v (.bool false)], 211)]) [.call true 101 [.agg ((kd_Config).cells x0 sv0).toArray, .int .i64 x2.Port] (.tuple #[.int .i64 t_19.1, .int .i64 t_19.2.1, .bool t_19.2.2.1, .bool t_19.2.2.2])] (by kernel_rfl) ⟨ob_call (enters Tryz.func101 (by kernel_rfl) rfl) (fun hg wz hk => G_sign_Port.calls x0 x2.Port sv0 wz (S := fun _ => True) (Kd.any _ (Kd.keep kd_Config (contI (S := Lo S w w [] []) (w := w) (d := kd_Config) (x := x0) (sv := sv0) ⟨⟨hx0.1.1, hx0.1.2⟩, ⟨hx0.2.1.1, hx0.2.1.2⟩, ⟨hx0.2.2.1.1, hx0.2.2.1.2⟩, ⟨hx0.2.2.2.1.1, hx0.2.2.2.1.2⟩, trivial⟩) (Lo.on hk))) _ hG_20), trivial⟩ (fun ns_21 a w_22 hI => ?_)
    refine sr0_ hF hI (s_ [e_ 50 (.bool t_19.2.2.2), e_ 10 (.bool t_19.2.2.1), e_ 9 (.int .i64 t_19.2.1), e_ 8 (.int .i64 t_19.1), p_ 7 3 0, e_ 6 (.int .i64 0), p_ 5 2 0, p_ 4 1 0, p_ 3 0 0] [((((kd_Config).cells x0 sv0).map EV.v), 29), ((((kd_Standing).cells x1 sv1).map EV.v), 55), ((((kd_Request).cells x2 sv2).map EV.v), 45), ([.v (.int .i64 x2.Op), .v (.int .i64 x2.Port), .v (.int .u64 x2.Addr), .v (.slice ((sv2 0).1) x2.Data.length ((sv2 0).2)), .v (.slice ((sv0 0).1) x0.Parts.length ((sv0 0).2)), .v (.slice ((sv0 1).1) x0.Chans.length ((sv0 1).2)), .v (.int .i64 x0.Frames.e0.Length), .v (.slice ((sv0 2).1) x0.Frames.e0.Windows.length ((sv0 2).2)), .v (.int .i64 x0.Frames.e1.Length), .v (.slice ((sv0 3).1) x0.Frames.e1.Windows.length ((sv0 3).2)), .v (.int .i64 x1.Part), .v (.bool x1.Normal), .v (.slice ((sv1 0).1) x1.Made.length ((sv1 0).2)), .v (.slice ((sv1 1).1) x1.Valid.length ((sv1 1).2)), .v (.int .i64 0), .v (.int .i64 0), .v (.int .i64 0), .v (.int .i64 0), .v (.int .i64 0), .v (.int .i64 0), .v (.int .u32 0), .v (.bool false), .v (.bool false)], 211)]) (by kernel_rfl) (fun ns_23 a w_24 hI => ?_)
    refine cond_ hI (t_19.2.2.2) rfl (fun hc_25 => ?_) (fun hc_25 => ?_)
    ·replace H0 := bif_t hc_25 H0
     replace hI := hI.fin (live := [50, 10, 9, 8, 7, 6, 5, 4, 3]) (σ2 := (s_ [e_ 50 (.bool t_19.2.2.2), e_ 10 (.bool t_19.2.2.1), e_ 9 (.int .i64 t_19.2.1), e_ 8 (.int .i64 t_19.1), p_ 7 3 0, e_ 6 (.int .i64 0), p_ 5 2 0, p_ 4 1 0, p_ 3 0 0] [((((kd_Config).cells x0 sv0).map EV.v), 29), ((((kd_Standing).cells x1 sv1).map EV.v), 55), ((((kd_Request).cells x2 sv2).map EV.v), 45), ([.v (.int .i64 x2.Op), .v (.int .i64 x2.Port), .v (.int .u64 x2.Addr), .v (.slice ((sv2 0).1) x2.Data.length ((sv2 0).2)), .v (.slice ((sv0 0).1) x0.Parts.length ((sv0 0).2)), .v (.slice ((sv0 1).1) x0.Chans.length ((sv0 1).2)), .v (.int .i64 x0.Frames.e0.Length), .v (.slice ((sv0 2).1) x0.Frames.e0.Windows.length ((sv0 2).2)), .v (.int .i64 x0.Frames.e1.Length), .v (.slice ((sv0 3).1) x0.Frames.e1.Windows.length ((sv0 3).2)), .v (.int .i64 x1.Part), .v (.bool x1.Normal), .v (.slice ((sv1 0).1) x1.Made.length ((sv1 0).2)), .v (.slice ((sv1 1).1) x1.Valid.length ((sv1 1).2)), .v (.int .i64 0), .v (.int .i64 0), .v (.int .i64 0), .v (.int .i64 0), .v (.int .i64 0), .v (.int .i64 0), .v (.int .u32 0), .v (.bool false), .v (.bool false)], 211)])) (by kernel_rfl)
     obtain ⟨hN_26, H0⟩ := req_some H0
     obtain ⟨sv_27, hE_29, hA_28⟩ := Arr.elB (d := kd_Chan) hx0.2.1.1 t_19.1 true (fun _ => hN_26)
     replace hE_29 := hE_29 rfl
     replace hA_28 := fun (_ : true = true) => hA_28 rfl
     refine drawnS_ hI (by kernel_rfl) [.q 51 (.p 0 1) [], .q 52 (.v (.slice ((sv0 1).1) x0.Chans.length ((sv0 1).2))) [], .q 53 (.v (.int .i64 t_19.1)) [], .q 54 (.v (.pointer (some ((adr ((sv0 1).1)).add ((t_19.1 : Int).toNat * 7))))) [.need true ((0 : Int) ≤ t_19.1 ∧ t_19.1 < (x0.Chans.length : Int)), .need true ((sv0 1).1 = some (adr ((sv0 1).1)))], .q 55 (.v (.agg ((kd_Chan).cells (rd x0.Chans t_19.1) sv_27).toArray)) [.cell true ((adr ((sv0 1).1)).add ((t_19.1 : Int).toNat * 7)) ((kd_Chan).cells (rd x0.Chans t_19.1) sv_27)], .q 56 (.v (.bool t_19.2.2.1)) [], .q 57 (.v (.int .i64 t_19.2.1)) [], .q 58 (.p 1 0) [], .q 59 (.v (.int .i64 x1.Part)) [], .q 60 (.v (.bool (t_19.2.1 == x1.Part))) [], .q 61 (.p 3 14) [], .no, .q 62 (.p 3 21) [], .no, .q 63 (.p 3 22) [], .no] (by kernel_rfl) (fun fuel listed w_30 hJ hsz hu => ?_)
     refine stage_ hJ hF hsz hu [.q [] [], .q [0] [], .q [] [], .q [1, 2] [], .q [3] [(kd_Chan).cells (rd x0.Chans t_19.1) sv_27], .q [] [], .q [] [], .q [] [], .q [7] [], .q [6, 8] [], .q [] [], .no, .q [] [], .no, .q [] [], .no] (by kernel_rfl) (by kernel_rfl) (by kernel_rfl) (by kernel_rfl) 11 rfl (by kernel_rfl) (by kernel_rfl) [10, 4] rfl (by kernel_rfl) (by kernel_rfl) ⟨ob_inb (fun _ => hN_26), hA_28, ob_el (fun _ => hE_29) 0 ((kd_Chan).cells (rd x0.Chans t_19.1) sv_27) rfl, trivial⟩ [0, 1, 2, 3, 4, 10] (by kernel_rfl) [.t (some 51) (some (.p 0 1)), .t (some 52) (some (.v (.slice ((sv0 1).1) x0.Chans.length ((sv0 1).2)))), .t (some 53) (some (.v (.int .i64 t_19.1))), .t (some 54) (some (.v (.pointer (some ((adr ((sv0 1).1)).add ((t_19.1 : Int).toNat * 7)))))), .t (some 55) (some (.v (.agg ((kd_Chan).cells (rd x0.Chans t_19.1) sv_27).toArray))), .q 56 (.v (.bool t_19.2.2.1)) [], .q 57 (.v (.int .i64 t_19.2.1)) [], .q 58 (.p 1 0) [], .q 59 (.v (.int .i64 x1.Part)) [], .q 60 (.v (.bool (t_19.2.1 == x1.Part))) [], .t (some 61) (some (.p 3 14)), .no, .q 62 (.p 3 21) [], .no, .q 63 (.p 3 22) [], .no] (by kernel_rfl) (fun fuel listed a w_31 hJ hI hW h1 hnl hsz hu => ?_)
     refine store_ hF hI hW rfl rfl (k := 3) (cs := [.v (.int .i64 x2.Op), .v (.int .i64 x2.Port), .v (.int .u64 x2.Addr), .v (.slice ((sv2 0).1) x2.Data.length ((sv2 0).2)), .v (.slice ((sv0 0).1) x0.Parts.length ((sv0 0).2)), .v (.slice ((sv0 1).1) x0.Chans.length ((sv0 1).2)), .v (.int .i64 x0.Frames.e0.Length), .v (.slice ((sv0 2).1) x0.Frames.e0.Windows.length ((sv0 2).2)), .v (.int .i64 x0.Frames.e1.Length), .v (.slice ((sv0 3).1) x0.Frames.e1.Windows.length ((sv0 3).2)), .v (.int .i64 x1.Part), .v (.bool x1.Normal), .v (.slice ((sv1 0).1) x1.Made.length ((sv1 0).2)), .v (.slice ((sv1 1).1) x1.Valid.length ((sv1 1).2)), .v (.int .i64 ((rd x0.Chans t_19.1).Kind)), .v (.int .i64 ((rd x0.Chans t_19.1).From)), .v (.int .i64 ((rd x0.Chans t_19.1).To)), .v (.int .i64 ((rd x0.Chans t_19.1).Words)), .v (.int .i64 ((rd x0.Chans t_19.1).Depth)), .v (.int .i64 ((rd x0.Chans t_19.1).Period)), .v (.int .u32 ((rd x0.Chans t_19.1).Boot)), .v (.bool false), .v (.bool false)]) (T := 211) (by kernel_rfl) (by kernel_rfl) rfl (fun a w_32 hput hI => ?_)
     refine next_ hJ h1 hnl hsz hu (by kernel_rfl) (by kernel_rfl) hput hI (live := [50, 10, 9, 8, 7, 6, 5, 4, 3]) (s_ [e_ 50 (.bool t_19.2.2.2), e_ 10 (.bool t_19.2.2.1), e_ 9 (.int .i64 t_19.2.1), e_ 8 (.int .i64 t_19.1), p_ 7 3 0, e_ 6 (.int .i64 0), p_ 5 2 0, p_ 4 1 0, p_ 3 0 0] [((((kd_Config).cells x0 sv0).map EV.v), 29), ((((kd_Standing).cells x1 sv1).map EV.v), 55), ((((kd_Request).cells x2 sv2).map EV.v), 45), ([.v (.int .i64 x2.Op), .v (.int .i64 x2.Port), .v (.int .u64 x2.Addr), .v (.slice ((sv2 0).1) x2.Data.length ((sv2 0).2)), .v (.slice ((sv0 0).1) x0.Parts.length ((sv0 0).2)), .v (.slice ((sv0 1).1) x0.Chans.length ((sv0 1).2)), .v (.int .i64 x0.Frames.e0.Length), .v (.slice ((sv0 2).1) x0.Frames.e0.Windows.length ((sv0 2).2)), .v (.int .i64 x0.Frames.e1.Length), .v (.slice ((sv0 3).1) x0.Frames.e1.Windows.length ((sv0 3).2)), .v (.int .i64 x1.Part), .v (.bool x1.Normal), .v (.slice ((sv1 0).1) x1.Made.length ((sv1 0).2)), .v (.slice ((sv1 1).1) x1.Valid.length ((sv1 1).2)), .v (.int .i64 ((rd x0.Chans t_19.1).Kind)), .v (.int .i64 ((rd x0.Chans t_19.1).From)), .v (.int .i64 ((rd x0.Chans t_19.1).To)), .v (.int .i64 ((rd x0.Chans t_19.1).Words)), .v (.int .i64 ((rd x0.Chans t_19.1).Depth)), .v (.int .i64 ((rd x0.Chans t_19.1).Period)), .v (.int .u32 ((rd x0.Chans t_19.1).Boot)), .v (.bool false), .v (.bool false)], 211)]) (by kernel_rfl) none (by kernel_rfl) [] [.t (some 51) (some (.p 0 1)), .t (some 52) (some (.v (.slice ((sv0 1).1) x0.Chans.length ((sv0 1).2)))), .t (some 53) (some (.v (.int .i64 t_19.1))), .t (some 54) (some (.v (.pointer (some ((adr ((sv0 1).1)).add ((t_19.1 : Int).toNat * 7)))))), .t (some 55) (some (.v (.agg ((kd_Chan).cells (rd x0.Chans t_19.1) sv_27).toArray))), .q 56 (.v (.bool t_19.2.2.1)) [], .q 57 (.v (.int .i64 t_19.2.1)) [], .q 58 (.p 1 0) [], .q 59 (.v (.int .i64 x1.Part)) [], .q 60 (.v (.bool (t_19.2.1 == x1.Part))) [], .t (some 61) (some (.p 3 14)), .t none none, .q 62 (.p 3 21) [], .no, .q 63 (.p 3 22) [], .no] (by kernel_rfl) (by kernel_rfl) (by kernel_rfl) True.intro (AL.none (by kernel_rfl)) (fun hJ hsz hu => ?_)
     refine stage_ hJ hF hsz hu [.t (some (.p 0 1)), .t (some (.v (.slice ((sv0 1).1) x0.Chans.length ((sv0 1).2)))), .t (some (.v (.int .i64 t_19.1))), .t (some (.v (.pointer (some ((adr ((sv0 1).1)).add ((t_19.1 : Int).toNat * 7)))))), .t (some (.v (.agg ((kd_Chan).cells (rd x0.Chans t_19.1) sv_27).toArray))), .q [] [], .q [] [], .q [] [], .q [7] [], .q [6, 8] [], .t (some (.p 3 14)), .t none, .q [] [], .no, .q [] [], .no] (by kernel_rfl) (by kernel_rfl) (by kernel_rfl) (by kernel_rfl) 13 rfl (by kernel_rfl) (by kernel_rfl) [12, 5] rfl (by kernel_rfl) (by kernel_rfl) trivial [5, 12] (by kernel_rfl) [.t (some 51) (some (.p 0 1)), .t (some 52) (some (.v (.slice ((sv0 1).1) x0.Chans.length ((sv0 1).2)))), .t (some 53) (some (.v (.int .i64 t_19.1))), .t (some 54) (some (.v (.pointer (some ((adr ((sv0 1).1)).add ((t_19.1 : Int).toNat * 7)))))), .t (some 55) (some (.v (.agg ((kd_Chan).cells (rd x0.Chans t_19.1) sv_27).toArray))), .t (some 56) (some (.v (.bool t_19.2.2.1))), .q 57 (.v (.int .i64 t_19.2.1)) [], .q 58 (.p 1 0) [], .q 59 (.v (.int .i64 x1.Part)) [], .q 60 (.v (.bool (t_19.2.1 == x1.Part))) [], .t (some 61) (some (.p 3 14)), .t none none, .t (some 62) (some (.p 3 21)), .no, .q 63 (.p 3 22) [], .no] (by kernel_rfl) (fun fuel listed a w_33 hJ hI hW h1 hnl hsz hu => ?_)
     refine store_ hF hI hW rfl rfl (k := 3) (cs := [.v (.int .i64 x2.Op), .v (.int .i64 x2.Port), .v (.int .u64 x2.Addr), .v (.slice ((sv2 0).1) x2.Data.length ((sv2 0).2)), .v (.slice ((sv0 0).1) x0.Parts.length ((sv0 0).2)), .v (.slice ((sv0 1).1) x0.Chans.length ((sv0 1).2)), .v (.int .i64 x0.Frames.e0.Length), .v (.slice ((sv0 2).1) x0.Frames.e0.Windows.length ((sv0 2).2)), .v (.int .i64 x0.Frames.e1.Length), .v (.slice ((sv0 3).1) x0.Frames.e1.Windows.length ((sv0 3).2)), .v (.int .i64 x1.Part), .v (.bool x1.Normal), .v (.slice ((sv1 0).1) x1.Made.length ((sv1 0).2)), .v (.slice ((sv1 1).1) x1.Valid.length ((sv1 1).2)), .v (.int .i64 ((rd x0.Chans t_19.1).Kind)), .v (.int .i64 ((rd x0.Chans t_19.1).From)), .v (.int .i64 ((rd x0.Chans t_19.1).To)), .v (.int .i64 ((rd x0.Chans t_19.1).Words)), .v (.int .i64 ((rd x0.Chans t_19.1).Depth)), .v (.int .i64 ((rd x0.Chans t_19.1).Period)), .v (.int .u32 ((rd x0.Chans t_19.1).Boot)), .v (.bool t_19.2.2.1), .v (.bool false)]) (T := 211) (by kernel_rfl) (by kernel_rfl) rfl (fun a w_34 hput hI => ?_)
     refine next_ hJ h1 hnl hsz hu (by kernel_rfl) (by kernel_rfl) hput hI (live := [50, 10, 9, 8, 7, 6, 5, 4, 3]) (s_ [e_ 50 (.bool t_19.2.2.2), e_ 10 (.bool t_19.2.2.1), e_ 9 (.int .i64 t_19.2.1), e_ 8 (.int .i64 t_19.1), p_ 7 3 0, e_ 6 (.int .i64 0), p_ 5 2 0, p_ 4 1 0, p_ 3 0 0] [((((kd_Config).cells x0 sv0).map EV.v), 29), ((((kd_Standing).cells x1 sv1).map EV.v), 55), ((((kd_Request).cells x2 sv2).map EV.v), 45), ([.v (.int .i64 x2.Op), .v (.int .i64 x2.Port), .v (.int .u64 x2.Addr), .v (.slice ((sv2 0).1) x2.Data.length ((sv2 0).2)), .v (.slice ((sv0 0).1) x0.Parts.length ((sv0 0).2)), .v (.slice ((sv0 1).1) x0.Chans.length ((sv0 1).2)), .v (.int .i64 x0.Frames.e0.Length), .v (.slice ((sv0 2).1) x0.Frames.e0.Windows.length ((sv0 2).2)), .v (.int .i64 x0.Frames.e1.Length), .v (.slice ((sv0 3).1) x0.Frames.e1.Windows.length ((sv0 3).2)), .v (.int .i64 x1.Part), .v (.bool x1.Normal), .v (.slice ((sv1 0).1) x1.Made.length ((sv1 0).2)), .v (.slice ((sv1 1).1) x1.Valid.length ((sv1 1).2)), .v (.int .i64 ((rd x0.Chans t_19.1).Kind)), .v (.int .i64 ((rd x0.Chans t_19.1).From)), .v (.int .i64 ((rd x0.Chans t_19.1).To)), .v (.int .i64 ((rd x0.Chans t_19.1).Words)), .v (.int .i64 ((rd x0.Chans t_19.1).Depth)), .v (.int .i64 ((rd x0.Chans t_19.1).Period)), .v (.int .u32 ((rd x0.Chans t_19.1).Boot)), .v (.bool t_19.2.2.1), .v (.bool false)], 211)]) (by kernel_rfl) none (by kernel_rfl) [] [.t (some 51) (some (.p 0 1)), .t (some 52) (some (.v (.slice ((sv0 1).1) x0.Chans.length ((sv0 1).2)))), .t (some 53) (some (.v (.int .i64 t_19.1))), .t (some 54) (some (.v (.pointer (some ((adr ((sv0 1).1)).add ((t_19.1 : Int).toNat * 7)))))), .t (some 55) (some (.v (.agg ((kd_Chan).cells (rd x0.Chans t_19.1) sv_27).toArray))), .t (some 56) (some (.v (.bool t_19.2.2.1))), .q 57 (.v (.int .i64 t_19.2.1)) [], .q 58 (.p 1 0) [], .q 59 (.v (.int .i64 x1.Part)) [], .q 60 (.v (.bool (t_19.2.1 == x1.Part))) [], .t (some 61) (some (.p 3 14)), .t none none, .t (some 62) (some (.p 3 21)), .t none none, .q 63 (.p 3 22) [], .no] (by kernel_rfl) (by kernel_rfl) (by kernel_rfl) True.intro (AL.none (by kernel_rfl)) (fun hJ hsz hu => ?_)
     refine stage_ hJ hF hsz hu [.t (some (.p 0 1)), .t (some (.v (.slice ((sv0 1).1) x0.Chans.length ((sv0 1).2)))), .t (some (.v (.int .i64 t_19.1))), .t (some (.v (.pointer (some ((adr ((sv0 1).1)).add ((t_19.1 : Int).toNat * 7)))))), .t (some (.v (.agg ((kd_Chan).cells (rd x0.Chans t_19.1) sv_27).toArray))), .t (some (.v (.bool t_19.2.2.1))), .q [] [], .q [] [], .q [7] [], .q [6, 8] [], .t (some (.p 3 14)), .t none, .t (some (.p 3 21)), .t none, .q [] [], .no] (by kernel_rfl) (by kernel_rfl) (by kernel_rfl) (by kernel_rfl) 15 rfl (by kernel_rfl) (by kernel_rfl) [14, 9] rfl (by kernel_rfl) (by kernel_rfl) trivial [6, 7, 8, 9, 14] (by kernel_rfl) [.t (some 51) (some (.p 0 1)), .t (some 52) (some (.v (.slice ((sv0 1).1) x0.Chans.length ((sv0 1).2)))), .t (some 53) (some (.v (.int .i64 t_19.1))), .t (some 54) (some (.v (.pointer (some ((adr ((sv0 1).1)).add ((t_19.1 : Int).toNat * 7)))))), .t (some 55) (some (.v (.agg ((kd_Chan).cells (rd x0.Chans t_19.1) sv_27).toArray))), .t (some 56) (some (.v (.bool t_19.2.2.1))), .t (some 57) (some (.v (.int .i64 t_19.2.1))), .t (some 58) (some (.p 1 0)), .t (some 59) (some (.v (.int .i64 x1.Part))), .t (some 60) (some (.v (.bool (t_19.2.1 == x1.Part)))), .t (some 61) (some (.p 3 14)), .t none none, .t (some 62) (some (.p 3 21)), .t none none, .t (some 63) (some (.p 3 22)), .no] (by kernel_rfl) (fun fuel listed a w_35 hJ hI hW h1 hnl hsz hu => ?_)
     refine store_ hF hI hW rfl rfl (k := 3) (cs := [.v (.int .i64 x2.Op), .v (.int .i64 x2.Port), .v (.int .u64 x2.Addr), .v (.slice ((sv2 0).1) x2.Data.length ((sv2 0).2)), .v (.slice ((sv0 0).1) x0.Parts.length ((sv0 0).2)), .v (.slice ((sv0 1).1) x0.Chans.length ((sv0 1).2)), .v (.int .i64 x0.Frames.e0.Length), .v (.slice ((sv0 2).1) x0.Frames.e0.Windows.length ((sv0 2).2)), .v (.int .i64 x0.Frames.e1.Length), .v (.slice ((sv0 3).1) x0.Frames.e1.Windows.length ((sv0 3).2)), .v (.int .i64 x1.Part), .v (.bool x1.Normal), .v (.slice ((sv1 0).1) x1.Made.length ((sv1 0).2)), .v (.slice ((sv1 1).1) x1.Valid.length ((sv1 1).2)), .v (.int .i64 ((rd x0.Chans t_19.1).Kind)), .v (.int .i64 ((rd x0.Chans t_19.1).From)), .v (.int .i64 ((rd x0.Chans t_19.1).To)), .v (.int .i64 ((rd x0.Chans t_19.1).Words)), .v (.int .i64 ((rd x0.Chans t_19.1).Depth)), .v (.int .i64 ((rd x0.Chans t_19.1).Period)), .v (.int .u32 ((rd x0.Chans t_19.1).Boot)), .v (.bool t_19.2.2.1), .v (.bool (t_19.2.1 == x1.Part))]) (T := 211) (by kernel_rfl) (by kernel_rfl) rfl (fun a w_36 hput hI => ?_)
     refine next_ hJ h1 hnl hsz hu (by kernel_rfl) (by kernel_rfl) hput hI (live := [50, 10, 9, 8, 7, 6, 5, 4, 3]) (s_ [e_ 50 (.bool t_19.2.2.2), e_ 10 (.bool t_19.2.2.1), e_ 9 (.int .i64 t_19.2.1), e_ 8 (.int .i64 t_19.1), p_ 7 3 0, e_ 6 (.int .i64 0), p_ 5 2 0, p_ 4 1 0, p_ 3 0 0] [((((kd_Config).cells x0 sv0).map EV.v), 29), ((((kd_Standing).cells x1 sv1).map EV.v), 55), ((((kd_Request).cells x2 sv2).map EV.v), 45), ([.v (.int .i64 x2.Op), .v (.int .i64 x2.Port), .v (.int .u64 x2.Addr), .v (.slice ((sv2 0).1) x2.Data.length ((sv2 0).2)), .v (.slice ((sv0 0).1) x0.Parts.length ((sv0 0).2)), .v (.slice ((sv0 1).1) x0.Chans.length ((sv0 1).2)), .v (.int .i64 x0.Frames.e0.Length), .v (.slice ((sv0 2).1) x0.Frames.e0.Windows.length ((sv0 2).2)), .v (.int .i64 x0.Frames.e1.Length), .v (.slice ((sv0 3).1) x0.Frames.e1.Windows.length ((sv0 3).2)), .v (.int .i64 x1.Part), .v (.bool x1.Normal), .v (.slice ((sv1 0).1) x1.Made.length ((sv1 0).2)), .v (.slice ((sv1 1).1) x1.Valid.length ((sv1 1).2)), .v (.int .i64 ((rd x0.Chans t_19.1).Kind)), .v (.int .i64 ((rd x0.Chans t_19.1).From)), .v (.int .i64 ((rd x0.Chans t_19.1).To)), .v (.int .i64 ((rd x0.Chans t_19.1).Words)), .v (.int .i64 ((rd x0.Chans t_19.1).Depth)), .v (.int .i64 ((rd x0.Chans t_19.1).Period)), .v (.int .u32 ((rd x0.Chans t_19.1).Boot)), .v (.bool t_19.2.2.1), .v (.bool (t_19.2.1 == x1.Part))], 211)]) (by kernel_rfl) none (by kernel_rfl) [] [.t (some 51) (some (.p 0 1)), .t (some 52) (some (.v (.slice ((sv0 1).1) x0.Chans.length ((sv0 1).2)))), .t (some 53) (some (.v (.int .i64 t_19.1))), .t (some 54) (some (.v (.pointer (some ((adr ((sv0 1).1)).add ((t_19.1 : Int).toNat * 7)))))), .t (some 55) (some (.v (.agg ((kd_Chan).cells (rd x0.Chans t_19.1) sv_27).toArray))), .t (some 56) (some (.v (.bool t_19.2.2.1))), .t (some 57) (some (.v (.int .i64 t_19.2.1))), .t (some 58) (some (.p 1 0)), .t (some 59) (some (.v (.int .i64 x1.Part))), .t (some 60) (some (.v (.bool (t_19.2.1 == x1.Part)))), .t (some 61) (some (.p 3 14)), .t none none, .t (some 62) (some (.p 3 21)), .t none none, .t (some 63) (some (.p 3 22)), .t none none] (by kernel_rfl) (by kernel_rfl) (by kernel_rfl) True.intro (AL.none (by kernel_rfl)) (fun hJ hsz hu => ?_)
     refine end_ hJ hF hsz hu [.t (some (.p 0 1)), .t (some (.v (.slice ((sv0 1).1) x0.Chans.length ((sv0 1).2)))), .t (some (.v (.int .i64 t_19.1))), .t (some (.v (.pointer (some ((adr ((sv0 1).1)).add ((t_19.1 : Int).toNat * 7)))))), .t (some (.v (.agg ((kd_Chan).cells (rd x0.Chans t_19.1) sv_27).toArray))), .t (some (.v (.bool t_19.2.2.1))), .t (some (.v (.int .i64 t_19.2.1))), .t (some (.p 1 0)), .t (some (.v (.int .i64 x1.Part))), .t (some (.v (.bool (t_19.2.1 == x1.Part)))), .t (some (.p 3 14)), .t none, .t (some (.p 3 21)), .t none, .t (some (.p 3 22)), .t none] (by kernel_rfl) (by kernel_rfl) (by kernel_rfl) (by kernel_rfl) (by kernel_rfl) (by kernel_rfl) (live := [7, 6, 5]) (s_ [p_ 7 3 0, e_ 6 (.int .i64 0), p_ 5 2 0] [((((kd_Config).cells x0 sv0).map EV.v), 29), ((((kd_Standing).cells x1 sv1).map EV.v), 55), ((((kd_Request).cells x2 sv2).map EV.v), 45), ([.v (.int .i64 x2.Op), .v (.int .i64 x2.Port), .v (.int .u64 x2.Addr), .v (.slice ((sv2 0).1) x2.Data.length ((sv2 0).2)), .v (.slice ((sv0 0).1) x0.Parts.length ((sv0 0).2)), .v (.slice ((sv0 1).1) x0.Chans.length ((sv0 1).2)), .v (.int .i64 x0.Frames.e0.Length), .v (.slice ((sv0 2).1) x0.Frames.e0.Windows.length ((sv0 2).2)), .v (.int .i64 x0.Frames.e1.Length), .v (.slice ((sv0 3).1) x0.Frames.e1.Windows.length ((sv0 3).2)), .v (.int .i64 x1.Part), .v (.bool x1.Normal), .v (.slice ((sv1 0).1) x1.Made.length ((sv1 0).2)), .v (.slice ((sv1 1).1) x1.Valid.length ((sv1 1).2)), .v (.int .i64 ((rd x0.Chans t_19.1).Kind)), .v (.int .i64 ((rd x0.Chans t_19.1).From)), .v (.int .i64 ((rd x0.Chans t_19.1).To)), .v (.int .i64 ((rd x0.Chans t_19.1).Words)), .v (.int .i64 ((rd x0.Chans t_19.1).Depth)), .v (.int .i64 ((rd x0.Chans t_19.1).Period)), .v (.int .u32 ((rd x0.Chans t_19.1).Boot)), .v (.bool t_19.2.2.1), .v (.bool (t_19.2.1 == x1.Part))], 211)]) (by kernel_rfl) trivial (fun a w_37 hI => ?_)
     refine then_normal ?_
     refine sr0_ hF hI (s_ [e_ 12 (.int .u8 (IntKind.u8.wrap (IntKind.i64.wrap (48 + x2.Op)))), p_ 7 3 0, e_ 6 (.int .i64 0)] [((((kd_Config).cells x0 sv0).map EV.v), 29), ((((kd_Standing).cells x1 sv1).map EV.v), 55), ((((kd_Request).cells x2 sv2).map EV.v), 45), ([.v (.int .i64 x2.Op), .v (.int .i64 x2.Port), .v (.int .u64 x2.Addr), .v (.slice ((sv2 0).1) x2.Data.length ((sv2 0).2)), .v (.slice ((sv0 0).1) x0.Parts.length ((sv0 0).2)), .v (.slice ((sv0 1).1) x0.Chans.length ((sv0 1).2)), .v (.int .i64 x0.Frames.e0.Length), .v (.slice ((sv0 2).1) x0.Frames.e0.Windows.length ((sv0 2).2)), .v (.int .i64 x0.Frames.e1.Length), .v (.slice ((sv0 3).1) x0.Frames.e1.Windows.length ((sv0 3).2)), .v (.int .i64 x1.Part), .v (.bool x1.Normal), .v (.slice ((sv1 0).1) x1.Made.length ((sv1 0).2)), .v (.slice ((sv1 1).1) x1.Valid.length ((sv1 1).2)), .v (.int .i64 ((rd x0.Chans t_19.1).Kind)), .v (.int .i64 ((rd x0.Chans t_19.1).From)), .v (.int .i64 ((rd x0.Chans t_19.1).To)), .v (.int .i64 ((rd x0.Chans t_19.1).Words)), .v (.int .i64 ((rd x0.Chans t_19.1).Depth)), .v (.int .i64 ((rd x0.Chans t_19.1).Period)), .v (.int .u32 ((rd x0.Chans t_19.1).Boot)), .v (.bool t_19.2.2.1), .v (.bool (t_19.2.1 == x1.Part))], 211)]) (by kernel_rfl) (fun ns_38 a w_39 hI => ?_)
     refine wpIn_seq ?_
     refine wpIn_seq ?_
     refine wpIn_region_lit ?_
     obtain ⟨hE', hmv, hmr⟩ := Ep.rebase hE hI
     replace hx0 := Kd.keep _ hx0 (hmv _)
     replace hx1 := Kd.keep _ hx1 (hmv _)
     replace hx2 := Kd.keep _ hx2 (hmv _)
     replace hg0 := El.keep hg0 (hmv _)
     replace hE_29 := El.keep hE_29 (hmv _)
     replace hE := hE'; replace hI := hI.rebase; clear hE' hmv hmr
     obtain ⟨t_40, hG_41, H0⟩ := bind_some H0
     refine callH_ hF hE hI (wanted_none rfl) rfl (args := []) rfl (enters Tryz.func115 (by kernel_rfl) rfl) (fun sv_42 => .slice ((sv_42 0).1) t_40.length ((sv_42 0).2)) _ (G_sign_rows.calls   w_39 (S := Lo S w w_39 ns_38 [])  _ hG_41) (fun sv_42 => (s_ [e_ 68 (.slice ((sv_42 0).1) t_40.length ((sv_42 0).2)), e_ 12 (.int .u8 (IntKind.u8.wrap (IntKind.i64.wrap (48 + x2.Op)))), p_ 7 3 0, e_ 6 (.int .i64 0)] [((((kd_Config).cells x0 sv0).map EV.v), 29), ((((kd_Standing).cells x1 sv1).map EV.v), 55), ((((kd_Request).cells x2 sv2).map EV.v), 45), ([.v (.int .i64 x2.Op), .v (.int .i64 x2.Port), .v (.int .u64 x2.Addr), .v (.slice ((sv2 0).1) x2.Data.length ((sv2 0).2)), .v (.slice ((sv0 0).1) x0.Parts.length ((sv0 0).2)), .v (.slice ((sv0 1).1) x0.Chans.length ((sv0 1).2)), .v (.int .i64 x0.Frames.e0.Length), .v (.slice ((sv0 2).1) x0.Frames.e0.Windows.length ((sv0 2).2)), .v (.int .i64 x0.Frames.e1.Length), .v (.slice ((sv0 3).1) x0.Frames.e1.Windows.length ((sv0 3).2)), .v (.int .i64 x1.Part), .v (.bool x1.Normal), .v (.slice ((sv1 0).1) x1.Made.length ((sv1 0).2)), .v (.slice ((sv1 1).1) x1.Valid.length ((sv1 1).2)), .v (.int .i64 ((rd x0.Chans t_19.1).Kind)), .v (.int .i64 ((rd x0.Chans t_19.1).From)), .v (.int .i64 ((rd x0.Chans t_19.1).To)), .v (.int .i64 ((rd x0.Chans t_19.1).Words)), .v (.int .i64 ((rd x0.Chans t_19.1).Depth)), .v (.int .i64 ((rd x0.Chans t_19.1).Period)), .v (.int .u32 ((rd x0.Chans t_19.1).Boot)), .v (.bool t_19.2.2.1), .v (.bool (t_19.2.1 == x1.Part))], 211)])) (fun sv_42 => by kernel_rfl) (fun sv_42 a w_44 hput hE' hI' hmv hmr hres hR => ?_)
     replace hx0 := Kd.keep _ hx0 (hmv _)
     replace hx1 := Kd.keep _ hx1 (hmv _)
     replace hx2 := Kd.keep _ hx2 (hmv _)
     replace hg0 := El.keep hg0 (hmv _)
     replace hE_29 := El.keep hE_29 (hmv _)
     replace hE := hE'; replace hI := hI'; clear hE' hI' hmv hmr
     obtain ⟨hR_43, hR_43c⟩ := hR
     replace hR_43 := Arr.keep hR_43 (hres _)
     clear hres
     refine ck0_ hF 2 hI (s_ [e_ 70 (.int .i64 0), e_ 69 (.int .i64 (t_40.length : Int)), e_ 68 (.slice ((sv_42 0).1) t_40.length ((sv_42 0).2)), e_ 12 (.int .u8 (IntKind.u8.wrap (IntKind.i64.wrap (48 + x2.Op)))), p_ 7 3 0, e_ 6 (.int .i64 0)] [((((kd_Config).cells x0 sv0).map EV.v), 29), ((((kd_Standing).cells x1 sv1).map EV.v), 55), ((((kd_Request).cells x2 sv2).map EV.v), 45), ([.v (.int .i64 x2.Op), .v (.int .i64 x2.Port), .v (.int .u64 x2.Addr), .v (.slice ((sv2 0).1) x2.Data.length ((sv2 0).2)), .v (.slice ((sv0 0).1) x0.Parts.length ((sv0 0).2)), .v (.slice ((sv0 1).1) x0.Chans.length ((sv0 1).2)), .v (.int .i64 x0.Frames.e0.Length), .v (.slice ((sv0 2).1) x0.Frames.e0.Windows.length ((sv0 2).2)), .v (.int .i64 x0.Frames.e1.Length), .v (.slice ((sv0 3).1) x0.Frames.e1.Windows.length ((sv0 3).2)), .v (.int .i64 x1.Part), .v (.bool x1.Normal), .v (.slice ((sv1 0).1) x1.Made.length ((sv1 0).2)), .v (.slice ((sv1 1).1) x1.Valid.length ((sv1 1).2)), .v (.int .i64 ((rd x0.Chans t_19.1).Kind)), .v (.int .i64 ((rd x0.Chans t_19.1).From)), .v (.int .i64 ((rd x0.Chans t_19.1).To)), .v (.int .i64 ((rd x0.Chans t_19.1).Words)), .v (.int .i64 ((rd x0.Chans t_19.1).Depth)), .v (.int .i64 ((rd x0.Chans t_19.1).Period)), .v (.int .u32 ((rd x0.Chans t_19.1).Boot)), .v (.bool t_19.2.2.1), .v (.bool (t_19.2.1 == x1.Part))], 211)]) rfl (by kernel_rfl) (fun ns_45 a w_46 hI => ?_)
     refine wpListIn_nil ?_
     refine then_normal ?_
     obtain ⟨hE', hmv, hmr⟩ := Ep.rebase hE hI
     replace hx0 := Kd.keep _ hx0 (hmv _)
     replace hx1 := Kd.keep _ hx1 (hmv _)
     replace hx2 := Kd.keep _ hx2 (hmv _)
     replace hg0 := El.keep hg0 (hmv _)
     replace hE_29 := El.keep hE_29 (hmv _)
     replace hR_43 := Arr.keep hR_43 (hmv _)
     replace hE := hE'; replace hI := hI.rebase; clear hE' hmv hmr
     obtain ⟨o_77, hL_78, H0⟩ := bind_some H0
     refine block_loop (fun (s1 : Int × Int) a w_84 => ∃ (ow ns : List Nat) , ((kd_Config).cont (Lo S w w_84 ow []) w_84 x0 sv0) ∧ ((kd_Standing).cont (Lo S w w_84 ow []) w_84 x1 sv1) ∧ ((kd_Request).cont (Lo S w w_84 ow []) w_84 x2 sv2) ∧ (El kd_St257 (Lo S w w_84 ow []) w_84 ⟨0, 0, none⟩ gv0 (svL [])) ∧ (El kd_Chan (Lo S w w_84 ow []) w_84 ((adr ((sv0 1).1)).add ((t_19.1 : Int).toNat * 7)) (rd x0.Chans t_19.1) sv_27) ∧ (Arr kd_Sign_row (Lo S w w_84 ow []) w_84 (sv_42 0).1 t_40) ∧ Ep [] w w_84 ow [] ∧ St w_84 ow 88 (s_ [e_ 70 (.int .i64 s1.1), e_ 69 (.int .i64 (t_40.length : Int)), e_ 68 (.slice ((sv_42 0).1) t_40.length ((sv_42 0).2)), e_ 12 (.int .u8 (IntKind.u8.wrap (IntKind.i64.wrap (48 + x2.Op)))), p_ 7 3 0, e_ 6 (.int .i64 s1.2)] [((((kd_Config).cells x0 sv0).map EV.v), 29), ((((kd_Standing).cells x1 sv1).map EV.v), 55), ((((kd_Request).cells x2 sv2).map EV.v), 45), ([.v (.int .i64 x2.Op), .v (.int .i64 x2.Port), .v (.int .u64 x2.Addr), .v (.slice ((sv2 0).1) x2.Data.length ((sv2 0).2)), .v (.slice ((sv0 0).1) x0.Parts.length ((sv0 0).2)), .v (.slice ((sv0 1).1) x0.Chans.length ((sv0 1).2)), .v (.int .i64 x0.Frames.e0.Length), .v (.slice ((sv0 2).1) x0.Frames.e0.Windows.length ((sv0 2).2)), .v (.int .i64 x0.Frames.e1.Length), .v (.slice ((sv0 3).1) x0.Frames.e1.Windows.length ((sv0 3).2)), .v (.int .i64 x1.Part), .v (.bool x1.Normal), .v (.slice ((sv1 0).1) x1.Made.length ((sv1 0).2)), .v (.slice ((sv1 1).1) x1.Valid.length ((sv1 1).2)), .v (.int .i64 ((rd x0.Chans t_19.1).Kind)), .v (.int .i64 ((rd x0.Chans t_19.1).From)), .v (.int .i64 ((rd x0.Chans t_19.1).To)), .v (.int .i64 ((rd x0.Chans t_19.1).Words)), .v (.int .i64 ((rd x0.Chans t_19.1).Depth)), .v (.int .i64 ((rd x0.Chans t_19.1).Period)), .v (.int .u32 ((rd x0.Chans t_19.1).Boot)), .v (.bool t_19.2.2.1), .v (.bool (t_19.2.1 == x1.Part))], 211)]) ns a w_84) (0, 0) hL_78 ⟨_, _, hx0, hx1, hx2, hg0, hE_29, hR_43, hE, hI.pick [70, 69, 68, 12, 7, 6] 4 (s_ [e_ 70 (.int .i64 0), e_ 69 (.int .i64 (t_40.length : Int)), e_ 68 (.slice ((sv_42 0).1) t_40.length ((sv_42 0).2)), e_ 12 (.int .u8 (IntKind.u8.wrap (IntKind.i64.wrap (48 + x2.Op)))), p_ 7 3 0, e_ 6 (.int .i64 0)] [((((kd_Config).cells x0 sv0).map EV.v), 29), ((((kd_Standing).cells x1 sv1).map EV.v), 55), ((((kd_Request).cells x2 sv2).map EV.v), 45), ([.v (.int .i64 x2.Op), .v (.int .i64 x2.Port), .v (.int .u64 x2.Addr), .v (.slice ((sv2 0).1) x2.Data.length ((sv2 0).2)), .v (.slice ((sv0 0).1) x0.Parts.length ((sv0 0).2)), .v (.slice ((sv0 1).1) x0.Chans.length ((sv0 1).2)), .v (.int .i64 x0.Frames.e0.Length), .v (.slice ((sv0 2).1) x0.Frames.e0.Windows.length ((sv0 2).2)), .v (.int .i64 x0.Frames.e1.Length), .v (.slice ((sv0 3).1) x0.Frames.e1.Windows.length ((sv0 3).2)), .v (.int .i64 x1.Part), .v (.bool x1.Normal), .v (.slice ((sv1 0).1) x1.Made.length ((sv1 0).2)), .v (.slice ((sv1 1).1) x1.Valid.length ((sv1 1).2)), .v (.int .i64 ((rd x0.Chans t_19.1).Kind)), .v (.int .i64 ((rd x0.Chans t_19.1).From)), .v (.int .i64 ((rd x0.Chans t_19.1).To)), .v (.int .i64 ((rd x0.Chans t_19.1).Words)), .v (.int .i64 ((rd x0.Chans t_19.1).Depth)), .v (.int .i64 ((rd x0.Chans t_19.1).Period)), .v (.int .u32 ((rd x0.Chans t_19.1).Boot)), .v (.bool t_19.2.2.1), .v (.bool (t_19.2.1 == x1.Part))], 211)]) (by kernel_rfl)⟩ ?_ ?_
     ·clear hI hE
      rintro s1 a w_47 ⟨ow_49, ns_48, hx0, hx1, hx2, hg0, hE_29, hR_43, hE, hI⟩ r1 H1
      unfold G_sign_Refused.b1 at H1
      refine sr0_ hF hI (s_ [e_ 71 (.bool (decide (s1.1 < (t_40.length : Int)))), e_ 70 (.int .i64 s1.1), e_ 69 (.int .i64 (t_40.length : Int)), e_ 68 (.slice ((sv_42 0).1) t_40.length ((sv_42 0).2)), e_ 12 (.int .u8 (IntKind.u8.wrap (IntKind.i64.wrap (48 + x2.Op)))), p_ 7 3 0, e_ 6 (.int .i64 s1.2)] [((((kd_Config).cells x0 sv0).map EV.v), 29), ((((kd_Standing).cells x1 sv1).map EV.v), 55), ((((kd_Request).cells x2 sv2).map EV.v), 45), ([.v (.int .i64 x2.Op), .v (.int .i64 x2.Port), .v (.int .u64 x2.Addr), .v (.slice ((sv2 0).1) x2.Data.length ((sv2 0).2)), .v (.slice ((sv0 0).1) x0.Parts.length ((sv0 0).2)), .v (.slice ((sv0 1).1) x0.Chans.length ((sv0 1).2)), .v (.int .i64 x0.Frames.e0.Length), .v (.slice ((sv0 2).1) x0.Frames.e0.Windows.length ((sv0 2).2)), .v (.int .i64 x0.Frames.e1.Length), .v (.slice ((sv0 3).1) x0.Frames.e1.Windows.length ((sv0 3).2)), .v (.int .i64 x1.Part), .v (.bool x1.Normal), .v (.slice ((sv1 0).1) x1.Made.length ((sv1 0).2)), .v (.slice ((sv1 1).1) x1.Valid.length ((sv1 1).2)), .v (.int .i64 ((rd x0.Chans t_19.1).Kind)), .v (.int .i64 ((rd x0.Chans t_19.1).From)), .v (.int .i64 ((rd x0.Chans t_19.1).To)), .v (.int .i64 ((rd x0.Chans t_19.1).Words)), .v (.int .i64 ((rd x0.Chans t_19.1).Depth)), .v (.int .i64 ((rd x0.Chans t_19.1).Period)), .v (.int .u32 ((rd x0.Chans t_19.1).Boot)), .v (.bool t_19.2.2.1), .v (.bool (t_19.2.1 == x1.Part))], 211)]) (by kernel_rfl) (fun ns_50 a w_51 hI => ?_)
      refine wpIn_seq ?_
      refine cond_ hI (decide (s1.1 < (t_40.length : Int))) rfl (fun hc_52 => ?_) (fun hc_52 => ?_)
      ·replace H1 := bif_t hc_52 H1
       refine wpIn_skip ?_
       refine then_normal ?_
       refine wpIn_seq ?_
       refine wpIn_block ?_
       obtain ⟨hN_53, H1⟩ := req_some H1
       obtain ⟨sv_54, hE_56, hA_55⟩ := Arr.elB (d := kd_Sign_row) hR_43 s1.1 true (fun _ => hN_53)
       replace hE_56 := hE_56 rfl
       replace hA_55 := fun (_ : true = true) => hA_55 rfl
       refine sr_ (orc := [(kd_Sign_row).cells (rd t_40 s1.1) sv_54]) hF hI (s_ [p_ 14 4 0, e_ 70 (.int .i64 s1.1), e_ 69 (.int .i64 (t_40.length : Int)), e_ 68 (.slice ((sv_42 0).1) t_40.length ((sv_42 0).2)), e_ 12 (.int .u8 (IntKind.u8.wrap (IntKind.i64.wrap (48 + x2.Op)))), p_ 7 3 0, e_ 6 (.int .i64 s1.2)] [((((kd_Config).cells x0 sv0).map EV.v), 29), ((((kd_Standing).cells x1 sv1).map EV.v), 55), ((((kd_Request).cells x2 sv2).map EV.v), 45), ([.v (.int .i64 x2.Op), .v (.int .i64 x2.Port), .v (.int .u64 x2.Addr), .v (.slice ((sv2 0).1) x2.Data.length ((sv2 0).2)), .v (.slice ((sv0 0).1) x0.Parts.length ((sv0 0).2)), .v (.slice ((sv0 1).1) x0.Chans.length ((sv0 1).2)), .v (.int .i64 x0.Frames.e0.Length), .v (.slice ((sv0 2).1) x0.Frames.e0.Windows.length ((sv0 2).2)), .v (.int .i64 x0.Frames.e1.Length), .v (.slice ((sv0 3).1) x0.Frames.e1.Windows.length ((sv0 3).2)), .v (.int .i64 x1.Part), .v (.bool x1.Normal), .v (.slice ((sv1 0).1) x1.Made.length ((sv1 0).2)), .v (.slice ((sv1 1).1) x1.Valid.length ((sv1 1).2)), .v (.int .i64 ((rd x0.Chans t_19.1).Kind)), .v (.int .i64 ((rd x0.Chans t_19.1).From)), .v (.int .i64 ((rd x0.Chans t_19.1).To)), .v (.int .i64 ((rd x0.Chans t_19.1).Words)), .v (.int .i64 ((rd x0.Chans t_19.1).Depth)), .v (.int .i64 ((rd x0.Chans t_19.1).Period)), .v (.int .u32 ((rd x0.Chans t_19.1).Boot)), .v (.bool t_19.2.2.1), .v (.bool (t_19.2.1 == x1.Part))], 211), ((((kd_Sign_row).cells (rd t_40 s1.1) sv_54).map EV.v), 216)]) [.need true ((0 : Int) ≤ s1.1 ∧ s1.1 < (t_40.length : Int)), .need true ((sv_42 0).1 = some (adr ((sv_42 0).1))), .cell true ((adr ((sv_42 0).1)).add ((s1.1 : Int).toNat * 3)) ((kd_Sign_row).cells (rd t_40 s1.1) sv_54)] (by kernel_rfl) ⟨ob_inb (fun _ => hN_53), hA_55, ob_el (fun _ => hE_56) 0 ((kd_Sign_row).cells (rd t_40 s1.1) sv_54) rfl, trivial⟩ (fun ns_57 a w_58 hI => ?_)
       refine wpIn_seq ?_
       refine wpIn_region_lit ?_
       refine ck0_ hF 2 hI (s_ [e_ 75 (.string ((rd t_40 s1.1).ops)), p_ 14 4 0, e_ 70 (.int .i64 s1.1), e_ 69 (.int .i64 (t_40.length : Int)), e_ 68 (.slice ((sv_42 0).1) t_40.length ((sv_42 0).2)), e_ 12 (.int .u8 (IntKind.u8.wrap (IntKind.i64.wrap (48 + x2.Op)))), p_ 7 3 0, e_ 6 (.int .i64 s1.2)] [((((kd_Config).cells x0 sv0).map EV.v), 29), ((((kd_Standing).cells x1 sv1).map EV.v), 55), ((((kd_Request).cells x2 sv2).map EV.v), 45), ([.v (.int .i64 x2.Op), .v (.int .i64 x2.Port), .v (.int .u64 x2.Addr), .v (.slice ((sv2 0).1) x2.Data.length ((sv2 0).2)), .v (.slice ((sv0 0).1) x0.Parts.length ((sv0 0).2)), .v (.slice ((sv0 1).1) x0.Chans.length ((sv0 1).2)), .v (.int .i64 x0.Frames.e0.Length), .v (.slice ((sv0 2).1) x0.Frames.e0.Windows.length ((sv0 2).2)), .v (.int .i64 x0.Frames.e1.Length), .v (.slice ((sv0 3).1) x0.Frames.e1.Windows.length ((sv0 3).2)), .v (.int .i64 x1.Part), .v (.bool x1.Normal), .v (.slice ((sv1 0).1) x1.Made.length ((sv1 0).2)), .v (.slice ((sv1 1).1) x1.Valid.length ((sv1 1).2)), .v (.int .i64 ((rd x0.Chans t_19.1).Kind)), .v (.int .i64 ((rd x0.Chans t_19.1).From)), .v (.int .i64 ((rd x0.Chans t_19.1).To)), .v (.int .i64 ((rd x0.Chans t_19.1).Words)), .v (.int .i64 ((rd x0.Chans t_19.1).Depth)), .v (.int .i64 ((rd x0.Chans t_19.1).Period)), .v (.int .u32 ((rd x0.Chans t_19.1).Boot)), .v (.bool t_19.2.2.1), .v (.bool (t_19.2.1 == x1.Part))], 211), ((((kd_Sign_row).cells (rd t_40 s1.1) sv_54).map EV.v), 216)]) rfl (by kernel_rfl) (fun ns_59 a w_60 hI => ?_)
       obtain ⟨hE', hmv, hmr⟩ := Ep.rebase hE hI
       replace hx0 := Kd.keep _ hx0 (hmv _)
       replace hx1 := Kd.keep _ hx1 (hmv _)
       replace hx2 := Kd.keep _ hx2 (hmv _)
       replace hg0 := El.keep hg0 (hmv _)
       replace hE_29 := El.keep hE_29 (hmv _)
       replace hR_43 := Arr.keep hR_43 (hmv _)
       replace hE_56 := El.keep hE_56 (hmv _)
       replace hE := hE'; replace hI := hI.rebase; clear hE' hmv hmr
       refine bytes_ (S0 := S) hF hE hI (wanted_none rfl) rfl Tryz.underlying9 Tryz.underlying82 Tryz.underlying5 rfl (fun A_61 c_62 => (s_ [e_ 76 (.slice A_61 (bytesI ((rd t_40 s1.1).ops)).length c_62), e_ 75 (.string ((rd t_40 s1.1).ops)), p_ 14 4 0, e_ 70 (.int .i64 s1.1), e_ 69 (.int .i64 (t_40.length : Int)), e_ 68 (.slice ((sv_42 0).1) t_40.length ((sv_42 0).2)), e_ 12 (.int .u8 (IntKind.u8.wrap (IntKind.i64.wrap (48 + x2.Op)))), p_ 7 3 0, e_ 6 (.int .i64 s1.2)] [((((kd_Config).cells x0 sv0).map EV.v), 29), ((((kd_Standing).cells x1 sv1).map EV.v), 55), ((((kd_Request).cells x2 sv2).map EV.v), 45), ([.v (.int .i64 x2.Op), .v (.int .i64 x2.Port), .v (.int .u64 x2.Addr), .v (.slice ((sv2 0).1) x2.Data.length ((sv2 0).2)), .v (.slice ((sv0 0).1) x0.Parts.length ((sv0 0).2)), .v (.slice ((sv0 1).1) x0.Chans.length ((sv0 1).2)), .v (.int .i64 x0.Frames.e0.Length), .v (.slice ((sv0 2).1) x0.Frames.e0.Windows.length ((sv0 2).2)), .v (.int .i64 x0.Frames.e1.Length), .v (.slice ((sv0 3).1) x0.Frames.e1.Windows.length ((sv0 3).2)), .v (.int .i64 x1.Part), .v (.bool x1.Normal), .v (.slice ((sv1 0).1) x1.Made.length ((sv1 0).2)), .v (.slice ((sv1 1).1) x1.Valid.length ((sv1 1).2)), .v (.int .i64 ((rd x0.Chans t_19.1).Kind)), .v (.int .i64 ((rd x0.Chans t_19.1).From)), .v (.int .i64 ((rd x0.Chans t_19.1).To)), .v (.int .i64 ((rd x0.Chans t_19.1).Words)), .v (.int .i64 ((rd x0.Chans t_19.1).Depth)), .v (.int .i64 ((rd x0.Chans t_19.1).Period)), .v (.int .u32 ((rd x0.Chans t_19.1).Boot)), .v (.bool t_19.2.2.1), .v (.bool (t_19.2.1 == x1.Part))], 211), ((((kd_Sign_row).cells (rd t_40 s1.1) sv_54).map EV.v), 216)])) (fun A_61 c_62 => by kernel_rfl) (fun A_61 c_62 a w_65 hput hE' hI' hmv hmr hy_63 hyc_64 => ?_)
       replace hx0 := Kd.keep _ hx0 (hmv _)
       replace hx1 := Kd.keep _ hx1 (hmv _)
       replace hx2 := Kd.keep _ hx2 (hmv _)
       replace hg0 := El.keep hg0 (hmv _)
       replace hE_29 := El.keep hE_29 (hmv _)
       replace hR_43 := Arr.keep hR_43 (hmv _)
       replace hE_56 := El.keep hE_56 (hmv _)
       replace hE := hE'; replace hI := hI'; clear hE' hI' hmv hmr
       obtain ⟨t_66, hG_67, H1⟩ := bind_some H1
       obtain ⟨t_68, hG_69, H1⟩ := bind_some H1
       refine ck_ (orc := [[.bool t_66], [.bool t_68]]) hF 8 hI (s_ [e_ 84 (.bool (t_66 && t_68)), p_ 14 4 0, e_ 70 (.int .i64 s1.1), e_ 69 (.int .i64 (t_40.length : Int)), e_ 68 (.slice ((sv_42 0).1) t_40.length ((sv_42 0).2)), e_ 12 (.int .u8 (IntKind.u8.wrap (IntKind.i64.wrap (48 + x2.Op)))), p_ 7 3 0, e_ 6 (.int .i64 s1.2)] [((((kd_Config).cells x0 sv0).map EV.v), 29), ((((kd_Standing).cells x1 sv1).map EV.v), 55), ((((kd_Request).cells x2 sv2).map EV.v), 45), ([.v (.int .i64 x2.Op), .v (.int .i64 x2.Port), .v (.int .u64 x2.Addr), .v (.slice ((sv2 0).1) x2.Data.length ((sv2 0).2)), .v (.slice ((sv0 0).1) x0.Parts.length ((sv0 0).2)), .v (.slice ((sv0 1).1) x0.Chans.length ((sv0 1).2)), .v (.int .i64 x0.Frames.e0.Length), .v (.slice ((sv0 2).1) x0.Frames.e0.Windows.length ((sv0 2).2)), .v (.int .i64 x0.Frames.e1.Length), .v (.slice ((sv0 3).1) x0.Frames.e1.Windows.length ((sv0 3).2)), .v (.int .i64 x1.Part), .v (.bool x1.Normal), .v (.slice ((sv1 0).1) x1.Made.length ((sv1 0).2)), .v (.slice ((sv1 1).1) x1.Valid.length ((sv1 1).2)), .v (.int .i64 ((rd x0.Chans t_19.1).Kind)), .v (.int .i64 ((rd x0.Chans t_19.1).From)), .v (.int .i64 ((rd x0.Chans t_19.1).To)), .v (.int .i64 ((rd x0.Chans t_19.1).Words)), .v (.int .i64 ((rd x0.Chans t_19.1).Depth)), .v (.int .i64 ((rd x0.Chans t_19.1).Period)), .v (.int .u32 ((rd x0.Chans t_19.1).Boot)), .v (.bool t_19.2.2.1), .v (.bool (t_19.2.1 == x1.Part))], 211), ((((kd_Sign_row).cells (rd t_40 s1.1) sv_54).map EV.v), 216)]) [.call true 116 [.slice A_61 (bytesI ((rd t_40 s1.1).ops)).length c_62, .int .u8 (IntKind.u8.wrap (IntKind.i64.wrap (48 + x2.Op)))] (.bool t_66), .call t_66 (fid214 ((rd t_40 s1.1).holds)) (([.agg ((kd_Sign_asked).cells (⟨x2, x0, x1, (rd x0.Chans t_19.1), t_19.2.2.1, (t_19.2.1 == x1.Part)⟩ : Sign_asked) (svL [((sv2 0).1, (sv2 0).2), ((sv0 0).1, (sv0 0).2), ((sv0 1).1, (sv0 1).2), ((sv0 2).1, (sv0 2).2), ((sv0 3).1, (sv0 3).2), ((sv1 0).1, (sv1 0).2), ((sv1 1).1, (sv1 1).2)])).toArray] : List Value) ++ (fca214 ((rd t_40 s1.1).holds) sv_54).toList) (.bool t_68)] rfl (by kernel_rfl) ⟨ob_call (enters Tryz.func116 (by kernel_rfl) rfl) (fun hg wz hk => G_slices_Contains_byte_byte.calls (bytesI ((rd t_40 s1.1).ops)) (IntKind.u8.wrap (IntKind.i64.wrap (48 + x2.Op))) A_61 c_62 wz (S := fun _ => True) (Arr.any (Arr.keep hy_63 (Lo.on hk))) hyc_64 _ hG_67), ob_call (Fn214.ent ((rd t_40 s1.1).holds)) (fun hg wz hk => Fn214.calls ((rd t_40 s1.1).holds) (⟨x2, x0, x1, (rd x0.Chans t_19.1), t_19.2.2.1, (t_19.2.1 == x1.Part)⟩ : Sign_asked) sv_54 (svL [((sv2 0).1, (sv2 0).2), ((sv0 0).1, (sv0 0).2), ((sv0 1).1, (sv0 1).2), ((sv0 2).1, (sv0 2).2), ((sv0 3).1, (sv0 3).2), ((sv1 0).1, (sv1 0).2), ((sv1 1).1, (sv1 1).2)]) wz (S := fun _ => True) (Kd.any _ (Kd.keep kdF214 (hE_56).cont.1 (Lo.on hk))) (Kd.any _ (Kd.keep kd_Sign_asked (contI (S := Lo S w w_65 ns_59 []) (w := w_65) (d := kd_Sign_asked) (x := (⟨x2, x0, x1, (rd x0.Chans t_19.1), t_19.2.2.1, (t_19.2.1 == x1.Part)⟩ : Sign_asked)) (sv := (svL [((sv2 0).1, (sv2 0).2), ((sv0 0).1, (sv0 0).2), ((sv0 1).1, (sv0 1).2), ((sv0 2).1, (sv0 2).2), ((sv0 3).1, (sv0 3).2), ((sv1 0).1, (sv1 0).2), ((sv1 1).1, (sv1 1).2)])) ⟨⟨hx2.1.1, hx2.1.2⟩, ⟨hx0.1.1, hx0.1.2⟩, ⟨hx0.2.1.1, hx0.2.1.2⟩, ⟨hx0.2.2.1.1, hx0.2.2.1.2⟩, ⟨hx0.2.2.2.1.1, hx0.2.2.2.1.2⟩, ⟨hx1.1.1, hx1.1.2⟩, ⟨hx1.2.1.1, hx1.2.1.2⟩, trivial⟩) (Lo.on hk))) _ (cal_some hG_69 hg)), trivial⟩ (fun ns_70 a w_71 hI => ?_)
       refine wpListIn_nil ?_
       refine then_normal ?_
       refine cond_ hI ((t_66 && t_68)) rfl (fun hc_72 => ?_) (fun hc_72 => ?_)
       ·replace H1 := bif_t hc_72 H1
        refine sr0_ hF hI (s_ [e_ 6 (.int .i64 ((rd t_40 s1.1).code))] [((((kd_Config).cells x0 sv0).map EV.v), 29), ((((kd_Standing).cells x1 sv1).map EV.v), 55), ((((kd_Request).cells x2 sv2).map EV.v), 45), ([.v (.int .i64 x2.Op), .v (.int .i64 x2.Port), .v (.int .u64 x2.Addr), .v (.slice ((sv2 0).1) x2.Data.length ((sv2 0).2)), .v (.slice ((sv0 0).1) x0.Parts.length ((sv0 0).2)), .v (.slice ((sv0 1).1) x0.Chans.length ((sv0 1).2)), .v (.int .i64 x0.Frames.e0.Length), .v (.slice ((sv0 2).1) x0.Frames.e0.Windows.length ((sv0 2).2)), .v (.int .i64 x0.Frames.e1.Length), .v (.slice ((sv0 3).1) x0.Frames.e1.Windows.length ((sv0 3).2)), .v (.int .i64 x1.Part), .v (.bool x1.Normal), .v (.slice ((sv1 0).1) x1.Made.length ((sv1 0).2)), .v (.slice ((sv1 1).1) x1.Valid.length ((sv1 1).2)), .v (.int .i64 ((rd x0.Chans t_19.1).Kind)), .v (.int .i64 ((rd x0.Chans t_19.1).From)), .v (.int .i64 ((rd x0.Chans t_19.1).To)), .v (.int .i64 ((rd x0.Chans t_19.1).Words)), .v (.int .i64 ((rd x0.Chans t_19.1).Depth)), .v (.int .i64 ((rd x0.Chans t_19.1).Period)), .v (.int .u32 ((rd x0.Chans t_19.1).Boot)), .v (.bool t_19.2.2.1), .v (.bool (t_19.2.1 == x1.Part))], 211), ((((kd_Sign_row).cells (rd t_40 s1.1) sv_54).map EV.v), 216)]) (by kernel_rfl) (fun ns_73 a w_74 hI => ?_)
        refine wpIn_ret ?_
        refine inBlock_ret ?_
        refine then_ret ?_
        refine then_ret ?_
        obtain rfl := Option.some.inj H1
        refine .inr ⟨_, rfl, fun ho => ?_⟩
        subst ho
        refine inBlock_ret ?_
        refine then_ret ?_
        obtain rfl := Option.some.inj H0
        exact ret1 hI rfl rfl ⟨rfl, hE.below hI⟩
       ·replace H1 := bif_f hc_72 H1
        refine wpIn_skip ?_
        refine inBlock_normal ?_
        refine then_normal ?_
        refine rg0_ hF hI (s_ [e_ 70 (.int .i64 (IntKind.i64.wrap (s1.1 + 1))), e_ 69 (.int .i64 (t_40.length : Int)), e_ 68 (.slice ((sv_42 0).1) t_40.length ((sv_42 0).2)), e_ 12 (.int .u8 (IntKind.u8.wrap (IntKind.i64.wrap (48 + x2.Op)))), p_ 7 3 0, e_ 6 (.int .i64 s1.2)] [((((kd_Config).cells x0 sv0).map EV.v), 29), ((((kd_Standing).cells x1 sv1).map EV.v), 55), ((((kd_Request).cells x2 sv2).map EV.v), 45), ([.v (.int .i64 x2.Op), .v (.int .i64 x2.Port), .v (.int .u64 x2.Addr), .v (.slice ((sv2 0).1) x2.Data.length ((sv2 0).2)), .v (.slice ((sv0 0).1) x0.Parts.length ((sv0 0).2)), .v (.slice ((sv0 1).1) x0.Chans.length ((sv0 1).2)), .v (.int .i64 x0.Frames.e0.Length), .v (.slice ((sv0 2).1) x0.Frames.e0.Windows.length ((sv0 2).2)), .v (.int .i64 x0.Frames.e1.Length), .v (.slice ((sv0 3).1) x0.Frames.e1.Windows.length ((sv0 3).2)), .v (.int .i64 x1.Part), .v (.bool x1.Normal), .v (.slice ((sv1 0).1) x1.Made.length ((sv1 0).2)), .v (.slice ((sv1 1).1) x1.Valid.length ((sv1 1).2)), .v (.int .i64 ((rd x0.Chans t_19.1).Kind)), .v (.int .i64 ((rd x0.Chans t_19.1).From)), .v (.int .i64 ((rd x0.Chans t_19.1).To)), .v (.int .i64 ((rd x0.Chans t_19.1).Words)), .v (.int .i64 ((rd x0.Chans t_19.1).Depth)), .v (.int .i64 ((rd x0.Chans t_19.1).Period)), .v (.int .u32 ((rd x0.Chans t_19.1).Boot)), .v (.bool t_19.2.2.1), .v (.bool (t_19.2.1 == x1.Part))], 211), ((((kd_Sign_row).cells (rd t_40 s1.1) sv_54).map EV.v), 216)]) (by kernel_rfl) (fun ns_75 a w_76 hI => ?_)
        refine then_normal ?_
        obtain ⟨hE', hmv, hmr⟩ := Ep.rebase hE hI
        replace hx0 := Kd.keep _ hx0 (hmv _)
        replace hx1 := Kd.keep _ hx1 (hmv _)
        replace hx2 := Kd.keep _ hx2 (hmv _)
        replace hg0 := El.keep hg0 (hmv _)
        replace hE_29 := El.keep hE_29 (hmv _)
        replace hR_43 := Arr.keep hR_43 (hmv _)
        replace hE_56 := El.keep hE_56 (hmv _)
        replace hy_63 := Arr.keep hy_63 (hmv _)
        replace hE := hE'; replace hI := hI.rebase; clear hE' hmv hmr
        obtain rfl := Option.some.inj H1
        exact ⟨_, rfl, ⟨_, _, hx0, hx1, hx2, hg0, hE_29, hR_43, hE, hI.pick [70, 69, 68, 12, 7, 6] 4 (s_ [e_ 70 (.int .i64 (IntKind.i64.wrap (s1.1 + 1))), e_ 69 (.int .i64 (t_40.length : Int)), e_ 68 (.slice ((sv_42 0).1) t_40.length ((sv_42 0).2)), e_ 12 (.int .u8 (IntKind.u8.wrap (IntKind.i64.wrap (48 + x2.Op)))), p_ 7 3 0, e_ 6 (.int .i64 s1.2)] [((((kd_Config).cells x0 sv0).map EV.v), 29), ((((kd_Standing).cells x1 sv1).map EV.v), 55), ((((kd_Request).cells x2 sv2).map EV.v), 45), ([.v (.int .i64 x2.Op), .v (.int .i64 x2.Port), .v (.int .u64 x2.Addr), .v (.slice ((sv2 0).1) x2.Data.length ((sv2 0).2)), .v (.slice ((sv0 0).1) x0.Parts.length ((sv0 0).2)), .v (.slice ((sv0 1).1) x0.Chans.length ((sv0 1).2)), .v (.int .i64 x0.Frames.e0.Length), .v (.slice ((sv0 2).1) x0.Frames.e0.Windows.length ((sv0 2).2)), .v (.int .i64 x0.Frames.e1.Length), .v (.slice ((sv0 3).1) x0.Frames.e1.Windows.length ((sv0 3).2)), .v (.int .i64 x1.Part), .v (.bool x1.Normal), .v (.slice ((sv1 0).1) x1.Made.length ((sv1 0).2)), .v (.slice ((sv1 1).1) x1.Valid.length ((sv1 1).2)), .v (.int .i64 ((rd x0.Chans t_19.1).Kind)), .v (.int .i64 ((rd x0.Chans t_19.1).From)), .v (.int .i64 ((rd x0.Chans t_19.1).To)), .v (.int .i64 ((rd x0.Chans t_19.1).Words)), .v (.int .i64 ((rd x0.Chans t_19.1).Depth)), .v (.int .i64 ((rd x0.Chans t_19.1).Period)), .v (.int .u32 ((rd x0.Chans t_19.1).Boot)), .v (.bool t_19.2.2.1), .v (.bool (t_19.2.1 == x1.Part))], 211)]) (by kernel_rfl)⟩⟩
      ·replace H1 := bif_f hc_52 H1
       refine wpIn_exit ?_
       refine then_exit ?_
       refine then_exit ?_
       obtain ⟨hE', hmv, hmr⟩ := Ep.rebase hE hI
       replace hx0 := Kd.keep _ hx0 (hmv _)
       replace hx1 := Kd.keep _ hx1 (hmv _)
       replace hx2 := Kd.keep _ hx2 (hmv _)
       replace hg0 := El.keep hg0 (hmv _)
       replace hE_29 := El.keep hE_29 (hmv _)
       replace hR_43 := Arr.keep hR_43 (hmv _)
       replace hE := hE'; replace hI := hI.rebase; clear hE' hmv hmr
       obtain rfl := Option.some.inj H1
       exact .inl ⟨_, rfl, rfl, ⟨_, _, hx0, hx1, hx2, hg0, hE_29, hR_43, hE, hI.pick [70, 69, 68, 12, 7, 6] 4 (s_ [e_ 70 (.int .i64 s1.1), e_ 69 (.int .i64 (t_40.length : Int)), e_ 68 (.slice ((sv_42 0).1) t_40.length ((sv_42 0).2)), e_ 12 (.int .u8 (IntKind.u8.wrap (IntKind.i64.wrap (48 + x2.Op)))), p_ 7 3 0, e_ 6 (.int .i64 s1.2)] [((((kd_Config).cells x0 sv0).map EV.v), 29), ((((kd_Standing).cells x1 sv1).map EV.v), 55), ((((kd_Request).cells x2 sv2).map EV.v), 45), ([.v (.int .i64 x2.Op), .v (.int .i64 x2.Port), .v (.int .u64 x2.Addr), .v (.slice ((sv2 0).1) x2.Data.length ((sv2 0).2)), .v (.slice ((sv0 0).1) x0.Parts.length ((sv0 0).2)), .v (.slice ((sv0 1).1) x0.Chans.length ((sv0 1).2)), .v (.int .i64 x0.Frames.e0.Length), .v (.slice ((sv0 2).1) x0.Frames.e0.Windows.length ((sv0 2).2)), .v (.int .i64 x0.Frames.e1.Length), .v (.slice ((sv0 3).1) x0.Frames.e1.Windows.length ((sv0 3).2)), .v (.int .i64 x1.Part), .v (.bool x1.Normal), .v (.slice ((sv1 0).1) x1.Made.length ((sv1 0).2)), .v (.slice ((sv1 1).1) x1.Valid.length ((sv1 1).2)), .v (.int .i64 ((rd x0.Chans t_19.1).Kind)), .v (.int .i64 ((rd x0.Chans t_19.1).From)), .v (.int .i64 ((rd x0.Chans t_19.1).To)), .v (.int .i64 ((rd x0.Chans t_19.1).Words)), .v (.int .i64 ((rd x0.Chans t_19.1).Depth)), .v (.int .i64 ((rd x0.Chans t_19.1).Period)), .v (.int .u32 ((rd x0.Chans t_19.1).Boot)), .v (.bool t_19.2.2.1), .v (.bool (t_19.2.1 == x1.Part))], 211)]) (by kernel_rfl)⟩⟩
     ·clear hI hE
      rintro s1 a w_79 ho ⟨ow_81, ns_80, hx0, hx1, hx2, hg0, hE_29, hR_43, hE, hI⟩
      subst ho
      replace H0 : (some 0 : Option (Int)) = _ := H0
      refine then_normal ?_
      refine sr0_ hF hI (s_ [e_ 6 (.int .i64 0)] [((((kd_Config).cells x0 sv0).map EV.v), 29), ((((kd_Standing).cells x1 sv1).map EV.v), 55), ((((kd_Request).cells x2 sv2).map EV.v), 45), ([.v (.int .i64 x2.Op), .v (.int .i64 x2.Port), .v (.int .u64 x2.Addr), .v (.slice ((sv2 0).1) x2.Data.length ((sv2 0).2)), .v (.slice ((sv0 0).1) x0.Parts.length ((sv0 0).2)), .v (.slice ((sv0 1).1) x0.Chans.length ((sv0 1).2)), .v (.int .i64 x0.Frames.e0.Length), .v (.slice ((sv0 2).1) x0.Frames.e0.Windows.length ((sv0 2).2)), .v (.int .i64 x0.Frames.e1.Length), .v (.slice ((sv0 3).1) x0.Frames.e1.Windows.length ((sv0 3).2)), .v (.int .i64 x1.Part), .v (.bool x1.Normal), .v (.slice ((sv1 0).1) x1.Made.length ((sv1 0).2)), .v (.slice ((sv1 1).1) x1.Valid.length ((sv1 1).2)), .v (.int .i64 ((rd x0.Chans t_19.1).Kind)), .v (.int .i64 ((rd x0.Chans t_19.1).From)), .v (.int .i64 ((rd x0.Chans t_19.1).To)), .v (.int .i64 ((rd x0.Chans t_19.1).Words)), .v (.int .i64 ((rd x0.Chans t_19.1).Depth)), .v (.int .i64 ((rd x0.Chans t_19.1).Period)), .v (.int .u32 ((rd x0.Chans t_19.1).Boot)), .v (.bool t_19.2.2.1), .v (.bool (t_19.2.1 == x1.Part))], 211)]) (by kernel_rfl) (fun ns_82 a w_83 hI => ?_)
      refine wpIn_ret ?_
      obtain rfl := Option.some.inj H0
      exact ret1 hI rfl rfl ⟨rfl, hE.below hI⟩
    ·replace H0 := bif_f hc_25 H0
     refine wpIn_skip ?_
     refine then_normal ?_
     refine sr0_ hF hI (s_ [e_ 12 (.int .u8 (IntKind.u8.wrap (IntKind.i64.wrap (48 + x2.Op)))), p_ 7 3 0, e_ 6 (.int .i64 0)] [((((kd_Config).cells x0 sv0).map EV.v), 29), ((((kd_Standing).cells x1 sv1).map EV.v), 55), ((((kd_Request).cells x2 sv2).map EV.v), 45), ([.v (.int .i64 x2.Op), .v (.int .i64 x2.Port), .v (.int .u64 x2.Addr), .v (.slice ((sv2 0).1) x2.Data.length ((sv2 0).2)), .v (.slice ((sv0 0).1) x0.Parts.length ((sv0 0).2)), .v (.slice ((sv0 1).1) x0.Chans.length ((sv0 1).2)), .v (.int .i64 x0.Frames.e0.Length), .v (.slice ((sv0 2).1) x0.Frames.e0.Windows.length ((sv0 2).2)), .v (.int .i64 x0.Frames.e1.Length), .v (.slice ((sv0 3).1) x0.Frames.e1.Windows.length ((sv0 3).2)), .v (.int .i64 x1.Part), .v (.bool x1.Normal), .v (.slice ((sv1 0).1) x1.Made.length ((sv1 0).2)), .v (.slice ((sv1 1).1) x1.Valid.length ((sv1 1).2)), .v (.int .i64 0), .v (.int .i64 0), .v (.int .i64 0), .v (.int .i64 0), .v (.int .i64 0), .v (.int .i64 0), .v (.int .u32 0), .v (.bool false), .v (.bool false)], 211)]) (by kernel_rfl) (fun ns_85 a w_86 hI => ?_)
     refine wpIn_seq ?_
     refine wpIn_seq ?_
     refine wpIn_region_lit ?_
     obtain ⟨hE', hmv, hmr⟩ := Ep.rebase hE hI
     replace hx0 := Kd.keep _ hx0 (hmv _)
     replace hx1 := Kd.keep _ hx1 (hmv _)
     replace hx2 := Kd.keep _ hx2 (hmv _)
     replace hg0 := El.keep hg0 (hmv _)
     replace hE := hE'; replace hI := hI.rebase; clear hE' hmv hmr
     obtain ⟨t_87, hG_88, H0⟩ := bind_some H0
     refine callH_ hF hE hI (wanted_none rfl) rfl (args := []) rfl (enters Tryz.func115 (by kernel_rfl) rfl) (fun sv_89 => .slice ((sv_89 0).1) t_87.length ((sv_89 0).2)) _ (G_sign_rows.calls   w_86 (S := Lo S w w_86 ns_85 [])  _ hG_88) (fun sv_89 => (s_ [e_ 68 (.slice ((sv_89 0).1) t_87.length ((sv_89 0).2)), e_ 12 (.int .u8 (IntKind.u8.wrap (IntKind.i64.wrap (48 + x2.Op)))), p_ 7 3 0, e_ 6 (.int .i64 0)] [((((kd_Config).cells x0 sv0).map EV.v), 29), ((((kd_Standing).cells x1 sv1).map EV.v), 55), ((((kd_Request).cells x2 sv2).map EV.v), 45), ([.v (.int .i64 x2.Op), .v (.int .i64 x2.Port), .v (.int .u64 x2.Addr), .v (.slice ((sv2 0).1) x2.Data.length ((sv2 0).2)), .v (.slice ((sv0 0).1) x0.Parts.length ((sv0 0).2)), .v (.slice ((sv0 1).1) x0.Chans.length ((sv0 1).2)), .v (.int .i64 x0.Frames.e0.Length), .v (.slice ((sv0 2).1) x0.Frames.e0.Windows.length ((sv0 2).2)), .v (.int .i64 x0.Frames.e1.Length), .v (.slice ((sv0 3).1) x0.Frames.e1.Windows.length ((sv0 3).2)), .v (.int .i64 x1.Part), .v (.bool x1.Normal), .v (.slice ((sv1 0).1) x1.Made.length ((sv1 0).2)), .v (.slice ((sv1 1).1) x1.Valid.length ((sv1 1).2)), .v (.int .i64 0), .v (.int .i64 0), .v (.int .i64 0), .v (.int .i64 0), .v (.int .i64 0), .v (.int .i64 0), .v (.int .u32 0), .v (.bool false), .v (.bool false)], 211)])) (fun sv_89 => by kernel_rfl) (fun sv_89 a w_91 hput hE' hI' hmv hmr hres hR => ?_)
     replace hx0 := Kd.keep _ hx0 (hmv _)
     replace hx1 := Kd.keep _ hx1 (hmv _)
     replace hx2 := Kd.keep _ hx2 (hmv _)
     replace hg0 := El.keep hg0 (hmv _)
     replace hE := hE'; replace hI := hI'; clear hE' hI' hmv hmr
     obtain ⟨hR_90, hR_90c⟩ := hR
     replace hR_90 := Arr.keep hR_90 (hres _)
     clear hres
     refine ck0_ hF 2 hI (s_ [e_ 70 (.int .i64 0), e_ 69 (.int .i64 (t_87.length : Int)), e_ 68 (.slice ((sv_89 0).1) t_87.length ((sv_89 0).2)), e_ 12 (.int .u8 (IntKind.u8.wrap (IntKind.i64.wrap (48 + x2.Op)))), p_ 7 3 0, e_ 6 (.int .i64 0)] [((((kd_Config).cells x0 sv0).map EV.v), 29), ((((kd_Standing).cells x1 sv1).map EV.v), 55), ((((kd_Request).cells x2 sv2).map EV.v), 45), ([.v (.int .i64 x2.Op), .v (.int .i64 x2.Port), .v (.int .u64 x2.Addr), .v (.slice ((sv2 0).1) x2.Data.length ((sv2 0).2)), .v (.slice ((sv0 0).1) x0.Parts.length ((sv0 0).2)), .v (.slice ((sv0 1).1) x0.Chans.length ((sv0 1).2)), .v (.int .i64 x0.Frames.e0.Length), .v (.slice ((sv0 2).1) x0.Frames.e0.Windows.length ((sv0 2).2)), .v (.int .i64 x0.Frames.e1.Length), .v (.slice ((sv0 3).1) x0.Frames.e1.Windows.length ((sv0 3).2)), .v (.int .i64 x1.Part), .v (.bool x1.Normal), .v (.slice ((sv1 0).1) x1.Made.length ((sv1 0).2)), .v (.slice ((sv1 1).1) x1.Valid.length ((sv1 1).2)), .v (.int .i64 0), .v (.int .i64 0), .v (.int .i64 0), .v (.int .i64 0), .v (.int .i64 0), .v (.int .i64 0), .v (.int .u32 0), .v (.bool false), .v (.bool false)], 211)]) rfl (by kernel_rfl) (fun ns_92 a w_93 hI => ?_)
     refine wpListIn_nil ?_
     refine then_normal ?_
     obtain ⟨hE', hmv, hmr⟩ := Ep.rebase hE hI
     replace hx0 := Kd.keep _ hx0 (hmv _)
     replace hx1 := Kd.keep _ hx1 (hmv _)
     replace hx2 := Kd.keep _ hx2 (hmv _)
     replace hg0 := El.keep hg0 (hmv _)
     replace hR_90 := Arr.keep hR_90 (hmv _)
     replace hE := hE'; replace hI := hI.rebase; clear hE' hmv hmr
     obtain ⟨o_124, hL_125, H0⟩ := bind_some H0
     refine block_loop (fun (s2 : Int × Int) a w_131 => ∃ (ow ns : List Nat) , ((kd_Config).cont (Lo S w w_131 ow []) w_131 x0 sv0) ∧ ((kd_Standing).cont (Lo S w w_131 ow []) w_131 x1 sv1) ∧ ((kd_Request).cont (Lo S w w_131 ow []) w_131 x2 sv2) ∧ (El kd_St257 (Lo S w w_131 ow []) w_131 ⟨0, 0, none⟩ gv0 (svL [])) ∧ (Arr kd_Sign_row (Lo S w w_131 ow []) w_131 (sv_89 0).1 t_87) ∧ Ep [] w w_131 ow [] ∧ St w_131 ow 88 (s_ [e_ 70 (.int .i64 s2.1), e_ 69 (.int .i64 (t_87.length : Int)), e_ 68 (.slice ((sv_89 0).1) t_87.length ((sv_89 0).2)), e_ 12 (.int .u8 (IntKind.u8.wrap (IntKind.i64.wrap (48 + x2.Op)))), p_ 7 3 0, e_ 6 (.int .i64 s2.2)] [((((kd_Config).cells x0 sv0).map EV.v), 29), ((((kd_Standing).cells x1 sv1).map EV.v), 55), ((((kd_Request).cells x2 sv2).map EV.v), 45), ([.v (.int .i64 x2.Op), .v (.int .i64 x2.Port), .v (.int .u64 x2.Addr), .v (.slice ((sv2 0).1) x2.Data.length ((sv2 0).2)), .v (.slice ((sv0 0).1) x0.Parts.length ((sv0 0).2)), .v (.slice ((sv0 1).1) x0.Chans.length ((sv0 1).2)), .v (.int .i64 x0.Frames.e0.Length), .v (.slice ((sv0 2).1) x0.Frames.e0.Windows.length ((sv0 2).2)), .v (.int .i64 x0.Frames.e1.Length), .v (.slice ((sv0 3).1) x0.Frames.e1.Windows.length ((sv0 3).2)), .v (.int .i64 x1.Part), .v (.bool x1.Normal), .v (.slice ((sv1 0).1) x1.Made.length ((sv1 0).2)), .v (.slice ((sv1 1).1) x1.Valid.length ((sv1 1).2)), .v (.int .i64 0), .v (.int .i64 0), .v (.int .i64 0), .v (.int .i64 0), .v (.int .i64 0), .v (.int .i64 0), .v (.int .u32 0), .v (.bool false), .v (.bool false)], 211)]) ns a w_131) (0, 0) hL_125 ⟨_, _, hx0, hx1, hx2, hg0, hR_90, hE, hI.pick [70, 69, 68, 12, 7, 6] 4 (s_ [e_ 70 (.int .i64 0), e_ 69 (.int .i64 (t_87.length : Int)), e_ 68 (.slice ((sv_89 0).1) t_87.length ((sv_89 0).2)), e_ 12 (.int .u8 (IntKind.u8.wrap (IntKind.i64.wrap (48 + x2.Op)))), p_ 7 3 0, e_ 6 (.int .i64 0)] [((((kd_Config).cells x0 sv0).map EV.v), 29), ((((kd_Standing).cells x1 sv1).map EV.v), 55), ((((kd_Request).cells x2 sv2).map EV.v), 45), ([.v (.int .i64 x2.Op), .v (.int .i64 x2.Port), .v (.int .u64 x2.Addr), .v (.slice ((sv2 0).1) x2.Data.length ((sv2 0).2)), .v (.slice ((sv0 0).1) x0.Parts.length ((sv0 0).2)), .v (.slice ((sv0 1).1) x0.Chans.length ((sv0 1).2)), .v (.int .i64 x0.Frames.e0.Length), .v (.slice ((sv0 2).1) x0.Frames.e0.Windows.length ((sv0 2).2)), .v (.int .i64 x0.Frames.e1.Length), .v (.slice ((sv0 3).1) x0.Frames.e1.Windows.length ((sv0 3).2)), .v (.int .i64 x1.Part), .v (.bool x1.Normal), .v (.slice ((sv1 0).1) x1.Made.length ((sv1 0).2)), .v (.slice ((sv1 1).1) x1.Valid.length ((sv1 1).2)), .v (.int .i64 0), .v (.int .i64 0), .v (.int .i64 0), .v (.int .i64 0), .v (.int .i64 0), .v (.int .i64 0), .v (.int .u32 0), .v (.bool false), .v (.bool false)], 211)]) (by kernel_rfl)⟩ ?_ ?_
     ·clear hI hE
      rintro s2 a w_94 ⟨ow_96, ns_95, hx0, hx1, hx2, hg0, hR_90, hE, hI⟩ r2 H1
      unfold G_sign_Refused.b2 at H1
      refine sr0_ hF hI (s_ [e_ 71 (.bool (decide (s2.1 < (t_87.length : Int)))), e_ 70 (.int .i64 s2.1), e_ 69 (.int .i64 (t_87.length : Int)), e_ 68 (.slice ((sv_89 0).1) t_87.length ((sv_89 0).2)), e_ 12 (.int .u8 (IntKind.u8.wrap (IntKind.i64.wrap (48 + x2.Op)))), p_ 7 3 0, e_ 6 (.int .i64 s2.2)] [((((kd_Config).cells x0 sv0).map EV.v), 29), ((((kd_Standing).cells x1 sv1).map EV.v), 55), ((((kd_Request).cells x2 sv2).map EV.v), 45), ([.v (.int .i64 x2.Op), .v (.int .i64 x2.Port), .v (.int .u64 x2.Addr), .v (.slice ((sv2 0).1) x2.Data.length ((sv2 0).2)), .v (.slice ((sv0 0).1) x0.Parts.length ((sv0 0).2)), .v (.slice ((sv0 1).1) x0.Chans.length ((sv0 1).2)), .v (.int .i64 x0.Frames.e0.Length), .v (.slice ((sv0 2).1) x0.Frames.e0.Windows.length ((sv0 2).2)), .v (.int .i64 x0.Frames.e1.Length), .v (.slice ((sv0 3).1) x0.Frames.e1.Windows.length ((sv0 3).2)), .v (.int .i64 x1.Part), .v (.bool x1.Normal), .v (.slice ((sv1 0).1) x1.Made.length ((sv1 0).2)), .v (.slice ((sv1 1).1) x1.Valid.length ((sv1 1).2)), .v (.int .i64 0), .v (.int .i64 0), .v (.int .i64 0), .v (.int .i64 0), .v (.int .i64 0), .v (.int .i64 0), .v (.int .u32 0), .v (.bool false), .v (.bool false)], 211)]) (by kernel_rfl) (fun ns_97 a w_98 hI => ?_)
      refine wpIn_seq ?_
      refine cond_ hI (decide (s2.1 < (t_87.length : Int))) rfl (fun hc_99 => ?_) (fun hc_99 => ?_)
      ·replace H1 := bif_t hc_99 H1
       refine wpIn_skip ?_
       refine then_normal ?_
       refine wpIn_seq ?_
       refine wpIn_block ?_
       obtain ⟨hN_100, H1⟩ := req_some H1
       obtain ⟨sv_101, hE_103, hA_102⟩ := Arr.elB (d := kd_Sign_row) hR_90 s2.1 true (fun _ => hN_100)
       replace hE_103 := hE_103 rfl
       replace hA_102 := fun (_ : true = true) => hA_102 rfl
       refine sr_ (orc := [(kd_Sign_row).cells (rd t_87 s2.1) sv_101]) hF hI (s_ [p_ 14 4 0, e_ 70 (.int .i64 s2.1), e_ 69 (.int .i64 (t_87.length : Int)), e_ 68 (.slice ((sv_89 0).1) t_87.length ((sv_89 0).2)), e_ 12 (.int .u8 (IntKind.u8.wrap (IntKind.i64.wrap (48 + x2.Op)))), p_ 7 3 0, e_ 6 (.int .i64 s2.2)] [((((kd_Config).cells x0 sv0).map EV.v), 29), ((((kd_Standing).cells x1 sv1).map EV.v), 55), ((((kd_Request).cells x2 sv2).map EV.v), 45), ([.v (.int .i64 x2.Op), .v (.int .i64 x2.Port), .v (.int .u64 x2.Addr), .v (.slice ((sv2 0).1) x2.Data.length ((sv2 0).2)), .v (.slice ((sv0 0).1) x0.Parts.length ((sv0 0).2)), .v (.slice ((sv0 1).1) x0.Chans.length ((sv0 1).2)), .v (.int .i64 x0.Frames.e0.Length), .v (.slice ((sv0 2).1) x0.Frames.e0.Windows.length ((sv0 2).2)), .v (.int .i64 x0.Frames.e1.Length), .v (.slice ((sv0 3).1) x0.Frames.e1.Windows.length ((sv0 3).2)), .v (.int .i64 x1.Part), .v (.bool x1.Normal), .v (.slice ((sv1 0).1) x1.Made.length ((sv1 0).2)), .v (.slice ((sv1 1).1) x1.Valid.length ((sv1 1).2)), .v (.int .i64 0), .v (.int .i64 0), .v (.int .i64 0), .v (.int .i64 0), .v (.int .i64 0), .v (.int .i64 0), .v (.int .u32 0), .v (.bool false), .v (.bool false)], 211), ((((kd_Sign_row).cells (rd t_87 s2.1) sv_101).map EV.v), 216)]) [.need true ((0 : Int) ≤ s2.1 ∧ s2.1 < (t_87.length : Int)), .need true ((sv_89 0).1 = some (adr ((sv_89 0).1))), .cell true ((adr ((sv_89 0).1)).add ((s2.1 : Int).toNat * 3)) ((kd_Sign_row).cells (rd t_87 s2.1) sv_101)] (by kernel_rfl) ⟨ob_inb (fun _ => hN_100), hA_102, ob_el (fun _ => hE_103) 0 ((kd_Sign_row).cells (rd t_87 s2.1) sv_101) rfl, trivial⟩ (fun ns_104 a w_105 hI => ?_)
       refine wpIn_seq ?_
       refine wpIn_region_lit ?_
       refine ck0_ hF 2 hI (s_ [e_ 75 (.string ((rd t_87 s2.1).ops)), p_ 14 4 0, e_ 70 (.int .i64 s2.1), e_ 69 (.int .i64 (t_87.length : Int)), e_ 68 (.slice ((sv_89 0).1) t_87.length ((sv_89 0).2)), e_ 12 (.int .u8 (IntKind.u8.wrap (IntKind.i64.wrap (48 + x2.Op)))), p_ 7 3 0, e_ 6 (.int .i64 s2.2)] [((((kd_Config).cells x0 sv0).map EV.v), 29), ((((kd_Standing).cells x1 sv1).map EV.v), 55), ((((kd_Request).cells x2 sv2).map EV.v), 45), ([.v (.int .i64 x2.Op), .v (.int .i64 x2.Port), .v (.int .u64 x2.Addr), .v (.slice ((sv2 0).1) x2.Data.length ((sv2 0).2)), .v (.slice ((sv0 0).1) x0.Parts.length ((sv0 0).2)), .v (.slice ((sv0 1).1) x0.Chans.length ((sv0 1).2)), .v (.int .i64 x0.Frames.e0.Length), .v (.slice ((sv0 2).1) x0.Frames.e0.Windows.length ((sv0 2).2)), .v (.int .i64 x0.Frames.e1.Length), .v (.slice ((sv0 3).1) x0.Frames.e1.Windows.length ((sv0 3).2)), .v (.int .i64 x1.Part), .v (.bool x1.Normal), .v (.slice ((sv1 0).1) x1.Made.length ((sv1 0).2)), .v (.slice ((sv1 1).1) x1.Valid.length ((sv1 1).2)), .v (.int .i64 0), .v (.int .i64 0), .v (.int .i64 0), .v (.int .i64 0), .v (.int .i64 0), .v (.int .i64 0), .v (.int .u32 0), .v (.bool false), .v (.bool false)], 211), ((((kd_Sign_row).cells (rd t_87 s2.1) sv_101).map EV.v), 216)]) rfl (by kernel_rfl) (fun ns_106 a w_107 hI => ?_)
       obtain ⟨hE', hmv, hmr⟩ := Ep.rebase hE hI
       replace hx0 := Kd.keep _ hx0 (hmv _)
       replace hx1 := Kd.keep _ hx1 (hmv _)
       replace hx2 := Kd.keep _ hx2 (hmv _)
       replace hg0 := El.keep hg0 (hmv _)
       replace hR_90 := Arr.keep hR_90 (hmv _)
       replace hE_103 := El.keep hE_103 (hmv _)
       replace hE := hE'; replace hI := hI.rebase; clear hE' hmv hmr
       refine bytes_ (S0 := S) hF hE hI (wanted_none rfl) rfl Tryz.underlying9 Tryz.underlying82 Tryz.underlying5 rfl (fun A_108 c_109 => (s_ [e_ 76 (.slice A_108 (bytesI ((rd t_87 s2.1).ops)).length c_109), e_ 75 (.string ((rd t_87 s2.1).ops)), p_ 14 4 0, e_ 70 (.int .i64 s2.1), e_ 69 (.int .i64 (t_87.length : Int)), e_ 68 (.slice ((sv_89 0).1) t_87.length ((sv_89 0).2)), e_ 12 (.int .u8 (IntKind.u8.wrap (IntKind.i64.wrap (48 + x2.Op)))), p_ 7 3 0, e_ 6 (.int .i64 s2.2)] [((((kd_Config).cells x0 sv0).map EV.v), 29), ((((kd_Standing).cells x1 sv1).map EV.v), 55), ((((kd_Request).cells x2 sv2).map EV.v), 45), ([.v (.int .i64 x2.Op), .v (.int .i64 x2.Port), .v (.int .u64 x2.Addr), .v (.slice ((sv2 0).1) x2.Data.length ((sv2 0).2)), .v (.slice ((sv0 0).1) x0.Parts.length ((sv0 0).2)), .v (.slice ((sv0 1).1) x0.Chans.length ((sv0 1).2)), .v (.int .i64 x0.Frames.e0.Length), .v (.slice ((sv0 2).1) x0.Frames.e0.Windows.length ((sv0 2).2)), .v (.int .i64 x0.Frames.e1.Length), .v (.slice ((sv0 3).1) x0.Frames.e1.Windows.length ((sv0 3).2)), .v (.int .i64 x1.Part), .v (.bool x1.Normal), .v (.slice ((sv1 0).1) x1.Made.length ((sv1 0).2)), .v (.slice ((sv1 1).1) x1.Valid.length ((sv1 1).2)), .v (.int .i64 0), .v (.int .i64 0), .v (.int .i64 0), .v (.int .i64 0), .v (.int .i64 0), .v (.int .i64 0), .v (.int .u32 0), .v (.bool false), .v (.bool false)], 211), ((((kd_Sign_row).cells (rd t_87 s2.1) sv_101).map EV.v), 216)])) (fun A_108 c_109 => by kernel_rfl) (fun A_108 c_109 a w_112 hput hE' hI' hmv hmr hy_110 hyc_111 => ?_)
       replace hx0 := Kd.keep _ hx0 (hmv _)
       replace hx1 := Kd.keep _ hx1 (hmv _)
       replace hx2 := Kd.keep _ hx2 (hmv _)
       replace hg0 := El.keep hg0 (hmv _)
       replace hR_90 := Arr.keep hR_90 (hmv _)
       replace hE_103 := El.keep hE_103 (hmv _)
       replace hE := hE'; replace hI := hI'; clear hE' hI' hmv hmr
       obtain ⟨t_113, hG_114, H1⟩ := bind_some H1
       obtain ⟨t_115, hG_116, H1⟩ := bind_some H1
       refine ck_ (orc := [[.bool t_113], [.bool t_115]]) hF 8 hI (s_ [e_ 84 (.bool (t_113 && t_115)), p_ 14 4 0, e_ 70 (.int .i64 s2.1), e_ 69 (.int .i64 (t_87.length : Int)), e_ 68 (.slice ((sv_89 0).1) t_87.length ((sv_89 0).2)), e_ 12 (.int .u8 (IntKind.u8.wrap (IntKind.i64.wrap (48 + x2.Op)))), p_ 7 3 0, e_ 6 (.int .i64 s2.2)] [((((kd_Config).cells x0 sv0).map EV.v), 29), ((((kd_Standing).cells x1 sv1).map EV.v), 55), ((((kd_Request).cells x2 sv2).map EV.v), 45), ([.v (.int .i64 x2.Op), .v (.int .i64 x2.Port), .v (.int .u64 x2.Addr), .v (.slice ((sv2 0).1) x2.Data.length ((sv2 0).2)), .v (.slice ((sv0 0).1) x0.Parts.length ((sv0 0).2)), .v (.slice ((sv0 1).1) x0.Chans.length ((sv0 1).2)), .v (.int .i64 x0.Frames.e0.Length), .v (.slice ((sv0 2).1) x0.Frames.e0.Windows.length ((sv0 2).2)), .v (.int .i64 x0.Frames.e1.Length), .v (.slice ((sv0 3).1) x0.Frames.e1.Windows.length ((sv0 3).2)), .v (.int .i64 x1.Part), .v (.bool x1.Normal), .v (.slice ((sv1 0).1) x1.Made.length ((sv1 0).2)), .v (.slice ((sv1 1).1) x1.Valid.length ((sv1 1).2)), .v (.int .i64 0), .v (.int .i64 0), .v (.int .i64 0), .v (.int .i64 0), .v (.int .i64 0), .v (.int .i64 0), .v (.int .u32 0), .v (.bool false), .v (.bool false)], 211), ((((kd_Sign_row).cells (rd t_87 s2.1) sv_101).map EV.v), 216)]) [.call true 116 [.slice A_108 (bytesI ((rd t_87 s2.1).ops)).length c_109, .int .u8 (IntKind.u8.wrap (IntKind.i64.wrap (48 + x2.Op)))] (.bool t_113), .call t_113 (fid214 ((rd t_87 s2.1).holds)) (([.agg ((kd_Sign_asked).cells (⟨x2, x0, x1, (⟨0, 0, 0, 0, 0, 0, 0⟩ : Chan), false, false⟩ : Sign_asked) (svL [((sv2 0).1, (sv2 0).2), ((sv0 0).1, (sv0 0).2), ((sv0 1).1, (sv0 1).2), ((sv0 2).1, (sv0 2).2), ((sv0 3).1, (sv0 3).2), ((sv1 0).1, (sv1 0).2), ((sv1 1).1, (sv1 1).2)])).toArray] : List Value) ++ (fca214 ((rd t_87 s2.1).holds) sv_101).toList) (.bool t_115)] rfl (by kernel_rfl) ⟨ob_call (enters Tryz.func116 (by kernel_rfl) rfl) (fun hg wz hk => G_slices_Contains_byte_byte.calls (bytesI ((rd t_87 s2.1).ops)) (IntKind.u8.wrap (IntKind.i64.wrap (48 + x2.Op))) A_108 c_109 wz (S := fun _ => True) (Arr.any (Arr.keep hy_110 (Lo.on hk))) hyc_111 _ hG_114), ob_call (Fn214.ent ((rd t_87 s2.1).holds)) (fun hg wz hk => Fn214.calls ((rd t_87 s2.1).holds) (⟨x2, x0, x1, (⟨0, 0, 0, 0, 0, 0, 0⟩ : Chan), false, false⟩ : Sign_asked) sv_101 (svL [((sv2 0).1, (sv2 0).2), ((sv0 0).1, (sv0 0).2), ((sv0 1).1, (sv0 1).2), ((sv0 2).1, (sv0 2).2), ((sv0 3).1, (sv0 3).2), ((sv1 0).1, (sv1 0).2), ((sv1 1).1, (sv1 1).2)]) wz (S := fun _ => True) (Kd.any _ (Kd.keep kdF214 (hE_103).cont.1 (Lo.on hk))) (Kd.any _ (Kd.keep kd_Sign_asked (contI (S := Lo S w w_112 ns_106 []) (w := w_112) (d := kd_Sign_asked) (x := (⟨x2, x0, x1, (⟨0, 0, 0, 0, 0, 0, 0⟩ : Chan), false, false⟩ : Sign_asked)) (sv := (svL [((sv2 0).1, (sv2 0).2), ((sv0 0).1, (sv0 0).2), ((sv0 1).1, (sv0 1).2), ((sv0 2).1, (sv0 2).2), ((sv0 3).1, (sv0 3).2), ((sv1 0).1, (sv1 0).2), ((sv1 1).1, (sv1 1).2)])) ⟨⟨hx2.1.1, hx2.1.2⟩, ⟨hx0.1.1, hx0.1.2⟩, ⟨hx0.2.1.1, hx0.2.1.2⟩, ⟨hx0.2.2.1.1, hx0.2.2.1.2⟩, ⟨hx0.2.2.2.1.1, hx0.2.2.2.1.2⟩, ⟨hx1.1.1, hx1.1.2⟩, ⟨hx1.2.1.1, hx1.2.1.2⟩, trivial⟩) (Lo.on hk))) _ (cal_some hG_116 hg)), trivial⟩ (fun ns_117 a w_118 hI => ?_)
       refine wpListIn_nil ?_
       refine then_normal ?_
       refine cond_ hI ((t_113 && t_115)) rfl (fun hc_119 => ?_) (fun hc_119 => ?_)
       ·replace H1 := bif_t hc_119 H1
        refine sr0_ hF hI (s_ [e_ 6 (.int .i64 ((rd t_87 s2.1).code))] [((((kd_Config).cells x0 sv0).map EV.v), 29), ((((kd_Standing).cells x1 sv1).map EV.v), 55), ((((kd_Request).cells x2 sv2).map EV.v), 45), ([.v (.int .i64 x2.Op), .v (.int .i64 x2.Port), .v (.int .u64 x2.Addr), .v (.slice ((sv2 0).1) x2.Data.length ((sv2 0).2)), .v (.slice ((sv0 0).1) x0.Parts.length ((sv0 0).2)), .v (.slice ((sv0 1).1) x0.Chans.length ((sv0 1).2)), .v (.int .i64 x0.Frames.e0.Length), .v (.slice ((sv0 2).1) x0.Frames.e0.Windows.length ((sv0 2).2)), .v (.int .i64 x0.Frames.e1.Length), .v (.slice ((sv0 3).1) x0.Frames.e1.Windows.length ((sv0 3).2)), .v (.int .i64 x1.Part), .v (.bool x1.Normal), .v (.slice ((sv1 0).1) x1.Made.length ((sv1 0).2)), .v (.slice ((sv1 1).1) x1.Valid.length ((sv1 1).2)), .v (.int .i64 0), .v (.int .i64 0), .v (.int .i64 0), .v (.int .i64 0), .v (.int .i64 0), .v (.int .i64 0), .v (.int .u32 0), .v (.bool false), .v (.bool false)], 211), ((((kd_Sign_row).cells (rd t_87 s2.1) sv_101).map EV.v), 216)]) (by kernel_rfl) (fun ns_120 a w_121 hI => ?_)
        refine wpIn_ret ?_
        refine inBlock_ret ?_
        refine then_ret ?_
        refine then_ret ?_
        obtain rfl := Option.some.inj H1
        refine .inr ⟨_, rfl, fun ho => ?_⟩
        subst ho
        refine inBlock_ret ?_
        refine then_ret ?_
        obtain rfl := Option.some.inj H0
        exact ret1 hI rfl rfl ⟨rfl, hE.below hI⟩
       ·replace H1 := bif_f hc_119 H1
        refine wpIn_skip ?_
        refine inBlock_normal ?_
        refine then_normal ?_
        refine rg0_ hF hI (s_ [e_ 70 (.int .i64 (IntKind.i64.wrap (s2.1 + 1))), e_ 69 (.int .i64 (t_87.length : Int)), e_ 68 (.slice ((sv_89 0).1) t_87.length ((sv_89 0).2)), e_ 12 (.int .u8 (IntKind.u8.wrap (IntKind.i64.wrap (48 + x2.Op)))), p_ 7 3 0, e_ 6 (.int .i64 s2.2)] [((((kd_Config).cells x0 sv0).map EV.v), 29), ((((kd_Standing).cells x1 sv1).map EV.v), 55), ((((kd_Request).cells x2 sv2).map EV.v), 45), ([.v (.int .i64 x2.Op), .v (.int .i64 x2.Port), .v (.int .u64 x2.Addr), .v (.slice ((sv2 0).1) x2.Data.length ((sv2 0).2)), .v (.slice ((sv0 0).1) x0.Parts.length ((sv0 0).2)), .v (.slice ((sv0 1).1) x0.Chans.length ((sv0 1).2)), .v (.int .i64 x0.Frames.e0.Length), .v (.slice ((sv0 2).1) x0.Frames.e0.Windows.length ((sv0 2).2)), .v (.int .i64 x0.Frames.e1.Length), .v (.slice ((sv0 3).1) x0.Frames.e1.Windows.length ((sv0 3).2)), .v (.int .i64 x1.Part), .v (.bool x1.Normal), .v (.slice ((sv1 0).1) x1.Made.length ((sv1 0).2)), .v (.slice ((sv1 1).1) x1.Valid.length ((sv1 1).2)), .v (.int .i64 0), .v (.int .i64 0), .v (.int .i64 0), .v (.int .i64 0), .v (.int .i64 0), .v (.int .i64 0), .v (.int .u32 0), .v (.bool false), .v (.bool false)], 211), ((((kd_Sign_row).cells (rd t_87 s2.1) sv_101).map EV.v), 216)]) (by kernel_rfl) (fun ns_122 a w_123 hI => ?_)
        refine then_normal ?_
        obtain ⟨hE', hmv, hmr⟩ := Ep.rebase hE hI
        replace hx0 := Kd.keep _ hx0 (hmv _)
        replace hx1 := Kd.keep _ hx1 (hmv _)
        replace hx2 := Kd.keep _ hx2 (hmv _)
        replace hg0 := El.keep hg0 (hmv _)
        replace hR_90 := Arr.keep hR_90 (hmv _)
        replace hE_103 := El.keep hE_103 (hmv _)
        replace hy_110 := Arr.keep hy_110 (hmv _)
        replace hE := hE'; replace hI := hI.rebase; clear hE' hmv hmr
        obtain rfl := Option.some.inj H1
        exact ⟨_, rfl, ⟨_, _, hx0, hx1, hx2, hg0, hR_90, hE, hI.pick [70, 69, 68, 12, 7, 6] 4 (s_ [e_ 70 (.int .i64 (IntKind.i64.wrap (s2.1 + 1))), e_ 69 (.int .i64 (t_87.length : Int)), e_ 68 (.slice ((sv_89 0).1) t_87.length ((sv_89 0).2)), e_ 12 (.int .u8 (IntKind.u8.wrap (IntKind.i64.wrap (48 + x2.Op)))), p_ 7 3 0, e_ 6 (.int .i64 s2.2)] [((((kd_Config).cells x0 sv0).map EV.v), 29), ((((kd_Standing).cells x1 sv1).map EV.v), 55), ((((kd_Request).cells x2 sv2).map EV.v), 45), ([.v (.int .i64 x2.Op), .v (.int .i64 x2.Port), .v (.int .u64 x2.Addr), .v (.slice ((sv2 0).1) x2.Data.length ((sv2 0).2)), .v (.slice ((sv0 0).1) x0.Parts.length ((sv0 0).2)), .v (.slice ((sv0 1).1) x0.Chans.length ((sv0 1).2)), .v (.int .i64 x0.Frames.e0.Length), .v (.slice ((sv0 2).1) x0.Frames.e0.Windows.length ((sv0 2).2)), .v (.int .i64 x0.Frames.e1.Length), .v (.slice ((sv0 3).1) x0.Frames.e1.Windows.length ((sv0 3).2)), .v (.int .i64 x1.Part), .v (.bool x1.Normal), .v (.slice ((sv1 0).1) x1.Made.length ((sv1 0).2)), .v (.slice ((sv1 1).1) x1.Valid.length ((sv1 1).2)), .v (.int .i64 0), .v (.int .i64 0), .v (.int .i64 0), .v (.int .i64 0), .v (.int .i64 0), .v (.int .i64 0), .v (.int .u32 0), .v (.bool false), .v (.bool false)], 211)]) (by kernel_rfl)⟩⟩
      ·replace H1 := bif_f hc_99 H1
       refine wpIn_exit ?_
       refine then_exit ?_
       refine then_exit ?_
       obtain ⟨hE', hmv, hmr⟩ := Ep.rebase hE hI
       replace hx0 := Kd.keep _ hx0 (hmv _)
       replace hx1 := Kd.keep _ hx1 (hmv _)
       replace hx2 := Kd.keep _ hx2 (hmv _)
       replace hg0 := El.keep hg0 (hmv _)
       replace hR_90 := Arr.keep hR_90 (hmv _)
       replace hE := hE'; replace hI := hI.rebase; clear hE' hmv hmr
       obtain rfl := Option.some.inj H1
       exact .inl ⟨_, rfl, rfl, ⟨_, _, hx0, hx1, hx2, hg0, hR_90, hE, hI.pick [70, 69, 68, 12, 7, 6] 4 (s_ [e_ 70 (.int .i64 s2.1), e_ 69 (.int .i64 (t_87.length : Int)), e_ 68 (.slice ((sv_89 0).1) t_87.length ((sv_89 0).2)), e_ 12 (.int .u8 (IntKind.u8.wrap (IntKind.i64.wrap (48 + x2.Op)))), p_ 7 3 0, e_ 6 (.int .i64 s2.2)] [((((kd_Config).cells x0 sv0).map EV.v), 29), ((((kd_Standing).cells x1 sv1).map EV.v), 55), ((((kd_Request).cells x2 sv2).map EV.v), 45), ([.v (.int .i64 x2.Op), .v (.int .i64 x2.Port), .v (.int .u64 x2.Addr), .v (.slice ((sv2 0).1) x2.Data.length ((sv2 0).2)), .v (.slice ((sv0 0).1) x0.Parts.length ((sv0 0).2)), .v (.slice ((sv0 1).1) x0.Chans.length ((sv0 1).2)), .v (.int .i64 x0.Frames.e0.Length), .v (.slice ((sv0 2).1) x0.Frames.e0.Windows.length ((sv0 2).2)), .v (.int .i64 x0.Frames.e1.Length), .v (.slice ((sv0 3).1) x0.Frames.e1.Windows.length ((sv0 3).2)), .v (.int .i64 x1.Part), .v (.bool x1.Normal), .v (.slice ((sv1 0).1) x1.Made.length ((sv1 0).2)), .v (.slice ((sv1 1).1) x1.Valid.length ((sv1 1).2)), .v (.int .i64 0), .v (.int .i64 0), .v (.int .i64 0), .v (.int .i64 0), .v (.int .i64 0), .v (.int .i64 0), .v (.int .u32 0), .v (.bool false), .v (.bool false)], 211)]) (by kernel_rfl)⟩⟩
     ·clear hI hE
      rintro s2 a w_126 ho ⟨ow_128, ns_127, hx0, hx1, hx2, hg0, hR_90, hE, hI⟩
      subst ho
      replace H0 : (some 0 : Option (Int)) = _ := H0
      refine then_normal ?_
      refine sr0_ hF hI (s_ [e_ 6 (.int .i64 0)] [((((kd_Config).cells x0 sv0).map EV.v), 29), ((((kd_Standing).cells x1 sv1).map EV.v), 55), ((((kd_Request).cells x2 sv2).map EV.v), 45), ([.v (.int .i64 x2.Op), .v (.int .i64 x2.Port), .v (.int .u64 x2.Addr), .v (.slice ((sv2 0).1) x2.Data.length ((sv2 0).2)), .v (.slice ((sv0 0).1) x0.Parts.length ((sv0 0).2)), .v (.slice ((sv0 1).1) x0.Chans.length ((sv0 1).2)), .v (.int .i64 x0.Frames.e0.Length), .v (.slice ((sv0 2).1) x0.Frames.e0.Windows.length ((sv0 2).2)), .v (.int .i64 x0.Frames.e1.Length), .v (.slice ((sv0 3).1) x0.Frames.e1.Windows.length ((sv0 3).2)), .v (.int .i64 x1.Part), .v (.bool x1.Normal), .v (.slice ((sv1 0).1) x1.Made.length ((sv1 0).2)), .v (.slice ((sv1 1).1) x1.Valid.length ((sv1 1).2)), .v (.int .i64 0), .v (.int .i64 0), .v (.int .i64 0), .v (.int .i64 0), .v (.int .i64 0), .v (.int .i64 0), .v (.int .u32 0), .v (.bool false), .v (.bool false)], 211)]) (by kernel_rfl) (fun ns_129 a w_130 hI => ?_)
      refine wpIn_ret ?_
      obtain rfl := Option.some.inj H0
      exact ret1 hI rfl rfl ⟨rfl, hE.below hI⟩

noncomputable def G_slices_Clone_uint32_uint32 (l0 : (List Int)) : Option ((List Int)) := (req (decide ((([] : List Int).length + l0.length) * 4 ≤ 140737488355328)) (some (([] : List Int) ++ l0)))
theorem G_slices_Clone_uint32_uint32.calls (l0 : (List Int)) (A0 : Option Addr) (c0 : Nat) (w : World) {S0_ : Nat → Prop} (hr0 : Arr (Kd.int .u32) S0_ w A0 l0) (hc0 : l0.length ≤ c0) (r : (List Int)) (h : G_slices_Clone_uint32_uint32 l0 = some r) :
    Calls Tryz.prog 88 #[.slice A0 l0.length c0] w fun e w' => ∃ q : SV × (Nat → List Nat), e = .returned (.slice ((q.1 0).1) r.length ((q.1 0).2)) ∧ Keeps [] w w' ∧ Handed w w' [] [rb (q.1 0).1] ∧ Row (Kd.int .u32) 60 (fun b => b ∉ ([rb (q.1 0).1] : List (List Nat)).flatten ∧ (w.heap.size ≤ b ∨ S0_ b ∨ b ∈ [])) w' w.heap.size (q.1 0).1 (q.1 0).2 r := by
  obtain ⟨S, hSd⟩ : ∃ S : Nat → Prop, S = fun b => S0_ b ∨ b ∈ ([] : List Nat) := ⟨_, rfl⟩
  replace hr0 := Arr.keep hr0 (Mv.startP (mine := []) w hSd (fun _ _ => by simp))
  unfold G_slices_Clone_uint32_uint32 at h
  have H0 := h
  clear h
  refine enter Tryz.func88 rfl [.slice A0 l0.length c0] (n := 8) rfl (Nat.le_of_ble_eq_true rfl) (fun a hI => ?_)
  have hF : FOpen Fence.wide := .inl rfl
  have hE := Ep.start w
  refine sr0_ hF hI (s_ [e_ 2 (.slice none 0 0), e_ 0 (.slice A0 l0.length c0)] []) (by kernel_rfl) (fun ns_1 a w_2 hI => ?_)
  refine wpIn_seq ?_
  refine sr_ (orc := [[.bool A0.isNone]]) hF hI (s_ [e_ 4 (.bool A0.isNone), e_ 2 (.slice none 0 0), e_ 0 (.slice A0 l0.length c0)] []) [.run true (vS (do eqGuard .eql 43 (.tmp 3) (.const (.slice none 0 0)) (.slice A0 l0.length c0) (.slice none 0 0); binOp .eql 43 (.slice A0 l0.length c0) (.slice none 0 0))) (.bool A0.isNone)] (by kernel_rfl) ⟨(fun _ wz hk => vS_run (eql_nil_run Tryz.underlying43 _ _ _ _ _ wz)), trivial⟩ (fun ns_3 a w_4 hI => ?_)
  refine cond_ hI (A0.isNone) rfl (fun hc_5 => ?_) (fun hc_5 => ?_)
  ·obtain rfl : A0 = none := by cases hA_ : A0 with | none => rfl | some _ => (rw [hA_] at hc_5; cases hc_5)
   obtain rfl := Arr.nil_of hr0
   replace H0 : some ([] : (List Int)) = some r := by simpa [req] using H0
   refine sr0_ hF hI (s_ [e_ 2 (.slice none 0 0)] []) (by kernel_rfl) (fun ns_6 a w_7 hI => ?_)
   obtain ⟨hE', hmv⟩ := Ep.addNil hE
   have hmr := hmr_ ([] : List (List Nat)) w_7
   replace hr0 := Arr.keep hr0 (hmv _)
   replace hE := hE'
   clear hE' hmv hmr
   have hq_8 : Row (Kd.int .u32) 60 (Lo S w w [] [rb none]) w w.heap.size none 0 ([] : List Int) := Row.nil
   obtain ⟨hE', hmv, hmr⟩ := Ep.rebase hE hI
   replace hr0 := Arr.keep hr0 (hmv _)
   replace hq_8 := Row.keep hq_8 (hmv _) (fun b hb => by simp [rb] at hb)
   replace hE := hE'; replace hI := hI.rebase; clear hE' hmv hmr
   refine wpIn_ret ?_
   refine then_ret ?_
   obtain rfl := Option.some.inj H0
   subst hSd
   exact ret1 hI rfl rfl ⟨(svL [(none, 0)], fun i => ([] : List (List Nat)).getD i []), rfl, hE.keeps hI, hE.handed [0] (by decide), Row.keep hq_8 (hE.outO [0] _) (fun _ _ => rfl)⟩
  ·refine wpIn_skip ?_
   refine then_normal ?_
   refine wpIn_seq ?_
   refine wpIn_region_lit ?_
   obtain ⟨hE', hmv, hmr⟩ := Ep.rebase hE hI
   replace hr0 := Arr.keep hr0 (hmv _)
   replace hE := hE'; replace hI := hI.rebase; clear hE' hmv hmr
   refine buildSlice_ (S0 := S) (d := (Kd.int .u32)) (e := 60) hF hE hI (wanted_none rfl) rfl (by kernel_rfl) (cs := []) (by kernel_rfl) [] [] rfl rfl (by simp [maxLen]) (fun i x hi => by simp at hi) (fun A_9 => (s_ [e_ 5 (.slice A_9 ([] : List Int).length (([] : List Int).length)), e_ 4 (.bool A0.isNone), e_ 2 (.slice none 0 0), e_ 0 (.slice A0 l0.length c0)] [])) (fun A_9 => by kernel_rfl) (fun A_9 a w_11 hput hE' hI' hmv hmr hq_10 => ?_)
   replace hr0 := Arr.keep hr0 (hmv _)
   replace hE := hE'; replace hI := hI'; clear hE' hI' hmv hmr
   refine ck0_ hF 1 hI (s_ [e_ 6 (.slice A0 l0.length c0), e_ 5 (.slice A_9 ([] : List Int).length (([] : List Int).length)), e_ 2 (.slice none 0 0)] []) rfl (by kernel_rfl) (fun ns_12 a w_13 hI => ?_)
   obtain ⟨hE', hmv, hmr⟩ := Ep.rebase hE hI
   replace hr0 := Arr.keep hr0 (hmv _)
   replace hq_10 := Row.keep hq_10 (hmv _) (fun b hb => hmr b (by simp [hb]))
   replace hE := hE'; replace hI := hI.rebase; clear hE' hmv hmr
   obtain ⟨hN_14, H0⟩ := req_some H0
   replace hN_14 := of_decide_eq_true hN_14
   refine appendN_ (S0 := S) (l1 := []) (l2 := []) (d := (Kd.int .u32)) (e := 60) hF hE hI (wanted_none rfl) rfl (A := A_9) (c := (([] : List Int).length)) (l := ([] : List Int)) rfl (A2 := A0) (c2 := c0) (ys := l0) rfl hq_10 hE.k.size hr0 (fun y sv u hu => by exact kd_one_int _ sv u hu) Tryz.underlying43 (zi := (.int .u32 0, 1, 4)) (by kernel_rfl) rfl (by kernel_rfl) (len_maxN (b := 4) (by decide) hN_14) hN_14 (fun A_15 c_16 => (s_ [e_ 7 (.slice A_15 (([] : List Int) ++ l0).length c_16), e_ 6 (.slice A0 l0.length c0), e_ 5 (.slice A_9 ([] : List Int).length (([] : List Int).length)), e_ 2 (.slice none 0 0)] [])) (fun A_15 c_16 => by kernel_rfl) (fun A_15 c_16 a w_17 hput hE' hI' hmv hmr hq_10 => ?_)
   replace hr0 := Arr.keep hr0 (hmv _)
   replace hE := hE'; replace hI := hI'; clear hE' hI' hmv hmr
   refine ck0_ hF 1 hI (s_ [e_ 2 (.slice A_15 (([] : List Int) ++ l0).length c_16)] []) rfl (by kernel_rfl) (fun ns_18 a w_19 hI => ?_)
   refine wpListIn_nil ?_
   refine then_normal ?_
   obtain ⟨hE', hmv, hmr⟩ := Ep.rebase hE hI
   replace hr0 := Arr.keep hr0 (hmv _)
   replace hq_10 := Row.keep hq_10 (hmv _) (fun b hb => hmr b (by simp [hb]))
   replace hE := hE'; replace hI := hI.rebase; clear hE' hmv hmr
   refine wpIn_ret ?_
   obtain rfl := Option.some.inj H0
   subst hSd
   exact ret1 hI rfl rfl ⟨(svL [(A_15, c_16)], fun i => ([] : List (List Nat)).getD i []), rfl, hE.keeps hI, hE.handed [0] (by decide), Row.keep hq_10 (hE.outO [0] _) (fun _ _ => rfl)⟩

noncomputable def G_task_made (x0 : Config) (a1 : Int) (x2 : Request) : Option (Fn133) := (bif (x2.Op == 8) then some (Fn133.t221 (⟨x2.Addr, []⟩ : Task_cell)) else (bif (x2.Op == 9) then ((G_slices_Clone_uint32_uint32 x2.Data).bind fun t_15 => some (Fn133.t221 (⟨x2.Addr, t_15⟩ : Task_cell))) else ((G_sign_Port x0 x2.Port).bind fun t_24 => (bif (x2.Op == 3) then none else (bif (x2.Op == 4) then none else (bif (x2.Op == 5) then none else (bif (x2.Op == 6) then none else (bif (x2.Op == 7) then (req (inb t_24.1 x0.Chans.length) (bif (((rd x0.Chans t_24.1).Kind) == 2) then none else some Fn133.nil)) else some Fn133.nil))))))))
theorem G_task_made.calls (x0 : Config) (a1 : Int) (x2 : Request) (sv0 : SV) (sv2 : SV) (w : World) {S : Nat → Prop} (hx0 : (kd_Config).cont S w x0 sv0) (hx2 : (kd_Request).cont S w x2 sv2) (r : Fn133) (h : G_task_made x0 a1 x2 = some r) :
    Calls Tryz.prog 68 #[.agg ((kd_Config).cells x0 sv0).toArray, .int .u32 a1, .agg ((kd_Request).cells x2 sv2).toArray] w fun e w' => ∃ sv : SV, e = .returned (fnv133 r sv) ∧ Below w.heap.size w w' ∧ (kdF133).cont (fun b => w.heap.size ≤ b ∨ S b) w' r sv := by
  replace hx0 := Kd.lo _ hx0
  replace hx2 := Kd.lo _ hx2
  unfold G_task_made at h
  have H0 := h
  clear h
  refine enter Tryz.func68 rfl [.agg ((kd_Config).cells x0 sv0).toArray, .int .u32 a1, .agg ((kd_Request).cells x2 sv2).toArray] (n := 89) rfl (Nat.le_of_ble_eq_true rfl) (fun a hI => ?_)
  have hF : FOpen Fence.wide := .inl rfl
  have hE := Ep.start w
  refine sr0_ hF hI (s_ [e_ 6 (.nilIface), p_ 5 1 0, p_ 3 0 0, e_ 1 (.int .u32 a1)] [((((kd_Config).cells x0 sv0).map EV.v), 29), ((((kd_Request).cells x2 sv2).map EV.v), 45)]) (by kernel_rfl) (fun ns_1 a w_2 hI => ?_)
  refine wpIn_seq ?_
  refine sr0_ hF hI (s_ [e_ 12 (.int .i64 x2.Op), e_ 6 (.nilIface), p_ 5 1 0, p_ 3 0 0, e_ 1 (.int .u32 a1)] [((((kd_Config).cells x0 sv0).map EV.v), 29), ((((kd_Request).cells x2 sv2).map EV.v), 45)]) (by kernel_rfl) (fun ns_3 a w_4 hI => ?_)
  refine wpIn_block ?_
  refine sr0_ hF hI (s_ [e_ 13 (.bool (x2.Op == 8)), e_ 12 (.int .i64 x2.Op), e_ 6 (.nilIface), p_ 5 1 0, p_ 3 0 0, e_ 1 (.int .u32 a1)] [((((kd_Config).cells x0 sv0).map EV.v), 29), ((((kd_Request).cells x2 sv2).map EV.v), 45)]) (by kernel_rfl) (fun ns_5 a w_6 hI => ?_)
  refine cond_ hI ((x2.Op == 8)) rfl (fun hc_7 => ?_) (fun hc_7 => ?_)
  ·replace H0 := bif_t hc_7 H0
   refine sr0_ hF hI (s_ [e_ 6 (.iface 221 (.agg #[.int .u64 x2.Addr, .slice none 0 0]))] [((((kd_Config).cells x0 sv0).map EV.v), 29), ((((kd_Request).cells x2 sv2).map EV.v), 45)]) (by kernel_rfl) (fun ns_8 a w_9 hI => ?_)
   refine wpIn_ret ?_
   refine inBlock_ret ?_
   refine then_ret ?_
   obtain rfl := Option.some.inj H0
   exact ret1 hI rfl rfl ⟨svL [(none, 0), (none, 0)], rfl, hE.below hI, ⟨⟨(Arr.nil _ _ _ _), (Nat.le_refl _)⟩, trivial⟩⟩
  ·replace H0 := bif_f hc_7 H0
   refine sr0_ hF hI (s_ [e_ 19 (.bool (x2.Op == 9)), e_ 6 (.nilIface), p_ 5 1 0, p_ 3 0 0, e_ 1 (.int .u32 a1)] [((((kd_Config).cells x0 sv0).map EV.v), 29), ((((kd_Request).cells x2 sv2).map EV.v), 45)]) (by kernel_rfl) (fun ns_10 a w_11 hI => ?_)
   refine cond_ hI ((x2.Op == 9)) rfl (fun hc_12 => ?_) (fun hc_12 => ?_)
   ·replace H0 := bif_t hc_12 H0
    refine wpIn_seq ?_
    replace hI := hI.fin (live := [19, 5, 3, 1]) (σ2 := (s_ [e_ 19 (.bool (x2.Op == 9)), p_ 5 1 0, p_ 3 0 0, e_ 1 (.int .u32 a1)] [((((kd_Config).cells x0 sv0).map EV.v), 29), ((((kd_Request).cells x2 sv2).map EV.v), 45)])) (by kernel_rfl)
    refine drawnS_ hI (by kernel_rfl) [.q 21 (.p 1 2) [], .q 22 (.v (.int .u64 x2.Addr)) [], .q 23 (.p 1 3) [], .q 24 (.v (.slice ((sv2 0).1) x2.Data.length ((sv2 0).2))) [], .no, .no, .no, .no] (by kernel_rfl) (fun fuel listed w_13 hJ hsz hu => ?_)
    refine stage_ hJ hF hsz hu [.q [] [], .q [0] [], .q [] [], .q [2] [], .no, .no, .no, .no] (by kernel_rfl) (by kernel_rfl) (by kernel_rfl) (by kernel_rfl) 4 rfl (by kernel_rfl) (by kernel_rfl) [3] rfl (by kernel_rfl) (by kernel_rfl) trivial [3] (by kernel_rfl) [.q 21 (.p 1 2) [], .q 22 (.v (.int .u64 x2.Addr)) [], .q 23 (.p 1 3) [], .t (some 24) (some (.v (.slice ((sv2 0).1) x2.Data.length ((sv2 0).2)))), .no, .no, .no, .no] (by kernel_rfl) (fun fuel listed a w_14 hJ hI hW h1 hnl hsz hu => ?_)
    obtain ⟨hE', hmv, hmr⟩ := Ep.rebase hE hI
    replace hx0 := Kd.keep _ hx0 (hmv _)
    replace hx2 := Kd.keep _ hx2 (hmv _)
    replace hE := hE'; replace hI := hI.rebase; clear hE' hmv hmr
    obtain ⟨t_15, hG_16, H0⟩ := bind_some H0
    have hbs_18 := hE.k.size
    refine callO_ hF hE hI hW rfl (args := [.slice ((sv2 0).1) x2.Data.length ((sv2 0).2)]) rfl (enters Tryz.func88 (by kernel_rfl) rfl) (fun q_17 : SV × (Nat → List Nat) => .slice ((q_17.1 0).1) t_15.length ((q_17.1 0).2)) [] (fun q_17 => [rb (q_17.1 0).1]) _ (G_slices_Clone_uint32_uint32.calls x2.Data ((sv2 0).1) ((sv2 0).2) w_14 (S0_ := Lo S w w_14 ns_10 []) hx2.1.1 hx2.1.2 _ hG_16) (.inr (fun b hb => by simp at hb)) (fun q_17 => (s_ [e_ 25 (.slice ((q_17.1 0).1) t_15.length ((q_17.1 0).2)), e_ 24 (.slice ((sv2 0).1) x2.Data.length ((sv2 0).2)), e_ 19 (.bool (x2.Op == 9)), p_ 5 1 0, p_ 3 0 0, e_ 1 (.int .u32 a1)] [((((kd_Config).cells x0 sv0).map EV.v), 29), ((((kd_Request).cells x2 sv2).map EV.v), 45)])) (fun q_17 => by kernel_rfl) (fun q_17 a w_21 hput hE' hI' hmv hmr hres hR => ?_)
    replace hmv : ∀ S0, Mv (Lo S0 w w_14 ns_10 []) w_14 (Lo S0 w w_21 ns_10 [rb (q_17.1 0).1]) w_21 := hmv
    replace hmr : ∀ b ∈ ([] : List (List Nat)).flatten, w_21.heap[b]? = w_14.heap[b]? := hmr
    replace hE : Ep [] w w_21 ns_10 [rb (q_17.1 0).1] := hE'
    replace hI := hI'
    clear hE' hI'
    replace hx0 := Kd.keep _ hx0 (hmv _)
    replace hx2 := Kd.keep _ hx2 (hmv _)
    clear hmv hmr
    have hR_19 := hR
    replace hR_19 := Row.low (Row.keep hR_19 (hres _ (fun b hb => by simp at hb)) (fun _ _ => rfl)) hbs_18
    clear hres
    refine next_ hJ h1 hnl hsz hu (by kernel_rfl) (by kernel_rfl) hput hI (live := [19, 5, 3, 1]) (s_ [e_ 19 (.bool (x2.Op == 9)), p_ 5 1 0, p_ 3 0 0, e_ 1 (.int .u32 a1)] [((((kd_Config).cells x0 sv0).map EV.v), 29), ((((kd_Request).cells x2 sv2).map EV.v), 45)]) (by kernel_rfl) (some (.v (.slice ((q_17.1 0).1) t_15.length ((q_17.1 0).2)))) (by kernel_rfl) [(5, .q 26 (.v (.agg #[.int .u64 x2.Addr, .slice ((q_17.1 0).1) t_15.length ((q_17.1 0).2)])) []), (6, .q 27 (.v (.iface 221 (.agg #[.int .u64 x2.Addr, .slice ((q_17.1 0).1) t_15.length ((q_17.1 0).2)]))) []), (7, .q 6 (.v (.iface 221 (.agg #[.int .u64 x2.Addr, .slice ((q_17.1 0).1) t_15.length ((q_17.1 0).2)]))) [])] [.q 21 (.p 1 2) [], .q 22 (.v (.int .u64 x2.Addr)) [], .q 23 (.p 1 3) [], .t (some 24) (some (.v (.slice ((sv2 0).1) x2.Data.length ((sv2 0).2)))), .t (some 25) (some (.v (.slice ((q_17.1 0).1) t_15.length ((q_17.1 0).2)))), .q 26 (.v (.agg #[.int .u64 x2.Addr, .slice ((q_17.1 0).1) t_15.length ((q_17.1 0).2)])) [], .q 27 (.v (.iface 221 (.agg #[.int .u64 x2.Addr, .slice ((q_17.1 0).1) t_15.length ((q_17.1 0).2)]))) [], .q 6 (.v (.iface 221 (.agg #[.int .u64 x2.Addr, .slice ((q_17.1 0).1) t_15.length ((q_17.1 0).2)]))) []] (by kernel_rfl) (by kernel_rfl) (by kernel_rfl) True.intro (AL.none (by kernel_rfl)) (fun hJ hsz hu => ?_)
    refine end_ hJ hF hsz hu [.q [] [], .q [0] [], .q [] [], .t (some (.v (.slice ((sv2 0).1) x2.Data.length ((sv2 0).2)))), .t (some (.v (.slice ((q_17.1 0).1) t_15.length ((q_17.1 0).2)))), .q [1, 4] [], .q [5] [], .q [6] []] (by kernel_rfl) (by kernel_rfl) (by kernel_rfl) (by kernel_rfl) (by kernel_rfl) (by kernel_rfl) (live := [6]) (s_ [e_ 6 (.iface 221 (.agg #[.int .u64 x2.Addr, .slice ((q_17.1 0).1) t_15.length ((q_17.1 0).2)]))] [((((kd_Config).cells x0 sv0).map EV.v), 29), ((((kd_Request).cells x2 sv2).map EV.v), 45)]) (by kernel_rfl) trivial (fun a w_22 hI => ?_)
    refine then_normal ?_
    obtain ⟨hE', hmv, hmr⟩ := Ep.rebase hE hI
    replace hx0 := Kd.keep _ hx0 (hmv _)
    replace hx2 := Kd.keep _ hx2 (hmv _)
    replace hR_19 := Row.keep hR_19 (hmv _) (fun b hb => hmr b (by simp [hb]))
    replace hE := hE'; replace hI := hI.rebase; clear hE' hmv hmr
    obtain ⟨hE', hmv, hR_19, hcap_23⟩ := Row.still (l1 := []) (l2 := []) hR_19 (Nat.le_refl _) hE
    have hmr := hmr_ ([rb (q_17.1 0).1] : List (List Nat)) w_22
    replace hx0 := Kd.keep _ hx0 (hmv _)
    replace hx2 := Kd.keep _ hx2 (hmv _)
    replace hE := hE'
    clear hE' hmv hmr
    refine wpIn_ret ?_
    refine inBlock_ret ?_
    refine then_ret ?_
    obtain rfl := Option.some.inj H0
    exact ret1 hI rfl rfl ⟨svL [((q_17.1 0).1, (q_17.1 0).2), (none, 0)], rfl, hE.below hI, ⟨⟨(Arr.keep hR_19 (hE.out hI)), hcap_23⟩, trivial⟩⟩
   ·replace H0 := bif_f hc_12 H0
    refine wpIn_skip ?_
    refine inBlock_normal ?_
    refine then_normal ?_
    obtain ⟨t_24, hG_25, H0⟩ := bind_some H0
    refine sr_ (orc := [[.tuple #[.int .i64 t_24.1, .int .i64 t_24.2.1, .bool t_24.2.2.1, .bool t_24.2.2.2]]]) hF hI (s_ [e_ 9 (.bool t_24.2.2.1), e_ 7 (.int .i64 t_24.1), e_ 6 (.nilIface), p_ 5 1 0, p_ 3 0 0, e_ 1 (.int .u32 a1)] [((((kd_Config).cells x0 sv0).map EV.v), 29), ((((kd_Request).cells x2 sv2).map EV.v), 45)]) [.call true 101 [.agg ((kd_Config).cells x0 sv0).toArray, .int .i64 x2.Port] (.tuple #[.int .i64 t_24.1, .int .i64 t_24.2.1, .bool t_24.2.2.1, .bool t_24.2.2.2])] (by kernel_rfl) ⟨ob_call (enters Tryz.func101 (by kernel_rfl) rfl) (fun hg wz hk => G_sign_Port.calls x0 x2.Port sv0 wz (S := fun _ => True) (Kd.any _ (Kd.keep kd_Config (contI (S := Lo S w w [] []) (w := w) (d := kd_Config) (x := x0) (sv := sv0) ⟨⟨hx0.1.1, hx0.1.2⟩, ⟨hx0.2.1.1, hx0.2.1.2⟩, ⟨hx0.2.2.1.1, hx0.2.2.1.2⟩, ⟨hx0.2.2.2.1.1, hx0.2.2.2.1.2⟩, trivial⟩) (Lo.on hk))) _ hG_25), trivial⟩ (fun ns_26 a w_27 hI => ?_)
    refine wpIn_seq ?_
    refine sr0_ hF hI (s_ [e_ 38 (.int .i64 x2.Op), e_ 9 (.bool t_24.2.2.1), e_ 7 (.int .i64 t_24.1), e_ 6 (.nilIface), p_ 5 1 0, p_ 3 0 0, e_ 1 (.int .u32 a1)] [((((kd_Config).cells x0 sv0).map EV.v), 29), ((((kd_Request).cells x2 sv2).map EV.v), 45)]) (by kernel_rfl) (fun ns_28 a w_29 hI => ?_)
    refine wpIn_block ?_
    refine sr0_ hF hI (s_ [e_ 39 (.bool (x2.Op == 3)), e_ 38 (.int .i64 x2.Op), e_ 9 (.bool t_24.2.2.1), e_ 7 (.int .i64 t_24.1), e_ 6 (.nilIface), p_ 5 1 0, p_ 3 0 0, e_ 1 (.int .u32 a1)] [((((kd_Config).cells x0 sv0).map EV.v), 29), ((((kd_Request).cells x2 sv2).map EV.v), 45)]) (by kernel_rfl) (fun ns_30 a w_31 hI => ?_)
    refine cond_ hI ((x2.Op == 3)) rfl (fun hc_32 => ?_) (fun hc_32 => ?_)
    ·replace H0 := bif_t hc_32 H0
     cases H0
    ·replace H0 := bif_f hc_32 H0
     refine sr0_ hF hI (s_ [e_ 48 (.bool (x2.Op == 4)), e_ 38 (.int .i64 x2.Op), e_ 9 (.bool t_24.2.2.1), e_ 7 (.int .i64 t_24.1), e_ 6 (.nilIface), p_ 5 1 0, p_ 3 0 0, e_ 1 (.int .u32 a1)] [((((kd_Config).cells x0 sv0).map EV.v), 29), ((((kd_Request).cells x2 sv2).map EV.v), 45)]) (by kernel_rfl) (fun ns_33 a w_34 hI => ?_)
     refine cond_ hI ((x2.Op == 4)) rfl (fun hc_35 => ?_) (fun hc_35 => ?_)
     ·replace H0 := bif_t hc_35 H0
      cases H0
     ·replace H0 := bif_f hc_35 H0
      refine sr0_ hF hI (s_ [e_ 55 (.bool (x2.Op == 5)), e_ 38 (.int .i64 x2.Op), e_ 9 (.bool t_24.2.2.1), e_ 7 (.int .i64 t_24.1), e_ 6 (.nilIface), p_ 5 1 0, p_ 3 0 0, e_ 1 (.int .u32 a1)] [((((kd_Config).cells x0 sv0).map EV.v), 29), ((((kd_Request).cells x2 sv2).map EV.v), 45)]) (by kernel_rfl) (fun ns_36 a w_37 hI => ?_)
      refine cond_ hI ((x2.Op == 5)) rfl (fun hc_38 => ?_) (fun hc_38 => ?_)
      ·replace H0 := bif_t hc_38 H0
       cases H0
      ·replace H0 := bif_f hc_38 H0
       refine sr0_ hF hI (s_ [e_ 65 (.bool (x2.Op == 6)), e_ 38 (.int .i64 x2.Op), e_ 9 (.bool t_24.2.2.1), e_ 7 (.int .i64 t_24.1), e_ 6 (.nilIface), p_ 3 0 0, e_ 1 (.int .u32 a1)] [((((kd_Config).cells x0 sv0).map EV.v), 29), ((((kd_Request).cells x2 sv2).map EV.v), 45)]) (by kernel_rfl) (fun ns_39 a w_40 hI => ?_)
       refine cond_ hI ((x2.Op == 6)) rfl (fun hc_41 => ?_) (fun hc_41 => ?_)
       ·replace H0 := bif_t hc_41 H0
        cases H0
       ·replace H0 := bif_f hc_41 H0
        refine sr0_ hF hI (s_ [e_ 73 (.bool (x2.Op == 7)), e_ 9 (.bool t_24.2.2.1), e_ 7 (.int .i64 t_24.1), e_ 6 (.nilIface), p_ 3 0 0, e_ 1 (.int .u32 a1)] [((((kd_Config).cells x0 sv0).map EV.v), 29), ((((kd_Request).cells x2 sv2).map EV.v), 45)]) (by kernel_rfl) (fun ns_42 a w_43 hI => ?_)
        refine cond_ hI ((x2.Op == 7)) rfl (fun hc_44 => ?_) (fun hc_44 => ?_)
        ·replace H0 := bif_t hc_44 H0
         obtain ⟨hN_45, H0⟩ := req_some H0
         obtain ⟨sv_46, hE_48, hA_47⟩ := Arr.elB (d := kd_Chan) hx0.2.1.1 t_24.1 true (fun _ => hN_45)
         replace hE_48 := hE_48 rfl
         replace hA_47 := fun (_ : true = true) => hA_47 rfl
         refine sr_ (orc := [[.int .i64 ((rd x0.Chans t_24.1).Kind)]]) hF hI (s_ [e_ 81 (.bool (((rd x0.Chans t_24.1).Kind) == 2)), e_ 9 (.bool t_24.2.2.1), e_ 7 (.int .i64 t_24.1), e_ 6 (.nilIface), p_ 3 0 0, e_ 1 (.int .u32 a1)] [((((kd_Config).cells x0 sv0).map EV.v), 29), ((((kd_Request).cells x2 sv2).map EV.v), 45)]) [.need true ((0 : Int) ≤ t_24.1 ∧ t_24.1 < (x0.Chans.length : Int)), .need true ((sv0 1).1 = some (adr ((sv0 1).1))), .cell true ((adr ((sv0 1).1)).add ((t_24.1 : Int).toNat * 7)) [.int .i64 ((rd x0.Chans t_24.1).Kind)]] (by kernel_rfl) ⟨ob_inb (fun _ => hN_45), hA_47, ob_el (fun _ => hE_48) 0 [.int .i64 ((rd x0.Chans t_24.1).Kind)] rfl, trivial⟩ (fun ns_49 a w_50 hI => ?_)
         refine cond_ hI ((((rd x0.Chans t_24.1).Kind) == 2)) rfl (fun hc_51 => ?_) (fun hc_51 => ?_)
         ·replace H0 := bif_t hc_51 H0
          cases H0
         ·replace H0 := bif_f hc_51 H0
          refine wpIn_skip ?_
          refine inBlock_normal ?_
          refine then_normal ?_
          refine sr0_ hF hI (s_ [e_ 6 (.nilIface)] [((((kd_Config).cells x0 sv0).map EV.v), 29), ((((kd_Request).cells x2 sv2).map EV.v), 45)]) (by kernel_rfl) (fun ns_52 a w_53 hI => ?_)
          refine wpIn_ret ?_
          obtain rfl := Option.some.inj H0
          exact ret1 hI rfl rfl ⟨svL [(none, 0), (none, 0)], rfl, hE.below hI, trivial⟩
        ·replace H0 := bif_f hc_44 H0
         refine wpIn_skip ?_
         refine inBlock_normal ?_
         refine then_normal ?_
         refine sr0_ hF hI (s_ [e_ 6 (.nilIface)] [((((kd_Config).cells x0 sv0).map EV.v), 29), ((((kd_Request).cells x2 sv2).map EV.v), 45)]) (by kernel_rfl) (fun ns_54 a w_55 hI => ?_)
         refine wpIn_ret ?_
         obtain rfl := Option.some.inj H0
         exact ret1 hI rfl rfl ⟨svL [(none, 0), (none, 0)], rfl, hE.below hI, trivial⟩

noncomputable def G_task_Begin (x0 : Config) (x1 : Standing) (a2 : Int) (x3 : Request) : Option ((Option Task_Task) × Answer × Bool) := ((G_sign_Refused x0 x1 x3).bind fun t_3 => (bif (t_3 != 0) then some (none, (⟨t_3, [], false, 0⟩ : Answer), true) else ((G_task_made x0 a2 x3).bind fun t_15 => (Fn133.on t_15 ((cal (x3.Op == 7) (G_slices_Contains_int_int x1.Valid x3.Port) default).bind fun t_26 => some (none, (⟨0, [], ((x3.Op == 7) && t_26), 0⟩ : Answer), true)) (fun y_23 => some ((some (⟨(⟨(Fn133.t221 y_23), 1, false⟩ : Task_work_), a2⟩ : Task_Task)), (⟨0, [], false, 0⟩ : Answer), false))))))
theorem G_task_Begin.calls (x0 : Config) (x1 : Standing) (a2 : Int) (x3 : Request) (sv0 : SV) (sv1 : SV) (sv3 : SV) (w : World) {S0_ : Nat → Prop} (hx0 : (kd_Config).cont S0_ w x0 sv0) (hx1 : (kd_Standing).cont S0_ w x1 sv1) (hx3 : (kd_Request).cont S0_ w x3 sv3) (hg0 : El kd_St257 S0_ w ⟨0, 0, none⟩ gv0 (svL [])) (r : (Option Task_Task) × Answer × Bool) (h : G_task_Begin x0 x1 a2 x3 = some r) :
    Calls Tryz.prog 22 #[.agg ((kd_Config).cells x0 sv0).toArray, .agg ((kd_Standing).cells x1 sv1).toArray, .int .u32 a2, .agg ((kd_Request).cells x3 sv3).toArray] w fun e w' => ∃ q : SV × (Nat → List Nat), e = .returned (.tuple #[.pointer ((q.1 0).1), .agg ((kd_Answer).cells r.2.1 (svO q.1 1)).toArray, .bool r.2.2]) ∧ Keeps [] w w' ∧ Handed w w' [] [q.2 0] ∧ OjtN lk_Task_Task (fun b => b ∉ ([q.2 0] : List (List Nat)).flatten ∧ (w.heap.size ≤ b ∨ S0_ b ∨ b ∈ [])) w' (q.1 0).1 r.1 (q.2 0) ∧ (kd_Answer).cont (fun b => b ∉ ([q.2 0] : List (List Nat)).flatten ∧ (w.heap.size ≤ b ∨ S0_ b ∨ b ∈ [])) w' r.2.1 (svO q.1 1) := by
  obtain ⟨S, hSd⟩ : ∃ S : Nat → Prop, S = fun b => S0_ b ∨ b ∈ ([] : List Nat) := ⟨_, rfl⟩
  replace hx0 := Kd.keep _ hx0 (Mv.startP (mine := []) w hSd (fun _ _ => by simp))
  replace hx1 := Kd.keep _ hx1 (Mv.startP (mine := []) w hSd (fun _ _ => by simp))
  replace hx3 := Kd.keep _ hx3 (Mv.startP (mine := []) w hSd (fun _ _ => by simp))
  replace hg0 := El.keep hg0 (Mv.startP (mine := []) w hSd (fun _ _ => by simp))
  unfold G_task_Begin at h
  have H0 := h
  clear h
  refine enter Tryz.func22 rfl [.agg ((kd_Config).cells x0 sv0).toArray, .agg ((kd_Standing).cells x1 sv1).toArray, .int .u32 a2, .agg ((kd_Request).cells x3 sv3).toArray] (n := 44) rfl (Nat.le_of_ble_eq_true rfl) (fun a hI => ?_)
  have hF : FOpen Fence.wide := .inl rfl
  have hE := Ep.start w
  refine sr0_ hF hI (s_ [e_ 10 (.bool false), p_ 9 3 0, e_ 8 (.pointer none), p_ 7 2 0, p_ 5 1 0, p_ 4 0 0, e_ 2 (.int .u32 a2)] [((((kd_Config).cells x0 sv0).map EV.v), 29), ((((kd_Standing).cells x1 sv1).map EV.v), 55), ((((kd_Request).cells x3 sv3).map EV.v), 45), ([.v (.int .i64 0), .v (.slice none 0 0), .v (.bool false), .v (.int .i64 0)], 48)]) (by kernel_rfl) (fun ns_1 a w_2 hI => ?_)
  refine wpIn_seq ?_
  obtain ⟨t_3, hG_4, H0⟩ := bind_some H0
  refine sr_ (orc := [[.int .i64 t_3]]) hF hI (s_ [e_ 11 (.int .i64 t_3), e_ 10 (.bool false), p_ 9 3 0, e_ 8 (.pointer none), p_ 7 2 0, p_ 5 1 0, p_ 4 0 0, e_ 2 (.int .u32 a2)] [((((kd_Config).cells x0 sv0).map EV.v), 29), ((((kd_Standing).cells x1 sv1).map EV.v), 55), ((((kd_Request).cells x3 sv3).map EV.v), 45), ([.v (.int .i64 0), .v (.slice none 0 0), .v (.bool false), .v (.int .i64 0)], 48)]) [.call true 67 [.agg ((kd_Config).cells x0 sv0).toArray, .agg ((kd_Standing).cells x1 sv1).toArray, .agg ((kd_Request).cells x3 sv3).toArray] (.int .i64 t_3)] (by kernel_rfl) ⟨ob_call (enters Tryz.func67 (by kernel_rfl) rfl) (fun hg wz hk => G_sign_Refused.calls x0 x1 x3 sv0 sv1 sv3 wz (S := fun _ => True) (Kd.any _ (Kd.keep kd_Config (contI (S := Lo S w w [] []) (w := w) (d := kd_Config) (x := x0) (sv := sv0) ⟨⟨hx0.1.1, hx0.1.2⟩, ⟨hx0.2.1.1, hx0.2.1.2⟩, ⟨hx0.2.2.1.1, hx0.2.2.1.2⟩, ⟨hx0.2.2.2.1.1, hx0.2.2.2.1.2⟩, trivial⟩) (Lo.on hk))) (Kd.any _ (Kd.keep kd_Standing (contI (S := Lo S w w [] []) (w := w) (d := kd_Standing) (x := x1) (sv := sv1) ⟨⟨hx1.1.1, hx1.1.2⟩, ⟨hx1.2.1.1, hx1.2.1.2⟩, trivial⟩) (Lo.on hk))) (Kd.any _ (Kd.keep kd_Request (contI (S := Lo S w w [] []) (w := w) (d := kd_Request) (x := x3) (sv := sv3) ⟨⟨hx3.1.1, hx3.1.2⟩, trivial⟩) (Lo.on hk))) (El.any (El.keep hg0 (Lo.on hk))) _ hG_4), trivial⟩ (fun ns_5 a w_6 hI => ?_)
  refine sr0_ hF hI (s_ [e_ 18 (.bool (t_3 != 0)), e_ 11 (.int .i64 t_3), e_ 10 (.bool false), p_ 9 3 0, e_ 8 (.pointer none), p_ 7 2 0, p_ 5 1 0, p_ 4 0 0, e_ 2 (.int .u32 a2)] [((((kd_Config).cells x0 sv0).map EV.v), 29), ((((kd_Standing).cells x1 sv1).map EV.v), 55), ((((kd_Request).cells x3 sv3).map EV.v), 45), ([.v (.int .i64 0), .v (.slice none 0 0), .v (.bool false), .v (.int .i64 0)], 48)]) (by kernel_rfl) (fun ns_7 a w_8 hI => ?_)
  refine cond_ hI ((t_3 != 0)) rfl (fun hc_9 => ?_) (fun hc_9 => ?_)
  ·replace H0 := bif_t hc_9 H0
   refine sr0_ hF hI (s_ [e_ 10 (.bool true), e_ 8 (.pointer none), p_ 9 3 0] [((((kd_Config).cells x0 sv0).map EV.v), 29), ((((kd_Standing).cells x1 sv1).map EV.v), 55), ((((kd_Request).cells x3 sv3).map EV.v), 45), ([.v (.int .i64 t_3), .v (.slice none 0 0), .v (.bool false), .v (.int .i64 0)], 48)]) (by kernel_rfl) (fun ns_10 a w_11 hI => ?_)
   obtain ⟨hE', hmv, hmr⟩ := Ep.rebase hE hI
   replace hx0 := Kd.keep _ hx0 (hmv _)
   replace hx1 := Kd.keep _ hx1 (hmv _)
   replace hx3 := Kd.keep _ hx3 (hmv _)
   replace hg0 := El.keep hg0 (hmv _)
   replace hE := hE'; replace hI := hI.rebase; clear hE' hmv hmr
   obtain ⟨hE', hmv⟩ := Ep.addNil hE
   have hmr := hmr_ ([] : List (List Nat)) w_11
   replace hx0 := Kd.keep _ hx0 (hmv _)
   replace hx1 := Kd.keep _ hx1 (hmv _)
   replace hx3 := Kd.keep _ hx3 (hmv _)
   replace hg0 := El.keep hg0 (hmv _)
   replace hE := hE'
   clear hE' hmv hmr
   refine wpIn_ret ?_
   refine then_ret ?_
   obtain rfl := Option.some.inj H0
   subst hSd
   exact retG hI rfl rfl ⟨(svL [(none, 0), (none, 0)], fun i => ([[]] : List (List Nat)).getD i []), rfl, hE.keeps hI, hE.handed [0] (by decide), OjtN.nil _ _ _, ⟨⟨(Arr.nil _ _ _ _), (Nat.le_refl _)⟩, trivial⟩⟩
  ·replace H0 := bif_f hc_9 H0
   refine wpIn_skip ?_
   refine then_normal ?_
   refine wpIn_seq ?_
   refine wpIn_region_lit ?_
   refine ck0_ hF 3 hI (s_ [e_ 23 (.agg ((kd_Request).cells x3 sv3).toArray), e_ 22 (.int .u32 a2), e_ 21 (.agg ((kd_Config).cells x0 sv0).toArray), e_ 10 (.bool false), p_ 9 3 0, e_ 8 (.pointer none), p_ 7 2 0, p_ 5 1 0, e_ 2 (.int .u32 a2)] [((((kd_Config).cells x0 sv0).map EV.v), 29), ((((kd_Standing).cells x1 sv1).map EV.v), 55), ((((kd_Request).cells x3 sv3).map EV.v), 45), ([.v (.int .i64 0), .v (.slice none 0 0), .v (.bool false), .v (.int .i64 0)], 48)]) rfl (by kernel_rfl) (fun ns_13 a w_14 hI => ?_)
   obtain ⟨hE', hmv, hmr⟩ := Ep.rebase hE hI
   replace hx0 := Kd.keep _ hx0 (hmv _)
   replace hx1 := Kd.keep _ hx1 (hmv _)
   replace hx3 := Kd.keep _ hx3 (hmv _)
   replace hg0 := El.keep hg0 (hmv _)
   replace hE := hE'; replace hI := hI.rebase; clear hE' hmv hmr
   obtain ⟨t_15, hG_16, H0⟩ := bind_some H0
   refine callH_ hF hE hI (wanted_none rfl) rfl (args := [.agg ((kd_Config).cells x0 sv0).toArray, .int .u32 a2, .agg ((kd_Request).cells x3 sv3).toArray]) rfl (enters Tryz.func68 (by kernel_rfl) rfl) (fun sv_17 => fnv133 t_15 sv_17) _ (G_task_made.calls x0 a2 x3 sv0 sv3 w_14 (S := Lo S w w_14 ns_13 []) (contI (S := Lo S w w_14 ns_13 []) (w := w_14) (d := kd_Config) (x := x0) (sv := sv0) ⟨⟨hx0.1.1, hx0.1.2⟩, ⟨hx0.2.1.1, hx0.2.1.2⟩, ⟨hx0.2.2.1.1, hx0.2.2.1.2⟩, ⟨hx0.2.2.2.1.1, hx0.2.2.2.1.2⟩, trivial⟩) (contI (S := Lo S w w_14 ns_13 []) (w := w_14) (d := kd_Request) (x := x3) (sv := sv3) ⟨⟨hx3.1.1, hx3.1.2⟩, trivial⟩) _ hG_16) (fun sv_17 => (s_ [e_ 24 (fnv133 t_15 sv_17), e_ 23 (.agg ((kd_Request).cells x3 sv3).toArray), e_ 22 (.int .u32 a2), e_ 21 (.agg ((kd_Config).cells x0 sv0).toArray), e_ 10 (.bool false), p_ 9 3 0, e_ 8 (.pointer none), p_ 7 2 0, p_ 5 1 0, e_ 2 (.int .u32 a2)] [((((kd_Config).cells x0 sv0).map EV.v), 29), ((((kd_Standing).cells x1 sv1).map EV.v), 55), ((((kd_Request).cells x3 sv3).map EV.v), 45), ([.v (.int .i64 0), .v (.slice none 0 0), .v (.bool false), .v (.int .i64 0)], 48)])) (fun sv_17 => by kernel_rfl) (fun sv_17 a w_19 hput hE' hI' hmv hmr hres hR => ?_)
   replace hx0 := Kd.keep _ hx0 (hmv _)
   replace hx1 := Kd.keep _ hx1 (hmv _)
   replace hx3 := Kd.keep _ hx3 (hmv _)
   replace hg0 := El.keep hg0 (hmv _)
   replace hE := hE'; replace hI := hI'; clear hE' hI' hmv hmr
   have hR_18 := hR
   replace hR_18 := Kd.keep _ hR_18 (hres _)
   clear hres
   refine ck0_ hF 1 hI (s_ [e_ 12 (fnv133 t_15 sv_17), e_ 10 (.bool false), p_ 9 3 0, e_ 8 (.pointer none), p_ 7 2 0, p_ 5 1 0, e_ 2 (.int .u32 a2)] [((((kd_Config).cells x0 sv0).map EV.v), 29), ((((kd_Standing).cells x1 sv1).map EV.v), 55), ((((kd_Request).cells x3 sv3).map EV.v), 45), ([.v (.int .i64 0), .v (.slice none 0 0), .v (.bool false), .v (.int .i64 0)], 48)]) rfl (by kernel_rfl) (fun ns_20 a w_21 hI => ?_)
   refine wpListIn_nil ?_
   refine then_normal ?_
   refine wpIn_seq ?_
   obtain ⟨hE', hmv, hmr⟩ := Ep.rebase hE hI
   replace hx0 := Kd.keep _ hx0 (hmv _)
   replace hx1 := Kd.keep _ hx1 (hmv _)
   replace hx3 := Kd.keep _ hx3 (hmv _)
   replace hg0 := El.keep hg0 (hmv _)
   replace hR_18 := Kd.keep _ hR_18 (hmv _)
   replace hE := hE'; replace hI := hI.rebase; clear hE' hmv hmr
   rcases Fn133.split H0 with ⟨hx_22, H0⟩ | ⟨y_23, hx_22, H0⟩
   ·replace hI := Inv.cast (σf := fun q_ => (s_ [e_ 12 (q_), e_ 10 (.bool false), p_ 9 3 0, e_ 8 (.pointer none), p_ 7 2 0, p_ 5 1 0, e_ 2 (.int .u32 a2)] [((((kd_Config).cells x0 sv0).map EV.v), 29), ((((kd_Standing).cells x1 sv1).map EV.v), 55), ((((kd_Request).cells x3 sv3).map EV.v), 45), ([.v (.int .i64 0), .v (.slice none 0 0), .v (.bool false), .v (.int .i64 0)], 48)])) (show fnv133 t_15 sv_17 = .nilIface from by rw [hx_22]; rfl) hI
    refine sr0_ hF hI (s_ [e_ 26 (.bool true), e_ 12 (.nilIface), e_ 10 (.bool false), p_ 9 3 0, e_ 8 (.pointer none), p_ 7 2 0, p_ 5 1 0, e_ 2 (.int .u32 a2)] [((((kd_Config).cells x0 sv0).map EV.v), 29), ((((kd_Standing).cells x1 sv1).map EV.v), 55), ((((kd_Request).cells x3 sv3).map EV.v), 45), ([.v (.int .i64 0), .v (.slice none 0 0), .v (.bool false), .v (.int .i64 0)], 48)]) (by kernel_rfl) (fun ns_24 a w_25 hI => ?_)
    refine cond_ hI true rfl (fun _ => ?_) (fun h => by cases h)
    obtain ⟨t_26, hG_27, H0⟩ := bind_some H0
    refine sr_ (orc := [[.bool t_26]]) hF hI (s_ [e_ 10 (.bool true), e_ 8 (.pointer none), p_ 9 3 0] [((((kd_Config).cells x0 sv0).map EV.v), 29), ((((kd_Standing).cells x1 sv1).map EV.v), 55), ((((kd_Request).cells x3 sv3).map EV.v), 45), ([.v (.int .i64 0), .v (.slice none 0 0), .v (.bool ((x3.Op == 7) && t_26)), .v (.int .i64 0)], 48)]) [.call (x3.Op == 7) 69 [.slice ((sv1 1).1) x1.Valid.length ((sv1 1).2), .int .i64 x3.Port] (.bool t_26)] (by kernel_rfl) ⟨ob_call (enters Tryz.func69 (by kernel_rfl) rfl) (fun hg wz hk => G_slices_Contains_int_int.calls x1.Valid x3.Port ((sv1 1).1) ((sv1 1).2) wz (S := fun _ => True) (Arr.any (Arr.keep hx1.2.1.1 (Lo.on hk))) hx1.2.1.2 _ (cal_some hG_27 hg)), trivial⟩ (fun ns_28 a w_29 hI => ?_)
    obtain ⟨hE', hmv, hmr⟩ := Ep.rebase hE hI
    replace hx0 := Kd.keep _ hx0 (hmv _)
    replace hx1 := Kd.keep _ hx1 (hmv _)
    replace hx3 := Kd.keep _ hx3 (hmv _)
    replace hg0 := El.keep hg0 (hmv _)
    replace hE := hE'; replace hI := hI.rebase; clear hE' hmv hmr
    obtain ⟨hE', hmv⟩ := Ep.addNil hE
    have hmr := hmr_ ([] : List (List Nat)) w_29
    replace hx0 := Kd.keep _ hx0 (hmv _)
    replace hx1 := Kd.keep _ hx1 (hmv _)
    replace hx3 := Kd.keep _ hx3 (hmv _)
    replace hg0 := El.keep hg0 (hmv _)
    replace hE := hE'
    clear hE' hmv hmr
    refine wpIn_ret ?_
    refine then_ret ?_
    obtain rfl := Option.some.inj H0
    subst hSd
    exact retG hI rfl rfl ⟨(svL [(none, 0), (none, 0)], fun i => ([[]] : List (List Nat)).getD i []), rfl, hE.keeps hI, hE.handed [0] (by decide), OjtN.nil _ _ _, ⟨⟨(Arr.nil _ _ _ _), (Nat.le_refl _)⟩, trivial⟩⟩
   ·replace hI := Inv.cast (σf := fun q_ => (s_ [e_ 12 (q_), e_ 10 (.bool false), p_ 9 3 0, e_ 8 (.pointer none), p_ 7 2 0, p_ 5 1 0, e_ 2 (.int .u32 a2)] [((((kd_Config).cells x0 sv0).map EV.v), 29), ((((kd_Standing).cells x1 sv1).map EV.v), 55), ((((kd_Request).cells x3 sv3).map EV.v), 45), ([.v (.int .i64 0), .v (.slice none 0 0), .v (.bool false), .v (.int .i64 0)], 48)])) (show fnv133 t_15 sv_17 = .iface 221 (.agg ((kd_Task_cell).cells y_23 sv_17).toArray) from by rw [hx_22]; rfl) hI
    replace hR_18 : (kd_Task_cell).cont (Lo S w w_21 ns_20 []) w_21 y_23 sv_17 := fnr133 hR_18 hx_22
    refine sr0_ hF hI (s_ [e_ 26 (.bool false), e_ 12 (.iface 221 (.agg ((kd_Task_cell).cells y_23 sv_17).toArray)), e_ 10 (.bool false), p_ 9 3 0, e_ 8 (.pointer none), p_ 7 2 0, p_ 5 1 0, e_ 2 (.int .u32 a2)] [((((kd_Config).cells x0 sv0).map EV.v), 29), ((((kd_Standing).cells x1 sv1).map EV.v), 55), ((((kd_Request).cells x3 sv3).map EV.v), 45), ([.v (.int .i64 0), .v (.slice none 0 0), .v (.bool false), .v (.int .i64 0)], 48)]) (by kernel_rfl) (fun ns_31 a w_32 hI => ?_)
    refine cond_ hI false rfl (fun h => by cases h) (fun _ => ?_)
    refine wpIn_skip ?_
    refine then_normal ?_
    refine sr0_ hF hI (s_ [e_ 10 (.bool false), p_ 8 4 0, p_ 9 3 0] [((((kd_Config).cells x0 sv0).map EV.v), 29), ((((kd_Standing).cells x1 sv1).map EV.v), 55), ((((kd_Request).cells x3 sv3).map EV.v), 45), ([.v (.int .i64 0), .v (.slice none 0 0), .v (.bool false), .v (.int .i64 0)], 48), ([.v (.iface 221 (.agg ((kd_Task_cell).cells y_23 sv_17).toArray)), .v (.int .i64 1), .v (.bool false), .v (.int .u32 a2)], 140)]) (by kernel_rfl) (fun ns_33 a w_34 hI => ?_)
    obtain ⟨hE', hmv, hmr⟩ := Ep.rebase hE hI
    replace hx0 := Kd.keep _ hx0 (hmv _)
    replace hx1 := Kd.keep _ hx1 (hmv _)
    replace hx3 := Kd.keep _ hx3 (hmv _)
    replace hg0 := El.keep hg0 (hmv _)
    replace hR_18 := Kd.keep _ hR_18 (hmv _)
    replace hE := hE'; replace hI := hI.rebase; clear hE' hmv hmr
    have hct := contI (S := Lo S w w_34 ns_33 []) (w := w_34) (d := kd_Task_Task) (x := (⟨(⟨(Fn133.t221 y_23), 1, false⟩ : Task_work_), a2⟩ : Task_Task)) (sv := (svL [((sv_17 0).1, (sv_17 0).2), (none, 0)])) ⟨(show (kdF133).cont _ _ (Fn133.t221 y_23) (svO (svL [((sv_17 0).1, (sv_17 0).2), (none, 0)]) 0) from ⟨⟨(show (kd_Task_cell).cont _ _ y_23 sv_17 from hR_18).1.1, (show (kd_Task_cell).cont _ _ y_23 sv_17 from hR_18).1.2⟩, trivial⟩), trivial⟩
    obtain ⟨B_35, ns_36, hE', hI', hmv, hB_38, ho_37⟩ := publish_ (d := kd_Task_Task) hE hI 4 (⟨(⟨(Fn133.t221 y_23), 1, false⟩ : Task_work_), a2⟩ : Task_Task) (svL [((sv_17 0).1, (sv_17 0).2), (none, 0)]) 140 rfl
    replace ho_37 := ho_37 _ hct
    clear hct
    replace hE : Ep [] w w_34 ns_36 [[B_35]] := hE'
    have hmr := hmr_ ([[B_35]] : List (List Nat)) w_34
    replace hx0 := Kd.keep _ hx0 (hmv _)
    replace hx1 := Kd.keep _ hx1 (hmv _)
    replace hx3 := Kd.keep _ hx3 (hmv _)
    replace hg0 := El.keep hg0 (hmv _)
    replace hR_18 := Kd.keep _ hR_18 (hmv _)
    replace hI := hI'
    clear hE' hI' hmv hmr
    obtain ⟨ns_40, hE', hI', hmv⟩ := hE.cut hI [10, 8, 9] 4 (s_ [e_ 10 (.bool false), e_ 8 (.pointer (some ⟨B_35, 0, none⟩)), p_ 9 3 0] [((((kd_Config).cells x0 sv0).map EV.v), 29), ((((kd_Standing).cells x1 sv1).map EV.v), 55), ((((kd_Request).cells x3 sv3).map EV.v), 45), ([.v (.int .i64 0), .v (.slice none 0 0), .v (.bool false), .v (.int .i64 0)], 48)]) (by kernel_rfl)
    have hmr := hmr_ ([[B_35]] : List (List Nat)) w_34
    replace hx0 := Kd.keep _ hx0 (hmv _)
    replace hx1 := Kd.keep _ hx1 (hmv _)
    replace hx3 := Kd.keep _ hx3 (hmv _)
    replace hg0 := El.keep hg0 (hmv _)
    replace hR_18 := Kd.keep _ hR_18 (hmv _)
    replace ho_37 := Ob1.keep ho_37 (hmv _) (hmr _ (by simp))
    replace hE := hE'; replace hI := hI'; clear hE' hI' hmv hmr
    have ho_41 : Ojt lk_Task_Task (Lo S w w_34 ns_40 [[B_35]]) w_34 B_35 (⟨(⟨(Fn133.t221 y_23), 1, false⟩ : Task_work_), a2⟩ : Task_Task) (B_35 :: ([])) := Ojt.mk' (k := lk_Task_Task) (svL [((sv_17 0).1, (sv_17 0).2), (none, 0)]) (Ob1.as ho_37 rfl id) ⟨rfl, trivial⟩
    obtain ⟨hE', hmv⟩ := Ep.group hE [0] (by decide) (B_35 :: ([])) rfl
    replace hE : Ep [] w w_34 ns_40 [(B_35 :: ([]))] := hE'
    replace hmv : ∀ S0, Mv (Lo S0 w w_34 ns_40 [[B_35]]) w_34 (Lo S0 w w_34 ns_40 [(B_35 :: ([]))]) w_34 := hmv
    have hmr := hmr_ ([(B_35 :: ([]))] : List (List Nat)) w_34
    replace hx0 := Kd.keep _ hx0 (hmv _)
    replace hx1 := Kd.keep _ hx1 (hmv _)
    replace hx3 := Kd.keep _ hx3 (hmv _)
    replace hg0 := El.keep hg0 (hmv _)
    replace hR_18 := Kd.keep _ hR_18 (hmv _)
    replace ho_41 := Ojt.keep ho_41 (hmv _) (fun b hb => hmr b (flat_mem (by simp) hb))
    clear hE' hmv hmr
    refine wpIn_ret ?_
    obtain rfl := Option.some.inj H0
    subst hSd
    exact retG hI rfl rfl ⟨(svL [(some ⟨B_35, 0, none⟩, 0), (none, 0)], fun i => ([(B_35 :: ([]))] : List (List Nat)).getD i []), rfl, hE.keeps hI, hE.handed [0] (by decide), OjtN.of (Ojt.keep ho_41 (hE.outO [0] _) (fun _ _ => rfl)), ⟨⟨(Arr.nil _ _ _ _), (Nat.le_refl _)⟩, trivial⟩⟩

noncomputable def G_ref07_window.b1 (x0 : Config) (a1 : Int) (s1 : Int × Bool) : Option (Stp (Int × Bool) (Ex (Int × Bool) (Bool))) := (bif decide (s1.1 < (((rdA_St27 x0.Frames ((rd x0.Parts a1).Core)).Windows).length : Int)) then (req (inb s1.1 ((rdA_St27 x0.Frames ((rd x0.Parts a1).Core)).Windows).length) (bif (((rd ((rdA_St27 x0.Frames ((rd x0.Parts a1).Core)).Windows) s1.1).Part) == a1) then some (.out (.ret true)) else some (.next ((IntKind.i64.wrap (s1.1 + 1)), s1.2)))) else some (.out (.brk (s1.1, s1.2))))
noncomputable def G_ref07_window (x0 : Config) (a1 : Int) : Option (Bool) := (req (inb a1 x0.Parts.length) (req (imp (((rd x0.Parts a1).Core) != 0) (inb a1 x0.Parts.length)) (bif ((((rd x0.Parts a1).Core) != 0) && (((rd x0.Parts a1).Core) != 1)) then some false else (req (inb a1 x0.Parts.length) (req (inb ((rd x0.Parts a1).Core) 2) ((loopω (G_ref07_window.b1 x0 a1) (0, false)).bind fun o => o.on (fun s1 => some false) (fun r => some r)))))))
theorem G_ref07_window.calls (x0 : Config) (a1 : Int) (sv0 : SV) (w : World) {S : Nat → Prop} (hx0 : (kd_Config).cont S w x0 sv0) (r : Bool) (h : G_ref07_window x0 a1 = some r) :
    Calls Tryz.prog 133 #[.agg ((kd_Config).cells x0 sv0).toArray, .int .i64 a1] w fun e w' => e = .returned (.bool r) ∧ Below w.heap.size w w' := by
  replace hx0 := Kd.lo _ hx0
  unfold G_ref07_window at h
  have H0 := h
  clear h
  refine enter Tryz.func133 rfl [.agg ((kd_Config).cells x0 sv0).toArray, .int .i64 a1] (n := 46) rfl (Nat.le_of_ble_eq_true rfl) (fun a hI => ?_)
  have hF : FOpen Fence.wide := .inl rfl
  have hE := Ep.start w
  refine sr0_ hF hI (s_ [e_ 4 (.bool false), p_ 2 0 0, e_ 1 (.int .i64 a1)] [((((kd_Config).cells x0 sv0).map EV.v), 29)]) (by kernel_rfl) (fun ns_1 a w_2 hI => ?_)
  refine wpIn_seq ?_
  obtain ⟨hE', hmv, hmr⟩ := Ep.rebase hE hI
  replace hx0 := Kd.keep _ hx0 (hmv _)
  replace hE := hE'; replace hI := hI.rebase; clear hE' hmv hmr
  have hct := contI (S := Lo S w w_2 ns_1 []) (w := w_2) (d := kd_Config) (x := x0) (sv := sv0) ⟨⟨hx0.1.1, hx0.1.2⟩, ⟨hx0.2.1.1, hx0.2.1.2⟩, ⟨hx0.2.2.1.1, hx0.2.2.1.2⟩, ⟨hx0.2.2.2.1.1, hx0.2.2.2.1.2⟩, trivial⟩
  obtain ⟨B_3, ns_5, hE', hI', hmv, hB_4⟩ := freeze_ (d := kd_Config) hE hI 0 x0 sv0 29 rfl
  replace hB_4 := hB_4 _ hct
  clear hct
  have hmr := hmr_ ([] : List (List Nat)) w_2
  replace hx0 := Kd.keep _ hx0 (hmv _)
  replace hE := hE'; replace hI := hI'; clear hE' hI' hmv hmr
  obtain ⟨ns_6, hE', hI', hmv⟩ := hE.cut hI [4, 2, 1] 0 (s_ [e_ 4 (.bool false), e_ 2 (.pointer (some B_3)), e_ 1 (.int .i64 a1)] []) (by kernel_rfl)
  have hmr := hmr_ ([] : List (List Nat)) w_2
  replace hx0 := Kd.keep _ hx0 (hmv _)
  replace hB_4 := El.keep hB_4 (hmv _)
  replace hE := hE'; replace hI := hI'; clear hE' hI' hmv hmr
  obtain ⟨hN_7, H0⟩ := req_some H0
  obtain ⟨sv_8, hE_10, hA_9⟩ := Arr.elB (d := kd_Part) (hB_4).cont.1.1 a1 true (fun _ => hN_7)
  replace hE_10 := hE_10 rfl
  replace hA_9 := fun (_ : true = true) => hA_9 rfl
  obtain ⟨hN_11, H0⟩ := req_some H0
  obtain ⟨sv_12, hE_14, hA_13⟩ := Arr.elB (d := kd_Part) (hB_4).cont.1.1 a1 (((rd x0.Parts a1).Core) != 0) (fun hg => imp_spec hN_11 hg)
  refine sr_ (orc := [[.slice ((sv0 0).1) x0.Parts.length ((sv0 0).2)], [.int .i64 ((rd x0.Parts a1).Core)], [.slice ((sv0 0).1) x0.Parts.length ((sv0 0).2)], [.int .i64 ((rd x0.Parts a1).Core)]]) hF hI (s_ [e_ 22 (.bool ((((rd x0.Parts a1).Core) != 0) && (((rd x0.Parts a1).Core) != 1))), e_ 4 (.bool false), e_ 2 (.pointer (some B_3)), e_ 1 (.int .i64 a1)] []) [.cell true B_3 [.slice ((sv0 0).1) x0.Parts.length ((sv0 0).2)], .need true ((0 : Int) ≤ a1 ∧ a1 < (x0.Parts.length : Int)), .need true ((sv0 0).1 = some (adr ((sv0 0).1))), .cell true ((adr ((sv0 0).1)).add ((a1 : Int).toNat * 2)) [.int .i64 ((rd x0.Parts a1).Core)], .cell (((rd x0.Parts a1).Core) != 0) B_3 [.slice ((sv0 0).1) x0.Parts.length ((sv0 0).2)], .need (((rd x0.Parts a1).Core) != 0) ((0 : Int) ≤ a1 ∧ a1 < (x0.Parts.length : Int)), .need (((rd x0.Parts a1).Core) != 0) ((sv0 0).1 = some (adr ((sv0 0).1))), .cell (((rd x0.Parts a1).Core) != 0) ((adr ((sv0 0).1)).add ((a1 : Int).toNat * 2)) [.int .i64 ((rd x0.Parts a1).Core)]] (by kernel_rfl) ⟨ob_el (fun _ => hB_4) 0 [.slice ((sv0 0).1) x0.Parts.length ((sv0 0).2)] rfl, ob_inb (fun _ => hN_7), hA_9, ob_el (fun _ => hE_10) 0 [.int .i64 ((rd x0.Parts a1).Core)] rfl, ob_el (fun _ => hB_4) 0 [.slice ((sv0 0).1) x0.Parts.length ((sv0 0).2)] rfl, ob_inb (fun hg => imp_spec hN_11 hg), hA_13, ob_el (fun hg => hE_14 hg) 0 [.int .i64 ((rd x0.Parts a1).Core)] rfl, trivial⟩ (fun ns_15 a w_16 hI => ?_)
  refine cond_ hI (((((rd x0.Parts a1).Core) != 0) && (((rd x0.Parts a1).Core) != 1))) rfl (fun hc_17 => ?_) (fun hc_17 => ?_)
  ·replace H0 := bif_t hc_17 H0
   refine sr0_ hF hI (s_ [e_ 4 (.bool false)] []) (by kernel_rfl) (fun ns_18 a w_19 hI => ?_)
   refine wpIn_ret ?_
   refine then_ret ?_
   obtain rfl := Option.some.inj H0
   exact ret1 hI rfl rfl ⟨rfl, hE.below hI⟩
  ·replace H0 := bif_f hc_17 H0
   refine wpIn_skip ?_
   refine then_normal ?_
   obtain ⟨hN_20, H0⟩ := req_some H0
   obtain ⟨sv_21, hE_23, hA_22⟩ := Arr.elB (d := kd_Part) (hB_4).cont.1.1 a1 true (fun _ => hN_20)
   replace hE_23 := hE_23 rfl
   replace hA_22 := fun (_ : true = true) => hA_22 rfl
   obtain ⟨hN_24, H0⟩ := req_some H0
   have hE_26 := elA_St27 (El.part (e := kd_St27) hB_4 2 x0.Frames (svO sv0 2) ⟨(hB_4).cont.2.2.1, (hB_4).cont.2.2.2.1, trivial⟩ rfl) hN_24
   refine sr_ (orc := [[.slice ((sv0 0).1) x0.Parts.length ((sv0 0).2)], [.int .i64 ((rd x0.Parts a1).Core)], [.slice (((svO (svO sv0 2) (((rd x0.Parts a1).Core : Int).toNat * 1)) 0).1) ((rdA_St27 x0.Frames ((rd x0.Parts a1).Core)).Windows).length (((svO (svO sv0 2) (((rd x0.Parts a1).Core : Int).toNat * 1)) 0).2)]]) hF hI (s_ [e_ 5 (.slice (((svO (svO sv0 2) (((rd x0.Parts a1).Core : Int).toNat * 1)) 0).1) ((rdA_St27 x0.Frames ((rd x0.Parts a1).Core)).Windows).length (((svO (svO sv0 2) (((rd x0.Parts a1).Core : Int).toNat * 1)) 0).2)), e_ 4 (.bool false), e_ 1 (.int .i64 a1)] []) [.cell true B_3 [.slice ((sv0 0).1) x0.Parts.length ((sv0 0).2)], .need true ((0 : Int) ≤ a1 ∧ a1 < (x0.Parts.length : Int)), .need true ((sv0 0).1 = some (adr ((sv0 0).1))), .cell true ((adr ((sv0 0).1)).add ((a1 : Int).toNat * 2)) [.int .i64 ((rd x0.Parts a1).Core)], .need true ((0 : Int) ≤ ((rd x0.Parts a1).Core) ∧ ((rd x0.Parts a1).Core) < ((2 : Nat) : Int)), .cell true (((B_3.add 2).add (((rd x0.Parts a1).Core : Int).toNat * 2)).add 1) [.slice (((svO (svO sv0 2) (((rd x0.Parts a1).Core : Int).toNat * 1)) 0).1) ((rdA_St27 x0.Frames ((rd x0.Parts a1).Core)).Windows).length (((svO (svO sv0 2) (((rd x0.Parts a1).Core : Int).toNat * 1)) 0).2)]] (by kernel_rfl) ⟨ob_el (fun _ => hB_4) 0 [.slice ((sv0 0).1) x0.Parts.length ((sv0 0).2)] rfl, ob_inb (fun _ => hN_20), hA_22, ob_el (fun _ => hE_23) 0 [.int .i64 ((rd x0.Parts a1).Core)] rfl, ob_inb (fun _ => hN_24), ob_el (fun _ => hE_26) 1 [.slice (((svO (svO sv0 2) (((rd x0.Parts a1).Core : Int).toNat * 1)) 0).1) ((rdA_St27 x0.Frames ((rd x0.Parts a1).Core)).Windows).length (((svO (svO sv0 2) (((rd x0.Parts a1).Core : Int).toNat * 1)) 0).2)] rfl, trivial⟩ (fun ns_27 a w_28 hI => ?_)
   refine wpIn_seq ?_
   refine sr0_ hF hI (s_ [e_ 6 (.int .i64 0), e_ 5 (.slice (((svO (svO sv0 2) (((rd x0.Parts a1).Core : Int).toNat * 1)) 0).1) ((rdA_St27 x0.Frames ((rd x0.Parts a1).Core)).Windows).length (((svO (svO sv0 2) (((rd x0.Parts a1).Core : Int).toNat * 1)) 0).2)), e_ 4 (.bool false), e_ 1 (.int .i64 a1)] []) (by kernel_rfl) (fun ns_29 a w_30 hI => ?_)
   obtain ⟨o_47, hL_48, H0⟩ := bind_some H0
   refine block_loop (fun (s1 : Int × Bool) a w_53 => ∃ ns, St w_2 ns_6 46 (s_ [e_ 6 (.int .i64 s1.1), e_ 5 (.slice (((svO (svO sv0 2) (((rd x0.Parts a1).Core : Int).toNat * 1)) 0).1) ((rdA_St27 x0.Frames ((rd x0.Parts a1).Core)).Windows).length (((svO (svO sv0 2) (((rd x0.Parts a1).Core : Int).toNat * 1)) 0).2)), e_ 4 (.bool s1.2), e_ 1 (.int .i64 a1)] []) ns a w_53) (0, false) hL_48 ⟨_, hI.pick [6, 5, 4, 1] 0 (s_ [e_ 6 (.int .i64 0), e_ 5 (.slice (((svO (svO sv0 2) (((rd x0.Parts a1).Core : Int).toNat * 1)) 0).1) ((rdA_St27 x0.Frames ((rd x0.Parts a1).Core)).Windows).length (((svO (svO sv0 2) (((rd x0.Parts a1).Core : Int).toNat * 1)) 0).2)), e_ 4 (.bool false), e_ 1 (.int .i64 a1)] []) (by kernel_rfl)⟩ ?_ ?_
   ·clear hI
    rintro s1 a w_31 ⟨ns_32, hI⟩ r1 H1
    unfold G_ref07_window.b1 at H1
    refine wpIn_seq ?_
    refine sr0_ hF hI (s_ [e_ 36 (.bool (decide (s1.1 < (((rdA_St27 x0.Frames ((rd x0.Parts a1).Core)).Windows).length : Int)))), e_ 6 (.int .i64 s1.1), e_ 5 (.slice (((svO (svO sv0 2) (((rd x0.Parts a1).Core : Int).toNat * 1)) 0).1) ((rdA_St27 x0.Frames ((rd x0.Parts a1).Core)).Windows).length (((svO (svO sv0 2) (((rd x0.Parts a1).Core : Int).toNat * 1)) 0).2)), e_ 4 (.bool s1.2), e_ 1 (.int .i64 a1)] []) (by kernel_rfl) (fun ns_33 a w_34 hI => ?_)
    refine cond_ hI (decide (s1.1 < (((rdA_St27 x0.Frames ((rd x0.Parts a1).Core)).Windows).length : Int))) rfl (fun hc_35 => ?_) (fun hc_35 => ?_)
    ·replace H1 := bif_t hc_35 H1
     refine wpIn_skip ?_
     refine then_normal ?_
     refine wpIn_seq ?_
     refine wpIn_block ?_
     obtain ⟨hN_36, H1⟩ := req_some H1
     obtain ⟨sv_37, hE_39, hA_38⟩ := Arr.elB (d := kd_Window) (hE_26).cont.1.1 s1.1 true (fun _ => hN_36)
     replace hE_39 := hE_39 rfl
     replace hA_38 := fun (_ : true = true) => hA_38 rfl
     refine sr_ (orc := [[.int .i64 ((rd ((rdA_St27 x0.Frames ((rd x0.Parts a1).Core)).Windows) s1.1).Part)]]) hF hI (s_ [e_ 45 (.bool (((rd ((rdA_St27 x0.Frames ((rd x0.Parts a1).Core)).Windows) s1.1).Part) == a1)), e_ 6 (.int .i64 s1.1), e_ 5 (.slice (((svO (svO sv0 2) (((rd x0.Parts a1).Core : Int).toNat * 1)) 0).1) ((rdA_St27 x0.Frames ((rd x0.Parts a1).Core)).Windows).length (((svO (svO sv0 2) (((rd x0.Parts a1).Core : Int).toNat * 1)) 0).2)), e_ 4 (.bool s1.2), e_ 1 (.int .i64 a1)] []) [.need true ((0 : Int) ≤ s1.1 ∧ s1.1 < (((rdA_St27 x0.Frames ((rd x0.Parts a1).Core)).Windows).length : Int)), .need true (((svO (svO sv0 2) (((rd x0.Parts a1).Core : Int).toNat * 1)) 0).1 = some (adr (((svO (svO sv0 2) (((rd x0.Parts a1).Core : Int).toNat * 1)) 0).1))), .cell true ((adr (((svO (svO sv0 2) (((rd x0.Parts a1).Core : Int).toNat * 1)) 0).1)).add ((s1.1 : Int).toNat * 3)) [.int .i64 ((rd ((rdA_St27 x0.Frames ((rd x0.Parts a1).Core)).Windows) s1.1).Part)]] (by kernel_rfl) ⟨ob_inb (fun _ => hN_36), hA_38, ob_el (fun _ => hE_39) 0 [.int .i64 ((rd ((rdA_St27 x0.Frames ((rd x0.Parts a1).Core)).Windows) s1.1).Part)] rfl, trivial⟩ (fun ns_40 a w_41 hI => ?_)
     refine cond_ hI ((((rd ((rdA_St27 x0.Frames ((rd x0.Parts a1).Core)).Windows) s1.1).Part) == a1)) rfl (fun hc_42 => ?_) (fun hc_42 => ?_)
     ·replace H1 := bif_t hc_42 H1
      refine sr0_ hF hI (s_ [e_ 4 (.bool true)] []) (by kernel_rfl) (fun ns_43 a w_44 hI => ?_)
      refine wpIn_ret ?_
      refine inBlock_ret ?_
      refine then_ret ?_
      refine then_ret ?_
      obtain rfl := Option.some.inj H1
      refine .inr ⟨_, rfl, fun ho => ?_⟩
      subst ho
      refine inBlock_ret ?_
      refine then_ret ?_
      obtain rfl := Option.some.inj H0
      exact ret1 hI rfl rfl ⟨rfl, hE.below hI⟩
     ·replace H1 := bif_f hc_42 H1
      refine wpIn_skip ?_
      refine inBlock_normal ?_
      refine then_normal ?_
      refine rg0_ hF hI (s_ [e_ 6 (.int .i64 (IntKind.i64.wrap (s1.1 + 1))), e_ 5 (.slice (((svO (svO sv0 2) (((rd x0.Parts a1).Core : Int).toNat * 1)) 0).1) ((rdA_St27 x0.Frames ((rd x0.Parts a1).Core)).Windows).length (((svO (svO sv0 2) (((rd x0.Parts a1).Core : Int).toNat * 1)) 0).2)), e_ 4 (.bool s1.2), e_ 1 (.int .i64 a1)] []) (by kernel_rfl) (fun ns_45 a w_46 hI => ?_)
      refine then_normal ?_
      obtain rfl := Option.some.inj H1
      exact ⟨_, rfl, ⟨_, hI.pick [6, 5, 4, 1] 0 (s_ [e_ 6 (.int .i64 (IntKind.i64.wrap (s1.1 + 1))), e_ 5 (.slice (((svO (svO sv0 2) (((rd x0.Parts a1).Core : Int).toNat * 1)) 0).1) ((rdA_St27 x0.Frames ((rd x0.Parts a1).Core)).Windows).length (((svO (svO sv0 2) (((rd x0.Parts a1).Core : Int).toNat * 1)) 0).2)), e_ 4 (.bool s1.2), e_ 1 (.int .i64 a1)] []) (by kernel_rfl)⟩⟩
    ·replace H1 := bif_f hc_35 H1
     refine wpIn_exit ?_
     refine then_exit ?_
     refine then_exit ?_
     obtain rfl := Option.some.inj H1
     exact .inl ⟨_, rfl, rfl, ⟨_, hI.pick [6, 5, 4, 1] 0 (s_ [e_ 6 (.int .i64 s1.1), e_ 5 (.slice (((svO (svO sv0 2) (((rd x0.Parts a1).Core : Int).toNat * 1)) 0).1) ((rdA_St27 x0.Frames ((rd x0.Parts a1).Core)).Windows).length (((svO (svO sv0 2) (((rd x0.Parts a1).Core : Int).toNat * 1)) 0).2)), e_ 4 (.bool s1.2), e_ 1 (.int .i64 a1)] []) (by kernel_rfl)⟩⟩
   ·clear hI
    rintro s1 a w_49 ho ⟨ns_50, hI⟩
    subst ho
    replace H0 : (some false : Option (Bool)) = _ := H0
    refine then_normal ?_
    refine sr0_ hF hI (s_ [e_ 4 (.bool false)] []) (by kernel_rfl) (fun ns_51 a w_52 hI => ?_)
    refine wpIn_ret ?_
    obtain rfl := Option.some.inj H0
    exact ret1 hI rfl rfl ⟨rfl, hE.below hI⟩

noncomputable def G_ref07_part (x0 : Config) (a1 : Int) : Option (Bool) := some (decide (a1 ≥ 0) && decide (a1 < (x0.Parts.length : Int)))
theorem G_ref07_part.calls (x0 : Config) (a1 : Int) (sv0 : SV) (w : World) {S : Nat → Prop} (hx0 : (kd_Config).cont S w x0 sv0) (r : Bool) (h : G_ref07_part x0 a1 = some r) :
    Calls Tryz.prog 181 #[.agg ((kd_Config).cells x0 sv0).toArray, .int .i64 a1] w fun e w' => e = .returned (.bool r) ∧ Below w.heap.size w w' := by
  replace hx0 := Kd.lo _ hx0
  unfold G_ref07_part at h
  have H0 := h
  clear h
  refine enter Tryz.func181 rfl [.agg ((kd_Config).cells x0 sv0).toArray, .int .i64 a1] (n := 14) rfl (Nat.le_of_ble_eq_true rfl) (fun a hI => ?_)
  have hF : FOpen Fence.wide := .inl rfl
  have hE := Ep.start w
  refine sr0_ hF hI (s_ [e_ 4 (.bool false), p_ 2 0 0, e_ 1 (.int .i64 a1)] [((((kd_Config).cells x0 sv0).map EV.v), 29)]) (by kernel_rfl) (fun ns_1 a w_2 hI => ?_)
  refine sr0_ hF hI (s_ [e_ 4 (.bool (decide (a1 ≥ 0) && decide (a1 < (x0.Parts.length : Int))))] [((((kd_Config).cells x0 sv0).map EV.v), 29)]) (by kernel_rfl) (fun ns_3 a w_4 hI => ?_)
  refine wpIn_ret ?_
  obtain rfl := Option.some.inj H0
  exact ret1 hI rfl rfl ⟨rfl, hE.below hI⟩

noncomputable def G_ref07_chans.b1 (x0 : Config) (a1 : Int) (s1 : Int × Bool) : Option (Stp (Int × Bool) (Ex (Int × Bool) (Bool))) := (bif decide (s1.1 < (x0.Chans.length : Int)) then (req (inb s1.1 x0.Chans.length) (bif (a1 == 5) then (bif ((((rd x0.Chans s1.1).Kind) != 1) && (((rd x0.Chans s1.1).Kind) != 2)) then some (.out (.ret true)) else some (.next ((IntKind.i64.wrap (s1.1 + 1)), s1.2))) else (bif (a1 == 6) then ((G_ref07_part x0 ((rd x0.Chans s1.1).From)).bind fun t_35 => ((cal (!(!t_35)) (G_ref07_part x0 ((rd x0.Chans s1.1).To)) default).bind fun t_37 => (bif ((!t_35) || (!t_37)) then some (.out (.ret true)) else some (.next ((IntKind.i64.wrap (s1.1 + 1)), s1.2))))) else (bif (a1 == 7) then (bif (((rd x0.Chans s1.1).From) == ((rd x0.Chans s1.1).To)) then some (.out (.ret true)) else some (.next ((IntKind.i64.wrap (s1.1 + 1)), s1.2))) else (bif (a1 == 8) then (bif (decide (((rd x0.Chans s1.1).Words) < 1) || decide (((rd x0.Chans s1.1).Words) > 16)) then some (.out (.ret true)) else some (.next ((IntKind.i64.wrap (s1.1 + 1)), s1.2))) else (bif (a1 == 9) then (bif (((((rd x0.Chans s1.1).Kind) == 1) && (((rd x0.Chans s1.1).Depth) != 0)) || (((((((rd x0.Chans s1.1).Kind) == 2) && (((rd x0.Chans s1.1).Depth) != 1)) && (((rd x0.Chans s1.1).Depth) != 2)) && (((rd x0.Chans s1.1).Depth) != 4)) && (((rd x0.Chans s1.1).Depth) != 8))) then some (.out (.ret true)) else some (.next ((IntKind.i64.wrap (s1.1 + 1)), s1.2))) else (bif (a1 == 10) then (bif (((((rd x0.Chans s1.1).Kind) == 1) && (decide (((rd x0.Chans s1.1).Period) < 0) || decide (((rd x0.Chans s1.1).Period) > 1048576))) || ((((rd x0.Chans s1.1).Kind) == 2) && (((rd x0.Chans s1.1).Period) != 0))) then some (.out (.ret true)) else some (.next ((IntKind.i64.wrap (s1.1 + 1)), s1.2))) else (bif (bif (a1 == 11) then ((((rd x0.Chans s1.1).Kind) == 1) && (((rd x0.Chans s1.1).Boot) != 0)) else false) then some (.out (.ret true)) else some (.next ((IntKind.i64.wrap (s1.1 + 1)), s1.2)))))))))) else some (.out (.brk (s1.1, s1.2))))
noncomputable def G_ref07_chans (x0 : Config) (a1 : Int) : Option (Bool) := ((loopω (G_ref07_chans.b1 x0 a1) (0, false)).bind fun o => o.on (fun s1 => some false) (fun r => some r))
theorem G_ref07_chans.calls (x0 : Config) (a1 : Int) (sv0 : SV) (w : World) {S : Nat → Prop} (hx0 : (kd_Config).cont S w x0 sv0) (r : Bool) (h : G_ref07_chans x0 a1 = some r) :
    Calls Tryz.prog 134 #[.agg ((kd_Config).cells x0 sv0).toArray, .int .i64 a1] w fun e w' => e = .returned (.bool r) ∧ Below w.heap.size w w' := by
  replace hx0 := Kd.lo _ hx0
  unfold G_ref07_chans at h
  have H0 := h
  clear h
  refine enter Tryz.func134 rfl [.agg ((kd_Config).cells x0 sv0).toArray, .int .i64 a1] (n := 133) rfl (Nat.le_of_ble_eq_true rfl) (fun a hI => ?_)
  have hF : FOpen Fence.wide := .inl rfl
  have hE := Ep.start w
  refine sr0_ hF hI (s_ [e_ 4 (.bool false), p_ 2 0 0, e_ 1 (.int .i64 a1)] [((((kd_Config).cells x0 sv0).map EV.v), 29)]) (by kernel_rfl) (fun ns_1 a w_2 hI => ?_)
  refine wpIn_seq ?_
  refine sr0_ hF hI (s_ [e_ 5 (.int .i64 0), e_ 4 (.bool false), p_ 2 0 0, e_ 1 (.int .i64 a1)] [((((kd_Config).cells x0 sv0).map EV.v), 29)]) (by kernel_rfl) (fun ns_3 a w_4 hI => ?_)
  obtain ⟨o_122, hL_123, H0⟩ := bind_some H0
  refine block_loop (fun (s1 : Int × Bool) a w_128 => ∃ ns, St w [] 133 (s_ [e_ 5 (.int .i64 s1.1), e_ 4 (.bool s1.2), p_ 2 0 0, e_ 1 (.int .i64 a1)] [((((kd_Config).cells x0 sv0).map EV.v), 29)]) ns a w_128) (0, false) hL_123 ⟨_, hI.pick [5, 4, 2, 1] 1 (s_ [e_ 5 (.int .i64 0), e_ 4 (.bool false), p_ 2 0 0, e_ 1 (.int .i64 a1)] [((((kd_Config).cells x0 sv0).map EV.v), 29)]) (by kernel_rfl)⟩ ?_ ?_
  ·clear hI
   rintro s1 a w_5 ⟨ns_6, hI⟩ r1 H1
   unfold G_ref07_chans.b1 at H1
   refine wpIn_seq ?_
   refine sr0_ hF hI (s_ [e_ 12 (.bool (decide (s1.1 < (x0.Chans.length : Int)))), e_ 5 (.int .i64 s1.1), e_ 4 (.bool s1.2), p_ 2 0 0, e_ 1 (.int .i64 a1)] [((((kd_Config).cells x0 sv0).map EV.v), 29)]) (by kernel_rfl) (fun ns_7 a w_8 hI => ?_)
   refine cond_ hI (decide (s1.1 < (x0.Chans.length : Int))) rfl (fun hc_9 => ?_) (fun hc_9 => ?_)
   ·replace H1 := bif_t hc_9 H1
    refine wpIn_skip ?_
    refine then_normal ?_
    refine wpIn_seq ?_
    refine wpIn_block ?_
    obtain ⟨hN_10, H1⟩ := req_some H1
    obtain ⟨sv_11, hE_13, hA_12⟩ := Arr.elB (d := kd_Chan) hx0.2.1.1 s1.1 true (fun _ => hN_10)
    replace hE_13 := hE_13 rfl
    replace hA_12 := fun (_ : true = true) => hA_12 rfl
    refine sr_ (orc := [(kd_Chan).cells (rd x0.Chans s1.1) sv_11]) hF hI (s_ [p_ 6 1 0, e_ 5 (.int .i64 s1.1), e_ 4 (.bool s1.2), p_ 2 0 0, e_ 1 (.int .i64 a1)] [((((kd_Config).cells x0 sv0).map EV.v), 29), ((((kd_Chan).cells (rd x0.Chans s1.1) sv_11).map EV.v), 86)]) [.need true ((0 : Int) ≤ s1.1 ∧ s1.1 < (x0.Chans.length : Int)), .need true ((sv0 1).1 = some (adr ((sv0 1).1))), .cell true ((adr ((sv0 1).1)).add ((s1.1 : Int).toNat * 7)) ((kd_Chan).cells (rd x0.Chans s1.1) sv_11)] (by kernel_rfl) ⟨ob_inb (fun _ => hN_10), hA_12, ob_el (fun _ => hE_13) 0 ((kd_Chan).cells (rd x0.Chans s1.1) sv_11) rfl, trivial⟩ (fun ns_14 a w_15 hI => ?_)
    refine sr0_ hF hI (s_ [e_ 7 (.bool false), p_ 6 1 0, e_ 5 (.int .i64 s1.1), e_ 4 (.bool s1.2), p_ 2 0 0, e_ 1 (.int .i64 a1)] [((((kd_Config).cells x0 sv0).map EV.v), 29), ((((kd_Chan).cells (rd x0.Chans s1.1) sv_11).map EV.v), 86)]) (by kernel_rfl) (fun ns_16 a w_17 hI => ?_)
    refine wpIn_seq ?_
    refine sr0_ hF hI (s_ [e_ 20 (.int .i64 a1), e_ 7 (.bool false), p_ 6 1 0, e_ 5 (.int .i64 s1.1), e_ 4 (.bool s1.2), p_ 2 0 0, e_ 1 (.int .i64 a1)] [((((kd_Config).cells x0 sv0).map EV.v), 29), ((((kd_Chan).cells (rd x0.Chans s1.1) sv_11).map EV.v), 86)]) (by kernel_rfl) (fun ns_18 a w_19 hI => ?_)
    refine wpIn_block ?_
    refine sr0_ hF hI (s_ [e_ 21 (.bool (a1 == 5)), e_ 20 (.int .i64 a1), e_ 7 (.bool false), p_ 6 1 0, e_ 5 (.int .i64 s1.1), e_ 4 (.bool s1.2), p_ 2 0 0, e_ 1 (.int .i64 a1)] [((((kd_Config).cells x0 sv0).map EV.v), 29), ((((kd_Chan).cells (rd x0.Chans s1.1) sv_11).map EV.v), 86)]) (by kernel_rfl) (fun ns_20 a w_21 hI => ?_)
    refine cond_ hI ((a1 == 5)) rfl (fun hc_22 => ?_) (fun hc_22 => ?_)
    ·replace H1 := bif_t hc_22 H1
     refine rg0_ hF hI (s_ [e_ 7 (.bool ((((rd x0.Chans s1.1).Kind) != 1) && (((rd x0.Chans s1.1).Kind) != 2))), e_ 5 (.int .i64 s1.1), e_ 4 (.bool s1.2), p_ 2 0 0, e_ 1 (.int .i64 a1)] [((((kd_Config).cells x0 sv0).map EV.v), 29), ((((kd_Chan).cells (rd x0.Chans s1.1) sv_11).map EV.v), 86)]) (by kernel_rfl) (fun ns_23 a w_24 hI => ?_)
     refine inBlock_normal ?_
     refine then_normal ?_
     refine sr0_ hF hI (s_ [e_ 132 (.bool ((((rd x0.Chans s1.1).Kind) != 1) && (((rd x0.Chans s1.1).Kind) != 2))), e_ 5 (.int .i64 s1.1), e_ 4 (.bool s1.2), p_ 2 0 0, e_ 1 (.int .i64 a1)] [((((kd_Config).cells x0 sv0).map EV.v), 29), ((((kd_Chan).cells (rd x0.Chans s1.1) sv_11).map EV.v), 86)]) (by kernel_rfl) (fun ns_25 a w_26 hI => ?_)
     refine cond_ hI (((((rd x0.Chans s1.1).Kind) != 1) && (((rd x0.Chans s1.1).Kind) != 2))) rfl (fun hc_27 => ?_) (fun hc_27 => ?_)
     ·replace H1 := bif_t hc_27 H1
      refine sr0_ hF hI (s_ [e_ 4 (.bool true)] [((((kd_Config).cells x0 sv0).map EV.v), 29), ((((kd_Chan).cells (rd x0.Chans s1.1) sv_11).map EV.v), 86)]) (by kernel_rfl) (fun ns_28 a w_29 hI => ?_)
      refine wpIn_ret ?_
      refine inBlock_ret ?_
      refine then_ret ?_
      refine then_ret ?_
      obtain rfl := Option.some.inj H1
      refine .inr ⟨_, rfl, fun ho => ?_⟩
      subst ho
      refine inBlock_ret ?_
      refine then_ret ?_
      obtain rfl := Option.some.inj H0
      exact ret1 hI rfl rfl ⟨rfl, hE.below hI⟩
     ·replace H1 := bif_f hc_27 H1
      refine wpIn_skip ?_
      refine inBlock_normal ?_
      refine then_normal ?_
      refine rg0_ hF hI (s_ [e_ 5 (.int .i64 (IntKind.i64.wrap (s1.1 + 1))), e_ 4 (.bool s1.2), p_ 2 0 0, e_ 1 (.int .i64 a1)] [((((kd_Config).cells x0 sv0).map EV.v), 29), ((((kd_Chan).cells (rd x0.Chans s1.1) sv_11).map EV.v), 86)]) (by kernel_rfl) (fun ns_30 a w_31 hI => ?_)
      refine then_normal ?_
      obtain rfl := Option.some.inj H1
      exact ⟨_, rfl, ⟨_, hI.pick [5, 4, 2, 1] 1 (s_ [e_ 5 (.int .i64 (IntKind.i64.wrap (s1.1 + 1))), e_ 4 (.bool s1.2), p_ 2 0 0, e_ 1 (.int .i64 a1)] [((((kd_Config).cells x0 sv0).map EV.v), 29)]) (by kernel_rfl)⟩⟩
    ·replace H1 := bif_f hc_22 H1
     refine sr0_ hF hI (s_ [e_ 31 (.bool (a1 == 6)), e_ 20 (.int .i64 a1), e_ 7 (.bool false), p_ 6 1 0, e_ 5 (.int .i64 s1.1), e_ 4 (.bool s1.2), p_ 2 0 0, e_ 1 (.int .i64 a1)] [((((kd_Config).cells x0 sv0).map EV.v), 29), ((((kd_Chan).cells (rd x0.Chans s1.1) sv_11).map EV.v), 86)]) (by kernel_rfl) (fun ns_32 a w_33 hI => ?_)
     refine cond_ hI ((a1 == 6)) rfl (fun hc_34 => ?_) (fun hc_34 => ?_)
     ·replace H1 := bif_t hc_34 H1
      obtain ⟨t_35, hG_36, H1⟩ := bind_some H1
      obtain ⟨t_37, hG_38, H1⟩ := bind_some H1
      refine rg_ (orc := [[.bool t_35], [.bool t_37]]) hF hI (s_ [e_ 7 (.bool ((!t_35) || (!t_37))), e_ 5 (.int .i64 s1.1), e_ 4 (.bool s1.2), p_ 2 0 0, e_ 1 (.int .i64 a1)] [((((kd_Config).cells x0 sv0).map EV.v), 29), ((((kd_Chan).cells (rd x0.Chans s1.1) sv_11).map EV.v), 86)]) [.call true 181 [.agg ((kd_Config).cells x0 sv0).toArray, .int .i64 ((rd x0.Chans s1.1).From)] (.bool t_35), .call (!(!t_35)) 181 [.agg ((kd_Config).cells x0 sv0).toArray, .int .i64 ((rd x0.Chans s1.1).To)] (.bool t_37)] (by kernel_rfl) ⟨ob_call (enters Tryz.func181 (by kernel_rfl) rfl) (fun hg wz hk => G_ref07_part.calls x0 ((rd x0.Chans s1.1).From) sv0 wz (S := fun _ => True) (Kd.any _ (Kd.keep kd_Config (contI (S := Lo S w w [] []) (w := w) (d := kd_Config) (x := x0) (sv := sv0) ⟨⟨hx0.1.1, hx0.1.2⟩, ⟨hx0.2.1.1, hx0.2.1.2⟩, ⟨hx0.2.2.1.1, hx0.2.2.1.2⟩, ⟨hx0.2.2.2.1.1, hx0.2.2.2.1.2⟩, trivial⟩) (Lo.on hk))) _ hG_36), ob_call (enters Tryz.func181 (by kernel_rfl) rfl) (fun hg wz hk => G_ref07_part.calls x0 ((rd x0.Chans s1.1).To) sv0 wz (S := fun _ => True) (Kd.any _ (Kd.keep kd_Config (contI (S := Lo S w w [] []) (w := w) (d := kd_Config) (x := x0) (sv := sv0) ⟨⟨hx0.1.1, hx0.1.2⟩, ⟨hx0.2.1.1, hx0.2.1.2⟩, ⟨hx0.2.2.1.1, hx0.2.2.1.2⟩, ⟨hx0.2.2.2.1.1, hx0.2.2.2.1.2⟩, trivial⟩) (Lo.on hk))) _ (cal_some hG_38 hg)), trivial⟩ (fun ns_39 a w_40 hI => ?_)
      refine inBlock_normal ?_
      refine then_normal ?_
      refine sr0_ hF hI (s_ [e_ 132 (.bool ((!t_35) || (!t_37))), e_ 5 (.int .i64 s1.1), e_ 4 (.bool s1.2), p_ 2 0 0, e_ 1 (.int .i64 a1)] [((((kd_Config).cells x0 sv0).map EV.v), 29), ((((kd_Chan).cells (rd x0.Chans s1.1) sv_11).map EV.v), 86)]) (by kernel_rfl) (fun ns_41 a w_42 hI => ?_)
      refine cond_ hI (((!t_35) || (!t_37))) rfl (fun hc_43 => ?_) (fun hc_43 => ?_)
      ·replace H1 := bif_t hc_43 H1
       refine sr0_ hF hI (s_ [e_ 4 (.bool true)] [((((kd_Config).cells x0 sv0).map EV.v), 29), ((((kd_Chan).cells (rd x0.Chans s1.1) sv_11).map EV.v), 86)]) (by kernel_rfl) (fun ns_44 a w_45 hI => ?_)
       refine wpIn_ret ?_
       refine inBlock_ret ?_
       refine then_ret ?_
       refine then_ret ?_
       obtain rfl := Option.some.inj H1
       refine .inr ⟨_, rfl, fun ho => ?_⟩
       subst ho
       refine inBlock_ret ?_
       refine then_ret ?_
       obtain rfl := Option.some.inj H0
       exact ret1 hI rfl rfl ⟨rfl, hE.below hI⟩
      ·replace H1 := bif_f hc_43 H1
       refine wpIn_skip ?_
       refine inBlock_normal ?_
       refine then_normal ?_
       refine rg0_ hF hI (s_ [e_ 5 (.int .i64 (IntKind.i64.wrap (s1.1 + 1))), e_ 4 (.bool s1.2), p_ 2 0 0, e_ 1 (.int .i64 a1)] [((((kd_Config).cells x0 sv0).map EV.v), 29), ((((kd_Chan).cells (rd x0.Chans s1.1) sv_11).map EV.v), 86)]) (by kernel_rfl) (fun ns_46 a w_47 hI => ?_)
       refine then_normal ?_
       obtain rfl := Option.some.inj H1
       exact ⟨_, rfl, ⟨_, hI.pick [5, 4, 2, 1] 1 (s_ [e_ 5 (.int .i64 (IntKind.i64.wrap (s1.1 + 1))), e_ 4 (.bool s1.2), p_ 2 0 0, e_ 1 (.int .i64 a1)] [((((kd_Config).cells x0 sv0).map EV.v), 29)]) (by kernel_rfl)⟩⟩
     ·replace H1 := bif_f hc_34 H1
      refine sr0_ hF hI (s_ [e_ 45 (.bool (a1 == 7)), e_ 20 (.int .i64 a1), e_ 7 (.bool false), p_ 6 1 0, e_ 5 (.int .i64 s1.1), e_ 4 (.bool s1.2), p_ 2 0 0, e_ 1 (.int .i64 a1)] [((((kd_Config).cells x0 sv0).map EV.v), 29), ((((kd_Chan).cells (rd x0.Chans s1.1) sv_11).map EV.v), 86)]) (by kernel_rfl) (fun ns_48 a w_49 hI => ?_)
      refine cond_ hI ((a1 == 7)) rfl (fun hc_50 => ?_) (fun hc_50 => ?_)
      ·replace H1 := bif_t hc_50 H1
       refine rg0_ hF hI (s_ [e_ 7 (.bool (((rd x0.Chans s1.1).From) == ((rd x0.Chans s1.1).To))), e_ 5 (.int .i64 s1.1), e_ 4 (.bool s1.2), p_ 2 0 0, e_ 1 (.int .i64 a1)] [((((kd_Config).cells x0 sv0).map EV.v), 29), ((((kd_Chan).cells (rd x0.Chans s1.1) sv_11).map EV.v), 86)]) (by kernel_rfl) (fun ns_51 a w_52 hI => ?_)
       refine inBlock_normal ?_
       refine then_normal ?_
       refine sr0_ hF hI (s_ [e_ 132 (.bool (((rd x0.Chans s1.1).From) == ((rd x0.Chans s1.1).To))), e_ 5 (.int .i64 s1.1), e_ 4 (.bool s1.2), p_ 2 0 0, e_ 1 (.int .i64 a1)] [((((kd_Config).cells x0 sv0).map EV.v), 29), ((((kd_Chan).cells (rd x0.Chans s1.1) sv_11).map EV.v), 86)]) (by kernel_rfl) (fun ns_53 a w_54 hI => ?_)
       refine cond_ hI ((((rd x0.Chans s1.1).From) == ((rd x0.Chans s1.1).To))) rfl (fun hc_55 => ?_) (fun hc_55 => ?_)
       ·replace H1 := bif_t hc_55 H1
        refine sr0_ hF hI (s_ [e_ 4 (.bool true)] [((((kd_Config).cells x0 sv0).map EV.v), 29), ((((kd_Chan).cells (rd x0.Chans s1.1) sv_11).map EV.v), 86)]) (by kernel_rfl) (fun ns_56 a w_57 hI => ?_)
        refine wpIn_ret ?_
        refine inBlock_ret ?_
        refine then_ret ?_
        refine then_ret ?_
        obtain rfl := Option.some.inj H1
        refine .inr ⟨_, rfl, fun ho => ?_⟩
        subst ho
        refine inBlock_ret ?_
        refine then_ret ?_
        obtain rfl := Option.some.inj H0
        exact ret1 hI rfl rfl ⟨rfl, hE.below hI⟩
       ·replace H1 := bif_f hc_55 H1
        refine wpIn_skip ?_
        refine inBlock_normal ?_
        refine then_normal ?_
        refine rg0_ hF hI (s_ [e_ 5 (.int .i64 (IntKind.i64.wrap (s1.1 + 1))), e_ 4 (.bool s1.2), p_ 2 0 0, e_ 1 (.int .i64 a1)] [((((kd_Config).cells x0 sv0).map EV.v), 29), ((((kd_Chan).cells (rd x0.Chans s1.1) sv_11).map EV.v), 86)]) (by kernel_rfl) (fun ns_58 a w_59 hI => ?_)
        refine then_normal ?_
        obtain rfl := Option.some.inj H1
        exact ⟨_, rfl, ⟨_, hI.pick [5, 4, 2, 1] 1 (s_ [e_ 5 (.int .i64 (IntKind.i64.wrap (s1.1 + 1))), e_ 4 (.bool s1.2), p_ 2 0 0, e_ 1 (.int .i64 a1)] [((((kd_Config).cells x0 sv0).map EV.v), 29)]) (by kernel_rfl)⟩⟩
      ·replace H1 := bif_f hc_50 H1
       refine sr0_ hF hI (s_ [e_ 52 (.bool (a1 == 8)), e_ 20 (.int .i64 a1), e_ 7 (.bool false), p_ 6 1 0, e_ 5 (.int .i64 s1.1), e_ 4 (.bool s1.2), p_ 2 0 0, e_ 1 (.int .i64 a1)] [((((kd_Config).cells x0 sv0).map EV.v), 29), ((((kd_Chan).cells (rd x0.Chans s1.1) sv_11).map EV.v), 86)]) (by kernel_rfl) (fun ns_60 a w_61 hI => ?_)
       refine cond_ hI ((a1 == 8)) rfl (fun hc_62 => ?_) (fun hc_62 => ?_)
       ·replace H1 := bif_t hc_62 H1
        refine rg0_ hF hI (s_ [e_ 7 (.bool (decide (((rd x0.Chans s1.1).Words) < 1) || decide (((rd x0.Chans s1.1).Words) > 16))), e_ 5 (.int .i64 s1.1), e_ 4 (.bool s1.2), p_ 2 0 0, e_ 1 (.int .i64 a1)] [((((kd_Config).cells x0 sv0).map EV.v), 29), ((((kd_Chan).cells (rd x0.Chans s1.1) sv_11).map EV.v), 86)]) (by kernel_rfl) (fun ns_63 a w_64 hI => ?_)
        refine inBlock_normal ?_
        refine then_normal ?_
        refine sr0_ hF hI (s_ [e_ 132 (.bool (decide (((rd x0.Chans s1.1).Words) < 1) || decide (((rd x0.Chans s1.1).Words) > 16))), e_ 5 (.int .i64 s1.1), e_ 4 (.bool s1.2), p_ 2 0 0, e_ 1 (.int .i64 a1)] [((((kd_Config).cells x0 sv0).map EV.v), 29), ((((kd_Chan).cells (rd x0.Chans s1.1) sv_11).map EV.v), 86)]) (by kernel_rfl) (fun ns_65 a w_66 hI => ?_)
        refine cond_ hI ((decide (((rd x0.Chans s1.1).Words) < 1) || decide (((rd x0.Chans s1.1).Words) > 16))) rfl (fun hc_67 => ?_) (fun hc_67 => ?_)
        ·replace H1 := bif_t hc_67 H1
         refine sr0_ hF hI (s_ [e_ 4 (.bool true)] [((((kd_Config).cells x0 sv0).map EV.v), 29), ((((kd_Chan).cells (rd x0.Chans s1.1) sv_11).map EV.v), 86)]) (by kernel_rfl) (fun ns_68 a w_69 hI => ?_)
         refine wpIn_ret ?_
         refine inBlock_ret ?_
         refine then_ret ?_
         refine then_ret ?_
         obtain rfl := Option.some.inj H1
         refine .inr ⟨_, rfl, fun ho => ?_⟩
         subst ho
         refine inBlock_ret ?_
         refine then_ret ?_
         obtain rfl := Option.some.inj H0
         exact ret1 hI rfl rfl ⟨rfl, hE.below hI⟩
        ·replace H1 := bif_f hc_67 H1
         refine wpIn_skip ?_
         refine inBlock_normal ?_
         refine then_normal ?_
         refine rg0_ hF hI (s_ [e_ 5 (.int .i64 (IntKind.i64.wrap (s1.1 + 1))), e_ 4 (.bool s1.2), p_ 2 0 0, e_ 1 (.int .i64 a1)] [((((kd_Config).cells x0 sv0).map EV.v), 29), ((((kd_Chan).cells (rd x0.Chans s1.1) sv_11).map EV.v), 86)]) (by kernel_rfl) (fun ns_70 a w_71 hI => ?_)
         refine then_normal ?_
         obtain rfl := Option.some.inj H1
         exact ⟨_, rfl, ⟨_, hI.pick [5, 4, 2, 1] 1 (s_ [e_ 5 (.int .i64 (IntKind.i64.wrap (s1.1 + 1))), e_ 4 (.bool s1.2), p_ 2 0 0, e_ 1 (.int .i64 a1)] [((((kd_Config).cells x0 sv0).map EV.v), 29)]) (by kernel_rfl)⟩⟩
       ·replace H1 := bif_f hc_62 H1
        refine sr0_ hF hI (s_ [e_ 62 (.bool (a1 == 9)), e_ 20 (.int .i64 a1), e_ 7 (.bool false), p_ 6 1 0, e_ 5 (.int .i64 s1.1), e_ 4 (.bool s1.2), p_ 2 0 0, e_ 1 (.int .i64 a1)] [((((kd_Config).cells x0 sv0).map EV.v), 29), ((((kd_Chan).cells (rd x0.Chans s1.1) sv_11).map EV.v), 86)]) (by kernel_rfl) (fun ns_72 a w_73 hI => ?_)
        refine cond_ hI ((a1 == 9)) rfl (fun hc_74 => ?_) (fun hc_74 => ?_)
        ·replace H1 := bif_t hc_74 H1
         refine rg0_ hF hI (s_ [e_ 7 (.bool (((((rd x0.Chans s1.1).Kind) == 1) && (((rd x0.Chans s1.1).Depth) != 0)) || (((((((rd x0.Chans s1.1).Kind) == 2) && (((rd x0.Chans s1.1).Depth) != 1)) && (((rd x0.Chans s1.1).Depth) != 2)) && (((rd x0.Chans s1.1).Depth) != 4)) && (((rd x0.Chans s1.1).Depth) != 8)))), e_ 5 (.int .i64 s1.1), e_ 4 (.bool s1.2), p_ 2 0 0, e_ 1 (.int .i64 a1)] [((((kd_Config).cells x0 sv0).map EV.v), 29), ((((kd_Chan).cells (rd x0.Chans s1.1) sv_11).map EV.v), 86)]) (by kernel_rfl) (fun ns_75 a w_76 hI => ?_)
         refine inBlock_normal ?_
         refine then_normal ?_
         refine sr0_ hF hI (s_ [e_ 132 (.bool (((((rd x0.Chans s1.1).Kind) == 1) && (((rd x0.Chans s1.1).Depth) != 0)) || (((((((rd x0.Chans s1.1).Kind) == 2) && (((rd x0.Chans s1.1).Depth) != 1)) && (((rd x0.Chans s1.1).Depth) != 2)) && (((rd x0.Chans s1.1).Depth) != 4)) && (((rd x0.Chans s1.1).Depth) != 8)))), e_ 5 (.int .i64 s1.1), e_ 4 (.bool s1.2), p_ 2 0 0, e_ 1 (.int .i64 a1)] [((((kd_Config).cells x0 sv0).map EV.v), 29), ((((kd_Chan).cells (rd x0.Chans s1.1) sv_11).map EV.v), 86)]) (by kernel_rfl) (fun ns_77 a w_78 hI => ?_)
         refine cond_ hI ((((((rd x0.Chans s1.1).Kind) == 1) && (((rd x0.Chans s1.1).Depth) != 0)) || (((((((rd x0.Chans s1.1).Kind) == 2) && (((rd x0.Chans s1.1).Depth) != 1)) && (((rd x0.Chans s1.1).Depth) != 2)) && (((rd x0.Chans s1.1).Depth) != 4)) && (((rd x0.Chans s1.1).Depth) != 8)))) rfl (fun hc_79 => ?_) (fun hc_79 => ?_)
         ·replace H1 := bif_t hc_79 H1
          refine sr0_ hF hI (s_ [e_ 4 (.bool true)] [((((kd_Config).cells x0 sv0).map EV.v), 29), ((((kd_Chan).cells (rd x0.Chans s1.1) sv_11).map EV.v), 86)]) (by kernel_rfl) (fun ns_80 a w_81 hI => ?_)
          refine wpIn_ret ?_
          refine inBlock_ret ?_
          refine then_ret ?_
          refine then_ret ?_
          obtain rfl := Option.some.inj H1
          refine .inr ⟨_, rfl, fun ho => ?_⟩
          subst ho
          refine inBlock_ret ?_
          refine then_ret ?_
          obtain rfl := Option.some.inj H0
          exact ret1 hI rfl rfl ⟨rfl, hE.below hI⟩
         ·replace H1 := bif_f hc_79 H1
          refine wpIn_skip ?_
          refine inBlock_normal ?_
          refine then_normal ?_
          refine rg0_ hF hI (s_ [e_ 5 (.int .i64 (IntKind.i64.wrap (s1.1 + 1))), e_ 4 (.bool s1.2), p_ 2 0 0, e_ 1 (.int .i64 a1)] [((((kd_Config).cells x0 sv0).map EV.v), 29), ((((kd_Chan).cells (rd x0.Chans s1.1) sv_11).map EV.v), 86)]) (by kernel_rfl) (fun ns_82 a w_83 hI => ?_)
          refine then_normal ?_
          obtain rfl := Option.some.inj H1
          exact ⟨_, rfl, ⟨_, hI.pick [5, 4, 2, 1] 1 (s_ [e_ 5 (.int .i64 (IntKind.i64.wrap (s1.1 + 1))), e_ 4 (.bool s1.2), p_ 2 0 0, e_ 1 (.int .i64 a1)] [((((kd_Config).cells x0 sv0).map EV.v), 29)]) (by kernel_rfl)⟩⟩
        ·replace H1 := bif_f hc_74 H1
         refine sr0_ hF hI (s_ [e_ 97 (.bool (a1 == 10)), e_ 20 (.int .i64 a1), e_ 7 (.bool false), p_ 6 1 0, e_ 5 (.int .i64 s1.1), e_ 4 (.bool s1.2), p_ 2 0 0, e_ 1 (.int .i64 a1)] [((((kd_Config).cells x0 sv0).map EV.v), 29), ((((kd_Chan).cells (rd x0.Chans s1.1) sv_11).map EV.v), 86)]) (by kernel_rfl) (fun ns_84 a w_85 hI => ?_)
         refine cond_ hI ((a1 == 10)) rfl (fun hc_86 => ?_) (fun hc_86 => ?_)
         ·replace H1 := bif_t hc_86 H1
          refine rg0_ hF hI (s_ [e_ 7 (.bool (((((rd x0.Chans s1.1).Kind) == 1) && (decide (((rd x0.Chans s1.1).Period) < 0) || decide (((rd x0.Chans s1.1).Period) > 1048576))) || ((((rd x0.Chans s1.1).Kind) == 2) && (((rd x0.Chans s1.1).Period) != 0)))), e_ 5 (.int .i64 s1.1), e_ 4 (.bool s1.2), p_ 2 0 0, e_ 1 (.int .i64 a1)] [((((kd_Config).cells x0 sv0).map EV.v), 29), ((((kd_Chan).cells (rd x0.Chans s1.1) sv_11).map EV.v), 86)]) (by kernel_rfl) (fun ns_87 a w_88 hI => ?_)
          refine inBlock_normal ?_
          refine then_normal ?_
          refine sr0_ hF hI (s_ [e_ 132 (.bool (((((rd x0.Chans s1.1).Kind) == 1) && (decide (((rd x0.Chans s1.1).Period) < 0) || decide (((rd x0.Chans s1.1).Period) > 1048576))) || ((((rd x0.Chans s1.1).Kind) == 2) && (((rd x0.Chans s1.1).Period) != 0)))), e_ 5 (.int .i64 s1.1), e_ 4 (.bool s1.2), p_ 2 0 0, e_ 1 (.int .i64 a1)] [((((kd_Config).cells x0 sv0).map EV.v), 29), ((((kd_Chan).cells (rd x0.Chans s1.1) sv_11).map EV.v), 86)]) (by kernel_rfl) (fun ns_89 a w_90 hI => ?_)
          refine cond_ hI ((((((rd x0.Chans s1.1).Kind) == 1) && (decide (((rd x0.Chans s1.1).Period) < 0) || decide (((rd x0.Chans s1.1).Period) > 1048576))) || ((((rd x0.Chans s1.1).Kind) == 2) && (((rd x0.Chans s1.1).Period) != 0)))) rfl (fun hc_91 => ?_) (fun hc_91 => ?_)
          ·replace H1 := bif_t hc_91 H1
           refine sr0_ hF hI (s_ [e_ 4 (.bool true)] [((((kd_Config).cells x0 sv0).map EV.v), 29), ((((kd_Chan).cells (rd x0.Chans s1.1) sv_11).map EV.v), 86)]) (by kernel_rfl) (fun ns_92 a w_93 hI => ?_)
           refine wpIn_ret ?_
           refine inBlock_ret ?_
           refine then_ret ?_
           refine then_ret ?_
           obtain rfl := Option.some.inj H1
           refine .inr ⟨_, rfl, fun ho => ?_⟩
           subst ho
           refine inBlock_ret ?_
           refine then_ret ?_
           obtain rfl := Option.some.inj H0
           exact ret1 hI rfl rfl ⟨rfl, hE.below hI⟩
          ·replace H1 := bif_f hc_91 H1
           refine wpIn_skip ?_
           refine inBlock_normal ?_
           refine then_normal ?_
           refine rg0_ hF hI (s_ [e_ 5 (.int .i64 (IntKind.i64.wrap (s1.1 + 1))), e_ 4 (.bool s1.2), p_ 2 0 0, e_ 1 (.int .i64 a1)] [((((kd_Config).cells x0 sv0).map EV.v), 29), ((((kd_Chan).cells (rd x0.Chans s1.1) sv_11).map EV.v), 86)]) (by kernel_rfl) (fun ns_94 a w_95 hI => ?_)
           refine then_normal ?_
           obtain rfl := Option.some.inj H1
           exact ⟨_, rfl, ⟨_, hI.pick [5, 4, 2, 1] 1 (s_ [e_ 5 (.int .i64 (IntKind.i64.wrap (s1.1 + 1))), e_ 4 (.bool s1.2), p_ 2 0 0, e_ 1 (.int .i64 a1)] [((((kd_Config).cells x0 sv0).map EV.v), 29)]) (by kernel_rfl)⟩⟩
         ·replace H1 := bif_f hc_86 H1
          refine sr0_ hF hI (s_ [e_ 122 (.bool (a1 == 11)), e_ 7 (.bool false), p_ 6 1 0, e_ 5 (.int .i64 s1.1), e_ 4 (.bool s1.2), p_ 2 0 0, e_ 1 (.int .i64 a1)] [((((kd_Config).cells x0 sv0).map EV.v), 29), ((((kd_Chan).cells (rd x0.Chans s1.1) sv_11).map EV.v), 86)]) (by kernel_rfl) (fun ns_96 a w_97 hI => ?_)
          refine cond_merge hI ((a1 == 11)) rfl (s_ [e_ 7 (.bool ((((rd x0.Chans s1.1).Kind) == 1) && (((rd x0.Chans s1.1).Boot) != 0))), e_ 5 (.int .i64 s1.1), e_ 4 (.bool s1.2), p_ 2 0 0, e_ 1 (.int .i64 a1)] [((((kd_Config).cells x0 sv0).map EV.v), 29), ((((kd_Chan).cells (rd x0.Chans s1.1) sv_11).map EV.v), 86)]) (s_ [e_ 7 (.bool false), e_ 5 (.int .i64 s1.1), e_ 4 (.bool s1.2), p_ 2 0 0, e_ 1 (.int .i64 a1)] [((((kd_Config).cells x0 sv0).map EV.v), 29), ((((kd_Chan).cells (rd x0.Chans s1.1) sv_11).map EV.v), 86)]) (fun b => (s_ [e_ 7 (.bool (bif b then ((((rd x0.Chans s1.1).Kind) == 1) && (((rd x0.Chans s1.1).Boot) != 0)) else false)), e_ 5 (.int .i64 s1.1), e_ 4 (.bool s1.2), p_ 2 0 0, e_ 1 (.int .i64 a1)] [((((kd_Config).cells x0 sv0).map EV.v), 29), ((((kd_Chan).cells (rd x0.Chans s1.1) sv_11).map EV.v), 86)])) (fun b => by cases b <;> rfl) (fun hc_98 => ?_) (fun hc_98 => ?_) (fun ns_101 a w_102 hI => ?_)
          ·refine rg0_ hF hI (s_ [e_ 7 (.bool ((((rd x0.Chans s1.1).Kind) == 1) && (((rd x0.Chans s1.1).Boot) != 0))), e_ 5 (.int .i64 s1.1), e_ 4 (.bool s1.2), p_ 2 0 0, e_ 1 (.int .i64 a1)] [((((kd_Config).cells x0 sv0).map EV.v), 29), ((((kd_Chan).cells (rd x0.Chans s1.1) sv_11).map EV.v), 86)]) (by kernel_rfl) (fun ns_99 a w_100 hI => ?_)
           refine then_normal ?_
           exact ⟨_, hI.pick [7, 5, 4, 2, 1] 2 (s_ [e_ 7 (.bool ((((rd x0.Chans s1.1).Kind) == 1) && (((rd x0.Chans s1.1).Boot) != 0))), e_ 5 (.int .i64 s1.1), e_ 4 (.bool s1.2), p_ 2 0 0, e_ 1 (.int .i64 a1)] [((((kd_Config).cells x0 sv0).map EV.v), 29), ((((kd_Chan).cells (rd x0.Chans s1.1) sv_11).map EV.v), 86)]) (by kernel_rfl)⟩
          ·refine wpIn_skip ?_
           refine then_normal ?_
           exact ⟨_, hI.pick [7, 5, 4, 2, 1] 2 (s_ [e_ 7 (.bool false), e_ 5 (.int .i64 s1.1), e_ 4 (.bool s1.2), p_ 2 0 0, e_ 1 (.int .i64 a1)] [((((kd_Config).cells x0 sv0).map EV.v), 29), ((((kd_Chan).cells (rd x0.Chans s1.1) sv_11).map EV.v), 86)]) (by kernel_rfl)⟩
          ·refine inBlock_normal ?_
           refine then_normal ?_
           refine sr0_ hF hI (s_ [e_ 132 (.bool (bif (a1 == 11) then ((((rd x0.Chans s1.1).Kind) == 1) && (((rd x0.Chans s1.1).Boot) != 0)) else false)), e_ 5 (.int .i64 s1.1), e_ 4 (.bool s1.2), p_ 2 0 0, e_ 1 (.int .i64 a1)] [((((kd_Config).cells x0 sv0).map EV.v), 29), ((((kd_Chan).cells (rd x0.Chans s1.1) sv_11).map EV.v), 86)]) (by kernel_rfl) (fun ns_115 a w_116 hI => ?_)
           refine cond_ hI ((bif (a1 == 11) then ((((rd x0.Chans s1.1).Kind) == 1) && (((rd x0.Chans s1.1).Boot) != 0)) else false)) rfl (fun hc_117 => ?_) (fun hc_117 => ?_)
           ·replace H1 := bif_t hc_117 H1
            refine sr0_ hF hI (s_ [e_ 4 (.bool true)] [((((kd_Config).cells x0 sv0).map EV.v), 29), ((((kd_Chan).cells (rd x0.Chans s1.1) sv_11).map EV.v), 86)]) (by kernel_rfl) (fun ns_118 a w_119 hI => ?_)
            refine wpIn_ret ?_
            refine inBlock_ret ?_
            refine then_ret ?_
            refine then_ret ?_
            obtain rfl := Option.some.inj H1
            refine .inr ⟨_, rfl, fun ho => ?_⟩
            subst ho
            refine inBlock_ret ?_
            refine then_ret ?_
            obtain rfl := Option.some.inj H0
            exact ret1 hI rfl rfl ⟨rfl, hE.below hI⟩
           ·replace H1 := bif_f hc_117 H1
            refine wpIn_skip ?_
            refine inBlock_normal ?_
            refine then_normal ?_
            refine rg0_ hF hI (s_ [e_ 5 (.int .i64 (IntKind.i64.wrap (s1.1 + 1))), e_ 4 (.bool s1.2), p_ 2 0 0, e_ 1 (.int .i64 a1)] [((((kd_Config).cells x0 sv0).map EV.v), 29), ((((kd_Chan).cells (rd x0.Chans s1.1) sv_11).map EV.v), 86)]) (by kernel_rfl) (fun ns_120 a w_121 hI => ?_)
            refine then_normal ?_
            obtain rfl := Option.some.inj H1
            exact ⟨_, rfl, ⟨_, hI.pick [5, 4, 2, 1] 1 (s_ [e_ 5 (.int .i64 (IntKind.i64.wrap (s1.1 + 1))), e_ 4 (.bool s1.2), p_ 2 0 0, e_ 1 (.int .i64 a1)] [((((kd_Config).cells x0 sv0).map EV.v), 29)]) (by kernel_rfl)⟩⟩
   ·replace H1 := bif_f hc_9 H1
    refine wpIn_exit ?_
    refine then_exit ?_
    refine then_exit ?_
    obtain rfl := Option.some.inj H1
    exact .inl ⟨_, rfl, rfl, ⟨_, hI.pick [5, 4, 2, 1] 1 (s_ [e_ 5 (.int .i64 s1.1), e_ 4 (.bool s1.2), p_ 2 0 0, e_ 1 (.int .i64 a1)] [((((kd_Config).cells x0 sv0).map EV.v), 29)]) (by kernel_rfl)⟩⟩
  ·clear hI
   rintro s1 a w_124 ho ⟨ns_125, hI⟩
   subst ho
   replace H0 : (some false : Option (Bool)) = _ := H0
   refine then_normal ?_
   refine sr0_ hF hI (s_ [e_ 4 (.bool false)] [((((kd_Config).cells x0 sv0).map EV.v), 29)]) (by kernel_rfl) (fun ns_126 a w_127 hI => ?_)
   refine wpIn_ret ?_
   obtain rfl := Option.some.inj H0
   exact ret1 hI rfl rfl ⟨rfl, hE.below hI⟩

noncomputable def G_ref07_word (a0 : Int) : Option (Bool) := some (decide (a0 ≥ 0) && decide (a0 ≤ 4294967295))
theorem G_ref07_word.calls (a0 : Int)  (w : World) {S : Nat → Prop}  (r : Bool) (h : G_ref07_word a0 = some r) :
    Calls Tryz.prog 182 #[.int .i64 a0] w fun e w' => e = .returned (.bool r) ∧ Below w.heap.size w w' := by
  unfold G_ref07_word at h
  have H0 := h
  clear h
  refine enter Tryz.func182 rfl [.int .i64 a0] (n := 9) rfl (Nat.le_of_ble_eq_true rfl) (fun a hI => ?_)
  have hF : FOpen Fence.wide := .inl rfl
  have hE := Ep.start w
  refine sr0_ hF hI (s_ [e_ 2 (.bool false), e_ 0 (.int .i64 a0)] []) (by kernel_rfl) (fun ns_1 a w_2 hI => ?_)
  refine sr0_ hF hI (s_ [e_ 2 (.bool (decide (a0 ≥ 0) && decide (a0 ≤ 4294967295)))] []) (by kernel_rfl) (fun ns_3 a w_4 hI => ?_)
  refine wpIn_ret ?_
  obtain rfl := Option.some.inj H0
  exact ret1 hI rfl rfl ⟨rfl, hE.below hI⟩

noncomputable def G_ref07_windows.b1 (x0 : Config) (a1 : Int) (a2 : Int) (s1 : Int × Bool) : Option (Stp (Int × Bool) (Ex (Int × Bool) (Bool))) := (bif decide (s1.1 < (((rdA_St27 x0.Frames a1).Windows).length : Int)) then (req (inb s1.1 ((rdA_St27 x0.Frames a1).Windows).length) ((cal (a2 == 14) (G_ref07_part x0 ((rd ((rdA_St27 x0.Frames a1).Windows) s1.1).Part)) default).bind fun t_41 => (req (imp ((a2 == 14) && (!(!t_41))) (inb ((rd ((rdA_St27 x0.Frames a1).Windows) s1.1).Part) x0.Parts.length)) (bif ((a2 == 14) && ((!t_41) || (((rd x0.Parts ((rd ((rdA_St27 x0.Frames a1).Windows) s1.1).Part)).Core) != a1))) then some (.out (.ret true)) else (req (imp ((a2 == 15) && (!(decide (((rd ((rdA_St27 x0.Frames a1).Windows) s1.1).Start) < 0) || decide (((rd ((rdA_St27 x0.Frames a1).Windows) s1.1).Len) < 1)))) (inb a1 2)) (req (imp ((a2 == 15) && (!((decide (((rd ((rdA_St27 x0.Frames a1).Windows) s1.1).Start) < 0) || decide (((rd ((rdA_St27 x0.Frames a1).Windows) s1.1).Len) < 1)) || decide (((rd ((rdA_St27 x0.Frames a1).Windows) s1.1).Start) > ((rdA_St27 x0.Frames a1).Length))))) (inb a1 2)) (bif ((a2 == 15) && (((decide (((rd ((rdA_St27 x0.Frames a1).Windows) s1.1).Start) < 0) || decide (((rd ((rdA_St27 x0.Frames a1).Windows) s1.1).Len) < 1)) || decide (((rd ((rdA_St27 x0.Frames a1).Windows) s1.1).Start) > ((rdA_St27 x0.Frames a1).Length))) || decide (((rd ((rdA_St27 x0.Frames a1).Windows) s1.1).Len) > (IntKind.i64.wrap (((rdA_St27 x0.Frames a1).Length) - ((rd ((rdA_St27 x0.Frames a1).Windows) s1.1).Start)))))) then some (.out (.ret true)) else ((cal ((a2 == 16) && decide (s1.1 > 0)) (G_ref07_word ((rd ((rdA_St27 x0.Frames a1).Windows) s1.1).Start)) default).bind fun t_62 => (req (imp (((a2 == 16) && decide (s1.1 > 0)) && t_62) (inb (IntKind.i64.wrap (s1.1 - 1)) ((rdA_St27 x0.Frames a1).Windows).length)) ((cal (((a2 == 16) && decide (s1.1 > 0)) && t_62) (G_ref07_word ((rd ((rdA_St27 x0.Frames a1).Windows) (IntKind.i64.wrap (s1.1 - 1))).Start)) default).bind fun t_68 => (req (imp ((((a2 == 16) && decide (s1.1 > 0)) && t_62) && t_68) (inb (IntKind.i64.wrap (s1.1 - 1)) ((rdA_St27 x0.Frames a1).Windows).length)) ((cal ((((a2 == 16) && decide (s1.1 > 0)) && t_62) && t_68) (G_ref07_word ((rd ((rdA_St27 x0.Frames a1).Windows) (IntKind.i64.wrap (s1.1 - 1))).Len)) default).bind fun t_74 => (req (imp (((((a2 == 16) && decide (s1.1 > 0)) && t_62) && t_68) && t_74) (inb (IntKind.i64.wrap (s1.1 - 1)) ((rdA_St27 x0.Frames a1).Windows).length)) (req (imp (((((a2 == 16) && decide (s1.1 > 0)) && t_62) && t_68) && t_74) (inb (IntKind.i64.wrap (s1.1 - 1)) ((rdA_St27 x0.Frames a1).Windows).length)) (bif ((((((a2 == 16) && decide (s1.1 > 0)) && t_62) && t_68) && t_74) && decide (((rd ((rdA_St27 x0.Frames a1).Windows) s1.1).Start) < (IntKind.i64.wrap (((rd ((rdA_St27 x0.Frames a1).Windows) (IntKind.i64.wrap (s1.1 - 1))).Start) + ((rd ((rdA_St27 x0.Frames a1).Windows) (IntKind.i64.wrap (s1.1 - 1))).Len))))) then some (.out (.ret true)) else some (.next ((IntKind.i64.wrap (s1.1 + 1)), s1.2))))))))))))))))) else some (.out (.brk (s1.1, s1.2))))
noncomputable def G_ref07_windows (x0 : Config) (a1 : Int) (a2 : Int) : Option (Bool) := (req (inb a1 2) (bif (a2 == 12) then (req (inb a1 2) (req (imp (!(decide (((rdA_St27 x0.Frames a1).Length) < 1))) (inb a1 2)) (some (decide (((rdA_St27 x0.Frames a1).Length) < 1) || decide (((rdA_St27 x0.Frames a1).Length) > 64))))) else (bif (a2 == 13) then some (decide ((((rdA_St27 x0.Frames a1).Windows).length : Int) > 16)) else ((loopω (G_ref07_windows.b1 x0 a1 a2) (0, false)).bind fun o => o.on (fun s1 => some false) (fun r => some r)))))
theorem G_ref07_windows.calls (x0 : Config) (a1 : Int) (a2 : Int) (sv0 : SV) (w : World) {S : Nat → Prop} (hx0 : (kd_Config).cont S w x0 sv0) (r : Bool) (h : G_ref07_windows x0 a1 a2 = some r) :
    Calls Tryz.prog 135 #[.agg ((kd_Config).cells x0 sv0).toArray, .int .i64 a1, .int .i64 a2] w fun e w' => e = .returned (.bool r) ∧ Below w.heap.size w w' := by
  replace hx0 := Kd.lo _ hx0
  unfold G_ref07_windows at h
  have H0 := h
  clear h
  refine enter Tryz.func135 rfl [.agg ((kd_Config).cells x0 sv0).toArray, .int .i64 a1, .int .i64 a2] (n := 148) rfl (Nat.le_of_ble_eq_true rfl) (fun a hI => ?_)
  have hF : FOpen Fence.wide := .inl rfl
  have hE := Ep.start w
  refine sr0_ hF hI (s_ [e_ 6 (.bool false), p_ 3 0 0, e_ 1 (.int .i64 a1), e_ 2 (.int .i64 a2)] [((((kd_Config).cells x0 sv0).map EV.v), 29)]) (by kernel_rfl) (fun ns_1 a w_2 hI => ?_)
  obtain ⟨hE', hmv, hmr⟩ := Ep.rebase hE hI
  replace hx0 := Kd.keep _ hx0 (hmv _)
  replace hE := hE'; replace hI := hI.rebase; clear hE' hmv hmr
  have hct := contI (S := Lo S w w_2 ns_1 []) (w := w_2) (d := kd_Config) (x := x0) (sv := sv0) ⟨⟨hx0.1.1, hx0.1.2⟩, ⟨hx0.2.1.1, hx0.2.1.2⟩, ⟨hx0.2.2.1.1, hx0.2.2.1.2⟩, ⟨hx0.2.2.2.1.1, hx0.2.2.2.1.2⟩, trivial⟩
  obtain ⟨B_3, ns_5, hE', hI', hmv, hB_4⟩ := freeze_ (d := kd_Config) hE hI 0 x0 sv0 29 rfl
  replace hB_4 := hB_4 _ hct
  clear hct
  have hmr := hmr_ ([] : List (List Nat)) w_2
  replace hx0 := Kd.keep _ hx0 (hmv _)
  replace hE := hE'; replace hI := hI'; clear hE' hI' hmv hmr
  obtain ⟨ns_6, hE', hI', hmv⟩ := hE.cut hI [6, 3, 1, 2] 0 (s_ [e_ 6 (.bool false), e_ 3 (.pointer (some B_3)), e_ 1 (.int .i64 a1), e_ 2 (.int .i64 a2)] []) (by kernel_rfl)
  have hmr := hmr_ ([] : List (List Nat)) w_2
  replace hx0 := Kd.keep _ hx0 (hmv _)
  replace hB_4 := El.keep hB_4 (hmv _)
  replace hE := hE'; replace hI := hI'; clear hE' hI' hmv hmr
  obtain ⟨hN_7, H0⟩ := req_some H0
  have hE_9 := elA_St27 (El.part (e := kd_St27) hB_4 2 x0.Frames (svO sv0 2) ⟨(hB_4).cont.2.2.1, (hB_4).cont.2.2.2.1, trivial⟩ rfl) hN_7
  refine sr_ (orc := [[.slice (((svO (svO sv0 2) ((a1 : Int).toNat * 1)) 0).1) ((rdA_St27 x0.Frames a1).Windows).length (((svO (svO sv0 2) ((a1 : Int).toNat * 1)) 0).2)]]) hF hI (s_ [e_ 7 (.slice (((svO (svO sv0 2) ((a1 : Int).toNat * 1)) 0).1) ((rdA_St27 x0.Frames a1).Windows).length (((svO (svO sv0 2) ((a1 : Int).toNat * 1)) 0).2)), e_ 6 (.bool false), e_ 3 (.pointer (some B_3)), e_ 1 (.int .i64 a1), e_ 2 (.int .i64 a2)] []) [.need true ((0 : Int) ≤ a1 ∧ a1 < ((2 : Nat) : Int)), .cell true (((B_3.add 2).add ((a1 : Int).toNat * 2)).add 1) [.slice (((svO (svO sv0 2) ((a1 : Int).toNat * 1)) 0).1) ((rdA_St27 x0.Frames a1).Windows).length (((svO (svO sv0 2) ((a1 : Int).toNat * 1)) 0).2)]] (by kernel_rfl) ⟨ob_inb (fun _ => hN_7), ob_el (fun _ => hE_9) 1 [.slice (((svO (svO sv0 2) ((a1 : Int).toNat * 1)) 0).1) ((rdA_St27 x0.Frames a1).Windows).length (((svO (svO sv0 2) ((a1 : Int).toNat * 1)) 0).2)] rfl, trivial⟩ (fun ns_10 a w_11 hI => ?_)
  refine wpIn_seq ?_
  refine sr0_ hF hI (s_ [e_ 16 (.bool (a2 == 12)), e_ 7 (.slice (((svO (svO sv0 2) ((a1 : Int).toNat * 1)) 0).1) ((rdA_St27 x0.Frames a1).Windows).length (((svO (svO sv0 2) ((a1 : Int).toNat * 1)) 0).2)), e_ 6 (.bool false), e_ 3 (.pointer (some B_3)), e_ 1 (.int .i64 a1), e_ 2 (.int .i64 a2)] []) (by kernel_rfl) (fun ns_12 a w_13 hI => ?_)
  refine cond_ hI ((a2 == 12)) rfl (fun hc_14 => ?_) (fun hc_14 => ?_)
  ·replace H0 := bif_t hc_14 H0
   obtain ⟨hN_15, H0⟩ := req_some H0
   have hE_17 := elA_St27 (El.part (e := kd_St27) hB_4 2 x0.Frames (svO sv0 2) ⟨(hB_4).cont.2.2.1, (hB_4).cont.2.2.2.1, trivial⟩ rfl) hN_15
   obtain ⟨hN_18, H0⟩ := req_some H0
   have hE_20 := fun (hg : (!(decide (((rdA_St27 x0.Frames a1).Length) < 1))) = true) => elA_St27 (El.part (e := kd_St27) hB_4 2 x0.Frames (svO sv0 2) ⟨(hB_4).cont.2.2.1, (hB_4).cont.2.2.2.1, trivial⟩ rfl) (imp_spec hN_18 hg)
   refine sr_ (orc := [[.int .i64 ((rdA_St27 x0.Frames a1).Length)], [.int .i64 ((rdA_St27 x0.Frames a1).Length)]]) hF hI (s_ [e_ 6 (.bool (decide (((rdA_St27 x0.Frames a1).Length) < 1) || decide (((rdA_St27 x0.Frames a1).Length) > 64)))] []) [.need true ((0 : Int) ≤ a1 ∧ a1 < ((2 : Nat) : Int)), .cell true ((B_3.add 2).add ((a1 : Int).toNat * 2)) [.int .i64 ((rdA_St27 x0.Frames a1).Length)], .need (!(decide (((rdA_St27 x0.Frames a1).Length) < 1))) ((0 : Int) ≤ a1 ∧ a1 < ((2 : Nat) : Int)), .cell (!(decide (((rdA_St27 x0.Frames a1).Length) < 1))) ((B_3.add 2).add ((a1 : Int).toNat * 2)) [.int .i64 ((rdA_St27 x0.Frames a1).Length)]] (by kernel_rfl) ⟨ob_inb (fun _ => hN_15), ob_el (fun _ => hE_17) 0 [.int .i64 ((rdA_St27 x0.Frames a1).Length)] rfl, ob_inb (fun hg => imp_spec hN_18 hg), ob_el (fun hg => hE_20 hg) 0 [.int .i64 ((rdA_St27 x0.Frames a1).Length)] rfl, trivial⟩ (fun ns_21 a w_22 hI => ?_)
   refine wpIn_ret ?_
   refine then_ret ?_
   obtain rfl := Option.some.inj H0
   exact ret1 hI rfl rfl ⟨rfl, hE.below hI⟩
  ·replace H0 := bif_f hc_14 H0
   refine wpIn_skip ?_
   refine then_normal ?_
   refine wpIn_seq ?_
   refine sr0_ hF hI (s_ [e_ 32 (.bool (a2 == 13)), e_ 7 (.slice (((svO (svO sv0 2) ((a1 : Int).toNat * 1)) 0).1) ((rdA_St27 x0.Frames a1).Windows).length (((svO (svO sv0 2) ((a1 : Int).toNat * 1)) 0).2)), e_ 6 (.bool false), e_ 3 (.pointer (some B_3)), e_ 1 (.int .i64 a1), e_ 2 (.int .i64 a2)] []) (by kernel_rfl) (fun ns_23 a w_24 hI => ?_)
   refine cond_ hI ((a2 == 13)) rfl (fun hc_25 => ?_) (fun hc_25 => ?_)
   ·replace H0 := bif_t hc_25 H0
    refine sr0_ hF hI (s_ [e_ 6 (.bool (decide ((((rdA_St27 x0.Frames a1).Windows).length : Int) > 16)))] []) (by kernel_rfl) (fun ns_26 a w_27 hI => ?_)
    refine wpIn_ret ?_
    refine then_ret ?_
    obtain rfl := Option.some.inj H0
    exact ret1 hI rfl rfl ⟨rfl, hE.below hI⟩
   ·replace H0 := bif_f hc_25 H0
    refine wpIn_skip ?_
    refine then_normal ?_
    refine wpIn_seq ?_
    refine sr0_ hF hI (s_ [e_ 8 (.int .i64 0), e_ 7 (.slice (((svO (svO sv0 2) ((a1 : Int).toNat * 1)) 0).1) ((rdA_St27 x0.Frames a1).Windows).length (((svO (svO sv0 2) ((a1 : Int).toNat * 1)) 0).2)), e_ 6 (.bool false), e_ 3 (.pointer (some B_3)), e_ 1 (.int .i64 a1), e_ 2 (.int .i64 a2)] []) (by kernel_rfl) (fun ns_28 a w_29 hI => ?_)
    obtain ⟨o_90, hL_91, H0⟩ := bind_some H0
    refine block_loop (fun (s1 : Int × Bool) a w_96 => ∃ ns, St w_2 ns_6 148 (s_ [e_ 8 (.int .i64 s1.1), e_ 7 (.slice (((svO (svO sv0 2) ((a1 : Int).toNat * 1)) 0).1) ((rdA_St27 x0.Frames a1).Windows).length (((svO (svO sv0 2) ((a1 : Int).toNat * 1)) 0).2)), e_ 6 (.bool s1.2), e_ 3 (.pointer (some B_3)), e_ 1 (.int .i64 a1), e_ 2 (.int .i64 a2)] []) ns a w_96) (0, false) hL_91 ⟨_, hI.pick [8, 7, 6, 3, 1, 2] 0 (s_ [e_ 8 (.int .i64 0), e_ 7 (.slice (((svO (svO sv0 2) ((a1 : Int).toNat * 1)) 0).1) ((rdA_St27 x0.Frames a1).Windows).length (((svO (svO sv0 2) ((a1 : Int).toNat * 1)) 0).2)), e_ 6 (.bool false), e_ 3 (.pointer (some B_3)), e_ 1 (.int .i64 a1), e_ 2 (.int .i64 a2)] []) (by kernel_rfl)⟩ ?_ ?_
    ·clear hI
     rintro s1 a w_30 ⟨ns_31, hI⟩ r1 H1
     unfold G_ref07_windows.b1 at H1
     refine wpIn_seq ?_
     refine sr0_ hF hI (s_ [e_ 39 (.bool (decide (s1.1 < (((rdA_St27 x0.Frames a1).Windows).length : Int)))), e_ 8 (.int .i64 s1.1), e_ 7 (.slice (((svO (svO sv0 2) ((a1 : Int).toNat * 1)) 0).1) ((rdA_St27 x0.Frames a1).Windows).length (((svO (svO sv0 2) ((a1 : Int).toNat * 1)) 0).2)), e_ 6 (.bool s1.2), e_ 3 (.pointer (some B_3)), e_ 1 (.int .i64 a1), e_ 2 (.int .i64 a2)] []) (by kernel_rfl) (fun ns_32 a w_33 hI => ?_)
     refine cond_ hI (decide (s1.1 < (((rdA_St27 x0.Frames a1).Windows).length : Int))) rfl (fun hc_34 => ?_) (fun hc_34 => ?_)
     ·replace H1 := bif_t hc_34 H1
      refine wpIn_skip ?_
      refine then_normal ?_
      refine wpIn_seq ?_
      refine wpIn_block ?_
      obtain ⟨hN_35, H1⟩ := req_some H1
      obtain ⟨sv_36, hE_38, hA_37⟩ := Arr.elB (d := kd_Window) (hE_9).cont.1.1 s1.1 true (fun _ => hN_35)
      replace hE_38 := hE_38 rfl
      replace hA_37 := fun (_ : true = true) => hA_37 rfl
      refine sr_ (orc := [(kd_Window).cells (rd ((rdA_St27 x0.Frames a1).Windows) s1.1) sv_36]) hF hI (s_ [p_ 9 0 0, e_ 8 (.int .i64 s1.1), e_ 7 (.slice (((svO (svO sv0 2) ((a1 : Int).toNat * 1)) 0).1) ((rdA_St27 x0.Frames a1).Windows).length (((svO (svO sv0 2) ((a1 : Int).toNat * 1)) 0).2)), e_ 6 (.bool s1.2), e_ 3 (.pointer (some B_3)), e_ 1 (.int .i64 a1), e_ 2 (.int .i64 a2)] [((((kd_Window).cells (rd ((rdA_St27 x0.Frames a1).Windows) s1.1) sv_36).map EV.v), 157)]) [.need true ((0 : Int) ≤ s1.1 ∧ s1.1 < (((rdA_St27 x0.Frames a1).Windows).length : Int)), .need true (((svO (svO sv0 2) ((a1 : Int).toNat * 1)) 0).1 = some (adr (((svO (svO sv0 2) ((a1 : Int).toNat * 1)) 0).1))), .cell true ((adr (((svO (svO sv0 2) ((a1 : Int).toNat * 1)) 0).1)).add ((s1.1 : Int).toNat * 3)) ((kd_Window).cells (rd ((rdA_St27 x0.Frames a1).Windows) s1.1) sv_36)] (by kernel_rfl) ⟨ob_inb (fun _ => hN_35), hA_37, ob_el (fun _ => hE_38) 0 ((kd_Window).cells (rd ((rdA_St27 x0.Frames a1).Windows) s1.1) sv_36) rfl, trivial⟩ (fun ns_39 a w_40 hI => ?_)
      refine wpIn_seq ?_
      obtain ⟨t_41, hG_42, H1⟩ := bind_some H1
      obtain ⟨hN_43, H1⟩ := req_some H1
      obtain ⟨sv_44, hE_46, hA_45⟩ := Arr.elB (d := kd_Part) (hB_4).cont.1.1 ((rd ((rdA_St27 x0.Frames a1).Windows) s1.1).Part) ((a2 == 14) && (!(!t_41))) (fun hg => imp_spec hN_43 hg)
      refine sr_ (orc := [(kd_Config).cells x0 sv0, [.bool t_41], [.slice ((sv0 0).1) x0.Parts.length ((sv0 0).2)], [.int .i64 ((rd x0.Parts ((rd ((rdA_St27 x0.Frames a1).Windows) s1.1).Part)).Core)]]) hF hI (s_ [e_ 65 (.bool ((a2 == 14) && ((!t_41) || (((rd x0.Parts ((rd ((rdA_St27 x0.Frames a1).Windows) s1.1).Part)).Core) != a1)))), p_ 9 0 0, e_ 8 (.int .i64 s1.1), e_ 7 (.slice (((svO (svO sv0 2) ((a1 : Int).toNat * 1)) 0).1) ((rdA_St27 x0.Frames a1).Windows).length (((svO (svO sv0 2) ((a1 : Int).toNat * 1)) 0).2)), e_ 6 (.bool s1.2), e_ 3 (.pointer (some B_3)), e_ 1 (.int .i64 a1), e_ 2 (.int .i64 a2)] [((((kd_Window).cells (rd ((rdA_St27 x0.Frames a1).Windows) s1.1) sv_36).map EV.v), 157)]) [.cell (a2 == 14) B_3 ((kd_Config).cells x0 sv0), .call (a2 == 14) 181 [.agg ((kd_Config).cells x0 sv0).toArray, .int .i64 ((rd ((rdA_St27 x0.Frames a1).Windows) s1.1).Part)] (.bool t_41), .cell ((a2 == 14) && (!(!t_41))) B_3 [.slice ((sv0 0).1) x0.Parts.length ((sv0 0).2)], .need ((a2 == 14) && (!(!t_41))) ((0 : Int) ≤ ((rd ((rdA_St27 x0.Frames a1).Windows) s1.1).Part) ∧ ((rd ((rdA_St27 x0.Frames a1).Windows) s1.1).Part) < (x0.Parts.length : Int)), .need ((a2 == 14) && (!(!t_41))) ((sv0 0).1 = some (adr ((sv0 0).1))), .cell ((a2 == 14) && (!(!t_41))) ((adr ((sv0 0).1)).add ((((rd ((rdA_St27 x0.Frames a1).Windows) s1.1).Part) : Int).toNat * 2)) [.int .i64 ((rd x0.Parts ((rd ((rdA_St27 x0.Frames a1).Windows) s1.1).Part)).Core)]] (by kernel_rfl) ⟨ob_el (fun _ => hB_4) 0 ((kd_Config).cells x0 sv0) rfl, ob_call (enters Tryz.func181 (by kernel_rfl) rfl) (fun hg wz hk => G_ref07_part.calls x0 ((rd ((rdA_St27 x0.Frames a1).Windows) s1.1).Part) sv0 wz (S := fun _ => True) (Kd.any _ (Kd.keep kd_Config (contI (S := Lo S w w_2 ns_6 []) (w := w_2) (d := kd_Config) (x := x0) (sv := sv0) ⟨⟨(hB_4).cont.1.1, (hB_4).cont.1.2⟩, ⟨(hB_4).cont.2.1.1, (hB_4).cont.2.1.2⟩, ⟨(hB_4).cont.2.2.1.1, (hB_4).cont.2.2.1.2⟩, ⟨(hB_4).cont.2.2.2.1.1, (hB_4).cont.2.2.2.1.2⟩, trivial⟩) (Lo.on hk))) _ (cal_some hG_42 hg)), ob_el (fun _ => hB_4) 0 [.slice ((sv0 0).1) x0.Parts.length ((sv0 0).2)] rfl, ob_inb (fun hg => imp_spec hN_43 hg), hA_45, ob_el (fun hg => hE_46 hg) 0 [.int .i64 ((rd x0.Parts ((rd ((rdA_St27 x0.Frames a1).Windows) s1.1).Part)).Core)] rfl, trivial⟩ (fun ns_47 a w_48 hI => ?_)
      refine cond_ hI (((a2 == 14) && ((!t_41) || (((rd x0.Parts ((rd ((rdA_St27 x0.Frames a1).Windows) s1.1).Part)).Core) != a1)))) rfl (fun hc_49 => ?_) (fun hc_49 => ?_)
      ·replace H1 := bif_t hc_49 H1
       refine sr0_ hF hI (s_ [e_ 6 (.bool true)] [((((kd_Window).cells (rd ((rdA_St27 x0.Frames a1).Windows) s1.1) sv_36).map EV.v), 157)]) (by kernel_rfl) (fun ns_50 a w_51 hI => ?_)
       refine wpIn_ret ?_
       refine then_ret ?_
       refine inBlock_ret ?_
       refine then_ret ?_
       refine then_ret ?_
       obtain rfl := Option.some.inj H1
       refine .inr ⟨_, rfl, fun ho => ?_⟩
       subst ho
       refine inBlock_ret ?_
       refine then_ret ?_
       obtain rfl := Option.some.inj H0
       exact ret1 hI rfl rfl ⟨rfl, hE.below hI⟩
      ·replace H1 := bif_f hc_49 H1
       refine wpIn_skip ?_
       refine then_normal ?_
       refine wpIn_seq ?_
       refine wpIn_seq ?_
       obtain ⟨hN_52, H1⟩ := req_some H1
       have hE_54 := fun (hg : ((a2 == 15) && (!(decide (((rd ((rdA_St27 x0.Frames a1).Windows) s1.1).Start) < 0) || decide (((rd ((rdA_St27 x0.Frames a1).Windows) s1.1).Len) < 1)))) = true) => elA_St27 (El.part (e := kd_St27) hB_4 2 x0.Frames (svO sv0 2) ⟨(hB_4).cont.2.2.1, (hB_4).cont.2.2.2.1, trivial⟩ rfl) (imp_spec hN_52 hg)
       obtain ⟨hN_55, H1⟩ := req_some H1
       have hE_57 := fun (hg : ((a2 == 15) && (!((decide (((rd ((rdA_St27 x0.Frames a1).Windows) s1.1).Start) < 0) || decide (((rd ((rdA_St27 x0.Frames a1).Windows) s1.1).Len) < 1)) || decide (((rd ((rdA_St27 x0.Frames a1).Windows) s1.1).Start) > ((rdA_St27 x0.Frames a1).Length))))) = true) => elA_St27 (El.part (e := kd_St27) hB_4 2 x0.Frames (svO sv0 2) ⟨(hB_4).cont.2.2.1, (hB_4).cont.2.2.2.1, trivial⟩ rfl) (imp_spec hN_55 hg)
       refine drawn_ (live := [100, 9, 8, 7, 6, 3, 1, 2]) (orc := [[.int .i64 ((rdA_St27 x0.Frames a1).Length)], [.int .i64 ((rdA_St27 x0.Frames a1).Length)]]) hF hI (s_ [e_ 100 (.bool ((a2 == 15) && (((decide (((rd ((rdA_St27 x0.Frames a1).Windows) s1.1).Start) < 0) || decide (((rd ((rdA_St27 x0.Frames a1).Windows) s1.1).Len) < 1)) || decide (((rd ((rdA_St27 x0.Frames a1).Windows) s1.1).Start) > ((rdA_St27 x0.Frames a1).Length))) || decide (((rd ((rdA_St27 x0.Frames a1).Windows) s1.1).Len) > (IntKind.i64.wrap (((rdA_St27 x0.Frames a1).Length) - ((rd ((rdA_St27 x0.Frames a1).Windows) s1.1).Start))))))), p_ 9 0 0, e_ 8 (.int .i64 s1.1), e_ 7 (.slice (((svO (svO sv0 2) ((a1 : Int).toNat * 1)) 0).1) ((rdA_St27 x0.Frames a1).Windows).length (((svO (svO sv0 2) ((a1 : Int).toNat * 1)) 0).2)), e_ 6 (.bool s1.2), e_ 3 (.pointer (some B_3)), e_ 1 (.int .i64 a1), e_ 2 (.int .i64 a2)] [((((kd_Window).cells (rd ((rdA_St27 x0.Frames a1).Windows) s1.1) sv_36).map EV.v), 157)]) [.need ((a2 == 15) && (!(decide (((rd ((rdA_St27 x0.Frames a1).Windows) s1.1).Start) < 0) || decide (((rd ((rdA_St27 x0.Frames a1).Windows) s1.1).Len) < 1)))) ((0 : Int) ≤ a1 ∧ a1 < ((2 : Nat) : Int)), .cell ((a2 == 15) && (!(decide (((rd ((rdA_St27 x0.Frames a1).Windows) s1.1).Start) < 0) || decide (((rd ((rdA_St27 x0.Frames a1).Windows) s1.1).Len) < 1)))) ((B_3.add 2).add ((a1 : Int).toNat * 2)) [.int .i64 ((rdA_St27 x0.Frames a1).Length)], .need ((a2 == 15) && (!((decide (((rd ((rdA_St27 x0.Frames a1).Windows) s1.1).Start) < 0) || decide (((rd ((rdA_St27 x0.Frames a1).Windows) s1.1).Len) < 1)) || decide (((rd ((rdA_St27 x0.Frames a1).Windows) s1.1).Start) > ((rdA_St27 x0.Frames a1).Length))))) ((0 : Int) ≤ a1 ∧ a1 < ((2 : Nat) : Int)), .cell ((a2 == 15) && (!((decide (((rd ((rdA_St27 x0.Frames a1).Windows) s1.1).Start) < 0) || decide (((rd ((rdA_St27 x0.Frames a1).Windows) s1.1).Len) < 1)) || decide (((rd ((rdA_St27 x0.Frames a1).Windows) s1.1).Start) > ((rdA_St27 x0.Frames a1).Length))))) ((B_3.add 2).add ((a1 : Int).toNat * 2)) [.int .i64 ((rdA_St27 x0.Frames a1).Length)]] (by kernel_rfl) (by kernel_rfl) (by kernel_rfl) ⟨ob_inb (fun hg => imp_spec hN_52 hg), ob_el (fun hg => hE_54 hg) 0 [.int .i64 ((rdA_St27 x0.Frames a1).Length)] rfl, ob_inb (fun hg => imp_spec hN_55 hg), ob_el (fun hg => hE_57 hg) 0 [.int .i64 ((rdA_St27 x0.Frames a1).Length)] rfl, trivial⟩ (fun a w_58 hI => ?_)
       refine then_normal ?_
       refine cond_ hI (((a2 == 15) && (((decide (((rd ((rdA_St27 x0.Frames a1).Windows) s1.1).Start) < 0) || decide (((rd ((rdA_St27 x0.Frames a1).Windows) s1.1).Len) < 1)) || decide (((rd ((rdA_St27 x0.Frames a1).Windows) s1.1).Start) > ((rdA_St27 x0.Frames a1).Length))) || decide (((rd ((rdA_St27 x0.Frames a1).Windows) s1.1).Len) > (IntKind.i64.wrap (((rdA_St27 x0.Frames a1).Length) - ((rd ((rdA_St27 x0.Frames a1).Windows) s1.1).Start))))))) rfl (fun hc_59 => ?_) (fun hc_59 => ?_)
       ·replace H1 := bif_t hc_59 H1
        refine sr0_ hF hI (s_ [e_ 6 (.bool true)] [((((kd_Window).cells (rd ((rdA_St27 x0.Frames a1).Windows) s1.1) sv_36).map EV.v), 157)]) (by kernel_rfl) (fun ns_60 a w_61 hI => ?_)
        refine wpIn_ret ?_
        refine then_ret ?_
        refine inBlock_ret ?_
        refine then_ret ?_
        refine then_ret ?_
        obtain rfl := Option.some.inj H1
        refine .inr ⟨_, rfl, fun ho => ?_⟩
        subst ho
        refine inBlock_ret ?_
        refine then_ret ?_
        obtain rfl := Option.some.inj H0
        exact ret1 hI rfl rfl ⟨rfl, hE.below hI⟩
       ·replace H1 := bif_f hc_59 H1
        refine wpIn_skip ?_
        refine then_normal ?_
        refine wpIn_seq ?_
        obtain ⟨t_62, hG_63, H1⟩ := bind_some H1
        obtain ⟨hN_64, H1⟩ := req_some H1
        obtain ⟨sv_65, hE_67, hA_66⟩ := Arr.elB (d := kd_Window) (hE_9).cont.1.1 (IntKind.i64.wrap (s1.1 - 1)) (((a2 == 16) && decide (s1.1 > 0)) && t_62) (fun hg => imp_spec hN_64 hg)
        obtain ⟨t_68, hG_69, H1⟩ := bind_some H1
        obtain ⟨hN_70, H1⟩ := req_some H1
        obtain ⟨sv_71, hE_73, hA_72⟩ := Arr.elB (d := kd_Window) (hE_9).cont.1.1 (IntKind.i64.wrap (s1.1 - 1)) ((((a2 == 16) && decide (s1.1 > 0)) && t_62) && t_68) (fun hg => imp_spec hN_70 hg)
        obtain ⟨t_74, hG_75, H1⟩ := bind_some H1
        obtain ⟨hN_76, H1⟩ := req_some H1
        obtain ⟨sv_77, hE_79, hA_78⟩ := Arr.elB (d := kd_Window) (hE_9).cont.1.1 (IntKind.i64.wrap (s1.1 - 1)) (((((a2 == 16) && decide (s1.1 > 0)) && t_62) && t_68) && t_74) (fun hg => imp_spec hN_76 hg)
        obtain ⟨hN_80, H1⟩ := req_some H1
        obtain ⟨sv_81, hE_83, hA_82⟩ := Arr.elB (d := kd_Window) (hE_9).cont.1.1 (IntKind.i64.wrap (s1.1 - 1)) (((((a2 == 16) && decide (s1.1 > 0)) && t_62) && t_68) && t_74) (fun hg => imp_spec hN_80 hg)
        refine drawn_ (live := [147, 8, 7, 6, 3, 1, 2]) (orc := [[.bool t_62], [.int .i64 ((rd ((rdA_St27 x0.Frames a1).Windows) (IntKind.i64.wrap (s1.1 - 1))).Start)], [.bool t_68], [.int .i64 ((rd ((rdA_St27 x0.Frames a1).Windows) (IntKind.i64.wrap (s1.1 - 1))).Len)], [.bool t_74], [.int .i64 ((rd ((rdA_St27 x0.Frames a1).Windows) (IntKind.i64.wrap (s1.1 - 1))).Start)], [.int .i64 ((rd ((rdA_St27 x0.Frames a1).Windows) (IntKind.i64.wrap (s1.1 - 1))).Len)]]) hF hI (s_ [e_ 147 (.bool ((((((a2 == 16) && decide (s1.1 > 0)) && t_62) && t_68) && t_74) && decide (((rd ((rdA_St27 x0.Frames a1).Windows) s1.1).Start) < (IntKind.i64.wrap (((rd ((rdA_St27 x0.Frames a1).Windows) (IntKind.i64.wrap (s1.1 - 1))).Start) + ((rd ((rdA_St27 x0.Frames a1).Windows) (IntKind.i64.wrap (s1.1 - 1))).Len)))))), e_ 8 (.int .i64 s1.1), e_ 7 (.slice (((svO (svO sv0 2) ((a1 : Int).toNat * 1)) 0).1) ((rdA_St27 x0.Frames a1).Windows).length (((svO (svO sv0 2) ((a1 : Int).toNat * 1)) 0).2)), e_ 6 (.bool s1.2), e_ 3 (.pointer (some B_3)), e_ 1 (.int .i64 a1), e_ 2 (.int .i64 a2)] [((((kd_Window).cells (rd ((rdA_St27 x0.Frames a1).Windows) s1.1) sv_36).map EV.v), 157)]) [.call ((a2 == 16) && decide (s1.1 > 0)) 182 [.int .i64 ((rd ((rdA_St27 x0.Frames a1).Windows) s1.1).Start)] (.bool t_62), .need (((a2 == 16) && decide (s1.1 > 0)) && t_62) ((0 : Int) ≤ (IntKind.i64.wrap (s1.1 - 1)) ∧ (IntKind.i64.wrap (s1.1 - 1)) < (((rdA_St27 x0.Frames a1).Windows).length : Int)), .need (((a2 == 16) && decide (s1.1 > 0)) && t_62) (((svO (svO sv0 2) ((a1 : Int).toNat * 1)) 0).1 = some (adr (((svO (svO sv0 2) ((a1 : Int).toNat * 1)) 0).1))), .cell (((a2 == 16) && decide (s1.1 > 0)) && t_62) (((adr (((svO (svO sv0 2) ((a1 : Int).toNat * 1)) 0).1)).add (((IntKind.i64.wrap (s1.1 - 1)) : Int).toNat * 3)).add 1) [.int .i64 ((rd ((rdA_St27 x0.Frames a1).Windows) (IntKind.i64.wrap (s1.1 - 1))).Start)], .call (((a2 == 16) && decide (s1.1 > 0)) && t_62) 182 [.int .i64 ((rd ((rdA_St27 x0.Frames a1).Windows) (IntKind.i64.wrap (s1.1 - 1))).Start)] (.bool t_68), .need ((((a2 == 16) && decide (s1.1 > 0)) && t_62) && t_68) ((0 : Int) ≤ (IntKind.i64.wrap (s1.1 - 1)) ∧ (IntKind.i64.wrap (s1.1 - 1)) < (((rdA_St27 x0.Frames a1).Windows).length : Int)), .need ((((a2 == 16) && decide (s1.1 > 0)) && t_62) && t_68) (((svO (svO sv0 2) ((a1 : Int).toNat * 1)) 0).1 = some (adr (((svO (svO sv0 2) ((a1 : Int).toNat * 1)) 0).1))), .cell ((((a2 == 16) && decide (s1.1 > 0)) && t_62) && t_68) (((adr (((svO (svO sv0 2) ((a1 : Int).toNat * 1)) 0).1)).add (((IntKind.i64.wrap (s1.1 - 1)) : Int).toNat * 3)).add 2) [.int .i64 ((rd ((rdA_St27 x0.Frames a1).Windows) (IntKind.i64.wrap (s1.1 - 1))).Len)], .call ((((a2 == 16) && decide (s1.1 > 0)) && t_62) && t_68) 182 [.int .i64 ((rd ((rdA_St27 x0.Frames a1).Windows) (IntKind.i64.wrap (s1.1 - 1))).Len)] (.bool t_74), .need (((((a2 == 16) && decide (s1.1 > 0)) && t_62) && t_68) && t_74) ((0 : Int) ≤ (IntKind.i64.wrap (s1.1 - 1)) ∧ (IntKind.i64.wrap (s1.1 - 1)) < (((rdA_St27 x0.Frames a1).Windows).length : Int)), .need (((((a2 == 16) && decide (s1.1 > 0)) && t_62) && t_68) && t_74) (((svO (svO sv0 2) ((a1 : Int).toNat * 1)) 0).1 = some (adr (((svO (svO sv0 2) ((a1 : Int).toNat * 1)) 0).1))), .cell (((((a2 == 16) && decide (s1.1 > 0)) && t_62) && t_68) && t_74) (((adr (((svO (svO sv0 2) ((a1 : Int).toNat * 1)) 0).1)).add (((IntKind.i64.wrap (s1.1 - 1)) : Int).toNat * 3)).add 1) [.int .i64 ((rd ((rdA_St27 x0.Frames a1).Windows) (IntKind.i64.wrap (s1.1 - 1))).Start)], .need (((((a2 == 16) && decide (s1.1 > 0)) && t_62) && t_68) && t_74) ((0 : Int) ≤ (IntKind.i64.wrap (s1.1 - 1)) ∧ (IntKind.i64.wrap (s1.1 - 1)) < (((rdA_St27 x0.Frames a1).Windows).length : Int)), .need (((((a2 == 16) && decide (s1.1 > 0)) && t_62) && t_68) && t_74) (((svO (svO sv0 2) ((a1 : Int).toNat * 1)) 0).1 = some (adr (((svO (svO sv0 2) ((a1 : Int).toNat * 1)) 0).1))), .cell (((((a2 == 16) && decide (s1.1 > 0)) && t_62) && t_68) && t_74) (((adr (((svO (svO sv0 2) ((a1 : Int).toNat * 1)) 0).1)).add (((IntKind.i64.wrap (s1.1 - 1)) : Int).toNat * 3)).add 2) [.int .i64 ((rd ((rdA_St27 x0.Frames a1).Windows) (IntKind.i64.wrap (s1.1 - 1))).Len)]] (by kernel_rfl) (by kernel_rfl) (by kernel_rfl) ⟨ob_call (enters Tryz.func182 (by kernel_rfl) rfl) (fun hg wz hk => G_ref07_word.calls ((rd ((rdA_St27 x0.Frames a1).Windows) s1.1).Start)  wz (S := fun _ => True)  _ (cal_some hG_63 hg)), ob_inb (fun hg => imp_spec hN_64 hg), hA_66, ob_el (fun hg => hE_67 hg) 1 [.int .i64 ((rd ((rdA_St27 x0.Frames a1).Windows) (IntKind.i64.wrap (s1.1 - 1))).Start)] rfl, ob_call (enters Tryz.func182 (by kernel_rfl) rfl) (fun hg wz hk => G_ref07_word.calls ((rd ((rdA_St27 x0.Frames a1).Windows) (IntKind.i64.wrap (s1.1 - 1))).Start)  wz (S := fun _ => True)  _ (cal_some hG_69 hg)), ob_inb (fun hg => imp_spec hN_70 hg), hA_72, ob_el (fun hg => hE_73 hg) 2 [.int .i64 ((rd ((rdA_St27 x0.Frames a1).Windows) (IntKind.i64.wrap (s1.1 - 1))).Len)] rfl, ob_call (enters Tryz.func182 (by kernel_rfl) rfl) (fun hg wz hk => G_ref07_word.calls ((rd ((rdA_St27 x0.Frames a1).Windows) (IntKind.i64.wrap (s1.1 - 1))).Len)  wz (S := fun _ => True)  _ (cal_some hG_75 hg)), ob_inb (fun hg => imp_spec hN_76 hg), hA_78, ob_el (fun hg => hE_79 hg) 1 [.int .i64 ((rd ((rdA_St27 x0.Frames a1).Windows) (IntKind.i64.wrap (s1.1 - 1))).Start)] rfl, ob_inb (fun hg => imp_spec hN_80 hg), hA_82, ob_el (fun hg => hE_83 hg) 2 [.int .i64 ((rd ((rdA_St27 x0.Frames a1).Windows) (IntKind.i64.wrap (s1.1 - 1))).Len)] rfl, trivial⟩ (fun a w_84 hI => ?_)
        refine then_normal ?_
        refine cond_ hI (((((((a2 == 16) && decide (s1.1 > 0)) && t_62) && t_68) && t_74) && decide (((rd ((rdA_St27 x0.Frames a1).Windows) s1.1).Start) < (IntKind.i64.wrap (((rd ((rdA_St27 x0.Frames a1).Windows) (IntKind.i64.wrap (s1.1 - 1))).Start) + ((rd ((rdA_St27 x0.Frames a1).Windows) (IntKind.i64.wrap (s1.1 - 1))).Len)))))) rfl (fun hc_85 => ?_) (fun hc_85 => ?_)
        ·replace H1 := bif_t hc_85 H1
         refine sr0_ hF hI (s_ [e_ 6 (.bool true)] [((((kd_Window).cells (rd ((rdA_St27 x0.Frames a1).Windows) s1.1) sv_36).map EV.v), 157)]) (by kernel_rfl) (fun ns_86 a w_87 hI => ?_)
         refine wpIn_ret ?_
         refine inBlock_ret ?_
         refine then_ret ?_
         refine then_ret ?_
         obtain rfl := Option.some.inj H1
         refine .inr ⟨_, rfl, fun ho => ?_⟩
         subst ho
         refine inBlock_ret ?_
         refine then_ret ?_
         obtain rfl := Option.some.inj H0
         exact ret1 hI rfl rfl ⟨rfl, hE.below hI⟩
        ·replace H1 := bif_f hc_85 H1
         refine wpIn_skip ?_
         refine inBlock_normal ?_
         refine then_normal ?_
         refine rg0_ hF hI (s_ [e_ 8 (.int .i64 (IntKind.i64.wrap (s1.1 + 1))), e_ 7 (.slice (((svO (svO sv0 2) ((a1 : Int).toNat * 1)) 0).1) ((rdA_St27 x0.Frames a1).Windows).length (((svO (svO sv0 2) ((a1 : Int).toNat * 1)) 0).2)), e_ 6 (.bool s1.2), e_ 3 (.pointer (some B_3)), e_ 1 (.int .i64 a1), e_ 2 (.int .i64 a2)] [((((kd_Window).cells (rd ((rdA_St27 x0.Frames a1).Windows) s1.1) sv_36).map EV.v), 157)]) (by kernel_rfl) (fun ns_88 a w_89 hI => ?_)
         refine then_normal ?_
         obtain rfl := Option.some.inj H1
         exact ⟨_, rfl, ⟨_, hI.pick [8, 7, 6, 3, 1, 2] 0 (s_ [e_ 8 (.int .i64 (IntKind.i64.wrap (s1.1 + 1))), e_ 7 (.slice (((svO (svO sv0 2) ((a1 : Int).toNat * 1)) 0).1) ((rdA_St27 x0.Frames a1).Windows).length (((svO (svO sv0 2) ((a1 : Int).toNat * 1)) 0).2)), e_ 6 (.bool s1.2), e_ 3 (.pointer (some B_3)), e_ 1 (.int .i64 a1), e_ 2 (.int .i64 a2)] []) (by kernel_rfl)⟩⟩
     ·replace H1 := bif_f hc_34 H1
      refine wpIn_exit ?_
      refine then_exit ?_
      refine then_exit ?_
      obtain rfl := Option.some.inj H1
      exact .inl ⟨_, rfl, rfl, ⟨_, hI.pick [8, 7, 6, 3, 1, 2] 0 (s_ [e_ 8 (.int .i64 s1.1), e_ 7 (.slice (((svO (svO sv0 2) ((a1 : Int).toNat * 1)) 0).1) ((rdA_St27 x0.Frames a1).Windows).length (((svO (svO sv0 2) ((a1 : Int).toNat * 1)) 0).2)), e_ 6 (.bool s1.2), e_ 3 (.pointer (some B_3)), e_ 1 (.int .i64 a1), e_ 2 (.int .i64 a2)] []) (by kernel_rfl)⟩⟩
    ·clear hI
     rintro s1 a w_92 ho ⟨ns_93, hI⟩
     subst ho
     replace H0 : (some false : Option (Bool)) = _ := H0
     refine then_normal ?_
     refine sr0_ hF hI (s_ [e_ 6 (.bool false)] []) (by kernel_rfl) (fun ns_94 a w_95 hI => ?_)
     refine wpIn_ret ?_
     obtain rfl := Option.some.inj H0
     exact ret1 hI rfl rfl ⟨rfl, hE.below hI⟩

noncomputable def G_ref07_Holds.b1 (x0 : Config) (a1 : Int) (s1 : Int × Bool) : Option (Stp (Int × Bool) (Ex (Int × Bool) (Bool))) := (bif decide (s1.1 < (x0.Parts.length : Int)) then (req (inb s1.1 x0.Parts.length) ((cal (!((((a1 == 2) && (((rd x0.Parts s1.1).Core) != 0)) && (((rd x0.Parts s1.1).Core) != 1)) || ((a1 == 3) && (decide (((rd x0.Parts s1.1).Private) < 0) || decide (((rd x0.Parts s1.1).Private) > 64)))) && (a1 == 17)) (G_ref07_window x0 s1.1) default).bind fun t_24 => (bif (((((a1 == 2) && (((rd x0.Parts s1.1).Core) != 0)) && (((rd x0.Parts s1.1).Core) != 1)) || ((a1 == 3) && (decide (((rd x0.Parts s1.1).Private) < 0) || decide (((rd x0.Parts s1.1).Private) > 64)))) || ((a1 == 17) && (!t_24))) then some (.out (.ret true)) else some (.next ((IntKind.i64.wrap (s1.1 + 1)), s1.2))))) else some (.out (.brk (s1.1, s1.2))))
noncomputable def G_ref07_Holds (x0 : Config) (a1 : Int) : Option (Bool) := (bif (a1 == 1) then some (decide ((x0.Parts.length : Int) < 1) || decide ((x0.Parts.length : Int) > 6)) else (bif (((a1 == 2) || (a1 == 3)) || (a1 == 17)) then ((loopω (G_ref07_Holds.b1 x0 a1) (0, false)).bind fun o => o.on (fun s1 => some false) (fun r => some r)) else (bif (a1 == 4) then some (decide ((x0.Chans.length : Int) > 8)) else (bif (decide (a1 ≥ 5) && decide (a1 ≤ 11)) then ((G_ref07_chans x0 a1).bind fun t_48 => some t_48) else (bif (decide (a1 ≥ 12) && decide (a1 ≤ 16)) then ((G_ref07_windows x0 0 a1).bind fun t_55 => ((cal (!t_55) (G_ref07_windows x0 1 a1) default).bind fun t_57 => some (t_55 || t_57))) else some false)))))
theorem G_ref07_Holds.calls (x0 : Config) (a1 : Int) (sv0 : SV) (w : World) {S : Nat → Prop} (hx0 : (kd_Config).cont S w x0 sv0) (r : Bool) (h : G_ref07_Holds x0 a1 = some r) :
    Calls Tryz.prog 91 #[.agg ((kd_Config).cells x0 sv0).toArray, .int .i64 a1] w fun e w' => e = .returned (.bool r) ∧ Below w.heap.size w w' := by
  replace hx0 := Kd.lo _ hx0
  unfold G_ref07_Holds at h
  have H0 := h
  clear h
  refine enter Tryz.func91 rfl [.agg ((kd_Config).cells x0 sv0).toArray, .int .i64 a1] (n := 111) rfl (Nat.le_of_ble_eq_true rfl) (fun a hI => ?_)
  have hF : FOpen Fence.wide := .inl rfl
  have hE := Ep.start w
  refine sr0_ hF hI (s_ [e_ 4 (.bool false), p_ 2 0 0, e_ 1 (.int .i64 a1)] [((((kd_Config).cells x0 sv0).map EV.v), 29)]) (by kernel_rfl) (fun ns_1 a w_2 hI => ?_)
  refine wpIn_seq ?_
  refine wpIn_block ?_
  refine sr0_ hF hI (s_ [e_ 7 (.bool (a1 == 1)), e_ 4 (.bool false), p_ 2 0 0, e_ 1 (.int .i64 a1)] [((((kd_Config).cells x0 sv0).map EV.v), 29)]) (by kernel_rfl) (fun ns_3 a w_4 hI => ?_)
  refine cond_ hI ((a1 == 1)) rfl (fun hc_5 => ?_) (fun hc_5 => ?_)
  ·replace H0 := bif_t hc_5 H0
   refine sr0_ hF hI (s_ [e_ 4 (.bool (decide ((x0.Parts.length : Int) < 1) || decide ((x0.Parts.length : Int) > 6)))] [((((kd_Config).cells x0 sv0).map EV.v), 29)]) (by kernel_rfl) (fun ns_6 a w_7 hI => ?_)
   refine wpIn_ret ?_
   refine inBlock_ret ?_
   refine then_ret ?_
   obtain rfl := Option.some.inj H0
   exact ret1 hI rfl rfl ⟨rfl, hE.below hI⟩
  ·replace H0 := bif_f hc_5 H0
   refine sr0_ hF hI (s_ [e_ 20 (.bool (((a1 == 2) || (a1 == 3)) || (a1 == 17))), e_ 4 (.bool false), p_ 2 0 0, e_ 1 (.int .i64 a1)] [((((kd_Config).cells x0 sv0).map EV.v), 29)]) (by kernel_rfl) (fun ns_8 a w_9 hI => ?_)
   refine cond_ hI ((((a1 == 2) || (a1 == 3)) || (a1 == 17))) rfl (fun hc_10 => ?_) (fun hc_10 => ?_)
   ·replace H0 := bif_t hc_10 H0
    refine sr0_ hF hI (s_ [e_ 5 (.int .i64 0), e_ 4 (.bool false), p_ 2 0 0, e_ 1 (.int .i64 a1)] [((((kd_Config).cells x0 sv0).map EV.v), 29)]) (by kernel_rfl) (fun ns_11 a w_12 hI => ?_)
    obtain ⟨o_33, hL_34, H0⟩ := bind_some H0
    refine block_loop (fun (s1 : Int × Bool) a w_39 => ∃ ns, St w [] 111 (s_ [e_ 5 (.int .i64 s1.1), e_ 4 (.bool s1.2), p_ 2 0 0, e_ 1 (.int .i64 a1)] [((((kd_Config).cells x0 sv0).map EV.v), 29)]) ns a w_39) (0, false) hL_34 ⟨_, hI.pick [5, 4, 2, 1] 1 (s_ [e_ 5 (.int .i64 0), e_ 4 (.bool false), p_ 2 0 0, e_ 1 (.int .i64 a1)] [((((kd_Config).cells x0 sv0).map EV.v), 29)]) (by kernel_rfl)⟩ ?_ ?_
    ·clear hI
     rintro s1 a w_13 ⟨ns_14, hI⟩ r1 H1
     unfold G_ref07_Holds.b1 at H1
     refine wpIn_seq ?_
     refine sr0_ hF hI (s_ [e_ 35 (.bool (decide (s1.1 < (x0.Parts.length : Int)))), e_ 5 (.int .i64 s1.1), e_ 4 (.bool s1.2), p_ 2 0 0, e_ 1 (.int .i64 a1)] [((((kd_Config).cells x0 sv0).map EV.v), 29)]) (by kernel_rfl) (fun ns_15 a w_16 hI => ?_)
     refine cond_ hI (decide (s1.1 < (x0.Parts.length : Int))) rfl (fun hc_17 => ?_) (fun hc_17 => ?_)
     ·replace H1 := bif_t hc_17 H1
      refine wpIn_skip ?_
      refine then_normal ?_
      refine wpIn_seq ?_
      refine wpIn_block ?_
      obtain ⟨hN_18, H1⟩ := req_some H1
      obtain ⟨sv_19, hE_21, hA_20⟩ := Arr.elB (d := kd_Part) hx0.1.1 s1.1 true (fun _ => hN_18)
      replace hE_21 := hE_21 rfl
      replace hA_20 := fun (_ : true = true) => hA_20 rfl
      refine sr_ (orc := [(kd_Part).cells (rd x0.Parts s1.1) sv_19]) hF hI (s_ [p_ 6 1 0, e_ 5 (.int .i64 s1.1), e_ 4 (.bool s1.2), p_ 2 0 0, e_ 1 (.int .i64 a1)] [((((kd_Config).cells x0 sv0).map EV.v), 29), ((((kd_Part).cells (rd x0.Parts s1.1) sv_19).map EV.v), 155)]) [.need true ((0 : Int) ≤ s1.1 ∧ s1.1 < (x0.Parts.length : Int)), .need true ((sv0 0).1 = some (adr ((sv0 0).1))), .cell true ((adr ((sv0 0).1)).add ((s1.1 : Int).toNat * 2)) ((kd_Part).cells (rd x0.Parts s1.1) sv_19)] (by kernel_rfl) ⟨ob_inb (fun _ => hN_18), hA_20, ob_el (fun _ => hE_21) 0 ((kd_Part).cells (rd x0.Parts s1.1) sv_19) rfl, trivial⟩ (fun ns_22 a w_23 hI => ?_)
      obtain ⟨t_24, hG_25, H1⟩ := bind_some H1
      refine sr_ (orc := [[.bool t_24]]) hF hI (s_ [e_ 78 (.bool (((((a1 == 2) && (((rd x0.Parts s1.1).Core) != 0)) && (((rd x0.Parts s1.1).Core) != 1)) || ((a1 == 3) && (decide (((rd x0.Parts s1.1).Private) < 0) || decide (((rd x0.Parts s1.1).Private) > 64)))) || ((a1 == 17) && (!t_24)))), e_ 5 (.int .i64 s1.1), e_ 4 (.bool s1.2), p_ 2 0 0, e_ 1 (.int .i64 a1)] [((((kd_Config).cells x0 sv0).map EV.v), 29), ((((kd_Part).cells (rd x0.Parts s1.1) sv_19).map EV.v), 155)]) [.call (!((((a1 == 2) && (((rd x0.Parts s1.1).Core) != 0)) && (((rd x0.Parts s1.1).Core) != 1)) || ((a1 == 3) && (decide (((rd x0.Parts s1.1).Private) < 0) || decide (((rd x0.Parts s1.1).Private) > 64)))) && (a1 == 17)) 133 [.agg ((kd_Config).cells x0 sv0).toArray, .int .i64 s1.1] (.bool t_24)] (by kernel_rfl) ⟨ob_call (enters Tryz.func133 (by kernel_rfl) rfl) (fun hg wz hk => G_ref07_window.calls x0 s1.1 sv0 wz (S := fun _ => True) (Kd.any _ (Kd.keep kd_Config (contI (S := Lo S w w [] []) (w := w) (d := kd_Config) (x := x0) (sv := sv0) ⟨⟨hx0.1.1, hx0.1.2⟩, ⟨hx0.2.1.1, hx0.2.1.2⟩, ⟨hx0.2.2.1.1, hx0.2.2.1.2⟩, ⟨hx0.2.2.2.1.1, hx0.2.2.2.1.2⟩, trivial⟩) (Lo.on hk))) _ (cal_some hG_25 hg)), trivial⟩ (fun ns_26 a w_27 hI => ?_)
      refine cond_ hI ((((((a1 == 2) && (((rd x0.Parts s1.1).Core) != 0)) && (((rd x0.Parts s1.1).Core) != 1)) || ((a1 == 3) && (decide (((rd x0.Parts s1.1).Private) < 0) || decide (((rd x0.Parts s1.1).Private) > 64)))) || ((a1 == 17) && (!t_24)))) rfl (fun hc_28 => ?_) (fun hc_28 => ?_)
      ·replace H1 := bif_t hc_28 H1
       refine sr0_ hF hI (s_ [e_ 4 (.bool true)] [((((kd_Config).cells x0 sv0).map EV.v), 29), ((((kd_Part).cells (rd x0.Parts s1.1) sv_19).map EV.v), 155)]) (by kernel_rfl) (fun ns_29 a w_30 hI => ?_)
       refine wpIn_ret ?_
       refine inBlock_ret ?_
       refine then_ret ?_
       refine then_ret ?_
       obtain rfl := Option.some.inj H1
       refine .inr ⟨_, rfl, fun ho => ?_⟩
       subst ho
       refine inBlock_ret ?_
       refine inBlock_ret ?_
       refine then_ret ?_
       obtain rfl := Option.some.inj H0
       exact ret1 hI rfl rfl ⟨rfl, hE.below hI⟩
      ·replace H1 := bif_f hc_28 H1
       refine wpIn_skip ?_
       refine inBlock_normal ?_
       refine then_normal ?_
       refine rg0_ hF hI (s_ [e_ 5 (.int .i64 (IntKind.i64.wrap (s1.1 + 1))), e_ 4 (.bool s1.2), p_ 2 0 0, e_ 1 (.int .i64 a1)] [((((kd_Config).cells x0 sv0).map EV.v), 29), ((((kd_Part).cells (rd x0.Parts s1.1) sv_19).map EV.v), 155)]) (by kernel_rfl) (fun ns_31 a w_32 hI => ?_)
       refine then_normal ?_
       obtain rfl := Option.some.inj H1
       exact ⟨_, rfl, ⟨_, hI.pick [5, 4, 2, 1] 1 (s_ [e_ 5 (.int .i64 (IntKind.i64.wrap (s1.1 + 1))), e_ 4 (.bool s1.2), p_ 2 0 0, e_ 1 (.int .i64 a1)] [((((kd_Config).cells x0 sv0).map EV.v), 29)]) (by kernel_rfl)⟩⟩
     ·replace H1 := bif_f hc_17 H1
      refine wpIn_exit ?_
      refine then_exit ?_
      refine then_exit ?_
      obtain rfl := Option.some.inj H1
      exact .inl ⟨_, rfl, rfl, ⟨_, hI.pick [5, 4, 2, 1] 1 (s_ [e_ 5 (.int .i64 s1.1), e_ 4 (.bool s1.2), p_ 2 0 0, e_ 1 (.int .i64 a1)] [((((kd_Config).cells x0 sv0).map EV.v), 29)]) (by kernel_rfl)⟩⟩
    ·clear hI
     rintro s1 a w_35 ho ⟨ns_36, hI⟩
     subst ho
     replace H0 : (some false : Option (Bool)) = _ := H0
     refine inBlock_normal ?_
     refine then_normal ?_
     refine sr0_ hF hI (s_ [e_ 4 (.bool false)] [((((kd_Config).cells x0 sv0).map EV.v), 29)]) (by kernel_rfl) (fun ns_37 a w_38 hI => ?_)
     refine wpIn_ret ?_
     obtain rfl := Option.some.inj H0
     exact ret1 hI rfl rfl ⟨rfl, hE.below hI⟩
   ·replace H0 := bif_f hc_10 H0
    refine sr0_ hF hI (s_ [e_ 79 (.bool (a1 == 4)), e_ 4 (.bool false), p_ 2 0 0, e_ 1 (.int .i64 a1)] [((((kd_Config).cells x0 sv0).map EV.v), 29)]) (by kernel_rfl) (fun ns_40 a w_41 hI => ?_)
    refine cond_ hI ((a1 == 4)) rfl (fun hc_42 => ?_) (fun hc_42 => ?_)
    ·replace H0 := bif_t hc_42 H0
     refine sr0_ hF hI (s_ [e_ 4 (.bool (decide ((x0.Chans.length : Int) > 8)))] [((((kd_Config).cells x0 sv0).map EV.v), 29)]) (by kernel_rfl) (fun ns_43 a w_44 hI => ?_)
     refine wpIn_ret ?_
     refine inBlock_ret ?_
     refine then_ret ?_
     obtain rfl := Option.some.inj H0
     exact ret1 hI rfl rfl ⟨rfl, hE.below hI⟩
    ·replace H0 := bif_f hc_42 H0
     refine sr0_ hF hI (s_ [e_ 86 (.bool (decide (a1 ≥ 5) && decide (a1 ≤ 11))), e_ 4 (.bool false), p_ 2 0 0, e_ 1 (.int .i64 a1)] [((((kd_Config).cells x0 sv0).map EV.v), 29)]) (by kernel_rfl) (fun ns_45 a w_46 hI => ?_)
     refine cond_ hI ((decide (a1 ≥ 5) && decide (a1 ≤ 11))) rfl (fun hc_47 => ?_) (fun hc_47 => ?_)
     ·replace H0 := bif_t hc_47 H0
      obtain ⟨t_48, hG_49, H0⟩ := bind_some H0
      refine sr_ (orc := [[.bool t_48]]) hF hI (s_ [e_ 4 (.bool t_48)] [((((kd_Config).cells x0 sv0).map EV.v), 29)]) [.call true 134 [.agg ((kd_Config).cells x0 sv0).toArray, .int .i64 a1] (.bool t_48)] (by kernel_rfl) ⟨ob_call (enters Tryz.func134 (by kernel_rfl) rfl) (fun hg wz hk => G_ref07_chans.calls x0 a1 sv0 wz (S := fun _ => True) (Kd.any _ (Kd.keep kd_Config (contI (S := Lo S w w [] []) (w := w) (d := kd_Config) (x := x0) (sv := sv0) ⟨⟨hx0.1.1, hx0.1.2⟩, ⟨hx0.2.1.1, hx0.2.1.2⟩, ⟨hx0.2.2.1.1, hx0.2.2.1.2⟩, ⟨hx0.2.2.2.1.1, hx0.2.2.2.1.2⟩, trivial⟩) (Lo.on hk))) _ hG_49), trivial⟩ (fun ns_50 a w_51 hI => ?_)
      refine wpIn_ret ?_
      refine inBlock_ret ?_
      refine then_ret ?_
      obtain rfl := Option.some.inj H0
      exact ret1 hI rfl rfl ⟨rfl, hE.below hI⟩
     ·replace H0 := bif_f hc_47 H0
      refine sr0_ hF hI (s_ [e_ 96 (.bool (decide (a1 ≥ 12) && decide (a1 ≤ 16))), e_ 4 (.bool false), p_ 2 0 0, e_ 1 (.int .i64 a1)] [((((kd_Config).cells x0 sv0).map EV.v), 29)]) (by kernel_rfl) (fun ns_52 a w_53 hI => ?_)
      refine cond_ hI ((decide (a1 ≥ 12) && decide (a1 ≤ 16))) rfl (fun hc_54 => ?_) (fun hc_54 => ?_)
      ·replace H0 := bif_t hc_54 H0
       obtain ⟨t_55, hG_56, H0⟩ := bind_some H0
       obtain ⟨t_57, hG_58, H0⟩ := bind_some H0
       refine sr_ (orc := [[.bool t_55], [.bool t_57]]) hF hI (s_ [e_ 4 (.bool (t_55 || t_57))] [((((kd_Config).cells x0 sv0).map EV.v), 29)]) [.call true 135 [.agg ((kd_Config).cells x0 sv0).toArray, .int .i64 0, .int .i64 a1] (.bool t_55), .call (!t_55) 135 [.agg ((kd_Config).cells x0 sv0).toArray, .int .i64 1, .int .i64 a1] (.bool t_57)] (by kernel_rfl) ⟨ob_call (enters Tryz.func135 (by kernel_rfl) rfl) (fun hg wz hk => G_ref07_windows.calls x0 0 a1 sv0 wz (S := fun _ => True) (Kd.any _ (Kd.keep kd_Config (contI (S := Lo S w w [] []) (w := w) (d := kd_Config) (x := x0) (sv := sv0) ⟨⟨hx0.1.1, hx0.1.2⟩, ⟨hx0.2.1.1, hx0.2.1.2⟩, ⟨hx0.2.2.1.1, hx0.2.2.1.2⟩, ⟨hx0.2.2.2.1.1, hx0.2.2.2.1.2⟩, trivial⟩) (Lo.on hk))) _ hG_56), ob_call (enters Tryz.func135 (by kernel_rfl) rfl) (fun hg wz hk => G_ref07_windows.calls x0 1 a1 sv0 wz (S := fun _ => True) (Kd.any _ (Kd.keep kd_Config (contI (S := Lo S w w [] []) (w := w) (d := kd_Config) (x := x0) (sv := sv0) ⟨⟨hx0.1.1, hx0.1.2⟩, ⟨hx0.2.1.1, hx0.2.1.2⟩, ⟨hx0.2.2.1.1, hx0.2.2.1.2⟩, ⟨hx0.2.2.2.1.1, hx0.2.2.2.1.2⟩, trivial⟩) (Lo.on hk))) _ (cal_some hG_58 hg)), trivial⟩ (fun ns_59 a w_60 hI => ?_)
       refine wpIn_ret ?_
       refine inBlock_ret ?_
       refine then_ret ?_
       obtain rfl := Option.some.inj H0
       exact ret1 hI rfl rfl ⟨rfl, hE.below hI⟩
      ·replace H0 := bif_f hc_54 H0
       refine wpIn_skip ?_
       refine inBlock_normal ?_
       refine then_normal ?_
       refine sr0_ hF hI (s_ [e_ 4 (.bool false)] [((((kd_Config).cells x0 sv0).map EV.v), 29)]) (by kernel_rfl) (fun ns_61 a w_62 hI => ?_)
       refine wpIn_ret ?_
       obtain rfl := Option.some.inj H0
       exact ret1 hI rfl rfl ⟨rfl, hE.below hI⟩

noncomputable def G_ref07_All.b1 (x0 : Config) (s1 : Int × (List Int)) : Option (Stp (Int × (List Int)) (Ex (Int × (List Int)) ((List Int)))) := (bif decide (s1.1 ≤ 17) then ((G_ref07_Holds x0 s1.1).bind fun t_16 => (bif t_16 then (req (decide ((s1.2.length + 1) * 8 ≤ 140737488355328)) (some (.next ((IntKind.i64.wrap (s1.1 + 1)), (s1.2 ++ [s1.1]))))) else some (.next ((IntKind.i64.wrap (s1.1 + 1)), s1.2)))) else some (.out (.brk (s1.1, s1.2))))
noncomputable def G_ref07_All (x0 : Config) : Option ((List Int)) := ((loopω (G_ref07_All.b1 x0) (1, ([] : List Int))).bind fun o => o.on (fun s1 => some s1.2) (fun r => some r))
theorem G_ref07_All.calls (x0 : Config) (sv0 : SV) (w : World) {S : Nat → Prop} (hx0 : (kd_Config).cont S w x0 sv0) (r : (List Int)) (h : G_ref07_All x0 = some r) :
    Calls Tryz.prog 52 #[.agg ((kd_Config).cells x0 sv0).toArray] w fun e w' => ∃ sv : SV, e = .returned (.slice ((sv 0).1) r.length ((sv 0).2)) ∧ Below w.heap.size w w' ∧ (Arr (Kd.int .i64) (fun b => w.heap.size ≤ b ∨ S b) w' (sv 0).1 r ∧ r.length ≤ (sv 0).2) := by
  replace hx0 := Kd.lo _ hx0
  unfold G_ref07_All at h
  have H0 := h
  clear h
  refine enter Tryz.func52 rfl [.agg ((kd_Config).cells x0 sv0).toArray] (n := 17) rfl (Nat.le_of_ble_eq_true rfl) (fun a hI => ?_)
  have hF : FOpen Fence.wide := .inl rfl
  have hE := Ep.start w
  refine sr0_ hF hI (s_ [e_ 2 (.slice none 0 0), p_ 1 0 0] [((((kd_Config).cells x0 sv0).map EV.v), 29)]) (by kernel_rfl) (fun ns_1 a w_2 hI => ?_)
  refine sr0_ hF hI (s_ [e_ 3 (.slice none 0 0), e_ 2 (.slice none 0 0), p_ 1 0 0] [((((kd_Config).cells x0 sv0).map EV.v), 29)]) (by kernel_rfl) (fun ns_3 a w_4 hI => ?_)
  refine wpIn_seq ?_
  refine sr0_ hF hI (s_ [e_ 4 (.int .i64 1), e_ 3 (.slice none 0 0), e_ 2 (.slice none 0 0), p_ 1 0 0] [((((kd_Config).cells x0 sv0).map EV.v), 29)]) (by kernel_rfl) (fun ns_5 a w_6 hI => ?_)
  obtain ⟨hE', hmv, hmr⟩ := Ep.rebase hE hI
  replace hx0 := Kd.keep _ hx0 (hmv _)
  replace hE := hE'; replace hI := hI.rebase; clear hE' hmv hmr
  obtain ⟨hE', hmv⟩ := Ep.addNil hE
  have hmr := hmr_ ([] : List (List Nat)) w_6
  replace hx0 := Kd.keep _ hx0 (hmv _)
  replace hE := hE'
  clear hE' hmv hmr
  have hq_7 : Row (Kd.int .i64) 3 (Lo S w w_6 ns_5 [rb none]) w_6 w.heap.size none 0 ([] : List Int) := Row.nil
  obtain ⟨o_37, hL_38, H0⟩ := bind_some H0
  refine block_loop (fun (s1 : Int × (List Int)) a w_45 => ∃ (ow ns : List Nat) (A_8 : Option Addr) (c_9 : Nat), ((kd_Config).cont (Lo S w w_45 ow [rb A_8]) w_45 x0 sv0) ∧ (Row (Kd.int .i64) 3 (Lo S w w_45 ow [rb A_8]) w_45 w.heap.size A_8 c_9 s1.2) ∧ Ep [] w w_45 ow [rb A_8] ∧ St w_45 ow 17 (s_ [e_ 4 (.int .i64 s1.1), e_ 3 (.slice A_8 s1.2.length c_9), e_ 2 (.slice none 0 0), p_ 1 0 0] [((((kd_Config).cells x0 sv0).map EV.v), 29)]) ns a w_45) (1, ([] : List Int)) hL_38 ⟨_, _, _, _, hx0, hq_7, hE, hI.pick [4, 3, 2, 1] 1 (s_ [e_ 4 (.int .i64 1), e_ 3 (.slice none ([] : List Int).length 0), e_ 2 (.slice none 0 0), p_ 1 0 0] [((((kd_Config).cells x0 sv0).map EV.v), 29)]) (by kernel_rfl)⟩ ?_ ?_
  ·clear hI hE
   rintro s1 a w_10 ⟨ow_12, ns_11, A_8, c_9, hx0, hq_7, hE, hI⟩ r1 H1
   unfold G_ref07_All.b1 at H1
   refine wpIn_seq ?_
   refine sr0_ hF hI (s_ [e_ 6 (.bool (decide (s1.1 ≤ 17))), e_ 4 (.int .i64 s1.1), e_ 3 (.slice A_8 s1.2.length c_9), e_ 2 (.slice none 0 0), p_ 1 0 0] [((((kd_Config).cells x0 sv0).map EV.v), 29)]) (by kernel_rfl) (fun ns_13 a w_14 hI => ?_)
   refine cond_ hI (decide (s1.1 ≤ 17)) rfl (fun hc_15 => ?_) (fun hc_15 => ?_)
   ·replace H1 := bif_t hc_15 H1
    refine wpIn_skip ?_
    refine then_normal ?_
    refine wpIn_seq ?_
    refine wpIn_block ?_
    obtain ⟨t_16, hG_17, H1⟩ := bind_some H1
    refine sr_ (orc := [[.bool t_16]]) hF hI (s_ [e_ 11 (.bool t_16), e_ 4 (.int .i64 s1.1), e_ 3 (.slice A_8 s1.2.length c_9), e_ 2 (.slice none 0 0), p_ 1 0 0] [((((kd_Config).cells x0 sv0).map EV.v), 29)]) [.call true 91 [.agg ((kd_Config).cells x0 sv0).toArray, .int .i64 s1.1] (.bool t_16)] (by kernel_rfl) ⟨ob_call (enters Tryz.func91 (by kernel_rfl) rfl) (fun hg wz hk => G_ref07_Holds.calls x0 s1.1 sv0 wz (S := fun _ => True) (Kd.any _ (Kd.keep kd_Config (contI (S := Lo S w w_10 ow_12 [rb A_8]) (w := w_10) (d := kd_Config) (x := x0) (sv := sv0) ⟨⟨hx0.1.1, hx0.1.2⟩, ⟨hx0.2.1.1, hx0.2.1.2⟩, ⟨hx0.2.2.1.1, hx0.2.2.1.2⟩, ⟨hx0.2.2.2.1.1, hx0.2.2.2.1.2⟩, trivial⟩) (Lo.on hk))) _ hG_17), trivial⟩ (fun ns_18 a w_19 hI => ?_)
    refine cond_ hI (t_16) rfl (fun hc_20 => ?_) (fun hc_20 => ?_)
    ·replace H1 := bif_t hc_20 H1
     refine wpIn_region_lit ?_
     refine ck0_ hF 2 hI (s_ [e_ 13 (.int .i64 s1.1), e_ 12 (.slice A_8 s1.2.length c_9), e_ 4 (.int .i64 s1.1), e_ 3 (.slice A_8 s1.2.length c_9), e_ 2 (.slice none 0 0), p_ 1 0 0] [((((kd_Config).cells x0 sv0).map EV.v), 29)]) rfl (by kernel_rfl) (fun ns_21 a w_22 hI => ?_)
     obtain ⟨hE', hmv, hmr⟩ := Ep.rebase hE hI
     replace hx0 := Kd.keep _ hx0 (hmv _)
     replace hq_7 := Row.keep hq_7 (hmv _) (fun b hb => hmr b (by simp [hb]))
     replace hE := hE'; replace hI := hI.rebase; clear hE' hmv hmr
     refine buildSlice_ (S0 := S) (d := (Kd.int .i64)) (e := 3) hF hE hI (wanted_none rfl) rfl (by kernel_rfl) (cs := [.int .i64 s1.1]) (by kernel_rfl) [s1.1] [(svL [])] rfl rfl (by simp [maxLen]) (fun i x hi => by cases i with | zero => (simp only [List.getElem?_cons_zero, Option.some.injEq] at hi; subst hi; exact ⟨trivial, rfl⟩) | succ i => (simp only [List.getElem?_cons_succ] at hi; simp at hi)) (fun A_23 => (s_ [e_ 14 (.slice A_23 ([s1.1] : List Int).length (([s1.1] : List Int).length)), e_ 13 (.int .i64 s1.1), e_ 12 (.slice A_8 s1.2.length c_9), e_ 4 (.int .i64 s1.1), e_ 3 (.slice A_8 s1.2.length c_9), e_ 2 (.slice none 0 0), p_ 1 0 0] [((((kd_Config).cells x0 sv0).map EV.v), 29)])) (fun A_23 => by kernel_rfl) (fun A_23 a w_25 hput hE' hI' hmv hmr hq_24 => ?_)
     replace hx0 := Kd.keep _ hx0 (hmv _)
     replace hq_7 := Row.keep hq_7 (hmv _) (fun b hb => hmr b (by simp [hb]) (by simp))
     replace hE := hE'; replace hI := hI'; clear hE' hI' hmv hmr
     obtain ⟨hE', hmv, hq_24, hcap_26⟩ := Row.still (l1 := [rb A_8]) (l2 := []) hq_24 (Nat.le_refl _) hE
     have hmr := hmr_ ([rb A_8, rb A_23] : List (List Nat)) w_25
     replace hx0 := Kd.keep _ hx0 (hmv _)
     replace hq_7 := Row.keep hq_7 (hmv _) (fun b hb => hmr b (by simp [hb]))
     replace hE := hE'
     clear hE' hmv hmr
     obtain ⟨hN_27, H1⟩ := req_some H1
     replace hN_27 := of_decide_eq_true hN_27
     refine append_ (S0 := S) (l1 := []) (l2 := []) (d := (Kd.int .i64)) (e := 3) hF hE hI (wanted_none rfl) rfl (A := A_8) (c := c_9) (l := s1.2) rfl (A2 := A_23) (c2 := (([s1.1] : List Int).length)) rfl hq_7 hq_24 (fun sv u hu => by exact kd_one_int _ sv u hu) Tryz.underlying53 (zi := (.int .i64 0, 1, 8)) (by kernel_rfl) rfl (by kernel_rfl) (len_max (by decide) hN_27) hN_27 (fun A_28 c_29 => (s_ [e_ 15 (.slice A_28 (s1.2 ++ [s1.1]).length c_29), e_ 14 (.slice A_23 ([s1.1] : List Int).length (([s1.1] : List Int).length)), e_ 13 (.int .i64 s1.1), e_ 12 (.slice A_8 s1.2.length c_9), e_ 4 (.int .i64 s1.1), e_ 3 (.slice A_8 s1.2.length c_9), e_ 2 (.slice none 0 0), p_ 1 0 0] [((((kd_Config).cells x0 sv0).map EV.v), 29)])) (fun A_28 c_29 => by kernel_rfl) (fun A_28 c_29 a w_30 hput hE' hI' hmv hmr hq_7 => ?_)
     replace hx0 := Kd.keep _ hx0 (hmv _)
     replace hq_24 := Arr.keep hq_24 (hmv _)
     replace hE := hE'; replace hI := hI'; clear hE' hI' hmv hmr
     refine ck0_ hF 1 hI (s_ [e_ 3 (.slice A_28 (s1.2 ++ [s1.1]).length c_29), e_ 4 (.int .i64 s1.1), e_ 2 (.slice none 0 0), p_ 1 0 0] [((((kd_Config).cells x0 sv0).map EV.v), 29)]) rfl (by kernel_rfl) (fun ns_31 a w_32 hI => ?_)
     refine wpListIn_nil ?_
     refine inBlock_normal ?_
     refine then_normal ?_
     refine rg0_ hF hI (s_ [e_ 4 (.int .i64 (IntKind.i64.wrap (s1.1 + 1))), e_ 3 (.slice A_28 (s1.2 ++ [s1.1]).length c_29), e_ 2 (.slice none 0 0), p_ 1 0 0] [((((kd_Config).cells x0 sv0).map EV.v), 29)]) (by kernel_rfl) (fun ns_33 a w_34 hI => ?_)
     refine then_normal ?_
     obtain ⟨hE', hmv, hmr⟩ := Ep.rebase hE hI
     replace hx0 := Kd.keep _ hx0 (hmv _)
     replace hq_24 := Arr.keep hq_24 (hmv _)
     replace hq_7 := Row.keep hq_7 (hmv _) (fun b hb => hmr b (by simp [hb]))
     replace hE := hE'; replace hI := hI.rebase; clear hE' hmv hmr
     obtain rfl := Option.some.inj H1
     exact ⟨_, rfl, ⟨_, _, _, _, hx0, hq_7, hE, hI.pick [4, 3, 2, 1] 1 (s_ [e_ 4 (.int .i64 (IntKind.i64.wrap (s1.1 + 1))), e_ 3 (.slice A_28 (s1.2 ++ [s1.1]).length c_29), e_ 2 (.slice none 0 0), p_ 1 0 0] [((((kd_Config).cells x0 sv0).map EV.v), 29)]) (by kernel_rfl)⟩⟩
    ·replace H1 := bif_f hc_20 H1
     refine wpIn_skip ?_
     refine inBlock_normal ?_
     refine then_normal ?_
     refine rg0_ hF hI (s_ [e_ 4 (.int .i64 (IntKind.i64.wrap (s1.1 + 1))), e_ 3 (.slice A_8 s1.2.length c_9), e_ 2 (.slice none 0 0), p_ 1 0 0] [((((kd_Config).cells x0 sv0).map EV.v), 29)]) (by kernel_rfl) (fun ns_35 a w_36 hI => ?_)
     refine then_normal ?_
     obtain ⟨hE', hmv, hmr⟩ := Ep.rebase hE hI
     replace hx0 := Kd.keep _ hx0 (hmv _)
     replace hq_7 := Row.keep hq_7 (hmv _) (fun b hb => hmr b (by simp [hb]))
     replace hE := hE'; replace hI := hI.rebase; clear hE' hmv hmr
     obtain rfl := Option.some.inj H1
     exact ⟨_, rfl, ⟨_, _, _, _, hx0, hq_7, hE, hI.pick [4, 3, 2, 1] 1 (s_ [e_ 4 (.int .i64 (IntKind.i64.wrap (s1.1 + 1))), e_ 3 (.slice A_8 s1.2.length c_9), e_ 2 (.slice none 0 0), p_ 1 0 0] [((((kd_Config).cells x0 sv0).map EV.v), 29)]) (by kernel_rfl)⟩⟩
   ·replace H1 := bif_f hc_15 H1
    refine wpIn_exit ?_
    refine then_exit ?_
    refine then_exit ?_
    obtain ⟨hE', hmv, hmr⟩ := Ep.rebase hE hI
    replace hx0 := Kd.keep _ hx0 (hmv _)
    replace hq_7 := Row.keep hq_7 (hmv _) (fun b hb => hmr b (by simp [hb]))
    replace hE := hE'; replace hI := hI.rebase; clear hE' hmv hmr
    obtain rfl := Option.some.inj H1
    exact .inl ⟨_, rfl, rfl, ⟨_, _, _, _, hx0, hq_7, hE, hI.pick [4, 3, 2, 1] 1 (s_ [e_ 4 (.int .i64 s1.1), e_ 3 (.slice A_8 s1.2.length c_9), e_ 2 (.slice none 0 0), p_ 1 0 0] [((((kd_Config).cells x0 sv0).map EV.v), 29)]) (by kernel_rfl)⟩⟩
  ·clear hI hE
   rintro s1 a w_39 ho ⟨ow_41, ns_40, A_8, c_9, hx0, hq_7, hE, hI⟩
   subst ho
   replace H0 : (some s1.2 : Option ((List Int))) = _ := H0
   refine then_normal ?_
   refine sr0_ hF hI (s_ [e_ 2 (.slice A_8 s1.2.length c_9)] [((((kd_Config).cells x0 sv0).map EV.v), 29)]) (by kernel_rfl) (fun ns_42 a w_43 hI => ?_)
   obtain ⟨hE', hmv, hmr⟩ := Ep.rebase hE hI
   replace hx0 := Kd.keep _ hx0 (hmv _)
   replace hq_7 := Row.keep hq_7 (hmv _) (fun b hb => hmr b (by simp [hb]))
   replace hE := hE'; replace hI := hI.rebase; clear hE' hmv hmr
   obtain ⟨hE', hmv, hq_7, hcap_44⟩ := Row.still (l1 := []) (l2 := []) hq_7 (Nat.le_refl _) hE
   have hmr := hmr_ ([rb A_8] : List (List Nat)) w_43
   replace hx0 := Kd.keep _ hx0 (hmv _)
   replace hE := hE'
   clear hE' hmv hmr
   refine wpIn_ret ?_
   obtain rfl := Option.some.inj H0
   exact ret1 hI rfl rfl ⟨svL [(A_8, c_9)], rfl, hE.below hI, ⟨Arr.keep hq_7 (hE.out hI), hcap_44⟩⟩

noncomputable def G_ref07_Accepts (x0 : Config) : Option (Bool) := ((G_ref07_All x0).bind fun t_5 => some ((t_5.length : Int) == 0))
theorem G_ref07_Accepts.calls (x0 : Config) (sv0 : SV) (w : World) {S : Nat → Prop} (hx0 : (kd_Config).cont S w x0 sv0) (r : Bool) (h : G_ref07_Accepts x0 = some r) :
    Calls Tryz.prog 16 #[.agg ((kd_Config).cells x0 sv0).toArray] w fun e w' => e = .returned (.bool r) ∧ Below w.heap.size w w' := by
  replace hx0 := Kd.lo _ hx0
  unfold G_ref07_Accepts at h
  have H0 := h
  clear h
  refine enter Tryz.func16 rfl [.agg ((kd_Config).cells x0 sv0).toArray] (n := 7) rfl (Nat.le_of_ble_eq_true rfl) (fun a hI => ?_)
  have hF : FOpen Fence.wide := .inl rfl
  have hE := Ep.start w
  refine sr0_ hF hI (s_ [e_ 2 (.bool false), p_ 1 0 0] [((((kd_Config).cells x0 sv0).map EV.v), 29)]) (by kernel_rfl) (fun ns_1 a w_2 hI => ?_)
  refine wpIn_seq ?_
  refine wpIn_region_lit ?_
  refine ck0_ hF 1 hI (s_ [e_ 3 (.agg ((kd_Config).cells x0 sv0).toArray), e_ 2 (.bool false)] [((((kd_Config).cells x0 sv0).map EV.v), 29)]) rfl (by kernel_rfl) (fun ns_3 a w_4 hI => ?_)
  obtain ⟨hE', hmv, hmr⟩ := Ep.rebase hE hI
  replace hx0 := Kd.keep _ hx0 (hmv _)
  replace hE := hE'; replace hI := hI.rebase; clear hE' hmv hmr
  obtain ⟨t_5, hG_6, H0⟩ := bind_some H0
  refine callH_ hF hE hI (wanted_none rfl) rfl (args := [.agg ((kd_Config).cells x0 sv0).toArray]) rfl (enters Tryz.func52 (by kernel_rfl) rfl) (fun sv_7 => .slice ((sv_7 0).1) t_5.length ((sv_7 0).2)) _ (G_ref07_All.calls x0 sv0 w_4 (S := Lo S w w_4 ns_3 []) (contI (S := Lo S w w_4 ns_3 []) (w := w_4) (d := kd_Config) (x := x0) (sv := sv0) ⟨⟨hx0.1.1, hx0.1.2⟩, ⟨hx0.2.1.1, hx0.2.1.2⟩, ⟨hx0.2.2.1.1, hx0.2.2.1.2⟩, ⟨hx0.2.2.2.1.1, hx0.2.2.2.1.2⟩, trivial⟩) _ hG_6) (fun sv_7 => (s_ [e_ 4 (.slice ((sv_7 0).1) t_5.length ((sv_7 0).2)), e_ 3 (.agg ((kd_Config).cells x0 sv0).toArray), e_ 2 (.bool false)] [((((kd_Config).cells x0 sv0).map EV.v), 29)])) (fun sv_7 => by kernel_rfl) (fun sv_7 a w_9 hput hE' hI' hmv hmr hres hR => ?_)
  replace hx0 := Kd.keep _ hx0 (hmv _)
  replace hE := hE'; replace hI := hI'; clear hE' hI' hmv hmr
  obtain ⟨hR_8, hR_8c⟩ := hR
  replace hR_8 := Arr.keep hR_8 (hres _)
  clear hres
  refine ck0_ hF 3 hI (s_ [e_ 2 (.bool ((t_5.length : Int) == 0))] [((((kd_Config).cells x0 sv0).map EV.v), 29)]) rfl (by kernel_rfl) (fun ns_10 a w_11 hI => ?_)
  refine wpListIn_nil ?_
  refine then_normal ?_
  refine wpIn_ret ?_
  obtain rfl := Option.some.inj H0
  exact ret1 hI rfl rfl ⟨rfl, hE.below hI⟩

noncomputable def G_ref08_source (x0 : Chan) : Option (Int) := (bif (x0.Kind == 1) then some (IntKind.i64.wrap (11 + (IntKind.i64.wrap (4 * x0.Words)))) else some (IntKind.i64.wrap ((IntKind.i64.wrap (1 + x0.Depth)) + (IntKind.i64.wrap (x0.Depth * x0.Words)))))
theorem G_ref08_source.calls (x0 : Chan) (sv0 : SV) (w : World) {S : Nat → Prop} (hx0 : (kd_Chan).cont S w x0 sv0) (r : Int) (h : G_ref08_source x0 = some r) :
    Calls Tryz.prog 126 #[.agg ((kd_Chan).cells x0 sv0).toArray] w fun e w' => e = .returned (.int .i64 r) ∧ Below w.heap.size w w' := by
  replace hx0 := Kd.lo _ hx0
  unfold G_ref08_source at h
  have H0 := h
  clear h
  refine enter Tryz.func126 rfl [.agg ((kd_Chan).cells x0 sv0).toArray] (n := 19) rfl (Nat.le_of_ble_eq_true rfl) (fun a hI => ?_)
  have hF : FOpen Fence.wide := .inl rfl
  have hE := Ep.start w
  refine sr0_ hF hI (s_ [e_ 2 (.int .i64 0), p_ 1 0 0] [((((kd_Chan).cells x0 sv0).map EV.v), 86)]) (by kernel_rfl) (fun ns_1 a w_2 hI => ?_)
  refine wpIn_seq ?_
  refine sr0_ hF hI (s_ [e_ 5 (.bool (x0.Kind == 1)), e_ 2 (.int .i64 0), p_ 1 0 0] [((((kd_Chan).cells x0 sv0).map EV.v), 86)]) (by kernel_rfl) (fun ns_3 a w_4 hI => ?_)
  refine cond_ hI ((x0.Kind == 1)) rfl (fun hc_5 => ?_) (fun hc_5 => ?_)
  ·replace H0 := bif_t hc_5 H0
   refine sr0_ hF hI (s_ [e_ 2 (.int .i64 (IntKind.i64.wrap (11 + (IntKind.i64.wrap (4 * x0.Words)))))] [((((kd_Chan).cells x0 sv0).map EV.v), 86)]) (by kernel_rfl) (fun ns_6 a w_7 hI => ?_)
   refine wpIn_ret ?_
   refine then_ret ?_
   obtain rfl := Option.some.inj H0
   exact ret1 hI rfl rfl ⟨rfl, hE.below hI⟩
  ·replace H0 := bif_f hc_5 H0
   refine wpIn_skip ?_
   refine then_normal ?_
   refine sr0_ hF hI (s_ [e_ 2 (.int .i64 (IntKind.i64.wrap ((IntKind.i64.wrap (1 + x0.Depth)) + (IntKind.i64.wrap (x0.Depth * x0.Words)))))] [((((kd_Chan).cells x0 sv0).map EV.v), 86)]) (by kernel_rfl) (fun ns_8 a w_9 hI => ?_)
   refine wpIn_ret ?_
   obtain rfl := Option.some.inj H0
   exact ret1 hI rfl rfl ⟨rfl, hE.below hI⟩

end Go.Proofs.YtiiidfgdejfhhaaGreatDoor
