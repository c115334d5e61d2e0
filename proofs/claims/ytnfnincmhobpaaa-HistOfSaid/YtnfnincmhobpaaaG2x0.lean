import Derived.Test.YtnfnincmhobpaaaProg
import Derived.Test.YtnfnincmhobpaaaEng
set_option linter.unusedVariables false
set_option linter.unusedSimpArgs false
namespace Go.Proofs.Ytnfnincmhobpaaa
open Go Go.RowKit Go.Eng Go.Proofs

structure St23 where
  e0 : Int
  e1 : Int
  e2 : Int
  e3 : Int
  deriving Inhabited, DecidableEq
def kd_St23 : Kd St23 := ⟨4, fun x sv => [.int .u32 x.e0, .int .u32 x.e1, .int .u32 x.e2, .int .u32 x.e3], fun S w x sv => True, fun _ _ => rfl, Nat.le_of_ble_eq_true rfl, fun h hk => trivial⟩
theorem kd_one_St23 (x : St23) (sv : SV) (u : Value) (hu : u ∈ kd_St23.cells x sv) : u.oneCell' = true := by
  simp only [kd_St23, List.mem_cons, List.not_mem_nil, or_false] at hu
  rcases hu with rfl | rfl | rfl | rfl
  all_goals rfl
structure Request where
  Op : Int
  Port : Int
  Addr : Int
  Data : (List Int)
  deriving Inhabited, DecidableEq
def kd_Request : Kd Request := ⟨4, fun x sv => [.int .i64 x.Op, .int .i64 x.Port, .int .u64 x.Addr, .slice (sv 0).1 x.Data.length (sv 0).2], fun S w x sv => (Arr (Kd.int .u32) S w (sv 0).1 x.Data ∧ x.Data.length ≤ (sv 0).2) ∧ True, fun _ _ => rfl, Nat.le_of_ble_eq_true rfl, fun h hk => ⟨⟨h.1.1.keep hk, h.1.2⟩, trivial⟩⟩
theorem kd_one_Request (x : Request) (sv : SV) (u : Value) (hu : u ∈ kd_Request.cells x sv) : u.oneCell' = true := by
  simp only [kd_Request, List.mem_cons, List.not_mem_nil, or_false] at hu
  rcases hu with rfl | rfl | rfl | rfl
  all_goals rfl
structure Answer where
  Code : Int
  Data : (List Int)
  Valid : Bool
  Count : Int
  deriving Inhabited, DecidableEq
def kd_Answer : Kd Answer := ⟨4, fun x sv => [.int .i64 x.Code, .slice (sv 0).1 x.Data.length (sv 0).2, .bool x.Valid, .int .i64 x.Count], fun S w x sv => (Arr (Kd.int .u32) S w (sv 0).1 x.Data ∧ x.Data.length ≤ (sv 0).2) ∧ True, fun _ _ => rfl, Nat.le_of_ble_eq_true rfl, fun h hk => ⟨⟨h.1.1.keep hk, h.1.2⟩, trivial⟩⟩
theorem kd_one_Answer (x : Answer) (sv : SV) (u : Value) (hu : u ∈ kd_Answer.cells x sv) : u.oneCell' = true := by
  simp only [kd_Answer, List.mem_cons, List.not_mem_nil, or_false] at hu
  rcases hu with rfl | rfl | rfl | rfl
  all_goals rfl
structure Call where
  Part : Int
  Req : Request
  Ans : Answer
  Done : Bool
  From : Int
  To : Int
  T0 : Int
  T1 : Int
  Own0 : Int
  Own1 : Int
  Mark : Int
  Ring : Int
  Stamp : Int
  Saw : Int
  deriving Inhabited, DecidableEq
def kd_Call : Kd Call := ⟨20, fun x sv => [.int .i64 x.Part, .int .i64 x.Req.Op, .int .i64 x.Req.Port, .int .u64 x.Req.Addr, .slice (sv 0).1 x.Req.Data.length (sv 0).2, .int .i64 x.Ans.Code, .slice (sv 1).1 x.Ans.Data.length (sv 1).2, .bool x.Ans.Valid, .int .i64 x.Ans.Count, .bool x.Done, .int .i64 x.From, .int .i64 x.To, .int .i64 x.T0, .int .i64 x.T1, .int .i64 x.Own0, .int .i64 x.Own1, .int .i64 x.Mark, .int .i64 x.Ring, .int .i64 x.Stamp, .int .i64 x.Saw], fun S w x sv => (Arr (Kd.int .u32) S w (sv 0).1 x.Req.Data ∧ x.Req.Data.length ≤ (sv 0).2) ∧ (Arr (Kd.int .u32) S w (sv 1).1 x.Ans.Data ∧ x.Ans.Data.length ≤ (sv 1).2) ∧ True, fun _ _ => rfl, Nat.le_of_ble_eq_true rfl, fun h hk => ⟨⟨h.1.1.keep hk, h.1.2⟩, ⟨h.2.1.1.keep hk, h.2.1.2⟩, trivial⟩⟩
theorem kd_one_Call (x : Call) (sv : SV) (u : Value) (hu : u ∈ kd_Call.cells x sv) : u.oneCell' = true := by
  simp only [kd_Call, List.mem_cons, List.not_mem_nil, or_false] at hu
  rcases hu with rfl | rfl | rfl | rfl | rfl | rfl | rfl | rfl | rfl | rfl | rfl | rfl | rfl | rfl | rfl | rfl | rfl | rfl | rfl | rfl
  all_goals rfl
structure Portholeref17_Spot where
  At : Int
  Behind : Bool
  Is : Bool
  deriving Inhabited, DecidableEq
def kd_Portholeref17_Spot : Kd Portholeref17_Spot := ⟨3, fun x sv => [.int .i64 x.At, .bool x.Behind, .bool x.Is], fun S w x sv => True, fun _ _ => rfl, Nat.le_of_ble_eq_true rfl, fun h hk => trivial⟩
theorem kd_one_Portholeref17_Spot (x : Portholeref17_Spot) (sv : SV) (u : Value) (hu : u ∈ kd_Portholeref17_Spot.cells x sv) : u.oneCell' = true := by
  simp only [kd_Portholeref17_Spot, List.mem_cons, List.not_mem_nil, or_false] at hu
  rcases hu with rfl | rfl | rfl
  all_goals rfl

def wf_St23 (x : St23) : Prop := (InK .u32) x.e0 ∧ (InK .u32) x.e1 ∧ (InK .u32) x.e2 ∧ (InK .u32) x.e3
theorem op_St23 : Opn Try.prog 23 kd_St23 wf_St23 := by
  refine ⟨by kernel_rfl, fun h => ?_⟩
  obtain ⟨xs, m, _, _, hlen, hxs, hf⟩ := DataW.trod_array Try.underlying23 h
  obtain ⟨v0, s0, c0, k0, w0⟩ := opn_elem hf hxs 0 (by decide) (Opn.int Try.underlying22 (by kernel_rfl))
  obtain ⟨v1, s1, c1, k1, w1⟩ := opn_elem hf hxs 1 (by decide) (Opn.int Try.underlying22 (by kernel_rfl))
  obtain ⟨v2, s2, c2, k2, w2⟩ := opn_elem hf hxs 2 (by decide) (Opn.int Try.underlying22 (by kernel_rfl))
  obtain ⟨v3, s3, c3, k3, w3⟩ := opn_elem hf hxs 3 (by decide) (Opn.int Try.underlying22 (by kernel_rfl))
  exact ⟨⟨v0, v1, v2, v3⟩, svL [], (pieces_eq [1, 1, 1, 1] hlen (by kernel_rfl)).trans (app2 c0 (app2 c1 (app2 c2 (app2 c3 rfl)))), trivial, ⟨w0, w1, w2, w3⟩⟩
def wf_Request (x : Request) : Prop := (InK .i64) x.Op ∧ (InK .i64) x.Port ∧ (InK .u64) x.Addr ∧ (fun xs => xs.length ≤ maxLen ∧ ∀ x ∈ xs, (InK .u32) x) x.Data
theorem op_Request : Opn Try.prog 37 kd_Request wf_Request := by
  refine ⟨by kernel_rfl, fun h => ?_⟩
  obtain ⟨xs, m, _, _, hlen, hxs, hf⟩ := DataW.trod_struct Try.underlying37 h
  obtain ⟨v0, s0, c0, k0, w0⟩ := opn_field hf hxs 0 _ rfl (Opn.int Try.underlying3 (by kernel_rfl))
  obtain ⟨v1, s1, c1, k1, w1⟩ := opn_field hf hxs 1 _ rfl (Opn.int Try.underlying3 (by kernel_rfl))
  obtain ⟨v2, s2, c2, k2, w2⟩ := opn_field hf hxs 2 _ rfl (Opn.int Try.underlying34 (by kernel_rfl))
  obtain ⟨v3, s3, c3, k3, w3⟩ := opn_field hf hxs 3 _ rfl (Opn.slice (Opn.int Try.underlying22 (by kernel_rfl)) Try.underlying35 (by kernel_rfl))
  exact ⟨⟨v0, v1, v2, v3⟩, svL [s3 0], (pieces_eq [1, 1, 1, 1] hlen (by kernel_rfl)).trans (app2 c0 (app2 c1 (app2 c2 (app2 c3 rfl)))), ⟨k3, trivial⟩, ⟨w0, w1, w2, w3⟩⟩
def wf_Answer (x : Answer) : Prop := (InK .i64) x.Code ∧ (fun xs => xs.length ≤ maxLen ∧ ∀ x ∈ xs, (InK .u32) x) x.Data ∧ (fun _ => True) x.Valid ∧ (InK .i64) x.Count
theorem op_Answer : Opn Try.prog 40 kd_Answer wf_Answer := by
  refine ⟨by kernel_rfl, fun h => ?_⟩
  obtain ⟨xs, m, _, _, hlen, hxs, hf⟩ := DataW.trod_struct Try.underlying40 h
  obtain ⟨v0, s0, c0, k0, w0⟩ := opn_field hf hxs 0 _ rfl (Opn.int Try.underlying38 (by kernel_rfl))
  obtain ⟨v1, s1, c1, k1, w1⟩ := opn_field hf hxs 1 _ rfl (Opn.slice (Opn.int Try.underlying22 (by kernel_rfl)) Try.underlying35 (by kernel_rfl))
  obtain ⟨v2, s2, c2, k2, w2⟩ := opn_field hf hxs 2 _ rfl (Opn.bool Try.underlying4 (by kernel_rfl))
  obtain ⟨v3, s3, c3, k3, w3⟩ := opn_field hf hxs 3 _ rfl (Opn.int Try.underlying3 (by kernel_rfl))
  exact ⟨⟨v0, v1, v2, v3⟩, svL [s1 0], (pieces_eq [1, 1, 1, 1] hlen (by kernel_rfl)).trans (app2 c0 (app2 c1 (app2 c2 (app2 c3 rfl)))), ⟨k1, trivial⟩, ⟨w0, w1, w2, w3⟩⟩
def wf_Call (x : Call) : Prop := (InK .i64) x.Part ∧ wf_Request x.Req ∧ wf_Answer x.Ans ∧ (fun _ => True) x.Done ∧ (InK .i64) x.From ∧ (InK .i64) x.To ∧ (InK .i64) x.T0 ∧ (InK .i64) x.T1 ∧ (InK .i64) x.Own0 ∧ (InK .i64) x.Own1 ∧ (InK .i64) x.Mark ∧ (InK .i64) x.Ring ∧ (InK .i64) x.Stamp ∧ (InK .i64) x.Saw
theorem op_Call : Opn Try.prog 42 kd_Call wf_Call := by
  refine ⟨by kernel_rfl, fun h => ?_⟩
  obtain ⟨xs, m, _, _, hlen, hxs, hf⟩ := DataW.trod_struct Try.underlying42 h
  obtain ⟨v0, s0, c0, k0, w0⟩ := opn_field hf hxs 0 _ rfl (Opn.int Try.underlying3 (by kernel_rfl))
  obtain ⟨v1, s1, c1, k1, w1⟩ := opn_field hf hxs 1 _ rfl op_Request
  obtain ⟨v2, s2, c2, k2, w2⟩ := opn_field hf hxs 2 _ rfl op_Answer
  obtain ⟨v3, s3, c3, k3, w3⟩ := opn_field hf hxs 3 _ rfl (Opn.bool Try.underlying4 (by kernel_rfl))
  obtain ⟨v4, s4, c4, k4, w4⟩ := opn_field hf hxs 4 _ rfl (Opn.int Try.underlying3 (by kernel_rfl))
  obtain ⟨v5, s5, c5, k5, w5⟩ := opn_field hf hxs 5 _ rfl (Opn.int Try.underlying3 (by kernel_rfl))
  obtain ⟨v6, s6, c6, k6, w6⟩ := opn_field hf hxs 6 _ rfl (Opn.int Try.underlying3 (by kernel_rfl))
  obtain ⟨v7, s7, c7, k7, w7⟩ := opn_field hf hxs 7 _ rfl (Opn.int Try.underlying3 (by kernel_rfl))
  obtain ⟨v8, s8, c8, k8, w8⟩ := opn_field hf hxs 8 _ rfl (Opn.int Try.underlying3 (by kernel_rfl))
  obtain ⟨v9, s9, c9, k9, w9⟩ := opn_field hf hxs 9 _ rfl (Opn.int Try.underlying3 (by kernel_rfl))
  obtain ⟨v10, s10, c10, k10, w10⟩ := opn_field hf hxs 10 _ rfl (Opn.int Try.underlying3 (by kernel_rfl))
  obtain ⟨v11, s11, c11, k11, w11⟩ := opn_field hf hxs 11 _ rfl (Opn.int Try.underlying3 (by kernel_rfl))
  obtain ⟨v12, s12, c12, k12, w12⟩ := opn_field hf hxs 12 _ rfl (Opn.int Try.underlying3 (by kernel_rfl))
  obtain ⟨v13, s13, c13, k13, w13⟩ := opn_field hf hxs 13 _ rfl (Opn.int Try.underlying3 (by kernel_rfl))
  exact ⟨⟨v0, v1, v2, v3, v4, v5, v6, v7, v8, v9, v10, v11, v12, v13⟩, svL [s1 0, s2 0], (pieces_eq [1, 4, 4, 1, 1, 1, 1, 1, 1, 1, 1, 1, 1, 1] hlen (by kernel_rfl)).trans (app2 c0 (app2 c1 (app2 c2 (app2 c3 (app2 c4 (app2 c5 (app2 c6 (app2 c7 (app2 c8 (app2 c9 (app2 c10 (app2 c11 (app2 c12 (app2 c13 rfl)))))))))))))), ⟨k1.1, k2.1, trivial⟩, ⟨w0, w1, w2, w3, w4, w5, w6, w7, w8, w9, w10, w11, w12, w13⟩⟩
def wf_Portholeref17_Spot (x : Portholeref17_Spot) : Prop := (InK .i64) x.At ∧ (fun _ => True) x.Behind ∧ (fun _ => True) x.Is
theorem op_Portholeref17_Spot : Opn Try.prog 55 kd_Portholeref17_Spot wf_Portholeref17_Spot := by
  refine ⟨by kernel_rfl, fun h => ?_⟩
  obtain ⟨xs, m, _, _, hlen, hxs, hf⟩ := DataW.trod_struct Try.underlying55 h
  obtain ⟨v0, s0, c0, k0, w0⟩ := opn_field hf hxs 0 _ rfl (Opn.int Try.underlying3 (by kernel_rfl))
  obtain ⟨v1, s1, c1, k1, w1⟩ := opn_field hf hxs 1 _ rfl (Opn.bool Try.underlying4 (by kernel_rfl))
  obtain ⟨v2, s2, c2, k2, w2⟩ := opn_field hf hxs 2 _ rfl (Opn.bool Try.underlying4 (by kernel_rfl))
  exact ⟨⟨v0, v1, v2⟩, svL [], (pieces_eq [1, 1, 1] hlen (by kernel_rfl)).trans (app2 c0 (app2 c1 (app2 c2 rfl))), trivial, ⟨w0, w1, w2⟩⟩
def eqb_Portholeref17_Spot (x y : Portholeref17_Spot) : Bool := (x.At == y.At && (x.Behind == y.Behind && (x.Is == y.Is && (true))))
theorem eqt_Portholeref17_Spot (d : Nat) (x y : Portholeref17_Spot) (w : World) : (Op.equalIn (d + 2) 55 (.agg ((kd_Portholeref17_Spot).cells x (svL [])).toArray) (.agg ((kd_Portholeref17_Spot).cells y (svL [])).toArray)).run Try.prog w = .ok (eqb_Portholeref17_Spot x y) w :=
  eqA_of Try.underlying55 (by kernel_rfl) (eqf_cons rfl (part_one (by kernel_rfl) rfl w) (part_one (by kernel_rfl) rfl w) (eqi_int Try.underlying3 _ _ (d + 0) w) (eqf_cons rfl (part_one (by kernel_rfl) rfl w) (part_one (by kernel_rfl) rfl w) (eqi_bool Try.underlying4 _ _ (d + 0) w) (eqf_cons rfl (part_one (by kernel_rfl) rfl w) (part_one (by kernel_rfl) rfl w) (eqi_bool Try.underlying4 _ _ (d + 0) w) eqf_nil)))

/-! ### porthole/stamp.Fresh: function 34 -/
noncomputable def G_stamp_Fresh (a0 : Int) (a1 : Int) (a2 : Int) : Option (Bool) := some (decide ((IntKind.i64.wrap (a2 - a1)) ≤ a0))
set_option maxRecDepth 100000 in
set_option maxHeartbeats 4000000 in
theorem G_stamp_Fresh.calls (a0 : Int) (a1 : Int) (a2 : Int)  (w : World) {S : Nat → Prop}  (r : Bool) (h : G_stamp_Fresh a0 a1 a2 = some r) :
    Calls Try.prog 34 #[.int .i64 a0, .int .i64 a1, .int .i64 a2] w fun e w' => e = .returned (.bool r) ∧ Below w.heap.size w w' := by
  unfold G_stamp_Fresh at h
  have H0 := h
  clear h
  refine enter Try.func34 rfl [.int .i64 a0, .int .i64 a1, .int .i64 a2] (n := 12) rfl (Nat.le_of_ble_eq_true rfl) (fun a hI => ?_)
  have hF : FOpen Fence.wide := .inl rfl
  have hE := Ep.start w
  refine seq_region (live := [6, 0, 1, 2]) (orc := []) hF hI ⟨[⟨6, [], .v (.bool false)⟩, ⟨0, [], .v (.int .i64 a0)⟩, ⟨1, [], .v (.int .i64 a1)⟩, ⟨2, [], .v (.int .i64 a2)⟩], [], [], [], none, none⟩ [] (by kernel_rfl) trivial (fun ns_1 a w_2 hI _ => ?_)
  refine seq_region (live := [6, 0, 1, 2]) (orc := []) hF hI ⟨[⟨6, [], .v (.bool (decide ((IntKind.i64.wrap (a2 - a1)) ≤ a0)))⟩, ⟨0, [], .v (.int .i64 a0)⟩, ⟨1, [], .v (.int .i64 a1)⟩, ⟨2, [], .v (.int .i64 a2)⟩], [], [], [], none, none⟩ [] (by kernel_rfl) trivial (fun ns_3 a w_4 hI _ => ?_)
  refine wpIn_ret ?_
  obtain rfl := Option.some.inj H0
  exact ret1 hI rfl rfl ⟨rfl, hE.below hI⟩

/-! ### porthole/portholelaw24.wakes: function 13 -/
noncomputable def G_law24_wakes  : Option (Bool) := ((G_stamp_Fresh 3 5 8).bind fun t_3 => ((cal t_3 (G_stamp_Fresh 3 5 9) default).bind fun t_5 => some (t_3 && (!t_5))))
set_option maxRecDepth 100000 in
set_option maxHeartbeats 4000000 in
theorem G_law24_wakes.calls   (w : World) {S : Nat → Prop}  (r : Bool) (h : G_law24_wakes = some r) :
    Calls Try.prog 13 #[] w fun e w' => e = .returned (.bool r) ∧ Below w.heap.size w w' := by
  unfold G_law24_wakes at h
  have H0 := h
  clear h
  refine enter Try.func13 rfl [] (n := 6) rfl (Nat.le_of_ble_eq_true rfl) (fun a hI => ?_)
  have hF : FOpen Fence.wide := .inl rfl
  have hE := Ep.start w
  refine seq_region (live := [0]) (orc := []) hF hI ⟨[⟨0, [], .v (.bool false)⟩], [], [], [], none, none⟩ [] (by kernel_rfl) trivial (fun ns_1 a w_2 hI _ => ?_)
  obtain ⟨t_3, hG_4, H0⟩ := bind_some H0
  obtain ⟨t_5, hG_6, H0⟩ := bind_some H0
  refine seq_region (live := [0]) (orc := [[.bool t_3], [.bool t_5]]) hF hI ⟨[⟨0, [], .v (.bool (t_3 && (!t_5)))⟩], [], [], [], none, none⟩ [.call true 34 [.int .i64 3, .int .i64 5, .int .i64 8] (.bool t_3), .call t_3 34 [.int .i64 3, .int .i64 5, .int .i64 9] (.bool t_5)] (by kernel_rfl) ⟨ob_call (enters Try.func34 (by kernel_rfl) rfl) (fun hg wz hk => G_stamp_Fresh.calls 3 5 8  wz (S := fun _ => True)  _ hG_4), ob_call (enters Try.func34 (by kernel_rfl) rfl) (fun hg wz hk => G_stamp_Fresh.calls 3 5 9  wz (S := fun _ => True)  _ (cal_some hG_6 hg)), trivial⟩ (fun ns_7 a w_8 hI _ => ?_)
  refine wpIn_ret ?_
  obtain rfl := Option.some.inj H0
  exact ret1 hI rfl rfl ⟨rfl, hE.below hI⟩

/-! ### porthole/portholelaw24.grows: function 12 -/
noncomputable def G_law24_grows (a0 : Int) (a1 : Int) (a2 : Int) (a3 : Int) : Option (Bool) := ((G_law24_wakes).bind fun t_3 => (bif (!t_3) then some false else ((G_stamp_Fresh a0 a1 a2).bind fun t_10 => ((cal t_10 (G_stamp_Fresh (IntKind.i64.wrap (a0 + a3)) a1 a2) default).bind fun t_14 => ((cal (t_10 && (!(!t_14))) (G_stamp_Fresh a0 (IntKind.i64.wrap (a1 + a3)) a2) default).bind fun t_16 => ((cal ((t_10 && (!((!t_14) || (!t_16)))) && (decide (a2 ≥ a3))) (G_stamp_Fresh a0 a1 (IntKind.i64.wrap (a2 - a3))) default).bind fun t_18 => (bif (t_10 && (((!t_14) || (!t_16)) || (decide (a2 ≥ a3) && (!t_18)))) then some false else ((G_stamp_Fresh a0 (IntKind.i64.wrap (a1 + a3)) (IntKind.i64.wrap (a2 + a3))).bind fun t_25 => some (t_25 == t_10)))))))))
set_option maxRecDepth 100000 in
set_option maxHeartbeats 4000000 in
theorem G_law24_grows.calls (a0 : Int) (a1 : Int) (a2 : Int) (a3 : Int)  (w : World) {S : Nat → Prop}  (r : Bool) (h : G_law24_grows a0 a1 a2 a3 = some r) :
    Calls Try.prog 12 #[.int .i64 a0, .int .i64 a1, .int .i64 a2, .int .i64 a3] w fun e w' => e = .returned (.bool r) ∧ Below w.heap.size w w' := by
  unfold G_law24_grows at h
  have H0 := h
  clear h
  refine enter Try.func12 rfl [.int .i64 a0, .int .i64 a1, .int .i64 a2, .int .i64 a3] (n := 59) rfl (Nat.le_of_ble_eq_true rfl) (fun a hI => ?_)
  have hF : FOpen Fence.wide := .inl rfl
  have hE := Ep.start w
  refine seq_region (live := [8, 0, 1, 2, 3]) (orc := []) hF hI ⟨[⟨8, [], .v (.bool false)⟩, ⟨0, [], .v (.int .i64 a0)⟩, ⟨1, [], .v (.int .i64 a1)⟩, ⟨2, [], .v (.int .i64 a2)⟩, ⟨3, [], .v (.int .i64 a3)⟩], [], [], [], none, none⟩ [] (by kernel_rfl) trivial (fun ns_1 a w_2 hI _ => ?_)
  refine wpIn_seq ?_
  obtain ⟨t_3, hG_4, H0⟩ := bind_some H0
  refine seq_region (live := [11, 8, 0, 1, 2, 3]) (orc := [[.bool t_3]]) hF hI ⟨[⟨11, [], .v (.bool (!t_3))⟩, ⟨8, [], .v (.bool false)⟩, ⟨0, [], .v (.int .i64 a0)⟩, ⟨1, [], .v (.int .i64 a1)⟩, ⟨2, [], .v (.int .i64 a2)⟩, ⟨3, [], .v (.int .i64 a3)⟩], [], [], [], none, none⟩ [.call true 13 [] (.bool t_3)] (by kernel_rfl) ⟨ob_call (enters Try.func13 (by kernel_rfl) rfl) (fun hg wz hk => G_law24_wakes.calls   wz (S := fun _ => True)  _ hG_4), trivial⟩ (fun ns_5 a w_6 hI _ => ?_)
  refine cond_ hI ((!t_3)) rfl (fun hc_7 => ?_) (fun hc_7 => ?_)
  · replace H0 := bif_t hc_7 H0
    refine seq_region (live := [8, 11, 0, 1, 2, 3]) (orc := []) hF hI ⟨[⟨8, [], .v (.bool false)⟩, ⟨11, [], .v (.bool (!t_3))⟩, ⟨0, [], .v (.int .i64 a0)⟩, ⟨1, [], .v (.int .i64 a1)⟩, ⟨2, [], .v (.int .i64 a2)⟩, ⟨3, [], .v (.int .i64 a3)⟩], [], [], [], none, none⟩ [] (by kernel_rfl) trivial (fun ns_8 a w_9 hI _ => ?_)
    refine wpIn_ret ?_
    refine then_ret ?_
    obtain rfl := Option.some.inj H0
    exact ret1 hI rfl rfl ⟨rfl, hE.below hI⟩
  · replace H0 := bif_f hc_7 H0
    refine wpIn_skip ?_
    refine then_normal ?_
    obtain ⟨t_10, hG_11, H0⟩ := bind_some H0
    refine seq_region (live := [9, 11, 8, 0, 1, 2, 3]) (orc := [[.bool t_10]]) hF hI ⟨[⟨9, [], .v (.bool t_10)⟩, ⟨11, [], .v (.bool (!t_3))⟩, ⟨8, [], .v (.bool false)⟩, ⟨0, [], .v (.int .i64 a0)⟩, ⟨1, [], .v (.int .i64 a1)⟩, ⟨2, [], .v (.int .i64 a2)⟩, ⟨3, [], .v (.int .i64 a3)⟩], [], [], [], none, none⟩ [.call true 34 [.int .i64 a0, .int .i64 a1, .int .i64 a2] (.bool t_10)] (by kernel_rfl) ⟨ob_call (enters Try.func34 (by kernel_rfl) rfl) (fun hg wz hk => G_stamp_Fresh.calls a0 a1 a2  wz (S := fun _ => True)  _ hG_11), trivial⟩ (fun ns_12 a w_13 hI _ => ?_)
    refine wpIn_seq ?_
    obtain ⟨t_14, hG_15, H0⟩ := bind_some H0
    obtain ⟨t_16, hG_17, H0⟩ := bind_some H0
    obtain ⟨t_18, hG_19, H0⟩ := bind_some H0
    refine seq_region (live := [48, 9, 11, 8, 0, 1, 2, 3]) (orc := [[.bool t_14], [.bool t_16], [.bool t_18]]) hF hI ⟨[⟨48, [], .v (.bool (t_10 && (((!t_14) || (!t_16)) || (decide (a2 ≥ a3) && (!t_18)))))⟩, ⟨9, [], .v (.bool t_10)⟩, ⟨11, [], .v (.bool (!t_3))⟩, ⟨8, [], .v (.bool false)⟩, ⟨0, [], .v (.int .i64 a0)⟩, ⟨1, [], .v (.int .i64 a1)⟩, ⟨2, [], .v (.int .i64 a2)⟩, ⟨3, [], .v (.int .i64 a3)⟩], [], [], [], none, none⟩ [.call t_10 34 [.int .i64 (IntKind.i64.wrap (a0 + a3)), .int .i64 a1, .int .i64 a2] (.bool t_14), .call (t_10 && (!(!t_14))) 34 [.int .i64 a0, .int .i64 (IntKind.i64.wrap (a1 + a3)), .int .i64 a2] (.bool t_16), .call ((t_10 && (!((!t_14) || (!t_16)))) && (decide (a2 ≥ a3))) 34 [.int .i64 a0, .int .i64 a1, .int .i64 (IntKind.i64.wrap (a2 - a3))] (.bool t_18)] (by kernel_rfl) ⟨ob_call (enters Try.func34 (by kernel_rfl) rfl) (fun hg wz hk => G_stamp_Fresh.calls (IntKind.i64.wrap (a0 + a3)) a1 a2  wz (S := fun _ => True)  _ (cal_some hG_15 hg)), ob_call (enters Try.func34 (by kernel_rfl) rfl) (fun hg wz hk => G_stamp_Fresh.calls a0 (IntKind.i64.wrap (a1 + a3)) a2  wz (S := fun _ => True)  _ (cal_some hG_17 hg)), ob_call (enters Try.func34 (by kernel_rfl) rfl) (fun hg wz hk => G_stamp_Fresh.calls a0 a1 (IntKind.i64.wrap (a2 - a3))  wz (S := fun _ => True)  _ (cal_some hG_19 hg)), trivial⟩ (fun ns_20 a w_21 hI _ => ?_)
    refine cond_ hI ((t_10 && (((!t_14) || (!t_16)) || (decide (a2 ≥ a3) && (!t_18))))) rfl (fun hc_22 => ?_) (fun hc_22 => ?_)
    · replace H0 := bif_t hc_22 H0
      refine seq_region (live := [8, 48, 9, 11, 0, 1, 2, 3]) (orc := []) hF hI ⟨[⟨8, [], .v (.bool false)⟩, ⟨48, [], .v (.bool (t_10 && (((!t_14) || (!t_16)) || (decide (a2 ≥ a3) && (!t_18)))))⟩, ⟨9, [], .v (.bool t_10)⟩, ⟨11, [], .v (.bool (!t_3))⟩, ⟨0, [], .v (.int .i64 a0)⟩, ⟨1, [], .v (.int .i64 a1)⟩, ⟨2, [], .v (.int .i64 a2)⟩, ⟨3, [], .v (.int .i64 a3)⟩], [], [], [], none, none⟩ [] (by kernel_rfl) trivial (fun ns_23 a w_24 hI _ => ?_)
      refine wpIn_ret ?_
      refine then_ret ?_
      obtain rfl := Option.some.inj H0
      exact ret1 hI rfl rfl ⟨rfl, hE.below hI⟩
    · replace H0 := bif_f hc_22 H0
      refine wpIn_skip ?_
      refine then_normal ?_
      obtain ⟨t_25, hG_26, H0⟩ := bind_some H0
      refine seq_region (live := [8, 48, 9, 11, 0, 1, 2, 3]) (orc := [[.bool t_25]]) hF hI ⟨[⟨8, [], .v (.bool (t_25 == t_10))⟩, ⟨48, [], .v (.bool (t_10 && (((!t_14) || (!t_16)) || (decide (a2 ≥ a3) && (!t_18)))))⟩, ⟨9, [], .v (.bool t_10)⟩, ⟨11, [], .v (.bool (!t_3))⟩, ⟨0, [], .v (.int .i64 a0)⟩, ⟨1, [], .v (.int .i64 a1)⟩, ⟨2, [], .v (.int .i64 a2)⟩, ⟨3, [], .v (.int .i64 a3)⟩], [], [], [], none, none⟩ [.call true 34 [.int .i64 a0, .int .i64 (IntKind.i64.wrap (a1 + a3)), .int .i64 (IntKind.i64.wrap (a2 + a3))] (.bool t_25)] (by kernel_rfl) ⟨ob_call (enters Try.func34 (by kernel_rfl) rfl) (fun hg wz hk => G_stamp_Fresh.calls a0 (IntKind.i64.wrap (a1 + a3)) (IntKind.i64.wrap (a2 + a3))  wz (S := fun _ => True)  _ hG_26), trivial⟩ (fun ns_27 a w_28 hI _ => ?_)
      refine wpIn_ret ?_
      obtain rfl := Option.some.inj H0
      exact ret1 hI rfl rfl ⟨rfl, hE.below hI⟩

/-! ### porthole/portholelaw24.StampGrows: function 3 -/
noncomputable def G_law24_StampGrows (x0 : St23) : Option (Bool) := ((G_law24_grows (IntKind.i64.wrap x0.e0) (IntKind.i64.wrap x0.e1) (IntKind.i64.wrap x0.e2) (IntKind.i64.wrap x0.e3)).bind fun t_3 => some t_3)
set_option maxRecDepth 100000 in
set_option maxHeartbeats 4000000 in
theorem G_law24_StampGrows.calls (x0 : St23) (sv0 : SV) (w : World) {S : Nat → Prop} (hx0 : (kd_St23).cont S w x0 sv0) (r : Bool) (h : G_law24_StampGrows x0 = some r) :
    Calls Try.prog 3 #[.agg ((kd_St23).cells x0 sv0).toArray] w fun e w' => e = .returned (.bool r) ∧ Below w.heap.size w w' := by
  replace hx0 := Kd.lo _ hx0
  unfold G_law24_StampGrows at h
  have H0 := h
  clear h
  refine enter Try.func3 rfl [.agg ((kd_St23).cells x0 sv0).toArray] (n := 16) rfl (Nat.le_of_ble_eq_true rfl) (fun a hI => ?_)
  have hF : FOpen Fence.wide := .inl rfl
  have hE := Ep.start w
  refine seq_region (live := [2, 1, 0]) (orc := []) hF hI ⟨[⟨2, [], .v (.bool false)⟩, ⟨1, [], .p 0 0⟩, ⟨0, [], .v (.agg ((kd_St23).cells x0 sv0).toArray)⟩], [], [], [((((kd_St23).cells x0 sv0).map EV.v), 23)], none, none⟩ [] (by kernel_rfl) trivial (fun ns_1 a w_2 hI _ => ?_)
  obtain ⟨t_3, hG_4, H0⟩ := bind_some H0
  refine seq_region (live := [2, 1, 0]) (orc := [[.bool t_3]]) hF hI ⟨[⟨2, [], .v (.bool t_3)⟩, ⟨1, [], .p 0 0⟩, ⟨0, [], .v (.agg ((kd_St23).cells x0 sv0).toArray)⟩], [], [], [((((kd_St23).cells x0 sv0).map EV.v), 23)], none, none⟩ [.call true 12 [.int .i64 (IntKind.i64.wrap x0.e0), .int .i64 (IntKind.i64.wrap x0.e1), .int .i64 (IntKind.i64.wrap x0.e2), .int .i64 (IntKind.i64.wrap x0.e3)] (.bool t_3)] (by kernel_rfl) ⟨ob_call (enters Try.func12 (by kernel_rfl) rfl) (fun hg wz hk => G_law24_grows.calls (IntKind.i64.wrap x0.e0) (IntKind.i64.wrap x0.e1) (IntKind.i64.wrap x0.e2) (IntKind.i64.wrap x0.e3)  wz (S := fun _ => True)  _ hG_4), trivial⟩ (fun ns_5 a w_6 hI _ => ?_)
  refine wpIn_ret ?_
  obtain rfl := Option.some.inj H0
  exact ret1 hI rfl rfl ⟨rfl, hE.below hI⟩

/-! ### porthole/portholeref17.one: function 35 -/
noncomputable def G_ref17_one (x0 : Call) : Option (Bool) := (bif ((decide (x0.From < 0) || decide (x0.T0 < 0)) || decide (x0.Own0 < 1)) then some false else (bif ((x0.Done && ((decide (x0.To < x0.From) || decide (x0.T1 < x0.T0)) || decide (x0.Own1 < x0.Own0))) || ((!x0.Done) && (((x0.To != (-1)) || (x0.T1 != (-1))) || (x0.Own1 != (-1))))) then some false else (bif ((x0.Mark != (-1)) && (decide (x0.Mark < x0.From) || (x0.Done && decide (x0.Mark > x0.To)))) then some false else some ((x0.Ring == (-1)) || ((decide (x0.Mark ≥ 0) && decide (x0.Ring > x0.Mark)) && ((!x0.Done) || decide (x0.Ring ≤ x0.To)))))))
set_option maxRecDepth 100000 in
set_option maxHeartbeats 4000000 in
theorem G_ref17_one.calls (x0 : Call) (sv0 : SV) (w : World) {S : Nat → Prop} (hx0 : (kd_Call).cont S w x0 sv0) (r : Bool) (h : G_ref17_one x0 = some r) :
    Calls Try.prog 35 #[.agg ((kd_Call).cells x0 sv0).toArray] w fun e w' => e = .returned (.bool r) ∧ Below w.heap.size w w' := by
  replace hx0 := Kd.lo _ hx0
  unfold G_ref17_one at h
  have H0 := h
  clear h
  refine enter Try.func35 rfl [.agg ((kd_Call).cells x0 sv0).toArray] (n := 107) rfl (Nat.le_of_ble_eq_true rfl) (fun a hI => ?_)
  have hF : FOpen Fence.wide := .inl rfl
  have hE := Ep.start w
  refine seq_region (live := [2, 1, 0]) (orc := []) hF hI ⟨[⟨2, [], .v (.bool false)⟩, ⟨1, [], .p 0 0⟩, ⟨0, [], .v (.agg ((kd_Call).cells x0 sv0).toArray)⟩], [], [], [((((kd_Call).cells x0 sv0).map EV.v), 42)], none, none⟩ [] (by kernel_rfl) trivial (fun ns_1 a w_2 hI _ => ?_)
  refine wpIn_seq ?_
  refine seq_region (live := [15, 2, 1, 0]) (orc := []) hF hI ⟨[⟨15, [], .v (.bool ((decide (x0.From < 0) || decide (x0.T0 < 0)) || decide (x0.Own0 < 1)))⟩, ⟨2, [], .v (.bool false)⟩, ⟨1, [], .p 0 0⟩, ⟨0, [], .v (.agg ((kd_Call).cells x0 sv0).toArray)⟩], [], [], [((((kd_Call).cells x0 sv0).map EV.v), 42)], none, none⟩ [] (by kernel_rfl) trivial (fun ns_3 a w_4 hI _ => ?_)
  refine cond_ hI (((decide (x0.From < 0) || decide (x0.T0 < 0)) || decide (x0.Own0 < 1))) rfl (fun hc_5 => ?_) (fun hc_5 => ?_)
  · replace H0 := bif_t hc_5 H0
    refine seq_region (live := [2, 15, 1, 0]) (orc := []) hF hI ⟨[⟨2, [], .v (.bool false)⟩, ⟨15, [], .v (.bool ((decide (x0.From < 0) || decide (x0.T0 < 0)) || decide (x0.Own0 < 1)))⟩, ⟨1, [], .p 0 0⟩, ⟨0, [], .v (.agg ((kd_Call).cells x0 sv0).toArray)⟩], [], [], [((((kd_Call).cells x0 sv0).map EV.v), 42)], none, none⟩ [] (by kernel_rfl) trivial (fun ns_6 a w_7 hI _ => ?_)
    refine wpIn_ret ?_
    refine then_ret ?_
    obtain rfl := Option.some.inj H0
    exact ret1 hI rfl rfl ⟨rfl, hE.below hI⟩
  · replace H0 := bif_f hc_5 H0
    refine wpIn_skip ?_
    refine then_normal ?_
    refine wpIn_seq ?_
    refine seq_region (live := [58, 15, 2, 1, 0]) (orc := []) hF hI ⟨[⟨58, [], .v (.bool ((x0.Done && ((decide (x0.To < x0.From) || decide (x0.T1 < x0.T0)) || decide (x0.Own1 < x0.Own0))) || ((!x0.Done) && (((x0.To != (-1)) || (x0.T1 != (-1))) || (x0.Own1 != (-1))))))⟩, ⟨15, [], .v (.bool ((decide (x0.From < 0) || decide (x0.T0 < 0)) || decide (x0.Own0 < 1)))⟩, ⟨2, [], .v (.bool false)⟩, ⟨1, [], .p 0 0⟩, ⟨0, [], .v (.agg ((kd_Call).cells x0 sv0).toArray)⟩], [], [], [((((kd_Call).cells x0 sv0).map EV.v), 42)], none, none⟩ [] (by kernel_rfl) trivial (fun ns_8 a w_9 hI _ => ?_)
    refine cond_ hI (((x0.Done && ((decide (x0.To < x0.From) || decide (x0.T1 < x0.T0)) || decide (x0.Own1 < x0.Own0))) || ((!x0.Done) && (((x0.To != (-1)) || (x0.T1 != (-1))) || (x0.Own1 != (-1)))))) rfl (fun hc_10 => ?_) (fun hc_10 => ?_)
    · replace H0 := bif_t hc_10 H0
      refine seq_region (live := [2, 58, 15, 1, 0]) (orc := []) hF hI ⟨[⟨2, [], .v (.bool false)⟩, ⟨58, [], .v (.bool ((x0.Done && ((decide (x0.To < x0.From) || decide (x0.T1 < x0.T0)) || decide (x0.Own1 < x0.Own0))) || ((!x0.Done) && (((x0.To != (-1)) || (x0.T1 != (-1))) || (x0.Own1 != (-1))))))⟩, ⟨15, [], .v (.bool ((decide (x0.From < 0) || decide (x0.T0 < 0)) || decide (x0.Own0 < 1)))⟩, ⟨1, [], .p 0 0⟩, ⟨0, [], .v (.agg ((kd_Call).cells x0 sv0).toArray)⟩], [], [], [((((kd_Call).cells x0 sv0).map EV.v), 42)], none, none⟩ [] (by kernel_rfl) trivial (fun ns_11 a w_12 hI _ => ?_)
      refine wpIn_ret ?_
      refine then_ret ?_
      obtain rfl := Option.some.inj H0
      exact ret1 hI rfl rfl ⟨rfl, hE.below hI⟩
    · replace H0 := bif_f hc_10 H0
      refine wpIn_skip ?_
      refine then_normal ?_
      refine wpIn_seq ?_
      refine seq_region (live := [79, 58, 15, 2, 1, 0]) (orc := []) hF hI ⟨[⟨79, [], .v (.bool ((x0.Mark != (-1)) && (decide (x0.Mark < x0.From) || (x0.Done && decide (x0.Mark > x0.To)))))⟩, ⟨58, [], .v (.bool ((x0.Done && ((decide (x0.To < x0.From) || decide (x0.T1 < x0.T0)) || decide (x0.Own1 < x0.Own0))) || ((!x0.Done) && (((x0.To != (-1)) || (x0.T1 != (-1))) || (x0.Own1 != (-1))))))⟩, ⟨15, [], .v (.bool ((decide (x0.From < 0) || decide (x0.T0 < 0)) || decide (x0.Own0 < 1)))⟩, ⟨2, [], .v (.bool false)⟩, ⟨1, [], .p 0 0⟩, ⟨0, [], .v (.agg ((kd_Call).cells x0 sv0).toArray)⟩], [], [], [((((kd_Call).cells x0 sv0).map EV.v), 42)], none, none⟩ [] (by kernel_rfl) trivial (fun ns_13 a w_14 hI _ => ?_)
      refine cond_ hI (((x0.Mark != (-1)) && (decide (x0.Mark < x0.From) || (x0.Done && decide (x0.Mark > x0.To))))) rfl (fun hc_15 => ?_) (fun hc_15 => ?_)
      · replace H0 := bif_t hc_15 H0
        refine seq_region (live := [2, 79, 58, 15, 1, 0]) (orc := []) hF hI ⟨[⟨2, [], .v (.bool false)⟩, ⟨79, [], .v (.bool ((x0.Mark != (-1)) && (decide (x0.Mark < x0.From) || (x0.Done && decide (x0.Mark > x0.To)))))⟩, ⟨58, [], .v (.bool ((x0.Done && ((decide (x0.To < x0.From) || decide (x0.T1 < x0.T0)) || decide (x0.Own1 < x0.Own0))) || ((!x0.Done) && (((x0.To != (-1)) || (x0.T1 != (-1))) || (x0.Own1 != (-1))))))⟩, ⟨15, [], .v (.bool ((decide (x0.From < 0) || decide (x0.T0 < 0)) || decide (x0.Own0 < 1)))⟩, ⟨1, [], .p 0 0⟩, ⟨0, [], .v (.agg ((kd_Call).cells x0 sv0).toArray)⟩], [], [], [((((kd_Call).cells x0 sv0).map EV.v), 42)], none, none⟩ [] (by kernel_rfl) trivial (fun ns_16 a w_17 hI _ => ?_)
        refine wpIn_ret ?_
        refine then_ret ?_
        obtain rfl := Option.some.inj H0
        exact ret1 hI rfl rfl ⟨rfl, hE.below hI⟩
      · replace H0 := bif_f hc_15 H0
        refine wpIn_skip ?_
        refine then_normal ?_
        refine seq_region (live := [2, 79, 58, 15, 1, 0]) (orc := []) hF hI ⟨[⟨2, [], .v (.bool ((x0.Ring == (-1)) || ((decide (x0.Mark ≥ 0) && decide (x0.Ring > x0.Mark)) && ((!x0.Done) || decide (x0.Ring ≤ x0.To)))))⟩, ⟨79, [], .v (.bool ((x0.Mark != (-1)) && (decide (x0.Mark < x0.From) || (x0.Done && decide (x0.Mark > x0.To)))))⟩, ⟨58, [], .v (.bool ((x0.Done && ((decide (x0.To < x0.From) || decide (x0.T1 < x0.T0)) || decide (x0.Own1 < x0.Own0))) || ((!x0.Done) && (((x0.To != (-1)) || (x0.T1 != (-1))) || (x0.Own1 != (-1))))))⟩, ⟨15, [], .v (.bool ((decide (x0.From < 0) || decide (x0.T0 < 0)) || decide (x0.Own0 < 1)))⟩, ⟨1, [], .p 0 0⟩, ⟨0, [], .v (.agg ((kd_Call).cells x0 sv0).toArray)⟩], [], [], [((((kd_Call).cells x0 sv0).map EV.v), 42)], none, none⟩ [] (by kernel_rfl) trivial (fun ns_18 a w_19 hI _ => ?_)
        refine wpIn_ret ?_
        obtain rfl := Option.some.inj H0
        exact ret1 hI rfl rfl ⟨rfl, hE.below hI⟩

/-! ### porthole/portholeref17.before: function 36 -/
noncomputable def G_ref17_before.b1 (l0 : (List Call)) (a1 : Int) (s1 : Int × Int) : Option (Stp (Int × Int) (Ex (Int × Int) (Int))) := (bif decide (s1.1 ≥ 0) then (req (inb s1.1 l0.length) (req (inb a1 l0.length) (bif (((rd l0 s1.1).Part) == ((rd l0 a1).Part)) then some (.out (.ret s1.1)) else some (.next ((IntKind.i64.wrap (s1.1 - 1)), s1.2))))) else some (.out (.brk (s1.1, s1.2))))
noncomputable def G_ref17_before (l0 : (List Call)) (a1 : Int) : Option (Int) := ((loopω (G_ref17_before.b1 l0 a1) ((IntKind.i64.wrap (a1 - 1)), 0)).bind fun o => o.on (fun s1 => some (-1)) (fun r => some r))
set_option maxRecDepth 100000 in
set_option maxHeartbeats 4000000 in
theorem G_ref17_before.calls (l0 : (List Call)) (a1 : Int) (A0 : Option Addr) (c0 : Nat) (w : World) {S : Nat → Prop} (hr0 : Arr kd_Call S w A0 l0) (hc0 : l0.length ≤ c0) (r : Int) (h : G_ref17_before l0 a1 = some r) :
    Calls Try.prog 36 #[.slice A0 l0.length c0, .int .i64 a1] w fun e w' => e = .returned (.int .i64 r) ∧ Below w.heap.size w w' := by
  replace hr0 := Arr.lo hr0
  unfold G_ref17_before at h
  have H0 := h
  clear h
  refine enter Try.func36 rfl [.slice A0 l0.length c0, .int .i64 a1] (n := 24) rfl (Nat.le_of_ble_eq_true rfl) (fun a hI => ?_)
  have hF : FOpen Fence.wide := .inl rfl
  have hE := Ep.start w
  refine seq_region (live := [4, 0, 1]) (orc := []) hF hI ⟨[⟨4, [], .v (.int .i64 0)⟩, ⟨0, [], .v (.slice A0 l0.length c0)⟩, ⟨1, [], .v (.int .i64 a1)⟩], [], [], [], none, none⟩ [] (by kernel_rfl) trivial (fun ns_1 a w_2 hI _ => ?_)
  refine wpIn_seq ?_
  refine seq_region (live := [5, 4, 0, 1]) (orc := []) hF hI ⟨[⟨5, [], .v (.int .i64 (IntKind.i64.wrap (a1 - 1)))⟩, ⟨4, [], .v (.int .i64 0)⟩, ⟨0, [], .v (.slice A0 l0.length c0)⟩, ⟨1, [], .v (.int .i64 a1)⟩], [], [], [], none, none⟩ [] (by kernel_rfl) trivial (fun ns_3 a w_4 hI _ => ?_)
  obtain ⟨o_24, hL_25, H0⟩ := bind_some H0
  refine block_loop (fun s1 a w_30 => ∃ ns, St w [] 24 ⟨[⟨5, [], .v (.int .i64 s1.1)⟩, ⟨4, [], .v (.int .i64 s1.2)⟩, ⟨0, [], .v (.slice A0 l0.length c0)⟩, ⟨1, [], .v (.int .i64 a1)⟩], [], [], [], none, none⟩ ns a w_30) ((IntKind.i64.wrap (a1 - 1)), 0) hL_25 ⟨_, hI.pick [5, 4, 0, 1] 0 ⟨[⟨5, [], .v (.int .i64 (IntKind.i64.wrap (a1 - 1)))⟩, ⟨4, [], .v (.int .i64 0)⟩, ⟨0, [], .v (.slice A0 l0.length c0)⟩, ⟨1, [], .v (.int .i64 a1)⟩], [], [], [], none, none⟩ (by kernel_rfl)⟩ ?_ ?_
  · clear hI
    rintro s1 a w_5 ⟨ns_6, hI⟩ r1 H1
    unfold G_ref17_before.b1 at H1
    refine wpIn_seq ?_
    refine seq_region (live := [9, 5, 4, 0, 1]) (orc := []) hF hI ⟨[⟨9, [], .v (.bool (decide (s1.1 ≥ 0)))⟩, ⟨5, [], .v (.int .i64 s1.1)⟩, ⟨4, [], .v (.int .i64 s1.2)⟩, ⟨0, [], .v (.slice A0 l0.length c0)⟩, ⟨1, [], .v (.int .i64 a1)⟩], [], [], [], none, none⟩ [] (by kernel_rfl) trivial (fun ns_7 a w_8 hI _ => ?_)
    refine cond_ hI (decide (s1.1 ≥ 0)) rfl (fun hc_9 => ?_) (fun hc_9 => ?_)
    · replace H1 := bif_t hc_9 H1
      refine wpIn_skip ?_
      refine then_normal ?_
      refine wpIn_seq ?_
      refine wpIn_block ?_
      refine wpIn_seq ?_
      obtain ⟨hN_10, H1⟩ := req_some H1
      obtain ⟨sv_11, hE_13, hA_12⟩ := Arr.elB (d := kd_Call) hr0 s1.1 true (fun _ => hN_10)
      replace hE_13 := hE_13 rfl
      replace hA_12 := fun (_ : true = true) => hA_12 rfl
      obtain ⟨hN_14, H1⟩ := req_some H1
      obtain ⟨sv_15, hE_17, hA_16⟩ := Arr.elB (d := kd_Call) hr0 a1 true (fun _ => hN_14)
      replace hE_17 := hE_17 rfl
      replace hA_16 := fun (_ : true = true) => hA_16 rfl
      refine drawn_ (live := [22, 9, 5, 4, 0, 1]) (orc := [[.int .i64 ((rd l0 s1.1).Part)], [.int .i64 ((rd l0 a1).Part)]]) hF hI ⟨[⟨22, [], .v (.bool (((rd l0 s1.1).Part) == ((rd l0 a1).Part)))⟩, ⟨9, [], .v (.bool (decide (s1.1 ≥ 0)))⟩, ⟨5, [], .v (.int .i64 s1.1)⟩, ⟨4, [], .v (.int .i64 s1.2)⟩, ⟨0, [], .v (.slice A0 l0.length c0)⟩, ⟨1, [], .v (.int .i64 a1)⟩], [], [], [], none, none⟩ [.need true (0 ≤ s1.1 ∧ s1.1 < (l0.length : Int)), .need true (A0 = some (adr A0)), .cell true ((adr A0).add ((s1.1 : Int).toNat * 20)) [.int .i64 ((rd l0 s1.1).Part)], .need true (0 ≤ a1 ∧ a1 < (l0.length : Int)), .need true (A0 = some (adr A0)), .cell true ((adr A0).add ((a1 : Int).toNat * 20)) [.int .i64 ((rd l0 a1).Part)]] (by kernel_rfl) (by kernel_rfl) (by kernel_rfl) ⟨ob_inb (fun _ => hN_10), hA_12, ob_el (fun _ => hE_13) 0 [.int .i64 ((rd l0 s1.1).Part)] rfl, ob_inb (fun _ => hN_14), hA_16, ob_el (fun _ => hE_17) 0 [.int .i64 ((rd l0 a1).Part)] rfl, trivial⟩ (fun a w_18 hI => ?_)
      refine then_normal ?_
      refine cond_ hI ((((rd l0 s1.1).Part) == ((rd l0 a1).Part))) rfl (fun hc_19 => ?_) (fun hc_19 => ?_)
      · replace H1 := bif_t hc_19 H1
        refine seq_region (live := [4, 22, 9, 5, 0, 1]) (orc := []) hF hI ⟨[⟨4, [], .v (.int .i64 s1.1)⟩, ⟨22, [], .v (.bool (((rd l0 s1.1).Part) == ((rd l0 a1).Part)))⟩, ⟨9, [], .v (.bool (decide (s1.1 ≥ 0)))⟩, ⟨5, [], .v (.int .i64 s1.1)⟩, ⟨0, [], .v (.slice A0 l0.length c0)⟩, ⟨1, [], .v (.int .i64 a1)⟩], [], [], [], none, none⟩ [] (by kernel_rfl) trivial (fun ns_20 a w_21 hI _ => ?_)
        refine wpIn_ret ?_
        refine inBlock_ret ?_
        refine then_ret ?_
        refine then_ret ?_
        obtain rfl := Option.some.inj H1
        refine .inr ⟨_, rfl, fun ho => ?_⟩
        subst ho
        refine inBlock_ret ?_
        refine then_ret ?_
        obtain rfl := Option.some.inj H0
        exact ret1 hI rfl rfl ⟨rfl, hE.below hI⟩
      · replace H1 := bif_f hc_19 H1
        refine wpIn_skip ?_
        refine inBlock_normal ?_
        refine then_normal ?_
        refine region_ (live := [5, 22, 9, 4, 0, 1]) (orc := []) hF hI ⟨[⟨5, [], .v (.int .i64 (IntKind.i64.wrap (s1.1 - 1)))⟩, ⟨22, [], .v (.bool (((rd l0 s1.1).Part) == ((rd l0 a1).Part)))⟩, ⟨9, [], .v (.bool (decide (s1.1 ≥ 0)))⟩, ⟨4, [], .v (.int .i64 s1.2)⟩, ⟨0, [], .v (.slice A0 l0.length c0)⟩, ⟨1, [], .v (.int .i64 a1)⟩], [], [], [], none, none⟩ [] (by kernel_rfl) trivial (fun ns_22 a w_23 hI _ => ?_)
        refine then_normal ?_
        obtain rfl := Option.some.inj H1
        exact ⟨_, rfl, ⟨_, hI.pick [5, 4, 0, 1] 0 ⟨[⟨5, [], .v (.int .i64 (IntKind.i64.wrap (s1.1 - 1)))⟩, ⟨4, [], .v (.int .i64 s1.2)⟩, ⟨0, [], .v (.slice A0 l0.length c0)⟩, ⟨1, [], .v (.int .i64 a1)⟩], [], [], [], none, none⟩ (by kernel_rfl)⟩⟩
    · replace H1 := bif_f hc_9 H1
      refine wpIn_exit ?_
      refine then_exit ?_
      refine then_exit ?_
      obtain rfl := Option.some.inj H1
      exact .inl ⟨_, rfl, rfl, ⟨_, hI.pick [5, 4, 0, 1] 0 ⟨[⟨5, [], .v (.int .i64 s1.1)⟩, ⟨4, [], .v (.int .i64 s1.2)⟩, ⟨0, [], .v (.slice A0 l0.length c0)⟩, ⟨1, [], .v (.int .i64 a1)⟩], [], [], [], none, none⟩ (by kernel_rfl)⟩⟩
  · clear hI
    rintro s1 a w_26 ho ⟨ns_27, hI⟩
    subst ho
    replace H0 : (some (-1) : Option (Int)) = _ := H0
    refine then_normal ?_
    refine seq_region (live := [4, 5, 0, 1]) (orc := []) hF hI ⟨[⟨4, [], .v (.int .i64 (-1))⟩, ⟨5, [], .v (.int .i64 s1.1)⟩, ⟨0, [], .v (.slice A0 l0.length c0)⟩, ⟨1, [], .v (.int .i64 a1)⟩], [], [], [], none, none⟩ [] (by kernel_rfl) trivial (fun ns_28 a w_29 hI _ => ?_)
    refine wpIn_ret ?_
    obtain rfl := Option.some.inj H0
    exact ret1 hI rfl rfl ⟨rfl, hE.below hI⟩

/-! ### porthole/portholeref17.Ahead: function 21 -/
noncomputable def G_ref17_Ahead (x0 : Call) (x1 : Call) : Option (Bool) := some (x0.Done && decide (x0.To < x1.From))
set_option maxRecDepth 100000 in
set_option maxHeartbeats 4000000 in
theorem G_ref17_Ahead.calls (x0 : Call) (x1 : Call) (sv0 : SV) (sv1 : SV) (w : World) {S : Nat → Prop} (hx0 : (kd_Call).cont S w x0 sv0) (hx1 : (kd_Call).cont S w x1 sv1) (r : Bool) (h : G_ref17_Ahead x0 x1 = some r) :
    Calls Try.prog 21 #[.agg ((kd_Call).cells x0 sv0).toArray, .agg ((kd_Call).cells x1 sv1).toArray] w fun e w' => e = .returned (.bool r) ∧ Below w.heap.size w w' := by
  replace hx0 := Kd.lo _ hx0
  replace hx1 := Kd.lo _ hx1
  unfold G_ref17_Ahead at h
  have H0 := h
  clear h
  refine enter Try.func21 rfl [.agg ((kd_Call).cells x0 sv0).toArray, .agg ((kd_Call).cells x1 sv1).toArray] (n := 14) rfl (Nat.le_of_ble_eq_true rfl) (fun a hI => ?_)
  have hF : FOpen Fence.wide := .inl rfl
  have hE := Ep.start w
  refine seq_region (live := [4, 3, 2, 0, 1]) (orc := []) hF hI ⟨[⟨4, [], .v (.bool false)⟩, ⟨3, [], .p 1 0⟩, ⟨2, [], .p 0 0⟩, ⟨0, [], .v (.agg ((kd_Call).cells x0 sv0).toArray)⟩, ⟨1, [], .v (.agg ((kd_Call).cells x1 sv1).toArray)⟩], [], [], [((((kd_Call).cells x0 sv0).map EV.v), 42), ((((kd_Call).cells x1 sv1).map EV.v), 42)], none, none⟩ [] (by kernel_rfl) trivial (fun ns_1 a w_2 hI _ => ?_)
  refine seq_region (live := [4, 3, 2, 0, 1]) (orc := []) hF hI ⟨[⟨4, [], .v (.bool (x0.Done && decide (x0.To < x1.From)))⟩, ⟨3, [], .p 1 0⟩, ⟨2, [], .p 0 0⟩, ⟨0, [], .v (.agg ((kd_Call).cells x0 sv0).toArray)⟩, ⟨1, [], .v (.agg ((kd_Call).cells x1 sv1).toArray)⟩], [], [], [((((kd_Call).cells x0 sv0).map EV.v), 42), ((((kd_Call).cells x1 sv1).map EV.v), 42)], none, none⟩ [] (by kernel_rfl) trivial (fun ns_3 a w_4 hI _ => ?_)
  refine wpIn_ret ?_
  obtain rfl := Option.some.inj H0
  exact ret1 hI rfl rfl ⟨rfl, hE.below hI⟩

/-! ### porthole/portholeref17.Sound: function 14 -/
noncomputable def G_ref17_Sound.b1 (l0 : (List Call)) (s1 : Int × Bool) : Option (Stp (Int × Bool) (Ex (Int × Bool) (Bool))) := (bif decide (s1.1 < (l0.length : Int)) then (req (inb s1.1 l0.length) ((G_ref17_one (rd l0 s1.1)).bind fun t_16 => (req (imp (!(!t_16) && (decide (s1.1 > 0))) (inb (IntKind.i64.wrap (s1.1 - 1)) l0.length)) (bif ((!t_16) || (decide (s1.1 > 0) && decide (((rd l0 (IntKind.i64.wrap (s1.1 - 1))).From) ≥ ((rd l0 s1.1).From)))) then some (.out (.ret false)) else ((G_ref17_before l0 s1.1).bind fun t_26 => (bif (decide (t_26 < 0) && (((rd l0 s1.1).Own0) != 1)) then some (.out (.ret false)) else (req (imp (decide (t_26 ≥ 0)) (inb t_26 l0.length)) ((cal (decide (t_26 ≥ 0)) (G_ref17_Ahead (rd l0 t_26) (rd l0 s1.1)) default).bind fun t_39 => (req (imp (decide (t_26 ≥ 0) && (!(!t_39))) (inb t_26 l0.length)) (req (imp (decide (t_26 ≥ 0) && (!((!t_39) || decide (((rd l0 t_26).T1) > ((rd l0 s1.1).T0))))) (inb t_26 l0.length)) (bif (decide (t_26 ≥ 0) && (((!t_39) || decide (((rd l0 t_26).T1) > ((rd l0 s1.1).T0))) || ((IntKind.i64.wrap (((rd l0 s1.1).Own0) - ((rd l0 t_26).Own1))) != 1))) then some (.out (.ret false)) else (bif (((rd l0 s1.1).Saw) != (-1)) then (bif (decide (((rd l0 s1.1).Saw) < 0) || decide (((rd l0 s1.1).Saw) ≥ (l0.length : Int))) then some (.out (.ret false)) else (req (inb ((rd l0 s1.1).Saw) l0.length) (bif (((((rd l0 ((rd l0 s1.1).Saw)).Req.Op) != 3) || decide (((rd l0 ((rd l0 s1.1).Saw)).Mark) < 0)) || ((rd l0 s1.1).Done && decide (((rd l0 ((rd l0 s1.1).Saw)).Mark) > ((rd l0 s1.1).To)))) then some (.out (.ret false)) else some (.next ((IntKind.i64.wrap (s1.1 + 1)), s1.2))))) else some (.next ((IntKind.i64.wrap (s1.1 + 1)), s1.2)))))))))))))) else some (.out (.brk (s1.1, s1.2))))
noncomputable def G_ref17_Sound (l0 : (List Call)) : Option (Bool) := ((loopω (G_ref17_Sound.b1 l0) (0, false)).bind fun o => o.on (fun s1 => some true) (fun r => some r))
set_option maxRecDepth 100000 in
set_option maxHeartbeats 4000000 in
theorem G_ref17_Sound.calls (l0 : (List Call)) (A0 : Option Addr) (c0 : Nat) (w : World) {S : Nat → Prop} (hr0 : Arr kd_Call S w A0 l0) (hc0 : l0.length ≤ c0) (r : Bool) (h : G_ref17_Sound l0 = some r) :
    Calls Try.prog 14 #[.slice A0 l0.length c0] w fun e w' => e = .returned (.bool r) ∧ Below w.heap.size w w' := by
  replace hr0 := Arr.lo hr0
  unfold G_ref17_Sound at h
  have H0 := h
  clear h
  refine enter Try.func14 rfl [.slice A0 l0.length c0] (n := 115) rfl (Nat.le_of_ble_eq_true rfl) (fun a hI => ?_)
  have hF : FOpen Fence.wide := .inl rfl
  have hE := Ep.start w
  refine seq_region (live := [2, 0]) (orc := []) hF hI ⟨[⟨2, [], .v (.bool false)⟩, ⟨0, [], .v (.slice A0 l0.length c0)⟩], [], [], [], none, none⟩ [] (by kernel_rfl) trivial (fun ns_1 a w_2 hI _ => ?_)
  refine wpIn_seq ?_
  refine seq_region (live := [3, 2, 0]) (orc := []) hF hI ⟨[⟨3, [], .v (.int .i64 0)⟩, ⟨2, [], .v (.bool false)⟩, ⟨0, [], .v (.slice A0 l0.length c0)⟩], [], [], [], none, none⟩ [] (by kernel_rfl) trivial (fun ns_3 a w_4 hI _ => ?_)
  obtain ⟨o_76, hL_77, H0⟩ := bind_some H0
  refine block_loop (fun s1 a w_82 => ∃ ns, St w [] 115 ⟨[⟨3, [], .v (.int .i64 s1.1)⟩, ⟨2, [], .v (.bool s1.2)⟩, ⟨0, [], .v (.slice A0 l0.length c0)⟩], [], [], [], none, none⟩ ns a w_82) (0, false) hL_77 ⟨_, hI.pick [3, 2, 0] 0 ⟨[⟨3, [], .v (.int .i64 0)⟩, ⟨2, [], .v (.bool false)⟩, ⟨0, [], .v (.slice A0 l0.length c0)⟩], [], [], [], none, none⟩ (by kernel_rfl)⟩ ?_ ?_
  · clear hI
    rintro s1 a w_5 ⟨ns_6, hI⟩ r1 H1
    unfold G_ref17_Sound.b1 at H1
    refine wpIn_seq ?_
    refine seq_region (live := [10, 3, 2, 0]) (orc := []) hF hI ⟨[⟨10, [], .v (.bool (decide (s1.1 < (l0.length : Int))))⟩, ⟨3, [], .v (.int .i64 s1.1)⟩, ⟨2, [], .v (.bool s1.2)⟩, ⟨0, [], .v (.slice A0 l0.length c0)⟩], [], [], [], none, none⟩ [] (by kernel_rfl) trivial (fun ns_7 a w_8 hI _ => ?_)
    refine cond_ hI (decide (s1.1 < (l0.length : Int))) rfl (fun hc_9 => ?_) (fun hc_9 => ?_)
    · replace H1 := bif_t hc_9 H1
      refine wpIn_skip ?_
      refine then_normal ?_
      refine wpIn_seq ?_
      refine wpIn_block ?_
      obtain ⟨hN_10, H1⟩ := req_some H1
      obtain ⟨sv_11, hE_13, hA_12⟩ := Arr.elB (d := kd_Call) hr0 s1.1 true (fun _ => hN_10)
      replace hE_13 := hE_13 rfl
      replace hA_12 := fun (_ : true = true) => hA_12 rfl
      refine seq_region (live := [4, 10, 3, 2, 0]) (orc := [(kd_Call).cells (rd l0 s1.1) sv_11]) hF hI ⟨[⟨4, [], .p 0 0⟩, ⟨10, [], .v (.bool (decide (s1.1 < (l0.length : Int))))⟩, ⟨3, [], .v (.int .i64 s1.1)⟩, ⟨2, [], .v (.bool s1.2)⟩, ⟨0, [], .v (.slice A0 l0.length c0)⟩], [], [], [((((kd_Call).cells (rd l0 s1.1) sv_11).map EV.v), 42)], none, none⟩ [.need true (0 ≤ s1.1 ∧ s1.1 < (l0.length : Int)), .need true (A0 = some (adr A0)), .cell true ((adr A0).add ((s1.1 : Int).toNat * 20)) ((kd_Call).cells (rd l0 s1.1) sv_11)] (by kernel_rfl) ⟨ob_inb (fun _ => hN_10), hA_12, ob_el (fun _ => hE_13) 0 ((kd_Call).cells (rd l0 s1.1) sv_11) rfl, trivial⟩ (fun ns_14 a w_15 hI _ => ?_)
      refine wpIn_seq ?_
      refine wpIn_seq ?_
      obtain ⟨t_16, hG_17, H1⟩ := bind_some H1
      obtain ⟨hN_18, H1⟩ := req_some H1
      obtain ⟨sv_19, hE_21, hA_20⟩ := Arr.elB (d := kd_Call) hr0 (IntKind.i64.wrap (s1.1 - 1)) (!(!t_16) && (decide (s1.1 > 0))) (fun hg => imp_spec hN_18 hg)
      refine drawn_ (live := [34, 4, 10, 3, 2, 0]) (orc := [[.bool t_16], [.int .i64 ((rd l0 (IntKind.i64.wrap (s1.1 - 1))).From)]]) hF hI ⟨[⟨34, [], .v (.bool ((!t_16) || (decide (s1.1 > 0) && decide (((rd l0 (IntKind.i64.wrap (s1.1 - 1))).From) ≥ ((rd l0 s1.1).From)))))⟩, ⟨4, [], .p 0 0⟩, ⟨10, [], .v (.bool (decide (s1.1 < (l0.length : Int))))⟩, ⟨3, [], .v (.int .i64 s1.1)⟩, ⟨2, [], .v (.bool s1.2)⟩, ⟨0, [], .v (.slice A0 l0.length c0)⟩], [], [], [((((kd_Call).cells (rd l0 s1.1) sv_11).map EV.v), 42)], none, none⟩ [.call true 35 [.agg ((kd_Call).cells (rd l0 s1.1) (svL [((sv_11 0).1, (sv_11 0).2), ((sv_11 1).1, (sv_11 1).2)])).toArray] (.bool t_16), .need (!(!t_16) && (decide (s1.1 > 0))) (0 ≤ (IntKind.i64.wrap (s1.1 - 1)) ∧ (IntKind.i64.wrap (s1.1 - 1)) < (l0.length : Int)), .need (!(!t_16) && (decide (s1.1 > 0))) (A0 = some (adr A0)), .cell (!(!t_16) && (decide (s1.1 > 0))) (((adr A0).add (((IntKind.i64.wrap (s1.1 - 1)) : Int).toNat * 20)).add 10) [.int .i64 ((rd l0 (IntKind.i64.wrap (s1.1 - 1))).From)]] (by kernel_rfl) (by kernel_rfl) (by kernel_rfl) ⟨ob_call (enters Try.func35 (by kernel_rfl) rfl) (fun hg wz hk => G_ref17_one.calls (rd l0 s1.1) (svL [((sv_11 0).1, (sv_11 0).2), ((sv_11 1).1, (sv_11 1).2)]) wz (S := fun _ => True) (Kd.any _ (Kd.keep kd_Call (contI (S := Lo S w w [] []) (w := w) (d := kd_Call) (x := (rd l0 s1.1)) (sv := (svL [((sv_11 0).1, (sv_11 0).2), ((sv_11 1).1, (sv_11 1).2)])) ⟨⟨(hE_13).cont.1.1, (hE_13).cont.1.2⟩, ⟨(hE_13).cont.2.1.1, (hE_13).cont.2.1.2⟩, trivial⟩) (Lo.on hk))) _ hG_17), ob_inb (fun hg => imp_spec hN_18 hg), hA_20, ob_el (fun hg => hE_21 hg) 10 [.int .i64 ((rd l0 (IntKind.i64.wrap (s1.1 - 1))).From)] rfl, trivial⟩ (fun a w_22 hI => ?_)
      refine then_normal ?_
      refine cond_ hI (((!t_16) || (decide (s1.1 > 0) && decide (((rd l0 (IntKind.i64.wrap (s1.1 - 1))).From) ≥ ((rd l0 s1.1).From))))) rfl (fun hc_23 => ?_) (fun hc_23 => ?_)
      · replace H1 := bif_t hc_23 H1
        refine seq_region (live := [2, 34, 4, 10, 3, 0]) (orc := []) hF hI ⟨[⟨2, [], .v (.bool false)⟩, ⟨34, [], .v (.bool ((!t_16) || (decide (s1.1 > 0) && decide (((rd l0 (IntKind.i64.wrap (s1.1 - 1))).From) ≥ ((rd l0 s1.1).From)))))⟩, ⟨4, [], .p 0 0⟩, ⟨10, [], .v (.bool (decide (s1.1 < (l0.length : Int))))⟩, ⟨3, [], .v (.int .i64 s1.1)⟩, ⟨0, [], .v (.slice A0 l0.length c0)⟩], [], [], [((((kd_Call).cells (rd l0 s1.1) sv_11).map EV.v), 42)], none, none⟩ [] (by kernel_rfl) trivial (fun ns_24 a w_25 hI _ => ?_)
        refine wpIn_ret ?_
        refine then_ret ?_
        refine inBlock_ret ?_
        refine then_ret ?_
        refine then_ret ?_
        obtain rfl := Option.some.inj H1
        refine .inr ⟨_, rfl, fun ho => ?_⟩
        subst ho
        refine inBlock_ret ?_
        refine then_ret ?_
        obtain rfl := Option.some.inj H0
        exact ret1 hI rfl rfl ⟨rfl, hE.below hI⟩
      · replace H1 := bif_f hc_23 H1
        refine wpIn_skip ?_
        refine then_normal ?_
        obtain ⟨t_26, hG_27, H1⟩ := bind_some H1
        refine seq_region (live := [5, 34, 4, 10, 3, 2, 0]) (orc := [[.int .i64 t_26]]) hF hI ⟨[⟨5, [], .v (.int .i64 t_26)⟩, ⟨34, [], .v (.bool ((!t_16) || (decide (s1.1 > 0) && decide (((rd l0 (IntKind.i64.wrap (s1.1 - 1))).From) ≥ ((rd l0 s1.1).From)))))⟩, ⟨4, [], .p 0 0⟩, ⟨10, [], .v (.bool (decide (s1.1 < (l0.length : Int))))⟩, ⟨3, [], .v (.int .i64 s1.1)⟩, ⟨2, [], .v (.bool s1.2)⟩, ⟨0, [], .v (.slice A0 l0.length c0)⟩], [], [], [((((kd_Call).cells (rd l0 s1.1) sv_11).map EV.v), 42)], none, none⟩ [.call true 36 [.slice A0 l0.length c0, .int .i64 s1.1] (.int .i64 t_26)] (by kernel_rfl) ⟨ob_call (enters Try.func36 (by kernel_rfl) rfl) (fun hg wz hk => G_ref17_before.calls l0 s1.1 A0 c0 wz (S := fun _ => True) (Arr.any (Arr.keep hr0 (Lo.on hk))) hc0 _ hG_27), trivial⟩ (fun ns_28 a w_29 hI _ => ?_)
        refine wpIn_seq ?_
        refine seq_region (live := [44, 5, 34, 4, 10, 3, 2, 0]) (orc := []) hF hI ⟨[⟨44, [], .v (.bool (decide (t_26 < 0) && (((rd l0 s1.1).Own0) != 1)))⟩, ⟨5, [], .v (.int .i64 t_26)⟩, ⟨34, [], .v (.bool ((!t_16) || (decide (s1.1 > 0) && decide (((rd l0 (IntKind.i64.wrap (s1.1 - 1))).From) ≥ ((rd l0 s1.1).From)))))⟩, ⟨4, [], .p 0 0⟩, ⟨10, [], .v (.bool (decide (s1.1 < (l0.length : Int))))⟩, ⟨3, [], .v (.int .i64 s1.1)⟩, ⟨2, [], .v (.bool s1.2)⟩, ⟨0, [], .v (.slice A0 l0.length c0)⟩], [], [], [((((kd_Call).cells (rd l0 s1.1) sv_11).map EV.v), 42)], none, none⟩ [] (by kernel_rfl) trivial (fun ns_30 a w_31 hI _ => ?_)
        refine cond_ hI ((decide (t_26 < 0) && (((rd l0 s1.1).Own0) != 1))) rfl (fun hc_32 => ?_) (fun hc_32 => ?_)
        · replace H1 := bif_t hc_32 H1
          refine seq_region (live := [2, 44, 5, 34, 4, 10, 3, 0]) (orc := []) hF hI ⟨[⟨2, [], .v (.bool false)⟩, ⟨44, [], .v (.bool (decide (t_26 < 0) && (((rd l0 s1.1).Own0) != 1)))⟩, ⟨5, [], .v (.int .i64 t_26)⟩, ⟨34, [], .v (.bool ((!t_16) || (decide (s1.1 > 0) && decide (((rd l0 (IntKind.i64.wrap (s1.1 - 1))).From) ≥ ((rd l0 s1.1).From)))))⟩, ⟨4, [], .p 0 0⟩, ⟨10, [], .v (.bool (decide (s1.1 < (l0.length : Int))))⟩, ⟨3, [], .v (.int .i64 s1.1)⟩, ⟨0, [], .v (.slice A0 l0.length c0)⟩], [], [], [((((kd_Call).cells (rd l0 s1.1) sv_11).map EV.v), 42)], none, none⟩ [] (by kernel_rfl) trivial (fun ns_33 a w_34 hI _ => ?_)
          refine wpIn_ret ?_
          refine then_ret ?_
          refine inBlock_ret ?_
          refine then_ret ?_
          refine then_ret ?_
          obtain rfl := Option.some.inj H1
          refine .inr ⟨_, rfl, fun ho => ?_⟩
          subst ho
          refine inBlock_ret ?_
          refine then_ret ?_
          obtain rfl := Option.some.inj H0
          exact ret1 hI rfl rfl ⟨rfl, hE.below hI⟩
        · replace H1 := bif_f hc_32 H1
          refine wpIn_skip ?_
          refine then_normal ?_
          refine wpIn_seq ?_
          refine wpIn_seq ?_
          obtain ⟨hN_35, H1⟩ := req_some H1
          obtain ⟨sv_36, hE_38, hA_37⟩ := Arr.elB (d := kd_Call) hr0 t_26 (decide (t_26 ≥ 0)) (fun hg => imp_spec hN_35 hg)
          obtain ⟨t_39, hG_40, H1⟩ := bind_some H1
          obtain ⟨hN_41, H1⟩ := req_some H1
          obtain ⟨sv_42, hE_44, hA_43⟩ := Arr.elB (d := kd_Call) hr0 t_26 (decide (t_26 ≥ 0) && (!(!t_39))) (fun hg => imp_spec hN_41 hg)
          obtain ⟨hN_45, H1⟩ := req_some H1
          obtain ⟨sv_46, hE_48, hA_47⟩ := Arr.elB (d := kd_Call) hr0 t_26 (decide (t_26 ≥ 0) && (!((!t_39) || decide (((rd l0 t_26).T1) > ((rd l0 s1.1).T0))))) (fun hg => imp_spec hN_45 hg)
          refine drawn_ (live := [76, 44, 5, 34, 4, 10, 3, 2, 0]) (orc := [(kd_Call).cells (rd l0 t_26) sv_36, [.bool t_39], [.int .i64 ((rd l0 t_26).T1)], [.int .i64 ((rd l0 t_26).Own1)]]) hF hI ⟨[⟨76, [], .v (.bool (decide (t_26 ≥ 0) && (((!t_39) || decide (((rd l0 t_26).T1) > ((rd l0 s1.1).T0))) || ((IntKind.i64.wrap (((rd l0 s1.1).Own0) - ((rd l0 t_26).Own1))) != 1))))⟩, ⟨44, [], .v (.bool (decide (t_26 < 0) && (((rd l0 s1.1).Own0) != 1)))⟩, ⟨5, [], .v (.int .i64 t_26)⟩, ⟨34, [], .v (.bool ((!t_16) || (decide (s1.1 > 0) && decide (((rd l0 (IntKind.i64.wrap (s1.1 - 1))).From) ≥ ((rd l0 s1.1).From)))))⟩, ⟨4, [], .p 0 0⟩, ⟨10, [], .v (.bool (decide (s1.1 < (l0.length : Int))))⟩, ⟨3, [], .v (.int .i64 s1.1)⟩, ⟨2, [], .v (.bool s1.2)⟩, ⟨0, [], .v (.slice A0 l0.length c0)⟩], [], [], [((((kd_Call).cells (rd l0 s1.1) sv_11).map EV.v), 42)], none, none⟩ [.need (decide (t_26 ≥ 0)) (0 ≤ t_26 ∧ t_26 < (l0.length : Int)), .need (decide (t_26 ≥ 0)) (A0 = some (adr A0)), .cell (decide (t_26 ≥ 0)) ((adr A0).add ((t_26 : Int).toNat * 20)) ((kd_Call).cells (rd l0 t_26) sv_36), .call (decide (t_26 ≥ 0)) 21 [.agg ((kd_Call).cells (rd l0 t_26) (svL [((sv_36 0).1, (sv_36 0).2), ((sv_36 1).1, (sv_36 1).2)])).toArray, .agg ((kd_Call).cells (rd l0 s1.1) (svL [((sv_11 0).1, (sv_11 0).2), ((sv_11 1).1, (sv_11 1).2)])).toArray] (.bool t_39), .need (decide (t_26 ≥ 0) && (!(!t_39))) (0 ≤ t_26 ∧ t_26 < (l0.length : Int)), .need (decide (t_26 ≥ 0) && (!(!t_39))) (A0 = some (adr A0)), .cell (decide (t_26 ≥ 0) && (!(!t_39))) (((adr A0).add ((t_26 : Int).toNat * 20)).add 13) [.int .i64 ((rd l0 t_26).T1)], .need (decide (t_26 ≥ 0) && (!((!t_39) || decide (((rd l0 t_26).T1) > ((rd l0 s1.1).T0))))) (0 ≤ t_26 ∧ t_26 < (l0.length : Int)), .need (decide (t_26 ≥ 0) && (!((!t_39) || decide (((rd l0 t_26).T1) > ((rd l0 s1.1).T0))))) (A0 = some (adr A0)), .cell (decide (t_26 ≥ 0) && (!((!t_39) || decide (((rd l0 t_26).T1) > ((rd l0 s1.1).T0))))) (((adr A0).add ((t_26 : Int).toNat * 20)).add 15) [.int .i64 ((rd l0 t_26).Own1)]] (by kernel_rfl) (by kernel_rfl) (by kernel_rfl) ⟨ob_inb (fun hg => imp_spec hN_35 hg), hA_37, ob_el (fun hg => hE_38 hg) 0 ((kd_Call).cells (rd l0 t_26) sv_36) rfl, ob_call (enters Try.func21 (by kernel_rfl) rfl) (fun hg wz hk => G_ref17_Ahead.calls (rd l0 t_26) (rd l0 s1.1) (svL [((sv_36 0).1, (sv_36 0).2), ((sv_36 1).1, (sv_36 1).2)]) (svL [((sv_11 0).1, (sv_11 0).2), ((sv_11 1).1, (sv_11 1).2)]) wz (S := fun _ => True) (Kd.any _ (Kd.keep kd_Call (contI (S := Lo S w w [] []) (w := w) (d := kd_Call) (x := (rd l0 t_26)) (sv := (svL [((sv_36 0).1, (sv_36 0).2), ((sv_36 1).1, (sv_36 1).2)])) ⟨⟨((hE_38 hg)).cont.1.1, ((hE_38 hg)).cont.1.2⟩, ⟨((hE_38 hg)).cont.2.1.1, ((hE_38 hg)).cont.2.1.2⟩, trivial⟩) (Lo.on hk))) (Kd.any _ (Kd.keep kd_Call (contI (S := Lo S w w [] []) (w := w) (d := kd_Call) (x := (rd l0 s1.1)) (sv := (svL [((sv_11 0).1, (sv_11 0).2), ((sv_11 1).1, (sv_11 1).2)])) ⟨⟨(hE_13).cont.1.1, (hE_13).cont.1.2⟩, ⟨(hE_13).cont.2.1.1, (hE_13).cont.2.1.2⟩, trivial⟩) (Lo.on hk))) _ (cal_some hG_40 hg)), ob_inb (fun hg => imp_spec hN_41 hg), hA_43, ob_el (fun hg => hE_44 hg) 13 [.int .i64 ((rd l0 t_26).T1)] rfl, ob_inb (fun hg => imp_spec hN_45 hg), hA_47, ob_el (fun hg => hE_48 hg) 15 [.int .i64 ((rd l0 t_26).Own1)] rfl, trivial⟩ (fun a w_49 hI => ?_)
          refine then_normal ?_
          refine cond_ hI ((decide (t_26 ≥ 0) && (((!t_39) || decide (((rd l0 t_26).T1) > ((rd l0 s1.1).T0))) || ((IntKind.i64.wrap (((rd l0 s1.1).Own0) - ((rd l0 t_26).Own1))) != 1)))) rfl (fun hc_50 => ?_) (fun hc_50 => ?_)
          · replace H1 := bif_t hc_50 H1
            refine seq_region (live := [2, 76, 44, 5, 34, 4, 10, 3, 0]) (orc := []) hF hI ⟨[⟨2, [], .v (.bool false)⟩, ⟨76, [], .v (.bool (decide (t_26 ≥ 0) && (((!t_39) || decide (((rd l0 t_26).T1) > ((rd l0 s1.1).T0))) || ((IntKind.i64.wrap (((rd l0 s1.1).Own0) - ((rd l0 t_26).Own1))) != 1))))⟩, ⟨44, [], .v (.bool (decide (t_26 < 0) && (((rd l0 s1.1).Own0) != 1)))⟩, ⟨5, [], .v (.int .i64 t_26)⟩, ⟨34, [], .v (.bool ((!t_16) || (decide (s1.1 > 0) && decide (((rd l0 (IntKind.i64.wrap (s1.1 - 1))).From) ≥ ((rd l0 s1.1).From)))))⟩, ⟨4, [], .p 0 0⟩, ⟨10, [], .v (.bool (decide (s1.1 < (l0.length : Int))))⟩, ⟨3, [], .v (.int .i64 s1.1)⟩, ⟨0, [], .v (.slice A0 l0.length c0)⟩], [], [], [((((kd_Call).cells (rd l0 s1.1) sv_11).map EV.v), 42)], none, none⟩ [] (by kernel_rfl) trivial (fun ns_51 a w_52 hI _ => ?_)
            refine wpIn_ret ?_
            refine then_ret ?_
            refine inBlock_ret ?_
            refine then_ret ?_
            refine then_ret ?_
            obtain rfl := Option.some.inj H1
            refine .inr ⟨_, rfl, fun ho => ?_⟩
            subst ho
            refine inBlock_ret ?_
            refine then_ret ?_
            obtain rfl := Option.some.inj H0
            exact ret1 hI rfl rfl ⟨rfl, hE.below hI⟩
          · replace H1 := bif_f hc_50 H1
            refine wpIn_skip ?_
            refine then_normal ?_
            refine seq_region (live := [79, 76, 44, 5, 34, 4, 10, 3, 2, 0]) (orc := []) hF hI ⟨[⟨79, [], .v (.bool (((rd l0 s1.1).Saw) != (-1)))⟩, ⟨76, [], .v (.bool (decide (t_26 ≥ 0) && (((!t_39) || decide (((rd l0 t_26).T1) > ((rd l0 s1.1).T0))) || ((IntKind.i64.wrap (((rd l0 s1.1).Own0) - ((rd l0 t_26).Own1))) != 1))))⟩, ⟨44, [], .v (.bool (decide (t_26 < 0) && (((rd l0 s1.1).Own0) != 1)))⟩, ⟨5, [], .v (.int .i64 t_26)⟩, ⟨34, [], .v (.bool ((!t_16) || (decide (s1.1 > 0) && decide (((rd l0 (IntKind.i64.wrap (s1.1 - 1))).From) ≥ ((rd l0 s1.1).From)))))⟩, ⟨4, [], .p 0 0⟩, ⟨10, [], .v (.bool (decide (s1.1 < (l0.length : Int))))⟩, ⟨3, [], .v (.int .i64 s1.1)⟩, ⟨2, [], .v (.bool s1.2)⟩, ⟨0, [], .v (.slice A0 l0.length c0)⟩], [], [], [((((kd_Call).cells (rd l0 s1.1) sv_11).map EV.v), 42)], none, none⟩ [] (by kernel_rfl) trivial (fun ns_53 a w_54 hI _ => ?_)
            refine cond_ hI ((((rd l0 s1.1).Saw) != (-1))) rfl (fun hc_55 => ?_) (fun hc_55 => ?_)
            · replace H1 := bif_t hc_55 H1
              refine wpIn_seq ?_
              refine seq_region (live := [89, 79, 76, 44, 5, 34, 4, 10, 3, 2, 0]) (orc := []) hF hI ⟨[⟨89, [], .v (.bool (decide (((rd l0 s1.1).Saw) < 0) || decide (((rd l0 s1.1).Saw) ≥ (l0.length : Int))))⟩, ⟨79, [], .v (.bool (((rd l0 s1.1).Saw) != (-1)))⟩, ⟨76, [], .v (.bool (decide (t_26 ≥ 0) && (((!t_39) || decide (((rd l0 t_26).T1) > ((rd l0 s1.1).T0))) || ((IntKind.i64.wrap (((rd l0 s1.1).Own0) - ((rd l0 t_26).Own1))) != 1))))⟩, ⟨44, [], .v (.bool (decide (t_26 < 0) && (((rd l0 s1.1).Own0) != 1)))⟩, ⟨5, [], .v (.int .i64 t_26)⟩, ⟨34, [], .v (.bool ((!t_16) || (decide (s1.1 > 0) && decide (((rd l0 (IntKind.i64.wrap (s1.1 - 1))).From) ≥ ((rd l0 s1.1).From)))))⟩, ⟨4, [], .p 0 0⟩, ⟨10, [], .v (.bool (decide (s1.1 < (l0.length : Int))))⟩, ⟨3, [], .v (.int .i64 s1.1)⟩, ⟨2, [], .v (.bool s1.2)⟩, ⟨0, [], .v (.slice A0 l0.length c0)⟩], [], [], [((((kd_Call).cells (rd l0 s1.1) sv_11).map EV.v), 42)], none, none⟩ [] (by kernel_rfl) trivial (fun ns_56 a w_57 hI _ => ?_)
              refine cond_ hI ((decide (((rd l0 s1.1).Saw) < 0) || decide (((rd l0 s1.1).Saw) ≥ (l0.length : Int)))) rfl (fun hc_58 => ?_) (fun hc_58 => ?_)
              · replace H1 := bif_t hc_58 H1
                refine seq_region (live := [2, 89, 79, 76, 44, 5, 34, 4, 10, 3, 0]) (orc := []) hF hI ⟨[⟨2, [], .v (.bool false)⟩, ⟨89, [], .v (.bool (decide (((rd l0 s1.1).Saw) < 0) || decide (((rd l0 s1.1).Saw) ≥ (l0.length : Int))))⟩, ⟨79, [], .v (.bool (((rd l0 s1.1).Saw) != (-1)))⟩, ⟨76, [], .v (.bool (decide (t_26 ≥ 0) && (((!t_39) || decide (((rd l0 t_26).T1) > ((rd l0 s1.1).T0))) || ((IntKind.i64.wrap (((rd l0 s1.1).Own0) - ((rd l0 t_26).Own1))) != 1))))⟩, ⟨44, [], .v (.bool (decide (t_26 < 0) && (((rd l0 s1.1).Own0) != 1)))⟩, ⟨5, [], .v (.int .i64 t_26)⟩, ⟨34, [], .v (.bool ((!t_16) || (decide (s1.1 > 0) && decide (((rd l0 (IntKind.i64.wrap (s1.1 - 1))).From) ≥ ((rd l0 s1.1).From)))))⟩, ⟨4, [], .p 0 0⟩, ⟨10, [], .v (.bool (decide (s1.1 < (l0.length : Int))))⟩, ⟨3, [], .v (.int .i64 s1.1)⟩, ⟨0, [], .v (.slice A0 l0.length c0)⟩], [], [], [((((kd_Call).cells (rd l0 s1.1) sv_11).map EV.v), 42)], none, none⟩ [] (by kernel_rfl) trivial (fun ns_59 a w_60 hI _ => ?_)
                refine wpIn_ret ?_
                refine then_ret ?_
                refine inBlock_ret ?_
                refine then_ret ?_
                refine then_ret ?_
                obtain rfl := Option.some.inj H1
                refine .inr ⟨_, rfl, fun ho => ?_⟩
                subst ho
                refine inBlock_ret ?_
                refine then_ret ?_
                obtain rfl := Option.some.inj H0
                exact ret1 hI rfl rfl ⟨rfl, hE.below hI⟩
              · replace H1 := bif_f hc_58 H1
                refine wpIn_skip ?_
                refine then_normal ?_
                obtain ⟨hN_61, H1⟩ := req_some H1
                obtain ⟨sv_62, hE_64, hA_63⟩ := Arr.elB (d := kd_Call) hr0 ((rd l0 s1.1).Saw) true (fun _ => hN_61)
                replace hE_64 := hE_64 rfl
                replace hA_63 := fun (_ : true = true) => hA_63 rfl
                refine seq_region (live := [6, 89, 79, 76, 44, 5, 34, 4, 10, 3, 2, 0]) (orc := [(kd_Call).cells (rd l0 ((rd l0 s1.1).Saw)) sv_62]) hF hI ⟨[⟨6, [], .p 1 0⟩, ⟨89, [], .v (.bool (decide (((rd l0 s1.1).Saw) < 0) || decide (((rd l0 s1.1).Saw) ≥ (l0.length : Int))))⟩, ⟨79, [], .v (.bool (((rd l0 s1.1).Saw) != (-1)))⟩, ⟨76, [], .v (.bool (decide (t_26 ≥ 0) && (((!t_39) || decide (((rd l0 t_26).T1) > ((rd l0 s1.1).T0))) || ((IntKind.i64.wrap (((rd l0 s1.1).Own0) - ((rd l0 t_26).Own1))) != 1))))⟩, ⟨44, [], .v (.bool (decide (t_26 < 0) && (((rd l0 s1.1).Own0) != 1)))⟩, ⟨5, [], .v (.int .i64 t_26)⟩, ⟨34, [], .v (.bool ((!t_16) || (decide (s1.1 > 0) && decide (((rd l0 (IntKind.i64.wrap (s1.1 - 1))).From) ≥ ((rd l0 s1.1).From)))))⟩, ⟨4, [], .p 0 0⟩, ⟨10, [], .v (.bool (decide (s1.1 < (l0.length : Int))))⟩, ⟨3, [], .v (.int .i64 s1.1)⟩, ⟨2, [], .v (.bool s1.2)⟩, ⟨0, [], .v (.slice A0 l0.length c0)⟩], [], [], [((((kd_Call).cells (rd l0 s1.1) sv_11).map EV.v), 42), ((((kd_Call).cells (rd l0 ((rd l0 s1.1).Saw)) sv_62).map EV.v), 42)], none, none⟩ [.need true (0 ≤ ((rd l0 s1.1).Saw) ∧ ((rd l0 s1.1).Saw) < (l0.length : Int)), .need true (A0 = some (adr A0)), .cell true ((adr A0).add ((((rd l0 s1.1).Saw) : Int).toNat * 20)) ((kd_Call).cells (rd l0 ((rd l0 s1.1).Saw)) sv_62)] (by kernel_rfl) ⟨ob_inb (fun _ => hN_61), hA_63, ob_el (fun _ => hE_64) 0 ((kd_Call).cells (rd l0 ((rd l0 s1.1).Saw)) sv_62) rfl, trivial⟩ (fun ns_65 a w_66 hI _ => ?_)
                refine seq_region (live := [114, 6, 89, 79, 76, 44, 5, 34, 4, 10, 3, 2, 0]) (orc := []) hF hI ⟨[⟨114, [], .v (.bool (((((rd l0 ((rd l0 s1.1).Saw)).Req.Op) != 3) || decide (((rd l0 ((rd l0 s1.1).Saw)).Mark) < 0)) || ((rd l0 s1.1).Done && decide (((rd l0 ((rd l0 s1.1).Saw)).Mark) > ((rd l0 s1.1).To)))))⟩, ⟨6, [], .p 1 0⟩, ⟨89, [], .v (.bool (decide (((rd l0 s1.1).Saw) < 0) || decide (((rd l0 s1.1).Saw) ≥ (l0.length : Int))))⟩, ⟨79, [], .v (.bool (((rd l0 s1.1).Saw) != (-1)))⟩, ⟨76, [], .v (.bool (decide (t_26 ≥ 0) && (((!t_39) || decide (((rd l0 t_26).T1) > ((rd l0 s1.1).T0))) || ((IntKind.i64.wrap (((rd l0 s1.1).Own0) - ((rd l0 t_26).Own1))) != 1))))⟩, ⟨44, [], .v (.bool (decide (t_26 < 0) && (((rd l0 s1.1).Own0) != 1)))⟩, ⟨5, [], .v (.int .i64 t_26)⟩, ⟨34, [], .v (.bool ((!t_16) || (decide (s1.1 > 0) && decide (((rd l0 (IntKind.i64.wrap (s1.1 - 1))).From) ≥ ((rd l0 s1.1).From)))))⟩, ⟨4, [], .p 0 0⟩, ⟨10, [], .v (.bool (decide (s1.1 < (l0.length : Int))))⟩, ⟨3, [], .v (.int .i64 s1.1)⟩, ⟨2, [], .v (.bool s1.2)⟩, ⟨0, [], .v (.slice A0 l0.length c0)⟩], [], [], [((((kd_Call).cells (rd l0 s1.1) sv_11).map EV.v), 42), ((((kd_Call).cells (rd l0 ((rd l0 s1.1).Saw)) sv_62).map EV.v), 42)], none, none⟩ [] (by kernel_rfl) trivial (fun ns_67 a w_68 hI _ => ?_)
                refine cond_ hI ((((((rd l0 ((rd l0 s1.1).Saw)).Req.Op) != 3) || decide (((rd l0 ((rd l0 s1.1).Saw)).Mark) < 0)) || ((rd l0 s1.1).Done && decide (((rd l0 ((rd l0 s1.1).Saw)).Mark) > ((rd l0 s1.1).To))))) rfl (fun hc_69 => ?_) (fun hc_69 => ?_)
                · replace H1 := bif_t hc_69 H1
                  refine seq_region (live := [2, 114, 6, 89, 79, 76, 44, 5, 34, 4, 10, 3, 0]) (orc := []) hF hI ⟨[⟨2, [], .v (.bool false)⟩, ⟨114, [], .v (.bool (((((rd l0 ((rd l0 s1.1).Saw)).Req.Op) != 3) || decide (((rd l0 ((rd l0 s1.1).Saw)).Mark) < 0)) || ((rd l0 s1.1).Done && decide (((rd l0 ((rd l0 s1.1).Saw)).Mark) > ((rd l0 s1.1).To)))))⟩, ⟨6, [], .p 1 0⟩, ⟨89, [], .v (.bool (decide (((rd l0 s1.1).Saw) < 0) || decide (((rd l0 s1.1).Saw) ≥ (l0.length : Int))))⟩, ⟨79, [], .v (.bool (((rd l0 s1.1).Saw) != (-1)))⟩, ⟨76, [], .v (.bool (decide (t_26 ≥ 0) && (((!t_39) || decide (((rd l0 t_26).T1) > ((rd l0 s1.1).T0))) || ((IntKind.i64.wrap (((rd l0 s1.1).Own0) - ((rd l0 t_26).Own1))) != 1))))⟩, ⟨44, [], .v (.bool (decide (t_26 < 0) && (((rd l0 s1.1).Own0) != 1)))⟩, ⟨5, [], .v (.int .i64 t_26)⟩, ⟨34, [], .v (.bool ((!t_16) || (decide (s1.1 > 0) && decide (((rd l0 (IntKind.i64.wrap (s1.1 - 1))).From) ≥ ((rd l0 s1.1).From)))))⟩, ⟨4, [], .p 0 0⟩, ⟨10, [], .v (.bool (decide (s1.1 < (l0.length : Int))))⟩, ⟨3, [], .v (.int .i64 s1.1)⟩, ⟨0, [], .v (.slice A0 l0.length c0)⟩], [], [], [((((kd_Call).cells (rd l0 s1.1) sv_11).map EV.v), 42), ((((kd_Call).cells (rd l0 ((rd l0 s1.1).Saw)) sv_62).map EV.v), 42)], none, none⟩ [] (by kernel_rfl) trivial (fun ns_70 a w_71 hI _ => ?_)
                  refine wpIn_ret ?_
                  refine inBlock_ret ?_
                  refine then_ret ?_
                  refine then_ret ?_
                  obtain rfl := Option.some.inj H1
                  refine .inr ⟨_, rfl, fun ho => ?_⟩
                  subst ho
                  refine inBlock_ret ?_
                  refine then_ret ?_
                  obtain rfl := Option.some.inj H0
                  exact ret1 hI rfl rfl ⟨rfl, hE.below hI⟩
                · replace H1 := bif_f hc_69 H1
                  refine wpIn_skip ?_
                  refine inBlock_normal ?_
                  refine then_normal ?_
                  refine region_ (live := [3, 114, 6, 89, 79, 76, 44, 5, 34, 4, 10, 2, 0]) (orc := []) hF hI ⟨[⟨3, [], .v (.int .i64 (IntKind.i64.wrap (s1.1 + 1)))⟩, ⟨114, [], .v (.bool (((((rd l0 ((rd l0 s1.1).Saw)).Req.Op) != 3) || decide (((rd l0 ((rd l0 s1.1).Saw)).Mark) < 0)) || ((rd l0 s1.1).Done && decide (((rd l0 ((rd l0 s1.1).Saw)).Mark) > ((rd l0 s1.1).To)))))⟩, ⟨6, [], .p 1 0⟩, ⟨89, [], .v (.bool (decide (((rd l0 s1.1).Saw) < 0) || decide (((rd l0 s1.1).Saw) ≥ (l0.length : Int))))⟩, ⟨79, [], .v (.bool (((rd l0 s1.1).Saw) != (-1)))⟩, ⟨76, [], .v (.bool (decide (t_26 ≥ 0) && (((!t_39) || decide (((rd l0 t_26).T1) > ((rd l0 s1.1).T0))) || ((IntKind.i64.wrap (((rd l0 s1.1).Own0) - ((rd l0 t_26).Own1))) != 1))))⟩, ⟨44, [], .v (.bool (decide (t_26 < 0) && (((rd l0 s1.1).Own0) != 1)))⟩, ⟨5, [], .v (.int .i64 t_26)⟩, ⟨34, [], .v (.bool ((!t_16) || (decide (s1.1 > 0) && decide (((rd l0 (IntKind.i64.wrap (s1.1 - 1))).From) ≥ ((rd l0 s1.1).From)))))⟩, ⟨4, [], .p 0 0⟩, ⟨10, [], .v (.bool (decide (s1.1 < (l0.length : Int))))⟩, ⟨2, [], .v (.bool s1.2)⟩, ⟨0, [], .v (.slice A0 l0.length c0)⟩], [], [], [((((kd_Call).cells (rd l0 s1.1) sv_11).map EV.v), 42), ((((kd_Call).cells (rd l0 ((rd l0 s1.1).Saw)) sv_62).map EV.v), 42)], none, none⟩ [] (by kernel_rfl) trivial (fun ns_72 a w_73 hI _ => ?_)
                  refine then_normal ?_
                  obtain rfl := Option.some.inj H1
                  exact ⟨_, rfl, ⟨_, hI.pick [3, 2, 0] 0 ⟨[⟨3, [], .v (.int .i64 (IntKind.i64.wrap (s1.1 + 1)))⟩, ⟨2, [], .v (.bool s1.2)⟩, ⟨0, [], .v (.slice A0 l0.length c0)⟩], [], [], [], none, none⟩ (by kernel_rfl)⟩⟩
            · replace H1 := bif_f hc_55 H1
              refine wpIn_skip ?_
              refine inBlock_normal ?_
              refine then_normal ?_
              refine region_ (live := [3, 79, 76, 44, 5, 34, 4, 10, 2, 0]) (orc := []) hF hI ⟨[⟨3, [], .v (.int .i64 (IntKind.i64.wrap (s1.1 + 1)))⟩, ⟨79, [], .v (.bool (((rd l0 s1.1).Saw) != (-1)))⟩, ⟨76, [], .v (.bool (decide (t_26 ≥ 0) && (((!t_39) || decide (((rd l0 t_26).T1) > ((rd l0 s1.1).T0))) || ((IntKind.i64.wrap (((rd l0 s1.1).Own0) - ((rd l0 t_26).Own1))) != 1))))⟩, ⟨44, [], .v (.bool (decide (t_26 < 0) && (((rd l0 s1.1).Own0) != 1)))⟩, ⟨5, [], .v (.int .i64 t_26)⟩, ⟨34, [], .v (.bool ((!t_16) || (decide (s1.1 > 0) && decide (((rd l0 (IntKind.i64.wrap (s1.1 - 1))).From) ≥ ((rd l0 s1.1).From)))))⟩, ⟨4, [], .p 0 0⟩, ⟨10, [], .v (.bool (decide (s1.1 < (l0.length : Int))))⟩, ⟨2, [], .v (.bool s1.2)⟩, ⟨0, [], .v (.slice A0 l0.length c0)⟩], [], [], [((((kd_Call).cells (rd l0 s1.1) sv_11).map EV.v), 42)], none, none⟩ [] (by kernel_rfl) trivial (fun ns_74 a w_75 hI _ => ?_)
              refine then_normal ?_
              obtain rfl := Option.some.inj H1
              exact ⟨_, rfl, ⟨_, hI.pick [3, 2, 0] 0 ⟨[⟨3, [], .v (.int .i64 (IntKind.i64.wrap (s1.1 + 1)))⟩, ⟨2, [], .v (.bool s1.2)⟩, ⟨0, [], .v (.slice A0 l0.length c0)⟩], [], [], [], none, none⟩ (by kernel_rfl)⟩⟩
    · replace H1 := bif_f hc_9 H1
      refine wpIn_exit ?_
      refine then_exit ?_
      refine then_exit ?_
      obtain rfl := Option.some.inj H1
      exact .inl ⟨_, rfl, rfl, ⟨_, hI.pick [3, 2, 0] 0 ⟨[⟨3, [], .v (.int .i64 s1.1)⟩, ⟨2, [], .v (.bool s1.2)⟩, ⟨0, [], .v (.slice A0 l0.length c0)⟩], [], [], [], none, none⟩ (by kernel_rfl)⟩⟩
  · clear hI
    rintro s1 a w_78 ho ⟨ns_79, hI⟩
    subst ho
    replace H0 : (some true : Option (Bool)) = _ := H0
    refine then_normal ?_
    refine seq_region (live := [2, 3, 0]) (orc := []) hF hI ⟨[⟨2, [], .v (.bool true)⟩, ⟨3, [], .v (.int .i64 s1.1)⟩, ⟨0, [], .v (.slice A0 l0.length c0)⟩], [], [], [], none, none⟩ [] (by kernel_rfl) trivial (fun ns_80 a w_81 hI _ => ?_)
    refine wpIn_ret ?_
    obtain rfl := Option.some.inj H0
    exact ret1 hI rfl rfl ⟨rfl, hE.below hI⟩

/-! ### porthole/portholeref24.Small: function 15 -/
noncomputable def G_ref24_Small.b1 (l0 : (List Call)) (s1 : Int × Bool) : Option (Stp (Int × Bool) (Ex (Int × Bool) (Bool))) := (bif decide (s1.1 < (l0.length : Int)) then (req (inb s1.1 l0.length) (bif (((((decide (((rd l0 s1.1).T0) > 1099511627776) || decide (((rd l0 s1.1).T1) > 1099511627776)) || decide (((rd l0 s1.1).Stamp) > 1099511627776)) || decide (((rd l0 s1.1).Stamp) < (-1))) || decide (((rd l0 s1.1).T0) < 0)) || decide (((rd l0 s1.1).T1) < (-1))) then some (.out (.ret false)) else some (.next ((IntKind.i64.wrap (s1.1 + 1)), s1.2)))) else some (.out (.brk (s1.1, s1.2))))
noncomputable def G_ref24_Small (l0 : (List Call)) : Option (Bool) := ((loopω (G_ref24_Small.b1 l0) (0, false)).bind fun o => o.on (fun s1 => some true) (fun r => some r))
set_option maxRecDepth 100000 in
set_option maxHeartbeats 4000000 in
theorem G_ref24_Small.calls (l0 : (List Call)) (A0 : Option Addr) (c0 : Nat) (w : World) {S : Nat → Prop} (hr0 : Arr kd_Call S w A0 l0) (hc0 : l0.length ≤ c0) (r : Bool) (h : G_ref24_Small l0 = some r) :
    Calls Try.prog 15 #[.slice A0 l0.length c0] w fun e w' => e = .returned (.bool r) ∧ Below w.heap.size w w' := by
  replace hr0 := Arr.lo hr0
  unfold G_ref24_Small at h
  have H0 := h
  clear h
  refine enter Try.func15 rfl [.slice A0 l0.length c0] (n := 43) rfl (Nat.le_of_ble_eq_true rfl) (fun a hI => ?_)
  have hF : FOpen Fence.wide := .inl rfl
  have hE := Ep.start w
  refine seq_region (live := [2, 0]) (orc := []) hF hI ⟨[⟨2, [], .v (.bool false)⟩, ⟨0, [], .v (.slice A0 l0.length c0)⟩], [], [], [], none, none⟩ [] (by kernel_rfl) trivial (fun ns_1 a w_2 hI _ => ?_)
  refine wpIn_seq ?_
  refine seq_region (live := [3, 2, 0]) (orc := []) hF hI ⟨[⟨3, [], .v (.int .i64 0)⟩, ⟨2, [], .v (.bool false)⟩, ⟨0, [], .v (.slice A0 l0.length c0)⟩], [], [], [], none, none⟩ [] (by kernel_rfl) trivial (fun ns_3 a w_4 hI _ => ?_)
  obtain ⟨o_23, hL_24, H0⟩ := bind_some H0
  refine block_loop (fun s1 a w_29 => ∃ ns, St w [] 43 ⟨[⟨3, [], .v (.int .i64 s1.1)⟩, ⟨2, [], .v (.bool s1.2)⟩, ⟨0, [], .v (.slice A0 l0.length c0)⟩], [], [], [], none, none⟩ ns a w_29) (0, false) hL_24 ⟨_, hI.pick [3, 2, 0] 0 ⟨[⟨3, [], .v (.int .i64 0)⟩, ⟨2, [], .v (.bool false)⟩, ⟨0, [], .v (.slice A0 l0.length c0)⟩], [], [], [], none, none⟩ (by kernel_rfl)⟩ ?_ ?_
  · clear hI
    rintro s1 a w_5 ⟨ns_6, hI⟩ r1 H1
    unfold G_ref24_Small.b1 at H1
    refine wpIn_seq ?_
    refine seq_region (live := [8, 3, 2, 0]) (orc := []) hF hI ⟨[⟨8, [], .v (.bool (decide (s1.1 < (l0.length : Int))))⟩, ⟨3, [], .v (.int .i64 s1.1)⟩, ⟨2, [], .v (.bool s1.2)⟩, ⟨0, [], .v (.slice A0 l0.length c0)⟩], [], [], [], none, none⟩ [] (by kernel_rfl) trivial (fun ns_7 a w_8 hI _ => ?_)
    refine cond_ hI (decide (s1.1 < (l0.length : Int))) rfl (fun hc_9 => ?_) (fun hc_9 => ?_)
    · replace H1 := bif_t hc_9 H1
      refine wpIn_skip ?_
      refine then_normal ?_
      refine wpIn_seq ?_
      refine wpIn_block ?_
      obtain ⟨hN_10, H1⟩ := req_some H1
      obtain ⟨sv_11, hE_13, hA_12⟩ := Arr.elB (d := kd_Call) hr0 s1.1 true (fun _ => hN_10)
      replace hE_13 := hE_13 rfl
      replace hA_12 := fun (_ : true = true) => hA_12 rfl
      refine seq_region (live := [4, 8, 3, 2, 0]) (orc := [(kd_Call).cells (rd l0 s1.1) sv_11]) hF hI ⟨[⟨4, [], .p 0 0⟩, ⟨8, [], .v (.bool (decide (s1.1 < (l0.length : Int))))⟩, ⟨3, [], .v (.int .i64 s1.1)⟩, ⟨2, [], .v (.bool s1.2)⟩, ⟨0, [], .v (.slice A0 l0.length c0)⟩], [], [], [((((kd_Call).cells (rd l0 s1.1) sv_11).map EV.v), 42)], none, none⟩ [.need true (0 ≤ s1.1 ∧ s1.1 < (l0.length : Int)), .need true (A0 = some (adr A0)), .cell true ((adr A0).add ((s1.1 : Int).toNat * 20)) ((kd_Call).cells (rd l0 s1.1) sv_11)] (by kernel_rfl) ⟨ob_inb (fun _ => hN_10), hA_12, ob_el (fun _ => hE_13) 0 ((kd_Call).cells (rd l0 s1.1) sv_11) rfl, trivial⟩ (fun ns_14 a w_15 hI _ => ?_)
      refine seq_region (live := [42, 4, 8, 3, 2, 0]) (orc := []) hF hI ⟨[⟨42, [], .v (.bool (((((decide (((rd l0 s1.1).T0) > 1099511627776) || decide (((rd l0 s1.1).T1) > 1099511627776)) || decide (((rd l0 s1.1).Stamp) > 1099511627776)) || decide (((rd l0 s1.1).Stamp) < (-1))) || decide (((rd l0 s1.1).T0) < 0)) || decide (((rd l0 s1.1).T1) < (-1))))⟩, ⟨4, [], .p 0 0⟩, ⟨8, [], .v (.bool (decide (s1.1 < (l0.length : Int))))⟩, ⟨3, [], .v (.int .i64 s1.1)⟩, ⟨2, [], .v (.bool s1.2)⟩, ⟨0, [], .v (.slice A0 l0.length c0)⟩], [], [], [((((kd_Call).cells (rd l0 s1.1) sv_11).map EV.v), 42)], none, none⟩ [] (by kernel_rfl) trivial (fun ns_16 a w_17 hI _ => ?_)
      refine cond_ hI ((((((decide (((rd l0 s1.1).T0) > 1099511627776) || decide (((rd l0 s1.1).T1) > 1099511627776)) || decide (((rd l0 s1.1).Stamp) > 1099511627776)) || decide (((rd l0 s1.1).Stamp) < (-1))) || decide (((rd l0 s1.1).T0) < 0)) || decide (((rd l0 s1.1).T1) < (-1)))) rfl (fun hc_18 => ?_) (fun hc_18 => ?_)
      · replace H1 := bif_t hc_18 H1
        refine seq_region (live := [2, 42, 4, 8, 3, 0]) (orc := []) hF hI ⟨[⟨2, [], .v (.bool false)⟩, ⟨42, [], .v (.bool (((((decide (((rd l0 s1.1).T0) > 1099511627776) || decide (((rd l0 s1.1).T1) > 1099511627776)) || decide (((rd l0 s1.1).Stamp) > 1099511627776)) || decide (((rd l0 s1.1).Stamp) < (-1))) || decide (((rd l0 s1.1).T0) < 0)) || decide (((rd l0 s1.1).T1) < (-1))))⟩, ⟨4, [], .p 0 0⟩, ⟨8, [], .v (.bool (decide (s1.1 < (l0.length : Int))))⟩, ⟨3, [], .v (.int .i64 s1.1)⟩, ⟨0, [], .v (.slice A0 l0.length c0)⟩], [], [], [((((kd_Call).cells (rd l0 s1.1) sv_11).map EV.v), 42)], none, none⟩ [] (by kernel_rfl) trivial (fun ns_19 a w_20 hI _ => ?_)
        refine wpIn_ret ?_
        refine inBlock_ret ?_
        refine then_ret ?_
        refine then_ret ?_
        obtain rfl := Option.some.inj H1
        refine .inr ⟨_, rfl, fun ho => ?_⟩
        subst ho
        refine inBlock_ret ?_
        refine then_ret ?_
        obtain rfl := Option.some.inj H0
        exact ret1 hI rfl rfl ⟨rfl, hE.below hI⟩
      · replace H1 := bif_f hc_18 H1
        refine wpIn_skip ?_
        refine inBlock_normal ?_
        refine then_normal ?_
        refine region_ (live := [3, 42, 4, 8, 2, 0]) (orc := []) hF hI ⟨[⟨3, [], .v (.int .i64 (IntKind.i64.wrap (s1.1 + 1)))⟩, ⟨42, [], .v (.bool (((((decide (((rd l0 s1.1).T0) > 1099511627776) || decide (((rd l0 s1.1).T1) > 1099511627776)) || decide (((rd l0 s1.1).Stamp) > 1099511627776)) || decide (((rd l0 s1.1).Stamp) < (-1))) || decide (((rd l0 s1.1).T0) < 0)) || decide (((rd l0 s1.1).T1) < (-1))))⟩, ⟨4, [], .p 0 0⟩, ⟨8, [], .v (.bool (decide (s1.1 < (l0.length : Int))))⟩, ⟨2, [], .v (.bool s1.2)⟩, ⟨0, [], .v (.slice A0 l0.length c0)⟩], [], [], [((((kd_Call).cells (rd l0 s1.1) sv_11).map EV.v), 42)], none, none⟩ [] (by kernel_rfl) trivial (fun ns_21 a w_22 hI _ => ?_)
        refine then_normal ?_
        obtain rfl := Option.some.inj H1
        exact ⟨_, rfl, ⟨_, hI.pick [3, 2, 0] 0 ⟨[⟨3, [], .v (.int .i64 (IntKind.i64.wrap (s1.1 + 1)))⟩, ⟨2, [], .v (.bool s1.2)⟩, ⟨0, [], .v (.slice A0 l0.length c0)⟩], [], [], [], none, none⟩ (by kernel_rfl)⟩⟩
    · replace H1 := bif_f hc_9 H1
      refine wpIn_exit ?_
      refine then_exit ?_
      refine then_exit ?_
      obtain rfl := Option.some.inj H1
      exact .inl ⟨_, rfl, rfl, ⟨_, hI.pick [3, 2, 0] 0 ⟨[⟨3, [], .v (.int .i64 s1.1)⟩, ⟨2, [], .v (.bool s1.2)⟩, ⟨0, [], .v (.slice A0 l0.length c0)⟩], [], [], [], none, none⟩ (by kernel_rfl)⟩⟩
  · clear hI
    rintro s1 a w_25 ho ⟨ns_26, hI⟩
    subst ho
    replace H0 : (some true : Option (Bool)) = _ := H0
    refine then_normal ?_
    refine seq_region (live := [2, 3, 0]) (orc := []) hF hI ⟨[⟨2, [], .v (.bool true)⟩, ⟨3, [], .v (.int .i64 s1.1)⟩, ⟨0, [], .v (.slice A0 l0.length c0)⟩], [], [], [], none, none⟩ [] (by kernel_rfl) trivial (fun ns_27 a w_28 hI _ => ?_)
    refine wpIn_ret ?_
    obtain rfl := Option.some.inj H0
    exact ret1 hI rfl rfl ⟨rfl, hE.below hI⟩

/-! ### porthole/hist.Place: function 26 -/
noncomputable def G_hist_Place (l0 : (List Call)) (a1 : Int) : Option (Int × Bool × Bool) := (bif (decide (a1 < 0) || decide (a1 ≥ (l0.length : Int))) then some (0, false, false) else (req (inb a1 l0.length) (bif decide (((rd l0 a1).Mark) ≥ 0) then some ((rd l0 a1).Mark, false, true) else (bif ((!((rd l0 a1).Done)) || (((rd l0 a1).Req.Op) != 4)) then some (0, false, false) else (bif (decide (((rd l0 a1).Saw) < 0) || decide (((rd l0 a1).Saw) ≥ (l0.length : Int))) then some ((rd l0 a1).From, true, true) else (req (inb ((rd l0 a1).Saw) l0.length) (some ((mxI ((rd l0 a1).From) ((rd l0 ((rd l0 a1).Saw)).Mark)), true, true))))))))
set_option maxRecDepth 100000 in
set_option maxHeartbeats 4000000 in
theorem G_hist_Place.calls (l0 : (List Call)) (a1 : Int) (A0 : Option Addr) (c0 : Nat) (w : World) {S : Nat → Prop} (hr0 : Arr kd_Call S w A0 l0) (hc0 : l0.length ≤ c0) (r : Int × Bool × Bool) (h : G_hist_Place l0 a1 = some r) :
    Calls Try.prog 26 #[.slice A0 l0.length c0, .int .i64 a1] w fun e w' => e = .returned (.tuple #[.int .i64 r.1, .bool r.2.1, .bool r.2.2]) ∧ Below w.heap.size w w' := by
  replace hr0 := Arr.lo hr0
  unfold G_hist_Place at h
  have H0 := h
  clear h
  refine enter Try.func26 rfl [.slice A0 l0.length c0, .int .i64 a1] (n := 58) rfl (Nat.le_of_ble_eq_true rfl) (fun a hI => ?_)
  have hF : FOpen Fence.wide := .inl rfl
  have hE := Ep.start w
  refine seq_region (live := [6, 5, 4, 0, 1]) (orc := []) hF hI ⟨[⟨6, [], .v (.bool false)⟩, ⟨5, [], .v (.bool false)⟩, ⟨4, [], .v (.int .i64 0)⟩, ⟨0, [], .v (.slice A0 l0.length c0)⟩, ⟨1, [], .v (.int .i64 a1)⟩], [], [], [], none, none⟩ [] (by kernel_rfl) trivial (fun ns_1 a w_2 hI _ => ?_)
  refine wpIn_seq ?_
  refine seq_region (live := [15, 6, 5, 4, 0, 1]) (orc := []) hF hI ⟨[⟨15, [], .v (.bool (decide (a1 < 0) || decide (a1 ≥ (l0.length : Int))))⟩, ⟨6, [], .v (.bool false)⟩, ⟨5, [], .v (.bool false)⟩, ⟨4, [], .v (.int .i64 0)⟩, ⟨0, [], .v (.slice A0 l0.length c0)⟩, ⟨1, [], .v (.int .i64 a1)⟩], [], [], [], none, none⟩ [] (by kernel_rfl) trivial (fun ns_3 a w_4 hI _ => ?_)
  refine cond_ hI ((decide (a1 < 0) || decide (a1 ≥ (l0.length : Int)))) rfl (fun hc_5 => ?_) (fun hc_5 => ?_)
  · replace H0 := bif_t hc_5 H0
    refine seq_region (live := [6, 5, 4, 15, 0, 1]) (orc := []) hF hI ⟨[⟨6, [], .v (.bool false)⟩, ⟨5, [], .v (.bool false)⟩, ⟨4, [], .v (.int .i64 0)⟩, ⟨15, [], .v (.bool (decide (a1 < 0) || decide (a1 ≥ (l0.length : Int))))⟩, ⟨0, [], .v (.slice A0 l0.length c0)⟩, ⟨1, [], .v (.int .i64 a1)⟩], [], [], [], none, none⟩ [] (by kernel_rfl) trivial (fun ns_6 a w_7 hI _ => ?_)
    refine wpIn_ret ?_
    refine then_ret ?_
    obtain rfl := Option.some.inj H0
    exact ret3 hI rfl rfl rfl rfl ⟨rfl, hE.below hI⟩
  · replace H0 := bif_f hc_5 H0
    refine wpIn_skip ?_
    refine then_normal ?_
    obtain ⟨hN_8, H0⟩ := req_some H0
    obtain ⟨sv_9, hE_11, hA_10⟩ := Arr.elB (d := kd_Call) hr0 a1 true (fun _ => hN_8)
    replace hE_11 := hE_11 rfl
    replace hA_10 := fun (_ : true = true) => hA_10 rfl
    refine seq_region (live := [7, 15, 6, 5, 4, 0, 1]) (orc := [(kd_Call).cells (rd l0 a1) sv_9]) hF hI ⟨[⟨7, [], .p 0 0⟩, ⟨15, [], .v (.bool (decide (a1 < 0) || decide (a1 ≥ (l0.length : Int))))⟩, ⟨6, [], .v (.bool false)⟩, ⟨5, [], .v (.bool false)⟩, ⟨4, [], .v (.int .i64 0)⟩, ⟨0, [], .v (.slice A0 l0.length c0)⟩, ⟨1, [], .v (.int .i64 a1)⟩], [], [], [((((kd_Call).cells (rd l0 a1) sv_9).map EV.v), 42)], none, none⟩ [.need true (0 ≤ a1 ∧ a1 < (l0.length : Int)), .need true (A0 = some (adr A0)), .cell true ((adr A0).add ((a1 : Int).toNat * 20)) ((kd_Call).cells (rd l0 a1) sv_9)] (by kernel_rfl) ⟨ob_inb (fun _ => hN_8), hA_10, ob_el (fun _ => hE_11) 0 ((kd_Call).cells (rd l0 a1) sv_9) rfl, trivial⟩ (fun ns_12 a w_13 hI _ => ?_)
    refine wpIn_seq ?_
    refine wpIn_block ?_
    refine seq_region (live := [20, 7, 15, 6, 5, 4, 0, 1]) (orc := []) hF hI ⟨[⟨20, [], .v (.bool (decide (((rd l0 a1).Mark) ≥ 0)))⟩, ⟨7, [], .p 0 0⟩, ⟨15, [], .v (.bool (decide (a1 < 0) || decide (a1 ≥ (l0.length : Int))))⟩, ⟨6, [], .v (.bool false)⟩, ⟨5, [], .v (.bool false)⟩, ⟨4, [], .v (.int .i64 0)⟩, ⟨0, [], .v (.slice A0 l0.length c0)⟩, ⟨1, [], .v (.int .i64 a1)⟩], [], [], [((((kd_Call).cells (rd l0 a1) sv_9).map EV.v), 42)], none, none⟩ [] (by kernel_rfl) trivial (fun ns_14 a w_15 hI _ => ?_)
    refine cond_ hI (decide (((rd l0 a1).Mark) ≥ 0)) rfl (fun hc_16 => ?_) (fun hc_16 => ?_)
    · replace H0 := bif_t hc_16 H0
      refine seq_region (live := [6, 5, 4, 20, 7, 15, 0, 1]) (orc := []) hF hI ⟨[⟨6, [], .v (.bool true)⟩, ⟨5, [], .v (.bool false)⟩, ⟨4, [], .v (.int .i64 ((rd l0 a1).Mark))⟩, ⟨20, [], .v (.bool (decide (((rd l0 a1).Mark) ≥ 0)))⟩, ⟨7, [], .p 0 0⟩, ⟨15, [], .v (.bool (decide (a1 < 0) || decide (a1 ≥ (l0.length : Int))))⟩, ⟨0, [], .v (.slice A0 l0.length c0)⟩, ⟨1, [], .v (.int .i64 a1)⟩], [], [], [((((kd_Call).cells (rd l0 a1) sv_9).map EV.v), 42)], none, none⟩ [] (by kernel_rfl) trivial (fun ns_17 a w_18 hI _ => ?_)
      refine wpIn_ret ?_
      refine inBlock_ret ?_
      refine then_ret ?_
      obtain rfl := Option.some.inj H0
      exact ret3 hI rfl rfl rfl rfl ⟨rfl, hE.below hI⟩
    · replace H0 := bif_f hc_16 H0
      refine seq_region (live := [26, 20, 7, 15, 6, 5, 4, 0, 1]) (orc := []) hF hI ⟨[⟨26, [], .v (.bool ((!((rd l0 a1).Done)) || (((rd l0 a1).Req.Op) != 4)))⟩, ⟨20, [], .v (.bool (decide (((rd l0 a1).Mark) ≥ 0)))⟩, ⟨7, [], .p 0 0⟩, ⟨15, [], .v (.bool (decide (a1 < 0) || decide (a1 ≥ (l0.length : Int))))⟩, ⟨6, [], .v (.bool false)⟩, ⟨5, [], .v (.bool false)⟩, ⟨4, [], .v (.int .i64 0)⟩, ⟨0, [], .v (.slice A0 l0.length c0)⟩, ⟨1, [], .v (.int .i64 a1)⟩], [], [], [((((kd_Call).cells (rd l0 a1) sv_9).map EV.v), 42)], none, none⟩ [] (by kernel_rfl) trivial (fun ns_19 a w_20 hI _ => ?_)
      refine cond_ hI (((!((rd l0 a1).Done)) || (((rd l0 a1).Req.Op) != 4))) rfl (fun hc_21 => ?_) (fun hc_21 => ?_)
      · replace H0 := bif_t hc_21 H0
        refine seq_region (live := [6, 5, 4, 26, 20, 7, 15, 0, 1]) (orc := []) hF hI ⟨[⟨6, [], .v (.bool false)⟩, ⟨5, [], .v (.bool false)⟩, ⟨4, [], .v (.int .i64 0)⟩, ⟨26, [], .v (.bool ((!((rd l0 a1).Done)) || (((rd l0 a1).Req.Op) != 4)))⟩, ⟨20, [], .v (.bool (decide (((rd l0 a1).Mark) ≥ 0)))⟩, ⟨7, [], .p 0 0⟩, ⟨15, [], .v (.bool (decide (a1 < 0) || decide (a1 ≥ (l0.length : Int))))⟩, ⟨0, [], .v (.slice A0 l0.length c0)⟩, ⟨1, [], .v (.int .i64 a1)⟩], [], [], [((((kd_Call).cells (rd l0 a1) sv_9).map EV.v), 42)], none, none⟩ [] (by kernel_rfl) trivial (fun ns_22 a w_23 hI _ => ?_)
        refine wpIn_ret ?_
        refine inBlock_ret ?_
        refine then_ret ?_
        obtain rfl := Option.some.inj H0
        exact ret3 hI rfl rfl rfl rfl ⟨rfl, hE.below hI⟩
      · replace H0 := bif_f hc_21 H0
        refine seq_region (live := [36, 26, 20, 7, 15, 6, 5, 4, 0, 1]) (orc := []) hF hI ⟨[⟨36, [], .v (.bool (decide (((rd l0 a1).Saw) < 0) || decide (((rd l0 a1).Saw) ≥ (l0.length : Int))))⟩, ⟨26, [], .v (.bool ((!((rd l0 a1).Done)) || (((rd l0 a1).Req.Op) != 4)))⟩, ⟨20, [], .v (.bool (decide (((rd l0 a1).Mark) ≥ 0)))⟩, ⟨7, [], .p 0 0⟩, ⟨15, [], .v (.bool (decide (a1 < 0) || decide (a1 ≥ (l0.length : Int))))⟩, ⟨6, [], .v (.bool false)⟩, ⟨5, [], .v (.bool false)⟩, ⟨4, [], .v (.int .i64 0)⟩, ⟨0, [], .v (.slice A0 l0.length c0)⟩, ⟨1, [], .v (.int .i64 a1)⟩], [], [], [((((kd_Call).cells (rd l0 a1) sv_9).map EV.v), 42)], none, none⟩ [] (by kernel_rfl) trivial (fun ns_24 a w_25 hI _ => ?_)
        refine cond_ hI ((decide (((rd l0 a1).Saw) < 0) || decide (((rd l0 a1).Saw) ≥ (l0.length : Int)))) rfl (fun hc_26 => ?_) (fun hc_26 => ?_)
        · replace H0 := bif_t hc_26 H0
          refine seq_region (live := [6, 5, 4, 36, 26, 20, 7, 15, 0, 1]) (orc := []) hF hI ⟨[⟨6, [], .v (.bool true)⟩, ⟨5, [], .v (.bool true)⟩, ⟨4, [], .v (.int .i64 ((rd l0 a1).From))⟩, ⟨36, [], .v (.bool (decide (((rd l0 a1).Saw) < 0) || decide (((rd l0 a1).Saw) ≥ (l0.length : Int))))⟩, ⟨26, [], .v (.bool ((!((rd l0 a1).Done)) || (((rd l0 a1).Req.Op) != 4)))⟩, ⟨20, [], .v (.bool (decide (((rd l0 a1).Mark) ≥ 0)))⟩, ⟨7, [], .p 0 0⟩, ⟨15, [], .v (.bool (decide (a1 < 0) || decide (a1 ≥ (l0.length : Int))))⟩, ⟨0, [], .v (.slice A0 l0.length c0)⟩, ⟨1, [], .v (.int .i64 a1)⟩], [], [], [((((kd_Call).cells (rd l0 a1) sv_9).map EV.v), 42)], none, none⟩ [] (by kernel_rfl) trivial (fun ns_27 a w_28 hI _ => ?_)
          refine wpIn_ret ?_
          refine inBlock_ret ?_
          refine then_ret ?_
          obtain rfl := Option.some.inj H0
          exact ret3 hI rfl rfl rfl rfl ⟨rfl, hE.below hI⟩
        · replace H0 := bif_f hc_26 H0
          refine wpIn_skip ?_
          refine inBlock_normal ?_
          refine then_normal ?_
          refine wpIn_seq ?_
          obtain ⟨hN_29, H0⟩ := req_some H0
          obtain ⟨sv_30, hE_32, hA_31⟩ := Arr.elB (d := kd_Call) hr0 ((rd l0 a1).Saw) true (fun _ => hN_29)
          replace hE_32 := hE_32 rfl
          replace hA_31 := fun (_ : true = true) => hA_31 rfl
          refine drawn_ (live := [6, 5, 4, 36, 26, 20, 7, 15, 0, 1]) (orc := [[.int .i64 ((rd l0 ((rd l0 a1).Saw)).Mark)]]) hF hI ⟨[⟨6, [], .v (.bool true)⟩, ⟨5, [], .v (.bool true)⟩, ⟨4, [], .v (.int .i64 (mxI ((rd l0 a1).From) ((rd l0 ((rd l0 a1).Saw)).Mark)))⟩, ⟨36, [], .v (.bool (decide (((rd l0 a1).Saw) < 0) || decide (((rd l0 a1).Saw) ≥ (l0.length : Int))))⟩, ⟨26, [], .v (.bool ((!((rd l0 a1).Done)) || (((rd l0 a1).Req.Op) != 4)))⟩, ⟨20, [], .v (.bool (decide (((rd l0 a1).Mark) ≥ 0)))⟩, ⟨7, [], .p 0 0⟩, ⟨15, [], .v (.bool (decide (a1 < 0) || decide (a1 ≥ (l0.length : Int))))⟩, ⟨0, [], .v (.slice A0 l0.length c0)⟩, ⟨1, [], .v (.int .i64 a1)⟩], [], [], [((((kd_Call).cells (rd l0 a1) sv_9).map EV.v), 42)], none, none⟩ [.need true (0 ≤ ((rd l0 a1).Saw) ∧ ((rd l0 a1).Saw) < (l0.length : Int)), .need true (A0 = some (adr A0)), .cell true (((adr A0).add ((((rd l0 a1).Saw) : Int).toNat * 20)).add 16) [.int .i64 ((rd l0 ((rd l0 a1).Saw)).Mark)]] (by kernel_rfl) (by kernel_rfl) (by kernel_rfl) ⟨ob_inb (fun _ => hN_29), hA_31, ob_el (fun _ => hE_32) 16 [.int .i64 ((rd l0 ((rd l0 a1).Saw)).Mark)] rfl, trivial⟩ (fun a w_33 hI => ?_)
          refine then_normal ?_
          refine wpIn_ret ?_
          obtain rfl := Option.some.inj H0
          exact ret3 hI rfl rfl rfl rfl ⟨rfl, hE.below hI⟩

/-! ### porthole/stamp.Last: function 16 -/
noncomputable def G_stamp_Last.b1 (l0 : (List Call)) (a1 : Int) (a2 : Int) (t_3 : Int × Bool × Bool) (s1 : Int × Int) : Option (Stp (Int × Int) (Ex (Int × Int) (Int × Bool))) := (bif decide (s1.1 < (l0.length : Int)) then (req (inb s1.1 l0.length) (bif ((((((!t_3.2.2) || (((rd l0 s1.1).Req.Op) != 3)) || (((rd l0 s1.1).Req.Port) != (IntKind.i64.wrap (2 * a1)))) || ((rd l0 s1.1).Done && (((rd l0 s1.1).Ans.Code) != 0))) || decide (((rd l0 s1.1).Mark) < 0)) || decide (((rd l0 s1.1).Mark) > t_3.1)) then some (.next ((IntKind.i64.wrap (s1.1 + 1)), s1.2)) else (req (imp (!(decide (s1.2 < 0))) (inb s1.2 l0.length)) (some (.next ((IntKind.i64.wrap (s1.1 + 1)), (bif (decide (s1.2 < 0) || decide (((rd l0 s1.1).Mark) > ((rd l0 s1.2).Mark))) then s1.1 else s1.2))))))) else some (.out (.brk (s1.1, s1.2))))
noncomputable def G_stamp_Last (l0 : (List Call)) (a1 : Int) (a2 : Int) : Option (Int × Bool) := ((G_hist_Place l0 a2).bind fun t_3 => ((loopω (G_stamp_Last.b1 l0 a1 a2 t_3) (0, (-1))).bind fun o => o.on (fun s1 => some ((mxI s1.2 0), decide (s1.2 ≥ 0))) (fun r => some r)))
set_option maxRecDepth 100000 in
set_option maxHeartbeats 4000000 in
theorem G_stamp_Last.calls (l0 : (List Call)) (a1 : Int) (a2 : Int) (A0 : Option Addr) (c0 : Nat) (w : World) {S : Nat → Prop} (hr0 : Arr kd_Call S w A0 l0) (hc0 : l0.length ≤ c0) (r : Int × Bool) (h : G_stamp_Last l0 a1 a2 = some r) :
    Calls Try.prog 16 #[.slice A0 l0.length c0, .int .i64 a1, .int .i64 a2] w fun e w' => e = .returned (.tuple #[.int .i64 r.1, .bool r.2]) ∧ Below w.heap.size w w' := by
  replace hr0 := Arr.lo hr0
  unfold G_stamp_Last at h
  have H0 := h
  clear h
  refine enter Try.func16 rfl [.slice A0 l0.length c0, .int .i64 a1, .int .i64 a2] (n := 85) rfl (Nat.le_of_ble_eq_true rfl) (fun a hI => ?_)
  have hF : FOpen Fence.wide := .inl rfl
  have hE := Ep.start w
  refine seq_region (live := [7, 6, 0, 1, 2]) (orc := []) hF hI ⟨[⟨7, [], .v (.bool false)⟩, ⟨6, [], .v (.int .i64 0)⟩, ⟨0, [], .v (.slice A0 l0.length c0)⟩, ⟨1, [], .v (.int .i64 a1)⟩, ⟨2, [], .v (.int .i64 a2)⟩], [], [], [], none, none⟩ [] (by kernel_rfl) trivial (fun ns_1 a w_2 hI _ => ?_)
  obtain ⟨t_3, hG_4, H0⟩ := bind_some H0
  refine seq_region (live := [10, 8, 7, 6, 0, 1, 2]) (orc := [[.tuple #[.int .i64 t_3.1, .bool t_3.2.1, .bool t_3.2.2]]]) hF hI ⟨[⟨10, [], .v (.bool t_3.2.2)⟩, ⟨8, [], .v (.int .i64 t_3.1)⟩, ⟨7, [], .v (.bool false)⟩, ⟨6, [], .v (.int .i64 0)⟩, ⟨0, [], .v (.slice A0 l0.length c0)⟩, ⟨1, [], .v (.int .i64 a1)⟩, ⟨2, [], .v (.int .i64 a2)⟩], [], [], [], none, none⟩ [.call true 26 [.slice A0 l0.length c0, .int .i64 a2] (.tuple #[.int .i64 t_3.1, .bool t_3.2.1, .bool t_3.2.2])] (by kernel_rfl) ⟨ob_call (enters Try.func26 (by kernel_rfl) rfl) (fun hg wz hk => G_hist_Place.calls l0 a2 A0 c0 wz (S := fun _ => True) (Arr.any (Arr.keep hr0 (Lo.on hk))) hc0 _ hG_4), trivial⟩ (fun ns_5 a w_6 hI _ => ?_)
  refine seq_region (live := [11, 10, 8, 7, 6, 0, 1, 2]) (orc := []) hF hI ⟨[⟨11, [], .v (.int .i64 (-1))⟩, ⟨10, [], .v (.bool t_3.2.2)⟩, ⟨8, [], .v (.int .i64 t_3.1)⟩, ⟨7, [], .v (.bool false)⟩, ⟨6, [], .v (.int .i64 0)⟩, ⟨0, [], .v (.slice A0 l0.length c0)⟩, ⟨1, [], .v (.int .i64 a1)⟩, ⟨2, [], .v (.int .i64 a2)⟩], [], [], [], none, none⟩ [] (by kernel_rfl) trivial (fun ns_7 a w_8 hI _ => ?_)
  refine wpIn_seq ?_
  refine seq_region (live := [24, 23, 22, 11, 10, 8, 7, 6, 0, 1, 2]) (orc := []) hF hI ⟨[⟨24, [], .v (.int .i64 0)⟩, ⟨23, [], .v (.int .i64 (l0.length : Int))⟩, ⟨22, [], .v (.slice A0 l0.length c0)⟩, ⟨11, [], .v (.int .i64 (-1))⟩, ⟨10, [], .v (.bool t_3.2.2)⟩, ⟨8, [], .v (.int .i64 t_3.1)⟩, ⟨7, [], .v (.bool false)⟩, ⟨6, [], .v (.int .i64 0)⟩, ⟨0, [], .v (.slice A0 l0.length c0)⟩, ⟨1, [], .v (.int .i64 a1)⟩, ⟨2, [], .v (.int .i64 a2)⟩], [], [], [], none, none⟩ [] (by kernel_rfl) trivial (fun ns_9 a w_10 hI _ => ?_)
  obtain ⟨o_53, hL_54, H0⟩ := bind_some H0
  refine block_loop (fun s1 a w_59 => ∃ ns, St w [] 85 ⟨[⟨24, [], .v (.int .i64 s1.1)⟩, ⟨23, [], .v (.int .i64 (l0.length : Int))⟩, ⟨22, [], .v (.slice A0 l0.length c0)⟩, ⟨11, [], .v (.int .i64 s1.2)⟩, ⟨10, [], .v (.bool t_3.2.2)⟩, ⟨8, [], .v (.int .i64 t_3.1)⟩, ⟨7, [], .v (.bool false)⟩, ⟨6, [], .v (.int .i64 0)⟩, ⟨0, [], .v (.slice A0 l0.length c0)⟩, ⟨1, [], .v (.int .i64 a1)⟩, ⟨2, [], .v (.int .i64 a2)⟩], [], [], [], none, none⟩ ns a w_59) (0, (-1)) hL_54 ⟨_, hI.pick [24, 23, 22, 11, 10, 8, 7, 6, 0, 1, 2] 0 ⟨[⟨24, [], .v (.int .i64 0)⟩, ⟨23, [], .v (.int .i64 (l0.length : Int))⟩, ⟨22, [], .v (.slice A0 l0.length c0)⟩, ⟨11, [], .v (.int .i64 (-1))⟩, ⟨10, [], .v (.bool t_3.2.2)⟩, ⟨8, [], .v (.int .i64 t_3.1)⟩, ⟨7, [], .v (.bool false)⟩, ⟨6, [], .v (.int .i64 0)⟩, ⟨0, [], .v (.slice A0 l0.length c0)⟩, ⟨1, [], .v (.int .i64 a1)⟩, ⟨2, [], .v (.int .i64 a2)⟩], [], [], [], none, none⟩ (by kernel_rfl)⟩ ?_ ?_
  · clear hI
    rintro s1 a w_11 ⟨ns_12, hI⟩ r1 H1
    unfold G_stamp_Last.b1 at H1
    refine seq_region (live := [25, 24, 23, 22, 11, 10, 8, 7, 6, 0, 1, 2]) (orc := []) hF hI ⟨[⟨25, [], .v (.bool (decide (s1.1 < (l0.length : Int))))⟩, ⟨24, [], .v (.int .i64 s1.1)⟩, ⟨23, [], .v (.int .i64 (l0.length : Int))⟩, ⟨22, [], .v (.slice A0 l0.length c0)⟩, ⟨11, [], .v (.int .i64 s1.2)⟩, ⟨10, [], .v (.bool t_3.2.2)⟩, ⟨8, [], .v (.int .i64 t_3.1)⟩, ⟨7, [], .v (.bool false)⟩, ⟨6, [], .v (.int .i64 0)⟩, ⟨0, [], .v (.slice A0 l0.length c0)⟩, ⟨1, [], .v (.int .i64 a1)⟩, ⟨2, [], .v (.int .i64 a2)⟩], [], [], [], none, none⟩ [] (by kernel_rfl) trivial (fun ns_13 a w_14 hI _ => ?_)
    refine wpIn_seq ?_
    refine cond_ hI (decide (s1.1 < (l0.length : Int))) rfl (fun hc_15 => ?_) (fun hc_15 => ?_)
    · replace H1 := bif_t hc_15 H1
      refine wpIn_skip ?_
      refine then_normal ?_
      refine wpIn_seq ?_
      refine wpIn_block ?_
      obtain ⟨hN_16, H1⟩ := req_some H1
      obtain ⟨sv_17, hE_19, hA_18⟩ := Arr.elB (d := kd_Call) hr0 s1.1 true (fun _ => hN_16)
      replace hE_19 := hE_19 rfl
      replace hA_18 := fun (_ : true = true) => hA_18 rfl
      refine seq_region (live := [12, 13, 25, 24, 23, 22, 11, 10, 8, 7, 6, 0, 1, 2]) (orc := [(kd_Call).cells (rd l0 s1.1) sv_17]) hF hI ⟨[⟨12, [], .v (.int .i64 s1.1)⟩, ⟨13, [], .p 0 0⟩, ⟨25, [], .v (.bool (decide (s1.1 < (l0.length : Int))))⟩, ⟨24, [], .v (.int .i64 s1.1)⟩, ⟨23, [], .v (.int .i64 (l0.length : Int))⟩, ⟨22, [], .v (.slice A0 l0.length c0)⟩, ⟨11, [], .v (.int .i64 s1.2)⟩, ⟨10, [], .v (.bool t_3.2.2)⟩, ⟨8, [], .v (.int .i64 t_3.1)⟩, ⟨7, [], .v (.bool false)⟩, ⟨6, [], .v (.int .i64 0)⟩, ⟨0, [], .v (.slice A0 l0.length c0)⟩, ⟨1, [], .v (.int .i64 a1)⟩, ⟨2, [], .v (.int .i64 a2)⟩], [], [], [((((kd_Call).cells (rd l0 s1.1) sv_17).map EV.v), 42)], none, none⟩ [.need true (0 ≤ s1.1 ∧ s1.1 < (l0.length : Int)), .need true (A0 = some (adr A0)), .cell true ((adr A0).add ((s1.1 : Int).toNat * 20)) ((kd_Call).cells (rd l0 s1.1) sv_17)] (by kernel_rfl) ⟨ob_inb (fun _ => hN_16), hA_18, ob_el (fun _ => hE_19) 0 ((kd_Call).cells (rd l0 s1.1) sv_17) rfl, trivial⟩ (fun ns_20 a w_21 hI _ => ?_)
      refine seq_region (live := [14, 12, 13, 25, 24, 23, 22, 11, 10, 8, 7, 6, 0, 1, 2]) (orc := []) hF hI ⟨[⟨14, [], .v (.bool ((rd l0 s1.1).Done && (((rd l0 s1.1).Ans.Code) != 0)))⟩, ⟨12, [], .v (.int .i64 s1.1)⟩, ⟨13, [], .p 0 0⟩, ⟨25, [], .v (.bool (decide (s1.1 < (l0.length : Int))))⟩, ⟨24, [], .v (.int .i64 s1.1)⟩, ⟨23, [], .v (.int .i64 (l0.length : Int))⟩, ⟨22, [], .v (.slice A0 l0.length c0)⟩, ⟨11, [], .v (.int .i64 s1.2)⟩, ⟨10, [], .v (.bool t_3.2.2)⟩, ⟨8, [], .v (.int .i64 t_3.1)⟩, ⟨7, [], .v (.bool false)⟩, ⟨6, [], .v (.int .i64 0)⟩, ⟨0, [], .v (.slice A0 l0.length c0)⟩, ⟨1, [], .v (.int .i64 a1)⟩, ⟨2, [], .v (.int .i64 a2)⟩], [], [], [((((kd_Call).cells (rd l0 s1.1) sv_17).map EV.v), 42)], none, none⟩ [] (by kernel_rfl) trivial (fun ns_22 a w_23 hI _ => ?_)
      refine wpIn_seq ?_
      refine seq_region (live := [66, 14, 12, 13, 25, 24, 23, 22, 11, 10, 8, 7, 6, 0, 1, 2]) (orc := []) hF hI ⟨[⟨66, [], .v (.bool ((((((!t_3.2.2) || (((rd l0 s1.1).Req.Op) != 3)) || (((rd l0 s1.1).Req.Port) != (IntKind.i64.wrap (2 * a1)))) || ((rd l0 s1.1).Done && (((rd l0 s1.1).Ans.Code) != 0))) || decide (((rd l0 s1.1).Mark) < 0)) || decide (((rd l0 s1.1).Mark) > t_3.1)))⟩, ⟨14, [], .v (.bool ((rd l0 s1.1).Done && (((rd l0 s1.1).Ans.Code) != 0)))⟩, ⟨12, [], .v (.int .i64 s1.1)⟩, ⟨13, [], .p 0 0⟩, ⟨25, [], .v (.bool (decide (s1.1 < (l0.length : Int))))⟩, ⟨24, [], .v (.int .i64 s1.1)⟩, ⟨23, [], .v (.int .i64 (l0.length : Int))⟩, ⟨22, [], .v (.slice A0 l0.length c0)⟩, ⟨11, [], .v (.int .i64 s1.2)⟩, ⟨10, [], .v (.bool t_3.2.2)⟩, ⟨8, [], .v (.int .i64 t_3.1)⟩, ⟨7, [], .v (.bool false)⟩, ⟨6, [], .v (.int .i64 0)⟩, ⟨0, [], .v (.slice A0 l0.length c0)⟩, ⟨1, [], .v (.int .i64 a1)⟩, ⟨2, [], .v (.int .i64 a2)⟩], [], [], [((((kd_Call).cells (rd l0 s1.1) sv_17).map EV.v), 42)], none, none⟩ [] (by kernel_rfl) trivial (fun ns_24 a w_25 hI _ => ?_)
      refine cond_ hI (((((((!t_3.2.2) || (((rd l0 s1.1).Req.Op) != 3)) || (((rd l0 s1.1).Req.Port) != (IntKind.i64.wrap (2 * a1)))) || ((rd l0 s1.1).Done && (((rd l0 s1.1).Ans.Code) != 0))) || decide (((rd l0 s1.1).Mark) < 0)) || decide (((rd l0 s1.1).Mark) > t_3.1))) rfl (fun hc_26 => ?_) (fun hc_26 => ?_)
      · replace H1 := bif_t hc_26 H1
        refine wpIn_exit ?_
        refine then_exit ?_
        refine inBlock_here ?_
        refine then_normal ?_
        refine region_ (live := [24, 66, 14, 12, 13, 25, 23, 22, 11, 10, 8, 7, 6, 0, 1, 2]) (orc := []) hF hI ⟨[⟨24, [], .v (.int .i64 (IntKind.i64.wrap (s1.1 + 1)))⟩, ⟨66, [], .v (.bool ((((((!t_3.2.2) || (((rd l0 s1.1).Req.Op) != 3)) || (((rd l0 s1.1).Req.Port) != (IntKind.i64.wrap (2 * a1)))) || ((rd l0 s1.1).Done && (((rd l0 s1.1).Ans.Code) != 0))) || decide (((rd l0 s1.1).Mark) < 0)) || decide (((rd l0 s1.1).Mark) > t_3.1)))⟩, ⟨14, [], .v (.bool ((rd l0 s1.1).Done && (((rd l0 s1.1).Ans.Code) != 0)))⟩, ⟨12, [], .v (.int .i64 s1.1)⟩, ⟨13, [], .p 0 0⟩, ⟨25, [], .v (.bool (decide (s1.1 < (l0.length : Int))))⟩, ⟨23, [], .v (.int .i64 (l0.length : Int))⟩, ⟨22, [], .v (.slice A0 l0.length c0)⟩, ⟨11, [], .v (.int .i64 s1.2)⟩, ⟨10, [], .v (.bool t_3.2.2)⟩, ⟨8, [], .v (.int .i64 t_3.1)⟩, ⟨7, [], .v (.bool false)⟩, ⟨6, [], .v (.int .i64 0)⟩, ⟨0, [], .v (.slice A0 l0.length c0)⟩, ⟨1, [], .v (.int .i64 a1)⟩, ⟨2, [], .v (.int .i64 a2)⟩], [], [], [((((kd_Call).cells (rd l0 s1.1) sv_17).map EV.v), 42)], none, none⟩ [] (by kernel_rfl) trivial (fun ns_27 a w_28 hI _ => ?_)
        refine then_normal ?_
        obtain rfl := Option.some.inj H1
        exact ⟨_, rfl, ⟨_, hI.pick [24, 23, 22, 11, 10, 8, 7, 6, 0, 1, 2] 0 ⟨[⟨24, [], .v (.int .i64 (IntKind.i64.wrap (s1.1 + 1)))⟩, ⟨23, [], .v (.int .i64 (l0.length : Int))⟩, ⟨22, [], .v (.slice A0 l0.length c0)⟩, ⟨11, [], .v (.int .i64 s1.2)⟩, ⟨10, [], .v (.bool t_3.2.2)⟩, ⟨8, [], .v (.int .i64 t_3.1)⟩, ⟨7, [], .v (.bool false)⟩, ⟨6, [], .v (.int .i64 0)⟩, ⟨0, [], .v (.slice A0 l0.length c0)⟩, ⟨1, [], .v (.int .i64 a1)⟩, ⟨2, [], .v (.int .i64 a2)⟩], [], [], [], none, none⟩ (by kernel_rfl)⟩⟩
      · replace H1 := bif_f hc_26 H1
        refine wpIn_skip ?_
        refine then_normal ?_
        refine wpIn_seq ?_
        obtain ⟨hN_29, H1⟩ := req_some H1
        obtain ⟨sv_30, hE_32, hA_31⟩ := Arr.elB (d := kd_Call) hr0 s1.2 (!(decide (s1.2 < 0))) (fun hg => imp_spec hN_29 hg)
        refine drawn_ (live := [78, 66, 14, 12, 13, 25, 24, 23, 22, 11, 10, 8, 7, 6, 0, 1, 2]) (orc := [[.int .i64 ((rd l0 s1.2).Mark)]]) hF hI ⟨[⟨78, [], .v (.bool (decide (s1.2 < 0) || decide (((rd l0 s1.1).Mark) > ((rd l0 s1.2).Mark))))⟩, ⟨66, [], .v (.bool ((((((!t_3.2.2) || (((rd l0 s1.1).Req.Op) != 3)) || (((rd l0 s1.1).Req.Port) != (IntKind.i64.wrap (2 * a1)))) || ((rd l0 s1.1).Done && (((rd l0 s1.1).Ans.Code) != 0))) || decide (((rd l0 s1.1).Mark) < 0)) || decide (((rd l0 s1.1).Mark) > t_3.1)))⟩, ⟨14, [], .v (.bool ((rd l0 s1.1).Done && (((rd l0 s1.1).Ans.Code) != 0)))⟩, ⟨12, [], .v (.int .i64 s1.1)⟩, ⟨13, [], .p 0 0⟩, ⟨25, [], .v (.bool (decide (s1.1 < (l0.length : Int))))⟩, ⟨24, [], .v (.int .i64 s1.1)⟩, ⟨23, [], .v (.int .i64 (l0.length : Int))⟩, ⟨22, [], .v (.slice A0 l0.length c0)⟩, ⟨11, [], .v (.int .i64 s1.2)⟩, ⟨10, [], .v (.bool t_3.2.2)⟩, ⟨8, [], .v (.int .i64 t_3.1)⟩, ⟨7, [], .v (.bool false)⟩, ⟨6, [], .v (.int .i64 0)⟩, ⟨0, [], .v (.slice A0 l0.length c0)⟩, ⟨1, [], .v (.int .i64 a1)⟩, ⟨2, [], .v (.int .i64 a2)⟩], [], [], [((((kd_Call).cells (rd l0 s1.1) sv_17).map EV.v), 42)], none, none⟩ [.need (!(decide (s1.2 < 0))) (0 ≤ s1.2 ∧ s1.2 < (l0.length : Int)), .need (!(decide (s1.2 < 0))) (A0 = some (adr A0)), .cell (!(decide (s1.2 < 0))) (((adr A0).add ((s1.2 : Int).toNat * 20)).add 16) [.int .i64 ((rd l0 s1.2).Mark)]] (by kernel_rfl) (by kernel_rfl) (by kernel_rfl) ⟨ob_inb (fun hg => imp_spec hN_29 hg), hA_31, ob_el (fun hg => hE_32 hg) 16 [.int .i64 ((rd l0 s1.2).Mark)] rfl, trivial⟩ (fun a w_33 hI => ?_)
        refine then_normal ?_
        refine cond_merge hI ((decide (s1.2 < 0) || decide (((rd l0 s1.1).Mark) > ((rd l0 s1.2).Mark)))) rfl ⟨[⟨11, [], .v (.int .i64 s1.1)⟩, ⟨78, [], .v (.bool (decide (s1.2 < 0) || decide (((rd l0 s1.1).Mark) > ((rd l0 s1.2).Mark))))⟩, ⟨66, [], .v (.bool ((((((!t_3.2.2) || (((rd l0 s1.1).Req.Op) != 3)) || (((rd l0 s1.1).Req.Port) != (IntKind.i64.wrap (2 * a1)))) || ((rd l0 s1.1).Done && (((rd l0 s1.1).Ans.Code) != 0))) || decide (((rd l0 s1.1).Mark) < 0)) || decide (((rd l0 s1.1).Mark) > t_3.1)))⟩, ⟨14, [], .v (.bool ((rd l0 s1.1).Done && (((rd l0 s1.1).Ans.Code) != 0)))⟩, ⟨12, [], .v (.int .i64 s1.1)⟩, ⟨13, [], .p 0 0⟩, ⟨25, [], .v (.bool (decide (s1.1 < (l0.length : Int))))⟩, ⟨24, [], .v (.int .i64 s1.1)⟩, ⟨23, [], .v (.int .i64 (l0.length : Int))⟩, ⟨22, [], .v (.slice A0 l0.length c0)⟩, ⟨10, [], .v (.bool t_3.2.2)⟩, ⟨8, [], .v (.int .i64 t_3.1)⟩, ⟨7, [], .v (.bool false)⟩, ⟨6, [], .v (.int .i64 0)⟩, ⟨0, [], .v (.slice A0 l0.length c0)⟩, ⟨1, [], .v (.int .i64 a1)⟩, ⟨2, [], .v (.int .i64 a2)⟩], [], [], [((((kd_Call).cells (rd l0 s1.1) sv_17).map EV.v), 42)], none, none⟩ ⟨[⟨11, [], .v (.int .i64 s1.2)⟩, ⟨78, [], .v (.bool (decide (s1.2 < 0) || decide (((rd l0 s1.1).Mark) > ((rd l0 s1.2).Mark))))⟩, ⟨66, [], .v (.bool ((((((!t_3.2.2) || (((rd l0 s1.1).Req.Op) != 3)) || (((rd l0 s1.1).Req.Port) != (IntKind.i64.wrap (2 * a1)))) || ((rd l0 s1.1).Done && (((rd l0 s1.1).Ans.Code) != 0))) || decide (((rd l0 s1.1).Mark) < 0)) || decide (((rd l0 s1.1).Mark) > t_3.1)))⟩, ⟨14, [], .v (.bool ((rd l0 s1.1).Done && (((rd l0 s1.1).Ans.Code) != 0)))⟩, ⟨12, [], .v (.int .i64 s1.1)⟩, ⟨13, [], .p 0 0⟩, ⟨25, [], .v (.bool (decide (s1.1 < (l0.length : Int))))⟩, ⟨24, [], .v (.int .i64 s1.1)⟩, ⟨23, [], .v (.int .i64 (l0.length : Int))⟩, ⟨22, [], .v (.slice A0 l0.length c0)⟩, ⟨10, [], .v (.bool t_3.2.2)⟩, ⟨8, [], .v (.int .i64 t_3.1)⟩, ⟨7, [], .v (.bool false)⟩, ⟨6, [], .v (.int .i64 0)⟩, ⟨0, [], .v (.slice A0 l0.length c0)⟩, ⟨1, [], .v (.int .i64 a1)⟩, ⟨2, [], .v (.int .i64 a2)⟩], [], [], [((((kd_Call).cells (rd l0 s1.1) sv_17).map EV.v), 42)], none, none⟩ (fun b => ⟨[⟨11, [], .v (.int .i64 (bif b then s1.1 else s1.2))⟩, ⟨78, [], .v (.bool (decide (s1.2 < 0) || decide (((rd l0 s1.1).Mark) > ((rd l0 s1.2).Mark))))⟩, ⟨66, [], .v (.bool ((((((!t_3.2.2) || (((rd l0 s1.1).Req.Op) != 3)) || (((rd l0 s1.1).Req.Port) != (IntKind.i64.wrap (2 * a1)))) || ((rd l0 s1.1).Done && (((rd l0 s1.1).Ans.Code) != 0))) || decide (((rd l0 s1.1).Mark) < 0)) || decide (((rd l0 s1.1).Mark) > t_3.1)))⟩, ⟨14, [], .v (.bool ((rd l0 s1.1).Done && (((rd l0 s1.1).Ans.Code) != 0)))⟩, ⟨12, [], .v (.int .i64 s1.1)⟩, ⟨13, [], .p 0 0⟩, ⟨25, [], .v (.bool (decide (s1.1 < (l0.length : Int))))⟩, ⟨24, [], .v (.int .i64 s1.1)⟩, ⟨23, [], .v (.int .i64 (l0.length : Int))⟩, ⟨22, [], .v (.slice A0 l0.length c0)⟩, ⟨10, [], .v (.bool t_3.2.2)⟩, ⟨8, [], .v (.int .i64 t_3.1)⟩, ⟨7, [], .v (.bool false)⟩, ⟨6, [], .v (.int .i64 0)⟩, ⟨0, [], .v (.slice A0 l0.length c0)⟩, ⟨1, [], .v (.int .i64 a1)⟩, ⟨2, [], .v (.int .i64 a2)⟩], [], [], [((((kd_Call).cells (rd l0 s1.1) sv_17).map EV.v), 42)], none, none⟩) (fun b => by cases b <;> rfl) (fun hc_34 => ?_) (fun hc_34 => ?_) (fun ns_37 a w_38 hI => ?_)
        · refine region_ (live := [11, 78, 66, 14, 12, 13, 25, 24, 23, 22, 10, 8, 7, 6, 0, 1, 2]) (orc := []) hF hI ⟨[⟨11, [], .v (.int .i64 s1.1)⟩, ⟨78, [], .v (.bool (decide (s1.2 < 0) || decide (((rd l0 s1.1).Mark) > ((rd l0 s1.2).Mark))))⟩, ⟨66, [], .v (.bool ((((((!t_3.2.2) || (((rd l0 s1.1).Req.Op) != 3)) || (((rd l0 s1.1).Req.Port) != (IntKind.i64.wrap (2 * a1)))) || ((rd l0 s1.1).Done && (((rd l0 s1.1).Ans.Code) != 0))) || decide (((rd l0 s1.1).Mark) < 0)) || decide (((rd l0 s1.1).Mark) > t_3.1)))⟩, ⟨14, [], .v (.bool ((rd l0 s1.1).Done && (((rd l0 s1.1).Ans.Code) != 0)))⟩, ⟨12, [], .v (.int .i64 s1.1)⟩, ⟨13, [], .p 0 0⟩, ⟨25, [], .v (.bool (decide (s1.1 < (l0.length : Int))))⟩, ⟨24, [], .v (.int .i64 s1.1)⟩, ⟨23, [], .v (.int .i64 (l0.length : Int))⟩, ⟨22, [], .v (.slice A0 l0.length c0)⟩, ⟨10, [], .v (.bool t_3.2.2)⟩, ⟨8, [], .v (.int .i64 t_3.1)⟩, ⟨7, [], .v (.bool false)⟩, ⟨6, [], .v (.int .i64 0)⟩, ⟨0, [], .v (.slice A0 l0.length c0)⟩, ⟨1, [], .v (.int .i64 a1)⟩, ⟨2, [], .v (.int .i64 a2)⟩], [], [], [((((kd_Call).cells (rd l0 s1.1) sv_17).map EV.v), 42)], none, none⟩ [] (by kernel_rfl) trivial (fun ns_35 a w_36 hI _ => ?_)
          refine then_normal ?_
          exact ⟨_, hI.pick [11, 78, 66, 14, 12, 13, 25, 24, 23, 22, 10, 8, 7, 6, 0, 1, 2] 1 ⟨[⟨11, [], .v (.int .i64 s1.1)⟩, ⟨78, [], .v (.bool (decide (s1.2 < 0) || decide (((rd l0 s1.1).Mark) > ((rd l0 s1.2).Mark))))⟩, ⟨66, [], .v (.bool ((((((!t_3.2.2) || (((rd l0 s1.1).Req.Op) != 3)) || (((rd l0 s1.1).Req.Port) != (IntKind.i64.wrap (2 * a1)))) || ((rd l0 s1.1).Done && (((rd l0 s1.1).Ans.Code) != 0))) || decide (((rd l0 s1.1).Mark) < 0)) || decide (((rd l0 s1.1).Mark) > t_3.1)))⟩, ⟨14, [], .v (.bool ((rd l0 s1.1).Done && (((rd l0 s1.1).Ans.Code) != 0)))⟩, ⟨12, [], .v (.int .i64 s1.1)⟩, ⟨13, [], .p 0 0⟩, ⟨25, [], .v (.bool (decide (s1.1 < (l0.length : Int))))⟩, ⟨24, [], .v (.int .i64 s1.1)⟩, ⟨23, [], .v (.int .i64 (l0.length : Int))⟩, ⟨22, [], .v (.slice A0 l0.length c0)⟩, ⟨10, [], .v (.bool t_3.2.2)⟩, ⟨8, [], .v (.int .i64 t_3.1)⟩, ⟨7, [], .v (.bool false)⟩, ⟨6, [], .v (.int .i64 0)⟩, ⟨0, [], .v (.slice A0 l0.length c0)⟩, ⟨1, [], .v (.int .i64 a1)⟩, ⟨2, [], .v (.int .i64 a2)⟩], [], [], [((((kd_Call).cells (rd l0 s1.1) sv_17).map EV.v), 42)], none, none⟩ (by kernel_rfl)⟩
        · refine wpIn_skip ?_
          refine then_normal ?_
          exact ⟨_, hI.pick [11, 78, 66, 14, 12, 13, 25, 24, 23, 22, 10, 8, 7, 6, 0, 1, 2] 1 ⟨[⟨11, [], .v (.int .i64 s1.2)⟩, ⟨78, [], .v (.bool (decide (s1.2 < 0) || decide (((rd l0 s1.1).Mark) > ((rd l0 s1.2).Mark))))⟩, ⟨66, [], .v (.bool ((((((!t_3.2.2) || (((rd l0 s1.1).Req.Op) != 3)) || (((rd l0 s1.1).Req.Port) != (IntKind.i64.wrap (2 * a1)))) || ((rd l0 s1.1).Done && (((rd l0 s1.1).Ans.Code) != 0))) || decide (((rd l0 s1.1).Mark) < 0)) || decide (((rd l0 s1.1).Mark) > t_3.1)))⟩, ⟨14, [], .v (.bool ((rd l0 s1.1).Done && (((rd l0 s1.1).Ans.Code) != 0)))⟩, ⟨12, [], .v (.int .i64 s1.1)⟩, ⟨13, [], .p 0 0⟩, ⟨25, [], .v (.bool (decide (s1.1 < (l0.length : Int))))⟩, ⟨24, [], .v (.int .i64 s1.1)⟩, ⟨23, [], .v (.int .i64 (l0.length : Int))⟩, ⟨22, [], .v (.slice A0 l0.length c0)⟩, ⟨10, [], .v (.bool t_3.2.2)⟩, ⟨8, [], .v (.int .i64 t_3.1)⟩, ⟨7, [], .v (.bool false)⟩, ⟨6, [], .v (.int .i64 0)⟩, ⟨0, [], .v (.slice A0 l0.length c0)⟩, ⟨1, [], .v (.int .i64 a1)⟩, ⟨2, [], .v (.int .i64 a2)⟩], [], [], [((((kd_Call).cells (rd l0 s1.1) sv_17).map EV.v), 42)], none, none⟩ (by kernel_rfl)⟩
        · refine inBlock_normal ?_
          refine then_normal ?_
          refine region_ (live := [24, 11, 78, 66, 14, 12, 13, 25, 23, 22, 10, 8, 7, 6, 0, 1, 2]) (orc := []) hF hI ⟨[⟨24, [], .v (.int .i64 (IntKind.i64.wrap (s1.1 + 1)))⟩, ⟨11, [], .v (.int .i64 (bif (decide (s1.2 < 0) || decide (((rd l0 s1.1).Mark) > ((rd l0 s1.2).Mark))) then s1.1 else s1.2))⟩, ⟨78, [], .v (.bool (decide (s1.2 < 0) || decide (((rd l0 s1.1).Mark) > ((rd l0 s1.2).Mark))))⟩, ⟨66, [], .v (.bool ((((((!t_3.2.2) || (((rd l0 s1.1).Req.Op) != 3)) || (((rd l0 s1.1).Req.Port) != (IntKind.i64.wrap (2 * a1)))) || ((rd l0 s1.1).Done && (((rd l0 s1.1).Ans.Code) != 0))) || decide (((rd l0 s1.1).Mark) < 0)) || decide (((rd l0 s1.1).Mark) > t_3.1)))⟩, ⟨14, [], .v (.bool ((rd l0 s1.1).Done && (((rd l0 s1.1).Ans.Code) != 0)))⟩, ⟨12, [], .v (.int .i64 s1.1)⟩, ⟨13, [], .p 0 0⟩, ⟨25, [], .v (.bool (decide (s1.1 < (l0.length : Int))))⟩, ⟨23, [], .v (.int .i64 (l0.length : Int))⟩, ⟨22, [], .v (.slice A0 l0.length c0)⟩, ⟨10, [], .v (.bool t_3.2.2)⟩, ⟨8, [], .v (.int .i64 t_3.1)⟩, ⟨7, [], .v (.bool false)⟩, ⟨6, [], .v (.int .i64 0)⟩, ⟨0, [], .v (.slice A0 l0.length c0)⟩, ⟨1, [], .v (.int .i64 a1)⟩, ⟨2, [], .v (.int .i64 a2)⟩], [], [], [((((kd_Call).cells (rd l0 s1.1) sv_17).map EV.v), 42)], none, none⟩ [] (by kernel_rfl) trivial (fun ns_51 a w_52 hI _ => ?_)
          refine then_normal ?_
          obtain rfl := Option.some.inj H1
          exact ⟨_, rfl, ⟨_, hI.pick [24, 23, 22, 11, 10, 8, 7, 6, 0, 1, 2] 0 ⟨[⟨24, [], .v (.int .i64 (IntKind.i64.wrap (s1.1 + 1)))⟩, ⟨23, [], .v (.int .i64 (l0.length : Int))⟩, ⟨22, [], .v (.slice A0 l0.length c0)⟩, ⟨11, [], .v (.int .i64 (bif (decide (s1.2 < 0) || decide (((rd l0 s1.1).Mark) > ((rd l0 s1.2).Mark))) then s1.1 else s1.2))⟩, ⟨10, [], .v (.bool t_3.2.2)⟩, ⟨8, [], .v (.int .i64 t_3.1)⟩, ⟨7, [], .v (.bool false)⟩, ⟨6, [], .v (.int .i64 0)⟩, ⟨0, [], .v (.slice A0 l0.length c0)⟩, ⟨1, [], .v (.int .i64 a1)⟩, ⟨2, [], .v (.int .i64 a2)⟩], [], [], [], none, none⟩ (by kernel_rfl)⟩⟩
    · replace H1 := bif_f hc_15 H1
      refine wpIn_exit ?_
      refine then_exit ?_
      refine then_exit ?_
      obtain rfl := Option.some.inj H1
      exact .inl ⟨_, rfl, rfl, ⟨_, hI.pick [24, 23, 22, 11, 10, 8, 7, 6, 0, 1, 2] 0 ⟨[⟨24, [], .v (.int .i64 s1.1)⟩, ⟨23, [], .v (.int .i64 (l0.length : Int))⟩, ⟨22, [], .v (.slice A0 l0.length c0)⟩, ⟨11, [], .v (.int .i64 s1.2)⟩, ⟨10, [], .v (.bool t_3.2.2)⟩, ⟨8, [], .v (.int .i64 t_3.1)⟩, ⟨7, [], .v (.bool false)⟩, ⟨6, [], .v (.int .i64 0)⟩, ⟨0, [], .v (.slice A0 l0.length c0)⟩, ⟨1, [], .v (.int .i64 a1)⟩, ⟨2, [], .v (.int .i64 a2)⟩], [], [], [], none, none⟩ (by kernel_rfl)⟩⟩
  · clear hI
    rintro s1 a w_55 ho ⟨ns_56, hI⟩
    subst ho
    replace H0 : (some ((mxI s1.2 0), decide (s1.2 ≥ 0)) : Option (Int × Bool)) = _ := H0
    refine then_normal ?_
    refine seq_region (live := [7, 6, 24, 23, 22, 11, 10, 8, 0, 1, 2]) (orc := []) hF hI ⟨[⟨7, [], .v (.bool (decide (s1.2 ≥ 0)))⟩, ⟨6, [], .v (.int .i64 (mxI s1.2 0))⟩, ⟨24, [], .v (.int .i64 s1.1)⟩, ⟨23, [], .v (.int .i64 (l0.length : Int))⟩, ⟨22, [], .v (.slice A0 l0.length c0)⟩, ⟨11, [], .v (.int .i64 s1.2)⟩, ⟨10, [], .v (.bool t_3.2.2)⟩, ⟨8, [], .v (.int .i64 t_3.1)⟩, ⟨0, [], .v (.slice A0 l0.length c0)⟩, ⟨1, [], .v (.int .i64 a1)⟩, ⟨2, [], .v (.int .i64 a2)⟩], [], [], [], none, none⟩ [] (by kernel_rfl) trivial (fun ns_57 a w_58 hI _ => ?_)
    refine wpIn_ret ?_
    obtain rfl := Option.some.inj H0
    exact ret2 hI rfl rfl rfl ⟨rfl, hE.below hI⟩

/-! ### porthole/portholeref17.Place: function 27 -/
noncomputable def G_ref17_Place (l0 : (List Call)) (a1 : Int) : Option (Portholeref17_Spot) := (req (inb a1 l0.length) (bif decide (((rd l0 a1).Mark) ≥ 0) then some (⟨(rd l0 a1).Mark, false, true⟩ : Portholeref17_Spot) else (bif ((!((rd l0 a1).Done)) || (((rd l0 a1).Req.Op) != 4)) then some (⟨0, false, false⟩ : Portholeref17_Spot) else (req (imp (decide (((rd l0 a1).Saw) ≥ 0)) (inb ((rd l0 a1).Saw) l0.length)) (bif (decide (((rd l0 a1).Saw) ≥ 0) && decide (((rd l0 ((rd l0 a1).Saw)).Mark) > ((rd l0 a1).From))) then (req (inb ((rd l0 a1).Saw) l0.length) (some (⟨(rd l0 ((rd l0 a1).Saw)).Mark, true, true⟩ : Portholeref17_Spot))) else some (⟨(rd l0 a1).From, true, true⟩ : Portholeref17_Spot))))))
set_option maxRecDepth 100000 in
set_option maxHeartbeats 4000000 in
theorem G_ref17_Place.calls (l0 : (List Call)) (a1 : Int) (A0 : Option Addr) (c0 : Nat) (w : World) {S : Nat → Prop} (hr0 : Arr kd_Call S w A0 l0) (hc0 : l0.length ≤ c0) (r : Portholeref17_Spot) (h : G_ref17_Place l0 a1 = some r) :
    Calls Try.prog 27 #[.slice A0 l0.length c0, .int .i64 a1] w fun e w' => e = .returned (.agg ((kd_Portholeref17_Spot).cells r (svL [])).toArray) ∧ Below w.heap.size w w' := by
  replace hr0 := Arr.lo hr0
  unfold G_ref17_Place at h
  have H0 := h
  clear h
  refine enter Try.func27 rfl [.slice A0 l0.length c0, .int .i64 a1] (n := 50) rfl (Nat.le_of_ble_eq_true rfl) (fun a hI => ?_)
  have hF : FOpen Fence.wide := .inl rfl
  have hE := Ep.start w
  refine seq_region (live := [4, 0, 1]) (orc := []) hF hI ⟨[⟨4, [], .p 0 0⟩, ⟨0, [], .v (.slice A0 l0.length c0)⟩, ⟨1, [], .v (.int .i64 a1)⟩], [], [], [([.v (.int .i64 0), .v (.bool false), .v (.bool false)], 55)], none, none⟩ [] (by kernel_rfl) trivial (fun ns_1 a w_2 hI _ => ?_)
  obtain ⟨hN_3, H0⟩ := req_some H0
  obtain ⟨sv_4, hE_6, hA_5⟩ := Arr.elB (d := kd_Call) hr0 a1 true (fun _ => hN_3)
  replace hE_6 := hE_6 rfl
  replace hA_5 := fun (_ : true = true) => hA_5 rfl
  refine seq_region (live := [5, 4, 0, 1]) (orc := [(kd_Call).cells (rd l0 a1) sv_4]) hF hI ⟨[⟨5, [], .p 1 0⟩, ⟨4, [], .p 0 0⟩, ⟨0, [], .v (.slice A0 l0.length c0)⟩, ⟨1, [], .v (.int .i64 a1)⟩], [], [], [([.v (.int .i64 0), .v (.bool false), .v (.bool false)], 55), ((((kd_Call).cells (rd l0 a1) sv_4).map EV.v), 42)], none, none⟩ [.need true (0 ≤ a1 ∧ a1 < (l0.length : Int)), .need true (A0 = some (adr A0)), .cell true ((adr A0).add ((a1 : Int).toNat * 20)) ((kd_Call).cells (rd l0 a1) sv_4)] (by kernel_rfl) ⟨ob_inb (fun _ => hN_3), hA_5, ob_el (fun _ => hE_6) 0 ((kd_Call).cells (rd l0 a1) sv_4) rfl, trivial⟩ (fun ns_7 a w_8 hI _ => ?_)
  refine wpIn_seq ?_
  refine seq_region (live := [13, 5, 4, 0, 1]) (orc := []) hF hI ⟨[⟨13, [], .v (.bool (decide (((rd l0 a1).Mark) ≥ 0)))⟩, ⟨5, [], .p 1 0⟩, ⟨4, [], .p 0 0⟩, ⟨0, [], .v (.slice A0 l0.length c0)⟩, ⟨1, [], .v (.int .i64 a1)⟩], [], [], [([.v (.int .i64 0), .v (.bool false), .v (.bool false)], 55), ((((kd_Call).cells (rd l0 a1) sv_4).map EV.v), 42)], none, none⟩ [] (by kernel_rfl) trivial (fun ns_9 a w_10 hI _ => ?_)
  refine cond_ hI (decide (((rd l0 a1).Mark) ≥ 0)) rfl (fun hc_11 => ?_) (fun hc_11 => ?_)
  · replace H0 := bif_t hc_11 H0
    refine seq_region (live := [13, 5, 4, 0, 1]) (orc := []) hF hI ⟨[⟨13, [], .v (.bool (decide (((rd l0 a1).Mark) ≥ 0)))⟩, ⟨5, [], .p 1 0⟩, ⟨4, [], .p 0 0⟩, ⟨0, [], .v (.slice A0 l0.length c0)⟩, ⟨1, [], .v (.int .i64 a1)⟩], [], [], [([.v (.int .i64 ((rd l0 a1).Mark)), .v (.bool false), .v (.bool true)], 55), ((((kd_Call).cells (rd l0 a1) sv_4).map EV.v), 42)], none, none⟩ [] (by kernel_rfl) trivial (fun ns_12 a w_13 hI _ => ?_)
    refine wpIn_ret ?_
    refine then_ret ?_
    obtain rfl := Option.some.inj H0
    exact retCell hI rfl rfl rfl rfl rfl rfl ⟨rfl, hE.below hI⟩
  · replace H0 := bif_f hc_11 H0
    refine wpIn_skip ?_
    refine then_normal ?_
    refine wpIn_seq ?_
    refine seq_region (live := [25, 13, 5, 4, 0, 1]) (orc := []) hF hI ⟨[⟨25, [], .v (.bool ((!((rd l0 a1).Done)) || (((rd l0 a1).Req.Op) != 4)))⟩, ⟨13, [], .v (.bool (decide (((rd l0 a1).Mark) ≥ 0)))⟩, ⟨5, [], .p 1 0⟩, ⟨4, [], .p 0 0⟩, ⟨0, [], .v (.slice A0 l0.length c0)⟩, ⟨1, [], .v (.int .i64 a1)⟩], [], [], [([.v (.int .i64 0), .v (.bool false), .v (.bool false)], 55), ((((kd_Call).cells (rd l0 a1) sv_4).map EV.v), 42)], none, none⟩ [] (by kernel_rfl) trivial (fun ns_14 a w_15 hI _ => ?_)
    refine cond_ hI (((!((rd l0 a1).Done)) || (((rd l0 a1).Req.Op) != 4))) rfl (fun hc_16 => ?_) (fun hc_16 => ?_)
    · replace H0 := bif_t hc_16 H0
      refine seq_region (live := [25, 13, 5, 4, 0, 1]) (orc := []) hF hI ⟨[⟨25, [], .v (.bool ((!((rd l0 a1).Done)) || (((rd l0 a1).Req.Op) != 4)))⟩, ⟨13, [], .v (.bool (decide (((rd l0 a1).Mark) ≥ 0)))⟩, ⟨5, [], .p 1 0⟩, ⟨4, [], .p 0 0⟩, ⟨0, [], .v (.slice A0 l0.length c0)⟩, ⟨1, [], .v (.int .i64 a1)⟩], [], [], [([.v (.int .i64 0), .v (.bool false), .v (.bool false)], 55), ((((kd_Call).cells (rd l0 a1) sv_4).map EV.v), 42)], none, none⟩ [] (by kernel_rfl) trivial (fun ns_17 a w_18 hI _ => ?_)
      refine wpIn_ret ?_
      refine then_ret ?_
      obtain rfl := Option.some.inj H0
      exact retCell hI rfl rfl rfl rfl rfl rfl ⟨rfl, hE.below hI⟩
    · replace H0 := bif_f hc_16 H0
      refine wpIn_skip ?_
      refine then_normal ?_
      refine seq_region (live := [6, 25, 13, 5, 4, 0, 1]) (orc := []) hF hI ⟨[⟨6, [], .v (.int .i64 ((rd l0 a1).From))⟩, ⟨25, [], .v (.bool ((!((rd l0 a1).Done)) || (((rd l0 a1).Req.Op) != 4)))⟩, ⟨13, [], .v (.bool (decide (((rd l0 a1).Mark) ≥ 0)))⟩, ⟨5, [], .p 1 0⟩, ⟨4, [], .p 0 0⟩, ⟨0, [], .v (.slice A0 l0.length c0)⟩, ⟨1, [], .v (.int .i64 a1)⟩], [], [], [([.v (.int .i64 0), .v (.bool false), .v (.bool false)], 55), ((((kd_Call).cells (rd l0 a1) sv_4).map EV.v), 42)], none, none⟩ [] (by kernel_rfl) trivial (fun ns_19 a w_20 hI _ => ?_)
      refine wpIn_seq ?_
      obtain ⟨hN_21, H0⟩ := req_some H0
      obtain ⟨sv_22, hE_24, hA_23⟩ := Arr.elB (d := kd_Call) hr0 ((rd l0 a1).Saw) (decide (((rd l0 a1).Saw) ≥ 0)) (fun hg => imp_spec hN_21 hg)
      refine seq_region (live := [41, 6, 25, 13, 5, 4, 0, 1]) (orc := [[.int .i64 ((rd l0 ((rd l0 a1).Saw)).Mark)]]) hF hI ⟨[⟨41, [], .v (.bool (decide (((rd l0 a1).Saw) ≥ 0) && decide (((rd l0 ((rd l0 a1).Saw)).Mark) > ((rd l0 a1).From))))⟩, ⟨6, [], .v (.int .i64 ((rd l0 a1).From))⟩, ⟨25, [], .v (.bool ((!((rd l0 a1).Done)) || (((rd l0 a1).Req.Op) != 4)))⟩, ⟨13, [], .v (.bool (decide (((rd l0 a1).Mark) ≥ 0)))⟩, ⟨5, [], .p 1 0⟩, ⟨4, [], .p 0 0⟩, ⟨0, [], .v (.slice A0 l0.length c0)⟩, ⟨1, [], .v (.int .i64 a1)⟩], [], [], [([.v (.int .i64 0), .v (.bool false), .v (.bool false)], 55), ((((kd_Call).cells (rd l0 a1) sv_4).map EV.v), 42)], none, none⟩ [.need (decide (((rd l0 a1).Saw) ≥ 0)) (0 ≤ ((rd l0 a1).Saw) ∧ ((rd l0 a1).Saw) < (l0.length : Int)), .need (decide (((rd l0 a1).Saw) ≥ 0)) (A0 = some (adr A0)), .cell (decide (((rd l0 a1).Saw) ≥ 0)) (((adr A0).add ((((rd l0 a1).Saw) : Int).toNat * 20)).add 16) [.int .i64 ((rd l0 ((rd l0 a1).Saw)).Mark)]] (by kernel_rfl) ⟨ob_inb (fun hg => imp_spec hN_21 hg), hA_23, ob_el (fun hg => hE_24 hg) 16 [.int .i64 ((rd l0 ((rd l0 a1).Saw)).Mark)] rfl, trivial⟩ (fun ns_25 a w_26 hI _ => ?_)
      refine cond_ hI ((decide (((rd l0 a1).Saw) ≥ 0) && decide (((rd l0 ((rd l0 a1).Saw)).Mark) > ((rd l0 a1).From)))) rfl (fun hc_27 => ?_) (fun hc_27 => ?_)
      · replace H0 := bif_t hc_27 H0
        obtain ⟨hN_28, H0⟩ := req_some H0
        obtain ⟨sv_29, hE_31, hA_30⟩ := Arr.elB (d := kd_Call) hr0 ((rd l0 a1).Saw) true (fun _ => hN_28)
        replace hE_31 := hE_31 rfl
        replace hA_30 := fun (_ : true = true) => hA_30 rfl
        refine region_ (live := [6, 41, 25, 13, 5, 4, 0, 1]) (orc := [[.int .i64 ((rd l0 ((rd l0 a1).Saw)).Mark)]]) hF hI ⟨[⟨6, [], .v (.int .i64 ((rd l0 ((rd l0 a1).Saw)).Mark))⟩, ⟨41, [], .v (.bool (decide (((rd l0 a1).Saw) ≥ 0) && decide (((rd l0 ((rd l0 a1).Saw)).Mark) > ((rd l0 a1).From))))⟩, ⟨25, [], .v (.bool ((!((rd l0 a1).Done)) || (((rd l0 a1).Req.Op) != 4)))⟩, ⟨13, [], .v (.bool (decide (((rd l0 a1).Mark) ≥ 0)))⟩, ⟨5, [], .p 1 0⟩, ⟨4, [], .p 0 0⟩, ⟨0, [], .v (.slice A0 l0.length c0)⟩, ⟨1, [], .v (.int .i64 a1)⟩], [], [], [([.v (.int .i64 0), .v (.bool false), .v (.bool false)], 55), ((((kd_Call).cells (rd l0 a1) sv_4).map EV.v), 42)], none, none⟩ [.need true (0 ≤ ((rd l0 a1).Saw) ∧ ((rd l0 a1).Saw) < (l0.length : Int)), .need true (A0 = some (adr A0)), .cell true (((adr A0).add ((((rd l0 a1).Saw) : Int).toNat * 20)).add 16) [.int .i64 ((rd l0 ((rd l0 a1).Saw)).Mark)]] (by kernel_rfl) ⟨ob_inb (fun _ => hN_28), hA_30, ob_el (fun _ => hE_31) 16 [.int .i64 ((rd l0 ((rd l0 a1).Saw)).Mark)] rfl, trivial⟩ (fun ns_32 a w_33 hI _ => ?_)
        refine then_normal ?_
        refine seq_region (live := [6, 41, 25, 13, 5, 4, 0, 1]) (orc := []) hF hI ⟨[⟨6, [], .v (.int .i64 ((rd l0 ((rd l0 a1).Saw)).Mark))⟩, ⟨41, [], .v (.bool (decide (((rd l0 a1).Saw) ≥ 0) && decide (((rd l0 ((rd l0 a1).Saw)).Mark) > ((rd l0 a1).From))))⟩, ⟨25, [], .v (.bool ((!((rd l0 a1).Done)) || (((rd l0 a1).Req.Op) != 4)))⟩, ⟨13, [], .v (.bool (decide (((rd l0 a1).Mark) ≥ 0)))⟩, ⟨5, [], .p 1 0⟩, ⟨4, [], .p 0 0⟩, ⟨0, [], .v (.slice A0 l0.length c0)⟩, ⟨1, [], .v (.int .i64 a1)⟩], [], [], [([.v (.int .i64 ((rd l0 ((rd l0 a1).Saw)).Mark)), .v (.bool true), .v (.bool true)], 55), ((((kd_Call).cells (rd l0 a1) sv_4).map EV.v), 42)], none, none⟩ [] (by kernel_rfl) trivial (fun ns_34 a w_35 hI _ => ?_)
        refine wpIn_ret ?_
        obtain rfl := Option.some.inj H0
        exact retCell hI rfl rfl rfl rfl rfl rfl ⟨rfl, hE.below hI⟩
      · replace H0 := bif_f hc_27 H0
        refine wpIn_skip ?_
        refine then_normal ?_
        refine seq_region (live := [41, 6, 25, 13, 5, 4, 0, 1]) (orc := []) hF hI ⟨[⟨41, [], .v (.bool (decide (((rd l0 a1).Saw) ≥ 0) && decide (((rd l0 ((rd l0 a1).Saw)).Mark) > ((rd l0 a1).From))))⟩, ⟨6, [], .v (.int .i64 ((rd l0 a1).From))⟩, ⟨25, [], .v (.bool ((!((rd l0 a1).Done)) || (((rd l0 a1).Req.Op) != 4)))⟩, ⟨13, [], .v (.bool (decide (((rd l0 a1).Mark) ≥ 0)))⟩, ⟨5, [], .p 1 0⟩, ⟨4, [], .p 0 0⟩, ⟨0, [], .v (.slice A0 l0.length c0)⟩, ⟨1, [], .v (.int .i64 a1)⟩], [], [], [([.v (.int .i64 ((rd l0 a1).From)), .v (.bool true), .v (.bool true)], 55), ((((kd_Call).cells (rd l0 a1) sv_4).map EV.v), 42)], none, none⟩ [] (by kernel_rfl) trivial (fun ns_36 a w_37 hI _ => ?_)
        refine wpIn_ret ?_
        obtain rfl := Option.some.inj H0
        exact retCell hI rfl rfl rfl rfl rfl rfl ⟨rfl, hE.below hI⟩

/-! ### porthole/portholeref24.write: function 37 -/
noncomputable def G_ref24_write (x0 : Call) (a1 : Int) : Option (Bool) := some ((((x0.Req.Op == 3) && (x0.Req.Port == (IntKind.i64.wrap (2 * a1)))) && decide (x0.Mark ≥ 0)) && ((!x0.Done) || (x0.Ans.Code == 0)))
set_option maxRecDepth 100000 in
set_option maxHeartbeats 4000000 in
theorem G_ref24_write.calls (x0 : Call) (a1 : Int) (sv0 : SV) (w : World) {S : Nat → Prop} (hx0 : (kd_Call).cont S w x0 sv0) (r : Bool) (h : G_ref24_write x0 a1 = some r) :
    Calls Try.prog 37 #[.agg ((kd_Call).cells x0 sv0).toArray, .int .i64 a1] w fun e w' => e = .returned (.bool r) ∧ Below w.heap.size w w' := by
  replace hx0 := Kd.lo _ hx0
  unfold G_ref24_write at h
  have H0 := h
  clear h
  refine enter Try.func37 rfl [.agg ((kd_Call).cells x0 sv0).toArray, .int .i64 a1] (n := 33) rfl (Nat.le_of_ble_eq_true rfl) (fun a hI => ?_)
  have hF : FOpen Fence.wide := .inl rfl
  have hE := Ep.start w
  refine seq_region (live := [4, 2, 0, 1]) (orc := []) hF hI ⟨[⟨4, [], .v (.bool false)⟩, ⟨2, [], .p 0 0⟩, ⟨0, [], .v (.agg ((kd_Call).cells x0 sv0).toArray)⟩, ⟨1, [], .v (.int .i64 a1)⟩], [], [], [((((kd_Call).cells x0 sv0).map EV.v), 42)], none, none⟩ [] (by kernel_rfl) trivial (fun ns_1 a w_2 hI _ => ?_)
  refine seq_region (live := [4, 2, 0, 1]) (orc := []) hF hI ⟨[⟨4, [], .v (.bool ((((x0.Req.Op == 3) && (x0.Req.Port == (IntKind.i64.wrap (2 * a1)))) && decide (x0.Mark ≥ 0)) && ((!x0.Done) || (x0.Ans.Code == 0))))⟩, ⟨2, [], .p 0 0⟩, ⟨0, [], .v (.agg ((kd_Call).cells x0 sv0).toArray)⟩, ⟨1, [], .v (.int .i64 a1)⟩], [], [], [((((kd_Call).cells x0 sv0).map EV.v), 42)], none, none⟩ [] (by kernel_rfl) trivial (fun ns_3 a w_4 hI _ => ?_)
  refine wpIn_ret ?_
  obtain rfl := Option.some.inj H0
  exact ret1 hI rfl rfl ⟨rfl, hE.below hI⟩

/-! ### porthole/portholeref24.Last: function 17 -/
noncomputable def G_ref24_Last.b1 (l0 : (List Call)) (a1 : Int) (a2 : Int) (t_8 : Portholeref17_Spot) (s1 : Int × Int) : Option (Stp (Int × Int) (Ex (Int × Int) (Int))) := (bif (decide (s1.1 < (l0.length : Int)) && t_8.Is) then (req (inb s1.1 l0.length) ((G_ref24_write (rd l0 s1.1) a1).bind fun t_25 => (req (imp t_25 (inb s1.1 l0.length)) (req (imp ((t_25 && decide (((rd l0 s1.1).Mark) ≤ t_8.At)) && (!(decide (s1.2 < 0)))) (inb s1.1 l0.length)) (req (imp ((t_25 && decide (((rd l0 s1.1).Mark) ≤ t_8.At)) && (!(decide (s1.2 < 0)))) (inb s1.2 l0.length)) (some (.next ((IntKind.i64.wrap (s1.1 + 1)), (bif ((t_25 && decide (((rd l0 s1.1).Mark) ≤ t_8.At)) && (decide (s1.2 < 0) || decide (((rd l0 s1.1).Mark) > ((rd l0 s1.2).Mark)))) then s1.1 else s1.2))))))))) else some (.out (.brk (s1.1, s1.2))))
noncomputable def G_ref24_Last (l0 : (List Call)) (a1 : Int) (a2 : Int) : Option (Int) := (bif (decide (a2 < 0) || decide (a2 ≥ (l0.length : Int))) then some (-1) else ((G_ref17_Place l0 a2).bind fun t_8 => ((loopω (G_ref24_Last.b1 l0 a1 a2 t_8) (0, (-1))).bind fun o => o.on (fun s1 => some s1.2) (fun r => some r))))
set_option maxRecDepth 100000 in
set_option maxHeartbeats 4000000 in
theorem G_ref24_Last.calls (l0 : (List Call)) (a1 : Int) (a2 : Int) (A0 : Option Addr) (c0 : Nat) (w : World) {S : Nat → Prop} (hr0 : Arr kd_Call S w A0 l0) (hc0 : l0.length ≤ c0) (r : Int) (h : G_ref24_Last l0 a1 a2 = some r) :
    Calls Try.prog 17 #[.slice A0 l0.length c0, .int .i64 a1, .int .i64 a2] w fun e w' => e = .returned (.int .i64 r) ∧ Below w.heap.size w w' := by
  replace hr0 := Arr.lo hr0
  unfold G_ref24_Last at h
  have H0 := h
  clear h
  refine enter Try.func17 rfl [.slice A0 l0.length c0, .int .i64 a1, .int .i64 a2] (n := 66) rfl (Nat.le_of_ble_eq_true rfl) (fun a hI => ?_)
  have hF : FOpen Fence.wide := .inl rfl
  have hE := Ep.start w
  refine seq_region (live := [6, 0, 1, 2]) (orc := []) hF hI ⟨[⟨6, [], .v (.int .i64 0)⟩, ⟨0, [], .v (.slice A0 l0.length c0)⟩, ⟨1, [], .v (.int .i64 a1)⟩, ⟨2, [], .v (.int .i64 a2)⟩], [], [], [], none, none⟩ [] (by kernel_rfl) trivial (fun ns_1 a w_2 hI _ => ?_)
  refine wpIn_seq ?_
  refine seq_region (live := [17, 6, 0, 1, 2]) (orc := []) hF hI ⟨[⟨17, [], .v (.bool (decide (a2 < 0) || decide (a2 ≥ (l0.length : Int))))⟩, ⟨6, [], .v (.int .i64 0)⟩, ⟨0, [], .v (.slice A0 l0.length c0)⟩, ⟨1, [], .v (.int .i64 a1)⟩, ⟨2, [], .v (.int .i64 a2)⟩], [], [], [], none, none⟩ [] (by kernel_rfl) trivial (fun ns_3 a w_4 hI _ => ?_)
  refine cond_ hI ((decide (a2 < 0) || decide (a2 ≥ (l0.length : Int)))) rfl (fun hc_5 => ?_) (fun hc_5 => ?_)
  · replace H0 := bif_t hc_5 H0
    refine seq_region (live := [6, 17, 0, 1, 2]) (orc := []) hF hI ⟨[⟨6, [], .v (.int .i64 (-1))⟩, ⟨17, [], .v (.bool (decide (a2 < 0) || decide (a2 ≥ (l0.length : Int))))⟩, ⟨0, [], .v (.slice A0 l0.length c0)⟩, ⟨1, [], .v (.int .i64 a1)⟩, ⟨2, [], .v (.int .i64 a2)⟩], [], [], [], none, none⟩ [] (by kernel_rfl) trivial (fun ns_6 a w_7 hI _ => ?_)
    refine wpIn_ret ?_
    refine then_ret ?_
    obtain rfl := Option.some.inj H0
    exact ret1 hI rfl rfl ⟨rfl, hE.below hI⟩
  · replace H0 := bif_f hc_5 H0
    refine wpIn_skip ?_
    refine then_normal ?_
    obtain ⟨t_8, hG_9, H0⟩ := bind_some H0
    refine seq_region (live := [7, 17, 6, 0, 1, 2]) (orc := [[.agg ((kd_Portholeref17_Spot).cells t_8 (svL [])).toArray]]) hF hI ⟨[⟨7, [], .p 0 0⟩, ⟨17, [], .v (.bool (decide (a2 < 0) || decide (a2 ≥ (l0.length : Int))))⟩, ⟨6, [], .v (.int .i64 0)⟩, ⟨0, [], .v (.slice A0 l0.length c0)⟩, ⟨1, [], .v (.int .i64 a1)⟩, ⟨2, [], .v (.int .i64 a2)⟩], [], [], [((((kd_Portholeref17_Spot).cells t_8 (svL [])).map EV.v), 55)], none, none⟩ [.call true 27 [.slice A0 l0.length c0, .int .i64 a2] (.agg ((kd_Portholeref17_Spot).cells t_8 (svL [])).toArray)] (by kernel_rfl) ⟨ob_call (enters Try.func27 (by kernel_rfl) rfl) (fun hg wz hk => G_ref17_Place.calls l0 a2 A0 c0 wz (S := fun _ => True) (Arr.any (Arr.keep hr0 (Lo.on hk))) hc0 _ hG_9), trivial⟩ (fun ns_10 a w_11 hI _ => ?_)
    refine seq_region (live := [8, 7, 17, 6, 0, 1, 2]) (orc := []) hF hI ⟨[⟨8, [], .v (.int .i64 (-1))⟩, ⟨7, [], .p 0 0⟩, ⟨17, [], .v (.bool (decide (a2 < 0) || decide (a2 ≥ (l0.length : Int))))⟩, ⟨6, [], .v (.int .i64 0)⟩, ⟨0, [], .v (.slice A0 l0.length c0)⟩, ⟨1, [], .v (.int .i64 a1)⟩, ⟨2, [], .v (.int .i64 a2)⟩], [], [], [((((kd_Portholeref17_Spot).cells t_8 (svL [])).map EV.v), 55)], none, none⟩ [] (by kernel_rfl) trivial (fun ns_12 a w_13 hI _ => ?_)
    refine wpIn_seq ?_
    refine seq_region (live := [9, 8, 7, 17, 6, 0, 1, 2]) (orc := []) hF hI ⟨[⟨9, [], .v (.int .i64 0)⟩, ⟨8, [], .v (.int .i64 (-1))⟩, ⟨7, [], .p 0 0⟩, ⟨17, [], .v (.bool (decide (a2 < 0) || decide (a2 ≥ (l0.length : Int))))⟩, ⟨6, [], .v (.int .i64 0)⟩, ⟨0, [], .v (.slice A0 l0.length c0)⟩, ⟨1, [], .v (.int .i64 a1)⟩, ⟨2, [], .v (.int .i64 a2)⟩], [], [], [((((kd_Portholeref17_Spot).cells t_8 (svL [])).map EV.v), 55)], none, none⟩ [] (by kernel_rfl) trivial (fun ns_14 a w_15 hI _ => ?_)
    obtain ⟨o_59, hL_60, H0⟩ := bind_some H0
    refine block_loop (fun s1 a w_65 => ∃ ns, St w [] 66 ⟨[⟨9, [], .v (.int .i64 s1.1)⟩, ⟨8, [], .v (.int .i64 s1.2)⟩, ⟨7, [], .p 0 0⟩, ⟨17, [], .v (.bool (decide (a2 < 0) || decide (a2 ≥ (l0.length : Int))))⟩, ⟨6, [], .v (.int .i64 0)⟩, ⟨0, [], .v (.slice A0 l0.length c0)⟩, ⟨1, [], .v (.int .i64 a1)⟩, ⟨2, [], .v (.int .i64 a2)⟩], [], [], [((((kd_Portholeref17_Spot).cells t_8 (svL [])).map EV.v), 55)], none, none⟩ ns a w_65) (0, (-1)) hL_60 ⟨_, hI.pick [9, 8, 7, 17, 6, 0, 1, 2] 1 ⟨[⟨9, [], .v (.int .i64 0)⟩, ⟨8, [], .v (.int .i64 (-1))⟩, ⟨7, [], .p 0 0⟩, ⟨17, [], .v (.bool (decide (a2 < 0) || decide (a2 ≥ (l0.length : Int))))⟩, ⟨6, [], .v (.int .i64 0)⟩, ⟨0, [], .v (.slice A0 l0.length c0)⟩, ⟨1, [], .v (.int .i64 a1)⟩, ⟨2, [], .v (.int .i64 a2)⟩], [], [], [((((kd_Portholeref17_Spot).cells t_8 (svL [])).map EV.v), 55)], none, none⟩ (by kernel_rfl)⟩ ?_ ?_
    · clear hI
      rintro s1 a w_16 ⟨ns_17, hI⟩ r1 H1
      unfold G_ref24_Last.b1 at H1
      refine wpIn_seq ?_
      refine seq_region (live := [28, 9, 8, 7, 17, 6, 0, 1, 2]) (orc := []) hF hI ⟨[⟨28, [], .v (.bool (decide (s1.1 < (l0.length : Int)) && t_8.Is))⟩, ⟨9, [], .v (.int .i64 s1.1)⟩, ⟨8, [], .v (.int .i64 s1.2)⟩, ⟨7, [], .p 0 0⟩, ⟨17, [], .v (.bool (decide (a2 < 0) || decide (a2 ≥ (l0.length : Int))))⟩, ⟨6, [], .v (.int .i64 0)⟩, ⟨0, [], .v (.slice A0 l0.length c0)⟩, ⟨1, [], .v (.int .i64 a1)⟩, ⟨2, [], .v (.int .i64 a2)⟩], [], [], [((((kd_Portholeref17_Spot).cells t_8 (svL [])).map EV.v), 55)], none, none⟩ [] (by kernel_rfl) trivial (fun ns_18 a w_19 hI _ => ?_)
      refine cond_ hI ((decide (s1.1 < (l0.length : Int)) && t_8.Is)) rfl (fun hc_20 => ?_) (fun hc_20 => ?_)
      · replace H1 := bif_t hc_20 H1
        refine wpIn_skip ?_
        refine then_normal ?_
        refine wpIn_seq ?_
        refine wpIn_block ?_
        refine wpIn_seq ?_
        obtain ⟨hN_21, H1⟩ := req_some H1
        obtain ⟨sv_22, hE_24, hA_23⟩ := Arr.elB (d := kd_Call) hr0 s1.1 true (fun _ => hN_21)
        replace hE_24 := hE_24 rfl
        replace hA_23 := fun (_ : true = true) => hA_23 rfl
        obtain ⟨t_25, hG_26, H1⟩ := bind_some H1
        obtain ⟨hN_27, H1⟩ := req_some H1
        obtain ⟨sv_28, hE_30, hA_29⟩ := Arr.elB (d := kd_Call) hr0 s1.1 t_25 (fun hg => imp_spec hN_27 hg)
        obtain ⟨hN_31, H1⟩ := req_some H1
        obtain ⟨sv_32, hE_34, hA_33⟩ := Arr.elB (d := kd_Call) hr0 s1.1 ((t_25 && decide (((rd l0 s1.1).Mark) ≤ t_8.At)) && (!(decide (s1.2 < 0)))) (fun hg => imp_spec hN_31 hg)
        obtain ⟨hN_35, H1⟩ := req_some H1
        obtain ⟨sv_36, hE_38, hA_37⟩ := Arr.elB (d := kd_Call) hr0 s1.2 ((t_25 && decide (((rd l0 s1.1).Mark) ≤ t_8.At)) && (!(decide (s1.2 < 0)))) (fun hg => imp_spec hN_35 hg)
        refine drawn_ (live := [63, 28, 9, 8, 7, 17, 6, 0, 1, 2]) (orc := [(kd_Call).cells (rd l0 s1.1) sv_22, [.bool t_25], [.int .i64 ((rd l0 s1.1).Mark)], [.int .i64 ((rd l0 s1.1).Mark)], [.int .i64 ((rd l0 s1.2).Mark)]]) hF hI ⟨[⟨63, [], .v (.bool ((t_25 && decide (((rd l0 s1.1).Mark) ≤ t_8.At)) && (decide (s1.2 < 0) || decide (((rd l0 s1.1).Mark) > ((rd l0 s1.2).Mark)))))⟩, ⟨28, [], .v (.bool (decide (s1.1 < (l0.length : Int)) && t_8.Is))⟩, ⟨9, [], .v (.int .i64 s1.1)⟩, ⟨8, [], .v (.int .i64 s1.2)⟩, ⟨7, [], .p 0 0⟩, ⟨17, [], .v (.bool (decide (a2 < 0) || decide (a2 ≥ (l0.length : Int))))⟩, ⟨6, [], .v (.int .i64 0)⟩, ⟨0, [], .v (.slice A0 l0.length c0)⟩, ⟨1, [], .v (.int .i64 a1)⟩, ⟨2, [], .v (.int .i64 a2)⟩], [], [], [((((kd_Portholeref17_Spot).cells t_8 (svL [])).map EV.v), 55)], none, none⟩ [.need true (0 ≤ s1.1 ∧ s1.1 < (l0.length : Int)), .need true (A0 = some (adr A0)), .cell true ((adr A0).add ((s1.1 : Int).toNat * 20)) ((kd_Call).cells (rd l0 s1.1) sv_22), .call true 37 [.agg ((kd_Call).cells (rd l0 s1.1) (svL [((sv_22 0).1, (sv_22 0).2), ((sv_22 1).1, (sv_22 1).2)])).toArray, .int .i64 a1] (.bool t_25), .need t_25 (0 ≤ s1.1 ∧ s1.1 < (l0.length : Int)), .need t_25 (A0 = some (adr A0)), .cell t_25 (((adr A0).add ((s1.1 : Int).toNat * 20)).add 16) [.int .i64 ((rd l0 s1.1).Mark)], .need ((t_25 && decide (((rd l0 s1.1).Mark) ≤ t_8.At)) && (!(decide (s1.2 < 0)))) (0 ≤ s1.1 ∧ s1.1 < (l0.length : Int)), .need ((t_25 && decide (((rd l0 s1.1).Mark) ≤ t_8.At)) && (!(decide (s1.2 < 0)))) (A0 = some (adr A0)), .cell ((t_25 && decide (((rd l0 s1.1).Mark) ≤ t_8.At)) && (!(decide (s1.2 < 0)))) (((adr A0).add ((s1.1 : Int).toNat * 20)).add 16) [.int .i64 ((rd l0 s1.1).Mark)], .need ((t_25 && decide (((rd l0 s1.1).Mark) ≤ t_8.At)) && (!(decide (s1.2 < 0)))) (0 ≤ s1.2 ∧ s1.2 < (l0.length : Int)), .need ((t_25 && decide (((rd l0 s1.1).Mark) ≤ t_8.At)) && (!(decide (s1.2 < 0)))) (A0 = some (adr A0)), .cell ((t_25 && decide (((rd l0 s1.1).Mark) ≤ t_8.At)) && (!(decide (s1.2 < 0)))) (((adr A0).add ((s1.2 : Int).toNat * 20)).add 16) [.int .i64 ((rd l0 s1.2).Mark)]] (by kernel_rfl) (by kernel_rfl) (by kernel_rfl) ⟨ob_inb (fun _ => hN_21), hA_23, ob_el (fun _ => hE_24) 0 ((kd_Call).cells (rd l0 s1.1) sv_22) rfl, ob_call (enters Try.func37 (by kernel_rfl) rfl) (fun hg wz hk => G_ref24_write.calls (rd l0 s1.1) a1 (svL [((sv_22 0).1, (sv_22 0).2), ((sv_22 1).1, (sv_22 1).2)]) wz (S := fun _ => True) (Kd.any _ (Kd.keep kd_Call (contI (S := Lo S w w [] []) (w := w) (d := kd_Call) (x := (rd l0 s1.1)) (sv := (svL [((sv_22 0).1, (sv_22 0).2), ((sv_22 1).1, (sv_22 1).2)])) ⟨⟨(hE_24).cont.1.1, (hE_24).cont.1.2⟩, ⟨(hE_24).cont.2.1.1, (hE_24).cont.2.1.2⟩, trivial⟩) (Lo.on hk))) _ hG_26), ob_inb (fun hg => imp_spec hN_27 hg), hA_29, ob_el (fun hg => hE_30 hg) 16 [.int .i64 ((rd l0 s1.1).Mark)] rfl, ob_inb (fun hg => imp_spec hN_31 hg), hA_33, ob_el (fun hg => hE_34 hg) 16 [.int .i64 ((rd l0 s1.1).Mark)] rfl, ob_inb (fun hg => imp_spec hN_35 hg), hA_37, ob_el (fun hg => hE_38 hg) 16 [.int .i64 ((rd l0 s1.2).Mark)] rfl, trivial⟩ (fun a w_39 hI => ?_)
        refine then_normal ?_
        refine cond_merge hI (((t_25 && decide (((rd l0 s1.1).Mark) ≤ t_8.At)) && (decide (s1.2 < 0) || decide (((rd l0 s1.1).Mark) > ((rd l0 s1.2).Mark))))) rfl ⟨[⟨8, [], .v (.int .i64 s1.1)⟩, ⟨63, [], .v (.bool ((t_25 && decide (((rd l0 s1.1).Mark) ≤ t_8.At)) && (decide (s1.2 < 0) || decide (((rd l0 s1.1).Mark) > ((rd l0 s1.2).Mark)))))⟩, ⟨28, [], .v (.bool (decide (s1.1 < (l0.length : Int)) && t_8.Is))⟩, ⟨9, [], .v (.int .i64 s1.1)⟩, ⟨7, [], .p 0 0⟩, ⟨17, [], .v (.bool (decide (a2 < 0) || decide (a2 ≥ (l0.length : Int))))⟩, ⟨6, [], .v (.int .i64 0)⟩, ⟨0, [], .v (.slice A0 l0.length c0)⟩, ⟨1, [], .v (.int .i64 a1)⟩, ⟨2, [], .v (.int .i64 a2)⟩], [], [], [((((kd_Portholeref17_Spot).cells t_8 (svL [])).map EV.v), 55)], none, none⟩ ⟨[⟨8, [], .v (.int .i64 s1.2)⟩, ⟨63, [], .v (.bool ((t_25 && decide (((rd l0 s1.1).Mark) ≤ t_8.At)) && (decide (s1.2 < 0) || decide (((rd l0 s1.1).Mark) > ((rd l0 s1.2).Mark)))))⟩, ⟨28, [], .v (.bool (decide (s1.1 < (l0.length : Int)) && t_8.Is))⟩, ⟨9, [], .v (.int .i64 s1.1)⟩, ⟨7, [], .p 0 0⟩, ⟨17, [], .v (.bool (decide (a2 < 0) || decide (a2 ≥ (l0.length : Int))))⟩, ⟨6, [], .v (.int .i64 0)⟩, ⟨0, [], .v (.slice A0 l0.length c0)⟩, ⟨1, [], .v (.int .i64 a1)⟩, ⟨2, [], .v (.int .i64 a2)⟩], [], [], [((((kd_Portholeref17_Spot).cells t_8 (svL [])).map EV.v), 55)], none, none⟩ (fun b => ⟨[⟨8, [], .v (.int .i64 (bif b then s1.1 else s1.2))⟩, ⟨63, [], .v (.bool ((t_25 && decide (((rd l0 s1.1).Mark) ≤ t_8.At)) && (decide (s1.2 < 0) || decide (((rd l0 s1.1).Mark) > ((rd l0 s1.2).Mark)))))⟩, ⟨28, [], .v (.bool (decide (s1.1 < (l0.length : Int)) && t_8.Is))⟩, ⟨9, [], .v (.int .i64 s1.1)⟩, ⟨7, [], .p 0 0⟩, ⟨17, [], .v (.bool (decide (a2 < 0) || decide (a2 ≥ (l0.length : Int))))⟩, ⟨6, [], .v (.int .i64 0)⟩, ⟨0, [], .v (.slice A0 l0.length c0)⟩, ⟨1, [], .v (.int .i64 a1)⟩, ⟨2, [], .v (.int .i64 a2)⟩], [], [], [((((kd_Portholeref17_Spot).cells t_8 (svL [])).map EV.v), 55)], none, none⟩) (fun b => by cases b <;> rfl) (fun hc_40 => ?_) (fun hc_40 => ?_) (fun ns_43 a w_44 hI => ?_)
        · refine region_ (live := [8, 63, 28, 9, 7, 17, 6, 0, 1, 2]) (orc := []) hF hI ⟨[⟨8, [], .v (.int .i64 s1.1)⟩, ⟨63, [], .v (.bool ((t_25 && decide (((rd l0 s1.1).Mark) ≤ t_8.At)) && (decide (s1.2 < 0) || decide (((rd l0 s1.1).Mark) > ((rd l0 s1.2).Mark)))))⟩, ⟨28, [], .v (.bool (decide (s1.1 < (l0.length : Int)) && t_8.Is))⟩, ⟨9, [], .v (.int .i64 s1.1)⟩, ⟨7, [], .p 0 0⟩, ⟨17, [], .v (.bool (decide (a2 < 0) || decide (a2 ≥ (l0.length : Int))))⟩, ⟨6, [], .v (.int .i64 0)⟩, ⟨0, [], .v (.slice A0 l0.length c0)⟩, ⟨1, [], .v (.int .i64 a1)⟩, ⟨2, [], .v (.int .i64 a2)⟩], [], [], [((((kd_Portholeref17_Spot).cells t_8 (svL [])).map EV.v), 55)], none, none⟩ [] (by kernel_rfl) trivial (fun ns_41 a w_42 hI _ => ?_)
          refine then_normal ?_
          exact ⟨_, hI.pick [8, 63, 28, 9, 7, 17, 6, 0, 1, 2] 1 ⟨[⟨8, [], .v (.int .i64 s1.1)⟩, ⟨63, [], .v (.bool ((t_25 && decide (((rd l0 s1.1).Mark) ≤ t_8.At)) && (decide (s1.2 < 0) || decide (((rd l0 s1.1).Mark) > ((rd l0 s1.2).Mark)))))⟩, ⟨28, [], .v (.bool (decide (s1.1 < (l0.length : Int)) && t_8.Is))⟩, ⟨9, [], .v (.int .i64 s1.1)⟩, ⟨7, [], .p 0 0⟩, ⟨17, [], .v (.bool (decide (a2 < 0) || decide (a2 ≥ (l0.length : Int))))⟩, ⟨6, [], .v (.int .i64 0)⟩, ⟨0, [], .v (.slice A0 l0.length c0)⟩, ⟨1, [], .v (.int .i64 a1)⟩, ⟨2, [], .v (.int .i64 a2)⟩], [], [], [((((kd_Portholeref17_Spot).cells t_8 (svL [])).map EV.v), 55)], none, none⟩ (by kernel_rfl)⟩
        · refine wpIn_skip ?_
          refine then_normal ?_
          exact ⟨_, hI.pick [8, 63, 28, 9, 7, 17, 6, 0, 1, 2] 1 ⟨[⟨8, [], .v (.int .i64 s1.2)⟩, ⟨63, [], .v (.bool ((t_25 && decide (((rd l0 s1.1).Mark) ≤ t_8.At)) && (decide (s1.2 < 0) || decide (((rd l0 s1.1).Mark) > ((rd l0 s1.2).Mark)))))⟩, ⟨28, [], .v (.bool (decide (s1.1 < (l0.length : Int)) && t_8.Is))⟩, ⟨9, [], .v (.int .i64 s1.1)⟩, ⟨7, [], .p 0 0⟩, ⟨17, [], .v (.bool (decide (a2 < 0) || decide (a2 ≥ (l0.length : Int))))⟩, ⟨6, [], .v (.int .i64 0)⟩, ⟨0, [], .v (.slice A0 l0.length c0)⟩, ⟨1, [], .v (.int .i64 a1)⟩, ⟨2, [], .v (.int .i64 a2)⟩], [], [], [((((kd_Portholeref17_Spot).cells t_8 (svL [])).map EV.v), 55)], none, none⟩ (by kernel_rfl)⟩
        · refine inBlock_normal ?_
          refine then_normal ?_
          refine region_ (live := [9, 8, 63, 28, 7, 17, 6, 0, 1, 2]) (orc := []) hF hI ⟨[⟨9, [], .v (.int .i64 (IntKind.i64.wrap (s1.1 + 1)))⟩, ⟨8, [], .v (.int .i64 (bif ((t_25 && decide (((rd l0 s1.1).Mark) ≤ t_8.At)) && (decide (s1.2 < 0) || decide (((rd l0 s1.1).Mark) > ((rd l0 s1.2).Mark)))) then s1.1 else s1.2))⟩, ⟨63, [], .v (.bool ((t_25 && decide (((rd l0 s1.1).Mark) ≤ t_8.At)) && (decide (s1.2 < 0) || decide (((rd l0 s1.1).Mark) > ((rd l0 s1.2).Mark)))))⟩, ⟨28, [], .v (.bool (decide (s1.1 < (l0.length : Int)) && t_8.Is))⟩, ⟨7, [], .p 0 0⟩, ⟨17, [], .v (.bool (decide (a2 < 0) || decide (a2 ≥ (l0.length : Int))))⟩, ⟨6, [], .v (.int .i64 0)⟩, ⟨0, [], .v (.slice A0 l0.length c0)⟩, ⟨1, [], .v (.int .i64 a1)⟩, ⟨2, [], .v (.int .i64 a2)⟩], [], [], [((((kd_Portholeref17_Spot).cells t_8 (svL [])).map EV.v), 55)], none, none⟩ [] (by kernel_rfl) trivial (fun ns_57 a w_58 hI _ => ?_)
          refine then_normal ?_
          obtain rfl := Option.some.inj H1
          exact ⟨_, rfl, ⟨_, hI.pick [9, 8, 7, 17, 6, 0, 1, 2] 1 ⟨[⟨9, [], .v (.int .i64 (IntKind.i64.wrap (s1.1 + 1)))⟩, ⟨8, [], .v (.int .i64 (bif ((t_25 && decide (((rd l0 s1.1).Mark) ≤ t_8.At)) && (decide (s1.2 < 0) || decide (((rd l0 s1.1).Mark) > ((rd l0 s1.2).Mark)))) then s1.1 else s1.2))⟩, ⟨7, [], .p 0 0⟩, ⟨17, [], .v (.bool (decide (a2 < 0) || decide (a2 ≥ (l0.length : Int))))⟩, ⟨6, [], .v (.int .i64 0)⟩, ⟨0, [], .v (.slice A0 l0.length c0)⟩, ⟨1, [], .v (.int .i64 a1)⟩, ⟨2, [], .v (.int .i64 a2)⟩], [], [], [((((kd_Portholeref17_Spot).cells t_8 (svL [])).map EV.v), 55)], none, none⟩ (by kernel_rfl)⟩⟩
      · replace H1 := bif_f hc_20 H1
        refine wpIn_exit ?_
        refine then_exit ?_
        refine then_exit ?_
        obtain rfl := Option.some.inj H1
        exact .inl ⟨_, rfl, rfl, ⟨_, hI.pick [9, 8, 7, 17, 6, 0, 1, 2] 1 ⟨[⟨9, [], .v (.int .i64 s1.1)⟩, ⟨8, [], .v (.int .i64 s1.2)⟩, ⟨7, [], .p 0 0⟩, ⟨17, [], .v (.bool (decide (a2 < 0) || decide (a2 ≥ (l0.length : Int))))⟩, ⟨6, [], .v (.int .i64 0)⟩, ⟨0, [], .v (.slice A0 l0.length c0)⟩, ⟨1, [], .v (.int .i64 a1)⟩, ⟨2, [], .v (.int .i64 a2)⟩], [], [], [((((kd_Portholeref17_Spot).cells t_8 (svL [])).map EV.v), 55)], none, none⟩ (by kernel_rfl)⟩⟩
    · clear hI
      rintro s1 a w_61 ho ⟨ns_62, hI⟩
      subst ho
      replace H0 : (some s1.2 : Option (Int)) = _ := H0
      refine then_normal ?_
      refine seq_region (live := [6, 9, 8, 7, 17, 0, 1, 2]) (orc := []) hF hI ⟨[⟨6, [], .v (.int .i64 s1.2)⟩, ⟨9, [], .v (.int .i64 s1.1)⟩, ⟨8, [], .v (.int .i64 s1.2)⟩, ⟨7, [], .p 0 0⟩, ⟨17, [], .v (.bool (decide (a2 < 0) || decide (a2 ≥ (l0.length : Int))))⟩, ⟨0, [], .v (.slice A0 l0.length c0)⟩, ⟨1, [], .v (.int .i64 a1)⟩, ⟨2, [], .v (.int .i64 a2)⟩], [], [], [((((kd_Portholeref17_Spot).cells t_8 (svL [])).map EV.v), 55)], none, none⟩ [] (by kernel_rfl) trivial (fun ns_63 a w_64 hI _ => ?_)
      refine wpIn_ret ?_
      obtain rfl := Option.some.inj H0
      exact ret1 hI rfl rfl ⟨rfl, hE.below hI⟩

/-! ### porthole/portholelaw24.StampLast: function 4 -/
noncomputable def G_law24_StampLast (l0 : (List Call)) (a1 : Int) (a2 : Int) : Option (Bool) := ((G_law24_wakes).bind fun t_3 => (bif (!t_3) then some false else ((cal (!(decide ((l0.length : Int) > 60))) (G_ref17_Sound l0) default).bind fun t_10 => ((cal (!(decide ((l0.length : Int) > 60) || (!t_10))) (G_ref24_Small l0) default).bind fun t_12 => (bif ((((decide ((l0.length : Int) > 60) || (!t_10)) || (!t_12)) || decide (a1 < 0)) || decide (a1 > 100)) then some true else ((G_stamp_Last l0 a1 a2).bind fun t_19 => ((G_ref24_Last l0 a1 a2).bind fun t_23 => some ((t_19.2 == (decide (t_23 ≥ 0))) && (((!t_19.2) && (t_19.1 == 0)) || (t_19.1 == t_23))))))))))
set_option maxRecDepth 100000 in
set_option maxHeartbeats 4000000 in
theorem G_law24_StampLast.calls (l0 : (List Call)) (a1 : Int) (a2 : Int) (A0 : Option Addr) (c0 : Nat) (w : World) {S : Nat → Prop} (hr0 : Arr kd_Call S w A0 l0) (hc0 : l0.length ≤ c0) (r : Bool) (h : G_law24_StampLast l0 a1 a2 = some r) :
    Calls Try.prog 4 #[.slice A0 l0.length c0, .int .i64 a1, .int .i64 a2] w fun e w' => e = .returned (.bool r) ∧ Below w.heap.size w w' := by
  replace hr0 := Arr.lo hr0
  unfold G_law24_StampLast at h
  have H0 := h
  clear h
  refine enter Try.func4 rfl [.slice A0 l0.length c0, .int .i64 a1, .int .i64 a2] (n := 61) rfl (Nat.le_of_ble_eq_true rfl) (fun a hI => ?_)
  have hF : FOpen Fence.wide := .inl rfl
  have hE := Ep.start w
  refine seq_region (live := [6, 0, 1, 2]) (orc := []) hF hI ⟨[⟨6, [], .v (.bool false)⟩, ⟨0, [], .v (.slice A0 l0.length c0)⟩, ⟨1, [], .v (.int .i64 a1)⟩, ⟨2, [], .v (.int .i64 a2)⟩], [], [], [], none, none⟩ [] (by kernel_rfl) trivial (fun ns_1 a w_2 hI _ => ?_)
  refine wpIn_seq ?_
  obtain ⟨t_3, hG_4, H0⟩ := bind_some H0
  refine seq_region (live := [11, 6, 0, 1, 2]) (orc := [[.bool t_3]]) hF hI ⟨[⟨11, [], .v (.bool (!t_3))⟩, ⟨6, [], .v (.bool false)⟩, ⟨0, [], .v (.slice A0 l0.length c0)⟩, ⟨1, [], .v (.int .i64 a1)⟩, ⟨2, [], .v (.int .i64 a2)⟩], [], [], [], none, none⟩ [.call true 13 [] (.bool t_3)] (by kernel_rfl) ⟨ob_call (enters Try.func13 (by kernel_rfl) rfl) (fun hg wz hk => G_law24_wakes.calls   wz (S := fun _ => True)  _ hG_4), trivial⟩ (fun ns_5 a w_6 hI _ => ?_)
  refine cond_ hI ((!t_3)) rfl (fun hc_7 => ?_) (fun hc_7 => ?_)
  · replace H0 := bif_t hc_7 H0
    refine seq_region (live := [6, 11, 0, 1, 2]) (orc := []) hF hI ⟨[⟨6, [], .v (.bool false)⟩, ⟨11, [], .v (.bool (!t_3))⟩, ⟨0, [], .v (.slice A0 l0.length c0)⟩, ⟨1, [], .v (.int .i64 a1)⟩, ⟨2, [], .v (.int .i64 a2)⟩], [], [], [], none, none⟩ [] (by kernel_rfl) trivial (fun ns_8 a w_9 hI _ => ?_)
    refine wpIn_ret ?_
    refine then_ret ?_
    obtain rfl := Option.some.inj H0
    exact ret1 hI rfl rfl ⟨rfl, hE.below hI⟩
  · replace H0 := bif_f hc_7 H0
    refine wpIn_skip ?_
    refine then_normal ?_
    refine wpIn_seq ?_
    obtain ⟨t_10, hG_11, H0⟩ := bind_some H0
    obtain ⟨t_12, hG_13, H0⟩ := bind_some H0
    refine seq_region (live := [32, 11, 6, 0, 1, 2]) (orc := [[.bool t_10], [.bool t_12]]) hF hI ⟨[⟨32, [], .v (.bool ((((decide ((l0.length : Int) > 60) || (!t_10)) || (!t_12)) || decide (a1 < 0)) || decide (a1 > 100)))⟩, ⟨11, [], .v (.bool (!t_3))⟩, ⟨6, [], .v (.bool false)⟩, ⟨0, [], .v (.slice A0 l0.length c0)⟩, ⟨1, [], .v (.int .i64 a1)⟩, ⟨2, [], .v (.int .i64 a2)⟩], [], [], [], none, none⟩ [.call (!(decide ((l0.length : Int) > 60))) 14 [.slice A0 l0.length c0] (.bool t_10), .call (!(decide ((l0.length : Int) > 60) || (!t_10))) 15 [.slice A0 l0.length c0] (.bool t_12)] (by kernel_rfl) ⟨ob_call (enters Try.func14 (by kernel_rfl) rfl) (fun hg wz hk => G_ref17_Sound.calls l0 A0 c0 wz (S := fun _ => True) (Arr.any (Arr.keep hr0 (Lo.on hk))) hc0 _ (cal_some hG_11 hg)), ob_call (enters Try.func15 (by kernel_rfl) rfl) (fun hg wz hk => G_ref24_Small.calls l0 A0 c0 wz (S := fun _ => True) (Arr.any (Arr.keep hr0 (Lo.on hk))) hc0 _ (cal_some hG_13 hg)), trivial⟩ (fun ns_14 a w_15 hI _ => ?_)
    refine cond_ hI (((((decide ((l0.length : Int) > 60) || (!t_10)) || (!t_12)) || decide (a1 < 0)) || decide (a1 > 100))) rfl (fun hc_16 => ?_) (fun hc_16 => ?_)
    · replace H0 := bif_t hc_16 H0
      refine seq_region (live := [6, 32, 11, 0, 1, 2]) (orc := []) hF hI ⟨[⟨6, [], .v (.bool true)⟩, ⟨32, [], .v (.bool ((((decide ((l0.length : Int) > 60) || (!t_10)) || (!t_12)) || decide (a1 < 0)) || decide (a1 > 100)))⟩, ⟨11, [], .v (.bool (!t_3))⟩, ⟨0, [], .v (.slice A0 l0.length c0)⟩, ⟨1, [], .v (.int .i64 a1)⟩, ⟨2, [], .v (.int .i64 a2)⟩], [], [], [], none, none⟩ [] (by kernel_rfl) trivial (fun ns_17 a w_18 hI _ => ?_)
      refine wpIn_ret ?_
      refine then_ret ?_
      obtain rfl := Option.some.inj H0
      exact ret1 hI rfl rfl ⟨rfl, hE.below hI⟩
    · replace H0 := bif_f hc_16 H0
      refine wpIn_skip ?_
      refine then_normal ?_
      obtain ⟨t_19, hG_20, H0⟩ := bind_some H0
      refine seq_region (live := [8, 7, 32, 11, 6, 0, 1, 2]) (orc := [[.tuple #[.int .i64 t_19.1, .bool t_19.2]]]) hF hI ⟨[⟨8, [], .v (.bool t_19.2)⟩, ⟨7, [], .v (.int .i64 t_19.1)⟩, ⟨32, [], .v (.bool ((((decide ((l0.length : Int) > 60) || (!t_10)) || (!t_12)) || decide (a1 < 0)) || decide (a1 > 100)))⟩, ⟨11, [], .v (.bool (!t_3))⟩, ⟨6, [], .v (.bool false)⟩, ⟨0, [], .v (.slice A0 l0.length c0)⟩, ⟨1, [], .v (.int .i64 a1)⟩, ⟨2, [], .v (.int .i64 a2)⟩], [], [], [], none, none⟩ [.call true 16 [.slice A0 l0.length c0, .int .i64 a1, .int .i64 a2] (.tuple #[.int .i64 t_19.1, .bool t_19.2])] (by kernel_rfl) ⟨ob_call (enters Try.func16 (by kernel_rfl) rfl) (fun hg wz hk => G_stamp_Last.calls l0 a1 a2 A0 c0 wz (S := fun _ => True) (Arr.any (Arr.keep hr0 (Lo.on hk))) hc0 _ hG_20), trivial⟩ (fun ns_21 a w_22 hI _ => ?_)
      obtain ⟨t_23, hG_24, H0⟩ := bind_some H0
      refine seq_region (live := [9, 8, 7, 32, 11, 6, 0, 1, 2]) (orc := [[.int .i64 t_23]]) hF hI ⟨[⟨9, [], .v (.int .i64 t_23)⟩, ⟨8, [], .v (.bool t_19.2)⟩, ⟨7, [], .v (.int .i64 t_19.1)⟩, ⟨32, [], .v (.bool ((((decide ((l0.length : Int) > 60) || (!t_10)) || (!t_12)) || decide (a1 < 0)) || decide (a1 > 100)))⟩, ⟨11, [], .v (.bool (!t_3))⟩, ⟨6, [], .v (.bool false)⟩, ⟨0, [], .v (.slice A0 l0.length c0)⟩, ⟨1, [], .v (.int .i64 a1)⟩, ⟨2, [], .v (.int .i64 a2)⟩], [], [], [], none, none⟩ [.call true 17 [.slice A0 l0.length c0, .int .i64 a1, .int .i64 a2] (.int .i64 t_23)] (by kernel_rfl) ⟨ob_call (enters Try.func17 (by kernel_rfl) rfl) (fun hg wz hk => G_ref24_Last.calls l0 a1 a2 A0 c0 wz (S := fun _ => True) (Arr.any (Arr.keep hr0 (Lo.on hk))) hc0 _ hG_24), trivial⟩ (fun ns_25 a w_26 hI _ => ?_)
      refine seq_region (live := [6, 9, 8, 7, 32, 11, 0, 1, 2]) (orc := []) hF hI ⟨[⟨6, [], .v (.bool ((t_19.2 == (decide (t_23 ≥ 0))) && (((!t_19.2) && (t_19.1 == 0)) || (t_19.1 == t_23))))⟩, ⟨9, [], .v (.int .i64 t_23)⟩, ⟨8, [], .v (.bool t_19.2)⟩, ⟨7, [], .v (.int .i64 t_19.1)⟩, ⟨32, [], .v (.bool ((((decide ((l0.length : Int) > 60) || (!t_10)) || (!t_12)) || decide (a1 < 0)) || decide (a1 > 100)))⟩, ⟨11, [], .v (.bool (!t_3))⟩, ⟨0, [], .v (.slice A0 l0.length c0)⟩, ⟨1, [], .v (.int .i64 a1)⟩, ⟨2, [], .v (.int .i64 a2)⟩], [], [], [], none, none⟩ [] (by kernel_rfl) trivial (fun ns_27 a w_28 hI _ => ?_)
      refine wpIn_ret ?_
      obtain rfl := Option.some.inj H0
      exact ret1 hI rfl rfl ⟨rfl, hE.below hI⟩

/-! ### porthole/hist.timed: function 38 -/
noncomputable def G_hist_timed (x0 : Call) : Option (Bool) := (bif ((decide (x0.From < 0) || decide (x0.T0 < 0)) || decide (x0.Own0 < 1)) then some false else (bif x0.Done then some ((decide (x0.To ≥ x0.From) && decide (x0.T1 ≥ x0.T0)) && decide (x0.Own1 ≥ x0.Own0)) else some (((x0.To == (-1)) && (x0.T1 == (-1))) && (x0.Own1 == (-1)))))
set_option maxRecDepth 100000 in
set_option maxHeartbeats 4000000 in
theorem G_hist_timed.calls (x0 : Call) (sv0 : SV) (w : World) {S : Nat → Prop} (hx0 : (kd_Call).cont S w x0 sv0) (r : Bool) (h : G_hist_timed x0 = some r) :
    Calls Try.prog 38 #[.agg ((kd_Call).cells x0 sv0).toArray] w fun e w' => e = .returned (.bool r) ∧ Below w.heap.size w w' := by
  replace hx0 := Kd.lo _ hx0
  unfold G_hist_timed at h
  have H0 := h
  clear h
  refine enter Try.func38 rfl [.agg ((kd_Call).cells x0 sv0).toArray] (n := 50) rfl (Nat.le_of_ble_eq_true rfl) (fun a hI => ?_)
  have hF : FOpen Fence.wide := .inl rfl
  have hE := Ep.start w
  refine seq_region (live := [2, 1, 0]) (orc := []) hF hI ⟨[⟨2, [], .v (.bool false)⟩, ⟨1, [], .p 0 0⟩, ⟨0, [], .v (.agg ((kd_Call).cells x0 sv0).toArray)⟩], [], [], [((((kd_Call).cells x0 sv0).map EV.v), 42)], none, none⟩ [] (by kernel_rfl) trivial (fun ns_1 a w_2 hI _ => ?_)
  refine wpIn_seq ?_
  refine seq_region (live := [15, 2, 1, 0]) (orc := []) hF hI ⟨[⟨15, [], .v (.bool ((decide (x0.From < 0) || decide (x0.T0 < 0)) || decide (x0.Own0 < 1)))⟩, ⟨2, [], .v (.bool false)⟩, ⟨1, [], .p 0 0⟩, ⟨0, [], .v (.agg ((kd_Call).cells x0 sv0).toArray)⟩], [], [], [((((kd_Call).cells x0 sv0).map EV.v), 42)], none, none⟩ [] (by kernel_rfl) trivial (fun ns_3 a w_4 hI _ => ?_)
  refine cond_ hI (((decide (x0.From < 0) || decide (x0.T0 < 0)) || decide (x0.Own0 < 1))) rfl (fun hc_5 => ?_) (fun hc_5 => ?_)
  · replace H0 := bif_t hc_5 H0
    refine seq_region (live := [2, 15, 1, 0]) (orc := []) hF hI ⟨[⟨2, [], .v (.bool false)⟩, ⟨15, [], .v (.bool ((decide (x0.From < 0) || decide (x0.T0 < 0)) || decide (x0.Own0 < 1)))⟩, ⟨1, [], .p 0 0⟩, ⟨0, [], .v (.agg ((kd_Call).cells x0 sv0).toArray)⟩], [], [], [((((kd_Call).cells x0 sv0).map EV.v), 42)], none, none⟩ [] (by kernel_rfl) trivial (fun ns_6 a w_7 hI _ => ?_)
    refine wpIn_ret ?_
    refine then_ret ?_
    obtain rfl := Option.some.inj H0
    exact ret1 hI rfl rfl ⟨rfl, hE.below hI⟩
  · replace H0 := bif_f hc_5 H0
    refine wpIn_skip ?_
    refine then_normal ?_
    refine wpIn_seq ?_
    refine seq_region (live := [17, 15, 2, 1, 0]) (orc := []) hF hI ⟨[⟨17, [], .v (.bool x0.Done)⟩, ⟨15, [], .v (.bool ((decide (x0.From < 0) || decide (x0.T0 < 0)) || decide (x0.Own0 < 1)))⟩, ⟨2, [], .v (.bool false)⟩, ⟨1, [], .p 0 0⟩, ⟨0, [], .v (.agg ((kd_Call).cells x0 sv0).toArray)⟩], [], [], [((((kd_Call).cells x0 sv0).map EV.v), 42)], none, none⟩ [] (by kernel_rfl) trivial (fun ns_8 a w_9 hI _ => ?_)
    refine cond_ hI (x0.Done) rfl (fun hc_10 => ?_) (fun hc_10 => ?_)
    · replace H0 := bif_t hc_10 H0
      refine seq_region (live := [2, 17, 15, 1, 0]) (orc := []) hF hI ⟨[⟨2, [], .v (.bool ((decide (x0.To ≥ x0.From) && decide (x0.T1 ≥ x0.T0)) && decide (x0.Own1 ≥ x0.Own0)))⟩, ⟨17, [], .v (.bool x0.Done)⟩, ⟨15, [], .v (.bool ((decide (x0.From < 0) || decide (x0.T0 < 0)) || decide (x0.Own0 < 1)))⟩, ⟨1, [], .p 0 0⟩, ⟨0, [], .v (.agg ((kd_Call).cells x0 sv0).toArray)⟩], [], [], [((((kd_Call).cells x0 sv0).map EV.v), 42)], none, none⟩ [] (by kernel_rfl) trivial (fun ns_11 a w_12 hI _ => ?_)
      refine wpIn_ret ?_
      refine then_ret ?_
      obtain rfl := Option.some.inj H0
      exact ret1 hI rfl rfl ⟨rfl, hE.below hI⟩
    · replace H0 := bif_f hc_10 H0
      refine wpIn_skip ?_
      refine then_normal ?_
      refine seq_region (live := [2, 17, 15, 1, 0]) (orc := []) hF hI ⟨[⟨2, [], .v (.bool (((x0.To == (-1)) && (x0.T1 == (-1))) && (x0.Own1 == (-1))))⟩, ⟨17, [], .v (.bool x0.Done)⟩, ⟨15, [], .v (.bool ((decide (x0.From < 0) || decide (x0.T0 < 0)) || decide (x0.Own0 < 1)))⟩, ⟨1, [], .p 0 0⟩, ⟨0, [], .v (.agg ((kd_Call).cells x0 sv0).toArray)⟩], [], [], [((((kd_Call).cells x0 sv0).map EV.v), 42)], none, none⟩ [] (by kernel_rfl) trivial (fun ns_13 a w_14 hI _ => ?_)
      refine wpIn_ret ?_
      obtain rfl := Option.some.inj H0
      exact ret1 hI rfl rfl ⟨rfl, hE.below hI⟩

/-! ### porthole/hist.marked$1: function 48 -/
noncomputable def G_hist_marked_1 (a0 : Int) (a1 : Int) (y2 : Call) : Option (Bool) := some (decide (a0 ≥ a1) && ((!y2.Done) || decide (a0 ≤ y2.To)))
set_option maxRecDepth 100000 in
set_option maxHeartbeats 4000000 in
theorem G_hist_marked_1.calls (a0 : Int) (a1 : Int) (y2 : Call) (B2 : Addr) (sv2 : SV) (w : World) {S : Nat → Prop} (hB2 : El kd_Call S w B2 y2 sv2) (r : Bool) (h : G_hist_marked_1 a0 a1 y2 = some r) :
    Calls Try.prog 48 #[.int .i64 a0, .int .i64 a1, .pointer (some B2)] w fun e w' => e = .returned (.bool r) ∧ Below w.heap.size w w' := by
  replace hB2 := El.lo hB2
  unfold G_hist_marked_1 at h
  have H0 := h
  clear h
  refine enter Try.func48 rfl [.int .i64 a0, .int .i64 a1, .pointer (some B2)] (n := 20) rfl (Nat.le_of_ble_eq_true rfl) (fun a hI => ?_)
  have hF : FOpen Fence.wide := .inl rfl
  have hE := Ep.start w
  refine seq_region (live := [5, 0, 1, 2]) (orc := []) hF hI ⟨[⟨5, [], .v (.bool false)⟩, ⟨0, [], .v (.int .i64 a0)⟩, ⟨1, [], .v (.int .i64 a1)⟩, ⟨2, [], .v (.pointer (some B2))⟩], [], [], [], none, none⟩ [] (by kernel_rfl) trivial (fun ns_1 a w_2 hI _ => ?_)
  refine seq_region (live := [5, 0, 1, 2]) (orc := [[.bool y2.Done], [.int .i64 y2.To]]) hF hI ⟨[⟨5, [], .v (.bool (decide (a0 ≥ a1) && ((!y2.Done) || decide (a0 ≤ y2.To))))⟩, ⟨0, [], .v (.int .i64 a0)⟩, ⟨1, [], .v (.int .i64 a1)⟩, ⟨2, [], .v (.pointer (some B2))⟩], [], [], [], none, none⟩ [.cell (decide (a0 ≥ a1)) (B2.add 9) [.bool y2.Done], .cell (decide (a0 ≥ a1) && (!(!y2.Done))) (B2.add 11) [.int .i64 y2.To]] (by kernel_rfl) ⟨ob_el (fun _ => hB2) 9 [.bool y2.Done] rfl, ob_el (fun _ => hB2) 11 [.int .i64 y2.To] rfl, trivial⟩ (fun ns_3 a w_4 hI _ => ?_)
  refine wpIn_ret ?_
  obtain rfl := Option.some.inj H0
  exact ret1 hI rfl rfl ⟨rfl, hE.below hI⟩

/-! ### porthole/hist.marked: function 39 -/
noncomputable def G_hist_marked (x0 : Call) : Option (Bool) := ((cal (x0.Mark != (-1)) (G_hist_marked_1 x0.Mark x0.From x0) default).bind fun t_11 => (bif ((x0.Mark != (-1)) && (!t_11)) then some false else ((cal (!(x0.Ring == (-1)) && (decide (x0.Mark ≥ 0) && decide (x0.Ring > x0.Mark))) (G_hist_marked_1 x0.Ring x0.From x0) default).bind fun t_18 => some ((x0.Ring == (-1)) || ((decide (x0.Mark ≥ 0) && decide (x0.Ring > x0.Mark)) && t_18)))))
set_option maxRecDepth 100000 in
set_option maxHeartbeats 4000000 in
theorem G_hist_marked.calls (x0 : Call) (sv0 : SV) (w : World) {S : Nat → Prop} (hx0 : (kd_Call).cont S w x0 sv0) (r : Bool) (h : G_hist_marked x0 = some r) :
    Calls Try.prog 39 #[.agg ((kd_Call).cells x0 sv0).toArray] w fun e w' => e = .returned (.bool r) ∧ Below w.heap.size w w' := by
  replace hx0 := Kd.lo _ hx0
  unfold G_hist_marked at h
  have H0 := h
  clear h
  refine enter Try.func39 rfl [.agg ((kd_Call).cells x0 sv0).toArray] (n := 40) rfl (Nat.le_of_ble_eq_true rfl) (fun a hI => ?_)
  have hF : FOpen Fence.wide := .inl rfl
  have hE := Ep.start w
  refine seq_region (live := [2, 1, 0]) (orc := []) hF hI ⟨[⟨2, [], .v (.bool false)⟩, ⟨1, [], .p 0 0⟩, ⟨0, [], .v (.agg ((kd_Call).cells x0 sv0).toArray)⟩], [], [], [((((kd_Call).cells x0 sv0).map EV.v), 42)], none, none⟩ [] (by kernel_rfl) trivial (fun ns_1 a w_2 hI _ => ?_)
  refine wpIn_seq ?_
  refine wpIn_region_lit ?_
  obtain ⟨hE', hmv, hmr⟩ := Ep.rebase (S0 := S) hE hI
  replace hx0 := Kd.keep _ hx0 hmv
  replace hE := hE'
  replace hI := hI.rebase
  clear hE' hmv hmr
  have hct := contI (S := Lo S w w_2 ns_1 []) (w := w_2) (d := kd_Call) (x := x0) (sv := (svL [((sv0 0).1, (sv0 0).2), ((sv0 1).1, (sv0 1).2)])) ⟨⟨hx0.1.1, hx0.1.2⟩, ⟨hx0.2.1.1, hx0.2.1.2⟩, trivial⟩
  obtain ⟨B_3, ns_5, hE', hI', hmv, hB_4⟩ := freeze_ (S0 := S) (d := kd_Call) hE hI 0 x0 (svL [((sv0 0).1, (sv0 0).2), ((sv0 1).1, (sv0 1).2)]) 42 rfl
  replace hB_4 := hB_4 hct
  clear hct
  have hmr : ∀ b : Nat, some b ∈ ([] : List (Option Nat)) → w_2.heap[b]? = w_2.heap[b]? := fun _ _ => rfl
  replace hx0 := Kd.keep _ hx0 hmv
  replace hE := hE'
  replace hI := hI'
  clear hE' hI' hmv hmr
  obtain ⟨ns_6, hE', hI', hmv⟩ := hE.cut (S0 := S) hI [2, 1, 0] 0 ⟨[⟨2, [], .v (.bool false)⟩, ⟨1, [], .v (.pointer (some B_3))⟩, ⟨0, [], .v (.agg ((kd_Call).cells x0 sv0).toArray)⟩], [], [], [], none, none⟩ (by kernel_rfl)
  have hmr : ∀ b : Nat, some b ∈ ([] : List (Option Nat)) → w_2.heap[b]? = w_2.heap[b]? := fun _ _ => rfl
  replace hx0 := Kd.keep _ hx0 hmv
  replace hB_4 := El.keep hB_4 hmv
  replace hE := hE'
  replace hI := hI'
  clear hE' hI' hmv hmr
  refine chunkL_ (live := [4, 2, 1, 0]) (orc := []) hF 1 hI ⟨[⟨4, [], .v (.func (.func 48) #[] #[.pointer (some B_3)])⟩, ⟨2, [], .v (.bool false)⟩, ⟨1, [], .v (.pointer (some B_3))⟩, ⟨0, [], .v (.agg ((kd_Call).cells x0 sv0).toArray)⟩], [], [], [], none, none⟩ [] rfl (by kernel_rfl) trivial (fun ns_7 a w_8 hI => ?_)
  refine chunkL_ (live := [3, 2, 1, 0]) (orc := []) hF 1 hI ⟨[⟨3, [], .v (.func (.func 48) #[] #[.pointer (some B_3)])⟩, ⟨2, [], .v (.bool false)⟩, ⟨1, [], .v (.pointer (some B_3))⟩, ⟨0, [], .v (.agg ((kd_Call).cells x0 sv0).toArray)⟩], [], [], [], none, none⟩ [] rfl (by kernel_rfl) trivial (fun ns_9 a w_10 hI => ?_)
  refine wpListIn_nil ?_
  refine then_normal ?_
  refine wpIn_seq ?_
  obtain ⟨t_11, hG_12, H0⟩ := bind_some H0
  refine seq_region (live := [16, 3, 2, 1, 0]) (orc := [[.int .i64 x0.Mark], [.int .i64 x0.Mark], [.int .i64 x0.From], [.bool t_11]]) hF hI ⟨[⟨16, [], .v (.bool ((x0.Mark != (-1)) && (!t_11)))⟩, ⟨3, [], .v (.func (.func 48) #[] #[.pointer (some B_3)])⟩, ⟨2, [], .v (.bool false)⟩, ⟨1, [], .v (.pointer (some B_3))⟩, ⟨0, [], .v (.agg ((kd_Call).cells x0 sv0).toArray)⟩], [], [], [], none, none⟩ [.cell true (B_3.add 16) [.int .i64 x0.Mark], .cell (x0.Mark != (-1)) (B_3.add 16) [.int .i64 x0.Mark], .cell (x0.Mark != (-1)) (B_3.add 10) [.int .i64 x0.From], .call (x0.Mark != (-1)) 48 [.int .i64 x0.Mark, .int .i64 x0.From, .pointer (some B_3)] (.bool t_11)] (by kernel_rfl) ⟨ob_el (fun _ => hB_4) 16 [.int .i64 x0.Mark] rfl, ob_el (fun _ => hB_4) 16 [.int .i64 x0.Mark] rfl, ob_el (fun _ => hB_4) 10 [.int .i64 x0.From] rfl, ob_call (enters Try.func48 (by kernel_rfl) rfl) (fun hg wz hk => G_hist_marked_1.calls x0.Mark x0.From x0 B_3 (svL [((sv0 0).1, (sv0 0).2), ((sv0 1).1, (sv0 1).2)]) wz (S := fun _ => True) (El.any (El.keep hB_4 (Lo.on hk))) _ (cal_some hG_12 hg)), trivial⟩ (fun ns_13 a w_14 hI _ => ?_)
  refine cond_ hI (((x0.Mark != (-1)) && (!t_11))) rfl (fun hc_15 => ?_) (fun hc_15 => ?_)
  · replace H0 := bif_t hc_15 H0
    refine seq_region (live := [2, 16, 3, 1, 0]) (orc := []) hF hI ⟨[⟨2, [], .v (.bool false)⟩, ⟨16, [], .v (.bool ((x0.Mark != (-1)) && (!t_11)))⟩, ⟨3, [], .v (.func (.func 48) #[] #[.pointer (some B_3)])⟩, ⟨1, [], .v (.pointer (some B_3))⟩, ⟨0, [], .v (.agg ((kd_Call).cells x0 sv0).toArray)⟩], [], [], [], none, none⟩ [] (by kernel_rfl) trivial (fun ns_16 a w_17 hI _ => ?_)
    refine wpIn_ret ?_
    refine then_ret ?_
    obtain rfl := Option.some.inj H0
    exact ret1 hI rfl rfl ⟨rfl, hE.below hI⟩
  · replace H0 := bif_f hc_15 H0
    refine wpIn_skip ?_
    refine then_normal ?_
    obtain ⟨t_18, hG_19, H0⟩ := bind_some H0
    refine seq_region (live := [2, 16, 3, 1, 0]) (orc := [[.int .i64 x0.Ring], [.int .i64 x0.Mark], [.int .i64 x0.Ring], [.int .i64 x0.Mark], [.int .i64 x0.Ring], [.int .i64 x0.From], [.bool t_18]]) hF hI ⟨[⟨2, [], .v (.bool ((x0.Ring == (-1)) || ((decide (x0.Mark ≥ 0) && decide (x0.Ring > x0.Mark)) && t_18)))⟩, ⟨16, [], .v (.bool ((x0.Mark != (-1)) && (!t_11)))⟩, ⟨3, [], .v (.func (.func 48) #[] #[.pointer (some B_3)])⟩, ⟨1, [], .v (.pointer (some B_3))⟩, ⟨0, [], .v (.agg ((kd_Call).cells x0 sv0).toArray)⟩], [], [], [], none, none⟩ [.cell true (B_3.add 17) [.int .i64 x0.Ring], .cell (!(x0.Ring == (-1))) (B_3.add 16) [.int .i64 x0.Mark], .cell (!(x0.Ring == (-1)) && (decide (x0.Mark ≥ 0))) (B_3.add 17) [.int .i64 x0.Ring], .cell (!(x0.Ring == (-1)) && (decide (x0.Mark ≥ 0))) (B_3.add 16) [.int .i64 x0.Mark], .cell (!(x0.Ring == (-1)) && (decide (x0.Mark ≥ 0) && decide (x0.Ring > x0.Mark))) (B_3.add 17) [.int .i64 x0.Ring], .cell (!(x0.Ring == (-1)) && (decide (x0.Mark ≥ 0) && decide (x0.Ring > x0.Mark))) (B_3.add 10) [.int .i64 x0.From], .call (!(x0.Ring == (-1)) && (decide (x0.Mark ≥ 0) && decide (x0.Ring > x0.Mark))) 48 [.int .i64 x0.Ring, .int .i64 x0.From, .pointer (some B_3)] (.bool t_18)] (by kernel_rfl) ⟨ob_el (fun _ => hB_4) 17 [.int .i64 x0.Ring] rfl, ob_el (fun _ => hB_4) 16 [.int .i64 x0.Mark] rfl, ob_el (fun _ => hB_4) 17 [.int .i64 x0.Ring] rfl, ob_el (fun _ => hB_4) 16 [.int .i64 x0.Mark] rfl, ob_el (fun _ => hB_4) 17 [.int .i64 x0.Ring] rfl, ob_el (fun _ => hB_4) 10 [.int .i64 x0.From] rfl, ob_call (enters Try.func48 (by kernel_rfl) rfl) (fun hg wz hk => G_hist_marked_1.calls x0.Ring x0.From x0 B_3 (svL [((sv0 0).1, (sv0 0).2), ((sv0 1).1, (sv0 1).2)]) wz (S := fun _ => True) (El.any (El.keep hB_4 (Lo.on hk))) _ (cal_some hG_19 hg)), trivial⟩ (fun ns_20 a w_21 hI _ => ?_)
    refine wpIn_ret ?_
    obtain rfl := Option.some.inj H0
    exact ret1 hI rfl rfl ⟨rfl, hE.below hI⟩

/-! ### porthole/hist.Ahead: function 20 -/
noncomputable def G_hist_Ahead (x0 : Call) (x1 : Call) : Option (Bool) := some (x0.Done && decide (x0.To < x1.From))
set_option maxRecDepth 100000 in
set_option maxHeartbeats 4000000 in
theorem G_hist_Ahead.calls (x0 : Call) (x1 : Call) (sv0 : SV) (sv1 : SV) (w : World) {S : Nat → Prop} (hx0 : (kd_Call).cont S w x0 sv0) (hx1 : (kd_Call).cont S w x1 sv1) (r : Bool) (h : G_hist_Ahead x0 x1 = some r) :
    Calls Try.prog 20 #[.agg ((kd_Call).cells x0 sv0).toArray, .agg ((kd_Call).cells x1 sv1).toArray] w fun e w' => e = .returned (.bool r) ∧ Below w.heap.size w w' := by
  replace hx0 := Kd.lo _ hx0
  replace hx1 := Kd.lo _ hx1
  unfold G_hist_Ahead at h
  have H0 := h
  clear h
  refine enter Try.func20 rfl [.agg ((kd_Call).cells x0 sv0).toArray, .agg ((kd_Call).cells x1 sv1).toArray] (n := 14) rfl (Nat.le_of_ble_eq_true rfl) (fun a hI => ?_)
  have hF : FOpen Fence.wide := .inl rfl
  have hE := Ep.start w
  refine seq_region (live := [4, 3, 2, 0, 1]) (orc := []) hF hI ⟨[⟨4, [], .v (.bool false)⟩, ⟨3, [], .p 1 0⟩, ⟨2, [], .p 0 0⟩, ⟨0, [], .v (.agg ((kd_Call).cells x0 sv0).toArray)⟩, ⟨1, [], .v (.agg ((kd_Call).cells x1 sv1).toArray)⟩], [], [], [((((kd_Call).cells x0 sv0).map EV.v), 42), ((((kd_Call).cells x1 sv1).map EV.v), 42)], none, none⟩ [] (by kernel_rfl) trivial (fun ns_1 a w_2 hI _ => ?_)
  refine seq_region (live := [4, 3, 2, 0, 1]) (orc := []) hF hI ⟨[⟨4, [], .v (.bool (x0.Done && decide (x0.To < x1.From)))⟩, ⟨3, [], .p 1 0⟩, ⟨2, [], .p 0 0⟩, ⟨0, [], .v (.agg ((kd_Call).cells x0 sv0).toArray)⟩, ⟨1, [], .v (.agg ((kd_Call).cells x1 sv1).toArray)⟩], [], [], [((((kd_Call).cells x0 sv0).map EV.v), 42), ((((kd_Call).cells x1 sv1).map EV.v), 42)], none, none⟩ [] (by kernel_rfl) trivial (fun ns_3 a w_4 hI _ => ?_)
  refine wpIn_ret ?_
  obtain rfl := Option.some.inj H0
  exact ret1 hI rfl rfl ⟨rfl, hE.below hI⟩

/-! ### porthole/hist.follows: function 40 -/
noncomputable def G_hist_follows (x0 : Call) (x1 : Call) : Option (Bool) := ((G_hist_Ahead x0 x1).bind fun t_3 => some ((t_3 && decide (x0.T1 ≤ x1.T0)) && (x0.Own1 == (IntKind.i64.wrap (x1.Own0 - 1)))))
set_option maxRecDepth 100000 in
set_option maxHeartbeats 4000000 in
theorem G_hist_follows.calls (x0 : Call) (x1 : Call) (sv0 : SV) (sv1 : SV) (w : World) {S : Nat → Prop} (hx0 : (kd_Call).cont S w x0 sv0) (hx1 : (kd_Call).cont S w x1 sv1) (r : Bool) (h : G_hist_follows x0 x1 = some r) :
    Calls Try.prog 40 #[.agg ((kd_Call).cells x0 (svL [((sv0 0).1, (sv0 0).2), ((sv0 1).1, (sv0 1).2)])).toArray, .agg ((kd_Call).cells x1 (svL [((sv1 0).1, (sv1 0).2), ((sv1 1).1, (sv1 1).2)])).toArray] w fun e w' => e = .returned (.bool r) ∧ Below w.heap.size w w' := by
  replace hx0 := Kd.lo _ hx0
  replace hx1 := Kd.lo _ hx1
  unfold G_hist_follows at h
  have H0 := h
  clear h
  refine enter Try.func40 rfl [.agg ((kd_Call).cells x0 (svL [((sv0 0).1, (sv0 0).2), ((sv0 1).1, (sv0 1).2)])).toArray, .agg ((kd_Call).cells x1 (svL [((sv1 0).1, (sv1 0).2), ((sv1 1).1, (sv1 1).2)])).toArray] (n := 23) rfl (Nat.le_of_ble_eq_true rfl) (fun a hI => ?_)
  have hF : FOpen Fence.wide := .inl rfl
  have hE := Ep.start w
  refine seq_region (live := [4, 3, 2, 0, 1]) (orc := []) hF hI ⟨[⟨4, [], .v (.bool false)⟩, ⟨3, [], .p 1 0⟩, ⟨2, [], .p 0 0⟩, ⟨0, [], .v (.agg ((kd_Call).cells x0 sv0).toArray)⟩, ⟨1, [], .v (.agg ((kd_Call).cells x1 sv1).toArray)⟩], [], [], [((((kd_Call).cells x0 sv0).map EV.v), 42), ((((kd_Call).cells x1 sv1).map EV.v), 42)], none, none⟩ [] (by kernel_rfl) trivial (fun ns_1 a w_2 hI _ => ?_)
  obtain ⟨t_3, hG_4, H0⟩ := bind_some H0
  refine seq_region (live := [4, 3, 2, 0, 1]) (orc := [[.bool t_3]]) hF hI ⟨[⟨4, [], .v (.bool ((t_3 && decide (x0.T1 ≤ x1.T0)) && (x0.Own1 == (IntKind.i64.wrap (x1.Own0 - 1)))))⟩, ⟨3, [], .p 1 0⟩, ⟨2, [], .p 0 0⟩, ⟨0, [], .v (.agg ((kd_Call).cells x0 (svL [((sv0 0).1, (sv0 0).2), ((sv0 1).1, (sv0 1).2)])).toArray)⟩, ⟨1, [], .v (.agg ((kd_Call).cells x1 (svL [((sv1 0).1, (sv1 0).2), ((sv1 1).1, (sv1 1).2)])).toArray)⟩], [], [], [((((kd_Call).cells x0 sv0).map EV.v), 42), ((((kd_Call).cells x1 sv1).map EV.v), 42)], none, none⟩ [.call true 20 [.agg ((kd_Call).cells x0 (svL [((sv0 0).1, (sv0 0).2), ((sv0 1).1, (sv0 1).2)])).toArray, .agg ((kd_Call).cells x1 (svL [((sv1 0).1, (sv1 0).2), ((sv1 1).1, (sv1 1).2)])).toArray] (.bool t_3)] (by kernel_rfl) ⟨ob_call (enters Try.func20 (by kernel_rfl) rfl) (fun hg wz hk => G_hist_Ahead.calls x0 x1 (svL [((sv0 0).1, (sv0 0).2), ((sv0 1).1, (sv0 1).2)]) (svL [((sv1 0).1, (sv1 0).2), ((sv1 1).1, (sv1 1).2)]) wz (S := fun _ => True) (Kd.any _ (Kd.keep kd_Call (contI (S := Lo S w w [] []) (w := w) (d := kd_Call) (x := x0) (sv := (svL [((sv0 0).1, (sv0 0).2), ((sv0 1).1, (sv0 1).2)])) ⟨⟨hx0.1.1, hx0.1.2⟩, ⟨hx0.2.1.1, hx0.2.1.2⟩, trivial⟩) (Lo.on hk))) (Kd.any _ (Kd.keep kd_Call (contI (S := Lo S w w [] []) (w := w) (d := kd_Call) (x := x1) (sv := (svL [((sv1 0).1, (sv1 0).2), ((sv1 1).1, (sv1 1).2)])) ⟨⟨hx1.1.1, hx1.1.2⟩, ⟨hx1.2.1.1, hx1.2.1.2⟩, trivial⟩) (Lo.on hk))) _ hG_4), trivial⟩ (fun ns_5 a w_6 hI _ => ?_)
  refine wpIn_ret ?_
  obtain rfl := Option.some.inj H0
  exact ret1 hI rfl rfl ⟨rfl, hE.below hI⟩

/-! ### porthole/hist.saw: function 41 -/
noncomputable def G_hist_saw (l0 : (List Call)) (x1 : Call) : Option (Bool) := (bif (decide (x1.Saw < 0) || decide (x1.Saw ≥ (l0.length : Int))) then some false else (req (inb x1.Saw l0.length) (some (((((rd l0 x1.Saw).Req.Op) == 3) && decide (((rd l0 x1.Saw).Mark) ≥ 0)) && ((!x1.Done) || decide (((rd l0 x1.Saw).Mark) ≤ x1.To))))))
set_option maxRecDepth 100000 in
set_option maxHeartbeats 4000000 in
theorem G_hist_saw.calls (l0 : (List Call)) (x1 : Call) (A0 : Option Addr) (c0 : Nat) (sv1 : SV) (w : World) {S : Nat → Prop} (hr0 : Arr kd_Call S w A0 l0) (hc0 : l0.length ≤ c0) (hx1 : (kd_Call).cont S w x1 sv1) (r : Bool) (h : G_hist_saw l0 x1 = some r) :
    Calls Try.prog 41 #[.slice A0 l0.length c0, .agg ((kd_Call).cells x1 sv1).toArray] w fun e w' => e = .returned (.bool r) ∧ Below w.heap.size w w' := by
  replace hr0 := Arr.lo hr0
  replace hx1 := Kd.lo _ hx1
  unfold G_hist_saw at h
  have H0 := h
  clear h
  refine enter Try.func41 rfl [.slice A0 l0.length c0, .agg ((kd_Call).cells x1 sv1).toArray] (n := 42) rfl (Nat.le_of_ble_eq_true rfl) (fun a hI => ?_)
  have hF : FOpen Fence.wide := .inl rfl
  have hE := Ep.start w
  refine seq_region (live := [4, 3, 0, 1]) (orc := []) hF hI ⟨[⟨4, [], .v (.bool false)⟩, ⟨3, [], .p 0 0⟩, ⟨0, [], .v (.slice A0 l0.length c0)⟩, ⟨1, [], .v (.agg ((kd_Call).cells x1 sv1).toArray)⟩], [], [], [((((kd_Call).cells x1 sv1).map EV.v), 42)], none, none⟩ [] (by kernel_rfl) trivial (fun ns_1 a w_2 hI _ => ?_)
  refine wpIn_seq ?_
  refine seq_region (live := [15, 4, 3, 0, 1]) (orc := []) hF hI ⟨[⟨15, [], .v (.bool (decide (x1.Saw < 0) || decide (x1.Saw ≥ (l0.length : Int))))⟩, ⟨4, [], .v (.bool false)⟩, ⟨3, [], .p 0 0⟩, ⟨0, [], .v (.slice A0 l0.length c0)⟩, ⟨1, [], .v (.agg ((kd_Call).cells x1 sv1).toArray)⟩], [], [], [((((kd_Call).cells x1 sv1).map EV.v), 42)], none, none⟩ [] (by kernel_rfl) trivial (fun ns_3 a w_4 hI _ => ?_)
  refine cond_ hI ((decide (x1.Saw < 0) || decide (x1.Saw ≥ (l0.length : Int)))) rfl (fun hc_5 => ?_) (fun hc_5 => ?_)
  · replace H0 := bif_t hc_5 H0
    refine seq_region (live := [4, 15, 3, 0, 1]) (orc := []) hF hI ⟨[⟨4, [], .v (.bool false)⟩, ⟨15, [], .v (.bool (decide (x1.Saw < 0) || decide (x1.Saw ≥ (l0.length : Int))))⟩, ⟨3, [], .p 0 0⟩, ⟨0, [], .v (.slice A0 l0.length c0)⟩, ⟨1, [], .v (.agg ((kd_Call).cells x1 sv1).toArray)⟩], [], [], [((((kd_Call).cells x1 sv1).map EV.v), 42)], none, none⟩ [] (by kernel_rfl) trivial (fun ns_6 a w_7 hI _ => ?_)
    refine wpIn_ret ?_
    refine then_ret ?_
    obtain rfl := Option.some.inj H0
    exact ret1 hI rfl rfl ⟨rfl, hE.below hI⟩
  · replace H0 := bif_f hc_5 H0
    refine wpIn_skip ?_
    refine then_normal ?_
    obtain ⟨hN_8, H0⟩ := req_some H0
    obtain ⟨sv_9, hE_11, hA_10⟩ := Arr.elB (d := kd_Call) hr0 x1.Saw true (fun _ => hN_8)
    replace hE_11 := hE_11 rfl
    replace hA_10 := fun (_ : true = true) => hA_10 rfl
    refine seq_region (live := [5, 15, 4, 3, 0, 1]) (orc := [(kd_Call).cells (rd l0 x1.Saw) sv_9]) hF hI ⟨[⟨5, [], .p 1 0⟩, ⟨15, [], .v (.bool (decide (x1.Saw < 0) || decide (x1.Saw ≥ (l0.length : Int))))⟩, ⟨4, [], .v (.bool false)⟩, ⟨3, [], .p 0 0⟩, ⟨0, [], .v (.slice A0 l0.length c0)⟩, ⟨1, [], .v (.agg ((kd_Call).cells x1 sv1).toArray)⟩], [], [], [((((kd_Call).cells x1 sv1).map EV.v), 42), ((((kd_Call).cells (rd l0 x1.Saw) sv_9).map EV.v), 42)], none, none⟩ [.need true (0 ≤ x1.Saw ∧ x1.Saw < (l0.length : Int)), .need true (A0 = some (adr A0)), .cell true ((adr A0).add ((x1.Saw : Int).toNat * 20)) ((kd_Call).cells (rd l0 x1.Saw) sv_9)] (by kernel_rfl) ⟨ob_inb (fun _ => hN_8), hA_10, ob_el (fun _ => hE_11) 0 ((kd_Call).cells (rd l0 x1.Saw) sv_9) rfl, trivial⟩ (fun ns_12 a w_13 hI _ => ?_)
    refine seq_region (live := [4, 5, 15, 3, 0, 1]) (orc := []) hF hI ⟨[⟨4, [], .v (.bool (((((rd l0 x1.Saw).Req.Op) == 3) && decide (((rd l0 x1.Saw).Mark) ≥ 0)) && ((!x1.Done) || decide (((rd l0 x1.Saw).Mark) ≤ x1.To))))⟩, ⟨5, [], .p 1 0⟩, ⟨15, [], .v (.bool (decide (x1.Saw < 0) || decide (x1.Saw ≥ (l0.length : Int))))⟩, ⟨3, [], .p 0 0⟩, ⟨0, [], .v (.slice A0 l0.length c0)⟩, ⟨1, [], .v (.agg ((kd_Call).cells x1 sv1).toArray)⟩], [], [], [((((kd_Call).cells x1 sv1).map EV.v), 42), ((((kd_Call).cells (rd l0 x1.Saw) sv_9).map EV.v), 42)], none, none⟩ [] (by kernel_rfl) trivial (fun ns_14 a w_15 hI _ => ?_)
    refine wpIn_ret ?_
    obtain rfl := Option.some.inj H0
    exact ret1 hI rfl rfl ⟨rfl, hE.below hI⟩

/-! ### porthole/hist.Sound: function 19 -/
noncomputable def G_hist_Sound.b1 (l0 : (List Call)) (s1 : Int × Bool × (List (Int × Int))) : Option (Stp (Int × Bool × (List (Int × Int))) (Ex (Int × Bool × (List (Int × Int))) (Bool))) := (bif decide (s1.1 < (l0.length : Int)) then (req (inb s1.1 l0.length) ((G_hist_timed (rd l0 s1.1)).bind fun t_22 => ((cal (!(!t_22)) (G_hist_marked (rd l0 s1.1)) default).bind fun t_24 => (req (imp (!((!t_22) || (!t_24)) && (decide (s1.1 > 0))) (inb (IntKind.i64.wrap (s1.1 - 1)) l0.length)) (bif (((!t_22) || (!t_24)) || (decide (s1.1 > 0) && decide (((rd l0 s1.1).From) ≤ ((rd l0 (IntKind.i64.wrap (s1.1 - 1))).From)))) then some (.out (.ret false)) else (req (imp ((mget s1.2.2 ((rd l0 s1.1).Part)).isSome) (inb ((mget s1.2.2 ((rd l0 s1.1).Part)).getD 0) l0.length)) ((cal ((mget s1.2.2 ((rd l0 s1.1).Part)).isSome) (G_hist_follows (rd l0 ((mget s1.2.2 ((rd l0 s1.1).Part)).getD 0)) (rd l0 s1.1)) default).bind fun t_40 => (bif (((mget s1.2.2 ((rd l0 s1.1).Part)).isSome && (!t_40)) || ((!((mget s1.2.2 ((rd l0 s1.1).Part)).isSome)) && (((rd l0 s1.1).Own0) != 1))) then some (.out (.ret false)) else ((cal (((rd l0 s1.1).Saw) != (-1)) (G_hist_saw l0 (rd l0 s1.1)) default).bind fun t_51 => (bif ((((rd l0 s1.1).Saw) != (-1)) && (!t_51)) then some (.out (.ret false)) else some (.next ((IntKind.i64.wrap (s1.1 + 1)), s1.2.1, (mset s1.2.2 ((rd l0 s1.1).Part) s1.1))))))))))))) else some (.out (.brk (s1.1, s1.2.1, s1.2.2))))
noncomputable def G_hist_Sound (l0 : (List Call)) : Option (Bool) := ((loopω (G_hist_Sound.b1 l0) (0, false, ([] : List (Int × Int)))).bind fun o => o.on (fun s1 => some true) (fun r => some r))
set_option maxRecDepth 100000 in
set_option maxHeartbeats 4000000 in
theorem G_hist_Sound.calls (l0 : (List Call)) (A0 : Option Addr) (c0 : Nat) (w : World) {S : Nat → Prop} (hr0 : Arr kd_Call S w A0 l0) (hc0 : l0.length ≤ c0) (r : Bool) (h : G_hist_Sound l0 = some r) :
    Calls Try.prog 19 #[.slice A0 l0.length c0] w fun e w' => e = .returned (.bool r) ∧ Below w.heap.size w w' := by
  replace hr0 := Arr.lo hr0
  unfold G_hist_Sound at h
  have H0 := h
  clear h
  refine enter Try.func19 rfl [.slice A0 l0.length c0] (n := 79) rfl (Nat.le_of_ble_eq_true rfl) (fun a hI => ?_)
  have hF : FOpen Fence.wide := .inl rfl
  have hE := Ep.start w
  refine seq_region (live := [2, 0]) (orc := []) hF hI ⟨[⟨2, [], .v (.bool false)⟩, ⟨0, [], .v (.slice A0 l0.length c0)⟩], [], [], [], none, none⟩ [] (by kernel_rfl) trivial (fun ns_1 a w_2 hI _ => ?_)
  refine wpIn_seq ?_
  refine wpIn_region_lit ?_
  obtain ⟨hE', hmv, hmr⟩ := Ep.rebase (S0 := S) hE hI
  replace hr0 := Arr.keep hr0 hmv
  replace hE := hE'
  replace hI := hI.rebase
  clear hE' hmv hmr
  refine makeMap_ (S0 := S) hF hE hI (wanted_none rfl) rfl Int .i64 (fun x => .int .i64 x) (fun b_3 => ⟨[⟨8, [], .v (.map (some b_3))⟩, ⟨2, [], .v (.bool false)⟩, ⟨0, [], .v (.slice A0 l0.length c0)⟩], [], [], [], none, none⟩) (fun b_3 => by kernel_rfl) (fun b_3 a w_5 hput hE' hI' hmv hmr hq_4 => ?_)
  replace hr0 := Arr.keep hr0 hmv
  replace hE := hE'
  replace hI := hI'
  clear hE' hI' hmv hmr
  refine chunkL_ (live := [3, 2, 0]) (orc := []) hF 1 hI ⟨[⟨3, [], .v (.map (some b_3))⟩, ⟨2, [], .v (.bool false)⟩, ⟨0, [], .v (.slice A0 l0.length c0)⟩], [], [], [], none, none⟩ [] rfl (by kernel_rfl) trivial (fun ns_6 a w_7 hI => ?_)
  refine wpListIn_nil ?_
  refine then_normal ?_
  refine wpIn_seq ?_
  refine seq_region (live := [11, 10, 9, 3, 2, 0]) (orc := []) hF hI ⟨[⟨11, [], .v (.int .i64 0)⟩, ⟨10, [], .v (.int .i64 (l0.length : Int))⟩, ⟨9, [], .v (.slice A0 l0.length c0)⟩, ⟨3, [], .v (.map (some b_3))⟩, ⟨2, [], .v (.bool false)⟩, ⟨0, [], .v (.slice A0 l0.length c0)⟩], [], [], [], none, none⟩ [] (by kernel_rfl) trivial (fun ns_8 a w_9 hI _ => ?_)
  obtain ⟨hE', hmv, hmr⟩ := Ep.rebase (S0 := S) hE hI
  replace hr0 := Arr.keep hr0 hmv
  replace hq_4 := MapIs.keep hq_4 (hmr _ (by simp))
  replace hE := hE'
  replace hI := hI.rebase
  clear hE' hmv hmr
  obtain ⟨o_60, hL_61, H0⟩ := bind_some H0
  refine block_loop (fun s1 a w_67 => ∃ (ow ns : List Nat) , (Arr kd_Call (Lo S w w_67 ow [some b_3]) w_67 A0 l0) ∧ (MapIs .i64 (fun x => .int .i64 x) w_67 b_3 (s1.2.2 : List (Int × Int))) ∧ Ep w w_67 ow [some b_3] ∧ St w_67 ow 79 ⟨[⟨11, [], .v (.int .i64 s1.1)⟩, ⟨10, [], .v (.int .i64 (l0.length : Int))⟩, ⟨9, [], .v (.slice A0 l0.length c0)⟩, ⟨3, [], .v (.map (some b_3))⟩, ⟨2, [], .v (.bool s1.2.1)⟩, ⟨0, [], .v (.slice A0 l0.length c0)⟩], [], [], [], none, none⟩ ns a w_67) (0, false, ([] : List (Int × Int))) hL_61 ⟨_, _, hr0, hq_4, hE, hI.pick [11, 10, 9, 3, 2, 0] 0 ⟨[⟨11, [], .v (.int .i64 0)⟩, ⟨10, [], .v (.int .i64 (l0.length : Int))⟩, ⟨9, [], .v (.slice A0 l0.length c0)⟩, ⟨3, [], .v (.map (some b_3))⟩, ⟨2, [], .v (.bool false)⟩, ⟨0, [], .v (.slice A0 l0.length c0)⟩], [], [], [], none, none⟩ (by kernel_rfl)⟩ ?_ ?_
  · clear hI hE
    rintro s1 a w_10 ⟨ow_12, ns_11, hr0, hq_4, hE, hI⟩ r1 H1
    unfold G_hist_Sound.b1 at H1
    refine seq_region (live := [12, 11, 10, 9, 3, 2, 0]) (orc := []) hF hI ⟨[⟨12, [], .v (.bool (decide (s1.1 < (l0.length : Int))))⟩, ⟨11, [], .v (.int .i64 s1.1)⟩, ⟨10, [], .v (.int .i64 (l0.length : Int))⟩, ⟨9, [], .v (.slice A0 l0.length c0)⟩, ⟨3, [], .v (.map (some b_3))⟩, ⟨2, [], .v (.bool s1.2.1)⟩, ⟨0, [], .v (.slice A0 l0.length c0)⟩], [], [], [], none, none⟩ [] (by kernel_rfl) trivial (fun ns_13 a w_14 hI _ => ?_)
    refine wpIn_seq ?_
    refine cond_ hI (decide (s1.1 < (l0.length : Int))) rfl (fun hc_15 => ?_) (fun hc_15 => ?_)
    · replace H1 := bif_t hc_15 H1
      refine wpIn_skip ?_
      refine then_normal ?_
      refine wpIn_seq ?_
      refine wpIn_block ?_
      obtain ⟨hN_16, H1⟩ := req_some H1
      obtain ⟨sv_17, hE_19, hA_18⟩ := Arr.elB (d := kd_Call) hr0 s1.1 true (fun _ => hN_16)
      replace hE_19 := hE_19 rfl
      replace hA_18 := fun (_ : true = true) => hA_18 rfl
      refine seq_region (live := [4, 5, 12, 11, 10, 9, 3, 2, 0]) (orc := [(kd_Call).cells (rd l0 s1.1) sv_17]) hF hI ⟨[⟨4, [], .v (.int .i64 s1.1)⟩, ⟨5, [], .p 0 0⟩, ⟨12, [], .v (.bool (decide (s1.1 < (l0.length : Int))))⟩, ⟨11, [], .v (.int .i64 s1.1)⟩, ⟨10, [], .v (.int .i64 (l0.length : Int))⟩, ⟨9, [], .v (.slice A0 l0.length c0)⟩, ⟨3, [], .v (.map (some b_3))⟩, ⟨2, [], .v (.bool s1.2.1)⟩, ⟨0, [], .v (.slice A0 l0.length c0)⟩], [], [], [((((kd_Call).cells (rd l0 s1.1) sv_17).map EV.v), 42)], none, none⟩ [.need true (0 ≤ s1.1 ∧ s1.1 < (l0.length : Int)), .need true (A0 = some (adr A0)), .cell true ((adr A0).add ((s1.1 : Int).toNat * 20)) ((kd_Call).cells (rd l0 s1.1) sv_17)] (by kernel_rfl) ⟨ob_inb (fun _ => hN_16), hA_18, ob_el (fun _ => hE_19) 0 ((kd_Call).cells (rd l0 s1.1) sv_17) rfl, trivial⟩ (fun ns_20 a w_21 hI _ => ?_)
      refine wpIn_seq ?_
      refine wpIn_seq ?_
      obtain ⟨t_22, hG_23, H1⟩ := bind_some H1
      obtain ⟨t_24, hG_25, H1⟩ := bind_some H1
      obtain ⟨hN_26, H1⟩ := req_some H1
      obtain ⟨sv_27, hE_29, hA_28⟩ := Arr.elB (d := kd_Call) hr0 (IntKind.i64.wrap (s1.1 - 1)) (!((!t_22) || (!t_24)) && (decide (s1.1 > 0))) (fun hg => imp_spec hN_26 hg)
      refine drawn_ (live := [38, 4, 5, 12, 11, 10, 9, 3, 2, 0]) (orc := [[.bool t_22], [.bool t_24], [.int .i64 ((rd l0 (IntKind.i64.wrap (s1.1 - 1))).From)]]) hF hI ⟨[⟨38, [], .v (.bool (((!t_22) || (!t_24)) || (decide (s1.1 > 0) && decide (((rd l0 s1.1).From) ≤ ((rd l0 (IntKind.i64.wrap (s1.1 - 1))).From)))))⟩, ⟨4, [], .v (.int .i64 s1.1)⟩, ⟨5, [], .p 0 0⟩, ⟨12, [], .v (.bool (decide (s1.1 < (l0.length : Int))))⟩, ⟨11, [], .v (.int .i64 s1.1)⟩, ⟨10, [], .v (.int .i64 (l0.length : Int))⟩, ⟨9, [], .v (.slice A0 l0.length c0)⟩, ⟨3, [], .v (.map (some b_3))⟩, ⟨2, [], .v (.bool s1.2.1)⟩, ⟨0, [], .v (.slice A0 l0.length c0)⟩], [], [], [((((kd_Call).cells (rd l0 s1.1) sv_17).map EV.v), 42)], none, none⟩ [.call true 38 [.agg ((kd_Call).cells (rd l0 s1.1) (svL [((sv_17 0).1, (sv_17 0).2), ((sv_17 1).1, (sv_17 1).2)])).toArray] (.bool t_22), .call (!(!t_22)) 39 [.agg ((kd_Call).cells (rd l0 s1.1) (svL [((sv_17 0).1, (sv_17 0).2), ((sv_17 1).1, (sv_17 1).2)])).toArray] (.bool t_24), .need (!((!t_22) || (!t_24)) && (decide (s1.1 > 0))) (0 ≤ (IntKind.i64.wrap (s1.1 - 1)) ∧ (IntKind.i64.wrap (s1.1 - 1)) < (l0.length : Int)), .need (!((!t_22) || (!t_24)) && (decide (s1.1 > 0))) (A0 = some (adr A0)), .cell (!((!t_22) || (!t_24)) && (decide (s1.1 > 0))) (((adr A0).add (((IntKind.i64.wrap (s1.1 - 1)) : Int).toNat * 20)).add 10) [.int .i64 ((rd l0 (IntKind.i64.wrap (s1.1 - 1))).From)]] (by kernel_rfl) (by kernel_rfl) (by kernel_rfl) ⟨ob_call (enters Try.func38 (by kernel_rfl) rfl) (fun hg wz hk => G_hist_timed.calls (rd l0 s1.1) (svL [((sv_17 0).1, (sv_17 0).2), ((sv_17 1).1, (sv_17 1).2)]) wz (S := fun _ => True) (Kd.any _ (Kd.keep kd_Call (contI (S := Lo S w w_10 ow_12 [some b_3]) (w := w_10) (d := kd_Call) (x := (rd l0 s1.1)) (sv := (svL [((sv_17 0).1, (sv_17 0).2), ((sv_17 1).1, (sv_17 1).2)])) ⟨⟨(hE_19).cont.1.1, (hE_19).cont.1.2⟩, ⟨(hE_19).cont.2.1.1, (hE_19).cont.2.1.2⟩, trivial⟩) (Lo.on hk))) _ hG_23), ob_call (enters Try.func39 (by kernel_rfl) rfl) (fun hg wz hk => G_hist_marked.calls (rd l0 s1.1) (svL [((sv_17 0).1, (sv_17 0).2), ((sv_17 1).1, (sv_17 1).2)]) wz (S := fun _ => True) (Kd.any _ (Kd.keep kd_Call (contI (S := Lo S w w_10 ow_12 [some b_3]) (w := w_10) (d := kd_Call) (x := (rd l0 s1.1)) (sv := (svL [((sv_17 0).1, (sv_17 0).2), ((sv_17 1).1, (sv_17 1).2)])) ⟨⟨(hE_19).cont.1.1, (hE_19).cont.1.2⟩, ⟨(hE_19).cont.2.1.1, (hE_19).cont.2.1.2⟩, trivial⟩) (Lo.on hk))) _ (cal_some hG_25 hg)), ob_inb (fun hg => imp_spec hN_26 hg), hA_28, ob_el (fun hg => hE_29 hg) 10 [.int .i64 ((rd l0 (IntKind.i64.wrap (s1.1 - 1))).From)] rfl, trivial⟩ (fun a w_30 hI => ?_)
      refine then_normal ?_
      refine cond_ hI ((((!t_22) || (!t_24)) || (decide (s1.1 > 0) && decide (((rd l0 s1.1).From) ≤ ((rd l0 (IntKind.i64.wrap (s1.1 - 1))).From))))) rfl (fun hc_31 => ?_) (fun hc_31 => ?_)
      · replace H1 := bif_t hc_31 H1
        refine seq_region (live := [2, 38, 4, 5, 12, 11, 10, 9, 3, 0]) (orc := []) hF hI ⟨[⟨2, [], .v (.bool false)⟩, ⟨38, [], .v (.bool (((!t_22) || (!t_24)) || (decide (s1.1 > 0) && decide (((rd l0 s1.1).From) ≤ ((rd l0 (IntKind.i64.wrap (s1.1 - 1))).From)))))⟩, ⟨4, [], .v (.int .i64 s1.1)⟩, ⟨5, [], .p 0 0⟩, ⟨12, [], .v (.bool (decide (s1.1 < (l0.length : Int))))⟩, ⟨11, [], .v (.int .i64 s1.1)⟩, ⟨10, [], .v (.int .i64 (l0.length : Int))⟩, ⟨9, [], .v (.slice A0 l0.length c0)⟩, ⟨3, [], .v (.map (some b_3))⟩, ⟨0, [], .v (.slice A0 l0.length c0)⟩], [], [], [((((kd_Call).cells (rd l0 s1.1) sv_17).map EV.v), 42)], none, none⟩ [] (by kernel_rfl) trivial (fun ns_32 a w_33 hI _ => ?_)
        refine wpIn_ret ?_
        refine then_ret ?_
        refine inBlock_ret ?_
        refine then_ret ?_
        refine then_ret ?_
        obtain rfl := Option.some.inj H1
        refine .inr ⟨_, rfl, fun ho => ?_⟩
        subst ho
        refine inBlock_ret ?_
        refine then_ret ?_
        obtain rfl := Option.some.inj H0
        exact ret1 hI rfl rfl ⟨rfl, hE.below hI⟩
      · replace H1 := bif_f hc_31 H1
        refine wpIn_skip ?_
        refine then_normal ?_
        refine seq_region (live := [7, 6, 38, 4, 5, 12, 11, 10, 9, 3, 2, 0]) (orc := [[.tuple #[.int .i64 ((mget s1.2.2 ((rd l0 s1.1).Part)).getD 0), .bool ((mget s1.2.2 ((rd l0 s1.1).Part)).isSome)]]]) hF hI ⟨[⟨7, [], .v (.bool ((mget s1.2.2 ((rd l0 s1.1).Part)).isSome))⟩, ⟨6, [], .v (.int .i64 ((mget s1.2.2 ((rd l0 s1.1).Part)).getD 0))⟩, ⟨38, [], .v (.bool (((!t_22) || (!t_24)) || (decide (s1.1 > 0) && decide (((rd l0 s1.1).From) ≤ ((rd l0 (IntKind.i64.wrap (s1.1 - 1))).From)))))⟩, ⟨4, [], .v (.int .i64 s1.1)⟩, ⟨5, [], .p 0 0⟩, ⟨12, [], .v (.bool (decide (s1.1 < (l0.length : Int))))⟩, ⟨11, [], .v (.int .i64 s1.1)⟩, ⟨10, [], .v (.int .i64 (l0.length : Int))⟩, ⟨9, [], .v (.slice A0 l0.length c0)⟩, ⟨3, [], .v (.map (some b_3))⟩, ⟨2, [], .v (.bool s1.2.1)⟩, ⟨0, [], .v (.slice A0 l0.length c0)⟩], [], [], [((((kd_Call).cells (rd l0 s1.1) sv_17).map EV.v), 42)], none, none⟩ [.run true (vS (Instr.lookup 79 (.map (some b_3)) (.int .i64 ((rd l0 s1.1).Part)) true)) (.tuple #[.int .i64 ((mget s1.2.2 ((rd l0 s1.1).Part)).getD 0), .bool ((mget s1.2.2 ((rd l0 s1.1).Part)).isSome)])] (by kernel_rfl) ⟨(fun _ wz hk => vS_run (lookup_run Try.underlying79 Try.underlying3 (zi := (.int .i64 0, 1, 8)) (z := 0) (by kernel_rfl) rfl (MapIs.keep hq_4 (hk.block _ (hE.mi _ (by simp)).2.1 (hE.mi _ (by simp)).2.2)) ((rd l0 s1.1).Part) true)), trivial⟩ (fun ns_34 a w_35 hI _ => ?_)
        refine wpIn_seq ?_
        refine wpIn_seq ?_
        obtain ⟨hN_36, H1⟩ := req_some H1
        obtain ⟨sv_37, hE_39, hA_38⟩ := Arr.elB (d := kd_Call) hr0 ((mget s1.2.2 ((rd l0 s1.1).Part)).getD 0) ((mget s1.2.2 ((rd l0 s1.1).Part)).isSome) (fun hg => imp_spec hN_36 hg)
        obtain ⟨t_40, hG_41, H1⟩ := bind_some H1
        refine drawn_ (live := [64, 7, 6, 38, 4, 5, 12, 11, 10, 9, 3, 2, 0]) (orc := [(kd_Call).cells (rd l0 ((mget s1.2.2 ((rd l0 s1.1).Part)).getD 0)) sv_37, [.bool t_40]]) hF hI ⟨[⟨64, [], .v (.bool (((mget s1.2.2 ((rd l0 s1.1).Part)).isSome && (!t_40)) || ((!((mget s1.2.2 ((rd l0 s1.1).Part)).isSome)) && (((rd l0 s1.1).Own0) != 1))))⟩, ⟨7, [], .v (.bool ((mget s1.2.2 ((rd l0 s1.1).Part)).isSome))⟩, ⟨6, [], .v (.int .i64 ((mget s1.2.2 ((rd l0 s1.1).Part)).getD 0))⟩, ⟨38, [], .v (.bool (((!t_22) || (!t_24)) || (decide (s1.1 > 0) && decide (((rd l0 s1.1).From) ≤ ((rd l0 (IntKind.i64.wrap (s1.1 - 1))).From)))))⟩, ⟨4, [], .v (.int .i64 s1.1)⟩, ⟨5, [], .p 0 0⟩, ⟨12, [], .v (.bool (decide (s1.1 < (l0.length : Int))))⟩, ⟨11, [], .v (.int .i64 s1.1)⟩, ⟨10, [], .v (.int .i64 (l0.length : Int))⟩, ⟨9, [], .v (.slice A0 l0.length c0)⟩, ⟨3, [], .v (.map (some b_3))⟩, ⟨2, [], .v (.bool s1.2.1)⟩, ⟨0, [], .v (.slice A0 l0.length c0)⟩], [], [], [((((kd_Call).cells (rd l0 s1.1) sv_17).map EV.v), 42)], none, none⟩ [.need ((mget s1.2.2 ((rd l0 s1.1).Part)).isSome) (0 ≤ ((mget s1.2.2 ((rd l0 s1.1).Part)).getD 0) ∧ ((mget s1.2.2 ((rd l0 s1.1).Part)).getD 0) < (l0.length : Int)), .need ((mget s1.2.2 ((rd l0 s1.1).Part)).isSome) (A0 = some (adr A0)), .cell ((mget s1.2.2 ((rd l0 s1.1).Part)).isSome) ((adr A0).add ((((mget s1.2.2 ((rd l0 s1.1).Part)).getD 0) : Int).toNat * 20)) ((kd_Call).cells (rd l0 ((mget s1.2.2 ((rd l0 s1.1).Part)).getD 0)) sv_37), .call ((mget s1.2.2 ((rd l0 s1.1).Part)).isSome) 40 [.agg ((kd_Call).cells (rd l0 ((mget s1.2.2 ((rd l0 s1.1).Part)).getD 0)) (svL [((sv_37 0).1, (sv_37 0).2), ((sv_37 1).1, (sv_37 1).2)])).toArray, .agg ((kd_Call).cells (rd l0 s1.1) (svL [((sv_17 0).1, (sv_17 0).2), ((sv_17 1).1, (sv_17 1).2)])).toArray] (.bool t_40)] (by kernel_rfl) (by kernel_rfl) (by kernel_rfl) ⟨ob_inb (fun hg => imp_spec hN_36 hg), hA_38, ob_el (fun hg => hE_39 hg) 0 ((kd_Call).cells (rd l0 ((mget s1.2.2 ((rd l0 s1.1).Part)).getD 0)) sv_37) rfl, ob_call (enters Try.func40 (by kernel_rfl) rfl) (fun hg wz hk => G_hist_follows.calls (rd l0 ((mget s1.2.2 ((rd l0 s1.1).Part)).getD 0)) (rd l0 s1.1) (svL [((sv_37 0).1, (sv_37 0).2), ((sv_37 1).1, (sv_37 1).2)]) (svL [((sv_17 0).1, (sv_17 0).2), ((sv_17 1).1, (sv_17 1).2)]) wz (S := fun _ => True) (Kd.any _ (Kd.keep kd_Call (contI (S := Lo S w w_10 ow_12 [some b_3]) (w := w_10) (d := kd_Call) (x := (rd l0 ((mget s1.2.2 ((rd l0 s1.1).Part)).getD 0))) (sv := (svL [((sv_37 0).1, (sv_37 0).2), ((sv_37 1).1, (sv_37 1).2)])) ⟨⟨((hE_39 hg)).cont.1.1, ((hE_39 hg)).cont.1.2⟩, ⟨((hE_39 hg)).cont.2.1.1, ((hE_39 hg)).cont.2.1.2⟩, trivial⟩) (Lo.on hk))) (Kd.any _ (Kd.keep kd_Call (contI (S := Lo S w w_10 ow_12 [some b_3]) (w := w_10) (d := kd_Call) (x := (rd l0 s1.1)) (sv := (svL [((sv_17 0).1, (sv_17 0).2), ((sv_17 1).1, (sv_17 1).2)])) ⟨⟨(hE_19).cont.1.1, (hE_19).cont.1.2⟩, ⟨(hE_19).cont.2.1.1, (hE_19).cont.2.1.2⟩, trivial⟩) (Lo.on hk))) _ (cal_some hG_41 hg)), trivial⟩ (fun a w_42 hI => ?_)
        refine then_normal ?_
        refine cond_ hI ((((mget s1.2.2 ((rd l0 s1.1).Part)).isSome && (!t_40)) || ((!((mget s1.2.2 ((rd l0 s1.1).Part)).isSome)) && (((rd l0 s1.1).Own0) != 1)))) rfl (fun hc_43 => ?_) (fun hc_43 => ?_)
        · replace H1 := bif_t hc_43 H1
          refine seq_region (live := [2, 64, 7, 6, 38, 4, 5, 12, 11, 10, 9, 3, 0]) (orc := []) hF hI ⟨[⟨2, [], .v (.bool false)⟩, ⟨64, [], .v (.bool (((mget s1.2.2 ((rd l0 s1.1).Part)).isSome && (!t_40)) || ((!((mget s1.2.2 ((rd l0 s1.1).Part)).isSome)) && (((rd l0 s1.1).Own0) != 1))))⟩, ⟨7, [], .v (.bool ((mget s1.2.2 ((rd l0 s1.1).Part)).isSome))⟩, ⟨6, [], .v (.int .i64 ((mget s1.2.2 ((rd l0 s1.1).Part)).getD 0))⟩, ⟨38, [], .v (.bool (((!t_22) || (!t_24)) || (decide (s1.1 > 0) && decide (((rd l0 s1.1).From) ≤ ((rd l0 (IntKind.i64.wrap (s1.1 - 1))).From)))))⟩, ⟨4, [], .v (.int .i64 s1.1)⟩, ⟨5, [], .p 0 0⟩, ⟨12, [], .v (.bool (decide (s1.1 < (l0.length : Int))))⟩, ⟨11, [], .v (.int .i64 s1.1)⟩, ⟨10, [], .v (.int .i64 (l0.length : Int))⟩, ⟨9, [], .v (.slice A0 l0.length c0)⟩, ⟨3, [], .v (.map (some b_3))⟩, ⟨0, [], .v (.slice A0 l0.length c0)⟩], [], [], [((((kd_Call).cells (rd l0 s1.1) sv_17).map EV.v), 42)], none, none⟩ [] (by kernel_rfl) trivial (fun ns_44 a w_45 hI _ => ?_)
          refine wpIn_ret ?_
          refine then_ret ?_
          refine inBlock_ret ?_
          refine then_ret ?_
          refine then_ret ?_
          obtain rfl := Option.some.inj H1
          refine .inr ⟨_, rfl, fun ho => ?_⟩
          subst ho
          refine inBlock_ret ?_
          refine then_ret ?_
          obtain rfl := Option.some.inj H0
          exact ret1 hI rfl rfl ⟨rfl, hE.below hI⟩
        · replace H1 := bif_f hc_43 H1
          refine wpIn_skip ?_
          refine then_normal ?_
          refine wpIn_seq ?_
          refine wpIn_region_lit ?_
          refine chunkL_ (live := [68, 67, 65, 64, 7, 6, 38, 4, 5, 12, 11, 10, 9, 3, 2, 0]) (orc := []) hF 4 hI ⟨[⟨68, [], .v (.int .i64 s1.1)⟩, ⟨67, [], .v (.int .i64 ((rd l0 s1.1).Part))⟩, ⟨65, [], .v (.map (some b_3))⟩, ⟨64, [], .v (.bool (((mget s1.2.2 ((rd l0 s1.1).Part)).isSome && (!t_40)) || ((!((mget s1.2.2 ((rd l0 s1.1).Part)).isSome)) && (((rd l0 s1.1).Own0) != 1))))⟩, ⟨7, [], .v (.bool ((mget s1.2.2 ((rd l0 s1.1).Part)).isSome))⟩, ⟨6, [], .v (.int .i64 ((mget s1.2.2 ((rd l0 s1.1).Part)).getD 0))⟩, ⟨38, [], .v (.bool (((!t_22) || (!t_24)) || (decide (s1.1 > 0) && decide (((rd l0 s1.1).From) ≤ ((rd l0 (IntKind.i64.wrap (s1.1 - 1))).From)))))⟩, ⟨4, [], .v (.int .i64 s1.1)⟩, ⟨5, [], .p 0 0⟩, ⟨12, [], .v (.bool (decide (s1.1 < (l0.length : Int))))⟩, ⟨11, [], .v (.int .i64 s1.1)⟩, ⟨10, [], .v (.int .i64 (l0.length : Int))⟩, ⟨9, [], .v (.slice A0 l0.length c0)⟩, ⟨3, [], .v (.map (some b_3))⟩, ⟨2, [], .v (.bool s1.2.1)⟩, ⟨0, [], .v (.slice A0 l0.length c0)⟩], [], [], [((((kd_Call).cells (rd l0 s1.1) sv_17).map EV.v), 42)], none, none⟩ [] rfl (by kernel_rfl) trivial (fun ns_46 a w_47 hI => ?_)
          obtain ⟨hE', hmv, hmr⟩ := Ep.rebase (S0 := S) hE hI
          replace hr0 := Arr.keep hr0 hmv
          replace hq_4 := MapIs.keep hq_4 (hmr _ (by simp))
          replace hE_19 := El.keep hE_19 hmv
          replace hE := hE'
          replace hI := hI.rebase
          clear hE' hmv hmr
          refine mapUpdate_ (S0 := S) hF hE hI (wanted_none rfl) rfl (by simp) Try.underlying79 Try.underlying3 hq_4 rfl ((rd l0 s1.1).Part) rfl s1.1 rfl ⟨[⟨68, [], .v (.int .i64 s1.1)⟩, ⟨67, [], .v (.int .i64 ((rd l0 s1.1).Part))⟩, ⟨65, [], .v (.map (some b_3))⟩, ⟨64, [], .v (.bool (((mget s1.2.2 ((rd l0 s1.1).Part)).isSome && (!t_40)) || ((!((mget s1.2.2 ((rd l0 s1.1).Part)).isSome)) && (((rd l0 s1.1).Own0) != 1))))⟩, ⟨7, [], .v (.bool ((mget s1.2.2 ((rd l0 s1.1).Part)).isSome))⟩, ⟨6, [], .v (.int .i64 ((mget s1.2.2 ((rd l0 s1.1).Part)).getD 0))⟩, ⟨38, [], .v (.bool (((!t_22) || (!t_24)) || (decide (s1.1 > 0) && decide (((rd l0 s1.1).From) ≤ ((rd l0 (IntKind.i64.wrap (s1.1 - 1))).From)))))⟩, ⟨4, [], .v (.int .i64 s1.1)⟩, ⟨5, [], .p 0 0⟩, ⟨12, [], .v (.bool (decide (s1.1 < (l0.length : Int))))⟩, ⟨11, [], .v (.int .i64 s1.1)⟩, ⟨10, [], .v (.int .i64 (l0.length : Int))⟩, ⟨9, [], .v (.slice A0 l0.length c0)⟩, ⟨3, [], .v (.map (some b_3))⟩, ⟨2, [], .v (.bool s1.2.1)⟩, ⟨0, [], .v (.slice A0 l0.length c0)⟩], [], [], [((((kd_Call).cells (rd l0 s1.1) sv_17).map EV.v), 42)], none, none⟩ (by kernel_rfl) (fun a w_48 hput hE' hI' hmv hmr hq_4 => ?_)
          replace hr0 := Arr.keep hr0 hmv
          replace hE_19 := El.keep hE_19 hmv
          replace hE := hE'
          replace hI := hI'
          clear hE' hI' hmv hmr
          refine chunkL_ (live := [64, 7, 6, 38, 4, 5, 12, 11, 10, 9, 3, 2, 0]) (orc := []) hF 0 hI ⟨[⟨64, [], .v (.bool (((mget s1.2.2 ((rd l0 s1.1).Part)).isSome && (!t_40)) || ((!((mget s1.2.2 ((rd l0 s1.1).Part)).isSome)) && (((rd l0 s1.1).Own0) != 1))))⟩, ⟨7, [], .v (.bool ((mget s1.2.2 ((rd l0 s1.1).Part)).isSome))⟩, ⟨6, [], .v (.int .i64 ((mget s1.2.2 ((rd l0 s1.1).Part)).getD 0))⟩, ⟨38, [], .v (.bool (((!t_22) || (!t_24)) || (decide (s1.1 > 0) && decide (((rd l0 s1.1).From) ≤ ((rd l0 (IntKind.i64.wrap (s1.1 - 1))).From)))))⟩, ⟨4, [], .v (.int .i64 s1.1)⟩, ⟨5, [], .p 0 0⟩, ⟨12, [], .v (.bool (decide (s1.1 < (l0.length : Int))))⟩, ⟨11, [], .v (.int .i64 s1.1)⟩, ⟨10, [], .v (.int .i64 (l0.length : Int))⟩, ⟨9, [], .v (.slice A0 l0.length c0)⟩, ⟨3, [], .v (.map (some b_3))⟩, ⟨2, [], .v (.bool s1.2.1)⟩, ⟨0, [], .v (.slice A0 l0.length c0)⟩], [], [], [((((kd_Call).cells (rd l0 s1.1) sv_17).map EV.v), 42)], none, none⟩ [] rfl (by kernel_rfl) trivial (fun ns_49 a w_50 hI => ?_)
          refine wpListIn_nil ?_
          refine then_normal ?_
          obtain ⟨t_51, hG_52, H1⟩ := bind_some H1
          refine seq_region (live := [77, 64, 7, 6, 38, 4, 5, 12, 11, 10, 9, 3, 2, 0]) (orc := [[.bool t_51]]) hF hI ⟨[⟨77, [], .v (.bool ((((rd l0 s1.1).Saw) != (-1)) && (!t_51)))⟩, ⟨64, [], .v (.bool (((mget s1.2.2 ((rd l0 s1.1).Part)).isSome && (!t_40)) || ((!((mget s1.2.2 ((rd l0 s1.1).Part)).isSome)) && (((rd l0 s1.1).Own0) != 1))))⟩, ⟨7, [], .v (.bool ((mget s1.2.2 ((rd l0 s1.1).Part)).isSome))⟩, ⟨6, [], .v (.int .i64 ((mget s1.2.2 ((rd l0 s1.1).Part)).getD 0))⟩, ⟨38, [], .v (.bool (((!t_22) || (!t_24)) || (decide (s1.1 > 0) && decide (((rd l0 s1.1).From) ≤ ((rd l0 (IntKind.i64.wrap (s1.1 - 1))).From)))))⟩, ⟨4, [], .v (.int .i64 s1.1)⟩, ⟨5, [], .p 0 0⟩, ⟨12, [], .v (.bool (decide (s1.1 < (l0.length : Int))))⟩, ⟨11, [], .v (.int .i64 s1.1)⟩, ⟨10, [], .v (.int .i64 (l0.length : Int))⟩, ⟨9, [], .v (.slice A0 l0.length c0)⟩, ⟨3, [], .v (.map (some b_3))⟩, ⟨2, [], .v (.bool s1.2.1)⟩, ⟨0, [], .v (.slice A0 l0.length c0)⟩], [], [], [((((kd_Call).cells (rd l0 s1.1) sv_17).map EV.v), 42)], none, none⟩ [.call (((rd l0 s1.1).Saw) != (-1)) 41 [.slice A0 l0.length c0, .agg ((kd_Call).cells (rd l0 s1.1) (svL [((sv_17 0).1, (sv_17 0).2), ((sv_17 1).1, (sv_17 1).2)])).toArray] (.bool t_51)] (by kernel_rfl) ⟨ob_call (enters Try.func41 (by kernel_rfl) rfl) (fun hg wz hk => G_hist_saw.calls l0 (rd l0 s1.1) A0 c0 (svL [((sv_17 0).1, (sv_17 0).2), ((sv_17 1).1, (sv_17 1).2)]) wz (S := fun _ => True) (Arr.any (Arr.keep hr0 (Lo.on hk))) hc0 (Kd.any _ (Kd.keep kd_Call (contI (S := Lo S w w_48 ns_46 [some b_3]) (w := w_48) (d := kd_Call) (x := (rd l0 s1.1)) (sv := (svL [((sv_17 0).1, (sv_17 0).2), ((sv_17 1).1, (sv_17 1).2)])) ⟨⟨(hE_19).cont.1.1, (hE_19).cont.1.2⟩, ⟨(hE_19).cont.2.1.1, (hE_19).cont.2.1.2⟩, trivial⟩) (Lo.on hk))) _ (cal_some hG_52 hg)), trivial⟩ (fun ns_53 a w_54 hI _ => ?_)
          refine cond_ hI (((((rd l0 s1.1).Saw) != (-1)) && (!t_51))) rfl (fun hc_55 => ?_) (fun hc_55 => ?_)
          · replace H1 := bif_t hc_55 H1
            refine seq_region (live := [2, 77, 64, 7, 6, 38, 4, 5, 12, 11, 10, 9, 3, 0]) (orc := []) hF hI ⟨[⟨2, [], .v (.bool false)⟩, ⟨77, [], .v (.bool ((((rd l0 s1.1).Saw) != (-1)) && (!t_51)))⟩, ⟨64, [], .v (.bool (((mget s1.2.2 ((rd l0 s1.1).Part)).isSome && (!t_40)) || ((!((mget s1.2.2 ((rd l0 s1.1).Part)).isSome)) && (((rd l0 s1.1).Own0) != 1))))⟩, ⟨7, [], .v (.bool ((mget s1.2.2 ((rd l0 s1.1).Part)).isSome))⟩, ⟨6, [], .v (.int .i64 ((mget s1.2.2 ((rd l0 s1.1).Part)).getD 0))⟩, ⟨38, [], .v (.bool (((!t_22) || (!t_24)) || (decide (s1.1 > 0) && decide (((rd l0 s1.1).From) ≤ ((rd l0 (IntKind.i64.wrap (s1.1 - 1))).From)))))⟩, ⟨4, [], .v (.int .i64 s1.1)⟩, ⟨5, [], .p 0 0⟩, ⟨12, [], .v (.bool (decide (s1.1 < (l0.length : Int))))⟩, ⟨11, [], .v (.int .i64 s1.1)⟩, ⟨10, [], .v (.int .i64 (l0.length : Int))⟩, ⟨9, [], .v (.slice A0 l0.length c0)⟩, ⟨3, [], .v (.map (some b_3))⟩, ⟨0, [], .v (.slice A0 l0.length c0)⟩], [], [], [((((kd_Call).cells (rd l0 s1.1) sv_17).map EV.v), 42)], none, none⟩ [] (by kernel_rfl) trivial (fun ns_56 a w_57 hI _ => ?_)
            refine wpIn_ret ?_
            refine inBlock_ret ?_
            refine then_ret ?_
            refine then_ret ?_
            obtain rfl := Option.some.inj H1
            refine .inr ⟨_, rfl, fun ho => ?_⟩
            subst ho
            refine inBlock_ret ?_
            refine then_ret ?_
            obtain rfl := Option.some.inj H0
            exact ret1 hI rfl rfl ⟨rfl, hE.below hI⟩
          · replace H1 := bif_f hc_55 H1
            refine wpIn_skip ?_
            refine inBlock_normal ?_
            refine then_normal ?_
            refine region_ (live := [11, 77, 64, 7, 6, 38, 4, 5, 12, 10, 9, 3, 2, 0]) (orc := []) hF hI ⟨[⟨11, [], .v (.int .i64 (IntKind.i64.wrap (s1.1 + 1)))⟩, ⟨77, [], .v (.bool ((((rd l0 s1.1).Saw) != (-1)) && (!t_51)))⟩, ⟨64, [], .v (.bool (((mget s1.2.2 ((rd l0 s1.1).Part)).isSome && (!t_40)) || ((!((mget s1.2.2 ((rd l0 s1.1).Part)).isSome)) && (((rd l0 s1.1).Own0) != 1))))⟩, ⟨7, [], .v (.bool ((mget s1.2.2 ((rd l0 s1.1).Part)).isSome))⟩, ⟨6, [], .v (.int .i64 ((mget s1.2.2 ((rd l0 s1.1).Part)).getD 0))⟩, ⟨38, [], .v (.bool (((!t_22) || (!t_24)) || (decide (s1.1 > 0) && decide (((rd l0 s1.1).From) ≤ ((rd l0 (IntKind.i64.wrap (s1.1 - 1))).From)))))⟩, ⟨4, [], .v (.int .i64 s1.1)⟩, ⟨5, [], .p 0 0⟩, ⟨12, [], .v (.bool (decide (s1.1 < (l0.length : Int))))⟩, ⟨10, [], .v (.int .i64 (l0.length : Int))⟩, ⟨9, [], .v (.slice A0 l0.length c0)⟩, ⟨3, [], .v (.map (some b_3))⟩, ⟨2, [], .v (.bool s1.2.1)⟩, ⟨0, [], .v (.slice A0 l0.length c0)⟩], [], [], [((((kd_Call).cells (rd l0 s1.1) sv_17).map EV.v), 42)], none, none⟩ [] (by kernel_rfl) trivial (fun ns_58 a w_59 hI _ => ?_)
            refine then_normal ?_
            obtain ⟨hE', hmv, hmr⟩ := Ep.rebase (S0 := S) hE hI
            replace hr0 := Arr.keep hr0 hmv
            replace hE_19 := El.keep hE_19 hmv
            replace hq_4 := MapIs.keep hq_4 (hmr _ (by simp))
            replace hE := hE'
            replace hI := hI.rebase
            clear hE' hmv hmr
            obtain rfl := Option.some.inj H1
            exact ⟨_, rfl, ⟨_, _, hr0, hq_4, hE, hI.pick [11, 10, 9, 3, 2, 0] 0 ⟨[⟨11, [], .v (.int .i64 (IntKind.i64.wrap (s1.1 + 1)))⟩, ⟨10, [], .v (.int .i64 (l0.length : Int))⟩, ⟨9, [], .v (.slice A0 l0.length c0)⟩, ⟨3, [], .v (.map (some b_3))⟩, ⟨2, [], .v (.bool s1.2.1)⟩, ⟨0, [], .v (.slice A0 l0.length c0)⟩], [], [], [], none, none⟩ (by kernel_rfl)⟩⟩
    · replace H1 := bif_f hc_15 H1
      refine wpIn_exit ?_
      refine then_exit ?_
      refine then_exit ?_
      obtain ⟨hE', hmv, hmr⟩ := Ep.rebase (S0 := S) hE hI
      replace hr0 := Arr.keep hr0 hmv
      replace hq_4 := MapIs.keep hq_4 (hmr _ (by simp))
      replace hE := hE'
      replace hI := hI.rebase
      clear hE' hmv hmr
      obtain rfl := Option.some.inj H1
      exact .inl ⟨_, rfl, rfl, ⟨_, _, hr0, hq_4, hE, hI.pick [11, 10, 9, 3, 2, 0] 0 ⟨[⟨11, [], .v (.int .i64 s1.1)⟩, ⟨10, [], .v (.int .i64 (l0.length : Int))⟩, ⟨9, [], .v (.slice A0 l0.length c0)⟩, ⟨3, [], .v (.map (some b_3))⟩, ⟨2, [], .v (.bool s1.2.1)⟩, ⟨0, [], .v (.slice A0 l0.length c0)⟩], [], [], [], none, none⟩ (by kernel_rfl)⟩⟩
  · clear hI hE
    rintro s1 a w_62 ho ⟨ow_64, ns_63, hr0, hq_4, hE, hI⟩
    subst ho
    replace H0 : (some true : Option (Bool)) = _ := H0
    refine then_normal ?_
    refine seq_region (live := [2, 11, 10, 9, 3, 0]) (orc := []) hF hI ⟨[⟨2, [], .v (.bool true)⟩, ⟨11, [], .v (.int .i64 s1.1)⟩, ⟨10, [], .v (.int .i64 (l0.length : Int))⟩, ⟨9, [], .v (.slice A0 l0.length c0)⟩, ⟨3, [], .v (.map (some b_3))⟩, ⟨0, [], .v (.slice A0 l0.length c0)⟩], [], [], [], none, none⟩ [] (by kernel_rfl) trivial (fun ns_65 a w_66 hI _ => ?_)
    refine wpIn_ret ?_
    obtain rfl := Option.some.inj H0
    exact ret1 hI rfl rfl ⟨rfl, hE.below hI⟩

/-! ### porthole/portholelaw17.wakes: function 18 -/
noncomputable def G_law17_wakes  : Option (Bool) := ((G_hist_Sound []).bind fun t_3 => (bif t_3 then ((G_hist_Sound ([(⟨0, (⟨0, 0, 0, []⟩ : Request), (⟨0, [], false, 0⟩ : Answer), false, 0, 0, 0, 0, 0, 0, 0, 0, 0, 0⟩ : Call)] : List Call)).bind fun t_15 => some (t_3 && (!t_15))) else some false))
set_option maxRecDepth 100000 in
set_option maxHeartbeats 4000000 in
theorem G_law17_wakes.calls   (w : World) {S : Nat → Prop}  (r : Bool) (h : G_law17_wakes = some r) :
    Calls Try.prog 18 #[] w fun e w' => e = .returned (.bool r) ∧ Below w.heap.size w w' := by
  unfold G_law17_wakes at h
  have H0 := h
  clear h
  refine enter Try.func18 rfl [] (n := 8) rfl (Nat.le_of_ble_eq_true rfl) (fun a hI => ?_)
  have hF : FOpen Fence.wide := .inl rfl
  have hE := Ep.start w
  refine seq_region (live := [0]) (orc := []) hF hI ⟨[⟨0, [], .v (.bool false)⟩], [], [], [], none, none⟩ [] (by kernel_rfl) trivial (fun ns_1 a w_2 hI _ => ?_)
  refine wpIn_seq ?_
  refine wpIn_region_lit ?_
  obtain ⟨t_3, hG_4, H0⟩ := bind_some H0
  refine chunkT_ (liveT := [3, 2, 0]) (liveF := [2, 0]) (orc := [[.bool t_3]]) hF 3 hI (t_3) ⟨[⟨3, [], .v (.agg #[.int .i64 0, .int .i64 0, .int .i64 0, .int .u64 0, .slice none 0 0, .int .i64 0, .slice none 0 0, .bool false, .int .i64 0, .bool false, .int .i64 0, .int .i64 0, .int .i64 0, .int .i64 0, .int .i64 0, .int .i64 0, .int .i64 0, .int .i64 0, .int .i64 0, .int .i64 0])⟩, ⟨2, [], .v (.bool t_3)⟩, ⟨0, [], .v (.bool false)⟩], [], [], [], none, none⟩ ⟨[⟨2, [], .v (.bool t_3)⟩, ⟨0, [], .v (.bool false)⟩], [], [], [], none, none⟩ [.call true 19 [.slice none 0 0] (.bool t_3)] rfl (by kernel_rfl) ⟨ob_call (enters Try.func19 (by kernel_rfl) rfl) (fun hg wz hk => G_hist_Sound.calls [] none 0 wz (S := fun _ => True) (Arr.nil _ _ _ _) (Nat.le_refl _) _ hG_4), trivial⟩ (fun hb_5 ns_6 a w_7 hI hW => ?_) (fun hb_5 ns_8 a w_9 hI hW => ?_)
  · replace H0 := bif_t hb_5 H0
    obtain ⟨hE', hmv, hmr⟩ := Ep.rebase (S0 := S) hE hI
    replace hE := hE'
    replace hI := hI.rebase
    clear hE' hmv hmr
    refine buildSlice_ (S0 := S) (d := kd_Call) (e := 42) hF hE hI hW rfl (by kernel_rfl) (cs := [.int .i64 0, .int .i64 0, .int .i64 0, .int .u64 0, .slice none 0 0, .int .i64 0, .slice none 0 0, .bool false, .int .i64 0, .bool false, .int .i64 0, .int .i64 0, .int .i64 0, .int .i64 0, .int .i64 0, .int .i64 0, .int .i64 0, .int .i64 0, .int .i64 0, .int .i64 0]) (by kernel_rfl) [(⟨0, (⟨0, 0, 0, []⟩ : Request), (⟨0, [], false, 0⟩ : Answer), false, 0, 0, 0, 0, 0, 0, 0, 0, 0, 0⟩ : Call)] [(svL [(none, 0), (none, 0)])] rfl rfl (by simp [maxLen]) (fun i x hi => by cases i with | zero => (simp only [List.getElem?_cons_zero, Option.some.injEq] at hi; subst hi; exact ⟨⟨⟨(Arr.nil _ _ _ _), (Nat.le_refl _)⟩, ⟨(Arr.nil _ _ _ _), (Nat.le_refl _)⟩, trivial⟩, rfl⟩) | succ i => (simp only [List.getElem?_cons_succ] at hi; simp at hi)) (fun A_10 => ⟨[⟨4, [], .v (.slice A_10 ([(⟨0, (⟨0, 0, 0, []⟩ : Request), (⟨0, [], false, 0⟩ : Answer), false, 0, 0, 0, 0, 0, 0, 0, 0, 0, 0⟩ : Call)] : List Call).length (([(⟨0, (⟨0, 0, 0, []⟩ : Request), (⟨0, [], false, 0⟩ : Answer), false, 0, 0, 0, 0, 0, 0, 0, 0, 0, 0⟩ : Call)] : List Call).length))⟩, ⟨3, [], .v (.agg #[.int .i64 0, .int .i64 0, .int .i64 0, .int .u64 0, .slice none 0 0, .int .i64 0, .slice none 0 0, .bool false, .int .i64 0, .bool false, .int .i64 0, .int .i64 0, .int .i64 0, .int .i64 0, .int .i64 0, .int .i64 0, .int .i64 0, .int .i64 0, .int .i64 0, .int .i64 0])⟩, ⟨2, [], .v (.bool t_3)⟩, ⟨0, [], .v (.bool false)⟩], [], [], [], none, none⟩) (fun A_10 => by kernel_rfl) (fun A_10 a w_12 hput hE' hI' hmv hmr hq_11 => ?_)
    replace hE := hE'
    replace hI := hI'
    clear hE' hI' hmv hmr
    refine chunkL_ (live := [4, 2, 0]) (orc := []) hF 0 hI ⟨[⟨4, [], .v (.slice A_10 ([(⟨0, (⟨0, 0, 0, []⟩ : Request), (⟨0, [], false, 0⟩ : Answer), false, 0, 0, 0, 0, 0, 0, 0, 0, 0, 0⟩ : Call)] : List Call).length (([(⟨0, (⟨0, 0, 0, []⟩ : Request), (⟨0, [], false, 0⟩ : Answer), false, 0, 0, 0, 0, 0, 0, 0, 0, 0, 0⟩ : Call)] : List Call).length))⟩, ⟨2, [], .v (.bool t_3)⟩, ⟨0, [], .v (.bool false)⟩], [], [], [], none, none⟩ [] rfl (by kernel_rfl) trivial (fun ns_13 a w_14 hI => ?_)
    refine unguardK_ hI t_3 (by kernel_rfl) (by simp [hb_5]) ?_
    obtain ⟨t_15, hG_16, H0⟩ := bind_some H0
    refine chunkL_ (live := [5, 2, 0]) (orc := [[.bool t_15]]) hF 1 hI ⟨[⟨5, [], .v (.bool t_15)⟩, ⟨2, [], .v (.bool t_3)⟩, ⟨0, [], .v (.bool false)⟩], [], [], [], none, none⟩ [.call true 19 [.slice A_10 ([(⟨0, (⟨0, 0, 0, []⟩ : Request), (⟨0, [], false, 0⟩ : Answer), false, 0, 0, 0, 0, 0, 0, 0, 0, 0, 0⟩ : Call)] : List Call).length (([(⟨0, (⟨0, 0, 0, []⟩ : Request), (⟨0, [], false, 0⟩ : Answer), false, 0, 0, 0, 0, 0, 0, 0, 0, 0, 0⟩ : Call)] : List Call).length)] (.bool t_15)] rfl (by kernel_rfl) ⟨ob_call (enters Try.func19 (by kernel_rfl) rfl) (fun hg wz hk => G_hist_Sound.calls ([(⟨0, (⟨0, 0, 0, []⟩ : Request), (⟨0, [], false, 0⟩ : Answer), false, 0, 0, 0, 0, 0, 0, 0, 0, 0, 0⟩ : Call)] : List Call) A_10 (([(⟨0, (⟨0, 0, 0, []⟩ : Request), (⟨0, [], false, 0⟩ : Answer), false, 0, 0, 0, 0, 0, 0, 0, 0, 0, 0⟩ : Call)] : List Call).length) wz (S := fun _ => True) (Row.arr (S' := fun _ => True) (Row.on hq_11 hE (by simp) hk) (fun _ _ => trivial) (fun _ _ => trivial)).1 (Row.arr (S' := fun _ => True) hq_11 (fun _ _ => trivial) (fun _ _ => trivial)).2 _ hG_16), trivial⟩ (fun ns_17 a w_18 hI => ?_)
    refine unguardK_ hI t_3 (by kernel_rfl) (by simp [hb_5]) ?_
    refine chunkL_ (live := [0]) (orc := []) hF 3 hI ⟨[⟨0, [], .v (.bool (t_3 && (!t_15)))⟩], [], [], [], none, none⟩ [] rfl (by kernel_rfl) trivial (fun ns_19 a w_20 hI => ?_)
    refine wpListIn_nil ?_
    refine then_normal ?_
    refine wpIn_ret ?_
    obtain rfl := Option.some.inj H0
    exact ret1 hI rfl rfl ⟨rfl, hE.below hI⟩
  · replace H0 := bif_f hb_5 H0
    refine skip1 hF hI hW ⟨[⟨2, [], .v (.bool t_3)⟩, ⟨0, [], .v (.bool false)⟩], [], [], [], none, none⟩ (by kernel_rfl) (fun a hI => ?_)
    refine wantK_then hI t_3 (by kernel_rfl) (by simp [hb_5]) (fun hW => ?_)
    refine skip1 hF hI hW ⟨[⟨2, [], .v (.bool t_3)⟩, ⟨0, [], .v (.bool false)⟩], [], [], [], none, none⟩ (by kernel_rfl) (fun a hI => ?_)
    refine wantK_then hI t_3 (by kernel_rfl) (by simp [hb_5]) (fun hW => ?_)
    refine skip1 hF hI hW ⟨[⟨2, [], .v (.bool t_3)⟩, ⟨0, [], .v (.bool false)⟩], [], [], [], none, none⟩ (by kernel_rfl) (fun a hI => ?_)
    refine pick1 hF hI rfl rfl (t_3) false rfl (by simp [hb_5]) rfl ⟨[⟨7, [], .v (.bool false)⟩, ⟨2, [], .v (.bool t_3)⟩, ⟨0, [], .v (.bool false)⟩], [], [], [], none, none⟩ (by kernel_rfl) (fun a hI => ?_)
    refine chunkL_ (live := [0]) (orc := []) hF 1 hI ⟨[⟨0, [], .v (.bool false)⟩], [], [], [], none, none⟩ [] rfl (by kernel_rfl) trivial (fun ns_21 a w_22 hI => ?_)
    refine wpListIn_nil ?_
    refine then_normal ?_
    refine wpIn_ret ?_
    obtain rfl := Option.some.inj H0
    exact ret1 hI rfl rfl ⟨rfl, hE.below hI⟩

/-! ### porthole/portholelaw17.HistSound: function 5 -/
noncomputable def G_law17_HistSound (l0 : (List Call)) (a1 : Int) (a2 : Int) : Option (Bool) := ((G_law17_wakes).bind fun t_3 => (bif (!t_3) then some false else (bif decide ((l0.length : Int) > 60) then some true else ((G_hist_Sound l0).bind fun t_15 => ((G_ref17_Sound l0).bind fun t_17 => (bif (!(t_15 == t_17)) then some false else (bif ((l0.length : Int) == 0) then some true else (req (decide (¬ (l0.length : Int) = 0)) (req (inb (Int.tmod (IntKind.i64.wrap a1) (l0.length : Int)) l0.length) (req (decide (¬ (l0.length : Int) = 0)) (req (inb (Int.tmod (IntKind.i64.wrap a2) (l0.length : Int)) l0.length) ((G_hist_Ahead (rd l0 (Int.tmod (IntKind.i64.wrap a1) (l0.length : Int))) (rd l0 (Int.tmod (IntKind.i64.wrap a2) (l0.length : Int)))).bind fun t_41 => ((G_ref17_Ahead (rd l0 (Int.tmod (IntKind.i64.wrap a1) (l0.length : Int))) (rd l0 (Int.tmod (IntKind.i64.wrap a2) (l0.length : Int)))).bind fun t_43 => some (t_41 == t_43))))))))))))))
set_option maxRecDepth 100000 in
set_option maxHeartbeats 4000000 in
theorem G_law17_HistSound.calls (l0 : (List Call)) (a1 : Int) (a2 : Int) (A0 : Option Addr) (c0 : Nat) (w : World) {S : Nat → Prop} (hr0 : Arr kd_Call S w A0 l0) (hc0 : l0.length ≤ c0) (r : Bool) (h : G_law17_HistSound l0 a1 a2 = some r) :
    Calls Try.prog 5 #[.slice A0 l0.length c0, .int .u8 a1, .int .u8 a2] w fun e w' => e = .returned (.bool r) ∧ Below w.heap.size w w' := by
  replace hr0 := Arr.lo hr0
  unfold G_law17_HistSound at h
  have H0 := h
  clear h
  refine enter Try.func5 rfl [.slice A0 l0.length c0, .int .u8 a1, .int .u8 a2] (n := 45) rfl (Nat.le_of_ble_eq_true rfl) (fun a hI => ?_)
  have hF : FOpen Fence.wide := .inl rfl
  have hE := Ep.start w
  refine seq_region (live := [6, 0, 1, 2]) (orc := []) hF hI ⟨[⟨6, [], .v (.bool false)⟩, ⟨0, [], .v (.slice A0 l0.length c0)⟩, ⟨1, [], .v (.int .u8 a1)⟩, ⟨2, [], .v (.int .u8 a2)⟩], [], [], [], none, none⟩ [] (by kernel_rfl) trivial (fun ns_1 a w_2 hI _ => ?_)
  refine wpIn_seq ?_
  obtain ⟨t_3, hG_4, H0⟩ := bind_some H0
  refine seq_region (live := [10, 6, 0, 1, 2]) (orc := [[.bool t_3]]) hF hI ⟨[⟨10, [], .v (.bool (!t_3))⟩, ⟨6, [], .v (.bool false)⟩, ⟨0, [], .v (.slice A0 l0.length c0)⟩, ⟨1, [], .v (.int .u8 a1)⟩, ⟨2, [], .v (.int .u8 a2)⟩], [], [], [], none, none⟩ [.call true 18 [] (.bool t_3)] (by kernel_rfl) ⟨ob_call (enters Try.func18 (by kernel_rfl) rfl) (fun hg wz hk => G_law17_wakes.calls   wz (S := fun _ => True)  _ hG_4), trivial⟩ (fun ns_5 a w_6 hI _ => ?_)
  refine cond_ hI ((!t_3)) rfl (fun hc_7 => ?_) (fun hc_7 => ?_)
  · replace H0 := bif_t hc_7 H0
    refine seq_region (live := [6, 10, 0, 1, 2]) (orc := []) hF hI ⟨[⟨6, [], .v (.bool false)⟩, ⟨10, [], .v (.bool (!t_3))⟩, ⟨0, [], .v (.slice A0 l0.length c0)⟩, ⟨1, [], .v (.int .u8 a1)⟩, ⟨2, [], .v (.int .u8 a2)⟩], [], [], [], none, none⟩ [] (by kernel_rfl) trivial (fun ns_8 a w_9 hI _ => ?_)
    refine wpIn_ret ?_
    refine then_ret ?_
    obtain rfl := Option.some.inj H0
    exact ret1 hI rfl rfl ⟨rfl, hE.below hI⟩
  · replace H0 := bif_f hc_7 H0
    refine wpIn_skip ?_
    refine then_normal ?_
    refine wpIn_seq ?_
    refine seq_region (live := [13, 10, 6, 0, 1, 2]) (orc := []) hF hI ⟨[⟨13, [], .v (.bool (decide ((l0.length : Int) > 60)))⟩, ⟨10, [], .v (.bool (!t_3))⟩, ⟨6, [], .v (.bool false)⟩, ⟨0, [], .v (.slice A0 l0.length c0)⟩, ⟨1, [], .v (.int .u8 a1)⟩, ⟨2, [], .v (.int .u8 a2)⟩], [], [], [], none, none⟩ [] (by kernel_rfl) trivial (fun ns_10 a w_11 hI _ => ?_)
    refine cond_ hI (decide ((l0.length : Int) > 60)) rfl (fun hc_12 => ?_) (fun hc_12 => ?_)
    · replace H0 := bif_t hc_12 H0
      refine seq_region (live := [6, 13, 10, 0, 1, 2]) (orc := []) hF hI ⟨[⟨6, [], .v (.bool true)⟩, ⟨13, [], .v (.bool (decide ((l0.length : Int) > 60)))⟩, ⟨10, [], .v (.bool (!t_3))⟩, ⟨0, [], .v (.slice A0 l0.length c0)⟩, ⟨1, [], .v (.int .u8 a1)⟩, ⟨2, [], .v (.int .u8 a2)⟩], [], [], [], none, none⟩ [] (by kernel_rfl) trivial (fun ns_13 a w_14 hI _ => ?_)
      refine wpIn_ret ?_
      refine then_ret ?_
      obtain rfl := Option.some.inj H0
      exact ret1 hI rfl rfl ⟨rfl, hE.below hI⟩
    · replace H0 := bif_f hc_12 H0
      refine wpIn_skip ?_
      refine then_normal ?_
      refine wpIn_seq ?_
      obtain ⟨t_15, hG_16, H0⟩ := bind_some H0
      obtain ⟨t_17, hG_18, H0⟩ := bind_some H0
      refine seq_region (live := [18, 13, 10, 6, 0, 1, 2]) (orc := [[.bool t_15], [.bool t_17]]) hF hI ⟨[⟨18, [], .v (.bool (!(t_15 == t_17)))⟩, ⟨13, [], .v (.bool (decide ((l0.length : Int) > 60)))⟩, ⟨10, [], .v (.bool (!t_3))⟩, ⟨6, [], .v (.bool false)⟩, ⟨0, [], .v (.slice A0 l0.length c0)⟩, ⟨1, [], .v (.int .u8 a1)⟩, ⟨2, [], .v (.int .u8 a2)⟩], [], [], [], none, none⟩ [.call true 19 [.slice A0 l0.length c0] (.bool t_15), .call true 14 [.slice A0 l0.length c0] (.bool t_17)] (by kernel_rfl) ⟨ob_call (enters Try.func19 (by kernel_rfl) rfl) (fun hg wz hk => G_hist_Sound.calls l0 A0 c0 wz (S := fun _ => True) (Arr.any (Arr.keep hr0 (Lo.on hk))) hc0 _ hG_16), ob_call (enters Try.func14 (by kernel_rfl) rfl) (fun hg wz hk => G_ref17_Sound.calls l0 A0 c0 wz (S := fun _ => True) (Arr.any (Arr.keep hr0 (Lo.on hk))) hc0 _ hG_18), trivial⟩ (fun ns_19 a w_20 hI _ => ?_)
      refine cond_ hI ((!(t_15 == t_17))) rfl (fun hc_21 => ?_) (fun hc_21 => ?_)
      · replace H0 := bif_t hc_21 H0
        refine seq_region (live := [6, 18, 13, 10, 0, 1, 2]) (orc := []) hF hI ⟨[⟨6, [], .v (.bool false)⟩, ⟨18, [], .v (.bool (!(t_15 == t_17)))⟩, ⟨13, [], .v (.bool (decide ((l0.length : Int) > 60)))⟩, ⟨10, [], .v (.bool (!t_3))⟩, ⟨0, [], .v (.slice A0 l0.length c0)⟩, ⟨1, [], .v (.int .u8 a1)⟩, ⟨2, [], .v (.int .u8 a2)⟩], [], [], [], none, none⟩ [] (by kernel_rfl) trivial (fun ns_22 a w_23 hI _ => ?_)
        refine wpIn_ret ?_
        refine then_ret ?_
        obtain rfl := Option.some.inj H0
        exact ret1 hI rfl rfl ⟨rfl, hE.below hI⟩
      · replace H0 := bif_f hc_21 H0
        refine wpIn_skip ?_
        refine then_normal ?_
        refine wpIn_seq ?_
        refine seq_region (live := [21, 18, 13, 10, 6, 0, 1, 2]) (orc := []) hF hI ⟨[⟨21, [], .v (.bool ((l0.length : Int) == 0))⟩, ⟨18, [], .v (.bool (!(t_15 == t_17)))⟩, ⟨13, [], .v (.bool (decide ((l0.length : Int) > 60)))⟩, ⟨10, [], .v (.bool (!t_3))⟩, ⟨6, [], .v (.bool false)⟩, ⟨0, [], .v (.slice A0 l0.length c0)⟩, ⟨1, [], .v (.int .u8 a1)⟩, ⟨2, [], .v (.int .u8 a2)⟩], [], [], [], none, none⟩ [] (by kernel_rfl) trivial (fun ns_24 a w_25 hI _ => ?_)
        refine cond_ hI (((l0.length : Int) == 0)) rfl (fun hc_26 => ?_) (fun hc_26 => ?_)
        · replace H0 := bif_t hc_26 H0
          refine seq_region (live := [6, 21, 18, 13, 10, 0, 1, 2]) (orc := []) hF hI ⟨[⟨6, [], .v (.bool true)⟩, ⟨21, [], .v (.bool ((l0.length : Int) == 0))⟩, ⟨18, [], .v (.bool (!(t_15 == t_17)))⟩, ⟨13, [], .v (.bool (decide ((l0.length : Int) > 60)))⟩, ⟨10, [], .v (.bool (!t_3))⟩, ⟨0, [], .v (.slice A0 l0.length c0)⟩, ⟨1, [], .v (.int .u8 a1)⟩, ⟨2, [], .v (.int .u8 a2)⟩], [], [], [], none, none⟩ [] (by kernel_rfl) trivial (fun ns_27 a w_28 hI _ => ?_)
          refine wpIn_ret ?_
          refine then_ret ?_
          obtain rfl := Option.some.inj H0
          exact ret1 hI rfl rfl ⟨rfl, hE.below hI⟩
        · replace H0 := bif_f hc_26 H0
          refine wpIn_skip ?_
          refine then_normal ?_
          refine wpIn_seq ?_
          obtain ⟨hN_29, H0⟩ := req_some H0
          obtain ⟨hN_30, H0⟩ := req_some H0
          obtain ⟨sv_31, hE_33, hA_32⟩ := Arr.elB (d := kd_Call) hr0 (Int.tmod (IntKind.i64.wrap a1) (l0.length : Int)) true (fun _ => hN_30)
          replace hE_33 := hE_33 rfl
          replace hA_32 := fun (_ : true = true) => hA_32 rfl
          obtain ⟨hN_34, H0⟩ := req_some H0
          obtain ⟨hN_35, H0⟩ := req_some H0
          obtain ⟨sv_36, hE_38, hA_37⟩ := Arr.elB (d := kd_Call) hr0 (Int.tmod (IntKind.i64.wrap a2) (l0.length : Int)) true (fun _ => hN_35)
          replace hE_38 := hE_38 rfl
          replace hA_37 := fun (_ : true = true) => hA_37 rfl
          refine drawnW_ (live := [8, 7, 21, 18, 13, 10, 6, 0, 1, 2]) hF hI [.q [] [], .q [] [], .q [1] [], .q [] [], .q [3] [], .q [2, 4] [], .q [0, 5] [], .q [6] [(kd_Call).cells (rd l0 (Int.tmod (IntKind.i64.wrap a1) (l0.length : Int))) sv_31], .q [] [], .q [] [], .q [9] [], .q [] [], .q [11] [], .q [10, 12] [], .q [8, 13] [], .q [14] [(kd_Call).cells (rd l0 (Int.tmod (IntKind.i64.wrap a2) (l0.length : Int))) sv_36], .al, .al, .st 16 [7], .st 17 [15]] [.q 22 (.v (.slice A0 l0.length c0)) [], .q 23 (.v (.int .u8 a1)) [], .q 24 (.v (.int .i64 (IntKind.i64.wrap a1))) [], .q 25 (.v (.slice A0 l0.length c0)) [], .q 26 (.v (.int .i64 (l0.length : Int))) [], .q 27 (.v (.int .i64 (Int.tmod (IntKind.i64.wrap a1) (l0.length : Int)))) [.need true (¬ (l0.length : Int) = 0)], .q 28 (.v (.pointer (some ((adr A0).add (((Int.tmod (IntKind.i64.wrap a1) (l0.length : Int)) : Int).toNat * 20))))) [.need true (0 ≤ (Int.tmod (IntKind.i64.wrap a1) (l0.length : Int)) ∧ (Int.tmod (IntKind.i64.wrap a1) (l0.length : Int)) < (l0.length : Int)), .need true (A0 = some (adr A0))], .q 29 (.v (.agg ((kd_Call).cells (rd l0 (Int.tmod (IntKind.i64.wrap a1) (l0.length : Int))) sv_31).toArray)) [.cell true ((adr A0).add (((Int.tmod (IntKind.i64.wrap a1) (l0.length : Int)) : Int).toNat * 20)) ((kd_Call).cells (rd l0 (Int.tmod (IntKind.i64.wrap a1) (l0.length : Int))) sv_31)], .q 30 (.v (.slice A0 l0.length c0)) [], .q 31 (.v (.int .u8 a2)) [], .q 32 (.v (.int .i64 (IntKind.i64.wrap a2))) [], .q 33 (.v (.slice A0 l0.length c0)) [], .q 34 (.v (.int .i64 (l0.length : Int))) [], .q 35 (.v (.int .i64 (Int.tmod (IntKind.i64.wrap a2) (l0.length : Int)))) [.need true (¬ (l0.length : Int) = 0)], .q 36 (.v (.pointer (some ((adr A0).add (((Int.tmod (IntKind.i64.wrap a2) (l0.length : Int)) : Int).toNat * 20))))) [.need true (0 ≤ (Int.tmod (IntKind.i64.wrap a2) (l0.length : Int)) ∧ (Int.tmod (IntKind.i64.wrap a2) (l0.length : Int)) < (l0.length : Int)), .need true (A0 = some (adr A0))], .q 37 (.v (.agg ((kd_Call).cells (rd l0 (Int.tmod (IntKind.i64.wrap a2) (l0.length : Int))) sv_36).toArray)) [.cell true ((adr A0).add (((Int.tmod (IntKind.i64.wrap a2) (l0.length : Int)) : Int).toNat * 20)) ((kd_Call).cells (rd l0 (Int.tmod (IntKind.i64.wrap a2) (l0.length : Int))) sv_36)], .al 7 42 [.int .i64 0, .int .i64 0, .int .i64 0, .int .u64 0, .slice none 0 0, .int .i64 0, .slice none 0 0, .bool false, .int .i64 0, .bool false, .int .i64 0, .int .i64 0, .int .i64 0, .int .i64 0, .int .i64 0, .int .i64 0, .int .i64 0, .int .i64 0, .int .i64 0, .int .i64 0], .al 8 42 [.int .i64 0, .int .i64 0, .int .i64 0, .int .u64 0, .slice none 0 0, .int .i64 0, .slice none 0 0, .bool false, .int .i64 0, .bool false, .int .i64 0, .int .i64 0, .int .i64 0, .int .i64 0, .int .i64 0, .int .i64 0, .int .i64 0, .int .i64 0, .int .i64 0, .int .i64 0], .st 16 [.int .i64 ((rd l0 (Int.tmod (IntKind.i64.wrap a1) (l0.length : Int))).Part), .int .i64 ((rd l0 (Int.tmod (IntKind.i64.wrap a1) (l0.length : Int))).Req.Op), .int .i64 ((rd l0 (Int.tmod (IntKind.i64.wrap a1) (l0.length : Int))).Req.Port), .int .u64 ((rd l0 (Int.tmod (IntKind.i64.wrap a1) (l0.length : Int))).Req.Addr), .slice ((sv_31 0).1) ((rd l0 (Int.tmod (IntKind.i64.wrap a1) (l0.length : Int))).Req.Data).length ((sv_31 0).2), .int .i64 ((rd l0 (Int.tmod (IntKind.i64.wrap a1) (l0.length : Int))).Ans.Code), .slice ((sv_31 1).1) ((rd l0 (Int.tmod (IntKind.i64.wrap a1) (l0.length : Int))).Ans.Data).length ((sv_31 1).2), .bool ((rd l0 (Int.tmod (IntKind.i64.wrap a1) (l0.length : Int))).Ans.Valid), .int .i64 ((rd l0 (Int.tmod (IntKind.i64.wrap a1) (l0.length : Int))).Ans.Count), .bool ((rd l0 (Int.tmod (IntKind.i64.wrap a1) (l0.length : Int))).Done), .int .i64 ((rd l0 (Int.tmod (IntKind.i64.wrap a1) (l0.length : Int))).From), .int .i64 ((rd l0 (Int.tmod (IntKind.i64.wrap a1) (l0.length : Int))).To), .int .i64 ((rd l0 (Int.tmod (IntKind.i64.wrap a1) (l0.length : Int))).T0), .int .i64 ((rd l0 (Int.tmod (IntKind.i64.wrap a1) (l0.length : Int))).T1), .int .i64 ((rd l0 (Int.tmod (IntKind.i64.wrap a1) (l0.length : Int))).Own0), .int .i64 ((rd l0 (Int.tmod (IntKind.i64.wrap a1) (l0.length : Int))).Own1), .int .i64 ((rd l0 (Int.tmod (IntKind.i64.wrap a1) (l0.length : Int))).Mark), .int .i64 ((rd l0 (Int.tmod (IntKind.i64.wrap a1) (l0.length : Int))).Ring), .int .i64 ((rd l0 (Int.tmod (IntKind.i64.wrap a1) (l0.length : Int))).Stamp), .int .i64 ((rd l0 (Int.tmod (IntKind.i64.wrap a1) (l0.length : Int))).Saw)], .st 17 [.int .i64 ((rd l0 (Int.tmod (IntKind.i64.wrap a2) (l0.length : Int))).Part), .int .i64 ((rd l0 (Int.tmod (IntKind.i64.wrap a2) (l0.length : Int))).Req.Op), .int .i64 ((rd l0 (Int.tmod (IntKind.i64.wrap a2) (l0.length : Int))).Req.Port), .int .u64 ((rd l0 (Int.tmod (IntKind.i64.wrap a2) (l0.length : Int))).Req.Addr), .slice ((sv_36 0).1) ((rd l0 (Int.tmod (IntKind.i64.wrap a2) (l0.length : Int))).Req.Data).length ((sv_36 0).2), .int .i64 ((rd l0 (Int.tmod (IntKind.i64.wrap a2) (l0.length : Int))).Ans.Code), .slice ((sv_36 1).1) ((rd l0 (Int.tmod (IntKind.i64.wrap a2) (l0.length : Int))).Ans.Data).length ((sv_36 1).2), .bool ((rd l0 (Int.tmod (IntKind.i64.wrap a2) (l0.length : Int))).Ans.Valid), .int .i64 ((rd l0 (Int.tmod (IntKind.i64.wrap a2) (l0.length : Int))).Ans.Count), .bool ((rd l0 (Int.tmod (IntKind.i64.wrap a2) (l0.length : Int))).Done), .int .i64 ((rd l0 (Int.tmod (IntKind.i64.wrap a2) (l0.length : Int))).From), .int .i64 ((rd l0 (Int.tmod (IntKind.i64.wrap a2) (l0.length : Int))).To), .int .i64 ((rd l0 (Int.tmod (IntKind.i64.wrap a2) (l0.length : Int))).T0), .int .i64 ((rd l0 (Int.tmod (IntKind.i64.wrap a2) (l0.length : Int))).T1), .int .i64 ((rd l0 (Int.tmod (IntKind.i64.wrap a2) (l0.length : Int))).Own0), .int .i64 ((rd l0 (Int.tmod (IntKind.i64.wrap a2) (l0.length : Int))).Own1), .int .i64 ((rd l0 (Int.tmod (IntKind.i64.wrap a2) (l0.length : Int))).Mark), .int .i64 ((rd l0 (Int.tmod (IntKind.i64.wrap a2) (l0.length : Int))).Ring), .int .i64 ((rd l0 (Int.tmod (IntKind.i64.wrap a2) (l0.length : Int))).Stamp), .int .i64 ((rd l0 (Int.tmod (IntKind.i64.wrap a2) (l0.length : Int))).Saw)]] ⟨[⟨8, [], .p 1 0⟩, ⟨7, [], .p 0 0⟩, ⟨21, [], .v (.bool ((l0.length : Int) == 0))⟩, ⟨18, [], .v (.bool (!(t_15 == t_17)))⟩, ⟨13, [], .v (.bool (decide ((l0.length : Int) > 60)))⟩, ⟨10, [], .v (.bool (!t_3))⟩, ⟨6, [], .v (.bool false)⟩, ⟨0, [], .v (.slice A0 l0.length c0)⟩, ⟨1, [], .v (.int .u8 a1)⟩, ⟨2, [], .v (.int .u8 a2)⟩], [], [], [((((kd_Call).cells (rd l0 (Int.tmod (IntKind.i64.wrap a1) (l0.length : Int))) sv_31).map EV.v), 42), ((((kd_Call).cells (rd l0 (Int.tmod (IntKind.i64.wrap a2) (l0.length : Int))) sv_36).map EV.v), 42)], none, none⟩ (by kernel_rfl) (by kernel_rfl) (by kernel_rfl) (by kernel_rfl) (by kernel_rfl) (show Obs _ _ _ [.need true (¬ (l0.length : Int) = 0), .need true (0 ≤ (Int.tmod (IntKind.i64.wrap a1) (l0.length : Int)) ∧ (Int.tmod (IntKind.i64.wrap a1) (l0.length : Int)) < (l0.length : Int)), .need true (A0 = some (adr A0)), .cell true ((adr A0).add (((Int.tmod (IntKind.i64.wrap a1) (l0.length : Int)) : Int).toNat * 20)) ((kd_Call).cells (rd l0 (Int.tmod (IntKind.i64.wrap a1) (l0.length : Int))) sv_31), .need true (¬ (l0.length : Int) = 0), .need true (0 ≤ (Int.tmod (IntKind.i64.wrap a2) (l0.length : Int)) ∧ (Int.tmod (IntKind.i64.wrap a2) (l0.length : Int)) < (l0.length : Int)), .need true (A0 = some (adr A0)), .cell true ((adr A0).add (((Int.tmod (IntKind.i64.wrap a2) (l0.length : Int)) : Int).toNat * 20)) ((kd_Call).cells (rd l0 (Int.tmod (IntKind.i64.wrap a2) (l0.length : Int))) sv_36)] from ⟨(fun hg => of_decide_eq_true hN_29), ob_inb (fun _ => hN_30), hA_32, ob_el (fun _ => hE_33) 0 ((kd_Call).cells (rd l0 (Int.tmod (IntKind.i64.wrap a1) (l0.length : Int))) sv_31) rfl, (fun hg => of_decide_eq_true hN_34), ob_inb (fun _ => hN_35), hA_37, ob_el (fun _ => hE_38) 0 ((kd_Call).cells (rd l0 (Int.tmod (IntKind.i64.wrap a2) (l0.length : Int))) sv_36) rfl, trivial⟩) (fun ns_39 a w_40 hI => ?_)
          refine then_normal ?_
          refine wpIn_seq ?_
          obtain ⟨t_41, hG_42, H0⟩ := bind_some H0
          obtain ⟨t_43, hG_44, H0⟩ := bind_some H0
          refine drawn_ (live := [6, 8, 7, 21, 18, 13, 10, 0, 1, 2]) (orc := [[.bool t_41], [.bool t_43]]) hF hI ⟨[⟨6, [], .v (.bool (t_41 == t_43))⟩, ⟨8, [], .p 1 0⟩, ⟨7, [], .p 0 0⟩, ⟨21, [], .v (.bool ((l0.length : Int) == 0))⟩, ⟨18, [], .v (.bool (!(t_15 == t_17)))⟩, ⟨13, [], .v (.bool (decide ((l0.length : Int) > 60)))⟩, ⟨10, [], .v (.bool (!t_3))⟩, ⟨0, [], .v (.slice A0 l0.length c0)⟩, ⟨1, [], .v (.int .u8 a1)⟩, ⟨2, [], .v (.int .u8 a2)⟩], [], [], [((((kd_Call).cells (rd l0 (Int.tmod (IntKind.i64.wrap a1) (l0.length : Int))) sv_31).map EV.v), 42), ((((kd_Call).cells (rd l0 (Int.tmod (IntKind.i64.wrap a2) (l0.length : Int))) sv_36).map EV.v), 42)], none, none⟩ [.call true 20 [.agg ((kd_Call).cells (rd l0 (Int.tmod (IntKind.i64.wrap a1) (l0.length : Int))) (svL [((sv_31 0).1, (sv_31 0).2), ((sv_31 1).1, (sv_31 1).2)])).toArray, .agg ((kd_Call).cells (rd l0 (Int.tmod (IntKind.i64.wrap a2) (l0.length : Int))) (svL [((sv_36 0).1, (sv_36 0).2), ((sv_36 1).1, (sv_36 1).2)])).toArray] (.bool t_41), .call true 21 [.agg ((kd_Call).cells (rd l0 (Int.tmod (IntKind.i64.wrap a1) (l0.length : Int))) (svL [((sv_31 0).1, (sv_31 0).2), ((sv_31 1).1, (sv_31 1).2)])).toArray, .agg ((kd_Call).cells (rd l0 (Int.tmod (IntKind.i64.wrap a2) (l0.length : Int))) (svL [((sv_36 0).1, (sv_36 0).2), ((sv_36 1).1, (sv_36 1).2)])).toArray] (.bool t_43)] (by kernel_rfl) (by kernel_rfl) (by kernel_rfl) ⟨ob_call (enters Try.func20 (by kernel_rfl) rfl) (fun hg wz hk => G_hist_Ahead.calls (rd l0 (Int.tmod (IntKind.i64.wrap a1) (l0.length : Int))) (rd l0 (Int.tmod (IntKind.i64.wrap a2) (l0.length : Int))) (svL [((sv_31 0).1, (sv_31 0).2), ((sv_31 1).1, (sv_31 1).2)]) (svL [((sv_36 0).1, (sv_36 0).2), ((sv_36 1).1, (sv_36 1).2)]) wz (S := fun _ => True) (Kd.any _ (Kd.keep kd_Call (contI (S := Lo S w w [] []) (w := w) (d := kd_Call) (x := (rd l0 (Int.tmod (IntKind.i64.wrap a1) (l0.length : Int)))) (sv := (svL [((sv_31 0).1, (sv_31 0).2), ((sv_31 1).1, (sv_31 1).2)])) ⟨⟨(hE_33).cont.1.1, (hE_33).cont.1.2⟩, ⟨(hE_33).cont.2.1.1, (hE_33).cont.2.1.2⟩, trivial⟩) (Lo.on hk))) (Kd.any _ (Kd.keep kd_Call (contI (S := Lo S w w [] []) (w := w) (d := kd_Call) (x := (rd l0 (Int.tmod (IntKind.i64.wrap a2) (l0.length : Int)))) (sv := (svL [((sv_36 0).1, (sv_36 0).2), ((sv_36 1).1, (sv_36 1).2)])) ⟨⟨(hE_38).cont.1.1, (hE_38).cont.1.2⟩, ⟨(hE_38).cont.2.1.1, (hE_38).cont.2.1.2⟩, trivial⟩) (Lo.on hk))) _ hG_42), ob_call (enters Try.func21 (by kernel_rfl) rfl) (fun hg wz hk => G_ref17_Ahead.calls (rd l0 (Int.tmod (IntKind.i64.wrap a1) (l0.length : Int))) (rd l0 (Int.tmod (IntKind.i64.wrap a2) (l0.length : Int))) (svL [((sv_31 0).1, (sv_31 0).2), ((sv_31 1).1, (sv_31 1).2)]) (svL [((sv_36 0).1, (sv_36 0).2), ((sv_36 1).1, (sv_36 1).2)]) wz (S := fun _ => True) (Kd.any _ (Kd.keep kd_Call (contI (S := Lo S w w [] []) (w := w) (d := kd_Call) (x := (rd l0 (Int.tmod (IntKind.i64.wrap a1) (l0.length : Int)))) (sv := (svL [((sv_31 0).1, (sv_31 0).2), ((sv_31 1).1, (sv_31 1).2)])) ⟨⟨(hE_33).cont.1.1, (hE_33).cont.1.2⟩, ⟨(hE_33).cont.2.1.1, (hE_33).cont.2.1.2⟩, trivial⟩) (Lo.on hk))) (Kd.any _ (Kd.keep kd_Call (contI (S := Lo S w w [] []) (w := w) (d := kd_Call) (x := (rd l0 (Int.tmod (IntKind.i64.wrap a2) (l0.length : Int)))) (sv := (svL [((sv_36 0).1, (sv_36 0).2), ((sv_36 1).1, (sv_36 1).2)])) ⟨⟨(hE_38).cont.1.1, (hE_38).cont.1.2⟩, ⟨(hE_38).cont.2.1.1, (hE_38).cont.2.1.2⟩, trivial⟩) (Lo.on hk))) _ hG_44), trivial⟩ (fun a w_45 hI => ?_)
          refine then_normal ?_
          refine wpIn_ret ?_
          obtain rfl := Option.some.inj H0
          exact ret1 hI rfl rfl ⟨rfl, hE.below hI⟩

end Go.Proofs.Ytnfnincmhobpaaa
