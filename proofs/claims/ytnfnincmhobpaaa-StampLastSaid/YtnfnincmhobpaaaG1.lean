import Derived.Test.YtnfnincmhobpaaaProg
import Derived.Test.YtnfnincmhobpaaaEng
set_option linter.unusedVariables false
set_option linter.unusedSimpArgs false
namespace Go.Proofs.Ytnfnincmhobpaaa
open Go Go.RowKit Go.Eng Go.Proofs

structure St23 where
  e0 : Int
  e1 : Int
  e2 : Int
  e3 : Int
  deriving Inhabited, DecidableEq
def kd_St23 : Kd St23 := ⟨4, fun x sv => [.int .u32 x.e0, .int .u32 x.e1, .int .u32 x.e2, .int .u32 x.e3], fun S w x sv => True, fun _ _ => rfl, Nat.le_of_ble_eq_true rfl, fun h hk => trivial⟩
structure Request where
  Op : Int
  Port : Int
  Addr : Int
  Data : (List Int)
  deriving Inhabited, DecidableEq
def kd_Request : Kd Request := ⟨4, fun x sv => [.int .i64 x.Op, .int .i64 x.Port, .int .u64 x.Addr, .slice (sv 0).1 x.Data.length (sv 0).2], fun S w x sv => (Arr (Kd.int .u32) S w (sv 0).1 x.Data ∧ x.Data.length ≤ (sv 0).2) ∧ True, fun _ _ => rfl, Nat.le_of_ble_eq_true rfl, fun h hk => ⟨⟨h.1.1.keep hk, h.1.2⟩, trivial⟩⟩
structure Answer where
  Code : Int
  Data : (List Int)
  Valid : Bool
  Count : Int
  deriving Inhabited, DecidableEq
def kd_Answer : Kd Answer := ⟨4, fun x sv => [.int .i64 x.Code, .slice (sv 0).1 x.Data.length (sv 0).2, .bool x.Valid, .int .i64 x.Count], fun S w x sv => (Arr (Kd.int .u32) S w (sv 0).1 x.Data ∧ x.Data.length ≤ (sv 0).2) ∧ True, fun _ _ => rfl, Nat.le_of_ble_eq_true rfl, fun h hk => ⟨⟨h.1.1.keep hk, h.1.2⟩, trivial⟩⟩
structure Call where
  Part : Int
  Req : Request
  Ans : Answer
  Done : Bool
  From : Int
  To : Int
  T0 : Int
  T1 : Int
  Own0 : Int
  Own1 : Int
  Mark : Int
  Ring : Int
  Stamp : Int
  Saw : Int
  deriving Inhabited, DecidableEq
def kd_Call : Kd Call := ⟨20, fun x sv => [.int .i64 x.Part, .int .i64 x.Req.Op, .int .i64 x.Req.Port, .int .u64 x.Req.Addr, .slice (sv 0).1 x.Req.Data.length (sv 0).2, .int .i64 x.Ans.Code, .slice (sv 1).1 x.Ans.Data.length (sv 1).2, .bool x.Ans.Valid, .int .i64 x.Ans.Count, .bool x.Done, .int .i64 x.From, .int .i64 x.To, .int .i64 x.T0, .int .i64 x.T1, .int .i64 x.Own0, .int .i64 x.Own1, .int .i64 x.Mark, .int .i64 x.Ring, .int .i64 x.Stamp, .int .i64 x.Saw], fun S w x sv => (Arr (Kd.int .u32) S w (sv 0).1 x.Req.Data ∧ x.Req.Data.length ≤ (sv 0).2) ∧ (Arr (Kd.int .u32) S w (sv 1).1 x.Ans.Data ∧ x.Ans.Data.length ≤ (sv 1).2) ∧ True, fun _ _ => rfl, Nat.le_of_ble_eq_true rfl, fun h hk => ⟨⟨h.1.1.keep hk, h.1.2⟩, ⟨h.2.1.1.keep hk, h.2.1.2⟩, trivial⟩⟩
structure Portholeref17_Spot where
  At : Int
  Behind : Bool
  Is : Bool
  deriving Inhabited, DecidableEq
def kd_Portholeref17_Spot : Kd Portholeref17_Spot := ⟨3, fun x sv => [.int .i64 x.At, .bool x.Behind, .bool x.Is], fun S w x sv => True, fun _ _ => rfl, Nat.le_of_ble_eq_true rfl, fun h hk => trivial⟩

def wf_St23 (x : St23) : Prop := (InK .u32) x.e0 ∧ (InK .u32) x.e1 ∧ (InK .u32) x.e2 ∧ (InK .u32) x.e3
theorem op_St23 : Opn Try.prog 23 kd_St23 wf_St23 := by
  refine ⟨by kernel_rfl, fun h => ?_⟩
  obtain ⟨xs, m, _, _, hlen, hxs, hf⟩ := DataW.trod_array Try.underlying23 h
  obtain ⟨v0, s0, c0, k0, w0⟩ := opn_elem hf hxs 0 (by decide) (Opn.int Try.underlying22 (by kernel_rfl))
  obtain ⟨v1, s1, c1, k1, w1⟩ := opn_elem hf hxs 1 (by decide) (Opn.int Try.underlying22 (by kernel_rfl))
  obtain ⟨v2, s2, c2, k2, w2⟩ := opn_elem hf hxs 2 (by decide) (Opn.int Try.underlying22 (by kernel_rfl))
  obtain ⟨v3, s3, c3, k3, w3⟩ := opn_elem hf hxs 3 (by decide) (Opn.int Try.underlying22 (by kernel_rfl))
  exact ⟨⟨v0, v1, v2, v3⟩, svL [], (pieces_eq [1, 1, 1, 1] hlen (by kernel_rfl)).trans (app2 c0 (app2 c1 (app2 c2 (app2 c3 rfl)))), trivial, ⟨w0, w1, w2, w3⟩⟩
def wf_Request (x : Request) : Prop := (InK .i64) x.Op ∧ (InK .i64) x.Port ∧ (InK .u64) x.Addr ∧ (fun xs => xs.length ≤ maxLen ∧ ∀ x ∈ xs, (InK .u32) x) x.Data
theorem op_Request : Opn Try.prog 37 kd_Request wf_Request := by
  refine ⟨by kernel_rfl, fun h => ?_⟩
  obtain ⟨xs, m, _, _, hlen, hxs, hf⟩ := DataW.trod_struct Try.underlying37 h
  obtain ⟨v0, s0, c0, k0, w0⟩ := opn_field hf hxs 0 _ rfl (Opn.int Try.underlying3 (by kernel_rfl))
  obtain ⟨v1, s1, c1, k1, w1⟩ := opn_field hf hxs 1 _ rfl (Opn.int Try.underlying3 (by kernel_rfl))
  obtain ⟨v2, s2, c2, k2, w2⟩ := opn_field hf hxs 2 _ rfl (Opn.int Try.underlying34 (by kernel_rfl))
  obtain ⟨v3, s3, c3, k3, w3⟩ := opn_field hf hxs 3 _ rfl (Opn.slice (Opn.int Try.underlying22 (by kernel_rfl)) Try.underlying35 (by kernel_rfl))
  exact ⟨⟨v0, v1, v2, v3⟩, svL [s3 0], (pieces_eq [1, 1, 1, 1] hlen (by kernel_rfl)).trans (app2 c0 (app2 c1 (app2 c2 (app2 c3 rfl)))), ⟨k3, trivial⟩, ⟨w0, w1, w2, w3⟩⟩
def wf_Answer (x : Answer) : Prop := (InK .i64) x.Code ∧ (fun xs => xs.length ≤ maxLen ∧ ∀ x ∈ xs, (InK .u32) x) x.Data ∧ (fun _ => True) x.Valid ∧ (InK .i64) x.Count
theorem op_Answer : Opn Try.prog 40 kd_Answer wf_Answer := by
  refine ⟨by kernel_rfl, fun h => ?_⟩
  obtain ⟨xs, m, _, _, hlen, hxs, hf⟩ := DataW.trod_struct Try.underlying40 h
  obtain ⟨v0, s0, c0, k0, w0⟩ := opn_field hf hxs 0 _ rfl (Opn.int Try.underlying38 (by kernel_rfl))
  obtain ⟨v1, s1, c1, k1, w1⟩ := opn_field hf hxs 1 _ rfl (Opn.slice (Opn.int Try.underlying22 (by kernel_rfl)) Try.underlying35 (by kernel_rfl))
  obtain ⟨v2, s2, c2, k2, w2⟩ := opn_field hf hxs 2 _ rfl (Opn.bool Try.underlying4 (by kernel_rfl))
  obtain ⟨v3, s3, c3, k3, w3⟩ := opn_field hf hxs 3 _ rfl (Opn.int Try.underlying3 (by kernel_rfl))
  exact ⟨⟨v0, v1, v2, v3⟩, svL [s1 0], (pieces_eq [1, 1, 1, 1] hlen (by kernel_rfl)).trans (app2 c0 (app2 c1 (app2 c2 (app2 c3 rfl)))), ⟨k1, trivial⟩, ⟨w0, w1, w2, w3⟩⟩
def wf_Call (x : Call) : Prop := (InK .i64) x.Part ∧ wf_Request x.Req ∧ wf_Answer x.Ans ∧ (fun _ => True) x.Done ∧ (InK .i64) x.From ∧ (InK .i64) x.To ∧ (InK .i64) x.T0 ∧ (InK .i64) x.T1 ∧ (InK .i64) x.Own0 ∧ (InK .i64) x.Own1 ∧ (InK .i64) x.Mark ∧ (InK .i64) x.Ring ∧ (InK .i64) x.Stamp ∧ (InK .i64) x.Saw
theorem op_Call : Opn Try.prog 42 kd_Call wf_Call := by
  refine ⟨by kernel_rfl, fun h => ?_⟩
  obtain ⟨xs, m, _, _, hlen, hxs, hf⟩ := DataW.trod_struct Try.underlying42 h
  obtain ⟨v0, s0, c0, k0, w0⟩ := opn_field hf hxs 0 _ rfl (Opn.int Try.underlying3 (by kernel_rfl))
  obtain ⟨v1, s1, c1, k1, w1⟩ := opn_field hf hxs 1 _ rfl op_Request
  obtain ⟨v2, s2, c2, k2, w2⟩ := opn_field hf hxs 2 _ rfl op_Answer
  obtain ⟨v3, s3, c3, k3, w3⟩ := opn_field hf hxs 3 _ rfl (Opn.bool Try.underlying4 (by kernel_rfl))
  obtain ⟨v4, s4, c4, k4, w4⟩ := opn_field hf hxs 4 _ rfl (Opn.int Try.underlying3 (by kernel_rfl))
  obtain ⟨v5, s5, c5, k5, w5⟩ := opn_field hf hxs 5 _ rfl (Opn.int Try.underlying3 (by kernel_rfl))
  obtain ⟨v6, s6, c6, k6, w6⟩ := opn_field hf hxs 6 _ rfl (Opn.int Try.underlying3 (by kernel_rfl))
  obtain ⟨v7, s7, c7, k7, w7⟩ := opn_field hf hxs 7 _ rfl (Opn.int Try.underlying3 (by kernel_rfl))
  obtain ⟨v8, s8, c8, k8, w8⟩ := opn_field hf hxs 8 _ rfl (Opn.int Try.underlying3 (by kernel_rfl))
  obtain ⟨v9, s9, c9, k9, w9⟩ := opn_field hf hxs 9 _ rfl (Opn.int Try.underlying3 (by kernel_rfl))
  obtain ⟨v10, s10, c10, k10, w10⟩ := opn_field hf hxs 10 _ rfl (Opn.int Try.underlying3 (by kernel_rfl))
  obtain ⟨v11, s11, c11, k11, w11⟩ := opn_field hf hxs 11 _ rfl (Opn.int Try.underlying3 (by kernel_rfl))
  obtain ⟨v12, s12, c12, k12, w12⟩ := opn_field hf hxs 12 _ rfl (Opn.int Try.underlying3 (by kernel_rfl))
  obtain ⟨v13, s13, c13, k13, w13⟩ := opn_field hf hxs 13 _ rfl (Opn.int Try.underlying3 (by kernel_rfl))
  exact ⟨⟨v0, v1, v2, v3, v4, v5, v6, v7, v8, v9, v10, v11, v12, v13⟩, svL [s1 0, s2 0], (pieces_eq [1, 4, 4, 1, 1, 1, 1, 1, 1, 1, 1, 1, 1, 1] hlen (by kernel_rfl)).trans (app2 c0 (app2 c1 (app2 c2 (app2 c3 (app2 c4 (app2 c5 (app2 c6 (app2 c7 (app2 c8 (app2 c9 (app2 c10 (app2 c11 (app2 c12 (app2 c13 rfl)))))))))))))), ⟨k1.1, k2.1, trivial⟩, ⟨w0, w1, w2, w3, w4, w5, w6, w7, w8, w9, w10, w11, w12, w13⟩⟩
def wf_Portholeref17_Spot (x : Portholeref17_Spot) : Prop := (InK .i64) x.At ∧ (fun _ => True) x.Behind ∧ (fun _ => True) x.Is
theorem op_Portholeref17_Spot : Opn Try.prog 55 kd_Portholeref17_Spot wf_Portholeref17_Spot := by
  refine ⟨by kernel_rfl, fun h => ?_⟩
  obtain ⟨xs, m, _, _, hlen, hxs, hf⟩ := DataW.trod_struct Try.underlying55 h
  obtain ⟨v0, s0, c0, k0, w0⟩ := opn_field hf hxs 0 _ rfl (Opn.int Try.underlying3 (by kernel_rfl))
  obtain ⟨v1, s1, c1, k1, w1⟩ := opn_field hf hxs 1 _ rfl (Opn.bool Try.underlying4 (by kernel_rfl))
  obtain ⟨v2, s2, c2, k2, w2⟩ := opn_field hf hxs 2 _ rfl (Opn.bool Try.underlying4 (by kernel_rfl))
  exact ⟨⟨v0, v1, v2⟩, svL [], (pieces_eq [1, 1, 1] hlen (by kernel_rfl)).trans (app2 c0 (app2 c1 (app2 c2 rfl))), trivial, ⟨w0, w1, w2⟩⟩

/-! ### porthole/stamp.Fresh: function 34 -/
noncomputable def G_stamp_Fresh (a0 : Int) (a1 : Int) (a2 : Int) : Option (Bool) := some (decide ((IntKind.i64.wrap (a2 - a1)) ≤ a0))
set_option maxRecDepth 100000 in
set_option maxHeartbeats 4000000 in
theorem G_stamp_Fresh.calls (a0 : Int) (a1 : Int) (a2 : Int)  (w : World)   (r : Bool) (h : G_stamp_Fresh a0 a1 a2 = some r) :
    Calls Try.prog 34 #[.int .i64 a0, .int .i64 a1, .int .i64 a2] w fun e w' => e = .returned (.bool r) ∧ Below w.heap.size w w' := by
  unfold G_stamp_Fresh at h
  have H0 := h
  clear h
  refine enter Try.func34 rfl [.int .i64 a0, .int .i64 a1, .int .i64 a2] (n := 12) rfl (Nat.le_of_ble_eq_true rfl) (fun a hI => ?_)
  have hF : FOpen Fence.wide := .inl rfl
  refine seq_region (live := [6, 0, 1, 2]) (orc := []) hF hI ⟨[⟨6, [], .v (.bool false)⟩, ⟨0, [], .v (.int .i64 a0)⟩, ⟨1, [], .v (.int .i64 a1)⟩, ⟨2, [], .v (.int .i64 a2)⟩], [], [], []⟩ [] (by kernel_rfl) trivial (fun ns a w1 hI _ => ?_)
  refine seq_region (live := [6, 0, 1, 2]) (orc := []) hF hI ⟨[⟨6, [], .v (.bool (decide ((IntKind.i64.wrap (a2 - a1)) ≤ a0)))⟩, ⟨0, [], .v (.int .i64 a0)⟩, ⟨1, [], .v (.int .i64 a1)⟩, ⟨2, [], .v (.int .i64 a2)⟩], [], [], []⟩ [] (by kernel_rfl) trivial (fun ns a w1 hI _ => ?_)
  refine wpIn_ret ?_
  obtain rfl := Option.some.inj H0
  exact ret1 hI rfl rfl ⟨rfl, hI.loc.base.below⟩

/-! ### porthole/portholelaw24.wakes: function 13 -/
noncomputable def G_law24_wakes  : Option (Bool) := ((G_stamp_Fresh 3 5 8).bind fun t1 => ((cal t1 (G_stamp_Fresh 3 5 9) default).bind fun t3 => some (t1 && (!t3))))
set_option maxRecDepth 100000 in
set_option maxHeartbeats 4000000 in
theorem G_law24_wakes.calls   (w : World)   (r : Bool) (h : G_law24_wakes = some r) :
    Calls Try.prog 13 #[] w fun e w' => e = .returned (.bool r) ∧ Below w.heap.size w w' := by
  unfold G_law24_wakes at h
  have H0 := h
  clear h
  refine enter Try.func13 rfl [] (n := 6) rfl (Nat.le_of_ble_eq_true rfl) (fun a hI => ?_)
  have hF : FOpen Fence.wide := .inl rfl
  refine seq_region (live := [0]) (orc := []) hF hI ⟨[⟨0, [], .v (.bool false)⟩], [], [], []⟩ [] (by kernel_rfl) trivial (fun ns a w1 hI _ => ?_)
  obtain ⟨t1, hG2, H0⟩ := bind_some H0
  obtain ⟨t3, hG4, H0⟩ := bind_some H0
  refine seq_region (live := [0]) (orc := [[.bool t1], [.bool t3]]) hF hI ⟨[⟨0, [], .v (.bool (t1 && (!t3)))⟩], [], [], []⟩ [.call true 34 [.int .i64 3, .int .i64 5, .int .i64 8] (.bool t1), .call t1 34 [.int .i64 3, .int .i64 5, .int .i64 9] (.bool t3)] (by kernel_rfl) ⟨ob_call (enters Try.func34 (by kernel_rfl) rfl) (fun hg w1 hk => G_stamp_Fresh.calls 3 5 8  w1  _ hG2), ob_call (enters Try.func34 (by kernel_rfl) rfl) (fun hg w1 hk => G_stamp_Fresh.calls 3 5 9  w1  _ (cal_some hG4 hg)), trivial⟩ (fun ns a w1 hI _ => ?_)
  refine wpIn_ret ?_
  obtain rfl := Option.some.inj H0
  exact ret1 hI rfl rfl ⟨rfl, hI.loc.base.below⟩

/-! ### porthole/portholelaw24.grows: function 12 -/
noncomputable def G_law24_grows (a0 : Int) (a1 : Int) (a2 : Int) (a3 : Int) : Option (Bool) := ((G_law24_wakes).bind fun t1 => (bif (!t1) then some false else ((G_stamp_Fresh a0 a1 a2).bind fun t4 => ((cal t4 (G_stamp_Fresh (IntKind.i64.wrap (a0 + a3)) a1 a2) default).bind fun t6 => ((cal (t4 && (!(!t6))) (G_stamp_Fresh a0 (IntKind.i64.wrap (a1 + a3)) a2) default).bind fun t8 => ((cal ((t4 && (!((!t6) || (!t8)))) && (decide (a2 ≥ a3))) (G_stamp_Fresh a0 a1 (IntKind.i64.wrap (a2 - a3))) default).bind fun t10 => (bif (t4 && (((!t6) || (!t8)) || (decide (a2 ≥ a3) && (!t10)))) then some false else ((G_stamp_Fresh a0 (IntKind.i64.wrap (a1 + a3)) (IntKind.i64.wrap (a2 + a3))).bind fun t13 => some (t13 == t4)))))))))
set_option maxRecDepth 100000 in
set_option maxHeartbeats 4000000 in
theorem G_law24_grows.calls (a0 : Int) (a1 : Int) (a2 : Int) (a3 : Int)  (w : World)   (r : Bool) (h : G_law24_grows a0 a1 a2 a3 = some r) :
    Calls Try.prog 12 #[.int .i64 a0, .int .i64 a1, .int .i64 a2, .int .i64 a3] w fun e w' => e = .returned (.bool r) ∧ Below w.heap.size w w' := by
  unfold G_law24_grows at h
  have H0 := h
  clear h
  refine enter Try.func12 rfl [.int .i64 a0, .int .i64 a1, .int .i64 a2, .int .i64 a3] (n := 59) rfl (Nat.le_of_ble_eq_true rfl) (fun a hI => ?_)
  have hF : FOpen Fence.wide := .inl rfl
  refine seq_region (live := [8, 0, 1, 2, 3]) (orc := []) hF hI ⟨[⟨8, [], .v (.bool false)⟩, ⟨0, [], .v (.int .i64 a0)⟩, ⟨1, [], .v (.int .i64 a1)⟩, ⟨2, [], .v (.int .i64 a2)⟩, ⟨3, [], .v (.int .i64 a3)⟩], [], [], []⟩ [] (by kernel_rfl) trivial (fun ns a w1 hI _ => ?_)
  refine wpIn_seq ?_
  obtain ⟨t1, hG2, H0⟩ := bind_some H0
  refine seq_region (live := [11, 8, 0, 1, 2, 3]) (orc := [[.bool t1]]) hF hI ⟨[⟨11, [], .v (.bool (!t1))⟩, ⟨8, [], .v (.bool false)⟩, ⟨0, [], .v (.int .i64 a0)⟩, ⟨1, [], .v (.int .i64 a1)⟩, ⟨2, [], .v (.int .i64 a2)⟩, ⟨3, [], .v (.int .i64 a3)⟩], [], [], []⟩ [.call true 13 [] (.bool t1)] (by kernel_rfl) ⟨ob_call (enters Try.func13 (by kernel_rfl) rfl) (fun hg w1 hk => G_law24_wakes.calls   w1  _ hG2), trivial⟩ (fun ns a w1 hI _ => ?_)
  refine cond_ hI ((!t1)) rfl (fun hc3 => ?_) (fun hc3 => ?_)
  · replace H0 := bif_t hc3 H0
    refine seq_region (live := [8, 11, 0, 1, 2, 3]) (orc := []) hF hI ⟨[⟨8, [], .v (.bool false)⟩, ⟨11, [], .v (.bool (!t1))⟩, ⟨0, [], .v (.int .i64 a0)⟩, ⟨1, [], .v (.int .i64 a1)⟩, ⟨2, [], .v (.int .i64 a2)⟩, ⟨3, [], .v (.int .i64 a3)⟩], [], [], []⟩ [] (by kernel_rfl) trivial (fun ns a w1 hI _ => ?_)
    refine wpIn_ret ?_
    refine then_ret ?_
    obtain rfl := Option.some.inj H0
    exact ret1 hI rfl rfl ⟨rfl, hI.loc.base.below⟩
  · replace H0 := bif_f hc3 H0
    refine wpIn_skip ?_
    refine then_normal ?_
    obtain ⟨t4, hG5, H0⟩ := bind_some H0
    refine seq_region (live := [9, 11, 8, 0, 1, 2, 3]) (orc := [[.bool t4]]) hF hI ⟨[⟨9, [], .v (.bool t4)⟩, ⟨11, [], .v (.bool (!t1))⟩, ⟨8, [], .v (.bool false)⟩, ⟨0, [], .v (.int .i64 a0)⟩, ⟨1, [], .v (.int .i64 a1)⟩, ⟨2, [], .v (.int .i64 a2)⟩, ⟨3, [], .v (.int .i64 a3)⟩], [], [], []⟩ [.call true 34 [.int .i64 a0, .int .i64 a1, .int .i64 a2] (.bool t4)] (by kernel_rfl) ⟨ob_call (enters Try.func34 (by kernel_rfl) rfl) (fun hg w1 hk => G_stamp_Fresh.calls a0 a1 a2  w1  _ hG5), trivial⟩ (fun ns a w1 hI _ => ?_)
    refine wpIn_seq ?_
    obtain ⟨t6, hG7, H0⟩ := bind_some H0
    obtain ⟨t8, hG9, H0⟩ := bind_some H0
    obtain ⟨t10, hG11, H0⟩ := bind_some H0
    refine seq_region (live := [48, 9, 11, 8, 0, 1, 2, 3]) (orc := [[.bool t6], [.bool t8], [.bool t10]]) hF hI ⟨[⟨48, [], .v (.bool (t4 && (((!t6) || (!t8)) || (decide (a2 ≥ a3) && (!t10)))))⟩, ⟨9, [], .v (.bool t4)⟩, ⟨11, [], .v (.bool (!t1))⟩, ⟨8, [], .v (.bool false)⟩, ⟨0, [], .v (.int .i64 a0)⟩, ⟨1, [], .v (.int .i64 a1)⟩, ⟨2, [], .v (.int .i64 a2)⟩, ⟨3, [], .v (.int .i64 a3)⟩], [], [], []⟩ [.call t4 34 [.int .i64 (IntKind.i64.wrap (a0 + a3)), .int .i64 a1, .int .i64 a2] (.bool t6), .call (t4 && (!(!t6))) 34 [.int .i64 a0, .int .i64 (IntKind.i64.wrap (a1 + a3)), .int .i64 a2] (.bool t8), .call ((t4 && (!((!t6) || (!t8)))) && (decide (a2 ≥ a3))) 34 [.int .i64 a0, .int .i64 a1, .int .i64 (IntKind.i64.wrap (a2 - a3))] (.bool t10)] (by kernel_rfl) ⟨ob_call (enters Try.func34 (by kernel_rfl) rfl) (fun hg w1 hk => G_stamp_Fresh.calls (IntKind.i64.wrap (a0 + a3)) a1 a2  w1  _ (cal_some hG7 hg)), ob_call (enters Try.func34 (by kernel_rfl) rfl) (fun hg w1 hk => G_stamp_Fresh.calls a0 (IntKind.i64.wrap (a1 + a3)) a2  w1  _ (cal_some hG9 hg)), ob_call (enters Try.func34 (by kernel_rfl) rfl) (fun hg w1 hk => G_stamp_Fresh.calls a0 a1 (IntKind.i64.wrap (a2 - a3))  w1  _ (cal_some hG11 hg)), trivial⟩ (fun ns a w1 hI _ => ?_)
    refine cond_ hI ((t4 && (((!t6) || (!t8)) || (decide (a2 ≥ a3) && (!t10))))) rfl (fun hc12 => ?_) (fun hc12 => ?_)
    · replace H0 := bif_t hc12 H0
      refine seq_region (live := [8, 48, 9, 11, 0, 1, 2, 3]) (orc := []) hF hI ⟨[⟨8, [], .v (.bool false)⟩, ⟨48, [], .v (.bool (t4 && (((!t6) || (!t8)) || (decide (a2 ≥ a3) && (!t10)))))⟩, ⟨9, [], .v (.bool t4)⟩, ⟨11, [], .v (.bool (!t1))⟩, ⟨0, [], .v (.int .i64 a0)⟩, ⟨1, [], .v (.int .i64 a1)⟩, ⟨2, [], .v (.int .i64 a2)⟩, ⟨3, [], .v (.int .i64 a3)⟩], [], [], []⟩ [] (by kernel_rfl) trivial (fun ns a w1 hI _ => ?_)
      refine wpIn_ret ?_
      refine then_ret ?_
      obtain rfl := Option.some.inj H0
      exact ret1 hI rfl rfl ⟨rfl, hI.loc.base.below⟩
    · replace H0 := bif_f hc12 H0
      refine wpIn_skip ?_
      refine then_normal ?_
      obtain ⟨t13, hG14, H0⟩ := bind_some H0
      refine seq_region (live := [8, 48, 9, 11, 0, 1, 2, 3]) (orc := [[.bool t13]]) hF hI ⟨[⟨8, [], .v (.bool (t13 == t4))⟩, ⟨48, [], .v (.bool (t4 && (((!t6) || (!t8)) || (decide (a2 ≥ a3) && (!t10)))))⟩, ⟨9, [], .v (.bool t4)⟩, ⟨11, [], .v (.bool (!t1))⟩, ⟨0, [], .v (.int .i64 a0)⟩, ⟨1, [], .v (.int .i64 a1)⟩, ⟨2, [], .v (.int .i64 a2)⟩, ⟨3, [], .v (.int .i64 a3)⟩], [], [], []⟩ [.call true 34 [.int .i64 a0, .int .i64 (IntKind.i64.wrap (a1 + a3)), .int .i64 (IntKind.i64.wrap (a2 + a3))] (.bool t13)] (by kernel_rfl) ⟨ob_call (enters Try.func34 (by kernel_rfl) rfl) (fun hg w1 hk => G_stamp_Fresh.calls a0 (IntKind.i64.wrap (a1 + a3)) (IntKind.i64.wrap (a2 + a3))  w1  _ hG14), trivial⟩ (fun ns a w1 hI _ => ?_)
      refine wpIn_ret ?_
      obtain rfl := Option.some.inj H0
      exact ret1 hI rfl rfl ⟨rfl, hI.loc.base.below⟩

/-! ### porthole/portholelaw24.StampGrows: function 3 -/
noncomputable def G_law24_StampGrows (x0 : St23) : Option (Bool) := ((G_law24_grows (IntKind.i64.wrap x0.e0) (IntKind.i64.wrap x0.e1) (IntKind.i64.wrap x0.e2) (IntKind.i64.wrap x0.e3)).bind fun t1 => some t1)
set_option maxRecDepth 100000 in
set_option maxHeartbeats 4000000 in
theorem G_law24_StampGrows.calls (x0 : St23) (sv0 : SV) (w : World) {S0 : Nat → Prop} (hx0 : (kd_St23).cont S0 w x0 sv0) (r : Bool) (h : G_law24_StampGrows x0 = some r) :
    Calls Try.prog 3 #[.agg ((kd_St23).cells x0 sv0).toArray] w fun e w' => e = .returned (.bool r) ∧ Below w.heap.size w w' := by
  replace hx0 := Kd.low _ hx0
  unfold G_law24_StampGrows at h
  have H0 := h
  clear h
  refine enter Try.func3 rfl [.agg ((kd_St23).cells x0 sv0).toArray] (n := 16) rfl (Nat.le_of_ble_eq_true rfl) (fun a hI => ?_)
  have hF : FOpen Fence.wide := .inl rfl
  refine seq_region (live := [2, 1, 0]) (orc := []) hF hI ⟨[⟨2, [], .v (.bool false)⟩, ⟨1, [], .p 0 0⟩, ⟨0, [], .v (.agg ((kd_St23).cells x0 sv0).toArray)⟩], [], [], [((((kd_St23).cells x0 sv0).map EV.v), 23)]⟩ [] (by kernel_rfl) trivial (fun ns a w1 hI _ => ?_)
  obtain ⟨t1, hG2, H0⟩ := bind_some H0
  refine seq_region (live := [2, 1, 0]) (orc := [[.bool t1]]) hF hI ⟨[⟨2, [], .v (.bool t1)⟩, ⟨1, [], .p 0 0⟩, ⟨0, [], .v (.agg ((kd_St23).cells x0 sv0).toArray)⟩], [], [], [((((kd_St23).cells x0 sv0).map EV.v), 23)]⟩ [.call true 12 [.int .i64 (IntKind.i64.wrap x0.e0), .int .i64 (IntKind.i64.wrap x0.e1), .int .i64 (IntKind.i64.wrap x0.e2), .int .i64 (IntKind.i64.wrap x0.e3)] (.bool t1)] (by kernel_rfl) ⟨ob_call (enters Try.func12 (by kernel_rfl) rfl) (fun hg w1 hk => G_law24_grows.calls (IntKind.i64.wrap x0.e0) (IntKind.i64.wrap x0.e1) (IntKind.i64.wrap x0.e2) (IntKind.i64.wrap x0.e3)  w1  _ hG2), trivial⟩ (fun ns a w1 hI _ => ?_)
  refine wpIn_ret ?_
  obtain rfl := Option.some.inj H0
  exact ret1 hI rfl rfl ⟨rfl, hI.loc.base.below⟩

/-! ### porthole/portholeref17.one: function 35 -/
noncomputable def G_ref17_one (x0 : Call) : Option (Bool) := (bif ((decide (x0.From < 0) || decide (x0.T0 < 0)) || decide (x0.Own0 < 1)) then some false else (bif ((x0.Done && ((decide (x0.To < x0.From) || decide (x0.T1 < x0.T0)) || decide (x0.Own1 < x0.Own0))) || ((!x0.Done) && (((x0.To != (-1)) || (x0.T1 != (-1))) || (x0.Own1 != (-1))))) then some false else (bif ((x0.Mark != (-1)) && (decide (x0.Mark < x0.From) || (x0.Done && decide (x0.Mark > x0.To)))) then some false else some ((x0.Ring == (-1)) || ((decide (x0.Mark ≥ 0) && decide (x0.Ring > x0.Mark)) && ((!x0.Done) || decide (x0.Ring ≤ x0.To)))))))
set_option maxRecDepth 100000 in
set_option maxHeartbeats 4000000 in
theorem G_ref17_one.calls (x0 : Call) (sv0 : SV) (w : World) {S0 : Nat → Prop} (hx0 : (kd_Call).cont S0 w x0 sv0) (r : Bool) (h : G_ref17_one x0 = some r) :
    Calls Try.prog 35 #[.agg ((kd_Call).cells x0 sv0).toArray] w fun e w' => e = .returned (.bool r) ∧ Below w.heap.size w w' := by
  replace hx0 := Kd.low _ hx0
  unfold G_ref17_one at h
  have H0 := h
  clear h
  refine enter Try.func35 rfl [.agg ((kd_Call).cells x0 sv0).toArray] (n := 107) rfl (Nat.le_of_ble_eq_true rfl) (fun a hI => ?_)
  have hF : FOpen Fence.wide := .inl rfl
  refine seq_region (live := [2, 1, 0]) (orc := []) hF hI ⟨[⟨2, [], .v (.bool false)⟩, ⟨1, [], .p 0 0⟩, ⟨0, [], .v (.agg ((kd_Call).cells x0 sv0).toArray)⟩], [], [], [((((kd_Call).cells x0 sv0).map EV.v), 42)]⟩ [] (by kernel_rfl) trivial (fun ns a w1 hI _ => ?_)
  refine wpIn_seq ?_
  refine seq_region (live := [15, 2, 1, 0]) (orc := []) hF hI ⟨[⟨15, [], .v (.bool ((decide (x0.From < 0) || decide (x0.T0 < 0)) || decide (x0.Own0 < 1)))⟩, ⟨2, [], .v (.bool false)⟩, ⟨1, [], .p 0 0⟩, ⟨0, [], .v (.agg ((kd_Call).cells x0 sv0).toArray)⟩], [], [], [((((kd_Call).cells x0 sv0).map EV.v), 42)]⟩ [] (by kernel_rfl) trivial (fun ns a w1 hI _ => ?_)
  refine cond_ hI (((decide (x0.From < 0) || decide (x0.T0 < 0)) || decide (x0.Own0 < 1))) rfl (fun hc1 => ?_) (fun hc1 => ?_)
  · replace H0 := bif_t hc1 H0
    refine seq_region (live := [2, 15, 1, 0]) (orc := []) hF hI ⟨[⟨2, [], .v (.bool false)⟩, ⟨15, [], .v (.bool ((decide (x0.From < 0) || decide (x0.T0 < 0)) || decide (x0.Own0 < 1)))⟩, ⟨1, [], .p 0 0⟩, ⟨0, [], .v (.agg ((kd_Call).cells x0 sv0).toArray)⟩], [], [], [((((kd_Call).cells x0 sv0).map EV.v), 42)]⟩ [] (by kernel_rfl) trivial (fun ns a w1 hI _ => ?_)
    refine wpIn_ret ?_
    refine then_ret ?_
    obtain rfl := Option.some.inj H0
    exact ret1 hI rfl rfl ⟨rfl, hI.loc.base.below⟩
  · replace H0 := bif_f hc1 H0
    refine wpIn_skip ?_
    refine then_normal ?_
    refine wpIn_seq ?_
    refine seq_region (live := [58, 15, 2, 1, 0]) (orc := []) hF hI ⟨[⟨58, [], .v (.bool ((x0.Done && ((decide (x0.To < x0.From) || decide (x0.T1 < x0.T0)) || decide (x0.Own1 < x0.Own0))) || ((!x0.Done) && (((x0.To != (-1)) || (x0.T1 != (-1))) || (x0.Own1 != (-1))))))⟩, ⟨15, [], .v (.bool ((decide (x0.From < 0) || decide (x0.T0 < 0)) || decide (x0.Own0 < 1)))⟩, ⟨2, [], .v (.bool false)⟩, ⟨1, [], .p 0 0⟩, ⟨0, [], .v (.agg ((kd_Call).cells x0 sv0).toArray)⟩], [], [], [((((kd_Call).cells x0 sv0).map EV.v), 42)]⟩ [] (by kernel_rfl) trivial (fun ns a w1 hI _ => ?_)
    refine cond_ hI (((x0.Done && ((decide (x0.To < x0.From) || decide (x0.T1 < x0.T0)) || decide (x0.Own1 < x0.Own0))) || ((!x0.Done) && (((x0.To != (-1)) || (x0.T1 != (-1))) || (x0.Own1 != (-1)))))) rfl (fun hc2 => ?_) (fun hc2 => ?_)
    · replace H0 := bif_t hc2 H0
      refine seq_region (live := [2, 58, 15, 1, 0]) (orc := []) hF hI ⟨[⟨2, [], .v (.bool false)⟩, ⟨58, [], .v (.bool ((x0.Done && ((decide (x0.To < x0.From) || decide (x0.T1 < x0.T0)) || decide (x0.Own1 < x0.Own0))) || ((!x0.Done) && (((x0.To != (-1)) || (x0.T1 != (-1))) || (x0.Own1 != (-1))))))⟩, ⟨15, [], .v (.bool ((decide (x0.From < 0) || decide (x0.T0 < 0)) || decide (x0.Own0 < 1)))⟩, ⟨1, [], .p 0 0⟩, ⟨0, [], .v (.agg ((kd_Call).cells x0 sv0).toArray)⟩], [], [], [((((kd_Call).cells x0 sv0).map EV.v), 42)]⟩ [] (by kernel_rfl) trivial (fun ns a w1 hI _ => ?_)
      refine wpIn_ret ?_
      refine then_ret ?_
      obtain rfl := Option.some.inj H0
      exact ret1 hI rfl rfl ⟨rfl, hI.loc.base.below⟩
    · replace H0 := bif_f hc2 H0
      refine wpIn_skip ?_
      refine then_normal ?_
      refine wpIn_seq ?_
      refine seq_region (live := [79, 58, 15, 2, 1, 0]) (orc := []) hF hI ⟨[⟨79, [], .v (.bool ((x0.Mark != (-1)) && (decide (x0.Mark < x0.From) || (x0.Done && decide (x0.Mark > x0.To)))))⟩, ⟨58, [], .v (.bool ((x0.Done && ((decide (x0.To < x0.From) || decide (x0.T1 < x0.T0)) || decide (x0.Own1 < x0.Own0))) || ((!x0.Done) && (((x0.To != (-1)) || (x0.T1 != (-1))) || (x0.Own1 != (-1))))))⟩, ⟨15, [], .v (.bool ((decide (x0.From < 0) || decide (x0.T0 < 0)) || decide (x0.Own0 < 1)))⟩, ⟨2, [], .v (.bool false)⟩, ⟨1, [], .p 0 0⟩, ⟨0, [], .v (.agg ((kd_Call).cells x0 sv0).toArray)⟩], [], [], [((((kd_Call).cells x0 sv0).map EV.v), 42)]⟩ [] (by kernel_rfl) trivial (fun ns a w1 hI _ => ?_)
      refine cond_ hI (((x0.Mark != (-1)) && (decide (x0.Mark < x0.From) || (x0.Done && decide (x0.Mark > x0.To))))) rfl (fun hc3 => ?_) (fun hc3 => ?_)
      · replace H0 := bif_t hc3 H0
        refine seq_region (live := [2, 79, 58, 15, 1, 0]) (orc := []) hF hI ⟨[⟨2, [], .v (.bool false)⟩, ⟨79, [], .v (.bool ((x0.Mark != (-1)) && (decide (x0.Mark < x0.From) || (x0.Done && decide (x0.Mark > x0.To)))))⟩, ⟨58, [], .v (.bool ((x0.Done && ((decide (x0.To < x0.From) || decide (x0.T1 < x0.T0)) || decide (x0.Own1 < x0.Own0))) || ((!x0.Done) && (((x0.To != (-1)) || (x0.T1 != (-1))) || (x0.Own1 != (-1))))))⟩, ⟨15, [], .v (.bool ((decide (x0.From < 0) || decide (x0.T0 < 0)) || decide (x0.Own0 < 1)))⟩, ⟨1, [], .p 0 0⟩, ⟨0, [], .v (.agg ((kd_Call).cells x0 sv0).toArray)⟩], [], [], [((((kd_Call).cells x0 sv0).map EV.v), 42)]⟩ [] (by kernel_rfl) trivial (fun ns a w1 hI _ => ?_)
        refine wpIn_ret ?_
        refine then_ret ?_
        obtain rfl := Option.some.inj H0
        exact ret1 hI rfl rfl ⟨rfl, hI.loc.base.below⟩
      · replace H0 := bif_f hc3 H0
        refine wpIn_skip ?_
        refine then_normal ?_
        refine seq_region (live := [2, 79, 58, 15, 1, 0]) (orc := []) hF hI ⟨[⟨2, [], .v (.bool ((x0.Ring == (-1)) || ((decide (x0.Mark ≥ 0) && decide (x0.Ring > x0.Mark)) && ((!x0.Done) || decide (x0.Ring ≤ x0.To)))))⟩, ⟨79, [], .v (.bool ((x0.Mark != (-1)) && (decide (x0.Mark < x0.From) || (x0.Done && decide (x0.Mark > x0.To)))))⟩, ⟨58, [], .v (.bool ((x0.Done && ((decide (x0.To < x0.From) || decide (x0.T1 < x0.T0)) || decide (x0.Own1 < x0.Own0))) || ((!x0.Done) && (((x0.To != (-1)) || (x0.T1 != (-1))) || (x0.Own1 != (-1))))))⟩, ⟨15, [], .v (.bool ((decide (x0.From < 0) || decide (x0.T0 < 0)) || decide (x0.Own0 < 1)))⟩, ⟨1, [], .p 0 0⟩, ⟨0, [], .v (.agg ((kd_Call).cells x0 sv0).toArray)⟩], [], [], [((((kd_Call).cells x0 sv0).map EV.v), 42)]⟩ [] (by kernel_rfl) trivial (fun ns a w1 hI _ => ?_)
        refine wpIn_ret ?_
        obtain rfl := Option.some.inj H0
        exact ret1 hI rfl rfl ⟨rfl, hI.loc.base.below⟩

/-! ### porthole/portholeref17.before: function 36 -/
noncomputable def G_ref17_before.b1 (l0 : (List Call)) (a1 : Int) (s1 : Int × Int) : Option (Stp (Int × Int) (Ex (Int × Int) (Int))) := (bif decide (s1.1 ≥ 0) then (req (inb s1.1 l0.length) (req (inb a1 l0.length) (bif (((rd l0 s1.1).Part) == ((rd l0 a1).Part)) then some (.out (.ret s1.1)) else some (.next ((IntKind.i64.wrap (s1.1 - 1)), s1.2))))) else some (.out (.brk (s1.1, s1.2))))
noncomputable def G_ref17_before (l0 : (List Call)) (a1 : Int) : Option (Int) := ((loopω (G_ref17_before.b1 l0 a1) ((IntKind.i64.wrap (a1 - 1)), 0)).bind fun o => o.on (fun s1 => some (-1)) (fun r => some r))
set_option maxRecDepth 100000 in
set_option maxHeartbeats 4000000 in
theorem G_ref17_before.calls (l0 : (List Call)) (a1 : Int) (A0 : Option Addr) (c0 : Nat) (w : World) {S0 : Nat → Prop} (hr0 : Arr kd_Call S0 w A0 l0) (hc0 : l0.length ≤ c0) (r : Int) (h : G_ref17_before l0 a1 = some r) :
    Calls Try.prog 36 #[.slice A0 l0.length c0, .int .i64 a1] w fun e w' => e = .returned (.int .i64 r) ∧ Below w.heap.size w w' := by
  replace hr0 := hr0.low
  unfold G_ref17_before at h
  have H0 := h
  clear h
  refine enter Try.func36 rfl [.slice A0 l0.length c0, .int .i64 a1] (n := 24) rfl (Nat.le_of_ble_eq_true rfl) (fun a hI => ?_)
  have hF : FOpen Fence.wide := .inl rfl
  refine seq_region (live := [4, 0, 1]) (orc := []) hF hI ⟨[⟨4, [], .v (.int .i64 0)⟩, ⟨0, [], .v (.slice A0 l0.length c0)⟩, ⟨1, [], .v (.int .i64 a1)⟩], [], [], []⟩ [] (by kernel_rfl) trivial (fun ns a w1 hI _ => ?_)
  refine wpIn_seq ?_
  refine seq_region (live := [5, 4, 0, 1]) (orc := []) hF hI ⟨[⟨5, [], .v (.int .i64 (IntKind.i64.wrap (a1 - 1)))⟩, ⟨4, [], .v (.int .i64 0)⟩, ⟨0, [], .v (.slice A0 l0.length c0)⟩, ⟨1, [], .v (.int .i64 a1)⟩], [], [], []⟩ [] (by kernel_rfl) trivial (fun ns a w1 hI _ => ?_)
  obtain ⟨o13, hL14, H0⟩ := bind_some H0
  refine block_loop (fun s1 a w1 => ∃ ns, St w [] 24 ⟨[⟨5, [], .v (.int .i64 s1.1)⟩, ⟨4, [], .v (.int .i64 s1.2)⟩, ⟨0, [], .v (.slice A0 l0.length c0)⟩, ⟨1, [], .v (.int .i64 a1)⟩], [], [], []⟩ ns a w1) ((IntKind.i64.wrap (a1 - 1)), 0) hL14 ⟨_, hI.pick [5, 4, 0, 1] 0 ⟨[⟨5, [], .v (.int .i64 (IntKind.i64.wrap (a1 - 1)))⟩, ⟨4, [], .v (.int .i64 0)⟩, ⟨0, [], .v (.slice A0 l0.length c0)⟩, ⟨1, [], .v (.int .i64 a1)⟩], [], [], []⟩ (by kernel_rfl)⟩ ?_ ?_
  · clear hI
    rintro s1 a w1 ⟨ns, hI⟩ r1 H1
    unfold G_ref17_before.b1 at H1
    refine wpIn_seq ?_
    refine seq_region (live := [9, 5, 4, 0, 1]) (orc := []) hF hI ⟨[⟨9, [], .v (.bool (decide (s1.1 ≥ 0)))⟩, ⟨5, [], .v (.int .i64 s1.1)⟩, ⟨4, [], .v (.int .i64 s1.2)⟩, ⟨0, [], .v (.slice A0 l0.length c0)⟩, ⟨1, [], .v (.int .i64 a1)⟩], [], [], []⟩ [] (by kernel_rfl) trivial (fun ns a w1 hI _ => ?_)
    refine cond_ hI (decide (s1.1 ≥ 0)) rfl (fun hc1 => ?_) (fun hc1 => ?_)
    · replace H1 := bif_t hc1 H1
      refine wpIn_skip ?_
      refine then_normal ?_
      refine wpIn_seq ?_
      refine wpIn_block ?_
      refine wpIn_seq ?_
      obtain ⟨hN2, H1⟩ := req_some H1
      obtain ⟨sv3, hC4, hA5, hE6⟩ := Arr.get (d := kd_Call) hr0 s1.1 true (fun _ => hN2)
      obtain ⟨hN7, H1⟩ := req_some H1
      obtain ⟨sv8, hC9, hA10, hE11⟩ := Arr.get (d := kd_Call) hr0 a1 true (fun _ => hN7)
      refine drawn_ (live := [22, 9, 5, 4, 0, 1]) (orc := [[.int .i64 ((rd l0 s1.1).Part)], [.int .i64 ((rd l0 a1).Part)]]) hF hI ⟨[⟨22, [], .v (.bool (((rd l0 s1.1).Part) == ((rd l0 a1).Part)))⟩, ⟨9, [], .v (.bool (decide (s1.1 ≥ 0)))⟩, ⟨5, [], .v (.int .i64 s1.1)⟩, ⟨4, [], .v (.int .i64 s1.2)⟩, ⟨0, [], .v (.slice A0 l0.length c0)⟩, ⟨1, [], .v (.int .i64 a1)⟩], [], [], []⟩ [.need true (0 ≤ s1.1 ∧ s1.1 < (l0.length : Int)), .need true (A0 = some (adr A0)), .cell true ((adr A0).add ((s1.1 : Int).toNat * 20)) [.int .i64 ((rd l0 s1.1).Part)], .need true (0 ≤ a1 ∧ a1 < (l0.length : Int)), .need true (A0 = some (adr A0)), .cell true ((adr A0).add ((a1 : Int).toNat * 20)) [.int .i64 ((rd l0 a1).Part)]] (by kernel_rfl) (by kernel_rfl) (by kernel_rfl) ⟨ob_inb (fun _ => hN2), hA5, ob_cell (fun hg => hE6 rfl) 0 [.int .i64 ((rd l0 s1.1).Part)] rfl, ob_inb (fun _ => hN7), hA10, ob_cell (fun hg => hE11 rfl) 0 [.int .i64 ((rd l0 a1).Part)] rfl, trivial⟩ (fun a w1 hI => ?_)
      refine then_normal ?_
      refine cond_ hI ((((rd l0 s1.1).Part) == ((rd l0 a1).Part))) rfl (fun hc12 => ?_) (fun hc12 => ?_)
      · replace H1 := bif_t hc12 H1
        refine seq_region (live := [4, 22, 9, 5, 0, 1]) (orc := []) hF hI ⟨[⟨4, [], .v (.int .i64 s1.1)⟩, ⟨22, [], .v (.bool (((rd l0 s1.1).Part) == ((rd l0 a1).Part)))⟩, ⟨9, [], .v (.bool (decide (s1.1 ≥ 0)))⟩, ⟨5, [], .v (.int .i64 s1.1)⟩, ⟨0, [], .v (.slice A0 l0.length c0)⟩, ⟨1, [], .v (.int .i64 a1)⟩], [], [], []⟩ [] (by kernel_rfl) trivial (fun ns a w1 hI _ => ?_)
        refine wpIn_ret ?_
        refine inBlock_ret ?_
        refine then_ret ?_
        refine then_ret ?_
        obtain rfl := Option.some.inj H1
        refine .inr ⟨_, rfl, fun ho => ?_⟩
        subst ho
        refine inBlock_ret ?_
        refine then_ret ?_
        obtain rfl := Option.some.inj H0
        exact ret1 hI rfl rfl ⟨rfl, hI.loc.base.below⟩
      · replace H1 := bif_f hc12 H1
        refine wpIn_skip ?_
        refine inBlock_normal ?_
        refine then_normal ?_
        refine region_ (live := [5, 22, 9, 4, 0, 1]) (orc := []) hF hI ⟨[⟨5, [], .v (.int .i64 (IntKind.i64.wrap (s1.1 - 1)))⟩, ⟨22, [], .v (.bool (((rd l0 s1.1).Part) == ((rd l0 a1).Part)))⟩, ⟨9, [], .v (.bool (decide (s1.1 ≥ 0)))⟩, ⟨4, [], .v (.int .i64 s1.2)⟩, ⟨0, [], .v (.slice A0 l0.length c0)⟩, ⟨1, [], .v (.int .i64 a1)⟩], [], [], []⟩ [] (by kernel_rfl) trivial (fun ns a w1 hI _ => ?_)
        refine then_normal ?_
        obtain rfl := Option.some.inj H1
        exact ⟨_, rfl, _, hI.pick [5, 4, 0, 1] 0 ⟨[⟨5, [], .v (.int .i64 (IntKind.i64.wrap (s1.1 - 1)))⟩, ⟨4, [], .v (.int .i64 s1.2)⟩, ⟨0, [], .v (.slice A0 l0.length c0)⟩, ⟨1, [], .v (.int .i64 a1)⟩], [], [], []⟩ (by kernel_rfl)⟩
    · replace H1 := bif_f hc1 H1
      refine wpIn_exit ?_
      refine then_exit ?_
      refine then_exit ?_
      obtain rfl := Option.some.inj H1
      exact .inl ⟨_, rfl, rfl, _, hI.pick [5, 4, 0, 1] 0 ⟨[⟨5, [], .v (.int .i64 s1.1)⟩, ⟨4, [], .v (.int .i64 s1.2)⟩, ⟨0, [], .v (.slice A0 l0.length c0)⟩, ⟨1, [], .v (.int .i64 a1)⟩], [], [], []⟩ (by kernel_rfl)⟩
  · clear hI
    rintro s1 a w1 ho ⟨ns, hI⟩
    subst ho
    replace H0 : some (-1) = _ := H0
    refine then_normal ?_
    refine seq_region (live := [4, 5, 0, 1]) (orc := []) hF hI ⟨[⟨4, [], .v (.int .i64 (-1))⟩, ⟨5, [], .v (.int .i64 s1.1)⟩, ⟨0, [], .v (.slice A0 l0.length c0)⟩, ⟨1, [], .v (.int .i64 a1)⟩], [], [], []⟩ [] (by kernel_rfl) trivial (fun ns a w1 hI _ => ?_)
    refine wpIn_ret ?_
    obtain rfl := Option.some.inj H0
    exact ret1 hI rfl rfl ⟨rfl, hI.loc.base.below⟩

/-! ### porthole/portholeref17.Ahead: function 21 -/
noncomputable def G_ref17_Ahead (x0 : Call) (x1 : Call) : Option (Bool) := some (x0.Done && decide (x0.To < x1.From))
set_option maxRecDepth 100000 in
set_option maxHeartbeats 4000000 in
theorem G_ref17_Ahead.calls (x0 : Call) (x1 : Call) (sv0 : SV) (sv1 : SV) (w : World) {S0 : Nat → Prop} {S1 : Nat → Prop} (hx0 : (kd_Call).cont S0 w x0 sv0) (hx1 : (kd_Call).cont S1 w x1 sv1) (r : Bool) (h : G_ref17_Ahead x0 x1 = some r) :
    Calls Try.prog 21 #[.agg ((kd_Call).cells x0 sv0).toArray, .agg ((kd_Call).cells x1 sv1).toArray] w fun e w' => e = .returned (.bool r) ∧ Below w.heap.size w w' := by
  replace hx0 := Kd.low _ hx0
  replace hx1 := Kd.low _ hx1
  unfold G_ref17_Ahead at h
  have H0 := h
  clear h
  refine enter Try.func21 rfl [.agg ((kd_Call).cells x0 sv0).toArray, .agg ((kd_Call).cells x1 sv1).toArray] (n := 14) rfl (Nat.le_of_ble_eq_true rfl) (fun a hI => ?_)
  have hF : FOpen Fence.wide := .inl rfl
  refine seq_region (live := [4, 3, 2, 0, 1]) (orc := []) hF hI ⟨[⟨4, [], .v (.bool false)⟩, ⟨3, [], .p 1 0⟩, ⟨2, [], .p 0 0⟩, ⟨0, [], .v (.agg ((kd_Call).cells x0 sv0).toArray)⟩, ⟨1, [], .v (.agg ((kd_Call).cells x1 sv1).toArray)⟩], [], [], [((((kd_Call).cells x0 sv0).map EV.v), 42), ((((kd_Call).cells x1 sv1).map EV.v), 42)]⟩ [] (by kernel_rfl) trivial (fun ns a w1 hI _ => ?_)
  refine seq_region (live := [4, 3, 2, 0, 1]) (orc := []) hF hI ⟨[⟨4, [], .v (.bool (x0.Done && decide (x0.To < x1.From)))⟩, ⟨3, [], .p 1 0⟩, ⟨2, [], .p 0 0⟩, ⟨0, [], .v (.agg ((kd_Call).cells x0 sv0).toArray)⟩, ⟨1, [], .v (.agg ((kd_Call).cells x1 sv1).toArray)⟩], [], [], [((((kd_Call).cells x0 sv0).map EV.v), 42), ((((kd_Call).cells x1 sv1).map EV.v), 42)]⟩ [] (by kernel_rfl) trivial (fun ns a w1 hI _ => ?_)
  refine wpIn_ret ?_
  obtain rfl := Option.some.inj H0
  exact ret1 hI rfl rfl ⟨rfl, hI.loc.base.below⟩

/-! ### porthole/portholeref17.Sound: function 14 -/
noncomputable def G_ref17_Sound.b1 (l0 : (List Call)) (s1 : Int × Bool) : Option (Stp (Int × Bool) (Ex (Int × Bool) (Bool))) := (bif decide (s1.1 < (l0.length : Int)) then (req (inb s1.1 l0.length) ((G_ref17_one (rd l0 s1.1)).bind fun t7 => (req (imp (!(!t7) && (decide (s1.1 > 0))) (inb (IntKind.i64.wrap (s1.1 - 1)) l0.length)) (bif ((!t7) || (decide (s1.1 > 0) && decide (((rd l0 (IntKind.i64.wrap (s1.1 - 1))).From) ≥ ((rd l0 s1.1).From)))) then some (.out (.ret false)) else ((G_ref17_before l0 s1.1).bind fun t15 => (bif (decide (t15 < 0) && (((rd l0 s1.1).Own0) != 1)) then some (.out (.ret false)) else (req (imp (decide (t15 ≥ 0)) (inb t15 l0.length)) ((cal (decide (t15 ≥ 0)) (G_ref17_Ahead (rd l0 t15) (rd l0 s1.1)) default).bind fun t23 => (req (imp (decide (t15 ≥ 0) && (!(!t23))) (inb t15 l0.length)) (req (imp (decide (t15 ≥ 0) && (!((!t23) || decide (((rd l0 t15).T1) > ((rd l0 s1.1).T0))))) (inb t15 l0.length)) (bif (decide (t15 ≥ 0) && (((!t23) || decide (((rd l0 t15).T1) > ((rd l0 s1.1).T0))) || ((IntKind.i64.wrap (((rd l0 s1.1).Own0) - ((rd l0 t15).Own1))) != 1))) then some (.out (.ret false)) else (bif (((rd l0 s1.1).Saw) != (-1)) then (bif (decide (((rd l0 s1.1).Saw) < 0) || decide (((rd l0 s1.1).Saw) ≥ (l0.length : Int))) then some (.out (.ret false)) else (req (inb ((rd l0 s1.1).Saw) l0.length) (bif (((((rd l0 ((rd l0 s1.1).Saw)).Req.Op) != 3) || decide (((rd l0 ((rd l0 s1.1).Saw)).Mark) < 0)) || ((rd l0 s1.1).Done && decide (((rd l0 ((rd l0 s1.1).Saw)).Mark) > ((rd l0 s1.1).To)))) then some (.out (.ret false)) else some (.next ((IntKind.i64.wrap (s1.1 + 1)), s1.2))))) else some (.next ((IntKind.i64.wrap (s1.1 + 1)), s1.2)))))))))))))) else some (.out (.brk (s1.1, s1.2))))
noncomputable def G_ref17_Sound (l0 : (List Call)) : Option (Bool) := ((loopω (G_ref17_Sound.b1 l0) (0, false)).bind fun o => o.on (fun s1 => some true) (fun r => some r))
set_option maxRecDepth 100000 in
set_option maxHeartbeats 4000000 in
theorem G_ref17_Sound.calls (l0 : (List Call)) (A0 : Option Addr) (c0 : Nat) (w : World) {S0 : Nat → Prop} (hr0 : Arr kd_Call S0 w A0 l0) (hc0 : l0.length ≤ c0) (r : Bool) (h : G_ref17_Sound l0 = some r) :
    Calls Try.prog 14 #[.slice A0 l0.length c0] w fun e w' => e = .returned (.bool r) ∧ Below w.heap.size w w' := by
  replace hr0 := hr0.low
  unfold G_ref17_Sound at h
  have H0 := h
  clear h
  refine enter Try.func14 rfl [.slice A0 l0.length c0] (n := 115) rfl (Nat.le_of_ble_eq_true rfl) (fun a hI => ?_)
  have hF : FOpen Fence.wide := .inl rfl
  refine seq_region (live := [2, 0]) (orc := []) hF hI ⟨[⟨2, [], .v (.bool false)⟩, ⟨0, [], .v (.slice A0 l0.length c0)⟩], [], [], []⟩ [] (by kernel_rfl) trivial (fun ns a w1 hI _ => ?_)
  refine wpIn_seq ?_
  refine seq_region (live := [3, 2, 0]) (orc := []) hF hI ⟨[⟨3, [], .v (.int .i64 0)⟩, ⟨2, [], .v (.bool false)⟩, ⟨0, [], .v (.slice A0 l0.length c0)⟩], [], [], []⟩ [] (by kernel_rfl) trivial (fun ns a w1 hI _ => ?_)
  obtain ⟨o44, hL45, H0⟩ := bind_some H0
  refine block_loop (fun s1 a w1 => ∃ ns, St w [] 115 ⟨[⟨3, [], .v (.int .i64 s1.1)⟩, ⟨2, [], .v (.bool s1.2)⟩, ⟨0, [], .v (.slice A0 l0.length c0)⟩], [], [], []⟩ ns a w1) (0, false) hL45 ⟨_, hI.pick [3, 2, 0] 0 ⟨[⟨3, [], .v (.int .i64 0)⟩, ⟨2, [], .v (.bool false)⟩, ⟨0, [], .v (.slice A0 l0.length c0)⟩], [], [], []⟩ (by kernel_rfl)⟩ ?_ ?_
  · clear hI
    rintro s1 a w1 ⟨ns, hI⟩ r1 H1
    unfold G_ref17_Sound.b1 at H1
    refine wpIn_seq ?_
    refine seq_region (live := [10, 3, 2, 0]) (orc := []) hF hI ⟨[⟨10, [], .v (.bool (decide (s1.1 < (l0.length : Int))))⟩, ⟨3, [], .v (.int .i64 s1.1)⟩, ⟨2, [], .v (.bool s1.2)⟩, ⟨0, [], .v (.slice A0 l0.length c0)⟩], [], [], []⟩ [] (by kernel_rfl) trivial (fun ns a w1 hI _ => ?_)
    refine cond_ hI (decide (s1.1 < (l0.length : Int))) rfl (fun hc1 => ?_) (fun hc1 => ?_)
    · replace H1 := bif_t hc1 H1
      refine wpIn_skip ?_
      refine then_normal ?_
      refine wpIn_seq ?_
      refine wpIn_block ?_
      obtain ⟨hN2, H1⟩ := req_some H1
      obtain ⟨sv3, hC4, hA5, hE6⟩ := Arr.get (d := kd_Call) hr0 s1.1 true (fun _ => hN2)
      refine seq_region (live := [4, 10, 3, 2, 0]) (orc := [(kd_Call).cells (rd l0 s1.1) sv3]) hF hI ⟨[⟨4, [], .p 0 0⟩, ⟨10, [], .v (.bool (decide (s1.1 < (l0.length : Int))))⟩, ⟨3, [], .v (.int .i64 s1.1)⟩, ⟨2, [], .v (.bool s1.2)⟩, ⟨0, [], .v (.slice A0 l0.length c0)⟩], [], [], [((((kd_Call).cells (rd l0 s1.1) sv3).map EV.v), 42)]⟩ [.need true (0 ≤ s1.1 ∧ s1.1 < (l0.length : Int)), .need true (A0 = some (adr A0)), .cell true ((adr A0).add ((s1.1 : Int).toNat * 20)) ((kd_Call).cells (rd l0 s1.1) sv3)] (by kernel_rfl) ⟨ob_inb (fun _ => hN2), hA5, ob_cell (fun hg => hE6 rfl) 0 ((kd_Call).cells (rd l0 s1.1) sv3) rfl, trivial⟩ (fun ns a w1 hI _ => ?_)
      refine wpIn_seq ?_
      refine wpIn_seq ?_
      obtain ⟨t7, hG8, H1⟩ := bind_some H1
      obtain ⟨hN9, H1⟩ := req_some H1
      obtain ⟨sv10, hC11, hA12, hE13⟩ := Arr.get (d := kd_Call) hr0 (IntKind.i64.wrap (s1.1 - 1)) (!(!t7) && (decide (s1.1 > 0))) (fun hg => imp_spec hN9 hg)
      refine drawn_ (live := [34, 4, 10, 3, 2, 0]) (orc := [[.bool t7], [.int .i64 ((rd l0 (IntKind.i64.wrap (s1.1 - 1))).From)]]) hF hI ⟨[⟨34, [], .v (.bool ((!t7) || (decide (s1.1 > 0) && decide (((rd l0 (IntKind.i64.wrap (s1.1 - 1))).From) ≥ ((rd l0 s1.1).From)))))⟩, ⟨4, [], .p 0 0⟩, ⟨10, [], .v (.bool (decide (s1.1 < (l0.length : Int))))⟩, ⟨3, [], .v (.int .i64 s1.1)⟩, ⟨2, [], .v (.bool s1.2)⟩, ⟨0, [], .v (.slice A0 l0.length c0)⟩], [], [], [((((kd_Call).cells (rd l0 s1.1) sv3).map EV.v), 42)]⟩ [.call true 35 [.agg ((kd_Call).cells (rd l0 s1.1) (svL [((sv3 0).1, (sv3 0).2), ((sv3 1).1, (sv3 1).2)])).toArray] (.bool t7), .need (!(!t7) && (decide (s1.1 > 0))) (0 ≤ (IntKind.i64.wrap (s1.1 - 1)) ∧ (IntKind.i64.wrap (s1.1 - 1)) < (l0.length : Int)), .need (!(!t7) && (decide (s1.1 > 0))) (A0 = some (adr A0)), .cell (!(!t7) && (decide (s1.1 > 0))) (((adr A0).add (((IntKind.i64.wrap (s1.1 - 1)) : Int).toNat * 20)).add 10) [.int .i64 ((rd l0 (IntKind.i64.wrap (s1.1 - 1))).From)]] (by kernel_rfl) (by kernel_rfl) (by kernel_rfl) ⟨ob_call (enters Try.func35 (by kernel_rfl) rfl) (fun hg w1 hk => G_ref17_one.calls (rd l0 s1.1) (svL [((sv3 0).1, (sv3 0).2), ((sv3 1).1, (sv3 1).2)]) w1 (Kd.on kd_Call (show (kd_Call).cont (Low w) w (rd l0 s1.1) (svL [((sv3 0).1, (sv3 0).2), ((sv3 1).1, (sv3 1).2)]) from ⟨⟨(hC4 rfl).1.1, (hC4 rfl).1.2⟩, ⟨(hC4 rfl).2.1.1, (hC4 rfl).2.1.2⟩, trivial⟩) hk) _ hG8), ob_inb (fun hg => imp_spec hN9 hg), hA12, ob_cell (fun hg => hE13 hg) 10 [.int .i64 ((rd l0 (IntKind.i64.wrap (s1.1 - 1))).From)] rfl, trivial⟩ (fun a w1 hI => ?_)
      refine then_normal ?_
      refine cond_ hI (((!t7) || (decide (s1.1 > 0) && decide (((rd l0 (IntKind.i64.wrap (s1.1 - 1))).From) ≥ ((rd l0 s1.1).From))))) rfl (fun hc14 => ?_) (fun hc14 => ?_)
      · replace H1 := bif_t hc14 H1
        refine seq_region (live := [2, 34, 4, 10, 3, 0]) (orc := []) hF hI ⟨[⟨2, [], .v (.bool false)⟩, ⟨34, [], .v (.bool ((!t7) || (decide (s1.1 > 0) && decide (((rd l0 (IntKind.i64.wrap (s1.1 - 1))).From) ≥ ((rd l0 s1.1).From)))))⟩, ⟨4, [], .p 0 0⟩, ⟨10, [], .v (.bool (decide (s1.1 < (l0.length : Int))))⟩, ⟨3, [], .v (.int .i64 s1.1)⟩, ⟨0, [], .v (.slice A0 l0.length c0)⟩], [], [], [((((kd_Call).cells (rd l0 s1.1) sv3).map EV.v), 42)]⟩ [] (by kernel_rfl) trivial (fun ns a w1 hI _ => ?_)
        refine wpIn_ret ?_
        refine then_ret ?_
        refine inBlock_ret ?_
        refine then_ret ?_
        refine then_ret ?_
        obtain rfl := Option.some.inj H1
        refine .inr ⟨_, rfl, fun ho => ?_⟩
        subst ho
        refine inBlock_ret ?_
        refine then_ret ?_
        obtain rfl := Option.some.inj H0
        exact ret1 hI rfl rfl ⟨rfl, hI.loc.base.below⟩
      · replace H1 := bif_f hc14 H1
        refine wpIn_skip ?_
        refine then_normal ?_
        obtain ⟨t15, hG16, H1⟩ := bind_some H1
        refine seq_region (live := [5, 34, 4, 10, 3, 2, 0]) (orc := [[.int .i64 t15]]) hF hI ⟨[⟨5, [], .v (.int .i64 t15)⟩, ⟨34, [], .v (.bool ((!t7) || (decide (s1.1 > 0) && decide (((rd l0 (IntKind.i64.wrap (s1.1 - 1))).From) ≥ ((rd l0 s1.1).From)))))⟩, ⟨4, [], .p 0 0⟩, ⟨10, [], .v (.bool (decide (s1.1 < (l0.length : Int))))⟩, ⟨3, [], .v (.int .i64 s1.1)⟩, ⟨2, [], .v (.bool s1.2)⟩, ⟨0, [], .v (.slice A0 l0.length c0)⟩], [], [], [((((kd_Call).cells (rd l0 s1.1) sv3).map EV.v), 42)]⟩ [.call true 36 [.slice A0 l0.length c0, .int .i64 s1.1] (.int .i64 t15)] (by kernel_rfl) ⟨ob_call (enters Try.func36 (by kernel_rfl) rfl) (fun hg w1 hk => G_ref17_before.calls l0 s1.1 A0 c0 w1 (Arr.on hr0 hk) hc0 _ hG16), trivial⟩ (fun ns a w1 hI _ => ?_)
        refine wpIn_seq ?_
        refine seq_region (live := [44, 5, 34, 4, 10, 3, 2, 0]) (orc := []) hF hI ⟨[⟨44, [], .v (.bool (decide (t15 < 0) && (((rd l0 s1.1).Own0) != 1)))⟩, ⟨5, [], .v (.int .i64 t15)⟩, ⟨34, [], .v (.bool ((!t7) || (decide (s1.1 > 0) && decide (((rd l0 (IntKind.i64.wrap (s1.1 - 1))).From) ≥ ((rd l0 s1.1).From)))))⟩, ⟨4, [], .p 0 0⟩, ⟨10, [], .v (.bool (decide (s1.1 < (l0.length : Int))))⟩, ⟨3, [], .v (.int .i64 s1.1)⟩, ⟨2, [], .v (.bool s1.2)⟩, ⟨0, [], .v (.slice A0 l0.length c0)⟩], [], [], [((((kd_Call).cells (rd l0 s1.1) sv3).map EV.v), 42)]⟩ [] (by kernel_rfl) trivial (fun ns a w1 hI _ => ?_)
        refine cond_ hI ((decide (t15 < 0) && (((rd l0 s1.1).Own0) != 1))) rfl (fun hc17 => ?_) (fun hc17 => ?_)
        · replace H1 := bif_t hc17 H1
          refine seq_region (live := [2, 44, 5, 34, 4, 10, 3, 0]) (orc := []) hF hI ⟨[⟨2, [], .v (.bool false)⟩, ⟨44, [], .v (.bool (decide (t15 < 0) && (((rd l0 s1.1).Own0) != 1)))⟩, ⟨5, [], .v (.int .i64 t15)⟩, ⟨34, [], .v (.bool ((!t7) || (decide (s1.1 > 0) && decide (((rd l0 (IntKind.i64.wrap (s1.1 - 1))).From) ≥ ((rd l0 s1.1).From)))))⟩, ⟨4, [], .p 0 0⟩, ⟨10, [], .v (.bool (decide (s1.1 < (l0.length : Int))))⟩, ⟨3, [], .v (.int .i64 s1.1)⟩, ⟨0, [], .v (.slice A0 l0.length c0)⟩], [], [], [((((kd_Call).cells (rd l0 s1.1) sv3).map EV.v), 42)]⟩ [] (by kernel_rfl) trivial (fun ns a w1 hI _ => ?_)
          refine wpIn_ret ?_
          refine then_ret ?_
          refine inBlock_ret ?_
          refine then_ret ?_
          refine then_ret ?_
          obtain rfl := Option.some.inj H1
          refine .inr ⟨_, rfl, fun ho => ?_⟩
          subst ho
          refine inBlock_ret ?_
          refine then_ret ?_
          obtain rfl := Option.some.inj H0
          exact ret1 hI rfl rfl ⟨rfl, hI.loc.base.below⟩
        · replace H1 := bif_f hc17 H1
          refine wpIn_skip ?_
          refine then_normal ?_
          refine wpIn_seq ?_
          refine wpIn_seq ?_
          obtain ⟨hN18, H1⟩ := req_some H1
          obtain ⟨sv19, hC20, hA21, hE22⟩ := Arr.get (d := kd_Call) hr0 t15 (decide (t15 ≥ 0)) (fun hg => imp_spec hN18 hg)
          obtain ⟨t23, hG24, H1⟩ := bind_some H1
          obtain ⟨hN25, H1⟩ := req_some H1
          obtain ⟨sv26, hC27, hA28, hE29⟩ := Arr.get (d := kd_Call) hr0 t15 (decide (t15 ≥ 0) && (!(!t23))) (fun hg => imp_spec hN25 hg)
          obtain ⟨hN30, H1⟩ := req_some H1
          obtain ⟨sv31, hC32, hA33, hE34⟩ := Arr.get (d := kd_Call) hr0 t15 (decide (t15 ≥ 0) && (!((!t23) || decide (((rd l0 t15).T1) > ((rd l0 s1.1).T0))))) (fun hg => imp_spec hN30 hg)
          refine drawn_ (live := [76, 44, 5, 34, 4, 10, 3, 2, 0]) (orc := [(kd_Call).cells (rd l0 t15) sv19, [.bool t23], [.int .i64 ((rd l0 t15).T1)], [.int .i64 ((rd l0 t15).Own1)]]) hF hI ⟨[⟨76, [], .v (.bool (decide (t15 ≥ 0) && (((!t23) || decide (((rd l0 t15).T1) > ((rd l0 s1.1).T0))) || ((IntKind.i64.wrap (((rd l0 s1.1).Own0) - ((rd l0 t15).Own1))) != 1))))⟩, ⟨44, [], .v (.bool (decide (t15 < 0) && (((rd l0 s1.1).Own0) != 1)))⟩, ⟨5, [], .v (.int .i64 t15)⟩, ⟨34, [], .v (.bool ((!t7) || (decide (s1.1 > 0) && decide (((rd l0 (IntKind.i64.wrap (s1.1 - 1))).From) ≥ ((rd l0 s1.1).From)))))⟩, ⟨4, [], .p 0 0⟩, ⟨10, [], .v (.bool (decide (s1.1 < (l0.length : Int))))⟩, ⟨3, [], .v (.int .i64 s1.1)⟩, ⟨2, [], .v (.bool s1.2)⟩, ⟨0, [], .v (.slice A0 l0.length c0)⟩], [], [], [((((kd_Call).cells (rd l0 s1.1) sv3).map EV.v), 42)]⟩ [.need (decide (t15 ≥ 0)) (0 ≤ t15 ∧ t15 < (l0.length : Int)), .need (decide (t15 ≥ 0)) (A0 = some (adr A0)), .cell (decide (t15 ≥ 0)) ((adr A0).add ((t15 : Int).toNat * 20)) ((kd_Call).cells (rd l0 t15) sv19), .call (decide (t15 ≥ 0)) 21 [.agg ((kd_Call).cells (rd l0 t15) (svL [((sv19 0).1, (sv19 0).2), ((sv19 1).1, (sv19 1).2)])).toArray, .agg ((kd_Call).cells (rd l0 s1.1) (svL [((sv3 0).1, (sv3 0).2), ((sv3 1).1, (sv3 1).2)])).toArray] (.bool t23), .need (decide (t15 ≥ 0) && (!(!t23))) (0 ≤ t15 ∧ t15 < (l0.length : Int)), .need (decide (t15 ≥ 0) && (!(!t23))) (A0 = some (adr A0)), .cell (decide (t15 ≥ 0) && (!(!t23))) (((adr A0).add ((t15 : Int).toNat * 20)).add 13) [.int .i64 ((rd l0 t15).T1)], .need (decide (t15 ≥ 0) && (!((!t23) || decide (((rd l0 t15).T1) > ((rd l0 s1.1).T0))))) (0 ≤ t15 ∧ t15 < (l0.length : Int)), .need (decide (t15 ≥ 0) && (!((!t23) || decide (((rd l0 t15).T1) > ((rd l0 s1.1).T0))))) (A0 = some (adr A0)), .cell (decide (t15 ≥ 0) && (!((!t23) || decide (((rd l0 t15).T1) > ((rd l0 s1.1).T0))))) (((adr A0).add ((t15 : Int).toNat * 20)).add 15) [.int .i64 ((rd l0 t15).Own1)]] (by kernel_rfl) (by kernel_rfl) (by kernel_rfl) ⟨ob_inb (fun hg => imp_spec hN18 hg), hA21, ob_cell (fun hg => hE22 hg) 0 ((kd_Call).cells (rd l0 t15) sv19) rfl, ob_call (enters Try.func21 (by kernel_rfl) rfl) (fun hg w1 hk => G_ref17_Ahead.calls (rd l0 t15) (rd l0 s1.1) (svL [((sv19 0).1, (sv19 0).2), ((sv19 1).1, (sv19 1).2)]) (svL [((sv3 0).1, (sv3 0).2), ((sv3 1).1, (sv3 1).2)]) w1 (Kd.on kd_Call (show (kd_Call).cont (Low w) w (rd l0 t15) (svL [((sv19 0).1, (sv19 0).2), ((sv19 1).1, (sv19 1).2)]) from ⟨⟨(hC20 hg).1.1, (hC20 hg).1.2⟩, ⟨(hC20 hg).2.1.1, (hC20 hg).2.1.2⟩, trivial⟩) hk) (Kd.on kd_Call (show (kd_Call).cont (Low w) w (rd l0 s1.1) (svL [((sv3 0).1, (sv3 0).2), ((sv3 1).1, (sv3 1).2)]) from ⟨⟨(hC4 rfl).1.1, (hC4 rfl).1.2⟩, ⟨(hC4 rfl).2.1.1, (hC4 rfl).2.1.2⟩, trivial⟩) hk) _ (cal_some hG24 hg)), ob_inb (fun hg => imp_spec hN25 hg), hA28, ob_cell (fun hg => hE29 hg) 13 [.int .i64 ((rd l0 t15).T1)] rfl, ob_inb (fun hg => imp_spec hN30 hg), hA33, ob_cell (fun hg => hE34 hg) 15 [.int .i64 ((rd l0 t15).Own1)] rfl, trivial⟩ (fun a w1 hI => ?_)
          refine then_normal ?_
          refine cond_ hI ((decide (t15 ≥ 0) && (((!t23) || decide (((rd l0 t15).T1) > ((rd l0 s1.1).T0))) || ((IntKind.i64.wrap (((rd l0 s1.1).Own0) - ((rd l0 t15).Own1))) != 1)))) rfl (fun hc35 => ?_) (fun hc35 => ?_)
          · replace H1 := bif_t hc35 H1
            refine seq_region (live := [2, 76, 44, 5, 34, 4, 10, 3, 0]) (orc := []) hF hI ⟨[⟨2, [], .v (.bool false)⟩, ⟨76, [], .v (.bool (decide (t15 ≥ 0) && (((!t23) || decide (((rd l0 t15).T1) > ((rd l0 s1.1).T0))) || ((IntKind.i64.wrap (((rd l0 s1.1).Own0) - ((rd l0 t15).Own1))) != 1))))⟩, ⟨44, [], .v (.bool (decide (t15 < 0) && (((rd l0 s1.1).Own0) != 1)))⟩, ⟨5, [], .v (.int .i64 t15)⟩, ⟨34, [], .v (.bool ((!t7) || (decide (s1.1 > 0) && decide (((rd l0 (IntKind.i64.wrap (s1.1 - 1))).From) ≥ ((rd l0 s1.1).From)))))⟩, ⟨4, [], .p 0 0⟩, ⟨10, [], .v (.bool (decide (s1.1 < (l0.length : Int))))⟩, ⟨3, [], .v (.int .i64 s1.1)⟩, ⟨0, [], .v (.slice A0 l0.length c0)⟩], [], [], [((((kd_Call).cells (rd l0 s1.1) sv3).map EV.v), 42)]⟩ [] (by kernel_rfl) trivial (fun ns a w1 hI _ => ?_)
            refine wpIn_ret ?_
            refine then_ret ?_
            refine inBlock_ret ?_
            refine then_ret ?_
            refine then_ret ?_
            obtain rfl := Option.some.inj H1
            refine .inr ⟨_, rfl, fun ho => ?_⟩
            subst ho
            refine inBlock_ret ?_
            refine then_ret ?_
            obtain rfl := Option.some.inj H0
            exact ret1 hI rfl rfl ⟨rfl, hI.loc.base.below⟩
          · replace H1 := bif_f hc35 H1
            refine wpIn_skip ?_
            refine then_normal ?_
            refine seq_region (live := [79, 76, 44, 5, 34, 4, 10, 3, 2, 0]) (orc := []) hF hI ⟨[⟨79, [], .v (.bool (((rd l0 s1.1).Saw) != (-1)))⟩, ⟨76, [], .v (.bool (decide (t15 ≥ 0) && (((!t23) || decide (((rd l0 t15).T1) > ((rd l0 s1.1).T0))) || ((IntKind.i64.wrap (((rd l0 s1.1).Own0) - ((rd l0 t15).Own1))) != 1))))⟩, ⟨44, [], .v (.bool (decide (t15 < 0) && (((rd l0 s1.1).Own0) != 1)))⟩, ⟨5, [], .v (.int .i64 t15)⟩, ⟨34, [], .v (.bool ((!t7) || (decide (s1.1 > 0) && decide (((rd l0 (IntKind.i64.wrap (s1.1 - 1))).From) ≥ ((rd l0 s1.1).From)))))⟩, ⟨4, [], .p 0 0⟩, ⟨10, [], .v (.bool (decide (s1.1 < (l0.length : Int))))⟩, ⟨3, [], .v (.int .i64 s1.1)⟩, ⟨2, [], .v (.bool s1.2)⟩, ⟨0, [], .v (.slice A0 l0.length c0)⟩], [], [], [((((kd_Call).cells (rd l0 s1.1) sv3).map EV.v), 42)]⟩ [] (by kernel_rfl) trivial (fun ns a w1 hI _ => ?_)
            refine cond_ hI ((((rd l0 s1.1).Saw) != (-1))) rfl (fun hc36 => ?_) (fun hc36 => ?_)
            · replace H1 := bif_t hc36 H1
              refine wpIn_seq ?_
              refine seq_region (live := [89, 79, 76, 44, 5, 34, 4, 10, 3, 2, 0]) (orc := []) hF hI ⟨[⟨89, [], .v (.bool (decide (((rd l0 s1.1).Saw) < 0) || decide (((rd l0 s1.1).Saw) ≥ (l0.length : Int))))⟩, ⟨79, [], .v (.bool (((rd l0 s1.1).Saw) != (-1)))⟩, ⟨76, [], .v (.bool (decide (t15 ≥ 0) && (((!t23) || decide (((rd l0 t15).T1) > ((rd l0 s1.1).T0))) || ((IntKind.i64.wrap (((rd l0 s1.1).Own0) - ((rd l0 t15).Own1))) != 1))))⟩, ⟨44, [], .v (.bool (decide (t15 < 0) && (((rd l0 s1.1).Own0) != 1)))⟩, ⟨5, [], .v (.int .i64 t15)⟩, ⟨34, [], .v (.bool ((!t7) || (decide (s1.1 > 0) && decide (((rd l0 (IntKind.i64.wrap (s1.1 - 1))).From) ≥ ((rd l0 s1.1).From)))))⟩, ⟨4, [], .p 0 0⟩, ⟨10, [], .v (.bool (decide (s1.1 < (l0.length : Int))))⟩, ⟨3, [], .v (.int .i64 s1.1)⟩, ⟨2, [], .v (.bool s1.2)⟩, ⟨0, [], .v (.slice A0 l0.length c0)⟩], [], [], [((((kd_Call).cells (rd l0 s1.1) sv3).map EV.v), 42)]⟩ [] (by kernel_rfl) trivial (fun ns a w1 hI _ => ?_)
              refine cond_ hI ((decide (((rd l0 s1.1).Saw) < 0) || decide (((rd l0 s1.1).Saw) ≥ (l0.length : Int)))) rfl (fun hc37 => ?_) (fun hc37 => ?_)
              · replace H1 := bif_t hc37 H1
                refine seq_region (live := [2, 89, 79, 76, 44, 5, 34, 4, 10, 3, 0]) (orc := []) hF hI ⟨[⟨2, [], .v (.bool false)⟩, ⟨89, [], .v (.bool (decide (((rd l0 s1.1).Saw) < 0) || decide (((rd l0 s1.1).Saw) ≥ (l0.length : Int))))⟩, ⟨79, [], .v (.bool (((rd l0 s1.1).Saw) != (-1)))⟩, ⟨76, [], .v (.bool (decide (t15 ≥ 0) && (((!t23) || decide (((rd l0 t15).T1) > ((rd l0 s1.1).T0))) || ((IntKind.i64.wrap (((rd l0 s1.1).Own0) - ((rd l0 t15).Own1))) != 1))))⟩, ⟨44, [], .v (.bool (decide (t15 < 0) && (((rd l0 s1.1).Own0) != 1)))⟩, ⟨5, [], .v (.int .i64 t15)⟩, ⟨34, [], .v (.bool ((!t7) || (decide (s1.1 > 0) && decide (((rd l0 (IntKind.i64.wrap (s1.1 - 1))).From) ≥ ((rd l0 s1.1).From)))))⟩, ⟨4, [], .p 0 0⟩, ⟨10, [], .v (.bool (decide (s1.1 < (l0.length : Int))))⟩, ⟨3, [], .v (.int .i64 s1.1)⟩, ⟨0, [], .v (.slice A0 l0.length c0)⟩], [], [], [((((kd_Call).cells (rd l0 s1.1) sv3).map EV.v), 42)]⟩ [] (by kernel_rfl) trivial (fun ns a w1 hI _ => ?_)
                refine wpIn_ret ?_
                refine then_ret ?_
                refine inBlock_ret ?_
                refine then_ret ?_
                refine then_ret ?_
                obtain rfl := Option.some.inj H1
                refine .inr ⟨_, rfl, fun ho => ?_⟩
                subst ho
                refine inBlock_ret ?_
                refine then_ret ?_
                obtain rfl := Option.some.inj H0
                exact ret1 hI rfl rfl ⟨rfl, hI.loc.base.below⟩
              · replace H1 := bif_f hc37 H1
                refine wpIn_skip ?_
                refine then_normal ?_
                obtain ⟨hN38, H1⟩ := req_some H1
                obtain ⟨sv39, hC40, hA41, hE42⟩ := Arr.get (d := kd_Call) hr0 ((rd l0 s1.1).Saw) true (fun _ => hN38)
                refine seq_region (live := [6, 89, 79, 76, 44, 5, 34, 4, 10, 3, 2, 0]) (orc := [(kd_Call).cells (rd l0 ((rd l0 s1.1).Saw)) sv39]) hF hI ⟨[⟨6, [], .p 1 0⟩, ⟨89, [], .v (.bool (decide (((rd l0 s1.1).Saw) < 0) || decide (((rd l0 s1.1).Saw) ≥ (l0.length : Int))))⟩, ⟨79, [], .v (.bool (((rd l0 s1.1).Saw) != (-1)))⟩, ⟨76, [], .v (.bool (decide (t15 ≥ 0) && (((!t23) || decide (((rd l0 t15).T1) > ((rd l0 s1.1).T0))) || ((IntKind.i64.wrap (((rd l0 s1.1).Own0) - ((rd l0 t15).Own1))) != 1))))⟩, ⟨44, [], .v (.bool (decide (t15 < 0) && (((rd l0 s1.1).Own0) != 1)))⟩, ⟨5, [], .v (.int .i64 t15)⟩, ⟨34, [], .v (.bool ((!t7) || (decide (s1.1 > 0) && decide (((rd l0 (IntKind.i64.wrap (s1.1 - 1))).From) ≥ ((rd l0 s1.1).From)))))⟩, ⟨4, [], .p 0 0⟩, ⟨10, [], .v (.bool (decide (s1.1 < (l0.length : Int))))⟩, ⟨3, [], .v (.int .i64 s1.1)⟩, ⟨2, [], .v (.bool s1.2)⟩, ⟨0, [], .v (.slice A0 l0.length c0)⟩], [], [], [((((kd_Call).cells (rd l0 s1.1) sv3).map EV.v), 42), ((((kd_Call).cells (rd l0 ((rd l0 s1.1).Saw)) sv39).map EV.v), 42)]⟩ [.need true (0 ≤ ((rd l0 s1.1).Saw) ∧ ((rd l0 s1.1).Saw) < (l0.length : Int)), .need true (A0 = some (adr A0)), .cell true ((adr A0).add ((((rd l0 s1.1).Saw) : Int).toNat * 20)) ((kd_Call).cells (rd l0 ((rd l0 s1.1).Saw)) sv39)] (by kernel_rfl) ⟨ob_inb (fun _ => hN38), hA41, ob_cell (fun hg => hE42 rfl) 0 ((kd_Call).cells (rd l0 ((rd l0 s1.1).Saw)) sv39) rfl, trivial⟩ (fun ns a w1 hI _ => ?_)
                refine seq_region (live := [114, 6, 89, 79, 76, 44, 5, 34, 4, 10, 3, 2, 0]) (orc := []) hF hI ⟨[⟨114, [], .v (.bool (((((rd l0 ((rd l0 s1.1).Saw)).Req.Op) != 3) || decide (((rd l0 ((rd l0 s1.1).Saw)).Mark) < 0)) || ((rd l0 s1.1).Done && decide (((rd l0 ((rd l0 s1.1).Saw)).Mark) > ((rd l0 s1.1).To)))))⟩, ⟨6, [], .p 1 0⟩, ⟨89, [], .v (.bool (decide (((rd l0 s1.1).Saw) < 0) || decide (((rd l0 s1.1).Saw) ≥ (l0.length : Int))))⟩, ⟨79, [], .v (.bool (((rd l0 s1.1).Saw) != (-1)))⟩, ⟨76, [], .v (.bool (decide (t15 ≥ 0) && (((!t23) || decide (((rd l0 t15).T1) > ((rd l0 s1.1).T0))) || ((IntKind.i64.wrap (((rd l0 s1.1).Own0) - ((rd l0 t15).Own1))) != 1))))⟩, ⟨44, [], .v (.bool (decide (t15 < 0) && (((rd l0 s1.1).Own0) != 1)))⟩, ⟨5, [], .v (.int .i64 t15)⟩, ⟨34, [], .v (.bool ((!t7) || (decide (s1.1 > 0) && decide (((rd l0 (IntKind.i64.wrap (s1.1 - 1))).From) ≥ ((rd l0 s1.1).From)))))⟩, ⟨4, [], .p 0 0⟩, ⟨10, [], .v (.bool (decide (s1.1 < (l0.length : Int))))⟩, ⟨3, [], .v (.int .i64 s1.1)⟩, ⟨2, [], .v (.bool s1.2)⟩, ⟨0, [], .v (.slice A0 l0.length c0)⟩], [], [], [((((kd_Call).cells (rd l0 s1.1) sv3).map EV.v), 42), ((((kd_Call).cells (rd l0 ((rd l0 s1.1).Saw)) sv39).map EV.v), 42)]⟩ [] (by kernel_rfl) trivial (fun ns a w1 hI _ => ?_)
                refine cond_ hI ((((((rd l0 ((rd l0 s1.1).Saw)).Req.Op) != 3) || decide (((rd l0 ((rd l0 s1.1).Saw)).Mark) < 0)) || ((rd l0 s1.1).Done && decide (((rd l0 ((rd l0 s1.1).Saw)).Mark) > ((rd l0 s1.1).To))))) rfl (fun hc43 => ?_) (fun hc43 => ?_)
                · replace H1 := bif_t hc43 H1
                  refine seq_region (live := [2, 114, 6, 89, 79, 76, 44, 5, 34, 4, 10, 3, 0]) (orc := []) hF hI ⟨[⟨2, [], .v (.bool false)⟩, ⟨114, [], .v (.bool (((((rd l0 ((rd l0 s1.1).Saw)).Req.Op) != 3) || decide (((rd l0 ((rd l0 s1.1).Saw)).Mark) < 0)) || ((rd l0 s1.1).Done && decide (((rd l0 ((rd l0 s1.1).Saw)).Mark) > ((rd l0 s1.1).To)))))⟩, ⟨6, [], .p 1 0⟩, ⟨89, [], .v (.bool (decide (((rd l0 s1.1).Saw) < 0) || decide (((rd l0 s1.1).Saw) ≥ (l0.length : Int))))⟩, ⟨79, [], .v (.bool (((rd l0 s1.1).Saw) != (-1)))⟩, ⟨76, [], .v (.bool (decide (t15 ≥ 0) && (((!t23) || decide (((rd l0 t15).T1) > ((rd l0 s1.1).T0))) || ((IntKind.i64.wrap (((rd l0 s1.1).Own0) - ((rd l0 t15).Own1))) != 1))))⟩, ⟨44, [], .v (.bool (decide (t15 < 0) && (((rd l0 s1.1).Own0) != 1)))⟩, ⟨5, [], .v (.int .i64 t15)⟩, ⟨34, [], .v (.bool ((!t7) || (decide (s1.1 > 0) && decide (((rd l0 (IntKind.i64.wrap (s1.1 - 1))).From) ≥ ((rd l0 s1.1).From)))))⟩, ⟨4, [], .p 0 0⟩, ⟨10, [], .v (.bool (decide (s1.1 < (l0.length : Int))))⟩, ⟨3, [], .v (.int .i64 s1.1)⟩, ⟨0, [], .v (.slice A0 l0.length c0)⟩], [], [], [((((kd_Call).cells (rd l0 s1.1) sv3).map EV.v), 42), ((((kd_Call).cells (rd l0 ((rd l0 s1.1).Saw)) sv39).map EV.v), 42)]⟩ [] (by kernel_rfl) trivial (fun ns a w1 hI _ => ?_)
                  refine wpIn_ret ?_
                  refine inBlock_ret ?_
                  refine then_ret ?_
                  refine then_ret ?_
                  obtain rfl := Option.some.inj H1
                  refine .inr ⟨_, rfl, fun ho => ?_⟩
                  subst ho
                  refine inBlock_ret ?_
                  refine then_ret ?_
                  obtain rfl := Option.some.inj H0
                  exact ret1 hI rfl rfl ⟨rfl, hI.loc.base.below⟩
                · replace H1 := bif_f hc43 H1
                  refine wpIn_skip ?_
                  refine inBlock_normal ?_
                  refine then_normal ?_
                  refine region_ (live := [3, 114, 6, 89, 79, 76, 44, 5, 34, 4, 10, 2, 0]) (orc := []) hF hI ⟨[⟨3, [], .v (.int .i64 (IntKind.i64.wrap (s1.1 + 1)))⟩, ⟨114, [], .v (.bool (((((rd l0 ((rd l0 s1.1).Saw)).Req.Op) != 3) || decide (((rd l0 ((rd l0 s1.1).Saw)).Mark) < 0)) || ((rd l0 s1.1).Done && decide (((rd l0 ((rd l0 s1.1).Saw)).Mark) > ((rd l0 s1.1).To)))))⟩, ⟨6, [], .p 1 0⟩, ⟨89, [], .v (.bool (decide (((rd l0 s1.1).Saw) < 0) || decide (((rd l0 s1.1).Saw) ≥ (l0.length : Int))))⟩, ⟨79, [], .v (.bool (((rd l0 s1.1).Saw) != (-1)))⟩, ⟨76, [], .v (.bool (decide (t15 ≥ 0) && (((!t23) || decide (((rd l0 t15).T1) > ((rd l0 s1.1).T0))) || ((IntKind.i64.wrap (((rd l0 s1.1).Own0) - ((rd l0 t15).Own1))) != 1))))⟩, ⟨44, [], .v (.bool (decide (t15 < 0) && (((rd l0 s1.1).Own0) != 1)))⟩, ⟨5, [], .v (.int .i64 t15)⟩, ⟨34, [], .v (.bool ((!t7) || (decide (s1.1 > 0) && decide (((rd l0 (IntKind.i64.wrap (s1.1 - 1))).From) ≥ ((rd l0 s1.1).From)))))⟩, ⟨4, [], .p 0 0⟩, ⟨10, [], .v (.bool (decide (s1.1 < (l0.length : Int))))⟩, ⟨2, [], .v (.bool s1.2)⟩, ⟨0, [], .v (.slice A0 l0.length c0)⟩], [], [], [((((kd_Call).cells (rd l0 s1.1) sv3).map EV.v), 42), ((((kd_Call).cells (rd l0 ((rd l0 s1.1).Saw)) sv39).map EV.v), 42)]⟩ [] (by kernel_rfl) trivial (fun ns a w1 hI _ => ?_)
                  refine then_normal ?_
                  obtain rfl := Option.some.inj H1
                  exact ⟨_, rfl, _, hI.pick [3, 2, 0] 0 ⟨[⟨3, [], .v (.int .i64 (IntKind.i64.wrap (s1.1 + 1)))⟩, ⟨2, [], .v (.bool s1.2)⟩, ⟨0, [], .v (.slice A0 l0.length c0)⟩], [], [], []⟩ (by kernel_rfl)⟩
            · replace H1 := bif_f hc36 H1
              refine wpIn_skip ?_
              refine inBlock_normal ?_
              refine then_normal ?_
              refine region_ (live := [3, 79, 76, 44, 5, 34, 4, 10, 2, 0]) (orc := []) hF hI ⟨[⟨3, [], .v (.int .i64 (IntKind.i64.wrap (s1.1 + 1)))⟩, ⟨79, [], .v (.bool (((rd l0 s1.1).Saw) != (-1)))⟩, ⟨76, [], .v (.bool (decide (t15 ≥ 0) && (((!t23) || decide (((rd l0 t15).T1) > ((rd l0 s1.1).T0))) || ((IntKind.i64.wrap (((rd l0 s1.1).Own0) - ((rd l0 t15).Own1))) != 1))))⟩, ⟨44, [], .v (.bool (decide (t15 < 0) && (((rd l0 s1.1).Own0) != 1)))⟩, ⟨5, [], .v (.int .i64 t15)⟩, ⟨34, [], .v (.bool ((!t7) || (decide (s1.1 > 0) && decide (((rd l0 (IntKind.i64.wrap (s1.1 - 1))).From) ≥ ((rd l0 s1.1).From)))))⟩, ⟨4, [], .p 0 0⟩, ⟨10, [], .v (.bool (decide (s1.1 < (l0.length : Int))))⟩, ⟨2, [], .v (.bool s1.2)⟩, ⟨0, [], .v (.slice A0 l0.length c0)⟩], [], [], [((((kd_Call).cells (rd l0 s1.1) sv3).map EV.v), 42)]⟩ [] (by kernel_rfl) trivial (fun ns a w1 hI _ => ?_)
              refine then_normal ?_
              obtain rfl := Option.some.inj H1
              exact ⟨_, rfl, _, hI.pick [3, 2, 0] 0 ⟨[⟨3, [], .v (.int .i64 (IntKind.i64.wrap (s1.1 + 1)))⟩, ⟨2, [], .v (.bool s1.2)⟩, ⟨0, [], .v (.slice A0 l0.length c0)⟩], [], [], []⟩ (by kernel_rfl)⟩
    · replace H1 := bif_f hc1 H1
      refine wpIn_exit ?_
      refine then_exit ?_
      refine then_exit ?_
      obtain rfl := Option.some.inj H1
      exact .inl ⟨_, rfl, rfl, _, hI.pick [3, 2, 0] 0 ⟨[⟨3, [], .v (.int .i64 s1.1)⟩, ⟨2, [], .v (.bool s1.2)⟩, ⟨0, [], .v (.slice A0 l0.length c0)⟩], [], [], []⟩ (by kernel_rfl)⟩
  · clear hI
    rintro s1 a w1 ho ⟨ns, hI⟩
    subst ho
    replace H0 : some true = _ := H0
    refine then_normal ?_
    refine seq_region (live := [2, 3, 0]) (orc := []) hF hI ⟨[⟨2, [], .v (.bool true)⟩, ⟨3, [], .v (.int .i64 s1.1)⟩, ⟨0, [], .v (.slice A0 l0.length c0)⟩], [], [], []⟩ [] (by kernel_rfl) trivial (fun ns a w1 hI _ => ?_)
    refine wpIn_ret ?_
    obtain rfl := Option.some.inj H0
    exact ret1 hI rfl rfl ⟨rfl, hI.loc.base.below⟩

/-! ### porthole/portholeref24.Small: function 15 -/
noncomputable def G_ref24_Small.b1 (l0 : (List Call)) (s1 : Int × Bool) : Option (Stp (Int × Bool) (Ex (Int × Bool) (Bool))) := (bif decide (s1.1 < (l0.length : Int)) then (req (inb s1.1 l0.length) (bif (((((decide (((rd l0 s1.1).T0) > 1099511627776) || decide (((rd l0 s1.1).T1) > 1099511627776)) || decide (((rd l0 s1.1).Stamp) > 1099511627776)) || decide (((rd l0 s1.1).Stamp) < (-1))) || decide (((rd l0 s1.1).T0) < 0)) || decide (((rd l0 s1.1).T1) < (-1))) then some (.out (.ret false)) else some (.next ((IntKind.i64.wrap (s1.1 + 1)), s1.2)))) else some (.out (.brk (s1.1, s1.2))))
noncomputable def G_ref24_Small (l0 : (List Call)) : Option (Bool) := ((loopω (G_ref24_Small.b1 l0) (0, false)).bind fun o => o.on (fun s1 => some true) (fun r => some r))
set_option maxRecDepth 100000 in
set_option maxHeartbeats 4000000 in
theorem G_ref24_Small.calls (l0 : (List Call)) (A0 : Option Addr) (c0 : Nat) (w : World) {S0 : Nat → Prop} (hr0 : Arr kd_Call S0 w A0 l0) (hc0 : l0.length ≤ c0) (r : Bool) (h : G_ref24_Small l0 = some r) :
    Calls Try.prog 15 #[.slice A0 l0.length c0] w fun e w' => e = .returned (.bool r) ∧ Below w.heap.size w w' := by
  replace hr0 := hr0.low
  unfold G_ref24_Small at h
  have H0 := h
  clear h
  refine enter Try.func15 rfl [.slice A0 l0.length c0] (n := 43) rfl (Nat.le_of_ble_eq_true rfl) (fun a hI => ?_)
  have hF : FOpen Fence.wide := .inl rfl
  refine seq_region (live := [2, 0]) (orc := []) hF hI ⟨[⟨2, [], .v (.bool false)⟩, ⟨0, [], .v (.slice A0 l0.length c0)⟩], [], [], []⟩ [] (by kernel_rfl) trivial (fun ns a w1 hI _ => ?_)
  refine wpIn_seq ?_
  refine seq_region (live := [3, 2, 0]) (orc := []) hF hI ⟨[⟨3, [], .v (.int .i64 0)⟩, ⟨2, [], .v (.bool false)⟩, ⟨0, [], .v (.slice A0 l0.length c0)⟩], [], [], []⟩ [] (by kernel_rfl) trivial (fun ns a w1 hI _ => ?_)
  obtain ⟨o8, hL9, H0⟩ := bind_some H0
  refine block_loop (fun s1 a w1 => ∃ ns, St w [] 43 ⟨[⟨3, [], .v (.int .i64 s1.1)⟩, ⟨2, [], .v (.bool s1.2)⟩, ⟨0, [], .v (.slice A0 l0.length c0)⟩], [], [], []⟩ ns a w1) (0, false) hL9 ⟨_, hI.pick [3, 2, 0] 0 ⟨[⟨3, [], .v (.int .i64 0)⟩, ⟨2, [], .v (.bool false)⟩, ⟨0, [], .v (.slice A0 l0.length c0)⟩], [], [], []⟩ (by kernel_rfl)⟩ ?_ ?_
  · clear hI
    rintro s1 a w1 ⟨ns, hI⟩ r1 H1
    unfold G_ref24_Small.b1 at H1
    refine wpIn_seq ?_
    refine seq_region (live := [8, 3, 2, 0]) (orc := []) hF hI ⟨[⟨8, [], .v (.bool (decide (s1.1 < (l0.length : Int))))⟩, ⟨3, [], .v (.int .i64 s1.1)⟩, ⟨2, [], .v (.bool s1.2)⟩, ⟨0, [], .v (.slice A0 l0.length c0)⟩], [], [], []⟩ [] (by kernel_rfl) trivial (fun ns a w1 hI _ => ?_)
    refine cond_ hI (decide (s1.1 < (l0.length : Int))) rfl (fun hc1 => ?_) (fun hc1 => ?_)
    · replace H1 := bif_t hc1 H1
      refine wpIn_skip ?_
      refine then_normal ?_
      refine wpIn_seq ?_
      refine wpIn_block ?_
      obtain ⟨hN2, H1⟩ := req_some H1
      obtain ⟨sv3, hC4, hA5, hE6⟩ := Arr.get (d := kd_Call) hr0 s1.1 true (fun _ => hN2)
      refine seq_region (live := [4, 8, 3, 2, 0]) (orc := [(kd_Call).cells (rd l0 s1.1) sv3]) hF hI ⟨[⟨4, [], .p 0 0⟩, ⟨8, [], .v (.bool (decide (s1.1 < (l0.length : Int))))⟩, ⟨3, [], .v (.int .i64 s1.1)⟩, ⟨2, [], .v (.bool s1.2)⟩, ⟨0, [], .v (.slice A0 l0.length c0)⟩], [], [], [((((kd_Call).cells (rd l0 s1.1) sv3).map EV.v), 42)]⟩ [.need true (0 ≤ s1.1 ∧ s1.1 < (l0.length : Int)), .need true (A0 = some (adr A0)), .cell true ((adr A0).add ((s1.1 : Int).toNat * 20)) ((kd_Call).cells (rd l0 s1.1) sv3)] (by kernel_rfl) ⟨ob_inb (fun _ => hN2), hA5, ob_cell (fun hg => hE6 rfl) 0 ((kd_Call).cells (rd l0 s1.1) sv3) rfl, trivial⟩ (fun ns a w1 hI _ => ?_)
      refine seq_region (live := [42, 4, 8, 3, 2, 0]) (orc := []) hF hI ⟨[⟨42, [], .v (.bool (((((decide (((rd l0 s1.1).T0) > 1099511627776) || decide (((rd l0 s1.1).T1) > 1099511627776)) || decide (((rd l0 s1.1).Stamp) > 1099511627776)) || decide (((rd l0 s1.1).Stamp) < (-1))) || decide (((rd l0 s1.1).T0) < 0)) || decide (((rd l0 s1.1).T1) < (-1))))⟩, ⟨4, [], .p 0 0⟩, ⟨8, [], .v (.bool (decide (s1.1 < (l0.length : Int))))⟩, ⟨3, [], .v (.int .i64 s1.1)⟩, ⟨2, [], .v (.bool s1.2)⟩, ⟨0, [], .v (.slice A0 l0.length c0)⟩], [], [], [((((kd_Call).cells (rd l0 s1.1) sv3).map EV.v), 42)]⟩ [] (by kernel_rfl) trivial (fun ns a w1 hI _ => ?_)
      refine cond_ hI ((((((decide (((rd l0 s1.1).T0) > 1099511627776) || decide (((rd l0 s1.1).T1) > 1099511627776)) || decide (((rd l0 s1.1).Stamp) > 1099511627776)) || decide (((rd l0 s1.1).Stamp) < (-1))) || decide (((rd l0 s1.1).T0) < 0)) || decide (((rd l0 s1.1).T1) < (-1)))) rfl (fun hc7 => ?_) (fun hc7 => ?_)
      · replace H1 := bif_t hc7 H1
        refine seq_region (live := [2, 42, 4, 8, 3, 0]) (orc := []) hF hI ⟨[⟨2, [], .v (.bool false)⟩, ⟨42, [], .v (.bool (((((decide (((rd l0 s1.1).T0) > 1099511627776) || decide (((rd l0 s1.1).T1) > 1099511627776)) || decide (((rd l0 s1.1).Stamp) > 1099511627776)) || decide (((rd l0 s1.1).Stamp) < (-1))) || decide (((rd l0 s1.1).T0) < 0)) || decide (((rd l0 s1.1).T1) < (-1))))⟩, ⟨4, [], .p 0 0⟩, ⟨8, [], .v (.bool (decide (s1.1 < (l0.length : Int))))⟩, ⟨3, [], .v (.int .i64 s1.1)⟩, ⟨0, [], .v (.slice A0 l0.length c0)⟩], [], [], [((((kd_Call).cells (rd l0 s1.1) sv3).map EV.v), 42)]⟩ [] (by kernel_rfl) trivial (fun ns a w1 hI _ => ?_)
        refine wpIn_ret ?_
        refine inBlock_ret ?_
        refine then_ret ?_
        refine then_ret ?_
        obtain rfl := Option.some.inj H1
        refine .inr ⟨_, rfl, fun ho => ?_⟩
        subst ho
        refine inBlock_ret ?_
        refine then_ret ?_
        obtain rfl := Option.some.inj H0
        exact ret1 hI rfl rfl ⟨rfl, hI.loc.base.below⟩
      · replace H1 := bif_f hc7 H1
        refine wpIn_skip ?_
        refine inBlock_normal ?_
        refine then_normal ?_
        refine region_ (live := [3, 42, 4, 8, 2, 0]) (orc := []) hF hI ⟨[⟨3, [], .v (.int .i64 (IntKind.i64.wrap (s1.1 + 1)))⟩, ⟨42, [], .v (.bool (((((decide (((rd l0 s1.1).T0) > 1099511627776) || decide (((rd l0 s1.1).T1) > 1099511627776)) || decide (((rd l0 s1.1).Stamp) > 1099511627776)) || decide (((rd l0 s1.1).Stamp) < (-1))) || decide (((rd l0 s1.1).T0) < 0)) || decide (((rd l0 s1.1).T1) < (-1))))⟩, ⟨4, [], .p 0 0⟩, ⟨8, [], .v (.bool (decide (s1.1 < (l0.length : Int))))⟩, ⟨2, [], .v (.bool s1.2)⟩, ⟨0, [], .v (.slice A0 l0.length c0)⟩], [], [], [((((kd_Call).cells (rd l0 s1.1) sv3).map EV.v), 42)]⟩ [] (by kernel_rfl) trivial (fun ns a w1 hI _ => ?_)
        refine then_normal ?_
        obtain rfl := Option.some.inj H1
        exact ⟨_, rfl, _, hI.pick [3, 2, 0] 0 ⟨[⟨3, [], .v (.int .i64 (IntKind.i64.wrap (s1.1 + 1)))⟩, ⟨2, [], .v (.bool s1.2)⟩, ⟨0, [], .v (.slice A0 l0.length c0)⟩], [], [], []⟩ (by kernel_rfl)⟩
    · replace H1 := bif_f hc1 H1
      refine wpIn_exit ?_
      refine then_exit ?_
      refine then_exit ?_
      obtain rfl := Option.some.inj H1
      exact .inl ⟨_, rfl, rfl, _, hI.pick [3, 2, 0] 0 ⟨[⟨3, [], .v (.int .i64 s1.1)⟩, ⟨2, [], .v (.bool s1.2)⟩, ⟨0, [], .v (.slice A0 l0.length c0)⟩], [], [], []⟩ (by kernel_rfl)⟩
  · clear hI
    rintro s1 a w1 ho ⟨ns, hI⟩
    subst ho
    replace H0 : some true = _ := H0
    refine then_normal ?_
    refine seq_region (live := [2, 3, 0]) (orc := []) hF hI ⟨[⟨2, [], .v (.bool true)⟩, ⟨3, [], .v (.int .i64 s1.1)⟩, ⟨0, [], .v (.slice A0 l0.length c0)⟩], [], [], []⟩ [] (by kernel_rfl) trivial (fun ns a w1 hI _ => ?_)
    refine wpIn_ret ?_
    obtain rfl := Option.some.inj H0
    exact ret1 hI rfl rfl ⟨rfl, hI.loc.base.below⟩

/-! ### porthole/hist.Place: function 26 -/
noncomputable def G_hist_Place (l0 : (List Call)) (a1 : Int) : Option (Int × Bool × Bool) := (bif (decide (a1 < 0) || decide (a1 ≥ (l0.length : Int))) then some (0, false, false) else (req (inb a1 l0.length) (bif decide (((rd l0 a1).Mark) ≥ 0) then some ((rd l0 a1).Mark, false, true) else (bif ((!((rd l0 a1).Done)) || (((rd l0 a1).Req.Op) != 4)) then some (0, false, false) else (bif (decide (((rd l0 a1).Saw) < 0) || decide (((rd l0 a1).Saw) ≥ (l0.length : Int))) then some ((rd l0 a1).From, true, true) else (req (inb ((rd l0 a1).Saw) l0.length) (some ((mxI ((rd l0 a1).From) ((rd l0 ((rd l0 a1).Saw)).Mark)), true, true))))))))
set_option maxRecDepth 100000 in
set_option maxHeartbeats 4000000 in
theorem G_hist_Place.calls (l0 : (List Call)) (a1 : Int) (A0 : Option Addr) (c0 : Nat) (w : World) {S0 : Nat → Prop} (hr0 : Arr kd_Call S0 w A0 l0) (hc0 : l0.length ≤ c0) (r : Int × Bool × Bool) (h : G_hist_Place l0 a1 = some r) :
    Calls Try.prog 26 #[.slice A0 l0.length c0, .int .i64 a1] w fun e w' => e = .returned (.tuple #[.int .i64 r.1, .bool r.2.1, .bool r.2.2]) ∧ Below w.heap.size w w' := by
  replace hr0 := hr0.low
  unfold G_hist_Place at h
  have H0 := h
  clear h
  refine enter Try.func26 rfl [.slice A0 l0.length c0, .int .i64 a1] (n := 58) rfl (Nat.le_of_ble_eq_true rfl) (fun a hI => ?_)
  have hF : FOpen Fence.wide := .inl rfl
  refine seq_region (live := [6, 5, 4, 0, 1]) (orc := []) hF hI ⟨[⟨6, [], .v (.bool false)⟩, ⟨5, [], .v (.bool false)⟩, ⟨4, [], .v (.int .i64 0)⟩, ⟨0, [], .v (.slice A0 l0.length c0)⟩, ⟨1, [], .v (.int .i64 a1)⟩], [], [], []⟩ [] (by kernel_rfl) trivial (fun ns a w1 hI _ => ?_)
  refine wpIn_seq ?_
  refine seq_region (live := [15, 6, 5, 4, 0, 1]) (orc := []) hF hI ⟨[⟨15, [], .v (.bool (decide (a1 < 0) || decide (a1 ≥ (l0.length : Int))))⟩, ⟨6, [], .v (.bool false)⟩, ⟨5, [], .v (.bool false)⟩, ⟨4, [], .v (.int .i64 0)⟩, ⟨0, [], .v (.slice A0 l0.length c0)⟩, ⟨1, [], .v (.int .i64 a1)⟩], [], [], []⟩ [] (by kernel_rfl) trivial (fun ns a w1 hI _ => ?_)
  refine cond_ hI ((decide (a1 < 0) || decide (a1 ≥ (l0.length : Int)))) rfl (fun hc1 => ?_) (fun hc1 => ?_)
  · replace H0 := bif_t hc1 H0
    refine seq_region (live := [6, 5, 4, 15, 0, 1]) (orc := []) hF hI ⟨[⟨6, [], .v (.bool false)⟩, ⟨5, [], .v (.bool false)⟩, ⟨4, [], .v (.int .i64 0)⟩, ⟨15, [], .v (.bool (decide (a1 < 0) || decide (a1 ≥ (l0.length : Int))))⟩, ⟨0, [], .v (.slice A0 l0.length c0)⟩, ⟨1, [], .v (.int .i64 a1)⟩], [], [], []⟩ [] (by kernel_rfl) trivial (fun ns a w1 hI _ => ?_)
    refine wpIn_ret ?_
    refine then_ret ?_
    obtain rfl := Option.some.inj H0
    exact ret3 hI rfl rfl rfl rfl ⟨rfl, hI.loc.base.below⟩
  · replace H0 := bif_f hc1 H0
    refine wpIn_skip ?_
    refine then_normal ?_
    obtain ⟨hN2, H0⟩ := req_some H0
    obtain ⟨sv3, hC4, hA5, hE6⟩ := Arr.get (d := kd_Call) hr0 a1 true (fun _ => hN2)
    refine seq_region (live := [7, 15, 6, 5, 4, 0, 1]) (orc := [(kd_Call).cells (rd l0 a1) sv3]) hF hI ⟨[⟨7, [], .p 0 0⟩, ⟨15, [], .v (.bool (decide (a1 < 0) || decide (a1 ≥ (l0.length : Int))))⟩, ⟨6, [], .v (.bool false)⟩, ⟨5, [], .v (.bool false)⟩, ⟨4, [], .v (.int .i64 0)⟩, ⟨0, [], .v (.slice A0 l0.length c0)⟩, ⟨1, [], .v (.int .i64 a1)⟩], [], [], [((((kd_Call).cells (rd l0 a1) sv3).map EV.v), 42)]⟩ [.need true (0 ≤ a1 ∧ a1 < (l0.length : Int)), .need true (A0 = some (adr A0)), .cell true ((adr A0).add ((a1 : Int).toNat * 20)) ((kd_Call).cells (rd l0 a1) sv3)] (by kernel_rfl) ⟨ob_inb (fun _ => hN2), hA5, ob_cell (fun hg => hE6 rfl) 0 ((kd_Call).cells (rd l0 a1) sv3) rfl, trivial⟩ (fun ns a w1 hI _ => ?_)
    refine wpIn_seq ?_
    refine wpIn_block ?_
    refine seq_region (live := [20, 7, 15, 6, 5, 4, 0, 1]) (orc := []) hF hI ⟨[⟨20, [], .v (.bool (decide (((rd l0 a1).Mark) ≥ 0)))⟩, ⟨7, [], .p 0 0⟩, ⟨15, [], .v (.bool (decide (a1 < 0) || decide (a1 ≥ (l0.length : Int))))⟩, ⟨6, [], .v (.bool false)⟩, ⟨5, [], .v (.bool false)⟩, ⟨4, [], .v (.int .i64 0)⟩, ⟨0, [], .v (.slice A0 l0.length c0)⟩, ⟨1, [], .v (.int .i64 a1)⟩], [], [], [((((kd_Call).cells (rd l0 a1) sv3).map EV.v), 42)]⟩ [] (by kernel_rfl) trivial (fun ns a w1 hI _ => ?_)
    refine cond_ hI (decide (((rd l0 a1).Mark) ≥ 0)) rfl (fun hc7 => ?_) (fun hc7 => ?_)
    · replace H0 := bif_t hc7 H0
      refine seq_region (live := [6, 5, 4, 20, 7, 15, 0, 1]) (orc := []) hF hI ⟨[⟨6, [], .v (.bool true)⟩, ⟨5, [], .v (.bool false)⟩, ⟨4, [], .v (.int .i64 ((rd l0 a1).Mark))⟩, ⟨20, [], .v (.bool (decide (((rd l0 a1).Mark) ≥ 0)))⟩, ⟨7, [], .p 0 0⟩, ⟨15, [], .v (.bool (decide (a1 < 0) || decide (a1 ≥ (l0.length : Int))))⟩, ⟨0, [], .v (.slice A0 l0.length c0)⟩, ⟨1, [], .v (.int .i64 a1)⟩], [], [], [((((kd_Call).cells (rd l0 a1) sv3).map EV.v), 42)]⟩ [] (by kernel_rfl) trivial (fun ns a w1 hI _ => ?_)
      refine wpIn_ret ?_
      refine inBlock_ret ?_
      refine then_ret ?_
      obtain rfl := Option.some.inj H0
      exact ret3 hI rfl rfl rfl rfl ⟨rfl, hI.loc.base.below⟩
    · replace H0 := bif_f hc7 H0
      refine seq_region (live := [26, 20, 7, 15, 6, 5, 4, 0, 1]) (orc := []) hF hI ⟨[⟨26, [], .v (.bool ((!((rd l0 a1).Done)) || (((rd l0 a1).Req.Op) != 4)))⟩, ⟨20, [], .v (.bool (decide (((rd l0 a1).Mark) ≥ 0)))⟩, ⟨7, [], .p 0 0⟩, ⟨15, [], .v (.bool (decide (a1 < 0) || decide (a1 ≥ (l0.length : Int))))⟩, ⟨6, [], .v (.bool false)⟩, ⟨5, [], .v (.bool false)⟩, ⟨4, [], .v (.int .i64 0)⟩, ⟨0, [], .v (.slice A0 l0.length c0)⟩, ⟨1, [], .v (.int .i64 a1)⟩], [], [], [((((kd_Call).cells (rd l0 a1) sv3).map EV.v), 42)]⟩ [] (by kernel_rfl) trivial (fun ns a w1 hI _ => ?_)
      refine cond_ hI (((!((rd l0 a1).Done)) || (((rd l0 a1).Req.Op) != 4))) rfl (fun hc8 => ?_) (fun hc8 => ?_)
      · replace H0 := bif_t hc8 H0
        refine seq_region (live := [6, 5, 4, 26, 20, 7, 15, 0, 1]) (orc := []) hF hI ⟨[⟨6, [], .v (.bool false)⟩, ⟨5, [], .v (.bool false)⟩, ⟨4, [], .v (.int .i64 0)⟩, ⟨26, [], .v (.bool ((!((rd l0 a1).Done)) || (((rd l0 a1).Req.Op) != 4)))⟩, ⟨20, [], .v (.bool (decide (((rd l0 a1).Mark) ≥ 0)))⟩, ⟨7, [], .p 0 0⟩, ⟨15, [], .v (.bool (decide (a1 < 0) || decide (a1 ≥ (l0.length : Int))))⟩, ⟨0, [], .v (.slice A0 l0.length c0)⟩, ⟨1, [], .v (.int .i64 a1)⟩], [], [], [((((kd_Call).cells (rd l0 a1) sv3).map EV.v), 42)]⟩ [] (by kernel_rfl) trivial (fun ns a w1 hI _ => ?_)
        refine wpIn_ret ?_
        refine inBlock_ret ?_
        refine then_ret ?_
        obtain rfl := Option.some.inj H0
        exact ret3 hI rfl rfl rfl rfl ⟨rfl, hI.loc.base.below⟩
      · replace H0 := bif_f hc8 H0
        refine seq_region (live := [36, 26, 20, 7, 15, 6, 5, 4, 0, 1]) (orc := []) hF hI ⟨[⟨36, [], .v (.bool (decide (((rd l0 a1).Saw) < 0) || decide (((rd l0 a1).Saw) ≥ (l0.length : Int))))⟩, ⟨26, [], .v (.bool ((!((rd l0 a1).Done)) || (((rd l0 a1).Req.Op) != 4)))⟩, ⟨20, [], .v (.bool (decide (((rd l0 a1).Mark) ≥ 0)))⟩, ⟨7, [], .p 0 0⟩, ⟨15, [], .v (.bool (decide (a1 < 0) || decide (a1 ≥ (l0.length : Int))))⟩, ⟨6, [], .v (.bool false)⟩, ⟨5, [], .v (.bool false)⟩, ⟨4, [], .v (.int .i64 0)⟩, ⟨0, [], .v (.slice A0 l0.length c0)⟩, ⟨1, [], .v (.int .i64 a1)⟩], [], [], [((((kd_Call).cells (rd l0 a1) sv3).map EV.v), 42)]⟩ [] (by kernel_rfl) trivial (fun ns a w1 hI _ => ?_)
        refine cond_ hI ((decide (((rd l0 a1).Saw) < 0) || decide (((rd l0 a1).Saw) ≥ (l0.length : Int)))) rfl (fun hc9 => ?_) (fun hc9 => ?_)
        · replace H0 := bif_t hc9 H0
          refine seq_region (live := [6, 5, 4, 36, 26, 20, 7, 15, 0, 1]) (orc := []) hF hI ⟨[⟨6, [], .v (.bool true)⟩, ⟨5, [], .v (.bool true)⟩, ⟨4, [], .v (.int .i64 ((rd l0 a1).From))⟩, ⟨36, [], .v (.bool (decide (((rd l0 a1).Saw) < 0) || decide (((rd l0 a1).Saw) ≥ (l0.length : Int))))⟩, ⟨26, [], .v (.bool ((!((rd l0 a1).Done)) || (((rd l0 a1).Req.Op) != 4)))⟩, ⟨20, [], .v (.bool (decide (((rd l0 a1).Mark) ≥ 0)))⟩, ⟨7, [], .p 0 0⟩, ⟨15, [], .v (.bool (decide (a1 < 0) || decide (a1 ≥ (l0.length : Int))))⟩, ⟨0, [], .v (.slice A0 l0.length c0)⟩, ⟨1, [], .v (.int .i64 a1)⟩], [], [], [((((kd_Call).cells (rd l0 a1) sv3).map EV.v), 42)]⟩ [] (by kernel_rfl) trivial (fun ns a w1 hI _ => ?_)
          refine wpIn_ret ?_
          refine inBlock_ret ?_
          refine then_ret ?_
          obtain rfl := Option.some.inj H0
          exact ret3 hI rfl rfl rfl rfl ⟨rfl, hI.loc.base.below⟩
        · replace H0 := bif_f hc9 H0
          refine wpIn_skip ?_
          refine inBlock_normal ?_
          refine then_normal ?_
          refine wpIn_seq ?_
          obtain ⟨hN10, H0⟩ := req_some H0
          obtain ⟨sv11, hC12, hA13, hE14⟩ := Arr.get (d := kd_Call) hr0 ((rd l0 a1).Saw) true (fun _ => hN10)
          refine drawn_ (live := [6, 5, 4, 36, 26, 20, 7, 15, 0, 1]) (orc := [[.int .i64 ((rd l0 ((rd l0 a1).Saw)).Mark)]]) hF hI ⟨[⟨6, [], .v (.bool true)⟩, ⟨5, [], .v (.bool true)⟩, ⟨4, [], .v (.int .i64 (mxI ((rd l0 a1).From) ((rd l0 ((rd l0 a1).Saw)).Mark)))⟩, ⟨36, [], .v (.bool (decide (((rd l0 a1).Saw) < 0) || decide (((rd l0 a1).Saw) ≥ (l0.length : Int))))⟩, ⟨26, [], .v (.bool ((!((rd l0 a1).Done)) || (((rd l0 a1).Req.Op) != 4)))⟩, ⟨20, [], .v (.bool (decide (((rd l0 a1).Mark) ≥ 0)))⟩, ⟨7, [], .p 0 0⟩, ⟨15, [], .v (.bool (decide (a1 < 0) || decide (a1 ≥ (l0.length : Int))))⟩, ⟨0, [], .v (.slice A0 l0.length c0)⟩, ⟨1, [], .v (.int .i64 a1)⟩], [], [], [((((kd_Call).cells (rd l0 a1) sv3).map EV.v), 42)]⟩ [.need true (0 ≤ ((rd l0 a1).Saw) ∧ ((rd l0 a1).Saw) < (l0.length : Int)), .need true (A0 = some (adr A0)), .cell true (((adr A0).add ((((rd l0 a1).Saw) : Int).toNat * 20)).add 16) [.int .i64 ((rd l0 ((rd l0 a1).Saw)).Mark)]] (by kernel_rfl) (by kernel_rfl) (by kernel_rfl) ⟨ob_inb (fun _ => hN10), hA13, ob_cell (fun hg => hE14 rfl) 16 [.int .i64 ((rd l0 ((rd l0 a1).Saw)).Mark)] rfl, trivial⟩ (fun a w1 hI => ?_)
          refine then_normal ?_
          refine wpIn_ret ?_
          obtain rfl := Option.some.inj H0
          exact ret3 hI rfl rfl rfl rfl ⟨rfl, hI.loc.base.below⟩

/-! ### porthole/stamp.Last: function 16 -/
noncomputable def G_stamp_Last.b1 (l0 : (List Call)) (a1 : Int) (a2 : Int) (t1 : Int × Bool × Bool) (s1 : Int × Int) : Option (Stp (Int × Int) (Ex (Int × Int) (Int × Bool))) := (bif decide (s1.1 < (l0.length : Int)) then (req (inb s1.1 l0.length) (bif ((((((!t1.2.2) || (((rd l0 s1.1).Req.Op) != 3)) || (((rd l0 s1.1).Req.Port) != (IntKind.i64.wrap (2 * a1)))) || ((rd l0 s1.1).Done && (((rd l0 s1.1).Ans.Code) != 0))) || decide (((rd l0 s1.1).Mark) < 0)) || decide (((rd l0 s1.1).Mark) > t1.1)) then some (.next ((IntKind.i64.wrap (s1.1 + 1)), s1.2)) else (req (imp (!(decide (s1.2 < 0))) (inb s1.2 l0.length)) (some (.next ((IntKind.i64.wrap (s1.1 + 1)), (bif (decide (s1.2 < 0) || decide (((rd l0 s1.1).Mark) > ((rd l0 s1.2).Mark))) then s1.1 else s1.2))))))) else some (.out (.brk (s1.1, s1.2))))
noncomputable def G_stamp_Last (l0 : (List Call)) (a1 : Int) (a2 : Int) : Option (Int × Bool) := ((G_hist_Place l0 a2).bind fun t1 => ((loopω (G_stamp_Last.b1 l0 a1 a2 t1) (0, (-1))).bind fun o => o.on (fun s1 => some ((mxI s1.2 0), decide (s1.2 ≥ 0))) (fun r => some r)))
set_option maxRecDepth 100000 in
set_option maxHeartbeats 4000000 in
theorem G_stamp_Last.calls (l0 : (List Call)) (a1 : Int) (a2 : Int) (A0 : Option Addr) (c0 : Nat) (w : World) {S0 : Nat → Prop} (hr0 : Arr kd_Call S0 w A0 l0) (hc0 : l0.length ≤ c0) (r : Int × Bool) (h : G_stamp_Last l0 a1 a2 = some r) :
    Calls Try.prog 16 #[.slice A0 l0.length c0, .int .i64 a1, .int .i64 a2] w fun e w' => e = .returned (.tuple #[.int .i64 r.1, .bool r.2]) ∧ Below w.heap.size w w' := by
  replace hr0 := hr0.low
  unfold G_stamp_Last at h
  have H0 := h
  clear h
  refine enter Try.func16 rfl [.slice A0 l0.length c0, .int .i64 a1, .int .i64 a2] (n := 85) rfl (Nat.le_of_ble_eq_true rfl) (fun a hI => ?_)
  have hF : FOpen Fence.wide := .inl rfl
  refine seq_region (live := [7, 6, 0, 1, 2]) (orc := []) hF hI ⟨[⟨7, [], .v (.bool false)⟩, ⟨6, [], .v (.int .i64 0)⟩, ⟨0, [], .v (.slice A0 l0.length c0)⟩, ⟨1, [], .v (.int .i64 a1)⟩, ⟨2, [], .v (.int .i64 a2)⟩], [], [], []⟩ [] (by kernel_rfl) trivial (fun ns a w1 hI _ => ?_)
  obtain ⟨t1, hG2, H0⟩ := bind_some H0
  refine seq_region (live := [10, 8, 7, 6, 0, 1, 2]) (orc := [[.tuple #[.int .i64 t1.1, .bool t1.2.1, .bool t1.2.2]]]) hF hI ⟨[⟨10, [], .v (.bool t1.2.2)⟩, ⟨8, [], .v (.int .i64 t1.1)⟩, ⟨7, [], .v (.bool false)⟩, ⟨6, [], .v (.int .i64 0)⟩, ⟨0, [], .v (.slice A0 l0.length c0)⟩, ⟨1, [], .v (.int .i64 a1)⟩, ⟨2, [], .v (.int .i64 a2)⟩], [], [], []⟩ [.call true 26 [.slice A0 l0.length c0, .int .i64 a2] (.tuple #[.int .i64 t1.1, .bool t1.2.1, .bool t1.2.2])] (by kernel_rfl) ⟨ob_call (enters Try.func26 (by kernel_rfl) rfl) (fun hg w1 hk => G_hist_Place.calls l0 a2 A0 c0 w1 (Arr.on hr0 hk) hc0 _ hG2), trivial⟩ (fun ns a w1 hI _ => ?_)
  refine seq_region (live := [11, 10, 8, 7, 6, 0, 1, 2]) (orc := []) hF hI ⟨[⟨11, [], .v (.int .i64 (-1))⟩, ⟨10, [], .v (.bool t1.2.2)⟩, ⟨8, [], .v (.int .i64 t1.1)⟩, ⟨7, [], .v (.bool false)⟩, ⟨6, [], .v (.int .i64 0)⟩, ⟨0, [], .v (.slice A0 l0.length c0)⟩, ⟨1, [], .v (.int .i64 a1)⟩, ⟨2, [], .v (.int .i64 a2)⟩], [], [], []⟩ [] (by kernel_rfl) trivial (fun ns a w1 hI _ => ?_)
  refine wpIn_seq ?_
  refine seq_region (live := [24, 23, 22, 11, 10, 8, 7, 6, 0, 1, 2]) (orc := []) hF hI ⟨[⟨24, [], .v (.int .i64 0)⟩, ⟨23, [], .v (.int .i64 (l0.length : Int))⟩, ⟨22, [], .v (.slice A0 l0.length c0)⟩, ⟨11, [], .v (.int .i64 (-1))⟩, ⟨10, [], .v (.bool t1.2.2)⟩, ⟨8, [], .v (.int .i64 t1.1)⟩, ⟨7, [], .v (.bool false)⟩, ⟨6, [], .v (.int .i64 0)⟩, ⟨0, [], .v (.slice A0 l0.length c0)⟩, ⟨1, [], .v (.int .i64 a1)⟩, ⟨2, [], .v (.int .i64 a2)⟩], [], [], []⟩ [] (by kernel_rfl) trivial (fun ns a w1 hI _ => ?_)
  obtain ⟨o16, hL17, H0⟩ := bind_some H0
  refine block_loop (fun s1 a w1 => ∃ ns, St w [] 85 ⟨[⟨24, [], .v (.int .i64 s1.1)⟩, ⟨23, [], .v (.int .i64 (l0.length : Int))⟩, ⟨22, [], .v (.slice A0 l0.length c0)⟩, ⟨11, [], .v (.int .i64 s1.2)⟩, ⟨10, [], .v (.bool t1.2.2)⟩, ⟨8, [], .v (.int .i64 t1.1)⟩, ⟨7, [], .v (.bool false)⟩, ⟨6, [], .v (.int .i64 0)⟩, ⟨0, [], .v (.slice A0 l0.length c0)⟩, ⟨1, [], .v (.int .i64 a1)⟩, ⟨2, [], .v (.int .i64 a2)⟩], [], [], []⟩ ns a w1) (0, (-1)) hL17 ⟨_, hI.pick [24, 23, 22, 11, 10, 8, 7, 6, 0, 1, 2] 0 ⟨[⟨24, [], .v (.int .i64 0)⟩, ⟨23, [], .v (.int .i64 (l0.length : Int))⟩, ⟨22, [], .v (.slice A0 l0.length c0)⟩, ⟨11, [], .v (.int .i64 (-1))⟩, ⟨10, [], .v (.bool t1.2.2)⟩, ⟨8, [], .v (.int .i64 t1.1)⟩, ⟨7, [], .v (.bool false)⟩, ⟨6, [], .v (.int .i64 0)⟩, ⟨0, [], .v (.slice A0 l0.length c0)⟩, ⟨1, [], .v (.int .i64 a1)⟩, ⟨2, [], .v (.int .i64 a2)⟩], [], [], []⟩ (by kernel_rfl)⟩ ?_ ?_
  · clear hI
    rintro s1 a w1 ⟨ns, hI⟩ r1 H1
    unfold G_stamp_Last.b1 at H1
    refine seq_region (live := [25, 24, 23, 22, 11, 10, 8, 7, 6, 0, 1, 2]) (orc := []) hF hI ⟨[⟨25, [], .v (.bool (decide (s1.1 < (l0.length : Int))))⟩, ⟨24, [], .v (.int .i64 s1.1)⟩, ⟨23, [], .v (.int .i64 (l0.length : Int))⟩, ⟨22, [], .v (.slice A0 l0.length c0)⟩, ⟨11, [], .v (.int .i64 s1.2)⟩, ⟨10, [], .v (.bool t1.2.2)⟩, ⟨8, [], .v (.int .i64 t1.1)⟩, ⟨7, [], .v (.bool false)⟩, ⟨6, [], .v (.int .i64 0)⟩, ⟨0, [], .v (.slice A0 l0.length c0)⟩, ⟨1, [], .v (.int .i64 a1)⟩, ⟨2, [], .v (.int .i64 a2)⟩], [], [], []⟩ [] (by kernel_rfl) trivial (fun ns a w1 hI _ => ?_)
    refine wpIn_seq ?_
    refine cond_ hI (decide (s1.1 < (l0.length : Int))) rfl (fun hc3 => ?_) (fun hc3 => ?_)
    · replace H1 := bif_t hc3 H1
      refine wpIn_skip ?_
      refine then_normal ?_
      refine wpIn_seq ?_
      refine wpIn_block ?_
      obtain ⟨hN4, H1⟩ := req_some H1
      obtain ⟨sv5, hC6, hA7, hE8⟩ := Arr.get (d := kd_Call) hr0 s1.1 true (fun _ => hN4)
      refine seq_region (live := [12, 13, 25, 24, 23, 22, 11, 10, 8, 7, 6, 0, 1, 2]) (orc := [(kd_Call).cells (rd l0 s1.1) sv5]) hF hI ⟨[⟨12, [], .v (.int .i64 s1.1)⟩, ⟨13, [], .p 0 0⟩, ⟨25, [], .v (.bool (decide (s1.1 < (l0.length : Int))))⟩, ⟨24, [], .v (.int .i64 s1.1)⟩, ⟨23, [], .v (.int .i64 (l0.length : Int))⟩, ⟨22, [], .v (.slice A0 l0.length c0)⟩, ⟨11, [], .v (.int .i64 s1.2)⟩, ⟨10, [], .v (.bool t1.2.2)⟩, ⟨8, [], .v (.int .i64 t1.1)⟩, ⟨7, [], .v (.bool false)⟩, ⟨6, [], .v (.int .i64 0)⟩, ⟨0, [], .v (.slice A0 l0.length c0)⟩, ⟨1, [], .v (.int .i64 a1)⟩, ⟨2, [], .v (.int .i64 a2)⟩], [], [], [((((kd_Call).cells (rd l0 s1.1) sv5).map EV.v), 42)]⟩ [.need true (0 ≤ s1.1 ∧ s1.1 < (l0.length : Int)), .need true (A0 = some (adr A0)), .cell true ((adr A0).add ((s1.1 : Int).toNat * 20)) ((kd_Call).cells (rd l0 s1.1) sv5)] (by kernel_rfl) ⟨ob_inb (fun _ => hN4), hA7, ob_cell (fun hg => hE8 rfl) 0 ((kd_Call).cells (rd l0 s1.1) sv5) rfl, trivial⟩ (fun ns a w1 hI _ => ?_)
      refine seq_region (live := [14, 12, 13, 25, 24, 23, 22, 11, 10, 8, 7, 6, 0, 1, 2]) (orc := []) hF hI ⟨[⟨14, [], .v (.bool ((rd l0 s1.1).Done && (((rd l0 s1.1).Ans.Code) != 0)))⟩, ⟨12, [], .v (.int .i64 s1.1)⟩, ⟨13, [], .p 0 0⟩, ⟨25, [], .v (.bool (decide (s1.1 < (l0.length : Int))))⟩, ⟨24, [], .v (.int .i64 s1.1)⟩, ⟨23, [], .v (.int .i64 (l0.length : Int))⟩, ⟨22, [], .v (.slice A0 l0.length c0)⟩, ⟨11, [], .v (.int .i64 s1.2)⟩, ⟨10, [], .v (.bool t1.2.2)⟩, ⟨8, [], .v (.int .i64 t1.1)⟩, ⟨7, [], .v (.bool false)⟩, ⟨6, [], .v (.int .i64 0)⟩, ⟨0, [], .v (.slice A0 l0.length c0)⟩, ⟨1, [], .v (.int .i64 a1)⟩, ⟨2, [], .v (.int .i64 a2)⟩], [], [], [((((kd_Call).cells (rd l0 s1.1) sv5).map EV.v), 42)]⟩ [] (by kernel_rfl) trivial (fun ns a w1 hI _ => ?_)
      refine wpIn_seq ?_
      refine seq_region (live := [66, 14, 12, 13, 25, 24, 23, 22, 11, 10, 8, 7, 6, 0, 1, 2]) (orc := []) hF hI ⟨[⟨66, [], .v (.bool ((((((!t1.2.2) || (((rd l0 s1.1).Req.Op) != 3)) || (((rd l0 s1.1).Req.Port) != (IntKind.i64.wrap (2 * a1)))) || ((rd l0 s1.1).Done && (((rd l0 s1.1).Ans.Code) != 0))) || decide (((rd l0 s1.1).Mark) < 0)) || decide (((rd l0 s1.1).Mark) > t1.1)))⟩, ⟨14, [], .v (.bool ((rd l0 s1.1).Done && (((rd l0 s1.1).Ans.Code) != 0)))⟩, ⟨12, [], .v (.int .i64 s1.1)⟩, ⟨13, [], .p 0 0⟩, ⟨25, [], .v (.bool (decide (s1.1 < (l0.length : Int))))⟩, ⟨24, [], .v (.int .i64 s1.1)⟩, ⟨23, [], .v (.int .i64 (l0.length : Int))⟩, ⟨22, [], .v (.slice A0 l0.length c0)⟩, ⟨11, [], .v (.int .i64 s1.2)⟩, ⟨10, [], .v (.bool t1.2.2)⟩, ⟨8, [], .v (.int .i64 t1.1)⟩, ⟨7, [], .v (.bool false)⟩, ⟨6, [], .v (.int .i64 0)⟩, ⟨0, [], .v (.slice A0 l0.length c0)⟩, ⟨1, [], .v (.int .i64 a1)⟩, ⟨2, [], .v (.int .i64 a2)⟩], [], [], [((((kd_Call).cells (rd l0 s1.1) sv5).map EV.v), 42)]⟩ [] (by kernel_rfl) trivial (fun ns a w1 hI _ => ?_)
      refine cond_ hI (((((((!t1.2.2) || (((rd l0 s1.1).Req.Op) != 3)) || (((rd l0 s1.1).Req.Port) != (IntKind.i64.wrap (2 * a1)))) || ((rd l0 s1.1).Done && (((rd l0 s1.1).Ans.Code) != 0))) || decide (((rd l0 s1.1).Mark) < 0)) || decide (((rd l0 s1.1).Mark) > t1.1))) rfl (fun hc9 => ?_) (fun hc9 => ?_)
      · replace H1 := bif_t hc9 H1
        refine wpIn_exit ?_
        refine then_exit ?_
        refine inBlock_here ?_
        refine then_normal ?_
        refine region_ (live := [24, 66, 14, 12, 13, 25, 23, 22, 11, 10, 8, 7, 6, 0, 1, 2]) (orc := []) hF hI ⟨[⟨24, [], .v (.int .i64 (IntKind.i64.wrap (s1.1 + 1)))⟩, ⟨66, [], .v (.bool ((((((!t1.2.2) || (((rd l0 s1.1).Req.Op) != 3)) || (((rd l0 s1.1).Req.Port) != (IntKind.i64.wrap (2 * a1)))) || ((rd l0 s1.1).Done && (((rd l0 s1.1).Ans.Code) != 0))) || decide (((rd l0 s1.1).Mark) < 0)) || decide (((rd l0 s1.1).Mark) > t1.1)))⟩, ⟨14, [], .v (.bool ((rd l0 s1.1).Done && (((rd l0 s1.1).Ans.Code) != 0)))⟩, ⟨12, [], .v (.int .i64 s1.1)⟩, ⟨13, [], .p 0 0⟩, ⟨25, [], .v (.bool (decide (s1.1 < (l0.length : Int))))⟩, ⟨23, [], .v (.int .i64 (l0.length : Int))⟩, ⟨22, [], .v (.slice A0 l0.length c0)⟩, ⟨11, [], .v (.int .i64 s1.2)⟩, ⟨10, [], .v (.bool t1.2.2)⟩, ⟨8, [], .v (.int .i64 t1.1)⟩, ⟨7, [], .v (.bool false)⟩, ⟨6, [], .v (.int .i64 0)⟩, ⟨0, [], .v (.slice A0 l0.length c0)⟩, ⟨1, [], .v (.int .i64 a1)⟩, ⟨2, [], .v (.int .i64 a2)⟩], [], [], [((((kd_Call).cells (rd l0 s1.1) sv5).map EV.v), 42)]⟩ [] (by kernel_rfl) trivial (fun ns a w1 hI _ => ?_)
        refine then_normal ?_
        obtain rfl := Option.some.inj H1
        exact ⟨_, rfl, _, hI.pick [24, 23, 22, 11, 10, 8, 7, 6, 0, 1, 2] 0 ⟨[⟨24, [], .v (.int .i64 (IntKind.i64.wrap (s1.1 + 1)))⟩, ⟨23, [], .v (.int .i64 (l0.length : Int))⟩, ⟨22, [], .v (.slice A0 l0.length c0)⟩, ⟨11, [], .v (.int .i64 s1.2)⟩, ⟨10, [], .v (.bool t1.2.2)⟩, ⟨8, [], .v (.int .i64 t1.1)⟩, ⟨7, [], .v (.bool false)⟩, ⟨6, [], .v (.int .i64 0)⟩, ⟨0, [], .v (.slice A0 l0.length c0)⟩, ⟨1, [], .v (.int .i64 a1)⟩, ⟨2, [], .v (.int .i64 a2)⟩], [], [], []⟩ (by kernel_rfl)⟩
      · replace H1 := bif_f hc9 H1
        refine wpIn_skip ?_
        refine then_normal ?_
        refine wpIn_seq ?_
        obtain ⟨hN10, H1⟩ := req_some H1
        obtain ⟨sv11, hC12, hA13, hE14⟩ := Arr.get (d := kd_Call) hr0 s1.2 (!(decide (s1.2 < 0))) (fun hg => imp_spec hN10 hg)
        refine drawn_ (live := [78, 66, 14, 12, 13, 25, 24, 23, 22, 11, 10, 8, 7, 6, 0, 1, 2]) (orc := [[.int .i64 ((rd l0 s1.2).Mark)]]) hF hI ⟨[⟨78, [], .v (.bool (decide (s1.2 < 0) || decide (((rd l0 s1.1).Mark) > ((rd l0 s1.2).Mark))))⟩, ⟨66, [], .v (.bool ((((((!t1.2.2) || (((rd l0 s1.1).Req.Op) != 3)) || (((rd l0 s1.1).Req.Port) != (IntKind.i64.wrap (2 * a1)))) || ((rd l0 s1.1).Done && (((rd l0 s1.1).Ans.Code) != 0))) || decide (((rd l0 s1.1).Mark) < 0)) || decide (((rd l0 s1.1).Mark) > t1.1)))⟩, ⟨14, [], .v (.bool ((rd l0 s1.1).Done && (((rd l0 s1.1).Ans.Code) != 0)))⟩, ⟨12, [], .v (.int .i64 s1.1)⟩, ⟨13, [], .p 0 0⟩, ⟨25, [], .v (.bool (decide (s1.1 < (l0.length : Int))))⟩, ⟨24, [], .v (.int .i64 s1.1)⟩, ⟨23, [], .v (.int .i64 (l0.length : Int))⟩, ⟨22, [], .v (.slice A0 l0.length c0)⟩, ⟨11, [], .v (.int .i64 s1.2)⟩, ⟨10, [], .v (.bool t1.2.2)⟩, ⟨8, [], .v (.int .i64 t1.1)⟩, ⟨7, [], .v (.bool false)⟩, ⟨6, [], .v (.int .i64 0)⟩, ⟨0, [], .v (.slice A0 l0.length c0)⟩, ⟨1, [], .v (.int .i64 a1)⟩, ⟨2, [], .v (.int .i64 a2)⟩], [], [], [((((kd_Call).cells (rd l0 s1.1) sv5).map EV.v), 42)]⟩ [.need (!(decide (s1.2 < 0))) (0 ≤ s1.2 ∧ s1.2 < (l0.length : Int)), .need (!(decide (s1.2 < 0))) (A0 = some (adr A0)), .cell (!(decide (s1.2 < 0))) (((adr A0).add ((s1.2 : Int).toNat * 20)).add 16) [.int .i64 ((rd l0 s1.2).Mark)]] (by kernel_rfl) (by kernel_rfl) (by kernel_rfl) ⟨ob_inb (fun hg => imp_spec hN10 hg), hA13, ob_cell (fun hg => hE14 hg) 16 [.int .i64 ((rd l0 s1.2).Mark)] rfl, trivial⟩ (fun a w1 hI => ?_)
        refine then_normal ?_
        refine cond_merge hI ((decide (s1.2 < 0) || decide (((rd l0 s1.1).Mark) > ((rd l0 s1.2).Mark)))) rfl ⟨[⟨11, [], .v (.int .i64 s1.1)⟩, ⟨78, [], .v (.bool (decide (s1.2 < 0) || decide (((rd l0 s1.1).Mark) > ((rd l0 s1.2).Mark))))⟩, ⟨66, [], .v (.bool ((((((!t1.2.2) || (((rd l0 s1.1).Req.Op) != 3)) || (((rd l0 s1.1).Req.Port) != (IntKind.i64.wrap (2 * a1)))) || ((rd l0 s1.1).Done && (((rd l0 s1.1).Ans.Code) != 0))) || decide (((rd l0 s1.1).Mark) < 0)) || decide (((rd l0 s1.1).Mark) > t1.1)))⟩, ⟨14, [], .v (.bool ((rd l0 s1.1).Done && (((rd l0 s1.1).Ans.Code) != 0)))⟩, ⟨12, [], .v (.int .i64 s1.1)⟩, ⟨13, [], .p 0 0⟩, ⟨25, [], .v (.bool (decide (s1.1 < (l0.length : Int))))⟩, ⟨24, [], .v (.int .i64 s1.1)⟩, ⟨23, [], .v (.int .i64 (l0.length : Int))⟩, ⟨22, [], .v (.slice A0 l0.length c0)⟩, ⟨10, [], .v (.bool t1.2.2)⟩, ⟨8, [], .v (.int .i64 t1.1)⟩, ⟨7, [], .v (.bool false)⟩, ⟨6, [], .v (.int .i64 0)⟩, ⟨0, [], .v (.slice A0 l0.length c0)⟩, ⟨1, [], .v (.int .i64 a1)⟩, ⟨2, [], .v (.int .i64 a2)⟩], [], [], [((((kd_Call).cells (rd l0 s1.1) sv5).map EV.v), 42)]⟩ ⟨[⟨11, [], .v (.int .i64 s1.2)⟩, ⟨78, [], .v (.bool (decide (s1.2 < 0) || decide (((rd l0 s1.1).Mark) > ((rd l0 s1.2).Mark))))⟩, ⟨66, [], .v (.bool ((((((!t1.2.2) || (((rd l0 s1.1).Req.Op) != 3)) || (((rd l0 s1.1).Req.Port) != (IntKind.i64.wrap (2 * a1)))) || ((rd l0 s1.1).Done && (((rd l0 s1.1).Ans.Code) != 0))) || decide (((rd l0 s1.1).Mark) < 0)) || decide (((rd l0 s1.1).Mark) > t1.1)))⟩, ⟨14, [], .v (.bool ((rd l0 s1.1).Done && (((rd l0 s1.1).Ans.Code) != 0)))⟩, ⟨12, [], .v (.int .i64 s1.1)⟩, ⟨13, [], .p 0 0⟩, ⟨25, [], .v (.bool (decide (s1.1 < (l0.length : Int))))⟩, ⟨24, [], .v (.int .i64 s1.1)⟩, ⟨23, [], .v (.int .i64 (l0.length : Int))⟩, ⟨22, [], .v (.slice A0 l0.length c0)⟩, ⟨10, [], .v (.bool t1.2.2)⟩, ⟨8, [], .v (.int .i64 t1.1)⟩, ⟨7, [], .v (.bool false)⟩, ⟨6, [], .v (.int .i64 0)⟩, ⟨0, [], .v (.slice A0 l0.length c0)⟩, ⟨1, [], .v (.int .i64 a1)⟩, ⟨2, [], .v (.int .i64 a2)⟩], [], [], [((((kd_Call).cells (rd l0 s1.1) sv5).map EV.v), 42)]⟩ (fun b => ⟨[⟨11, [], .v (.int .i64 (bif b then s1.1 else s1.2))⟩, ⟨78, [], .v (.bool (decide (s1.2 < 0) || decide (((rd l0 s1.1).Mark) > ((rd l0 s1.2).Mark))))⟩, ⟨66, [], .v (.bool ((((((!t1.2.2) || (((rd l0 s1.1).Req.Op) != 3)) || (((rd l0 s1.1).Req.Port) != (IntKind.i64.wrap (2 * a1)))) || ((rd l0 s1.1).Done && (((rd l0 s1.1).Ans.Code) != 0))) || decide (((rd l0 s1.1).Mark) < 0)) || decide (((rd l0 s1.1).Mark) > t1.1)))⟩, ⟨14, [], .v (.bool ((rd l0 s1.1).Done && (((rd l0 s1.1).Ans.Code) != 0)))⟩, ⟨12, [], .v (.int .i64 s1.1)⟩, ⟨13, [], .p 0 0⟩, ⟨25, [], .v (.bool (decide (s1.1 < (l0.length : Int))))⟩, ⟨24, [], .v (.int .i64 s1.1)⟩, ⟨23, [], .v (.int .i64 (l0.length : Int))⟩, ⟨22, [], .v (.slice A0 l0.length c0)⟩, ⟨10, [], .v (.bool t1.2.2)⟩, ⟨8, [], .v (.int .i64 t1.1)⟩, ⟨7, [], .v (.bool false)⟩, ⟨6, [], .v (.int .i64 0)⟩, ⟨0, [], .v (.slice A0 l0.length c0)⟩, ⟨1, [], .v (.int .i64 a1)⟩, ⟨2, [], .v (.int .i64 a2)⟩], [], [], [((((kd_Call).cells (rd l0 s1.1) sv5).map EV.v), 42)]⟩) (fun b => by cases b <;> rfl) (fun hc15 => ?_) (fun hc15 => ?_) (fun ns a w1 hI => ?_)
        · refine region_ (live := [11, 78, 66, 14, 12, 13, 25, 24, 23, 22, 10, 8, 7, 6, 0, 1, 2]) (orc := []) hF hI ⟨[⟨11, [], .v (.int .i64 s1.1)⟩, ⟨78, [], .v (.bool (decide (s1.2 < 0) || decide (((rd l0 s1.1).Mark) > ((rd l0 s1.2).Mark))))⟩, ⟨66, [], .v (.bool ((((((!t1.2.2) || (((rd l0 s1.1).Req.Op) != 3)) || (((rd l0 s1.1).Req.Port) != (IntKind.i64.wrap (2 * a1)))) || ((rd l0 s1.1).Done && (((rd l0 s1.1).Ans.Code) != 0))) || decide (((rd l0 s1.1).Mark) < 0)) || decide (((rd l0 s1.1).Mark) > t1.1)))⟩, ⟨14, [], .v (.bool ((rd l0 s1.1).Done && (((rd l0 s1.1).Ans.Code) != 0)))⟩, ⟨12, [], .v (.int .i64 s1.1)⟩, ⟨13, [], .p 0 0⟩, ⟨25, [], .v (.bool (decide (s1.1 < (l0.length : Int))))⟩, ⟨24, [], .v (.int .i64 s1.1)⟩, ⟨23, [], .v (.int .i64 (l0.length : Int))⟩, ⟨22, [], .v (.slice A0 l0.length c0)⟩, ⟨10, [], .v (.bool t1.2.2)⟩, ⟨8, [], .v (.int .i64 t1.1)⟩, ⟨7, [], .v (.bool false)⟩, ⟨6, [], .v (.int .i64 0)⟩, ⟨0, [], .v (.slice A0 l0.length c0)⟩, ⟨1, [], .v (.int .i64 a1)⟩, ⟨2, [], .v (.int .i64 a2)⟩], [], [], [((((kd_Call).cells (rd l0 s1.1) sv5).map EV.v), 42)]⟩ [] (by kernel_rfl) trivial (fun ns a w1 hI _ => ?_)
          refine then_normal ?_
          exact ⟨_, hI.pick [11, 78, 66, 14, 12, 13, 25, 24, 23, 22, 10, 8, 7, 6, 0, 1, 2] 1 ⟨[⟨11, [], .v (.int .i64 s1.1)⟩, ⟨78, [], .v (.bool (decide (s1.2 < 0) || decide (((rd l0 s1.1).Mark) > ((rd l0 s1.2).Mark))))⟩, ⟨66, [], .v (.bool ((((((!t1.2.2) || (((rd l0 s1.1).Req.Op) != 3)) || (((rd l0 s1.1).Req.Port) != (IntKind.i64.wrap (2 * a1)))) || ((rd l0 s1.1).Done && (((rd l0 s1.1).Ans.Code) != 0))) || decide (((rd l0 s1.1).Mark) < 0)) || decide (((rd l0 s1.1).Mark) > t1.1)))⟩, ⟨14, [], .v (.bool ((rd l0 s1.1).Done && (((rd l0 s1.1).Ans.Code) != 0)))⟩, ⟨12, [], .v (.int .i64 s1.1)⟩, ⟨13, [], .p 0 0⟩, ⟨25, [], .v (.bool (decide (s1.1 < (l0.length : Int))))⟩, ⟨24, [], .v (.int .i64 s1.1)⟩, ⟨23, [], .v (.int .i64 (l0.length : Int))⟩, ⟨22, [], .v (.slice A0 l0.length c0)⟩, ⟨10, [], .v (.bool t1.2.2)⟩, ⟨8, [], .v (.int .i64 t1.1)⟩, ⟨7, [], .v (.bool false)⟩, ⟨6, [], .v (.int .i64 0)⟩, ⟨0, [], .v (.slice A0 l0.length c0)⟩, ⟨1, [], .v (.int .i64 a1)⟩, ⟨2, [], .v (.int .i64 a2)⟩], [], [], [((((kd_Call).cells (rd l0 s1.1) sv5).map EV.v), 42)]⟩ (by kernel_rfl)⟩
        · refine wpIn_skip ?_
          refine then_normal ?_
          exact ⟨_, hI.pick [11, 78, 66, 14, 12, 13, 25, 24, 23, 22, 10, 8, 7, 6, 0, 1, 2] 1 ⟨[⟨11, [], .v (.int .i64 s1.2)⟩, ⟨78, [], .v (.bool (decide (s1.2 < 0) || decide (((rd l0 s1.1).Mark) > ((rd l0 s1.2).Mark))))⟩, ⟨66, [], .v (.bool ((((((!t1.2.2) || (((rd l0 s1.1).Req.Op) != 3)) || (((rd l0 s1.1).Req.Port) != (IntKind.i64.wrap (2 * a1)))) || ((rd l0 s1.1).Done && (((rd l0 s1.1).Ans.Code) != 0))) || decide (((rd l0 s1.1).Mark) < 0)) || decide (((rd l0 s1.1).Mark) > t1.1)))⟩, ⟨14, [], .v (.bool ((rd l0 s1.1).Done && (((rd l0 s1.1).Ans.Code) != 0)))⟩, ⟨12, [], .v (.int .i64 s1.1)⟩, ⟨13, [], .p 0 0⟩, ⟨25, [], .v (.bool (decide (s1.1 < (l0.length : Int))))⟩, ⟨24, [], .v (.int .i64 s1.1)⟩, ⟨23, [], .v (.int .i64 (l0.length : Int))⟩, ⟨22, [], .v (.slice A0 l0.length c0)⟩, ⟨10, [], .v (.bool t1.2.2)⟩, ⟨8, [], .v (.int .i64 t1.1)⟩, ⟨7, [], .v (.bool false)⟩, ⟨6, [], .v (.int .i64 0)⟩, ⟨0, [], .v (.slice A0 l0.length c0)⟩, ⟨1, [], .v (.int .i64 a1)⟩, ⟨2, [], .v (.int .i64 a2)⟩], [], [], [((((kd_Call).cells (rd l0 s1.1) sv5).map EV.v), 42)]⟩ (by kernel_rfl)⟩
        · refine inBlock_normal ?_
          refine then_normal ?_
          refine region_ (live := [24, 11, 78, 66, 14, 12, 13, 25, 23, 22, 10, 8, 7, 6, 0, 1, 2]) (orc := []) hF hI ⟨[⟨24, [], .v (.int .i64 (IntKind.i64.wrap (s1.1 + 1)))⟩, ⟨11, [], .v (.int .i64 (bif (decide (s1.2 < 0) || decide (((rd l0 s1.1).Mark) > ((rd l0 s1.2).Mark))) then s1.1 else s1.2))⟩, ⟨78, [], .v (.bool (decide (s1.2 < 0) || decide (((rd l0 s1.1).Mark) > ((rd l0 s1.2).Mark))))⟩, ⟨66, [], .v (.bool ((((((!t1.2.2) || (((rd l0 s1.1).Req.Op) != 3)) || (((rd l0 s1.1).Req.Port) != (IntKind.i64.wrap (2 * a1)))) || ((rd l0 s1.1).Done && (((rd l0 s1.1).Ans.Code) != 0))) || decide (((rd l0 s1.1).Mark) < 0)) || decide (((rd l0 s1.1).Mark) > t1.1)))⟩, ⟨14, [], .v (.bool ((rd l0 s1.1).Done && (((rd l0 s1.1).Ans.Code) != 0)))⟩, ⟨12, [], .v (.int .i64 s1.1)⟩, ⟨13, [], .p 0 0⟩, ⟨25, [], .v (.bool (decide (s1.1 < (l0.length : Int))))⟩, ⟨23, [], .v (.int .i64 (l0.length : Int))⟩, ⟨22, [], .v (.slice A0 l0.length c0)⟩, ⟨10, [], .v (.bool t1.2.2)⟩, ⟨8, [], .v (.int .i64 t1.1)⟩, ⟨7, [], .v (.bool false)⟩, ⟨6, [], .v (.int .i64 0)⟩, ⟨0, [], .v (.slice A0 l0.length c0)⟩, ⟨1, [], .v (.int .i64 a1)⟩, ⟨2, [], .v (.int .i64 a2)⟩], [], [], [((((kd_Call).cells (rd l0 s1.1) sv5).map EV.v), 42)]⟩ [] (by kernel_rfl) trivial (fun ns a w1 hI _ => ?_)
          refine then_normal ?_
          obtain rfl := Option.some.inj H1
          exact ⟨_, rfl, _, hI.pick [24, 23, 22, 11, 10, 8, 7, 6, 0, 1, 2] 0 ⟨[⟨24, [], .v (.int .i64 (IntKind.i64.wrap (s1.1 + 1)))⟩, ⟨23, [], .v (.int .i64 (l0.length : Int))⟩, ⟨22, [], .v (.slice A0 l0.length c0)⟩, ⟨11, [], .v (.int .i64 (bif (decide (s1.2 < 0) || decide (((rd l0 s1.1).Mark) > ((rd l0 s1.2).Mark))) then s1.1 else s1.2))⟩, ⟨10, [], .v (.bool t1.2.2)⟩, ⟨8, [], .v (.int .i64 t1.1)⟩, ⟨7, [], .v (.bool false)⟩, ⟨6, [], .v (.int .i64 0)⟩, ⟨0, [], .v (.slice A0 l0.length c0)⟩, ⟨1, [], .v (.int .i64 a1)⟩, ⟨2, [], .v (.int .i64 a2)⟩], [], [], []⟩ (by kernel_rfl)⟩
    · replace H1 := bif_f hc3 H1
      refine wpIn_exit ?_
      refine then_exit ?_
      refine then_exit ?_
      obtain rfl := Option.some.inj H1
      exact .inl ⟨_, rfl, rfl, _, hI.pick [24, 23, 22, 11, 10, 8, 7, 6, 0, 1, 2] 0 ⟨[⟨24, [], .v (.int .i64 s1.1)⟩, ⟨23, [], .v (.int .i64 (l0.length : Int))⟩, ⟨22, [], .v (.slice A0 l0.length c0)⟩, ⟨11, [], .v (.int .i64 s1.2)⟩, ⟨10, [], .v (.bool t1.2.2)⟩, ⟨8, [], .v (.int .i64 t1.1)⟩, ⟨7, [], .v (.bool false)⟩, ⟨6, [], .v (.int .i64 0)⟩, ⟨0, [], .v (.slice A0 l0.length c0)⟩, ⟨1, [], .v (.int .i64 a1)⟩, ⟨2, [], .v (.int .i64 a2)⟩], [], [], []⟩ (by kernel_rfl)⟩
  · clear hI
    rintro s1 a w1 ho ⟨ns, hI⟩
    subst ho
    replace H0 : some ((mxI s1.2 0), decide (s1.2 ≥ 0)) = _ := H0
    refine then_normal ?_
    refine seq_region (live := [7, 6, 24, 23, 22, 11, 10, 8, 0, 1, 2]) (orc := []) hF hI ⟨[⟨7, [], .v (.bool (decide (s1.2 ≥ 0)))⟩, ⟨6, [], .v (.int .i64 (mxI s1.2 0))⟩, ⟨24, [], .v (.int .i64 s1.1)⟩, ⟨23, [], .v (.int .i64 (l0.length : Int))⟩, ⟨22, [], .v (.slice A0 l0.length c0)⟩, ⟨11, [], .v (.int .i64 s1.2)⟩, ⟨10, [], .v (.bool t1.2.2)⟩, ⟨8, [], .v (.int .i64 t1.1)⟩, ⟨0, [], .v (.slice A0 l0.length c0)⟩, ⟨1, [], .v (.int .i64 a1)⟩, ⟨2, [], .v (.int .i64 a2)⟩], [], [], []⟩ [] (by kernel_rfl) trivial (fun ns a w1 hI _ => ?_)
    refine wpIn_ret ?_
    obtain rfl := Option.some.inj H0
    exact ret2 hI rfl rfl rfl ⟨rfl, hI.loc.base.below⟩

/-! ### porthole/portholeref17.Place: function 27 -/
noncomputable def G_ref17_Place (l0 : (List Call)) (a1 : Int) : Option (Portholeref17_Spot) := (req (inb a1 l0.length) (bif decide (((rd l0 a1).Mark) ≥ 0) then some (⟨(rd l0 a1).Mark, false, true⟩ : Portholeref17_Spot) else (bif ((!((rd l0 a1).Done)) || (((rd l0 a1).Req.Op) != 4)) then some (⟨0, false, false⟩ : Portholeref17_Spot) else (req (imp (decide (((rd l0 a1).Saw) ≥ 0)) (inb ((rd l0 a1).Saw) l0.length)) (bif (decide (((rd l0 a1).Saw) ≥ 0) && decide (((rd l0 ((rd l0 a1).Saw)).Mark) > ((rd l0 a1).From))) then (req (inb ((rd l0 a1).Saw) l0.length) (some (⟨(rd l0 ((rd l0 a1).Saw)).Mark, true, true⟩ : Portholeref17_Spot))) else some (⟨(rd l0 a1).From, true, true⟩ : Portholeref17_Spot))))))
set_option maxRecDepth 100000 in
set_option maxHeartbeats 4000000 in
theorem G_ref17_Place.calls (l0 : (List Call)) (a1 : Int) (A0 : Option Addr) (c0 : Nat) (w : World) {S0 : Nat → Prop} (hr0 : Arr kd_Call S0 w A0 l0) (hc0 : l0.length ≤ c0) (r : Portholeref17_Spot) (h : G_ref17_Place l0 a1 = some r) :
    Calls Try.prog 27 #[.slice A0 l0.length c0, .int .i64 a1] w fun e w' => e = .returned (.agg ((kd_Portholeref17_Spot).cells r (svL [])).toArray) ∧ Below w.heap.size w w' := by
  replace hr0 := hr0.low
  unfold G_ref17_Place at h
  have H0 := h
  clear h
  refine enter Try.func27 rfl [.slice A0 l0.length c0, .int .i64 a1] (n := 50) rfl (Nat.le_of_ble_eq_true rfl) (fun a hI => ?_)
  have hF : FOpen Fence.wide := .inl rfl
  refine seq_region (live := [4, 0, 1]) (orc := []) hF hI ⟨[⟨4, [], .p 0 0⟩, ⟨0, [], .v (.slice A0 l0.length c0)⟩, ⟨1, [], .v (.int .i64 a1)⟩], [], [], [([.v (.int .i64 0), .v (.bool false), .v (.bool false)], 55)]⟩ [] (by kernel_rfl) trivial (fun ns a w1 hI _ => ?_)
  obtain ⟨hN1, H0⟩ := req_some H0
  obtain ⟨sv2, hC3, hA4, hE5⟩ := Arr.get (d := kd_Call) hr0 a1 true (fun _ => hN1)
  refine seq_region (live := [5, 4, 0, 1]) (orc := [(kd_Call).cells (rd l0 a1) sv2]) hF hI ⟨[⟨5, [], .p 1 0⟩, ⟨4, [], .p 0 0⟩, ⟨0, [], .v (.slice A0 l0.length c0)⟩, ⟨1, [], .v (.int .i64 a1)⟩], [], [], [([.v (.int .i64 0), .v (.bool false), .v (.bool false)], 55), ((((kd_Call).cells (rd l0 a1) sv2).map EV.v), 42)]⟩ [.need true (0 ≤ a1 ∧ a1 < (l0.length : Int)), .need true (A0 = some (adr A0)), .cell true ((adr A0).add ((a1 : Int).toNat * 20)) ((kd_Call).cells (rd l0 a1) sv2)] (by kernel_rfl) ⟨ob_inb (fun _ => hN1), hA4, ob_cell (fun hg => hE5 rfl) 0 ((kd_Call).cells (rd l0 a1) sv2) rfl, trivial⟩ (fun ns a w1 hI _ => ?_)
  refine wpIn_seq ?_
  refine seq_region (live := [13, 5, 4, 0, 1]) (orc := []) hF hI ⟨[⟨13, [], .v (.bool (decide (((rd l0 a1).Mark) ≥ 0)))⟩, ⟨5, [], .p 1 0⟩, ⟨4, [], .p 0 0⟩, ⟨0, [], .v (.slice A0 l0.length c0)⟩, ⟨1, [], .v (.int .i64 a1)⟩], [], [], [([.v (.int .i64 0), .v (.bool false), .v (.bool false)], 55), ((((kd_Call).cells (rd l0 a1) sv2).map EV.v), 42)]⟩ [] (by kernel_rfl) trivial (fun ns a w1 hI _ => ?_)
  refine cond_ hI (decide (((rd l0 a1).Mark) ≥ 0)) rfl (fun hc6 => ?_) (fun hc6 => ?_)
  · replace H0 := bif_t hc6 H0
    refine seq_region (live := [13, 5, 4, 0, 1]) (orc := []) hF hI ⟨[⟨13, [], .v (.bool (decide (((rd l0 a1).Mark) ≥ 0)))⟩, ⟨5, [], .p 1 0⟩, ⟨4, [], .p 0 0⟩, ⟨0, [], .v (.slice A0 l0.length c0)⟩, ⟨1, [], .v (.int .i64 a1)⟩], [], [], [([.v (.int .i64 ((rd l0 a1).Mark)), .v (.bool false), .v (.bool true)], 55), ((((kd_Call).cells (rd l0 a1) sv2).map EV.v), 42)]⟩ [] (by kernel_rfl) trivial (fun ns a w1 hI _ => ?_)
    refine wpIn_ret ?_
    refine then_ret ?_
    obtain rfl := Option.some.inj H0
    exact retCell hI rfl rfl rfl rfl rfl rfl ⟨rfl, hI.loc.base.below⟩
  · replace H0 := bif_f hc6 H0
    refine wpIn_skip ?_
    refine then_normal ?_
    refine wpIn_seq ?_
    refine seq_region (live := [25, 13, 5, 4, 0, 1]) (orc := []) hF hI ⟨[⟨25, [], .v (.bool ((!((rd l0 a1).Done)) || (((rd l0 a1).Req.Op) != 4)))⟩, ⟨13, [], .v (.bool (decide (((rd l0 a1).Mark) ≥ 0)))⟩, ⟨5, [], .p 1 0⟩, ⟨4, [], .p 0 0⟩, ⟨0, [], .v (.slice A0 l0.length c0)⟩, ⟨1, [], .v (.int .i64 a1)⟩], [], [], [([.v (.int .i64 0), .v (.bool false), .v (.bool false)], 55), ((((kd_Call).cells (rd l0 a1) sv2).map EV.v), 42)]⟩ [] (by kernel_rfl) trivial (fun ns a w1 hI _ => ?_)
    refine cond_ hI (((!((rd l0 a1).Done)) || (((rd l0 a1).Req.Op) != 4))) rfl (fun hc7 => ?_) (fun hc7 => ?_)
    · replace H0 := bif_t hc7 H0
      refine seq_region (live := [25, 13, 5, 4, 0, 1]) (orc := []) hF hI ⟨[⟨25, [], .v (.bool ((!((rd l0 a1).Done)) || (((rd l0 a1).Req.Op) != 4)))⟩, ⟨13, [], .v (.bool (decide (((rd l0 a1).Mark) ≥ 0)))⟩, ⟨5, [], .p 1 0⟩, ⟨4, [], .p 0 0⟩, ⟨0, [], .v (.slice A0 l0.length c0)⟩, ⟨1, [], .v (.int .i64 a1)⟩], [], [], [([.v (.int .i64 0), .v (.bool false), .v (.bool false)], 55), ((((kd_Call).cells (rd l0 a1) sv2).map EV.v), 42)]⟩ [] (by kernel_rfl) trivial (fun ns a w1 hI _ => ?_)
      refine wpIn_ret ?_
      refine then_ret ?_
      obtain rfl := Option.some.inj H0
      exact retCell hI rfl rfl rfl rfl rfl rfl ⟨rfl, hI.loc.base.below⟩
    · replace H0 := bif_f hc7 H0
      refine wpIn_skip ?_
      refine then_normal ?_
      refine seq_region (live := [6, 25, 13, 5, 4, 0, 1]) (orc := []) hF hI ⟨[⟨6, [], .v (.int .i64 ((rd l0 a1).From))⟩, ⟨25, [], .v (.bool ((!((rd l0 a1).Done)) || (((rd l0 a1).Req.Op) != 4)))⟩, ⟨13, [], .v (.bool (decide (((rd l0 a1).Mark) ≥ 0)))⟩, ⟨5, [], .p 1 0⟩, ⟨4, [], .p 0 0⟩, ⟨0, [], .v (.slice A0 l0.length c0)⟩, ⟨1, [], .v (.int .i64 a1)⟩], [], [], [([.v (.int .i64 0), .v (.bool false), .v (.bool false)], 55), ((((kd_Call).cells (rd l0 a1) sv2).map EV.v), 42)]⟩ [] (by kernel_rfl) trivial (fun ns a w1 hI _ => ?_)
      refine wpIn_seq ?_
      obtain ⟨hN8, H0⟩ := req_some H0
      obtain ⟨sv9, hC10, hA11, hE12⟩ := Arr.get (d := kd_Call) hr0 ((rd l0 a1).Saw) (decide (((rd l0 a1).Saw) ≥ 0)) (fun hg => imp_spec hN8 hg)
      refine seq_region (live := [41, 6, 25, 13, 5, 4, 0, 1]) (orc := [[.int .i64 ((rd l0 ((rd l0 a1).Saw)).Mark)]]) hF hI ⟨[⟨41, [], .v (.bool (decide (((rd l0 a1).Saw) ≥ 0) && decide (((rd l0 ((rd l0 a1).Saw)).Mark) > ((rd l0 a1).From))))⟩, ⟨6, [], .v (.int .i64 ((rd l0 a1).From))⟩, ⟨25, [], .v (.bool ((!((rd l0 a1).Done)) || (((rd l0 a1).Req.Op) != 4)))⟩, ⟨13, [], .v (.bool (decide (((rd l0 a1).Mark) ≥ 0)))⟩, ⟨5, [], .p 1 0⟩, ⟨4, [], .p 0 0⟩, ⟨0, [], .v (.slice A0 l0.length c0)⟩, ⟨1, [], .v (.int .i64 a1)⟩], [], [], [([.v (.int .i64 0), .v (.bool false), .v (.bool false)], 55), ((((kd_Call).cells (rd l0 a1) sv2).map EV.v), 42)]⟩ [.need (decide (((rd l0 a1).Saw) ≥ 0)) (0 ≤ ((rd l0 a1).Saw) ∧ ((rd l0 a1).Saw) < (l0.length : Int)), .need (decide (((rd l0 a1).Saw) ≥ 0)) (A0 = some (adr A0)), .cell (decide (((rd l0 a1).Saw) ≥ 0)) (((adr A0).add ((((rd l0 a1).Saw) : Int).toNat * 20)).add 16) [.int .i64 ((rd l0 ((rd l0 a1).Saw)).Mark)]] (by kernel_rfl) ⟨ob_inb (fun hg => imp_spec hN8 hg), hA11, ob_cell (fun hg => hE12 hg) 16 [.int .i64 ((rd l0 ((rd l0 a1).Saw)).Mark)] rfl, trivial⟩ (fun ns a w1 hI _ => ?_)
      refine cond_ hI ((decide (((rd l0 a1).Saw) ≥ 0) && decide (((rd l0 ((rd l0 a1).Saw)).Mark) > ((rd l0 a1).From)))) rfl (fun hc13 => ?_) (fun hc13 => ?_)
      · replace H0 := bif_t hc13 H0
        obtain ⟨hN14, H0⟩ := req_some H0
        obtain ⟨sv15, hC16, hA17, hE18⟩ := Arr.get (d := kd_Call) hr0 ((rd l0 a1).Saw) true (fun _ => hN14)
        refine region_ (live := [6, 41, 25, 13, 5, 4, 0, 1]) (orc := [[.int .i64 ((rd l0 ((rd l0 a1).Saw)).Mark)]]) hF hI ⟨[⟨6, [], .v (.int .i64 ((rd l0 ((rd l0 a1).Saw)).Mark))⟩, ⟨41, [], .v (.bool (decide (((rd l0 a1).Saw) ≥ 0) && decide (((rd l0 ((rd l0 a1).Saw)).Mark) > ((rd l0 a1).From))))⟩, ⟨25, [], .v (.bool ((!((rd l0 a1).Done)) || (((rd l0 a1).Req.Op) != 4)))⟩, ⟨13, [], .v (.bool (decide (((rd l0 a1).Mark) ≥ 0)))⟩, ⟨5, [], .p 1 0⟩, ⟨4, [], .p 0 0⟩, ⟨0, [], .v (.slice A0 l0.length c0)⟩, ⟨1, [], .v (.int .i64 a1)⟩], [], [], [([.v (.int .i64 0), .v (.bool false), .v (.bool false)], 55), ((((kd_Call).cells (rd l0 a1) sv2).map EV.v), 42)]⟩ [.need true (0 ≤ ((rd l0 a1).Saw) ∧ ((rd l0 a1).Saw) < (l0.length : Int)), .need true (A0 = some (adr A0)), .cell true (((adr A0).add ((((rd l0 a1).Saw) : Int).toNat * 20)).add 16) [.int .i64 ((rd l0 ((rd l0 a1).Saw)).Mark)]] (by kernel_rfl) ⟨ob_inb (fun _ => hN14), hA17, ob_cell (fun hg => hE18 rfl) 16 [.int .i64 ((rd l0 ((rd l0 a1).Saw)).Mark)] rfl, trivial⟩ (fun ns a w1 hI _ => ?_)
        refine then_normal ?_
        refine seq_region (live := [6, 41, 25, 13, 5, 4, 0, 1]) (orc := []) hF hI ⟨[⟨6, [], .v (.int .i64 ((rd l0 ((rd l0 a1).Saw)).Mark))⟩, ⟨41, [], .v (.bool (decide (((rd l0 a1).Saw) ≥ 0) && decide (((rd l0 ((rd l0 a1).Saw)).Mark) > ((rd l0 a1).From))))⟩, ⟨25, [], .v (.bool ((!((rd l0 a1).Done)) || (((rd l0 a1).Req.Op) != 4)))⟩, ⟨13, [], .v (.bool (decide (((rd l0 a1).Mark) ≥ 0)))⟩, ⟨5, [], .p 1 0⟩, ⟨4, [], .p 0 0⟩, ⟨0, [], .v (.slice A0 l0.length c0)⟩, ⟨1, [], .v (.int .i64 a1)⟩], [], [], [([.v (.int .i64 ((rd l0 ((rd l0 a1).Saw)).Mark)), .v (.bool true), .v (.bool true)], 55), ((((kd_Call).cells (rd l0 a1) sv2).map EV.v), 42)]⟩ [] (by kernel_rfl) trivial (fun ns a w1 hI _ => ?_)
        refine wpIn_ret ?_
        obtain rfl := Option.some.inj H0
        exact retCell hI rfl rfl rfl rfl rfl rfl ⟨rfl, hI.loc.base.below⟩
      · replace H0 := bif_f hc13 H0
        refine wpIn_skip ?_
        refine then_normal ?_
        refine seq_region (live := [41, 6, 25, 13, 5, 4, 0, 1]) (orc := []) hF hI ⟨[⟨41, [], .v (.bool (decide (((rd l0 a1).Saw) ≥ 0) && decide (((rd l0 ((rd l0 a1).Saw)).Mark) > ((rd l0 a1).From))))⟩, ⟨6, [], .v (.int .i64 ((rd l0 a1).From))⟩, ⟨25, [], .v (.bool ((!((rd l0 a1).Done)) || (((rd l0 a1).Req.Op) != 4)))⟩, ⟨13, [], .v (.bool (decide (((rd l0 a1).Mark) ≥ 0)))⟩, ⟨5, [], .p 1 0⟩, ⟨4, [], .p 0 0⟩, ⟨0, [], .v (.slice A0 l0.length c0)⟩, ⟨1, [], .v (.int .i64 a1)⟩], [], [], [([.v (.int .i64 ((rd l0 a1).From)), .v (.bool true), .v (.bool true)], 55), ((((kd_Call).cells (rd l0 a1) sv2).map EV.v), 42)]⟩ [] (by kernel_rfl) trivial (fun ns a w1 hI _ => ?_)
        refine wpIn_ret ?_
        obtain rfl := Option.some.inj H0
        exact retCell hI rfl rfl rfl rfl rfl rfl ⟨rfl, hI.loc.base.below⟩

/-! ### porthole/portholeref24.write: function 37 -/
noncomputable def G_ref24_write (x0 : Call) (a1 : Int) : Option (Bool) := some ((((x0.Req.Op == 3) && (x0.Req.Port == (IntKind.i64.wrap (2 * a1)))) && decide (x0.Mark ≥ 0)) && ((!x0.Done) || (x0.Ans.Code == 0)))
set_option maxRecDepth 100000 in
set_option maxHeartbeats 4000000 in
theorem G_ref24_write.calls (x0 : Call) (a1 : Int) (sv0 : SV) (w : World) {S0 : Nat → Prop} (hx0 : (kd_Call).cont S0 w x0 sv0) (r : Bool) (h : G_ref24_write x0 a1 = some r) :
    Calls Try.prog 37 #[.agg ((kd_Call).cells x0 sv0).toArray, .int .i64 a1] w fun e w' => e = .returned (.bool r) ∧ Below w.heap.size w w' := by
  replace hx0 := Kd.low _ hx0
  unfold G_ref24_write at h
  have H0 := h
  clear h
  refine enter Try.func37 rfl [.agg ((kd_Call).cells x0 sv0).toArray, .int .i64 a1] (n := 33) rfl (Nat.le_of_ble_eq_true rfl) (fun a hI => ?_)
  have hF : FOpen Fence.wide := .inl rfl
  refine seq_region (live := [4, 2, 0, 1]) (orc := []) hF hI ⟨[⟨4, [], .v (.bool false)⟩, ⟨2, [], .p 0 0⟩, ⟨0, [], .v (.agg ((kd_Call).cells x0 sv0).toArray)⟩, ⟨1, [], .v (.int .i64 a1)⟩], [], [], [((((kd_Call).cells x0 sv0).map EV.v), 42)]⟩ [] (by kernel_rfl) trivial (fun ns a w1 hI _ => ?_)
  refine seq_region (live := [4, 2, 0, 1]) (orc := []) hF hI ⟨[⟨4, [], .v (.bool ((((x0.Req.Op == 3) && (x0.Req.Port == (IntKind.i64.wrap (2 * a1)))) && decide (x0.Mark ≥ 0)) && ((!x0.Done) || (x0.Ans.Code == 0))))⟩, ⟨2, [], .p 0 0⟩, ⟨0, [], .v (.agg ((kd_Call).cells x0 sv0).toArray)⟩, ⟨1, [], .v (.int .i64 a1)⟩], [], [], [((((kd_Call).cells x0 sv0).map EV.v), 42)]⟩ [] (by kernel_rfl) trivial (fun ns a w1 hI _ => ?_)
  refine wpIn_ret ?_
  obtain rfl := Option.some.inj H0
  exact ret1 hI rfl rfl ⟨rfl, hI.loc.base.below⟩

/-! ### porthole/portholeref24.Last: function 17 -/
noncomputable def G_ref24_Last.b1 (l0 : (List Call)) (a1 : Int) (a2 : Int) (t2 : Portholeref17_Spot) (s1 : Int × Int) : Option (Stp (Int × Int) (Ex (Int × Int) (Int))) := (bif (decide (s1.1 < (l0.length : Int)) && t2.Is) then (req (inb s1.1 l0.length) ((G_ref24_write (rd l0 s1.1) a1).bind fun t10 => (req (imp t10 (inb s1.1 l0.length)) (req (imp ((t10 && decide (((rd l0 s1.1).Mark) ≤ t2.At)) && (!(decide (s1.2 < 0)))) (inb s1.1 l0.length)) (req (imp ((t10 && decide (((rd l0 s1.1).Mark) ≤ t2.At)) && (!(decide (s1.2 < 0)))) (inb s1.2 l0.length)) (some (.next ((IntKind.i64.wrap (s1.1 + 1)), (bif ((t10 && decide (((rd l0 s1.1).Mark) ≤ t2.At)) && (decide (s1.2 < 0) || decide (((rd l0 s1.1).Mark) > ((rd l0 s1.2).Mark)))) then s1.1 else s1.2))))))))) else some (.out (.brk (s1.1, s1.2))))
noncomputable def G_ref24_Last (l0 : (List Call)) (a1 : Int) (a2 : Int) : Option (Int) := (bif (decide (a2 < 0) || decide (a2 ≥ (l0.length : Int))) then some (-1) else ((G_ref17_Place l0 a2).bind fun t2 => ((loopω (G_ref24_Last.b1 l0 a1 a2 t2) (0, (-1))).bind fun o => o.on (fun s1 => some s1.2) (fun r => some r))))
set_option maxRecDepth 100000 in
set_option maxHeartbeats 4000000 in
theorem G_ref24_Last.calls (l0 : (List Call)) (a1 : Int) (a2 : Int) (A0 : Option Addr) (c0 : Nat) (w : World) {S0 : Nat → Prop} (hr0 : Arr kd_Call S0 w A0 l0) (hc0 : l0.length ≤ c0) (r : Int) (h : G_ref24_Last l0 a1 a2 = some r) :
    Calls Try.prog 17 #[.slice A0 l0.length c0, .int .i64 a1, .int .i64 a2] w fun e w' => e = .returned (.int .i64 r) ∧ Below w.heap.size w w' := by
  replace hr0 := hr0.low
  unfold G_ref24_Last at h
  have H0 := h
  clear h
  refine enter Try.func17 rfl [.slice A0 l0.length c0, .int .i64 a1, .int .i64 a2] (n := 66) rfl (Nat.le_of_ble_eq_true rfl) (fun a hI => ?_)
  have hF : FOpen Fence.wide := .inl rfl
  refine seq_region (live := [6, 0, 1, 2]) (orc := []) hF hI ⟨[⟨6, [], .v (.int .i64 0)⟩, ⟨0, [], .v (.slice A0 l0.length c0)⟩, ⟨1, [], .v (.int .i64 a1)⟩, ⟨2, [], .v (.int .i64 a2)⟩], [], [], []⟩ [] (by kernel_rfl) trivial (fun ns a w1 hI _ => ?_)
  refine wpIn_seq ?_
  refine seq_region (live := [17, 6, 0, 1, 2]) (orc := []) hF hI ⟨[⟨17, [], .v (.bool (decide (a2 < 0) || decide (a2 ≥ (l0.length : Int))))⟩, ⟨6, [], .v (.int .i64 0)⟩, ⟨0, [], .v (.slice A0 l0.length c0)⟩, ⟨1, [], .v (.int .i64 a1)⟩, ⟨2, [], .v (.int .i64 a2)⟩], [], [], []⟩ [] (by kernel_rfl) trivial (fun ns a w1 hI _ => ?_)
  refine cond_ hI ((decide (a2 < 0) || decide (a2 ≥ (l0.length : Int)))) rfl (fun hc1 => ?_) (fun hc1 => ?_)
  · replace H0 := bif_t hc1 H0
    refine seq_region (live := [6, 17, 0, 1, 2]) (orc := []) hF hI ⟨[⟨6, [], .v (.int .i64 (-1))⟩, ⟨17, [], .v (.bool (decide (a2 < 0) || decide (a2 ≥ (l0.length : Int))))⟩, ⟨0, [], .v (.slice A0 l0.length c0)⟩, ⟨1, [], .v (.int .i64 a1)⟩, ⟨2, [], .v (.int .i64 a2)⟩], [], [], []⟩ [] (by kernel_rfl) trivial (fun ns a w1 hI _ => ?_)
    refine wpIn_ret ?_
    refine then_ret ?_
    obtain rfl := Option.some.inj H0
    exact ret1 hI rfl rfl ⟨rfl, hI.loc.base.below⟩
  · replace H0 := bif_f hc1 H0
    refine wpIn_skip ?_
    refine then_normal ?_
    obtain ⟨t2, hG3, H0⟩ := bind_some H0
    refine seq_region (live := [7, 17, 6, 0, 1, 2]) (orc := [[.agg ((kd_Portholeref17_Spot).cells t2 (svL [])).toArray]]) hF hI ⟨[⟨7, [], .p 0 0⟩, ⟨17, [], .v (.bool (decide (a2 < 0) || decide (a2 ≥ (l0.length : Int))))⟩, ⟨6, [], .v (.int .i64 0)⟩, ⟨0, [], .v (.slice A0 l0.length c0)⟩, ⟨1, [], .v (.int .i64 a1)⟩, ⟨2, [], .v (.int .i64 a2)⟩], [], [], [((((kd_Portholeref17_Spot).cells t2 (svL [])).map EV.v), 55)]⟩ [.call true 27 [.slice A0 l0.length c0, .int .i64 a2] (.agg ((kd_Portholeref17_Spot).cells t2 (svL [])).toArray)] (by kernel_rfl) ⟨ob_call (enters Try.func27 (by kernel_rfl) rfl) (fun hg w1 hk => G_ref17_Place.calls l0 a2 A0 c0 w1 (Arr.on hr0 hk) hc0 _ hG3), trivial⟩ (fun ns a w1 hI _ => ?_)
    refine seq_region (live := [8, 7, 17, 6, 0, 1, 2]) (orc := []) hF hI ⟨[⟨8, [], .v (.int .i64 (-1))⟩, ⟨7, [], .p 0 0⟩, ⟨17, [], .v (.bool (decide (a2 < 0) || decide (a2 ≥ (l0.length : Int))))⟩, ⟨6, [], .v (.int .i64 0)⟩, ⟨0, [], .v (.slice A0 l0.length c0)⟩, ⟨1, [], .v (.int .i64 a1)⟩, ⟨2, [], .v (.int .i64 a2)⟩], [], [], [((((kd_Portholeref17_Spot).cells t2 (svL [])).map EV.v), 55)]⟩ [] (by kernel_rfl) trivial (fun ns a w1 hI _ => ?_)
    refine wpIn_seq ?_
    refine seq_region (live := [9, 8, 7, 17, 6, 0, 1, 2]) (orc := []) hF hI ⟨[⟨9, [], .v (.int .i64 0)⟩, ⟨8, [], .v (.int .i64 (-1))⟩, ⟨7, [], .p 0 0⟩, ⟨17, [], .v (.bool (decide (a2 < 0) || decide (a2 ≥ (l0.length : Int))))⟩, ⟨6, [], .v (.int .i64 0)⟩, ⟨0, [], .v (.slice A0 l0.length c0)⟩, ⟨1, [], .v (.int .i64 a1)⟩, ⟨2, [], .v (.int .i64 a2)⟩], [], [], [((((kd_Portholeref17_Spot).cells t2 (svL [])).map EV.v), 55)]⟩ [] (by kernel_rfl) trivial (fun ns a w1 hI _ => ?_)
    obtain ⟨o28, hL29, H0⟩ := bind_some H0
    refine block_loop (fun s1 a w1 => ∃ ns, St w [] 66 ⟨[⟨9, [], .v (.int .i64 s1.1)⟩, ⟨8, [], .v (.int .i64 s1.2)⟩, ⟨7, [], .p 0 0⟩, ⟨17, [], .v (.bool (decide (a2 < 0) || decide (a2 ≥ (l0.length : Int))))⟩, ⟨6, [], .v (.int .i64 0)⟩, ⟨0, [], .v (.slice A0 l0.length c0)⟩, ⟨1, [], .v (.int .i64 a1)⟩, ⟨2, [], .v (.int .i64 a2)⟩], [], [], [((((kd_Portholeref17_Spot).cells t2 (svL [])).map EV.v), 55)]⟩ ns a w1) (0, (-1)) hL29 ⟨_, hI.pick [9, 8, 7, 17, 6, 0, 1, 2] 1 ⟨[⟨9, [], .v (.int .i64 0)⟩, ⟨8, [], .v (.int .i64 (-1))⟩, ⟨7, [], .p 0 0⟩, ⟨17, [], .v (.bool (decide (a2 < 0) || decide (a2 ≥ (l0.length : Int))))⟩, ⟨6, [], .v (.int .i64 0)⟩, ⟨0, [], .v (.slice A0 l0.length c0)⟩, ⟨1, [], .v (.int .i64 a1)⟩, ⟨2, [], .v (.int .i64 a2)⟩], [], [], [((((kd_Portholeref17_Spot).cells t2 (svL [])).map EV.v), 55)]⟩ (by kernel_rfl)⟩ ?_ ?_
    · clear hI
      rintro s1 a w1 ⟨ns, hI⟩ r1 H1
      unfold G_ref24_Last.b1 at H1
      refine wpIn_seq ?_
      refine seq_region (live := [28, 9, 8, 7, 17, 6, 0, 1, 2]) (orc := []) hF hI ⟨[⟨28, [], .v (.bool (decide (s1.1 < (l0.length : Int)) && t2.Is))⟩, ⟨9, [], .v (.int .i64 s1.1)⟩, ⟨8, [], .v (.int .i64 s1.2)⟩, ⟨7, [], .p 0 0⟩, ⟨17, [], .v (.bool (decide (a2 < 0) || decide (a2 ≥ (l0.length : Int))))⟩, ⟨6, [], .v (.int .i64 0)⟩, ⟨0, [], .v (.slice A0 l0.length c0)⟩, ⟨1, [], .v (.int .i64 a1)⟩, ⟨2, [], .v (.int .i64 a2)⟩], [], [], [((((kd_Portholeref17_Spot).cells t2 (svL [])).map EV.v), 55)]⟩ [] (by kernel_rfl) trivial (fun ns a w1 hI _ => ?_)
      refine cond_ hI ((decide (s1.1 < (l0.length : Int)) && t2.Is)) rfl (fun hc4 => ?_) (fun hc4 => ?_)
      · replace H1 := bif_t hc4 H1
        refine wpIn_skip ?_
        refine then_normal ?_
        refine wpIn_seq ?_
        refine wpIn_block ?_
        refine wpIn_seq ?_
        obtain ⟨hN5, H1⟩ := req_some H1
        obtain ⟨sv6, hC7, hA8, hE9⟩ := Arr.get (d := kd_Call) hr0 s1.1 true (fun _ => hN5)
        obtain ⟨t10, hG11, H1⟩ := bind_some H1
        obtain ⟨hN12, H1⟩ := req_some H1
        obtain ⟨sv13, hC14, hA15, hE16⟩ := Arr.get (d := kd_Call) hr0 s1.1 t10 (fun hg => imp_spec hN12 hg)
        obtain ⟨hN17, H1⟩ := req_some H1
        obtain ⟨sv18, hC19, hA20, hE21⟩ := Arr.get (d := kd_Call) hr0 s1.1 ((t10 && decide (((rd l0 s1.1).Mark) ≤ t2.At)) && (!(decide (s1.2 < 0)))) (fun hg => imp_spec hN17 hg)
        obtain ⟨hN22, H1⟩ := req_some H1
        obtain ⟨sv23, hC24, hA25, hE26⟩ := Arr.get (d := kd_Call) hr0 s1.2 ((t10 && decide (((rd l0 s1.1).Mark) ≤ t2.At)) && (!(decide (s1.2 < 0)))) (fun hg => imp_spec hN22 hg)
        refine drawn_ (live := [63, 28, 9, 8, 7, 17, 6, 0, 1, 2]) (orc := [(kd_Call).cells (rd l0 s1.1) sv6, [.bool t10], [.int .i64 ((rd l0 s1.1).Mark)], [.int .i64 ((rd l0 s1.1).Mark)], [.int .i64 ((rd l0 s1.2).Mark)]]) hF hI ⟨[⟨63, [], .v (.bool ((t10 && decide (((rd l0 s1.1).Mark) ≤ t2.At)) && (decide (s1.2 < 0) || decide (((rd l0 s1.1).Mark) > ((rd l0 s1.2).Mark)))))⟩, ⟨28, [], .v (.bool (decide (s1.1 < (l0.length : Int)) && t2.Is))⟩, ⟨9, [], .v (.int .i64 s1.1)⟩, ⟨8, [], .v (.int .i64 s1.2)⟩, ⟨7, [], .p 0 0⟩, ⟨17, [], .v (.bool (decide (a2 < 0) || decide (a2 ≥ (l0.length : Int))))⟩, ⟨6, [], .v (.int .i64 0)⟩, ⟨0, [], .v (.slice A0 l0.length c0)⟩, ⟨1, [], .v (.int .i64 a1)⟩, ⟨2, [], .v (.int .i64 a2)⟩], [], [], [((((kd_Portholeref17_Spot).cells t2 (svL [])).map EV.v), 55)]⟩ [.need true (0 ≤ s1.1 ∧ s1.1 < (l0.length : Int)), .need true (A0 = some (adr A0)), .cell true ((adr A0).add ((s1.1 : Int).toNat * 20)) ((kd_Call).cells (rd l0 s1.1) sv6), .call true 37 [.agg ((kd_Call).cells (rd l0 s1.1) (svL [((sv6 0).1, (sv6 0).2), ((sv6 1).1, (sv6 1).2)])).toArray, .int .i64 a1] (.bool t10), .need t10 (0 ≤ s1.1 ∧ s1.1 < (l0.length : Int)), .need t10 (A0 = some (adr A0)), .cell t10 (((adr A0).add ((s1.1 : Int).toNat * 20)).add 16) [.int .i64 ((rd l0 s1.1).Mark)], .need ((t10 && decide (((rd l0 s1.1).Mark) ≤ t2.At)) && (!(decide (s1.2 < 0)))) (0 ≤ s1.1 ∧ s1.1 < (l0.length : Int)), .need ((t10 && decide (((rd l0 s1.1).Mark) ≤ t2.At)) && (!(decide (s1.2 < 0)))) (A0 = some (adr A0)), .cell ((t10 && decide (((rd l0 s1.1).Mark) ≤ t2.At)) && (!(decide (s1.2 < 0)))) (((adr A0).add ((s1.1 : Int).toNat * 20)).add 16) [.int .i64 ((rd l0 s1.1).Mark)], .need ((t10 && decide (((rd l0 s1.1).Mark) ≤ t2.At)) && (!(decide (s1.2 < 0)))) (0 ≤ s1.2 ∧ s1.2 < (l0.length : Int)), .need ((t10 && decide (((rd l0 s1.1).Mark) ≤ t2.At)) && (!(decide (s1.2 < 0)))) (A0 = some (adr A0)), .cell ((t10 && decide (((rd l0 s1.1).Mark) ≤ t2.At)) && (!(decide (s1.2 < 0)))) (((adr A0).add ((s1.2 : Int).toNat * 20)).add 16) [.int .i64 ((rd l0 s1.2).Mark)]] (by kernel_rfl) (by kernel_rfl) (by kernel_rfl) ⟨ob_inb (fun _ => hN5), hA8, ob_cell (fun hg => hE9 rfl) 0 ((kd_Call).cells (rd l0 s1.1) sv6) rfl, ob_call (enters Try.func37 (by kernel_rfl) rfl) (fun hg w1 hk => G_ref24_write.calls (rd l0 s1.1) a1 (svL [((sv6 0).1, (sv6 0).2), ((sv6 1).1, (sv6 1).2)]) w1 (Kd.on kd_Call (show (kd_Call).cont (Low w) w (rd l0 s1.1) (svL [((sv6 0).1, (sv6 0).2), ((sv6 1).1, (sv6 1).2)]) from ⟨⟨(hC7 rfl).1.1, (hC7 rfl).1.2⟩, ⟨(hC7 rfl).2.1.1, (hC7 rfl).2.1.2⟩, trivial⟩) hk) _ hG11), ob_inb (fun hg => imp_spec hN12 hg), hA15, ob_cell (fun hg => hE16 hg) 16 [.int .i64 ((rd l0 s1.1).Mark)] rfl, ob_inb (fun hg => imp_spec hN17 hg), hA20, ob_cell (fun hg => hE21 hg) 16 [.int .i64 ((rd l0 s1.1).Mark)] rfl, ob_inb (fun hg => imp_spec hN22 hg), hA25, ob_cell (fun hg => hE26 hg) 16 [.int .i64 ((rd l0 s1.2).Mark)] rfl, trivial⟩ (fun a w1 hI => ?_)
        refine then_normal ?_
        refine cond_merge hI (((t10 && decide (((rd l0 s1.1).Mark) ≤ t2.At)) && (decide (s1.2 < 0) || decide (((rd l0 s1.1).Mark) > ((rd l0 s1.2).Mark))))) rfl ⟨[⟨8, [], .v (.int .i64 s1.1)⟩, ⟨63, [], .v (.bool ((t10 && decide (((rd l0 s1.1).Mark) ≤ t2.At)) && (decide (s1.2 < 0) || decide (((rd l0 s1.1).Mark) > ((rd l0 s1.2).Mark)))))⟩, ⟨28, [], .v (.bool (decide (s1.1 < (l0.length : Int)) && t2.Is))⟩, ⟨9, [], .v (.int .i64 s1.1)⟩, ⟨7, [], .p 0 0⟩, ⟨17, [], .v (.bool (decide (a2 < 0) || decide (a2 ≥ (l0.length : Int))))⟩, ⟨6, [], .v (.int .i64 0)⟩, ⟨0, [], .v (.slice A0 l0.length c0)⟩, ⟨1, [], .v (.int .i64 a1)⟩, ⟨2, [], .v (.int .i64 a2)⟩], [], [], [((((kd_Portholeref17_Spot).cells t2 (svL [])).map EV.v), 55)]⟩ ⟨[⟨8, [], .v (.int .i64 s1.2)⟩, ⟨63, [], .v (.bool ((t10 && decide (((rd l0 s1.1).Mark) ≤ t2.At)) && (decide (s1.2 < 0) || decide (((rd l0 s1.1).Mark) > ((rd l0 s1.2).Mark)))))⟩, ⟨28, [], .v (.bool (decide (s1.1 < (l0.length : Int)) && t2.Is))⟩, ⟨9, [], .v (.int .i64 s1.1)⟩, ⟨7, [], .p 0 0⟩, ⟨17, [], .v (.bool (decide (a2 < 0) || decide (a2 ≥ (l0.length : Int))))⟩, ⟨6, [], .v (.int .i64 0)⟩, ⟨0, [], .v (.slice A0 l0.length c0)⟩, ⟨1, [], .v (.int .i64 a1)⟩, ⟨2, [], .v (.int .i64 a2)⟩], [], [], [((((kd_Portholeref17_Spot).cells t2 (svL [])).map EV.v), 55)]⟩ (fun b => ⟨[⟨8, [], .v (.int .i64 (bif b then s1.1 else s1.2))⟩, ⟨63, [], .v (.bool ((t10 && decide (((rd l0 s1.1).Mark) ≤ t2.At)) && (decide (s1.2 < 0) || decide (((rd l0 s1.1).Mark) > ((rd l0 s1.2).Mark)))))⟩, ⟨28, [], .v (.bool (decide (s1.1 < (l0.length : Int)) && t2.Is))⟩, ⟨9, [], .v (.int .i64 s1.1)⟩, ⟨7, [], .p 0 0⟩, ⟨17, [], .v (.bool (decide (a2 < 0) || decide (a2 ≥ (l0.length : Int))))⟩, ⟨6, [], .v (.int .i64 0)⟩, ⟨0, [], .v (.slice A0 l0.length c0)⟩, ⟨1, [], .v (.int .i64 a1)⟩, ⟨2, [], .v (.int .i64 a2)⟩], [], [], [((((kd_Portholeref17_Spot).cells t2 (svL [])).map EV.v), 55)]⟩) (fun b => by cases b <;> rfl) (fun hc27 => ?_) (fun hc27 => ?_) (fun ns a w1 hI => ?_)
        · refine region_ (live := [8, 63, 28, 9, 7, 17, 6, 0, 1, 2]) (orc := []) hF hI ⟨[⟨8, [], .v (.int .i64 s1.1)⟩, ⟨63, [], .v (.bool ((t10 && decide (((rd l0 s1.1).Mark) ≤ t2.At)) && (decide (s1.2 < 0) || decide (((rd l0 s1.1).Mark) > ((rd l0 s1.2).Mark)))))⟩, ⟨28, [], .v (.bool (decide (s1.1 < (l0.length : Int)) && t2.Is))⟩, ⟨9, [], .v (.int .i64 s1.1)⟩, ⟨7, [], .p 0 0⟩, ⟨17, [], .v (.bool (decide (a2 < 0) || decide (a2 ≥ (l0.length : Int))))⟩, ⟨6, [], .v (.int .i64 0)⟩, ⟨0, [], .v (.slice A0 l0.length c0)⟩, ⟨1, [], .v (.int .i64 a1)⟩, ⟨2, [], .v (.int .i64 a2)⟩], [], [], [((((kd_Portholeref17_Spot).cells t2 (svL [])).map EV.v), 55)]⟩ [] (by kernel_rfl) trivial (fun ns a w1 hI _ => ?_)
          refine then_normal ?_
          exact ⟨_, hI.pick [8, 63, 28, 9, 7, 17, 6, 0, 1, 2] 1 ⟨[⟨8, [], .v (.int .i64 s1.1)⟩, ⟨63, [], .v (.bool ((t10 && decide (((rd l0 s1.1).Mark) ≤ t2.At)) && (decide (s1.2 < 0) || decide (((rd l0 s1.1).Mark) > ((rd l0 s1.2).Mark)))))⟩, ⟨28, [], .v (.bool (decide (s1.1 < (l0.length : Int)) && t2.Is))⟩, ⟨9, [], .v (.int .i64 s1.1)⟩, ⟨7, [], .p 0 0⟩, ⟨17, [], .v (.bool (decide (a2 < 0) || decide (a2 ≥ (l0.length : Int))))⟩, ⟨6, [], .v (.int .i64 0)⟩, ⟨0, [], .v (.slice A0 l0.length c0)⟩, ⟨1, [], .v (.int .i64 a1)⟩, ⟨2, [], .v (.int .i64 a2)⟩], [], [], [((((kd_Portholeref17_Spot).cells t2 (svL [])).map EV.v), 55)]⟩ (by kernel_rfl)⟩
        · refine wpIn_skip ?_
          refine then_normal ?_
          exact ⟨_, hI.pick [8, 63, 28, 9, 7, 17, 6, 0, 1, 2] 1 ⟨[⟨8, [], .v (.int .i64 s1.2)⟩, ⟨63, [], .v (.bool ((t10 && decide (((rd l0 s1.1).Mark) ≤ t2.At)) && (decide (s1.2 < 0) || decide (((rd l0 s1.1).Mark) > ((rd l0 s1.2).Mark)))))⟩, ⟨28, [], .v (.bool (decide (s1.1 < (l0.length : Int)) && t2.Is))⟩, ⟨9, [], .v (.int .i64 s1.1)⟩, ⟨7, [], .p 0 0⟩, ⟨17, [], .v (.bool (decide (a2 < 0) || decide (a2 ≥ (l0.length : Int))))⟩, ⟨6, [], .v (.int .i64 0)⟩, ⟨0, [], .v (.slice A0 l0.length c0)⟩, ⟨1, [], .v (.int .i64 a1)⟩, ⟨2, [], .v (.int .i64 a2)⟩], [], [], [((((kd_Portholeref17_Spot).cells t2 (svL [])).map EV.v), 55)]⟩ (by kernel_rfl)⟩
        · refine inBlock_normal ?_
          refine then_normal ?_
          refine region_ (live := [9, 8, 63, 28, 7, 17, 6, 0, 1, 2]) (orc := []) hF hI ⟨[⟨9, [], .v (.int .i64 (IntKind.i64.wrap (s1.1 + 1)))⟩, ⟨8, [], .v (.int .i64 (bif ((t10 && decide (((rd l0 s1.1).Mark) ≤ t2.At)) && (decide (s1.2 < 0) || decide (((rd l0 s1.1).Mark) > ((rd l0 s1.2).Mark)))) then s1.1 else s1.2))⟩, ⟨63, [], .v (.bool ((t10 && decide (((rd l0 s1.1).Mark) ≤ t2.At)) && (decide (s1.2 < 0) || decide (((rd l0 s1.1).Mark) > ((rd l0 s1.2).Mark)))))⟩, ⟨28, [], .v (.bool (decide (s1.1 < (l0.length : Int)) && t2.Is))⟩, ⟨7, [], .p 0 0⟩, ⟨17, [], .v (.bool (decide (a2 < 0) || decide (a2 ≥ (l0.length : Int))))⟩, ⟨6, [], .v (.int .i64 0)⟩, ⟨0, [], .v (.slice A0 l0.length c0)⟩, ⟨1, [], .v (.int .i64 a1)⟩, ⟨2, [], .v (.int .i64 a2)⟩], [], [], [((((kd_Portholeref17_Spot).cells t2 (svL [])).map EV.v), 55)]⟩ [] (by kernel_rfl) trivial (fun ns a w1 hI _ => ?_)
          refine then_normal ?_
          obtain rfl := Option.some.inj H1
          exact ⟨_, rfl, _, hI.pick [9, 8, 7, 17, 6, 0, 1, 2] 1 ⟨[⟨9, [], .v (.int .i64 (IntKind.i64.wrap (s1.1 + 1)))⟩, ⟨8, [], .v (.int .i64 (bif ((t10 && decide (((rd l0 s1.1).Mark) ≤ t2.At)) && (decide (s1.2 < 0) || decide (((rd l0 s1.1).Mark) > ((rd l0 s1.2).Mark)))) then s1.1 else s1.2))⟩, ⟨7, [], .p 0 0⟩, ⟨17, [], .v (.bool (decide (a2 < 0) || decide (a2 ≥ (l0.length : Int))))⟩, ⟨6, [], .v (.int .i64 0)⟩, ⟨0, [], .v (.slice A0 l0.length c0)⟩, ⟨1, [], .v (.int .i64 a1)⟩, ⟨2, [], .v (.int .i64 a2)⟩], [], [], [((((kd_Portholeref17_Spot).cells t2 (svL [])).map EV.v), 55)]⟩ (by kernel_rfl)⟩
      · replace H1 := bif_f hc4 H1
        refine wpIn_exit ?_
        refine then_exit ?_
        refine then_exit ?_
        obtain rfl := Option.some.inj H1
        exact .inl ⟨_, rfl, rfl, _, hI.pick [9, 8, 7, 17, 6, 0, 1, 2] 1 ⟨[⟨9, [], .v (.int .i64 s1.1)⟩, ⟨8, [], .v (.int .i64 s1.2)⟩, ⟨7, [], .p 0 0⟩, ⟨17, [], .v (.bool (decide (a2 < 0) || decide (a2 ≥ (l0.length : Int))))⟩, ⟨6, [], .v (.int .i64 0)⟩, ⟨0, [], .v (.slice A0 l0.length c0)⟩, ⟨1, [], .v (.int .i64 a1)⟩, ⟨2, [], .v (.int .i64 a2)⟩], [], [], [((((kd_Portholeref17_Spot).cells t2 (svL [])).map EV.v), 55)]⟩ (by kernel_rfl)⟩
    · clear hI
      rintro s1 a w1 ho ⟨ns, hI⟩
      subst ho
      replace H0 : some s1.2 = _ := H0
      refine then_normal ?_
      refine seq_region (live := [6, 9, 8, 7, 17, 0, 1, 2]) (orc := []) hF hI ⟨[⟨6, [], .v (.int .i64 s1.2)⟩, ⟨9, [], .v (.int .i64 s1.1)⟩, ⟨8, [], .v (.int .i64 s1.2)⟩, ⟨7, [], .p 0 0⟩, ⟨17, [], .v (.bool (decide (a2 < 0) || decide (a2 ≥ (l0.length : Int))))⟩, ⟨0, [], .v (.slice A0 l0.length c0)⟩, ⟨1, [], .v (.int .i64 a1)⟩, ⟨2, [], .v (.int .i64 a2)⟩], [], [], [((((kd_Portholeref17_Spot).cells t2 (svL [])).map EV.v), 55)]⟩ [] (by kernel_rfl) trivial (fun ns a w1 hI _ => ?_)
      refine wpIn_ret ?_
      obtain rfl := Option.some.inj H0
      exact ret1 hI rfl rfl ⟨rfl, hI.loc.base.below⟩

/-! ### porthole/portholelaw24.StampLast: function 4 -/
noncomputable def G_law24_StampLast (l0 : (List Call)) (a1 : Int) (a2 : Int) : Option (Bool) := ((G_law24_wakes).bind fun t1 => (bif (!t1) then some false else ((cal (!(decide ((l0.length : Int) > 60))) (G_ref17_Sound l0) default).bind fun t4 => ((cal (!(decide ((l0.length : Int) > 60) || (!t4))) (G_ref24_Small l0) default).bind fun t6 => (bif ((((decide ((l0.length : Int) > 60) || (!t4)) || (!t6)) || decide (a1 < 0)) || decide (a1 > 100)) then some true else ((G_stamp_Last l0 a1 a2).bind fun t9 => ((G_ref24_Last l0 a1 a2).bind fun t11 => some ((t9.2 == (decide (t11 ≥ 0))) && (((!t9.2) && (t9.1 == 0)) || (t9.1 == t11))))))))))
set_option maxRecDepth 100000 in
set_option maxHeartbeats 4000000 in
theorem G_law24_StampLast.calls (l0 : (List Call)) (a1 : Int) (a2 : Int) (A0 : Option Addr) (c0 : Nat) (w : World) {S0 : Nat → Prop} (hr0 : Arr kd_Call S0 w A0 l0) (hc0 : l0.length ≤ c0) (r : Bool) (h : G_law24_StampLast l0 a1 a2 = some r) :
    Calls Try.prog 4 #[.slice A0 l0.length c0, .int .i64 a1, .int .i64 a2] w fun e w' => e = .returned (.bool r) ∧ Below w.heap.size w w' := by
  replace hr0 := hr0.low
  unfold G_law24_StampLast at h
  have H0 := h
  clear h
  refine enter Try.func4 rfl [.slice A0 l0.length c0, .int .i64 a1, .int .i64 a2] (n := 61) rfl (Nat.le_of_ble_eq_true rfl) (fun a hI => ?_)
  have hF : FOpen Fence.wide := .inl rfl
  refine seq_region (live := [6, 0, 1, 2]) (orc := []) hF hI ⟨[⟨6, [], .v (.bool false)⟩, ⟨0, [], .v (.slice A0 l0.length c0)⟩, ⟨1, [], .v (.int .i64 a1)⟩, ⟨2, [], .v (.int .i64 a2)⟩], [], [], []⟩ [] (by kernel_rfl) trivial (fun ns a w1 hI _ => ?_)
  refine wpIn_seq ?_
  obtain ⟨t1, hG2, H0⟩ := bind_some H0
  refine seq_region (live := [11, 6, 0, 1, 2]) (orc := [[.bool t1]]) hF hI ⟨[⟨11, [], .v (.bool (!t1))⟩, ⟨6, [], .v (.bool false)⟩, ⟨0, [], .v (.slice A0 l0.length c0)⟩, ⟨1, [], .v (.int .i64 a1)⟩, ⟨2, [], .v (.int .i64 a2)⟩], [], [], []⟩ [.call true 13 [] (.bool t1)] (by kernel_rfl) ⟨ob_call (enters Try.func13 (by kernel_rfl) rfl) (fun hg w1 hk => G_law24_wakes.calls   w1  _ hG2), trivial⟩ (fun ns a w1 hI _ => ?_)
  refine cond_ hI ((!t1)) rfl (fun hc3 => ?_) (fun hc3 => ?_)
  · replace H0 := bif_t hc3 H0
    refine seq_region (live := [6, 11, 0, 1, 2]) (orc := []) hF hI ⟨[⟨6, [], .v (.bool false)⟩, ⟨11, [], .v (.bool (!t1))⟩, ⟨0, [], .v (.slice A0 l0.length c0)⟩, ⟨1, [], .v (.int .i64 a1)⟩, ⟨2, [], .v (.int .i64 a2)⟩], [], [], []⟩ [] (by kernel_rfl) trivial (fun ns a w1 hI _ => ?_)
    refine wpIn_ret ?_
    refine then_ret ?_
    obtain rfl := Option.some.inj H0
    exact ret1 hI rfl rfl ⟨rfl, hI.loc.base.below⟩
  · replace H0 := bif_f hc3 H0
    refine wpIn_skip ?_
    refine then_normal ?_
    refine wpIn_seq ?_
    obtain ⟨t4, hG5, H0⟩ := bind_some H0
    obtain ⟨t6, hG7, H0⟩ := bind_some H0
    refine seq_region (live := [32, 11, 6, 0, 1, 2]) (orc := [[.bool t4], [.bool t6]]) hF hI ⟨[⟨32, [], .v (.bool ((((decide ((l0.length : Int) > 60) || (!t4)) || (!t6)) || decide (a1 < 0)) || decide (a1 > 100)))⟩, ⟨11, [], .v (.bool (!t1))⟩, ⟨6, [], .v (.bool false)⟩, ⟨0, [], .v (.slice A0 l0.length c0)⟩, ⟨1, [], .v (.int .i64 a1)⟩, ⟨2, [], .v (.int .i64 a2)⟩], [], [], []⟩ [.call (!(decide ((l0.length : Int) > 60))) 14 [.slice A0 l0.length c0] (.bool t4), .call (!(decide ((l0.length : Int) > 60) || (!t4))) 15 [.slice A0 l0.length c0] (.bool t6)] (by kernel_rfl) ⟨ob_call (enters Try.func14 (by kernel_rfl) rfl) (fun hg w1 hk => G_ref17_Sound.calls l0 A0 c0 w1 (Arr.on hr0 hk) hc0 _ (cal_some hG5 hg)), ob_call (enters Try.func15 (by kernel_rfl) rfl) (fun hg w1 hk => G_ref24_Small.calls l0 A0 c0 w1 (Arr.on hr0 hk) hc0 _ (cal_some hG7 hg)), trivial⟩ (fun ns a w1 hI _ => ?_)
    refine cond_ hI (((((decide ((l0.length : Int) > 60) || (!t4)) || (!t6)) || decide (a1 < 0)) || decide (a1 > 100))) rfl (fun hc8 => ?_) (fun hc8 => ?_)
    · replace H0 := bif_t hc8 H0
      refine seq_region (live := [6, 32, 11, 0, 1, 2]) (orc := []) hF hI ⟨[⟨6, [], .v (.bool true)⟩, ⟨32, [], .v (.bool ((((decide ((l0.length : Int) > 60) || (!t4)) || (!t6)) || decide (a1 < 0)) || decide (a1 > 100)))⟩, ⟨11, [], .v (.bool (!t1))⟩, ⟨0, [], .v (.slice A0 l0.length c0)⟩, ⟨1, [], .v (.int .i64 a1)⟩, ⟨2, [], .v (.int .i64 a2)⟩], [], [], []⟩ [] (by kernel_rfl) trivial (fun ns a w1 hI _ => ?_)
      refine wpIn_ret ?_
      refine then_ret ?_
      obtain rfl := Option.some.inj H0
      exact ret1 hI rfl rfl ⟨rfl, hI.loc.base.below⟩
    · replace H0 := bif_f hc8 H0
      refine wpIn_skip ?_
      refine then_normal ?_
      obtain ⟨t9, hG10, H0⟩ := bind_some H0
      refine seq_region (live := [8, 7, 32, 11, 6, 0, 1, 2]) (orc := [[.tuple #[.int .i64 t9.1, .bool t9.2]]]) hF hI ⟨[⟨8, [], .v (.bool t9.2)⟩, ⟨7, [], .v (.int .i64 t9.1)⟩, ⟨32, [], .v (.bool ((((decide ((l0.length : Int) > 60) || (!t4)) || (!t6)) || decide (a1 < 0)) || decide (a1 > 100)))⟩, ⟨11, [], .v (.bool (!t1))⟩, ⟨6, [], .v (.bool false)⟩, ⟨0, [], .v (.slice A0 l0.length c0)⟩, ⟨1, [], .v (.int .i64 a1)⟩, ⟨2, [], .v (.int .i64 a2)⟩], [], [], []⟩ [.call true 16 [.slice A0 l0.length c0, .int .i64 a1, .int .i64 a2] (.tuple #[.int .i64 t9.1, .bool t9.2])] (by kernel_rfl) ⟨ob_call (enters Try.func16 (by kernel_rfl) rfl) (fun hg w1 hk => G_stamp_Last.calls l0 a1 a2 A0 c0 w1 (Arr.on hr0 hk) hc0 _ hG10), trivial⟩ (fun ns a w1 hI _ => ?_)
      obtain ⟨t11, hG12, H0⟩ := bind_some H0
      refine seq_region (live := [9, 8, 7, 32, 11, 6, 0, 1, 2]) (orc := [[.int .i64 t11]]) hF hI ⟨[⟨9, [], .v (.int .i64 t11)⟩, ⟨8, [], .v (.bool t9.2)⟩, ⟨7, [], .v (.int .i64 t9.1)⟩, ⟨32, [], .v (.bool ((((decide ((l0.length : Int) > 60) || (!t4)) || (!t6)) || decide (a1 < 0)) || decide (a1 > 100)))⟩, ⟨11, [], .v (.bool (!t1))⟩, ⟨6, [], .v (.bool false)⟩, ⟨0, [], .v (.slice A0 l0.length c0)⟩, ⟨1, [], .v (.int .i64 a1)⟩, ⟨2, [], .v (.int .i64 a2)⟩], [], [], []⟩ [.call true 17 [.slice A0 l0.length c0, .int .i64 a1, .int .i64 a2] (.int .i64 t11)] (by kernel_rfl) ⟨ob_call (enters Try.func17 (by kernel_rfl) rfl) (fun hg w1 hk => G_ref24_Last.calls l0 a1 a2 A0 c0 w1 (Arr.on hr0 hk) hc0 _ hG12), trivial⟩ (fun ns a w1 hI _ => ?_)
      refine seq_region (live := [6, 9, 8, 7, 32, 11, 0, 1, 2]) (orc := []) hF hI ⟨[⟨6, [], .v (.bool ((t9.2 == (decide (t11 ≥ 0))) && (((!t9.2) && (t9.1 == 0)) || (t9.1 == t11))))⟩, ⟨9, [], .v (.int .i64 t11)⟩, ⟨8, [], .v (.bool t9.2)⟩, ⟨7, [], .v (.int .i64 t9.1)⟩, ⟨32, [], .v (.bool ((((decide ((l0.length : Int) > 60) || (!t4)) || (!t6)) || decide (a1 < 0)) || decide (a1 > 100)))⟩, ⟨11, [], .v (.bool (!t1))⟩, ⟨0, [], .v (.slice A0 l0.length c0)⟩, ⟨1, [], .v (.int .i64 a1)⟩, ⟨2, [], .v (.int .i64 a2)⟩], [], [], []⟩ [] (by kernel_rfl) trivial (fun ns a w1 hI _ => ?_)
      refine wpIn_ret ?_
      obtain rfl := Option.some.inj H0
      exact ret1 hI rfl rfl ⟨rfl, hI.loc.base.below⟩

end Go.Proofs.Ytnfnincmhobpaaa
