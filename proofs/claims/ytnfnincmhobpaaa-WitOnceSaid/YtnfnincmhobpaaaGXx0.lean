import Derived.Test.YtnfnincmhobpaaaProg
import Derived.Test.YtnfnincmhobpaaaEng
set_option linter.unusedVariables false
set_option linter.unusedSimpArgs false
namespace Go.Proofs.Ytnfnincmhobpaaa
open Go Go.RowKit Go.Eng Go.Proofs

structure Request where
  Op : Int
  Port : Int
  Addr : Int
  Data : (List Int)
  deriving Inhabited, DecidableEq
def kd_Request : Kd Request := ⟨4, fun x sv => [.int .i64 x.Op, .int .i64 x.Port, .int .u64 x.Addr, .slice (sv 0).1 x.Data.length (sv 0).2], fun S w x sv => (Arr (Kd.int .u32) S w (sv 0).1 x.Data ∧ x.Data.length ≤ (sv 0).2) ∧ True, fun _ _ => rfl, Nat.le_of_ble_eq_true rfl, fun h hk => ⟨⟨h.1.1.keep hk, h.1.2⟩, trivial⟩⟩
theorem kd_one_Request (x : Request) (sv : SV) (u : Value) (hu : u ∈ kd_Request.cells x sv) : u.oneCell' = true := by
  simp only [kd_Request, List.mem_cons, List.not_mem_nil, or_false] at hu
  rcases hu with rfl | rfl | rfl | rfl
  all_goals rfl
structure Answer where
  Code : Int
  Data : (List Int)
  Valid : Bool
  Count : Int
  deriving Inhabited, DecidableEq
def kd_Answer : Kd Answer := ⟨4, fun x sv => [.int .i64 x.Code, .slice (sv 0).1 x.Data.length (sv 0).2, .bool x.Valid, .int .i64 x.Count], fun S w x sv => (Arr (Kd.int .u32) S w (sv 0).1 x.Data ∧ x.Data.length ≤ (sv 0).2) ∧ True, fun _ _ => rfl, Nat.le_of_ble_eq_true rfl, fun h hk => ⟨⟨h.1.1.keep hk, h.1.2⟩, trivial⟩⟩
theorem kd_one_Answer (x : Answer) (sv : SV) (u : Value) (hu : u ∈ kd_Answer.cells x sv) : u.oneCell' = true := by
  simp only [kd_Answer, List.mem_cons, List.not_mem_nil, or_false] at hu
  rcases hu with rfl | rfl | rfl | rfl
  all_goals rfl
structure Call where
  Part : Int
  Req : Request
  Ans : Answer
  Done : Bool
  From : Int
  To : Int
  T0 : Int
  T1 : Int
  Own0 : Int
  Own1 : Int
  Mark : Int
  Ring : Int
  Stamp : Int
  Saw : Int
  deriving Inhabited, DecidableEq
def kd_Call : Kd Call := ⟨20, fun x sv => [.int .i64 x.Part, .int .i64 x.Req.Op, .int .i64 x.Req.Port, .int .u64 x.Req.Addr, .slice (sv 0).1 x.Req.Data.length (sv 0).2, .int .i64 x.Ans.Code, .slice (sv 1).1 x.Ans.Data.length (sv 1).2, .bool x.Ans.Valid, .int .i64 x.Ans.Count, .bool x.Done, .int .i64 x.From, .int .i64 x.To, .int .i64 x.T0, .int .i64 x.T1, .int .i64 x.Own0, .int .i64 x.Own1, .int .i64 x.Mark, .int .i64 x.Ring, .int .i64 x.Stamp, .int .i64 x.Saw], fun S w x sv => (Arr (Kd.int .u32) S w (sv 0).1 x.Req.Data ∧ x.Req.Data.length ≤ (sv 0).2) ∧ (Arr (Kd.int .u32) S w (sv 1).1 x.Ans.Data ∧ x.Ans.Data.length ≤ (sv 1).2) ∧ True, fun _ _ => rfl, Nat.le_of_ble_eq_true rfl, fun h hk => ⟨⟨h.1.1.keep hk, h.1.2⟩, ⟨h.2.1.1.keep hk, h.2.1.2⟩, trivial⟩⟩
theorem kd_one_Call (x : Call) (sv : SV) (u : Value) (hu : u ∈ kd_Call.cells x sv) : u.oneCell' = true := by
  simp only [kd_Call, List.mem_cons, List.not_mem_nil, or_false] at hu
  rcases hu with rfl | rfl | rfl | rfl | rfl | rfl | rfl | rfl | rfl | rfl | rfl | rfl | rfl | rfl | rfl | rfl | rfl | rfl | rfl | rfl
  all_goals rfl
structure Item where
  Kind : Int
  Of : Int
  deriving Inhabited, DecidableEq
def kd_Item : Kd Item := ⟨2, fun x sv => [.int .i64 x.Kind, .int .i64 x.Of], fun S w x sv => True, fun _ _ => rfl, Nat.le_of_ble_eq_true rfl, fun h hk => trivial⟩
theorem kd_one_Item (x : Item) (sv : SV) (u : Value) (hu : u ∈ kd_Item.cells x sv) : u.oneCell' = true := by
  simp only [kd_Item, List.mem_cons, List.not_mem_nil, or_false] at hu
  rcases hu with rfl | rfl
  all_goals rfl
structure Wit_spot where
  at_ : Int
  rank : Int
  item : Item
  deriving Inhabited, DecidableEq
def kd_Wit_spot : Kd Wit_spot := ⟨4, fun x sv => [.int .i64 x.at_, .int .i64 x.rank, .int .i64 x.item.Kind, .int .i64 x.item.Of], fun S w x sv => True, fun _ _ => rfl, Nat.le_of_ble_eq_true rfl, fun h hk => trivial⟩
theorem kd_one_Wit_spot (x : Wit_spot) (sv : SV) (u : Value) (hu : u ∈ kd_Wit_spot.cells x sv) : u.oneCell' = true := by
  simp only [kd_Wit_spot, List.mem_cons, List.not_mem_nil, or_false] at hu
  rcases hu with rfl | rfl | rfl | rfl
  all_goals rfl
inductive Fn96 where
  | f50
  deriving Inhabited, DecidableEq
def fid96 (x : Fn96) : Nat := match x with
  | .f50 => 50
def fca96 (x : Fn96) (sv : SV) : Array Value := match x with
  | .f50 => #[]
def fnv96 (x : Fn96) (sv : SV) : Value := .func (.func (fid96 x)) #[] (fca96 x sv)
def fnc96 (S : Nat → Prop) (w : World) (x : Fn96) (sv : SV) : Prop := match x with
  | .f50 => True
theorem fnk96 {S S' : Nat → Prop} {w w' : World} {x : Fn96} {sv : SV} (h : fnc96 S w x sv) (hk : ∀ b, S b → IsC w b → S' b ∧ w'.heap[b]? = w.heap[b]?) : fnc96 S' w' x sv := by
  cases x with
  | f50 => exact trivial
theorem fn1_96 (x : Fn96) (sv : SV) : (fnv96 x sv).oneCell' = true := rfl
theorem fnr96 {S : Nat → Prop} {w : World} {x y : Fn96} {sv : SV} (h : fnc96 S w x sv) (e : x = y) : fnc96 S w y sv := e ▸ h
def kdF96 : Kd Fn96 := ⟨1, fun x sv => [fnv96 x sv], fun S w x sv => fnc96 S w x sv, fun _ _ => rfl, Nat.one_pos, fun h hk => fnk96 h hk⟩
theorem kd_one_F96 (x : Fn96) (sv : SV) (u : Value) (hu : u ∈ kdF96.cells x sv) : u.oneCell' = true := by
  simp only [kdF96, List.mem_singleton] at hu
  subst hu; rfl
structure Belling where
  Part : Int
  Ports : (List Int)
  At : Int
  Tick : Int
  Own : Int
  deriving Inhabited, DecidableEq
def kd_Belling : Kd Belling := ⟨5, fun x sv => [.int .i64 x.Part, .slice (sv 0).1 x.Ports.length (sv 0).2, .int .i64 x.At, .int .i64 x.Tick, .int .i64 x.Own], fun S w x sv => (Arr (Kd.int .i64) S w (sv 0).1 x.Ports ∧ x.Ports.length ≤ (sv 0).2) ∧ True, fun _ _ => rfl, Nat.le_of_ble_eq_true rfl, fun h hk => ⟨⟨h.1.1.keep hk, h.1.2⟩, trivial⟩⟩
theorem kd_one_Belling (x : Belling) (sv : SV) (u : Value) (hu : u ∈ kd_Belling.cells x sv) : u.oneCell' = true := by
  simp only [kd_Belling, List.mem_cons, List.not_mem_nil, or_false] at hu
  rcases hu with rfl | rfl | rfl | rfl | rfl
  all_goals rfl
structure Portholeref17_Spot where
  At : Int
  Behind : Bool
  Is : Bool
  deriving Inhabited, DecidableEq
def kd_Portholeref17_Spot : Kd Portholeref17_Spot := ⟨3, fun x sv => [.int .i64 x.At, .bool x.Behind, .bool x.Is], fun S w x sv => True, fun _ _ => rfl, Nat.le_of_ble_eq_true rfl, fun h hk => trivial⟩
theorem kd_one_Portholeref17_Spot (x : Portholeref17_Spot) (sv : SV) (u : Value) (hu : u ∈ kd_Portholeref17_Spot.cells x sv) : u.oneCell' = true := by
  simp only [kd_Portholeref17_Spot, List.mem_cons, List.not_mem_nil, or_false] at hu
  rcases hu with rfl | rfl | rfl
  all_goals rfl


def wf_Request (x : Request) : Prop := (InK .i64) x.Op ∧ (InK .i64) x.Port ∧ (InK .u64) x.Addr ∧ (fun xs => xs.length ≤ maxLen ∧ ∀ x ∈ xs, (InK .u32) x) x.Data
theorem op_Request : Opn Try.prog 37 kd_Request wf_Request := by
  refine ⟨by kernel_rfl, fun h => ?_⟩
  obtain ⟨xs, m, _, _, hlen, hxs, hf⟩ := DataW.trod_struct Try.underlying37 h
  obtain ⟨v0, s0, c0, k0, w0⟩ := opn_field hf hxs 0 _ rfl (Opn.int Try.underlying3 (by kernel_rfl))
  obtain ⟨v1, s1, c1, k1, w1⟩ := opn_field hf hxs 1 _ rfl (Opn.int Try.underlying3 (by kernel_rfl))
  obtain ⟨v2, s2, c2, k2, w2⟩ := opn_field hf hxs 2 _ rfl (Opn.int Try.underlying34 (by kernel_rfl))
  obtain ⟨v3, s3, c3, k3, w3⟩ := opn_field hf hxs 3 _ rfl (Opn.slice (Opn.int Try.underlying22 (by kernel_rfl)) Try.underlying35 (by kernel_rfl))
  exact ⟨⟨v0, v1, v2, v3⟩, svL [s3 0], (pieces_eq [1, 1, 1, 1] hlen (by kernel_rfl)).trans (app2 c0 (app2 c1 (app2 c2 (app2 c3 rfl)))), ⟨k3, trivial⟩, ⟨w0, w1, w2, w3⟩⟩
def wf_Answer (x : Answer) : Prop := (InK .i64) x.Code ∧ (fun xs => xs.length ≤ maxLen ∧ ∀ x ∈ xs, (InK .u32) x) x.Data ∧ (fun _ => True) x.Valid ∧ (InK .i64) x.Count
theorem op_Answer : Opn Try.prog 40 kd_Answer wf_Answer := by
  refine ⟨by kernel_rfl, fun h => ?_⟩
  obtain ⟨xs, m, _, _, hlen, hxs, hf⟩ := DataW.trod_struct Try.underlying40 h
  obtain ⟨v0, s0, c0, k0, w0⟩ := opn_field hf hxs 0 _ rfl (Opn.int Try.underlying38 (by kernel_rfl))
  obtain ⟨v1, s1, c1, k1, w1⟩ := opn_field hf hxs 1 _ rfl (Opn.slice (Opn.int Try.underlying22 (by kernel_rfl)) Try.underlying35 (by kernel_rfl))
  obtain ⟨v2, s2, c2, k2, w2⟩ := opn_field hf hxs 2 _ rfl (Opn.bool Try.underlying4 (by kernel_rfl))
  obtain ⟨v3, s3, c3, k3, w3⟩ := opn_field hf hxs 3 _ rfl (Opn.int Try.underlying3 (by kernel_rfl))
  exact ⟨⟨v0, v1, v2, v3⟩, svL [s1 0], (pieces_eq [1, 1, 1, 1] hlen (by kernel_rfl)).trans (app2 c0 (app2 c1 (app2 c2 (app2 c3 rfl)))), ⟨k1, trivial⟩, ⟨w0, w1, w2, w3⟩⟩
def wf_Call (x : Call) : Prop := (InK .i64) x.Part ∧ wf_Request x.Req ∧ wf_Answer x.Ans ∧ (fun _ => True) x.Done ∧ (InK .i64) x.From ∧ (InK .i64) x.To ∧ (InK .i64) x.T0 ∧ (InK .i64) x.T1 ∧ (InK .i64) x.Own0 ∧ (InK .i64) x.Own1 ∧ (InK .i64) x.Mark ∧ (InK .i64) x.Ring ∧ (InK .i64) x.Stamp ∧ (InK .i64) x.Saw
theorem op_Call : Opn Try.prog 42 kd_Call wf_Call := by
  refine ⟨by kernel_rfl, fun h => ?_⟩
  obtain ⟨xs, m, _, _, hlen, hxs, hf⟩ := DataW.trod_struct Try.underlying42 h
  obtain ⟨v0, s0, c0, k0, w0⟩ := opn_field hf hxs 0 _ rfl (Opn.int Try.underlying3 (by kernel_rfl))
  obtain ⟨v1, s1, c1, k1, w1⟩ := opn_field hf hxs 1 _ rfl op_Request
  obtain ⟨v2, s2, c2, k2, w2⟩ := opn_field hf hxs 2 _ rfl op_Answer
  obtain ⟨v3, s3, c3, k3, w3⟩ := opn_field hf hxs 3 _ rfl (Opn.bool Try.underlying4 (by kernel_rfl))
  obtain ⟨v4, s4, c4, k4, w4⟩ := opn_field hf hxs 4 _ rfl (Opn.int Try.underlying3 (by kernel_rfl))
  obtain ⟨v5, s5, c5, k5, w5⟩ := opn_field hf hxs 5 _ rfl (Opn.int Try.underlying3 (by kernel_rfl))
  obtain ⟨v6, s6, c6, k6, w6⟩ := opn_field hf hxs 6 _ rfl (Opn.int Try.underlying3 (by kernel_rfl))
  obtain ⟨v7, s7, c7, k7, w7⟩ := opn_field hf hxs 7 _ rfl (Opn.int Try.underlying3 (by kernel_rfl))
  obtain ⟨v8, s8, c8, k8, w8⟩ := opn_field hf hxs 8 _ rfl (Opn.int Try.underlying3 (by kernel_rfl))
  obtain ⟨v9, s9, c9, k9, w9⟩ := opn_field hf hxs 9 _ rfl (Opn.int Try.underlying3 (by kernel_rfl))
  obtain ⟨v10, s10, c10, k10, w10⟩ := opn_field hf hxs 10 _ rfl (Opn.int Try.underlying3 (by kernel_rfl))
  obtain ⟨v11, s11, c11, k11, w11⟩ := opn_field hf hxs 11 _ rfl (Opn.int Try.underlying3 (by kernel_rfl))
  obtain ⟨v12, s12, c12, k12, w12⟩ := opn_field hf hxs 12 _ rfl (Opn.int Try.underlying3 (by kernel_rfl))
  obtain ⟨v13, s13, c13, k13, w13⟩ := opn_field hf hxs 13 _ rfl (Opn.int Try.underlying3 (by kernel_rfl))
  exact ⟨⟨v0, v1, v2, v3, v4, v5, v6, v7, v8, v9, v10, v11, v12, v13⟩, svL [s1 0, s2 0], (pieces_eq [1, 4, 4, 1, 1, 1, 1, 1, 1, 1, 1, 1, 1, 1] hlen (by kernel_rfl)).trans (app2 c0 (app2 c1 (app2 c2 (app2 c3 (app2 c4 (app2 c5 (app2 c6 (app2 c7 (app2 c8 (app2 c9 (app2 c10 (app2 c11 (app2 c12 (app2 c13 rfl)))))))))))))), ⟨k1.1, k2.1, trivial⟩, ⟨w0, w1, w2, w3, w4, w5, w6, w7, w8, w9, w10, w11, w12, w13⟩⟩
def wf_Item (x : Item) : Prop := (InK .i64) x.Kind ∧ (InK .i64) x.Of
theorem op_Item : Opn Try.prog 70 kd_Item wf_Item := by
  refine ⟨by kernel_rfl, fun h => ?_⟩
  obtain ⟨xs, m, _, _, hlen, hxs, hf⟩ := DataW.trod_struct Try.underlying70 h
  obtain ⟨v0, s0, c0, k0, w0⟩ := opn_field hf hxs 0 _ rfl (Opn.int Try.underlying3 (by kernel_rfl))
  obtain ⟨v1, s1, c1, k1, w1⟩ := opn_field hf hxs 1 _ rfl (Opn.int Try.underlying3 (by kernel_rfl))
  exact ⟨⟨v0, v1⟩, svL [], (pieces_eq [1, 1] hlen (by kernel_rfl)).trans (app2 c0 (app2 c1 rfl)), trivial, ⟨w0, w1⟩⟩
def wf_Wit_spot (x : Wit_spot) : Prop := (InK .i64) x.at_ ∧ (InK .i64) x.rank ∧ wf_Item x.item
theorem op_Wit_spot : Opn Try.prog 91 kd_Wit_spot wf_Wit_spot := by
  refine ⟨by kernel_rfl, fun h => ?_⟩
  obtain ⟨xs, m, _, _, hlen, hxs, hf⟩ := DataW.trod_struct Try.underlying91 h
  obtain ⟨v0, s0, c0, k0, w0⟩ := opn_field hf hxs 0 _ rfl (Opn.int Try.underlying3 (by kernel_rfl))
  obtain ⟨v1, s1, c1, k1, w1⟩ := opn_field hf hxs 1 _ rfl (Opn.int Try.underlying3 (by kernel_rfl))
  obtain ⟨v2, s2, c2, k2, w2⟩ := opn_field hf hxs 2 _ rfl op_Item
  exact ⟨⟨v0, v1, v2⟩, svL [], (pieces_eq [1, 1, 2] hlen (by kernel_rfl)).trans (app2 c0 (app2 c1 (app2 c2 rfl))), trivial, ⟨w0, w1, w2⟩⟩
def wf_Belling (x : Belling) : Prop := (InK .i64) x.Part ∧ (fun xs => xs.length ≤ maxLen ∧ ∀ x ∈ xs, (InK .i64) x) x.Ports ∧ (InK .i64) x.At ∧ (InK .i64) x.Tick ∧ (InK .i64) x.Own
theorem op_Belling : Opn Try.prog 85 kd_Belling wf_Belling := by
  refine ⟨by kernel_rfl, fun h => ?_⟩
  obtain ⟨xs, m, _, _, hlen, hxs, hf⟩ := DataW.trod_struct Try.underlying85 h
  obtain ⟨v0, s0, c0, k0, w0⟩ := opn_field hf hxs 0 _ rfl (Opn.int Try.underlying3 (by kernel_rfl))
  obtain ⟨v1, s1, c1, k1, w1⟩ := opn_field hf hxs 1 _ rfl (Opn.slice (Opn.int Try.underlying3 (by kernel_rfl)) Try.underlying45 (by kernel_rfl))
  obtain ⟨v2, s2, c2, k2, w2⟩ := opn_field hf hxs 2 _ rfl (Opn.int Try.underlying3 (by kernel_rfl))
  obtain ⟨v3, s3, c3, k3, w3⟩ := opn_field hf hxs 3 _ rfl (Opn.int Try.underlying3 (by kernel_rfl))
  obtain ⟨v4, s4, c4, k4, w4⟩ := opn_field hf hxs 4 _ rfl (Opn.int Try.underlying3 (by kernel_rfl))
  exact ⟨⟨v0, v1, v2, v3, v4⟩, svL [s1 0], (pieces_eq [1, 1, 1, 1, 1] hlen (by kernel_rfl)).trans (app2 c0 (app2 c1 (app2 c2 (app2 c3 (app2 c4 rfl))))), ⟨k1, trivial⟩, ⟨w0, w1, w2, w3, w4⟩⟩
def wf_Portholeref17_Spot (x : Portholeref17_Spot) : Prop := (InK .i64) x.At ∧ (fun _ => True) x.Behind ∧ (fun _ => True) x.Is
theorem op_Portholeref17_Spot : Opn Try.prog 55 kd_Portholeref17_Spot wf_Portholeref17_Spot := by
  refine ⟨by kernel_rfl, fun h => ?_⟩
  obtain ⟨xs, m, _, _, hlen, hxs, hf⟩ := DataW.trod_struct Try.underlying55 h
  obtain ⟨v0, s0, c0, k0, w0⟩ := opn_field hf hxs 0 _ rfl (Opn.int Try.underlying3 (by kernel_rfl))
  obtain ⟨v1, s1, c1, k1, w1⟩ := opn_field hf hxs 1 _ rfl (Opn.bool Try.underlying4 (by kernel_rfl))
  obtain ⟨v2, s2, c2, k2, w2⟩ := opn_field hf hxs 2 _ rfl (Opn.bool Try.underlying4 (by kernel_rfl))
  exact ⟨⟨v0, v1, v2⟩, svL [], (pieces_eq [1, 1, 1] hlen (by kernel_rfl)).trans (app2 c0 (app2 c1 (app2 c2 rfl))), trivial, ⟨w0, w1, w2⟩⟩
def eqb_Item (x y : Item) : Bool := (x.Kind == y.Kind && (x.Of == y.Of && (true)))
theorem eqt_Item (d : Nat) (x y : Item) (w : World) : (Op.equalIn (d + 2) 70 (.agg ((kd_Item).cells x (svL [])).toArray) (.agg ((kd_Item).cells y (svL [])).toArray)).run Try.prog w = .ok (eqb_Item x y) w :=
  eqA_of Try.underlying70 (by kernel_rfl) (eqf_cons rfl (part_one (by kernel_rfl) rfl w) (part_one (by kernel_rfl) rfl w) (eqi_int Try.underlying3 _ _ (d + 0) w) (eqf_cons rfl (part_one (by kernel_rfl) rfl w) (part_one (by kernel_rfl) rfl w) (eqi_int Try.underlying3 _ _ (d + 0) w) eqf_nil))

/-! ### porthole/hist.Place: function 26 -/
noncomputable def G_hist_Place (l0 : (List Call)) (a1 : Int) : Option (Int × Bool × Bool) := (bif (decide (a1 < 0) || decide (a1 ≥ (l0.length : Int))) then some (0, false, false) else (req (inb a1 l0.length) (bif decide (((rd l0 a1).Mark) ≥ 0) then some ((rd l0 a1).Mark, false, true) else (bif ((!((rd l0 a1).Done)) || (((rd l0 a1).Req.Op) != 4)) then some (0, false, false) else (bif (decide (((rd l0 a1).Saw) < 0) || decide (((rd l0 a1).Saw) ≥ (l0.length : Int))) then some ((rd l0 a1).From, true, true) else (req (inb ((rd l0 a1).Saw) l0.length) (some ((mxI ((rd l0 a1).From) ((rd l0 ((rd l0 a1).Saw)).Mark)), true, true))))))))
set_option maxRecDepth 100000 in
set_option maxHeartbeats 4000000 in
theorem G_hist_Place.calls (l0 : (List Call)) (a1 : Int) (A0 : Option Addr) (c0 : Nat) (w : World) {S : Nat → Prop} (hr0 : Arr kd_Call S w A0 l0) (hc0 : l0.length ≤ c0) (r : Int × Bool × Bool) (h : G_hist_Place l0 a1 = some r) :
    Calls Try.prog 26 #[.slice A0 l0.length c0, .int .i64 a1] w fun e w' => e = .returned (.tuple #[.int .i64 r.1, .bool r.2.1, .bool r.2.2]) ∧ Below w.heap.size w w' := by
  replace hr0 := Arr.lo hr0
  unfold G_hist_Place at h
  have H0 := h
  clear h
  refine enter Try.func26 rfl [.slice A0 l0.length c0, .int .i64 a1] (n := 58) rfl (Nat.le_of_ble_eq_true rfl) (fun a hI => ?_)
  have hF : FOpen Fence.wide := .inl rfl
  have hE := Ep.start w
  refine seq_region (live := [6, 5, 4, 0, 1]) (orc := []) hF hI ⟨[⟨6, [], .v (.bool false)⟩, ⟨5, [], .v (.bool false)⟩, ⟨4, [], .v (.int .i64 0)⟩, ⟨0, [], .v (.slice A0 l0.length c0)⟩, ⟨1, [], .v (.int .i64 a1)⟩], [], [], [], none, none⟩ [] (by kernel_rfl) trivial (fun ns_1 a w_2 hI _ => ?_)
  refine wpIn_seq ?_
  refine seq_region (live := [15, 6, 5, 4, 0, 1]) (orc := []) hF hI ⟨[⟨15, [], .v (.bool (decide (a1 < 0) || decide (a1 ≥ (l0.length : Int))))⟩, ⟨6, [], .v (.bool false)⟩, ⟨5, [], .v (.bool false)⟩, ⟨4, [], .v (.int .i64 0)⟩, ⟨0, [], .v (.slice A0 l0.length c0)⟩, ⟨1, [], .v (.int .i64 a1)⟩], [], [], [], none, none⟩ [] (by kernel_rfl) trivial (fun ns_3 a w_4 hI _ => ?_)
  refine cond_ hI ((decide (a1 < 0) || decide (a1 ≥ (l0.length : Int)))) rfl (fun hc_5 => ?_) (fun hc_5 => ?_)
  ·replace H0 := bif_t hc_5 H0
   refine seq_region (live := [6, 5, 4]) (orc := []) hF hI ⟨[⟨6, [], .v (.bool false)⟩, ⟨5, [], .v (.bool false)⟩, ⟨4, [], .v (.int .i64 0)⟩], [], [], [], none, none⟩ [] (by kernel_rfl) trivial (fun ns_6 a w_7 hI _ => ?_)
   refine wpIn_ret ?_
   refine then_ret ?_
   obtain rfl := Option.some.inj H0
   exact ret3 hI rfl rfl rfl rfl ⟨rfl, hE.below hI⟩
  ·replace H0 := bif_f hc_5 H0
   refine wpIn_skip ?_
   refine then_normal ?_
   obtain ⟨hN_8, H0⟩ := req_some H0
   obtain ⟨sv_9, hE_11, hA_10⟩ := Arr.elB (d := kd_Call) hr0 a1 true (fun _ => hN_8)
   replace hE_11 := hE_11 rfl
   replace hA_10 := fun (_ : true = true) => hA_10 rfl
   refine seq_region (live := [7, 6, 5, 4, 0]) (orc := [(kd_Call).cells (rd l0 a1) sv_9]) hF hI ⟨[⟨7, [], .p 0 0⟩, ⟨6, [], .v (.bool false)⟩, ⟨5, [], .v (.bool false)⟩, ⟨4, [], .v (.int .i64 0)⟩, ⟨0, [], .v (.slice A0 l0.length c0)⟩], [], [], [((((kd_Call).cells (rd l0 a1) sv_9).map EV.v), 42)], none, none⟩ [.need true ((0 : Int) ≤ a1 ∧ a1 < (l0.length : Int)), .need true (A0 = some (adr A0)), .cell true ((adr A0).add ((a1 : Int).toNat * 20)) ((kd_Call).cells (rd l0 a1) sv_9)] (by kernel_rfl) ⟨ob_inb (fun _ => hN_8), hA_10, ob_el (fun _ => hE_11) 0 ((kd_Call).cells (rd l0 a1) sv_9) rfl, trivial⟩ (fun ns_12 a w_13 hI _ => ?_)
   refine wpIn_seq ?_
   refine wpIn_block ?_
   refine seq_region (live := [20, 7, 6, 5, 4, 0]) (orc := []) hF hI ⟨[⟨20, [], .v (.bool (decide (((rd l0 a1).Mark) ≥ 0)))⟩, ⟨7, [], .p 0 0⟩, ⟨6, [], .v (.bool false)⟩, ⟨5, [], .v (.bool false)⟩, ⟨4, [], .v (.int .i64 0)⟩, ⟨0, [], .v (.slice A0 l0.length c0)⟩], [], [], [((((kd_Call).cells (rd l0 a1) sv_9).map EV.v), 42)], none, none⟩ [] (by kernel_rfl) trivial (fun ns_14 a w_15 hI _ => ?_)
   refine cond_ hI (decide (((rd l0 a1).Mark) ≥ 0)) rfl (fun hc_16 => ?_) (fun hc_16 => ?_)
   ·replace H0 := bif_t hc_16 H0
    refine seq_region (live := [6, 5, 4]) (orc := []) hF hI ⟨[⟨6, [], .v (.bool true)⟩, ⟨5, [], .v (.bool false)⟩, ⟨4, [], .v (.int .i64 ((rd l0 a1).Mark))⟩], [], [], [((((kd_Call).cells (rd l0 a1) sv_9).map EV.v), 42)], none, none⟩ [] (by kernel_rfl) trivial (fun ns_17 a w_18 hI _ => ?_)
    refine wpIn_ret ?_
    refine inBlock_ret ?_
    refine then_ret ?_
    obtain rfl := Option.some.inj H0
    exact ret3 hI rfl rfl rfl rfl ⟨rfl, hE.below hI⟩
   ·replace H0 := bif_f hc_16 H0
    refine seq_region (live := [26, 7, 6, 5, 4, 0]) (orc := []) hF hI ⟨[⟨26, [], .v (.bool ((!((rd l0 a1).Done)) || (((rd l0 a1).Req.Op) != 4)))⟩, ⟨7, [], .p 0 0⟩, ⟨6, [], .v (.bool false)⟩, ⟨5, [], .v (.bool false)⟩, ⟨4, [], .v (.int .i64 0)⟩, ⟨0, [], .v (.slice A0 l0.length c0)⟩], [], [], [((((kd_Call).cells (rd l0 a1) sv_9).map EV.v), 42)], none, none⟩ [] (by kernel_rfl) trivial (fun ns_19 a w_20 hI _ => ?_)
    refine cond_ hI (((!((rd l0 a1).Done)) || (((rd l0 a1).Req.Op) != 4))) rfl (fun hc_21 => ?_) (fun hc_21 => ?_)
    ·replace H0 := bif_t hc_21 H0
     refine seq_region (live := [6, 5, 4]) (orc := []) hF hI ⟨[⟨6, [], .v (.bool false)⟩, ⟨5, [], .v (.bool false)⟩, ⟨4, [], .v (.int .i64 0)⟩], [], [], [((((kd_Call).cells (rd l0 a1) sv_9).map EV.v), 42)], none, none⟩ [] (by kernel_rfl) trivial (fun ns_22 a w_23 hI _ => ?_)
     refine wpIn_ret ?_
     refine inBlock_ret ?_
     refine then_ret ?_
     obtain rfl := Option.some.inj H0
     exact ret3 hI rfl rfl rfl rfl ⟨rfl, hE.below hI⟩
    ·replace H0 := bif_f hc_21 H0
     refine seq_region (live := [36, 7, 6, 5, 4, 0]) (orc := []) hF hI ⟨[⟨36, [], .v (.bool (decide (((rd l0 a1).Saw) < 0) || decide (((rd l0 a1).Saw) ≥ (l0.length : Int))))⟩, ⟨7, [], .p 0 0⟩, ⟨6, [], .v (.bool false)⟩, ⟨5, [], .v (.bool false)⟩, ⟨4, [], .v (.int .i64 0)⟩, ⟨0, [], .v (.slice A0 l0.length c0)⟩], [], [], [((((kd_Call).cells (rd l0 a1) sv_9).map EV.v), 42)], none, none⟩ [] (by kernel_rfl) trivial (fun ns_24 a w_25 hI _ => ?_)
     refine cond_ hI ((decide (((rd l0 a1).Saw) < 0) || decide (((rd l0 a1).Saw) ≥ (l0.length : Int)))) rfl (fun hc_26 => ?_) (fun hc_26 => ?_)
     ·replace H0 := bif_t hc_26 H0
      refine seq_region (live := [6, 5, 4]) (orc := []) hF hI ⟨[⟨6, [], .v (.bool true)⟩, ⟨5, [], .v (.bool true)⟩, ⟨4, [], .v (.int .i64 ((rd l0 a1).From))⟩], [], [], [((((kd_Call).cells (rd l0 a1) sv_9).map EV.v), 42)], none, none⟩ [] (by kernel_rfl) trivial (fun ns_27 a w_28 hI _ => ?_)
      refine wpIn_ret ?_
      refine inBlock_ret ?_
      refine then_ret ?_
      obtain rfl := Option.some.inj H0
      exact ret3 hI rfl rfl rfl rfl ⟨rfl, hE.below hI⟩
     ·replace H0 := bif_f hc_26 H0
      refine wpIn_skip ?_
      refine inBlock_normal ?_
      refine then_normal ?_
      refine wpIn_seq ?_
      obtain ⟨hN_29, H0⟩ := req_some H0
      obtain ⟨sv_30, hE_32, hA_31⟩ := Arr.elB (d := kd_Call) hr0 ((rd l0 a1).Saw) true (fun _ => hN_29)
      replace hE_32 := hE_32 rfl
      replace hA_31 := fun (_ : true = true) => hA_31 rfl
      refine drawn_ (live := [6, 5, 4]) (orc := [[.int .i64 ((rd l0 ((rd l0 a1).Saw)).Mark)]]) hF hI ⟨[⟨6, [], .v (.bool true)⟩, ⟨5, [], .v (.bool true)⟩, ⟨4, [], .v (.int .i64 (mxI ((rd l0 a1).From) ((rd l0 ((rd l0 a1).Saw)).Mark)))⟩], [], [], [((((kd_Call).cells (rd l0 a1) sv_9).map EV.v), 42)], none, none⟩ [.need true ((0 : Int) ≤ ((rd l0 a1).Saw) ∧ ((rd l0 a1).Saw) < (l0.length : Int)), .need true (A0 = some (adr A0)), .cell true (((adr A0).add ((((rd l0 a1).Saw) : Int).toNat * 20)).add 16) [.int .i64 ((rd l0 ((rd l0 a1).Saw)).Mark)]] (by kernel_rfl) (by kernel_rfl) (by kernel_rfl) ⟨ob_inb (fun _ => hN_29), hA_31, ob_el (fun _ => hE_32) 16 [.int .i64 ((rd l0 ((rd l0 a1).Saw)).Mark)] rfl, trivial⟩ (fun a w_33 hI => ?_)
      refine then_normal ?_
      refine wpIn_ret ?_
      obtain rfl := Option.some.inj H0
      exact ret3 hI rfl rfl rfl rfl ⟨rfl, hE.below hI⟩

/-! ### cmp.isNaN[int]: function 54 -/
noncomputable def G_cmp_isNaN_int (a0 : Int) : Option (Bool) := some (a0 != a0)
set_option maxRecDepth 100000 in
set_option maxHeartbeats 4000000 in
theorem G_cmp_isNaN_int.calls (a0 : Int)  (w : World) {S : Nat → Prop}  (r : Bool) (h : G_cmp_isNaN_int a0 = some r) :
    Calls Try.prog 54 #[.int .i64 a0] w fun e w' => e = .returned (.bool r) ∧ Below w.heap.size w w' := by
  unfold G_cmp_isNaN_int at h
  have H0 := h
  clear h
  refine enter Try.func54 rfl [.int .i64 a0] (n := 6) rfl (Nat.le_of_ble_eq_true rfl) (fun a hI => ?_)
  have hF : FOpen Fence.wide := .inl rfl
  have hE := Ep.start w
  refine seq_region (live := [2, 0]) (orc := []) hF hI ⟨[⟨2, [], .v (.bool false)⟩, ⟨0, [], .v (.int .i64 a0)⟩], [], [], [], none, none⟩ [] (by kernel_rfl) trivial (fun ns_1 a w_2 hI _ => ?_)
  refine seq_region (live := [2]) (orc := []) hF hI ⟨[⟨2, [], .v (.bool (a0 != a0))⟩], [], [], [], none, none⟩ [] (by kernel_rfl) trivial (fun ns_3 a w_4 hI _ => ?_)
  refine wpIn_ret ?_
  obtain rfl := Option.some.inj H0
  exact ret1 hI rfl rfl ⟨rfl, hE.below hI⟩

/-! ### cmp.Compare[int]: function 52 -/
noncomputable def G_cmp_Compare_int (a0 : Int) (a1 : Int) : Option (Int) := ((G_cmp_isNaN_int a0).bind fun t_3 => ((G_cmp_isNaN_int a1).bind fun t_7 => (bif t_3 then (bif t_7 then some 0 else some (-1)) else (bif t_7 then some 1 else (bif decide (a0 < a1) then some (-1) else (bif decide (a0 > a1) then some 1 else some 0))))))
set_option maxRecDepth 100000 in
set_option maxHeartbeats 4000000 in
theorem G_cmp_Compare_int.calls (a0 : Int) (a1 : Int)  (w : World) {S : Nat → Prop}  (r : Int) (h : G_cmp_Compare_int a0 a1 = some r) :
    Calls Try.prog 52 #[.int .i64 a0, .int .i64 a1] w fun e w' => e = .returned (.int .i64 r) ∧ Below w.heap.size w w' := by
  unfold G_cmp_Compare_int at h
  have H0 := h
  clear h
  refine enter Try.func52 rfl [.int .i64 a0, .int .i64 a1] (n := 20) rfl (Nat.le_of_ble_eq_true rfl) (fun a hI => ?_)
  have hF : FOpen Fence.wide := .inl rfl
  have hE := Ep.start w
  refine seq_region (live := [4, 0, 1]) (orc := []) hF hI ⟨[⟨4, [], .v (.int .i64 0)⟩, ⟨0, [], .v (.int .i64 a0)⟩, ⟨1, [], .v (.int .i64 a1)⟩], [], [], [], none, none⟩ [] (by kernel_rfl) trivial (fun ns_1 a w_2 hI _ => ?_)
  obtain ⟨t_3, hG_4, H0⟩ := bind_some H0
  refine seq_region (live := [5, 4, 0, 1]) (orc := [[.bool t_3]]) hF hI ⟨[⟨5, [], .v (.bool t_3)⟩, ⟨4, [], .v (.int .i64 0)⟩, ⟨0, [], .v (.int .i64 a0)⟩, ⟨1, [], .v (.int .i64 a1)⟩], [], [], [], none, none⟩ [.call true 54 [.int .i64 a0] (.bool t_3)] (by kernel_rfl) ⟨ob_call (enters Try.func54 (by kernel_rfl) rfl) (fun hg wz hk => G_cmp_isNaN_int.calls a0  wz (S := fun _ => True)  _ hG_4), trivial⟩ (fun ns_5 a w_6 hI _ => ?_)
  obtain ⟨t_7, hG_8, H0⟩ := bind_some H0
  refine seq_region (live := [6, 5, 4, 0, 1]) (orc := [[.bool t_7]]) hF hI ⟨[⟨6, [], .v (.bool t_7)⟩, ⟨5, [], .v (.bool t_3)⟩, ⟨4, [], .v (.int .i64 0)⟩, ⟨0, [], .v (.int .i64 a0)⟩, ⟨1, [], .v (.int .i64 a1)⟩], [], [], [], none, none⟩ [.call true 54 [.int .i64 a1] (.bool t_7)] (by kernel_rfl) ⟨ob_call (enters Try.func54 (by kernel_rfl) rfl) (fun hg wz hk => G_cmp_isNaN_int.calls a1  wz (S := fun _ => True)  _ hG_8), trivial⟩ (fun ns_9 a w_10 hI _ => ?_)
  refine wpIn_seq ?_
  refine seq_region (live := [11, 6, 4, 0, 1]) (orc := []) hF hI ⟨[⟨11, [], .v (.bool t_3)⟩, ⟨6, [], .v (.bool t_7)⟩, ⟨4, [], .v (.int .i64 0)⟩, ⟨0, [], .v (.int .i64 a0)⟩, ⟨1, [], .v (.int .i64 a1)⟩], [], [], [], none, none⟩ [] (by kernel_rfl) trivial (fun ns_11 a w_12 hI _ => ?_)
  refine cond_ hI (t_3) rfl (fun hc_13 => ?_) (fun hc_13 => ?_)
  ·replace H0 := bif_t hc_13 H0
   refine wpIn_seq ?_
   refine seq_region (live := [12, 4]) (orc := []) hF hI ⟨[⟨12, [], .v (.bool t_7)⟩, ⟨4, [], .v (.int .i64 0)⟩], [], [], [], none, none⟩ [] (by kernel_rfl) trivial (fun ns_14 a w_15 hI _ => ?_)
   refine cond_ hI (t_7) rfl (fun hc_16 => ?_) (fun hc_16 => ?_)
   ·replace H0 := bif_t hc_16 H0
    refine seq_region (live := [4]) (orc := []) hF hI ⟨[⟨4, [], .v (.int .i64 0)⟩], [], [], [], none, none⟩ [] (by kernel_rfl) trivial (fun ns_17 a w_18 hI _ => ?_)
    refine wpIn_ret ?_
    refine then_ret ?_
    refine then_ret ?_
    obtain rfl := Option.some.inj H0
    exact ret1 hI rfl rfl ⟨rfl, hE.below hI⟩
   ·replace H0 := bif_f hc_16 H0
    refine wpIn_skip ?_
    refine then_normal ?_
    refine seq_region (live := [4]) (orc := []) hF hI ⟨[⟨4, [], .v (.int .i64 (-1))⟩], [], [], [], none, none⟩ [] (by kernel_rfl) trivial (fun ns_19 a w_20 hI _ => ?_)
    refine wpIn_ret ?_
    refine then_ret ?_
    obtain rfl := Option.some.inj H0
    exact ret1 hI rfl rfl ⟨rfl, hE.below hI⟩
  ·replace H0 := bif_f hc_13 H0
   refine wpIn_skip ?_
   refine then_normal ?_
   refine wpIn_seq ?_
   refine seq_region (live := [13, 4, 0, 1]) (orc := []) hF hI ⟨[⟨13, [], .v (.bool t_7)⟩, ⟨4, [], .v (.int .i64 0)⟩, ⟨0, [], .v (.int .i64 a0)⟩, ⟨1, [], .v (.int .i64 a1)⟩], [], [], [], none, none⟩ [] (by kernel_rfl) trivial (fun ns_21 a w_22 hI _ => ?_)
   refine cond_ hI (t_7) rfl (fun hc_23 => ?_) (fun hc_23 => ?_)
   ·replace H0 := bif_t hc_23 H0
    refine seq_region (live := [4]) (orc := []) hF hI ⟨[⟨4, [], .v (.int .i64 1)⟩], [], [], [], none, none⟩ [] (by kernel_rfl) trivial (fun ns_24 a w_25 hI _ => ?_)
    refine wpIn_ret ?_
    refine then_ret ?_
    obtain rfl := Option.some.inj H0
    exact ret1 hI rfl rfl ⟨rfl, hE.below hI⟩
   ·replace H0 := bif_f hc_23 H0
    refine wpIn_skip ?_
    refine then_normal ?_
    refine wpIn_seq ?_
    refine seq_region (live := [16, 4, 0, 1]) (orc := []) hF hI ⟨[⟨16, [], .v (.bool (decide (a0 < a1)))⟩, ⟨4, [], .v (.int .i64 0)⟩, ⟨0, [], .v (.int .i64 a0)⟩, ⟨1, [], .v (.int .i64 a1)⟩], [], [], [], none, none⟩ [] (by kernel_rfl) trivial (fun ns_26 a w_27 hI _ => ?_)
    refine cond_ hI (decide (a0 < a1)) rfl (fun hc_28 => ?_) (fun hc_28 => ?_)
    ·replace H0 := bif_t hc_28 H0
     refine seq_region (live := [4]) (orc := []) hF hI ⟨[⟨4, [], .v (.int .i64 (-1))⟩], [], [], [], none, none⟩ [] (by kernel_rfl) trivial (fun ns_29 a w_30 hI _ => ?_)
     refine wpIn_ret ?_
     refine then_ret ?_
     obtain rfl := Option.some.inj H0
     exact ret1 hI rfl rfl ⟨rfl, hE.below hI⟩
    ·replace H0 := bif_f hc_28 H0
     refine wpIn_skip ?_
     refine then_normal ?_
     refine wpIn_seq ?_
     refine seq_region (live := [19, 4]) (orc := []) hF hI ⟨[⟨19, [], .v (.bool (decide (a0 > a1)))⟩, ⟨4, [], .v (.int .i64 0)⟩], [], [], [], none, none⟩ [] (by kernel_rfl) trivial (fun ns_31 a w_32 hI _ => ?_)
     refine cond_ hI (decide (a0 > a1)) rfl (fun hc_33 => ?_) (fun hc_33 => ?_)
     ·replace H0 := bif_t hc_33 H0
      refine seq_region (live := [4]) (orc := []) hF hI ⟨[⟨4, [], .v (.int .i64 1)⟩], [], [], [], none, none⟩ [] (by kernel_rfl) trivial (fun ns_34 a w_35 hI _ => ?_)
      refine wpIn_ret ?_
      refine then_ret ?_
      obtain rfl := Option.some.inj H0
      exact ret1 hI rfl rfl ⟨rfl, hE.below hI⟩
     ·replace H0 := bif_f hc_33 H0
      refine wpIn_skip ?_
      refine then_normal ?_
      refine seq_region (live := [4]) (orc := []) hF hI ⟨[⟨4, [], .v (.int .i64 0)⟩], [], [], [], none, none⟩ [] (by kernel_rfl) trivial (fun ns_36 a w_37 hI _ => ?_)
      refine wpIn_ret ?_
      obtain rfl := Option.some.inj H0
      exact ret1 hI rfl rfl ⟨rfl, hE.below hI⟩

/-! ### cmp.Or[int]: function 51 -/
noncomputable def G_cmp_Or_int.b1 (l0 : (List Int)) (s1 : Int × Int) : Option (Stp (Int × Int) (Ex (Int × Int) (Int))) := (bif decide (s1.1 < (l0.length : Int)) then (req (inb s1.1 l0.length) (bif ((rd l0 s1.1) != 0) then some (.out (.ret (rd l0 s1.1))) else some (.next ((IntKind.i64.wrap (s1.1 + 1)), s1.2)))) else some (.out (.brk (s1.1, s1.2))))
noncomputable def G_cmp_Or_int (l0 : (List Int)) : Option (Int) := ((loopω (G_cmp_Or_int.b1 l0) (0, 0)).bind fun o => o.on (fun s1 => some 0) (fun r => some r))
set_option maxRecDepth 100000 in
set_option maxHeartbeats 4000000 in
theorem G_cmp_Or_int.calls (l0 : (List Int)) (A0 : Option Addr) (c0 : Nat) (w : World) {S : Nat → Prop} (hr0 : Arr (Kd.int .i64) S w A0 l0) (hc0 : l0.length ≤ c0) (r : Int) (h : G_cmp_Or_int l0 = some r) :
    Calls Try.prog 51 #[.slice A0 l0.length c0] w fun e w' => e = .returned (.int .i64 r) ∧ Below w.heap.size w w' := by
  replace hr0 := Arr.lo hr0
  unfold G_cmp_Or_int at h
  have H0 := h
  clear h
  refine enter Try.func51 rfl [.slice A0 l0.length c0] (n := 18) rfl (Nat.le_of_ble_eq_true rfl) (fun a hI => ?_)
  have hF : FOpen Fence.wide := .inl rfl
  have hE := Ep.start w
  refine seq_region (live := [2, 0]) (orc := []) hF hI ⟨[⟨2, [], .v (.int .i64 0)⟩, ⟨0, [], .v (.slice A0 l0.length c0)⟩], [], [], [], none, none⟩ [] (by kernel_rfl) trivial (fun ns_1 a w_2 hI _ => ?_)
  refine seq_region (live := [3, 2, 0]) (orc := []) hF hI ⟨[⟨3, [], .v (.int .i64 0)⟩, ⟨2, [], .v (.int .i64 0)⟩, ⟨0, [], .v (.slice A0 l0.length c0)⟩], [], [], [], none, none⟩ [] (by kernel_rfl) trivial (fun ns_3 a w_4 hI _ => ?_)
  refine wpIn_seq ?_
  refine seq_region (live := [8, 7, 6, 3, 2]) (orc := []) hF hI ⟨[⟨8, [], .v (.int .i64 0)⟩, ⟨7, [], .v (.int .i64 (l0.length : Int))⟩, ⟨6, [], .v (.slice A0 l0.length c0)⟩, ⟨3, [], .v (.int .i64 0)⟩, ⟨2, [], .v (.int .i64 0)⟩], [], [], [], none, none⟩ [] (by kernel_rfl) trivial (fun ns_5 a w_6 hI _ => ?_)
  obtain ⟨o_25, hL_26, H0⟩ := bind_some H0
  refine block_loop (fun (s1 : Int × Int) a w_31 => ∃ ns, St w [] 18 ⟨[⟨8, [], .v (.int .i64 s1.1)⟩, ⟨7, [], .v (.int .i64 (l0.length : Int))⟩, ⟨6, [], .v (.slice A0 l0.length c0)⟩, ⟨3, [], .v (.int .i64 0)⟩, ⟨2, [], .v (.int .i64 s1.2)⟩], [], [], [], none, none⟩ ns a w_31) (0, 0) hL_26 ⟨_, hI.pick [8, 7, 6, 3, 2] 0 ⟨[⟨8, [], .v (.int .i64 0)⟩, ⟨7, [], .v (.int .i64 (l0.length : Int))⟩, ⟨6, [], .v (.slice A0 l0.length c0)⟩, ⟨3, [], .v (.int .i64 0)⟩, ⟨2, [], .v (.int .i64 0)⟩], [], [], [], none, none⟩ (by kernel_rfl)⟩ ?_ ?_
  ·clear hI
   rintro s1 a w_7 ⟨ns_8, hI⟩ r1 H1
   unfold G_cmp_Or_int.b1 at H1
   refine seq_region (live := [9, 8, 7, 6, 3, 2]) (orc := []) hF hI ⟨[⟨9, [], .v (.bool (decide (s1.1 < (l0.length : Int))))⟩, ⟨8, [], .v (.int .i64 s1.1)⟩, ⟨7, [], .v (.int .i64 (l0.length : Int))⟩, ⟨6, [], .v (.slice A0 l0.length c0)⟩, ⟨3, [], .v (.int .i64 0)⟩, ⟨2, [], .v (.int .i64 s1.2)⟩], [], [], [], none, none⟩ [] (by kernel_rfl) trivial (fun ns_9 a w_10 hI _ => ?_)
   refine wpIn_seq ?_
   refine cond_ hI (decide (s1.1 < (l0.length : Int))) rfl (fun hc_11 => ?_) (fun hc_11 => ?_)
   ·replace H1 := bif_t hc_11 H1
    refine wpIn_skip ?_
    refine then_normal ?_
    refine wpIn_seq ?_
    refine wpIn_block ?_
    obtain ⟨hN_12, H1⟩ := req_some H1
    obtain ⟨sv_13, hE_15, hA_14⟩ := Arr.elB (d := (Kd.int .i64)) hr0 s1.1 true (fun _ => hN_12)
    replace hE_15 := hE_15 rfl
    replace hA_14 := fun (_ : true = true) => hA_14 rfl
    refine seq_region (live := [5, 8, 7, 6, 3, 2]) (orc := [[.int .i64 (rd l0 s1.1)]]) hF hI ⟨[⟨5, [], .v (.int .i64 (rd l0 s1.1))⟩, ⟨8, [], .v (.int .i64 s1.1)⟩, ⟨7, [], .v (.int .i64 (l0.length : Int))⟩, ⟨6, [], .v (.slice A0 l0.length c0)⟩, ⟨3, [], .v (.int .i64 0)⟩, ⟨2, [], .v (.int .i64 s1.2)⟩], [], [], [], none, none⟩ [.need true ((0 : Int) ≤ s1.1 ∧ s1.1 < (l0.length : Int)), .need true (A0 = some (adr A0)), .cell true ((adr A0).add ((s1.1 : Int).toNat * 1)) [.int .i64 (rd l0 s1.1)]] (by kernel_rfl) ⟨ob_inb (fun _ => hN_12), hA_14, ob_el (fun _ => hE_15) 0 [.int .i64 (rd l0 s1.1)] rfl, trivial⟩ (fun ns_16 a w_17 hI _ => ?_)
    refine seq_region (live := [14, 5, 8, 7, 6, 3, 2]) (orc := []) hF hI ⟨[⟨14, [], .v (.bool ((rd l0 s1.1) != 0))⟩, ⟨5, [], .v (.int .i64 (rd l0 s1.1))⟩, ⟨8, [], .v (.int .i64 s1.1)⟩, ⟨7, [], .v (.int .i64 (l0.length : Int))⟩, ⟨6, [], .v (.slice A0 l0.length c0)⟩, ⟨3, [], .v (.int .i64 0)⟩, ⟨2, [], .v (.int .i64 s1.2)⟩], [], [], [], none, none⟩ [] (by kernel_rfl) trivial (fun ns_18 a w_19 hI _ => ?_)
    refine cond_ hI (((rd l0 s1.1) != 0)) rfl (fun hc_20 => ?_) (fun hc_20 => ?_)
    ·replace H1 := bif_t hc_20 H1
     refine seq_region (live := [2]) (orc := []) hF hI ⟨[⟨2, [], .v (.int .i64 (rd l0 s1.1))⟩], [], [], [], none, none⟩ [] (by kernel_rfl) trivial (fun ns_21 a w_22 hI _ => ?_)
     refine wpIn_ret ?_
     refine inBlock_ret ?_
     refine then_ret ?_
     refine then_ret ?_
     obtain rfl := Option.some.inj H1
     refine .inr ⟨_, rfl, fun ho => ?_⟩
     subst ho
     refine inBlock_ret ?_
     refine then_ret ?_
     obtain rfl := Option.some.inj H0
     exact ret1 hI rfl rfl ⟨rfl, hE.below hI⟩
    ·replace H1 := bif_f hc_20 H1
     refine wpIn_skip ?_
     refine inBlock_normal ?_
     refine then_normal ?_
     refine region_ (live := [8, 7, 6, 3, 2]) (orc := []) hF hI ⟨[⟨8, [], .v (.int .i64 (IntKind.i64.wrap (s1.1 + 1)))⟩, ⟨7, [], .v (.int .i64 (l0.length : Int))⟩, ⟨6, [], .v (.slice A0 l0.length c0)⟩, ⟨3, [], .v (.int .i64 0)⟩, ⟨2, [], .v (.int .i64 s1.2)⟩], [], [], [], none, none⟩ [] (by kernel_rfl) trivial (fun ns_23 a w_24 hI _ => ?_)
     refine then_normal ?_
     obtain rfl := Option.some.inj H1
     exact ⟨_, rfl, ⟨_, hI.pick [8, 7, 6, 3, 2] 0 ⟨[⟨8, [], .v (.int .i64 (IntKind.i64.wrap (s1.1 + 1)))⟩, ⟨7, [], .v (.int .i64 (l0.length : Int))⟩, ⟨6, [], .v (.slice A0 l0.length c0)⟩, ⟨3, [], .v (.int .i64 0)⟩, ⟨2, [], .v (.int .i64 s1.2)⟩], [], [], [], none, none⟩ (by kernel_rfl)⟩⟩
   ·replace H1 := bif_f hc_11 H1
    refine wpIn_exit ?_
    refine then_exit ?_
    refine then_exit ?_
    obtain rfl := Option.some.inj H1
    exact .inl ⟨_, rfl, rfl, ⟨_, hI.pick [8, 7, 6, 3, 2] 0 ⟨[⟨8, [], .v (.int .i64 s1.1)⟩, ⟨7, [], .v (.int .i64 (l0.length : Int))⟩, ⟨6, [], .v (.slice A0 l0.length c0)⟩, ⟨3, [], .v (.int .i64 0)⟩, ⟨2, [], .v (.int .i64 s1.2)⟩], [], [], [], none, none⟩ (by kernel_rfl)⟩⟩
  ·clear hI
   rintro s1 a w_27 ho ⟨ns_28, hI⟩
   subst ho
   replace H0 : (some 0 : Option (Int)) = _ := H0
   refine then_normal ?_
   refine seq_region (live := [2]) (orc := []) hF hI ⟨[⟨2, [], .v (.int .i64 0)⟩], [], [], [], none, none⟩ [] (by kernel_rfl) trivial (fun ns_29 a w_30 hI _ => ?_)
   refine wpIn_ret ?_
   obtain rfl := Option.some.inj H0
   exact ret1 hI rfl rfl ⟨rfl, hE.below hI⟩

/-! ### porthole/wit.spots$1: function 50 -/
noncomputable def G_wit_spots_1 (x0 : Wit_spot) (x1 : Wit_spot) : Option (Int) := ((G_cmp_Compare_int x0.at_ x1.at_).bind fun t_3 => ((G_cmp_Compare_int x0.rank x1.rank).bind fun t_5 => ((G_cmp_Or_int ([t_3, t_5] : List Int)).bind fun t_12 => some t_12)))
set_option maxRecDepth 100000 in
set_option maxHeartbeats 4000000 in
theorem G_wit_spots_1.calls (x0 : Wit_spot) (x1 : Wit_spot) (sv0 : SV) (sv1 : SV) (w : World) {S : Nat → Prop} (hx0 : (kd_Wit_spot).cont S w x0 sv0) (hx1 : (kd_Wit_spot).cont S w x1 sv1) (r : Int) (h : G_wit_spots_1 x0 x1 = some r) :
    Calls Try.prog 50 #[.agg ((kd_Wit_spot).cells x0 sv0).toArray, .agg ((kd_Wit_spot).cells x1 sv1).toArray] w fun e w' => e = .returned (.int .i64 r) ∧ Below w.heap.size w w' := by
  replace hx0 := Kd.lo _ hx0
  replace hx1 := Kd.lo _ hx1
  unfold G_wit_spots_1 at h
  have H0 := h
  clear h
  refine enter Try.func50 rfl [.agg ((kd_Wit_spot).cells x0 sv0).toArray, .agg ((kd_Wit_spot).cells x1 sv1).toArray] (n := 17) rfl (Nat.le_of_ble_eq_true rfl) (fun a hI => ?_)
  have hF : FOpen Fence.wide := .inl rfl
  have hE := Ep.start w
  refine seq_region (live := [4, 3, 2]) (orc := []) hF hI ⟨[⟨4, [], .v (.int .i64 0)⟩, ⟨3, [], .p 1 0⟩, ⟨2, [], .p 0 0⟩], [], [], [((((kd_Wit_spot).cells x0 sv0).map EV.v), 91), ((((kd_Wit_spot).cells x1 sv1).map EV.v), 91)], none, none⟩ [] (by kernel_rfl) trivial (fun ns_1 a w_2 hI _ => ?_)
  refine wpIn_seq ?_
  replace hI := hI.fin (live := [3, 2]) (σ2 := ⟨[⟨3, [], .p 1 0⟩, ⟨2, [], .p 0 0⟩], [], [], [((((kd_Wit_spot).cells x0 sv0).map EV.v), 91), ((((kd_Wit_spot).cells x1 sv1).map EV.v), 91)], none, none⟩) (by kernel_rfl)
  obtain ⟨t_3, hG_4, H0⟩ := bind_some H0
  obtain ⟨t_5, hG_6, H0⟩ := bind_some H0
  refine drawnS_ hI (by kernel_rfl) [.q 5 (.p 0 0) [], .q 6 (.v (.int .i64 x0.at_)) [], .q 7 (.p 1 0) [], .q 8 (.v (.int .i64 x1.at_)) [], .q 9 (.v (.int .i64 t_3)) [.call true 52 [.int .i64 x0.at_, .int .i64 x1.at_] (.int .i64 t_3)], .q 10 (.p 0 1) [], .q 11 (.v (.int .i64 x0.rank)) [], .q 12 (.p 1 1) [], .q 13 (.v (.int .i64 x1.rank)) [], .q 14 (.v (.int .i64 t_5)) [.call true 52 [.int .i64 x0.rank, .int .i64 x1.rank] (.int .i64 t_5)], .no, .no, .no] (by kernel_rfl) (fun fuel listed w_7 hJ hsz hu => ?_)
  refine stage_ hJ hF hsz hu [.q [] [], .q [0] [], .q [] [], .q [2] [], .q [1, 3] [[.int .i64 t_3]], .q [] [], .q [5] [], .q [] [], .q [7] [], .q [6, 8] [[.int .i64 t_5]], .no, .no, .no] (by kernel_rfl) (by kernel_rfl) (by kernel_rfl) (by kernel_rfl) 10 rfl (by kernel_rfl) (by kernel_rfl) [4, 9] rfl (by kernel_rfl) (by kernel_rfl) ⟨ob_call (enters Try.func52 (by kernel_rfl) rfl) (fun hg wz hk => G_cmp_Compare_int.calls x0.at_ x1.at_  wz (S := fun _ => True)  _ hG_4), ob_call (enters Try.func52 (by kernel_rfl) rfl) (fun hg wz hk => G_cmp_Compare_int.calls x0.rank x1.rank  wz (S := fun _ => True)  _ hG_6), trivial⟩ [4, 9] (by kernel_rfl) [.q 5 (.p 0 0) [], .q 6 (.v (.int .i64 x0.at_)) [], .q 7 (.p 1 0) [], .q 8 (.v (.int .i64 x1.at_)) [], .t (some 9) (some (.v (.int .i64 t_3))), .q 10 (.p 0 1) [], .q 11 (.v (.int .i64 x0.rank)) [], .q 12 (.p 1 1) [], .q 13 (.v (.int .i64 x1.rank)) [], .t (some 14) (some (.v (.int .i64 t_5))), .no, .no, .no] (by kernel_rfl) (fun fuel listed a w_8 hJ hI hW h1 hnl hsz hu => ?_)
  obtain ⟨hE', hmv, hmr⟩ := Ep.rebase hE hI
  replace hx0 := Kd.keep _ hx0 (hmv _)
  replace hx1 := Kd.keep _ hx1 (hmv _)
  replace hE := hE'
  replace hI := hI.rebase
  clear hE' hmv hmr
  refine buildSlice_ (S0 := S) (d := (Kd.int .i64)) (e := 3) hF hE hI hW rfl (by kernel_rfl) (cs := [.int .i64 t_3, .int .i64 t_5]) (by kernel_rfl) [t_3, t_5] [(svL []), (svL [])] rfl rfl (by simp [maxLen]) (fun i x hi => by cases i with | zero => (simp only [List.getElem?_cons_zero, Option.some.injEq] at hi; subst hi; exact ⟨trivial, rfl⟩) | succ i => (simp only [List.getElem?_cons_succ] at hi; cases i with | zero => (simp only [List.getElem?_cons_zero, Option.some.injEq] at hi; subst hi; exact ⟨trivial, rfl⟩) | succ i => (simp only [List.getElem?_cons_succ] at hi; simp at hi))) (fun A_9 => ⟨[⟨15, [], .v (.slice A_9 ([t_3, t_5] : List Int).length (([t_3, t_5] : List Int).length))⟩, ⟨9, [], .v (.int .i64 t_3)⟩, ⟨14, [], .v (.int .i64 t_5)⟩, ⟨3, [], .p 1 0⟩, ⟨2, [], .p 0 0⟩], [], [], [((((kd_Wit_spot).cells x0 sv0).map EV.v), 91), ((((kd_Wit_spot).cells x1 sv1).map EV.v), 91)], none, none⟩) (fun A_9 => by kernel_rfl) (fun A_9 a w_11 hput hE' hI' hmv hmr hq_10 => ?_)
  replace hx0 := Kd.keep _ hx0 (hmv _)
  replace hx1 := Kd.keep _ hx1 (hmv _)
  replace hE := hE'
  replace hI := hI'
  clear hE' hI' hmv hmr
  obtain ⟨t_12, hG_13, H0⟩ := bind_some H0
  refine next_ hJ h1 hnl hsz hu (by kernel_rfl) (by kernel_rfl) hput hI (live := [3, 2]) ⟨[⟨3, [], .p 1 0⟩, ⟨2, [], .p 0 0⟩], [], [], [((((kd_Wit_spot).cells x0 sv0).map EV.v), 91), ((((kd_Wit_spot).cells x1 sv1).map EV.v), 91)], none, none⟩ (by kernel_rfl) (some (.v (.slice A_9 ([t_3, t_5] : List Int).length (([t_3, t_5] : List Int).length)))) (by kernel_rfl) [(11, .q 16 (.v (.int .i64 t_12)) [.call true 51 [.slice A_9 ([t_3, t_5] : List Int).length (([t_3, t_5] : List Int).length)] (.int .i64 t_12)]), (12, .q 4 (.v (.int .i64 t_12)) [])] [.q 5 (.p 0 0) [], .q 6 (.v (.int .i64 x0.at_)) [], .q 7 (.p 1 0) [], .q 8 (.v (.int .i64 x1.at_)) [], .t (some 9) (some (.v (.int .i64 t_3))), .q 10 (.p 0 1) [], .q 11 (.v (.int .i64 x0.rank)) [], .q 12 (.p 1 1) [], .q 13 (.v (.int .i64 x1.rank)) [], .t (some 14) (some (.v (.int .i64 t_5))), .t (some 15) (some (.v (.slice A_9 ([t_3, t_5] : List Int).length (([t_3, t_5] : List Int).length)))), .q 16 (.v (.int .i64 t_12)) [.call true 51 [.slice A_9 ([t_3, t_5] : List Int).length (([t_3, t_5] : List Int).length)] (.int .i64 t_12)], .q 4 (.v (.int .i64 t_12)) []] (by kernel_rfl) (by kernel_rfl) (by kernel_rfl) True.intro (AL.none (by kernel_rfl)) (fun hJ hsz hu => ?_)
  refine end_ hJ hF hsz hu [.q [] [], .q [0] [], .q [] [], .q [2] [], .t (some (.v (.int .i64 t_3))), .q [] [], .q [5] [], .q [] [], .q [7] [], .t (some (.v (.int .i64 t_5))), .t (some (.v (.slice A_9 ([t_3, t_5] : List Int).length (([t_3, t_5] : List Int).length)))), .q [10] [[.int .i64 t_12]], .q [11] []] (by kernel_rfl) (by kernel_rfl) (by kernel_rfl) (by kernel_rfl) (by kernel_rfl) (by kernel_rfl) (live := [4]) ⟨[⟨4, [], .v (.int .i64 t_12)⟩], [], [], [((((kd_Wit_spot).cells x0 sv0).map EV.v), 91), ((((kd_Wit_spot).cells x1 sv1).map EV.v), 91)], none, none⟩ (by kernel_rfl) ⟨ob_call (enters Try.func51 (by kernel_rfl) rfl) (fun hg wz hk => G_cmp_Or_int.calls ([t_3, t_5] : List Int) A_9 (([t_3, t_5] : List Int).length) wz (S := fun _ => True) (Row.arr (S' := fun _ => True) (Row.on hq_10 hE (by simp) hk) (fun _ _ => trivial) (fun _ _ => trivial)).1 (Row.arr (S' := fun _ => True) hq_10 (fun _ _ => trivial) (fun _ _ => trivial)).2 _ hG_13), trivial⟩ (fun a w_14 hI => ?_)
  refine then_normal ?_
  refine wpIn_ret ?_
  obtain rfl := Option.some.inj H0
  exact ret1 hI rfl rfl ⟨rfl, hE.below hI⟩

/-! ### calls through a function of type 96 -/
noncomputable def Fn96.run (f : Fn96) (x0 : Wit_spot) (x1 : Wit_spot) : Option (Int) := match f with
  | .f50 => G_wit_spots_1 x0 x1
theorem Fn96.ent (f : Fn96) (args : Array Value) (w : World) : (callFunc (fid96 f) args).run Try.prog w = .ok (.enter (fid96 f) args) w := by
  cases f with
  | f50 => exact enters Try.func50 (by kernel_rfl) rfl args w
theorem Fn96.calls (f : Fn96) (x0 : Wit_spot) (x1 : Wit_spot) (svf : SV) (sv0 : SV) (sv1 : SV) (w : World) {S : Nat → Prop} (hf : (kdF96).cont S w f svf) (hx0 : (kd_Wit_spot).cont S w x0 sv0) (hx1 : (kd_Wit_spot).cont S w x1 sv1) (r : Int) (h : Fn96.run f x0 x1 = some r) :
    Calls Try.prog (fid96 f) (([.agg ((kd_Wit_spot).cells x0 sv0).toArray, .agg ((kd_Wit_spot).cells x1 sv1).toArray] : List Value) ++ (fca96 f svf).toList).toArray w fun e w' => e = .returned (.int .i64 r) ∧ Below w.heap.size w w' := by
  cases f with
  | f50 => exact G_wit_spots_1.calls x0 x1  sv0 sv1  w hx0 hx1  r h

/-! ### slices.insertionSortCmpFunc[porthole/wit.spot]: function 55 -/
noncomputable def G_wit_spot_55.b2 (l0 : (List Wit_spot)) (n0 : Nat) (a1 : Int) (a2 : Int) (x3 : Fn96) (s1 : Int × (List Wit_spot)) (s2 : Int × (List Wit_spot)) : Option (Stp (Int × (List Wit_spot)) (Ex (Int × (List Wit_spot)) ((List Wit_spot)))) := (req (imp (decide (s2.1 > a1)) (inb s2.1 n0)) (req (imp (decide (s2.1 > a1)) (inb (IntKind.i64.wrap (s2.1 - 1)) n0)) ((cal (decide (s2.1 > a1)) (Fn96.run x3 (rd s2.2 s2.1) (rd s2.2 (IntKind.i64.wrap (s2.1 - 1)))) default).bind fun t_22 => (bif (decide (s2.1 > a1) && decide (t_22 < 0)) then (req (inb (IntKind.i64.wrap (s2.1 - 1)) n0) (req (inb s2.1 n0) (req (inb s2.1 n0) (req (inb (IntKind.i64.wrap (s2.1 - 1)) n0) (some (.next ((IntKind.i64.wrap (s2.1 - 1)), ((s2.2.set (s2.1 : Int).toNat (rd s2.2 (IntKind.i64.wrap (s2.1 - 1)))).set ((IntKind.i64.wrap (s2.1 - 1)) : Int).toNat (rd s2.2 s2.1))))))))) else some (.out (.brk (s2.1, s2.2)))))))
noncomputable def G_wit_spot_55.b1 (l0 : (List Wit_spot)) (n0 : Nat) (a1 : Int) (a2 : Int) (x3 : Fn96) (s1 : Int × (List Wit_spot)) : Option (Stp (Int × (List Wit_spot)) (Ex (Int × (List Wit_spot)) ((List Wit_spot)))) := (bif decide (s1.1 < a2) then ((loopω (G_wit_spot_55.b2 l0 n0 a1 a2 x3 s1) (s1.1, s1.2)).bind fun o => o.on (fun s2 => some (.next ((IntKind.i64.wrap (s1.1 + 1)), s2.2))) (fun r => some (.out (.ret r)))) else some (.out (.brk (s1.1, s1.2))))
noncomputable def G_wit_spot_55 (l0 : (List Wit_spot)) (n0 : Nat) (a1 : Int) (a2 : Int) (x3 : Fn96) : Option ((List Wit_spot)) := ((loopω (G_wit_spot_55.b1 l0 n0 a1 a2 x3) ((IntKind.i64.wrap (a1 + 1)), l0)).bind fun o => o.on (fun s1 => some s1.2) (fun r => some r))
set_option maxRecDepth 100000 in
set_option maxHeartbeats 4000000 in
theorem G_wit_spot_55.calls (l0 : (List Wit_spot)) (n0 : Nat) (a1 : Int) (a2 : Int) (x3 : Fn96) (A0 : Option Addr) (c0 base0 : Nat) (sv3 : SV) (w : World) {S : Nat → Prop} (hr0 : Row kd_Wit_spot 91 S w base0 A0 c0 l0) (hn0 : l0.length = n0) (hx3 : (kdF96).cont S w x3 sv3) (hms : ∀ b, S b → b ∉ ([rb A0] : List (List Nat)).flatten) (hmd : ([rb A0] : List (List Nat)).flatten.Nodup) (hml : ∀ b ∈ ([rb A0] : List (List Nat)).flatten, b < w.heap.size) (r : (List Wit_spot)) (h : G_wit_spot_55 l0 n0 a1 a2 x3 = some r) :
    Calls Try.prog 55 #[.slice A0 n0 c0, .int .i64 a1, .int .i64 a2, fnv96 x3 sv3] w fun e w' => ∃ sv : SV, e = .returned (.tuple #[]) ∧ Keeps (([rb A0] : List (List Nat)).flatten) w w' ∧ Row kd_Wit_spot 91 (fun b => w.heap.size ≤ b ∨ S b) w' base0 A0 c0 r ∧ r.length = n0 := by
  replace hx3 := Kd.keep _ hx3 (Mv.start w hms)
  replace hr0 := Row.keep hr0 (Mv.start w hms) (fun _ _ => rfl)
  unfold G_wit_spot_55 at h
  have H0 := h
  clear h
  refine enter Try.func55 rfl [.slice A0 n0 c0, .int .i64 a1, .int .i64 a2, fnv96 x3 sv3] (n := 53) rfl (Nat.le_of_ble_eq_true rfl) (fun a hI => ?_)
  have hF : FOpen Fence.wide := .inl rfl
  have hE := Ep.startM w [rb A0] hmd hml
  refine seq_region (live := [8, 0, 1, 2, 3]) (orc := []) hF hI ⟨[⟨8, [], .v (.int .i64 (IntKind.i64.wrap (a1 + 1)))⟩, ⟨0, [], .v (.slice A0 n0 c0)⟩, ⟨1, [], .v (.int .i64 a1)⟩, ⟨2, [], .v (.int .i64 a2)⟩, ⟨3, [], .v (fnv96 x3 sv3)⟩], [], [], [], none, none⟩ [] (by kernel_rfl) trivial (fun ns_1 a w_2 hI _ => ?_)
  obtain ⟨hE', hmv, hmr⟩ := Ep.rebase hE hI
  replace hx3 := Kd.keep _ hx3 (hmv _)
  replace hr0 := Row.keep hr0 (hmv _) (fun b hb => hmr b (by simp [hb]))
  replace hE := hE'
  replace hI := hI.rebase
  clear hE' hmv hmr
  obtain ⟨o_60, hL_61, H0⟩ := bind_some H0
  refine block_loop (fun (s1 : Int × (List Wit_spot)) a w_65 => ∃ (ow ns : List Nat) , ((kdF96).cont (Lo S w w_65 ow [rb A0]) w_65 x3 sv3) ∧ (Row kd_Wit_spot 91 (Lo S w w_65 ow [rb A0]) w_65 base0 A0 c0 s1.2) ∧ (s1.2.length = n0) ∧ Ep ([rb A0] : List (List Nat)).flatten w w_65 ow [rb A0] ∧ St w_65 ow 53 ⟨[⟨8, [], .v (.int .i64 s1.1)⟩, ⟨0, [], .v (.slice A0 n0 c0)⟩, ⟨1, [], .v (.int .i64 a1)⟩, ⟨2, [], .v (.int .i64 a2)⟩, ⟨3, [], .v (fnv96 x3 sv3)⟩], [], [], [], none, none⟩ ns a w_65) ((IntKind.i64.wrap (a1 + 1)), l0) hL_61 ⟨_, _, hx3, hr0, hn0, hE, hI.pick [8, 0, 1, 2, 3] 0 ⟨[⟨8, [], .v (.int .i64 (IntKind.i64.wrap (a1 + 1)))⟩, ⟨0, [], .v (.slice A0 n0 c0)⟩, ⟨1, [], .v (.int .i64 a1)⟩, ⟨2, [], .v (.int .i64 a2)⟩, ⟨3, [], .v (fnv96 x3 sv3)⟩], [], [], [], none, none⟩ (by kernel_rfl)⟩ ?_ ?_
  ·clear hI hE
   rintro s1 a w_3 ⟨ow_5, ns_4, hx3, hr0, hn0, hE, hI⟩ r1 H1
   unfold G_wit_spot_55.b1 at H1
   refine wpIn_seq ?_
   refine seq_region (live := [14, 8, 0, 1, 2, 3]) (orc := []) hF hI ⟨[⟨14, [], .v (.bool (decide (s1.1 < a2)))⟩, ⟨8, [], .v (.int .i64 s1.1)⟩, ⟨0, [], .v (.slice A0 n0 c0)⟩, ⟨1, [], .v (.int .i64 a1)⟩, ⟨2, [], .v (.int .i64 a2)⟩, ⟨3, [], .v (fnv96 x3 sv3)⟩], [], [], [], none, none⟩ [] (by kernel_rfl) trivial (fun ns_6 a w_7 hI _ => ?_)
   refine cond_ hI (decide (s1.1 < a2)) rfl (fun hc_8 => ?_) (fun hc_8 => ?_)
   ·replace H1 := bif_t hc_8 H1
    refine wpIn_skip ?_
    refine then_normal ?_
    refine wpIn_seq ?_
    refine wpIn_block ?_
    refine seq_region (live := [9, 8, 0, 1, 2, 3]) (orc := []) hF hI ⟨[⟨9, [], .v (.int .i64 s1.1)⟩, ⟨8, [], .v (.int .i64 s1.1)⟩, ⟨0, [], .v (.slice A0 n0 c0)⟩, ⟨1, [], .v (.int .i64 a1)⟩, ⟨2, [], .v (.int .i64 a2)⟩, ⟨3, [], .v (fnv96 x3 sv3)⟩], [], [], [], none, none⟩ [] (by kernel_rfl) trivial (fun ns_9 a w_10 hI _ => ?_)
    obtain ⟨hE', hmv, hmr⟩ := Ep.rebase hE hI
    replace hx3 := Kd.keep _ hx3 (hmv _)
    replace hr0 := Row.keep hr0 (hmv _) (fun b hb => hmr b (by simp [hb]))
    replace hE := hE'
    replace hI := hI.rebase
    clear hE' hmv hmr
    obtain ⟨o_52, hL_53, H1⟩ := bind_some H1
    refine block_loop (fun (s2 : Int × (List Wit_spot)) a w_59 => ∃ (ow ns : List Nat) , ((kdF96).cont (Lo S w w_59 ow [rb A0]) w_59 x3 sv3) ∧ (Row kd_Wit_spot 91 (Lo S w w_59 ow [rb A0]) w_59 base0 A0 c0 s2.2) ∧ (s2.2.length = n0) ∧ Ep ([rb A0] : List (List Nat)).flatten w w_59 ow [rb A0] ∧ St w_59 ow 53 ⟨[⟨9, [], .v (.int .i64 s2.1)⟩, ⟨8, [], .v (.int .i64 s1.1)⟩, ⟨0, [], .v (.slice A0 n0 c0)⟩, ⟨1, [], .v (.int .i64 a1)⟩, ⟨2, [], .v (.int .i64 a2)⟩, ⟨3, [], .v (fnv96 x3 sv3)⟩], [], [], [], none, none⟩ ns a w_59) (s1.1, s1.2) hL_53 ⟨_, _, hx3, hr0, hn0, hE, hI.pick [9, 8, 0, 1, 2, 3] 0 ⟨[⟨9, [], .v (.int .i64 s1.1)⟩, ⟨8, [], .v (.int .i64 s1.1)⟩, ⟨0, [], .v (.slice A0 n0 c0)⟩, ⟨1, [], .v (.int .i64 a1)⟩, ⟨2, [], .v (.int .i64 a2)⟩, ⟨3, [], .v (fnv96 x3 sv3)⟩], [], [], [], none, none⟩ (by kernel_rfl)⟩ ?_ ?_
    ·clear hI hE
     rintro s2 a w_11 ⟨ow_13, ns_12, hx3, hr0, hn0, hE, hI⟩ r2 H2
     unfold G_wit_spot_55.b2 at H2
     refine wpIn_seq ?_
     refine wpIn_seq ?_
     obtain ⟨hN_14, H2⟩ := req_some H2
     obtain ⟨sv_15, hE_17, hA_16⟩ := Row.elB hr0 hE (by simp) s2.1 (decide (s2.1 > a1)) (fun hg => by rw [hn0]; exact (fun hg => imp_spec hN_14 hg) hg)
     obtain ⟨hN_18, H2⟩ := req_some H2
     obtain ⟨sv_19, hE_21, hA_20⟩ := Row.elB hr0 hE (by simp) (IntKind.i64.wrap (s2.1 - 1)) (decide (s2.1 > a1)) (fun hg => by rw [hn0]; exact (fun hg => imp_spec hN_18 hg) hg)
     obtain ⟨t_22, hG_23, H2⟩ := bind_some H2
     refine drawn_ (live := [34, 9, 8, 0, 1, 2, 3]) (orc := [(kd_Wit_spot).cells (rd s2.2 s2.1) sv_15, (kd_Wit_spot).cells (rd s2.2 (IntKind.i64.wrap (s2.1 - 1))) sv_19, [.int .i64 t_22]]) hF hI ⟨[⟨34, [], .v (.bool (decide (s2.1 > a1) && decide (t_22 < 0)))⟩, ⟨9, [], .v (.int .i64 s2.1)⟩, ⟨8, [], .v (.int .i64 s1.1)⟩, ⟨0, [], .v (.slice A0 n0 c0)⟩, ⟨1, [], .v (.int .i64 a1)⟩, ⟨2, [], .v (.int .i64 a2)⟩, ⟨3, [], .v (fnv96 x3 sv3)⟩], [], [], [], none, none⟩ [.need (decide (s2.1 > a1)) ((0 : Int) ≤ s2.1 ∧ s2.1 < (n0 : Int)), .need (decide (s2.1 > a1)) (A0 = some (adr A0)), .cell (decide (s2.1 > a1)) ((adr A0).add ((s2.1 : Int).toNat * 4)) ((kd_Wit_spot).cells (rd s2.2 s2.1) sv_15), .need (decide (s2.1 > a1)) ((0 : Int) ≤ (IntKind.i64.wrap (s2.1 - 1)) ∧ (IntKind.i64.wrap (s2.1 - 1)) < (n0 : Int)), .need (decide (s2.1 > a1)) (A0 = some (adr A0)), .cell (decide (s2.1 > a1)) ((adr A0).add (((IntKind.i64.wrap (s2.1 - 1)) : Int).toNat * 4)) ((kd_Wit_spot).cells (rd s2.2 (IntKind.i64.wrap (s2.1 - 1))) sv_19), .call (decide (s2.1 > a1)) (fid96 x3) (([.agg ((kd_Wit_spot).cells (rd s2.2 s2.1) (svL [])).toArray, .agg ((kd_Wit_spot).cells (rd s2.2 (IntKind.i64.wrap (s2.1 - 1))) (svL [])).toArray] : List Value) ++ (fca96 x3 sv3).toList) (.int .i64 t_22)] (by kernel_rfl) (by kernel_rfl) (by kernel_rfl) ⟨ob_inb (fun hg => imp_spec hN_14 hg), hA_16, ob_elR hE_17 0 ((kd_Wit_spot).cells (rd s2.2 s2.1) sv_15) rfl, ob_inb (fun hg => imp_spec hN_18 hg), hA_20, ob_elR hE_21 0 ((kd_Wit_spot).cells (rd s2.2 (IntKind.i64.wrap (s2.1 - 1))) sv_19) rfl, ob_call (Fn96.ent x3) (fun hg wz hk => Fn96.calls x3 (rd s2.2 s2.1) (rd s2.2 (IntKind.i64.wrap (s2.1 - 1))) sv3 (svL []) (svL []) wz (S := fun _ => True) (Kd.any _ (Kd.keep kdF96 hx3 (Lo.on hk))) (Kd.any _ (Kd.keep kd_Wit_spot (contI (S := Lo S w w_11 ow_13 [rb A0]) (w := w_11) (d := kd_Wit_spot) (x := (rd s2.2 s2.1)) (sv := (svL [])) trivial) (Lo.on hk))) (Kd.any _ (Kd.keep kd_Wit_spot (contI (S := Lo S w w_11 ow_13 [rb A0]) (w := w_11) (d := kd_Wit_spot) (x := (rd s2.2 (IntKind.i64.wrap (s2.1 - 1)))) (sv := (svL [])) trivial) (Lo.on hk))) _ (cal_some hG_23 hg)), trivial⟩ (fun a w_24 hI => ?_)
     refine then_normal ?_
     refine cond_ hI ((decide (s2.1 > a1) && decide (t_22 < 0))) rfl (fun hc_25 => ?_) (fun hc_25 => ?_)
     ·replace H2 := bif_t hc_25 H2
      refine wpIn_skip ?_
      refine then_normal ?_
      refine wpIn_seq ?_
      refine wpIn_block ?_
      replace hI := hI.fin (live := [34, 9, 8, 0, 1, 2, 3]) (σ2 := ⟨[⟨34, [], .v (.bool (decide (s2.1 > a1) && decide (t_22 < 0)))⟩, ⟨9, [], .v (.int .i64 s2.1)⟩, ⟨8, [], .v (.int .i64 s1.1)⟩, ⟨0, [], .v (.slice A0 n0 c0)⟩, ⟨1, [], .v (.int .i64 a1)⟩, ⟨2, [], .v (.int .i64 a2)⟩, ⟨3, [], .v (fnv96 x3 sv3)⟩], [], [], [], none, none⟩) (by kernel_rfl)
      obtain ⟨hN_26, H2⟩ := req_some H2
      obtain ⟨sv_27, hE_29, hA_28⟩ := Row.elB hr0 hE (by simp) (IntKind.i64.wrap (s2.1 - 1)) true (fun hg => by rw [hn0]; exact (fun _ => hN_26) hg)
      obtain ⟨hN_30, H2⟩ := req_some H2
      obtain ⟨sv_31, hE_33, hA_32⟩ := Row.elB hr0 hE (by simp) s2.1 true (fun hg => by rw [hn0]; exact (fun _ => hN_30) hg)
      obtain ⟨hN_34, H2⟩ := req_some H2
      obtain ⟨sv_35, hE_37, hA_36⟩ := Row.elB hr0 hE (by simp) s2.1 true (fun hg => by rw [hn0]; exact (fun _ => hN_34) hg)
      obtain ⟨hN_38, H2⟩ := req_some H2
      obtain ⟨sv_39, hE_41, hA_40⟩ := Row.elB hr0 hE (by simp) (IntKind.i64.wrap (s2.1 - 1)) true (fun hg => by rw [hn0]; exact (fun _ => hN_38) hg)
      refine drawnS_ hI (by kernel_rfl) [.q 37 (.v (.slice A0 n0 c0)) [], .q 38 (.v (.int .i64 s2.1)) [], .q 39 (.v (.slice A0 n0 c0)) [], .q 40 (.v (.int .i64 s2.1)) [], .q 41 (.v (.int .i64 (IntKind.i64.wrap (s2.1 - 1)))) [], .q 42 (.v (.slice A0 n0 c0)) [], .q 43 (.v (.int .i64 s2.1)) [], .q 44 (.v (.int .i64 (IntKind.i64.wrap (s2.1 - 1)))) [], .q 45 (.v (.pointer (some ((adr A0).add (((IntKind.i64.wrap (s2.1 - 1)) : Int).toNat * 4))))) [.need true ((0 : Int) ≤ (IntKind.i64.wrap (s2.1 - 1)) ∧ (IntKind.i64.wrap (s2.1 - 1)) < (n0 : Int)), .need true (A0 = some (adr A0))], .q 46 (.v (.agg ((kd_Wit_spot).cells (rd s2.2 (IntKind.i64.wrap (s2.1 - 1))) sv_27).toArray)) [.cell true ((adr A0).add (((IntKind.i64.wrap (s2.1 - 1)) : Int).toNat * 4)) ((kd_Wit_spot).cells (rd s2.2 (IntKind.i64.wrap (s2.1 - 1))) sv_27)], .q 47 (.v (.slice A0 n0 c0)) [], .q 48 (.v (.int .i64 s2.1)) [], .q 49 (.v (.pointer (some ((adr A0).add ((s2.1 : Int).toNat * 4))))) [.need true ((0 : Int) ≤ s2.1 ∧ s2.1 < (n0 : Int)), .need true (A0 = some (adr A0))], .q 50 (.v (.agg ((kd_Wit_spot).cells (rd s2.2 s2.1) sv_31).toArray)) [.cell true ((adr A0).add ((s2.1 : Int).toNat * 4)) ((kd_Wit_spot).cells (rd s2.2 s2.1) sv_31)], .q 51 (.v (.pointer (some ((adr A0).add ((s2.1 : Int).toNat * 4))))) [.need true ((0 : Int) ≤ s2.1 ∧ s2.1 < (n0 : Int)), .need true (A0 = some (adr A0))], .no, .q 52 (.v (.pointer (some ((adr A0).add (((IntKind.i64.wrap (s2.1 - 1)) : Int).toNat * 4))))) [.need true ((0 : Int) ≤ (IntKind.i64.wrap (s2.1 - 1)) ∧ (IntKind.i64.wrap (s2.1 - 1)) < (n0 : Int)), .need true (A0 = some (adr A0))], .no] (by kernel_rfl) (fun fuel listed w_42 hJ hsz hu => ?_)
      refine stage_ hJ hF hsz hu [.q [] [], .q [] [], .q [] [], .q [] [], .q [3] [], .q [] [], .q [] [], .q [6] [], .q [5, 7] [], .q [8] [(kd_Wit_spot).cells (rd s2.2 (IntKind.i64.wrap (s2.1 - 1))) sv_27], .q [] [], .q [] [], .q [10, 11] [], .q [12] [(kd_Wit_spot).cells (rd s2.2 s2.1) sv_31], .q [0, 1] [], .no, .q [2, 4] [], .no] (by kernel_rfl) (by kernel_rfl) (by kernel_rfl) (by kernel_rfl) 15 rfl (by kernel_rfl) (by kernel_rfl) [14, 9] rfl (by kernel_rfl) (by kernel_rfl) ⟨ob_inb (fun _ => hN_26), hA_28, ob_elR hE_29 0 ((kd_Wit_spot).cells (rd s2.2 (IntKind.i64.wrap (s2.1 - 1))) sv_27) rfl, ob_inb (fun _ => hN_30), hA_32, ob_elR hE_33 0 ((kd_Wit_spot).cells (rd s2.2 s2.1) sv_31) rfl, ob_inb (fun _ => hN_34), hA_36, ob_inb (fun _ => hN_38), hA_40, trivial⟩ [0, 1, 5, 6, 7, 8, 9, 13, 14] (by kernel_rfl) [.t (some 37) (some (.v (.slice A0 n0 c0))), .t (some 38) (some (.v (.int .i64 s2.1))), .q 39 (.v (.slice A0 n0 c0)) [], .q 40 (.v (.int .i64 s2.1)) [], .q 41 (.v (.int .i64 (IntKind.i64.wrap (s2.1 - 1)))) [], .t (some 42) (some (.v (.slice A0 n0 c0))), .t (some 43) (some (.v (.int .i64 s2.1))), .t (some 44) (some (.v (.int .i64 (IntKind.i64.wrap (s2.1 - 1))))), .t (some 45) (some (.v (.pointer (some ((adr A0).add (((IntKind.i64.wrap (s2.1 - 1)) : Int).toNat * 4)))))), .t (some 46) (some (.v (.agg ((kd_Wit_spot).cells (rd s2.2 (IntKind.i64.wrap (s2.1 - 1))) sv_27).toArray))), .q 47 (.v (.slice A0 n0 c0)) [], .q 48 (.v (.int .i64 s2.1)) [], .q 49 (.v (.pointer (some ((adr A0).add ((s2.1 : Int).toNat * 4))))) [.need true ((0 : Int) ≤ s2.1 ∧ s2.1 < (n0 : Int)), .need true (A0 = some (adr A0))], .t (some 50) (some (.v (.agg ((kd_Wit_spot).cells (rd s2.2 s2.1) sv_31).toArray))), .t (some 51) (some (.v (.pointer (some ((adr A0).add ((s2.1 : Int).toNat * 4)))))), .no, .q 52 (.v (.pointer (some ((adr A0).add (((IntKind.i64.wrap (s2.1 - 1)) : Int).toNat * 4))))) [.need true ((0 : Int) ≤ (IntKind.i64.wrap (s2.1 - 1)) ∧ (IntKind.i64.wrap (s2.1 - 1)) < (n0 : Int)), .need true (A0 = some (adr A0))], .no] (by kernel_rfl) (fun fuel listed a w_43 hJ hI hW h1 hnl hsz hu => ?_)
      obtain ⟨hE', hmv, hmr⟩ := Ep.rebase hE hI
      replace hx3 := Kd.keep _ hx3 (hmv _)
      replace hr0 := Row.keep hr0 (hmv _) (fun b hb => hmr b (by simp [hb]))
      replace hE := hE'
      replace hI := hI.rebase
      clear hE' hmv hmr
      refine storeSeg_ (S0 := S) (d := kd_Wit_spot) (e := 91) (l := s2.2) (A := A0) (i := s2.1) (off := 0) hF hE hI hW rfl rfl (ad := ((adr A0).add ((s2.1 : Int).toNat * 4))) rfl rfl rfl (vs := [.int .i64 ((rd s2.2 (IntKind.i64.wrap (s2.1 - 1))).at_), .int .i64 ((rd s2.2 (IntKind.i64.wrap (s2.1 - 1))).rank), .int .i64 ((rd s2.2 (IntKind.i64.wrap (s2.1 - 1))).item.Kind), .int .i64 ((rd s2.2 (IntKind.i64.wrap (s2.1 - 1))).item.Of)]) rfl rfl rfl rfl (by simp) (by rw [hn0]; exact hN_34) hr0 (rd s2.2 (IntKind.i64.wrap (s2.1 - 1))) (fun _ => (svL [])) (fun _ => rfl) (fun sv h => trivial) (fun a w_44 hput hE' hI' hmv hmr hr0 => ?_)
      replace hx3 := Kd.keep _ hx3 (hmv _)
      replace hE := hE'
      replace hI := hI'
      clear hE' hI' hmv hmr
      have hn0 : (s2.2.set (s2.1 : Int).toNat (rd s2.2 (IntKind.i64.wrap (s2.1 - 1)))).length = n0 := List.length_set.trans hn0
      refine next_ hJ h1 hnl hsz hu (by kernel_rfl) (by kernel_rfl) hput hI (live := [34, 9, 8, 0, 1, 2, 3]) ⟨[⟨34, [], .v (.bool (decide (s2.1 > a1) && decide (t_22 < 0)))⟩, ⟨9, [], .v (.int .i64 s2.1)⟩, ⟨8, [], .v (.int .i64 s1.1)⟩, ⟨0, [], .v (.slice A0 n0 c0)⟩, ⟨1, [], .v (.int .i64 a1)⟩, ⟨2, [], .v (.int .i64 a2)⟩, ⟨3, [], .v (fnv96 x3 sv3)⟩], [], [], [], none, none⟩ (by kernel_rfl) none (by kernel_rfl) [] [.t (some 37) (some (.v (.slice A0 n0 c0))), .t (some 38) (some (.v (.int .i64 s2.1))), .q 39 (.v (.slice A0 n0 c0)) [], .q 40 (.v (.int .i64 s2.1)) [], .q 41 (.v (.int .i64 (IntKind.i64.wrap (s2.1 - 1)))) [], .t (some 42) (some (.v (.slice A0 n0 c0))), .t (some 43) (some (.v (.int .i64 s2.1))), .t (some 44) (some (.v (.int .i64 (IntKind.i64.wrap (s2.1 - 1))))), .t (some 45) (some (.v (.pointer (some ((adr A0).add (((IntKind.i64.wrap (s2.1 - 1)) : Int).toNat * 4)))))), .t (some 46) (some (.v (.agg ((kd_Wit_spot).cells (rd s2.2 (IntKind.i64.wrap (s2.1 - 1))) sv_27).toArray))), .q 47 (.v (.slice A0 n0 c0)) [], .q 48 (.v (.int .i64 s2.1)) [], .q 49 (.v (.pointer (some ((adr A0).add ((s2.1 : Int).toNat * 4))))) [.need true ((0 : Int) ≤ s2.1 ∧ s2.1 < (n0 : Int)), .need true (A0 = some (adr A0))], .t (some 50) (some (.v (.agg ((kd_Wit_spot).cells (rd s2.2 s2.1) sv_31).toArray))), .t (some 51) (some (.v (.pointer (some ((adr A0).add ((s2.1 : Int).toNat * 4)))))), .t none none, .q 52 (.v (.pointer (some ((adr A0).add (((IntKind.i64.wrap (s2.1 - 1)) : Int).toNat * 4))))) [.need true ((0 : Int) ≤ (IntKind.i64.wrap (s2.1 - 1)) ∧ (IntKind.i64.wrap (s2.1 - 1)) < (n0 : Int)), .need true (A0 = some (adr A0))], .no] (by kernel_rfl) (by kernel_rfl) (by kernel_rfl) True.intro (AL.none (by kernel_rfl)) (fun hJ hsz hu => ?_)
      refine stage_ hJ hF hsz hu [.t (some (.v (.slice A0 n0 c0))), .t (some (.v (.int .i64 s2.1))), .q [] [], .q [] [], .q [3] [], .t (some (.v (.slice A0 n0 c0))), .t (some (.v (.int .i64 s2.1))), .t (some (.v (.int .i64 (IntKind.i64.wrap (s2.1 - 1))))), .t (some (.v (.pointer (some ((adr A0).add (((IntKind.i64.wrap (s2.1 - 1)) : Int).toNat * 4)))))), .t (some (.v (.agg ((kd_Wit_spot).cells (rd s2.2 (IntKind.i64.wrap (s2.1 - 1))) sv_27).toArray))), .q [] [], .q [] [], .q [10, 11] [], .t (some (.v (.agg ((kd_Wit_spot).cells (rd s2.2 s2.1) sv_31).toArray))), .t (some (.v (.pointer (some ((adr A0).add ((s2.1 : Int).toNat * 4)))))), .t none, .q [2, 4] [], .no] (by kernel_rfl) (by kernel_rfl) (by kernel_rfl) (by kernel_rfl) 17 rfl (by kernel_rfl) (by kernel_rfl) [16, 13] rfl (by kernel_rfl) (by kernel_rfl) ⟨ob_inb (fun _ => hN_30), hA_32, ob_inb (fun _ => hN_38), hA_40, trivial⟩ [2, 3, 4, 10, 11, 12, 16] (by kernel_rfl) [.t (some 37) (some (.v (.slice A0 n0 c0))), .t (some 38) (some (.v (.int .i64 s2.1))), .t (some 39) (some (.v (.slice A0 n0 c0))), .t (some 40) (some (.v (.int .i64 s2.1))), .t (some 41) (some (.v (.int .i64 (IntKind.i64.wrap (s2.1 - 1))))), .t (some 42) (some (.v (.slice A0 n0 c0))), .t (some 43) (some (.v (.int .i64 s2.1))), .t (some 44) (some (.v (.int .i64 (IntKind.i64.wrap (s2.1 - 1))))), .t (some 45) (some (.v (.pointer (some ((adr A0).add (((IntKind.i64.wrap (s2.1 - 1)) : Int).toNat * 4)))))), .t (some 46) (some (.v (.agg ((kd_Wit_spot).cells (rd s2.2 (IntKind.i64.wrap (s2.1 - 1))) sv_27).toArray))), .t (some 47) (some (.v (.slice A0 n0 c0))), .t (some 48) (some (.v (.int .i64 s2.1))), .t (some 49) (some (.v (.pointer (some ((adr A0).add ((s2.1 : Int).toNat * 4)))))), .t (some 50) (some (.v (.agg ((kd_Wit_spot).cells (rd s2.2 s2.1) sv_31).toArray))), .t (some 51) (some (.v (.pointer (some ((adr A0).add ((s2.1 : Int).toNat * 4)))))), .t none none, .t (some 52) (some (.v (.pointer (some ((adr A0).add (((IntKind.i64.wrap (s2.1 - 1)) : Int).toNat * 4)))))), .no] (by kernel_rfl) (fun fuel listed a w_46 hJ hI hW h1 hnl hsz hu => ?_)
      obtain ⟨hE', hmv, hmr⟩ := Ep.rebase hE hI
      replace hx3 := Kd.keep _ hx3 (hmv _)
      replace hr0 := Row.keep hr0 (hmv _) (fun b hb => hmr b (by simp [hb]))
      replace hE := hE'
      replace hI := hI.rebase
      clear hE' hmv hmr
      refine storeSeg_ (S0 := S) (d := kd_Wit_spot) (e := 91) (l := (s2.2.set (s2.1 : Int).toNat (rd s2.2 (IntKind.i64.wrap (s2.1 - 1))))) (A := A0) (i := (IntKind.i64.wrap (s2.1 - 1))) (off := 0) hF hE hI hW rfl rfl (ad := ((adr A0).add (((IntKind.i64.wrap (s2.1 - 1)) : Int).toNat * 4))) rfl rfl rfl (vs := [.int .i64 ((rd s2.2 s2.1).at_), .int .i64 ((rd s2.2 s2.1).rank), .int .i64 ((rd s2.2 s2.1).item.Kind), .int .i64 ((rd s2.2 s2.1).item.Of)]) rfl rfl rfl rfl (by simp) (by rw [hn0]; exact hN_38) hr0 (rd s2.2 s2.1) (fun _ => (svL [])) (fun _ => rfl) (fun sv h => trivial) (fun a w_47 hput hE' hI' hmv hmr hr0 => ?_)
      replace hx3 := Kd.keep _ hx3 (hmv _)
      replace hE := hE'
      replace hI := hI'
      clear hE' hI' hmv hmr
      have hn0 : ((s2.2.set (s2.1 : Int).toNat (rd s2.2 (IntKind.i64.wrap (s2.1 - 1)))).set ((IntKind.i64.wrap (s2.1 - 1)) : Int).toNat (rd s2.2 s2.1)).length = n0 := List.length_set.trans hn0
      refine next_ hJ h1 hnl hsz hu (by kernel_rfl) (by kernel_rfl) hput hI (live := [34, 9, 8, 0, 1, 2, 3]) ⟨[⟨34, [], .v (.bool (decide (s2.1 > a1) && decide (t_22 < 0)))⟩, ⟨9, [], .v (.int .i64 s2.1)⟩, ⟨8, [], .v (.int .i64 s1.1)⟩, ⟨0, [], .v (.slice A0 n0 c0)⟩, ⟨1, [], .v (.int .i64 a1)⟩, ⟨2, [], .v (.int .i64 a2)⟩, ⟨3, [], .v (fnv96 x3 sv3)⟩], [], [], [], none, none⟩ (by kernel_rfl) none (by kernel_rfl) [] [.t (some 37) (some (.v (.slice A0 n0 c0))), .t (some 38) (some (.v (.int .i64 s2.1))), .t (some 39) (some (.v (.slice A0 n0 c0))), .t (some 40) (some (.v (.int .i64 s2.1))), .t (some 41) (some (.v (.int .i64 (IntKind.i64.wrap (s2.1 - 1))))), .t (some 42) (some (.v (.slice A0 n0 c0))), .t (some 43) (some (.v (.int .i64 s2.1))), .t (some 44) (some (.v (.int .i64 (IntKind.i64.wrap (s2.1 - 1))))), .t (some 45) (some (.v (.pointer (some ((adr A0).add (((IntKind.i64.wrap (s2.1 - 1)) : Int).toNat * 4)))))), .t (some 46) (some (.v (.agg ((kd_Wit_spot).cells (rd s2.2 (IntKind.i64.wrap (s2.1 - 1))) sv_27).toArray))), .t (some 47) (some (.v (.slice A0 n0 c0))), .t (some 48) (some (.v (.int .i64 s2.1))), .t (some 49) (some (.v (.pointer (some ((adr A0).add ((s2.1 : Int).toNat * 4)))))), .t (some 50) (some (.v (.agg ((kd_Wit_spot).cells (rd s2.2 s2.1) sv_31).toArray))), .t (some 51) (some (.v (.pointer (some ((adr A0).add ((s2.1 : Int).toNat * 4)))))), .t none none, .t (some 52) (some (.v (.pointer (some ((adr A0).add (((IntKind.i64.wrap (s2.1 - 1)) : Int).toNat * 4)))))), .t none none] (by kernel_rfl) (by kernel_rfl) (by kernel_rfl) True.intro (AL.none (by kernel_rfl)) (fun hJ hsz hu => ?_)
      refine end_ hJ hF hsz hu [.t (some (.v (.slice A0 n0 c0))), .t (some (.v (.int .i64 s2.1))), .t (some (.v (.slice A0 n0 c0))), .t (some (.v (.int .i64 s2.1))), .t (some (.v (.int .i64 (IntKind.i64.wrap (s2.1 - 1))))), .t (some (.v (.slice A0 n0 c0))), .t (some (.v (.int .i64 s2.1))), .t (some (.v (.int .i64 (IntKind.i64.wrap (s2.1 - 1))))), .t (some (.v (.pointer (some ((adr A0).add (((IntKind.i64.wrap (s2.1 - 1)) : Int).toNat * 4)))))), .t (some (.v (.agg ((kd_Wit_spot).cells (rd s2.2 (IntKind.i64.wrap (s2.1 - 1))) sv_27).toArray))), .t (some (.v (.slice A0 n0 c0))), .t (some (.v (.int .i64 s2.1))), .t (some (.v (.pointer (some ((adr A0).add ((s2.1 : Int).toNat * 4)))))), .t (some (.v (.agg ((kd_Wit_spot).cells (rd s2.2 s2.1) sv_31).toArray))), .t (some (.v (.pointer (some ((adr A0).add ((s2.1 : Int).toNat * 4)))))), .t none, .t (some (.v (.pointer (some ((adr A0).add (((IntKind.i64.wrap (s2.1 - 1)) : Int).toNat * 4)))))), .t none] (by kernel_rfl) (by kernel_rfl) (by kernel_rfl) (by kernel_rfl) (by kernel_rfl) (by kernel_rfl) (live := [9, 8, 0, 1, 2, 3]) ⟨[⟨9, [], .v (.int .i64 s2.1)⟩, ⟨8, [], .v (.int .i64 s1.1)⟩, ⟨0, [], .v (.slice A0 n0 c0)⟩, ⟨1, [], .v (.int .i64 a1)⟩, ⟨2, [], .v (.int .i64 a2)⟩, ⟨3, [], .v (fnv96 x3 sv3)⟩], [], [], [], none, none⟩ (by kernel_rfl) trivial (fun a w_49 hI => ?_)
      refine inBlock_normal ?_
      refine then_normal ?_
      refine region_ (live := [9, 8, 0, 1, 2, 3]) (orc := []) hF hI ⟨[⟨9, [], .v (.int .i64 (IntKind.i64.wrap (s2.1 - 1)))⟩, ⟨8, [], .v (.int .i64 s1.1)⟩, ⟨0, [], .v (.slice A0 n0 c0)⟩, ⟨1, [], .v (.int .i64 a1)⟩, ⟨2, [], .v (.int .i64 a2)⟩, ⟨3, [], .v (fnv96 x3 sv3)⟩], [], [], [], none, none⟩ [] (by kernel_rfl) trivial (fun ns_50 a w_51 hI _ => ?_)
      refine then_normal ?_
      obtain ⟨hE', hmv, hmr⟩ := Ep.rebase hE hI
      replace hx3 := Kd.keep _ hx3 (hmv _)
      replace hr0 := Row.keep hr0 (hmv _) (fun b hb => hmr b (by simp [hb]))
      replace hE := hE'
      replace hI := hI.rebase
      clear hE' hmv hmr
      obtain rfl := Option.some.inj H2
      exact ⟨_, rfl, ⟨_, _, hx3, hr0, hn0, hE, hI.pick [9, 8, 0, 1, 2, 3] 0 ⟨[⟨9, [], .v (.int .i64 (IntKind.i64.wrap (s2.1 - 1)))⟩, ⟨8, [], .v (.int .i64 s1.1)⟩, ⟨0, [], .v (.slice A0 n0 c0)⟩, ⟨1, [], .v (.int .i64 a1)⟩, ⟨2, [], .v (.int .i64 a2)⟩, ⟨3, [], .v (fnv96 x3 sv3)⟩], [], [], [], none, none⟩ (by kernel_rfl)⟩⟩
     ·replace H2 := bif_f hc_25 H2
      refine wpIn_exit ?_
      refine then_exit ?_
      refine then_exit ?_
      obtain ⟨hE', hmv, hmr⟩ := Ep.rebase hE hI
      replace hx3 := Kd.keep _ hx3 (hmv _)
      replace hr0 := Row.keep hr0 (hmv _) (fun b hb => hmr b (by simp [hb]))
      replace hE := hE'
      replace hI := hI.rebase
      clear hE' hmv hmr
      obtain rfl := Option.some.inj H2
      exact .inl ⟨_, rfl, rfl, ⟨_, _, hx3, hr0, hn0, hE, hI.pick [9, 8, 0, 1, 2, 3] 0 ⟨[⟨9, [], .v (.int .i64 s2.1)⟩, ⟨8, [], .v (.int .i64 s1.1)⟩, ⟨0, [], .v (.slice A0 n0 c0)⟩, ⟨1, [], .v (.int .i64 a1)⟩, ⟨2, [], .v (.int .i64 a2)⟩, ⟨3, [], .v (fnv96 x3 sv3)⟩], [], [], [], none, none⟩ (by kernel_rfl)⟩⟩
    ·clear hI hE
     rintro s2 a w_54 ho ⟨ow_56, ns_55, hx3, hr0, hn0, hE, hI⟩
     subst ho
     replace H1 : (some (.next ((IntKind.i64.wrap (s1.1 + 1)), s2.2)) : Option (Stp (Int × (List Wit_spot)) (Ex (Int × (List Wit_spot)) ((List Wit_spot))))) = _ := H1
     refine inBlock_normal ?_
     refine then_normal ?_
     refine region_ (live := [8, 0, 1, 2, 3]) (orc := []) hF hI ⟨[⟨8, [], .v (.int .i64 (IntKind.i64.wrap (s1.1 + 1)))⟩, ⟨0, [], .v (.slice A0 n0 c0)⟩, ⟨1, [], .v (.int .i64 a1)⟩, ⟨2, [], .v (.int .i64 a2)⟩, ⟨3, [], .v (fnv96 x3 sv3)⟩], [], [], [], none, none⟩ [] (by kernel_rfl) trivial (fun ns_57 a w_58 hI _ => ?_)
     refine then_normal ?_
     obtain ⟨hE', hmv, hmr⟩ := Ep.rebase hE hI
     replace hx3 := Kd.keep _ hx3 (hmv _)
     replace hr0 := Row.keep hr0 (hmv _) (fun b hb => hmr b (by simp [hb]))
     replace hE := hE'
     replace hI := hI.rebase
     clear hE' hmv hmr
     obtain rfl := Option.some.inj H1
     exact ⟨_, rfl, ⟨_, _, hx3, hr0, hn0, hE, hI.pick [8, 0, 1, 2, 3] 0 ⟨[⟨8, [], .v (.int .i64 (IntKind.i64.wrap (s1.1 + 1)))⟩, ⟨0, [], .v (.slice A0 n0 c0)⟩, ⟨1, [], .v (.int .i64 a1)⟩, ⟨2, [], .v (.int .i64 a2)⟩, ⟨3, [], .v (fnv96 x3 sv3)⟩], [], [], [], none, none⟩ (by kernel_rfl)⟩⟩
   ·replace H1 := bif_f hc_8 H1
    refine wpIn_exit ?_
    refine then_exit ?_
    refine then_exit ?_
    obtain ⟨hE', hmv, hmr⟩ := Ep.rebase hE hI
    replace hx3 := Kd.keep _ hx3 (hmv _)
    replace hr0 := Row.keep hr0 (hmv _) (fun b hb => hmr b (by simp [hb]))
    replace hE := hE'
    replace hI := hI.rebase
    clear hE' hmv hmr
    obtain rfl := Option.some.inj H1
    exact .inl ⟨_, rfl, rfl, ⟨_, _, hx3, hr0, hn0, hE, hI.pick [8, 0, 1, 2, 3] 0 ⟨[⟨8, [], .v (.int .i64 s1.1)⟩, ⟨0, [], .v (.slice A0 n0 c0)⟩, ⟨1, [], .v (.int .i64 a1)⟩, ⟨2, [], .v (.int .i64 a2)⟩, ⟨3, [], .v (fnv96 x3 sv3)⟩], [], [], [], none, none⟩ (by kernel_rfl)⟩⟩
  ·clear hI hE
   rintro s1 a w_62 ho ⟨ow_64, ns_63, hx3, hr0, hn0, hE, hI⟩
   subst ho
   replace H0 : (some s1.2 : Option ((List Wit_spot))) = _ := H0
   obtain ⟨hE', hmv, hmr⟩ := Ep.rebase hE hI
   replace hx3 := Kd.keep _ hx3 (hmv _)
   replace hr0 := Row.keep hr0 (hmv _) (fun b hb => hmr b (by simp [hb]))
   replace hE := hE'
   replace hI := hI.rebase
   clear hE' hmv hmr
   obtain rfl := Option.some.inj H0
   exact retN (retG hI rfl rfl ⟨svL [], rfl, hE.keeps hI, Row.keep hr0 (hE.out hI) (fun _ _ => rfl), hn0⟩)

/-! ### slices.swapRangeCmpFunc[porthole/wit.spot]: function 58 -/
noncomputable def G_wit_spot_58.b1 (l0 : (List Wit_spot)) (n0 : Nat) (a1 : Int) (a2 : Int) (a3 : Int) (x4 : Fn96) (s1 : Int × (List Wit_spot)) : Option (Stp (Int × (List Wit_spot)) (Ex (Int × (List Wit_spot)) ((List Wit_spot)))) := (bif decide (s1.1 < a3) then (req (inb (IntKind.i64.wrap (a2 + s1.1)) n0) (req (inb (IntKind.i64.wrap (a1 + s1.1)) n0) (req (inb (IntKind.i64.wrap (a1 + s1.1)) n0) (req (inb (IntKind.i64.wrap (a2 + s1.1)) n0) (some (.next ((IntKind.i64.wrap (s1.1 + 1)), ((s1.2.set ((IntKind.i64.wrap (a1 + s1.1)) : Int).toNat (rd s1.2 (IntKind.i64.wrap (a2 + s1.1)))).set ((IntKind.i64.wrap (a2 + s1.1)) : Int).toNat (rd s1.2 (IntKind.i64.wrap (a1 + s1.1))))))))))) else some (.out (.brk (s1.1, s1.2))))
noncomputable def G_wit_spot_58 (l0 : (List Wit_spot)) (n0 : Nat) (a1 : Int) (a2 : Int) (a3 : Int) (x4 : Fn96) : Option ((List Wit_spot)) := ((loopω (G_wit_spot_58.b1 l0 n0 a1 a2 a3 x4) (0, l0)).bind fun o => o.on (fun s1 => some s1.2) (fun r => some r))
set_option maxRecDepth 100000 in
set_option maxHeartbeats 4000000 in
theorem G_wit_spot_58.calls (l0 : (List Wit_spot)) (n0 : Nat) (a1 : Int) (a2 : Int) (a3 : Int) (x4 : Fn96) (A0 : Option Addr) (c0 base0 : Nat) (sv4 : SV) (w : World) {S : Nat → Prop} (hr0 : Row kd_Wit_spot 91 S w base0 A0 c0 l0) (hn0 : l0.length = n0) (hx4 : (kdF96).cont S w x4 sv4) (hms : ∀ b, S b → b ∉ ([rb A0] : List (List Nat)).flatten) (hmd : ([rb A0] : List (List Nat)).flatten.Nodup) (hml : ∀ b ∈ ([rb A0] : List (List Nat)).flatten, b < w.heap.size) (r : (List Wit_spot)) (h : G_wit_spot_58 l0 n0 a1 a2 a3 x4 = some r) :
    Calls Try.prog 58 #[.slice A0 n0 c0, .int .i64 a1, .int .i64 a2, .int .i64 a3, fnv96 x4 sv4] w fun e w' => ∃ sv : SV, e = .returned (.tuple #[]) ∧ Keeps (([rb A0] : List (List Nat)).flatten) w w' ∧ Row kd_Wit_spot 91 (fun b => w.heap.size ≤ b ∨ S b) w' base0 A0 c0 r ∧ r.length = n0 := by
  replace hx4 := Kd.keep _ hx4 (Mv.start w hms)
  replace hr0 := Row.keep hr0 (Mv.start w hms) (fun _ _ => rfl)
  unfold G_wit_spot_58 at h
  have H0 := h
  clear h
  refine enter Try.func58 rfl [.slice A0 n0 c0, .int .i64 a1, .int .i64 a2, .int .i64 a3, fnv96 x4 sv4] (n := 38) rfl (Nat.le_of_ble_eq_true rfl) (fun a hI => ?_)
  have hF : FOpen Fence.wide := .inl rfl
  have hE := Ep.startM w [rb A0] hmd hml
  refine seq_region (live := [10, 0, 1, 2, 3]) (orc := []) hF hI ⟨[⟨10, [], .v (.int .i64 0)⟩, ⟨0, [], .v (.slice A0 n0 c0)⟩, ⟨1, [], .v (.int .i64 a1)⟩, ⟨2, [], .v (.int .i64 a2)⟩, ⟨3, [], .v (.int .i64 a3)⟩], [], [], [], none, none⟩ [] (by kernel_rfl) trivial (fun ns_1 a w_2 hI _ => ?_)
  obtain ⟨hE', hmv, hmr⟩ := Ep.rebase hE hI
  replace hx4 := Kd.keep _ hx4 (hmv _)
  replace hr0 := Row.keep hr0 (hmv _) (fun b hb => hmr b (by simp [hb]))
  replace hE := hE'
  replace hI := hI.rebase
  clear hE' hmv hmr
  obtain ⟨o_35, hL_36, H0⟩ := bind_some H0
  refine block_loop (fun (s1 : Int × (List Wit_spot)) a w_40 => ∃ (ow ns : List Nat) , ((kdF96).cont (Lo S w w_40 ow [rb A0]) w_40 x4 sv4) ∧ (Row kd_Wit_spot 91 (Lo S w w_40 ow [rb A0]) w_40 base0 A0 c0 s1.2) ∧ (s1.2.length = n0) ∧ Ep ([rb A0] : List (List Nat)).flatten w w_40 ow [rb A0] ∧ St w_40 ow 38 ⟨[⟨10, [], .v (.int .i64 s1.1)⟩, ⟨0, [], .v (.slice A0 n0 c0)⟩, ⟨1, [], .v (.int .i64 a1)⟩, ⟨2, [], .v (.int .i64 a2)⟩, ⟨3, [], .v (.int .i64 a3)⟩], [], [], [], none, none⟩ ns a w_40) (0, l0) hL_36 ⟨_, _, hx4, hr0, hn0, hE, hI.pick [10, 0, 1, 2, 3] 0 ⟨[⟨10, [], .v (.int .i64 0)⟩, ⟨0, [], .v (.slice A0 n0 c0)⟩, ⟨1, [], .v (.int .i64 a1)⟩, ⟨2, [], .v (.int .i64 a2)⟩, ⟨3, [], .v (.int .i64 a3)⟩], [], [], [], none, none⟩ (by kernel_rfl)⟩ ?_ ?_
  ·clear hI hE
   rintro s1 a w_3 ⟨ow_5, ns_4, hx4, hr0, hn0, hE, hI⟩ r1 H1
   unfold G_wit_spot_58.b1 at H1
   refine wpIn_seq ?_
   refine seq_region (live := [13, 10, 0, 1, 2, 3]) (orc := []) hF hI ⟨[⟨13, [], .v (.bool (decide (s1.1 < a3)))⟩, ⟨10, [], .v (.int .i64 s1.1)⟩, ⟨0, [], .v (.slice A0 n0 c0)⟩, ⟨1, [], .v (.int .i64 a1)⟩, ⟨2, [], .v (.int .i64 a2)⟩, ⟨3, [], .v (.int .i64 a3)⟩], [], [], [], none, none⟩ [] (by kernel_rfl) trivial (fun ns_6 a w_7 hI _ => ?_)
   refine cond_ hI (decide (s1.1 < a3)) rfl (fun hc_8 => ?_) (fun hc_8 => ?_)
   ·replace H1 := bif_t hc_8 H1
    refine wpIn_skip ?_
    refine then_normal ?_
    refine wpIn_seq ?_
    refine wpIn_block ?_
    replace hI := hI.fin (live := [13, 10, 0, 1, 2, 3]) (σ2 := ⟨[⟨13, [], .v (.bool (decide (s1.1 < a3)))⟩, ⟨10, [], .v (.int .i64 s1.1)⟩, ⟨0, [], .v (.slice A0 n0 c0)⟩, ⟨1, [], .v (.int .i64 a1)⟩, ⟨2, [], .v (.int .i64 a2)⟩, ⟨3, [], .v (.int .i64 a3)⟩], [], [], [], none, none⟩) (by kernel_rfl)
    obtain ⟨hN_9, H1⟩ := req_some H1
    obtain ⟨sv_10, hE_12, hA_11⟩ := Row.elB hr0 hE (by simp) (IntKind.i64.wrap (a2 + s1.1)) true (fun hg => by rw [hn0]; exact (fun _ => hN_9) hg)
    obtain ⟨hN_13, H1⟩ := req_some H1
    obtain ⟨sv_14, hE_16, hA_15⟩ := Row.elB hr0 hE (by simp) (IntKind.i64.wrap (a1 + s1.1)) true (fun hg => by rw [hn0]; exact (fun _ => hN_13) hg)
    obtain ⟨hN_17, H1⟩ := req_some H1
    obtain ⟨sv_18, hE_20, hA_19⟩ := Row.elB hr0 hE (by simp) (IntKind.i64.wrap (a1 + s1.1)) true (fun hg => by rw [hn0]; exact (fun _ => hN_17) hg)
    obtain ⟨hN_21, H1⟩ := req_some H1
    obtain ⟨sv_22, hE_24, hA_23⟩ := Row.elB hr0 hE (by simp) (IntKind.i64.wrap (a2 + s1.1)) true (fun hg => by rw [hn0]; exact (fun _ => hN_21) hg)
    refine drawnS_ hI (by kernel_rfl) [.q 16 (.v (.slice A0 n0 c0)) [], .q 17 (.v (.int .i64 a1)) [], .q 18 (.v (.int .i64 s1.1)) [], .q 19 (.v (.int .i64 (IntKind.i64.wrap (a1 + s1.1)))) [], .q 20 (.v (.slice A0 n0 c0)) [], .q 21 (.v (.int .i64 a2)) [], .q 22 (.v (.int .i64 s1.1)) [], .q 23 (.v (.int .i64 (IntKind.i64.wrap (a2 + s1.1)))) [], .q 24 (.v (.slice A0 n0 c0)) [], .q 25 (.v (.int .i64 a2)) [], .q 26 (.v (.int .i64 s1.1)) [], .q 27 (.v (.int .i64 (IntKind.i64.wrap (a2 + s1.1)))) [], .q 28 (.v (.pointer (some ((adr A0).add (((IntKind.i64.wrap (a2 + s1.1)) : Int).toNat * 4))))) [.need true ((0 : Int) ≤ (IntKind.i64.wrap (a2 + s1.1)) ∧ (IntKind.i64.wrap (a2 + s1.1)) < (n0 : Int)), .need true (A0 = some (adr A0))], .q 29 (.v (.agg ((kd_Wit_spot).cells (rd s1.2 (IntKind.i64.wrap (a2 + s1.1))) sv_10).toArray)) [.cell true ((adr A0).add (((IntKind.i64.wrap (a2 + s1.1)) : Int).toNat * 4)) ((kd_Wit_spot).cells (rd s1.2 (IntKind.i64.wrap (a2 + s1.1))) sv_10)], .q 30 (.v (.slice A0 n0 c0)) [], .q 31 (.v (.int .i64 a1)) [], .q 32 (.v (.int .i64 s1.1)) [], .q 33 (.v (.int .i64 (IntKind.i64.wrap (a1 + s1.1)))) [], .q 34 (.v (.pointer (some ((adr A0).add (((IntKind.i64.wrap (a1 + s1.1)) : Int).toNat * 4))))) [.need true ((0 : Int) ≤ (IntKind.i64.wrap (a1 + s1.1)) ∧ (IntKind.i64.wrap (a1 + s1.1)) < (n0 : Int)), .need true (A0 = some (adr A0))], .q 35 (.v (.agg ((kd_Wit_spot).cells (rd s1.2 (IntKind.i64.wrap (a1 + s1.1))) sv_14).toArray)) [.cell true ((adr A0).add (((IntKind.i64.wrap (a1 + s1.1)) : Int).toNat * 4)) ((kd_Wit_spot).cells (rd s1.2 (IntKind.i64.wrap (a1 + s1.1))) sv_14)], .q 36 (.v (.pointer (some ((adr A0).add (((IntKind.i64.wrap (a1 + s1.1)) : Int).toNat * 4))))) [.need true ((0 : Int) ≤ (IntKind.i64.wrap (a1 + s1.1)) ∧ (IntKind.i64.wrap (a1 + s1.1)) < (n0 : Int)), .need true (A0 = some (adr A0))], .no, .q 37 (.v (.pointer (some ((adr A0).add (((IntKind.i64.wrap (a2 + s1.1)) : Int).toNat * 4))))) [.need true ((0 : Int) ≤ (IntKind.i64.wrap (a2 + s1.1)) ∧ (IntKind.i64.wrap (a2 + s1.1)) < (n0 : Int)), .need true (A0 = some (adr A0))], .no] (by kernel_rfl) (fun fuel listed w_25 hJ hsz hu => ?_)
    refine stage_ hJ hF hsz hu [.q [] [], .q [] [], .q [] [], .q [1, 2] [], .q [] [], .q [] [], .q [] [], .q [5, 6] [], .q [] [], .q [] [], .q [] [], .q [9, 10] [], .q [8, 11] [], .q [12] [(kd_Wit_spot).cells (rd s1.2 (IntKind.i64.wrap (a2 + s1.1))) sv_10], .q [] [], .q [] [], .q [] [], .q [15, 16] [], .q [14, 17] [], .q [18] [(kd_Wit_spot).cells (rd s1.2 (IntKind.i64.wrap (a1 + s1.1))) sv_14], .q [0, 3] [], .no, .q [4, 7] [], .no] (by kernel_rfl) (by kernel_rfl) (by kernel_rfl) (by kernel_rfl) 21 rfl (by kernel_rfl) (by kernel_rfl) [20, 13] rfl (by kernel_rfl) (by kernel_rfl) ⟨ob_inb (fun _ => hN_9), hA_11, ob_elR hE_12 0 ((kd_Wit_spot).cells (rd s1.2 (IntKind.i64.wrap (a2 + s1.1))) sv_10) rfl, ob_inb (fun _ => hN_13), hA_15, ob_elR hE_16 0 ((kd_Wit_spot).cells (rd s1.2 (IntKind.i64.wrap (a1 + s1.1))) sv_14) rfl, ob_inb (fun _ => hN_17), hA_19, ob_inb (fun _ => hN_21), hA_23, trivial⟩ [0, 1, 2, 3, 8, 9, 10, 11, 12, 13, 19, 20] (by kernel_rfl) [.t (some 16) (some (.v (.slice A0 n0 c0))), .t (some 17) (some (.v (.int .i64 a1))), .t (some 18) (some (.v (.int .i64 s1.1))), .t (some 19) (some (.v (.int .i64 (IntKind.i64.wrap (a1 + s1.1))))), .q 20 (.v (.slice A0 n0 c0)) [], .q 21 (.v (.int .i64 a2)) [], .q 22 (.v (.int .i64 s1.1)) [], .q 23 (.v (.int .i64 (IntKind.i64.wrap (a2 + s1.1)))) [], .t (some 24) (some (.v (.slice A0 n0 c0))), .t (some 25) (some (.v (.int .i64 a2))), .t (some 26) (some (.v (.int .i64 s1.1))), .t (some 27) (some (.v (.int .i64 (IntKind.i64.wrap (a2 + s1.1))))), .t (some 28) (some (.v (.pointer (some ((adr A0).add (((IntKind.i64.wrap (a2 + s1.1)) : Int).toNat * 4)))))), .t (some 29) (some (.v (.agg ((kd_Wit_spot).cells (rd s1.2 (IntKind.i64.wrap (a2 + s1.1))) sv_10).toArray))), .q 30 (.v (.slice A0 n0 c0)) [], .q 31 (.v (.int .i64 a1)) [], .q 32 (.v (.int .i64 s1.1)) [], .q 33 (.v (.int .i64 (IntKind.i64.wrap (a1 + s1.1)))) [], .q 34 (.v (.pointer (some ((adr A0).add (((IntKind.i64.wrap (a1 + s1.1)) : Int).toNat * 4))))) [.need true ((0 : Int) ≤ (IntKind.i64.wrap (a1 + s1.1)) ∧ (IntKind.i64.wrap (a1 + s1.1)) < (n0 : Int)), .need true (A0 = some (adr A0))], .t (some 35) (some (.v (.agg ((kd_Wit_spot).cells (rd s1.2 (IntKind.i64.wrap (a1 + s1.1))) sv_14).toArray))), .t (some 36) (some (.v (.pointer (some ((adr A0).add (((IntKind.i64.wrap (a1 + s1.1)) : Int).toNat * 4)))))), .no, .q 37 (.v (.pointer (some ((adr A0).add (((IntKind.i64.wrap (a2 + s1.1)) : Int).toNat * 4))))) [.need true ((0 : Int) ≤ (IntKind.i64.wrap (a2 + s1.1)) ∧ (IntKind.i64.wrap (a2 + s1.1)) < (n0 : Int)), .need true (A0 = some (adr A0))], .no] (by kernel_rfl) (fun fuel listed a w_26 hJ hI hW h1 hnl hsz hu => ?_)
    obtain ⟨hE', hmv, hmr⟩ := Ep.rebase hE hI
    replace hx4 := Kd.keep _ hx4 (hmv _)
    replace hr0 := Row.keep hr0 (hmv _) (fun b hb => hmr b (by simp [hb]))
    replace hE := hE'
    replace hI := hI.rebase
    clear hE' hmv hmr
    refine storeSeg_ (S0 := S) (d := kd_Wit_spot) (e := 91) (l := s1.2) (A := A0) (i := (IntKind.i64.wrap (a1 + s1.1))) (off := 0) hF hE hI hW rfl rfl (ad := ((adr A0).add (((IntKind.i64.wrap (a1 + s1.1)) : Int).toNat * 4))) rfl rfl rfl (vs := [.int .i64 ((rd s1.2 (IntKind.i64.wrap (a2 + s1.1))).at_), .int .i64 ((rd s1.2 (IntKind.i64.wrap (a2 + s1.1))).rank), .int .i64 ((rd s1.2 (IntKind.i64.wrap (a2 + s1.1))).item.Kind), .int .i64 ((rd s1.2 (IntKind.i64.wrap (a2 + s1.1))).item.Of)]) rfl rfl rfl rfl (by simp) (by rw [hn0]; exact hN_17) hr0 (rd s1.2 (IntKind.i64.wrap (a2 + s1.1))) (fun _ => (svL [])) (fun _ => rfl) (fun sv h => trivial) (fun a w_27 hput hE' hI' hmv hmr hr0 => ?_)
    replace hx4 := Kd.keep _ hx4 (hmv _)
    replace hE := hE'
    replace hI := hI'
    clear hE' hI' hmv hmr
    have hn0 : (s1.2.set ((IntKind.i64.wrap (a1 + s1.1)) : Int).toNat (rd s1.2 (IntKind.i64.wrap (a2 + s1.1)))).length = n0 := List.length_set.trans hn0
    refine next_ hJ h1 hnl hsz hu (by kernel_rfl) (by kernel_rfl) hput hI (live := [13, 10, 0, 1, 2, 3]) ⟨[⟨13, [], .v (.bool (decide (s1.1 < a3)))⟩, ⟨10, [], .v (.int .i64 s1.1)⟩, ⟨0, [], .v (.slice A0 n0 c0)⟩, ⟨1, [], .v (.int .i64 a1)⟩, ⟨2, [], .v (.int .i64 a2)⟩, ⟨3, [], .v (.int .i64 a3)⟩], [], [], [], none, none⟩ (by kernel_rfl) none (by kernel_rfl) [] [.t (some 16) (some (.v (.slice A0 n0 c0))), .t (some 17) (some (.v (.int .i64 a1))), .t (some 18) (some (.v (.int .i64 s1.1))), .t (some 19) (some (.v (.int .i64 (IntKind.i64.wrap (a1 + s1.1))))), .q 20 (.v (.slice A0 n0 c0)) [], .q 21 (.v (.int .i64 a2)) [], .q 22 (.v (.int .i64 s1.1)) [], .q 23 (.v (.int .i64 (IntKind.i64.wrap (a2 + s1.1)))) [], .t (some 24) (some (.v (.slice A0 n0 c0))), .t (some 25) (some (.v (.int .i64 a2))), .t (some 26) (some (.v (.int .i64 s1.1))), .t (some 27) (some (.v (.int .i64 (IntKind.i64.wrap (a2 + s1.1))))), .t (some 28) (some (.v (.pointer (some ((adr A0).add (((IntKind.i64.wrap (a2 + s1.1)) : Int).toNat * 4)))))), .t (some 29) (some (.v (.agg ((kd_Wit_spot).cells (rd s1.2 (IntKind.i64.wrap (a2 + s1.1))) sv_10).toArray))), .q 30 (.v (.slice A0 n0 c0)) [], .q 31 (.v (.int .i64 a1)) [], .q 32 (.v (.int .i64 s1.1)) [], .q 33 (.v (.int .i64 (IntKind.i64.wrap (a1 + s1.1)))) [], .q 34 (.v (.pointer (some ((adr A0).add (((IntKind.i64.wrap (a1 + s1.1)) : Int).toNat * 4))))) [.need true ((0 : Int) ≤ (IntKind.i64.wrap (a1 + s1.1)) ∧ (IntKind.i64.wrap (a1 + s1.1)) < (n0 : Int)), .need true (A0 = some (adr A0))], .t (some 35) (some (.v (.agg ((kd_Wit_spot).cells (rd s1.2 (IntKind.i64.wrap (a1 + s1.1))) sv_14).toArray))), .t (some 36) (some (.v (.pointer (some ((adr A0).add (((IntKind.i64.wrap (a1 + s1.1)) : Int).toNat * 4)))))), .t none none, .q 37 (.v (.pointer (some ((adr A0).add (((IntKind.i64.wrap (a2 + s1.1)) : Int).toNat * 4))))) [.need true ((0 : Int) ≤ (IntKind.i64.wrap (a2 + s1.1)) ∧ (IntKind.i64.wrap (a2 + s1.1)) < (n0 : Int)), .need true (A0 = some (adr A0))], .no] (by kernel_rfl) (by kernel_rfl) (by kernel_rfl) True.intro (AL.none (by kernel_rfl)) (fun hJ hsz hu => ?_)
    refine stage_ hJ hF hsz hu [.t (some (.v (.slice A0 n0 c0))), .t (some (.v (.int .i64 a1))), .t (some (.v (.int .i64 s1.1))), .t (some (.v (.int .i64 (IntKind.i64.wrap (a1 + s1.1))))), .q [] [], .q [] [], .q [] [], .q [5, 6] [], .t (some (.v (.slice A0 n0 c0))), .t (some (.v (.int .i64 a2))), .t (some (.v (.int .i64 s1.1))), .t (some (.v (.int .i64 (IntKind.i64.wrap (a2 + s1.1))))), .t (some (.v (.pointer (some ((adr A0).add (((IntKind.i64.wrap (a2 + s1.1)) : Int).toNat * 4)))))), .t (some (.v (.agg ((kd_Wit_spot).cells (rd s1.2 (IntKind.i64.wrap (a2 + s1.1))) sv_10).toArray))), .q [] [], .q [] [], .q [] [], .q [15, 16] [], .q [14, 17] [], .t (some (.v (.agg ((kd_Wit_spot).cells (rd s1.2 (IntKind.i64.wrap (a1 + s1.1))) sv_14).toArray))), .t (some (.v (.pointer (some ((adr A0).add (((IntKind.i64.wrap (a1 + s1.1)) : Int).toNat * 4)))))), .t none, .q [4, 7] [], .no] (by kernel_rfl) (by kernel_rfl) (by kernel_rfl) (by kernel_rfl) 23 rfl (by kernel_rfl) (by kernel_rfl) [22, 19] rfl (by kernel_rfl) (by kernel_rfl) ⟨ob_inb (fun _ => hN_13), hA_15, ob_inb (fun _ => hN_21), hA_23, trivial⟩ [4, 5, 6, 7, 14, 15, 16, 17, 18, 22] (by kernel_rfl) [.t (some 16) (some (.v (.slice A0 n0 c0))), .t (some 17) (some (.v (.int .i64 a1))), .t (some 18) (some (.v (.int .i64 s1.1))), .t (some 19) (some (.v (.int .i64 (IntKind.i64.wrap (a1 + s1.1))))), .t (some 20) (some (.v (.slice A0 n0 c0))), .t (some 21) (some (.v (.int .i64 a2))), .t (some 22) (some (.v (.int .i64 s1.1))), .t (some 23) (some (.v (.int .i64 (IntKind.i64.wrap (a2 + s1.1))))), .t (some 24) (some (.v (.slice A0 n0 c0))), .t (some 25) (some (.v (.int .i64 a2))), .t (some 26) (some (.v (.int .i64 s1.1))), .t (some 27) (some (.v (.int .i64 (IntKind.i64.wrap (a2 + s1.1))))), .t (some 28) (some (.v (.pointer (some ((adr A0).add (((IntKind.i64.wrap (a2 + s1.1)) : Int).toNat * 4)))))), .t (some 29) (some (.v (.agg ((kd_Wit_spot).cells (rd s1.2 (IntKind.i64.wrap (a2 + s1.1))) sv_10).toArray))), .t (some 30) (some (.v (.slice A0 n0 c0))), .t (some 31) (some (.v (.int .i64 a1))), .t (some 32) (some (.v (.int .i64 s1.1))), .t (some 33) (some (.v (.int .i64 (IntKind.i64.wrap (a1 + s1.1))))), .t (some 34) (some (.v (.pointer (some ((adr A0).add (((IntKind.i64.wrap (a1 + s1.1)) : Int).toNat * 4)))))), .t (some 35) (some (.v (.agg ((kd_Wit_spot).cells (rd s1.2 (IntKind.i64.wrap (a1 + s1.1))) sv_14).toArray))), .t (some 36) (some (.v (.pointer (some ((adr A0).add (((IntKind.i64.wrap (a1 + s1.1)) : Int).toNat * 4)))))), .t none none, .t (some 37) (some (.v (.pointer (some ((adr A0).add (((IntKind.i64.wrap (a2 + s1.1)) : Int).toNat * 4)))))), .no] (by kernel_rfl) (fun fuel listed a w_29 hJ hI hW h1 hnl hsz hu => ?_)
    obtain ⟨hE', hmv, hmr⟩ := Ep.rebase hE hI
    replace hx4 := Kd.keep _ hx4 (hmv _)
    replace hr0 := Row.keep hr0 (hmv _) (fun b hb => hmr b (by simp [hb]))
    replace hE := hE'
    replace hI := hI.rebase
    clear hE' hmv hmr
    refine storeSeg_ (S0 := S) (d := kd_Wit_spot) (e := 91) (l := (s1.2.set ((IntKind.i64.wrap (a1 + s1.1)) : Int).toNat (rd s1.2 (IntKind.i64.wrap (a2 + s1.1))))) (A := A0) (i := (IntKind.i64.wrap (a2 + s1.1))) (off := 0) hF hE hI hW rfl rfl (ad := ((adr A0).add (((IntKind.i64.wrap (a2 + s1.1)) : Int).toNat * 4))) rfl rfl rfl (vs := [.int .i64 ((rd s1.2 (IntKind.i64.wrap (a1 + s1.1))).at_), .int .i64 ((rd s1.2 (IntKind.i64.wrap (a1 + s1.1))).rank), .int .i64 ((rd s1.2 (IntKind.i64.wrap (a1 + s1.1))).item.Kind), .int .i64 ((rd s1.2 (IntKind.i64.wrap (a1 + s1.1))).item.Of)]) rfl rfl rfl rfl (by simp) (by rw [hn0]; exact hN_21) hr0 (rd s1.2 (IntKind.i64.wrap (a1 + s1.1))) (fun _ => (svL [])) (fun _ => rfl) (fun sv h => trivial) (fun a w_30 hput hE' hI' hmv hmr hr0 => ?_)
    replace hx4 := Kd.keep _ hx4 (hmv _)
    replace hE := hE'
    replace hI := hI'
    clear hE' hI' hmv hmr
    have hn0 : ((s1.2.set ((IntKind.i64.wrap (a1 + s1.1)) : Int).toNat (rd s1.2 (IntKind.i64.wrap (a2 + s1.1)))).set ((IntKind.i64.wrap (a2 + s1.1)) : Int).toNat (rd s1.2 (IntKind.i64.wrap (a1 + s1.1)))).length = n0 := List.length_set.trans hn0
    refine next_ hJ h1 hnl hsz hu (by kernel_rfl) (by kernel_rfl) hput hI (live := [13, 10, 0, 1, 2, 3]) ⟨[⟨13, [], .v (.bool (decide (s1.1 < a3)))⟩, ⟨10, [], .v (.int .i64 s1.1)⟩, ⟨0, [], .v (.slice A0 n0 c0)⟩, ⟨1, [], .v (.int .i64 a1)⟩, ⟨2, [], .v (.int .i64 a2)⟩, ⟨3, [], .v (.int .i64 a3)⟩], [], [], [], none, none⟩ (by kernel_rfl) none (by kernel_rfl) [] [.t (some 16) (some (.v (.slice A0 n0 c0))), .t (some 17) (some (.v (.int .i64 a1))), .t (some 18) (some (.v (.int .i64 s1.1))), .t (some 19) (some (.v (.int .i64 (IntKind.i64.wrap (a1 + s1.1))))), .t (some 20) (some (.v (.slice A0 n0 c0))), .t (some 21) (some (.v (.int .i64 a2))), .t (some 22) (some (.v (.int .i64 s1.1))), .t (some 23) (some (.v (.int .i64 (IntKind.i64.wrap (a2 + s1.1))))), .t (some 24) (some (.v (.slice A0 n0 c0))), .t (some 25) (some (.v (.int .i64 a2))), .t (some 26) (some (.v (.int .i64 s1.1))), .t (some 27) (some (.v (.int .i64 (IntKind.i64.wrap (a2 + s1.1))))), .t (some 28) (some (.v (.pointer (some ((adr A0).add (((IntKind.i64.wrap (a2 + s1.1)) : Int).toNat * 4)))))), .t (some 29) (some (.v (.agg ((kd_Wit_spot).cells (rd s1.2 (IntKind.i64.wrap (a2 + s1.1))) sv_10).toArray))), .t (some 30) (some (.v (.slice A0 n0 c0))), .t (some 31) (some (.v (.int .i64 a1))), .t (some 32) (some (.v (.int .i64 s1.1))), .t (some 33) (some (.v (.int .i64 (IntKind.i64.wrap (a1 + s1.1))))), .t (some 34) (some (.v (.pointer (some ((adr A0).add (((IntKind.i64.wrap (a1 + s1.1)) : Int).toNat * 4)))))), .t (some 35) (some (.v (.agg ((kd_Wit_spot).cells (rd s1.2 (IntKind.i64.wrap (a1 + s1.1))) sv_14).toArray))), .t (some 36) (some (.v (.pointer (some ((adr A0).add (((IntKind.i64.wrap (a1 + s1.1)) : Int).toNat * 4)))))), .t none none, .t (some 37) (some (.v (.pointer (some ((adr A0).add (((IntKind.i64.wrap (a2 + s1.1)) : Int).toNat * 4)))))), .t none none] (by kernel_rfl) (by kernel_rfl) (by kernel_rfl) True.intro (AL.none (by kernel_rfl)) (fun hJ hsz hu => ?_)
    refine end_ hJ hF hsz hu [.t (some (.v (.slice A0 n0 c0))), .t (some (.v (.int .i64 a1))), .t (some (.v (.int .i64 s1.1))), .t (some (.v (.int .i64 (IntKind.i64.wrap (a1 + s1.1))))), .t (some (.v (.slice A0 n0 c0))), .t (some (.v (.int .i64 a2))), .t (some (.v (.int .i64 s1.1))), .t (some (.v (.int .i64 (IntKind.i64.wrap (a2 + s1.1))))), .t (some (.v (.slice A0 n0 c0))), .t (some (.v (.int .i64 a2))), .t (some (.v (.int .i64 s1.1))), .t (some (.v (.int .i64 (IntKind.i64.wrap (a2 + s1.1))))), .t (some (.v (.pointer (some ((adr A0).add (((IntKind.i64.wrap (a2 + s1.1)) : Int).toNat * 4)))))), .t (some (.v (.agg ((kd_Wit_spot).cells (rd s1.2 (IntKind.i64.wrap (a2 + s1.1))) sv_10).toArray))), .t (some (.v (.slice A0 n0 c0))), .t (some (.v (.int .i64 a1))), .t (some (.v (.int .i64 s1.1))), .t (some (.v (.int .i64 (IntKind.i64.wrap (a1 + s1.1))))), .t (some (.v (.pointer (some ((adr A0).add (((IntKind.i64.wrap (a1 + s1.1)) : Int).toNat * 4)))))), .t (some (.v (.agg ((kd_Wit_spot).cells (rd s1.2 (IntKind.i64.wrap (a1 + s1.1))) sv_14).toArray))), .t (some (.v (.pointer (some ((adr A0).add (((IntKind.i64.wrap (a1 + s1.1)) : Int).toNat * 4)))))), .t none, .t (some (.v (.pointer (some ((adr A0).add (((IntKind.i64.wrap (a2 + s1.1)) : Int).toNat * 4)))))), .t none] (by kernel_rfl) (by kernel_rfl) (by kernel_rfl) (by kernel_rfl) (by kernel_rfl) (by kernel_rfl) (live := [10, 0, 1, 2, 3]) ⟨[⟨10, [], .v (.int .i64 s1.1)⟩, ⟨0, [], .v (.slice A0 n0 c0)⟩, ⟨1, [], .v (.int .i64 a1)⟩, ⟨2, [], .v (.int .i64 a2)⟩, ⟨3, [], .v (.int .i64 a3)⟩], [], [], [], none, none⟩ (by kernel_rfl) trivial (fun a w_32 hI => ?_)
    refine inBlock_normal ?_
    refine then_normal ?_
    refine region_ (live := [10, 0, 1, 2, 3]) (orc := []) hF hI ⟨[⟨10, [], .v (.int .i64 (IntKind.i64.wrap (s1.1 + 1)))⟩, ⟨0, [], .v (.slice A0 n0 c0)⟩, ⟨1, [], .v (.int .i64 a1)⟩, ⟨2, [], .v (.int .i64 a2)⟩, ⟨3, [], .v (.int .i64 a3)⟩], [], [], [], none, none⟩ [] (by kernel_rfl) trivial (fun ns_33 a w_34 hI _ => ?_)
    refine then_normal ?_
    obtain ⟨hE', hmv, hmr⟩ := Ep.rebase hE hI
    replace hx4 := Kd.keep _ hx4 (hmv _)
    replace hr0 := Row.keep hr0 (hmv _) (fun b hb => hmr b (by simp [hb]))
    replace hE := hE'
    replace hI := hI.rebase
    clear hE' hmv hmr
    obtain rfl := Option.some.inj H1
    exact ⟨_, rfl, ⟨_, _, hx4, hr0, hn0, hE, hI.pick [10, 0, 1, 2, 3] 0 ⟨[⟨10, [], .v (.int .i64 (IntKind.i64.wrap (s1.1 + 1)))⟩, ⟨0, [], .v (.slice A0 n0 c0)⟩, ⟨1, [], .v (.int .i64 a1)⟩, ⟨2, [], .v (.int .i64 a2)⟩, ⟨3, [], .v (.int .i64 a3)⟩], [], [], [], none, none⟩ (by kernel_rfl)⟩⟩
   ·replace H1 := bif_f hc_8 H1
    refine wpIn_exit ?_
    refine then_exit ?_
    refine then_exit ?_
    obtain ⟨hE', hmv, hmr⟩ := Ep.rebase hE hI
    replace hx4 := Kd.keep _ hx4 (hmv _)
    replace hr0 := Row.keep hr0 (hmv _) (fun b hb => hmr b (by simp [hb]))
    replace hE := hE'
    replace hI := hI.rebase
    clear hE' hmv hmr
    obtain rfl := Option.some.inj H1
    exact .inl ⟨_, rfl, rfl, ⟨_, _, hx4, hr0, hn0, hE, hI.pick [10, 0, 1, 2, 3] 0 ⟨[⟨10, [], .v (.int .i64 s1.1)⟩, ⟨0, [], .v (.slice A0 n0 c0)⟩, ⟨1, [], .v (.int .i64 a1)⟩, ⟨2, [], .v (.int .i64 a2)⟩, ⟨3, [], .v (.int .i64 a3)⟩], [], [], [], none, none⟩ (by kernel_rfl)⟩⟩
  ·clear hI hE
   rintro s1 a w_37 ho ⟨ow_39, ns_38, hx4, hr0, hn0, hE, hI⟩
   subst ho
   replace H0 : (some s1.2 : Option ((List Wit_spot))) = _ := H0
   obtain ⟨hE', hmv, hmr⟩ := Ep.rebase hE hI
   replace hx4 := Kd.keep _ hx4 (hmv _)
   replace hr0 := Row.keep hr0 (hmv _) (fun b hb => hmr b (by simp [hb]))
   replace hE := hE'
   replace hI := hI.rebase
   clear hE' hmv hmr
   obtain rfl := Option.some.inj H0
   exact retN (retG hI rfl rfl ⟨svL [], rfl, hE.keeps hI, Row.keep hr0 (hE.out hI) (fun _ _ => rfl), hn0⟩)

/-! ### slices.rotateCmpFunc[porthole/wit.spot]: function 57 -/
noncomputable def G_wit_spot_57.b1 (l0 : (List Wit_spot)) (n0 : Nat) (a1 : Int) (a2 : Int) (a3 : Int) (x4 : Fn96) (s1 : Int × Int × (List Wit_spot)) : Option (Stp (Int × Int × (List Wit_spot)) (Ex (Int × Int × (List Wit_spot)) ((List Wit_spot)))) := (bif (s1.2.1 != s1.1) then (bif decide (s1.2.1 > s1.1) then ((G_wit_spot_58 s1.2.2 n0 (IntKind.i64.wrap (a2 - s1.2.1)) a2 s1.1 x4).bind fun t_16 => some (.next (s1.1, (IntKind.i64.wrap (s1.2.1 - s1.1)), t_16))) else ((G_wit_spot_58 s1.2.2 n0 (IntKind.i64.wrap (a2 - s1.2.1)) (IntKind.i64.wrap ((IntKind.i64.wrap (a2 + s1.1)) - s1.2.1)) s1.2.1 x4).bind fun t_27 => some (.next ((IntKind.i64.wrap (s1.1 - s1.2.1)), s1.2.1, t_27)))) else some (.out (.brk (s1.1, s1.2.1, s1.2.2))))
noncomputable def G_wit_spot_57 (l0 : (List Wit_spot)) (n0 : Nat) (a1 : Int) (a2 : Int) (a3 : Int) (x4 : Fn96) : Option ((List Wit_spot)) := ((loopω (G_wit_spot_57.b1 l0 n0 a1 a2 a3 x4) ((IntKind.i64.wrap (a3 - a2)), (IntKind.i64.wrap (a2 - a1)), l0)).bind fun o => o.on (fun s1 => ((G_wit_spot_58 s1.2.2 n0 (IntKind.i64.wrap (a2 - s1.2.1)) a2 s1.2.1 x4).bind fun t_43 => some t_43)) (fun r => some r))
set_option maxRecDepth 100000 in
set_option maxHeartbeats 4000000 in
theorem G_wit_spot_57.calls (l0 : (List Wit_spot)) (n0 : Nat) (a1 : Int) (a2 : Int) (a3 : Int) (x4 : Fn96) (A0 : Option Addr) (c0 base0 : Nat) (sv4 : SV) (w : World) {S : Nat → Prop} (hr0 : Row kd_Wit_spot 91 S w base0 A0 c0 l0) (hn0 : l0.length = n0) (hx4 : (kdF96).cont S w x4 sv4) (hms : ∀ b, S b → b ∉ ([rb A0] : List (List Nat)).flatten) (hmd : ([rb A0] : List (List Nat)).flatten.Nodup) (hml : ∀ b ∈ ([rb A0] : List (List Nat)).flatten, b < w.heap.size) (r : (List Wit_spot)) (h : G_wit_spot_57 l0 n0 a1 a2 a3 x4 = some r) :
    Calls Try.prog 57 #[.slice A0 n0 c0, .int .i64 a1, .int .i64 a2, .int .i64 a3, fnv96 x4 sv4] w fun e w' => ∃ sv : SV, e = .returned (.tuple #[]) ∧ Keeps (([rb A0] : List (List Nat)).flatten) w w' ∧ Row kd_Wit_spot 91 (fun b => w.heap.size ≤ b ∨ S b) w' base0 A0 c0 r ∧ r.length = n0 := by
  replace hx4 := Kd.keep _ hx4 (Mv.start w hms)
  replace hr0 := Row.keep hr0 (Mv.start w hms) (fun _ _ => rfl)
  unfold G_wit_spot_57 at h
  have H0 := h
  clear h
  refine enter Try.func57 rfl [.slice A0 n0 c0, .int .i64 a1, .int .i64 a2, .int .i64 a3, fnv96 x4 sv4] (n := 58) rfl (Nat.le_of_ble_eq_true rfl) (fun a hI => ?_)
  have hF : FOpen Fence.wide := .inl rfl
  have hE := Ep.startM w [rb A0] hmd hml
  refine seq_region (live := [10, 0, 2, 3, 4]) (orc := []) hF hI ⟨[⟨10, [], .v (.int .i64 (IntKind.i64.wrap (a2 - a1)))⟩, ⟨0, [], .v (.slice A0 n0 c0)⟩, ⟨2, [], .v (.int .i64 a2)⟩, ⟨3, [], .v (.int .i64 a3)⟩, ⟨4, [], .v (fnv96 x4 sv4)⟩], [], [], [], none, none⟩ [] (by kernel_rfl) trivial (fun ns_1 a w_2 hI _ => ?_)
  refine seq_region (live := [11, 10, 0, 2, 4]) (orc := []) hF hI ⟨[⟨11, [], .v (.int .i64 (IntKind.i64.wrap (a3 - a2)))⟩, ⟨10, [], .v (.int .i64 (IntKind.i64.wrap (a2 - a1)))⟩, ⟨0, [], .v (.slice A0 n0 c0)⟩, ⟨2, [], .v (.int .i64 a2)⟩, ⟨4, [], .v (fnv96 x4 sv4)⟩], [], [], [], none, none⟩ [] (by kernel_rfl) trivial (fun ns_3 a w_4 hI _ => ?_)
  refine wpIn_seq ?_
  obtain ⟨hE', hmv, hmr⟩ := Ep.rebase hE hI
  replace hx4 := Kd.keep _ hx4 (hmv _)
  replace hr0 := Row.keep hr0 (hmv _) (fun b hb => hmr b (by simp [hb]))
  replace hE := hE'
  replace hI := hI.rebase
  clear hE' hmv hmr
  obtain ⟨o_36, hL_37, H0⟩ := bind_some H0
  refine block_loop (fun (s1 : Int × Int × (List Wit_spot)) a w_50 => ∃ (ow ns : List Nat) , ((kdF96).cont (Lo S w w_50 ow [rb A0]) w_50 x4 sv4) ∧ (Row kd_Wit_spot 91 (Lo S w w_50 ow [rb A0]) w_50 base0 A0 c0 s1.2.2) ∧ (s1.2.2.length = n0) ∧ Ep ([rb A0] : List (List Nat)).flatten w w_50 ow [rb A0] ∧ St w_50 ow 58 ⟨[⟨11, [], .v (.int .i64 s1.1)⟩, ⟨10, [], .v (.int .i64 s1.2.1)⟩, ⟨0, [], .v (.slice A0 n0 c0)⟩, ⟨2, [], .v (.int .i64 a2)⟩, ⟨4, [], .v (fnv96 x4 sv4)⟩], [], [], [], none, none⟩ ns a w_50) ((IntKind.i64.wrap (a3 - a2)), (IntKind.i64.wrap (a2 - a1)), l0) hL_37 ⟨_, _, hx4, hr0, hn0, hE, hI.pick [11, 10, 0, 2, 4] 0 ⟨[⟨11, [], .v (.int .i64 (IntKind.i64.wrap (a3 - a2)))⟩, ⟨10, [], .v (.int .i64 (IntKind.i64.wrap (a2 - a1)))⟩, ⟨0, [], .v (.slice A0 n0 c0)⟩, ⟨2, [], .v (.int .i64 a2)⟩, ⟨4, [], .v (fnv96 x4 sv4)⟩], [], [], [], none, none⟩ (by kernel_rfl)⟩ ?_ ?_
  ·clear hI hE
   rintro s1 a w_5 ⟨ow_7, ns_6, hx4, hr0, hn0, hE, hI⟩ r1 H1
   unfold G_wit_spot_57.b1 at H1
   refine wpIn_seq ?_
   refine seq_region (live := [20, 11, 10, 0, 2, 4]) (orc := []) hF hI ⟨[⟨20, [], .v (.bool (s1.2.1 != s1.1))⟩, ⟨11, [], .v (.int .i64 s1.1)⟩, ⟨10, [], .v (.int .i64 s1.2.1)⟩, ⟨0, [], .v (.slice A0 n0 c0)⟩, ⟨2, [], .v (.int .i64 a2)⟩, ⟨4, [], .v (fnv96 x4 sv4)⟩], [], [], [], none, none⟩ [] (by kernel_rfl) trivial (fun ns_8 a w_9 hI _ => ?_)
   refine cond_ hI ((s1.2.1 != s1.1)) rfl (fun hc_10 => ?_) (fun hc_10 => ?_)
   ·replace H1 := bif_t hc_10 H1
    refine wpIn_skip ?_
    refine then_normal ?_
    refine wpIn_block ?_
    refine seq_region (live := [23, 11, 10, 0, 2, 4]) (orc := []) hF hI ⟨[⟨23, [], .v (.bool (decide (s1.2.1 > s1.1)))⟩, ⟨11, [], .v (.int .i64 s1.1)⟩, ⟨10, [], .v (.int .i64 s1.2.1)⟩, ⟨0, [], .v (.slice A0 n0 c0)⟩, ⟨2, [], .v (.int .i64 a2)⟩, ⟨4, [], .v (fnv96 x4 sv4)⟩], [], [], [], none, none⟩ [] (by kernel_rfl) trivial (fun ns_11 a w_12 hI _ => ?_)
    refine cond_ hI (decide (s1.2.1 > s1.1)) rfl (fun hc_13 => ?_) (fun hc_13 => ?_)
    ·replace H1 := bif_t hc_13 H1
     refine wpIn_seq ?_
     refine wpIn_region_lit ?_
     refine chunkL_ (live := [30, 29, 28, 27, 24, 11, 10, 0, 2, 4]) (orc := []) hF 7 hI ⟨[⟨30, [], .v (fnv96 x4 sv4)⟩, ⟨29, [], .v (.int .i64 s1.1)⟩, ⟨28, [], .v (.int .i64 a2)⟩, ⟨27, [], .v (.int .i64 (IntKind.i64.wrap (a2 - s1.2.1)))⟩, ⟨24, [], .v (.slice A0 n0 c0)⟩, ⟨11, [], .v (.int .i64 s1.1)⟩, ⟨10, [], .v (.int .i64 s1.2.1)⟩, ⟨0, [], .v (.slice A0 n0 c0)⟩, ⟨2, [], .v (.int .i64 a2)⟩, ⟨4, [], .v (fnv96 x4 sv4)⟩], [], [], [], none, none⟩ [] rfl (by kernel_rfl) trivial (fun ns_14 a w_15 hI => ?_)
     obtain ⟨hE', hmv, hmr⟩ := Ep.rebase hE hI
     replace hx4 := Kd.keep _ hx4 (hmv _)
     replace hr0 := Row.keep hr0 (hmv _) (fun b hb => hmr b (by simp [hb]))
     replace hE := hE'
     replace hI := hI.rebase
     clear hE' hmv hmr
     obtain ⟨t_16, hG_17, H1⟩ := bind_some H1
     refine callM_ hF hE hI (wanted_none rfl) rfl (args := [.slice A0 n0 c0, .int .i64 (IntKind.i64.wrap (a2 - s1.2.1)), .int .i64 a2, .int .i64 s1.1, fnv96 x4 sv4]) rfl (enters Try.func58 (by kernel_rfl) rfl) (fun sv_18 => .tuple #[]) [0] _ (G_wit_spot_58.calls s1.2.2 n0 (IntKind.i64.wrap (a2 - s1.2.1)) a2 s1.1 x4 A0 c0 base0 (svL []) w_15 (S := Lo S w w_15 ns_14 [rb A0]) hr0 hn0 (contI (S := Lo S w w_15 ns_14 [rb A0]) (w := w_15) (d := kdF96) (x := x4) (sv := (svL [])) hx4) (Lo.pick [0]) (hE.pick [0] (by decide)) (hE.pickLt [0]) _ hG_17) (.inl rfl) (fun sv_18 => ⟨[⟨31, [], .v (.tuple #[])⟩, ⟨30, [], .v (fnv96 x4 sv4)⟩, ⟨29, [], .v (.int .i64 s1.1)⟩, ⟨28, [], .v (.int .i64 a2)⟩, ⟨27, [], .v (.int .i64 (IntKind.i64.wrap (a2 - s1.2.1)))⟩, ⟨24, [], .v (.slice A0 n0 c0)⟩, ⟨11, [], .v (.int .i64 s1.1)⟩, ⟨10, [], .v (.int .i64 s1.2.1)⟩, ⟨0, [], .v (.slice A0 n0 c0)⟩, ⟨2, [], .v (.int .i64 a2)⟩, ⟨4, [], .v (fnv96 x4 sv4)⟩], [], [], [], none, none⟩) (fun sv_18 => by kernel_rfl) (fun sv_18 a w_19 hput hE' hI' hmv hmr hres hR => ?_)
     replace hx4 := Kd.keep _ hx4 (hmv _)
     replace hE := hE'
     replace hI := hI'
     clear hE' hI' hmv hmr
     obtain ⟨hr0, hn0⟩ := hR
     replace hr0 := Row.keep hr0 (hres _) (fun _ _ => rfl)
     clear hres
     refine chunkL_ (live := [11, 10, 0, 2, 4]) (orc := []) hF 0 hI ⟨[⟨11, [], .v (.int .i64 s1.1)⟩, ⟨10, [], .v (.int .i64 s1.2.1)⟩, ⟨0, [], .v (.slice A0 n0 c0)⟩, ⟨2, [], .v (.int .i64 a2)⟩, ⟨4, [], .v (fnv96 x4 sv4)⟩], [], [], [], none, none⟩ [] rfl (by kernel_rfl) trivial (fun ns_21 a w_22 hI => ?_)
     refine wpListIn_nil ?_
     refine then_normal ?_
     refine region_ (live := [10, 11, 0, 2, 4]) (orc := []) hF hI ⟨[⟨10, [], .v (.int .i64 (IntKind.i64.wrap (s1.2.1 - s1.1)))⟩, ⟨11, [], .v (.int .i64 s1.1)⟩, ⟨0, [], .v (.slice A0 n0 c0)⟩, ⟨2, [], .v (.int .i64 a2)⟩, ⟨4, [], .v (fnv96 x4 sv4)⟩], [], [], [], none, none⟩ [] (by kernel_rfl) trivial (fun ns_23 a w_24 hI _ => ?_)
     refine inBlock_normal ?_
     refine then_normal ?_
     obtain ⟨hE', hmv, hmr⟩ := Ep.rebase hE hI
     replace hx4 := Kd.keep _ hx4 (hmv _)
     replace hr0 := Row.keep hr0 (hmv _) (fun b hb => hmr b (by simp [hb]))
     replace hE := hE'
     replace hI := hI.rebase
     clear hE' hmv hmr
     obtain rfl := Option.some.inj H1
     exact ⟨_, rfl, ⟨_, _, hx4, hr0, hn0, hE, hI.pick [11, 10, 0, 2, 4] 0 ⟨[⟨11, [], .v (.int .i64 s1.1)⟩, ⟨10, [], .v (.int .i64 (IntKind.i64.wrap (s1.2.1 - s1.1)))⟩, ⟨0, [], .v (.slice A0 n0 c0)⟩, ⟨2, [], .v (.int .i64 a2)⟩, ⟨4, [], .v (fnv96 x4 sv4)⟩], [], [], [], none, none⟩ (by kernel_rfl)⟩⟩
    ·replace H1 := bif_f hc_13 H1
     refine wpIn_seq ?_
     refine wpIn_region_lit ?_
     refine chunkL_ (live := [45, 44, 43, 38, 35, 11, 10, 0, 2, 4]) (orc := []) hF 11 hI ⟨[⟨45, [], .v (fnv96 x4 sv4)⟩, ⟨44, [], .v (.int .i64 s1.2.1)⟩, ⟨43, [], .v (.int .i64 (IntKind.i64.wrap ((IntKind.i64.wrap (a2 + s1.1)) - s1.2.1)))⟩, ⟨38, [], .v (.int .i64 (IntKind.i64.wrap (a2 - s1.2.1)))⟩, ⟨35, [], .v (.slice A0 n0 c0)⟩, ⟨11, [], .v (.int .i64 s1.1)⟩, ⟨10, [], .v (.int .i64 s1.2.1)⟩, ⟨0, [], .v (.slice A0 n0 c0)⟩, ⟨2, [], .v (.int .i64 a2)⟩, ⟨4, [], .v (fnv96 x4 sv4)⟩], [], [], [], none, none⟩ [] rfl (by kernel_rfl) trivial (fun ns_25 a w_26 hI => ?_)
     obtain ⟨hE', hmv, hmr⟩ := Ep.rebase hE hI
     replace hx4 := Kd.keep _ hx4 (hmv _)
     replace hr0 := Row.keep hr0 (hmv _) (fun b hb => hmr b (by simp [hb]))
     replace hE := hE'
     replace hI := hI.rebase
     clear hE' hmv hmr
     obtain ⟨t_27, hG_28, H1⟩ := bind_some H1
     refine callM_ hF hE hI (wanted_none rfl) rfl (args := [.slice A0 n0 c0, .int .i64 (IntKind.i64.wrap (a2 - s1.2.1)), .int .i64 (IntKind.i64.wrap ((IntKind.i64.wrap (a2 + s1.1)) - s1.2.1)), .int .i64 s1.2.1, fnv96 x4 sv4]) rfl (enters Try.func58 (by kernel_rfl) rfl) (fun sv_29 => .tuple #[]) [0] _ (G_wit_spot_58.calls s1.2.2 n0 (IntKind.i64.wrap (a2 - s1.2.1)) (IntKind.i64.wrap ((IntKind.i64.wrap (a2 + s1.1)) - s1.2.1)) s1.2.1 x4 A0 c0 base0 (svL []) w_26 (S := Lo S w w_26 ns_25 [rb A0]) hr0 hn0 (contI (S := Lo S w w_26 ns_25 [rb A0]) (w := w_26) (d := kdF96) (x := x4) (sv := (svL [])) hx4) (Lo.pick [0]) (hE.pick [0] (by decide)) (hE.pickLt [0]) _ hG_28) (.inl rfl) (fun sv_29 => ⟨[⟨46, [], .v (.tuple #[])⟩, ⟨45, [], .v (fnv96 x4 sv4)⟩, ⟨44, [], .v (.int .i64 s1.2.1)⟩, ⟨43, [], .v (.int .i64 (IntKind.i64.wrap ((IntKind.i64.wrap (a2 + s1.1)) - s1.2.1)))⟩, ⟨38, [], .v (.int .i64 (IntKind.i64.wrap (a2 - s1.2.1)))⟩, ⟨35, [], .v (.slice A0 n0 c0)⟩, ⟨11, [], .v (.int .i64 s1.1)⟩, ⟨10, [], .v (.int .i64 s1.2.1)⟩, ⟨0, [], .v (.slice A0 n0 c0)⟩, ⟨2, [], .v (.int .i64 a2)⟩, ⟨4, [], .v (fnv96 x4 sv4)⟩], [], [], [], none, none⟩) (fun sv_29 => by kernel_rfl) (fun sv_29 a w_30 hput hE' hI' hmv hmr hres hR => ?_)
     replace hx4 := Kd.keep _ hx4 (hmv _)
     replace hE := hE'
     replace hI := hI'
     clear hE' hI' hmv hmr
     obtain ⟨hr0, hn0⟩ := hR
     replace hr0 := Row.keep hr0 (hres _) (fun _ _ => rfl)
     clear hres
     refine chunkL_ (live := [11, 10, 0, 2, 4]) (orc := []) hF 0 hI ⟨[⟨11, [], .v (.int .i64 s1.1)⟩, ⟨10, [], .v (.int .i64 s1.2.1)⟩, ⟨0, [], .v (.slice A0 n0 c0)⟩, ⟨2, [], .v (.int .i64 a2)⟩, ⟨4, [], .v (fnv96 x4 sv4)⟩], [], [], [], none, none⟩ [] rfl (by kernel_rfl) trivial (fun ns_32 a w_33 hI => ?_)
     refine wpListIn_nil ?_
     refine then_normal ?_
     refine region_ (live := [11, 10, 0, 2, 4]) (orc := []) hF hI ⟨[⟨11, [], .v (.int .i64 (IntKind.i64.wrap (s1.1 - s1.2.1)))⟩, ⟨10, [], .v (.int .i64 s1.2.1)⟩, ⟨0, [], .v (.slice A0 n0 c0)⟩, ⟨2, [], .v (.int .i64 a2)⟩, ⟨4, [], .v (fnv96 x4 sv4)⟩], [], [], [], none, none⟩ [] (by kernel_rfl) trivial (fun ns_34 a w_35 hI _ => ?_)
     refine inBlock_normal ?_
     refine then_normal ?_
     obtain ⟨hE', hmv, hmr⟩ := Ep.rebase hE hI
     replace hx4 := Kd.keep _ hx4 (hmv _)
     replace hr0 := Row.keep hr0 (hmv _) (fun b hb => hmr b (by simp [hb]))
     replace hE := hE'
     replace hI := hI.rebase
     clear hE' hmv hmr
     obtain rfl := Option.some.inj H1
     exact ⟨_, rfl, ⟨_, _, hx4, hr0, hn0, hE, hI.pick [11, 10, 0, 2, 4] 0 ⟨[⟨11, [], .v (.int .i64 (IntKind.i64.wrap (s1.1 - s1.2.1)))⟩, ⟨10, [], .v (.int .i64 s1.2.1)⟩, ⟨0, [], .v (.slice A0 n0 c0)⟩, ⟨2, [], .v (.int .i64 a2)⟩, ⟨4, [], .v (fnv96 x4 sv4)⟩], [], [], [], none, none⟩ (by kernel_rfl)⟩⟩
   ·replace H1 := bif_f hc_10 H1
    refine wpIn_exit ?_
    refine then_exit ?_
    refine then_exit ?_
    obtain ⟨hE', hmv, hmr⟩ := Ep.rebase hE hI
    replace hx4 := Kd.keep _ hx4 (hmv _)
    replace hr0 := Row.keep hr0 (hmv _) (fun b hb => hmr b (by simp [hb]))
    replace hE := hE'
    replace hI := hI.rebase
    clear hE' hmv hmr
    obtain rfl := Option.some.inj H1
    exact .inl ⟨_, rfl, rfl, ⟨_, _, hx4, hr0, hn0, hE, hI.pick [11, 10, 0, 2, 4] 0 ⟨[⟨11, [], .v (.int .i64 s1.1)⟩, ⟨10, [], .v (.int .i64 s1.2.1)⟩, ⟨0, [], .v (.slice A0 n0 c0)⟩, ⟨2, [], .v (.int .i64 a2)⟩, ⟨4, [], .v (fnv96 x4 sv4)⟩], [], [], [], none, none⟩ (by kernel_rfl)⟩⟩
  ·clear hI hE
   rintro s1 a w_38 ho ⟨ow_40, ns_39, hx4, hr0, hn0, hE, hI⟩
   subst ho
   replace H0 : (((G_wit_spot_58 s1.2.2 n0 (IntKind.i64.wrap (a2 - s1.2.1)) a2 s1.2.1 x4).bind fun t_43 => some t_43) : Option ((List Wit_spot))) = _ := H0
   refine then_normal ?_
   refine wpIn_region_lit ?_
   refine chunkL_ (live := [56, 55, 54, 53, 50]) (orc := []) hF 7 hI ⟨[⟨56, [], .v (fnv96 x4 sv4)⟩, ⟨55, [], .v (.int .i64 s1.2.1)⟩, ⟨54, [], .v (.int .i64 a2)⟩, ⟨53, [], .v (.int .i64 (IntKind.i64.wrap (a2 - s1.2.1)))⟩, ⟨50, [], .v (.slice A0 n0 c0)⟩], [], [], [], none, none⟩ [] rfl (by kernel_rfl) trivial (fun ns_41 a w_42 hI => ?_)
   obtain ⟨hE', hmv, hmr⟩ := Ep.rebase hE hI
   replace hx4 := Kd.keep _ hx4 (hmv _)
   replace hr0 := Row.keep hr0 (hmv _) (fun b hb => hmr b (by simp [hb]))
   replace hE := hE'
   replace hI := hI.rebase
   clear hE' hmv hmr
   obtain ⟨t_43, hG_44, H0⟩ := bind_some H0
   refine callM_ hF hE hI (wanted_none rfl) rfl (args := [.slice A0 n0 c0, .int .i64 (IntKind.i64.wrap (a2 - s1.2.1)), .int .i64 a2, .int .i64 s1.2.1, fnv96 x4 sv4]) rfl (enters Try.func58 (by kernel_rfl) rfl) (fun sv_45 => .tuple #[]) [0] _ (G_wit_spot_58.calls s1.2.2 n0 (IntKind.i64.wrap (a2 - s1.2.1)) a2 s1.2.1 x4 A0 c0 base0 (svL []) w_42 (S := Lo S w w_42 ns_41 [rb A0]) hr0 hn0 (contI (S := Lo S w w_42 ns_41 [rb A0]) (w := w_42) (d := kdF96) (x := x4) (sv := (svL [])) hx4) (Lo.pick [0]) (hE.pick [0] (by decide)) (hE.pickLt [0]) _ hG_44) (.inl rfl) (fun sv_45 => ⟨[⟨57, [], .v (.tuple #[])⟩, ⟨56, [], .v (fnv96 x4 sv4)⟩, ⟨55, [], .v (.int .i64 s1.2.1)⟩, ⟨54, [], .v (.int .i64 a2)⟩, ⟨53, [], .v (.int .i64 (IntKind.i64.wrap (a2 - s1.2.1)))⟩, ⟨50, [], .v (.slice A0 n0 c0)⟩], [], [], [], none, none⟩) (fun sv_45 => by kernel_rfl) (fun sv_45 a w_46 hput hE' hI' hmv hmr hres hR => ?_)
   replace hx4 := Kd.keep _ hx4 (hmv _)
   replace hE := hE'
   replace hI := hI'
   clear hE' hI' hmv hmr
   obtain ⟨hr0, hn0⟩ := hR
   replace hr0 := Row.keep hr0 (hres _) (fun _ _ => rfl)
   clear hres
   refine chunkL_ (live := []) (orc := []) hF 0 hI ⟨[], [], [], [], none, none⟩ [] rfl (by kernel_rfl) trivial (fun ns_48 a w_49 hI => ?_)
   refine wpListIn_nil ?_
   obtain ⟨hE', hmv, hmr⟩ := Ep.rebase hE hI
   replace hx4 := Kd.keep _ hx4 (hmv _)
   replace hr0 := Row.keep hr0 (hmv _) (fun b hb => hmr b (by simp [hb]))
   replace hE := hE'
   replace hI := hI.rebase
   clear hE' hmv hmr
   obtain rfl := Option.some.inj H0
   exact retN (retG hI rfl rfl ⟨svL [], rfl, hE.keeps hI, Row.keep hr0 (hE.out hI) (fun _ _ => rfl), hn0⟩)

end Go.Proofs.Ytnfnincmhobpaaa
