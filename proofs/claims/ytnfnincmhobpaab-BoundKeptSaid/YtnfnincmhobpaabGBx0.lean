import Derived.Test.YtnfnincmhobpaabProg
import Derived.Test.YtnfnincmhobpaabEng
set_option linter.unusedVariables false
set_option linter.unusedSimpArgs false
namespace Go.Proofs.Ytnfnincmhobpaab
open Go Go.RowKit Go.Eng Go.Proofs

structure Part where
  Core : Int
  Private : Int
  deriving Inhabited, DecidableEq
def kd_Part : Kd Part := ⟨2, fun x sv => [.int .i64 x.Core, .int .i64 x.Private], fun S w x sv => True, fun _ _ => rfl, Nat.le_of_ble_eq_true rfl, fun h hk => trivial⟩
theorem kd_one_Part (x : Part) (sv : SV) (u : Value) (hu : u ∈ kd_Part.cells x sv) : u.oneCell' = true := by
  simp only [kd_Part, List.mem_cons, List.not_mem_nil, or_false] at hu
  rcases hu with rfl | rfl
  all_goals first | rfl
structure Chan where
  Kind : Int
  From : Int
  To : Int
  Words : Int
  Depth : Int
  Period : Int
  Boot : Int
  deriving Inhabited, DecidableEq
def kd_Chan : Kd Chan := ⟨7, fun x sv => [.int .i64 x.Kind, .int .i64 x.From, .int .i64 x.To, .int .i64 x.Words, .int .i64 x.Depth, .int .i64 x.Period, .int .u32 x.Boot], fun S w x sv => True, fun _ _ => rfl, Nat.le_of_ble_eq_true rfl, fun h hk => trivial⟩
theorem kd_one_Chan (x : Chan) (sv : SV) (u : Value) (hu : u ∈ kd_Chan.cells x sv) : u.oneCell' = true := by
  simp only [kd_Chan, List.mem_cons, List.not_mem_nil, or_false] at hu
  rcases hu with rfl | rfl | rfl | rfl | rfl | rfl | rfl
  all_goals first | rfl
structure Window where
  Part : Int
  Start : Int
  Len : Int
  deriving Inhabited, DecidableEq
def kd_Window : Kd Window := ⟨3, fun x sv => [.int .i64 x.Part, .int .i64 x.Start, .int .i64 x.Len], fun S w x sv => True, fun _ _ => rfl, Nat.le_of_ble_eq_true rfl, fun h hk => trivial⟩
theorem kd_one_Window (x : Window) (sv : SV) (u : Value) (hu : u ∈ kd_Window.cells x sv) : u.oneCell' = true := by
  simp only [kd_Window, List.mem_cons, List.not_mem_nil, or_false] at hu
  rcases hu with rfl | rfl | rfl
  all_goals first | rfl
structure Frame where
  Length : Int
  Windows : (List Window)
  deriving Inhabited, DecidableEq
def kd_Frame : Kd Frame := ⟨2, fun x sv => [.int .i64 x.Length, .slice (sv 0).1 x.Windows.length (sv 0).2], fun S w x sv => (Arr kd_Window S w (sv 0).1 x.Windows ∧ x.Windows.length ≤ (sv 0).2) ∧ True, fun _ _ => rfl, Nat.le_of_ble_eq_true rfl, fun h hk => ⟨⟨h.1.1.keep hk, h.1.2⟩, trivial⟩⟩
theorem kd_one_Frame (x : Frame) (sv : SV) (u : Value) (hu : u ∈ kd_Frame.cells x sv) : u.oneCell' = true := by
  simp only [kd_Frame, List.mem_cons, List.not_mem_nil, or_false] at hu
  rcases hu with rfl | rfl
  all_goals first | rfl
structure St27 where
  e0 : Frame
  e1 : Frame
  deriving Inhabited, DecidableEq
def kd_St27 : Kd St27 := ⟨4, fun x sv => [.int .i64 x.e0.Length, .slice (sv 0).1 x.e0.Windows.length (sv 0).2, .int .i64 x.e1.Length, .slice (sv 1).1 x.e1.Windows.length (sv 1).2], fun S w x sv => (Arr kd_Window S w (sv 0).1 x.e0.Windows ∧ x.e0.Windows.length ≤ (sv 0).2) ∧ (Arr kd_Window S w (sv 1).1 x.e1.Windows ∧ x.e1.Windows.length ≤ (sv 1).2) ∧ True, fun _ _ => rfl, Nat.le_of_ble_eq_true rfl, fun h hk => ⟨⟨h.1.1.keep hk, h.1.2⟩, ⟨h.2.1.1.keep hk, h.2.1.2⟩, trivial⟩⟩
def rdA_St27 (x : St27) (i : Int) : Frame := if i = 0 then x.e0 else x.e1
theorem elA_St27 {S : Nat → Prop} {w : World} {B : Addr} {x : St27} {sv : SV} (h : El kd_St27 S w B x sv) {i : Int} (hi : inb i 2 = true) : El kd_Frame S w (B.add (i.toNat * 2)) (rdA_St27 x i) (svO sv (i.toNat * 1)) := by
  obtain ⟨h0, h1⟩ := inb_spec hi
  have : i = 0 ∨ i = 1 := by omega
  rcases this with rfl | rfl
  · exact El.part h (0 * 2) x.e0 (svO sv (0 * 1)) ⟨h.cont.1, trivial⟩ rfl
  · exact El.part h (1 * 2) x.e1 (svO sv (1 * 1)) ⟨h.cont.2.1, trivial⟩ rfl
theorem kd_one_St27 (x : St27) (sv : SV) (u : Value) (hu : u ∈ kd_St27.cells x sv) : u.oneCell' = true := by
  simp only [kd_St27, List.mem_cons, List.not_mem_nil, or_false] at hu
  rcases hu with rfl | rfl | rfl | rfl
  all_goals first | rfl
structure Config where
  Parts : (List Part)
  Chans : (List Chan)
  Frames : St27
  deriving Inhabited, DecidableEq
def kd_Config : Kd Config := ⟨6, fun x sv => [.slice (sv 0).1 x.Parts.length (sv 0).2, .slice (sv 1).1 x.Chans.length (sv 1).2, .int .i64 x.Frames.e0.Length, .slice (sv 2).1 x.Frames.e0.Windows.length (sv 2).2, .int .i64 x.Frames.e1.Length, .slice (sv 3).1 x.Frames.e1.Windows.length (sv 3).2], fun S w x sv => (Arr kd_Part S w (sv 0).1 x.Parts ∧ x.Parts.length ≤ (sv 0).2) ∧ (Arr kd_Chan S w (sv 1).1 x.Chans ∧ x.Chans.length ≤ (sv 1).2) ∧ (Arr kd_Window S w (sv 2).1 x.Frames.e0.Windows ∧ x.Frames.e0.Windows.length ≤ (sv 2).2) ∧ (Arr kd_Window S w (sv 3).1 x.Frames.e1.Windows ∧ x.Frames.e1.Windows.length ≤ (sv 3).2) ∧ True, fun _ _ => rfl, Nat.le_of_ble_eq_true rfl, fun h hk => ⟨⟨h.1.1.keep hk, h.1.2⟩, ⟨h.2.1.1.keep hk, h.2.1.2⟩, ⟨h.2.2.1.1.keep hk, h.2.2.1.2⟩, ⟨h.2.2.2.1.1.keep hk, h.2.2.2.1.2⟩, trivial⟩⟩
theorem kd_one_Config (x : Config) (sv : SV) (u : Value) (hu : u ∈ kd_Config.cells x sv) : u.oneCell' = true := by
  simp only [kd_Config, List.mem_cons, List.not_mem_nil, or_false] at hu
  rcases hu with rfl | rfl | rfl | rfl | rfl | rfl
  all_goals first | rfl
structure Request where
  Op : Int
  Port : Int
  Addr : Int
  Data : (List Int)
  deriving Inhabited, DecidableEq
def kd_Request : Kd Request := ⟨4, fun x sv => [.int .i64 x.Op, .int .i64 x.Port, .int .u64 x.Addr, .slice (sv 0).1 x.Data.length (sv 0).2], fun S w x sv => (Arr (Kd.int .u32) S w (sv 0).1 x.Data ∧ x.Data.length ≤ (sv 0).2) ∧ True, fun _ _ => rfl, Nat.le_of_ble_eq_true rfl, fun h hk => ⟨⟨h.1.1.keep hk, h.1.2⟩, trivial⟩⟩
theorem kd_one_Request (x : Request) (sv : SV) (u : Value) (hu : u ∈ kd_Request.cells x sv) : u.oneCell' = true := by
  simp only [kd_Request, List.mem_cons, List.not_mem_nil, or_false] at hu
  rcases hu with rfl | rfl | rfl | rfl
  all_goals first | rfl
structure Answer where
  Code : Int
  Data : (List Int)
  Valid : Bool
  Count : Int
  deriving Inhabited, DecidableEq
def kd_Answer : Kd Answer := ⟨4, fun x sv => [.int .i64 x.Code, .slice (sv 0).1 x.Data.length (sv 0).2, .bool x.Valid, .int .i64 x.Count], fun S w x sv => (Arr (Kd.int .u32) S w (sv 0).1 x.Data ∧ x.Data.length ≤ (sv 0).2) ∧ True, fun _ _ => rfl, Nat.le_of_ble_eq_true rfl, fun h hk => ⟨⟨h.1.1.keep hk, h.1.2⟩, trivial⟩⟩
theorem kd_one_Answer (x : Answer) (sv : SV) (u : Value) (hu : u ∈ kd_Answer.cells x sv) : u.oneCell' = true := by
  simp only [kd_Answer, List.mem_cons, List.not_mem_nil, or_false] at hu
  rcases hu with rfl | rfl | rfl | rfl
  all_goals first | rfl
inductive Fn54 where
  | f75 (c0 : Int)
  | f76 (c0 : Int)
  | f77 (c0 : Int)
  | f61
  deriving Inhabited, DecidableEq
def fid54 (x : Fn54) : Nat := match x with
  | .f75 _ => 75
  | .f76 _ => 76
  | .f77 _ => 77
  | .f61 => 61
def fca54 (x : Fn54) (sv : SV) : Array Value := match x with
  | .f75 _ => #[.pointer (some (adr (sv 0).1))]
  | .f76 _ => #[.pointer (some (adr (sv 0).1))]
  | .f77 _ => #[.pointer (some (adr (sv 0).1))]
  | .f61 => #[]
def fnv54 (x : Fn54) (sv : SV) : Value := .func (.func (fid54 x)) #[] (fca54 x sv)
def fnc54 (S : Nat → Prop) (w : World) (x : Fn54) (sv : SV) : Prop := match x with
  | .f75 c0 => El (Kd.int .i64) S w (adr (sv 0).1) c0 (svO sv 1)
  | .f76 c0 => El (Kd.int .i64) S w (adr (sv 0).1) c0 (svO sv 1)
  | .f77 c0 => El (Kd.int .i64) S w (adr (sv 0).1) c0 (svO sv 1)
  | .f61 => True
theorem fnk54 {S S' : Nat → Prop} {w w' : World} {x : Fn54} {sv : SV} (h : fnc54 S w x sv) (hk : ∀ b, S b → IsC w b → S' b ∧ w'.heap[b]? = w.heap[b]?) : fnc54 S' w' x sv := by
  cases x with
  | f75 c0 => exact El.keep h hk
  | f76 c0 => exact El.keep h hk
  | f77 c0 => exact El.keep h hk
  | f61 => exact trivial
theorem fn1_54 (x : Fn54) (sv : SV) : (fnv54 x sv).oneCell' = true := rfl
theorem fnr54 {S : Nat → Prop} {w : World} {x y : Fn54} {sv : SV} (h : fnc54 S w x sv) (e : x = y) : fnc54 S w y sv := e ▸ h
structure Bound_row where
  op : Int
  code : Int
  steps : Fn54
  deriving Inhabited, DecidableEq
def kd_Bound_row : Kd Bound_row := ⟨3, fun x sv => [.int .i64 x.op, .int .i64 x.code, (fnv54 x.steps sv)], fun S w x sv => (fnc54 S w x.steps sv) ∧ True, fun _ _ => rfl, Nat.le_of_ble_eq_true rfl, fun h hk => ⟨fnk54 h.1 hk, trivial⟩⟩
theorem kd_one_Bound_row (x : Bound_row) (sv : SV) (u : Value) (hu : u ∈ kd_Bound_row.cells x sv) : u.oneCell' = true := by
  simp only [kd_Bound_row, List.mem_cons, List.not_mem_nil, or_false] at hu
  rcases hu with rfl | rfl | rfl
  all_goals first | rfl | exact fn1_54 _ _
structure Call where
  Part : Int
  Req : Request
  Ans : Answer
  Done : Bool
  From : Int
  To : Int
  T0 : Int
  T1 : Int
  Own0 : Int
  Own1 : Int
  Mark : Int
  Ring : Int
  Stamp : Int
  Saw : Int
  deriving Inhabited, DecidableEq
def kd_Call : Kd Call := ⟨20, fun x sv => [.int .i64 x.Part, .int .i64 x.Req.Op, .int .i64 x.Req.Port, .int .u64 x.Req.Addr, .slice (sv 0).1 x.Req.Data.length (sv 0).2, .int .i64 x.Ans.Code, .slice (sv 1).1 x.Ans.Data.length (sv 1).2, .bool x.Ans.Valid, .int .i64 x.Ans.Count, .bool x.Done, .int .i64 x.From, .int .i64 x.To, .int .i64 x.T0, .int .i64 x.T1, .int .i64 x.Own0, .int .i64 x.Own1, .int .i64 x.Mark, .int .i64 x.Ring, .int .i64 x.Stamp, .int .i64 x.Saw], fun S w x sv => (Arr (Kd.int .u32) S w (sv 0).1 x.Req.Data ∧ x.Req.Data.length ≤ (sv 0).2) ∧ (Arr (Kd.int .u32) S w (sv 1).1 x.Ans.Data ∧ x.Ans.Data.length ≤ (sv 1).2) ∧ True, fun _ _ => rfl, Nat.le_of_ble_eq_true rfl, fun h hk => ⟨⟨h.1.1.keep hk, h.1.2⟩, ⟨h.2.1.1.keep hk, h.2.1.2⟩, trivial⟩⟩
theorem kd_one_Call (x : Call) (sv : SV) (u : Value) (hu : u ∈ kd_Call.cells x sv) : u.oneCell' = true := by
  simp only [kd_Call, List.mem_cons, List.not_mem_nil, or_false] at hu
  rcases hu with rfl | rfl | rfl | rfl | rfl | rfl | rfl | rfl | rfl | rfl | rfl | rfl | rfl | rfl | rfl | rfl | rfl | rfl | rfl | rfl
  all_goals first | rfl

def wf_Part (x : Part) : Prop := (InK .i64) x.Core ∧ (InK .i64) x.Private
theorem op_Part : Opn Try.prog 86 kd_Part wf_Part := by
  refine ⟨by kernel_rfl, fun h => ?_⟩
  obtain ⟨xs, m, _, _, hlen, hxs, hf⟩ := DataW.trod_struct Try.underlying86 h
  obtain ⟨v0, s0, c0, k0, w0⟩ := opn_field hf hxs 0 _ rfl (Opn.int Try.underlying3 (by kernel_rfl))
  obtain ⟨v1, s1, c1, k1, w1⟩ := opn_field hf hxs 1 _ rfl (Opn.int Try.underlying3 (by kernel_rfl))
  exact ⟨⟨v0, v1⟩, svL [], (pieces_eq [1, 1] hlen (by kernel_rfl)).trans (app2 c0 (app2 c1 rfl)), trivial, ⟨w0, w1⟩⟩
def wf_Chan (x : Chan) : Prop := (InK .i64) x.Kind ∧ (InK .i64) x.From ∧ (InK .i64) x.To ∧ (InK .i64) x.Words ∧ (InK .i64) x.Depth ∧ (InK .i64) x.Period ∧ (InK .u32) x.Boot
theorem op_Chan : Opn Try.prog 74 kd_Chan wf_Chan := by
  refine ⟨by kernel_rfl, fun h => ?_⟩
  obtain ⟨xs, m, _, _, hlen, hxs, hf⟩ := DataW.trod_struct Try.underlying74 h
  obtain ⟨v0, s0, c0, k0, w0⟩ := opn_field hf hxs 0 _ rfl (Opn.int Try.underlying3 (by kernel_rfl))
  obtain ⟨v1, s1, c1, k1, w1⟩ := opn_field hf hxs 1 _ rfl (Opn.int Try.underlying3 (by kernel_rfl))
  obtain ⟨v2, s2, c2, k2, w2⟩ := opn_field hf hxs 2 _ rfl (Opn.int Try.underlying3 (by kernel_rfl))
  obtain ⟨v3, s3, c3, k3, w3⟩ := opn_field hf hxs 3 _ rfl (Opn.int Try.underlying3 (by kernel_rfl))
  obtain ⟨v4, s4, c4, k4, w4⟩ := opn_field hf hxs 4 _ rfl (Opn.int Try.underlying3 (by kernel_rfl))
  obtain ⟨v5, s5, c5, k5, w5⟩ := opn_field hf hxs 5 _ rfl (Opn.int Try.underlying3 (by kernel_rfl))
  obtain ⟨v6, s6, c6, k6, w6⟩ := opn_field hf hxs 6 _ rfl (Opn.int Try.underlying72 (by kernel_rfl))
  exact ⟨⟨v0, v1, v2, v3, v4, v5, v6⟩, svL [], (pieces_eq [1, 1, 1, 1, 1, 1, 1] hlen (by kernel_rfl)).trans (app2 c0 (app2 c1 (app2 c2 (app2 c3 (app2 c4 (app2 c5 (app2 c6 rfl))))))), trivial, ⟨w0, w1, w2, w3, w4, w5, w6⟩⟩
def wf_Window (x : Window) : Prop := (InK .i64) x.Part ∧ (InK .i64) x.Start ∧ (InK .i64) x.Len
theorem op_Window : Opn Try.prog 88 kd_Window wf_Window := by
  refine ⟨by kernel_rfl, fun h => ?_⟩
  obtain ⟨xs, m, _, _, hlen, hxs, hf⟩ := DataW.trod_struct Try.underlying88 h
  obtain ⟨v0, s0, c0, k0, w0⟩ := opn_field hf hxs 0 _ rfl (Opn.int Try.underlying3 (by kernel_rfl))
  obtain ⟨v1, s1, c1, k1, w1⟩ := opn_field hf hxs 1 _ rfl (Opn.int Try.underlying3 (by kernel_rfl))
  obtain ⟨v2, s2, c2, k2, w2⟩ := opn_field hf hxs 2 _ rfl (Opn.int Try.underlying3 (by kernel_rfl))
  exact ⟨⟨v0, v1, v2⟩, svL [], (pieces_eq [1, 1, 1] hlen (by kernel_rfl)).trans (app2 c0 (app2 c1 (app2 c2 rfl))), trivial, ⟨w0, w1, w2⟩⟩
def wf_Frame (x : Frame) : Prop := (InK .i64) x.Length ∧ (fun xs => xs.length ≤ maxLen ∧ ∀ x ∈ xs, wf_Window x) x.Windows
theorem op_Frame : Opn Try.prog 26 kd_Frame wf_Frame := by
  refine ⟨by kernel_rfl, fun h => ?_⟩
  obtain ⟨xs, m, _, _, hlen, hxs, hf⟩ := DataW.trod_struct Try.underlying26 h
  obtain ⟨v0, s0, c0, k0, w0⟩ := opn_field hf hxs 0 _ rfl (Opn.int Try.underlying3 (by kernel_rfl))
  obtain ⟨v1, s1, c1, k1, w1⟩ := opn_field hf hxs 1 _ rfl (Opn.slice op_Window Try.underlying24 (by kernel_rfl))
  exact ⟨⟨v0, v1⟩, svL [s1 0], (pieces_eq [1, 1] hlen (by kernel_rfl)).trans (app2 c0 (app2 c1 rfl)), ⟨k1, trivial⟩, ⟨w0, w1⟩⟩
def wf_St27 (x : St27) : Prop := wf_Frame x.e0 ∧ wf_Frame x.e1
theorem op_St27 : Opn Try.prog 27 kd_St27 wf_St27 := by
  refine ⟨by kernel_rfl, fun h => ?_⟩
  obtain ⟨xs, m, _, _, hlen, hxs, hf⟩ := DataW.trod_array Try.underlying27 h
  obtain ⟨v0, s0, c0, k0, w0⟩ := opn_elem hf hxs 0 (by decide) op_Frame
  obtain ⟨v1, s1, c1, k1, w1⟩ := opn_elem hf hxs 1 (by decide) op_Frame
  exact ⟨⟨v0, v1⟩, svL [s0 0, s1 0], (pieces_eq [2, 2] hlen (by kernel_rfl)).trans (app2 c0 (app2 c1 rfl)), ⟨k0.1, k1.1, trivial⟩, ⟨w0, w1⟩⟩
def wf_Config (x : Config) : Prop := (fun xs => xs.length ≤ maxLen ∧ ∀ x ∈ xs, wf_Part x) x.Parts ∧ (fun xs => xs.length ≤ maxLen ∧ ∀ x ∈ xs, wf_Chan x) x.Chans ∧ wf_St27 x.Frames
theorem op_Config : Opn Try.prog 29 kd_Config wf_Config := by
  refine ⟨by kernel_rfl, fun h => ?_⟩
  obtain ⟨xs, m, _, _, hlen, hxs, hf⟩ := DataW.trod_struct Try.underlying29 h
  obtain ⟨v0, s0, c0, k0, w0⟩ := opn_field hf hxs 0 _ rfl (Opn.slice op_Part Try.underlying22 (by kernel_rfl))
  obtain ⟨v1, s1, c1, k1, w1⟩ := opn_field hf hxs 1 _ rfl (Opn.slice op_Chan Try.underlying23 (by kernel_rfl))
  obtain ⟨v2, s2, c2, k2, w2⟩ := opn_field hf hxs 2 _ rfl op_St27
  exact ⟨⟨v0, v1, v2⟩, svL [s0 0, s1 0, s2 0, s2 1], (pieces_eq [1, 1, 4] hlen (by kernel_rfl)).trans (app2 c0 (app2 c1 (app2 c2 rfl))), ⟨k0, k1, k2.1, k2.2.1, trivial⟩, ⟨w0, w1, w2⟩⟩
def wf_Request (x : Request) : Prop := (InK .i64) x.Op ∧ (InK .i64) x.Port ∧ (InK .u64) x.Addr ∧ (fun xs => xs.length ≤ maxLen ∧ ∀ x ∈ xs, (InK .u32) x) x.Data
theorem op_Request : Opn Try.prog 49 kd_Request wf_Request := by
  refine ⟨by kernel_rfl, fun h => ?_⟩
  obtain ⟨xs, m, _, _, hlen, hxs, hf⟩ := DataW.trod_struct Try.underlying49 h
  obtain ⟨v0, s0, c0, k0, w0⟩ := opn_field hf hxs 0 _ rfl (Opn.int Try.underlying3 (by kernel_rfl))
  obtain ⟨v1, s1, c1, k1, w1⟩ := opn_field hf hxs 1 _ rfl (Opn.int Try.underlying3 (by kernel_rfl))
  obtain ⟨v2, s2, c2, k2, w2⟩ := opn_field hf hxs 2 _ rfl (Opn.int Try.underlying46 (by kernel_rfl))
  obtain ⟨v3, s3, c3, k3, w3⟩ := opn_field hf hxs 3 _ rfl (Opn.slice (Opn.int Try.underlying72 (by kernel_rfl)) Try.underlying47 (by kernel_rfl))
  exact ⟨⟨v0, v1, v2, v3⟩, svL [s3 0], (pieces_eq [1, 1, 1, 1] hlen (by kernel_rfl)).trans (app2 c0 (app2 c1 (app2 c2 (app2 c3 rfl)))), ⟨k3, trivial⟩, ⟨w0, w1, w2, w3⟩⟩
def wf_Answer (x : Answer) : Prop := (InK .i64) x.Code ∧ (fun xs => xs.length ≤ maxLen ∧ ∀ x ∈ xs, (InK .u32) x) x.Data ∧ (fun _ => True) x.Valid ∧ (InK .i64) x.Count
theorem op_Answer : Opn Try.prog 52 kd_Answer wf_Answer := by
  refine ⟨by kernel_rfl, fun h => ?_⟩
  obtain ⟨xs, m, _, _, hlen, hxs, hf⟩ := DataW.trod_struct Try.underlying52 h
  obtain ⟨v0, s0, c0, k0, w0⟩ := opn_field hf hxs 0 _ rfl (Opn.int Try.underlying50 (by kernel_rfl))
  obtain ⟨v1, s1, c1, k1, w1⟩ := opn_field hf hxs 1 _ rfl (Opn.slice (Opn.int Try.underlying72 (by kernel_rfl)) Try.underlying47 (by kernel_rfl))
  obtain ⟨v2, s2, c2, k2, w2⟩ := opn_field hf hxs 2 _ rfl (Opn.bool Try.underlying4 (by kernel_rfl))
  obtain ⟨v3, s3, c3, k3, w3⟩ := opn_field hf hxs 3 _ rfl (Opn.int Try.underlying3 (by kernel_rfl))
  exact ⟨⟨v0, v1, v2, v3⟩, svL [s1 0], (pieces_eq [1, 1, 1, 1] hlen (by kernel_rfl)).trans (app2 c0 (app2 c1 (app2 c2 (app2 c3 rfl)))), ⟨k1, trivial⟩, ⟨w0, w1, w2, w3⟩⟩
def wf_Call (x : Call) : Prop := (InK .i64) x.Part ∧ wf_Request x.Req ∧ wf_Answer x.Ans ∧ (fun _ => True) x.Done ∧ (InK .i64) x.From ∧ (InK .i64) x.To ∧ (InK .i64) x.T0 ∧ (InK .i64) x.T1 ∧ (InK .i64) x.Own0 ∧ (InK .i64) x.Own1 ∧ (InK .i64) x.Mark ∧ (InK .i64) x.Ring ∧ (InK .i64) x.Stamp ∧ (InK .i64) x.Saw
theorem op_Call : Opn Try.prog 58 kd_Call wf_Call := by
  refine ⟨by kernel_rfl, fun h => ?_⟩
  obtain ⟨xs, m, _, _, hlen, hxs, hf⟩ := DataW.trod_struct Try.underlying58 h
  obtain ⟨v0, s0, c0, k0, w0⟩ := opn_field hf hxs 0 _ rfl (Opn.int Try.underlying3 (by kernel_rfl))
  obtain ⟨v1, s1, c1, k1, w1⟩ := opn_field hf hxs 1 _ rfl op_Request
  obtain ⟨v2, s2, c2, k2, w2⟩ := opn_field hf hxs 2 _ rfl op_Answer
  obtain ⟨v3, s3, c3, k3, w3⟩ := opn_field hf hxs 3 _ rfl (Opn.bool Try.underlying4 (by kernel_rfl))
  obtain ⟨v4, s4, c4, k4, w4⟩ := opn_field hf hxs 4 _ rfl (Opn.int Try.underlying3 (by kernel_rfl))
  obtain ⟨v5, s5, c5, k5, w5⟩ := opn_field hf hxs 5 _ rfl (Opn.int Try.underlying3 (by kernel_rfl))
  obtain ⟨v6, s6, c6, k6, w6⟩ := opn_field hf hxs 6 _ rfl (Opn.int Try.underlying3 (by kernel_rfl))
  obtain ⟨v7, s7, c7, k7, w7⟩ := opn_field hf hxs 7 _ rfl (Opn.int Try.underlying3 (by kernel_rfl))
  obtain ⟨v8, s8, c8, k8, w8⟩ := opn_field hf hxs 8 _ rfl (Opn.int Try.underlying3 (by kernel_rfl))
  obtain ⟨v9, s9, c9, k9, w9⟩ := opn_field hf hxs 9 _ rfl (Opn.int Try.underlying3 (by kernel_rfl))
  obtain ⟨v10, s10, c10, k10, w10⟩ := opn_field hf hxs 10 _ rfl (Opn.int Try.underlying3 (by kernel_rfl))
  obtain ⟨v11, s11, c11, k11, w11⟩ := opn_field hf hxs 11 _ rfl (Opn.int Try.underlying3 (by kernel_rfl))
  obtain ⟨v12, s12, c12, k12, w12⟩ := opn_field hf hxs 12 _ rfl (Opn.int Try.underlying3 (by kernel_rfl))
  obtain ⟨v13, s13, c13, k13, w13⟩ := opn_field hf hxs 13 _ rfl (Opn.int Try.underlying3 (by kernel_rfl))
  exact ⟨⟨v0, v1, v2, v3, v4, v5, v6, v7, v8, v9, v10, v11, v12, v13⟩, svL [s1 0, s2 0], (pieces_eq [1, 4, 4, 1, 1, 1, 1, 1, 1, 1, 1, 1, 1, 1] hlen (by kernel_rfl)).trans (app2 c0 (app2 c1 (app2 c2 (app2 c3 (app2 c4 (app2 c5 (app2 c6 (app2 c7 (app2 c8 (app2 c9 (app2 c10 (app2 c11 (app2 c12 (app2 c13 rfl)))))))))))))), ⟨k1.1, k2.1, trivial⟩, ⟨w0, w1, w2, w3, w4, w5, w6, w7, w8, w9, w10, w11, w12, w13⟩⟩


/-! ### porthole/bound.in$1: function 75 -/
noncomputable def G_bound_in_1 (x0 : Config) (x1 : Request) (x2 : Answer) (y3 : Int) : Option (Int) := some (IntKind.i64.wrap (y3 + (x1.Data.length : Int)))
set_option maxRecDepth 100000 in
set_option maxHeartbeats 4000000 in
theorem G_bound_in_1.calls (x0 : Config) (x1 : Request) (x2 : Answer) (y3 : Int) (sv0 : SV) (sv1 : SV) (sv2 : SV) (B3 : Addr) (sv3 : SV) (w : World) {S : Nat → Prop} (hx0 : (kd_Config).cont S w x0 sv0) (hx1 : (kd_Request).cont S w x1 sv1) (hx2 : (kd_Answer).cont S w x2 sv2) (hB3 : El (Kd.int .i64) S w B3 y3 sv3) (r : Int) (h : G_bound_in_1 x0 x1 x2 y3 = some r) :
    Calls Try.prog 75 #[.agg ((kd_Config).cells x0 sv0).toArray, .agg ((kd_Request).cells x1 sv1).toArray, .agg ((kd_Answer).cells x2 sv2).toArray, .pointer (some B3)] w fun e w' => e = .returned (.int .i64 r) ∧ Below w.heap.size w w' := by
  replace hx0 := Kd.lo _ hx0
  replace hx1 := Kd.lo _ hx1
  replace hx2 := Kd.lo _ hx2
  replace hB3 := El.lo hB3
  unfold G_bound_in_1 at h
  have H0 := h
  clear h
  refine enter Try.func75 rfl [.agg ((kd_Config).cells x0 sv0).toArray, .agg ((kd_Request).cells x1 sv1).toArray, .agg ((kd_Answer).cells x2 sv2).toArray, .pointer (some B3)] (n := 13) rfl (Nat.le_of_ble_eq_true rfl) (fun a hI => ?_)
  have hF : FOpen Fence.wide := .inl rfl
  have hE := Ep.start w
  refine seq_region (live := [7, 5, 0, 1, 2, 3]) (orc := []) hF hI ⟨[⟨7, [], .v (.int .i64 0)⟩, ⟨5, [], .p 1 0⟩, ⟨0, [], .v (.agg ((kd_Config).cells x0 sv0).toArray)⟩, ⟨1, [], .v (.agg ((kd_Request).cells x1 sv1).toArray)⟩, ⟨2, [], .v (.agg ((kd_Answer).cells x2 sv2).toArray)⟩, ⟨3, [], .v (.pointer (some B3))⟩], [], [], [((((kd_Config).cells x0 sv0).map EV.v), 29), ((((kd_Request).cells x1 sv1).map EV.v), 49), ((((kd_Answer).cells x2 sv2).map EV.v), 52)], none, none⟩ [] (by kernel_rfl) trivial (fun ns_1 a w_2 hI _ => ?_)
  refine seq_region (live := [7, 5, 0, 1, 2, 3]) (orc := [[.int .i64 y3]]) hF hI ⟨[⟨7, [], .v (.int .i64 (IntKind.i64.wrap (y3 + (x1.Data.length : Int))))⟩, ⟨5, [], .p 1 0⟩, ⟨0, [], .v (.agg ((kd_Config).cells x0 sv0).toArray)⟩, ⟨1, [], .v (.agg ((kd_Request).cells x1 sv1).toArray)⟩, ⟨2, [], .v (.agg ((kd_Answer).cells x2 sv2).toArray)⟩, ⟨3, [], .v (.pointer (some B3))⟩], [], [], [((((kd_Config).cells x0 sv0).map EV.v), 29), ((((kd_Request).cells x1 sv1).map EV.v), 49), ((((kd_Answer).cells x2 sv2).map EV.v), 52)], none, none⟩ [.cell true B3 [.int .i64 y3]] (by kernel_rfl) ⟨ob_el (fun _ => hB3) 0 [.int .i64 y3] rfl, trivial⟩ (fun ns_3 a w_4 hI _ => ?_)
  refine wpIn_ret ?_
  obtain rfl := Option.some.inj H0
  exact ret1 hI rfl rfl ⟨rfl, hE.below hI⟩

/-! ### porthole/bound.in: function 58 -/
noncomputable def G_bound_in (a0 : Int) : Option (Int) := some a0
set_option maxRecDepth 100000 in
set_option maxHeartbeats 4000000 in
theorem G_bound_in.calls (a0 : Int)  (w : World) {S : Nat → Prop}  (r : Int) (h : G_bound_in a0 = some r) :
    Calls Try.prog 58 #[.int .i64 a0] w fun e w' => ∃ sv : SV, e = .returned (.func (.func 75) #[] #[.pointer (some (adr (sv 0).1))]) ∧ Below w.heap.size w w' ∧ El (Kd.int .i64) (fun b => w.heap.size ≤ b ∨ S b) w' (adr (sv 0).1) r (svO sv 1) := by
  unfold G_bound_in at h
  have H0 := h
  clear h
  refine enter Try.func58 rfl [.int .i64 a0] (n := 4) rfl (Nat.le_of_ble_eq_true rfl) (fun a hI => ?_)
  have hF : FOpen Fence.wide := .inl rfl
  have hE := Ep.start w
  refine seq_region (live := [2, 1, 0]) (orc := []) hF hI ⟨[⟨2, [], .v (.nilFunc)⟩, ⟨1, [], .p 0 0⟩, ⟨0, [], .v (.int .i64 a0)⟩], [], [], [([.v (.int .i64 a0)], 3)], none, none⟩ [] (by kernel_rfl) trivial (fun ns_1 a w_2 hI _ => ?_)
  refine wpIn_seq ?_
  refine wpIn_region_lit ?_
  obtain ⟨hE', hmv, hmr⟩ := Ep.rebase (S0 := S) hE hI
  replace hE := hE'
  replace hI := hI.rebase
  clear hE' hmv hmr
  have hct := contI (S := Lo S w w_2 ns_1 []) (w := w_2) (d := (Kd.int .i64)) (x := a0) (sv := (svL [])) trivial
  obtain ⟨B_3, ns_5, hE', hI', hmv, hB_4⟩ := freeze_ (S0 := S) (d := (Kd.int .i64)) hE hI 0 a0 (svL []) 3 rfl
  replace hB_4 := hB_4 hct
  clear hct
  have hmr : ∀ b : Nat, some b ∈ ([] : List (Option Nat)) → w_2.heap[b]? = w_2.heap[b]? := fun _ _ => rfl
  replace hE := hE'
  replace hI := hI'
  clear hE' hI' hmv hmr
  obtain ⟨ns_6, hE', hI', hmv⟩ := hE.cut (S0 := S) hI [2, 1, 0] 0 ⟨[⟨2, [], .v (.nilFunc)⟩, ⟨1, [], .v (.pointer (some B_3))⟩, ⟨0, [], .v (.int .i64 a0)⟩], [], [], [], none, none⟩ (by kernel_rfl)
  have hmr : ∀ b : Nat, some b ∈ ([] : List (Option Nat)) → w_2.heap[b]? = w_2.heap[b]? := fun _ _ => rfl
  replace hB_4 := El.keep hB_4 hmv
  replace hE := hE'
  replace hI := hI'
  clear hE' hI' hmv hmr
  refine chunkL_ (live := [3, 2, 1, 0]) (orc := []) hF 1 hI ⟨[⟨3, [], .v (.func (.func 75) #[] #[.pointer (some B_3)])⟩, ⟨2, [], .v (.nilFunc)⟩, ⟨1, [], .v (.pointer (some B_3))⟩, ⟨0, [], .v (.int .i64 a0)⟩], [], [], [], none, none⟩ [] rfl (by kernel_rfl) trivial (fun ns_7 a w_8 hI => ?_)
  refine chunkL_ (live := [2, 1, 0]) (orc := []) hF 1 hI ⟨[⟨2, [], .v (.func (.func 75) #[] #[.pointer (some B_3)])⟩, ⟨1, [], .v (.pointer (some B_3))⟩, ⟨0, [], .v (.int .i64 a0)⟩], [], [], [], none, none⟩ [] rfl (by kernel_rfl) trivial (fun ns_9 a w_10 hI => ?_)
  refine wpListIn_nil ?_
  refine then_normal ?_
  refine wpIn_ret ?_
  obtain rfl := Option.some.inj H0
  exact ret1 hI rfl rfl ⟨svL [(some B_3, 0)], rfl, hE.below hI, ⟨(El.keep hB_4 (hE.out hI)).cont, (El.keep hB_4 (hE.out hI)).at_, (El.keep hB_4 (hE.out hI)).cells⟩⟩

/-! ### porthole/bound.out$1: function 76 -/
noncomputable def G_bound_out_1 (x0 : Config) (x1 : Request) (x2 : Answer) (y3 : Int) : Option (Int) := some (IntKind.i64.wrap (y3 + (x2.Data.length : Int)))
set_option maxRecDepth 100000 in
set_option maxHeartbeats 4000000 in
theorem G_bound_out_1.calls (x0 : Config) (x1 : Request) (x2 : Answer) (y3 : Int) (sv0 : SV) (sv1 : SV) (sv2 : SV) (B3 : Addr) (sv3 : SV) (w : World) {S : Nat → Prop} (hx0 : (kd_Config).cont S w x0 sv0) (hx1 : (kd_Request).cont S w x1 sv1) (hx2 : (kd_Answer).cont S w x2 sv2) (hB3 : El (Kd.int .i64) S w B3 y3 sv3) (r : Int) (h : G_bound_out_1 x0 x1 x2 y3 = some r) :
    Calls Try.prog 76 #[.agg ((kd_Config).cells x0 sv0).toArray, .agg ((kd_Request).cells x1 sv1).toArray, .agg ((kd_Answer).cells x2 sv2).toArray, .pointer (some B3)] w fun e w' => e = .returned (.int .i64 r) ∧ Below w.heap.size w w' := by
  replace hx0 := Kd.lo _ hx0
  replace hx1 := Kd.lo _ hx1
  replace hx2 := Kd.lo _ hx2
  replace hB3 := El.lo hB3
  unfold G_bound_out_1 at h
  have H0 := h
  clear h
  refine enter Try.func76 rfl [.agg ((kd_Config).cells x0 sv0).toArray, .agg ((kd_Request).cells x1 sv1).toArray, .agg ((kd_Answer).cells x2 sv2).toArray, .pointer (some B3)] (n := 13) rfl (Nat.le_of_ble_eq_true rfl) (fun a hI => ?_)
  have hF : FOpen Fence.wide := .inl rfl
  have hE := Ep.start w
  refine seq_region (live := [7, 6, 0, 1, 2, 3]) (orc := []) hF hI ⟨[⟨7, [], .v (.int .i64 0)⟩, ⟨6, [], .p 2 0⟩, ⟨0, [], .v (.agg ((kd_Config).cells x0 sv0).toArray)⟩, ⟨1, [], .v (.agg ((kd_Request).cells x1 sv1).toArray)⟩, ⟨2, [], .v (.agg ((kd_Answer).cells x2 sv2).toArray)⟩, ⟨3, [], .v (.pointer (some B3))⟩], [], [], [((((kd_Config).cells x0 sv0).map EV.v), 29), ((((kd_Request).cells x1 sv1).map EV.v), 49), ((((kd_Answer).cells x2 sv2).map EV.v), 52)], none, none⟩ [] (by kernel_rfl) trivial (fun ns_1 a w_2 hI _ => ?_)
  refine seq_region (live := [7, 6, 0, 1, 2, 3]) (orc := [[.int .i64 y3]]) hF hI ⟨[⟨7, [], .v (.int .i64 (IntKind.i64.wrap (y3 + (x2.Data.length : Int))))⟩, ⟨6, [], .p 2 0⟩, ⟨0, [], .v (.agg ((kd_Config).cells x0 sv0).toArray)⟩, ⟨1, [], .v (.agg ((kd_Request).cells x1 sv1).toArray)⟩, ⟨2, [], .v (.agg ((kd_Answer).cells x2 sv2).toArray)⟩, ⟨3, [], .v (.pointer (some B3))⟩], [], [], [((((kd_Config).cells x0 sv0).map EV.v), 29), ((((kd_Request).cells x1 sv1).map EV.v), 49), ((((kd_Answer).cells x2 sv2).map EV.v), 52)], none, none⟩ [.cell true B3 [.int .i64 y3]] (by kernel_rfl) ⟨ob_el (fun _ => hB3) 0 [.int .i64 y3] rfl, trivial⟩ (fun ns_3 a w_4 hI _ => ?_)
  refine wpIn_ret ?_
  obtain rfl := Option.some.inj H0
  exact ret1 hI rfl rfl ⟨rfl, hE.below hI⟩

/-! ### porthole/bound.out: function 59 -/
noncomputable def G_bound_out (a0 : Int) : Option (Int) := some a0
set_option maxRecDepth 100000 in
set_option maxHeartbeats 4000000 in
theorem G_bound_out.calls (a0 : Int)  (w : World) {S : Nat → Prop}  (r : Int) (h : G_bound_out a0 = some r) :
    Calls Try.prog 59 #[.int .i64 a0] w fun e w' => ∃ sv : SV, e = .returned (.func (.func 76) #[] #[.pointer (some (adr (sv 0).1))]) ∧ Below w.heap.size w w' ∧ El (Kd.int .i64) (fun b => w.heap.size ≤ b ∨ S b) w' (adr (sv 0).1) r (svO sv 1) := by
  unfold G_bound_out at h
  have H0 := h
  clear h
  refine enter Try.func59 rfl [.int .i64 a0] (n := 4) rfl (Nat.le_of_ble_eq_true rfl) (fun a hI => ?_)
  have hF : FOpen Fence.wide := .inl rfl
  have hE := Ep.start w
  refine seq_region (live := [2, 1, 0]) (orc := []) hF hI ⟨[⟨2, [], .v (.nilFunc)⟩, ⟨1, [], .p 0 0⟩, ⟨0, [], .v (.int .i64 a0)⟩], [], [], [([.v (.int .i64 a0)], 3)], none, none⟩ [] (by kernel_rfl) trivial (fun ns_1 a w_2 hI _ => ?_)
  refine wpIn_seq ?_
  refine wpIn_region_lit ?_
  obtain ⟨hE', hmv, hmr⟩ := Ep.rebase (S0 := S) hE hI
  replace hE := hE'
  replace hI := hI.rebase
  clear hE' hmv hmr
  have hct := contI (S := Lo S w w_2 ns_1 []) (w := w_2) (d := (Kd.int .i64)) (x := a0) (sv := (svL [])) trivial
  obtain ⟨B_3, ns_5, hE', hI', hmv, hB_4⟩ := freeze_ (S0 := S) (d := (Kd.int .i64)) hE hI 0 a0 (svL []) 3 rfl
  replace hB_4 := hB_4 hct
  clear hct
  have hmr : ∀ b : Nat, some b ∈ ([] : List (Option Nat)) → w_2.heap[b]? = w_2.heap[b]? := fun _ _ => rfl
  replace hE := hE'
  replace hI := hI'
  clear hE' hI' hmv hmr
  obtain ⟨ns_6, hE', hI', hmv⟩ := hE.cut (S0 := S) hI [2, 1, 0] 0 ⟨[⟨2, [], .v (.nilFunc)⟩, ⟨1, [], .v (.pointer (some B_3))⟩, ⟨0, [], .v (.int .i64 a0)⟩], [], [], [], none, none⟩ (by kernel_rfl)
  have hmr : ∀ b : Nat, some b ∈ ([] : List (Option Nat)) → w_2.heap[b]? = w_2.heap[b]? := fun _ _ => rfl
  replace hB_4 := El.keep hB_4 hmv
  replace hE := hE'
  replace hI := hI'
  clear hE' hI' hmv hmr
  refine chunkL_ (live := [3, 2, 1, 0]) (orc := []) hF 1 hI ⟨[⟨3, [], .v (.func (.func 76) #[] #[.pointer (some B_3)])⟩, ⟨2, [], .v (.nilFunc)⟩, ⟨1, [], .v (.pointer (some B_3))⟩, ⟨0, [], .v (.int .i64 a0)⟩], [], [], [], none, none⟩ [] rfl (by kernel_rfl) trivial (fun ns_7 a w_8 hI => ?_)
  refine chunkL_ (live := [2, 1, 0]) (orc := []) hF 1 hI ⟨[⟨2, [], .v (.func (.func 76) #[] #[.pointer (some B_3)])⟩, ⟨1, [], .v (.pointer (some B_3))⟩, ⟨0, [], .v (.int .i64 a0)⟩], [], [], [], none, none⟩ [] rfl (by kernel_rfl) trivial (fun ns_9 a w_10 hI => ?_)
  refine wpListIn_nil ?_
  refine then_normal ?_
  refine wpIn_ret ?_
  obtain rfl := Option.some.inj H0
  exact ret1 hI rfl rfl ⟨svL [(some B_3, 0)], rfl, hE.below hI, ⟨(El.keep hB_4 (hE.out hI)).cont, (El.keep hB_4 (hE.out hI)).at_, (El.keep hB_4 (hE.out hI)).cells⟩⟩

/-! ### porthole/bound.some$1: function 77 -/
noncomputable def G_bound_some_1 (x0 : Config) (x1 : Request) (x2 : Answer) (y3 : Int) : Option (Int) := some y3
set_option maxRecDepth 100000 in
set_option maxHeartbeats 4000000 in
theorem G_bound_some_1.calls (x0 : Config) (x1 : Request) (x2 : Answer) (y3 : Int) (sv0 : SV) (sv1 : SV) (sv2 : SV) (B3 : Addr) (sv3 : SV) (w : World) {S : Nat → Prop} (hx0 : (kd_Config).cont S w x0 sv0) (hx1 : (kd_Request).cont S w x1 sv1) (hx2 : (kd_Answer).cont S w x2 sv2) (hB3 : El (Kd.int .i64) S w B3 y3 sv3) (r : Int) (h : G_bound_some_1 x0 x1 x2 y3 = some r) :
    Calls Try.prog 77 #[.agg ((kd_Config).cells x0 sv0).toArray, .agg ((kd_Request).cells x1 sv1).toArray, .agg ((kd_Answer).cells x2 sv2).toArray, .pointer (some B3)] w fun e w' => e = .returned (.int .i64 r) ∧ Below w.heap.size w w' := by
  replace hx0 := Kd.lo _ hx0
  replace hx1 := Kd.lo _ hx1
  replace hx2 := Kd.lo _ hx2
  replace hB3 := El.lo hB3
  unfold G_bound_some_1 at h
  have H0 := h
  clear h
  refine enter Try.func77 rfl [.agg ((kd_Config).cells x0 sv0).toArray, .agg ((kd_Request).cells x1 sv1).toArray, .agg ((kd_Answer).cells x2 sv2).toArray, .pointer (some B3)] (n := 9) rfl (Nat.le_of_ble_eq_true rfl) (fun a hI => ?_)
  have hF : FOpen Fence.wide := .inl rfl
  have hE := Ep.start w
  refine seq_region (live := [7, 0, 1, 2, 3]) (orc := []) hF hI ⟨[⟨7, [], .v (.int .i64 0)⟩, ⟨0, [], .v (.agg ((kd_Config).cells x0 sv0).toArray)⟩, ⟨1, [], .v (.agg ((kd_Request).cells x1 sv1).toArray)⟩, ⟨2, [], .v (.agg ((kd_Answer).cells x2 sv2).toArray)⟩, ⟨3, [], .v (.pointer (some B3))⟩], [], [], [((((kd_Config).cells x0 sv0).map EV.v), 29), ((((kd_Request).cells x1 sv1).map EV.v), 49), ((((kd_Answer).cells x2 sv2).map EV.v), 52)], none, none⟩ [] (by kernel_rfl) trivial (fun ns_1 a w_2 hI _ => ?_)
  refine seq_region (live := [7, 0, 1, 2, 3]) (orc := [[.int .i64 y3]]) hF hI ⟨[⟨7, [], .v (.int .i64 y3)⟩, ⟨0, [], .v (.agg ((kd_Config).cells x0 sv0).toArray)⟩, ⟨1, [], .v (.agg ((kd_Request).cells x1 sv1).toArray)⟩, ⟨2, [], .v (.agg ((kd_Answer).cells x2 sv2).toArray)⟩, ⟨3, [], .v (.pointer (some B3))⟩], [], [], [((((kd_Config).cells x0 sv0).map EV.v), 29), ((((kd_Request).cells x1 sv1).map EV.v), 49), ((((kd_Answer).cells x2 sv2).map EV.v), 52)], none, none⟩ [.cell true B3 [.int .i64 y3]] (by kernel_rfl) ⟨ob_el (fun _ => hB3) 0 [.int .i64 y3] rfl, trivial⟩ (fun ns_3 a w_4 hI _ => ?_)
  refine wpIn_ret ?_
  obtain rfl := Option.some.inj H0
  exact ret1 hI rfl rfl ⟨rfl, hE.below hI⟩

/-! ### porthole/bound.some: function 60 -/
noncomputable def G_bound_some (a0 : Int) : Option (Int) := some a0
set_option maxRecDepth 100000 in
set_option maxHeartbeats 4000000 in
theorem G_bound_some.calls (a0 : Int)  (w : World) {S : Nat → Prop}  (r : Int) (h : G_bound_some a0 = some r) :
    Calls Try.prog 60 #[.int .i64 a0] w fun e w' => ∃ sv : SV, e = .returned (.func (.func 77) #[] #[.pointer (some (adr (sv 0).1))]) ∧ Below w.heap.size w w' ∧ El (Kd.int .i64) (fun b => w.heap.size ≤ b ∨ S b) w' (adr (sv 0).1) r (svO sv 1) := by
  unfold G_bound_some at h
  have H0 := h
  clear h
  refine enter Try.func60 rfl [.int .i64 a0] (n := 4) rfl (Nat.le_of_ble_eq_true rfl) (fun a hI => ?_)
  have hF : FOpen Fence.wide := .inl rfl
  have hE := Ep.start w
  refine seq_region (live := [2, 1, 0]) (orc := []) hF hI ⟨[⟨2, [], .v (.nilFunc)⟩, ⟨1, [], .p 0 0⟩, ⟨0, [], .v (.int .i64 a0)⟩], [], [], [([.v (.int .i64 a0)], 3)], none, none⟩ [] (by kernel_rfl) trivial (fun ns_1 a w_2 hI _ => ?_)
  refine wpIn_seq ?_
  refine wpIn_region_lit ?_
  obtain ⟨hE', hmv, hmr⟩ := Ep.rebase (S0 := S) hE hI
  replace hE := hE'
  replace hI := hI.rebase
  clear hE' hmv hmr
  have hct := contI (S := Lo S w w_2 ns_1 []) (w := w_2) (d := (Kd.int .i64)) (x := a0) (sv := (svL [])) trivial
  obtain ⟨B_3, ns_5, hE', hI', hmv, hB_4⟩ := freeze_ (S0 := S) (d := (Kd.int .i64)) hE hI 0 a0 (svL []) 3 rfl
  replace hB_4 := hB_4 hct
  clear hct
  have hmr : ∀ b : Nat, some b ∈ ([] : List (Option Nat)) → w_2.heap[b]? = w_2.heap[b]? := fun _ _ => rfl
  replace hE := hE'
  replace hI := hI'
  clear hE' hI' hmv hmr
  obtain ⟨ns_6, hE', hI', hmv⟩ := hE.cut (S0 := S) hI [2, 1, 0] 0 ⟨[⟨2, [], .v (.nilFunc)⟩, ⟨1, [], .v (.pointer (some B_3))⟩, ⟨0, [], .v (.int .i64 a0)⟩], [], [], [], none, none⟩ (by kernel_rfl)
  have hmr : ∀ b : Nat, some b ∈ ([] : List (Option Nat)) → w_2.heap[b]? = w_2.heap[b]? := fun _ _ => rfl
  replace hB_4 := El.keep hB_4 hmv
  replace hE := hE'
  replace hI := hI'
  clear hE' hI' hmv hmr
  refine chunkL_ (live := [3, 2, 1, 0]) (orc := []) hF 1 hI ⟨[⟨3, [], .v (.func (.func 77) #[] #[.pointer (some B_3)])⟩, ⟨2, [], .v (.nilFunc)⟩, ⟨1, [], .v (.pointer (some B_3))⟩, ⟨0, [], .v (.int .i64 a0)⟩], [], [], [], none, none⟩ [] rfl (by kernel_rfl) trivial (fun ns_7 a w_8 hI => ?_)
  refine chunkL_ (live := [2, 1, 0]) (orc := []) hF 1 hI ⟨[⟨2, [], .v (.func (.func 77) #[] #[.pointer (some B_3)])⟩, ⟨1, [], .v (.pointer (some B_3))⟩, ⟨0, [], .v (.int .i64 a0)⟩], [], [], [], none, none⟩ [] rfl (by kernel_rfl) trivial (fun ns_9 a w_10 hI => ?_)
  refine wpListIn_nil ?_
  refine then_normal ?_
  refine wpIn_ret ?_
  obtain rfl := Option.some.inj H0
  exact ret1 hI rfl rfl ⟨svL [(some B_3, 0)], rfl, hE.below hI, ⟨(El.keep hB_4 (hE.out hI)).cont, (El.keep hB_4 (hE.out hI)).at_, (El.keep hB_4 (hE.out hI)).cells⟩⟩

/-! ### porthole/bound.channel: function 47 -/
noncomputable def G_bound_channel (x0 : Config) (x1 : Request) : Option (Chan × Bool) := (bif (((decide (x1.Op < 3) || decide (x1.Op > 7)) || decide (x1.Port < 0)) || decide ((IntKind.i64.wrap (Int.tdiv x1.Port 2)) ≥ (x0.Chans.length : Int))) then some ((⟨0, 0, 0, 0, 0, 0, 0⟩ : Chan), false) else (req (inb (IntKind.i64.wrap (Int.tdiv x1.Port 2)) x0.Chans.length) (some ((rd x0.Chans (IntKind.i64.wrap (Int.tdiv x1.Port 2))), true))))
set_option maxRecDepth 100000 in
set_option maxHeartbeats 4000000 in
theorem G_bound_channel.calls (x0 : Config) (x1 : Request) (sv0 : SV) (sv1 : SV) (w : World) {S : Nat → Prop} (hx0 : (kd_Config).cont S w x0 sv0) (hx1 : (kd_Request).cont S w x1 sv1) (r : Chan × Bool) (h : G_bound_channel x0 x1 = some r) :
    Calls Try.prog 47 #[.agg ((kd_Config).cells x0 sv0).toArray, .agg ((kd_Request).cells x1 sv1).toArray] w fun e w' => e = .returned (.tuple #[.agg ((kd_Chan).cells r.1 (svL [])).toArray, .bool r.2]) ∧ Below w.heap.size w w' := by
  replace hx0 := Kd.lo _ hx0
  replace hx1 := Kd.lo _ hx1
  unfold G_bound_channel at h
  have H0 := h
  clear h
  refine enter Try.func47 rfl [.agg ((kd_Config).cells x0 sv0).toArray, .agg ((kd_Request).cells x1 sv1).toArray] (n := 36) rfl (Nat.le_of_ble_eq_true rfl) (fun a hI => ?_)
  have hF : FOpen Fence.wide := .inl rfl
  have hE := Ep.start w
  refine seq_region (live := [5, 4, 3, 2, 0, 1]) (orc := []) hF hI ⟨[⟨5, [], .v (.bool false)⟩, ⟨4, [], .p 2 0⟩, ⟨3, [], .p 1 0⟩, ⟨2, [], .p 0 0⟩, ⟨0, [], .v (.agg ((kd_Config).cells x0 sv0).toArray)⟩, ⟨1, [], .v (.agg ((kd_Request).cells x1 sv1).toArray)⟩], [], [], [((((kd_Config).cells x0 sv0).map EV.v), 29), ((((kd_Request).cells x1 sv1).map EV.v), 49), ([.v (.int .i64 0), .v (.int .i64 0), .v (.int .i64 0), .v (.int .i64 0), .v (.int .i64 0), .v (.int .i64 0), .v (.int .u32 0)], 74)], none, none⟩ [] (by kernel_rfl) trivial (fun ns_1 a w_2 hI _ => ?_)
  refine wpIn_seq ?_
  refine seq_region (live := [27, 5, 4, 3, 2, 0, 1]) (orc := []) hF hI ⟨[⟨27, [], .v (.bool (((decide (x1.Op < 3) || decide (x1.Op > 7)) || decide (x1.Port < 0)) || decide ((IntKind.i64.wrap (Int.tdiv x1.Port 2)) ≥ (x0.Chans.length : Int))))⟩, ⟨5, [], .v (.bool false)⟩, ⟨4, [], .p 2 0⟩, ⟨3, [], .p 1 0⟩, ⟨2, [], .p 0 0⟩, ⟨0, [], .v (.agg ((kd_Config).cells x0 sv0).toArray)⟩, ⟨1, [], .v (.agg ((kd_Request).cells x1 sv1).toArray)⟩], [], [], [((((kd_Config).cells x0 sv0).map EV.v), 29), ((((kd_Request).cells x1 sv1).map EV.v), 49), ([.v (.int .i64 0), .v (.int .i64 0), .v (.int .i64 0), .v (.int .i64 0), .v (.int .i64 0), .v (.int .i64 0), .v (.int .u32 0)], 74)], none, none⟩ [.need (!((decide (x1.Op < 3) || decide (x1.Op > 7)) || decide (x1.Port < 0))) (¬ (2 : Int) = 0)] (by kernel_rfl) ⟨(fun _ => by decide), trivial⟩ (fun ns_3 a w_4 hI _ => ?_)
  refine cond_ hI ((((decide (x1.Op < 3) || decide (x1.Op > 7)) || decide (x1.Port < 0)) || decide ((IntKind.i64.wrap (Int.tdiv x1.Port 2)) ≥ (x0.Chans.length : Int)))) rfl (fun hc_5 => ?_) (fun hc_5 => ?_)
  · replace H0 := bif_t hc_5 H0
    refine seq_region (live := [5, 27, 4, 3, 2, 0, 1]) (orc := []) hF hI ⟨[⟨5, [], .v (.bool false)⟩, ⟨27, [], .v (.bool (((decide (x1.Op < 3) || decide (x1.Op > 7)) || decide (x1.Port < 0)) || decide ((IntKind.i64.wrap (Int.tdiv x1.Port 2)) ≥ (x0.Chans.length : Int))))⟩, ⟨4, [], .p 2 0⟩, ⟨3, [], .p 1 0⟩, ⟨2, [], .p 0 0⟩, ⟨0, [], .v (.agg ((kd_Config).cells x0 sv0).toArray)⟩, ⟨1, [], .v (.agg ((kd_Request).cells x1 sv1).toArray)⟩], [], [], [((((kd_Config).cells x0 sv0).map EV.v), 29), ((((kd_Request).cells x1 sv1).map EV.v), 49), ([.v (.int .i64 0), .v (.int .i64 0), .v (.int .i64 0), .v (.int .i64 0), .v (.int .i64 0), .v (.int .i64 0), .v (.int .u32 0)], 74)], none, none⟩ [] (by kernel_rfl) trivial (fun ns_6 a w_7 hI _ => ?_)
    refine wpIn_ret ?_
    refine then_ret ?_
    obtain rfl := Option.some.inj H0
    exact retG hI rfl rfl ⟨rfl, hE.below hI⟩
  · replace H0 := bif_f hc_5 H0
    refine wpIn_skip ?_
    refine then_normal ?_
    obtain ⟨hN_8, H0⟩ := req_some H0
    obtain ⟨sv_9, hE_11, hA_10⟩ := Arr.elB (d := kd_Chan) hx0.2.1.1 (IntKind.i64.wrap (Int.tdiv x1.Port 2)) true (fun _ => hN_8)
    replace hE_11 := hE_11 rfl
    replace hA_10 := fun (_ : true = true) => hA_10 rfl
    refine seq_region (live := [5, 27, 4, 3, 2, 0, 1]) (orc := [(kd_Chan).cells (rd x0.Chans (IntKind.i64.wrap (Int.tdiv x1.Port 2))) sv_9]) hF hI ⟨[⟨5, [], .v (.bool true)⟩, ⟨27, [], .v (.bool (((decide (x1.Op < 3) || decide (x1.Op > 7)) || decide (x1.Port < 0)) || decide ((IntKind.i64.wrap (Int.tdiv x1.Port 2)) ≥ (x0.Chans.length : Int))))⟩, ⟨4, [], .p 2 0⟩, ⟨3, [], .p 1 0⟩, ⟨2, [], .p 0 0⟩, ⟨0, [], .v (.agg ((kd_Config).cells x0 sv0).toArray)⟩, ⟨1, [], .v (.agg ((kd_Request).cells x1 sv1).toArray)⟩], [], [], [((((kd_Config).cells x0 sv0).map EV.v), 29), ((((kd_Request).cells x1 sv1).map EV.v), 49), ((((kd_Chan).cells (rd x0.Chans (IntKind.i64.wrap (Int.tdiv x1.Port 2))) sv_9).map EV.v), 74)], none, none⟩ [.need true (¬ (2 : Int) = 0), .need true (0 ≤ (IntKind.i64.wrap (Int.tdiv x1.Port 2)) ∧ (IntKind.i64.wrap (Int.tdiv x1.Port 2)) < (x0.Chans.length : Int)), .need true ((sv0 1).1 = some (adr ((sv0 1).1))), .cell true ((adr ((sv0 1).1)).add (((IntKind.i64.wrap (Int.tdiv x1.Port 2)) : Int).toNat * 7)) ((kd_Chan).cells (rd x0.Chans (IntKind.i64.wrap (Int.tdiv x1.Port 2))) sv_9)] (by kernel_rfl) ⟨(fun _ => by decide), ob_inb (fun _ => hN_8), hA_10, ob_el (fun _ => hE_11) 0 ((kd_Chan).cells (rd x0.Chans (IntKind.i64.wrap (Int.tdiv x1.Port 2))) sv_9) rfl, trivial⟩ (fun ns_12 a w_13 hI _ => ?_)
    refine wpIn_ret ?_
    obtain rfl := Option.some.inj H0
    exact retG hI rfl rfl ⟨rfl, hE.below hI⟩

/-! ### porthole/bound.status: function 61 -/
noncomputable def G_bound_status (x0 : Config) (x1 : Request) (x2 : Answer) : Option (Int) := ((G_bound_channel x0 x1).bind fun t_3 => (bif (t_3.1.Kind == 2) then some 2 else some 1))
set_option maxRecDepth 100000 in
set_option maxHeartbeats 4000000 in
theorem G_bound_status.calls (x0 : Config) (x1 : Request) (x2 : Answer) (sv0 : SV) (sv1 : SV) (sv2 : SV) (w : World) {S : Nat → Prop} (hx0 : (kd_Config).cont S w x0 sv0) (hx1 : (kd_Request).cont S w x1 sv1) (hx2 : (kd_Answer).cont S w x2 sv2) (r : Int) (h : G_bound_status x0 x1 x2 = some r) :
    Calls Try.prog 61 #[.agg ((kd_Config).cells x0 (svL [((sv0 0).1, (sv0 0).2), ((sv0 1).1, (sv0 1).2), ((sv0 2).1, (sv0 2).2), ((sv0 3).1, (sv0 3).2)])).toArray, .agg ((kd_Request).cells x1 (svL [((sv1 0).1, (sv1 0).2)])).toArray, .agg ((kd_Answer).cells x2 sv2).toArray] w fun e w' => e = .returned (.int .i64 r) ∧ Below w.heap.size w w' := by
  replace hx0 := Kd.lo _ hx0
  replace hx1 := Kd.lo _ hx1
  replace hx2 := Kd.lo _ hx2
  unfold G_bound_status at h
  have H0 := h
  clear h
  refine enter Try.func61 rfl [.agg ((kd_Config).cells x0 (svL [((sv0 0).1, (sv0 0).2), ((sv0 1).1, (sv0 1).2), ((sv0 2).1, (sv0 2).2), ((sv0 3).1, (sv0 3).2)])).toArray, .agg ((kd_Request).cells x1 (svL [((sv1 0).1, (sv1 0).2)])).toArray, .agg ((kd_Answer).cells x2 sv2).toArray] (n := 18) rfl (Nat.le_of_ble_eq_true rfl) (fun a hI => ?_)
  have hF : FOpen Fence.wide := .inl rfl
  have hE := Ep.start w
  refine seq_region (live := [6, 4, 3, 0, 1, 2]) (orc := []) hF hI ⟨[⟨6, [], .v (.int .i64 0)⟩, ⟨4, [], .p 1 0⟩, ⟨3, [], .p 0 0⟩, ⟨0, [], .v (.agg ((kd_Config).cells x0 sv0).toArray)⟩, ⟨1, [], .v (.agg ((kd_Request).cells x1 sv1).toArray)⟩, ⟨2, [], .v (.agg ((kd_Answer).cells x2 sv2).toArray)⟩], [], [], [((((kd_Config).cells x0 sv0).map EV.v), 29), ((((kd_Request).cells x1 sv1).map EV.v), 49), ((((kd_Answer).cells x2 sv2).map EV.v), 52)], none, none⟩ [] (by kernel_rfl) trivial (fun ns_1 a w_2 hI _ => ?_)
  refine wpIn_seq ?_
  obtain ⟨t_3, hG_4, H0⟩ := bind_some H0
  refine seq_region (live := [7, 6, 4, 3, 0, 1, 2]) (orc := [[.tuple #[.agg ((kd_Chan).cells t_3.1 (svL [])).toArray, .bool t_3.2]]]) hF hI ⟨[⟨7, [], .p 3 0⟩, ⟨6, [], .v (.int .i64 0)⟩, ⟨4, [], .p 1 0⟩, ⟨3, [], .p 0 0⟩, ⟨0, [], .v (.agg ((kd_Config).cells x0 (svL [((sv0 0).1, (sv0 0).2), ((sv0 1).1, (sv0 1).2), ((sv0 2).1, (sv0 2).2), ((sv0 3).1, (sv0 3).2)])).toArray)⟩, ⟨1, [], .v (.agg ((kd_Request).cells x1 (svL [((sv1 0).1, (sv1 0).2)])).toArray)⟩, ⟨2, [], .v (.agg ((kd_Answer).cells x2 sv2).toArray)⟩], [], [], [((((kd_Config).cells x0 sv0).map EV.v), 29), ((((kd_Request).cells x1 sv1).map EV.v), 49), ((((kd_Answer).cells x2 sv2).map EV.v), 52), ((((kd_Chan).cells t_3.1 (svL [])).map EV.v), 74)], none, none⟩ [.call true 47 [.agg ((kd_Config).cells x0 (svL [((sv0 0).1, (sv0 0).2), ((sv0 1).1, (sv0 1).2), ((sv0 2).1, (sv0 2).2), ((sv0 3).1, (sv0 3).2)])).toArray, .agg ((kd_Request).cells x1 (svL [((sv1 0).1, (sv1 0).2)])).toArray] (.tuple #[.agg ((kd_Chan).cells t_3.1 (svL [])).toArray, .bool t_3.2])] (by kernel_rfl) ⟨ob_call (enters Try.func47 (by kernel_rfl) rfl) (fun hg wz hk => G_bound_channel.calls x0 x1 (svL [((sv0 0).1, (sv0 0).2), ((sv0 1).1, (sv0 1).2), ((sv0 2).1, (sv0 2).2), ((sv0 3).1, (sv0 3).2)]) (svL [((sv1 0).1, (sv1 0).2)]) wz (S := fun _ => True) (Kd.any _ (Kd.keep kd_Config (contI (S := Lo S w w [] []) (w := w) (d := kd_Config) (x := x0) (sv := (svL [((sv0 0).1, (sv0 0).2), ((sv0 1).1, (sv0 1).2), ((sv0 2).1, (sv0 2).2), ((sv0 3).1, (sv0 3).2)])) ⟨⟨hx0.1.1, hx0.1.2⟩, ⟨hx0.2.1.1, hx0.2.1.2⟩, ⟨hx0.2.2.1.1, hx0.2.2.1.2⟩, ⟨hx0.2.2.2.1.1, hx0.2.2.2.1.2⟩, trivial⟩) (Lo.on hk))) (Kd.any _ (Kd.keep kd_Request (contI (S := Lo S w w [] []) (w := w) (d := kd_Request) (x := x1) (sv := (svL [((sv1 0).1, (sv1 0).2)])) ⟨⟨hx1.1.1, hx1.1.2⟩, trivial⟩) (Lo.on hk))) _ hG_4), trivial⟩ (fun ns_5 a w_6 hI _ => ?_)
  refine seq_region (live := [17, 7, 6, 4, 3, 0, 1, 2]) (orc := []) hF hI ⟨[⟨17, [], .v (.bool (t_3.1.Kind == 2))⟩, ⟨7, [], .p 3 0⟩, ⟨6, [], .v (.int .i64 0)⟩, ⟨4, [], .p 1 0⟩, ⟨3, [], .p 0 0⟩, ⟨0, [], .v (.agg ((kd_Config).cells x0 (svL [((sv0 0).1, (sv0 0).2), ((sv0 1).1, (sv0 1).2), ((sv0 2).1, (sv0 2).2), ((sv0 3).1, (sv0 3).2)])).toArray)⟩, ⟨1, [], .v (.agg ((kd_Request).cells x1 (svL [((sv1 0).1, (sv1 0).2)])).toArray)⟩, ⟨2, [], .v (.agg ((kd_Answer).cells x2 sv2).toArray)⟩], [], [], [((((kd_Config).cells x0 sv0).map EV.v), 29), ((((kd_Request).cells x1 sv1).map EV.v), 49), ((((kd_Answer).cells x2 sv2).map EV.v), 52), ((((kd_Chan).cells t_3.1 (svL [])).map EV.v), 74)], none, none⟩ [] (by kernel_rfl) trivial (fun ns_7 a w_8 hI _ => ?_)
  refine cond_ hI ((t_3.1.Kind == 2)) rfl (fun hc_9 => ?_) (fun hc_9 => ?_)
  · replace H0 := bif_t hc_9 H0
    refine seq_region (live := [6, 17, 7, 4, 3, 0, 1, 2]) (orc := []) hF hI ⟨[⟨6, [], .v (.int .i64 2)⟩, ⟨17, [], .v (.bool (t_3.1.Kind == 2))⟩, ⟨7, [], .p 3 0⟩, ⟨4, [], .p 1 0⟩, ⟨3, [], .p 0 0⟩, ⟨0, [], .v (.agg ((kd_Config).cells x0 (svL [((sv0 0).1, (sv0 0).2), ((sv0 1).1, (sv0 1).2), ((sv0 2).1, (sv0 2).2), ((sv0 3).1, (sv0 3).2)])).toArray)⟩, ⟨1, [], .v (.agg ((kd_Request).cells x1 (svL [((sv1 0).1, (sv1 0).2)])).toArray)⟩, ⟨2, [], .v (.agg ((kd_Answer).cells x2 sv2).toArray)⟩], [], [], [((((kd_Config).cells x0 sv0).map EV.v), 29), ((((kd_Request).cells x1 sv1).map EV.v), 49), ((((kd_Answer).cells x2 sv2).map EV.v), 52), ((((kd_Chan).cells t_3.1 (svL [])).map EV.v), 74)], none, none⟩ [] (by kernel_rfl) trivial (fun ns_10 a w_11 hI _ => ?_)
    refine wpIn_ret ?_
    refine then_ret ?_
    obtain rfl := Option.some.inj H0
    exact ret1 hI rfl rfl ⟨rfl, hE.below hI⟩
  · replace H0 := bif_f hc_9 H0
    refine wpIn_skip ?_
    refine then_normal ?_
    refine seq_region (live := [6, 17, 7, 4, 3, 0, 1, 2]) (orc := []) hF hI ⟨[⟨6, [], .v (.int .i64 1)⟩, ⟨17, [], .v (.bool (t_3.1.Kind == 2))⟩, ⟨7, [], .p 3 0⟩, ⟨4, [], .p 1 0⟩, ⟨3, [], .p 0 0⟩, ⟨0, [], .v (.agg ((kd_Config).cells x0 (svL [((sv0 0).1, (sv0 0).2), ((sv0 1).1, (sv0 1).2), ((sv0 2).1, (sv0 2).2), ((sv0 3).1, (sv0 3).2)])).toArray)⟩, ⟨1, [], .v (.agg ((kd_Request).cells x1 (svL [((sv1 0).1, (sv1 0).2)])).toArray)⟩, ⟨2, [], .v (.agg ((kd_Answer).cells x2 sv2).toArray)⟩], [], [], [((((kd_Config).cells x0 sv0).map EV.v), 29), ((((kd_Request).cells x1 sv1).map EV.v), 49), ((((kd_Answer).cells x2 sv2).map EV.v), 52), ((((kd_Chan).cells t_3.1 (svL [])).map EV.v), 74)], none, none⟩ [] (by kernel_rfl) trivial (fun ns_12 a w_13 hI _ => ?_)
    refine wpIn_ret ?_
    obtain rfl := Option.some.inj H0
    exact ret1 hI rfl rfl ⟨rfl, hE.below hI⟩

/-! ### porthole/bound.rows: function 48 -/
noncomputable def G_bound_rows  : Option ((List Bound_row)) := ((G_bound_in 7).bind fun t_3 => ((G_bound_out 6).bind fun t_10 => ((G_bound_some 5).bind fun t_17 => ((G_bound_in 5).bind fun t_24 => ((G_bound_out 4).bind fun t_31 => ((G_bound_some 2).bind fun t_38 => ((G_bound_some 2).bind fun t_45 => ((G_bound_some 2).bind fun t_52 => ((G_bound_some 2).bind fun t_59 => some ([(⟨3, 0, (Fn54.f75 t_3)⟩ : Bound_row), (⟨4, 0, (Fn54.f76 t_10)⟩ : Bound_row), (⟨4, 1, (Fn54.f77 t_17)⟩ : Bound_row), (⟨5, 0, (Fn54.f75 t_24)⟩ : Bound_row), (⟨6, 0, (Fn54.f76 t_31)⟩ : Bound_row), (⟨5, 2, (Fn54.f77 t_38)⟩ : Bound_row), (⟨6, 2, (Fn54.f77 t_45)⟩ : Bound_row), (⟨7, 0, (Fn54.f61)⟩ : Bound_row), (⟨8, 0, (Fn54.f77 t_52)⟩ : Bound_row), (⟨9, 0, (Fn54.f77 t_59)⟩ : Bound_row)] : List Bound_row))))))))))
set_option maxRecDepth 100000 in
set_option maxHeartbeats 4000000 in
theorem G_bound_rows.calls   (w : World) {S : Nat → Prop}  (r : (List Bound_row)) (h : G_bound_rows = some r) :
    Calls Try.prog 48 #[] w fun e w' => ∃ sv : SV, e = .returned (.slice ((sv 0).1) r.length ((sv 0).2)) ∧ Below w.heap.size w w' ∧ (Arr kd_Bound_row (fun b => w.heap.size ≤ b ∨ S b) w' (sv 0).1 r ∧ r.length ≤ (sv 0).2) := by
  unfold G_bound_rows at h
  have H0 := h
  clear h
  refine enter Try.func48 rfl [] (n := 21) rfl (Nat.le_of_ble_eq_true rfl) (fun a hI => ?_)
  have hF : FOpen Fence.wide := .inl rfl
  have hE := Ep.start w
  refine seq_region (live := [0]) (orc := []) hF hI ⟨[⟨0, [], .v (.slice none 0 0)⟩], [], [], [], none, none⟩ [] (by kernel_rfl) trivial (fun ns_1 a w_2 hI _ => ?_)
  refine wpIn_seq ?_
  refine wpIn_region_lit ?_
  obtain ⟨hE', hmv, hmr⟩ := Ep.rebase (S0 := S) hE hI
  replace hE := hE'
  replace hI := hI.rebase
  clear hE' hmv hmr
  obtain ⟨t_3, hG_4, H0⟩ := bind_some H0
  refine callH_ (S0 := S) hF hE hI (wanted_none rfl) rfl (args := [.int .i64 7]) rfl (enters Try.func58 (by kernel_rfl) rfl) (fun sv_5 => .func (.func 75) #[] #[.pointer (some (adr (sv_5 0).1))]) _ (G_bound_in.calls 7  w_2 (S := Lo S w w_2 ns_1 [])  _ hG_4) (fun sv_5 => ⟨[⟨1, [], .v (.func (.func 75) #[] #[.pointer (some (adr (sv_5 0).1))])⟩, ⟨0, [], .v (.slice none 0 0)⟩], [], [], [], none, none⟩) (fun sv_5 => by kernel_rfl) (fun sv_5 a w_7 hput hE' hI' hmv hmr hres hR => ?_)
  replace hE := hE'
  replace hI := hI'
  clear hE' hI' hmv hmr
  have hR_6 := hR
  replace hR_6 := El.keep hR_6 hres
  clear hres
  refine chunkL_ (live := [2, 0]) (orc := []) hF 1 hI ⟨[⟨2, [], .v (.agg #[.int .i64 3, .int .i64 0, .func (.func 75) #[] #[.pointer (some (adr (sv_5 0).1))]])⟩, ⟨0, [], .v (.slice none 0 0)⟩], [], [], [], none, none⟩ [] rfl (by kernel_rfl) trivial (fun ns_8 a w_9 hI => ?_)
  obtain ⟨hE', hmv, hmr⟩ := Ep.rebase (S0 := S) hE hI
  replace hR_6 := El.keep hR_6 hmv
  replace hE := hE'
  replace hI := hI.rebase
  clear hE' hmv hmr
  obtain ⟨t_10, hG_11, H0⟩ := bind_some H0
  refine callH_ (S0 := S) hF hE hI (wanted_none rfl) rfl (args := [.int .i64 6]) rfl (enters Try.func59 (by kernel_rfl) rfl) (fun sv_12 => .func (.func 76) #[] #[.pointer (some (adr (sv_12 0).1))]) _ (G_bound_out.calls 6  w_9 (S := Lo S w w_9 ns_8 [])  _ hG_11) (fun sv_12 => ⟨[⟨3, [], .v (.func (.func 76) #[] #[.pointer (some (adr (sv_12 0).1))])⟩, ⟨2, [], .v (.agg #[.int .i64 3, .int .i64 0, .func (.func 75) #[] #[.pointer (some (adr (sv_5 0).1))]])⟩, ⟨0, [], .v (.slice none 0 0)⟩], [], [], [], none, none⟩) (fun sv_12 => by kernel_rfl) (fun sv_12 a w_14 hput hE' hI' hmv hmr hres hR => ?_)
  replace hR_6 := El.keep hR_6 hmv
  replace hE := hE'
  replace hI := hI'
  clear hE' hI' hmv hmr
  have hR_13 := hR
  replace hR_13 := El.keep hR_13 hres
  clear hres
  refine chunkL_ (live := [4, 2, 0]) (orc := []) hF 1 hI ⟨[⟨4, [], .v (.agg #[.int .i64 4, .int .i64 0, .func (.func 76) #[] #[.pointer (some (adr (sv_12 0).1))]])⟩, ⟨2, [], .v (.agg #[.int .i64 3, .int .i64 0, .func (.func 75) #[] #[.pointer (some (adr (sv_5 0).1))]])⟩, ⟨0, [], .v (.slice none 0 0)⟩], [], [], [], none, none⟩ [] rfl (by kernel_rfl) trivial (fun ns_15 a w_16 hI => ?_)
  obtain ⟨hE', hmv, hmr⟩ := Ep.rebase (S0 := S) hE hI
  replace hR_6 := El.keep hR_6 hmv
  replace hR_13 := El.keep hR_13 hmv
  replace hE := hE'
  replace hI := hI.rebase
  clear hE' hmv hmr
  obtain ⟨t_17, hG_18, H0⟩ := bind_some H0
  refine callH_ (S0 := S) hF hE hI (wanted_none rfl) rfl (args := [.int .i64 5]) rfl (enters Try.func60 (by kernel_rfl) rfl) (fun sv_19 => .func (.func 77) #[] #[.pointer (some (adr (sv_19 0).1))]) _ (G_bound_some.calls 5  w_16 (S := Lo S w w_16 ns_15 [])  _ hG_18) (fun sv_19 => ⟨[⟨5, [], .v (.func (.func 77) #[] #[.pointer (some (adr (sv_19 0).1))])⟩, ⟨4, [], .v (.agg #[.int .i64 4, .int .i64 0, .func (.func 76) #[] #[.pointer (some (adr (sv_12 0).1))]])⟩, ⟨2, [], .v (.agg #[.int .i64 3, .int .i64 0, .func (.func 75) #[] #[.pointer (some (adr (sv_5 0).1))]])⟩, ⟨0, [], .v (.slice none 0 0)⟩], [], [], [], none, none⟩) (fun sv_19 => by kernel_rfl) (fun sv_19 a w_21 hput hE' hI' hmv hmr hres hR => ?_)
  replace hR_6 := El.keep hR_6 hmv
  replace hR_13 := El.keep hR_13 hmv
  replace hE := hE'
  replace hI := hI'
  clear hE' hI' hmv hmr
  have hR_20 := hR
  replace hR_20 := El.keep hR_20 hres
  clear hres
  refine chunkL_ (live := [6, 4, 2, 0]) (orc := []) hF 1 hI ⟨[⟨6, [], .v (.agg #[.int .i64 4, .int .i64 1, .func (.func 77) #[] #[.pointer (some (adr (sv_19 0).1))]])⟩, ⟨4, [], .v (.agg #[.int .i64 4, .int .i64 0, .func (.func 76) #[] #[.pointer (some (adr (sv_12 0).1))]])⟩, ⟨2, [], .v (.agg #[.int .i64 3, .int .i64 0, .func (.func 75) #[] #[.pointer (some (adr (sv_5 0).1))]])⟩, ⟨0, [], .v (.slice none 0 0)⟩], [], [], [], none, none⟩ [] rfl (by kernel_rfl) trivial (fun ns_22 a w_23 hI => ?_)
  obtain ⟨hE', hmv, hmr⟩ := Ep.rebase (S0 := S) hE hI
  replace hR_6 := El.keep hR_6 hmv
  replace hR_13 := El.keep hR_13 hmv
  replace hR_20 := El.keep hR_20 hmv
  replace hE := hE'
  replace hI := hI.rebase
  clear hE' hmv hmr
  obtain ⟨t_24, hG_25, H0⟩ := bind_some H0
  refine callH_ (S0 := S) hF hE hI (wanted_none rfl) rfl (args := [.int .i64 5]) rfl (enters Try.func58 (by kernel_rfl) rfl) (fun sv_26 => .func (.func 75) #[] #[.pointer (some (adr (sv_26 0).1))]) _ (G_bound_in.calls 5  w_23 (S := Lo S w w_23 ns_22 [])  _ hG_25) (fun sv_26 => ⟨[⟨7, [], .v (.func (.func 75) #[] #[.pointer (some (adr (sv_26 0).1))])⟩, ⟨6, [], .v (.agg #[.int .i64 4, .int .i64 1, .func (.func 77) #[] #[.pointer (some (adr (sv_19 0).1))]])⟩, ⟨4, [], .v (.agg #[.int .i64 4, .int .i64 0, .func (.func 76) #[] #[.pointer (some (adr (sv_12 0).1))]])⟩, ⟨2, [], .v (.agg #[.int .i64 3, .int .i64 0, .func (.func 75) #[] #[.pointer (some (adr (sv_5 0).1))]])⟩, ⟨0, [], .v (.slice none 0 0)⟩], [], [], [], none, none⟩) (fun sv_26 => by kernel_rfl) (fun sv_26 a w_28 hput hE' hI' hmv hmr hres hR => ?_)
  replace hR_6 := El.keep hR_6 hmv
  replace hR_13 := El.keep hR_13 hmv
  replace hR_20 := El.keep hR_20 hmv
  replace hE := hE'
  replace hI := hI'
  clear hE' hI' hmv hmr
  have hR_27 := hR
  replace hR_27 := El.keep hR_27 hres
  clear hres
  refine chunkL_ (live := [8, 6, 4, 2, 0]) (orc := []) hF 1 hI ⟨[⟨8, [], .v (.agg #[.int .i64 5, .int .i64 0, .func (.func 75) #[] #[.pointer (some (adr (sv_26 0).1))]])⟩, ⟨6, [], .v (.agg #[.int .i64 4, .int .i64 1, .func (.func 77) #[] #[.pointer (some (adr (sv_19 0).1))]])⟩, ⟨4, [], .v (.agg #[.int .i64 4, .int .i64 0, .func (.func 76) #[] #[.pointer (some (adr (sv_12 0).1))]])⟩, ⟨2, [], .v (.agg #[.int .i64 3, .int .i64 0, .func (.func 75) #[] #[.pointer (some (adr (sv_5 0).1))]])⟩, ⟨0, [], .v (.slice none 0 0)⟩], [], [], [], none, none⟩ [] rfl (by kernel_rfl) trivial (fun ns_29 a w_30 hI => ?_)
  obtain ⟨hE', hmv, hmr⟩ := Ep.rebase (S0 := S) hE hI
  replace hR_6 := El.keep hR_6 hmv
  replace hR_13 := El.keep hR_13 hmv
  replace hR_20 := El.keep hR_20 hmv
  replace hR_27 := El.keep hR_27 hmv
  replace hE := hE'
  replace hI := hI.rebase
  clear hE' hmv hmr
  obtain ⟨t_31, hG_32, H0⟩ := bind_some H0
  refine callH_ (S0 := S) hF hE hI (wanted_none rfl) rfl (args := [.int .i64 4]) rfl (enters Try.func59 (by kernel_rfl) rfl) (fun sv_33 => .func (.func 76) #[] #[.pointer (some (adr (sv_33 0).1))]) _ (G_bound_out.calls 4  w_30 (S := Lo S w w_30 ns_29 [])  _ hG_32) (fun sv_33 => ⟨[⟨9, [], .v (.func (.func 76) #[] #[.pointer (some (adr (sv_33 0).1))])⟩, ⟨8, [], .v (.agg #[.int .i64 5, .int .i64 0, .func (.func 75) #[] #[.pointer (some (adr (sv_26 0).1))]])⟩, ⟨6, [], .v (.agg #[.int .i64 4, .int .i64 1, .func (.func 77) #[] #[.pointer (some (adr (sv_19 0).1))]])⟩, ⟨4, [], .v (.agg #[.int .i64 4, .int .i64 0, .func (.func 76) #[] #[.pointer (some (adr (sv_12 0).1))]])⟩, ⟨2, [], .v (.agg #[.int .i64 3, .int .i64 0, .func (.func 75) #[] #[.pointer (some (adr (sv_5 0).1))]])⟩, ⟨0, [], .v (.slice none 0 0)⟩], [], [], [], none, none⟩) (fun sv_33 => by kernel_rfl) (fun sv_33 a w_35 hput hE' hI' hmv hmr hres hR => ?_)
  replace hR_6 := El.keep hR_6 hmv
  replace hR_13 := El.keep hR_13 hmv
  replace hR_20 := El.keep hR_20 hmv
  replace hR_27 := El.keep hR_27 hmv
  replace hE := hE'
  replace hI := hI'
  clear hE' hI' hmv hmr
  have hR_34 := hR
  replace hR_34 := El.keep hR_34 hres
  clear hres
  refine chunkL_ (live := [10, 8, 6, 4, 2, 0]) (orc := []) hF 1 hI ⟨[⟨10, [], .v (.agg #[.int .i64 6, .int .i64 0, .func (.func 76) #[] #[.pointer (some (adr (sv_33 0).1))]])⟩, ⟨8, [], .v (.agg #[.int .i64 5, .int .i64 0, .func (.func 75) #[] #[.pointer (some (adr (sv_26 0).1))]])⟩, ⟨6, [], .v (.agg #[.int .i64 4, .int .i64 1, .func (.func 77) #[] #[.pointer (some (adr (sv_19 0).1))]])⟩, ⟨4, [], .v (.agg #[.int .i64 4, .int .i64 0, .func (.func 76) #[] #[.pointer (some (adr (sv_12 0).1))]])⟩, ⟨2, [], .v (.agg #[.int .i64 3, .int .i64 0, .func (.func 75) #[] #[.pointer (some (adr (sv_5 0).1))]])⟩, ⟨0, [], .v (.slice none 0 0)⟩], [], [], [], none, none⟩ [] rfl (by kernel_rfl) trivial (fun ns_36 a w_37 hI => ?_)
  obtain ⟨hE', hmv, hmr⟩ := Ep.rebase (S0 := S) hE hI
  replace hR_6 := El.keep hR_6 hmv
  replace hR_13 := El.keep hR_13 hmv
  replace hR_20 := El.keep hR_20 hmv
  replace hR_27 := El.keep hR_27 hmv
  replace hR_34 := El.keep hR_34 hmv
  replace hE := hE'
  replace hI := hI.rebase
  clear hE' hmv hmr
  obtain ⟨t_38, hG_39, H0⟩ := bind_some H0
  refine callH_ (S0 := S) hF hE hI (wanted_none rfl) rfl (args := [.int .i64 2]) rfl (enters Try.func60 (by kernel_rfl) rfl) (fun sv_40 => .func (.func 77) #[] #[.pointer (some (adr (sv_40 0).1))]) _ (G_bound_some.calls 2  w_37 (S := Lo S w w_37 ns_36 [])  _ hG_39) (fun sv_40 => ⟨[⟨11, [], .v (.func (.func 77) #[] #[.pointer (some (adr (sv_40 0).1))])⟩, ⟨10, [], .v (.agg #[.int .i64 6, .int .i64 0, .func (.func 76) #[] #[.pointer (some (adr (sv_33 0).1))]])⟩, ⟨8, [], .v (.agg #[.int .i64 5, .int .i64 0, .func (.func 75) #[] #[.pointer (some (adr (sv_26 0).1))]])⟩, ⟨6, [], .v (.agg #[.int .i64 4, .int .i64 1, .func (.func 77) #[] #[.pointer (some (adr (sv_19 0).1))]])⟩, ⟨4, [], .v (.agg #[.int .i64 4, .int .i64 0, .func (.func 76) #[] #[.pointer (some (adr (sv_12 0).1))]])⟩, ⟨2, [], .v (.agg #[.int .i64 3, .int .i64 0, .func (.func 75) #[] #[.pointer (some (adr (sv_5 0).1))]])⟩, ⟨0, [], .v (.slice none 0 0)⟩], [], [], [], none, none⟩) (fun sv_40 => by kernel_rfl) (fun sv_40 a w_42 hput hE' hI' hmv hmr hres hR => ?_)
  replace hR_6 := El.keep hR_6 hmv
  replace hR_13 := El.keep hR_13 hmv
  replace hR_20 := El.keep hR_20 hmv
  replace hR_27 := El.keep hR_27 hmv
  replace hR_34 := El.keep hR_34 hmv
  replace hE := hE'
  replace hI := hI'
  clear hE' hI' hmv hmr
  have hR_41 := hR
  replace hR_41 := El.keep hR_41 hres
  clear hres
  refine chunkL_ (live := [12, 10, 8, 6, 4, 2, 0]) (orc := []) hF 1 hI ⟨[⟨12, [], .v (.agg #[.int .i64 5, .int .i64 2, .func (.func 77) #[] #[.pointer (some (adr (sv_40 0).1))]])⟩, ⟨10, [], .v (.agg #[.int .i64 6, .int .i64 0, .func (.func 76) #[] #[.pointer (some (adr (sv_33 0).1))]])⟩, ⟨8, [], .v (.agg #[.int .i64 5, .int .i64 0, .func (.func 75) #[] #[.pointer (some (adr (sv_26 0).1))]])⟩, ⟨6, [], .v (.agg #[.int .i64 4, .int .i64 1, .func (.func 77) #[] #[.pointer (some (adr (sv_19 0).1))]])⟩, ⟨4, [], .v (.agg #[.int .i64 4, .int .i64 0, .func (.func 76) #[] #[.pointer (some (adr (sv_12 0).1))]])⟩, ⟨2, [], .v (.agg #[.int .i64 3, .int .i64 0, .func (.func 75) #[] #[.pointer (some (adr (sv_5 0).1))]])⟩, ⟨0, [], .v (.slice none 0 0)⟩], [], [], [], none, none⟩ [] rfl (by kernel_rfl) trivial (fun ns_43 a w_44 hI => ?_)
  obtain ⟨hE', hmv, hmr⟩ := Ep.rebase (S0 := S) hE hI
  replace hR_6 := El.keep hR_6 hmv
  replace hR_13 := El.keep hR_13 hmv
  replace hR_20 := El.keep hR_20 hmv
  replace hR_27 := El.keep hR_27 hmv
  replace hR_34 := El.keep hR_34 hmv
  replace hR_41 := El.keep hR_41 hmv
  replace hE := hE'
  replace hI := hI.rebase
  clear hE' hmv hmr
  obtain ⟨t_45, hG_46, H0⟩ := bind_some H0
  refine callH_ (S0 := S) hF hE hI (wanted_none rfl) rfl (args := [.int .i64 2]) rfl (enters Try.func60 (by kernel_rfl) rfl) (fun sv_47 => .func (.func 77) #[] #[.pointer (some (adr (sv_47 0).1))]) _ (G_bound_some.calls 2  w_44 (S := Lo S w w_44 ns_43 [])  _ hG_46) (fun sv_47 => ⟨[⟨13, [], .v (.func (.func 77) #[] #[.pointer (some (adr (sv_47 0).1))])⟩, ⟨12, [], .v (.agg #[.int .i64 5, .int .i64 2, .func (.func 77) #[] #[.pointer (some (adr (sv_40 0).1))]])⟩, ⟨10, [], .v (.agg #[.int .i64 6, .int .i64 0, .func (.func 76) #[] #[.pointer (some (adr (sv_33 0).1))]])⟩, ⟨8, [], .v (.agg #[.int .i64 5, .int .i64 0, .func (.func 75) #[] #[.pointer (some (adr (sv_26 0).1))]])⟩, ⟨6, [], .v (.agg #[.int .i64 4, .int .i64 1, .func (.func 77) #[] #[.pointer (some (adr (sv_19 0).1))]])⟩, ⟨4, [], .v (.agg #[.int .i64 4, .int .i64 0, .func (.func 76) #[] #[.pointer (some (adr (sv_12 0).1))]])⟩, ⟨2, [], .v (.agg #[.int .i64 3, .int .i64 0, .func (.func 75) #[] #[.pointer (some (adr (sv_5 0).1))]])⟩, ⟨0, [], .v (.slice none 0 0)⟩], [], [], [], none, none⟩) (fun sv_47 => by kernel_rfl) (fun sv_47 a w_49 hput hE' hI' hmv hmr hres hR => ?_)
  replace hR_6 := El.keep hR_6 hmv
  replace hR_13 := El.keep hR_13 hmv
  replace hR_20 := El.keep hR_20 hmv
  replace hR_27 := El.keep hR_27 hmv
  replace hR_34 := El.keep hR_34 hmv
  replace hR_41 := El.keep hR_41 hmv
  replace hE := hE'
  replace hI := hI'
  clear hE' hI' hmv hmr
  have hR_48 := hR
  replace hR_48 := El.keep hR_48 hres
  clear hres
  refine chunkL_ (live := [15, 14, 12, 10, 8, 6, 4, 2, 0]) (orc := []) hF 2 hI ⟨[⟨15, [], .v (.agg #[.int .i64 7, .int .i64 0, .func (.func 61) #[] #[]])⟩, ⟨14, [], .v (.agg #[.int .i64 6, .int .i64 2, .func (.func 77) #[] #[.pointer (some (adr (sv_47 0).1))]])⟩, ⟨12, [], .v (.agg #[.int .i64 5, .int .i64 2, .func (.func 77) #[] #[.pointer (some (adr (sv_40 0).1))]])⟩, ⟨10, [], .v (.agg #[.int .i64 6, .int .i64 0, .func (.func 76) #[] #[.pointer (some (adr (sv_33 0).1))]])⟩, ⟨8, [], .v (.agg #[.int .i64 5, .int .i64 0, .func (.func 75) #[] #[.pointer (some (adr (sv_26 0).1))]])⟩, ⟨6, [], .v (.agg #[.int .i64 4, .int .i64 1, .func (.func 77) #[] #[.pointer (some (adr (sv_19 0).1))]])⟩, ⟨4, [], .v (.agg #[.int .i64 4, .int .i64 0, .func (.func 76) #[] #[.pointer (some (adr (sv_12 0).1))]])⟩, ⟨2, [], .v (.agg #[.int .i64 3, .int .i64 0, .func (.func 75) #[] #[.pointer (some (adr (sv_5 0).1))]])⟩, ⟨0, [], .v (.slice none 0 0)⟩], [], [], [], none, none⟩ [] rfl (by kernel_rfl) trivial (fun ns_50 a w_51 hI => ?_)
  obtain ⟨hE', hmv, hmr⟩ := Ep.rebase (S0 := S) hE hI
  replace hR_6 := El.keep hR_6 hmv
  replace hR_13 := El.keep hR_13 hmv
  replace hR_20 := El.keep hR_20 hmv
  replace hR_27 := El.keep hR_27 hmv
  replace hR_34 := El.keep hR_34 hmv
  replace hR_41 := El.keep hR_41 hmv
  replace hR_48 := El.keep hR_48 hmv
  replace hE := hE'
  replace hI := hI.rebase
  clear hE' hmv hmr
  obtain ⟨t_52, hG_53, H0⟩ := bind_some H0
  refine callH_ (S0 := S) hF hE hI (wanted_none rfl) rfl (args := [.int .i64 2]) rfl (enters Try.func60 (by kernel_rfl) rfl) (fun sv_54 => .func (.func 77) #[] #[.pointer (some (adr (sv_54 0).1))]) _ (G_bound_some.calls 2  w_51 (S := Lo S w w_51 ns_50 [])  _ hG_53) (fun sv_54 => ⟨[⟨16, [], .v (.func (.func 77) #[] #[.pointer (some (adr (sv_54 0).1))])⟩, ⟨15, [], .v (.agg #[.int .i64 7, .int .i64 0, .func (.func 61) #[] #[]])⟩, ⟨14, [], .v (.agg #[.int .i64 6, .int .i64 2, .func (.func 77) #[] #[.pointer (some (adr (sv_47 0).1))]])⟩, ⟨12, [], .v (.agg #[.int .i64 5, .int .i64 2, .func (.func 77) #[] #[.pointer (some (adr (sv_40 0).1))]])⟩, ⟨10, [], .v (.agg #[.int .i64 6, .int .i64 0, .func (.func 76) #[] #[.pointer (some (adr (sv_33 0).1))]])⟩, ⟨8, [], .v (.agg #[.int .i64 5, .int .i64 0, .func (.func 75) #[] #[.pointer (some (adr (sv_26 0).1))]])⟩, ⟨6, [], .v (.agg #[.int .i64 4, .int .i64 1, .func (.func 77) #[] #[.pointer (some (adr (sv_19 0).1))]])⟩, ⟨4, [], .v (.agg #[.int .i64 4, .int .i64 0, .func (.func 76) #[] #[.pointer (some (adr (sv_12 0).1))]])⟩, ⟨2, [], .v (.agg #[.int .i64 3, .int .i64 0, .func (.func 75) #[] #[.pointer (some (adr (sv_5 0).1))]])⟩, ⟨0, [], .v (.slice none 0 0)⟩], [], [], [], none, none⟩) (fun sv_54 => by kernel_rfl) (fun sv_54 a w_56 hput hE' hI' hmv hmr hres hR => ?_)
  replace hR_6 := El.keep hR_6 hmv
  replace hR_13 := El.keep hR_13 hmv
  replace hR_20 := El.keep hR_20 hmv
  replace hR_27 := El.keep hR_27 hmv
  replace hR_34 := El.keep hR_34 hmv
  replace hR_41 := El.keep hR_41 hmv
  replace hR_48 := El.keep hR_48 hmv
  replace hE := hE'
  replace hI := hI'
  clear hE' hI' hmv hmr
  have hR_55 := hR
  replace hR_55 := El.keep hR_55 hres
  clear hres
  refine chunkL_ (live := [17, 15, 14, 12, 10, 8, 6, 4, 2, 0]) (orc := []) hF 1 hI ⟨[⟨17, [], .v (.agg #[.int .i64 8, .int .i64 0, .func (.func 77) #[] #[.pointer (some (adr (sv_54 0).1))]])⟩, ⟨15, [], .v (.agg #[.int .i64 7, .int .i64 0, .func (.func 61) #[] #[]])⟩, ⟨14, [], .v (.agg #[.int .i64 6, .int .i64 2, .func (.func 77) #[] #[.pointer (some (adr (sv_47 0).1))]])⟩, ⟨12, [], .v (.agg #[.int .i64 5, .int .i64 2, .func (.func 77) #[] #[.pointer (some (adr (sv_40 0).1))]])⟩, ⟨10, [], .v (.agg #[.int .i64 6, .int .i64 0, .func (.func 76) #[] #[.pointer (some (adr (sv_33 0).1))]])⟩, ⟨8, [], .v (.agg #[.int .i64 5, .int .i64 0, .func (.func 75) #[] #[.pointer (some (adr (sv_26 0).1))]])⟩, ⟨6, [], .v (.agg #[.int .i64 4, .int .i64 1, .func (.func 77) #[] #[.pointer (some (adr (sv_19 0).1))]])⟩, ⟨4, [], .v (.agg #[.int .i64 4, .int .i64 0, .func (.func 76) #[] #[.pointer (some (adr (sv_12 0).1))]])⟩, ⟨2, [], .v (.agg #[.int .i64 3, .int .i64 0, .func (.func 75) #[] #[.pointer (some (adr (sv_5 0).1))]])⟩, ⟨0, [], .v (.slice none 0 0)⟩], [], [], [], none, none⟩ [] rfl (by kernel_rfl) trivial (fun ns_57 a w_58 hI => ?_)
  obtain ⟨hE', hmv, hmr⟩ := Ep.rebase (S0 := S) hE hI
  replace hR_6 := El.keep hR_6 hmv
  replace hR_13 := El.keep hR_13 hmv
  replace hR_20 := El.keep hR_20 hmv
  replace hR_27 := El.keep hR_27 hmv
  replace hR_34 := El.keep hR_34 hmv
  replace hR_41 := El.keep hR_41 hmv
  replace hR_48 := El.keep hR_48 hmv
  replace hR_55 := El.keep hR_55 hmv
  replace hE := hE'
  replace hI := hI.rebase
  clear hE' hmv hmr
  obtain ⟨t_59, hG_60, H0⟩ := bind_some H0
  refine callH_ (S0 := S) hF hE hI (wanted_none rfl) rfl (args := [.int .i64 2]) rfl (enters Try.func60 (by kernel_rfl) rfl) (fun sv_61 => .func (.func 77) #[] #[.pointer (some (adr (sv_61 0).1))]) _ (G_bound_some.calls 2  w_58 (S := Lo S w w_58 ns_57 [])  _ hG_60) (fun sv_61 => ⟨[⟨18, [], .v (.func (.func 77) #[] #[.pointer (some (adr (sv_61 0).1))])⟩, ⟨17, [], .v (.agg #[.int .i64 8, .int .i64 0, .func (.func 77) #[] #[.pointer (some (adr (sv_54 0).1))]])⟩, ⟨15, [], .v (.agg #[.int .i64 7, .int .i64 0, .func (.func 61) #[] #[]])⟩, ⟨14, [], .v (.agg #[.int .i64 6, .int .i64 2, .func (.func 77) #[] #[.pointer (some (adr (sv_47 0).1))]])⟩, ⟨12, [], .v (.agg #[.int .i64 5, .int .i64 2, .func (.func 77) #[] #[.pointer (some (adr (sv_40 0).1))]])⟩, ⟨10, [], .v (.agg #[.int .i64 6, .int .i64 0, .func (.func 76) #[] #[.pointer (some (adr (sv_33 0).1))]])⟩, ⟨8, [], .v (.agg #[.int .i64 5, .int .i64 0, .func (.func 75) #[] #[.pointer (some (adr (sv_26 0).1))]])⟩, ⟨6, [], .v (.agg #[.int .i64 4, .int .i64 1, .func (.func 77) #[] #[.pointer (some (adr (sv_19 0).1))]])⟩, ⟨4, [], .v (.agg #[.int .i64 4, .int .i64 0, .func (.func 76) #[] #[.pointer (some (adr (sv_12 0).1))]])⟩, ⟨2, [], .v (.agg #[.int .i64 3, .int .i64 0, .func (.func 75) #[] #[.pointer (some (adr (sv_5 0).1))]])⟩, ⟨0, [], .v (.slice none 0 0)⟩], [], [], [], none, none⟩) (fun sv_61 => by kernel_rfl) (fun sv_61 a w_63 hput hE' hI' hmv hmr hres hR => ?_)
  replace hR_6 := El.keep hR_6 hmv
  replace hR_13 := El.keep hR_13 hmv
  replace hR_20 := El.keep hR_20 hmv
  replace hR_27 := El.keep hR_27 hmv
  replace hR_34 := El.keep hR_34 hmv
  replace hR_41 := El.keep hR_41 hmv
  replace hR_48 := El.keep hR_48 hmv
  replace hR_55 := El.keep hR_55 hmv
  replace hE := hE'
  replace hI := hI'
  clear hE' hI' hmv hmr
  have hR_62 := hR
  replace hR_62 := El.keep hR_62 hres
  clear hres
  refine chunkL_ (live := [19, 17, 15, 14, 12, 10, 8, 6, 4, 2, 0]) (orc := []) hF 1 hI ⟨[⟨19, [], .v (.agg #[.int .i64 9, .int .i64 0, .func (.func 77) #[] #[.pointer (some (adr (sv_61 0).1))]])⟩, ⟨17, [], .v (.agg #[.int .i64 8, .int .i64 0, .func (.func 77) #[] #[.pointer (some (adr (sv_54 0).1))]])⟩, ⟨15, [], .v (.agg #[.int .i64 7, .int .i64 0, .func (.func 61) #[] #[]])⟩, ⟨14, [], .v (.agg #[.int .i64 6, .int .i64 2, .func (.func 77) #[] #[.pointer (some (adr (sv_47 0).1))]])⟩, ⟨12, [], .v (.agg #[.int .i64 5, .int .i64 2, .func (.func 77) #[] #[.pointer (some (adr (sv_40 0).1))]])⟩, ⟨10, [], .v (.agg #[.int .i64 6, .int .i64 0, .func (.func 76) #[] #[.pointer (some (adr (sv_33 0).1))]])⟩, ⟨8, [], .v (.agg #[.int .i64 5, .int .i64 0, .func (.func 75) #[] #[.pointer (some (adr (sv_26 0).1))]])⟩, ⟨6, [], .v (.agg #[.int .i64 4, .int .i64 1, .func (.func 77) #[] #[.pointer (some (adr (sv_19 0).1))]])⟩, ⟨4, [], .v (.agg #[.int .i64 4, .int .i64 0, .func (.func 76) #[] #[.pointer (some (adr (sv_12 0).1))]])⟩, ⟨2, [], .v (.agg #[.int .i64 3, .int .i64 0, .func (.func 75) #[] #[.pointer (some (adr (sv_5 0).1))]])⟩, ⟨0, [], .v (.slice none 0 0)⟩], [], [], [], none, none⟩ [] rfl (by kernel_rfl) trivial (fun ns_64 a w_65 hI => ?_)
  obtain ⟨hE', hmv, hmr⟩ := Ep.rebase (S0 := S) hE hI
  replace hR_6 := El.keep hR_6 hmv
  replace hR_13 := El.keep hR_13 hmv
  replace hR_20 := El.keep hR_20 hmv
  replace hR_27 := El.keep hR_27 hmv
  replace hR_34 := El.keep hR_34 hmv
  replace hR_41 := El.keep hR_41 hmv
  replace hR_48 := El.keep hR_48 hmv
  replace hR_55 := El.keep hR_55 hmv
  replace hR_62 := El.keep hR_62 hmv
  replace hE := hE'
  replace hI := hI.rebase
  clear hE' hmv hmr
  refine buildSlice_ (S0 := S) (d := kd_Bound_row) (e := 95) hF hE hI (wanted_none rfl) rfl (by kernel_rfl) (cs := [.int .i64 3, .int .i64 0, .func (.func 75) #[] #[.pointer (some (adr (sv_5 0).1))], .int .i64 4, .int .i64 0, .func (.func 76) #[] #[.pointer (some (adr (sv_12 0).1))], .int .i64 4, .int .i64 1, .func (.func 77) #[] #[.pointer (some (adr (sv_19 0).1))], .int .i64 5, .int .i64 0, .func (.func 75) #[] #[.pointer (some (adr (sv_26 0).1))], .int .i64 6, .int .i64 0, .func (.func 76) #[] #[.pointer (some (adr (sv_33 0).1))], .int .i64 5, .int .i64 2, .func (.func 77) #[] #[.pointer (some (adr (sv_40 0).1))], .int .i64 6, .int .i64 2, .func (.func 77) #[] #[.pointer (some (adr (sv_47 0).1))], .int .i64 7, .int .i64 0, .func (.func 61) #[] #[], .int .i64 8, .int .i64 0, .func (.func 77) #[] #[.pointer (some (adr (sv_54 0).1))], .int .i64 9, .int .i64 0, .func (.func 77) #[] #[.pointer (some (adr (sv_61 0).1))]]) (by kernel_rfl) [(⟨3, 0, (Fn54.f75 t_3)⟩ : Bound_row), (⟨4, 0, (Fn54.f76 t_10)⟩ : Bound_row), (⟨4, 1, (Fn54.f77 t_17)⟩ : Bound_row), (⟨5, 0, (Fn54.f75 t_24)⟩ : Bound_row), (⟨6, 0, (Fn54.f76 t_31)⟩ : Bound_row), (⟨5, 2, (Fn54.f77 t_38)⟩ : Bound_row), (⟨6, 2, (Fn54.f77 t_45)⟩ : Bound_row), (⟨7, 0, (Fn54.f61)⟩ : Bound_row), (⟨8, 0, (Fn54.f77 t_52)⟩ : Bound_row), (⟨9, 0, (Fn54.f77 t_59)⟩ : Bound_row)] [(svL [(some (adr (sv_5 0).1), 0)]), (svL [(some (adr (sv_12 0).1), 0)]), (svL [(some (adr (sv_19 0).1), 0)]), (svL [(some (adr (sv_26 0).1), 0)]), (svL [(some (adr (sv_33 0).1), 0)]), (svL [(some (adr (sv_40 0).1), 0)]), (svL [(some (adr (sv_47 0).1), 0)]), (svL [(none, 0)]), (svL [(some (adr (sv_54 0).1), 0)]), (svL [(some (adr (sv_61 0).1), 0)])] rfl rfl (by simp [maxLen]) (fun i x hi => by cases i with | zero => (simp only [List.getElem?_cons_zero, Option.some.injEq] at hi; subst hi; exact ⟨⟨⟨hR_6.cont, hR_6.at_, hR_6.cells⟩, trivial⟩, rfl⟩) | succ i => (simp only [List.getElem?_cons_succ] at hi; cases i with | zero => (simp only [List.getElem?_cons_zero, Option.some.injEq] at hi; subst hi; exact ⟨⟨⟨hR_13.cont, hR_13.at_, hR_13.cells⟩, trivial⟩, rfl⟩) | succ i => (simp only [List.getElem?_cons_succ] at hi; cases i with | zero => (simp only [List.getElem?_cons_zero, Option.some.injEq] at hi; subst hi; exact ⟨⟨⟨hR_20.cont, hR_20.at_, hR_20.cells⟩, trivial⟩, rfl⟩) | succ i => (simp only [List.getElem?_cons_succ] at hi; cases i with | zero => (simp only [List.getElem?_cons_zero, Option.some.injEq] at hi; subst hi; exact ⟨⟨⟨hR_27.cont, hR_27.at_, hR_27.cells⟩, trivial⟩, rfl⟩) | succ i => (simp only [List.getElem?_cons_succ] at hi; cases i with | zero => (simp only [List.getElem?_cons_zero, Option.some.injEq] at hi; subst hi; exact ⟨⟨⟨hR_34.cont, hR_34.at_, hR_34.cells⟩, trivial⟩, rfl⟩) | succ i => (simp only [List.getElem?_cons_succ] at hi; cases i with | zero => (simp only [List.getElem?_cons_zero, Option.some.injEq] at hi; subst hi; exact ⟨⟨⟨hR_41.cont, hR_41.at_, hR_41.cells⟩, trivial⟩, rfl⟩) | succ i => (simp only [List.getElem?_cons_succ] at hi; cases i with | zero => (simp only [List.getElem?_cons_zero, Option.some.injEq] at hi; subst hi; exact ⟨⟨⟨hR_48.cont, hR_48.at_, hR_48.cells⟩, trivial⟩, rfl⟩) | succ i => (simp only [List.getElem?_cons_succ] at hi; cases i with | zero => (simp only [List.getElem?_cons_zero, Option.some.injEq] at hi; subst hi; exact ⟨⟨trivial, trivial⟩, rfl⟩) | succ i => (simp only [List.getElem?_cons_succ] at hi; cases i with | zero => (simp only [List.getElem?_cons_zero, Option.some.injEq] at hi; subst hi; exact ⟨⟨⟨hR_55.cont, hR_55.at_, hR_55.cells⟩, trivial⟩, rfl⟩) | succ i => (simp only [List.getElem?_cons_succ] at hi; cases i with | zero => (simp only [List.getElem?_cons_zero, Option.some.injEq] at hi; subst hi; exact ⟨⟨⟨hR_62.cont, hR_62.at_, hR_62.cells⟩, trivial⟩, rfl⟩) | succ i => (simp only [List.getElem?_cons_succ] at hi; simp at hi))))))))))) (fun A_66 => ⟨[⟨20, [], .v (.slice A_66 ([(⟨3, 0, (Fn54.f75 t_3)⟩ : Bound_row), (⟨4, 0, (Fn54.f76 t_10)⟩ : Bound_row), (⟨4, 1, (Fn54.f77 t_17)⟩ : Bound_row), (⟨5, 0, (Fn54.f75 t_24)⟩ : Bound_row), (⟨6, 0, (Fn54.f76 t_31)⟩ : Bound_row), (⟨5, 2, (Fn54.f77 t_38)⟩ : Bound_row), (⟨6, 2, (Fn54.f77 t_45)⟩ : Bound_row), (⟨7, 0, (Fn54.f61)⟩ : Bound_row), (⟨8, 0, (Fn54.f77 t_52)⟩ : Bound_row), (⟨9, 0, (Fn54.f77 t_59)⟩ : Bound_row)] : List Bound_row).length (([(⟨3, 0, (Fn54.f75 t_3)⟩ : Bound_row), (⟨4, 0, (Fn54.f76 t_10)⟩ : Bound_row), (⟨4, 1, (Fn54.f77 t_17)⟩ : Bound_row), (⟨5, 0, (Fn54.f75 t_24)⟩ : Bound_row), (⟨6, 0, (Fn54.f76 t_31)⟩ : Bound_row), (⟨5, 2, (Fn54.f77 t_38)⟩ : Bound_row), (⟨6, 2, (Fn54.f77 t_45)⟩ : Bound_row), (⟨7, 0, (Fn54.f61)⟩ : Bound_row), (⟨8, 0, (Fn54.f77 t_52)⟩ : Bound_row), (⟨9, 0, (Fn54.f77 t_59)⟩ : Bound_row)] : List Bound_row).length))⟩, ⟨19, [], .v (.agg #[.int .i64 9, .int .i64 0, .func (.func 77) #[] #[.pointer (some (adr (sv_61 0).1))]])⟩, ⟨17, [], .v (.agg #[.int .i64 8, .int .i64 0, .func (.func 77) #[] #[.pointer (some (adr (sv_54 0).1))]])⟩, ⟨15, [], .v (.agg #[.int .i64 7, .int .i64 0, .func (.func 61) #[] #[]])⟩, ⟨14, [], .v (.agg #[.int .i64 6, .int .i64 2, .func (.func 77) #[] #[.pointer (some (adr (sv_47 0).1))]])⟩, ⟨12, [], .v (.agg #[.int .i64 5, .int .i64 2, .func (.func 77) #[] #[.pointer (some (adr (sv_40 0).1))]])⟩, ⟨10, [], .v (.agg #[.int .i64 6, .int .i64 0, .func (.func 76) #[] #[.pointer (some (adr (sv_33 0).1))]])⟩, ⟨8, [], .v (.agg #[.int .i64 5, .int .i64 0, .func (.func 75) #[] #[.pointer (some (adr (sv_26 0).1))]])⟩, ⟨6, [], .v (.agg #[.int .i64 4, .int .i64 1, .func (.func 77) #[] #[.pointer (some (adr (sv_19 0).1))]])⟩, ⟨4, [], .v (.agg #[.int .i64 4, .int .i64 0, .func (.func 76) #[] #[.pointer (some (adr (sv_12 0).1))]])⟩, ⟨2, [], .v (.agg #[.int .i64 3, .int .i64 0, .func (.func 75) #[] #[.pointer (some (adr (sv_5 0).1))]])⟩, ⟨0, [], .v (.slice none 0 0)⟩], [], [], [], none, none⟩) (fun A_66 => by kernel_rfl) (fun A_66 a w_68 hput hE' hI' hmv hmr hq_67 => ?_)
  replace hR_6 := El.keep hR_6 hmv
  replace hR_13 := El.keep hR_13 hmv
  replace hR_20 := El.keep hR_20 hmv
  replace hR_27 := El.keep hR_27 hmv
  replace hR_34 := El.keep hR_34 hmv
  replace hR_41 := El.keep hR_41 hmv
  replace hR_48 := El.keep hR_48 hmv
  replace hR_55 := El.keep hR_55 hmv
  replace hR_62 := El.keep hR_62 hmv
  replace hE := hE'
  replace hI := hI'
  clear hE' hI' hmv hmr
  refine chunkL_ (live := [0]) (orc := []) hF 1 hI ⟨[⟨0, [], .v (.slice A_66 ([(⟨3, 0, (Fn54.f75 t_3)⟩ : Bound_row), (⟨4, 0, (Fn54.f76 t_10)⟩ : Bound_row), (⟨4, 1, (Fn54.f77 t_17)⟩ : Bound_row), (⟨5, 0, (Fn54.f75 t_24)⟩ : Bound_row), (⟨6, 0, (Fn54.f76 t_31)⟩ : Bound_row), (⟨5, 2, (Fn54.f77 t_38)⟩ : Bound_row), (⟨6, 2, (Fn54.f77 t_45)⟩ : Bound_row), (⟨7, 0, (Fn54.f61)⟩ : Bound_row), (⟨8, 0, (Fn54.f77 t_52)⟩ : Bound_row), (⟨9, 0, (Fn54.f77 t_59)⟩ : Bound_row)] : List Bound_row).length (([(⟨3, 0, (Fn54.f75 t_3)⟩ : Bound_row), (⟨4, 0, (Fn54.f76 t_10)⟩ : Bound_row), (⟨4, 1, (Fn54.f77 t_17)⟩ : Bound_row), (⟨5, 0, (Fn54.f75 t_24)⟩ : Bound_row), (⟨6, 0, (Fn54.f76 t_31)⟩ : Bound_row), (⟨5, 2, (Fn54.f77 t_38)⟩ : Bound_row), (⟨6, 2, (Fn54.f77 t_45)⟩ : Bound_row), (⟨7, 0, (Fn54.f61)⟩ : Bound_row), (⟨8, 0, (Fn54.f77 t_52)⟩ : Bound_row), (⟨9, 0, (Fn54.f77 t_59)⟩ : Bound_row)] : List Bound_row).length))⟩], [], [], [], none, none⟩ [] rfl (by kernel_rfl) trivial (fun ns_69 a w_70 hI => ?_)
  refine wpListIn_nil ?_
  refine then_normal ?_
  obtain ⟨hE', hmv, hmr⟩ := Ep.rebase (S0 := S) hE hI
  replace hR_6 := El.keep hR_6 hmv
  replace hR_13 := El.keep hR_13 hmv
  replace hR_20 := El.keep hR_20 hmv
  replace hR_27 := El.keep hR_27 hmv
  replace hR_34 := El.keep hR_34 hmv
  replace hR_41 := El.keep hR_41 hmv
  replace hR_48 := El.keep hR_48 hmv
  replace hR_55 := El.keep hR_55 hmv
  replace hR_62 := El.keep hR_62 hmv
  replace hq_67 := Row.keep hq_67 hmv (fun b hb => hmr b (by rw [← hb]; first | (simp; done) | simp [rb]))
  replace hE := hE'
  replace hI := hI.rebase
  clear hE' hmv hmr
  obtain ⟨hE', hmv, hq_67, hcap_71⟩ := Row.still (l1 := []) (l2 := []) hq_67 hE
  have hmr : ∀ b : Nat, some b ∈ ([rb A_66] : List (Option Nat)) → w_70.heap[b]? = w_70.heap[b]? := fun _ _ => rfl
  replace hR_6 := El.keep hR_6 hmv
  replace hR_13 := El.keep hR_13 hmv
  replace hR_20 := El.keep hR_20 hmv
  replace hR_27 := El.keep hR_27 hmv
  replace hR_34 := El.keep hR_34 hmv
  replace hR_41 := El.keep hR_41 hmv
  replace hR_48 := El.keep hR_48 hmv
  replace hR_55 := El.keep hR_55 hmv
  replace hR_62 := El.keep hR_62 hmv
  replace hE := hE'
  clear hE' hmv hmr
  refine wpIn_ret ?_
  obtain rfl := Option.some.inj H0
  exact ret1 hI rfl rfl ⟨svL [(A_66, ([(⟨3, 0, (Fn54.f75 t_3)⟩ : Bound_row), (⟨4, 0, (Fn54.f76 t_10)⟩ : Bound_row), (⟨4, 1, (Fn54.f77 t_17)⟩ : Bound_row), (⟨5, 0, (Fn54.f75 t_24)⟩ : Bound_row), (⟨6, 0, (Fn54.f76 t_31)⟩ : Bound_row), (⟨5, 2, (Fn54.f77 t_38)⟩ : Bound_row), (⟨6, 2, (Fn54.f77 t_45)⟩ : Bound_row), (⟨7, 0, (Fn54.f61)⟩ : Bound_row), (⟨8, 0, (Fn54.f77 t_52)⟩ : Bound_row), (⟨9, 0, (Fn54.f77 t_59)⟩ : Bound_row)] : List Bound_row).length)], rfl, hE.below hI, ⟨Arr.keep hq_67 (hE.out hI), hcap_71⟩⟩

/-! ### porthole/bound.Steps: function 26 -/
noncomputable def G_bound_Steps.b1 (x0 : Config) (x1 : Request) (x2 : Answer) (t_3 : (List Bound_row)) (s1 : Int × Int) : Option (Stp (Int × Int) (Ex (Int × Int) (Int))) := (bif decide (s1.1 < (t_3.length : Int)) then (req (inb s1.1 t_3.length) (bif ((((rd t_3 s1.1).op) == x1.Op) && (((rd t_3 s1.1).code) == x2.Code)) then (match ((rd t_3 s1.1).steps : Fn54) with | .f75 c_28 => ((G_bound_in_1 x0 x1 x2 c_28).bind fun t_30 => some (.out (.ret t_30))) | .f76 c_34 => ((G_bound_out_1 x0 x1 x2 c_34).bind fun t_36 => some (.out (.ret t_36))) | .f77 c_40 => ((G_bound_some_1 x0 x1 x2 c_40).bind fun t_42 => some (.out (.ret t_42))) | .f61 => ((G_bound_status x0 x1 x2).bind fun t_46 => some (.out (.ret t_46))) ) else some (.next ((IntKind.i64.wrap (s1.1 + 1)), s1.2)))) else some (.out (.brk (s1.1, s1.2))))
noncomputable def G_bound_Steps (x0 : Config) (x1 : Request) (x2 : Answer) : Option (Int) := ((G_bound_rows).bind fun t_3 => ((loopω (G_bound_Steps.b1 x0 x1 x2 t_3) (0, 0)).bind fun o => o.on (fun s1 => some 1) (fun r => some r)))
set_option maxRecDepth 100000 in
set_option maxHeartbeats 4000000 in
theorem G_bound_Steps.calls (x0 : Config) (x1 : Request) (x2 : Answer) (sv0 : SV) (sv1 : SV) (sv2 : SV) (w : World) {S : Nat → Prop} (hx0 : (kd_Config).cont S w x0 sv0) (hx1 : (kd_Request).cont S w x1 sv1) (hx2 : (kd_Answer).cont S w x2 sv2) (r : Int) (h : G_bound_Steps x0 x1 x2 = some r) :
    Calls Try.prog 26 #[.agg ((kd_Config).cells x0 (svL [((sv0 0).1, (sv0 0).2), ((sv0 1).1, (sv0 1).2), ((sv0 2).1, (sv0 2).2), ((sv0 3).1, (sv0 3).2)])).toArray, .agg ((kd_Request).cells x1 (svL [((sv1 0).1, (sv1 0).2)])).toArray, .agg ((kd_Answer).cells x2 (svL [((sv2 0).1, (sv2 0).2)])).toArray] w fun e w' => e = .returned (.int .i64 r) ∧ Below w.heap.size w w' := by
  replace hx0 := Kd.lo _ hx0
  replace hx1 := Kd.lo _ hx1
  replace hx2 := Kd.lo _ hx2
  unfold G_bound_Steps at h
  have H0 := h
  clear h
  refine enter Try.func26 rfl [.agg ((kd_Config).cells x0 (svL [((sv0 0).1, (sv0 0).2), ((sv0 1).1, (sv0 1).2), ((sv0 2).1, (sv0 2).2), ((sv0 3).1, (sv0 3).2)])).toArray, .agg ((kd_Request).cells x1 (svL [((sv1 0).1, (sv1 0).2)])).toArray, .agg ((kd_Answer).cells x2 (svL [((sv2 0).1, (sv2 0).2)])).toArray] (n := 34) rfl (Nat.le_of_ble_eq_true rfl) (fun a hI => ?_)
  have hF : FOpen Fence.wide := .inl rfl
  have hE := Ep.start w
  refine seq_region (live := [6, 5, 4, 3, 0, 1, 2]) (orc := []) hF hI ⟨[⟨6, [], .v (.int .i64 0)⟩, ⟨5, [], .p 2 0⟩, ⟨4, [], .p 1 0⟩, ⟨3, [], .p 0 0⟩, ⟨0, [], .v (.agg ((kd_Config).cells x0 sv0).toArray)⟩, ⟨1, [], .v (.agg ((kd_Request).cells x1 sv1).toArray)⟩, ⟨2, [], .v (.agg ((kd_Answer).cells x2 sv2).toArray)⟩], [], [], [((((kd_Config).cells x0 sv0).map EV.v), 29), ((((kd_Request).cells x1 sv1).map EV.v), 49), ((((kd_Answer).cells x2 sv2).map EV.v), 52)], none, none⟩ [] (by kernel_rfl) trivial (fun ns_1 a w_2 hI _ => ?_)
  refine wpIn_seq ?_
  refine wpIn_seq ?_
  refine wpIn_region_lit ?_
  obtain ⟨hE', hmv, hmr⟩ := Ep.rebase (S0 := S) hE hI
  replace hx0 := Kd.keep _ hx0 hmv
  replace hx1 := Kd.keep _ hx1 hmv
  replace hx2 := Kd.keep _ hx2 hmv
  replace hE := hE'
  replace hI := hI.rebase
  clear hE' hmv hmr
  obtain ⟨t_3, hG_4, H0⟩ := bind_some H0
  refine callH_ (S0 := S) hF hE hI (wanted_none rfl) rfl (args := []) rfl (enters Try.func48 (by kernel_rfl) rfl) (fun sv_5 => .slice ((sv_5 0).1) t_3.length ((sv_5 0).2)) _ (G_bound_rows.calls   w_2 (S := Lo S w w_2 ns_1 [])  _ hG_4) (fun sv_5 => ⟨[⟨9, [], .v (.slice ((sv_5 0).1) t_3.length ((sv_5 0).2))⟩, ⟨6, [], .v (.int .i64 0)⟩, ⟨5, [], .p 2 0⟩, ⟨4, [], .p 1 0⟩, ⟨3, [], .p 0 0⟩, ⟨0, [], .v (.agg ((kd_Config).cells x0 sv0).toArray)⟩, ⟨1, [], .v (.agg ((kd_Request).cells x1 sv1).toArray)⟩, ⟨2, [], .v (.agg ((kd_Answer).cells x2 sv2).toArray)⟩], [], [], [((((kd_Config).cells x0 sv0).map EV.v), 29), ((((kd_Request).cells x1 sv1).map EV.v), 49), ((((kd_Answer).cells x2 sv2).map EV.v), 52)], none, none⟩) (fun sv_5 => by kernel_rfl) (fun sv_5 a w_7 hput hE' hI' hmv hmr hres hR => ?_)
  replace hx0 := Kd.keep _ hx0 hmv
  replace hx1 := Kd.keep _ hx1 hmv
  replace hx2 := Kd.keep _ hx2 hmv
  replace hE := hE'
  replace hI := hI'
  clear hE' hI' hmv hmr
  obtain ⟨hR_6, hR_6c⟩ := hR
  replace hR_6 := Arr.keep hR_6 hres
  clear hres
  refine chunkL_ (live := [11, 10, 9, 6, 5, 4, 3, 0, 1, 2]) (orc := []) hF 2 hI ⟨[⟨11, [], .v (.int .i64 0)⟩, ⟨10, [], .v (.int .i64 (t_3.length : Int))⟩, ⟨9, [], .v (.slice ((sv_5 0).1) t_3.length ((sv_5 0).2))⟩, ⟨6, [], .v (.int .i64 0)⟩, ⟨5, [], .p 2 0⟩, ⟨4, [], .p 1 0⟩, ⟨3, [], .p 0 0⟩, ⟨0, [], .v (.agg ((kd_Config).cells x0 sv0).toArray)⟩, ⟨1, [], .v (.agg ((kd_Request).cells x1 sv1).toArray)⟩, ⟨2, [], .v (.agg ((kd_Answer).cells x2 sv2).toArray)⟩], [], [], [((((kd_Config).cells x0 sv0).map EV.v), 29), ((((kd_Request).cells x1 sv1).map EV.v), 49), ((((kd_Answer).cells x2 sv2).map EV.v), 52)], none, none⟩ [] rfl (by kernel_rfl) trivial (fun ns_8 a w_9 hI => ?_)
  refine wpListIn_nil ?_
  refine then_normal ?_
  obtain ⟨hE', hmv, hmr⟩ := Ep.rebase (S0 := S) hE hI
  replace hx0 := Kd.keep _ hx0 hmv
  replace hx1 := Kd.keep _ hx1 hmv
  replace hx2 := Kd.keep _ hx2 hmv
  replace hR_6 := Arr.keep hR_6 hmv
  replace hE := hE'
  replace hI := hI.rebase
  clear hE' hmv hmr
  obtain ⟨o_52, hL_53, H0⟩ := bind_some H0
  refine block_loop (fun (s1 : Int × Int) a w_59 => ∃ (ow ns : List Nat) , ((kd_Config).cont (Lo S w w_59 ow []) w_59 x0 sv0) ∧ ((kd_Request).cont (Lo S w w_59 ow []) w_59 x1 sv1) ∧ ((kd_Answer).cont (Lo S w w_59 ow []) w_59 x2 sv2) ∧ (Arr kd_Bound_row (Lo S w w_59 ow []) w_59 (sv_5 0).1 t_3) ∧ Ep w w_59 ow [] ∧ St w_59 ow 34 ⟨[⟨11, [], .v (.int .i64 s1.1)⟩, ⟨10, [], .v (.int .i64 (t_3.length : Int))⟩, ⟨9, [], .v (.slice ((sv_5 0).1) t_3.length ((sv_5 0).2))⟩, ⟨6, [], .v (.int .i64 s1.2)⟩, ⟨5, [], .p 2 0⟩, ⟨4, [], .p 1 0⟩, ⟨3, [], .p 0 0⟩, ⟨0, [], .v (.agg ((kd_Config).cells x0 (svL [((sv0 0).1, (sv0 0).2), ((sv0 1).1, (sv0 1).2), ((sv0 2).1, (sv0 2).2), ((sv0 3).1, (sv0 3).2)])).toArray)⟩, ⟨1, [], .v (.agg ((kd_Request).cells x1 (svL [((sv1 0).1, (sv1 0).2)])).toArray)⟩, ⟨2, [], .v (.agg ((kd_Answer).cells x2 (svL [((sv2 0).1, (sv2 0).2)])).toArray)⟩], [], [], [((((kd_Config).cells x0 sv0).map EV.v), 29), ((((kd_Request).cells x1 sv1).map EV.v), 49), ((((kd_Answer).cells x2 sv2).map EV.v), 52)], none, none⟩ ns a w_59) (0, 0) hL_53 ⟨_, _, hx0, hx1, hx2, hR_6, hE, hI.pick [11, 10, 9, 6, 5, 4, 3, 0, 1, 2] 3 ⟨[⟨11, [], .v (.int .i64 0)⟩, ⟨10, [], .v (.int .i64 (t_3.length : Int))⟩, ⟨9, [], .v (.slice ((sv_5 0).1) t_3.length ((sv_5 0).2))⟩, ⟨6, [], .v (.int .i64 0)⟩, ⟨5, [], .p 2 0⟩, ⟨4, [], .p 1 0⟩, ⟨3, [], .p 0 0⟩, ⟨0, [], .v (.agg ((kd_Config).cells x0 (svL [((sv0 0).1, (sv0 0).2), ((sv0 1).1, (sv0 1).2), ((sv0 2).1, (sv0 2).2), ((sv0 3).1, (sv0 3).2)])).toArray)⟩, ⟨1, [], .v (.agg ((kd_Request).cells x1 (svL [((sv1 0).1, (sv1 0).2)])).toArray)⟩, ⟨2, [], .v (.agg ((kd_Answer).cells x2 (svL [((sv2 0).1, (sv2 0).2)])).toArray)⟩], [], [], [((((kd_Config).cells x0 sv0).map EV.v), 29), ((((kd_Request).cells x1 sv1).map EV.v), 49), ((((kd_Answer).cells x2 sv2).map EV.v), 52)], none, none⟩ (by kernel_rfl)⟩ ?_ ?_
  · clear hI hE
    rintro s1 a w_10 ⟨ow_12, ns_11, hx0, hx1, hx2, hR_6, hE, hI⟩ r1 H1
    unfold G_bound_Steps.b1 at H1
    refine seq_region (live := [12, 11, 10, 9, 6, 5, 4, 3, 0, 1, 2]) (orc := []) hF hI ⟨[⟨12, [], .v (.bool (decide (s1.1 < (t_3.length : Int))))⟩, ⟨11, [], .v (.int .i64 s1.1)⟩, ⟨10, [], .v (.int .i64 (t_3.length : Int))⟩, ⟨9, [], .v (.slice ((sv_5 0).1) t_3.length ((sv_5 0).2))⟩, ⟨6, [], .v (.int .i64 s1.2)⟩, ⟨5, [], .p 2 0⟩, ⟨4, [], .p 1 0⟩, ⟨3, [], .p 0 0⟩, ⟨0, [], .v (.agg ((kd_Config).cells x0 sv0).toArray)⟩, ⟨1, [], .v (.agg ((kd_Request).cells x1 sv1).toArray)⟩, ⟨2, [], .v (.agg ((kd_Answer).cells x2 sv2).toArray)⟩], [], [], [((((kd_Config).cells x0 sv0).map EV.v), 29), ((((kd_Request).cells x1 sv1).map EV.v), 49), ((((kd_Answer).cells x2 sv2).map EV.v), 52)], none, none⟩ [] (by kernel_rfl) trivial (fun ns_13 a w_14 hI _ => ?_)
    refine wpIn_seq ?_
    refine cond_ hI (decide (s1.1 < (t_3.length : Int))) rfl (fun hc_15 => ?_) (fun hc_15 => ?_)
    · replace H1 := bif_t hc_15 H1
      refine wpIn_skip ?_
      refine then_normal ?_
      refine wpIn_seq ?_
      refine wpIn_block ?_
      obtain ⟨hN_16, H1⟩ := req_some H1
      obtain ⟨sv_17, hE_19, hA_18⟩ := Arr.elB (d := kd_Bound_row) hR_6 s1.1 true (fun _ => hN_16)
      replace hE_19 := hE_19 rfl
      replace hA_18 := fun (_ : true = true) => hA_18 rfl
      refine seq_region (live := [8, 12, 11, 10, 9, 6, 5, 4, 3, 0, 1, 2]) (orc := [(kd_Bound_row).cells (rd t_3 s1.1) sv_17]) hF hI ⟨[⟨8, [], .p 3 0⟩, ⟨12, [], .v (.bool (decide (s1.1 < (t_3.length : Int))))⟩, ⟨11, [], .v (.int .i64 s1.1)⟩, ⟨10, [], .v (.int .i64 (t_3.length : Int))⟩, ⟨9, [], .v (.slice ((sv_5 0).1) t_3.length ((sv_5 0).2))⟩, ⟨6, [], .v (.int .i64 s1.2)⟩, ⟨5, [], .p 2 0⟩, ⟨4, [], .p 1 0⟩, ⟨3, [], .p 0 0⟩, ⟨0, [], .v (.agg ((kd_Config).cells x0 sv0).toArray)⟩, ⟨1, [], .v (.agg ((kd_Request).cells x1 sv1).toArray)⟩, ⟨2, [], .v (.agg ((kd_Answer).cells x2 sv2).toArray)⟩], [], [], [((((kd_Config).cells x0 sv0).map EV.v), 29), ((((kd_Request).cells x1 sv1).map EV.v), 49), ((((kd_Answer).cells x2 sv2).map EV.v), 52), ((((kd_Bound_row).cells (rd t_3 s1.1) sv_17).map EV.v), 95)], none, none⟩ [.need true (0 ≤ s1.1 ∧ s1.1 < (t_3.length : Int)), .need true ((sv_5 0).1 = some (adr ((sv_5 0).1))), .cell true ((adr ((sv_5 0).1)).add ((s1.1 : Int).toNat * 3)) ((kd_Bound_row).cells (rd t_3 s1.1) sv_17)] (by kernel_rfl) ⟨ob_inb (fun _ => hN_16), hA_18, ob_el (fun _ => hE_19) 0 ((kd_Bound_row).cells (rd t_3 s1.1) sv_17) rfl, trivial⟩ (fun ns_20 a w_21 hI _ => ?_)
      refine seq_region (live := [26, 8, 12, 11, 10, 9, 6, 5, 4, 3, 0, 1, 2]) (orc := []) hF hI ⟨[⟨26, [], .v (.bool ((((rd t_3 s1.1).op) == x1.Op) && (((rd t_3 s1.1).code) == x2.Code)))⟩, ⟨8, [], .p 3 0⟩, ⟨12, [], .v (.bool (decide (s1.1 < (t_3.length : Int))))⟩, ⟨11, [], .v (.int .i64 s1.1)⟩, ⟨10, [], .v (.int .i64 (t_3.length : Int))⟩, ⟨9, [], .v (.slice ((sv_5 0).1) t_3.length ((sv_5 0).2))⟩, ⟨6, [], .v (.int .i64 s1.2)⟩, ⟨5, [], .p 2 0⟩, ⟨4, [], .p 1 0⟩, ⟨3, [], .p 0 0⟩, ⟨0, [], .v (.agg ((kd_Config).cells x0 sv0).toArray)⟩, ⟨1, [], .v (.agg ((kd_Request).cells x1 sv1).toArray)⟩, ⟨2, [], .v (.agg ((kd_Answer).cells x2 sv2).toArray)⟩], [], [], [((((kd_Config).cells x0 sv0).map EV.v), 29), ((((kd_Request).cells x1 sv1).map EV.v), 49), ((((kd_Answer).cells x2 sv2).map EV.v), 52), ((((kd_Bound_row).cells (rd t_3 s1.1) sv_17).map EV.v), 95)], none, none⟩ [] (by kernel_rfl) trivial (fun ns_22 a w_23 hI _ => ?_)
      refine cond_ hI (((((rd t_3 s1.1).op) == x1.Op) && (((rd t_3 s1.1).code) == x2.Code))) rfl (fun hc_24 => ?_) (fun hc_24 => ?_)
      · replace H1 := bif_t hc_24 H1
        refine wpIn_seq ?_
        refine wpIn_region_lit ?_
        refine chunkL_ (live := [31, 30, 29, 28, 26, 8, 12, 11, 10, 9, 6, 5, 4, 3, 0, 1, 2]) (orc := []) hF 5 hI ⟨[⟨31, [], .v (.agg ((kd_Answer).cells x2 sv2).toArray)⟩, ⟨30, [], .v (.agg ((kd_Request).cells x1 sv1).toArray)⟩, ⟨29, [], .v (.agg ((kd_Config).cells x0 sv0).toArray)⟩, ⟨28, [], .v (fnv54 ((rd t_3 s1.1).steps) sv_17)⟩, ⟨26, [], .v (.bool ((((rd t_3 s1.1).op) == x1.Op) && (((rd t_3 s1.1).code) == x2.Code)))⟩, ⟨8, [], .p 3 0⟩, ⟨12, [], .v (.bool (decide (s1.1 < (t_3.length : Int))))⟩, ⟨11, [], .v (.int .i64 s1.1)⟩, ⟨10, [], .v (.int .i64 (t_3.length : Int))⟩, ⟨9, [], .v (.slice ((sv_5 0).1) t_3.length ((sv_5 0).2))⟩, ⟨6, [], .v (.int .i64 s1.2)⟩, ⟨5, [], .p 2 0⟩, ⟨4, [], .p 1 0⟩, ⟨3, [], .p 0 0⟩, ⟨0, [], .v (.agg ((kd_Config).cells x0 sv0).toArray)⟩, ⟨1, [], .v (.agg ((kd_Request).cells x1 sv1).toArray)⟩, ⟨2, [], .v (.agg ((kd_Answer).cells x2 sv2).toArray)⟩], [], [], [((((kd_Config).cells x0 sv0).map EV.v), 29), ((((kd_Request).cells x1 sv1).map EV.v), 49), ((((kd_Answer).cells x2 sv2).map EV.v), 52), ((((kd_Bound_row).cells (rd t_3 s1.1) sv_17).map EV.v), 95)], none, none⟩ [] rfl (by kernel_rfl) trivial (fun ns_25 a w_26 hI => ?_)
        rcases hfx_27 : ((rd t_3 s1.1).steps : Fn54) with c_28 | c_34 | c_40 | _
        · rw [hfx_27] at H1
          rw [hfx_27] at hI
          have hB_29 : El (Kd.int .i64) _ _ (adr (sv_17 0).1) c_28 (svO sv_17 1) := (fnr54 (hE_19).cont.1 hfx_27)
          replace H1 : (((G_bound_in_1 x0 x1 x2 c_28).bind fun t_30 => some (.out (.ret t_30))) : Option (Stp (Int × Int) (Ex (Int × Int) (Int)))) = _ := H1
          obtain ⟨t_30, hG_31, H1⟩ := bind_some H1
          refine chunkL_ (live := [6, 26, 8, 12, 11, 10, 9, 5, 4, 3, 0, 1, 2]) (orc := [[.int .i64 t_30]]) hF 2 hI ⟨[⟨6, [], .v (.int .i64 t_30)⟩, ⟨26, [], .v (.bool ((((rd t_3 s1.1).op) == x1.Op) && (((rd t_3 s1.1).code) == x2.Code)))⟩, ⟨8, [], .p 3 0⟩, ⟨12, [], .v (.bool (decide (s1.1 < (t_3.length : Int))))⟩, ⟨11, [], .v (.int .i64 s1.1)⟩, ⟨10, [], .v (.int .i64 (t_3.length : Int))⟩, ⟨9, [], .v (.slice ((sv_5 0).1) t_3.length ((sv_5 0).2))⟩, ⟨5, [], .p 2 0⟩, ⟨4, [], .p 1 0⟩, ⟨3, [], .p 0 0⟩, ⟨0, [], .v (.agg ((kd_Config).cells x0 (svL [((sv0 0).1, (sv0 0).2), ((sv0 1).1, (sv0 1).2), ((sv0 2).1, (sv0 2).2), ((sv0 3).1, (sv0 3).2)])).toArray)⟩, ⟨1, [], .v (.agg ((kd_Request).cells x1 (svL [((sv1 0).1, (sv1 0).2)])).toArray)⟩, ⟨2, [], .v (.agg ((kd_Answer).cells x2 (svL [((sv2 0).1, (sv2 0).2)])).toArray)⟩], [], [], [((((kd_Config).cells x0 sv0).map EV.v), 29), ((((kd_Request).cells x1 sv1).map EV.v), 49), ((((kd_Answer).cells x2 sv2).map EV.v), 52), ((((kd_Bound_row).cells (rd t_3 s1.1) sv_17).map EV.v), 95)], none, none⟩ [.call true 75 [.agg ((kd_Config).cells x0 (svL [((sv0 0).1, (sv0 0).2), ((sv0 1).1, (sv0 1).2), ((sv0 2).1, (sv0 2).2), ((sv0 3).1, (sv0 3).2)])).toArray, .agg ((kd_Request).cells x1 (svL [((sv1 0).1, (sv1 0).2)])).toArray, .agg ((kd_Answer).cells x2 (svL [((sv2 0).1, (sv2 0).2)])).toArray, .pointer (some (adr (sv_17 0).1))] (.int .i64 t_30)] rfl (by kernel_rfl) ⟨ob_call (enters Try.func75 (by kernel_rfl) rfl) (fun hg wz hk => G_bound_in_1.calls x0 x1 x2 c_28 (svL [((sv0 0).1, (sv0 0).2), ((sv0 1).1, (sv0 1).2), ((sv0 2).1, (sv0 2).2), ((sv0 3).1, (sv0 3).2)]) (svL [((sv1 0).1, (sv1 0).2)]) (svL [((sv2 0).1, (sv2 0).2)]) (adr (sv_17 0).1) (svO sv_17 1) wz (S := fun _ => True) (Kd.any _ (Kd.keep kd_Config (contI (S := Lo S w w_10 ow_12 []) (w := w_10) (d := kd_Config) (x := x0) (sv := (svL [((sv0 0).1, (sv0 0).2), ((sv0 1).1, (sv0 1).2), ((sv0 2).1, (sv0 2).2), ((sv0 3).1, (sv0 3).2)])) ⟨⟨hx0.1.1, hx0.1.2⟩, ⟨hx0.2.1.1, hx0.2.1.2⟩, ⟨hx0.2.2.1.1, hx0.2.2.1.2⟩, ⟨hx0.2.2.2.1.1, hx0.2.2.2.1.2⟩, trivial⟩) (Lo.on hk))) (Kd.any _ (Kd.keep kd_Request (contI (S := Lo S w w_10 ow_12 []) (w := w_10) (d := kd_Request) (x := x1) (sv := (svL [((sv1 0).1, (sv1 0).2)])) ⟨⟨hx1.1.1, hx1.1.2⟩, trivial⟩) (Lo.on hk))) (Kd.any _ (Kd.keep kd_Answer (contI (S := Lo S w w_10 ow_12 []) (w := w_10) (d := kd_Answer) (x := x2) (sv := (svL [((sv2 0).1, (sv2 0).2)])) ⟨⟨hx2.1.1, hx2.1.2⟩, trivial⟩) (Lo.on hk))) (El.any (El.keep hB_29 (Lo.on hk))) _ hG_31), trivial⟩ (fun ns_32 a w_33 hI => ?_)
          refine wpListIn_nil ?_
          refine then_normal ?_
          refine wpIn_ret ?_
          refine inBlock_ret ?_
          refine then_ret ?_
          refine then_ret ?_
          obtain rfl := Option.some.inj H1
          refine .inr ⟨_, rfl, fun ho => ?_⟩
          subst ho
          refine inBlock_ret ?_
          refine then_ret ?_
          obtain rfl := Option.some.inj H0
          exact ret1 hI rfl rfl ⟨rfl, hE.below hI⟩
        · rw [hfx_27] at H1
          rw [hfx_27] at hI
          have hB_35 : El (Kd.int .i64) _ _ (adr (sv_17 0).1) c_34 (svO sv_17 1) := (fnr54 (hE_19).cont.1 hfx_27)
          replace H1 : (((G_bound_out_1 x0 x1 x2 c_34).bind fun t_36 => some (.out (.ret t_36))) : Option (Stp (Int × Int) (Ex (Int × Int) (Int)))) = _ := H1
          obtain ⟨t_36, hG_37, H1⟩ := bind_some H1
          refine chunkL_ (live := [6, 26, 8, 12, 11, 10, 9, 5, 4, 3, 0, 1, 2]) (orc := [[.int .i64 t_36]]) hF 2 hI ⟨[⟨6, [], .v (.int .i64 t_36)⟩, ⟨26, [], .v (.bool ((((rd t_3 s1.1).op) == x1.Op) && (((rd t_3 s1.1).code) == x2.Code)))⟩, ⟨8, [], .p 3 0⟩, ⟨12, [], .v (.bool (decide (s1.1 < (t_3.length : Int))))⟩, ⟨11, [], .v (.int .i64 s1.1)⟩, ⟨10, [], .v (.int .i64 (t_3.length : Int))⟩, ⟨9, [], .v (.slice ((sv_5 0).1) t_3.length ((sv_5 0).2))⟩, ⟨5, [], .p 2 0⟩, ⟨4, [], .p 1 0⟩, ⟨3, [], .p 0 0⟩, ⟨0, [], .v (.agg ((kd_Config).cells x0 (svL [((sv0 0).1, (sv0 0).2), ((sv0 1).1, (sv0 1).2), ((sv0 2).1, (sv0 2).2), ((sv0 3).1, (sv0 3).2)])).toArray)⟩, ⟨1, [], .v (.agg ((kd_Request).cells x1 (svL [((sv1 0).1, (sv1 0).2)])).toArray)⟩, ⟨2, [], .v (.agg ((kd_Answer).cells x2 (svL [((sv2 0).1, (sv2 0).2)])).toArray)⟩], [], [], [((((kd_Config).cells x0 sv0).map EV.v), 29), ((((kd_Request).cells x1 sv1).map EV.v), 49), ((((kd_Answer).cells x2 sv2).map EV.v), 52), ((((kd_Bound_row).cells (rd t_3 s1.1) sv_17).map EV.v), 95)], none, none⟩ [.call true 76 [.agg ((kd_Config).cells x0 (svL [((sv0 0).1, (sv0 0).2), ((sv0 1).1, (sv0 1).2), ((sv0 2).1, (sv0 2).2), ((sv0 3).1, (sv0 3).2)])).toArray, .agg ((kd_Request).cells x1 (svL [((sv1 0).1, (sv1 0).2)])).toArray, .agg ((kd_Answer).cells x2 (svL [((sv2 0).1, (sv2 0).2)])).toArray, .pointer (some (adr (sv_17 0).1))] (.int .i64 t_36)] rfl (by kernel_rfl) ⟨ob_call (enters Try.func76 (by kernel_rfl) rfl) (fun hg wz hk => G_bound_out_1.calls x0 x1 x2 c_34 (svL [((sv0 0).1, (sv0 0).2), ((sv0 1).1, (sv0 1).2), ((sv0 2).1, (sv0 2).2), ((sv0 3).1, (sv0 3).2)]) (svL [((sv1 0).1, (sv1 0).2)]) (svL [((sv2 0).1, (sv2 0).2)]) (adr (sv_17 0).1) (svO sv_17 1) wz (S := fun _ => True) (Kd.any _ (Kd.keep kd_Config (contI (S := Lo S w w_10 ow_12 []) (w := w_10) (d := kd_Config) (x := x0) (sv := (svL [((sv0 0).1, (sv0 0).2), ((sv0 1).1, (sv0 1).2), ((sv0 2).1, (sv0 2).2), ((sv0 3).1, (sv0 3).2)])) ⟨⟨hx0.1.1, hx0.1.2⟩, ⟨hx0.2.1.1, hx0.2.1.2⟩, ⟨hx0.2.2.1.1, hx0.2.2.1.2⟩, ⟨hx0.2.2.2.1.1, hx0.2.2.2.1.2⟩, trivial⟩) (Lo.on hk))) (Kd.any _ (Kd.keep kd_Request (contI (S := Lo S w w_10 ow_12 []) (w := w_10) (d := kd_Request) (x := x1) (sv := (svL [((sv1 0).1, (sv1 0).2)])) ⟨⟨hx1.1.1, hx1.1.2⟩, trivial⟩) (Lo.on hk))) (Kd.any _ (Kd.keep kd_Answer (contI (S := Lo S w w_10 ow_12 []) (w := w_10) (d := kd_Answer) (x := x2) (sv := (svL [((sv2 0).1, (sv2 0).2)])) ⟨⟨hx2.1.1, hx2.1.2⟩, trivial⟩) (Lo.on hk))) (El.any (El.keep hB_35 (Lo.on hk))) _ hG_37), trivial⟩ (fun ns_38 a w_39 hI => ?_)
          refine wpListIn_nil ?_
          refine then_normal ?_
          refine wpIn_ret ?_
          refine inBlock_ret ?_
          refine then_ret ?_
          refine then_ret ?_
          obtain rfl := Option.some.inj H1
          refine .inr ⟨_, rfl, fun ho => ?_⟩
          subst ho
          refine inBlock_ret ?_
          refine then_ret ?_
          obtain rfl := Option.some.inj H0
          exact ret1 hI rfl rfl ⟨rfl, hE.below hI⟩
        · rw [hfx_27] at H1
          rw [hfx_27] at hI
          have hB_41 : El (Kd.int .i64) _ _ (adr (sv_17 0).1) c_40 (svO sv_17 1) := (fnr54 (hE_19).cont.1 hfx_27)
          replace H1 : (((G_bound_some_1 x0 x1 x2 c_40).bind fun t_42 => some (.out (.ret t_42))) : Option (Stp (Int × Int) (Ex (Int × Int) (Int)))) = _ := H1
          obtain ⟨t_42, hG_43, H1⟩ := bind_some H1
          refine chunkL_ (live := [6, 26, 8, 12, 11, 10, 9, 5, 4, 3, 0, 1, 2]) (orc := [[.int .i64 t_42]]) hF 2 hI ⟨[⟨6, [], .v (.int .i64 t_42)⟩, ⟨26, [], .v (.bool ((((rd t_3 s1.1).op) == x1.Op) && (((rd t_3 s1.1).code) == x2.Code)))⟩, ⟨8, [], .p 3 0⟩, ⟨12, [], .v (.bool (decide (s1.1 < (t_3.length : Int))))⟩, ⟨11, [], .v (.int .i64 s1.1)⟩, ⟨10, [], .v (.int .i64 (t_3.length : Int))⟩, ⟨9, [], .v (.slice ((sv_5 0).1) t_3.length ((sv_5 0).2))⟩, ⟨5, [], .p 2 0⟩, ⟨4, [], .p 1 0⟩, ⟨3, [], .p 0 0⟩, ⟨0, [], .v (.agg ((kd_Config).cells x0 (svL [((sv0 0).1, (sv0 0).2), ((sv0 1).1, (sv0 1).2), ((sv0 2).1, (sv0 2).2), ((sv0 3).1, (sv0 3).2)])).toArray)⟩, ⟨1, [], .v (.agg ((kd_Request).cells x1 (svL [((sv1 0).1, (sv1 0).2)])).toArray)⟩, ⟨2, [], .v (.agg ((kd_Answer).cells x2 (svL [((sv2 0).1, (sv2 0).2)])).toArray)⟩], [], [], [((((kd_Config).cells x0 sv0).map EV.v), 29), ((((kd_Request).cells x1 sv1).map EV.v), 49), ((((kd_Answer).cells x2 sv2).map EV.v), 52), ((((kd_Bound_row).cells (rd t_3 s1.1) sv_17).map EV.v), 95)], none, none⟩ [.call true 77 [.agg ((kd_Config).cells x0 (svL [((sv0 0).1, (sv0 0).2), ((sv0 1).1, (sv0 1).2), ((sv0 2).1, (sv0 2).2), ((sv0 3).1, (sv0 3).2)])).toArray, .agg ((kd_Request).cells x1 (svL [((sv1 0).1, (sv1 0).2)])).toArray, .agg ((kd_Answer).cells x2 (svL [((sv2 0).1, (sv2 0).2)])).toArray, .pointer (some (adr (sv_17 0).1))] (.int .i64 t_42)] rfl (by kernel_rfl) ⟨ob_call (enters Try.func77 (by kernel_rfl) rfl) (fun hg wz hk => G_bound_some_1.calls x0 x1 x2 c_40 (svL [((sv0 0).1, (sv0 0).2), ((sv0 1).1, (sv0 1).2), ((sv0 2).1, (sv0 2).2), ((sv0 3).1, (sv0 3).2)]) (svL [((sv1 0).1, (sv1 0).2)]) (svL [((sv2 0).1, (sv2 0).2)]) (adr (sv_17 0).1) (svO sv_17 1) wz (S := fun _ => True) (Kd.any _ (Kd.keep kd_Config (contI (S := Lo S w w_10 ow_12 []) (w := w_10) (d := kd_Config) (x := x0) (sv := (svL [((sv0 0).1, (sv0 0).2), ((sv0 1).1, (sv0 1).2), ((sv0 2).1, (sv0 2).2), ((sv0 3).1, (sv0 3).2)])) ⟨⟨hx0.1.1, hx0.1.2⟩, ⟨hx0.2.1.1, hx0.2.1.2⟩, ⟨hx0.2.2.1.1, hx0.2.2.1.2⟩, ⟨hx0.2.2.2.1.1, hx0.2.2.2.1.2⟩, trivial⟩) (Lo.on hk))) (Kd.any _ (Kd.keep kd_Request (contI (S := Lo S w w_10 ow_12 []) (w := w_10) (d := kd_Request) (x := x1) (sv := (svL [((sv1 0).1, (sv1 0).2)])) ⟨⟨hx1.1.1, hx1.1.2⟩, trivial⟩) (Lo.on hk))) (Kd.any _ (Kd.keep kd_Answer (contI (S := Lo S w w_10 ow_12 []) (w := w_10) (d := kd_Answer) (x := x2) (sv := (svL [((sv2 0).1, (sv2 0).2)])) ⟨⟨hx2.1.1, hx2.1.2⟩, trivial⟩) (Lo.on hk))) (El.any (El.keep hB_41 (Lo.on hk))) _ hG_43), trivial⟩ (fun ns_44 a w_45 hI => ?_)
          refine wpListIn_nil ?_
          refine then_normal ?_
          refine wpIn_ret ?_
          refine inBlock_ret ?_
          refine then_ret ?_
          refine then_ret ?_
          obtain rfl := Option.some.inj H1
          refine .inr ⟨_, rfl, fun ho => ?_⟩
          subst ho
          refine inBlock_ret ?_
          refine then_ret ?_
          obtain rfl := Option.some.inj H0
          exact ret1 hI rfl rfl ⟨rfl, hE.below hI⟩
        · rw [hfx_27] at H1
          rw [hfx_27] at hI
          replace H1 : (((G_bound_status x0 x1 x2).bind fun t_46 => some (.out (.ret t_46))) : Option (Stp (Int × Int) (Ex (Int × Int) (Int)))) = _ := H1
          obtain ⟨t_46, hG_47, H1⟩ := bind_some H1
          refine chunkL_ (live := [6, 26, 8, 12, 11, 10, 9, 5, 4, 3, 0, 1, 2]) (orc := [[.int .i64 t_46]]) hF 2 hI ⟨[⟨6, [], .v (.int .i64 t_46)⟩, ⟨26, [], .v (.bool ((((rd t_3 s1.1).op) == x1.Op) && (((rd t_3 s1.1).code) == x2.Code)))⟩, ⟨8, [], .p 3 0⟩, ⟨12, [], .v (.bool (decide (s1.1 < (t_3.length : Int))))⟩, ⟨11, [], .v (.int .i64 s1.1)⟩, ⟨10, [], .v (.int .i64 (t_3.length : Int))⟩, ⟨9, [], .v (.slice ((sv_5 0).1) t_3.length ((sv_5 0).2))⟩, ⟨5, [], .p 2 0⟩, ⟨4, [], .p 1 0⟩, ⟨3, [], .p 0 0⟩, ⟨0, [], .v (.agg ((kd_Config).cells x0 (svL [((sv0 0).1, (sv0 0).2), ((sv0 1).1, (sv0 1).2), ((sv0 2).1, (sv0 2).2), ((sv0 3).1, (sv0 3).2)])).toArray)⟩, ⟨1, [], .v (.agg ((kd_Request).cells x1 (svL [((sv1 0).1, (sv1 0).2)])).toArray)⟩, ⟨2, [], .v (.agg ((kd_Answer).cells x2 (svL [((sv2 0).1, (sv2 0).2)])).toArray)⟩], [], [], [((((kd_Config).cells x0 sv0).map EV.v), 29), ((((kd_Request).cells x1 sv1).map EV.v), 49), ((((kd_Answer).cells x2 sv2).map EV.v), 52), ((((kd_Bound_row).cells (rd t_3 s1.1) sv_17).map EV.v), 95)], none, none⟩ [.call true 61 [.agg ((kd_Config).cells x0 (svL [((sv0 0).1, (sv0 0).2), ((sv0 1).1, (sv0 1).2), ((sv0 2).1, (sv0 2).2), ((sv0 3).1, (sv0 3).2)])).toArray, .agg ((kd_Request).cells x1 (svL [((sv1 0).1, (sv1 0).2)])).toArray, .agg ((kd_Answer).cells x2 (svL [((sv2 0).1, (sv2 0).2)])).toArray] (.int .i64 t_46)] rfl (by kernel_rfl) ⟨ob_call (enters Try.func61 (by kernel_rfl) rfl) (fun hg wz hk => G_bound_status.calls x0 x1 x2 (svL [((sv0 0).1, (sv0 0).2), ((sv0 1).1, (sv0 1).2), ((sv0 2).1, (sv0 2).2), ((sv0 3).1, (sv0 3).2)]) (svL [((sv1 0).1, (sv1 0).2)]) (svL [((sv2 0).1, (sv2 0).2)]) wz (S := fun _ => True) (Kd.any _ (Kd.keep kd_Config (contI (S := Lo S w w_10 ow_12 []) (w := w_10) (d := kd_Config) (x := x0) (sv := (svL [((sv0 0).1, (sv0 0).2), ((sv0 1).1, (sv0 1).2), ((sv0 2).1, (sv0 2).2), ((sv0 3).1, (sv0 3).2)])) ⟨⟨hx0.1.1, hx0.1.2⟩, ⟨hx0.2.1.1, hx0.2.1.2⟩, ⟨hx0.2.2.1.1, hx0.2.2.1.2⟩, ⟨hx0.2.2.2.1.1, hx0.2.2.2.1.2⟩, trivial⟩) (Lo.on hk))) (Kd.any _ (Kd.keep kd_Request (contI (S := Lo S w w_10 ow_12 []) (w := w_10) (d := kd_Request) (x := x1) (sv := (svL [((sv1 0).1, (sv1 0).2)])) ⟨⟨hx1.1.1, hx1.1.2⟩, trivial⟩) (Lo.on hk))) (Kd.any _ (Kd.keep kd_Answer (contI (S := Lo S w w_10 ow_12 []) (w := w_10) (d := kd_Answer) (x := x2) (sv := (svL [((sv2 0).1, (sv2 0).2)])) ⟨⟨hx2.1.1, hx2.1.2⟩, trivial⟩) (Lo.on hk))) _ hG_47), trivial⟩ (fun ns_48 a w_49 hI => ?_)
          refine wpListIn_nil ?_
          refine then_normal ?_
          refine wpIn_ret ?_
          refine inBlock_ret ?_
          refine then_ret ?_
          refine then_ret ?_
          obtain rfl := Option.some.inj H1
          refine .inr ⟨_, rfl, fun ho => ?_⟩
          subst ho
          refine inBlock_ret ?_
          refine then_ret ?_
          obtain rfl := Option.some.inj H0
          exact ret1 hI rfl rfl ⟨rfl, hE.below hI⟩
      · replace H1 := bif_f hc_24 H1
        refine wpIn_skip ?_
        refine inBlock_normal ?_
        refine then_normal ?_
        refine region_ (live := [11, 26, 8, 12, 10, 9, 6, 5, 4, 3, 0, 1, 2]) (orc := []) hF hI ⟨[⟨11, [], .v (.int .i64 (IntKind.i64.wrap (s1.1 + 1)))⟩, ⟨26, [], .v (.bool ((((rd t_3 s1.1).op) == x1.Op) && (((rd t_3 s1.1).code) == x2.Code)))⟩, ⟨8, [], .p 3 0⟩, ⟨12, [], .v (.bool (decide (s1.1 < (t_3.length : Int))))⟩, ⟨10, [], .v (.int .i64 (t_3.length : Int))⟩, ⟨9, [], .v (.slice ((sv_5 0).1) t_3.length ((sv_5 0).2))⟩, ⟨6, [], .v (.int .i64 s1.2)⟩, ⟨5, [], .p 2 0⟩, ⟨4, [], .p 1 0⟩, ⟨3, [], .p 0 0⟩, ⟨0, [], .v (.agg ((kd_Config).cells x0 (svL [((sv0 0).1, (sv0 0).2), ((sv0 1).1, (sv0 1).2), ((sv0 2).1, (sv0 2).2), ((sv0 3).1, (sv0 3).2)])).toArray)⟩, ⟨1, [], .v (.agg ((kd_Request).cells x1 (svL [((sv1 0).1, (sv1 0).2)])).toArray)⟩, ⟨2, [], .v (.agg ((kd_Answer).cells x2 (svL [((sv2 0).1, (sv2 0).2)])).toArray)⟩], [], [], [((((kd_Config).cells x0 sv0).map EV.v), 29), ((((kd_Request).cells x1 sv1).map EV.v), 49), ((((kd_Answer).cells x2 sv2).map EV.v), 52), ((((kd_Bound_row).cells (rd t_3 s1.1) sv_17).map EV.v), 95)], none, none⟩ [] (by kernel_rfl) trivial (fun ns_50 a w_51 hI _ => ?_)
        refine then_normal ?_
        obtain ⟨hE', hmv, hmr⟩ := Ep.rebase (S0 := S) hE hI
        replace hx0 := Kd.keep _ hx0 hmv
        replace hx1 := Kd.keep _ hx1 hmv
        replace hx2 := Kd.keep _ hx2 hmv
        replace hR_6 := Arr.keep hR_6 hmv
        replace hE_19 := El.keep hE_19 hmv
        replace hE := hE'
        replace hI := hI.rebase
        clear hE' hmv hmr
        obtain rfl := Option.some.inj H1
        exact ⟨_, rfl, ⟨_, _, hx0, hx1, hx2, hR_6, hE, hI.pick [11, 10, 9, 6, 5, 4, 3, 0, 1, 2] 3 ⟨[⟨11, [], .v (.int .i64 (IntKind.i64.wrap (s1.1 + 1)))⟩, ⟨10, [], .v (.int .i64 (t_3.length : Int))⟩, ⟨9, [], .v (.slice ((sv_5 0).1) t_3.length ((sv_5 0).2))⟩, ⟨6, [], .v (.int .i64 s1.2)⟩, ⟨5, [], .p 2 0⟩, ⟨4, [], .p 1 0⟩, ⟨3, [], .p 0 0⟩, ⟨0, [], .v (.agg ((kd_Config).cells x0 (svL [((sv0 0).1, (sv0 0).2), ((sv0 1).1, (sv0 1).2), ((sv0 2).1, (sv0 2).2), ((sv0 3).1, (sv0 3).2)])).toArray)⟩, ⟨1, [], .v (.agg ((kd_Request).cells x1 (svL [((sv1 0).1, (sv1 0).2)])).toArray)⟩, ⟨2, [], .v (.agg ((kd_Answer).cells x2 (svL [((sv2 0).1, (sv2 0).2)])).toArray)⟩], [], [], [((((kd_Config).cells x0 sv0).map EV.v), 29), ((((kd_Request).cells x1 sv1).map EV.v), 49), ((((kd_Answer).cells x2 sv2).map EV.v), 52)], none, none⟩ (by kernel_rfl)⟩⟩
    · replace H1 := bif_f hc_15 H1
      refine wpIn_exit ?_
      refine then_exit ?_
      refine then_exit ?_
      obtain ⟨hE', hmv, hmr⟩ := Ep.rebase (S0 := S) hE hI
      replace hx0 := Kd.keep _ hx0 hmv
      replace hx1 := Kd.keep _ hx1 hmv
      replace hx2 := Kd.keep _ hx2 hmv
      replace hR_6 := Arr.keep hR_6 hmv
      replace hE := hE'
      replace hI := hI.rebase
      clear hE' hmv hmr
      obtain rfl := Option.some.inj H1
      exact .inl ⟨_, rfl, rfl, ⟨_, _, hx0, hx1, hx2, hR_6, hE, hI.pick [11, 10, 9, 6, 5, 4, 3, 0, 1, 2] 3 ⟨[⟨11, [], .v (.int .i64 s1.1)⟩, ⟨10, [], .v (.int .i64 (t_3.length : Int))⟩, ⟨9, [], .v (.slice ((sv_5 0).1) t_3.length ((sv_5 0).2))⟩, ⟨6, [], .v (.int .i64 s1.2)⟩, ⟨5, [], .p 2 0⟩, ⟨4, [], .p 1 0⟩, ⟨3, [], .p 0 0⟩, ⟨0, [], .v (.agg ((kd_Config).cells x0 (svL [((sv0 0).1, (sv0 0).2), ((sv0 1).1, (sv0 1).2), ((sv0 2).1, (sv0 2).2), ((sv0 3).1, (sv0 3).2)])).toArray)⟩, ⟨1, [], .v (.agg ((kd_Request).cells x1 (svL [((sv1 0).1, (sv1 0).2)])).toArray)⟩, ⟨2, [], .v (.agg ((kd_Answer).cells x2 (svL [((sv2 0).1, (sv2 0).2)])).toArray)⟩], [], [], [((((kd_Config).cells x0 sv0).map EV.v), 29), ((((kd_Request).cells x1 sv1).map EV.v), 49), ((((kd_Answer).cells x2 sv2).map EV.v), 52)], none, none⟩ (by kernel_rfl)⟩⟩
  · clear hI hE
    rintro s1 a w_54 ho ⟨ow_56, ns_55, hx0, hx1, hx2, hR_6, hE, hI⟩
    subst ho
    replace H0 : (some 1 : Option (Int)) = _ := H0
    refine then_normal ?_
    refine seq_region (live := [6, 11, 10, 9, 5, 4, 3, 0, 1, 2]) (orc := []) hF hI ⟨[⟨6, [], .v (.int .i64 1)⟩, ⟨11, [], .v (.int .i64 s1.1)⟩, ⟨10, [], .v (.int .i64 (t_3.length : Int))⟩, ⟨9, [], .v (.slice ((sv_5 0).1) t_3.length ((sv_5 0).2))⟩, ⟨5, [], .p 2 0⟩, ⟨4, [], .p 1 0⟩, ⟨3, [], .p 0 0⟩, ⟨0, [], .v (.agg ((kd_Config).cells x0 (svL [((sv0 0).1, (sv0 0).2), ((sv0 1).1, (sv0 1).2), ((sv0 2).1, (sv0 2).2), ((sv0 3).1, (sv0 3).2)])).toArray)⟩, ⟨1, [], .v (.agg ((kd_Request).cells x1 (svL [((sv1 0).1, (sv1 0).2)])).toArray)⟩, ⟨2, [], .v (.agg ((kd_Answer).cells x2 (svL [((sv2 0).1, (sv2 0).2)])).toArray)⟩], [], [], [((((kd_Config).cells x0 sv0).map EV.v), 29), ((((kd_Request).cells x1 sv1).map EV.v), 49), ((((kd_Answer).cells x2 sv2).map EV.v), 52)], none, none⟩ [] (by kernel_rfl) trivial (fun ns_57 a w_58 hI _ => ?_)
    refine wpIn_ret ?_
    obtain rfl := Option.some.inj H0
    exact ret1 hI rfl rfl ⟨rfl, hE.below hI⟩

/-! ### porthole/bound.Words: function 24 -/
noncomputable def G_bound_Words (x0 : Config) (x1 : Request) : Option (Int) := ((G_bound_channel x0 x1).bind fun t_3 => some t_3.1.Words)
set_option maxRecDepth 100000 in
set_option maxHeartbeats 4000000 in
theorem G_bound_Words.calls (x0 : Config) (x1 : Request) (sv0 : SV) (sv1 : SV) (w : World) {S : Nat → Prop} (hx0 : (kd_Config).cont S w x0 sv0) (hx1 : (kd_Request).cont S w x1 sv1) (r : Int) (h : G_bound_Words x0 x1 = some r) :
    Calls Try.prog 24 #[.agg ((kd_Config).cells x0 (svL [((sv0 0).1, (sv0 0).2), ((sv0 1).1, (sv0 1).2), ((sv0 2).1, (sv0 2).2), ((sv0 3).1, (sv0 3).2)])).toArray, .agg ((kd_Request).cells x1 (svL [((sv1 0).1, (sv1 0).2)])).toArray] w fun e w' => e = .returned (.int .i64 r) ∧ Below w.heap.size w w' := by
  replace hx0 := Kd.lo _ hx0
  replace hx1 := Kd.lo _ hx1
  unfold G_bound_Words at h
  have H0 := h
  clear h
  refine enter Try.func24 rfl [.agg ((kd_Config).cells x0 (svL [((sv0 0).1, (sv0 0).2), ((sv0 1).1, (sv0 1).2), ((sv0 2).1, (sv0 2).2), ((sv0 3).1, (sv0 3).2)])).toArray, .agg ((kd_Request).cells x1 (svL [((sv1 0).1, (sv1 0).2)])).toArray] (n := 15) rfl (Nat.le_of_ble_eq_true rfl) (fun a hI => ?_)
  have hF : FOpen Fence.wide := .inl rfl
  have hE := Ep.start w
  refine seq_region (live := [4, 3, 2, 0, 1]) (orc := []) hF hI ⟨[⟨4, [], .v (.int .i64 0)⟩, ⟨3, [], .p 1 0⟩, ⟨2, [], .p 0 0⟩, ⟨0, [], .v (.agg ((kd_Config).cells x0 sv0).toArray)⟩, ⟨1, [], .v (.agg ((kd_Request).cells x1 sv1).toArray)⟩], [], [], [((((kd_Config).cells x0 sv0).map EV.v), 29), ((((kd_Request).cells x1 sv1).map EV.v), 49)], none, none⟩ [] (by kernel_rfl) trivial (fun ns_1 a w_2 hI _ => ?_)
  obtain ⟨t_3, hG_4, H0⟩ := bind_some H0
  refine seq_region (live := [5, 4, 3, 2, 0, 1]) (orc := [[.tuple #[.agg ((kd_Chan).cells t_3.1 (svL [])).toArray, .bool t_3.2]]]) hF hI ⟨[⟨5, [], .p 2 0⟩, ⟨4, [], .v (.int .i64 0)⟩, ⟨3, [], .p 1 0⟩, ⟨2, [], .p 0 0⟩, ⟨0, [], .v (.agg ((kd_Config).cells x0 (svL [((sv0 0).1, (sv0 0).2), ((sv0 1).1, (sv0 1).2), ((sv0 2).1, (sv0 2).2), ((sv0 3).1, (sv0 3).2)])).toArray)⟩, ⟨1, [], .v (.agg ((kd_Request).cells x1 (svL [((sv1 0).1, (sv1 0).2)])).toArray)⟩], [], [], [((((kd_Config).cells x0 sv0).map EV.v), 29), ((((kd_Request).cells x1 sv1).map EV.v), 49), ((((kd_Chan).cells t_3.1 (svL [])).map EV.v), 74)], none, none⟩ [.call true 47 [.agg ((kd_Config).cells x0 (svL [((sv0 0).1, (sv0 0).2), ((sv0 1).1, (sv0 1).2), ((sv0 2).1, (sv0 2).2), ((sv0 3).1, (sv0 3).2)])).toArray, .agg ((kd_Request).cells x1 (svL [((sv1 0).1, (sv1 0).2)])).toArray] (.tuple #[.agg ((kd_Chan).cells t_3.1 (svL [])).toArray, .bool t_3.2])] (by kernel_rfl) ⟨ob_call (enters Try.func47 (by kernel_rfl) rfl) (fun hg wz hk => G_bound_channel.calls x0 x1 (svL [((sv0 0).1, (sv0 0).2), ((sv0 1).1, (sv0 1).2), ((sv0 2).1, (sv0 2).2), ((sv0 3).1, (sv0 3).2)]) (svL [((sv1 0).1, (sv1 0).2)]) wz (S := fun _ => True) (Kd.any _ (Kd.keep kd_Config (contI (S := Lo S w w [] []) (w := w) (d := kd_Config) (x := x0) (sv := (svL [((sv0 0).1, (sv0 0).2), ((sv0 1).1, (sv0 1).2), ((sv0 2).1, (sv0 2).2), ((sv0 3).1, (sv0 3).2)])) ⟨⟨hx0.1.1, hx0.1.2⟩, ⟨hx0.2.1.1, hx0.2.1.2⟩, ⟨hx0.2.2.1.1, hx0.2.2.1.2⟩, ⟨hx0.2.2.2.1.1, hx0.2.2.2.1.2⟩, trivial⟩) (Lo.on hk))) (Kd.any _ (Kd.keep kd_Request (contI (S := Lo S w w [] []) (w := w) (d := kd_Request) (x := x1) (sv := (svL [((sv1 0).1, (sv1 0).2)])) ⟨⟨hx1.1.1, hx1.1.2⟩, trivial⟩) (Lo.on hk))) _ hG_4), trivial⟩ (fun ns_5 a w_6 hI _ => ?_)
  refine seq_region (live := [4, 5, 3, 2, 0, 1]) (orc := []) hF hI ⟨[⟨4, [], .v (.int .i64 t_3.1.Words)⟩, ⟨5, [], .p 2 0⟩, ⟨3, [], .p 1 0⟩, ⟨2, [], .p 0 0⟩, ⟨0, [], .v (.agg ((kd_Config).cells x0 (svL [((sv0 0).1, (sv0 0).2), ((sv0 1).1, (sv0 1).2), ((sv0 2).1, (sv0 2).2), ((sv0 3).1, (sv0 3).2)])).toArray)⟩, ⟨1, [], .v (.agg ((kd_Request).cells x1 (svL [((sv1 0).1, (sv1 0).2)])).toArray)⟩], [], [], [((((kd_Config).cells x0 sv0).map EV.v), 29), ((((kd_Request).cells x1 sv1).map EV.v), 49), ((((kd_Chan).cells t_3.1 (svL [])).map EV.v), 74)], none, none⟩ [] (by kernel_rfl) trivial (fun ns_7 a w_8 hI _ => ?_)
  refine wpIn_ret ?_
  obtain rfl := Option.some.inj H0
  exact ret1 hI rfl rfl ⟨rfl, hE.below hI⟩

/-! ### porthole/bound.Bound: function 25 -/
noncomputable def G_bound_Bound (x0 : Config) (x1 : Request) : Option (Int) := ((G_bound_Words x0 x1).bind fun t_3 => some (IntKind.i64.wrap ((IntKind.i64.wrap (2 * t_3)) + 16)))
set_option maxRecDepth 100000 in
set_option maxHeartbeats 4000000 in
theorem G_bound_Bound.calls (x0 : Config) (x1 : Request) (sv0 : SV) (sv1 : SV) (w : World) {S : Nat → Prop} (hx0 : (kd_Config).cont S w x0 sv0) (hx1 : (kd_Request).cont S w x1 sv1) (r : Int) (h : G_bound_Bound x0 x1 = some r) :
    Calls Try.prog 25 #[.agg ((kd_Config).cells x0 (svL [((sv0 0).1, (sv0 0).2), ((sv0 1).1, (sv0 1).2), ((sv0 2).1, (sv0 2).2), ((sv0 3).1, (sv0 3).2)])).toArray, .agg ((kd_Request).cells x1 (svL [((sv1 0).1, (sv1 0).2)])).toArray] w fun e w' => e = .returned (.int .i64 r) ∧ Below w.heap.size w w' := by
  replace hx0 := Kd.lo _ hx0
  replace hx1 := Kd.lo _ hx1
  unfold G_bound_Bound at h
  have H0 := h
  clear h
  refine enter Try.func25 rfl [.agg ((kd_Config).cells x0 (svL [((sv0 0).1, (sv0 0).2), ((sv0 1).1, (sv0 1).2), ((sv0 2).1, (sv0 2).2), ((sv0 3).1, (sv0 3).2)])).toArray, .agg ((kd_Request).cells x1 (svL [((sv1 0).1, (sv1 0).2)])).toArray] (n := 10) rfl (Nat.le_of_ble_eq_true rfl) (fun a hI => ?_)
  have hF : FOpen Fence.wide := .inl rfl
  have hE := Ep.start w
  refine seq_region (live := [4, 3, 2, 0, 1]) (orc := []) hF hI ⟨[⟨4, [], .v (.int .i64 0)⟩, ⟨3, [], .p 1 0⟩, ⟨2, [], .p 0 0⟩, ⟨0, [], .v (.agg ((kd_Config).cells x0 sv0).toArray)⟩, ⟨1, [], .v (.agg ((kd_Request).cells x1 sv1).toArray)⟩], [], [], [((((kd_Config).cells x0 sv0).map EV.v), 29), ((((kd_Request).cells x1 sv1).map EV.v), 49)], none, none⟩ [] (by kernel_rfl) trivial (fun ns_1 a w_2 hI _ => ?_)
  obtain ⟨t_3, hG_4, H0⟩ := bind_some H0
  refine seq_region (live := [4, 3, 2, 0, 1]) (orc := [[.int .i64 t_3]]) hF hI ⟨[⟨4, [], .v (.int .i64 (IntKind.i64.wrap ((IntKind.i64.wrap (2 * t_3)) + 16)))⟩, ⟨3, [], .p 1 0⟩, ⟨2, [], .p 0 0⟩, ⟨0, [], .v (.agg ((kd_Config).cells x0 (svL [((sv0 0).1, (sv0 0).2), ((sv0 1).1, (sv0 1).2), ((sv0 2).1, (sv0 2).2), ((sv0 3).1, (sv0 3).2)])).toArray)⟩, ⟨1, [], .v (.agg ((kd_Request).cells x1 (svL [((sv1 0).1, (sv1 0).2)])).toArray)⟩], [], [], [((((kd_Config).cells x0 sv0).map EV.v), 29), ((((kd_Request).cells x1 sv1).map EV.v), 49)], none, none⟩ [.call true 24 [.agg ((kd_Config).cells x0 (svL [((sv0 0).1, (sv0 0).2), ((sv0 1).1, (sv0 1).2), ((sv0 2).1, (sv0 2).2), ((sv0 3).1, (sv0 3).2)])).toArray, .agg ((kd_Request).cells x1 (svL [((sv1 0).1, (sv1 0).2)])).toArray] (.int .i64 t_3)] (by kernel_rfl) ⟨ob_call (enters Try.func24 (by kernel_rfl) rfl) (fun hg wz hk => G_bound_Words.calls x0 x1 (svL [((sv0 0).1, (sv0 0).2), ((sv0 1).1, (sv0 1).2), ((sv0 2).1, (sv0 2).2), ((sv0 3).1, (sv0 3).2)]) (svL [((sv1 0).1, (sv1 0).2)]) wz (S := fun _ => True) (Kd.any _ (Kd.keep kd_Config (contI (S := Lo S w w [] []) (w := w) (d := kd_Config) (x := x0) (sv := (svL [((sv0 0).1, (sv0 0).2), ((sv0 1).1, (sv0 1).2), ((sv0 2).1, (sv0 2).2), ((sv0 3).1, (sv0 3).2)])) ⟨⟨hx0.1.1, hx0.1.2⟩, ⟨hx0.2.1.1, hx0.2.1.2⟩, ⟨hx0.2.2.1.1, hx0.2.2.1.2⟩, ⟨hx0.2.2.2.1.1, hx0.2.2.2.1.2⟩, trivial⟩) (Lo.on hk))) (Kd.any _ (Kd.keep kd_Request (contI (S := Lo S w w [] []) (w := w) (d := kd_Request) (x := x1) (sv := (svL [((sv1 0).1, (sv1 0).2)])) ⟨⟨hx1.1.1, hx1.1.2⟩, trivial⟩) (Lo.on hk))) _ hG_4), trivial⟩ (fun ns_5 a w_6 hI _ => ?_)
  refine wpIn_ret ?_
  obtain rfl := Option.some.inj H0
  exact ret1 hI rfl rfl ⟨rfl, hE.below hI⟩

/-! ### porthole/portholelaw23.wakes: function 22 -/
noncomputable def G_law23_wakes  : Option (Bool) := ((G_bound_Steps (⟨([(⟨0, 0⟩ : Part), (⟨1, 0⟩ : Part)] : List Part), ([(⟨1, 0, 1, 3, 0, 0, 0⟩ : Chan)] : List Chan), (⟨(⟨1, ([(⟨0, 0, 1⟩ : Window)] : List Window)⟩ : Frame), (⟨1, ([(⟨1, 0, 1⟩ : Window)] : List Window)⟩ : Frame)⟩ : St27)⟩ : Config) (⟨3, 0, 0, ([1, 2] : List Int)⟩ : Request) (⟨0, [], false, 0⟩ : Answer)).bind fun t_39 => ((cal (t_39 == 9) (G_bound_Bound (⟨([(⟨0, 0⟩ : Part), (⟨1, 0⟩ : Part)] : List Part), ([(⟨1, 0, 1, 3, 0, 0, 0⟩ : Chan)] : List Chan), (⟨(⟨1, ([(⟨0, 0, 1⟩ : Window)] : List Window)⟩ : Frame), (⟨1, ([(⟨1, 0, 1⟩ : Window)] : List Window)⟩ : Frame)⟩ : St27)⟩ : Config) (⟨3, 0, 0, ([1, 2] : List Int)⟩ : Request)) default).bind fun t_41 => some ((t_39 == 9) && (t_41 == 22))))
set_option maxRecDepth 100000 in
set_option maxHeartbeats 4000000 in
theorem G_law23_wakes.calls   (w : World) {S : Nat → Prop}  (r : Bool) (h : G_law23_wakes = some r) :
    Calls Try.prog 22 #[] w fun e w' => e = .returned (.bool r) ∧ Below w.heap.size w w' := by
  unfold G_law23_wakes at h
  have H0 := h
  clear h
  refine enter Try.func22 rfl [] (n := 32) rfl (Nat.le_of_ble_eq_true rfl) (fun a hI => ?_)
  have hF : FOpen Fence.wide := .inl rfl
  have hE := Ep.start w
  refine seq_region (live := [0]) (orc := []) hF hI ⟨[⟨0, [], .v (.bool false)⟩], [], [], [], none, none⟩ [] (by kernel_rfl) trivial (fun ns_1 a w_2 hI _ => ?_)
  refine wpIn_seq ?_
  refine wpIn_region_lit ?_
  refine chunkL_ (live := [4, 3, 0]) (orc := []) hF 2 hI ⟨[⟨4, [], .v (.agg #[.int .i64 1, .int .i64 0])⟩, ⟨3, [], .v (.agg #[.int .i64 0, .int .i64 0])⟩, ⟨0, [], .v (.bool false)⟩], [], [], [], none, none⟩ [] rfl (by kernel_rfl) trivial (fun ns_3 a w_4 hI => ?_)
  obtain ⟨hE', hmv, hmr⟩ := Ep.rebase (S0 := S) hE hI
  replace hE := hE'
  replace hI := hI.rebase
  clear hE' hmv hmr
  refine buildSlice_ (S0 := S) (d := kd_Part) (e := 86) hF hE hI (wanted_none rfl) rfl (by kernel_rfl) (cs := [.int .i64 0, .int .i64 0, .int .i64 1, .int .i64 0]) (by kernel_rfl) [(⟨0, 0⟩ : Part), (⟨1, 0⟩ : Part)] [(svL []), (svL [])] rfl rfl (by simp [maxLen]) (fun i x hi => by cases i with | zero => (simp only [List.getElem?_cons_zero, Option.some.injEq] at hi; subst hi; exact ⟨trivial, rfl⟩) | succ i => (simp only [List.getElem?_cons_succ] at hi; cases i with | zero => (simp only [List.getElem?_cons_zero, Option.some.injEq] at hi; subst hi; exact ⟨trivial, rfl⟩) | succ i => (simp only [List.getElem?_cons_succ] at hi; simp at hi))) (fun A_5 => ⟨[⟨5, [], .v (.slice A_5 ([(⟨0, 0⟩ : Part), (⟨1, 0⟩ : Part)] : List Part).length (([(⟨0, 0⟩ : Part), (⟨1, 0⟩ : Part)] : List Part).length))⟩, ⟨4, [], .v (.agg #[.int .i64 1, .int .i64 0])⟩, ⟨3, [], .v (.agg #[.int .i64 0, .int .i64 0])⟩, ⟨0, [], .v (.bool false)⟩], [], [], [], none, none⟩) (fun A_5 => by kernel_rfl) (fun A_5 a w_7 hput hE' hI' hmv hmr hq_6 => ?_)
  replace hE := hE'
  replace hI := hI'
  clear hE' hI' hmv hmr
  refine chunkL_ (live := [6, 5, 0]) (orc := []) hF 1 hI ⟨[⟨6, [], .v (.agg #[.int .i64 1, .int .i64 0, .int .i64 1, .int .i64 3, .int .i64 0, .int .i64 0, .int .u32 0])⟩, ⟨5, [], .v (.slice A_5 ([(⟨0, 0⟩ : Part), (⟨1, 0⟩ : Part)] : List Part).length (([(⟨0, 0⟩ : Part), (⟨1, 0⟩ : Part)] : List Part).length))⟩, ⟨0, [], .v (.bool false)⟩], [], [], [], none, none⟩ [] rfl (by kernel_rfl) trivial (fun ns_8 a w_9 hI => ?_)
  obtain ⟨hE', hmv, hmr⟩ := Ep.rebase (S0 := S) hE hI
  replace hq_6 := Row.keep hq_6 hmv (fun b hb => hmr b (by rw [← hb]; first | (simp; done) | simp [rb]))
  replace hE := hE'
  replace hI := hI.rebase
  clear hE' hmv hmr
  refine buildSlice_ (S0 := S) (d := kd_Chan) (e := 74) hF hE hI (wanted_none rfl) rfl (by kernel_rfl) (cs := [.int .i64 1, .int .i64 0, .int .i64 1, .int .i64 3, .int .i64 0, .int .i64 0, .int .u32 0]) (by kernel_rfl) [(⟨1, 0, 1, 3, 0, 0, 0⟩ : Chan)] [(svL [])] rfl rfl (by simp [maxLen]) (fun i x hi => by cases i with | zero => (simp only [List.getElem?_cons_zero, Option.some.injEq] at hi; subst hi; exact ⟨trivial, rfl⟩) | succ i => (simp only [List.getElem?_cons_succ] at hi; simp at hi)) (fun A_10 => ⟨[⟨7, [], .v (.slice A_10 ([(⟨1, 0, 1, 3, 0, 0, 0⟩ : Chan)] : List Chan).length (([(⟨1, 0, 1, 3, 0, 0, 0⟩ : Chan)] : List Chan).length))⟩, ⟨6, [], .v (.agg #[.int .i64 1, .int .i64 0, .int .i64 1, .int .i64 3, .int .i64 0, .int .i64 0, .int .u32 0])⟩, ⟨5, [], .v (.slice A_5 ([(⟨0, 0⟩ : Part), (⟨1, 0⟩ : Part)] : List Part).length (([(⟨0, 0⟩ : Part), (⟨1, 0⟩ : Part)] : List Part).length))⟩, ⟨0, [], .v (.bool false)⟩], [], [], [], none, none⟩) (fun A_10 => by kernel_rfl) (fun A_10 a w_12 hput hE' hI' hmv hmr hq_11 => ?_)
  replace hq_6 := Row.keep hq_6 hmv (fun b hb => hmr b (by rw [← hb]; first | (simp; done) | simp [rb]) (by simp))
  replace hE := hE'
  replace hI := hI'
  clear hE' hI' hmv hmr
  refine chunkL_ (live := [1, 0]) (orc := []) hF 3 hI ⟨[⟨1, [], .p 0 0⟩, ⟨0, [], .v (.bool false)⟩], [], [], [([.v (.slice A_5 ([(⟨0, 0⟩ : Part), (⟨1, 0⟩ : Part)] : List Part).length (([(⟨0, 0⟩ : Part), (⟨1, 0⟩ : Part)] : List Part).length)), .v (.slice A_10 ([(⟨1, 0, 1, 3, 0, 0, 0⟩ : Chan)] : List Chan).length (([(⟨1, 0, 1, 3, 0, 0, 0⟩ : Chan)] : List Chan).length)), .v (.int .i64 0), .v (.slice none 0 0), .v (.int .i64 0), .v (.slice none 0 0)], 29)], none, none⟩ [] rfl (by kernel_rfl) trivial (fun ns_13 a w_14 hI => ?_)
  refine wpListIn_nil ?_
  refine then_normal ?_
  refine wpIn_seq ?_
  refine wpIn_region_lit ?_
  refine chunkL_ (live := [9, 1, 0]) (orc := []) hF 1 hI ⟨[⟨9, [], .v (.agg #[.int .i64 0, .int .i64 0, .int .i64 1])⟩, ⟨1, [], .p 0 0⟩, ⟨0, [], .v (.bool false)⟩], [], [], [([.v (.slice A_5 ([(⟨0, 0⟩ : Part), (⟨1, 0⟩ : Part)] : List Part).length (([(⟨0, 0⟩ : Part), (⟨1, 0⟩ : Part)] : List Part).length)), .v (.slice A_10 ([(⟨1, 0, 1, 3, 0, 0, 0⟩ : Chan)] : List Chan).length (([(⟨1, 0, 1, 3, 0, 0, 0⟩ : Chan)] : List Chan).length)), .v (.int .i64 0), .v (.slice none 0 0), .v (.int .i64 0), .v (.slice none 0 0)], 29)], none, none⟩ [] rfl (by kernel_rfl) trivial (fun ns_15 a w_16 hI => ?_)
  obtain ⟨hE', hmv, hmr⟩ := Ep.rebase (S0 := S) hE hI
  replace hq_6 := Row.keep hq_6 hmv (fun b hb => hmr b (by rw [← hb]; first | (simp; done) | simp [rb]))
  replace hq_11 := Row.keep hq_11 hmv (fun b hb => hmr b (by rw [← hb]; first | (simp; done) | simp [rb]))
  replace hE := hE'
  replace hI := hI.rebase
  clear hE' hmv hmr
  refine buildSlice_ (S0 := S) (d := kd_Window) (e := 88) hF hE hI (wanted_none rfl) rfl (by kernel_rfl) (cs := [.int .i64 0, .int .i64 0, .int .i64 1]) (by kernel_rfl) [(⟨0, 0, 1⟩ : Window)] [(svL [])] rfl rfl (by simp [maxLen]) (fun i x hi => by cases i with | zero => (simp only [List.getElem?_cons_zero, Option.some.injEq] at hi; subst hi; exact ⟨trivial, rfl⟩) | succ i => (simp only [List.getElem?_cons_succ] at hi; simp at hi)) (fun A_17 => ⟨[⟨10, [], .v (.slice A_17 ([(⟨0, 0, 1⟩ : Window)] : List Window).length (([(⟨0, 0, 1⟩ : Window)] : List Window).length))⟩, ⟨9, [], .v (.agg #[.int .i64 0, .int .i64 0, .int .i64 1])⟩, ⟨1, [], .p 0 0⟩, ⟨0, [], .v (.bool false)⟩], [], [], [([.v (.slice A_5 ([(⟨0, 0⟩ : Part), (⟨1, 0⟩ : Part)] : List Part).length (([(⟨0, 0⟩ : Part), (⟨1, 0⟩ : Part)] : List Part).length)), .v (.slice A_10 ([(⟨1, 0, 1, 3, 0, 0, 0⟩ : Chan)] : List Chan).length (([(⟨1, 0, 1, 3, 0, 0, 0⟩ : Chan)] : List Chan).length)), .v (.int .i64 0), .v (.slice none 0 0), .v (.int .i64 0), .v (.slice none 0 0)], 29)], none, none⟩) (fun A_17 => by kernel_rfl) (fun A_17 a w_19 hput hE' hI' hmv hmr hq_18 => ?_)
  replace hq_6 := Row.keep hq_6 hmv (fun b hb => hmr b (by rw [← hb]; first | (simp; done) | simp [rb]) (by simp))
  replace hq_11 := Row.keep hq_11 hmv (fun b hb => hmr b (by rw [← hb]; first | (simp; done) | simp [rb]) (by simp))
  replace hE := hE'
  replace hI := hI'
  clear hE' hI' hmv hmr
  refine chunkL_ (live := [1, 0]) (orc := []) hF 4 hI ⟨[⟨1, [], .p 0 0⟩, ⟨0, [], .v (.bool false)⟩], [], [], [([.v (.slice A_5 ([(⟨0, 0⟩ : Part), (⟨1, 0⟩ : Part)] : List Part).length (([(⟨0, 0⟩ : Part), (⟨1, 0⟩ : Part)] : List Part).length)), .v (.slice A_10 ([(⟨1, 0, 1, 3, 0, 0, 0⟩ : Chan)] : List Chan).length (([(⟨1, 0, 1, 3, 0, 0, 0⟩ : Chan)] : List Chan).length)), .v (.int .i64 1), .v (.slice A_17 ([(⟨0, 0, 1⟩ : Window)] : List Window).length (([(⟨0, 0, 1⟩ : Window)] : List Window).length)), .v (.int .i64 0), .v (.slice none 0 0)], 29)], none, none⟩ [] rfl (by kernel_rfl) trivial (fun ns_20 a w_21 hI => ?_)
  refine wpListIn_nil ?_
  refine then_normal ?_
  refine wpIn_seq ?_
  refine wpIn_region_lit ?_
  refine chunkL_ (live := [14, 1, 0]) (orc := []) hF 1 hI ⟨[⟨14, [], .v (.agg #[.int .i64 1, .int .i64 0, .int .i64 1])⟩, ⟨1, [], .p 0 0⟩, ⟨0, [], .v (.bool false)⟩], [], [], [([.v (.slice A_5 ([(⟨0, 0⟩ : Part), (⟨1, 0⟩ : Part)] : List Part).length (([(⟨0, 0⟩ : Part), (⟨1, 0⟩ : Part)] : List Part).length)), .v (.slice A_10 ([(⟨1, 0, 1, 3, 0, 0, 0⟩ : Chan)] : List Chan).length (([(⟨1, 0, 1, 3, 0, 0, 0⟩ : Chan)] : List Chan).length)), .v (.int .i64 1), .v (.slice A_17 ([(⟨0, 0, 1⟩ : Window)] : List Window).length (([(⟨0, 0, 1⟩ : Window)] : List Window).length)), .v (.int .i64 0), .v (.slice none 0 0)], 29)], none, none⟩ [] rfl (by kernel_rfl) trivial (fun ns_22 a w_23 hI => ?_)
  obtain ⟨hE', hmv, hmr⟩ := Ep.rebase (S0 := S) hE hI
  replace hq_6 := Row.keep hq_6 hmv (fun b hb => hmr b (by rw [← hb]; first | (simp; done) | simp [rb]))
  replace hq_11 := Row.keep hq_11 hmv (fun b hb => hmr b (by rw [← hb]; first | (simp; done) | simp [rb]))
  replace hq_18 := Row.keep hq_18 hmv (fun b hb => hmr b (by rw [← hb]; first | (simp; done) | simp [rb]))
  replace hE := hE'
  replace hI := hI.rebase
  clear hE' hmv hmr
  refine buildSlice_ (S0 := S) (d := kd_Window) (e := 88) hF hE hI (wanted_none rfl) rfl (by kernel_rfl) (cs := [.int .i64 1, .int .i64 0, .int .i64 1]) (by kernel_rfl) [(⟨1, 0, 1⟩ : Window)] [(svL [])] rfl rfl (by simp [maxLen]) (fun i x hi => by cases i with | zero => (simp only [List.getElem?_cons_zero, Option.some.injEq] at hi; subst hi; exact ⟨trivial, rfl⟩) | succ i => (simp only [List.getElem?_cons_succ] at hi; simp at hi)) (fun A_24 => ⟨[⟨15, [], .v (.slice A_24 ([(⟨1, 0, 1⟩ : Window)] : List Window).length (([(⟨1, 0, 1⟩ : Window)] : List Window).length))⟩, ⟨14, [], .v (.agg #[.int .i64 1, .int .i64 0, .int .i64 1])⟩, ⟨1, [], .p 0 0⟩, ⟨0, [], .v (.bool false)⟩], [], [], [([.v (.slice A_5 ([(⟨0, 0⟩ : Part), (⟨1, 0⟩ : Part)] : List Part).length (([(⟨0, 0⟩ : Part), (⟨1, 0⟩ : Part)] : List Part).length)), .v (.slice A_10 ([(⟨1, 0, 1, 3, 0, 0, 0⟩ : Chan)] : List Chan).length (([(⟨1, 0, 1, 3, 0, 0, 0⟩ : Chan)] : List Chan).length)), .v (.int .i64 1), .v (.slice A_17 ([(⟨0, 0, 1⟩ : Window)] : List Window).length (([(⟨0, 0, 1⟩ : Window)] : List Window).length)), .v (.int .i64 0), .v (.slice none 0 0)], 29)], none, none⟩) (fun A_24 => by kernel_rfl) (fun A_24 a w_26 hput hE' hI' hmv hmr hq_25 => ?_)
  replace hq_6 := Row.keep hq_6 hmv (fun b hb => hmr b (by rw [← hb]; first | (simp; done) | simp [rb]) (by simp))
  replace hq_11 := Row.keep hq_11 hmv (fun b hb => hmr b (by rw [← hb]; first | (simp; done) | simp [rb]) (by simp))
  replace hq_18 := Row.keep hq_18 hmv (fun b hb => hmr b (by rw [← hb]; first | (simp; done) | simp [rb]) (by simp))
  replace hE := hE'
  replace hI := hI'
  clear hE' hI' hmv hmr
  refine chunkL_ (live := [1, 0]) (orc := []) hF 4 hI ⟨[⟨1, [], .p 0 0⟩, ⟨0, [], .v (.bool false)⟩], [], [], [([.v (.slice A_5 ([(⟨0, 0⟩ : Part), (⟨1, 0⟩ : Part)] : List Part).length (([(⟨0, 0⟩ : Part), (⟨1, 0⟩ : Part)] : List Part).length)), .v (.slice A_10 ([(⟨1, 0, 1, 3, 0, 0, 0⟩ : Chan)] : List Chan).length (([(⟨1, 0, 1, 3, 0, 0, 0⟩ : Chan)] : List Chan).length)), .v (.int .i64 1), .v (.slice A_17 ([(⟨0, 0, 1⟩ : Window)] : List Window).length (([(⟨0, 0, 1⟩ : Window)] : List Window).length)), .v (.int .i64 1), .v (.slice A_24 ([(⟨1, 0, 1⟩ : Window)] : List Window).length (([(⟨1, 0, 1⟩ : Window)] : List Window).length))], 29)], none, none⟩ [] rfl (by kernel_rfl) trivial (fun ns_27 a w_28 hI => ?_)
  refine wpListIn_nil ?_
  refine then_normal ?_
  refine wpIn_seq ?_
  refine wpIn_region_lit ?_
  obtain ⟨hE', hmv, hmr⟩ := Ep.rebase (S0 := S) hE hI
  replace hq_6 := Row.keep hq_6 hmv (fun b hb => hmr b (by rw [← hb]; first | (simp; done) | simp [rb]))
  replace hq_11 := Row.keep hq_11 hmv (fun b hb => hmr b (by rw [← hb]; first | (simp; done) | simp [rb]))
  replace hq_18 := Row.keep hq_18 hmv (fun b hb => hmr b (by rw [← hb]; first | (simp; done) | simp [rb]))
  replace hq_25 := Row.keep hq_25 hmv (fun b hb => hmr b (by rw [← hb]; first | (simp; done) | simp [rb]))
  replace hE := hE'
  replace hI := hI.rebase
  clear hE' hmv hmr
  refine buildSlice_ (S0 := S) (d := (Kd.int .u32)) (e := 72) hF hE hI (wanted_none rfl) rfl (by kernel_rfl) (cs := [.int .u32 1, .int .u32 2]) (by kernel_rfl) [1, 2] [(svL []), (svL [])] rfl rfl (by simp [maxLen]) (fun i x hi => by cases i with | zero => (simp only [List.getElem?_cons_zero, Option.some.injEq] at hi; subst hi; exact ⟨trivial, rfl⟩) | succ i => (simp only [List.getElem?_cons_succ] at hi; cases i with | zero => (simp only [List.getElem?_cons_zero, Option.some.injEq] at hi; subst hi; exact ⟨trivial, rfl⟩) | succ i => (simp only [List.getElem?_cons_succ] at hi; simp at hi))) (fun A_29 => ⟨[⟨19, [], .v (.slice A_29 ([1, 2] : List Int).length (([1, 2] : List Int).length))⟩, ⟨1, [], .p 0 0⟩, ⟨0, [], .v (.bool false)⟩], [], [], [([.v (.slice A_5 ([(⟨0, 0⟩ : Part), (⟨1, 0⟩ : Part)] : List Part).length (([(⟨0, 0⟩ : Part), (⟨1, 0⟩ : Part)] : List Part).length)), .v (.slice A_10 ([(⟨1, 0, 1, 3, 0, 0, 0⟩ : Chan)] : List Chan).length (([(⟨1, 0, 1, 3, 0, 0, 0⟩ : Chan)] : List Chan).length)), .v (.int .i64 1), .v (.slice A_17 ([(⟨0, 0, 1⟩ : Window)] : List Window).length (([(⟨0, 0, 1⟩ : Window)] : List Window).length)), .v (.int .i64 1), .v (.slice A_24 ([(⟨1, 0, 1⟩ : Window)] : List Window).length (([(⟨1, 0, 1⟩ : Window)] : List Window).length))], 29)], none, none⟩) (fun A_29 => by kernel_rfl) (fun A_29 a w_31 hput hE' hI' hmv hmr hq_30 => ?_)
  replace hq_6 := Row.keep hq_6 hmv (fun b hb => hmr b (by rw [← hb]; first | (simp; done) | simp [rb]) (by simp))
  replace hq_11 := Row.keep hq_11 hmv (fun b hb => hmr b (by rw [← hb]; first | (simp; done) | simp [rb]) (by simp))
  replace hq_18 := Row.keep hq_18 hmv (fun b hb => hmr b (by rw [← hb]; first | (simp; done) | simp [rb]) (by simp))
  replace hq_25 := Row.keep hq_25 hmv (fun b hb => hmr b (by rw [← hb]; first | (simp; done) | simp [rb]) (by simp))
  replace hE := hE'
  replace hI := hI'
  clear hE' hI' hmv hmr
  refine chunkL_ (live := [2, 1, 0]) (orc := []) hF 3 hI ⟨[⟨2, [], .p 1 0⟩, ⟨1, [], .p 0 0⟩, ⟨0, [], .v (.bool false)⟩], [], [], [([.v (.slice A_5 ([(⟨0, 0⟩ : Part), (⟨1, 0⟩ : Part)] : List Part).length (([(⟨0, 0⟩ : Part), (⟨1, 0⟩ : Part)] : List Part).length)), .v (.slice A_10 ([(⟨1, 0, 1, 3, 0, 0, 0⟩ : Chan)] : List Chan).length (([(⟨1, 0, 1, 3, 0, 0, 0⟩ : Chan)] : List Chan).length)), .v (.int .i64 1), .v (.slice A_17 ([(⟨0, 0, 1⟩ : Window)] : List Window).length (([(⟨0, 0, 1⟩ : Window)] : List Window).length)), .v (.int .i64 1), .v (.slice A_24 ([(⟨1, 0, 1⟩ : Window)] : List Window).length (([(⟨1, 0, 1⟩ : Window)] : List Window).length))], 29), ([.v (.int .i64 3), .v (.int .i64 0), .v (.int .u64 0), .v (.slice A_29 ([1, 2] : List Int).length (([1, 2] : List Int).length))], 49)], none, none⟩ [] rfl (by kernel_rfl) trivial (fun ns_32 a w_33 hI => ?_)
  refine wpListIn_nil ?_
  refine then_normal ?_
  obtain ⟨hE', hmv, hmr⟩ := Ep.rebase (S0 := S) hE hI
  replace hq_6 := Row.keep hq_6 hmv (fun b hb => hmr b (by rw [← hb]; first | (simp; done) | simp [rb]))
  replace hq_11 := Row.keep hq_11 hmv (fun b hb => hmr b (by rw [← hb]; first | (simp; done) | simp [rb]))
  replace hq_18 := Row.keep hq_18 hmv (fun b hb => hmr b (by rw [← hb]; first | (simp; done) | simp [rb]))
  replace hq_25 := Row.keep hq_25 hmv (fun b hb => hmr b (by rw [← hb]; first | (simp; done) | simp [rb]))
  replace hq_30 := Row.keep hq_30 hmv (fun b hb => hmr b (by rw [← hb]; first | (simp; done) | simp [rb]))
  replace hE := hE'
  replace hI := hI.rebase
  clear hE' hmv hmr
  obtain ⟨hE', hmv, hq_6, hcap_34⟩ := Row.still (l1 := []) (l2 := [rb A_10, rb A_17, rb A_24, rb A_29]) hq_6 hE
  have hmr : ∀ b : Nat, some b ∈ ([rb A_5, rb A_10, rb A_17, rb A_24, rb A_29] : List (Option Nat)) → w_33.heap[b]? = w_33.heap[b]? := fun _ _ => rfl
  replace hq_11 := Row.keep hq_11 hmv (fun b hb => hmr b (by rw [← hb]; first | (simp; done) | simp [rb]))
  replace hq_18 := Row.keep hq_18 hmv (fun b hb => hmr b (by rw [← hb]; first | (simp; done) | simp [rb]))
  replace hq_25 := Row.keep hq_25 hmv (fun b hb => hmr b (by rw [← hb]; first | (simp; done) | simp [rb]))
  replace hq_30 := Row.keep hq_30 hmv (fun b hb => hmr b (by rw [← hb]; first | (simp; done) | simp [rb]))
  replace hE := hE'
  clear hE' hmv hmr
  obtain ⟨hE', hmv, hq_11, hcap_35⟩ := Row.still (l1 := []) (l2 := [rb A_17, rb A_24, rb A_29]) hq_11 hE
  have hmr : ∀ b : Nat, some b ∈ ([rb A_10, rb A_17, rb A_24, rb A_29] : List (Option Nat)) → w_33.heap[b]? = w_33.heap[b]? := fun _ _ => rfl
  replace hq_18 := Row.keep hq_18 hmv (fun b hb => hmr b (by rw [← hb]; first | (simp; done) | simp [rb]))
  replace hq_25 := Row.keep hq_25 hmv (fun b hb => hmr b (by rw [← hb]; first | (simp; done) | simp [rb]))
  replace hq_30 := Row.keep hq_30 hmv (fun b hb => hmr b (by rw [← hb]; first | (simp; done) | simp [rb]))
  replace hq_6 := Arr.keep hq_6 hmv
  replace hE := hE'
  clear hE' hmv hmr
  obtain ⟨hE', hmv, hq_18, hcap_36⟩ := Row.still (l1 := []) (l2 := [rb A_24, rb A_29]) hq_18 hE
  have hmr : ∀ b : Nat, some b ∈ ([rb A_17, rb A_24, rb A_29] : List (Option Nat)) → w_33.heap[b]? = w_33.heap[b]? := fun _ _ => rfl
  replace hq_25 := Row.keep hq_25 hmv (fun b hb => hmr b (by rw [← hb]; first | (simp; done) | simp [rb]))
  replace hq_30 := Row.keep hq_30 hmv (fun b hb => hmr b (by rw [← hb]; first | (simp; done) | simp [rb]))
  replace hq_6 := Arr.keep hq_6 hmv
  replace hq_11 := Arr.keep hq_11 hmv
  replace hE := hE'
  clear hE' hmv hmr
  obtain ⟨hE', hmv, hq_25, hcap_37⟩ := Row.still (l1 := []) (l2 := [rb A_29]) hq_25 hE
  have hmr : ∀ b : Nat, some b ∈ ([rb A_24, rb A_29] : List (Option Nat)) → w_33.heap[b]? = w_33.heap[b]? := fun _ _ => rfl
  replace hq_30 := Row.keep hq_30 hmv (fun b hb => hmr b (by rw [← hb]; first | (simp; done) | simp [rb]))
  replace hq_6 := Arr.keep hq_6 hmv
  replace hq_11 := Arr.keep hq_11 hmv
  replace hq_18 := Arr.keep hq_18 hmv
  replace hE := hE'
  clear hE' hmv hmr
  obtain ⟨hE', hmv, hq_30, hcap_38⟩ := Row.still (l1 := []) (l2 := []) hq_30 hE
  have hmr : ∀ b : Nat, some b ∈ ([rb A_29] : List (Option Nat)) → w_33.heap[b]? = w_33.heap[b]? := fun _ _ => rfl
  replace hq_6 := Arr.keep hq_6 hmv
  replace hq_11 := Arr.keep hq_11 hmv
  replace hq_18 := Arr.keep hq_18 hmv
  replace hq_25 := Arr.keep hq_25 hmv
  replace hE := hE'
  clear hE' hmv hmr
  obtain ⟨t_39, hG_40, H0⟩ := bind_some H0
  obtain ⟨t_41, hG_42, H0⟩ := bind_some H0
  refine seq_region (live := [0, 2, 1]) (orc := [[.int .i64 t_39], [.int .i64 t_41]]) hF hI ⟨[⟨0, [], .v (.bool ((t_39 == 9) && (t_41 == 22)))⟩, ⟨2, [], .p 1 0⟩, ⟨1, [], .p 0 0⟩], [], [], [([.v (.slice A_5 ([(⟨0, 0⟩ : Part), (⟨1, 0⟩ : Part)] : List Part).length (([(⟨0, 0⟩ : Part), (⟨1, 0⟩ : Part)] : List Part).length)), .v (.slice A_10 ([(⟨1, 0, 1, 3, 0, 0, 0⟩ : Chan)] : List Chan).length (([(⟨1, 0, 1, 3, 0, 0, 0⟩ : Chan)] : List Chan).length)), .v (.int .i64 1), .v (.slice A_17 ([(⟨0, 0, 1⟩ : Window)] : List Window).length (([(⟨0, 0, 1⟩ : Window)] : List Window).length)), .v (.int .i64 1), .v (.slice A_24 ([(⟨1, 0, 1⟩ : Window)] : List Window).length (([(⟨1, 0, 1⟩ : Window)] : List Window).length))], 29), ([.v (.int .i64 3), .v (.int .i64 0), .v (.int .u64 0), .v (.slice A_29 ([1, 2] : List Int).length (([1, 2] : List Int).length))], 49)], none, none⟩ [.call true 26 [.agg ((kd_Config).cells (⟨([(⟨0, 0⟩ : Part), (⟨1, 0⟩ : Part)] : List Part), ([(⟨1, 0, 1, 3, 0, 0, 0⟩ : Chan)] : List Chan), (⟨(⟨1, ([(⟨0, 0, 1⟩ : Window)] : List Window)⟩ : Frame), (⟨1, ([(⟨1, 0, 1⟩ : Window)] : List Window)⟩ : Frame)⟩ : St27)⟩ : Config) (svL [(A_5, ([(⟨0, 0⟩ : Part), (⟨1, 0⟩ : Part)] : List Part).length), (A_10, ([(⟨1, 0, 1, 3, 0, 0, 0⟩ : Chan)] : List Chan).length), (A_17, ([(⟨0, 0, 1⟩ : Window)] : List Window).length), (A_24, ([(⟨1, 0, 1⟩ : Window)] : List Window).length)])).toArray, .agg ((kd_Request).cells (⟨3, 0, 0, ([1, 2] : List Int)⟩ : Request) (svL [(A_29, ([1, 2] : List Int).length)])).toArray, .agg ((kd_Answer).cells (⟨0, [], false, 0⟩ : Answer) (svL [(none, 0)])).toArray] (.int .i64 t_39), .call (t_39 == 9) 25 [.agg ((kd_Config).cells (⟨([(⟨0, 0⟩ : Part), (⟨1, 0⟩ : Part)] : List Part), ([(⟨1, 0, 1, 3, 0, 0, 0⟩ : Chan)] : List Chan), (⟨(⟨1, ([(⟨0, 0, 1⟩ : Window)] : List Window)⟩ : Frame), (⟨1, ([(⟨1, 0, 1⟩ : Window)] : List Window)⟩ : Frame)⟩ : St27)⟩ : Config) (svL [(A_5, ([(⟨0, 0⟩ : Part), (⟨1, 0⟩ : Part)] : List Part).length), (A_10, ([(⟨1, 0, 1, 3, 0, 0, 0⟩ : Chan)] : List Chan).length), (A_17, ([(⟨0, 0, 1⟩ : Window)] : List Window).length), (A_24, ([(⟨1, 0, 1⟩ : Window)] : List Window).length)])).toArray, .agg ((kd_Request).cells (⟨3, 0, 0, ([1, 2] : List Int)⟩ : Request) (svL [(A_29, ([1, 2] : List Int).length)])).toArray] (.int .i64 t_41)] (by kernel_rfl) ⟨ob_call (enters Try.func26 (by kernel_rfl) rfl) (fun hg wz hk => G_bound_Steps.calls (⟨([(⟨0, 0⟩ : Part), (⟨1, 0⟩ : Part)] : List Part), ([(⟨1, 0, 1, 3, 0, 0, 0⟩ : Chan)] : List Chan), (⟨(⟨1, ([(⟨0, 0, 1⟩ : Window)] : List Window)⟩ : Frame), (⟨1, ([(⟨1, 0, 1⟩ : Window)] : List Window)⟩ : Frame)⟩ : St27)⟩ : Config) (⟨3, 0, 0, ([1, 2] : List Int)⟩ : Request) (⟨0, [], false, 0⟩ : Answer) (svL [(A_5, ([(⟨0, 0⟩ : Part), (⟨1, 0⟩ : Part)] : List Part).length), (A_10, ([(⟨1, 0, 1, 3, 0, 0, 0⟩ : Chan)] : List Chan).length), (A_17, ([(⟨0, 0, 1⟩ : Window)] : List Window).length), (A_24, ([(⟨1, 0, 1⟩ : Window)] : List Window).length)]) (svL [(A_29, ([1, 2] : List Int).length)]) (svL [(none, 0)]) wz (S := fun _ => True) (Kd.any _ (Kd.keep kd_Config (contI (S := Lo S w w_33 ns_32 []) (w := w_33) (d := kd_Config) (x := (⟨([(⟨0, 0⟩ : Part), (⟨1, 0⟩ : Part)] : List Part), ([(⟨1, 0, 1, 3, 0, 0, 0⟩ : Chan)] : List Chan), (⟨(⟨1, ([(⟨0, 0, 1⟩ : Window)] : List Window)⟩ : Frame), (⟨1, ([(⟨1, 0, 1⟩ : Window)] : List Window)⟩ : Frame)⟩ : St27)⟩ : Config)) (sv := (svL [(A_5, ([(⟨0, 0⟩ : Part), (⟨1, 0⟩ : Part)] : List Part).length), (A_10, ([(⟨1, 0, 1, 3, 0, 0, 0⟩ : Chan)] : List Chan).length), (A_17, ([(⟨0, 0, 1⟩ : Window)] : List Window).length), (A_24, ([(⟨1, 0, 1⟩ : Window)] : List Window).length)])) ⟨⟨hq_6, hcap_34⟩, ⟨hq_11, hcap_35⟩, ⟨hq_18, hcap_36⟩, ⟨hq_25, hcap_37⟩, trivial⟩) (Lo.on hk))) (Kd.any _ (Kd.keep kd_Request (contI (S := Lo S w w_33 ns_32 []) (w := w_33) (d := kd_Request) (x := (⟨3, 0, 0, ([1, 2] : List Int)⟩ : Request)) (sv := (svL [(A_29, ([1, 2] : List Int).length)])) ⟨⟨hq_30, hcap_38⟩, trivial⟩) (Lo.on hk))) (Kd.any _ (Kd.keep kd_Answer (contI (S := Lo S w w_33 ns_32 []) (w := w_33) (d := kd_Answer) (x := (⟨0, [], false, 0⟩ : Answer)) (sv := (svL [(none, 0)])) ⟨⟨(Arr.nil _ _ _ _), (Nat.le_refl _)⟩, trivial⟩) (Lo.on hk))) _ hG_40), ob_call (enters Try.func25 (by kernel_rfl) rfl) (fun hg wz hk => G_bound_Bound.calls (⟨([(⟨0, 0⟩ : Part), (⟨1, 0⟩ : Part)] : List Part), ([(⟨1, 0, 1, 3, 0, 0, 0⟩ : Chan)] : List Chan), (⟨(⟨1, ([(⟨0, 0, 1⟩ : Window)] : List Window)⟩ : Frame), (⟨1, ([(⟨1, 0, 1⟩ : Window)] : List Window)⟩ : Frame)⟩ : St27)⟩ : Config) (⟨3, 0, 0, ([1, 2] : List Int)⟩ : Request) (svL [(A_5, ([(⟨0, 0⟩ : Part), (⟨1, 0⟩ : Part)] : List Part).length), (A_10, ([(⟨1, 0, 1, 3, 0, 0, 0⟩ : Chan)] : List Chan).length), (A_17, ([(⟨0, 0, 1⟩ : Window)] : List Window).length), (A_24, ([(⟨1, 0, 1⟩ : Window)] : List Window).length)]) (svL [(A_29, ([1, 2] : List Int).length)]) wz (S := fun _ => True) (Kd.any _ (Kd.keep kd_Config (contI (S := Lo S w w_33 ns_32 []) (w := w_33) (d := kd_Config) (x := (⟨([(⟨0, 0⟩ : Part), (⟨1, 0⟩ : Part)] : List Part), ([(⟨1, 0, 1, 3, 0, 0, 0⟩ : Chan)] : List Chan), (⟨(⟨1, ([(⟨0, 0, 1⟩ : Window)] : List Window)⟩ : Frame), (⟨1, ([(⟨1, 0, 1⟩ : Window)] : List Window)⟩ : Frame)⟩ : St27)⟩ : Config)) (sv := (svL [(A_5, ([(⟨0, 0⟩ : Part), (⟨1, 0⟩ : Part)] : List Part).length), (A_10, ([(⟨1, 0, 1, 3, 0, 0, 0⟩ : Chan)] : List Chan).length), (A_17, ([(⟨0, 0, 1⟩ : Window)] : List Window).length), (A_24, ([(⟨1, 0, 1⟩ : Window)] : List Window).length)])) ⟨⟨hq_6, hcap_34⟩, ⟨hq_11, hcap_35⟩, ⟨hq_18, hcap_36⟩, ⟨hq_25, hcap_37⟩, trivial⟩) (Lo.on hk))) (Kd.any _ (Kd.keep kd_Request (contI (S := Lo S w w_33 ns_32 []) (w := w_33) (d := kd_Request) (x := (⟨3, 0, 0, ([1, 2] : List Int)⟩ : Request)) (sv := (svL [(A_29, ([1, 2] : List Int).length)])) ⟨⟨hq_30, hcap_38⟩, trivial⟩) (Lo.on hk))) _ (cal_some hG_42 hg)), trivial⟩ (fun ns_43 a w_44 hI _ => ?_)
  refine wpIn_ret ?_
  obtain rfl := Option.some.inj H0
  exact ret1 hI rfl rfl ⟨rfl, hE.below hI⟩

/-! ### porthole/portholeref06.Great: function 13 -/
noncomputable def G_ref06_Great (x0 : Config) : Option (Bool) := some (((decide ((x0.Parts.length : Int) > 100) || decide ((x0.Chans.length : Int) > 100)) || decide ((x0.Frames.e0.Windows.length : Int) > 100)) || decide ((x0.Frames.e1.Windows.length : Int) > 100))
set_option maxRecDepth 100000 in
set_option maxHeartbeats 4000000 in
theorem G_ref06_Great.calls (x0 : Config) (sv0 : SV) (w : World) {S : Nat → Prop} (hx0 : (kd_Config).cont S w x0 sv0) (r : Bool) (h : G_ref06_Great x0 = some r) :
    Calls Try.prog 13 #[.agg ((kd_Config).cells x0 sv0).toArray] w fun e w' => e = .returned (.bool r) ∧ Below w.heap.size w w' := by
  replace hx0 := Kd.lo _ hx0
  unfold G_ref06_Great at h
  have H0 := h
  clear h
  refine enter Try.func13 rfl [.agg ((kd_Config).cells x0 sv0).toArray] (n := 29) rfl (Nat.le_of_ble_eq_true rfl) (fun a hI => ?_)
  have hF : FOpen Fence.wide := .inl rfl
  have hE := Ep.start w
  refine seq_region (live := [2, 1, 0]) (orc := []) hF hI ⟨[⟨2, [], .v (.bool false)⟩, ⟨1, [], .p 0 0⟩, ⟨0, [], .v (.agg ((kd_Config).cells x0 sv0).toArray)⟩], [], [], [((((kd_Config).cells x0 sv0).map EV.v), 29)], none, none⟩ [] (by kernel_rfl) trivial (fun ns_1 a w_2 hI _ => ?_)
  refine seq_region (live := [2, 1, 0]) (orc := []) hF hI ⟨[⟨2, [], .v (.bool (((decide ((x0.Parts.length : Int) > 100) || decide ((x0.Chans.length : Int) > 100)) || decide ((x0.Frames.e0.Windows.length : Int) > 100)) || decide ((x0.Frames.e1.Windows.length : Int) > 100)))⟩, ⟨1, [], .p 0 0⟩, ⟨0, [], .v (.agg ((kd_Config).cells x0 sv0).toArray)⟩], [], [], [((((kd_Config).cells x0 sv0).map EV.v), 29)], none, none⟩ [] (by kernel_rfl) trivial (fun ns_3 a w_4 hI _ => ?_)
  refine wpIn_ret ?_
  obtain rfl := Option.some.inj H0
  exact ret1 hI rfl rfl ⟨rfl, hE.below hI⟩

/-! ### porthole/portholeref07.window: function 72 -/
noncomputable def G_ref07_window.b1 (x0 : Config) (a1 : Int) (s1 : Int × Bool) : Option (Stp (Int × Bool) (Ex (Int × Bool) (Bool))) := (bif decide (s1.1 < (((rdA_St27 x0.Frames ((rd x0.Parts a1).Core)).Windows).length : Int)) then (req (inb s1.1 ((rdA_St27 x0.Frames ((rd x0.Parts a1).Core)).Windows).length) (bif (((rd ((rdA_St27 x0.Frames ((rd x0.Parts a1).Core)).Windows) s1.1).Part) == a1) then some (.out (.ret true)) else some (.next ((IntKind.i64.wrap (s1.1 + 1)), s1.2)))) else some (.out (.brk (s1.1, s1.2))))
noncomputable def G_ref07_window (x0 : Config) (a1 : Int) : Option (Bool) := (req (inb a1 x0.Parts.length) (req (imp (((rd x0.Parts a1).Core) != 0) (inb a1 x0.Parts.length)) (bif ((((rd x0.Parts a1).Core) != 0) && (((rd x0.Parts a1).Core) != 1)) then some false else (req (inb a1 x0.Parts.length) (req (inb ((rd x0.Parts a1).Core) 2) ((loopω (G_ref07_window.b1 x0 a1) (0, false)).bind fun o => o.on (fun s1 => some false) (fun r => some r)))))))
set_option maxRecDepth 100000 in
set_option maxHeartbeats 4000000 in
theorem G_ref07_window.calls (x0 : Config) (a1 : Int) (sv0 : SV) (w : World) {S : Nat → Prop} (hx0 : (kd_Config).cont S w x0 sv0) (r : Bool) (h : G_ref07_window x0 a1 = some r) :
    Calls Try.prog 72 #[.agg ((kd_Config).cells x0 sv0).toArray, .int .i64 a1] w fun e w' => e = .returned (.bool r) ∧ Below w.heap.size w w' := by
  replace hx0 := Kd.lo _ hx0
  unfold G_ref07_window at h
  have H0 := h
  clear h
  refine enter Try.func72 rfl [.agg ((kd_Config).cells x0 sv0).toArray, .int .i64 a1] (n := 46) rfl (Nat.le_of_ble_eq_true rfl) (fun a hI => ?_)
  have hF : FOpen Fence.wide := .inl rfl
  have hE := Ep.start w
  refine seq_region (live := [4, 2, 0, 1]) (orc := []) hF hI ⟨[⟨4, [], .v (.bool false)⟩, ⟨2, [], .p 0 0⟩, ⟨0, [], .v (.agg ((kd_Config).cells x0 sv0).toArray)⟩, ⟨1, [], .v (.int .i64 a1)⟩], [], [], [((((kd_Config).cells x0 sv0).map EV.v), 29)], none, none⟩ [] (by kernel_rfl) trivial (fun ns_1 a w_2 hI _ => ?_)
  refine wpIn_seq ?_
  obtain ⟨hE', hmv, hmr⟩ := Ep.rebase (S0 := S) hE hI
  replace hx0 := Kd.keep _ hx0 hmv
  replace hE := hE'
  replace hI := hI.rebase
  clear hE' hmv hmr
  have hct := contI (S := Lo S w w_2 ns_1 []) (w := w_2) (d := kd_Config) (x := x0) (sv := (svL [((sv0 0).1, (sv0 0).2), ((sv0 1).1, (sv0 1).2), ((sv0 2).1, (sv0 2).2), ((sv0 3).1, (sv0 3).2)])) ⟨⟨hx0.1.1, hx0.1.2⟩, ⟨hx0.2.1.1, hx0.2.1.2⟩, ⟨hx0.2.2.1.1, hx0.2.2.1.2⟩, ⟨hx0.2.2.2.1.1, hx0.2.2.2.1.2⟩, trivial⟩
  obtain ⟨B_3, ns_5, hE', hI', hmv, hB_4⟩ := freeze_ (S0 := S) (d := kd_Config) hE hI 0 x0 (svL [((sv0 0).1, (sv0 0).2), ((sv0 1).1, (sv0 1).2), ((sv0 2).1, (sv0 2).2), ((sv0 3).1, (sv0 3).2)]) 29 rfl
  replace hB_4 := hB_4 hct
  clear hct
  have hmr : ∀ b : Nat, some b ∈ ([] : List (Option Nat)) → w_2.heap[b]? = w_2.heap[b]? := fun _ _ => rfl
  replace hx0 := Kd.keep _ hx0 hmv
  replace hE := hE'
  replace hI := hI'
  clear hE' hI' hmv hmr
  obtain ⟨ns_6, hE', hI', hmv⟩ := hE.cut (S0 := S) hI [4, 2, 0, 1] 0 ⟨[⟨4, [], .v (.bool false)⟩, ⟨2, [], .v (.pointer (some B_3))⟩, ⟨0, [], .v (.agg ((kd_Config).cells x0 sv0).toArray)⟩, ⟨1, [], .v (.int .i64 a1)⟩], [], [], [], none, none⟩ (by kernel_rfl)
  have hmr : ∀ b : Nat, some b ∈ ([] : List (Option Nat)) → w_2.heap[b]? = w_2.heap[b]? := fun _ _ => rfl
  replace hx0 := Kd.keep _ hx0 hmv
  replace hB_4 := El.keep hB_4 hmv
  replace hE := hE'
  replace hI := hI'
  clear hE' hI' hmv hmr
  obtain ⟨hN_7, H0⟩ := req_some H0
  obtain ⟨sv_8, hE_10, hA_9⟩ := Arr.elB (d := kd_Part) (hB_4).cont.1.1 a1 true (fun _ => hN_7)
  replace hE_10 := hE_10 rfl
  replace hA_9 := fun (_ : true = true) => hA_9 rfl
  obtain ⟨hN_11, H0⟩ := req_some H0
  obtain ⟨sv_12, hE_14, hA_13⟩ := Arr.elB (d := kd_Part) (hB_4).cont.1.1 a1 (((rd x0.Parts a1).Core) != 0) (fun hg => imp_spec hN_11 hg)
  refine seq_region (live := [22, 4, 2, 0, 1]) (orc := [[.slice (((svL [((sv0 0).1, (sv0 0).2), ((sv0 1).1, (sv0 1).2), ((sv0 2).1, (sv0 2).2), ((sv0 3).1, (sv0 3).2)]) 0).1) x0.Parts.length (((svL [((sv0 0).1, (sv0 0).2), ((sv0 1).1, (sv0 1).2), ((sv0 2).1, (sv0 2).2), ((sv0 3).1, (sv0 3).2)]) 0).2)], [.int .i64 ((rd x0.Parts a1).Core)], [.slice (((svL [((sv0 0).1, (sv0 0).2), ((sv0 1).1, (sv0 1).2), ((sv0 2).1, (sv0 2).2), ((sv0 3).1, (sv0 3).2)]) 0).1) x0.Parts.length (((svL [((sv0 0).1, (sv0 0).2), ((sv0 1).1, (sv0 1).2), ((sv0 2).1, (sv0 2).2), ((sv0 3).1, (sv0 3).2)]) 0).2)], [.int .i64 ((rd x0.Parts a1).Core)]]) hF hI ⟨[⟨22, [], .v (.bool ((((rd x0.Parts a1).Core) != 0) && (((rd x0.Parts a1).Core) != 1)))⟩, ⟨4, [], .v (.bool false)⟩, ⟨2, [], .v (.pointer (some B_3))⟩, ⟨0, [], .v (.agg ((kd_Config).cells x0 sv0).toArray)⟩, ⟨1, [], .v (.int .i64 a1)⟩], [], [], [], none, none⟩ [.cell true B_3 [.slice (((svL [((sv0 0).1, (sv0 0).2), ((sv0 1).1, (sv0 1).2), ((sv0 2).1, (sv0 2).2), ((sv0 3).1, (sv0 3).2)]) 0).1) x0.Parts.length (((svL [((sv0 0).1, (sv0 0).2), ((sv0 1).1, (sv0 1).2), ((sv0 2).1, (sv0 2).2), ((sv0 3).1, (sv0 3).2)]) 0).2)], .need true (0 ≤ a1 ∧ a1 < (x0.Parts.length : Int)), .need true (((svL [((sv0 0).1, (sv0 0).2), ((sv0 1).1, (sv0 1).2), ((sv0 2).1, (sv0 2).2), ((sv0 3).1, (sv0 3).2)]) 0).1 = some (adr (((svL [((sv0 0).1, (sv0 0).2), ((sv0 1).1, (sv0 1).2), ((sv0 2).1, (sv0 2).2), ((sv0 3).1, (sv0 3).2)]) 0).1))), .cell true ((adr (((svL [((sv0 0).1, (sv0 0).2), ((sv0 1).1, (sv0 1).2), ((sv0 2).1, (sv0 2).2), ((sv0 3).1, (sv0 3).2)]) 0).1)).add ((a1 : Int).toNat * 2)) [.int .i64 ((rd x0.Parts a1).Core)], .cell (((rd x0.Parts a1).Core) != 0) B_3 [.slice (((svL [((sv0 0).1, (sv0 0).2), ((sv0 1).1, (sv0 1).2), ((sv0 2).1, (sv0 2).2), ((sv0 3).1, (sv0 3).2)]) 0).1) x0.Parts.length (((svL [((sv0 0).1, (sv0 0).2), ((sv0 1).1, (sv0 1).2), ((sv0 2).1, (sv0 2).2), ((sv0 3).1, (sv0 3).2)]) 0).2)], .need (((rd x0.Parts a1).Core) != 0) (0 ≤ a1 ∧ a1 < (x0.Parts.length : Int)), .need (((rd x0.Parts a1).Core) != 0) (((svL [((sv0 0).1, (sv0 0).2), ((sv0 1).1, (sv0 1).2), ((sv0 2).1, (sv0 2).2), ((sv0 3).1, (sv0 3).2)]) 0).1 = some (adr (((svL [((sv0 0).1, (sv0 0).2), ((sv0 1).1, (sv0 1).2), ((sv0 2).1, (sv0 2).2), ((sv0 3).1, (sv0 3).2)]) 0).1))), .cell (((rd x0.Parts a1).Core) != 0) ((adr (((svL [((sv0 0).1, (sv0 0).2), ((sv0 1).1, (sv0 1).2), ((sv0 2).1, (sv0 2).2), ((sv0 3).1, (sv0 3).2)]) 0).1)).add ((a1 : Int).toNat * 2)) [.int .i64 ((rd x0.Parts a1).Core)]] (by kernel_rfl) ⟨ob_el (fun _ => hB_4) 0 [.slice (((svL [((sv0 0).1, (sv0 0).2), ((sv0 1).1, (sv0 1).2), ((sv0 2).1, (sv0 2).2), ((sv0 3).1, (sv0 3).2)]) 0).1) x0.Parts.length (((svL [((sv0 0).1, (sv0 0).2), ((sv0 1).1, (sv0 1).2), ((sv0 2).1, (sv0 2).2), ((sv0 3).1, (sv0 3).2)]) 0).2)] rfl, ob_inb (fun _ => hN_7), hA_9, ob_el (fun _ => hE_10) 0 [.int .i64 ((rd x0.Parts a1).Core)] rfl, ob_el (fun _ => hB_4) 0 [.slice (((svL [((sv0 0).1, (sv0 0).2), ((sv0 1).1, (sv0 1).2), ((sv0 2).1, (sv0 2).2), ((sv0 3).1, (sv0 3).2)]) 0).1) x0.Parts.length (((svL [((sv0 0).1, (sv0 0).2), ((sv0 1).1, (sv0 1).2), ((sv0 2).1, (sv0 2).2), ((sv0 3).1, (sv0 3).2)]) 0).2)] rfl, ob_inb (fun hg => imp_spec hN_11 hg), hA_13, ob_el (fun hg => hE_14 hg) 0 [.int .i64 ((rd x0.Parts a1).Core)] rfl, trivial⟩ (fun ns_15 a w_16 hI _ => ?_)
  refine cond_ hI (((((rd x0.Parts a1).Core) != 0) && (((rd x0.Parts a1).Core) != 1))) rfl (fun hc_17 => ?_) (fun hc_17 => ?_)
  · replace H0 := bif_t hc_17 H0
    refine seq_region (live := [4, 22, 2, 0, 1]) (orc := []) hF hI ⟨[⟨4, [], .v (.bool false)⟩, ⟨22, [], .v (.bool ((((rd x0.Parts a1).Core) != 0) && (((rd x0.Parts a1).Core) != 1)))⟩, ⟨2, [], .v (.pointer (some B_3))⟩, ⟨0, [], .v (.agg ((kd_Config).cells x0 sv0).toArray)⟩, ⟨1, [], .v (.int .i64 a1)⟩], [], [], [], none, none⟩ [] (by kernel_rfl) trivial (fun ns_18 a w_19 hI _ => ?_)
    refine wpIn_ret ?_
    refine then_ret ?_
    obtain rfl := Option.some.inj H0
    exact ret1 hI rfl rfl ⟨rfl, hE.below hI⟩
  · replace H0 := bif_f hc_17 H0
    refine wpIn_skip ?_
    refine then_normal ?_
    obtain ⟨hN_20, H0⟩ := req_some H0
    obtain ⟨sv_21, hE_23, hA_22⟩ := Arr.elB (d := kd_Part) (hB_4).cont.1.1 a1 true (fun _ => hN_20)
    replace hE_23 := hE_23 rfl
    replace hA_22 := fun (_ : true = true) => hA_22 rfl
    obtain ⟨hN_24, H0⟩ := req_some H0
    have hE_26 := elA_St27 (El.part (e := kd_St27) hB_4 2 x0.Frames (svO (svL [((sv0 0).1, (sv0 0).2), ((sv0 1).1, (sv0 1).2), ((sv0 2).1, (sv0 2).2), ((sv0 3).1, (sv0 3).2)]) 2) ⟨(hB_4).cont.2.2.1, (hB_4).cont.2.2.2.1, trivial⟩ rfl) hN_24
    refine seq_region (live := [5, 22, 4, 2, 0, 1]) (orc := [[.slice (((svL [((sv0 0).1, (sv0 0).2), ((sv0 1).1, (sv0 1).2), ((sv0 2).1, (sv0 2).2), ((sv0 3).1, (sv0 3).2)]) 0).1) x0.Parts.length (((svL [((sv0 0).1, (sv0 0).2), ((sv0 1).1, (sv0 1).2), ((sv0 2).1, (sv0 2).2), ((sv0 3).1, (sv0 3).2)]) 0).2)], [.int .i64 ((rd x0.Parts a1).Core)], [.slice (((svO (svO (svL [((sv0 0).1, (sv0 0).2), ((sv0 1).1, (sv0 1).2), ((sv0 2).1, (sv0 2).2), ((sv0 3).1, (sv0 3).2)]) 2) (((rd x0.Parts a1).Core : Int).toNat * 1)) 0).1) ((rdA_St27 x0.Frames ((rd x0.Parts a1).Core)).Windows).length (((svO (svO (svL [((sv0 0).1, (sv0 0).2), ((sv0 1).1, (sv0 1).2), ((sv0 2).1, (sv0 2).2), ((sv0 3).1, (sv0 3).2)]) 2) (((rd x0.Parts a1).Core : Int).toNat * 1)) 0).2)]]) hF hI ⟨[⟨5, [], .v (.slice (((svO (svO (svL [((sv0 0).1, (sv0 0).2), ((sv0 1).1, (sv0 1).2), ((sv0 2).1, (sv0 2).2), ((sv0 3).1, (sv0 3).2)]) 2) (((rd x0.Parts a1).Core : Int).toNat * 1)) 0).1) ((rdA_St27 x0.Frames ((rd x0.Parts a1).Core)).Windows).length (((svO (svO (svL [((sv0 0).1, (sv0 0).2), ((sv0 1).1, (sv0 1).2), ((sv0 2).1, (sv0 2).2), ((sv0 3).1, (sv0 3).2)]) 2) (((rd x0.Parts a1).Core : Int).toNat * 1)) 0).2))⟩, ⟨22, [], .v (.bool ((((rd x0.Parts a1).Core) != 0) && (((rd x0.Parts a1).Core) != 1)))⟩, ⟨4, [], .v (.bool false)⟩, ⟨2, [], .v (.pointer (some B_3))⟩, ⟨0, [], .v (.agg ((kd_Config).cells x0 sv0).toArray)⟩, ⟨1, [], .v (.int .i64 a1)⟩], [], [], [], none, none⟩ [.cell true B_3 [.slice (((svL [((sv0 0).1, (sv0 0).2), ((sv0 1).1, (sv0 1).2), ((sv0 2).1, (sv0 2).2), ((sv0 3).1, (sv0 3).2)]) 0).1) x0.Parts.length (((svL [((sv0 0).1, (sv0 0).2), ((sv0 1).1, (sv0 1).2), ((sv0 2).1, (sv0 2).2), ((sv0 3).1, (sv0 3).2)]) 0).2)], .need true (0 ≤ a1 ∧ a1 < (x0.Parts.length : Int)), .need true (((svL [((sv0 0).1, (sv0 0).2), ((sv0 1).1, (sv0 1).2), ((sv0 2).1, (sv0 2).2), ((sv0 3).1, (sv0 3).2)]) 0).1 = some (adr (((svL [((sv0 0).1, (sv0 0).2), ((sv0 1).1, (sv0 1).2), ((sv0 2).1, (sv0 2).2), ((sv0 3).1, (sv0 3).2)]) 0).1))), .cell true ((adr (((svL [((sv0 0).1, (sv0 0).2), ((sv0 1).1, (sv0 1).2), ((sv0 2).1, (sv0 2).2), ((sv0 3).1, (sv0 3).2)]) 0).1)).add ((a1 : Int).toNat * 2)) [.int .i64 ((rd x0.Parts a1).Core)], .need true (0 ≤ ((rd x0.Parts a1).Core) ∧ ((rd x0.Parts a1).Core) < ((2 : Nat) : Int)), .cell true (((B_3.add 2).add (((rd x0.Parts a1).Core : Int).toNat * 2)).add 1) [.slice (((svO (svO (svL [((sv0 0).1, (sv0 0).2), ((sv0 1).1, (sv0 1).2), ((sv0 2).1, (sv0 2).2), ((sv0 3).1, (sv0 3).2)]) 2) (((rd x0.Parts a1).Core : Int).toNat * 1)) 0).1) ((rdA_St27 x0.Frames ((rd x0.Parts a1).Core)).Windows).length (((svO (svO (svL [((sv0 0).1, (sv0 0).2), ((sv0 1).1, (sv0 1).2), ((sv0 2).1, (sv0 2).2), ((sv0 3).1, (sv0 3).2)]) 2) (((rd x0.Parts a1).Core : Int).toNat * 1)) 0).2)]] (by kernel_rfl) ⟨ob_el (fun _ => hB_4) 0 [.slice (((svL [((sv0 0).1, (sv0 0).2), ((sv0 1).1, (sv0 1).2), ((sv0 2).1, (sv0 2).2), ((sv0 3).1, (sv0 3).2)]) 0).1) x0.Parts.length (((svL [((sv0 0).1, (sv0 0).2), ((sv0 1).1, (sv0 1).2), ((sv0 2).1, (sv0 2).2), ((sv0 3).1, (sv0 3).2)]) 0).2)] rfl, ob_inb (fun _ => hN_20), hA_22, ob_el (fun _ => hE_23) 0 [.int .i64 ((rd x0.Parts a1).Core)] rfl, ob_inb (fun _ => hN_24), ob_el (fun _ => hE_26) 1 [.slice (((svO (svO (svL [((sv0 0).1, (sv0 0).2), ((sv0 1).1, (sv0 1).2), ((sv0 2).1, (sv0 2).2), ((sv0 3).1, (sv0 3).2)]) 2) (((rd x0.Parts a1).Core : Int).toNat * 1)) 0).1) ((rdA_St27 x0.Frames ((rd x0.Parts a1).Core)).Windows).length (((svO (svO (svL [((sv0 0).1, (sv0 0).2), ((sv0 1).1, (sv0 1).2), ((sv0 2).1, (sv0 2).2), ((sv0 3).1, (sv0 3).2)]) 2) (((rd x0.Parts a1).Core : Int).toNat * 1)) 0).2)] rfl, trivial⟩ (fun ns_27 a w_28 hI _ => ?_)
    refine wpIn_seq ?_
    refine seq_region (live := [6, 5, 22, 4, 2, 0, 1]) (orc := []) hF hI ⟨[⟨6, [], .v (.int .i64 0)⟩, ⟨5, [], .v (.slice (((svO (svO (svL [((sv0 0).1, (sv0 0).2), ((sv0 1).1, (sv0 1).2), ((sv0 2).1, (sv0 2).2), ((sv0 3).1, (sv0 3).2)]) 2) (((rd x0.Parts a1).Core : Int).toNat * 1)) 0).1) ((rdA_St27 x0.Frames ((rd x0.Parts a1).Core)).Windows).length (((svO (svO (svL [((sv0 0).1, (sv0 0).2), ((sv0 1).1, (sv0 1).2), ((sv0 2).1, (sv0 2).2), ((sv0 3).1, (sv0 3).2)]) 2) (((rd x0.Parts a1).Core : Int).toNat * 1)) 0).2))⟩, ⟨22, [], .v (.bool ((((rd x0.Parts a1).Core) != 0) && (((rd x0.Parts a1).Core) != 1)))⟩, ⟨4, [], .v (.bool false)⟩, ⟨2, [], .v (.pointer (some B_3))⟩, ⟨0, [], .v (.agg ((kd_Config).cells x0 sv0).toArray)⟩, ⟨1, [], .v (.int .i64 a1)⟩], [], [], [], none, none⟩ [] (by kernel_rfl) trivial (fun ns_29 a w_30 hI _ => ?_)
    obtain ⟨o_47, hL_48, H0⟩ := bind_some H0
    refine block_loop (fun (s1 : Int × Bool) a w_53 => ∃ ns, St w_2 ns_6 46 ⟨[⟨6, [], .v (.int .i64 s1.1)⟩, ⟨5, [], .v (.slice (((svO (svO (svL [((sv0 0).1, (sv0 0).2), ((sv0 1).1, (sv0 1).2), ((sv0 2).1, (sv0 2).2), ((sv0 3).1, (sv0 3).2)]) 2) (((rd x0.Parts a1).Core : Int).toNat * 1)) 0).1) ((rdA_St27 x0.Frames ((rd x0.Parts a1).Core)).Windows).length (((svO (svO (svL [((sv0 0).1, (sv0 0).2), ((sv0 1).1, (sv0 1).2), ((sv0 2).1, (sv0 2).2), ((sv0 3).1, (sv0 3).2)]) 2) (((rd x0.Parts a1).Core : Int).toNat * 1)) 0).2))⟩, ⟨22, [], .v (.bool ((((rd x0.Parts a1).Core) != 0) && (((rd x0.Parts a1).Core) != 1)))⟩, ⟨4, [], .v (.bool s1.2)⟩, ⟨2, [], .v (.pointer (some B_3))⟩, ⟨0, [], .v (.agg ((kd_Config).cells x0 sv0).toArray)⟩, ⟨1, [], .v (.int .i64 a1)⟩], [], [], [], none, none⟩ ns a w_53) (0, false) hL_48 ⟨_, hI.pick [6, 5, 22, 4, 2, 0, 1] 0 ⟨[⟨6, [], .v (.int .i64 0)⟩, ⟨5, [], .v (.slice (((svO (svO (svL [((sv0 0).1, (sv0 0).2), ((sv0 1).1, (sv0 1).2), ((sv0 2).1, (sv0 2).2), ((sv0 3).1, (sv0 3).2)]) 2) (((rd x0.Parts a1).Core : Int).toNat * 1)) 0).1) ((rdA_St27 x0.Frames ((rd x0.Parts a1).Core)).Windows).length (((svO (svO (svL [((sv0 0).1, (sv0 0).2), ((sv0 1).1, (sv0 1).2), ((sv0 2).1, (sv0 2).2), ((sv0 3).1, (sv0 3).2)]) 2) (((rd x0.Parts a1).Core : Int).toNat * 1)) 0).2))⟩, ⟨22, [], .v (.bool ((((rd x0.Parts a1).Core) != 0) && (((rd x0.Parts a1).Core) != 1)))⟩, ⟨4, [], .v (.bool false)⟩, ⟨2, [], .v (.pointer (some B_3))⟩, ⟨0, [], .v (.agg ((kd_Config).cells x0 sv0).toArray)⟩, ⟨1, [], .v (.int .i64 a1)⟩], [], [], [], none, none⟩ (by kernel_rfl)⟩ ?_ ?_
    · clear hI
      rintro s1 a w_31 ⟨ns_32, hI⟩ r1 H1
      unfold G_ref07_window.b1 at H1
      refine wpIn_seq ?_
      refine seq_region (live := [36, 6, 5, 22, 4, 2, 0, 1]) (orc := []) hF hI ⟨[⟨36, [], .v (.bool (decide (s1.1 < (((rdA_St27 x0.Frames ((rd x0.Parts a1).Core)).Windows).length : Int))))⟩, ⟨6, [], .v (.int .i64 s1.1)⟩, ⟨5, [], .v (.slice (((svO (svO (svL [((sv0 0).1, (sv0 0).2), ((sv0 1).1, (sv0 1).2), ((sv0 2).1, (sv0 2).2), ((sv0 3).1, (sv0 3).2)]) 2) (((rd x0.Parts a1).Core : Int).toNat * 1)) 0).1) ((rdA_St27 x0.Frames ((rd x0.Parts a1).Core)).Windows).length (((svO (svO (svL [((sv0 0).1, (sv0 0).2), ((sv0 1).1, (sv0 1).2), ((sv0 2).1, (sv0 2).2), ((sv0 3).1, (sv0 3).2)]) 2) (((rd x0.Parts a1).Core : Int).toNat * 1)) 0).2))⟩, ⟨22, [], .v (.bool ((((rd x0.Parts a1).Core) != 0) && (((rd x0.Parts a1).Core) != 1)))⟩, ⟨4, [], .v (.bool s1.2)⟩, ⟨2, [], .v (.pointer (some B_3))⟩, ⟨0, [], .v (.agg ((kd_Config).cells x0 sv0).toArray)⟩, ⟨1, [], .v (.int .i64 a1)⟩], [], [], [], none, none⟩ [] (by kernel_rfl) trivial (fun ns_33 a w_34 hI _ => ?_)
      refine cond_ hI (decide (s1.1 < (((rdA_St27 x0.Frames ((rd x0.Parts a1).Core)).Windows).length : Int))) rfl (fun hc_35 => ?_) (fun hc_35 => ?_)
      · replace H1 := bif_t hc_35 H1
        refine wpIn_skip ?_
        refine then_normal ?_
        refine wpIn_seq ?_
        refine wpIn_block ?_
        obtain ⟨hN_36, H1⟩ := req_some H1
        obtain ⟨sv_37, hE_39, hA_38⟩ := Arr.elB (d := kd_Window) (hE_26).cont.1.1 s1.1 true (fun _ => hN_36)
        replace hE_39 := hE_39 rfl
        replace hA_38 := fun (_ : true = true) => hA_38 rfl
        refine seq_region (live := [45, 36, 6, 5, 22, 4, 2, 0, 1]) (orc := [[.int .i64 ((rd ((rdA_St27 x0.Frames ((rd x0.Parts a1).Core)).Windows) s1.1).Part)]]) hF hI ⟨[⟨45, [], .v (.bool (((rd ((rdA_St27 x0.Frames ((rd x0.Parts a1).Core)).Windows) s1.1).Part) == a1))⟩, ⟨36, [], .v (.bool (decide (s1.1 < (((rdA_St27 x0.Frames ((rd x0.Parts a1).Core)).Windows).length : Int))))⟩, ⟨6, [], .v (.int .i64 s1.1)⟩, ⟨5, [], .v (.slice (((svO (svO (svL [((sv0 0).1, (sv0 0).2), ((sv0 1).1, (sv0 1).2), ((sv0 2).1, (sv0 2).2), ((sv0 3).1, (sv0 3).2)]) 2) (((rd x0.Parts a1).Core : Int).toNat * 1)) 0).1) ((rdA_St27 x0.Frames ((rd x0.Parts a1).Core)).Windows).length (((svO (svO (svL [((sv0 0).1, (sv0 0).2), ((sv0 1).1, (sv0 1).2), ((sv0 2).1, (sv0 2).2), ((sv0 3).1, (sv0 3).2)]) 2) (((rd x0.Parts a1).Core : Int).toNat * 1)) 0).2))⟩, ⟨22, [], .v (.bool ((((rd x0.Parts a1).Core) != 0) && (((rd x0.Parts a1).Core) != 1)))⟩, ⟨4, [], .v (.bool s1.2)⟩, ⟨2, [], .v (.pointer (some B_3))⟩, ⟨0, [], .v (.agg ((kd_Config).cells x0 sv0).toArray)⟩, ⟨1, [], .v (.int .i64 a1)⟩], [], [], [], none, none⟩ [.need true (0 ≤ s1.1 ∧ s1.1 < (((rdA_St27 x0.Frames ((rd x0.Parts a1).Core)).Windows).length : Int)), .need true (((svO (svO (svL [((sv0 0).1, (sv0 0).2), ((sv0 1).1, (sv0 1).2), ((sv0 2).1, (sv0 2).2), ((sv0 3).1, (sv0 3).2)]) 2) (((rd x0.Parts a1).Core : Int).toNat * 1)) 0).1 = some (adr (((svO (svO (svL [((sv0 0).1, (sv0 0).2), ((sv0 1).1, (sv0 1).2), ((sv0 2).1, (sv0 2).2), ((sv0 3).1, (sv0 3).2)]) 2) (((rd x0.Parts a1).Core : Int).toNat * 1)) 0).1))), .cell true ((adr (((svO (svO (svL [((sv0 0).1, (sv0 0).2), ((sv0 1).1, (sv0 1).2), ((sv0 2).1, (sv0 2).2), ((sv0 3).1, (sv0 3).2)]) 2) (((rd x0.Parts a1).Core : Int).toNat * 1)) 0).1)).add ((s1.1 : Int).toNat * 3)) [.int .i64 ((rd ((rdA_St27 x0.Frames ((rd x0.Parts a1).Core)).Windows) s1.1).Part)]] (by kernel_rfl) ⟨ob_inb (fun _ => hN_36), hA_38, ob_el (fun _ => hE_39) 0 [.int .i64 ((rd ((rdA_St27 x0.Frames ((rd x0.Parts a1).Core)).Windows) s1.1).Part)] rfl, trivial⟩ (fun ns_40 a w_41 hI _ => ?_)
        refine cond_ hI ((((rd ((rdA_St27 x0.Frames ((rd x0.Parts a1).Core)).Windows) s1.1).Part) == a1)) rfl (fun hc_42 => ?_) (fun hc_42 => ?_)
        · replace H1 := bif_t hc_42 H1
          refine seq_region (live := [4, 45, 36, 6, 5, 22, 2, 0, 1]) (orc := []) hF hI ⟨[⟨4, [], .v (.bool true)⟩, ⟨45, [], .v (.bool (((rd ((rdA_St27 x0.Frames ((rd x0.Parts a1).Core)).Windows) s1.1).Part) == a1))⟩, ⟨36, [], .v (.bool (decide (s1.1 < (((rdA_St27 x0.Frames ((rd x0.Parts a1).Core)).Windows).length : Int))))⟩, ⟨6, [], .v (.int .i64 s1.1)⟩, ⟨5, [], .v (.slice (((svO (svO (svL [((sv0 0).1, (sv0 0).2), ((sv0 1).1, (sv0 1).2), ((sv0 2).1, (sv0 2).2), ((sv0 3).1, (sv0 3).2)]) 2) (((rd x0.Parts a1).Core : Int).toNat * 1)) 0).1) ((rdA_St27 x0.Frames ((rd x0.Parts a1).Core)).Windows).length (((svO (svO (svL [((sv0 0).1, (sv0 0).2), ((sv0 1).1, (sv0 1).2), ((sv0 2).1, (sv0 2).2), ((sv0 3).1, (sv0 3).2)]) 2) (((rd x0.Parts a1).Core : Int).toNat * 1)) 0).2))⟩, ⟨22, [], .v (.bool ((((rd x0.Parts a1).Core) != 0) && (((rd x0.Parts a1).Core) != 1)))⟩, ⟨2, [], .v (.pointer (some B_3))⟩, ⟨0, [], .v (.agg ((kd_Config).cells x0 sv0).toArray)⟩, ⟨1, [], .v (.int .i64 a1)⟩], [], [], [], none, none⟩ [] (by kernel_rfl) trivial (fun ns_43 a w_44 hI _ => ?_)
          refine wpIn_ret ?_
          refine inBlock_ret ?_
          refine then_ret ?_
          refine then_ret ?_
          obtain rfl := Option.some.inj H1
          refine .inr ⟨_, rfl, fun ho => ?_⟩
          subst ho
          refine inBlock_ret ?_
          refine then_ret ?_
          obtain rfl := Option.some.inj H0
          exact ret1 hI rfl rfl ⟨rfl, hE.below hI⟩
        · replace H1 := bif_f hc_42 H1
          refine wpIn_skip ?_
          refine inBlock_normal ?_
          refine then_normal ?_
          refine region_ (live := [6, 45, 36, 5, 22, 4, 2, 0, 1]) (orc := []) hF hI ⟨[⟨6, [], .v (.int .i64 (IntKind.i64.wrap (s1.1 + 1)))⟩, ⟨45, [], .v (.bool (((rd ((rdA_St27 x0.Frames ((rd x0.Parts a1).Core)).Windows) s1.1).Part) == a1))⟩, ⟨36, [], .v (.bool (decide (s1.1 < (((rdA_St27 x0.Frames ((rd x0.Parts a1).Core)).Windows).length : Int))))⟩, ⟨5, [], .v (.slice (((svO (svO (svL [((sv0 0).1, (sv0 0).2), ((sv0 1).1, (sv0 1).2), ((sv0 2).1, (sv0 2).2), ((sv0 3).1, (sv0 3).2)]) 2) (((rd x0.Parts a1).Core : Int).toNat * 1)) 0).1) ((rdA_St27 x0.Frames ((rd x0.Parts a1).Core)).Windows).length (((svO (svO (svL [((sv0 0).1, (sv0 0).2), ((sv0 1).1, (sv0 1).2), ((sv0 2).1, (sv0 2).2), ((sv0 3).1, (sv0 3).2)]) 2) (((rd x0.Parts a1).Core : Int).toNat * 1)) 0).2))⟩, ⟨22, [], .v (.bool ((((rd x0.Parts a1).Core) != 0) && (((rd x0.Parts a1).Core) != 1)))⟩, ⟨4, [], .v (.bool s1.2)⟩, ⟨2, [], .v (.pointer (some B_3))⟩, ⟨0, [], .v (.agg ((kd_Config).cells x0 sv0).toArray)⟩, ⟨1, [], .v (.int .i64 a1)⟩], [], [], [], none, none⟩ [] (by kernel_rfl) trivial (fun ns_45 a w_46 hI _ => ?_)
          refine then_normal ?_
          obtain rfl := Option.some.inj H1
          exact ⟨_, rfl, ⟨_, hI.pick [6, 5, 22, 4, 2, 0, 1] 0 ⟨[⟨6, [], .v (.int .i64 (IntKind.i64.wrap (s1.1 + 1)))⟩, ⟨5, [], .v (.slice (((svO (svO (svL [((sv0 0).1, (sv0 0).2), ((sv0 1).1, (sv0 1).2), ((sv0 2).1, (sv0 2).2), ((sv0 3).1, (sv0 3).2)]) 2) (((rd x0.Parts a1).Core : Int).toNat * 1)) 0).1) ((rdA_St27 x0.Frames ((rd x0.Parts a1).Core)).Windows).length (((svO (svO (svL [((sv0 0).1, (sv0 0).2), ((sv0 1).1, (sv0 1).2), ((sv0 2).1, (sv0 2).2), ((sv0 3).1, (sv0 3).2)]) 2) (((rd x0.Parts a1).Core : Int).toNat * 1)) 0).2))⟩, ⟨22, [], .v (.bool ((((rd x0.Parts a1).Core) != 0) && (((rd x0.Parts a1).Core) != 1)))⟩, ⟨4, [], .v (.bool s1.2)⟩, ⟨2, [], .v (.pointer (some B_3))⟩, ⟨0, [], .v (.agg ((kd_Config).cells x0 sv0).toArray)⟩, ⟨1, [], .v (.int .i64 a1)⟩], [], [], [], none, none⟩ (by kernel_rfl)⟩⟩
      · replace H1 := bif_f hc_35 H1
        refine wpIn_exit ?_
        refine then_exit ?_
        refine then_exit ?_
        obtain rfl := Option.some.inj H1
        exact .inl ⟨_, rfl, rfl, ⟨_, hI.pick [6, 5, 22, 4, 2, 0, 1] 0 ⟨[⟨6, [], .v (.int .i64 s1.1)⟩, ⟨5, [], .v (.slice (((svO (svO (svL [((sv0 0).1, (sv0 0).2), ((sv0 1).1, (sv0 1).2), ((sv0 2).1, (sv0 2).2), ((sv0 3).1, (sv0 3).2)]) 2) (((rd x0.Parts a1).Core : Int).toNat * 1)) 0).1) ((rdA_St27 x0.Frames ((rd x0.Parts a1).Core)).Windows).length (((svO (svO (svL [((sv0 0).1, (sv0 0).2), ((sv0 1).1, (sv0 1).2), ((sv0 2).1, (sv0 2).2), ((sv0 3).1, (sv0 3).2)]) 2) (((rd x0.Parts a1).Core : Int).toNat * 1)) 0).2))⟩, ⟨22, [], .v (.bool ((((rd x0.Parts a1).Core) != 0) && (((rd x0.Parts a1).Core) != 1)))⟩, ⟨4, [], .v (.bool s1.2)⟩, ⟨2, [], .v (.pointer (some B_3))⟩, ⟨0, [], .v (.agg ((kd_Config).cells x0 sv0).toArray)⟩, ⟨1, [], .v (.int .i64 a1)⟩], [], [], [], none, none⟩ (by kernel_rfl)⟩⟩
    · clear hI
      rintro s1 a w_49 ho ⟨ns_50, hI⟩
      subst ho
      replace H0 : (some false : Option (Bool)) = _ := H0
      refine then_normal ?_
      refine seq_region (live := [4, 6, 5, 22, 2, 0, 1]) (orc := []) hF hI ⟨[⟨4, [], .v (.bool false)⟩, ⟨6, [], .v (.int .i64 s1.1)⟩, ⟨5, [], .v (.slice (((svO (svO (svL [((sv0 0).1, (sv0 0).2), ((sv0 1).1, (sv0 1).2), ((sv0 2).1, (sv0 2).2), ((sv0 3).1, (sv0 3).2)]) 2) (((rd x0.Parts a1).Core : Int).toNat * 1)) 0).1) ((rdA_St27 x0.Frames ((rd x0.Parts a1).Core)).Windows).length (((svO (svO (svL [((sv0 0).1, (sv0 0).2), ((sv0 1).1, (sv0 1).2), ((sv0 2).1, (sv0 2).2), ((sv0 3).1, (sv0 3).2)]) 2) (((rd x0.Parts a1).Core : Int).toNat * 1)) 0).2))⟩, ⟨22, [], .v (.bool ((((rd x0.Parts a1).Core) != 0) && (((rd x0.Parts a1).Core) != 1)))⟩, ⟨2, [], .v (.pointer (some B_3))⟩, ⟨0, [], .v (.agg ((kd_Config).cells x0 sv0).toArray)⟩, ⟨1, [], .v (.int .i64 a1)⟩], [], [], [], none, none⟩ [] (by kernel_rfl) trivial (fun ns_51 a w_52 hI _ => ?_)
      refine wpIn_ret ?_
      obtain rfl := Option.some.inj H0
      exact ret1 hI rfl rfl ⟨rfl, hE.below hI⟩

/-! ### porthole/portholeref07.part: function 86 -/
noncomputable def G_ref07_part (x0 : Config) (a1 : Int) : Option (Bool) := some (decide (a1 ≥ 0) && decide (a1 < (x0.Parts.length : Int)))
set_option maxRecDepth 100000 in
set_option maxHeartbeats 4000000 in
theorem G_ref07_part.calls (x0 : Config) (a1 : Int) (sv0 : SV) (w : World) {S : Nat → Prop} (hx0 : (kd_Config).cont S w x0 sv0) (r : Bool) (h : G_ref07_part x0 a1 = some r) :
    Calls Try.prog 86 #[.agg ((kd_Config).cells x0 sv0).toArray, .int .i64 a1] w fun e w' => e = .returned (.bool r) ∧ Below w.heap.size w w' := by
  replace hx0 := Kd.lo _ hx0
  unfold G_ref07_part at h
  have H0 := h
  clear h
  refine enter Try.func86 rfl [.agg ((kd_Config).cells x0 sv0).toArray, .int .i64 a1] (n := 14) rfl (Nat.le_of_ble_eq_true rfl) (fun a hI => ?_)
  have hF : FOpen Fence.wide := .inl rfl
  have hE := Ep.start w
  refine seq_region (live := [4, 2, 0, 1]) (orc := []) hF hI ⟨[⟨4, [], .v (.bool false)⟩, ⟨2, [], .p 0 0⟩, ⟨0, [], .v (.agg ((kd_Config).cells x0 sv0).toArray)⟩, ⟨1, [], .v (.int .i64 a1)⟩], [], [], [((((kd_Config).cells x0 sv0).map EV.v), 29)], none, none⟩ [] (by kernel_rfl) trivial (fun ns_1 a w_2 hI _ => ?_)
  refine seq_region (live := [4, 2, 0, 1]) (orc := []) hF hI ⟨[⟨4, [], .v (.bool (decide (a1 ≥ 0) && decide (a1 < (x0.Parts.length : Int))))⟩, ⟨2, [], .p 0 0⟩, ⟨0, [], .v (.agg ((kd_Config).cells x0 sv0).toArray)⟩, ⟨1, [], .v (.int .i64 a1)⟩], [], [], [((((kd_Config).cells x0 sv0).map EV.v), 29)], none, none⟩ [] (by kernel_rfl) trivial (fun ns_3 a w_4 hI _ => ?_)
  refine wpIn_ret ?_
  obtain rfl := Option.some.inj H0
  exact ret1 hI rfl rfl ⟨rfl, hE.below hI⟩

/-! ### porthole/portholeref07.chans: function 73 -/
noncomputable def G_ref07_chans.b1 (x0 : Config) (a1 : Int) (s1 : Int × Bool) : Option (Stp (Int × Bool) (Ex (Int × Bool) (Bool))) := (bif decide (s1.1 < (x0.Chans.length : Int)) then (req (inb s1.1 x0.Chans.length) (bif (a1 == 5) then (bif ((((rd x0.Chans s1.1).Kind) != 1) && (((rd x0.Chans s1.1).Kind) != 2)) then some (.out (.ret true)) else some (.next ((IntKind.i64.wrap (s1.1 + 1)), s1.2))) else (bif (a1 == 6) then ((G_ref07_part x0 ((rd x0.Chans s1.1).From)).bind fun t_35 => ((cal (!(!t_35)) (G_ref07_part x0 ((rd x0.Chans s1.1).To)) default).bind fun t_37 => (bif ((!t_35) || (!t_37)) then some (.out (.ret true)) else some (.next ((IntKind.i64.wrap (s1.1 + 1)), s1.2))))) else (bif (a1 == 7) then (bif (((rd x0.Chans s1.1).From) == ((rd x0.Chans s1.1).To)) then some (.out (.ret true)) else some (.next ((IntKind.i64.wrap (s1.1 + 1)), s1.2))) else (bif (a1 == 8) then (bif (decide (((rd x0.Chans s1.1).Words) < 1) || decide (((rd x0.Chans s1.1).Words) > 16)) then some (.out (.ret true)) else some (.next ((IntKind.i64.wrap (s1.1 + 1)), s1.2))) else (bif (a1 == 9) then (bif (((((rd x0.Chans s1.1).Kind) == 1) && (((rd x0.Chans s1.1).Depth) != 0)) || (((((((rd x0.Chans s1.1).Kind) == 2) && (((rd x0.Chans s1.1).Depth) != 1)) && (((rd x0.Chans s1.1).Depth) != 2)) && (((rd x0.Chans s1.1).Depth) != 4)) && (((rd x0.Chans s1.1).Depth) != 8))) then some (.out (.ret true)) else some (.next ((IntKind.i64.wrap (s1.1 + 1)), s1.2))) else (bif (a1 == 10) then (bif (((((rd x0.Chans s1.1).Kind) == 1) && (decide (((rd x0.Chans s1.1).Period) < 0) || decide (((rd x0.Chans s1.1).Period) > 1048576))) || ((((rd x0.Chans s1.1).Kind) == 2) && (((rd x0.Chans s1.1).Period) != 0))) then some (.out (.ret true)) else some (.next ((IntKind.i64.wrap (s1.1 + 1)), s1.2))) else (bif (bif (a1 == 11) then ((((rd x0.Chans s1.1).Kind) == 1) && (((rd x0.Chans s1.1).Boot) != 0)) else false) then some (.out (.ret true)) else some (.next ((IntKind.i64.wrap (s1.1 + 1)), s1.2)))))))))) else some (.out (.brk (s1.1, s1.2))))
noncomputable def G_ref07_chans (x0 : Config) (a1 : Int) : Option (Bool) := ((loopω (G_ref07_chans.b1 x0 a1) (0, false)).bind fun o => o.on (fun s1 => some false) (fun r => some r))
set_option maxRecDepth 100000 in
set_option maxHeartbeats 4000000 in
theorem G_ref07_chans.calls (x0 : Config) (a1 : Int) (sv0 : SV) (w : World) {S : Nat → Prop} (hx0 : (kd_Config).cont S w x0 sv0) (r : Bool) (h : G_ref07_chans x0 a1 = some r) :
    Calls Try.prog 73 #[.agg ((kd_Config).cells x0 (svL [((sv0 0).1, (sv0 0).2), ((sv0 1).1, (sv0 1).2), ((sv0 2).1, (sv0 2).2), ((sv0 3).1, (sv0 3).2)])).toArray, .int .i64 a1] w fun e w' => e = .returned (.bool r) ∧ Below w.heap.size w w' := by
  replace hx0 := Kd.lo _ hx0
  unfold G_ref07_chans at h
  have H0 := h
  clear h
  refine enter Try.func73 rfl [.agg ((kd_Config).cells x0 (svL [((sv0 0).1, (sv0 0).2), ((sv0 1).1, (sv0 1).2), ((sv0 2).1, (sv0 2).2), ((sv0 3).1, (sv0 3).2)])).toArray, .int .i64 a1] (n := 133) rfl (Nat.le_of_ble_eq_true rfl) (fun a hI => ?_)
  have hF : FOpen Fence.wide := .inl rfl
  have hE := Ep.start w
  refine seq_region (live := [4, 2, 0, 1]) (orc := []) hF hI ⟨[⟨4, [], .v (.bool false)⟩, ⟨2, [], .p 0 0⟩, ⟨0, [], .v (.agg ((kd_Config).cells x0 sv0).toArray)⟩, ⟨1, [], .v (.int .i64 a1)⟩], [], [], [((((kd_Config).cells x0 sv0).map EV.v), 29)], none, none⟩ [] (by kernel_rfl) trivial (fun ns_1 a w_2 hI _ => ?_)
  refine wpIn_seq ?_
  refine seq_region (live := [5, 4, 2, 0, 1]) (orc := []) hF hI ⟨[⟨5, [], .v (.int .i64 0)⟩, ⟨4, [], .v (.bool false)⟩, ⟨2, [], .p 0 0⟩, ⟨0, [], .v (.agg ((kd_Config).cells x0 sv0).toArray)⟩, ⟨1, [], .v (.int .i64 a1)⟩], [], [], [((((kd_Config).cells x0 sv0).map EV.v), 29)], none, none⟩ [] (by kernel_rfl) trivial (fun ns_3 a w_4 hI _ => ?_)
  obtain ⟨o_122, hL_123, H0⟩ := bind_some H0
  refine block_loop (fun (s1 : Int × Bool) a w_128 => ∃ ns, St w [] 133 ⟨[⟨5, [], .v (.int .i64 s1.1)⟩, ⟨4, [], .v (.bool s1.2)⟩, ⟨2, [], .p 0 0⟩, ⟨0, [], .v (.agg ((kd_Config).cells x0 (svL [((sv0 0).1, (sv0 0).2), ((sv0 1).1, (sv0 1).2), ((sv0 2).1, (sv0 2).2), ((sv0 3).1, (sv0 3).2)])).toArray)⟩, ⟨1, [], .v (.int .i64 a1)⟩], [], [], [((((kd_Config).cells x0 sv0).map EV.v), 29)], none, none⟩ ns a w_128) (0, false) hL_123 ⟨_, hI.pick [5, 4, 2, 0, 1] 1 ⟨[⟨5, [], .v (.int .i64 0)⟩, ⟨4, [], .v (.bool false)⟩, ⟨2, [], .p 0 0⟩, ⟨0, [], .v (.agg ((kd_Config).cells x0 (svL [((sv0 0).1, (sv0 0).2), ((sv0 1).1, (sv0 1).2), ((sv0 2).1, (sv0 2).2), ((sv0 3).1, (sv0 3).2)])).toArray)⟩, ⟨1, [], .v (.int .i64 a1)⟩], [], [], [((((kd_Config).cells x0 sv0).map EV.v), 29)], none, none⟩ (by kernel_rfl)⟩ ?_ ?_
  · clear hI
    rintro s1 a w_5 ⟨ns_6, hI⟩ r1 H1
    unfold G_ref07_chans.b1 at H1
    refine wpIn_seq ?_
    refine seq_region (live := [12, 5, 4, 2, 0, 1]) (orc := []) hF hI ⟨[⟨12, [], .v (.bool (decide (s1.1 < (x0.Chans.length : Int))))⟩, ⟨5, [], .v (.int .i64 s1.1)⟩, ⟨4, [], .v (.bool s1.2)⟩, ⟨2, [], .p 0 0⟩, ⟨0, [], .v (.agg ((kd_Config).cells x0 sv0).toArray)⟩, ⟨1, [], .v (.int .i64 a1)⟩], [], [], [((((kd_Config).cells x0 sv0).map EV.v), 29)], none, none⟩ [] (by kernel_rfl) trivial (fun ns_7 a w_8 hI _ => ?_)
    refine cond_ hI (decide (s1.1 < (x0.Chans.length : Int))) rfl (fun hc_9 => ?_) (fun hc_9 => ?_)
    · replace H1 := bif_t hc_9 H1
      refine wpIn_skip ?_
      refine then_normal ?_
      refine wpIn_seq ?_
      refine wpIn_block ?_
      obtain ⟨hN_10, H1⟩ := req_some H1
      obtain ⟨sv_11, hE_13, hA_12⟩ := Arr.elB (d := kd_Chan) hx0.2.1.1 s1.1 true (fun _ => hN_10)
      replace hE_13 := hE_13 rfl
      replace hA_12 := fun (_ : true = true) => hA_12 rfl
      refine seq_region (live := [6, 12, 5, 4, 2, 0, 1]) (orc := [(kd_Chan).cells (rd x0.Chans s1.1) sv_11]) hF hI ⟨[⟨6, [], .p 1 0⟩, ⟨12, [], .v (.bool (decide (s1.1 < (x0.Chans.length : Int))))⟩, ⟨5, [], .v (.int .i64 s1.1)⟩, ⟨4, [], .v (.bool s1.2)⟩, ⟨2, [], .p 0 0⟩, ⟨0, [], .v (.agg ((kd_Config).cells x0 sv0).toArray)⟩, ⟨1, [], .v (.int .i64 a1)⟩], [], [], [((((kd_Config).cells x0 sv0).map EV.v), 29), ((((kd_Chan).cells (rd x0.Chans s1.1) sv_11).map EV.v), 74)], none, none⟩ [.need true (0 ≤ s1.1 ∧ s1.1 < (x0.Chans.length : Int)), .need true ((sv0 1).1 = some (adr ((sv0 1).1))), .cell true ((adr ((sv0 1).1)).add ((s1.1 : Int).toNat * 7)) ((kd_Chan).cells (rd x0.Chans s1.1) sv_11)] (by kernel_rfl) ⟨ob_inb (fun _ => hN_10), hA_12, ob_el (fun _ => hE_13) 0 ((kd_Chan).cells (rd x0.Chans s1.1) sv_11) rfl, trivial⟩ (fun ns_14 a w_15 hI _ => ?_)
      refine seq_region (live := [7, 6, 12, 5, 4, 2, 0, 1]) (orc := []) hF hI ⟨[⟨7, [], .v (.bool false)⟩, ⟨6, [], .p 1 0⟩, ⟨12, [], .v (.bool (decide (s1.1 < (x0.Chans.length : Int))))⟩, ⟨5, [], .v (.int .i64 s1.1)⟩, ⟨4, [], .v (.bool s1.2)⟩, ⟨2, [], .p 0 0⟩, ⟨0, [], .v (.agg ((kd_Config).cells x0 sv0).toArray)⟩, ⟨1, [], .v (.int .i64 a1)⟩], [], [], [((((kd_Config).cells x0 sv0).map EV.v), 29), ((((kd_Chan).cells (rd x0.Chans s1.1) sv_11).map EV.v), 74)], none, none⟩ [] (by kernel_rfl) trivial (fun ns_16 a w_17 hI _ => ?_)
      refine wpIn_seq ?_
      refine seq_region (live := [20, 7, 6, 12, 5, 4, 2, 0, 1]) (orc := []) hF hI ⟨[⟨20, [], .v (.int .i64 a1)⟩, ⟨7, [], .v (.bool false)⟩, ⟨6, [], .p 1 0⟩, ⟨12, [], .v (.bool (decide (s1.1 < (x0.Chans.length : Int))))⟩, ⟨5, [], .v (.int .i64 s1.1)⟩, ⟨4, [], .v (.bool s1.2)⟩, ⟨2, [], .p 0 0⟩, ⟨0, [], .v (.agg ((kd_Config).cells x0 sv0).toArray)⟩, ⟨1, [], .v (.int .i64 a1)⟩], [], [], [((((kd_Config).cells x0 sv0).map EV.v), 29), ((((kd_Chan).cells (rd x0.Chans s1.1) sv_11).map EV.v), 74)], none, none⟩ [] (by kernel_rfl) trivial (fun ns_18 a w_19 hI _ => ?_)
      refine wpIn_block ?_
      refine seq_region (live := [21, 20, 7, 6, 12, 5, 4, 2, 0, 1]) (orc := []) hF hI ⟨[⟨21, [], .v (.bool (a1 == 5))⟩, ⟨20, [], .v (.int .i64 a1)⟩, ⟨7, [], .v (.bool false)⟩, ⟨6, [], .p 1 0⟩, ⟨12, [], .v (.bool (decide (s1.1 < (x0.Chans.length : Int))))⟩, ⟨5, [], .v (.int .i64 s1.1)⟩, ⟨4, [], .v (.bool s1.2)⟩, ⟨2, [], .p 0 0⟩, ⟨0, [], .v (.agg ((kd_Config).cells x0 sv0).toArray)⟩, ⟨1, [], .v (.int .i64 a1)⟩], [], [], [((((kd_Config).cells x0 sv0).map EV.v), 29), ((((kd_Chan).cells (rd x0.Chans s1.1) sv_11).map EV.v), 74)], none, none⟩ [] (by kernel_rfl) trivial (fun ns_20 a w_21 hI _ => ?_)
      refine cond_ hI ((a1 == 5)) rfl (fun hc_22 => ?_) (fun hc_22 => ?_)
      · replace H1 := bif_t hc_22 H1
        refine region_ (live := [7, 21, 20, 6, 12, 5, 4, 2, 0, 1]) (orc := []) hF hI ⟨[⟨7, [], .v (.bool ((((rd x0.Chans s1.1).Kind) != 1) && (((rd x0.Chans s1.1).Kind) != 2)))⟩, ⟨21, [], .v (.bool (a1 == 5))⟩, ⟨20, [], .v (.int .i64 a1)⟩, ⟨6, [], .p 1 0⟩, ⟨12, [], .v (.bool (decide (s1.1 < (x0.Chans.length : Int))))⟩, ⟨5, [], .v (.int .i64 s1.1)⟩, ⟨4, [], .v (.bool s1.2)⟩, ⟨2, [], .p 0 0⟩, ⟨0, [], .v (.agg ((kd_Config).cells x0 sv0).toArray)⟩, ⟨1, [], .v (.int .i64 a1)⟩], [], [], [((((kd_Config).cells x0 sv0).map EV.v), 29), ((((kd_Chan).cells (rd x0.Chans s1.1) sv_11).map EV.v), 74)], none, none⟩ [] (by kernel_rfl) trivial (fun ns_23 a w_24 hI _ => ?_)
        refine inBlock_normal ?_
        refine then_normal ?_
        refine seq_region (live := [132, 7, 21, 20, 6, 12, 5, 4, 2, 0, 1]) (orc := []) hF hI ⟨[⟨132, [], .v (.bool ((((rd x0.Chans s1.1).Kind) != 1) && (((rd x0.Chans s1.1).Kind) != 2)))⟩, ⟨7, [], .v (.bool ((((rd x0.Chans s1.1).Kind) != 1) && (((rd x0.Chans s1.1).Kind) != 2)))⟩, ⟨21, [], .v (.bool (a1 == 5))⟩, ⟨20, [], .v (.int .i64 a1)⟩, ⟨6, [], .p 1 0⟩, ⟨12, [], .v (.bool (decide (s1.1 < (x0.Chans.length : Int))))⟩, ⟨5, [], .v (.int .i64 s1.1)⟩, ⟨4, [], .v (.bool s1.2)⟩, ⟨2, [], .p 0 0⟩, ⟨0, [], .v (.agg ((kd_Config).cells x0 sv0).toArray)⟩, ⟨1, [], .v (.int .i64 a1)⟩], [], [], [((((kd_Config).cells x0 sv0).map EV.v), 29), ((((kd_Chan).cells (rd x0.Chans s1.1) sv_11).map EV.v), 74)], none, none⟩ [] (by kernel_rfl) trivial (fun ns_25 a w_26 hI _ => ?_)
        refine cond_ hI (((((rd x0.Chans s1.1).Kind) != 1) && (((rd x0.Chans s1.1).Kind) != 2))) rfl (fun hc_27 => ?_) (fun hc_27 => ?_)
        · replace H1 := bif_t hc_27 H1
          refine seq_region (live := [4, 132, 7, 21, 20, 6, 12, 5, 2, 0, 1]) (orc := []) hF hI ⟨[⟨4, [], .v (.bool true)⟩, ⟨132, [], .v (.bool ((((rd x0.Chans s1.1).Kind) != 1) && (((rd x0.Chans s1.1).Kind) != 2)))⟩, ⟨7, [], .v (.bool ((((rd x0.Chans s1.1).Kind) != 1) && (((rd x0.Chans s1.1).Kind) != 2)))⟩, ⟨21, [], .v (.bool (a1 == 5))⟩, ⟨20, [], .v (.int .i64 a1)⟩, ⟨6, [], .p 1 0⟩, ⟨12, [], .v (.bool (decide (s1.1 < (x0.Chans.length : Int))))⟩, ⟨5, [], .v (.int .i64 s1.1)⟩, ⟨2, [], .p 0 0⟩, ⟨0, [], .v (.agg ((kd_Config).cells x0 sv0).toArray)⟩, ⟨1, [], .v (.int .i64 a1)⟩], [], [], [((((kd_Config).cells x0 sv0).map EV.v), 29), ((((kd_Chan).cells (rd x0.Chans s1.1) sv_11).map EV.v), 74)], none, none⟩ [] (by kernel_rfl) trivial (fun ns_28 a w_29 hI _ => ?_)
          refine wpIn_ret ?_
          refine inBlock_ret ?_
          refine then_ret ?_
          refine then_ret ?_
          obtain rfl := Option.some.inj H1
          refine .inr ⟨_, rfl, fun ho => ?_⟩
          subst ho
          refine inBlock_ret ?_
          refine then_ret ?_
          obtain rfl := Option.some.inj H0
          exact ret1 hI rfl rfl ⟨rfl, hE.below hI⟩
        · replace H1 := bif_f hc_27 H1
          refine wpIn_skip ?_
          refine inBlock_normal ?_
          refine then_normal ?_
          refine region_ (live := [5, 132, 7, 21, 20, 6, 12, 4, 2, 0, 1]) (orc := []) hF hI ⟨[⟨5, [], .v (.int .i64 (IntKind.i64.wrap (s1.1 + 1)))⟩, ⟨132, [], .v (.bool ((((rd x0.Chans s1.1).Kind) != 1) && (((rd x0.Chans s1.1).Kind) != 2)))⟩, ⟨7, [], .v (.bool ((((rd x0.Chans s1.1).Kind) != 1) && (((rd x0.Chans s1.1).Kind) != 2)))⟩, ⟨21, [], .v (.bool (a1 == 5))⟩, ⟨20, [], .v (.int .i64 a1)⟩, ⟨6, [], .p 1 0⟩, ⟨12, [], .v (.bool (decide (s1.1 < (x0.Chans.length : Int))))⟩, ⟨4, [], .v (.bool s1.2)⟩, ⟨2, [], .p 0 0⟩, ⟨0, [], .v (.agg ((kd_Config).cells x0 sv0).toArray)⟩, ⟨1, [], .v (.int .i64 a1)⟩], [], [], [((((kd_Config).cells x0 sv0).map EV.v), 29), ((((kd_Chan).cells (rd x0.Chans s1.1) sv_11).map EV.v), 74)], none, none⟩ [] (by kernel_rfl) trivial (fun ns_30 a w_31 hI _ => ?_)
          refine then_normal ?_
          obtain rfl := Option.some.inj H1
          exact ⟨_, rfl, ⟨_, hI.pick [5, 4, 2, 0, 1] 1 ⟨[⟨5, [], .v (.int .i64 (IntKind.i64.wrap (s1.1 + 1)))⟩, ⟨4, [], .v (.bool s1.2)⟩, ⟨2, [], .p 0 0⟩, ⟨0, [], .v (.agg ((kd_Config).cells x0 sv0).toArray)⟩, ⟨1, [], .v (.int .i64 a1)⟩], [], [], [((((kd_Config).cells x0 sv0).map EV.v), 29)], none, none⟩ (by kernel_rfl)⟩⟩
      · replace H1 := bif_f hc_22 H1
        refine seq_region (live := [31, 21, 20, 7, 6, 12, 5, 4, 2, 0, 1]) (orc := []) hF hI ⟨[⟨31, [], .v (.bool (a1 == 6))⟩, ⟨21, [], .v (.bool (a1 == 5))⟩, ⟨20, [], .v (.int .i64 a1)⟩, ⟨7, [], .v (.bool false)⟩, ⟨6, [], .p 1 0⟩, ⟨12, [], .v (.bool (decide (s1.1 < (x0.Chans.length : Int))))⟩, ⟨5, [], .v (.int .i64 s1.1)⟩, ⟨4, [], .v (.bool s1.2)⟩, ⟨2, [], .p 0 0⟩, ⟨0, [], .v (.agg ((kd_Config).cells x0 sv0).toArray)⟩, ⟨1, [], .v (.int .i64 a1)⟩], [], [], [((((kd_Config).cells x0 sv0).map EV.v), 29), ((((kd_Chan).cells (rd x0.Chans s1.1) sv_11).map EV.v), 74)], none, none⟩ [] (by kernel_rfl) trivial (fun ns_32 a w_33 hI _ => ?_)
        refine cond_ hI ((a1 == 6)) rfl (fun hc_34 => ?_) (fun hc_34 => ?_)
        · replace H1 := bif_t hc_34 H1
          obtain ⟨t_35, hG_36, H1⟩ := bind_some H1
          obtain ⟨t_37, hG_38, H1⟩ := bind_some H1
          refine region_ (live := [7, 31, 21, 20, 6, 12, 5, 4, 2, 0, 1]) (orc := [[.bool t_35], [.bool t_37]]) hF hI ⟨[⟨7, [], .v (.bool ((!t_35) || (!t_37)))⟩, ⟨31, [], .v (.bool (a1 == 6))⟩, ⟨21, [], .v (.bool (a1 == 5))⟩, ⟨20, [], .v (.int .i64 a1)⟩, ⟨6, [], .p 1 0⟩, ⟨12, [], .v (.bool (decide (s1.1 < (x0.Chans.length : Int))))⟩, ⟨5, [], .v (.int .i64 s1.1)⟩, ⟨4, [], .v (.bool s1.2)⟩, ⟨2, [], .p 0 0⟩, ⟨0, [], .v (.agg ((kd_Config).cells x0 (svL [((sv0 0).1, (sv0 0).2), ((sv0 1).1, (sv0 1).2), ((sv0 2).1, (sv0 2).2), ((sv0 3).1, (sv0 3).2)])).toArray)⟩, ⟨1, [], .v (.int .i64 a1)⟩], [], [], [((((kd_Config).cells x0 sv0).map EV.v), 29), ((((kd_Chan).cells (rd x0.Chans s1.1) sv_11).map EV.v), 74)], none, none⟩ [.call true 86 [.agg ((kd_Config).cells x0 (svL [((sv0 0).1, (sv0 0).2), ((sv0 1).1, (sv0 1).2), ((sv0 2).1, (sv0 2).2), ((sv0 3).1, (sv0 3).2)])).toArray, .int .i64 ((rd x0.Chans s1.1).From)] (.bool t_35), .call (!(!t_35)) 86 [.agg ((kd_Config).cells x0 (svL [((sv0 0).1, (sv0 0).2), ((sv0 1).1, (sv0 1).2), ((sv0 2).1, (sv0 2).2), ((sv0 3).1, (sv0 3).2)])).toArray, .int .i64 ((rd x0.Chans s1.1).To)] (.bool t_37)] (by kernel_rfl) ⟨ob_call (enters Try.func86 (by kernel_rfl) rfl) (fun hg wz hk => G_ref07_part.calls x0 ((rd x0.Chans s1.1).From) (svL [((sv0 0).1, (sv0 0).2), ((sv0 1).1, (sv0 1).2), ((sv0 2).1, (sv0 2).2), ((sv0 3).1, (sv0 3).2)]) wz (S := fun _ => True) (Kd.any _ (Kd.keep kd_Config (contI (S := Lo S w w [] []) (w := w) (d := kd_Config) (x := x0) (sv := (svL [((sv0 0).1, (sv0 0).2), ((sv0 1).1, (sv0 1).2), ((sv0 2).1, (sv0 2).2), ((sv0 3).1, (sv0 3).2)])) ⟨⟨hx0.1.1, hx0.1.2⟩, ⟨hx0.2.1.1, hx0.2.1.2⟩, ⟨hx0.2.2.1.1, hx0.2.2.1.2⟩, ⟨hx0.2.2.2.1.1, hx0.2.2.2.1.2⟩, trivial⟩) (Lo.on hk))) _ hG_36), ob_call (enters Try.func86 (by kernel_rfl) rfl) (fun hg wz hk => G_ref07_part.calls x0 ((rd x0.Chans s1.1).To) (svL [((sv0 0).1, (sv0 0).2), ((sv0 1).1, (sv0 1).2), ((sv0 2).1, (sv0 2).2), ((sv0 3).1, (sv0 3).2)]) wz (S := fun _ => True) (Kd.any _ (Kd.keep kd_Config (contI (S := Lo S w w [] []) (w := w) (d := kd_Config) (x := x0) (sv := (svL [((sv0 0).1, (sv0 0).2), ((sv0 1).1, (sv0 1).2), ((sv0 2).1, (sv0 2).2), ((sv0 3).1, (sv0 3).2)])) ⟨⟨hx0.1.1, hx0.1.2⟩, ⟨hx0.2.1.1, hx0.2.1.2⟩, ⟨hx0.2.2.1.1, hx0.2.2.1.2⟩, ⟨hx0.2.2.2.1.1, hx0.2.2.2.1.2⟩, trivial⟩) (Lo.on hk))) _ (cal_some hG_38 hg)), trivial⟩ (fun ns_39 a w_40 hI _ => ?_)
          refine inBlock_normal ?_
          refine then_normal ?_
          refine seq_region (live := [132, 7, 31, 21, 20, 6, 12, 5, 4, 2, 0, 1]) (orc := []) hF hI ⟨[⟨132, [], .v (.bool ((!t_35) || (!t_37)))⟩, ⟨7, [], .v (.bool ((!t_35) || (!t_37)))⟩, ⟨31, [], .v (.bool (a1 == 6))⟩, ⟨21, [], .v (.bool (a1 == 5))⟩, ⟨20, [], .v (.int .i64 a1)⟩, ⟨6, [], .p 1 0⟩, ⟨12, [], .v (.bool (decide (s1.1 < (x0.Chans.length : Int))))⟩, ⟨5, [], .v (.int .i64 s1.1)⟩, ⟨4, [], .v (.bool s1.2)⟩, ⟨2, [], .p 0 0⟩, ⟨0, [], .v (.agg ((kd_Config).cells x0 (svL [((sv0 0).1, (sv0 0).2), ((sv0 1).1, (sv0 1).2), ((sv0 2).1, (sv0 2).2), ((sv0 3).1, (sv0 3).2)])).toArray)⟩, ⟨1, [], .v (.int .i64 a1)⟩], [], [], [((((kd_Config).cells x0 sv0).map EV.v), 29), ((((kd_Chan).cells (rd x0.Chans s1.1) sv_11).map EV.v), 74)], none, none⟩ [] (by kernel_rfl) trivial (fun ns_41 a w_42 hI _ => ?_)
          refine cond_ hI (((!t_35) || (!t_37))) rfl (fun hc_43 => ?_) (fun hc_43 => ?_)
          · replace H1 := bif_t hc_43 H1
            refine seq_region (live := [4, 132, 7, 31, 21, 20, 6, 12, 5, 2, 0, 1]) (orc := []) hF hI ⟨[⟨4, [], .v (.bool true)⟩, ⟨132, [], .v (.bool ((!t_35) || (!t_37)))⟩, ⟨7, [], .v (.bool ((!t_35) || (!t_37)))⟩, ⟨31, [], .v (.bool (a1 == 6))⟩, ⟨21, [], .v (.bool (a1 == 5))⟩, ⟨20, [], .v (.int .i64 a1)⟩, ⟨6, [], .p 1 0⟩, ⟨12, [], .v (.bool (decide (s1.1 < (x0.Chans.length : Int))))⟩, ⟨5, [], .v (.int .i64 s1.1)⟩, ⟨2, [], .p 0 0⟩, ⟨0, [], .v (.agg ((kd_Config).cells x0 (svL [((sv0 0).1, (sv0 0).2), ((sv0 1).1, (sv0 1).2), ((sv0 2).1, (sv0 2).2), ((sv0 3).1, (sv0 3).2)])).toArray)⟩, ⟨1, [], .v (.int .i64 a1)⟩], [], [], [((((kd_Config).cells x0 sv0).map EV.v), 29), ((((kd_Chan).cells (rd x0.Chans s1.1) sv_11).map EV.v), 74)], none, none⟩ [] (by kernel_rfl) trivial (fun ns_44 a w_45 hI _ => ?_)
            refine wpIn_ret ?_
            refine inBlock_ret ?_
            refine then_ret ?_
            refine then_ret ?_
            obtain rfl := Option.some.inj H1
            refine .inr ⟨_, rfl, fun ho => ?_⟩
            subst ho
            refine inBlock_ret ?_
            refine then_ret ?_
            obtain rfl := Option.some.inj H0
            exact ret1 hI rfl rfl ⟨rfl, hE.below hI⟩
          · replace H1 := bif_f hc_43 H1
            refine wpIn_skip ?_
            refine inBlock_normal ?_
            refine then_normal ?_
            refine region_ (live := [5, 132, 7, 31, 21, 20, 6, 12, 4, 2, 0, 1]) (orc := []) hF hI ⟨[⟨5, [], .v (.int .i64 (IntKind.i64.wrap (s1.1 + 1)))⟩, ⟨132, [], .v (.bool ((!t_35) || (!t_37)))⟩, ⟨7, [], .v (.bool ((!t_35) || (!t_37)))⟩, ⟨31, [], .v (.bool (a1 == 6))⟩, ⟨21, [], .v (.bool (a1 == 5))⟩, ⟨20, [], .v (.int .i64 a1)⟩, ⟨6, [], .p 1 0⟩, ⟨12, [], .v (.bool (decide (s1.1 < (x0.Chans.length : Int))))⟩, ⟨4, [], .v (.bool s1.2)⟩, ⟨2, [], .p 0 0⟩, ⟨0, [], .v (.agg ((kd_Config).cells x0 (svL [((sv0 0).1, (sv0 0).2), ((sv0 1).1, (sv0 1).2), ((sv0 2).1, (sv0 2).2), ((sv0 3).1, (sv0 3).2)])).toArray)⟩, ⟨1, [], .v (.int .i64 a1)⟩], [], [], [((((kd_Config).cells x0 sv0).map EV.v), 29), ((((kd_Chan).cells (rd x0.Chans s1.1) sv_11).map EV.v), 74)], none, none⟩ [] (by kernel_rfl) trivial (fun ns_46 a w_47 hI _ => ?_)
            refine then_normal ?_
            obtain rfl := Option.some.inj H1
            exact ⟨_, rfl, ⟨_, hI.pick [5, 4, 2, 0, 1] 1 ⟨[⟨5, [], .v (.int .i64 (IntKind.i64.wrap (s1.1 + 1)))⟩, ⟨4, [], .v (.bool s1.2)⟩, ⟨2, [], .p 0 0⟩, ⟨0, [], .v (.agg ((kd_Config).cells x0 (svL [((sv0 0).1, (sv0 0).2), ((sv0 1).1, (sv0 1).2), ((sv0 2).1, (sv0 2).2), ((sv0 3).1, (sv0 3).2)])).toArray)⟩, ⟨1, [], .v (.int .i64 a1)⟩], [], [], [((((kd_Config).cells x0 sv0).map EV.v), 29)], none, none⟩ (by kernel_rfl)⟩⟩
        · replace H1 := bif_f hc_34 H1
          refine seq_region (live := [45, 31, 21, 20, 7, 6, 12, 5, 4, 2, 0, 1]) (orc := []) hF hI ⟨[⟨45, [], .v (.bool (a1 == 7))⟩, ⟨31, [], .v (.bool (a1 == 6))⟩, ⟨21, [], .v (.bool (a1 == 5))⟩, ⟨20, [], .v (.int .i64 a1)⟩, ⟨7, [], .v (.bool false)⟩, ⟨6, [], .p 1 0⟩, ⟨12, [], .v (.bool (decide (s1.1 < (x0.Chans.length : Int))))⟩, ⟨5, [], .v (.int .i64 s1.1)⟩, ⟨4, [], .v (.bool s1.2)⟩, ⟨2, [], .p 0 0⟩, ⟨0, [], .v (.agg ((kd_Config).cells x0 (svL [((sv0 0).1, (sv0 0).2), ((sv0 1).1, (sv0 1).2), ((sv0 2).1, (sv0 2).2), ((sv0 3).1, (sv0 3).2)])).toArray)⟩, ⟨1, [], .v (.int .i64 a1)⟩], [], [], [((((kd_Config).cells x0 sv0).map EV.v), 29), ((((kd_Chan).cells (rd x0.Chans s1.1) sv_11).map EV.v), 74)], none, none⟩ [] (by kernel_rfl) trivial (fun ns_48 a w_49 hI _ => ?_)
          refine cond_ hI ((a1 == 7)) rfl (fun hc_50 => ?_) (fun hc_50 => ?_)
          · replace H1 := bif_t hc_50 H1
            refine region_ (live := [7, 45, 31, 21, 20, 6, 12, 5, 4, 2, 0, 1]) (orc := []) hF hI ⟨[⟨7, [], .v (.bool (((rd x0.Chans s1.1).From) == ((rd x0.Chans s1.1).To)))⟩, ⟨45, [], .v (.bool (a1 == 7))⟩, ⟨31, [], .v (.bool (a1 == 6))⟩, ⟨21, [], .v (.bool (a1 == 5))⟩, ⟨20, [], .v (.int .i64 a1)⟩, ⟨6, [], .p 1 0⟩, ⟨12, [], .v (.bool (decide (s1.1 < (x0.Chans.length : Int))))⟩, ⟨5, [], .v (.int .i64 s1.1)⟩, ⟨4, [], .v (.bool s1.2)⟩, ⟨2, [], .p 0 0⟩, ⟨0, [], .v (.agg ((kd_Config).cells x0 (svL [((sv0 0).1, (sv0 0).2), ((sv0 1).1, (sv0 1).2), ((sv0 2).1, (sv0 2).2), ((sv0 3).1, (sv0 3).2)])).toArray)⟩, ⟨1, [], .v (.int .i64 a1)⟩], [], [], [((((kd_Config).cells x0 sv0).map EV.v), 29), ((((kd_Chan).cells (rd x0.Chans s1.1) sv_11).map EV.v), 74)], none, none⟩ [] (by kernel_rfl) trivial (fun ns_51 a w_52 hI _ => ?_)
            refine inBlock_normal ?_
            refine then_normal ?_
            refine seq_region (live := [132, 7, 45, 31, 21, 20, 6, 12, 5, 4, 2, 0, 1]) (orc := []) hF hI ⟨[⟨132, [], .v (.bool (((rd x0.Chans s1.1).From) == ((rd x0.Chans s1.1).To)))⟩, ⟨7, [], .v (.bool (((rd x0.Chans s1.1).From) == ((rd x0.Chans s1.1).To)))⟩, ⟨45, [], .v (.bool (a1 == 7))⟩, ⟨31, [], .v (.bool (a1 == 6))⟩, ⟨21, [], .v (.bool (a1 == 5))⟩, ⟨20, [], .v (.int .i64 a1)⟩, ⟨6, [], .p 1 0⟩, ⟨12, [], .v (.bool (decide (s1.1 < (x0.Chans.length : Int))))⟩, ⟨5, [], .v (.int .i64 s1.1)⟩, ⟨4, [], .v (.bool s1.2)⟩, ⟨2, [], .p 0 0⟩, ⟨0, [], .v (.agg ((kd_Config).cells x0 (svL [((sv0 0).1, (sv0 0).2), ((sv0 1).1, (sv0 1).2), ((sv0 2).1, (sv0 2).2), ((sv0 3).1, (sv0 3).2)])).toArray)⟩, ⟨1, [], .v (.int .i64 a1)⟩], [], [], [((((kd_Config).cells x0 sv0).map EV.v), 29), ((((kd_Chan).cells (rd x0.Chans s1.1) sv_11).map EV.v), 74)], none, none⟩ [] (by kernel_rfl) trivial (fun ns_53 a w_54 hI _ => ?_)
            refine cond_ hI ((((rd x0.Chans s1.1).From) == ((rd x0.Chans s1.1).To))) rfl (fun hc_55 => ?_) (fun hc_55 => ?_)
            · replace H1 := bif_t hc_55 H1
              refine seq_region (live := [4, 132, 7, 45, 31, 21, 20, 6, 12, 5, 2, 0, 1]) (orc := []) hF hI ⟨[⟨4, [], .v (.bool true)⟩, ⟨132, [], .v (.bool (((rd x0.Chans s1.1).From) == ((rd x0.Chans s1.1).To)))⟩, ⟨7, [], .v (.bool (((rd x0.Chans s1.1).From) == ((rd x0.Chans s1.1).To)))⟩, ⟨45, [], .v (.bool (a1 == 7))⟩, ⟨31, [], .v (.bool (a1 == 6))⟩, ⟨21, [], .v (.bool (a1 == 5))⟩, ⟨20, [], .v (.int .i64 a1)⟩, ⟨6, [], .p 1 0⟩, ⟨12, [], .v (.bool (decide (s1.1 < (x0.Chans.length : Int))))⟩, ⟨5, [], .v (.int .i64 s1.1)⟩, ⟨2, [], .p 0 0⟩, ⟨0, [], .v (.agg ((kd_Config).cells x0 (svL [((sv0 0).1, (sv0 0).2), ((sv0 1).1, (sv0 1).2), ((sv0 2).1, (sv0 2).2), ((sv0 3).1, (sv0 3).2)])).toArray)⟩, ⟨1, [], .v (.int .i64 a1)⟩], [], [], [((((kd_Config).cells x0 sv0).map EV.v), 29), ((((kd_Chan).cells (rd x0.Chans s1.1) sv_11).map EV.v), 74)], none, none⟩ [] (by kernel_rfl) trivial (fun ns_56 a w_57 hI _ => ?_)
              refine wpIn_ret ?_
              refine inBlock_ret ?_
              refine then_ret ?_
              refine then_ret ?_
              obtain rfl := Option.some.inj H1
              refine .inr ⟨_, rfl, fun ho => ?_⟩
              subst ho
              refine inBlock_ret ?_
              refine then_ret ?_
              obtain rfl := Option.some.inj H0
              exact ret1 hI rfl rfl ⟨rfl, hE.below hI⟩
            · replace H1 := bif_f hc_55 H1
              refine wpIn_skip ?_
              refine inBlock_normal ?_
              refine then_normal ?_
              refine region_ (live := [5, 132, 7, 45, 31, 21, 20, 6, 12, 4, 2, 0, 1]) (orc := []) hF hI ⟨[⟨5, [], .v (.int .i64 (IntKind.i64.wrap (s1.1 + 1)))⟩, ⟨132, [], .v (.bool (((rd x0.Chans s1.1).From) == ((rd x0.Chans s1.1).To)))⟩, ⟨7, [], .v (.bool (((rd x0.Chans s1.1).From) == ((rd x0.Chans s1.1).To)))⟩, ⟨45, [], .v (.bool (a1 == 7))⟩, ⟨31, [], .v (.bool (a1 == 6))⟩, ⟨21, [], .v (.bool (a1 == 5))⟩, ⟨20, [], .v (.int .i64 a1)⟩, ⟨6, [], .p 1 0⟩, ⟨12, [], .v (.bool (decide (s1.1 < (x0.Chans.length : Int))))⟩, ⟨4, [], .v (.bool s1.2)⟩, ⟨2, [], .p 0 0⟩, ⟨0, [], .v (.agg ((kd_Config).cells x0 (svL [((sv0 0).1, (sv0 0).2), ((sv0 1).1, (sv0 1).2), ((sv0 2).1, (sv0 2).2), ((sv0 3).1, (sv0 3).2)])).toArray)⟩, ⟨1, [], .v (.int .i64 a1)⟩], [], [], [((((kd_Config).cells x0 sv0).map EV.v), 29), ((((kd_Chan).cells (rd x0.Chans s1.1) sv_11).map EV.v), 74)], none, none⟩ [] (by kernel_rfl) trivial (fun ns_58 a w_59 hI _ => ?_)
              refine then_normal ?_
              obtain rfl := Option.some.inj H1
              exact ⟨_, rfl, ⟨_, hI.pick [5, 4, 2, 0, 1] 1 ⟨[⟨5, [], .v (.int .i64 (IntKind.i64.wrap (s1.1 + 1)))⟩, ⟨4, [], .v (.bool s1.2)⟩, ⟨2, [], .p 0 0⟩, ⟨0, [], .v (.agg ((kd_Config).cells x0 (svL [((sv0 0).1, (sv0 0).2), ((sv0 1).1, (sv0 1).2), ((sv0 2).1, (sv0 2).2), ((sv0 3).1, (sv0 3).2)])).toArray)⟩, ⟨1, [], .v (.int .i64 a1)⟩], [], [], [((((kd_Config).cells x0 sv0).map EV.v), 29)], none, none⟩ (by kernel_rfl)⟩⟩
          · replace H1 := bif_f hc_50 H1
            refine seq_region (live := [52, 45, 31, 21, 20, 7, 6, 12, 5, 4, 2, 0, 1]) (orc := []) hF hI ⟨[⟨52, [], .v (.bool (a1 == 8))⟩, ⟨45, [], .v (.bool (a1 == 7))⟩, ⟨31, [], .v (.bool (a1 == 6))⟩, ⟨21, [], .v (.bool (a1 == 5))⟩, ⟨20, [], .v (.int .i64 a1)⟩, ⟨7, [], .v (.bool false)⟩, ⟨6, [], .p 1 0⟩, ⟨12, [], .v (.bool (decide (s1.1 < (x0.Chans.length : Int))))⟩, ⟨5, [], .v (.int .i64 s1.1)⟩, ⟨4, [], .v (.bool s1.2)⟩, ⟨2, [], .p 0 0⟩, ⟨0, [], .v (.agg ((kd_Config).cells x0 (svL [((sv0 0).1, (sv0 0).2), ((sv0 1).1, (sv0 1).2), ((sv0 2).1, (sv0 2).2), ((sv0 3).1, (sv0 3).2)])).toArray)⟩, ⟨1, [], .v (.int .i64 a1)⟩], [], [], [((((kd_Config).cells x0 sv0).map EV.v), 29), ((((kd_Chan).cells (rd x0.Chans s1.1) sv_11).map EV.v), 74)], none, none⟩ [] (by kernel_rfl) trivial (fun ns_60 a w_61 hI _ => ?_)
            refine cond_ hI ((a1 == 8)) rfl (fun hc_62 => ?_) (fun hc_62 => ?_)
            · replace H1 := bif_t hc_62 H1
              refine region_ (live := [7, 52, 45, 31, 21, 20, 6, 12, 5, 4, 2, 0, 1]) (orc := []) hF hI ⟨[⟨7, [], .v (.bool (decide (((rd x0.Chans s1.1).Words) < 1) || decide (((rd x0.Chans s1.1).Words) > 16)))⟩, ⟨52, [], .v (.bool (a1 == 8))⟩, ⟨45, [], .v (.bool (a1 == 7))⟩, ⟨31, [], .v (.bool (a1 == 6))⟩, ⟨21, [], .v (.bool (a1 == 5))⟩, ⟨20, [], .v (.int .i64 a1)⟩, ⟨6, [], .p 1 0⟩, ⟨12, [], .v (.bool (decide (s1.1 < (x0.Chans.length : Int))))⟩, ⟨5, [], .v (.int .i64 s1.1)⟩, ⟨4, [], .v (.bool s1.2)⟩, ⟨2, [], .p 0 0⟩, ⟨0, [], .v (.agg ((kd_Config).cells x0 (svL [((sv0 0).1, (sv0 0).2), ((sv0 1).1, (sv0 1).2), ((sv0 2).1, (sv0 2).2), ((sv0 3).1, (sv0 3).2)])).toArray)⟩, ⟨1, [], .v (.int .i64 a1)⟩], [], [], [((((kd_Config).cells x0 sv0).map EV.v), 29), ((((kd_Chan).cells (rd x0.Chans s1.1) sv_11).map EV.v), 74)], none, none⟩ [] (by kernel_rfl) trivial (fun ns_63 a w_64 hI _ => ?_)
              refine inBlock_normal ?_
              refine then_normal ?_
              refine seq_region (live := [132, 7, 52, 45, 31, 21, 20, 6, 12, 5, 4, 2, 0, 1]) (orc := []) hF hI ⟨[⟨132, [], .v (.bool (decide (((rd x0.Chans s1.1).Words) < 1) || decide (((rd x0.Chans s1.1).Words) > 16)))⟩, ⟨7, [], .v (.bool (decide (((rd x0.Chans s1.1).Words) < 1) || decide (((rd x0.Chans s1.1).Words) > 16)))⟩, ⟨52, [], .v (.bool (a1 == 8))⟩, ⟨45, [], .v (.bool (a1 == 7))⟩, ⟨31, [], .v (.bool (a1 == 6))⟩, ⟨21, [], .v (.bool (a1 == 5))⟩, ⟨20, [], .v (.int .i64 a1)⟩, ⟨6, [], .p 1 0⟩, ⟨12, [], .v (.bool (decide (s1.1 < (x0.Chans.length : Int))))⟩, ⟨5, [], .v (.int .i64 s1.1)⟩, ⟨4, [], .v (.bool s1.2)⟩, ⟨2, [], .p 0 0⟩, ⟨0, [], .v (.agg ((kd_Config).cells x0 (svL [((sv0 0).1, (sv0 0).2), ((sv0 1).1, (sv0 1).2), ((sv0 2).1, (sv0 2).2), ((sv0 3).1, (sv0 3).2)])).toArray)⟩, ⟨1, [], .v (.int .i64 a1)⟩], [], [], [((((kd_Config).cells x0 sv0).map EV.v), 29), ((((kd_Chan).cells (rd x0.Chans s1.1) sv_11).map EV.v), 74)], none, none⟩ [] (by kernel_rfl) trivial (fun ns_65 a w_66 hI _ => ?_)
              refine cond_ hI ((decide (((rd x0.Chans s1.1).Words) < 1) || decide (((rd x0.Chans s1.1).Words) > 16))) rfl (fun hc_67 => ?_) (fun hc_67 => ?_)
              · replace H1 := bif_t hc_67 H1
                refine seq_region (live := [4, 132, 7, 52, 45, 31, 21, 20, 6, 12, 5, 2, 0, 1]) (orc := []) hF hI ⟨[⟨4, [], .v (.bool true)⟩, ⟨132, [], .v (.bool (decide (((rd x0.Chans s1.1).Words) < 1) || decide (((rd x0.Chans s1.1).Words) > 16)))⟩, ⟨7, [], .v (.bool (decide (((rd x0.Chans s1.1).Words) < 1) || decide (((rd x0.Chans s1.1).Words) > 16)))⟩, ⟨52, [], .v (.bool (a1 == 8))⟩, ⟨45, [], .v (.bool (a1 == 7))⟩, ⟨31, [], .v (.bool (a1 == 6))⟩, ⟨21, [], .v (.bool (a1 == 5))⟩, ⟨20, [], .v (.int .i64 a1)⟩, ⟨6, [], .p 1 0⟩, ⟨12, [], .v (.bool (decide (s1.1 < (x0.Chans.length : Int))))⟩, ⟨5, [], .v (.int .i64 s1.1)⟩, ⟨2, [], .p 0 0⟩, ⟨0, [], .v (.agg ((kd_Config).cells x0 (svL [((sv0 0).1, (sv0 0).2), ((sv0 1).1, (sv0 1).2), ((sv0 2).1, (sv0 2).2), ((sv0 3).1, (sv0 3).2)])).toArray)⟩, ⟨1, [], .v (.int .i64 a1)⟩], [], [], [((((kd_Config).cells x0 sv0).map EV.v), 29), ((((kd_Chan).cells (rd x0.Chans s1.1) sv_11).map EV.v), 74)], none, none⟩ [] (by kernel_rfl) trivial (fun ns_68 a w_69 hI _ => ?_)
                refine wpIn_ret ?_
                refine inBlock_ret ?_
                refine then_ret ?_
                refine then_ret ?_
                obtain rfl := Option.some.inj H1
                refine .inr ⟨_, rfl, fun ho => ?_⟩
                subst ho
                refine inBlock_ret ?_
                refine then_ret ?_
                obtain rfl := Option.some.inj H0
                exact ret1 hI rfl rfl ⟨rfl, hE.below hI⟩
              · replace H1 := bif_f hc_67 H1
                refine wpIn_skip ?_
                refine inBlock_normal ?_
                refine then_normal ?_
                refine region_ (live := [5, 132, 7, 52, 45, 31, 21, 20, 6, 12, 4, 2, 0, 1]) (orc := []) hF hI ⟨[⟨5, [], .v (.int .i64 (IntKind.i64.wrap (s1.1 + 1)))⟩, ⟨132, [], .v (.bool (decide (((rd x0.Chans s1.1).Words) < 1) || decide (((rd x0.Chans s1.1).Words) > 16)))⟩, ⟨7, [], .v (.bool (decide (((rd x0.Chans s1.1).Words) < 1) || decide (((rd x0.Chans s1.1).Words) > 16)))⟩, ⟨52, [], .v (.bool (a1 == 8))⟩, ⟨45, [], .v (.bool (a1 == 7))⟩, ⟨31, [], .v (.bool (a1 == 6))⟩, ⟨21, [], .v (.bool (a1 == 5))⟩, ⟨20, [], .v (.int .i64 a1)⟩, ⟨6, [], .p 1 0⟩, ⟨12, [], .v (.bool (decide (s1.1 < (x0.Chans.length : Int))))⟩, ⟨4, [], .v (.bool s1.2)⟩, ⟨2, [], .p 0 0⟩, ⟨0, [], .v (.agg ((kd_Config).cells x0 (svL [((sv0 0).1, (sv0 0).2), ((sv0 1).1, (sv0 1).2), ((sv0 2).1, (sv0 2).2), ((sv0 3).1, (sv0 3).2)])).toArray)⟩, ⟨1, [], .v (.int .i64 a1)⟩], [], [], [((((kd_Config).cells x0 sv0).map EV.v), 29), ((((kd_Chan).cells (rd x0.Chans s1.1) sv_11).map EV.v), 74)], none, none⟩ [] (by kernel_rfl) trivial (fun ns_70 a w_71 hI _ => ?_)
                refine then_normal ?_
                obtain rfl := Option.some.inj H1
                exact ⟨_, rfl, ⟨_, hI.pick [5, 4, 2, 0, 1] 1 ⟨[⟨5, [], .v (.int .i64 (IntKind.i64.wrap (s1.1 + 1)))⟩, ⟨4, [], .v (.bool s1.2)⟩, ⟨2, [], .p 0 0⟩, ⟨0, [], .v (.agg ((kd_Config).cells x0 (svL [((sv0 0).1, (sv0 0).2), ((sv0 1).1, (sv0 1).2), ((sv0 2).1, (sv0 2).2), ((sv0 3).1, (sv0 3).2)])).toArray)⟩, ⟨1, [], .v (.int .i64 a1)⟩], [], [], [((((kd_Config).cells x0 sv0).map EV.v), 29)], none, none⟩ (by kernel_rfl)⟩⟩
            · replace H1 := bif_f hc_62 H1
              refine seq_region (live := [62, 52, 45, 31, 21, 20, 7, 6, 12, 5, 4, 2, 0, 1]) (orc := []) hF hI ⟨[⟨62, [], .v (.bool (a1 == 9))⟩, ⟨52, [], .v (.bool (a1 == 8))⟩, ⟨45, [], .v (.bool (a1 == 7))⟩, ⟨31, [], .v (.bool (a1 == 6))⟩, ⟨21, [], .v (.bool (a1 == 5))⟩, ⟨20, [], .v (.int .i64 a1)⟩, ⟨7, [], .v (.bool false)⟩, ⟨6, [], .p 1 0⟩, ⟨12, [], .v (.bool (decide (s1.1 < (x0.Chans.length : Int))))⟩, ⟨5, [], .v (.int .i64 s1.1)⟩, ⟨4, [], .v (.bool s1.2)⟩, ⟨2, [], .p 0 0⟩, ⟨0, [], .v (.agg ((kd_Config).cells x0 (svL [((sv0 0).1, (sv0 0).2), ((sv0 1).1, (sv0 1).2), ((sv0 2).1, (sv0 2).2), ((sv0 3).1, (sv0 3).2)])).toArray)⟩, ⟨1, [], .v (.int .i64 a1)⟩], [], [], [((((kd_Config).cells x0 sv0).map EV.v), 29), ((((kd_Chan).cells (rd x0.Chans s1.1) sv_11).map EV.v), 74)], none, none⟩ [] (by kernel_rfl) trivial (fun ns_72 a w_73 hI _ => ?_)
              refine cond_ hI ((a1 == 9)) rfl (fun hc_74 => ?_) (fun hc_74 => ?_)
              · replace H1 := bif_t hc_74 H1
                refine region_ (live := [7, 62, 52, 45, 31, 21, 20, 6, 12, 5, 4, 2, 0, 1]) (orc := []) hF hI ⟨[⟨7, [], .v (.bool (((((rd x0.Chans s1.1).Kind) == 1) && (((rd x0.Chans s1.1).Depth) != 0)) || (((((((rd x0.Chans s1.1).Kind) == 2) && (((rd x0.Chans s1.1).Depth) != 1)) && (((rd x0.Chans s1.1).Depth) != 2)) && (((rd x0.Chans s1.1).Depth) != 4)) && (((rd x0.Chans s1.1).Depth) != 8))))⟩, ⟨62, [], .v (.bool (a1 == 9))⟩, ⟨52, [], .v (.bool (a1 == 8))⟩, ⟨45, [], .v (.bool (a1 == 7))⟩, ⟨31, [], .v (.bool (a1 == 6))⟩, ⟨21, [], .v (.bool (a1 == 5))⟩, ⟨20, [], .v (.int .i64 a1)⟩, ⟨6, [], .p 1 0⟩, ⟨12, [], .v (.bool (decide (s1.1 < (x0.Chans.length : Int))))⟩, ⟨5, [], .v (.int .i64 s1.1)⟩, ⟨4, [], .v (.bool s1.2)⟩, ⟨2, [], .p 0 0⟩, ⟨0, [], .v (.agg ((kd_Config).cells x0 (svL [((sv0 0).1, (sv0 0).2), ((sv0 1).1, (sv0 1).2), ((sv0 2).1, (sv0 2).2), ((sv0 3).1, (sv0 3).2)])).toArray)⟩, ⟨1, [], .v (.int .i64 a1)⟩], [], [], [((((kd_Config).cells x0 sv0).map EV.v), 29), ((((kd_Chan).cells (rd x0.Chans s1.1) sv_11).map EV.v), 74)], none, none⟩ [] (by kernel_rfl) trivial (fun ns_75 a w_76 hI _ => ?_)
                refine inBlock_normal ?_
                refine then_normal ?_
                refine seq_region (live := [132, 7, 62, 52, 45, 31, 21, 20, 6, 12, 5, 4, 2, 0, 1]) (orc := []) hF hI ⟨[⟨132, [], .v (.bool (((((rd x0.Chans s1.1).Kind) == 1) && (((rd x0.Chans s1.1).Depth) != 0)) || (((((((rd x0.Chans s1.1).Kind) == 2) && (((rd x0.Chans s1.1).Depth) != 1)) && (((rd x0.Chans s1.1).Depth) != 2)) && (((rd x0.Chans s1.1).Depth) != 4)) && (((rd x0.Chans s1.1).Depth) != 8))))⟩, ⟨7, [], .v (.bool (((((rd x0.Chans s1.1).Kind) == 1) && (((rd x0.Chans s1.1).Depth) != 0)) || (((((((rd x0.Chans s1.1).Kind) == 2) && (((rd x0.Chans s1.1).Depth) != 1)) && (((rd x0.Chans s1.1).Depth) != 2)) && (((rd x0.Chans s1.1).Depth) != 4)) && (((rd x0.Chans s1.1).Depth) != 8))))⟩, ⟨62, [], .v (.bool (a1 == 9))⟩, ⟨52, [], .v (.bool (a1 == 8))⟩, ⟨45, [], .v (.bool (a1 == 7))⟩, ⟨31, [], .v (.bool (a1 == 6))⟩, ⟨21, [], .v (.bool (a1 == 5))⟩, ⟨20, [], .v (.int .i64 a1)⟩, ⟨6, [], .p 1 0⟩, ⟨12, [], .v (.bool (decide (s1.1 < (x0.Chans.length : Int))))⟩, ⟨5, [], .v (.int .i64 s1.1)⟩, ⟨4, [], .v (.bool s1.2)⟩, ⟨2, [], .p 0 0⟩, ⟨0, [], .v (.agg ((kd_Config).cells x0 (svL [((sv0 0).1, (sv0 0).2), ((sv0 1).1, (sv0 1).2), ((sv0 2).1, (sv0 2).2), ((sv0 3).1, (sv0 3).2)])).toArray)⟩, ⟨1, [], .v (.int .i64 a1)⟩], [], [], [((((kd_Config).cells x0 sv0).map EV.v), 29), ((((kd_Chan).cells (rd x0.Chans s1.1) sv_11).map EV.v), 74)], none, none⟩ [] (by kernel_rfl) trivial (fun ns_77 a w_78 hI _ => ?_)
                refine cond_ hI ((((((rd x0.Chans s1.1).Kind) == 1) && (((rd x0.Chans s1.1).Depth) != 0)) || (((((((rd x0.Chans s1.1).Kind) == 2) && (((rd x0.Chans s1.1).Depth) != 1)) && (((rd x0.Chans s1.1).Depth) != 2)) && (((rd x0.Chans s1.1).Depth) != 4)) && (((rd x0.Chans s1.1).Depth) != 8)))) rfl (fun hc_79 => ?_) (fun hc_79 => ?_)
                · replace H1 := bif_t hc_79 H1
                  refine seq_region (live := [4, 132, 7, 62, 52, 45, 31, 21, 20, 6, 12, 5, 2, 0, 1]) (orc := []) hF hI ⟨[⟨4, [], .v (.bool true)⟩, ⟨132, [], .v (.bool (((((rd x0.Chans s1.1).Kind) == 1) && (((rd x0.Chans s1.1).Depth) != 0)) || (((((((rd x0.Chans s1.1).Kind) == 2) && (((rd x0.Chans s1.1).Depth) != 1)) && (((rd x0.Chans s1.1).Depth) != 2)) && (((rd x0.Chans s1.1).Depth) != 4)) && (((rd x0.Chans s1.1).Depth) != 8))))⟩, ⟨7, [], .v (.bool (((((rd x0.Chans s1.1).Kind) == 1) && (((rd x0.Chans s1.1).Depth) != 0)) || (((((((rd x0.Chans s1.1).Kind) == 2) && (((rd x0.Chans s1.1).Depth) != 1)) && (((rd x0.Chans s1.1).Depth) != 2)) && (((rd x0.Chans s1.1).Depth) != 4)) && (((rd x0.Chans s1.1).Depth) != 8))))⟩, ⟨62, [], .v (.bool (a1 == 9))⟩, ⟨52, [], .v (.bool (a1 == 8))⟩, ⟨45, [], .v (.bool (a1 == 7))⟩, ⟨31, [], .v (.bool (a1 == 6))⟩, ⟨21, [], .v (.bool (a1 == 5))⟩, ⟨20, [], .v (.int .i64 a1)⟩, ⟨6, [], .p 1 0⟩, ⟨12, [], .v (.bool (decide (s1.1 < (x0.Chans.length : Int))))⟩, ⟨5, [], .v (.int .i64 s1.1)⟩, ⟨2, [], .p 0 0⟩, ⟨0, [], .v (.agg ((kd_Config).cells x0 (svL [((sv0 0).1, (sv0 0).2), ((sv0 1).1, (sv0 1).2), ((sv0 2).1, (sv0 2).2), ((sv0 3).1, (sv0 3).2)])).toArray)⟩, ⟨1, [], .v (.int .i64 a1)⟩], [], [], [((((kd_Config).cells x0 sv0).map EV.v), 29), ((((kd_Chan).cells (rd x0.Chans s1.1) sv_11).map EV.v), 74)], none, none⟩ [] (by kernel_rfl) trivial (fun ns_80 a w_81 hI _ => ?_)
                  refine wpIn_ret ?_
                  refine inBlock_ret ?_
                  refine then_ret ?_
                  refine then_ret ?_
                  obtain rfl := Option.some.inj H1
                  refine .inr ⟨_, rfl, fun ho => ?_⟩
                  subst ho
                  refine inBlock_ret ?_
                  refine then_ret ?_
                  obtain rfl := Option.some.inj H0
                  exact ret1 hI rfl rfl ⟨rfl, hE.below hI⟩
                · replace H1 := bif_f hc_79 H1
                  refine wpIn_skip ?_
                  refine inBlock_normal ?_
                  refine then_normal ?_
                  refine region_ (live := [5, 132, 7, 62, 52, 45, 31, 21, 20, 6, 12, 4, 2, 0, 1]) (orc := []) hF hI ⟨[⟨5, [], .v (.int .i64 (IntKind.i64.wrap (s1.1 + 1)))⟩, ⟨132, [], .v (.bool (((((rd x0.Chans s1.1).Kind) == 1) && (((rd x0.Chans s1.1).Depth) != 0)) || (((((((rd x0.Chans s1.1).Kind) == 2) && (((rd x0.Chans s1.1).Depth) != 1)) && (((rd x0.Chans s1.1).Depth) != 2)) && (((rd x0.Chans s1.1).Depth) != 4)) && (((rd x0.Chans s1.1).Depth) != 8))))⟩, ⟨7, [], .v (.bool (((((rd x0.Chans s1.1).Kind) == 1) && (((rd x0.Chans s1.1).Depth) != 0)) || (((((((rd x0.Chans s1.1).Kind) == 2) && (((rd x0.Chans s1.1).Depth) != 1)) && (((rd x0.Chans s1.1).Depth) != 2)) && (((rd x0.Chans s1.1).Depth) != 4)) && (((rd x0.Chans s1.1).Depth) != 8))))⟩, ⟨62, [], .v (.bool (a1 == 9))⟩, ⟨52, [], .v (.bool (a1 == 8))⟩, ⟨45, [], .v (.bool (a1 == 7))⟩, ⟨31, [], .v (.bool (a1 == 6))⟩, ⟨21, [], .v (.bool (a1 == 5))⟩, ⟨20, [], .v (.int .i64 a1)⟩, ⟨6, [], .p 1 0⟩, ⟨12, [], .v (.bool (decide (s1.1 < (x0.Chans.length : Int))))⟩, ⟨4, [], .v (.bool s1.2)⟩, ⟨2, [], .p 0 0⟩, ⟨0, [], .v (.agg ((kd_Config).cells x0 (svL [((sv0 0).1, (sv0 0).2), ((sv0 1).1, (sv0 1).2), ((sv0 2).1, (sv0 2).2), ((sv0 3).1, (sv0 3).2)])).toArray)⟩, ⟨1, [], .v (.int .i64 a1)⟩], [], [], [((((kd_Config).cells x0 sv0).map EV.v), 29), ((((kd_Chan).cells (rd x0.Chans s1.1) sv_11).map EV.v), 74)], none, none⟩ [] (by kernel_rfl) trivial (fun ns_82 a w_83 hI _ => ?_)
                  refine then_normal ?_
                  obtain rfl := Option.some.inj H1
                  exact ⟨_, rfl, ⟨_, hI.pick [5, 4, 2, 0, 1] 1 ⟨[⟨5, [], .v (.int .i64 (IntKind.i64.wrap (s1.1 + 1)))⟩, ⟨4, [], .v (.bool s1.2)⟩, ⟨2, [], .p 0 0⟩, ⟨0, [], .v (.agg ((kd_Config).cells x0 (svL [((sv0 0).1, (sv0 0).2), ((sv0 1).1, (sv0 1).2), ((sv0 2).1, (sv0 2).2), ((sv0 3).1, (sv0 3).2)])).toArray)⟩, ⟨1, [], .v (.int .i64 a1)⟩], [], [], [((((kd_Config).cells x0 sv0).map EV.v), 29)], none, none⟩ (by kernel_rfl)⟩⟩
              · replace H1 := bif_f hc_74 H1
                refine seq_region (live := [97, 62, 52, 45, 31, 21, 20, 7, 6, 12, 5, 4, 2, 0, 1]) (orc := []) hF hI ⟨[⟨97, [], .v (.bool (a1 == 10))⟩, ⟨62, [], .v (.bool (a1 == 9))⟩, ⟨52, [], .v (.bool (a1 == 8))⟩, ⟨45, [], .v (.bool (a1 == 7))⟩, ⟨31, [], .v (.bool (a1 == 6))⟩, ⟨21, [], .v (.bool (a1 == 5))⟩, ⟨20, [], .v (.int .i64 a1)⟩, ⟨7, [], .v (.bool false)⟩, ⟨6, [], .p 1 0⟩, ⟨12, [], .v (.bool (decide (s1.1 < (x0.Chans.length : Int))))⟩, ⟨5, [], .v (.int .i64 s1.1)⟩, ⟨4, [], .v (.bool s1.2)⟩, ⟨2, [], .p 0 0⟩, ⟨0, [], .v (.agg ((kd_Config).cells x0 (svL [((sv0 0).1, (sv0 0).2), ((sv0 1).1, (sv0 1).2), ((sv0 2).1, (sv0 2).2), ((sv0 3).1, (sv0 3).2)])).toArray)⟩, ⟨1, [], .v (.int .i64 a1)⟩], [], [], [((((kd_Config).cells x0 sv0).map EV.v), 29), ((((kd_Chan).cells (rd x0.Chans s1.1) sv_11).map EV.v), 74)], none, none⟩ [] (by kernel_rfl) trivial (fun ns_84 a w_85 hI _ => ?_)
                refine cond_ hI ((a1 == 10)) rfl (fun hc_86 => ?_) (fun hc_86 => ?_)
                · replace H1 := bif_t hc_86 H1
                  refine region_ (live := [7, 97, 62, 52, 45, 31, 21, 20, 6, 12, 5, 4, 2, 0, 1]) (orc := []) hF hI ⟨[⟨7, [], .v (.bool (((((rd x0.Chans s1.1).Kind) == 1) && (decide (((rd x0.Chans s1.1).Period) < 0) || decide (((rd x0.Chans s1.1).Period) > 1048576))) || ((((rd x0.Chans s1.1).Kind) == 2) && (((rd x0.Chans s1.1).Period) != 0))))⟩, ⟨97, [], .v (.bool (a1 == 10))⟩, ⟨62, [], .v (.bool (a1 == 9))⟩, ⟨52, [], .v (.bool (a1 == 8))⟩, ⟨45, [], .v (.bool (a1 == 7))⟩, ⟨31, [], .v (.bool (a1 == 6))⟩, ⟨21, [], .v (.bool (a1 == 5))⟩, ⟨20, [], .v (.int .i64 a1)⟩, ⟨6, [], .p 1 0⟩, ⟨12, [], .v (.bool (decide (s1.1 < (x0.Chans.length : Int))))⟩, ⟨5, [], .v (.int .i64 s1.1)⟩, ⟨4, [], .v (.bool s1.2)⟩, ⟨2, [], .p 0 0⟩, ⟨0, [], .v (.agg ((kd_Config).cells x0 (svL [((sv0 0).1, (sv0 0).2), ((sv0 1).1, (sv0 1).2), ((sv0 2).1, (sv0 2).2), ((sv0 3).1, (sv0 3).2)])).toArray)⟩, ⟨1, [], .v (.int .i64 a1)⟩], [], [], [((((kd_Config).cells x0 sv0).map EV.v), 29), ((((kd_Chan).cells (rd x0.Chans s1.1) sv_11).map EV.v), 74)], none, none⟩ [] (by kernel_rfl) trivial (fun ns_87 a w_88 hI _ => ?_)
                  refine inBlock_normal ?_
                  refine then_normal ?_
                  refine seq_region (live := [132, 7, 97, 62, 52, 45, 31, 21, 20, 6, 12, 5, 4, 2, 0, 1]) (orc := []) hF hI ⟨[⟨132, [], .v (.bool (((((rd x0.Chans s1.1).Kind) == 1) && (decide (((rd x0.Chans s1.1).Period) < 0) || decide (((rd x0.Chans s1.1).Period) > 1048576))) || ((((rd x0.Chans s1.1).Kind) == 2) && (((rd x0.Chans s1.1).Period) != 0))))⟩, ⟨7, [], .v (.bool (((((rd x0.Chans s1.1).Kind) == 1) && (decide (((rd x0.Chans s1.1).Period) < 0) || decide (((rd x0.Chans s1.1).Period) > 1048576))) || ((((rd x0.Chans s1.1).Kind) == 2) && (((rd x0.Chans s1.1).Period) != 0))))⟩, ⟨97, [], .v (.bool (a1 == 10))⟩, ⟨62, [], .v (.bool (a1 == 9))⟩, ⟨52, [], .v (.bool (a1 == 8))⟩, ⟨45, [], .v (.bool (a1 == 7))⟩, ⟨31, [], .v (.bool (a1 == 6))⟩, ⟨21, [], .v (.bool (a1 == 5))⟩, ⟨20, [], .v (.int .i64 a1)⟩, ⟨6, [], .p 1 0⟩, ⟨12, [], .v (.bool (decide (s1.1 < (x0.Chans.length : Int))))⟩, ⟨5, [], .v (.int .i64 s1.1)⟩, ⟨4, [], .v (.bool s1.2)⟩, ⟨2, [], .p 0 0⟩, ⟨0, [], .v (.agg ((kd_Config).cells x0 (svL [((sv0 0).1, (sv0 0).2), ((sv0 1).1, (sv0 1).2), ((sv0 2).1, (sv0 2).2), ((sv0 3).1, (sv0 3).2)])).toArray)⟩, ⟨1, [], .v (.int .i64 a1)⟩], [], [], [((((kd_Config).cells x0 sv0).map EV.v), 29), ((((kd_Chan).cells (rd x0.Chans s1.1) sv_11).map EV.v), 74)], none, none⟩ [] (by kernel_rfl) trivial (fun ns_89 a w_90 hI _ => ?_)
                  refine cond_ hI ((((((rd x0.Chans s1.1).Kind) == 1) && (decide (((rd x0.Chans s1.1).Period) < 0) || decide (((rd x0.Chans s1.1).Period) > 1048576))) || ((((rd x0.Chans s1.1).Kind) == 2) && (((rd x0.Chans s1.1).Period) != 0)))) rfl (fun hc_91 => ?_) (fun hc_91 => ?_)
                  · replace H1 := bif_t hc_91 H1
                    refine seq_region (live := [4, 132, 7, 97, 62, 52, 45, 31, 21, 20, 6, 12, 5, 2, 0, 1]) (orc := []) hF hI ⟨[⟨4, [], .v (.bool true)⟩, ⟨132, [], .v (.bool (((((rd x0.Chans s1.1).Kind) == 1) && (decide (((rd x0.Chans s1.1).Period) < 0) || decide (((rd x0.Chans s1.1).Period) > 1048576))) || ((((rd x0.Chans s1.1).Kind) == 2) && (((rd x0.Chans s1.1).Period) != 0))))⟩, ⟨7, [], .v (.bool (((((rd x0.Chans s1.1).Kind) == 1) && (decide (((rd x0.Chans s1.1).Period) < 0) || decide (((rd x0.Chans s1.1).Period) > 1048576))) || ((((rd x0.Chans s1.1).Kind) == 2) && (((rd x0.Chans s1.1).Period) != 0))))⟩, ⟨97, [], .v (.bool (a1 == 10))⟩, ⟨62, [], .v (.bool (a1 == 9))⟩, ⟨52, [], .v (.bool (a1 == 8))⟩, ⟨45, [], .v (.bool (a1 == 7))⟩, ⟨31, [], .v (.bool (a1 == 6))⟩, ⟨21, [], .v (.bool (a1 == 5))⟩, ⟨20, [], .v (.int .i64 a1)⟩, ⟨6, [], .p 1 0⟩, ⟨12, [], .v (.bool (decide (s1.1 < (x0.Chans.length : Int))))⟩, ⟨5, [], .v (.int .i64 s1.1)⟩, ⟨2, [], .p 0 0⟩, ⟨0, [], .v (.agg ((kd_Config).cells x0 (svL [((sv0 0).1, (sv0 0).2), ((sv0 1).1, (sv0 1).2), ((sv0 2).1, (sv0 2).2), ((sv0 3).1, (sv0 3).2)])).toArray)⟩, ⟨1, [], .v (.int .i64 a1)⟩], [], [], [((((kd_Config).cells x0 sv0).map EV.v), 29), ((((kd_Chan).cells (rd x0.Chans s1.1) sv_11).map EV.v), 74)], none, none⟩ [] (by kernel_rfl) trivial (fun ns_92 a w_93 hI _ => ?_)
                    refine wpIn_ret ?_
                    refine inBlock_ret ?_
                    refine then_ret ?_
                    refine then_ret ?_
                    obtain rfl := Option.some.inj H1
                    refine .inr ⟨_, rfl, fun ho => ?_⟩
                    subst ho
                    refine inBlock_ret ?_
                    refine then_ret ?_
                    obtain rfl := Option.some.inj H0
                    exact ret1 hI rfl rfl ⟨rfl, hE.below hI⟩
                  · replace H1 := bif_f hc_91 H1
                    refine wpIn_skip ?_
                    refine inBlock_normal ?_
                    refine then_normal ?_
                    refine region_ (live := [5, 132, 7, 97, 62, 52, 45, 31, 21, 20, 6, 12, 4, 2, 0, 1]) (orc := []) hF hI ⟨[⟨5, [], .v (.int .i64 (IntKind.i64.wrap (s1.1 + 1)))⟩, ⟨132, [], .v (.bool (((((rd x0.Chans s1.1).Kind) == 1) && (decide (((rd x0.Chans s1.1).Period) < 0) || decide (((rd x0.Chans s1.1).Period) > 1048576))) || ((((rd x0.Chans s1.1).Kind) == 2) && (((rd x0.Chans s1.1).Period) != 0))))⟩, ⟨7, [], .v (.bool (((((rd x0.Chans s1.1).Kind) == 1) && (decide (((rd x0.Chans s1.1).Period) < 0) || decide (((rd x0.Chans s1.1).Period) > 1048576))) || ((((rd x0.Chans s1.1).Kind) == 2) && (((rd x0.Chans s1.1).Period) != 0))))⟩, ⟨97, [], .v (.bool (a1 == 10))⟩, ⟨62, [], .v (.bool (a1 == 9))⟩, ⟨52, [], .v (.bool (a1 == 8))⟩, ⟨45, [], .v (.bool (a1 == 7))⟩, ⟨31, [], .v (.bool (a1 == 6))⟩, ⟨21, [], .v (.bool (a1 == 5))⟩, ⟨20, [], .v (.int .i64 a1)⟩, ⟨6, [], .p 1 0⟩, ⟨12, [], .v (.bool (decide (s1.1 < (x0.Chans.length : Int))))⟩, ⟨4, [], .v (.bool s1.2)⟩, ⟨2, [], .p 0 0⟩, ⟨0, [], .v (.agg ((kd_Config).cells x0 (svL [((sv0 0).1, (sv0 0).2), ((sv0 1).1, (sv0 1).2), ((sv0 2).1, (sv0 2).2), ((sv0 3).1, (sv0 3).2)])).toArray)⟩, ⟨1, [], .v (.int .i64 a1)⟩], [], [], [((((kd_Config).cells x0 sv0).map EV.v), 29), ((((kd_Chan).cells (rd x0.Chans s1.1) sv_11).map EV.v), 74)], none, none⟩ [] (by kernel_rfl) trivial (fun ns_94 a w_95 hI _ => ?_)
                    refine then_normal ?_
                    obtain rfl := Option.some.inj H1
                    exact ⟨_, rfl, ⟨_, hI.pick [5, 4, 2, 0, 1] 1 ⟨[⟨5, [], .v (.int .i64 (IntKind.i64.wrap (s1.1 + 1)))⟩, ⟨4, [], .v (.bool s1.2)⟩, ⟨2, [], .p 0 0⟩, ⟨0, [], .v (.agg ((kd_Config).cells x0 (svL [((sv0 0).1, (sv0 0).2), ((sv0 1).1, (sv0 1).2), ((sv0 2).1, (sv0 2).2), ((sv0 3).1, (sv0 3).2)])).toArray)⟩, ⟨1, [], .v (.int .i64 a1)⟩], [], [], [((((kd_Config).cells x0 sv0).map EV.v), 29)], none, none⟩ (by kernel_rfl)⟩⟩
                · replace H1 := bif_f hc_86 H1
                  refine seq_region (live := [122, 97, 62, 52, 45, 31, 21, 20, 7, 6, 12, 5, 4, 2, 0, 1]) (orc := []) hF hI ⟨[⟨122, [], .v (.bool (a1 == 11))⟩, ⟨97, [], .v (.bool (a1 == 10))⟩, ⟨62, [], .v (.bool (a1 == 9))⟩, ⟨52, [], .v (.bool (a1 == 8))⟩, ⟨45, [], .v (.bool (a1 == 7))⟩, ⟨31, [], .v (.bool (a1 == 6))⟩, ⟨21, [], .v (.bool (a1 == 5))⟩, ⟨20, [], .v (.int .i64 a1)⟩, ⟨7, [], .v (.bool false)⟩, ⟨6, [], .p 1 0⟩, ⟨12, [], .v (.bool (decide (s1.1 < (x0.Chans.length : Int))))⟩, ⟨5, [], .v (.int .i64 s1.1)⟩, ⟨4, [], .v (.bool s1.2)⟩, ⟨2, [], .p 0 0⟩, ⟨0, [], .v (.agg ((kd_Config).cells x0 (svL [((sv0 0).1, (sv0 0).2), ((sv0 1).1, (sv0 1).2), ((sv0 2).1, (sv0 2).2), ((sv0 3).1, (sv0 3).2)])).toArray)⟩, ⟨1, [], .v (.int .i64 a1)⟩], [], [], [((((kd_Config).cells x0 sv0).map EV.v), 29), ((((kd_Chan).cells (rd x0.Chans s1.1) sv_11).map EV.v), 74)], none, none⟩ [] (by kernel_rfl) trivial (fun ns_96 a w_97 hI _ => ?_)
                  refine cond_merge hI ((a1 == 11)) rfl ⟨[⟨7, [], .v (.bool ((((rd x0.Chans s1.1).Kind) == 1) && (((rd x0.Chans s1.1).Boot) != 0)))⟩, ⟨122, [], .v (.bool (a1 == 11))⟩, ⟨97, [], .v (.bool (a1 == 10))⟩, ⟨62, [], .v (.bool (a1 == 9))⟩, ⟨52, [], .v (.bool (a1 == 8))⟩, ⟨45, [], .v (.bool (a1 == 7))⟩, ⟨31, [], .v (.bool (a1 == 6))⟩, ⟨21, [], .v (.bool (a1 == 5))⟩, ⟨20, [], .v (.int .i64 a1)⟩, ⟨6, [], .p 1 0⟩, ⟨12, [], .v (.bool (decide (s1.1 < (x0.Chans.length : Int))))⟩, ⟨5, [], .v (.int .i64 s1.1)⟩, ⟨4, [], .v (.bool s1.2)⟩, ⟨2, [], .p 0 0⟩, ⟨0, [], .v (.agg ((kd_Config).cells x0 (svL [((sv0 0).1, (sv0 0).2), ((sv0 1).1, (sv0 1).2), ((sv0 2).1, (sv0 2).2), ((sv0 3).1, (sv0 3).2)])).toArray)⟩, ⟨1, [], .v (.int .i64 a1)⟩], [], [], [((((kd_Config).cells x0 sv0).map EV.v), 29), ((((kd_Chan).cells (rd x0.Chans s1.1) sv_11).map EV.v), 74)], none, none⟩ ⟨[⟨7, [], .v (.bool false)⟩, ⟨122, [], .v (.bool (a1 == 11))⟩, ⟨97, [], .v (.bool (a1 == 10))⟩, ⟨62, [], .v (.bool (a1 == 9))⟩, ⟨52, [], .v (.bool (a1 == 8))⟩, ⟨45, [], .v (.bool (a1 == 7))⟩, ⟨31, [], .v (.bool (a1 == 6))⟩, ⟨21, [], .v (.bool (a1 == 5))⟩, ⟨20, [], .v (.int .i64 a1)⟩, ⟨6, [], .p 1 0⟩, ⟨12, [], .v (.bool (decide (s1.1 < (x0.Chans.length : Int))))⟩, ⟨5, [], .v (.int .i64 s1.1)⟩, ⟨4, [], .v (.bool s1.2)⟩, ⟨2, [], .p 0 0⟩, ⟨0, [], .v (.agg ((kd_Config).cells x0 (svL [((sv0 0).1, (sv0 0).2), ((sv0 1).1, (sv0 1).2), ((sv0 2).1, (sv0 2).2), ((sv0 3).1, (sv0 3).2)])).toArray)⟩, ⟨1, [], .v (.int .i64 a1)⟩], [], [], [((((kd_Config).cells x0 sv0).map EV.v), 29), ((((kd_Chan).cells (rd x0.Chans s1.1) sv_11).map EV.v), 74)], none, none⟩ (fun b => ⟨[⟨7, [], .v (.bool (bif b then ((((rd x0.Chans s1.1).Kind) == 1) && (((rd x0.Chans s1.1).Boot) != 0)) else false))⟩, ⟨122, [], .v (.bool (a1 == 11))⟩, ⟨97, [], .v (.bool (a1 == 10))⟩, ⟨62, [], .v (.bool (a1 == 9))⟩, ⟨52, [], .v (.bool (a1 == 8))⟩, ⟨45, [], .v (.bool (a1 == 7))⟩, ⟨31, [], .v (.bool (a1 == 6))⟩, ⟨21, [], .v (.bool (a1 == 5))⟩, ⟨20, [], .v (.int .i64 a1)⟩, ⟨6, [], .p 1 0⟩, ⟨12, [], .v (.bool (decide (s1.1 < (x0.Chans.length : Int))))⟩, ⟨5, [], .v (.int .i64 s1.1)⟩, ⟨4, [], .v (.bool s1.2)⟩, ⟨2, [], .p 0 0⟩, ⟨0, [], .v (.agg ((kd_Config).cells x0 (svL [((sv0 0).1, (sv0 0).2), ((sv0 1).1, (sv0 1).2), ((sv0 2).1, (sv0 2).2), ((sv0 3).1, (sv0 3).2)])).toArray)⟩, ⟨1, [], .v (.int .i64 a1)⟩], [], [], [((((kd_Config).cells x0 sv0).map EV.v), 29), ((((kd_Chan).cells (rd x0.Chans s1.1) sv_11).map EV.v), 74)], none, none⟩) (fun b => by cases b <;> rfl) (fun hc_98 => ?_) (fun hc_98 => ?_) (fun ns_101 a w_102 hI => ?_)
                  · refine region_ (live := [7, 122, 97, 62, 52, 45, 31, 21, 20, 6, 12, 5, 4, 2, 0, 1]) (orc := []) hF hI ⟨[⟨7, [], .v (.bool ((((rd x0.Chans s1.1).Kind) == 1) && (((rd x0.Chans s1.1).Boot) != 0)))⟩, ⟨122, [], .v (.bool (a1 == 11))⟩, ⟨97, [], .v (.bool (a1 == 10))⟩, ⟨62, [], .v (.bool (a1 == 9))⟩, ⟨52, [], .v (.bool (a1 == 8))⟩, ⟨45, [], .v (.bool (a1 == 7))⟩, ⟨31, [], .v (.bool (a1 == 6))⟩, ⟨21, [], .v (.bool (a1 == 5))⟩, ⟨20, [], .v (.int .i64 a1)⟩, ⟨6, [], .p 1 0⟩, ⟨12, [], .v (.bool (decide (s1.1 < (x0.Chans.length : Int))))⟩, ⟨5, [], .v (.int .i64 s1.1)⟩, ⟨4, [], .v (.bool s1.2)⟩, ⟨2, [], .p 0 0⟩, ⟨0, [], .v (.agg ((kd_Config).cells x0 (svL [((sv0 0).1, (sv0 0).2), ((sv0 1).1, (sv0 1).2), ((sv0 2).1, (sv0 2).2), ((sv0 3).1, (sv0 3).2)])).toArray)⟩, ⟨1, [], .v (.int .i64 a1)⟩], [], [], [((((kd_Config).cells x0 sv0).map EV.v), 29), ((((kd_Chan).cells (rd x0.Chans s1.1) sv_11).map EV.v), 74)], none, none⟩ [] (by kernel_rfl) trivial (fun ns_99 a w_100 hI _ => ?_)
                    refine then_normal ?_
                    exact ⟨_, hI.pick [7, 122, 97, 62, 52, 45, 31, 21, 20, 6, 12, 5, 4, 2, 0, 1] 2 ⟨[⟨7, [], .v (.bool ((((rd x0.Chans s1.1).Kind) == 1) && (((rd x0.Chans s1.1).Boot) != 0)))⟩, ⟨122, [], .v (.bool (a1 == 11))⟩, ⟨97, [], .v (.bool (a1 == 10))⟩, ⟨62, [], .v (.bool (a1 == 9))⟩, ⟨52, [], .v (.bool (a1 == 8))⟩, ⟨45, [], .v (.bool (a1 == 7))⟩, ⟨31, [], .v (.bool (a1 == 6))⟩, ⟨21, [], .v (.bool (a1 == 5))⟩, ⟨20, [], .v (.int .i64 a1)⟩, ⟨6, [], .p 1 0⟩, ⟨12, [], .v (.bool (decide (s1.1 < (x0.Chans.length : Int))))⟩, ⟨5, [], .v (.int .i64 s1.1)⟩, ⟨4, [], .v (.bool s1.2)⟩, ⟨2, [], .p 0 0⟩, ⟨0, [], .v (.agg ((kd_Config).cells x0 (svL [((sv0 0).1, (sv0 0).2), ((sv0 1).1, (sv0 1).2), ((sv0 2).1, (sv0 2).2), ((sv0 3).1, (sv0 3).2)])).toArray)⟩, ⟨1, [], .v (.int .i64 a1)⟩], [], [], [((((kd_Config).cells x0 sv0).map EV.v), 29), ((((kd_Chan).cells (rd x0.Chans s1.1) sv_11).map EV.v), 74)], none, none⟩ (by kernel_rfl)⟩
                  · refine wpIn_skip ?_
                    refine then_normal ?_
                    exact ⟨_, hI.pick [7, 122, 97, 62, 52, 45, 31, 21, 20, 6, 12, 5, 4, 2, 0, 1] 2 ⟨[⟨7, [], .v (.bool false)⟩, ⟨122, [], .v (.bool (a1 == 11))⟩, ⟨97, [], .v (.bool (a1 == 10))⟩, ⟨62, [], .v (.bool (a1 == 9))⟩, ⟨52, [], .v (.bool (a1 == 8))⟩, ⟨45, [], .v (.bool (a1 == 7))⟩, ⟨31, [], .v (.bool (a1 == 6))⟩, ⟨21, [], .v (.bool (a1 == 5))⟩, ⟨20, [], .v (.int .i64 a1)⟩, ⟨6, [], .p 1 0⟩, ⟨12, [], .v (.bool (decide (s1.1 < (x0.Chans.length : Int))))⟩, ⟨5, [], .v (.int .i64 s1.1)⟩, ⟨4, [], .v (.bool s1.2)⟩, ⟨2, [], .p 0 0⟩, ⟨0, [], .v (.agg ((kd_Config).cells x0 (svL [((sv0 0).1, (sv0 0).2), ((sv0 1).1, (sv0 1).2), ((sv0 2).1, (sv0 2).2), ((sv0 3).1, (sv0 3).2)])).toArray)⟩, ⟨1, [], .v (.int .i64 a1)⟩], [], [], [((((kd_Config).cells x0 sv0).map EV.v), 29), ((((kd_Chan).cells (rd x0.Chans s1.1) sv_11).map EV.v), 74)], none, none⟩ (by kernel_rfl)⟩
                  · refine inBlock_normal ?_
                    refine then_normal ?_
                    refine seq_region (live := [132, 7, 122, 97, 62, 52, 45, 31, 21, 20, 6, 12, 5, 4, 2, 0, 1]) (orc := []) hF hI ⟨[⟨132, [], .v (.bool (bif (a1 == 11) then ((((rd x0.Chans s1.1).Kind) == 1) && (((rd x0.Chans s1.1).Boot) != 0)) else false))⟩, ⟨7, [], .v (.bool (bif (a1 == 11) then ((((rd x0.Chans s1.1).Kind) == 1) && (((rd x0.Chans s1.1).Boot) != 0)) else false))⟩, ⟨122, [], .v (.bool (a1 == 11))⟩, ⟨97, [], .v (.bool (a1 == 10))⟩, ⟨62, [], .v (.bool (a1 == 9))⟩, ⟨52, [], .v (.bool (a1 == 8))⟩, ⟨45, [], .v (.bool (a1 == 7))⟩, ⟨31, [], .v (.bool (a1 == 6))⟩, ⟨21, [], .v (.bool (a1 == 5))⟩, ⟨20, [], .v (.int .i64 a1)⟩, ⟨6, [], .p 1 0⟩, ⟨12, [], .v (.bool (decide (s1.1 < (x0.Chans.length : Int))))⟩, ⟨5, [], .v (.int .i64 s1.1)⟩, ⟨4, [], .v (.bool s1.2)⟩, ⟨2, [], .p 0 0⟩, ⟨0, [], .v (.agg ((kd_Config).cells x0 (svL [((sv0 0).1, (sv0 0).2), ((sv0 1).1, (sv0 1).2), ((sv0 2).1, (sv0 2).2), ((sv0 3).1, (sv0 3).2)])).toArray)⟩, ⟨1, [], .v (.int .i64 a1)⟩], [], [], [((((kd_Config).cells x0 sv0).map EV.v), 29), ((((kd_Chan).cells (rd x0.Chans s1.1) sv_11).map EV.v), 74)], none, none⟩ [] (by kernel_rfl) trivial (fun ns_115 a w_116 hI _ => ?_)
                    refine cond_ hI ((bif (a1 == 11) then ((((rd x0.Chans s1.1).Kind) == 1) && (((rd x0.Chans s1.1).Boot) != 0)) else false)) rfl (fun hc_117 => ?_) (fun hc_117 => ?_)
                    · replace H1 := bif_t hc_117 H1
                      refine seq_region (live := [4, 132, 7, 122, 97, 62, 52, 45, 31, 21, 20, 6, 12, 5, 2, 0, 1]) (orc := []) hF hI ⟨[⟨4, [], .v (.bool true)⟩, ⟨132, [], .v (.bool (bif (a1 == 11) then ((((rd x0.Chans s1.1).Kind) == 1) && (((rd x0.Chans s1.1).Boot) != 0)) else false))⟩, ⟨7, [], .v (.bool (bif (a1 == 11) then ((((rd x0.Chans s1.1).Kind) == 1) && (((rd x0.Chans s1.1).Boot) != 0)) else false))⟩, ⟨122, [], .v (.bool (a1 == 11))⟩, ⟨97, [], .v (.bool (a1 == 10))⟩, ⟨62, [], .v (.bool (a1 == 9))⟩, ⟨52, [], .v (.bool (a1 == 8))⟩, ⟨45, [], .v (.bool (a1 == 7))⟩, ⟨31, [], .v (.bool (a1 == 6))⟩, ⟨21, [], .v (.bool (a1 == 5))⟩, ⟨20, [], .v (.int .i64 a1)⟩, ⟨6, [], .p 1 0⟩, ⟨12, [], .v (.bool (decide (s1.1 < (x0.Chans.length : Int))))⟩, ⟨5, [], .v (.int .i64 s1.1)⟩, ⟨2, [], .p 0 0⟩, ⟨0, [], .v (.agg ((kd_Config).cells x0 (svL [((sv0 0).1, (sv0 0).2), ((sv0 1).1, (sv0 1).2), ((sv0 2).1, (sv0 2).2), ((sv0 3).1, (sv0 3).2)])).toArray)⟩, ⟨1, [], .v (.int .i64 a1)⟩], [], [], [((((kd_Config).cells x0 sv0).map EV.v), 29), ((((kd_Chan).cells (rd x0.Chans s1.1) sv_11).map EV.v), 74)], none, none⟩ [] (by kernel_rfl) trivial (fun ns_118 a w_119 hI _ => ?_)
                      refine wpIn_ret ?_
                      refine inBlock_ret ?_
                      refine then_ret ?_
                      refine then_ret ?_
                      obtain rfl := Option.some.inj H1
                      refine .inr ⟨_, rfl, fun ho => ?_⟩
                      subst ho
                      refine inBlock_ret ?_
                      refine then_ret ?_
                      obtain rfl := Option.some.inj H0
                      exact ret1 hI rfl rfl ⟨rfl, hE.below hI⟩
                    · replace H1 := bif_f hc_117 H1
                      refine wpIn_skip ?_
                      refine inBlock_normal ?_
                      refine then_normal ?_
                      refine region_ (live := [5, 132, 7, 122, 97, 62, 52, 45, 31, 21, 20, 6, 12, 4, 2, 0, 1]) (orc := []) hF hI ⟨[⟨5, [], .v (.int .i64 (IntKind.i64.wrap (s1.1 + 1)))⟩, ⟨132, [], .v (.bool (bif (a1 == 11) then ((((rd x0.Chans s1.1).Kind) == 1) && (((rd x0.Chans s1.1).Boot) != 0)) else false))⟩, ⟨7, [], .v (.bool (bif (a1 == 11) then ((((rd x0.Chans s1.1).Kind) == 1) && (((rd x0.Chans s1.1).Boot) != 0)) else false))⟩, ⟨122, [], .v (.bool (a1 == 11))⟩, ⟨97, [], .v (.bool (a1 == 10))⟩, ⟨62, [], .v (.bool (a1 == 9))⟩, ⟨52, [], .v (.bool (a1 == 8))⟩, ⟨45, [], .v (.bool (a1 == 7))⟩, ⟨31, [], .v (.bool (a1 == 6))⟩, ⟨21, [], .v (.bool (a1 == 5))⟩, ⟨20, [], .v (.int .i64 a1)⟩, ⟨6, [], .p 1 0⟩, ⟨12, [], .v (.bool (decide (s1.1 < (x0.Chans.length : Int))))⟩, ⟨4, [], .v (.bool s1.2)⟩, ⟨2, [], .p 0 0⟩, ⟨0, [], .v (.agg ((kd_Config).cells x0 (svL [((sv0 0).1, (sv0 0).2), ((sv0 1).1, (sv0 1).2), ((sv0 2).1, (sv0 2).2), ((sv0 3).1, (sv0 3).2)])).toArray)⟩, ⟨1, [], .v (.int .i64 a1)⟩], [], [], [((((kd_Config).cells x0 sv0).map EV.v), 29), ((((kd_Chan).cells (rd x0.Chans s1.1) sv_11).map EV.v), 74)], none, none⟩ [] (by kernel_rfl) trivial (fun ns_120 a w_121 hI _ => ?_)
                      refine then_normal ?_
                      obtain rfl := Option.some.inj H1
                      exact ⟨_, rfl, ⟨_, hI.pick [5, 4, 2, 0, 1] 1 ⟨[⟨5, [], .v (.int .i64 (IntKind.i64.wrap (s1.1 + 1)))⟩, ⟨4, [], .v (.bool s1.2)⟩, ⟨2, [], .p 0 0⟩, ⟨0, [], .v (.agg ((kd_Config).cells x0 (svL [((sv0 0).1, (sv0 0).2), ((sv0 1).1, (sv0 1).2), ((sv0 2).1, (sv0 2).2), ((sv0 3).1, (sv0 3).2)])).toArray)⟩, ⟨1, [], .v (.int .i64 a1)⟩], [], [], [((((kd_Config).cells x0 sv0).map EV.v), 29)], none, none⟩ (by kernel_rfl)⟩⟩
    · replace H1 := bif_f hc_9 H1
      refine wpIn_exit ?_
      refine then_exit ?_
      refine then_exit ?_
      obtain rfl := Option.some.inj H1
      exact .inl ⟨_, rfl, rfl, ⟨_, hI.pick [5, 4, 2, 0, 1] 1 ⟨[⟨5, [], .v (.int .i64 s1.1)⟩, ⟨4, [], .v (.bool s1.2)⟩, ⟨2, [], .p 0 0⟩, ⟨0, [], .v (.agg ((kd_Config).cells x0 (svL [((sv0 0).1, (sv0 0).2), ((sv0 1).1, (sv0 1).2), ((sv0 2).1, (sv0 2).2), ((sv0 3).1, (sv0 3).2)])).toArray)⟩, ⟨1, [], .v (.int .i64 a1)⟩], [], [], [((((kd_Config).cells x0 sv0).map EV.v), 29)], none, none⟩ (by kernel_rfl)⟩⟩
  · clear hI
    rintro s1 a w_124 ho ⟨ns_125, hI⟩
    subst ho
    replace H0 : (some false : Option (Bool)) = _ := H0
    refine then_normal ?_
    refine seq_region (live := [4, 5, 2, 0, 1]) (orc := []) hF hI ⟨[⟨4, [], .v (.bool false)⟩, ⟨5, [], .v (.int .i64 s1.1)⟩, ⟨2, [], .p 0 0⟩, ⟨0, [], .v (.agg ((kd_Config).cells x0 (svL [((sv0 0).1, (sv0 0).2), ((sv0 1).1, (sv0 1).2), ((sv0 2).1, (sv0 2).2), ((sv0 3).1, (sv0 3).2)])).toArray)⟩, ⟨1, [], .v (.int .i64 a1)⟩], [], [], [((((kd_Config).cells x0 sv0).map EV.v), 29)], none, none⟩ [] (by kernel_rfl) trivial (fun ns_126 a w_127 hI _ => ?_)
    refine wpIn_ret ?_
    obtain rfl := Option.some.inj H0
    exact ret1 hI rfl rfl ⟨rfl, hE.below hI⟩

/-! ### porthole/portholeref07.word: function 87 -/
noncomputable def G_ref07_word (a0 : Int) : Option (Bool) := some (decide (a0 ≥ 0) && decide (a0 ≤ 4294967295))
set_option maxRecDepth 100000 in
set_option maxHeartbeats 4000000 in
theorem G_ref07_word.calls (a0 : Int)  (w : World) {S : Nat → Prop}  (r : Bool) (h : G_ref07_word a0 = some r) :
    Calls Try.prog 87 #[.int .i64 a0] w fun e w' => e = .returned (.bool r) ∧ Below w.heap.size w w' := by
  unfold G_ref07_word at h
  have H0 := h
  clear h
  refine enter Try.func87 rfl [.int .i64 a0] (n := 9) rfl (Nat.le_of_ble_eq_true rfl) (fun a hI => ?_)
  have hF : FOpen Fence.wide := .inl rfl
  have hE := Ep.start w
  refine seq_region (live := [2, 0]) (orc := []) hF hI ⟨[⟨2, [], .v (.bool false)⟩, ⟨0, [], .v (.int .i64 a0)⟩], [], [], [], none, none⟩ [] (by kernel_rfl) trivial (fun ns_1 a w_2 hI _ => ?_)
  refine seq_region (live := [2, 0]) (orc := []) hF hI ⟨[⟨2, [], .v (.bool (decide (a0 ≥ 0) && decide (a0 ≤ 4294967295)))⟩, ⟨0, [], .v (.int .i64 a0)⟩], [], [], [], none, none⟩ [] (by kernel_rfl) trivial (fun ns_3 a w_4 hI _ => ?_)
  refine wpIn_ret ?_
  obtain rfl := Option.some.inj H0
  exact ret1 hI rfl rfl ⟨rfl, hE.below hI⟩

end Go.Proofs.Ytnfnincmhobpaab
