import Derived.Test.YtnfnincmhobpaabProg
import Derived.Test.YtnfnincmhobpaabEng
set_option linter.unusedVariables false
set_option linter.unusedSimpArgs false
namespace Go.Proofs.Ytnfnincmhobpaab
open Go Go.RowKit Go.Eng Go.Proofs

structure Chan where
  Kind : Int
  From : Int
  To : Int
  Words : Int
  Depth : Int
  Period : Int
  Boot : Int
  deriving Inhabited, DecidableEq
def kd_Chan : Kd Chan := ⟨7, fun x sv => [.int .i64 x.Kind, .int .i64 x.From, .int .i64 x.To, .int .i64 x.Words, .int .i64 x.Depth, .int .i64 x.Period, .int .u32 x.Boot], fun S w x sv => True, fun _ _ => rfl, Nat.le_of_ble_eq_true rfl, fun h hk => trivial⟩
theorem kd_one_Chan (x : Chan) (sv : SV) (u : Value) (hu : u ∈ kd_Chan.cells x sv) : u.oneCell' = true := by
  simp only [kd_Chan, List.mem_cons, List.not_mem_nil, or_false] at hu
  rcases hu with rfl | rfl | rfl | rfl | rfl | rfl | rfl
  all_goals rfl
structure Part where
  Core : Int
  Private : Int
  deriving Inhabited, DecidableEq
def kd_Part : Kd Part := ⟨2, fun x sv => [.int .i64 x.Core, .int .i64 x.Private], fun S w x sv => True, fun _ _ => rfl, Nat.le_of_ble_eq_true rfl, fun h hk => trivial⟩
theorem kd_one_Part (x : Part) (sv : SV) (u : Value) (hu : u ∈ kd_Part.cells x sv) : u.oneCell' = true := by
  simp only [kd_Part, List.mem_cons, List.not_mem_nil, or_false] at hu
  rcases hu with rfl | rfl
  all_goals rfl
structure Window where
  Part : Int
  Start : Int
  Len : Int
  deriving Inhabited, DecidableEq
def kd_Window : Kd Window := ⟨3, fun x sv => [.int .i64 x.Part, .int .i64 x.Start, .int .i64 x.Len], fun S w x sv => True, fun _ _ => rfl, Nat.le_of_ble_eq_true rfl, fun h hk => trivial⟩
theorem kd_one_Window (x : Window) (sv : SV) (u : Value) (hu : u ∈ kd_Window.cells x sv) : u.oneCell' = true := by
  simp only [kd_Window, List.mem_cons, List.not_mem_nil, or_false] at hu
  rcases hu with rfl | rfl | rfl
  all_goals rfl
structure Frame where
  Length : Int
  Windows : (List Window)
  deriving Inhabited, DecidableEq
def kd_Frame : Kd Frame := ⟨2, fun x sv => [.int .i64 x.Length, .slice (sv 0).1 x.Windows.length (sv 0).2], fun S w x sv => (Arr kd_Window S w (sv 0).1 x.Windows ∧ x.Windows.length ≤ (sv 0).2) ∧ True, fun _ _ => rfl, Nat.le_of_ble_eq_true rfl, fun h hk => ⟨⟨h.1.1.keep hk, h.1.2⟩, trivial⟩⟩
theorem kd_one_Frame (x : Frame) (sv : SV) (u : Value) (hu : u ∈ kd_Frame.cells x sv) : u.oneCell' = true := by
  simp only [kd_Frame, List.mem_cons, List.not_mem_nil, or_false] at hu
  rcases hu with rfl | rfl
  all_goals rfl
structure St27 where
  e0 : Frame
  e1 : Frame
  deriving Inhabited, DecidableEq
def kd_St27 : Kd St27 := ⟨4, fun x sv => [.int .i64 x.e0.Length, .slice (sv 0).1 x.e0.Windows.length (sv 0).2, .int .i64 x.e1.Length, .slice (sv 1).1 x.e1.Windows.length (sv 1).2], fun S w x sv => (Arr kd_Window S w (sv 0).1 x.e0.Windows ∧ x.e0.Windows.length ≤ (sv 0).2) ∧ (Arr kd_Window S w (sv 1).1 x.e1.Windows ∧ x.e1.Windows.length ≤ (sv 1).2) ∧ True, fun _ _ => rfl, Nat.le_of_ble_eq_true rfl, fun h hk => ⟨⟨h.1.1.keep hk, h.1.2⟩, ⟨h.2.1.1.keep hk, h.2.1.2⟩, trivial⟩⟩
def rdA_St27 (x : St27) (i : Int) : Frame := if i = 0 then x.e0 else x.e1
theorem elA_St27 {S : Nat → Prop} {w : World} {B : Addr} {x : St27} {sv : SV} (h : El kd_St27 S w B x sv) {i : Int} (hi : inb i 2 = true) : El kd_Frame S w (B.add (i.toNat * 2)) (rdA_St27 x i) (svO sv (i.toNat * 1)) := by
  obtain ⟨h0, h1⟩ := inb_spec hi
  have : i = 0 ∨ i = 1 := by omega
  rcases this with rfl | rfl
  · exact El.part h (0 * 2) x.e0 (svO sv (0 * 1)) ⟨h.cont.1, trivial⟩ rfl
  · exact El.part h (1 * 2) x.e1 (svO sv (1 * 1)) ⟨h.cont.2.1, trivial⟩ rfl
theorem kd_one_St27 (x : St27) (sv : SV) (u : Value) (hu : u ∈ kd_St27.cells x sv) : u.oneCell' = true := by
  simp only [kd_St27, List.mem_cons, List.not_mem_nil, or_false] at hu
  rcases hu with rfl | rfl | rfl | rfl
  all_goals rfl
structure Config where
  Parts : (List Part)
  Chans : (List Chan)
  Frames : St27
  deriving Inhabited, DecidableEq
def kd_Config : Kd Config := ⟨6, fun x sv => [.slice (sv 0).1 x.Parts.length (sv 0).2, .slice (sv 1).1 x.Chans.length (sv 1).2, .int .i64 x.Frames.e0.Length, .slice (sv 2).1 x.Frames.e0.Windows.length (sv 2).2, .int .i64 x.Frames.e1.Length, .slice (sv 3).1 x.Frames.e1.Windows.length (sv 3).2], fun S w x sv => (Arr kd_Part S w (sv 0).1 x.Parts ∧ x.Parts.length ≤ (sv 0).2) ∧ (Arr kd_Chan S w (sv 1).1 x.Chans ∧ x.Chans.length ≤ (sv 1).2) ∧ (Arr kd_Window S w (sv 2).1 x.Frames.e0.Windows ∧ x.Frames.e0.Windows.length ≤ (sv 2).2) ∧ (Arr kd_Window S w (sv 3).1 x.Frames.e1.Windows ∧ x.Frames.e1.Windows.length ≤ (sv 3).2) ∧ True, fun _ _ => rfl, Nat.le_of_ble_eq_true rfl, fun h hk => ⟨⟨h.1.1.keep hk, h.1.2⟩, ⟨h.2.1.1.keep hk, h.2.1.2⟩, ⟨h.2.2.1.1.keep hk, h.2.2.1.2⟩, ⟨h.2.2.2.1.1.keep hk, h.2.2.2.1.2⟩, trivial⟩⟩
theorem kd_one_Config (x : Config) (sv : SV) (u : Value) (hu : u ∈ kd_Config.cells x sv) : u.oneCell' = true := by
  simp only [kd_Config, List.mem_cons, List.not_mem_nil, or_false] at hu
  rcases hu with rfl | rfl | rfl | rfl | rfl | rfl
  all_goals rfl
structure Portholeref21_Edge where
  From : Int
  To : Int
  deriving Inhabited, DecidableEq
def kd_Portholeref21_Edge : Kd Portholeref21_Edge := ⟨2, fun x sv => [.int .i64 x.From, .int .i64 x.To], fun S w x sv => True, fun _ _ => rfl, Nat.le_of_ble_eq_true rfl, fun h hk => trivial⟩
theorem kd_one_Portholeref21_Edge (x : Portholeref21_Edge) (sv : SV) (u : Value) (hu : u ∈ kd_Portholeref21_Edge.cells x sv) : u.oneCell' = true := by
  simp only [kd_Portholeref21_Edge, List.mem_cons, List.not_mem_nil, or_false] at hu
  rcases hu with rfl | rfl
  all_goals rfl
structure Request where
  Op : Int
  Port : Int
  Addr : Int
  Data : (List Int)
  deriving Inhabited, DecidableEq
def kd_Request : Kd Request := ⟨4, fun x sv => [.int .i64 x.Op, .int .i64 x.Port, .int .u64 x.Addr, .slice (sv 0).1 x.Data.length (sv 0).2], fun S w x sv => (Arr (Kd.int .u32) S w (sv 0).1 x.Data ∧ x.Data.length ≤ (sv 0).2) ∧ True, fun _ _ => rfl, Nat.le_of_ble_eq_true rfl, fun h hk => ⟨⟨h.1.1.keep hk, h.1.2⟩, trivial⟩⟩
theorem kd_one_Request (x : Request) (sv : SV) (u : Value) (hu : u ∈ kd_Request.cells x sv) : u.oneCell' = true := by
  simp only [kd_Request, List.mem_cons, List.not_mem_nil, or_false] at hu
  rcases hu with rfl | rfl | rfl | rfl
  all_goals rfl
structure Answer where
  Code : Int
  Data : (List Int)
  Valid : Bool
  Count : Int
  deriving Inhabited, DecidableEq
def kd_Answer : Kd Answer := ⟨4, fun x sv => [.int .i64 x.Code, .slice (sv 0).1 x.Data.length (sv 0).2, .bool x.Valid, .int .i64 x.Count], fun S w x sv => (Arr (Kd.int .u32) S w (sv 0).1 x.Data ∧ x.Data.length ≤ (sv 0).2) ∧ True, fun _ _ => rfl, Nat.le_of_ble_eq_true rfl, fun h hk => ⟨⟨h.1.1.keep hk, h.1.2⟩, trivial⟩⟩
theorem kd_one_Answer (x : Answer) (sv : SV) (u : Value) (hu : u ∈ kd_Answer.cells x sv) : u.oneCell' = true := by
  simp only [kd_Answer, List.mem_cons, List.not_mem_nil, or_false] at hu
  rcases hu with rfl | rfl | rfl | rfl
  all_goals rfl
structure Sight where
  Kind : Int
  Own : Int
  Tick : Int
  Req : Request
  Ans : Answer
  Ports : (List Int)
  deriving Inhabited, DecidableEq
def kd_Sight : Kd Sight := ⟨12, fun x sv => [.int .i64 x.Kind, .int .i64 x.Own, .int .i64 x.Tick, .int .i64 x.Req.Op, .int .i64 x.Req.Port, .int .u64 x.Req.Addr, .slice (sv 0).1 x.Req.Data.length (sv 0).2, .int .i64 x.Ans.Code, .slice (sv 1).1 x.Ans.Data.length (sv 1).2, .bool x.Ans.Valid, .int .i64 x.Ans.Count, .slice (sv 2).1 x.Ports.length (sv 2).2], fun S w x sv => (Arr (Kd.int .u32) S w (sv 0).1 x.Req.Data ∧ x.Req.Data.length ≤ (sv 0).2) ∧ (Arr (Kd.int .u32) S w (sv 1).1 x.Ans.Data ∧ x.Ans.Data.length ≤ (sv 1).2) ∧ (Arr (Kd.int .i64) S w (sv 2).1 x.Ports ∧ x.Ports.length ≤ (sv 2).2) ∧ True, fun _ _ => rfl, Nat.le_of_ble_eq_true rfl, fun h hk => ⟨⟨h.1.1.keep hk, h.1.2⟩, ⟨h.2.1.1.keep hk, h.2.1.2⟩, ⟨h.2.2.1.1.keep hk, h.2.2.1.2⟩, trivial⟩⟩
theorem kd_one_Sight (x : Sight) (sv : SV) (u : Value) (hu : u ∈ kd_Sight.cells x sv) : u.oneCell' = true := by
  simp only [kd_Sight, List.mem_cons, List.not_mem_nil, or_false] at hu
  rcases hu with rfl | rfl | rfl | rfl | rfl | rfl | rfl | rfl | rfl | rfl | rfl | rfl
  all_goals rfl

def wf_Chan (x : Chan) : Prop := (InK .i64) x.Kind ∧ (InK .i64) x.From ∧ (InK .i64) x.To ∧ (InK .i64) x.Words ∧ (InK .i64) x.Depth ∧ (InK .i64) x.Period ∧ (InK .u32) x.Boot
theorem op_Chan : Opn Try.prog 74 kd_Chan wf_Chan := by
  refine ⟨by kernel_rfl, fun h => ?_⟩
  obtain ⟨xs, m, _, _, hlen, hxs, hf⟩ := DataW.trod_struct Try.underlying74 h
  obtain ⟨v0, s0, c0, k0, w0⟩ := opn_field hf hxs 0 _ rfl (Opn.int Try.underlying3 (by kernel_rfl))
  obtain ⟨v1, s1, c1, k1, w1⟩ := opn_field hf hxs 1 _ rfl (Opn.int Try.underlying3 (by kernel_rfl))
  obtain ⟨v2, s2, c2, k2, w2⟩ := opn_field hf hxs 2 _ rfl (Opn.int Try.underlying3 (by kernel_rfl))
  obtain ⟨v3, s3, c3, k3, w3⟩ := opn_field hf hxs 3 _ rfl (Opn.int Try.underlying3 (by kernel_rfl))
  obtain ⟨v4, s4, c4, k4, w4⟩ := opn_field hf hxs 4 _ rfl (Opn.int Try.underlying3 (by kernel_rfl))
  obtain ⟨v5, s5, c5, k5, w5⟩ := opn_field hf hxs 5 _ rfl (Opn.int Try.underlying3 (by kernel_rfl))
  obtain ⟨v6, s6, c6, k6, w6⟩ := opn_field hf hxs 6 _ rfl (Opn.int Try.underlying72 (by kernel_rfl))
  exact ⟨⟨v0, v1, v2, v3, v4, v5, v6⟩, svL [], (pieces_eq [1, 1, 1, 1, 1, 1, 1] hlen (by kernel_rfl)).trans (app2 c0 (app2 c1 (app2 c2 (app2 c3 (app2 c4 (app2 c5 (app2 c6 rfl))))))), trivial, ⟨w0, w1, w2, w3, w4, w5, w6⟩⟩
def wf_Part (x : Part) : Prop := (InK .i64) x.Core ∧ (InK .i64) x.Private
theorem op_Part : Opn Try.prog 86 kd_Part wf_Part := by
  refine ⟨by kernel_rfl, fun h => ?_⟩
  obtain ⟨xs, m, _, _, hlen, hxs, hf⟩ := DataW.trod_struct Try.underlying86 h
  obtain ⟨v0, s0, c0, k0, w0⟩ := opn_field hf hxs 0 _ rfl (Opn.int Try.underlying3 (by kernel_rfl))
  obtain ⟨v1, s1, c1, k1, w1⟩ := opn_field hf hxs 1 _ rfl (Opn.int Try.underlying3 (by kernel_rfl))
  exact ⟨⟨v0, v1⟩, svL [], (pieces_eq [1, 1] hlen (by kernel_rfl)).trans (app2 c0 (app2 c1 rfl)), trivial, ⟨w0, w1⟩⟩
def wf_Window (x : Window) : Prop := (InK .i64) x.Part ∧ (InK .i64) x.Start ∧ (InK .i64) x.Len
theorem op_Window : Opn Try.prog 88 kd_Window wf_Window := by
  refine ⟨by kernel_rfl, fun h => ?_⟩
  obtain ⟨xs, m, _, _, hlen, hxs, hf⟩ := DataW.trod_struct Try.underlying88 h
  obtain ⟨v0, s0, c0, k0, w0⟩ := opn_field hf hxs 0 _ rfl (Opn.int Try.underlying3 (by kernel_rfl))
  obtain ⟨v1, s1, c1, k1, w1⟩ := opn_field hf hxs 1 _ rfl (Opn.int Try.underlying3 (by kernel_rfl))
  obtain ⟨v2, s2, c2, k2, w2⟩ := opn_field hf hxs 2 _ rfl (Opn.int Try.underlying3 (by kernel_rfl))
  exact ⟨⟨v0, v1, v2⟩, svL [], (pieces_eq [1, 1, 1] hlen (by kernel_rfl)).trans (app2 c0 (app2 c1 (app2 c2 rfl))), trivial, ⟨w0, w1, w2⟩⟩
def wf_Frame (x : Frame) : Prop := (InK .i64) x.Length ∧ (fun xs => xs.length ≤ maxLen ∧ ∀ x ∈ xs, wf_Window x) x.Windows
theorem op_Frame : Opn Try.prog 26 kd_Frame wf_Frame := by
  refine ⟨by kernel_rfl, fun h => ?_⟩
  obtain ⟨xs, m, _, _, hlen, hxs, hf⟩ := DataW.trod_struct Try.underlying26 h
  obtain ⟨v0, s0, c0, k0, w0⟩ := opn_field hf hxs 0 _ rfl (Opn.int Try.underlying3 (by kernel_rfl))
  obtain ⟨v1, s1, c1, k1, w1⟩ := opn_field hf hxs 1 _ rfl (Opn.slice op_Window Try.underlying24 (by kernel_rfl))
  exact ⟨⟨v0, v1⟩, svL [s1 0], (pieces_eq [1, 1] hlen (by kernel_rfl)).trans (app2 c0 (app2 c1 rfl)), ⟨k1, trivial⟩, ⟨w0, w1⟩⟩
def wf_St27 (x : St27) : Prop := wf_Frame x.e0 ∧ wf_Frame x.e1
theorem op_St27 : Opn Try.prog 27 kd_St27 wf_St27 := by
  refine ⟨by kernel_rfl, fun h => ?_⟩
  obtain ⟨xs, m, _, _, hlen, hxs, hf⟩ := DataW.trod_array Try.underlying27 h
  obtain ⟨v0, s0, c0, k0, w0⟩ := opn_elem hf hxs 0 (by decide) op_Frame
  obtain ⟨v1, s1, c1, k1, w1⟩ := opn_elem hf hxs 1 (by decide) op_Frame
  exact ⟨⟨v0, v1⟩, svL [s0 0, s1 0], (pieces_eq [2, 2] hlen (by kernel_rfl)).trans (app2 c0 (app2 c1 rfl)), ⟨k0.1, k1.1, trivial⟩, ⟨w0, w1⟩⟩
def wf_Config (x : Config) : Prop := (fun xs => xs.length ≤ maxLen ∧ ∀ x ∈ xs, wf_Part x) x.Parts ∧ (fun xs => xs.length ≤ maxLen ∧ ∀ x ∈ xs, wf_Chan x) x.Chans ∧ wf_St27 x.Frames
theorem op_Config : Opn Try.prog 29 kd_Config wf_Config := by
  refine ⟨by kernel_rfl, fun h => ?_⟩
  obtain ⟨xs, m, _, _, hlen, hxs, hf⟩ := DataW.trod_struct Try.underlying29 h
  obtain ⟨v0, s0, c0, k0, w0⟩ := opn_field hf hxs 0 _ rfl (Opn.slice op_Part Try.underlying22 (by kernel_rfl))
  obtain ⟨v1, s1, c1, k1, w1⟩ := opn_field hf hxs 1 _ rfl (Opn.slice op_Chan Try.underlying23 (by kernel_rfl))
  obtain ⟨v2, s2, c2, k2, w2⟩ := opn_field hf hxs 2 _ rfl op_St27
  exact ⟨⟨v0, v1, v2⟩, svL [s0 0, s1 0, s2 0, s2 1], (pieces_eq [1, 1, 4] hlen (by kernel_rfl)).trans (app2 c0 (app2 c1 (app2 c2 rfl))), ⟨k0, k1, k2.1, k2.2.1, trivial⟩, ⟨w0, w1, w2⟩⟩
def wf_Portholeref21_Edge (x : Portholeref21_Edge) : Prop := (InK .i64) x.From ∧ (InK .i64) x.To
theorem op_Portholeref21_Edge : Opn Try.prog 38 kd_Portholeref21_Edge wf_Portholeref21_Edge := by
  refine ⟨by kernel_rfl, fun h => ?_⟩
  obtain ⟨xs, m, _, _, hlen, hxs, hf⟩ := DataW.trod_struct Try.underlying38 h
  obtain ⟨v0, s0, c0, k0, w0⟩ := opn_field hf hxs 0 _ rfl (Opn.int Try.underlying3 (by kernel_rfl))
  obtain ⟨v1, s1, c1, k1, w1⟩ := opn_field hf hxs 1 _ rfl (Opn.int Try.underlying3 (by kernel_rfl))
  exact ⟨⟨v0, v1⟩, svL [], (pieces_eq [1, 1] hlen (by kernel_rfl)).trans (app2 c0 (app2 c1 rfl)), trivial, ⟨w0, w1⟩⟩
def wf_Request (x : Request) : Prop := (InK .i64) x.Op ∧ (InK .i64) x.Port ∧ (InK .u64) x.Addr ∧ (fun xs => xs.length ≤ maxLen ∧ ∀ x ∈ xs, (InK .u32) x) x.Data
theorem op_Request : Opn Try.prog 49 kd_Request wf_Request := by
  refine ⟨by kernel_rfl, fun h => ?_⟩
  obtain ⟨xs, m, _, _, hlen, hxs, hf⟩ := DataW.trod_struct Try.underlying49 h
  obtain ⟨v0, s0, c0, k0, w0⟩ := opn_field hf hxs 0 _ rfl (Opn.int Try.underlying3 (by kernel_rfl))
  obtain ⟨v1, s1, c1, k1, w1⟩ := opn_field hf hxs 1 _ rfl (Opn.int Try.underlying3 (by kernel_rfl))
  obtain ⟨v2, s2, c2, k2, w2⟩ := opn_field hf hxs 2 _ rfl (Opn.int Try.underlying46 (by kernel_rfl))
  obtain ⟨v3, s3, c3, k3, w3⟩ := opn_field hf hxs 3 _ rfl (Opn.slice (Opn.int Try.underlying72 (by kernel_rfl)) Try.underlying47 (by kernel_rfl))
  exact ⟨⟨v0, v1, v2, v3⟩, svL [s3 0], (pieces_eq [1, 1, 1, 1] hlen (by kernel_rfl)).trans (app2 c0 (app2 c1 (app2 c2 (app2 c3 rfl)))), ⟨k3, trivial⟩, ⟨w0, w1, w2, w3⟩⟩
def wf_Answer (x : Answer) : Prop := (InK .i64) x.Code ∧ (fun xs => xs.length ≤ maxLen ∧ ∀ x ∈ xs, (InK .u32) x) x.Data ∧ (fun _ => True) x.Valid ∧ (InK .i64) x.Count
theorem op_Answer : Opn Try.prog 52 kd_Answer wf_Answer := by
  refine ⟨by kernel_rfl, fun h => ?_⟩
  obtain ⟨xs, m, _, _, hlen, hxs, hf⟩ := DataW.trod_struct Try.underlying52 h
  obtain ⟨v0, s0, c0, k0, w0⟩ := opn_field hf hxs 0 _ rfl (Opn.int Try.underlying50 (by kernel_rfl))
  obtain ⟨v1, s1, c1, k1, w1⟩ := opn_field hf hxs 1 _ rfl (Opn.slice (Opn.int Try.underlying72 (by kernel_rfl)) Try.underlying47 (by kernel_rfl))
  obtain ⟨v2, s2, c2, k2, w2⟩ := opn_field hf hxs 2 _ rfl (Opn.bool Try.underlying4 (by kernel_rfl))
  obtain ⟨v3, s3, c3, k3, w3⟩ := opn_field hf hxs 3 _ rfl (Opn.int Try.underlying3 (by kernel_rfl))
  exact ⟨⟨v0, v1, v2, v3⟩, svL [s1 0], (pieces_eq [1, 1, 1, 1] hlen (by kernel_rfl)).trans (app2 c0 (app2 c1 (app2 c2 (app2 c3 rfl)))), ⟨k1, trivial⟩, ⟨w0, w1, w2, w3⟩⟩
def wf_Sight (x : Sight) : Prop := (InK .i64) x.Kind ∧ (InK .i64) x.Own ∧ (InK .i64) x.Tick ∧ wf_Request x.Req ∧ wf_Answer x.Ans ∧ (fun xs => xs.length ≤ maxLen ∧ ∀ x ∈ xs, (InK .i64) x) x.Ports
theorem op_Sight : Opn Try.prog 81 kd_Sight wf_Sight := by
  refine ⟨by kernel_rfl, fun h => ?_⟩
  obtain ⟨xs, m, _, _, hlen, hxs, hf⟩ := DataW.trod_struct Try.underlying81 h
  obtain ⟨v0, s0, c0, k0, w0⟩ := opn_field hf hxs 0 _ rfl (Opn.int Try.underlying3 (by kernel_rfl))
  obtain ⟨v1, s1, c1, k1, w1⟩ := opn_field hf hxs 1 _ rfl (Opn.int Try.underlying3 (by kernel_rfl))
  obtain ⟨v2, s2, c2, k2, w2⟩ := opn_field hf hxs 2 _ rfl (Opn.int Try.underlying3 (by kernel_rfl))
  obtain ⟨v3, s3, c3, k3, w3⟩ := opn_field hf hxs 3 _ rfl op_Request
  obtain ⟨v4, s4, c4, k4, w4⟩ := opn_field hf hxs 4 _ rfl op_Answer
  obtain ⟨v5, s5, c5, k5, w5⟩ := opn_field hf hxs 5 _ rfl (Opn.slice (Opn.int Try.underlying3 (by kernel_rfl)) Try.underlying39 (by kernel_rfl))
  exact ⟨⟨v0, v1, v2, v3, v4, v5⟩, svL [s3 0, s4 0, s5 0], (pieces_eq [1, 1, 1, 4, 4, 1] hlen (by kernel_rfl)).trans (app2 c0 (app2 c1 (app2 c2 (app2 c3 (app2 c4 (app2 c5 rfl)))))), ⟨k3.1, k4.1, k5, trivial⟩, ⟨w0, w1, w2, w3, w4, w5⟩⟩
def eqb_Portholeref21_Edge (x y : Portholeref21_Edge) : Bool := (x.From == y.From && (x.To == y.To && (true)))
theorem eqt_Portholeref21_Edge (d : Nat) (x y : Portholeref21_Edge) (w : World) : (Op.equalIn (d + 2) 38 (.agg ((kd_Portholeref21_Edge).cells x (svL [])).toArray) (.agg ((kd_Portholeref21_Edge).cells y (svL [])).toArray)).run Try.prog w = .ok (eqb_Portholeref21_Edge x y) w :=
  eqA_of Try.underlying38 (by kernel_rfl) (eqf_cons rfl (part_one (by kernel_rfl) rfl w) (part_one (by kernel_rfl) rfl w) (eqi_int Try.underlying3 _ _ (d + 0) w) (eqf_cons rfl (part_one (by kernel_rfl) rfl w) (part_one (by kernel_rfl) rfl w) (eqi_int Try.underlying3 _ _ (d + 0) w) eqf_nil))

/-! ### porthole/portholelaw21.two: function 38 -/
noncomputable def G_law21_two (x0 : Chan) : Option (Config) := some (⟨([(⟨0, 0⟩ : Part), (⟨1, 0⟩ : Part)] : List Part), ([x0] : List Chan), (⟨(⟨1, ([(⟨0, 0, 1⟩ : Window)] : List Window)⟩ : Frame), (⟨1, ([(⟨1, 0, 1⟩ : Window)] : List Window)⟩ : Frame)⟩ : St27)⟩ : Config)
set_option maxRecDepth 100000 in
set_option maxHeartbeats 4000000 in
theorem G_law21_two.calls (x0 : Chan) (sv0 : SV) (w : World) {S : Nat → Prop} (hx0 : (kd_Chan).cont S w x0 sv0) (r : Config) (h : G_law21_two x0 = some r) :
    Calls Try.prog 38 #[.agg ((kd_Chan).cells x0 sv0).toArray] w fun e w' => ∃ sv : SV, e = .returned (.agg ((kd_Config).cells r sv).toArray) ∧ Below w.heap.size w w' ∧ (kd_Config).cont (fun b => w.heap.size ≤ b ∨ S b) w' r sv := by
  replace hx0 := Kd.lo _ hx0
  unfold G_law21_two at h
  have H0 := h
  clear h
  refine enter Try.func38 rfl [.agg ((kd_Chan).cells x0 sv0).toArray] (n := 21) rfl (Nat.le_of_ble_eq_true rfl) (fun a hI => ?_)
  have hF : FOpen Fence.wide := .inl rfl
  have hE := Ep.start w
  refine seq_region (live := [2, 1, 0]) (orc := []) hF hI ⟨[⟨2, [], .p 1 0⟩, ⟨1, [], .p 0 0⟩, ⟨0, [], .v (.agg ((kd_Chan).cells x0 sv0).toArray)⟩], [], [], [((((kd_Chan).cells x0 sv0).map EV.v), 74), ([.v (.slice none 0 0), .v (.slice none 0 0), .v (.int .i64 0), .v (.slice none 0 0), .v (.int .i64 0), .v (.slice none 0 0)], 29)], none, none⟩ [] (by kernel_rfl) trivial (fun ns_1 a w_2 hI _ => ?_)
  refine wpIn_seq ?_
  refine wpIn_region_lit ?_
  refine chunkL_ (live := [5, 4, 2, 1, 0]) (orc := []) hF 2 hI ⟨[⟨5, [], .v (.agg #[.int .i64 1, .int .i64 0])⟩, ⟨4, [], .v (.agg #[.int .i64 0, .int .i64 0])⟩, ⟨2, [], .p 1 0⟩, ⟨1, [], .p 0 0⟩, ⟨0, [], .v (.agg ((kd_Chan).cells x0 sv0).toArray)⟩], [], [], [((((kd_Chan).cells x0 sv0).map EV.v), 74), ([.v (.slice none 0 0), .v (.slice none 0 0), .v (.int .i64 0), .v (.slice none 0 0), .v (.int .i64 0), .v (.slice none 0 0)], 29)], none, none⟩ [] rfl (by kernel_rfl) trivial (fun ns_3 a w_4 hI => ?_)
  obtain ⟨hE', hmv, hmr⟩ := Ep.rebase (S0 := S) hE hI
  replace hx0 := Kd.keep _ hx0 hmv
  replace hE := hE'
  replace hI := hI.rebase
  clear hE' hmv hmr
  refine buildSlice_ (S0 := S) (d := kd_Part) (e := 86) hF hE hI (wanted_none rfl) rfl (by kernel_rfl) (cs := [.int .i64 0, .int .i64 0, .int .i64 1, .int .i64 0]) (by kernel_rfl) [(⟨0, 0⟩ : Part), (⟨1, 0⟩ : Part)] [(svL []), (svL [])] rfl rfl (by simp [maxLen]) (fun i x hi => by cases i with | zero => (simp only [List.getElem?_cons_zero, Option.some.injEq] at hi; subst hi; exact ⟨trivial, rfl⟩) | succ i => (simp only [List.getElem?_cons_succ] at hi; cases i with | zero => (simp only [List.getElem?_cons_zero, Option.some.injEq] at hi; subst hi; exact ⟨trivial, rfl⟩) | succ i => (simp only [List.getElem?_cons_succ] at hi; simp at hi))) (fun A_5 => ⟨[⟨6, [], .v (.slice A_5 ([(⟨0, 0⟩ : Part), (⟨1, 0⟩ : Part)] : List Part).length (([(⟨0, 0⟩ : Part), (⟨1, 0⟩ : Part)] : List Part).length))⟩, ⟨5, [], .v (.agg #[.int .i64 1, .int .i64 0])⟩, ⟨4, [], .v (.agg #[.int .i64 0, .int .i64 0])⟩, ⟨2, [], .p 1 0⟩, ⟨1, [], .p 0 0⟩, ⟨0, [], .v (.agg ((kd_Chan).cells x0 sv0).toArray)⟩], [], [], [((((kd_Chan).cells x0 sv0).map EV.v), 74), ([.v (.slice none 0 0), .v (.slice none 0 0), .v (.int .i64 0), .v (.slice none 0 0), .v (.int .i64 0), .v (.slice none 0 0)], 29)], none, none⟩) (fun A_5 => by kernel_rfl) (fun A_5 a w_7 hput hE' hI' hmv hmr hq_6 => ?_)
  replace hx0 := Kd.keep _ hx0 hmv
  replace hE := hE'
  replace hI := hI'
  clear hE' hI' hmv hmr
  refine chunkL_ (live := [7, 6, 2, 1, 0]) (orc := []) hF 1 hI ⟨[⟨7, [], .v (.agg ((kd_Chan).cells x0 sv0).toArray)⟩, ⟨6, [], .v (.slice A_5 ([(⟨0, 0⟩ : Part), (⟨1, 0⟩ : Part)] : List Part).length (([(⟨0, 0⟩ : Part), (⟨1, 0⟩ : Part)] : List Part).length))⟩, ⟨2, [], .p 1 0⟩, ⟨1, [], .p 0 0⟩, ⟨0, [], .v (.agg ((kd_Chan).cells x0 sv0).toArray)⟩], [], [], [((((kd_Chan).cells x0 sv0).map EV.v), 74), ([.v (.slice none 0 0), .v (.slice none 0 0), .v (.int .i64 0), .v (.slice none 0 0), .v (.int .i64 0), .v (.slice none 0 0)], 29)], none, none⟩ [] rfl (by kernel_rfl) trivial (fun ns_8 a w_9 hI => ?_)
  obtain ⟨hE', hmv, hmr⟩ := Ep.rebase (S0 := S) hE hI
  replace hx0 := Kd.keep _ hx0 hmv
  replace hq_6 := Row.keep hq_6 hmv (fun b hb => hmr b (by rw [← hb]; first | (simp; done) | simp [rb]))
  replace hE := hE'
  replace hI := hI.rebase
  clear hE' hmv hmr
  refine buildSlice_ (S0 := S) (d := kd_Chan) (e := 74) hF hE hI (wanted_none rfl) rfl (by kernel_rfl) (cs := [.int .i64 x0.Kind, .int .i64 x0.From, .int .i64 x0.To, .int .i64 x0.Words, .int .i64 x0.Depth, .int .i64 x0.Period, .int .u32 x0.Boot]) (by kernel_rfl) [x0] [(svL [])] rfl rfl (by simp [maxLen]) (fun i x hi => by cases i with | zero => (simp only [List.getElem?_cons_zero, Option.some.injEq] at hi; subst hi; exact ⟨trivial, rfl⟩) | succ i => (simp only [List.getElem?_cons_succ] at hi; simp at hi)) (fun A_10 => ⟨[⟨8, [], .v (.slice A_10 ([x0] : List Chan).length (([x0] : List Chan).length))⟩, ⟨7, [], .v (.agg ((kd_Chan).cells x0 sv0).toArray)⟩, ⟨6, [], .v (.slice A_5 ([(⟨0, 0⟩ : Part), (⟨1, 0⟩ : Part)] : List Part).length (([(⟨0, 0⟩ : Part), (⟨1, 0⟩ : Part)] : List Part).length))⟩, ⟨2, [], .p 1 0⟩, ⟨1, [], .p 0 0⟩, ⟨0, [], .v (.agg ((kd_Chan).cells x0 sv0).toArray)⟩], [], [], [((((kd_Chan).cells x0 sv0).map EV.v), 74), ([.v (.slice none 0 0), .v (.slice none 0 0), .v (.int .i64 0), .v (.slice none 0 0), .v (.int .i64 0), .v (.slice none 0 0)], 29)], none, none⟩) (fun A_10 => by kernel_rfl) (fun A_10 a w_12 hput hE' hI' hmv hmr hq_11 => ?_)
  replace hx0 := Kd.keep _ hx0 hmv
  replace hq_6 := Row.keep hq_6 hmv (fun b hb => hmr b (by rw [← hb]; first | (simp; done) | simp [rb]) (by simp))
  replace hE := hE'
  replace hI := hI'
  clear hE' hI' hmv hmr
  refine chunkL_ (live := [3, 2, 1, 0]) (orc := []) hF 3 hI ⟨[⟨3, [], .p 2 0⟩, ⟨2, [], .p 1 0⟩, ⟨1, [], .p 0 0⟩, ⟨0, [], .v (.agg ((kd_Chan).cells x0 sv0).toArray)⟩], [], [], [((((kd_Chan).cells x0 sv0).map EV.v), 74), ([.v (.slice none 0 0), .v (.slice none 0 0), .v (.int .i64 0), .v (.slice none 0 0), .v (.int .i64 0), .v (.slice none 0 0)], 29), ([.v (.slice A_5 ([(⟨0, 0⟩ : Part), (⟨1, 0⟩ : Part)] : List Part).length (([(⟨0, 0⟩ : Part), (⟨1, 0⟩ : Part)] : List Part).length)), .v (.slice A_10 ([x0] : List Chan).length (([x0] : List Chan).length)), .v (.int .i64 0), .v (.slice none 0 0), .v (.int .i64 0), .v (.slice none 0 0)], 29)], none, none⟩ [] rfl (by kernel_rfl) trivial (fun ns_13 a w_14 hI => ?_)
  refine wpListIn_nil ?_
  refine then_normal ?_
  refine wpIn_seq ?_
  refine wpIn_region_lit ?_
  refine chunkL_ (live := [10, 3, 2, 1, 0]) (orc := []) hF 1 hI ⟨[⟨10, [], .v (.agg #[.int .i64 0, .int .i64 0, .int .i64 1])⟩, ⟨3, [], .p 2 0⟩, ⟨2, [], .p 1 0⟩, ⟨1, [], .p 0 0⟩, ⟨0, [], .v (.agg ((kd_Chan).cells x0 sv0).toArray)⟩], [], [], [((((kd_Chan).cells x0 sv0).map EV.v), 74), ([.v (.slice none 0 0), .v (.slice none 0 0), .v (.int .i64 0), .v (.slice none 0 0), .v (.int .i64 0), .v (.slice none 0 0)], 29), ([.v (.slice A_5 ([(⟨0, 0⟩ : Part), (⟨1, 0⟩ : Part)] : List Part).length (([(⟨0, 0⟩ : Part), (⟨1, 0⟩ : Part)] : List Part).length)), .v (.slice A_10 ([x0] : List Chan).length (([x0] : List Chan).length)), .v (.int .i64 0), .v (.slice none 0 0), .v (.int .i64 0), .v (.slice none 0 0)], 29)], none, none⟩ [] rfl (by kernel_rfl) trivial (fun ns_15 a w_16 hI => ?_)
  obtain ⟨hE', hmv, hmr⟩ := Ep.rebase (S0 := S) hE hI
  replace hx0 := Kd.keep _ hx0 hmv
  replace hq_6 := Row.keep hq_6 hmv (fun b hb => hmr b (by rw [← hb]; first | (simp; done) | simp [rb]))
  replace hq_11 := Row.keep hq_11 hmv (fun b hb => hmr b (by rw [← hb]; first | (simp; done) | simp [rb]))
  replace hE := hE'
  replace hI := hI.rebase
  clear hE' hmv hmr
  refine buildSlice_ (S0 := S) (d := kd_Window) (e := 88) hF hE hI (wanted_none rfl) rfl (by kernel_rfl) (cs := [.int .i64 0, .int .i64 0, .int .i64 1]) (by kernel_rfl) [(⟨0, 0, 1⟩ : Window)] [(svL [])] rfl rfl (by simp [maxLen]) (fun i x hi => by cases i with | zero => (simp only [List.getElem?_cons_zero, Option.some.injEq] at hi; subst hi; exact ⟨trivial, rfl⟩) | succ i => (simp only [List.getElem?_cons_succ] at hi; simp at hi)) (fun A_17 => ⟨[⟨11, [], .v (.slice A_17 ([(⟨0, 0, 1⟩ : Window)] : List Window).length (([(⟨0, 0, 1⟩ : Window)] : List Window).length))⟩, ⟨10, [], .v (.agg #[.int .i64 0, .int .i64 0, .int .i64 1])⟩, ⟨3, [], .p 2 0⟩, ⟨2, [], .p 1 0⟩, ⟨1, [], .p 0 0⟩, ⟨0, [], .v (.agg ((kd_Chan).cells x0 sv0).toArray)⟩], [], [], [((((kd_Chan).cells x0 sv0).map EV.v), 74), ([.v (.slice none 0 0), .v (.slice none 0 0), .v (.int .i64 0), .v (.slice none 0 0), .v (.int .i64 0), .v (.slice none 0 0)], 29), ([.v (.slice A_5 ([(⟨0, 0⟩ : Part), (⟨1, 0⟩ : Part)] : List Part).length (([(⟨0, 0⟩ : Part), (⟨1, 0⟩ : Part)] : List Part).length)), .v (.slice A_10 ([x0] : List Chan).length (([x0] : List Chan).length)), .v (.int .i64 0), .v (.slice none 0 0), .v (.int .i64 0), .v (.slice none 0 0)], 29)], none, none⟩) (fun A_17 => by kernel_rfl) (fun A_17 a w_19 hput hE' hI' hmv hmr hq_18 => ?_)
  replace hx0 := Kd.keep _ hx0 hmv
  replace hq_6 := Row.keep hq_6 hmv (fun b hb => hmr b (by rw [← hb]; first | (simp; done) | simp [rb]) (by simp))
  replace hq_11 := Row.keep hq_11 hmv (fun b hb => hmr b (by rw [← hb]; first | (simp; done) | simp [rb]) (by simp))
  replace hE := hE'
  replace hI := hI'
  clear hE' hI' hmv hmr
  refine chunkL_ (live := [3, 2, 1, 0]) (orc := []) hF 4 hI ⟨[⟨3, [], .p 2 0⟩, ⟨2, [], .p 1 0⟩, ⟨1, [], .p 0 0⟩, ⟨0, [], .v (.agg ((kd_Chan).cells x0 sv0).toArray)⟩], [], [], [((((kd_Chan).cells x0 sv0).map EV.v), 74), ([.v (.slice none 0 0), .v (.slice none 0 0), .v (.int .i64 0), .v (.slice none 0 0), .v (.int .i64 0), .v (.slice none 0 0)], 29), ([.v (.slice A_5 ([(⟨0, 0⟩ : Part), (⟨1, 0⟩ : Part)] : List Part).length (([(⟨0, 0⟩ : Part), (⟨1, 0⟩ : Part)] : List Part).length)), .v (.slice A_10 ([x0] : List Chan).length (([x0] : List Chan).length)), .v (.int .i64 1), .v (.slice A_17 ([(⟨0, 0, 1⟩ : Window)] : List Window).length (([(⟨0, 0, 1⟩ : Window)] : List Window).length)), .v (.int .i64 0), .v (.slice none 0 0)], 29)], none, none⟩ [] rfl (by kernel_rfl) trivial (fun ns_20 a w_21 hI => ?_)
  refine wpListIn_nil ?_
  refine then_normal ?_
  refine wpIn_seq ?_
  refine wpIn_region_lit ?_
  refine chunkL_ (live := [15, 3, 2, 1, 0]) (orc := []) hF 1 hI ⟨[⟨15, [], .v (.agg #[.int .i64 1, .int .i64 0, .int .i64 1])⟩, ⟨3, [], .p 2 0⟩, ⟨2, [], .p 1 0⟩, ⟨1, [], .p 0 0⟩, ⟨0, [], .v (.agg ((kd_Chan).cells x0 sv0).toArray)⟩], [], [], [((((kd_Chan).cells x0 sv0).map EV.v), 74), ([.v (.slice none 0 0), .v (.slice none 0 0), .v (.int .i64 0), .v (.slice none 0 0), .v (.int .i64 0), .v (.slice none 0 0)], 29), ([.v (.slice A_5 ([(⟨0, 0⟩ : Part), (⟨1, 0⟩ : Part)] : List Part).length (([(⟨0, 0⟩ : Part), (⟨1, 0⟩ : Part)] : List Part).length)), .v (.slice A_10 ([x0] : List Chan).length (([x0] : List Chan).length)), .v (.int .i64 1), .v (.slice A_17 ([(⟨0, 0, 1⟩ : Window)] : List Window).length (([(⟨0, 0, 1⟩ : Window)] : List Window).length)), .v (.int .i64 0), .v (.slice none 0 0)], 29)], none, none⟩ [] rfl (by kernel_rfl) trivial (fun ns_22 a w_23 hI => ?_)
  obtain ⟨hE', hmv, hmr⟩ := Ep.rebase (S0 := S) hE hI
  replace hx0 := Kd.keep _ hx0 hmv
  replace hq_6 := Row.keep hq_6 hmv (fun b hb => hmr b (by rw [← hb]; first | (simp; done) | simp [rb]))
  replace hq_11 := Row.keep hq_11 hmv (fun b hb => hmr b (by rw [← hb]; first | (simp; done) | simp [rb]))
  replace hq_18 := Row.keep hq_18 hmv (fun b hb => hmr b (by rw [← hb]; first | (simp; done) | simp [rb]))
  replace hE := hE'
  replace hI := hI.rebase
  clear hE' hmv hmr
  refine buildSlice_ (S0 := S) (d := kd_Window) (e := 88) hF hE hI (wanted_none rfl) rfl (by kernel_rfl) (cs := [.int .i64 1, .int .i64 0, .int .i64 1]) (by kernel_rfl) [(⟨1, 0, 1⟩ : Window)] [(svL [])] rfl rfl (by simp [maxLen]) (fun i x hi => by cases i with | zero => (simp only [List.getElem?_cons_zero, Option.some.injEq] at hi; subst hi; exact ⟨trivial, rfl⟩) | succ i => (simp only [List.getElem?_cons_succ] at hi; simp at hi)) (fun A_24 => ⟨[⟨16, [], .v (.slice A_24 ([(⟨1, 0, 1⟩ : Window)] : List Window).length (([(⟨1, 0, 1⟩ : Window)] : List Window).length))⟩, ⟨15, [], .v (.agg #[.int .i64 1, .int .i64 0, .int .i64 1])⟩, ⟨3, [], .p 2 0⟩, ⟨2, [], .p 1 0⟩, ⟨1, [], .p 0 0⟩, ⟨0, [], .v (.agg ((kd_Chan).cells x0 sv0).toArray)⟩], [], [], [((((kd_Chan).cells x0 sv0).map EV.v), 74), ([.v (.slice none 0 0), .v (.slice none 0 0), .v (.int .i64 0), .v (.slice none 0 0), .v (.int .i64 0), .v (.slice none 0 0)], 29), ([.v (.slice A_5 ([(⟨0, 0⟩ : Part), (⟨1, 0⟩ : Part)] : List Part).length (([(⟨0, 0⟩ : Part), (⟨1, 0⟩ : Part)] : List Part).length)), .v (.slice A_10 ([x0] : List Chan).length (([x0] : List Chan).length)), .v (.int .i64 1), .v (.slice A_17 ([(⟨0, 0, 1⟩ : Window)] : List Window).length (([(⟨0, 0, 1⟩ : Window)] : List Window).length)), .v (.int .i64 0), .v (.slice none 0 0)], 29)], none, none⟩) (fun A_24 => by kernel_rfl) (fun A_24 a w_26 hput hE' hI' hmv hmr hq_25 => ?_)
  replace hx0 := Kd.keep _ hx0 hmv
  replace hq_6 := Row.keep hq_6 hmv (fun b hb => hmr b (by rw [← hb]; first | (simp; done) | simp [rb]) (by simp))
  replace hq_11 := Row.keep hq_11 hmv (fun b hb => hmr b (by rw [← hb]; first | (simp; done) | simp [rb]) (by simp))
  replace hq_18 := Row.keep hq_18 hmv (fun b hb => hmr b (by rw [← hb]; first | (simp; done) | simp [rb]) (by simp))
  replace hE := hE'
  replace hI := hI'
  clear hE' hI' hmv hmr
  refine chunkL_ (live := [3, 2, 1, 0]) (orc := []) hF 4 hI ⟨[⟨3, [], .p 2 0⟩, ⟨2, [], .p 1 0⟩, ⟨1, [], .p 0 0⟩, ⟨0, [], .v (.agg ((kd_Chan).cells x0 sv0).toArray)⟩], [], [], [((((kd_Chan).cells x0 sv0).map EV.v), 74), ([.v (.slice none 0 0), .v (.slice none 0 0), .v (.int .i64 0), .v (.slice none 0 0), .v (.int .i64 0), .v (.slice none 0 0)], 29), ([.v (.slice A_5 ([(⟨0, 0⟩ : Part), (⟨1, 0⟩ : Part)] : List Part).length (([(⟨0, 0⟩ : Part), (⟨1, 0⟩ : Part)] : List Part).length)), .v (.slice A_10 ([x0] : List Chan).length (([x0] : List Chan).length)), .v (.int .i64 1), .v (.slice A_17 ([(⟨0, 0, 1⟩ : Window)] : List Window).length (([(⟨0, 0, 1⟩ : Window)] : List Window).length)), .v (.int .i64 1), .v (.slice A_24 ([(⟨1, 0, 1⟩ : Window)] : List Window).length (([(⟨1, 0, 1⟩ : Window)] : List Window).length))], 29)], none, none⟩ [] rfl (by kernel_rfl) trivial (fun ns_27 a w_28 hI => ?_)
  refine wpListIn_nil ?_
  refine then_normal ?_
  refine seq_region (live := [3, 2, 1, 0]) (orc := []) hF hI ⟨[⟨3, [], .p 2 0⟩, ⟨2, [], .p 1 0⟩, ⟨1, [], .p 0 0⟩, ⟨0, [], .v (.agg ((kd_Chan).cells x0 sv0).toArray)⟩], [], [], [((((kd_Chan).cells x0 sv0).map EV.v), 74), ([.v (.slice A_5 ([(⟨0, 0⟩ : Part), (⟨1, 0⟩ : Part)] : List Part).length (([(⟨0, 0⟩ : Part), (⟨1, 0⟩ : Part)] : List Part).length)), .v (.slice A_10 ([x0] : List Chan).length (([x0] : List Chan).length)), .v (.int .i64 1), .v (.slice A_17 ([(⟨0, 0, 1⟩ : Window)] : List Window).length (([(⟨0, 0, 1⟩ : Window)] : List Window).length)), .v (.int .i64 1), .v (.slice A_24 ([(⟨1, 0, 1⟩ : Window)] : List Window).length (([(⟨1, 0, 1⟩ : Window)] : List Window).length))], 29), ([.v (.slice A_5 ([(⟨0, 0⟩ : Part), (⟨1, 0⟩ : Part)] : List Part).length (([(⟨0, 0⟩ : Part), (⟨1, 0⟩ : Part)] : List Part).length)), .v (.slice A_10 ([x0] : List Chan).length (([x0] : List Chan).length)), .v (.int .i64 1), .v (.slice A_17 ([(⟨0, 0, 1⟩ : Window)] : List Window).length (([(⟨0, 0, 1⟩ : Window)] : List Window).length)), .v (.int .i64 1), .v (.slice A_24 ([(⟨1, 0, 1⟩ : Window)] : List Window).length (([(⟨1, 0, 1⟩ : Window)] : List Window).length))], 29)], none, none⟩ [] (by kernel_rfl) trivial (fun ns_29 a w_30 hI _ => ?_)
  obtain ⟨hE', hmv, hmr⟩ := Ep.rebase (S0 := S) hE hI
  replace hx0 := Kd.keep _ hx0 hmv
  replace hq_6 := Row.keep hq_6 hmv (fun b hb => hmr b (by rw [← hb]; first | (simp; done) | simp [rb]))
  replace hq_11 := Row.keep hq_11 hmv (fun b hb => hmr b (by rw [← hb]; first | (simp; done) | simp [rb]))
  replace hq_18 := Row.keep hq_18 hmv (fun b hb => hmr b (by rw [← hb]; first | (simp; done) | simp [rb]))
  replace hq_25 := Row.keep hq_25 hmv (fun b hb => hmr b (by rw [← hb]; first | (simp; done) | simp [rb]))
  replace hE := hE'
  replace hI := hI.rebase
  clear hE' hmv hmr
  obtain ⟨hE', hmv, hq_6, hcap_31⟩ := Row.still (l1 := []) (l2 := [rb A_10, rb A_17, rb A_24]) hq_6 hE
  have hmr : ∀ b : Nat, some b ∈ ([rb A_5, rb A_10, rb A_17, rb A_24] : List (Option Nat)) → w_30.heap[b]? = w_30.heap[b]? := fun _ _ => rfl
  replace hx0 := Kd.keep _ hx0 hmv
  replace hq_11 := Row.keep hq_11 hmv (fun b hb => hmr b (by rw [← hb]; first | (simp; done) | simp [rb]))
  replace hq_18 := Row.keep hq_18 hmv (fun b hb => hmr b (by rw [← hb]; first | (simp; done) | simp [rb]))
  replace hq_25 := Row.keep hq_25 hmv (fun b hb => hmr b (by rw [← hb]; first | (simp; done) | simp [rb]))
  replace hE := hE'
  clear hE' hmv hmr
  obtain ⟨hE', hmv, hq_11, hcap_32⟩ := Row.still (l1 := []) (l2 := [rb A_17, rb A_24]) hq_11 hE
  have hmr : ∀ b : Nat, some b ∈ ([rb A_10, rb A_17, rb A_24] : List (Option Nat)) → w_30.heap[b]? = w_30.heap[b]? := fun _ _ => rfl
  replace hx0 := Kd.keep _ hx0 hmv
  replace hq_18 := Row.keep hq_18 hmv (fun b hb => hmr b (by rw [← hb]; first | (simp; done) | simp [rb]))
  replace hq_25 := Row.keep hq_25 hmv (fun b hb => hmr b (by rw [← hb]; first | (simp; done) | simp [rb]))
  replace hq_6 := Arr.keep hq_6 hmv
  replace hE := hE'
  clear hE' hmv hmr
  obtain ⟨hE', hmv, hq_18, hcap_33⟩ := Row.still (l1 := []) (l2 := [rb A_24]) hq_18 hE
  have hmr : ∀ b : Nat, some b ∈ ([rb A_17, rb A_24] : List (Option Nat)) → w_30.heap[b]? = w_30.heap[b]? := fun _ _ => rfl
  replace hx0 := Kd.keep _ hx0 hmv
  replace hq_25 := Row.keep hq_25 hmv (fun b hb => hmr b (by rw [← hb]; first | (simp; done) | simp [rb]))
  replace hq_6 := Arr.keep hq_6 hmv
  replace hq_11 := Arr.keep hq_11 hmv
  replace hE := hE'
  clear hE' hmv hmr
  obtain ⟨hE', hmv, hq_25, hcap_34⟩ := Row.still (l1 := []) (l2 := []) hq_25 hE
  have hmr : ∀ b : Nat, some b ∈ ([rb A_24] : List (Option Nat)) → w_30.heap[b]? = w_30.heap[b]? := fun _ _ => rfl
  replace hx0 := Kd.keep _ hx0 hmv
  replace hq_6 := Arr.keep hq_6 hmv
  replace hq_11 := Arr.keep hq_11 hmv
  replace hq_18 := Arr.keep hq_18 hmv
  replace hE := hE'
  clear hE' hmv hmr
  refine wpIn_ret ?_
  obtain rfl := Option.some.inj H0
  exact retCell hI rfl rfl rfl rfl rfl rfl ⟨svL [(A_5, ([(⟨0, 0⟩ : Part), (⟨1, 0⟩ : Part)] : List Part).length), (A_10, ([x0] : List Chan).length), (A_17, ([(⟨0, 0, 1⟩ : Window)] : List Window).length), (A_24, ([(⟨1, 0, 1⟩ : Window)] : List Window).length)], rfl, hE.below hI, ⟨⟨Arr.keep hq_6 (hE.out hI), hcap_31⟩, ⟨Arr.keep hq_11 (hE.out hI), hcap_32⟩, ⟨Arr.keep hq_18 (hE.out hI), hcap_33⟩, ⟨Arr.keep hq_25 (hE.out hI), hcap_34⟩, trivial⟩⟩

/-! ### porthole/flow.Edges$1: function 40, an iterator -/
def G_flow_Edges_1.enc : (Int × Int) → SV → List Value := fun y sv => [.int .i64 y.1, .int .i64 y.2]
def G_flow_Edges_1.fct : (Nat → Prop) → World → (Int × Int) → SV → Prop := fun X w y sv => True
noncomputable def G_flow_Edges_1.b1 {σt R : Type} (bd : σt → (Int × Int) → Option (Stp σt R)) (s0 : σt) (y1 : Config) (s1 : Int × σt) : Option (Stp (Int × σt) (Ex (Int × σt) (Stp σt R))) := (bif decide (s1.1 < (y1.Chans.length : Int)) then (req (inb s1.1 y1.Chans.length) ((bd s1.2 ((rd y1.Chans s1.1).From, (rd y1.Chans s1.1).To)).bind fun z => z.on (fun s_20 => (bif (((rd y1.Chans s1.1).Kind) == 2) then ((bd s_20 ((rd y1.Chans s1.1).To, (rd y1.Chans s1.1).From)).bind fun z => z.on (fun s_37 => some (.next ((IntKind.i64.wrap (s1.1 + 1)), s_37))) (fun r_38 => some (.out (.ret (.out r_38))))) else some (.next ((IntKind.i64.wrap (s1.1 + 1)), s_20)))) (fun r_21 => some (.out (.ret (.out r_21)))))) else some (.out (.brk (s1.1, s1.2))))
noncomputable def G_flow_Edges_1 {σt R : Type} (bd : σt → (Int × Int) → Option (Stp σt R)) (s0 : σt) (y1 : Config) : Option (Stp σt R) := ((loopω (G_flow_Edges_1.b1 bd s0 y1) (0, s0)).bind fun o => o.on (fun s1 => some (.next s1.2)) (fun r => some r))
set_option maxRecDepth 100000 in
set_option maxHeartbeats 4000000 in
theorem G_flow_Edges_1.calls {σt R : Type} (bd : σt → (Int × Int) → Option (Stp σt R)) (s0 : σt) (y1 : Config) (B1 : Addr) (sv1 : SV) (l : Nat) (w : World) {S : Nat → Prop} (hB1 : El kd_Config S w B1 y1 sv1) {J : σt → (Nat → Prop) → World → Prop} {Jx : R → World → Prop} (hq : SeqH Try.prog l G_flow_Edges_1.enc G_flow_Edges_1.fct bd J Jx) (hJ : J s0 S w) (r : Stp σt R) (h : G_flow_Edges_1 bd s0 y1 = some r) :
    Calls Try.prog 40 #[.func (.yield l) #[] #[], .pointer (some B1)] w fun e w' => (∃ v, e = .returned v) ∧ SeqPost J Jx r w' := by
  replace hB1 := El.lo hB1
  unfold G_flow_Edges_1 at h
  have H0 := h
  clear h
  refine enter Try.func40 rfl [.func (.yield l) #[] #[], .pointer (some B1)] (n := 34) rfl (Nat.le_of_ble_eq_true rfl) (fun a hI => ?_)
  have hF : FOpen Fence.wide := .inl rfl
  have hE := Ep.start w
  refine seq_region (live := [8, 7, 6, 0, 1]) (orc := [[.slice ((sv1 1).1) y1.Chans.length ((sv1 1).2)]]) hF hI ⟨[⟨8, [], .v (.int .i64 0)⟩, ⟨7, [], .v (.int .i64 (y1.Chans.length : Int))⟩, ⟨6, [], .v (.slice ((sv1 1).1) y1.Chans.length ((sv1 1).2))⟩, ⟨0, [], .v (.func (.yield l) #[] #[])⟩, ⟨1, [], .v (.pointer (some B1))⟩], [], [], [], none, none⟩ [.cell true (B1.add 1) [.slice ((sv1 1).1) y1.Chans.length ((sv1 1).2)]] (by kernel_rfl) ⟨ob_el (fun _ => hB1) 1 [.slice ((sv1 1).1) y1.Chans.length ((sv1 1).2)] rfl, trivial⟩ (fun ns_1 a w_2 hI _ => ?_)
  obtain ⟨hE', hmv, hmr⟩ := Ep.rebase (S0 := S) hE hI
  replace hB1 := El.keep hB1 hmv
  replace hE := hE'
  replace hI := hI.rebase
  clear hE' hmv hmr
  have hJ' := hq.new _ _ (Tc (Lo S w w_2 ns_1 []) w_2) _ _ hJ (hE.below hI) Tc.new
  obtain ⟨o_69, hL_70, H0⟩ := bind_some H0
  refine block_loop (fun (s1 : Int × σt) a w_71 => ∃ (T : Nat → Prop), (El kd_Config T w_71 B1 y1 sv1) ∧ J s1.2 T w_71 ∧ St w_71 [] 34 ⟨[⟨8, [], .v (.int .i64 s1.1)⟩, ⟨7, [], .v (.int .i64 (y1.Chans.length : Int))⟩, ⟨6, [], .v (.slice ((sv1 1).1) y1.Chans.length ((sv1 1).2))⟩, ⟨0, [], .v (.func (.yield l) #[] #[])⟩, ⟨1, [], .v (.pointer (some B1))⟩], [], [], [], none, none⟩ [] a w_71) (0, s0) hL_70 ⟨_, El.keep hB1 (Tc.mv _ _), hJ', (hI.pick [8, 7, 6, 0, 1] 0 ⟨[⟨8, [], .v (.int .i64 0)⟩, ⟨7, [], .v (.int .i64 (y1.Chans.length : Int))⟩, ⟨6, [], .v (.slice ((sv1 1).1) y1.Chans.length ((sv1 1).2))⟩, ⟨0, [], .v (.func (.yield l) #[] #[])⟩, ⟨1, [], .v (.pointer (some B1))⟩], [], [], [], none, none⟩ (by kernel_rfl)).reset rfl rfl rfl _⟩ ?_ ?_
  · clear hI hE hJ hJ'
    rintro s1 a w ⟨S, hB1, hJ, hI⟩ r1 H1
    unfold G_flow_Edges_1.b1 at H1
    have hE := Ep.start w
    replace hB1 := El.lo hB1
    refine seq_region (live := [9, 8, 7, 6, 0, 1]) (orc := []) hF hI ⟨[⟨9, [], .v (.bool (decide (s1.1 < (y1.Chans.length : Int))))⟩, ⟨8, [], .v (.int .i64 s1.1)⟩, ⟨7, [], .v (.int .i64 (y1.Chans.length : Int))⟩, ⟨6, [], .v (.slice ((sv1 1).1) y1.Chans.length ((sv1 1).2))⟩, ⟨0, [], .v (.func (.yield l) #[] #[])⟩, ⟨1, [], .v (.pointer (some B1))⟩], [], [], [], none, none⟩ [] (by kernel_rfl) trivial (fun ns_3 a w_4 hI _ => ?_)
    refine wpIn_seq ?_
    refine cond_ hI (decide (s1.1 < (y1.Chans.length : Int))) rfl (fun hc_5 => ?_) (fun hc_5 => ?_)
    · replace H1 := bif_t hc_5 H1
      refine wpIn_skip ?_
      refine then_normal ?_
      refine wpIn_seq ?_
      refine wpIn_block ?_
      obtain ⟨hN_6, H1⟩ := req_some H1
      obtain ⟨sv_7, hE_9, hA_8⟩ := Arr.elB (d := kd_Chan) (hB1).cont.2.1.1 s1.1 true (fun _ => hN_6)
      replace hE_9 := hE_9 rfl
      replace hA_8 := fun (_ : true = true) => hA_8 rfl
      refine seq_region (live := [4, 9, 8, 7, 6, 0, 1]) (orc := [(kd_Chan).cells (rd y1.Chans s1.1) sv_7]) hF hI ⟨[⟨4, [], .p 0 0⟩, ⟨9, [], .v (.bool (decide (s1.1 < (y1.Chans.length : Int))))⟩, ⟨8, [], .v (.int .i64 s1.1)⟩, ⟨7, [], .v (.int .i64 (y1.Chans.length : Int))⟩, ⟨6, [], .v (.slice ((sv1 1).1) y1.Chans.length ((sv1 1).2))⟩, ⟨0, [], .v (.func (.yield l) #[] #[])⟩, ⟨1, [], .v (.pointer (some B1))⟩], [], [], [((((kd_Chan).cells (rd y1.Chans s1.1) sv_7).map EV.v), 74)], none, none⟩ [.need true (0 ≤ s1.1 ∧ s1.1 < (y1.Chans.length : Int)), .need true ((sv1 1).1 = some (adr ((sv1 1).1))), .cell true ((adr ((sv1 1).1)).add ((s1.1 : Int).toNat * 7)) ((kd_Chan).cells (rd y1.Chans s1.1) sv_7)] (by kernel_rfl) ⟨ob_inb (fun _ => hN_6), hA_8, ob_el (fun _ => hE_9) 0 ((kd_Chan).cells (rd y1.Chans s1.1) sv_7) rfl, trivial⟩ (fun ns_10 a w_11 hI _ => ?_)
      refine wpIn_seq ?_
      refine wpIn_region_lit ?_
      refine chunkL_ (live := [16, 14, 12, 4, 9, 8, 7, 6, 0, 1]) (orc := []) hF 5 hI ⟨[⟨16, [], .v (.int .i64 ((rd y1.Chans s1.1).To))⟩, ⟨14, [], .v (.int .i64 ((rd y1.Chans s1.1).From))⟩, ⟨12, [], .v (.func (.yield l) #[] #[])⟩, ⟨4, [], .p 0 0⟩, ⟨9, [], .v (.bool (decide (s1.1 < (y1.Chans.length : Int))))⟩, ⟨8, [], .v (.int .i64 s1.1)⟩, ⟨7, [], .v (.int .i64 (y1.Chans.length : Int))⟩, ⟨6, [], .v (.slice ((sv1 1).1) y1.Chans.length ((sv1 1).2))⟩, ⟨0, [], .v (.func (.yield l) #[] #[])⟩, ⟨1, [], .v (.pointer (some B1))⟩], [], [], [((((kd_Chan).cells (rd y1.Chans s1.1) sv_7).map EV.v), 74)], none, none⟩ [] rfl (by kernel_rfl) trivial (fun ns_12 a w_13 hI => ?_)
      obtain ⟨hE', hmv, hmr⟩ := Ep.rebase (S0 := S) hE hI
      replace hB1 := El.keep hB1 hmv
      replace hE_9 := El.keep hE_9 hmv
      replace hE := hE'
      replace hI := hI.rebase
      clear hE' hmv hmr
      have hct := contI (S := Lo S w w_13 ns_12 []) (w := w_13) (d := kd_Chan) (x := (rd y1.Chans s1.1)) (sv := (svL [])) trivial
      obtain ⟨B_14, ns_16, hE', hI', hmv, hB_15⟩ := freeze_ (S0 := S) (d := kd_Chan) hE hI 0 (rd y1.Chans s1.1) (svL []) 74 rfl
      replace hB_15 := hB_15 hct
      clear hct
      have hmr : ∀ b : Nat, some b ∈ ([] : List (Option Nat)) → w_13.heap[b]? = w_13.heap[b]? := fun _ _ => rfl
      replace hB1 := El.keep hB1 hmv
      replace hE_9 := El.keep hE_9 hmv
      replace hE := hE'
      replace hI := hI'
      clear hE' hI' hmv hmr
      obtain ⟨ns_17, hE', hI', hmv⟩ := hE.cut (S0 := S) hI [16, 14, 12, 4, 9, 8, 7, 6, 0, 1] 0 ⟨[⟨16, [], .v (.int .i64 ((rd y1.Chans s1.1).To))⟩, ⟨14, [], .v (.int .i64 ((rd y1.Chans s1.1).From))⟩, ⟨12, [], .v (.func (.yield l) #[] #[])⟩, ⟨4, [], .v (.pointer (some B_14))⟩, ⟨9, [], .v (.bool (decide (s1.1 < (y1.Chans.length : Int))))⟩, ⟨8, [], .v (.int .i64 s1.1)⟩, ⟨7, [], .v (.int .i64 (y1.Chans.length : Int))⟩, ⟨6, [], .v (.slice ((sv1 1).1) y1.Chans.length ((sv1 1).2))⟩, ⟨0, [], .v (.func (.yield l) #[] #[])⟩, ⟨1, [], .v (.pointer (some B1))⟩], [], [], [], none, none⟩ (by kernel_rfl)
      have hmr : ∀ b : Nat, some b ∈ ([] : List (Option Nat)) → w_13.heap[b]? = w_13.heap[b]? := fun _ _ => rfl
      replace hB1 := El.keep hB1 hmv
      replace hE_9 := El.keep hE_9 hmv
      replace hB_15 := El.keep hB_15 hmv
      replace hE := hE'
      replace hI := hI'
      clear hE' hI' hmv hmr
      obtain ⟨hE', hmv⟩ := hE.bare (S0 := S)
      replace hB1 := El.keep hB1 hmv
      replace hE_9 := El.keep hE_9 hmv
      replace hB_15 := El.keep hB_15 hmv
      replace hE := hE'
      replace hI := hI.reset rfl rfl rfl w_13
      clear hE' hmv
      obtain ⟨z_18, hz_19, H1⟩ := bind_some H1
      refine yield_ (S0 := S) hq hF hE hI rfl rfl rfl (wanted_none rfl) rfl rfl rfl hJ ((rd y1.Chans s1.1).From, (rd y1.Chans s1.1).To) (svL []) rfl hz_19 trivial ⟨[⟨17, [], .v (.bool true)⟩, ⟨16, [], .v (.int .i64 ((rd y1.Chans s1.1).To))⟩, ⟨14, [], .v (.int .i64 ((rd y1.Chans s1.1).From))⟩, ⟨12, [], .v (.func (.yield l) #[] #[])⟩, ⟨4, [], .v (.pointer (some B_14))⟩, ⟨9, [], .v (.bool (decide (s1.1 < (y1.Chans.length : Int))))⟩, ⟨8, [], .v (.int .i64 s1.1)⟩, ⟨7, [], .v (.int .i64 (y1.Chans.length : Int))⟩, ⟨6, [], .v (.slice ((sv1 1).1) y1.Chans.length ((sv1 1).2))⟩, ⟨0, [], .v (.func (.yield l) #[] #[])⟩, ⟨1, [], .v (.pointer (some B1))⟩], [], [], [], none, none⟩ ⟨[⟨17, [], .v (.bool false)⟩, ⟨16, [], .v (.int .i64 ((rd y1.Chans s1.1).To))⟩, ⟨14, [], .v (.int .i64 ((rd y1.Chans s1.1).From))⟩, ⟨12, [], .v (.func (.yield l) #[] #[])⟩, ⟨4, [], .v (.pointer (some B_14))⟩, ⟨9, [], .v (.bool (decide (s1.1 < (y1.Chans.length : Int))))⟩, ⟨8, [], .v (.int .i64 s1.1)⟩, ⟨7, [], .v (.int .i64 (y1.Chans.length : Int))⟩, ⟨6, [], .v (.slice ((sv1 1).1) y1.Chans.length ((sv1 1).2))⟩, ⟨0, [], .v (.func (.yield l) #[] #[])⟩, ⟨1, [], .v (.pointer (some B1))⟩], [], [], [], none, none⟩ (by kernel_rfl) (by kernel_rfl) (fun S s_20 a w hzz hJ' hE' hI' hmv => ?_) (fun r_21 a w hzz hJ' hE' hI' => ?_)
      · subst hzz
        replace hB1 := El.lo (El.keep hB1 hmv)
        replace hE_9 := El.lo (El.keep hE_9 hmv)
        replace hB_15 := El.lo (El.keep hB_15 hmv)
        replace hE := hE'
        replace hI := hI'
        replace hJ := hJ'
        clear hE' hI' hJ' hmv
        replace H1 : ((bif (((rd y1.Chans s1.1).Kind) == 2) then ((bd s_20 ((rd y1.Chans s1.1).To, (rd y1.Chans s1.1).From)).bind fun z => z.on (fun s_37 => some (.next ((IntKind.i64.wrap (s1.1 + 1)), s_37))) (fun r_38 => some (.out (.ret (.out r_38))))) else some (.next ((IntKind.i64.wrap (s1.1 + 1)), s_20))) : Option (Stp (Int × σt) (Ex (Int × σt) (Stp σt R)))) = _ := H1
        refine chunkL_ (live := [19, 4, 9, 8, 7, 6, 0, 1]) (orc := []) hF 2 hI ⟨[⟨19, [], .v (.bool false)⟩, ⟨4, [], .v (.pointer (some B_14))⟩, ⟨9, [], .v (.bool (decide (s1.1 < (y1.Chans.length : Int))))⟩, ⟨8, [], .v (.int .i64 s1.1)⟩, ⟨7, [], .v (.int .i64 (y1.Chans.length : Int))⟩, ⟨6, [], .v (.slice ((sv1 1).1) y1.Chans.length ((sv1 1).2))⟩, ⟨0, [], .v (.func (.yield l) #[] #[])⟩, ⟨1, [], .v (.pointer (some B1))⟩], [], [], [], none, none⟩ [] rfl (by kernel_rfl) trivial (fun ns_22 a w_23 hI => ?_)
        refine unguardK_ hI (!false) (by kernel_rfl) rfl ?_
        refine chunkL_ (live := [20, 19, 4, 9, 8, 7, 6, 0, 1]) (orc := []) hF 1 hI ⟨[⟨20, [], .v (.pointer (some B_14))⟩, ⟨19, [], .v (.bool false)⟩, ⟨4, [], .v (.pointer (some B_14))⟩, ⟨9, [], .v (.bool (decide (s1.1 < (y1.Chans.length : Int))))⟩, ⟨8, [], .v (.int .i64 s1.1)⟩, ⟨7, [], .v (.int .i64 (y1.Chans.length : Int))⟩, ⟨6, [], .v (.slice ((sv1 1).1) y1.Chans.length ((sv1 1).2))⟩, ⟨0, [], .v (.func (.yield l) #[] #[])⟩, ⟨1, [], .v (.pointer (some B1))⟩], [], [], [], none, none⟩ [] rfl (by kernel_rfl) trivial (fun ns_24 a w_25 hI => ?_)
        refine unguardK_ hI (!false) (by kernel_rfl) rfl ?_
        refine chunkL_ (live := [21, 19, 4, 9, 8, 7, 6, 0, 1]) (orc := [[.int .i64 ((rd y1.Chans s1.1).Kind)]]) hF 1 hI ⟨[⟨21, [], .v (.int .i64 ((rd y1.Chans s1.1).Kind))⟩, ⟨19, [], .v (.bool false)⟩, ⟨4, [], .v (.pointer (some B_14))⟩, ⟨9, [], .v (.bool (decide (s1.1 < (y1.Chans.length : Int))))⟩, ⟨8, [], .v (.int .i64 s1.1)⟩, ⟨7, [], .v (.int .i64 (y1.Chans.length : Int))⟩, ⟨6, [], .v (.slice ((sv1 1).1) y1.Chans.length ((sv1 1).2))⟩, ⟨0, [], .v (.func (.yield l) #[] #[])⟩, ⟨1, [], .v (.pointer (some B1))⟩], [], [], [], none, none⟩ [.cell true B_14 [.int .i64 ((rd y1.Chans s1.1).Kind)]] rfl (by kernel_rfl) ⟨ob_el (fun _ => hB_15) 0 [.int .i64 ((rd y1.Chans s1.1).Kind)] rfl, trivial⟩ (fun ns_26 a w_27 hI => ?_)
        refine unguardK_ hI (!false) (by kernel_rfl) rfl ?_
        refine chunkL_ (live := [22, 19, 4, 9, 8, 7, 6, 0, 1]) (orc := []) hF 1 hI ⟨[⟨22, [], .v (.bool (((rd y1.Chans s1.1).Kind) == 2))⟩, ⟨19, [], .v (.bool false)⟩, ⟨4, [], .v (.pointer (some B_14))⟩, ⟨9, [], .v (.bool (decide (s1.1 < (y1.Chans.length : Int))))⟩, ⟨8, [], .v (.int .i64 s1.1)⟩, ⟨7, [], .v (.int .i64 (y1.Chans.length : Int))⟩, ⟨6, [], .v (.slice ((sv1 1).1) y1.Chans.length ((sv1 1).2))⟩, ⟨0, [], .v (.func (.yield l) #[] #[])⟩, ⟨1, [], .v (.pointer (some B1))⟩], [], [], [], none, none⟩ [] rfl (by kernel_rfl) trivial (fun ns_28 a w_29 hI => ?_)
        refine unguardK_ hI (!false) (by kernel_rfl) rfl ?_
        refine chunkT_ (liveT := [28, 26, 24, 23, 19, 4, 9, 8, 7, 6, 0, 1]) (liveF := [23, 19, 4, 9, 8, 7, 6, 0, 1]) (orc := [[.int .i64 ((rd y1.Chans s1.1).To)], [.int .i64 ((rd y1.Chans s1.1).From)]]) hF 6 hI ((((rd y1.Chans s1.1).Kind) == 2)) ⟨[⟨28, [], .v (.int .i64 ((rd y1.Chans s1.1).From))⟩, ⟨26, [], .v (.int .i64 ((rd y1.Chans s1.1).To))⟩, ⟨24, [], .v (.func (.yield l) #[] #[])⟩, ⟨23, [], .v (.bool (((rd y1.Chans s1.1).Kind) == 2))⟩, ⟨19, [], .v (.bool false)⟩, ⟨4, [], .v (.pointer (some B_14))⟩, ⟨9, [], .v (.bool (decide (s1.1 < (y1.Chans.length : Int))))⟩, ⟨8, [], .v (.int .i64 s1.1)⟩, ⟨7, [], .v (.int .i64 (y1.Chans.length : Int))⟩, ⟨6, [], .v (.slice ((sv1 1).1) y1.Chans.length ((sv1 1).2))⟩, ⟨0, [], .v (.func (.yield l) #[] #[])⟩, ⟨1, [], .v (.pointer (some B1))⟩], [], [], [], none, none⟩ ⟨[⟨23, [], .v (.bool (((rd y1.Chans s1.1).Kind) == 2))⟩, ⟨19, [], .v (.bool false)⟩, ⟨4, [], .v (.pointer (some B_14))⟩, ⟨9, [], .v (.bool (decide (s1.1 < (y1.Chans.length : Int))))⟩, ⟨8, [], .v (.int .i64 s1.1)⟩, ⟨7, [], .v (.int .i64 (y1.Chans.length : Int))⟩, ⟨6, [], .v (.slice ((sv1 1).1) y1.Chans.length ((sv1 1).2))⟩, ⟨0, [], .v (.func (.yield l) #[] #[])⟩, ⟨1, [], .v (.pointer (some B1))⟩], [], [], [], none, none⟩ [.cell (((rd y1.Chans s1.1).Kind) == 2) (B_14.add 2) [.int .i64 ((rd y1.Chans s1.1).To)], .cell (((rd y1.Chans s1.1).Kind) == 2) (B_14.add 1) [.int .i64 ((rd y1.Chans s1.1).From)]] rfl (by kernel_rfl) ⟨ob_el (fun _ => hB_15) 2 [.int .i64 ((rd y1.Chans s1.1).To)] rfl, ob_el (fun _ => hB_15) 1 [.int .i64 ((rd y1.Chans s1.1).From)] rfl, trivial⟩ (fun hb_30 ns_31 a w_32 hI hW => ?_) (fun hb_30 ns_33 a w_34 hI hW => ?_)
        · replace H1 := bif_t hb_30 H1
          obtain ⟨hE', hmv, hmr⟩ := Ep.rebase (S0 := S) hE hI
          replace hB1 := El.keep hB1 hmv
          replace hE_9 := El.keep hE_9 hmv
          replace hB_15 := El.keep hB_15 hmv
          replace hE := hE'
          replace hI := hI.rebase
          clear hE' hmv hmr
          obtain ⟨hE', hmv⟩ := hE.bare (S0 := S)
          replace hB1 := El.keep hB1 hmv
          replace hE_9 := El.keep hE_9 hmv
          replace hB_15 := El.keep hB_15 hmv
          replace hE := hE'
          replace hI := hI.reset rfl rfl rfl w_32
          clear hE' hmv
          obtain ⟨z_35, hz_36, H1⟩ := bind_some H1
          refine yield_ (S0 := S) hq hF hE hI rfl rfl rfl hW rfl rfl rfl hJ ((rd y1.Chans s1.1).To, (rd y1.Chans s1.1).From) (svL []) rfl hz_36 trivial ⟨[⟨29, [], .v (.bool true)⟩, ⟨28, [], .v (.int .i64 ((rd y1.Chans s1.1).From))⟩, ⟨26, [], .v (.int .i64 ((rd y1.Chans s1.1).To))⟩, ⟨24, [], .v (.func (.yield l) #[] #[])⟩, ⟨23, [], .v (.bool (((rd y1.Chans s1.1).Kind) == 2))⟩, ⟨19, [], .v (.bool false)⟩, ⟨4, [], .v (.pointer (some B_14))⟩, ⟨9, [], .v (.bool (decide (s1.1 < (y1.Chans.length : Int))))⟩, ⟨8, [], .v (.int .i64 s1.1)⟩, ⟨7, [], .v (.int .i64 (y1.Chans.length : Int))⟩, ⟨6, [], .v (.slice ((sv1 1).1) y1.Chans.length ((sv1 1).2))⟩, ⟨0, [], .v (.func (.yield l) #[] #[])⟩, ⟨1, [], .v (.pointer (some B1))⟩], [], [], [], none, none⟩ ⟨[⟨29, [], .v (.bool false)⟩, ⟨28, [], .v (.int .i64 ((rd y1.Chans s1.1).From))⟩, ⟨26, [], .v (.int .i64 ((rd y1.Chans s1.1).To))⟩, ⟨24, [], .v (.func (.yield l) #[] #[])⟩, ⟨23, [], .v (.bool (((rd y1.Chans s1.1).Kind) == 2))⟩, ⟨19, [], .v (.bool false)⟩, ⟨4, [], .v (.pointer (some B_14))⟩, ⟨9, [], .v (.bool (decide (s1.1 < (y1.Chans.length : Int))))⟩, ⟨8, [], .v (.int .i64 s1.1)⟩, ⟨7, [], .v (.int .i64 (y1.Chans.length : Int))⟩, ⟨6, [], .v (.slice ((sv1 1).1) y1.Chans.length ((sv1 1).2))⟩, ⟨0, [], .v (.func (.yield l) #[] #[])⟩, ⟨1, [], .v (.pointer (some B1))⟩], [], [], [], none, none⟩ (by kernel_rfl) (by kernel_rfl) (fun S s_37 a w hzz hJ' hE' hI' hmv => ?_) (fun r_38 a w hzz hJ' hE' hI' => ?_)
          · subst hzz
            replace hB1 := El.lo (El.keep hB1 hmv)
            replace hE_9 := El.lo (El.keep hE_9 hmv)
            replace hB_15 := El.lo (El.keep hB_15 hmv)
            replace hE := hE'
            replace hI := hI'
            replace hJ := hJ'
            clear hE' hI' hJ' hmv
            replace H1 : (some (.next ((IntKind.i64.wrap (s1.1 + 1)), s_37)) : Option (Stp (Int × σt) (Ex (Int × σt) (Stp σt R)))) = _ := H1
            refine chunkL_ (live := [29, 23, 19, 4, 9, 8, 7, 6, 0, 1]) (orc := []) hF 0 hI ⟨[⟨29, [], .v (.bool true)⟩, ⟨23, [], .v (.bool (((rd y1.Chans s1.1).Kind) == 2))⟩, ⟨19, [], .v (.bool false)⟩, ⟨4, [], .v (.pointer (some B_14))⟩, ⟨9, [], .v (.bool (decide (s1.1 < (y1.Chans.length : Int))))⟩, ⟨8, [], .v (.int .i64 s1.1)⟩, ⟨7, [], .v (.int .i64 (y1.Chans.length : Int))⟩, ⟨6, [], .v (.slice ((sv1 1).1) y1.Chans.length ((sv1 1).2))⟩, ⟨0, [], .v (.func (.yield l) #[] #[])⟩, ⟨1, [], .v (.pointer (some B1))⟩], [], [], [], none, none⟩ [] rfl (by kernel_rfl) trivial (fun ns_39 a w_40 hI => ?_)
            refine unguardK_ hI (((rd y1.Chans s1.1).Kind) == 2) (by kernel_rfl) (by simp [hb_30]) ?_
            refine chunkL_ (live := [30, 23, 19, 4, 9, 8, 7, 6, 0, 1]) (orc := []) hF 1 hI ⟨[⟨30, [], .v (.bool false)⟩, ⟨23, [], .v (.bool (((rd y1.Chans s1.1).Kind) == 2))⟩, ⟨19, [], .v (.bool false)⟩, ⟨4, [], .v (.pointer (some B_14))⟩, ⟨9, [], .v (.bool (decide (s1.1 < (y1.Chans.length : Int))))⟩, ⟨8, [], .v (.int .i64 s1.1)⟩, ⟨7, [], .v (.int .i64 (y1.Chans.length : Int))⟩, ⟨6, [], .v (.slice ((sv1 1).1) y1.Chans.length ((sv1 1).2))⟩, ⟨0, [], .v (.func (.yield l) #[] #[])⟩, ⟨1, [], .v (.pointer (some B1))⟩], [], [], [], none, none⟩ [] rfl (by kernel_rfl) trivial (fun ns_41 a w_42 hI => ?_)
            refine unguardK_ hI (!false) (by kernel_rfl) rfl ?_
            refine pick1 hF hI rfl rfl ((((rd y1.Chans s1.1).Kind) == 2)) true rfl (by simp [hb_30]) rfl ⟨[⟨31, [], .v (.bool false)⟩, ⟨30, [], .v (.bool false)⟩, ⟨23, [], .v (.bool (((rd y1.Chans s1.1).Kind) == 2))⟩, ⟨19, [], .v (.bool false)⟩, ⟨4, [], .v (.pointer (some B_14))⟩, ⟨9, [], .v (.bool (decide (s1.1 < (y1.Chans.length : Int))))⟩, ⟨8, [], .v (.int .i64 s1.1)⟩, ⟨7, [], .v (.int .i64 (y1.Chans.length : Int))⟩, ⟨6, [], .v (.slice ((sv1 1).1) y1.Chans.length ((sv1 1).2))⟩, ⟨0, [], .v (.func (.yield l) #[] #[])⟩, ⟨1, [], .v (.pointer (some B1))⟩], [], [], [], none, none⟩ (by kernel_rfl) (fun a hI => ?_)
            refine chunkL_ (live := [31, 19, 4, 9, 8, 7, 6, 0, 1]) (orc := []) hF 0 hI ⟨[⟨31, [], .v (.bool false)⟩, ⟨19, [], .v (.bool false)⟩, ⟨4, [], .v (.pointer (some B_14))⟩, ⟨9, [], .v (.bool (decide (s1.1 < (y1.Chans.length : Int))))⟩, ⟨8, [], .v (.int .i64 s1.1)⟩, ⟨7, [], .v (.int .i64 (y1.Chans.length : Int))⟩, ⟨6, [], .v (.slice ((sv1 1).1) y1.Chans.length ((sv1 1).2))⟩, ⟨0, [], .v (.func (.yield l) #[] #[])⟩, ⟨1, [], .v (.pointer (some B1))⟩], [], [], [], none, none⟩ [] rfl (by kernel_rfl) trivial (fun ns_43 a w_44 hI => ?_)
            refine pick1 hF hI rfl rfl (false) false rfl rfl rfl ⟨[⟨32, [], .v (.bool false)⟩, ⟨31, [], .v (.bool false)⟩, ⟨19, [], .v (.bool false)⟩, ⟨4, [], .v (.pointer (some B_14))⟩, ⟨9, [], .v (.bool (decide (s1.1 < (y1.Chans.length : Int))))⟩, ⟨8, [], .v (.int .i64 s1.1)⟩, ⟨7, [], .v (.int .i64 (y1.Chans.length : Int))⟩, ⟨6, [], .v (.slice ((sv1 1).1) y1.Chans.length ((sv1 1).2))⟩, ⟨0, [], .v (.func (.yield l) #[] #[])⟩, ⟨1, [], .v (.pointer (some B1))⟩], [], [], [], none, none⟩ (by kernel_rfl) (fun a hI => ?_)
            refine chunkL_ (live := [32, 4, 9, 8, 7, 6, 0, 1]) (orc := []) hF 0 hI ⟨[⟨32, [], .v (.bool false)⟩, ⟨4, [], .v (.pointer (some B_14))⟩, ⟨9, [], .v (.bool (decide (s1.1 < (y1.Chans.length : Int))))⟩, ⟨8, [], .v (.int .i64 s1.1)⟩, ⟨7, [], .v (.int .i64 (y1.Chans.length : Int))⟩, ⟨6, [], .v (.slice ((sv1 1).1) y1.Chans.length ((sv1 1).2))⟩, ⟨0, [], .v (.func (.yield l) #[] #[])⟩, ⟨1, [], .v (.pointer (some B1))⟩], [], [], [], none, none⟩ [] rfl (by kernel_rfl) trivial (fun ns_45 a w_46 hI => ?_)
            refine wpListIn_nil ?_
            refine then_normal ?_
            refine cond_ hI false rfl (fun h => by cases h) (fun _ => ?_)
            refine wpIn_skip ?_
            refine inBlock_normal ?_
            refine then_normal ?_
            refine region_ (live := [8, 32, 4, 9, 7, 6, 0, 1]) (orc := []) hF hI ⟨[⟨8, [], .v (.int .i64 (IntKind.i64.wrap (s1.1 + 1)))⟩, ⟨32, [], .v (.bool false)⟩, ⟨4, [], .v (.pointer (some B_14))⟩, ⟨9, [], .v (.bool (decide (s1.1 < (y1.Chans.length : Int))))⟩, ⟨7, [], .v (.int .i64 (y1.Chans.length : Int))⟩, ⟨6, [], .v (.slice ((sv1 1).1) y1.Chans.length ((sv1 1).2))⟩, ⟨0, [], .v (.func (.yield l) #[] #[])⟩, ⟨1, [], .v (.pointer (some B1))⟩], [], [], [], none, none⟩ [] (by kernel_rfl) trivial (fun ns_47 a w_48 hI _ => ?_)
            refine then_normal ?_
            obtain ⟨hE', hmv, hmr⟩ := Ep.rebase (S0 := S) hE hI
            replace hB1 := El.keep hB1 hmv
            replace hE_9 := El.keep hE_9 hmv
            replace hB_15 := El.keep hB_15 hmv
            replace hE := hE'
            replace hI := hI.rebase
            clear hE' hmv hmr
            have hJ' := hq.new _ _ (Tc (Lo S w w_48 ns_47 []) w_48) _ _ hJ (hE.below hI) Tc.new
            obtain rfl := Option.some.inj H1
            exact ⟨_, rfl, ⟨_, El.keep hB1 (Tc.mv _ _), hJ', (hI.pick [8, 7, 6, 0, 1] 0 ⟨[⟨8, [], .v (.int .i64 (IntKind.i64.wrap (s1.1 + 1)))⟩, ⟨7, [], .v (.int .i64 (y1.Chans.length : Int))⟩, ⟨6, [], .v (.slice ((sv1 1).1) y1.Chans.length ((sv1 1).2))⟩, ⟨0, [], .v (.func (.yield l) #[] #[])⟩, ⟨1, [], .v (.pointer (some B1))⟩], [], [], [], none, none⟩ (by kernel_rfl)).reset rfl rfl rfl _⟩⟩
          · subst hzz
            replace hE := hE'
            replace hI := hI'
            replace hJ := hJ'
            clear hE' hI' hJ'
            replace H1 : (some (.out (.ret (.out r_38))) : Option (Stp (Int × σt) (Ex (Int × σt) (Stp σt R)))) = _ := H1
            refine chunkL_ (live := [29, 23, 19, 4, 9, 8, 7, 6, 0, 1]) (orc := []) hF 0 hI ⟨[⟨29, [], .v (.bool false)⟩, ⟨23, [], .v (.bool (((rd y1.Chans s1.1).Kind) == 2))⟩, ⟨19, [], .v (.bool false)⟩, ⟨4, [], .v (.pointer (some B_14))⟩, ⟨9, [], .v (.bool (decide (s1.1 < (y1.Chans.length : Int))))⟩, ⟨8, [], .v (.int .i64 s1.1)⟩, ⟨7, [], .v (.int .i64 (y1.Chans.length : Int))⟩, ⟨6, [], .v (.slice ((sv1 1).1) y1.Chans.length ((sv1 1).2))⟩, ⟨0, [], .v (.func (.yield l) #[] #[])⟩, ⟨1, [], .v (.pointer (some B1))⟩], [], [], [], none, none⟩ [] rfl (by kernel_rfl) trivial (fun ns_49 a w_50 hI => ?_)
            refine unguardK_ hI (((rd y1.Chans s1.1).Kind) == 2) (by kernel_rfl) (by simp [hb_30]) ?_
            refine chunkL_ (live := [30, 23, 19, 4, 9, 8, 7, 6, 0, 1]) (orc := []) hF 1 hI ⟨[⟨30, [], .v (.bool true)⟩, ⟨23, [], .v (.bool (((rd y1.Chans s1.1).Kind) == 2))⟩, ⟨19, [], .v (.bool false)⟩, ⟨4, [], .v (.pointer (some B_14))⟩, ⟨9, [], .v (.bool (decide (s1.1 < (y1.Chans.length : Int))))⟩, ⟨8, [], .v (.int .i64 s1.1)⟩, ⟨7, [], .v (.int .i64 (y1.Chans.length : Int))⟩, ⟨6, [], .v (.slice ((sv1 1).1) y1.Chans.length ((sv1 1).2))⟩, ⟨0, [], .v (.func (.yield l) #[] #[])⟩, ⟨1, [], .v (.pointer (some B1))⟩], [], [], [], none, none⟩ [] rfl (by kernel_rfl) trivial (fun ns_51 a w_52 hI => ?_)
            refine unguardK_ hI (!false) (by kernel_rfl) rfl ?_
            refine pick1 hF hI rfl rfl ((((rd y1.Chans s1.1).Kind) == 2)) true rfl (by simp [hb_30]) rfl ⟨[⟨31, [], .v (.bool true)⟩, ⟨30, [], .v (.bool true)⟩, ⟨23, [], .v (.bool (((rd y1.Chans s1.1).Kind) == 2))⟩, ⟨19, [], .v (.bool false)⟩, ⟨4, [], .v (.pointer (some B_14))⟩, ⟨9, [], .v (.bool (decide (s1.1 < (y1.Chans.length : Int))))⟩, ⟨8, [], .v (.int .i64 s1.1)⟩, ⟨7, [], .v (.int .i64 (y1.Chans.length : Int))⟩, ⟨6, [], .v (.slice ((sv1 1).1) y1.Chans.length ((sv1 1).2))⟩, ⟨0, [], .v (.func (.yield l) #[] #[])⟩, ⟨1, [], .v (.pointer (some B1))⟩], [], [], [], none, none⟩ (by kernel_rfl) (fun a hI => ?_)
            refine chunkL_ (live := [31, 19, 4, 9, 8, 7, 6, 0, 1]) (orc := []) hF 0 hI ⟨[⟨31, [], .v (.bool true)⟩, ⟨19, [], .v (.bool false)⟩, ⟨4, [], .v (.pointer (some B_14))⟩, ⟨9, [], .v (.bool (decide (s1.1 < (y1.Chans.length : Int))))⟩, ⟨8, [], .v (.int .i64 s1.1)⟩, ⟨7, [], .v (.int .i64 (y1.Chans.length : Int))⟩, ⟨6, [], .v (.slice ((sv1 1).1) y1.Chans.length ((sv1 1).2))⟩, ⟨0, [], .v (.func (.yield l) #[] #[])⟩, ⟨1, [], .v (.pointer (some B1))⟩], [], [], [], none, none⟩ [] rfl (by kernel_rfl) trivial (fun ns_53 a w_54 hI => ?_)
            refine pick1 hF hI rfl rfl (false) false rfl rfl rfl ⟨[⟨32, [], .v (.bool true)⟩, ⟨31, [], .v (.bool true)⟩, ⟨19, [], .v (.bool false)⟩, ⟨4, [], .v (.pointer (some B_14))⟩, ⟨9, [], .v (.bool (decide (s1.1 < (y1.Chans.length : Int))))⟩, ⟨8, [], .v (.int .i64 s1.1)⟩, ⟨7, [], .v (.int .i64 (y1.Chans.length : Int))⟩, ⟨6, [], .v (.slice ((sv1 1).1) y1.Chans.length ((sv1 1).2))⟩, ⟨0, [], .v (.func (.yield l) #[] #[])⟩, ⟨1, [], .v (.pointer (some B1))⟩], [], [], [], none, none⟩ (by kernel_rfl) (fun a hI => ?_)
            refine chunkL_ (live := [32, 4, 9, 8, 7, 6, 0, 1]) (orc := []) hF 0 hI ⟨[⟨32, [], .v (.bool true)⟩, ⟨4, [], .v (.pointer (some B_14))⟩, ⟨9, [], .v (.bool (decide (s1.1 < (y1.Chans.length : Int))))⟩, ⟨8, [], .v (.int .i64 s1.1)⟩, ⟨7, [], .v (.int .i64 (y1.Chans.length : Int))⟩, ⟨6, [], .v (.slice ((sv1 1).1) y1.Chans.length ((sv1 1).2))⟩, ⟨0, [], .v (.func (.yield l) #[] #[])⟩, ⟨1, [], .v (.pointer (some B1))⟩], [], [], [], none, none⟩ [] rfl (by kernel_rfl) trivial (fun ns_55 a w_56 hI => ?_)
            refine wpListIn_nil ?_
            refine then_normal ?_
            refine cond_ hI true rfl (fun _ => ?_) (fun h => by cases h)
            refine wpIn_ret ?_
            refine inBlock_ret ?_
            refine then_ret ?_
            refine then_ret ?_
            obtain rfl := Option.some.inj H1
            refine .inr ⟨_, rfl, fun ho => ?_⟩
            subst ho
            refine inBlock_ret ?_
            obtain rfl := Option.some.inj H0
            exact retG hI rfl rfl ⟨⟨_, rfl⟩, SeqPost.fin (hq.stop _ _ _ hJ (hE.below hI))⟩
        · replace H1 := bif_f hb_30 H1
          refine skip1 hF hI hW ⟨[⟨23, [], .v (.bool (((rd y1.Chans s1.1).Kind) == 2))⟩, ⟨19, [], .v (.bool false)⟩, ⟨4, [], .v (.pointer (some B_14))⟩, ⟨9, [], .v (.bool (decide (s1.1 < (y1.Chans.length : Int))))⟩, ⟨8, [], .v (.int .i64 s1.1)⟩, ⟨7, [], .v (.int .i64 (y1.Chans.length : Int))⟩, ⟨6, [], .v (.slice ((sv1 1).1) y1.Chans.length ((sv1 1).2))⟩, ⟨0, [], .v (.func (.yield l) #[] #[])⟩, ⟨1, [], .v (.pointer (some B1))⟩], [], [], [], none, none⟩ (by kernel_rfl) (fun a hI => ?_)
          refine wantK_then hI (((rd y1.Chans s1.1).Kind) == 2) (by kernel_rfl) (by simp [hb_30]) (fun hW => ?_)
          refine skip1 hF hI hW ⟨[⟨23, [], .v (.bool (((rd y1.Chans s1.1).Kind) == 2))⟩, ⟨19, [], .v (.bool false)⟩, ⟨4, [], .v (.pointer (some B_14))⟩, ⟨9, [], .v (.bool (decide (s1.1 < (y1.Chans.length : Int))))⟩, ⟨8, [], .v (.int .i64 s1.1)⟩, ⟨7, [], .v (.int .i64 (y1.Chans.length : Int))⟩, ⟨6, [], .v (.slice ((sv1 1).1) y1.Chans.length ((sv1 1).2))⟩, ⟨0, [], .v (.func (.yield l) #[] #[])⟩, ⟨1, [], .v (.pointer (some B1))⟩], [], [], [], none, none⟩ (by kernel_rfl) (fun a hI => ?_)
          refine unguardK_ hI (!false) (by kernel_rfl) rfl ?_
          refine pick1 hF hI rfl rfl ((((rd y1.Chans s1.1).Kind) == 2)) false rfl (by simp [hb_30]) rfl ⟨[⟨31, [], .v (.bool false)⟩, ⟨23, [], .v (.bool (((rd y1.Chans s1.1).Kind) == 2))⟩, ⟨19, [], .v (.bool false)⟩, ⟨4, [], .v (.pointer (some B_14))⟩, ⟨9, [], .v (.bool (decide (s1.1 < (y1.Chans.length : Int))))⟩, ⟨8, [], .v (.int .i64 s1.1)⟩, ⟨7, [], .v (.int .i64 (y1.Chans.length : Int))⟩, ⟨6, [], .v (.slice ((sv1 1).1) y1.Chans.length ((sv1 1).2))⟩, ⟨0, [], .v (.func (.yield l) #[] #[])⟩, ⟨1, [], .v (.pointer (some B1))⟩], [], [], [], none, none⟩ (by kernel_rfl) (fun a hI => ?_)
          refine chunkL_ (live := [31, 19, 4, 9, 8, 7, 6, 0, 1]) (orc := []) hF 0 hI ⟨[⟨31, [], .v (.bool false)⟩, ⟨19, [], .v (.bool false)⟩, ⟨4, [], .v (.pointer (some B_14))⟩, ⟨9, [], .v (.bool (decide (s1.1 < (y1.Chans.length : Int))))⟩, ⟨8, [], .v (.int .i64 s1.1)⟩, ⟨7, [], .v (.int .i64 (y1.Chans.length : Int))⟩, ⟨6, [], .v (.slice ((sv1 1).1) y1.Chans.length ((sv1 1).2))⟩, ⟨0, [], .v (.func (.yield l) #[] #[])⟩, ⟨1, [], .v (.pointer (some B1))⟩], [], [], [], none, none⟩ [] rfl (by kernel_rfl) trivial (fun ns_57 a w_58 hI => ?_)
          refine pick1 hF hI rfl rfl (false) false rfl rfl rfl ⟨[⟨32, [], .v (.bool false)⟩, ⟨31, [], .v (.bool false)⟩, ⟨19, [], .v (.bool false)⟩, ⟨4, [], .v (.pointer (some B_14))⟩, ⟨9, [], .v (.bool (decide (s1.1 < (y1.Chans.length : Int))))⟩, ⟨8, [], .v (.int .i64 s1.1)⟩, ⟨7, [], .v (.int .i64 (y1.Chans.length : Int))⟩, ⟨6, [], .v (.slice ((sv1 1).1) y1.Chans.length ((sv1 1).2))⟩, ⟨0, [], .v (.func (.yield l) #[] #[])⟩, ⟨1, [], .v (.pointer (some B1))⟩], [], [], [], none, none⟩ (by kernel_rfl) (fun a hI => ?_)
          refine chunkL_ (live := [32, 4, 9, 8, 7, 6, 0, 1]) (orc := []) hF 0 hI ⟨[⟨32, [], .v (.bool false)⟩, ⟨4, [], .v (.pointer (some B_14))⟩, ⟨9, [], .v (.bool (decide (s1.1 < (y1.Chans.length : Int))))⟩, ⟨8, [], .v (.int .i64 s1.1)⟩, ⟨7, [], .v (.int .i64 (y1.Chans.length : Int))⟩, ⟨6, [], .v (.slice ((sv1 1).1) y1.Chans.length ((sv1 1).2))⟩, ⟨0, [], .v (.func (.yield l) #[] #[])⟩, ⟨1, [], .v (.pointer (some B1))⟩], [], [], [], none, none⟩ [] rfl (by kernel_rfl) trivial (fun ns_59 a w_60 hI => ?_)
          refine wpListIn_nil ?_
          refine then_normal ?_
          refine cond_ hI false rfl (fun h => by cases h) (fun _ => ?_)
          refine wpIn_skip ?_
          refine inBlock_normal ?_
          refine then_normal ?_
          refine region_ (live := [8, 32, 4, 9, 7, 6, 0, 1]) (orc := []) hF hI ⟨[⟨8, [], .v (.int .i64 (IntKind.i64.wrap (s1.1 + 1)))⟩, ⟨32, [], .v (.bool false)⟩, ⟨4, [], .v (.pointer (some B_14))⟩, ⟨9, [], .v (.bool (decide (s1.1 < (y1.Chans.length : Int))))⟩, ⟨7, [], .v (.int .i64 (y1.Chans.length : Int))⟩, ⟨6, [], .v (.slice ((sv1 1).1) y1.Chans.length ((sv1 1).2))⟩, ⟨0, [], .v (.func (.yield l) #[] #[])⟩, ⟨1, [], .v (.pointer (some B1))⟩], [], [], [], none, none⟩ [] (by kernel_rfl) trivial (fun ns_61 a w_62 hI _ => ?_)
          refine then_normal ?_
          obtain ⟨hE', hmv, hmr⟩ := Ep.rebase (S0 := S) hE hI
          replace hB1 := El.keep hB1 hmv
          replace hE_9 := El.keep hE_9 hmv
          replace hB_15 := El.keep hB_15 hmv
          replace hE := hE'
          replace hI := hI.rebase
          clear hE' hmv hmr
          have hJ' := hq.new _ _ (Tc (Lo S w w_62 ns_61 []) w_62) _ _ hJ (hE.below hI) Tc.new
          obtain rfl := Option.some.inj H1
          exact ⟨_, rfl, ⟨_, El.keep hB1 (Tc.mv _ _), hJ', (hI.pick [8, 7, 6, 0, 1] 0 ⟨[⟨8, [], .v (.int .i64 (IntKind.i64.wrap (s1.1 + 1)))⟩, ⟨7, [], .v (.int .i64 (y1.Chans.length : Int))⟩, ⟨6, [], .v (.slice ((sv1 1).1) y1.Chans.length ((sv1 1).2))⟩, ⟨0, [], .v (.func (.yield l) #[] #[])⟩, ⟨1, [], .v (.pointer (some B1))⟩], [], [], [], none, none⟩ (by kernel_rfl)).reset rfl rfl rfl _⟩⟩
      · subst hzz
        replace hE := hE'
        replace hI := hI'
        replace hJ := hJ'
        clear hE' hI' hJ'
        replace H1 : (some (.out (.ret (.out r_21))) : Option (Stp (Int × σt) (Ex (Int × σt) (Stp σt R)))) = _ := H1
        refine chunkL_ (live := [19, 4, 9, 8, 7, 6, 0, 1]) (orc := []) hF 2 hI ⟨[⟨19, [], .v (.bool true)⟩, ⟨4, [], .v (.pointer (some B_14))⟩, ⟨9, [], .v (.bool (decide (s1.1 < (y1.Chans.length : Int))))⟩, ⟨8, [], .v (.int .i64 s1.1)⟩, ⟨7, [], .v (.int .i64 (y1.Chans.length : Int))⟩, ⟨6, [], .v (.slice ((sv1 1).1) y1.Chans.length ((sv1 1).2))⟩, ⟨0, [], .v (.func (.yield l) #[] #[])⟩, ⟨1, [], .v (.pointer (some B1))⟩], [], [], [], none, none⟩ [] rfl (by kernel_rfl) trivial (fun ns_63 a w_64 hI => ?_)
        refine wantK_then hI (!true) (by kernel_rfl) rfl (fun hW => ?_)
        refine skip1 hF hI hW ⟨[⟨19, [], .v (.bool true)⟩, ⟨4, [], .v (.pointer (some B_14))⟩, ⟨9, [], .v (.bool (decide (s1.1 < (y1.Chans.length : Int))))⟩, ⟨8, [], .v (.int .i64 s1.1)⟩, ⟨7, [], .v (.int .i64 (y1.Chans.length : Int))⟩, ⟨6, [], .v (.slice ((sv1 1).1) y1.Chans.length ((sv1 1).2))⟩, ⟨0, [], .v (.func (.yield l) #[] #[])⟩, ⟨1, [], .v (.pointer (some B1))⟩], [], [], [], none, none⟩ (by kernel_rfl) (fun a hI => ?_)
        refine wantK_then hI (!true) (by kernel_rfl) rfl (fun hW => ?_)
        refine skip1 hF hI hW ⟨[⟨19, [], .v (.bool true)⟩, ⟨4, [], .v (.pointer (some B_14))⟩, ⟨9, [], .v (.bool (decide (s1.1 < (y1.Chans.length : Int))))⟩, ⟨8, [], .v (.int .i64 s1.1)⟩, ⟨7, [], .v (.int .i64 (y1.Chans.length : Int))⟩, ⟨6, [], .v (.slice ((sv1 1).1) y1.Chans.length ((sv1 1).2))⟩, ⟨0, [], .v (.func (.yield l) #[] #[])⟩, ⟨1, [], .v (.pointer (some B1))⟩], [], [], [], none, none⟩ (by kernel_rfl) (fun a hI => ?_)
        refine wantK_then hI (!true) (by kernel_rfl) rfl (fun hW => ?_)
        refine skip1 hF hI hW ⟨[⟨19, [], .v (.bool true)⟩, ⟨4, [], .v (.pointer (some B_14))⟩, ⟨9, [], .v (.bool (decide (s1.1 < (y1.Chans.length : Int))))⟩, ⟨8, [], .v (.int .i64 s1.1)⟩, ⟨7, [], .v (.int .i64 (y1.Chans.length : Int))⟩, ⟨6, [], .v (.slice ((sv1 1).1) y1.Chans.length ((sv1 1).2))⟩, ⟨0, [], .v (.func (.yield l) #[] #[])⟩, ⟨1, [], .v (.pointer (some B1))⟩], [], [], [], none, none⟩ (by kernel_rfl) (fun a hI => ?_)
        refine wantK_then hI (!true) (by kernel_rfl) rfl (fun hW => ?_)
        refine skipU_ hF hI hW ⟨[⟨23, [], .v (.tuple #[])⟩, ⟨19, [], .v (.bool true)⟩, ⟨4, [], .v (.pointer (some B_14))⟩, ⟨9, [], .v (.bool (decide (s1.1 < (y1.Chans.length : Int))))⟩, ⟨8, [], .v (.int .i64 s1.1)⟩, ⟨7, [], .v (.int .i64 (y1.Chans.length : Int))⟩, ⟨6, [], .v (.slice ((sv1 1).1) y1.Chans.length ((sv1 1).2))⟩, ⟨0, [], .v (.func (.yield l) #[] #[])⟩, ⟨1, [], .v (.pointer (some B1))⟩], [], [], [], none, none⟩ (by kernel_rfl) (fun a hI => ?_)
        refine wantU_then hI (by kernel_rfl) (fun hW => ?_)
        refine skip1 hF hI hW ⟨[⟨23, [], .v (.tuple #[])⟩, ⟨19, [], .v (.bool true)⟩, ⟨4, [], .v (.pointer (some B_14))⟩, ⟨9, [], .v (.bool (decide (s1.1 < (y1.Chans.length : Int))))⟩, ⟨8, [], .v (.int .i64 s1.1)⟩, ⟨7, [], .v (.int .i64 (y1.Chans.length : Int))⟩, ⟨6, [], .v (.slice ((sv1 1).1) y1.Chans.length ((sv1 1).2))⟩, ⟨0, [], .v (.func (.yield l) #[] #[])⟩, ⟨1, [], .v (.pointer (some B1))⟩], [], [], [], none, none⟩ (by kernel_rfl) (fun a hI => ?_)
        refine wantU_then hI (by kernel_rfl) (fun hW => ?_)
        refine skip1 hF hI hW ⟨[⟨23, [], .v (.tuple #[])⟩, ⟨19, [], .v (.bool true)⟩, ⟨4, [], .v (.pointer (some B_14))⟩, ⟨9, [], .v (.bool (decide (s1.1 < (y1.Chans.length : Int))))⟩, ⟨8, [], .v (.int .i64 s1.1)⟩, ⟨7, [], .v (.int .i64 (y1.Chans.length : Int))⟩, ⟨6, [], .v (.slice ((sv1 1).1) y1.Chans.length ((sv1 1).2))⟩, ⟨0, [], .v (.func (.yield l) #[] #[])⟩, ⟨1, [], .v (.pointer (some B1))⟩], [], [], [], none, none⟩ (by kernel_rfl) (fun a hI => ?_)
        refine wantU_then hI (by kernel_rfl) (fun hW => ?_)
        refine skip1 hF hI hW ⟨[⟨23, [], .v (.tuple #[])⟩, ⟨19, [], .v (.bool true)⟩, ⟨4, [], .v (.pointer (some B_14))⟩, ⟨9, [], .v (.bool (decide (s1.1 < (y1.Chans.length : Int))))⟩, ⟨8, [], .v (.int .i64 s1.1)⟩, ⟨7, [], .v (.int .i64 (y1.Chans.length : Int))⟩, ⟨6, [], .v (.slice ((sv1 1).1) y1.Chans.length ((sv1 1).2))⟩, ⟨0, [], .v (.func (.yield l) #[] #[])⟩, ⟨1, [], .v (.pointer (some B1))⟩], [], [], [], none, none⟩ (by kernel_rfl) (fun a hI => ?_)
        refine wantU_then hI (by kernel_rfl) (fun hW => ?_)
        refine skip1 hF hI hW ⟨[⟨23, [], .v (.tuple #[])⟩, ⟨19, [], .v (.bool true)⟩, ⟨4, [], .v (.pointer (some B_14))⟩, ⟨9, [], .v (.bool (decide (s1.1 < (y1.Chans.length : Int))))⟩, ⟨8, [], .v (.int .i64 s1.1)⟩, ⟨7, [], .v (.int .i64 (y1.Chans.length : Int))⟩, ⟨6, [], .v (.slice ((sv1 1).1) y1.Chans.length ((sv1 1).2))⟩, ⟨0, [], .v (.func (.yield l) #[] #[])⟩, ⟨1, [], .v (.pointer (some B1))⟩], [], [], [], none, none⟩ (by kernel_rfl) (fun a hI => ?_)
        refine wantU_then hI (by kernel_rfl) (fun hW => ?_)
        refine skip1 hF hI hW ⟨[⟨23, [], .v (.tuple #[])⟩, ⟨19, [], .v (.bool true)⟩, ⟨4, [], .v (.pointer (some B_14))⟩, ⟨9, [], .v (.bool (decide (s1.1 < (y1.Chans.length : Int))))⟩, ⟨8, [], .v (.int .i64 s1.1)⟩, ⟨7, [], .v (.int .i64 (y1.Chans.length : Int))⟩, ⟨6, [], .v (.slice ((sv1 1).1) y1.Chans.length ((sv1 1).2))⟩, ⟨0, [], .v (.func (.yield l) #[] #[])⟩, ⟨1, [], .v (.pointer (some B1))⟩], [], [], [], none, none⟩ (by kernel_rfl) (fun a hI => ?_)
        refine wantU_then hI (by kernel_rfl) (fun hW => ?_)
        refine skip1 hF hI hW ⟨[⟨23, [], .v (.tuple #[])⟩, ⟨19, [], .v (.bool true)⟩, ⟨4, [], .v (.pointer (some B_14))⟩, ⟨9, [], .v (.bool (decide (s1.1 < (y1.Chans.length : Int))))⟩, ⟨8, [], .v (.int .i64 s1.1)⟩, ⟨7, [], .v (.int .i64 (y1.Chans.length : Int))⟩, ⟨6, [], .v (.slice ((sv1 1).1) y1.Chans.length ((sv1 1).2))⟩, ⟨0, [], .v (.func (.yield l) #[] #[])⟩, ⟨1, [], .v (.pointer (some B1))⟩], [], [], [], none, none⟩ (by kernel_rfl) (fun a hI => ?_)
        refine wantU_then hI (by kernel_rfl) (fun hW => ?_)
        refine skip1 hF hI hW ⟨[⟨23, [], .v (.tuple #[])⟩, ⟨19, [], .v (.bool true)⟩, ⟨4, [], .v (.pointer (some B_14))⟩, ⟨9, [], .v (.bool (decide (s1.1 < (y1.Chans.length : Int))))⟩, ⟨8, [], .v (.int .i64 s1.1)⟩, ⟨7, [], .v (.int .i64 (y1.Chans.length : Int))⟩, ⟨6, [], .v (.slice ((sv1 1).1) y1.Chans.length ((sv1 1).2))⟩, ⟨0, [], .v (.func (.yield l) #[] #[])⟩, ⟨1, [], .v (.pointer (some B1))⟩], [], [], [], none, none⟩ (by kernel_rfl) (fun a hI => ?_)
        refine wantK_then hI (!true) (by kernel_rfl) rfl (fun hW => ?_)
        refine skip1 hF hI hW ⟨[⟨23, [], .v (.tuple #[])⟩, ⟨19, [], .v (.bool true)⟩, ⟨4, [], .v (.pointer (some B_14))⟩, ⟨9, [], .v (.bool (decide (s1.1 < (y1.Chans.length : Int))))⟩, ⟨8, [], .v (.int .i64 s1.1)⟩, ⟨7, [], .v (.int .i64 (y1.Chans.length : Int))⟩, ⟨6, [], .v (.slice ((sv1 1).1) y1.Chans.length ((sv1 1).2))⟩, ⟨0, [], .v (.func (.yield l) #[] #[])⟩, ⟨1, [], .v (.pointer (some B1))⟩], [], [], [], none, none⟩ (by kernel_rfl) (fun a hI => ?_)
        refine chunkL_ (live := [19, 4, 9, 8, 7, 6, 0, 1]) (orc := []) hF 0 hI ⟨[⟨19, [], .v (.bool true)⟩, ⟨4, [], .v (.pointer (some B_14))⟩, ⟨9, [], .v (.bool (decide (s1.1 < (y1.Chans.length : Int))))⟩, ⟨8, [], .v (.int .i64 s1.1)⟩, ⟨7, [], .v (.int .i64 (y1.Chans.length : Int))⟩, ⟨6, [], .v (.slice ((sv1 1).1) y1.Chans.length ((sv1 1).2))⟩, ⟨0, [], .v (.func (.yield l) #[] #[])⟩, ⟨1, [], .v (.pointer (some B1))⟩], [], [], [], none, none⟩ [] rfl (by kernel_rfl) trivial (fun ns_65 a w_66 hI => ?_)
        refine pick1 hF hI rfl rfl (true) true rfl rfl rfl ⟨[⟨32, [], .v (.bool true)⟩, ⟨19, [], .v (.bool true)⟩, ⟨4, [], .v (.pointer (some B_14))⟩, ⟨9, [], .v (.bool (decide (s1.1 < (y1.Chans.length : Int))))⟩, ⟨8, [], .v (.int .i64 s1.1)⟩, ⟨7, [], .v (.int .i64 (y1.Chans.length : Int))⟩, ⟨6, [], .v (.slice ((sv1 1).1) y1.Chans.length ((sv1 1).2))⟩, ⟨0, [], .v (.func (.yield l) #[] #[])⟩, ⟨1, [], .v (.pointer (some B1))⟩], [], [], [], none, none⟩ (by kernel_rfl) (fun a hI => ?_)
        refine chunkL_ (live := [32, 4, 9, 8, 7, 6, 0, 1]) (orc := []) hF 0 hI ⟨[⟨32, [], .v (.bool true)⟩, ⟨4, [], .v (.pointer (some B_14))⟩, ⟨9, [], .v (.bool (decide (s1.1 < (y1.Chans.length : Int))))⟩, ⟨8, [], .v (.int .i64 s1.1)⟩, ⟨7, [], .v (.int .i64 (y1.Chans.length : Int))⟩, ⟨6, [], .v (.slice ((sv1 1).1) y1.Chans.length ((sv1 1).2))⟩, ⟨0, [], .v (.func (.yield l) #[] #[])⟩, ⟨1, [], .v (.pointer (some B1))⟩], [], [], [], none, none⟩ [] rfl (by kernel_rfl) trivial (fun ns_67 a w_68 hI => ?_)
        refine wpListIn_nil ?_
        refine then_normal ?_
        refine cond_ hI true rfl (fun _ => ?_) (fun h => by cases h)
        refine wpIn_ret ?_
        refine inBlock_ret ?_
        refine then_ret ?_
        refine then_ret ?_
        obtain rfl := Option.some.inj H1
        refine .inr ⟨_, rfl, fun ho => ?_⟩
        subst ho
        refine inBlock_ret ?_
        obtain rfl := Option.some.inj H0
        exact retG hI rfl rfl ⟨⟨_, rfl⟩, SeqPost.fin (hq.stop _ _ _ hJ (hE.below hI))⟩
    · replace H1 := bif_f hc_5 H1
      refine wpIn_exit ?_
      refine then_exit ?_
      refine then_exit ?_
      obtain ⟨hE', hmv, hmr⟩ := Ep.rebase (S0 := S) hE hI
      replace hB1 := El.keep hB1 hmv
      replace hE := hE'
      replace hI := hI.rebase
      clear hE' hmv hmr
      have hJ' := hq.new _ _ (Tc (Lo S w w_4 ns_3 []) w_4) _ _ hJ (hE.below hI) Tc.new
      obtain rfl := Option.some.inj H1
      exact .inl ⟨_, rfl, rfl, ⟨_, El.keep hB1 (Tc.mv _ _), hJ', (hI.pick [8, 7, 6, 0, 1] 0 ⟨[⟨8, [], .v (.int .i64 s1.1)⟩, ⟨7, [], .v (.int .i64 (y1.Chans.length : Int))⟩, ⟨6, [], .v (.slice ((sv1 1).1) y1.Chans.length ((sv1 1).2))⟩, ⟨0, [], .v (.func (.yield l) #[] #[])⟩, ⟨1, [], .v (.pointer (some B1))⟩], [], [], [], none, none⟩ (by kernel_rfl)).reset rfl rfl rfl _⟩⟩
  · clear hI hE hJ hJ'
    rintro s1 a w ho ⟨S, hB1, hJ, hI⟩
    subst ho
    replace H0 : (some (.next s1.2) : Option (Stp σt R)) = _ := H0
    have hE := Ep.start w
    replace hB1 := El.lo hB1
    obtain rfl := Option.some.inj H0
    exact retN (retG hI rfl rfl ⟨⟨_, rfl⟩, SeqPost.nxt (fun _ => False) (hq.new _ _ _ _ _ hJ (hE.below hI) (fun _ h => h.elim))⟩)

/-! ### porthole/flow.Edges: function 16 -/
noncomputable def G_flow_Edges (x0 : Config) : Option (Config) := some x0
set_option maxRecDepth 100000 in
set_option maxHeartbeats 4000000 in
theorem G_flow_Edges.calls (x0 : Config) (sv0 : SV) (w : World) {S : Nat → Prop} (hx0 : (kd_Config).cont S w x0 sv0) (r : Config) (h : G_flow_Edges x0 = some r) :
    Calls Try.prog 16 #[.agg ((kd_Config).cells x0 sv0).toArray] w fun e w' => ∃ sv : SV, e = .returned (.func (.func 40) #[] #[.pointer (some (adr (sv 0).1))]) ∧ Below w.heap.size w w' ∧ El kd_Config (fun b => w.heap.size ≤ b ∨ S b) w' (adr (sv 0).1) r (svO sv 1) := by
  replace hx0 := Kd.lo _ hx0
  unfold G_flow_Edges at h
  have H0 := h
  clear h
  refine enter Try.func16 rfl [.agg ((kd_Config).cells x0 sv0).toArray] (n := 4) rfl (Nat.le_of_ble_eq_true rfl) (fun a hI => ?_)
  have hF : FOpen Fence.wide := .inl rfl
  have hE := Ep.start w
  refine seq_region (live := [2, 1, 0]) (orc := []) hF hI ⟨[⟨2, [], .v (.nilFunc)⟩, ⟨1, [], .p 0 0⟩, ⟨0, [], .v (.agg ((kd_Config).cells x0 sv0).toArray)⟩], [], [], [((((kd_Config).cells x0 sv0).map EV.v), 29)], none, none⟩ [] (by kernel_rfl) trivial (fun ns_1 a w_2 hI _ => ?_)
  refine wpIn_seq ?_
  refine wpIn_region_lit ?_
  obtain ⟨hE', hmv, hmr⟩ := Ep.rebase (S0 := S) hE hI
  replace hx0 := Kd.keep _ hx0 hmv
  replace hE := hE'
  replace hI := hI.rebase
  clear hE' hmv hmr
  have hct := contI (S := Lo S w w_2 ns_1 []) (w := w_2) (d := kd_Config) (x := x0) (sv := (svL [((sv0 0).1, (sv0 0).2), ((sv0 1).1, (sv0 1).2), ((sv0 2).1, (sv0 2).2), ((sv0 3).1, (sv0 3).2)])) ⟨⟨hx0.1.1, hx0.1.2⟩, ⟨hx0.2.1.1, hx0.2.1.2⟩, ⟨hx0.2.2.1.1, hx0.2.2.1.2⟩, ⟨hx0.2.2.2.1.1, hx0.2.2.2.1.2⟩, trivial⟩
  obtain ⟨B_3, ns_5, hE', hI', hmv, hB_4⟩ := freeze_ (S0 := S) (d := kd_Config) hE hI 0 x0 (svL [((sv0 0).1, (sv0 0).2), ((sv0 1).1, (sv0 1).2), ((sv0 2).1, (sv0 2).2), ((sv0 3).1, (sv0 3).2)]) 29 rfl
  replace hB_4 := hB_4 hct
  clear hct
  have hmr : ∀ b : Nat, some b ∈ ([] : List (Option Nat)) → w_2.heap[b]? = w_2.heap[b]? := fun _ _ => rfl
  replace hx0 := Kd.keep _ hx0 hmv
  replace hE := hE'
  replace hI := hI'
  clear hE' hI' hmv hmr
  obtain ⟨ns_6, hE', hI', hmv⟩ := hE.cut (S0 := S) hI [2, 1, 0] 0 ⟨[⟨2, [], .v (.nilFunc)⟩, ⟨1, [], .v (.pointer (some B_3))⟩, ⟨0, [], .v (.agg ((kd_Config).cells x0 sv0).toArray)⟩], [], [], [], none, none⟩ (by kernel_rfl)
  have hmr : ∀ b : Nat, some b ∈ ([] : List (Option Nat)) → w_2.heap[b]? = w_2.heap[b]? := fun _ _ => rfl
  replace hx0 := Kd.keep _ hx0 hmv
  replace hB_4 := El.keep hB_4 hmv
  replace hE := hE'
  replace hI := hI'
  clear hE' hI' hmv hmr
  refine chunkL_ (live := [3, 2, 1, 0]) (orc := []) hF 1 hI ⟨[⟨3, [], .v (.func (.func 40) #[] #[.pointer (some B_3)])⟩, ⟨2, [], .v (.nilFunc)⟩, ⟨1, [], .v (.pointer (some B_3))⟩, ⟨0, [], .v (.agg ((kd_Config).cells x0 sv0).toArray)⟩], [], [], [], none, none⟩ [] rfl (by kernel_rfl) trivial (fun ns_7 a w_8 hI => ?_)
  refine chunkL_ (live := [2, 1, 0]) (orc := []) hF 1 hI ⟨[⟨2, [], .v (.func (.func 40) #[] #[.pointer (some B_3)])⟩, ⟨1, [], .v (.pointer (some B_3))⟩, ⟨0, [], .v (.agg ((kd_Config).cells x0 sv0).toArray)⟩], [], [], [], none, none⟩ [] rfl (by kernel_rfl) trivial (fun ns_9 a w_10 hI => ?_)
  refine wpListIn_nil ?_
  refine then_normal ?_
  refine wpIn_ret ?_
  obtain rfl := Option.some.inj H0
  exact ret1 hI rfl rfl ⟨svL [(some B_3, 0), ((svL [((sv0 0).1, (sv0 0).2), ((sv0 1).1, (sv0 1).2), ((sv0 2).1, (sv0 2).2), ((sv0 3).1, (sv0 3).2)]) 0), ((svL [((sv0 0).1, (sv0 0).2), ((sv0 1).1, (sv0 1).2), ((sv0 2).1, (sv0 2).2), ((sv0 3).1, (sv0 3).2)]) 1), ((svL [((sv0 0).1, (sv0 0).2), ((sv0 1).1, (sv0 1).2), ((sv0 2).1, (sv0 2).2), ((sv0 3).1, (sv0 3).2)]) 2), ((svL [((sv0 0).1, (sv0 0).2), ((sv0 1).1, (sv0 1).2), ((sv0 2).1, (sv0 2).2), ((sv0 3).1, (sv0 3).2)]) 3)], rfl, hE.below hI, ⟨(El.keep hB_4 (hE.out hI)).cont, (El.keep hB_4 (hE.out hI)).at_, (El.keep hB_4 (hE.out hI)).cells⟩⟩

/-! ### porthole/flow.Into: function 17 -/
noncomputable def G_flow_Into.r2 (x0 : Config) (a1 : Int) (s1 : (List Bool)) (t_33 : Config) (s2 : (List Bool)) (y_53 : Int × Int) : Option (Stp ((List Bool)) (Nat × ((List Bool)))) := (req (inb y_53.2 s2.length) (req (imp (rd s2 y_53.2) (inb y_53.1 s2.length)) (bif ((rd s2 y_53.2) && (!(rd s2 y_53.1))) then (req (inb y_53.1 s2.length) (some (.out (0, (s2.set (y_53.1 : Int).toNat true))))) else some (.next s2))))
noncomputable def G_flow_Into.b1 (x0 : Config) (a1 : Int) (s1 : (List Bool)) : Option (Stp ((List Bool)) (Ex ((List Bool)) ((List Int)))) := ((G_flow_Edges x0).bind fun t_33 => ((G_flow_Edges_1 (G_flow_Into.r2 x0 a1 s1 t_33) s1 t_33).bind fun z => z.on (fun s2 => some (.out (.brk s2))) (fun r2 => some (.next r2.2))))
noncomputable def G_flow_Into.b3 (x0 : Config) (a1 : Int) (s1 : (List Bool)) (s3 : Int × (List Int)) : Option (Stp (Int × (List Int)) (Ex (Int × (List Int)) ((List Int)))) := (bif decide (s3.1 < (s1.length : Int)) then (req (inb s3.1 s1.length) (bif (rd s1 s3.1) then (req (decide ((s3.2.length + 1) * 8 ≤ 140737488355328)) (some (.next ((IntKind.i64.wrap (s3.1 + 1)), (s3.2 ++ [s3.1]))))) else some (.next ((IntKind.i64.wrap (s3.1 + 1)), s3.2)))) else some (.out (.brk (s3.1, s3.2))))
noncomputable def G_flow_Into (x0 : Config) (a1 : Int) : Option ((List Int)) := (bif (decide (a1 < 0) || decide (a1 ≥ (x0.Parts.length : Int))) then some [] else (req (decide (0 ≤ (x0.Parts.length : Int)) && decide (((x0.Parts.length : Int) : Int).toNat * (1 + 1) ≤ 16777216)) (req (inb a1 (List.replicate ((x0.Parts.length : Int) : Int).toNat (false : Bool)).length) ((loopω (G_flow_Into.b1 x0 a1) ((List.replicate ((x0.Parts.length : Int) : Int).toNat (false : Bool)).set (a1 : Int).toNat true)).bind fun o => o.on (fun s1 => ((loopω (G_flow_Into.b3 x0 a1 s1) (0, ([] : List Int))).bind fun o => o.on (fun s3 => some s3.2) (fun r => some r))) (fun r => some r)))))
set_option maxRecDepth 100000 in
set_option maxHeartbeats 4000000 in
theorem G_flow_Into.calls (x0 : Config) (a1 : Int) (sv0 : SV) (w : World) {S : Nat → Prop} (hx0 : (kd_Config).cont S w x0 sv0) (r : (List Int)) (h : G_flow_Into x0 a1 = some r) :
    Calls Try.prog 17 #[.agg ((kd_Config).cells x0 (svL [((sv0 0).1, (sv0 0).2), ((sv0 1).1, (sv0 1).2), ((sv0 2).1, (sv0 2).2), ((sv0 3).1, (sv0 3).2)])).toArray, .int .i64 a1] w fun e w' => ∃ sv : SV, e = .returned (.slice ((sv 0).1) r.length ((sv 0).2)) ∧ Below w.heap.size w w' ∧ (Arr (Kd.int .i64) (fun b => w.heap.size ≤ b ∨ S b) w' (sv 0).1 r ∧ r.length ≤ (sv 0).2) := by
  replace hx0 := Kd.lo _ hx0
  unfold G_flow_Into at h
  have H0 := h
  clear h
  refine enterM Try.func17 rfl [.agg ((kd_Config).cells x0 (svL [((sv0 0).1, (sv0 0).2), ((sv0 1).1, (sv0 1).2), ((sv0 2).1, (sv0 2).2), ((sv0 3).1, (sv0 3).2)])).toArray, .int .i64 a1] (n := 59) rfl (Nat.le_of_ble_eq_true rfl) (fun a hI => ?_)
  have hF : FOpen Fence.wide := .inl rfl
  have hE := Ep.start w
  refine seq_region (live := [4, 2, 0, 1]) (orc := []) hF hI ⟨[⟨4, [], .v (.slice none 0 0)⟩, ⟨2, [], .p 0 0⟩, ⟨0, [], .v (.agg ((kd_Config).cells x0 sv0).toArray)⟩, ⟨1, [], .v (.int .i64 a1)⟩], [], [], [((((kd_Config).cells x0 sv0).map EV.v), 29)], some (w.heap.size, none), none⟩ [] (by kernel_rfl) trivial (fun ns_1 a w_2 hI _ => ?_)
  refine wpIn_scope_straight ?_
  refine wpIn_seq ?_
  refine seq_region (live := [19, 4, 2, 0, 1]) (orc := []) hF hI ⟨[⟨19, [], .v (.bool (decide (a1 < 0) || decide (a1 ≥ (x0.Parts.length : Int))))⟩, ⟨4, [], .v (.slice none 0 0)⟩, ⟨2, [], .p 0 0⟩, ⟨0, [], .v (.agg ((kd_Config).cells x0 sv0).toArray)⟩, ⟨1, [], .v (.int .i64 a1)⟩], [], [], [((((kd_Config).cells x0 sv0).map EV.v), 29)], some (w.heap.size, none), none⟩ [] (by kernel_rfl) trivial (fun ns_3 a w_4 hI _ => ?_)
  refine cond_ hI ((decide (a1 < 0) || decide (a1 ≥ (x0.Parts.length : Int)))) rfl (fun hc_5 => ?_) (fun hc_5 => ?_)
  · replace H0 := bif_t hc_5 H0
    refine seq_region (live := [4, 19, 2, 0, 1]) (orc := []) hF hI ⟨[⟨4, [], .v (.slice none 0 0)⟩, ⟨19, [], .v (.bool (decide (a1 < 0) || decide (a1 ≥ (x0.Parts.length : Int))))⟩, ⟨2, [], .p 0 0⟩, ⟨0, [], .v (.agg ((kd_Config).cells x0 sv0).toArray)⟩, ⟨1, [], .v (.int .i64 a1)⟩], [], [], [((((kd_Config).cells x0 sv0).map EV.v), 29)], some (w.heap.size, none), none⟩ [] (by kernel_rfl) trivial (fun ns_6 a w_7 hI _ => ?_)
    refine wpIn_ret ?_
    refine then_ret ?_
    refine inScope_ret ?_
    obtain rfl := Option.some.inj H0
    exact retM hI rfl rfl rfl (fun wz hz => ⟨svL [(none, 0)], rfl, (hE.below hI).trans hz.below, ⟨(Arr.nil _ _ _ _), (Nat.le_refl _)⟩⟩)
  · replace H0 := bif_f hc_5 H0
    refine wpIn_skip ?_
    refine then_normal ?_
    refine wpIn_seq ?_
    refine wpIn_region_lit ?_
    refine chunkL_ (live := [22, 19, 4, 2, 0, 1]) (orc := []) hF 3 hI ⟨[⟨22, [], .v (.int .i64 (x0.Parts.length : Int))⟩, ⟨19, [], .v (.bool (decide (a1 < 0) || decide (a1 ≥ (x0.Parts.length : Int))))⟩, ⟨4, [], .v (.slice none 0 0)⟩, ⟨2, [], .p 0 0⟩, ⟨0, [], .v (.agg ((kd_Config).cells x0 sv0).toArray)⟩, ⟨1, [], .v (.int .i64 a1)⟩], [], [], [((((kd_Config).cells x0 sv0).map EV.v), 29)], some (w.heap.size, none), none⟩ [] rfl (by kernel_rfl) trivial (fun ns_8 a w_9 hI => ?_)
    obtain ⟨hE', hmv, hmr⟩ := Ep.rebase (S0 := S) hE hI
    replace hx0 := Kd.keep _ hx0 hmv
    replace hE := hE'
    replace hI := hI.rebase
    clear hE' hmv hmr
    obtain ⟨hN_10, H0⟩ := req_some H0
    rw [Bool.and_eq_true, decide_eq_true_iff, decide_eq_true_iff] at hN_10
    refine makeSlice_ (S0 := S) (d := Kd.bool) (e := 4) hF hE hI (wanted_none rfl) rfl (k := (x0.Parts.length : Int)) rfl rfl Try.underlying77 (zi := (.bool false, 1, 1)) (by kernel_rfl) rfl (false) (svL []) rfl trivial hN_10.1 hN_10.2 (fun A_11 => ⟨[⟨23, [], .v (.slice A_11 (List.replicate ((x0.Parts.length : Int) : Int).toNat (false : Bool)).length ((List.replicate ((x0.Parts.length : Int) : Int).toNat (false : Bool)).length))⟩, ⟨22, [], .v (.int .i64 (x0.Parts.length : Int))⟩, ⟨19, [], .v (.bool (decide (a1 < 0) || decide (a1 ≥ (x0.Parts.length : Int))))⟩, ⟨4, [], .v (.slice none 0 0)⟩, ⟨2, [], .p 0 0⟩, ⟨0, [], .v (.agg ((kd_Config).cells x0 sv0).toArray)⟩, ⟨1, [], .v (.int .i64 a1)⟩], [], [], [((((kd_Config).cells x0 sv0).map EV.v), 29)], some (w.heap.size, none), none⟩) (fun A_11 => by kernel_rfl) (fun A_11 a w_13 hput hE' hI' hmv hmr hq_12 => ?_)
    replace hx0 := Kd.keep _ hx0 hmv
    replace hE := hE'
    replace hI := hI'
    clear hE' hI' hmv hmr
    refine chunkL_ (live := [5, 19, 4, 2, 0, 1]) (orc := []) hF 2 hI ⟨[⟨5, [], .p 1 0⟩, ⟨19, [], .v (.bool (decide (a1 < 0) || decide (a1 ≥ (x0.Parts.length : Int))))⟩, ⟨4, [], .v (.slice none 0 0)⟩, ⟨2, [], .p 0 0⟩, ⟨0, [], .v (.agg ((kd_Config).cells x0 sv0).toArray)⟩, ⟨1, [], .v (.int .i64 a1)⟩], [], [], [((((kd_Config).cells x0 sv0).map EV.v), 29), ([.v (.slice A_11 (List.replicate ((x0.Parts.length : Int) : Int).toNat (false : Bool)).length ((List.replicate ((x0.Parts.length : Int) : Int).toNat (false : Bool)).length))], 77)], some (w.heap.size, none), none⟩ [] rfl (by kernel_rfl) trivial (fun ns_14 a w_15 hI => ?_)
    refine wpListIn_nil ?_
    refine then_normal ?_
    refine wpIn_seq ?_
    refine wpIn_region_lit ?_
    obtain ⟨hN_16, H0⟩ := req_some H0
    obtain ⟨sv_17, hE_19, hA_18⟩ := Row.elB hq_12 hE (by simp) a1 true (fun _ => hN_16)
    refine chunkL_ (live := [26, 5, 19, 4, 2, 0, 1]) (orc := []) hF 3 hI ⟨[⟨26, [], .v (.pointer (some ((adr A_11).add ((a1 : Int).toNat * 1))))⟩, ⟨5, [], .p 1 0⟩, ⟨19, [], .v (.bool (decide (a1 < 0) || decide (a1 ≥ (x0.Parts.length : Int))))⟩, ⟨4, [], .v (.slice none 0 0)⟩, ⟨2, [], .p 0 0⟩, ⟨0, [], .v (.agg ((kd_Config).cells x0 sv0).toArray)⟩, ⟨1, [], .v (.int .i64 a1)⟩], [], [], [((((kd_Config).cells x0 sv0).map EV.v), 29), ([.v (.slice A_11 (List.replicate ((x0.Parts.length : Int) : Int).toNat (false : Bool)).length ((List.replicate ((x0.Parts.length : Int) : Int).toNat (false : Bool)).length))], 77)], some (w.heap.size, none), none⟩ [.need true (0 ≤ a1 ∧ a1 < ((List.replicate ((x0.Parts.length : Int) : Int).toNat (false : Bool)).length : Int)), .need true (A_11 = some (adr A_11))] rfl (by kernel_rfl) ⟨ob_inb (fun _ => hN_16), hA_18, trivial⟩ (fun ns_20 a w_21 hI => ?_)
    obtain ⟨hE', hmv, hmr⟩ := Ep.rebase (S0 := S) hE hI
    replace hx0 := Kd.keep _ hx0 hmv
    replace hq_12 := Row.keep hq_12 hmv (fun b hb => hmr b (by rw [← hb]; first | (simp; done) | simp [rb]))
    replace hE := hE'
    replace hI := hI.rebase
    clear hE' hmv hmr
    refine storeRow_ (S0 := S) (d := Kd.bool) (e := 4) (l := (List.replicate ((x0.Parts.length : Int) : Int).toNat (false : Bool))) (A := A_11) (i := a1) hF hE hI (wanted_none rfl) rfl rfl rfl rfl (by kernel_rfl) rfl (by simp) hN_16 hq_12 (true) (svL []) rfl rfl trivial (fun a w_22 hput hE' hI' hmv hmr hq_12 => ?_)
    replace hx0 := Kd.keep _ hx0 hmv
    replace hE := hE'
    replace hI := hI'
    clear hE' hI' hmv hmr
    have hI : St w_22 ns_20 59 ⟨[⟨26, [], .v (.pointer (some ((adr A_11).add ((a1 : Int).toNat * 1))))⟩, ⟨5, [], .p 1 0⟩, ⟨19, [], .v (.bool (decide (a1 < 0) || decide (a1 ≥ (x0.Parts.length : Int))))⟩, ⟨4, [], .v (.slice none 0 0)⟩, ⟨2, [], .p 0 0⟩, ⟨0, [], .v (.agg ((kd_Config).cells x0 sv0).toArray)⟩, ⟨1, [], .v (.int .i64 a1)⟩], [], [], [((((kd_Config).cells x0 sv0).map EV.v), 29), ([.v (.slice A_11 ((List.replicate ((x0.Parts.length : Int) : Int).toNat (false : Bool)).set (a1 : Int).toNat true).length ((List.replicate ((x0.Parts.length : Int) : Int).toNat (false : Bool)).length))], 77)], some (w.heap.size, none), none⟩ ns_20 a w_22 := by simpa only [List.length_set] using hI
    refine chunkL_ (live := [5, 19, 4, 2, 0, 1]) (orc := []) hF 0 hI ⟨[⟨5, [], .p 1 0⟩, ⟨19, [], .v (.bool (decide (a1 < 0) || decide (a1 ≥ (x0.Parts.length : Int))))⟩, ⟨4, [], .v (.slice none 0 0)⟩, ⟨2, [], .p 0 0⟩, ⟨0, [], .v (.agg ((kd_Config).cells x0 sv0).toArray)⟩, ⟨1, [], .v (.int .i64 a1)⟩], [], [], [((((kd_Config).cells x0 sv0).map EV.v), 29), ([.v (.slice A_11 ((List.replicate ((x0.Parts.length : Int) : Int).toNat (false : Bool)).set (a1 : Int).toNat true).length ((List.replicate ((x0.Parts.length : Int) : Int).toNat (false : Bool)).length))], 77)], some (w.heap.size, none), none⟩ [] rfl (by kernel_rfl) trivial (fun ns_24 a w_25 hI => ?_)
    refine wpListIn_nil ?_
    refine then_normal ?_
    refine wpIn_seq ?_
    refine wpIn_label ?_
    refine then_normal ?_
    refine wpIn_seq ?_
    obtain ⟨hE', hmv, hmr⟩ := Ep.rebase (S0 := S) hE hI
    replace hx0 := Kd.keep _ hx0 hmv
    replace hq_12 := Row.keep hq_12 hmv (fun b hb => hmr b (by rw [← hb]; first | (simp; done) | simp [rb]))
    replace hE := hE'
    replace hI := hI.rebase
    clear hE' hmv hmr
    obtain ⟨o_86, hL_87, H0⟩ := bind_some H0
    refine block_loop (fun (s1 : (List Bool)) a w_141 => ∃ (ow ns : List Nat) (A_26 : Option Addr) (c_27 : Nat), ((kd_Config).cont (Lo S w w_141 ow [rb A_26]) w_141 x0 sv0) ∧ (Row Kd.bool 4 (Lo S w w_141 ow [rb A_26]) w_141 w.heap.size A_26 c_27 s1) ∧ Ep w w_141 ow [rb A_26] ∧ St w_141 ow 59 ⟨[⟨5, [], .p 1 0⟩, ⟨19, [], .v (.bool (decide (a1 < 0) || decide (a1 ≥ (x0.Parts.length : Int))))⟩, ⟨4, [], .v (.slice none 0 0)⟩, ⟨2, [], .p 0 0⟩, ⟨0, [], .v (.agg ((kd_Config).cells x0 (svL [((sv0 0).1, (sv0 0).2), ((sv0 1).1, (sv0 1).2), ((sv0 2).1, (sv0 2).2), ((sv0 3).1, (sv0 3).2)])).toArray)⟩, ⟨1, [], .v (.int .i64 a1)⟩], [], [], [((((kd_Config).cells x0 sv0).map EV.v), 29), ([.v (.slice A_26 s1.length c_27)], 77)], some (w.heap.size, none), none⟩ ns a w_141) ((List.replicate ((x0.Parts.length : Int) : Int).toNat (false : Bool)).set (a1 : Int).toNat true) hL_87 ⟨_, _, _, _, hx0, hq_12, hE, hI.pick [5, 19, 4, 2, 0, 1] 2 ⟨[⟨5, [], .p 1 0⟩, ⟨19, [], .v (.bool (decide (a1 < 0) || decide (a1 ≥ (x0.Parts.length : Int))))⟩, ⟨4, [], .v (.slice none 0 0)⟩, ⟨2, [], .p 0 0⟩, ⟨0, [], .v (.agg ((kd_Config).cells x0 (svL [((sv0 0).1, (sv0 0).2), ((sv0 1).1, (sv0 1).2), ((sv0 2).1, (sv0 2).2), ((sv0 3).1, (sv0 3).2)])).toArray)⟩, ⟨1, [], .v (.int .i64 a1)⟩], [], [], [((((kd_Config).cells x0 sv0).map EV.v), 29), ([.v (.slice A_11 ((List.replicate ((x0.Parts.length : Int) : Int).toNat (false : Bool)).set (a1 : Int).toNat true).length ((List.replicate ((x0.Parts.length : Int) : Int).toNat (false : Bool)).length))], 77)], some (w.heap.size, none), none⟩ (by kernel_rfl)⟩ ?_ ?_
    · clear hI hE
      rintro s1 a w_28 ⟨ow_30, ns_29, A_26, c_27, hx0, hq_12, hE, hI⟩ r1 H1
      unfold G_flow_Into.b1 at H1
      refine wpIn_block ?_
      refine wpIn_seq ?_
      refine wpIn_seq ?_
      refine wpIn_region_lit ?_
      refine chunkL_ (live := [27, 5, 19, 4, 2, 0, 1]) (orc := []) hF 1 hI ⟨[⟨27, [], .v (.agg ((kd_Config).cells x0 sv0).toArray)⟩, ⟨5, [], .p 1 0⟩, ⟨19, [], .v (.bool (decide (a1 < 0) || decide (a1 ≥ (x0.Parts.length : Int))))⟩, ⟨4, [], .v (.slice none 0 0)⟩, ⟨2, [], .p 0 0⟩, ⟨0, [], .v (.agg ((kd_Config).cells x0 sv0).toArray)⟩, ⟨1, [], .v (.int .i64 a1)⟩], [], [], [((((kd_Config).cells x0 sv0).map EV.v), 29), ([.v (.slice A_26 s1.length c_27)], 77)], some (w.heap.size, none), none⟩ [] rfl (by kernel_rfl) trivial (fun ns_31 a w_32 hI => ?_)
      obtain ⟨hE', hmv, hmr⟩ := Ep.rebase (S0 := S) hE hI
      replace hx0 := Kd.keep _ hx0 hmv
      replace hq_12 := Row.keep hq_12 hmv (fun b hb => hmr b (by rw [← hb]; first | (simp; done) | simp [rb]))
      replace hE := hE'
      replace hI := hI.rebase
      clear hE' hmv hmr
      obtain ⟨t_33, hG_34, H1⟩ := bind_some H1
      refine callH_ (S0 := S) hF hE hI (wanted_none rfl) rfl (args := [.agg ((kd_Config).cells x0 (svL [((sv0 0).1, (sv0 0).2), ((sv0 1).1, (sv0 1).2), ((sv0 2).1, (sv0 2).2), ((sv0 3).1, (sv0 3).2)])).toArray]) rfl (enters Try.func16 (by kernel_rfl) rfl) (fun sv_35 => .func (.func 40) #[] #[.pointer (some (adr (sv_35 0).1))]) _ (G_flow_Edges.calls x0 (svL [((sv0 0).1, (sv0 0).2), ((sv0 1).1, (sv0 1).2), ((sv0 2).1, (sv0 2).2), ((sv0 3).1, (sv0 3).2)]) w_32 (S := Lo S w w_32 ns_31 [rb A_26]) (contI (d := kd_Config) (x := x0) (sv := (svL [((sv0 0).1, (sv0 0).2), ((sv0 1).1, (sv0 1).2), ((sv0 2).1, (sv0 2).2), ((sv0 3).1, (sv0 3).2)])) ⟨⟨hx0.1.1, hx0.1.2⟩, ⟨hx0.2.1.1, hx0.2.1.2⟩, ⟨hx0.2.2.1.1, hx0.2.2.1.2⟩, ⟨hx0.2.2.2.1.1, hx0.2.2.2.1.2⟩, trivial⟩) _ hG_34) (fun sv_35 => ⟨[⟨28, [], .v (.func (.func 40) #[] #[.pointer (some (adr (sv_35 0).1))])⟩, ⟨27, [], .v (.agg ((kd_Config).cells x0 (svL [((sv0 0).1, (sv0 0).2), ((sv0 1).1, (sv0 1).2), ((sv0 2).1, (sv0 2).2), ((sv0 3).1, (sv0 3).2)])).toArray)⟩, ⟨5, [], .p 1 0⟩, ⟨19, [], .v (.bool (decide (a1 < 0) || decide (a1 ≥ (x0.Parts.length : Int))))⟩, ⟨4, [], .v (.slice none 0 0)⟩, ⟨2, [], .p 0 0⟩, ⟨0, [], .v (.agg ((kd_Config).cells x0 (svL [((sv0 0).1, (sv0 0).2), ((sv0 1).1, (sv0 1).2), ((sv0 2).1, (sv0 2).2), ((sv0 3).1, (sv0 3).2)])).toArray)⟩, ⟨1, [], .v (.int .i64 a1)⟩], [], [], [((((kd_Config).cells x0 sv0).map EV.v), 29), ([.v (.slice A_26 s1.length c_27)], 77)], some (w.heap.size, none), none⟩) (fun sv_35 => by kernel_rfl) (fun sv_35 a w_37 hput hE' hI' hmv hmr hres hR => ?_)
      replace hx0 := Kd.keep _ hx0 hmv
      replace hq_12 := Row.keep hq_12 hmv (fun b hb => hmr b (by rw [← hb]; first | (simp; done) | simp [rb]) (by simp))
      replace hE := hE'
      replace hI := hI'
      clear hE' hI' hmv hmr
      have hR_36 := hR
      replace hR_36 := El.keep hR_36 hres
      clear hres
      refine chunkL_ (live := [28, 5, 19, 4, 2, 0, 1]) (orc := []) hF 0 hI ⟨[⟨28, [], .v (.func (.func 40) #[] #[.pointer (some (adr (sv_35 0).1))])⟩, ⟨5, [], .p 1 0⟩, ⟨19, [], .v (.bool (decide (a1 < 0) || decide (a1 ≥ (x0.Parts.length : Int))))⟩, ⟨4, [], .v (.slice none 0 0)⟩, ⟨2, [], .p 0 0⟩, ⟨0, [], .v (.agg ((kd_Config).cells x0 (svL [((sv0 0).1, (sv0 0).2), ((sv0 1).1, (sv0 1).2), ((sv0 2).1, (sv0 2).2), ((sv0 3).1, (sv0 3).2)])).toArray)⟩, ⟨1, [], .v (.int .i64 a1)⟩], [], [], [((((kd_Config).cells x0 sv0).map EV.v), 29), ([.v (.slice A_26 s1.length c_27)], 77)], some (w.heap.size, none), none⟩ [] rfl (by kernel_rfl) trivial (fun ns_38 a w_39 hI => ?_)
      refine wpListIn_nil ?_
      refine then_normal ?_
      refine wpIn_block ?_
      obtain ⟨hE', hmv, hmr⟩ := Ep.rebase (S0 := S) hE hI
      replace hx0 := Kd.keep _ hx0 hmv
      replace hq_12 := Row.keep hq_12 hmv (fun b hb => hmr b (by rw [← hb]; first | (simp; done) | simp [rb]))
      replace hR_36 := El.keep hR_36 hmv
      replace hE := hE'
      replace hI := hI.rebase
      clear hE' hmv hmr
      obtain ⟨ns_40, hE', hI', hmv⟩ := hE.cut (S0 := S) hI [28, 5, 19, 4, 2, 0, 1] 2 ⟨[⟨28, [], .v (.func (.func 40) #[] #[.pointer (some (adr (sv_35 0).1))])⟩, ⟨5, [], .p 1 0⟩, ⟨19, [], .v (.bool (decide (a1 < 0) || decide (a1 ≥ (x0.Parts.length : Int))))⟩, ⟨4, [], .v (.slice none 0 0)⟩, ⟨2, [], .p 0 0⟩, ⟨0, [], .v (.agg ((kd_Config).cells x0 (svL [((sv0 0).1, (sv0 0).2), ((sv0 1).1, (sv0 1).2), ((sv0 2).1, (sv0 2).2), ((sv0 3).1, (sv0 3).2)])).toArray)⟩, ⟨1, [], .v (.int .i64 a1)⟩], [], [], [((((kd_Config).cells x0 sv0).map EV.v), 29), ([.v (.slice A_26 s1.length c_27)], 77)], some (w.heap.size, none), none⟩ (by kernel_rfl)
      have hmr : ∀ b : Nat, some b ∈ ([rb A_26] : List (Option Nat)) → w_39.heap[b]? = w_39.heap[b]? := fun _ _ => rfl
      replace hx0 := Kd.keep _ hx0 hmv
      replace hq_12 := Row.keep hq_12 hmv (fun b hb => hmr b (by rw [← hb]; first | (simp; done) | simp [rb]))
      replace hR_36 := El.keep hR_36 hmv
      replace hE := hE'
      replace hI := hI'
      clear hE' hI' hmv hmr
      obtain ⟨z_46, hz_47, H1⟩ := bind_some H1
      refine rangeFunc_ (S0 := S) (ps := [29, 30]) hE hI rfl (Nat.le_refl _) (lb := [.pointer (some (adr (sv_35 0).1))]) rfl (enters Try.func40 (by kernel_rfl) rfl) (fun l_43 aR_44 w_45 haR_52 hE' hI' hmv hmr => ?_)
      replace hx0 := Kd.keep _ hx0 hmv
      replace hq_12 := Row.keep hq_12 hmv (fun b hb => hmr b (by rw [← hb]; first | (simp; done) | simp [rb]))
      replace hR_36 := El.keep hR_36 hmv
      replace hE := hE'
      replace hI := hI'
      clear hE' hI' hmv hmr
      refine ⟨(List Bool), Int × Int, Nat × ((List Bool)), G_flow_Edges_1.enc, G_flow_Edges_1.fct, G_flow_Into.r2 x0 a1 s1 t_33, (fun (s2 : (List Bool)) (T : Nat → Prop) (W : World) => ∃ (A_41 : Option Addr) (c_42 : Nat), ((kd_Config).cont (Lo S w W ns_40 [rb A_41, some l_43]) W x0 sv0) ∧ (Row Kd.bool 4 (Lo S w W ns_40 [rb A_41, some l_43]) W w.heap.size A_41 c_42 s2) ∧ (El kd_Config (Lo S w W ns_40 [rb A_41, some l_43]) W (adr (sv_35 0).1) t_33 (svO sv_35 1)) ∧ Ep w W ns_40 [rb A_41, some l_43] ∧ Inv W ns_40 59 ⟨[⟨28, [], .v (.func (.func 40) #[] #[.pointer (some (adr (sv_35 0).1))])⟩, ⟨5, [], .p 1 0⟩, ⟨19, [], .v (.bool (decide (a1 < 0) || decide (a1 ≥ (x0.Parts.length : Int))))⟩, ⟨4, [], .v (.slice none 0 0)⟩, ⟨2, [], .p 0 0⟩, ⟨0, [], .v (.agg ((kd_Config).cells x0 (svL [((sv0 0).1, (sv0 0).2), ((sv0 1).1, (sv0 1).2), ((sv0 2).1, (sv0 2).2), ((sv0 3).1, (sv0 3).2)])).toArray)⟩, ⟨1, [], .v (.int .i64 a1)⟩], [], [], [((((kd_Config).cells x0 sv0).map EV.v), 29), ([.v (.slice A_41 s2.length c_42)], 77)], some (w.heap.size, none), none⟩ ns_40 aR_44 W ∧ Tk T W (Lo S w W ns_40 [rb A_41, some l_43]) W), (fun (r : Nat × ((List Bool))) (W : World) => ∃ (A_41 : Option Addr) (c_42 : Nat), ((kd_Config).cont (Lo S w W ns_40 [rb A_41, some l_43]) W x0 sv0) ∧ (Row Kd.bool 4 (Lo S w W ns_40 [rb A_41, some l_43]) W w.heap.size A_41 c_42 r.2) ∧ (El kd_Config (Lo S w W ns_40 [rb A_41, some l_43]) W (adr (sv_35 0).1) t_33 (svO sv_35 1)) ∧ Ep w W ns_40 [rb A_41, some l_43] ∧ Inv W ns_40 59 ⟨[⟨28, [], .v (.func (.func 40) #[] #[.pointer (some (adr (sv_35 0).1))])⟩, ⟨5, [], .p 1 0⟩, ⟨19, [], .v (.bool (decide (a1 < 0) || decide (a1 ≥ (x0.Parts.length : Int))))⟩, ⟨4, [], .v (.slice none 0 0)⟩, ⟨2, [], .p 0 0⟩, ⟨0, [], .v (.agg ((kd_Config).cells x0 (svL [((sv0 0).1, (sv0 0).2), ((sv0 1).1, (sv0 1).2), ((sv0 2).1, (sv0 2).2), ((sv0 3).1, (sv0 3).2)])).toArray)⟩, ⟨1, [], .v (.int .i64 a1)⟩], [], [], [((((kd_Config).cells x0 sv0).map EV.v), 29), ([.v (.slice A_41 r.2.length c_42)], 77)], some (w.heap.size, none), none⟩ ns_40 aR_44 W), (fun r => .exit 1), s1, Tc (Lo S w w_45 ns_40 [rb A_26, some l_43]) w_45, z_46, fun _ _ => rfl, ?_, ?_, ?_, ?_, ?_, ?_, ?_⟩
      · rintro s2 T T' A B row ⟨A_41, c_42, hx0, hq_12, hR_36, hE, hI, hT_48⟩ hg hrow hT'
        obtain ⟨hE', hI', hmv, hmr⟩ := hE.turn (S0 := S) hI hg (by simp) hrow
        replace hx0 := Kd.keep _ hx0 hmv
        replace hq_12 := Row.keep hq_12 hmv (fun b hb => hmr b (by rw [← hb]; first | (simp; done) | simp [rb]) (Ep.ne hE (i := 1) (j := 0) (by decide) rfl rfl hb))
        replace hR_36 := El.keep hR_36 hmv
        exact ⟨A_41, c_42, hx0, hq_12, hR_36, hE', hI', hT_48.turn hmv hE hT'⟩
      · rintro r A B row ⟨A_41, c_42, hx0, hq_12, hR_36, hE, hI⟩ hg hrow
        obtain ⟨hE', hI', hmv, hmr⟩ := hE.turn (S0 := S) hI hg (by simp) hrow
        replace hx0 := Kd.keep _ hx0 hmv
        replace hq_12 := Row.keep hq_12 hmv (fun b hb => hmr b (by rw [← hb]; first | (simp; done) | simp [rb]) (Ep.ne hE (i := 1) (j := 0) (by decide) rfl rfl hb))
        replace hR_36 := El.keep hR_36 hmv
        exact ⟨A_41, c_42, hx0, hq_12, hR_36, hE', hI'⟩
      · intro J Jx hq hJ
        exact G_flow_Edges_1.calls _ _ t_33 (adr (sv_35 0).1) (svO sv_35 1) _ w_45 (S := Tc (Lo S w w_45 ns_40 [rb A_26, some l_43]) w_45) (El.keep hR_36 (Tc.mv _ _)) hq hJ _ hz_47
      · exact ⟨A_26, c_27, hx0, hq_12, hR_36, hE, hI, Tk.new _ _⟩
      · rintro s2 y_53 sv_54 T_56 w_55 z hz ⟨A_41, c_42, hx0, hq_12, hR_36, hE, hO, hT_48⟩ hf_57 oo_50 ho_51 hl_49
        unfold G_flow_Into.r2 at hz
        have H2 := hz
        clear hz
        have hF : FOpen (Fence.wide.inRound l_43) := .inr ⟨l_43, rfl⟩
        have hI : Inv w_55 ns_40 59 ⟨[⟨30, [], .v (.int .i64 y_53.2)⟩, ⟨29, [], .v (.int .i64 y_53.1)⟩, ⟨28, [], .v (.func (.func 40) #[] #[.pointer (some (adr (sv_35 0).1))])⟩, ⟨5, [], .p 1 0⟩, ⟨19, [], .v (.bool (decide (a1 < 0) || decide (a1 ≥ (x0.Parts.length : Int))))⟩, ⟨4, [], .v (.slice none 0 0)⟩, ⟨2, [], .p 0 0⟩, ⟨0, [], .v (.agg ((kd_Config).cells x0 (svL [((sv0 0).1, (sv0 0).2), ((sv0 1).1, (sv0 1).2), ((sv0 2).1, (sv0 2).2), ((sv0 3).1, (sv0 3).2)])).toArray)⟩, ⟨1, [], .v (.int .i64 a1)⟩], [], [], [((((kd_Config).cells x0 sv0).map EV.v), 29), ([.v (.slice A_41 s2.length c_42)], 77)], some (w.heap.size, some aR_44.defers), some (2, ns_40)⟩ ns_40 _ w_55 := hO.round rfl rfl rfl [29, 30] (G_flow_Edges_1.enc y_53 sv_54) (by kernel_rfl) (by kernel_rfl) _ haR_52
        refine seq_region (live := [6, 30, 29, 28, 5, 19, 4, 2, 0, 1]) (orc := []) hF hI ⟨[⟨6, [], .v (.int .i64 y_53.1)⟩, ⟨30, [], .v (.int .i64 y_53.2)⟩, ⟨29, [], .v (.int .i64 y_53.1)⟩, ⟨28, [], .v (.func (.func 40) #[] #[.pointer (some (adr (sv_35 0).1))])⟩, ⟨5, [], .p 1 0⟩, ⟨19, [], .v (.bool (decide (a1 < 0) || decide (a1 ≥ (x0.Parts.length : Int))))⟩, ⟨4, [], .v (.slice none 0 0)⟩, ⟨2, [], .p 0 0⟩, ⟨0, [], .v (.agg ((kd_Config).cells x0 (svL [((sv0 0).1, (sv0 0).2), ((sv0 1).1, (sv0 1).2), ((sv0 2).1, (sv0 2).2), ((sv0 3).1, (sv0 3).2)])).toArray)⟩, ⟨1, [], .v (.int .i64 a1)⟩], [], [], [((((kd_Config).cells x0 sv0).map EV.v), 29), ([.v (.slice A_41 s2.length c_42)], 77)], some (w.heap.size, some aR_44.defers), some (2, ns_40)⟩ [] (by kernel_rfl) trivial (fun ns_58 a w_59 hI _ => ?_)
        refine region_ (live := [7, 6, 30, 29, 28, 5, 19, 4, 2, 0, 1]) (orc := []) hF hI ⟨[⟨7, [], .v (.int .i64 y_53.2)⟩, ⟨6, [], .v (.int .i64 y_53.1)⟩, ⟨30, [], .v (.int .i64 y_53.2)⟩, ⟨29, [], .v (.int .i64 y_53.1)⟩, ⟨28, [], .v (.func (.func 40) #[] #[.pointer (some (adr (sv_35 0).1))])⟩, ⟨5, [], .p 1 0⟩, ⟨19, [], .v (.bool (decide (a1 < 0) || decide (a1 ≥ (x0.Parts.length : Int))))⟩, ⟨4, [], .v (.slice none 0 0)⟩, ⟨2, [], .p 0 0⟩, ⟨0, [], .v (.agg ((kd_Config).cells x0 (svL [((sv0 0).1, (sv0 0).2), ((sv0 1).1, (sv0 1).2), ((sv0 2).1, (sv0 2).2), ((sv0 3).1, (sv0 3).2)])).toArray)⟩, ⟨1, [], .v (.int .i64 a1)⟩], [], [], [((((kd_Config).cells x0 sv0).map EV.v), 29), ([.v (.slice A_41 s2.length c_42)], 77)], some (w.heap.size, some aR_44.defers), some (2, ns_40)⟩ [] (by kernel_rfl) trivial (fun ns_60 a w_61 hI _ => ?_)
        refine then_normal ?_
        obtain ⟨hE', hmv, hmr⟩ := Ep.rebase (S0 := S) hE hI
        replace hx0 := Kd.keep _ hx0 hmv
        replace hq_12 := Row.keep hq_12 hmv (fun b hb => hmr b (by rw [← hb]; first | (simp; done) | simp [rb]))
        replace hR_36 := El.keep hR_36 hmv
        replace hT_48 := Tk.keep hT_48 hmv
        replace hl_49 := (hmr _ (by simp)).trans hl_49
        replace hE := hE'
        replace hI := hI.rebase
        clear hE' hmv hmr
        refine begin_ (S0 := S) hE hI (by simp) hl_49 ho_51 (fun w_62 hE' hI' hmv hmr hl_49 => ?_)
        replace hx0 := Kd.keep _ hx0 hmv
        replace hq_12 := Row.keep hq_12 hmv (fun b hb => hmr b (by rw [← hb]; first | (simp; done) | simp [rb]) (Ep.ne hE (i := 1) (j := 0) (by decide) rfl rfl hb))
        replace hR_36 := El.keep hR_36 hmv
        replace hT_48 := Tk.keep hT_48 hmv
        replace hE := hE'
        replace hI := hI'
        clear hE' hI' hmv hmr
        refine wpIn_block ?_
        obtain ⟨hN_63, H2⟩ := req_some H2
        obtain ⟨sv_64, hE_66, hA_65⟩ := Row.elB hq_12 hE (by simp) y_53.2 true (fun _ => hN_63)
        obtain ⟨hN_67, H2⟩ := req_some H2
        obtain ⟨sv_68, hE_70, hA_69⟩ := Row.elB hq_12 hE (by simp) y_53.1 (rd s2 y_53.2) (fun hg => imp_spec hN_67 hg)
        refine seq_region (live := [41, 7, 6, 30, 29, 28, 5, 19, 4, 2, 0, 1]) (orc := [[.bool (rd s2 y_53.2)], [.bool (rd s2 y_53.1)]]) hF hI ⟨[⟨41, [], .v (.bool ((rd s2 y_53.2) && (!(rd s2 y_53.1))))⟩, ⟨7, [], .v (.int .i64 y_53.2)⟩, ⟨6, [], .v (.int .i64 y_53.1)⟩, ⟨30, [], .v (.int .i64 y_53.2)⟩, ⟨29, [], .v (.int .i64 y_53.1)⟩, ⟨28, [], .v (.func (.func 40) #[] #[.pointer (some (adr (sv_35 0).1))])⟩, ⟨5, [], .p 1 0⟩, ⟨19, [], .v (.bool (decide (a1 < 0) || decide (a1 ≥ (x0.Parts.length : Int))))⟩, ⟨4, [], .v (.slice none 0 0)⟩, ⟨2, [], .p 0 0⟩, ⟨0, [], .v (.agg ((kd_Config).cells x0 (svL [((sv0 0).1, (sv0 0).2), ((sv0 1).1, (sv0 1).2), ((sv0 2).1, (sv0 2).2), ((sv0 3).1, (sv0 3).2)])).toArray)⟩, ⟨1, [], .v (.int .i64 a1)⟩], [], [], [((((kd_Config).cells x0 sv0).map EV.v), 29), ([.v (.slice A_41 s2.length c_42)], 77)], some (w.heap.size, some aR_44.defers), some (2, ns_40)⟩ [.need true (0 ≤ y_53.2 ∧ y_53.2 < (s2.length : Int)), .need true (A_41 = some (adr A_41)), .cell true ((adr A_41).add ((y_53.2 : Int).toNat * 1)) [.bool (rd s2 y_53.2)], .need (rd s2 y_53.2) (0 ≤ y_53.1 ∧ y_53.1 < (s2.length : Int)), .need (rd s2 y_53.2) (A_41 = some (adr A_41)), .cell (rd s2 y_53.2) ((adr A_41).add ((y_53.1 : Int).toNat * 1)) [.bool (rd s2 y_53.1)]] (by kernel_rfl) ⟨ob_inb (fun _ => hN_63), hA_65, ob_elR hE_66 0 [.bool (rd s2 y_53.2)] rfl, ob_inb (fun hg => imp_spec hN_67 hg), hA_69, ob_elR hE_70 0 [.bool (rd s2 y_53.1)] rfl, trivial⟩ (fun ns_71 a w_72 hI _ => ?_)
        refine cond_ hI (((rd s2 y_53.2) && (!(rd s2 y_53.1)))) rfl (fun hc_73 => ?_) (fun hc_73 => ?_)
        · replace H2 := bif_t hc_73 H2
          refine wpIn_seq ?_
          refine wpIn_region_lit ?_
          obtain ⟨hN_74, H2⟩ := req_some H2
          obtain ⟨sv_75, hE_77, hA_76⟩ := Row.elB hq_12 hE (by simp) y_53.1 true (fun _ => hN_74)
          refine chunkL_ (live := [44, 41, 7, 6, 30, 29, 28, 5, 19, 4, 2, 0, 1]) (orc := []) hF 3 hI ⟨[⟨44, [], .v (.pointer (some ((adr A_41).add ((y_53.1 : Int).toNat * 1))))⟩, ⟨41, [], .v (.bool ((rd s2 y_53.2) && (!(rd s2 y_53.1))))⟩, ⟨7, [], .v (.int .i64 y_53.2)⟩, ⟨6, [], .v (.int .i64 y_53.1)⟩, ⟨30, [], .v (.int .i64 y_53.2)⟩, ⟨29, [], .v (.int .i64 y_53.1)⟩, ⟨28, [], .v (.func (.func 40) #[] #[.pointer (some (adr (sv_35 0).1))])⟩, ⟨5, [], .p 1 0⟩, ⟨19, [], .v (.bool (decide (a1 < 0) || decide (a1 ≥ (x0.Parts.length : Int))))⟩, ⟨4, [], .v (.slice none 0 0)⟩, ⟨2, [], .p 0 0⟩, ⟨0, [], .v (.agg ((kd_Config).cells x0 (svL [((sv0 0).1, (sv0 0).2), ((sv0 1).1, (sv0 1).2), ((sv0 2).1, (sv0 2).2), ((sv0 3).1, (sv0 3).2)])).toArray)⟩, ⟨1, [], .v (.int .i64 a1)⟩], [], [], [((((kd_Config).cells x0 sv0).map EV.v), 29), ([.v (.slice A_41 s2.length c_42)], 77)], some (w.heap.size, some aR_44.defers), some (2, ns_40)⟩ [.need true (0 ≤ y_53.1 ∧ y_53.1 < (s2.length : Int)), .need true (A_41 = some (adr A_41))] rfl (by kernel_rfl) ⟨ob_inb (fun _ => hN_74), hA_76, trivial⟩ (fun ns_78 a w_79 hI => ?_)
          obtain ⟨hE', hmv, hmr⟩ := Ep.rebase (S0 := S) hE hI
          replace hx0 := Kd.keep _ hx0 hmv
          replace hq_12 := Row.keep hq_12 hmv (fun b hb => hmr b (by rw [← hb]; first | (simp; done) | simp [rb]))
          replace hR_36 := El.keep hR_36 hmv
          replace hT_48 := Tk.keep hT_48 hmv
          replace hl_49 := (hmr _ (by simp)).trans hl_49
          replace hE := hE'
          replace hI := hI.rebase
          clear hE' hmv hmr
          refine storeRow_ (S0 := S) (d := Kd.bool) (e := 4) (l := s2) (A := A_41) (i := y_53.1) hF hE hI (wanted_none rfl) rfl rfl rfl rfl (by kernel_rfl) rfl (by simp) hN_74 hq_12 (true) (svL []) rfl rfl trivial (fun a w_80 hput hE' hI' hmv hmr hq_12 => ?_)
          replace hx0 := Kd.keep _ hx0 hmv
          replace hR_36 := El.keep hR_36 hmv
          replace hT_48 := Tk.keep hT_48 hmv
          replace hl_49 := (hmr _ (by simp) (Ep.ne hE (i := 0) (j := 1) (by decide) rfl rfl rfl)).trans hl_49
          replace hE := hE'
          replace hI := hI'
          clear hE' hI' hmv hmr
          have hI : St w_80 ns_78 59 ⟨[⟨44, [], .v (.pointer (some ((adr A_41).add ((y_53.1 : Int).toNat * 1))))⟩, ⟨41, [], .v (.bool ((rd s2 y_53.2) && (!(rd s2 y_53.1))))⟩, ⟨7, [], .v (.int .i64 y_53.2)⟩, ⟨6, [], .v (.int .i64 y_53.1)⟩, ⟨30, [], .v (.int .i64 y_53.2)⟩, ⟨29, [], .v (.int .i64 y_53.1)⟩, ⟨28, [], .v (.func (.func 40) #[] #[.pointer (some (adr (sv_35 0).1))])⟩, ⟨5, [], .p 1 0⟩, ⟨19, [], .v (.bool (decide (a1 < 0) || decide (a1 ≥ (x0.Parts.length : Int))))⟩, ⟨4, [], .v (.slice none 0 0)⟩, ⟨2, [], .p 0 0⟩, ⟨0, [], .v (.agg ((kd_Config).cells x0 (svL [((sv0 0).1, (sv0 0).2), ((sv0 1).1, (sv0 1).2), ((sv0 2).1, (sv0 2).2), ((sv0 3).1, (sv0 3).2)])).toArray)⟩, ⟨1, [], .v (.int .i64 a1)⟩], [], [], [((((kd_Config).cells x0 sv0).map EV.v), 29), ([.v (.slice A_41 (s2.set (y_53.1 : Int).toNat true).length c_42)], 77)], some (w.heap.size, some aR_44.defers), some (2, ns_40)⟩ ns_78 a w_80 := by simpa only [List.length_set] using hI
          refine chunkL_ (live := [41, 7, 6, 30, 29, 28, 5, 19, 4, 2, 0, 1]) (orc := []) hF 0 hI ⟨[⟨41, [], .v (.bool ((rd s2 y_53.2) && (!(rd s2 y_53.1))))⟩, ⟨7, [], .v (.int .i64 y_53.2)⟩, ⟨6, [], .v (.int .i64 y_53.1)⟩, ⟨30, [], .v (.int .i64 y_53.2)⟩, ⟨29, [], .v (.int .i64 y_53.1)⟩, ⟨28, [], .v (.func (.func 40) #[] #[.pointer (some (adr (sv_35 0).1))])⟩, ⟨5, [], .p 1 0⟩, ⟨19, [], .v (.bool (decide (a1 < 0) || decide (a1 ≥ (x0.Parts.length : Int))))⟩, ⟨4, [], .v (.slice none 0 0)⟩, ⟨2, [], .p 0 0⟩, ⟨0, [], .v (.agg ((kd_Config).cells x0 (svL [((sv0 0).1, (sv0 0).2), ((sv0 1).1, (sv0 1).2), ((sv0 2).1, (sv0 2).2), ((sv0 3).1, (sv0 3).2)])).toArray)⟩, ⟨1, [], .v (.int .i64 a1)⟩], [], [], [((((kd_Config).cells x0 sv0).map EV.v), 29), ([.v (.slice A_41 (s2.set (y_53.1 : Int).toNat true).length c_42)], 77)], some (w.heap.size, some aR_44.defers), some (2, ns_40)⟩ [] rfl (by kernel_rfl) trivial (fun ns_82 a w_83 hI => ?_)
          refine wpListIn_nil ?_
          refine then_normal ?_
          refine wpIn_exit ?_
          refine inBlock_other (by decide) ?_
          obtain ⟨hE', hmv, hmr⟩ := Ep.rebase (S0 := S) hE hI
          replace hx0 := Kd.keep _ hx0 hmv
          replace hR_36 := El.keep hR_36 hmv
          replace hT_48 := Tk.keep hT_48 hmv
          replace hl_49 := (hmr _ (by simp)).trans hl_49
          replace hq_12 := Row.keep hq_12 hmv (fun b hb => hmr b (by rw [← hb]; first | (simp; done) | simp [rb]))
          replace hE := hE'
          replace hI := hI.rebase
          clear hE' hmv hmr
          obtain ⟨hE', hI', hmv⟩ := Ep.unround (S0 := S) (bs := [((((kd_Config).cells x0 sv0).map EV.v), 29), ([.v (.slice A_41 (s2.set (y_53.1 : Int).toNat true).length c_42)], 77)]) hO hE hI rfl rfl rfl rfl rfl rfl (by kernel_rfl) rfl
          have hmr : ∀ b : Nat, some b ∈ ([rb A_41, some l_43] : List (Option Nat)) → w_83.heap[b]? = w_83.heap[b]? := fun _ _ => rfl
          replace hx0 := Kd.keep _ hx0 hmv
          replace hR_36 := El.keep hR_36 hmv
          replace hT_48 := Tk.keep hT_48 hmv
          replace hl_49 := (hmr _ (by simp)).trans hl_49
          replace hq_12 := Row.keep hq_12 hmv (fun b hb => hmr b (by rw [← hb]; first | (simp; done) | simp [rb]))
          replace hE := hE'
          replace hI := hI'
          clear hE' hI' hmv hmr
          obtain rfl := Option.some.inj H2
          exact RndQ.ex hl_49 rfl rfl ⟨_, _, hx0, hq_12, hR_36, hE, hI⟩
        · replace H2 := bif_f hc_73 H2
          refine wpIn_skip ?_
          refine inBlock_normal ?_
          obtain ⟨hE', hmv, hmr⟩ := Ep.rebase (S0 := S) hE hI
          replace hx0 := Kd.keep _ hx0 hmv
          replace hq_12 := Row.keep hq_12 hmv (fun b hb => hmr b (by rw [← hb]; first | (simp; done) | simp [rb]))
          replace hR_36 := El.keep hR_36 hmv
          replace hT_48 := Tk.keep hT_48 hmv
          replace hl_49 := (hmr _ (by simp)).trans hl_49
          replace hE := hE'
          replace hI := hI.rebase
          clear hE' hmv hmr
          obtain ⟨hE', hI', hmv⟩ := Ep.unround (S0 := S) (bs := [((((kd_Config).cells x0 sv0).map EV.v), 29), ([.v (.slice A_41 s2.length c_42)], 77)]) hO hE hI rfl rfl rfl rfl rfl rfl (by kernel_rfl) rfl
          have hmr : ∀ b : Nat, some b ∈ ([rb A_41, some l_43] : List (Option Nat)) → w_72.heap[b]? = w_72.heap[b]? := fun _ _ => rfl
          replace hx0 := Kd.keep _ hx0 hmv
          replace hq_12 := Row.keep hq_12 hmv (fun b hb => hmr b (by rw [← hb]; first | (simp; done) | simp [rb]))
          replace hR_36 := El.keep hR_36 hmv
          replace hT_48 := Tk.keep hT_48 hmv
          replace hl_49 := (hmr _ (by simp)).trans hl_49
          replace hE := hE'
          replace hI := hI'
          clear hE' hI' hmv hmr
          obtain rfl := Option.some.inj H2
          exact RndQ.nrm hl_49 rfl ⟨_, _, hx0, hq_12, hR_36, hE, hI, hT_48.re⟩ hT_48.same
      · rintro s2 T w_84 hzz ⟨A_41, c_42, hx0, hq_12, hR_36, hE, hI, hT_48⟩
        subst hzz
        replace H1 : (some (.out (.brk s2)) : Option (Stp ((List Bool)) (Ex ((List Bool)) ((List Int))))) = _ := H1
        obtain ⟨hE', hmv⟩ := hE.sub (S0 := S) (mine' := [rb A_41]) (sub_one [rb A_41] [] _)
        have hmr : ∀ b : Nat, some b ∈ ([rb A_41, some l_43] : List (Option Nat)) → w_84.heap[b]? = w_84.heap[b]? := fun _ _ => rfl
        replace hx0 := Kd.keep _ hx0 hmv
        replace hq_12 := Row.keep hq_12 hmv (fun b hb => hmr b (by rw [← hb]; first | (simp; done) | simp [rb]))
        replace hR_36 := El.keep hR_36 hmv
        replace hE := hE'
        clear hE' hmv hmr
        refine inBlock_normal ?_
        refine then_normal ?_
        refine wpIn_exit ?_
        refine inBlock_other (by decide) ?_
        refine then_exit ?_
        obtain rfl := Option.some.inj H1
        exact .inl ⟨_, rfl, rfl, ⟨_, _, _, _, hx0, hq_12, hE, hI.pick [5, 19, 4, 2, 0, 1] 2 ⟨[⟨5, [], .p 1 0⟩, ⟨19, [], .v (.bool (decide (a1 < 0) || decide (a1 ≥ (x0.Parts.length : Int))))⟩, ⟨4, [], .v (.slice none 0 0)⟩, ⟨2, [], .p 0 0⟩, ⟨0, [], .v (.agg ((kd_Config).cells x0 (svL [((sv0 0).1, (sv0 0).2), ((sv0 1).1, (sv0 1).2), ((sv0 2).1, (sv0 2).2), ((sv0 3).1, (sv0 3).2)])).toArray)⟩, ⟨1, [], .v (.int .i64 a1)⟩], [], [], [((((kd_Config).cells x0 sv0).map EV.v), 29), ([.v (.slice A_41 s2.length c_42)], 77)], some (w.heap.size, none), none⟩ (by kernel_rfl)⟩⟩
      · rintro r2 WX hzz ⟨A_41, c_42, hx0, hq_12, hR_36, hE, hI⟩
        subst hzz
        replace H1 : (some (.next r2.2) : Option (Stp ((List Bool)) (Ex ((List Bool)) ((List Int))))) = _ := H1
        dsimp only
        obtain ⟨hE', hmv⟩ := hE.sub (S0 := S) (mine' := [rb A_41]) (sub_one [rb A_41] [] _)
        have hmr : ∀ b : Nat, some b ∈ ([rb A_41, some l_43] : List (Option Nat)) → WX.heap[b]? = WX.heap[b]? := fun _ _ => rfl
        replace hx0 := Kd.keep _ hx0 hmv
        replace hq_12 := Row.keep hq_12 hmv (fun b hb => hmr b (by rw [← hb]; first | (simp; done) | simp [rb]))
        replace hR_36 := El.keep hR_36 hmv
        replace hE := hE'
        clear hE' hmv hmr
        refine wpIn_exit ?_
        refine inBlock_other (by decide) ?_
        refine then_exit ?_
        refine inBlock_here ?_
        refine then_normal ?_
        obtain rfl := Option.some.inj H1
        exact ⟨_, rfl, ⟨_, _, _, _, hx0, hq_12, hE, hI.pick [5, 19, 4, 2, 0, 1] 2 ⟨[⟨5, [], .p 1 0⟩, ⟨19, [], .v (.bool (decide (a1 < 0) || decide (a1 ≥ (x0.Parts.length : Int))))⟩, ⟨4, [], .v (.slice none 0 0)⟩, ⟨2, [], .p 0 0⟩, ⟨0, [], .v (.agg ((kd_Config).cells x0 (svL [((sv0 0).1, (sv0 0).2), ((sv0 1).1, (sv0 1).2), ((sv0 2).1, (sv0 2).2), ((sv0 3).1, (sv0 3).2)])).toArray)⟩, ⟨1, [], .v (.int .i64 a1)⟩], [], [], [((((kd_Config).cells x0 sv0).map EV.v), 29), ([.v (.slice A_41 r2.2.length c_42)], 77)], some (w.heap.size, none), none⟩ (by kernel_rfl)⟩⟩
    · clear hI hE
      rintro s1 a w_88 ho ⟨ow_90, ns_89, A_26, c_27, hx0, hq_12, hE, hI⟩
      subst ho
      replace H0 : (((loopω (G_flow_Into.b3 x0 a1 s1) (0, ([] : List Int))).bind fun o => o.on (fun s3 => some s3.2) (fun r => some r)) : Option ((List Int))) = _ := H0
      refine then_normal ?_
      refine seq_region (live := [8, 5, 19, 4, 2, 0, 1]) (orc := []) hF hI ⟨[⟨8, [], .v (.slice none 0 0)⟩, ⟨5, [], .p 1 0⟩, ⟨19, [], .v (.bool (decide (a1 < 0) || decide (a1 ≥ (x0.Parts.length : Int))))⟩, ⟨4, [], .v (.slice none 0 0)⟩, ⟨2, [], .p 0 0⟩, ⟨0, [], .v (.agg ((kd_Config).cells x0 (svL [((sv0 0).1, (sv0 0).2), ((sv0 1).1, (sv0 1).2), ((sv0 2).1, (sv0 2).2), ((sv0 3).1, (sv0 3).2)])).toArray)⟩, ⟨1, [], .v (.int .i64 a1)⟩], [], [], [((((kd_Config).cells x0 sv0).map EV.v), 29), ([.v (.slice A_26 s1.length c_27)], 77)], some (w.heap.size, none), none⟩ [] (by kernel_rfl) trivial (fun ns_91 a w_92 hI _ => ?_)
      refine wpIn_seq ?_
      refine seq_region (live := [47, 46, 45, 8, 5, 19, 4, 2, 0, 1]) (orc := []) hF hI ⟨[⟨47, [], .v (.int .i64 0)⟩, ⟨46, [], .v (.int .i64 (s1.length : Int))⟩, ⟨45, [], .v (.slice A_26 s1.length c_27)⟩, ⟨8, [], .v (.slice none 0 0)⟩, ⟨5, [], .p 1 0⟩, ⟨19, [], .v (.bool (decide (a1 < 0) || decide (a1 ≥ (x0.Parts.length : Int))))⟩, ⟨4, [], .v (.slice none 0 0)⟩, ⟨2, [], .p 0 0⟩, ⟨0, [], .v (.agg ((kd_Config).cells x0 (svL [((sv0 0).1, (sv0 0).2), ((sv0 1).1, (sv0 1).2), ((sv0 2).1, (sv0 2).2), ((sv0 3).1, (sv0 3).2)])).toArray)⟩, ⟨1, [], .v (.int .i64 a1)⟩], [], [], [((((kd_Config).cells x0 sv0).map EV.v), 29), ([.v (.slice A_26 s1.length c_27)], 77)], some (w.heap.size, none), none⟩ [] (by kernel_rfl) trivial (fun ns_93 a w_94 hI _ => ?_)
      obtain ⟨hE', hmv, hmr⟩ := Ep.rebase (S0 := S) hE hI
      replace hx0 := Kd.keep _ hx0 hmv
      replace hq_12 := Row.keep hq_12 hmv (fun b hb => hmr b (by rw [← hb]; first | (simp; done) | simp [rb]))
      replace hE := hE'
      replace hI := hI.rebase
      clear hE' hmv hmr
      obtain ⟨hE', hmv⟩ := Ep.addNil (S0 := S) hE
      have hmr : ∀ b : Nat, some b ∈ ([rb A_26] : List (Option Nat)) → w_94.heap[b]? = w_94.heap[b]? := fun _ _ => rfl
      replace hx0 := Kd.keep _ hx0 hmv
      replace hq_12 := Row.keep hq_12 hmv (fun b hb => hmr b (by rw [← hb]; first | (simp; done) | simp [rb]))
      replace hE := hE'
      clear hE' hmv hmr
      have hq_95 : Row (Kd.int .i64) 3 (Lo S w w_94 ns_93 [rb A_26, rb none]) w_94 w.heap.size none 0 ([] : List Int) := Row.nil
      obtain ⟨hE', hmv, hq_12, hcap_96⟩ := Row.still (l1 := []) (l2 := [rb none]) hq_12 hE
      have hmr : ∀ b : Nat, some b ∈ ([rb A_26, rb none] : List (Option Nat)) → w_94.heap[b]? = w_94.heap[b]? := fun _ _ => rfl
      replace hx0 := Kd.keep _ hx0 hmv
      replace hq_95 := Row.keep hq_95 hmv (fun b hb => hmr b (by rw [← hb]; first | (simp; done) | simp [rb]))
      replace hE := hE'
      clear hE' hmv hmr
      obtain ⟨o_132, hL_133, H0⟩ := bind_some H0
      refine block_loop (fun (s3 : Int × (List Int)) a w_140 => ∃ (ow ns : List Nat) (A_97 : Option Addr) (c_98 : Nat), ((kd_Config).cont (Lo S w w_140 ow [rb A_97]) w_140 x0 sv0) ∧ (Row (Kd.int .i64) 3 (Lo S w w_140 ow [rb A_97]) w_140 w.heap.size A_97 c_98 s3.2) ∧ (Arr Kd.bool (Lo S w w_140 ow [rb A_97]) w_140 A_26 s1) ∧ Ep w w_140 ow [rb A_97] ∧ St w_140 ow 59 ⟨[⟨47, [], .v (.int .i64 s3.1)⟩, ⟨46, [], .v (.int .i64 (s1.length : Int))⟩, ⟨45, [], .v (.slice A_26 s1.length c_27)⟩, ⟨8, [], .v (.slice A_97 s3.2.length c_98)⟩, ⟨5, [], .p 1 0⟩, ⟨19, [], .v (.bool (decide (a1 < 0) || decide (a1 ≥ (x0.Parts.length : Int))))⟩, ⟨4, [], .v (.slice none 0 0)⟩, ⟨2, [], .p 0 0⟩, ⟨0, [], .v (.agg ((kd_Config).cells x0 (svL [((sv0 0).1, (sv0 0).2), ((sv0 1).1, (sv0 1).2), ((sv0 2).1, (sv0 2).2), ((sv0 3).1, (sv0 3).2)])).toArray)⟩, ⟨1, [], .v (.int .i64 a1)⟩], [], [], [((((kd_Config).cells x0 sv0).map EV.v), 29), ([.v (.slice A_26 s1.length c_27)], 77)], some (w.heap.size, none), none⟩ ns a w_140) (0, ([] : List Int)) hL_133 ⟨_, _, _, _, hx0, hq_95, hq_12, hE, hI.pick [47, 46, 45, 8, 5, 19, 4, 2, 0, 1] 2 ⟨[⟨47, [], .v (.int .i64 0)⟩, ⟨46, [], .v (.int .i64 (s1.length : Int))⟩, ⟨45, [], .v (.slice A_26 s1.length c_27)⟩, ⟨8, [], .v (.slice none ([] : List Int).length 0)⟩, ⟨5, [], .p 1 0⟩, ⟨19, [], .v (.bool (decide (a1 < 0) || decide (a1 ≥ (x0.Parts.length : Int))))⟩, ⟨4, [], .v (.slice none 0 0)⟩, ⟨2, [], .p 0 0⟩, ⟨0, [], .v (.agg ((kd_Config).cells x0 (svL [((sv0 0).1, (sv0 0).2), ((sv0 1).1, (sv0 1).2), ((sv0 2).1, (sv0 2).2), ((sv0 3).1, (sv0 3).2)])).toArray)⟩, ⟨1, [], .v (.int .i64 a1)⟩], [], [], [((((kd_Config).cells x0 sv0).map EV.v), 29), ([.v (.slice A_26 s1.length c_27)], 77)], some (w.heap.size, none), none⟩ (by kernel_rfl)⟩ ?_ ?_
      · clear hI hE
        rintro s3 a w_99 ⟨ow_101, ns_100, A_97, c_98, hx0, hq_95, hq_12, hE, hI⟩ r3 H1
        unfold G_flow_Into.b3 at H1
        refine seq_region (live := [48, 47, 46, 45, 8, 5, 19, 4, 2, 0, 1]) (orc := []) hF hI ⟨[⟨48, [], .v (.bool (decide (s3.1 < (s1.length : Int))))⟩, ⟨47, [], .v (.int .i64 s3.1)⟩, ⟨46, [], .v (.int .i64 (s1.length : Int))⟩, ⟨45, [], .v (.slice A_26 s1.length c_27)⟩, ⟨8, [], .v (.slice A_97 s3.2.length c_98)⟩, ⟨5, [], .p 1 0⟩, ⟨19, [], .v (.bool (decide (a1 < 0) || decide (a1 ≥ (x0.Parts.length : Int))))⟩, ⟨4, [], .v (.slice none 0 0)⟩, ⟨2, [], .p 0 0⟩, ⟨0, [], .v (.agg ((kd_Config).cells x0 (svL [((sv0 0).1, (sv0 0).2), ((sv0 1).1, (sv0 1).2), ((sv0 2).1, (sv0 2).2), ((sv0 3).1, (sv0 3).2)])).toArray)⟩, ⟨1, [], .v (.int .i64 a1)⟩], [], [], [((((kd_Config).cells x0 sv0).map EV.v), 29), ([.v (.slice A_26 s1.length c_27)], 77)], some (w.heap.size, none), none⟩ [] (by kernel_rfl) trivial (fun ns_102 a w_103 hI _ => ?_)
        refine wpIn_seq ?_
        refine cond_ hI (decide (s3.1 < (s1.length : Int))) rfl (fun hc_104 => ?_) (fun hc_104 => ?_)
        · replace H1 := bif_t hc_104 H1
          refine wpIn_skip ?_
          refine then_normal ?_
          refine wpIn_seq ?_
          refine wpIn_block ?_
          obtain ⟨hN_105, H1⟩ := req_some H1
          obtain ⟨sv_106, hE_108, hA_107⟩ := Arr.elB (d := Kd.bool) hq_12 s3.1 true (fun _ => hN_105)
          replace hE_108 := hE_108 rfl
          replace hA_107 := fun (_ : true = true) => hA_107 rfl
          refine seq_region (live := [10, 9, 48, 47, 46, 45, 8, 5, 19, 4, 2, 0, 1]) (orc := [[.bool (rd s1 s3.1)]]) hF hI ⟨[⟨10, [], .v (.bool (rd s1 s3.1))⟩, ⟨9, [], .v (.int .i64 s3.1)⟩, ⟨48, [], .v (.bool (decide (s3.1 < (s1.length : Int))))⟩, ⟨47, [], .v (.int .i64 s3.1)⟩, ⟨46, [], .v (.int .i64 (s1.length : Int))⟩, ⟨45, [], .v (.slice A_26 s1.length c_27)⟩, ⟨8, [], .v (.slice A_97 s3.2.length c_98)⟩, ⟨5, [], .p 1 0⟩, ⟨19, [], .v (.bool (decide (a1 < 0) || decide (a1 ≥ (x0.Parts.length : Int))))⟩, ⟨4, [], .v (.slice none 0 0)⟩, ⟨2, [], .p 0 0⟩, ⟨0, [], .v (.agg ((kd_Config).cells x0 (svL [((sv0 0).1, (sv0 0).2), ((sv0 1).1, (sv0 1).2), ((sv0 2).1, (sv0 2).2), ((sv0 3).1, (sv0 3).2)])).toArray)⟩, ⟨1, [], .v (.int .i64 a1)⟩], [], [], [((((kd_Config).cells x0 sv0).map EV.v), 29), ([.v (.slice A_26 s1.length c_27)], 77)], some (w.heap.size, none), none⟩ [.need true (0 ≤ s3.1 ∧ s3.1 < (s1.length : Int)), .need true (A_26 = some (adr A_26)), .cell true ((adr A_26).add ((s3.1 : Int).toNat * 1)) [.bool (rd s1 s3.1)]] (by kernel_rfl) ⟨ob_inb (fun _ => hN_105), hA_107, ob_el (fun _ => hE_108) 0 [.bool (rd s1 s3.1)] rfl, trivial⟩ (fun ns_109 a w_110 hI _ => ?_)
          refine seq_region (live := [52, 10, 9, 48, 47, 46, 45, 8, 5, 19, 4, 2, 0, 1]) (orc := []) hF hI ⟨[⟨52, [], .v (.bool (rd s1 s3.1))⟩, ⟨10, [], .v (.bool (rd s1 s3.1))⟩, ⟨9, [], .v (.int .i64 s3.1)⟩, ⟨48, [], .v (.bool (decide (s3.1 < (s1.length : Int))))⟩, ⟨47, [], .v (.int .i64 s3.1)⟩, ⟨46, [], .v (.int .i64 (s1.length : Int))⟩, ⟨45, [], .v (.slice A_26 s1.length c_27)⟩, ⟨8, [], .v (.slice A_97 s3.2.length c_98)⟩, ⟨5, [], .p 1 0⟩, ⟨19, [], .v (.bool (decide (a1 < 0) || decide (a1 ≥ (x0.Parts.length : Int))))⟩, ⟨4, [], .v (.slice none 0 0)⟩, ⟨2, [], .p 0 0⟩, ⟨0, [], .v (.agg ((kd_Config).cells x0 (svL [((sv0 0).1, (sv0 0).2), ((sv0 1).1, (sv0 1).2), ((sv0 2).1, (sv0 2).2), ((sv0 3).1, (sv0 3).2)])).toArray)⟩, ⟨1, [], .v (.int .i64 a1)⟩], [], [], [((((kd_Config).cells x0 sv0).map EV.v), 29), ([.v (.slice A_26 s1.length c_27)], 77)], some (w.heap.size, none), none⟩ [] (by kernel_rfl) trivial (fun ns_111 a w_112 hI _ => ?_)
          refine cond_ hI ((rd s1 s3.1)) rfl (fun hc_113 => ?_) (fun hc_113 => ?_)
          · replace H1 := bif_t hc_113 H1
            refine wpIn_region_lit ?_
            refine chunkL_ (live := [54, 53, 52, 10, 9, 48, 47, 46, 45, 8, 5, 19, 4, 2, 0, 1]) (orc := []) hF 2 hI ⟨[⟨54, [], .v (.int .i64 s3.1)⟩, ⟨53, [], .v (.slice A_97 s3.2.length c_98)⟩, ⟨52, [], .v (.bool (rd s1 s3.1))⟩, ⟨10, [], .v (.bool (rd s1 s3.1))⟩, ⟨9, [], .v (.int .i64 s3.1)⟩, ⟨48, [], .v (.bool (decide (s3.1 < (s1.length : Int))))⟩, ⟨47, [], .v (.int .i64 s3.1)⟩, ⟨46, [], .v (.int .i64 (s1.length : Int))⟩, ⟨45, [], .v (.slice A_26 s1.length c_27)⟩, ⟨8, [], .v (.slice A_97 s3.2.length c_98)⟩, ⟨5, [], .p 1 0⟩, ⟨19, [], .v (.bool (decide (a1 < 0) || decide (a1 ≥ (x0.Parts.length : Int))))⟩, ⟨4, [], .v (.slice none 0 0)⟩, ⟨2, [], .p 0 0⟩, ⟨0, [], .v (.agg ((kd_Config).cells x0 (svL [((sv0 0).1, (sv0 0).2), ((sv0 1).1, (sv0 1).2), ((sv0 2).1, (sv0 2).2), ((sv0 3).1, (sv0 3).2)])).toArray)⟩, ⟨1, [], .v (.int .i64 a1)⟩], [], [], [((((kd_Config).cells x0 sv0).map EV.v), 29), ([.v (.slice A_26 s1.length c_27)], 77)], some (w.heap.size, none), none⟩ [] rfl (by kernel_rfl) trivial (fun ns_114 a w_115 hI => ?_)
            obtain ⟨hE', hmv, hmr⟩ := Ep.rebase (S0 := S) hE hI
            replace hx0 := Kd.keep _ hx0 hmv
            replace hq_95 := Row.keep hq_95 hmv (fun b hb => hmr b (by rw [← hb]; first | (simp; done) | simp [rb]))
            replace hq_12 := Arr.keep hq_12 hmv
            replace hE_108 := El.keep hE_108 hmv
            replace hE := hE'
            replace hI := hI.rebase
            clear hE' hmv hmr
            refine buildSlice_ (S0 := S) (d := (Kd.int .i64)) (e := 3) hF hE hI (wanted_none rfl) rfl (by kernel_rfl) (cs := [.int .i64 s3.1]) (by kernel_rfl) [s3.1] [(svL [])] rfl rfl (by simp [maxLen]) (fun i x hi => by cases i with | zero => (simp only [List.getElem?_cons_zero, Option.some.injEq] at hi; subst hi; exact ⟨trivial, rfl⟩) | succ i => (simp only [List.getElem?_cons_succ] at hi; simp at hi)) (fun A_116 => ⟨[⟨55, [], .v (.slice A_116 ([s3.1] : List Int).length (([s3.1] : List Int).length))⟩, ⟨54, [], .v (.int .i64 s3.1)⟩, ⟨53, [], .v (.slice A_97 s3.2.length c_98)⟩, ⟨52, [], .v (.bool (rd s1 s3.1))⟩, ⟨10, [], .v (.bool (rd s1 s3.1))⟩, ⟨9, [], .v (.int .i64 s3.1)⟩, ⟨48, [], .v (.bool (decide (s3.1 < (s1.length : Int))))⟩, ⟨47, [], .v (.int .i64 s3.1)⟩, ⟨46, [], .v (.int .i64 (s1.length : Int))⟩, ⟨45, [], .v (.slice A_26 s1.length c_27)⟩, ⟨8, [], .v (.slice A_97 s3.2.length c_98)⟩, ⟨5, [], .p 1 0⟩, ⟨19, [], .v (.bool (decide (a1 < 0) || decide (a1 ≥ (x0.Parts.length : Int))))⟩, ⟨4, [], .v (.slice none 0 0)⟩, ⟨2, [], .p 0 0⟩, ⟨0, [], .v (.agg ((kd_Config).cells x0 (svL [((sv0 0).1, (sv0 0).2), ((sv0 1).1, (sv0 1).2), ((sv0 2).1, (sv0 2).2), ((sv0 3).1, (sv0 3).2)])).toArray)⟩, ⟨1, [], .v (.int .i64 a1)⟩], [], [], [((((kd_Config).cells x0 sv0).map EV.v), 29), ([.v (.slice A_26 s1.length c_27)], 77)], some (w.heap.size, none), none⟩) (fun A_116 => by kernel_rfl) (fun A_116 a w_118 hput hE' hI' hmv hmr hq_117 => ?_)
            replace hx0 := Kd.keep _ hx0 hmv
            replace hq_95 := Row.keep hq_95 hmv (fun b hb => hmr b (by rw [← hb]; first | (simp; done) | simp [rb]) (by simp))
            replace hq_12 := Arr.keep hq_12 hmv
            replace hE_108 := El.keep hE_108 hmv
            replace hE := hE'
            replace hI := hI'
            clear hE' hI' hmv hmr
            refine chunkL_ (live := [55, 53, 52, 10, 9, 48, 47, 46, 45, 8, 5, 19, 4, 2, 0, 1]) (orc := []) hF 0 hI ⟨[⟨55, [], .v (.slice A_116 ([s3.1] : List Int).length (([s3.1] : List Int).length))⟩, ⟨53, [], .v (.slice A_97 s3.2.length c_98)⟩, ⟨52, [], .v (.bool (rd s1 s3.1))⟩, ⟨10, [], .v (.bool (rd s1 s3.1))⟩, ⟨9, [], .v (.int .i64 s3.1)⟩, ⟨48, [], .v (.bool (decide (s3.1 < (s1.length : Int))))⟩, ⟨47, [], .v (.int .i64 s3.1)⟩, ⟨46, [], .v (.int .i64 (s1.length : Int))⟩, ⟨45, [], .v (.slice A_26 s1.length c_27)⟩, ⟨8, [], .v (.slice A_97 s3.2.length c_98)⟩, ⟨5, [], .p 1 0⟩, ⟨19, [], .v (.bool (decide (a1 < 0) || decide (a1 ≥ (x0.Parts.length : Int))))⟩, ⟨4, [], .v (.slice none 0 0)⟩, ⟨2, [], .p 0 0⟩, ⟨0, [], .v (.agg ((kd_Config).cells x0 (svL [((sv0 0).1, (sv0 0).2), ((sv0 1).1, (sv0 1).2), ((sv0 2).1, (sv0 2).2), ((sv0 3).1, (sv0 3).2)])).toArray)⟩, ⟨1, [], .v (.int .i64 a1)⟩], [], [], [((((kd_Config).cells x0 sv0).map EV.v), 29), ([.v (.slice A_26 s1.length c_27)], 77)], some (w.heap.size, none), none⟩ [] rfl (by kernel_rfl) trivial (fun ns_119 a w_120 hI => ?_)
            obtain ⟨hE', hmv, hmr⟩ := Ep.rebase (S0 := S) hE hI
            replace hx0 := Kd.keep _ hx0 hmv
            replace hq_95 := Row.keep hq_95 hmv (fun b hb => hmr b (by rw [← hb]; first | (simp; done) | simp [rb]))
            replace hq_12 := Arr.keep hq_12 hmv
            replace hE_108 := El.keep hE_108 hmv
            replace hq_117 := Row.keep hq_117 hmv (fun b hb => hmr b (by rw [← hb]; first | (simp; done) | simp [rb]))
            replace hE := hE'
            replace hI := hI.rebase
            clear hE' hmv hmr
            obtain ⟨hE', hmv, hq_117, hcap_121⟩ := Row.still (l1 := [rb A_97]) (l2 := []) hq_117 hE
            have hmr : ∀ b : Nat, some b ∈ ([rb A_97, rb A_116] : List (Option Nat)) → w_120.heap[b]? = w_120.heap[b]? := fun _ _ => rfl
            replace hx0 := Kd.keep _ hx0 hmv
            replace hq_95 := Row.keep hq_95 hmv (fun b hb => hmr b (by rw [← hb]; first | (simp; done) | simp [rb]))
            replace hq_12 := Arr.keep hq_12 hmv
            replace hE_108 := El.keep hE_108 hmv
            replace hE := hE'
            clear hE' hmv hmr
            obtain ⟨hN_122, H1⟩ := req_some H1
            replace hN_122 := of_decide_eq_true hN_122
            refine append_ (S0 := S) (l1 := []) (l2 := []) (d := (Kd.int .i64)) (e := 3) hF hE hI (wanted_none rfl) rfl (A := A_97) (c := c_98) (l := s3.2) rfl (A2 := A_116) (c2 := (([s3.1] : List Int).length)) rfl hq_95 hq_117 (fun sv u hu => by exact kd_one_int _ sv u hu) Try.underlying39 (zi := (.int .i64 0, 1, 8)) (by kernel_rfl) rfl (by kernel_rfl) (len_max (by decide) hN_122) hN_122 (fun A_123 c_124 => ⟨[⟨56, [], .v (.slice A_123 (s3.2 ++ [s3.1]).length c_124)⟩, ⟨55, [], .v (.slice A_116 ([s3.1] : List Int).length (([s3.1] : List Int).length))⟩, ⟨53, [], .v (.slice A_97 s3.2.length c_98)⟩, ⟨52, [], .v (.bool (rd s1 s3.1))⟩, ⟨10, [], .v (.bool (rd s1 s3.1))⟩, ⟨9, [], .v (.int .i64 s3.1)⟩, ⟨48, [], .v (.bool (decide (s3.1 < (s1.length : Int))))⟩, ⟨47, [], .v (.int .i64 s3.1)⟩, ⟨46, [], .v (.int .i64 (s1.length : Int))⟩, ⟨45, [], .v (.slice A_26 s1.length c_27)⟩, ⟨8, [], .v (.slice A_97 s3.2.length c_98)⟩, ⟨5, [], .p 1 0⟩, ⟨19, [], .v (.bool (decide (a1 < 0) || decide (a1 ≥ (x0.Parts.length : Int))))⟩, ⟨4, [], .v (.slice none 0 0)⟩, ⟨2, [], .p 0 0⟩, ⟨0, [], .v (.agg ((kd_Config).cells x0 (svL [((sv0 0).1, (sv0 0).2), ((sv0 1).1, (sv0 1).2), ((sv0 2).1, (sv0 2).2), ((sv0 3).1, (sv0 3).2)])).toArray)⟩, ⟨1, [], .v (.int .i64 a1)⟩], [], [], [((((kd_Config).cells x0 sv0).map EV.v), 29), ([.v (.slice A_26 s1.length c_27)], 77)], some (w.heap.size, none), none⟩) (fun A_123 c_124 => by kernel_rfl) (fun A_123 c_124 a w_125 hput hE' hI' hmv hmr hq_95 => ?_)
            replace hx0 := Kd.keep _ hx0 hmv
            replace hq_12 := Arr.keep hq_12 hmv
            replace hE_108 := El.keep hE_108 hmv
            replace hq_117 := Arr.keep hq_117 hmv
            replace hE := hE'
            replace hI := hI'
            clear hE' hI' hmv hmr
            refine chunkL_ (live := [8, 52, 10, 9, 48, 47, 46, 45, 5, 19, 4, 2, 0, 1]) (orc := []) hF 1 hI ⟨[⟨8, [], .v (.slice A_123 (s3.2 ++ [s3.1]).length c_124)⟩, ⟨52, [], .v (.bool (rd s1 s3.1))⟩, ⟨10, [], .v (.bool (rd s1 s3.1))⟩, ⟨9, [], .v (.int .i64 s3.1)⟩, ⟨48, [], .v (.bool (decide (s3.1 < (s1.length : Int))))⟩, ⟨47, [], .v (.int .i64 s3.1)⟩, ⟨46, [], .v (.int .i64 (s1.length : Int))⟩, ⟨45, [], .v (.slice A_26 s1.length c_27)⟩, ⟨5, [], .p 1 0⟩, ⟨19, [], .v (.bool (decide (a1 < 0) || decide (a1 ≥ (x0.Parts.length : Int))))⟩, ⟨4, [], .v (.slice none 0 0)⟩, ⟨2, [], .p 0 0⟩, ⟨0, [], .v (.agg ((kd_Config).cells x0 (svL [((sv0 0).1, (sv0 0).2), ((sv0 1).1, (sv0 1).2), ((sv0 2).1, (sv0 2).2), ((sv0 3).1, (sv0 3).2)])).toArray)⟩, ⟨1, [], .v (.int .i64 a1)⟩], [], [], [((((kd_Config).cells x0 sv0).map EV.v), 29), ([.v (.slice A_26 s1.length c_27)], 77)], some (w.heap.size, none), none⟩ [] rfl (by kernel_rfl) trivial (fun ns_126 a w_127 hI => ?_)
            refine wpListIn_nil ?_
            refine inBlock_normal ?_
            refine then_normal ?_
            refine region_ (live := [47, 8, 52, 10, 9, 48, 46, 45, 5, 19, 4, 2, 0, 1]) (orc := []) hF hI ⟨[⟨47, [], .v (.int .i64 (IntKind.i64.wrap (s3.1 + 1)))⟩, ⟨8, [], .v (.slice A_123 (s3.2 ++ [s3.1]).length c_124)⟩, ⟨52, [], .v (.bool (rd s1 s3.1))⟩, ⟨10, [], .v (.bool (rd s1 s3.1))⟩, ⟨9, [], .v (.int .i64 s3.1)⟩, ⟨48, [], .v (.bool (decide (s3.1 < (s1.length : Int))))⟩, ⟨46, [], .v (.int .i64 (s1.length : Int))⟩, ⟨45, [], .v (.slice A_26 s1.length c_27)⟩, ⟨5, [], .p 1 0⟩, ⟨19, [], .v (.bool (decide (a1 < 0) || decide (a1 ≥ (x0.Parts.length : Int))))⟩, ⟨4, [], .v (.slice none 0 0)⟩, ⟨2, [], .p 0 0⟩, ⟨0, [], .v (.agg ((kd_Config).cells x0 (svL [((sv0 0).1, (sv0 0).2), ((sv0 1).1, (sv0 1).2), ((sv0 2).1, (sv0 2).2), ((sv0 3).1, (sv0 3).2)])).toArray)⟩, ⟨1, [], .v (.int .i64 a1)⟩], [], [], [((((kd_Config).cells x0 sv0).map EV.v), 29), ([.v (.slice A_26 s1.length c_27)], 77)], some (w.heap.size, none), none⟩ [] (by kernel_rfl) trivial (fun ns_128 a w_129 hI _ => ?_)
            refine then_normal ?_
            obtain ⟨hE', hmv, hmr⟩ := Ep.rebase (S0 := S) hE hI
            replace hx0 := Kd.keep _ hx0 hmv
            replace hq_12 := Arr.keep hq_12 hmv
            replace hE_108 := El.keep hE_108 hmv
            replace hq_117 := Arr.keep hq_117 hmv
            replace hq_95 := Row.keep hq_95 hmv (fun b hb => hmr b (by rw [← hb]; first | (simp; done) | simp [rb]))
            replace hE := hE'
            replace hI := hI.rebase
            clear hE' hmv hmr
            obtain rfl := Option.some.inj H1
            exact ⟨_, rfl, ⟨_, _, _, _, hx0, hq_95, hq_12, hE, hI.pick [47, 46, 45, 8, 5, 19, 4, 2, 0, 1] 2 ⟨[⟨47, [], .v (.int .i64 (IntKind.i64.wrap (s3.1 + 1)))⟩, ⟨46, [], .v (.int .i64 (s1.length : Int))⟩, ⟨45, [], .v (.slice A_26 s1.length c_27)⟩, ⟨8, [], .v (.slice A_123 (s3.2 ++ [s3.1]).length c_124)⟩, ⟨5, [], .p 1 0⟩, ⟨19, [], .v (.bool (decide (a1 < 0) || decide (a1 ≥ (x0.Parts.length : Int))))⟩, ⟨4, [], .v (.slice none 0 0)⟩, ⟨2, [], .p 0 0⟩, ⟨0, [], .v (.agg ((kd_Config).cells x0 (svL [((sv0 0).1, (sv0 0).2), ((sv0 1).1, (sv0 1).2), ((sv0 2).1, (sv0 2).2), ((sv0 3).1, (sv0 3).2)])).toArray)⟩, ⟨1, [], .v (.int .i64 a1)⟩], [], [], [((((kd_Config).cells x0 sv0).map EV.v), 29), ([.v (.slice A_26 s1.length c_27)], 77)], some (w.heap.size, none), none⟩ (by kernel_rfl)⟩⟩
          · replace H1 := bif_f hc_113 H1
            refine wpIn_skip ?_
            refine inBlock_normal ?_
            refine then_normal ?_
            refine region_ (live := [47, 52, 10, 9, 48, 46, 45, 8, 5, 19, 4, 2, 0, 1]) (orc := []) hF hI ⟨[⟨47, [], .v (.int .i64 (IntKind.i64.wrap (s3.1 + 1)))⟩, ⟨52, [], .v (.bool (rd s1 s3.1))⟩, ⟨10, [], .v (.bool (rd s1 s3.1))⟩, ⟨9, [], .v (.int .i64 s3.1)⟩, ⟨48, [], .v (.bool (decide (s3.1 < (s1.length : Int))))⟩, ⟨46, [], .v (.int .i64 (s1.length : Int))⟩, ⟨45, [], .v (.slice A_26 s1.length c_27)⟩, ⟨8, [], .v (.slice A_97 s3.2.length c_98)⟩, ⟨5, [], .p 1 0⟩, ⟨19, [], .v (.bool (decide (a1 < 0) || decide (a1 ≥ (x0.Parts.length : Int))))⟩, ⟨4, [], .v (.slice none 0 0)⟩, ⟨2, [], .p 0 0⟩, ⟨0, [], .v (.agg ((kd_Config).cells x0 (svL [((sv0 0).1, (sv0 0).2), ((sv0 1).1, (sv0 1).2), ((sv0 2).1, (sv0 2).2), ((sv0 3).1, (sv0 3).2)])).toArray)⟩, ⟨1, [], .v (.int .i64 a1)⟩], [], [], [((((kd_Config).cells x0 sv0).map EV.v), 29), ([.v (.slice A_26 s1.length c_27)], 77)], some (w.heap.size, none), none⟩ [] (by kernel_rfl) trivial (fun ns_130 a w_131 hI _ => ?_)
            refine then_normal ?_
            obtain ⟨hE', hmv, hmr⟩ := Ep.rebase (S0 := S) hE hI
            replace hx0 := Kd.keep _ hx0 hmv
            replace hq_95 := Row.keep hq_95 hmv (fun b hb => hmr b (by rw [← hb]; first | (simp; done) | simp [rb]))
            replace hq_12 := Arr.keep hq_12 hmv
            replace hE_108 := El.keep hE_108 hmv
            replace hE := hE'
            replace hI := hI.rebase
            clear hE' hmv hmr
            obtain rfl := Option.some.inj H1
            exact ⟨_, rfl, ⟨_, _, _, _, hx0, hq_95, hq_12, hE, hI.pick [47, 46, 45, 8, 5, 19, 4, 2, 0, 1] 2 ⟨[⟨47, [], .v (.int .i64 (IntKind.i64.wrap (s3.1 + 1)))⟩, ⟨46, [], .v (.int .i64 (s1.length : Int))⟩, ⟨45, [], .v (.slice A_26 s1.length c_27)⟩, ⟨8, [], .v (.slice A_97 s3.2.length c_98)⟩, ⟨5, [], .p 1 0⟩, ⟨19, [], .v (.bool (decide (a1 < 0) || decide (a1 ≥ (x0.Parts.length : Int))))⟩, ⟨4, [], .v (.slice none 0 0)⟩, ⟨2, [], .p 0 0⟩, ⟨0, [], .v (.agg ((kd_Config).cells x0 (svL [((sv0 0).1, (sv0 0).2), ((sv0 1).1, (sv0 1).2), ((sv0 2).1, (sv0 2).2), ((sv0 3).1, (sv0 3).2)])).toArray)⟩, ⟨1, [], .v (.int .i64 a1)⟩], [], [], [((((kd_Config).cells x0 sv0).map EV.v), 29), ([.v (.slice A_26 s1.length c_27)], 77)], some (w.heap.size, none), none⟩ (by kernel_rfl)⟩⟩
        · replace H1 := bif_f hc_104 H1
          refine wpIn_exit ?_
          refine then_exit ?_
          refine then_exit ?_
          obtain ⟨hE', hmv, hmr⟩ := Ep.rebase (S0 := S) hE hI
          replace hx0 := Kd.keep _ hx0 hmv
          replace hq_95 := Row.keep hq_95 hmv (fun b hb => hmr b (by rw [← hb]; first | (simp; done) | simp [rb]))
          replace hq_12 := Arr.keep hq_12 hmv
          replace hE := hE'
          replace hI := hI.rebase
          clear hE' hmv hmr
          obtain rfl := Option.some.inj H1
          exact .inl ⟨_, rfl, rfl, ⟨_, _, _, _, hx0, hq_95, hq_12, hE, hI.pick [47, 46, 45, 8, 5, 19, 4, 2, 0, 1] 2 ⟨[⟨47, [], .v (.int .i64 s3.1)⟩, ⟨46, [], .v (.int .i64 (s1.length : Int))⟩, ⟨45, [], .v (.slice A_26 s1.length c_27)⟩, ⟨8, [], .v (.slice A_97 s3.2.length c_98)⟩, ⟨5, [], .p 1 0⟩, ⟨19, [], .v (.bool (decide (a1 < 0) || decide (a1 ≥ (x0.Parts.length : Int))))⟩, ⟨4, [], .v (.slice none 0 0)⟩, ⟨2, [], .p 0 0⟩, ⟨0, [], .v (.agg ((kd_Config).cells x0 (svL [((sv0 0).1, (sv0 0).2), ((sv0 1).1, (sv0 1).2), ((sv0 2).1, (sv0 2).2), ((sv0 3).1, (sv0 3).2)])).toArray)⟩, ⟨1, [], .v (.int .i64 a1)⟩], [], [], [((((kd_Config).cells x0 sv0).map EV.v), 29), ([.v (.slice A_26 s1.length c_27)], 77)], some (w.heap.size, none), none⟩ (by kernel_rfl)⟩⟩
      · clear hI hE
        rintro s3 a w_134 ho ⟨ow_136, ns_135, A_97, c_98, hx0, hq_95, hq_12, hE, hI⟩
        subst ho
        replace H0 : (some s3.2 : Option ((List Int))) = _ := H0
        refine then_normal ?_
        refine seq_region (live := [4, 47, 46, 45, 8, 5, 19, 2, 0, 1]) (orc := []) hF hI ⟨[⟨4, [], .v (.slice A_97 s3.2.length c_98)⟩, ⟨47, [], .v (.int .i64 s3.1)⟩, ⟨46, [], .v (.int .i64 (s1.length : Int))⟩, ⟨45, [], .v (.slice A_26 s1.length c_27)⟩, ⟨8, [], .v (.slice A_97 s3.2.length c_98)⟩, ⟨5, [], .p 1 0⟩, ⟨19, [], .v (.bool (decide (a1 < 0) || decide (a1 ≥ (x0.Parts.length : Int))))⟩, ⟨2, [], .p 0 0⟩, ⟨0, [], .v (.agg ((kd_Config).cells x0 (svL [((sv0 0).1, (sv0 0).2), ((sv0 1).1, (sv0 1).2), ((sv0 2).1, (sv0 2).2), ((sv0 3).1, (sv0 3).2)])).toArray)⟩, ⟨1, [], .v (.int .i64 a1)⟩], [], [], [((((kd_Config).cells x0 sv0).map EV.v), 29), ([.v (.slice A_26 s1.length c_27)], 77)], some (w.heap.size, none), none⟩ [] (by kernel_rfl) trivial (fun ns_137 a w_138 hI _ => ?_)
        obtain ⟨hE', hmv, hmr⟩ := Ep.rebase (S0 := S) hE hI
        replace hx0 := Kd.keep _ hx0 hmv
        replace hq_95 := Row.keep hq_95 hmv (fun b hb => hmr b (by rw [← hb]; first | (simp; done) | simp [rb]))
        replace hq_12 := Arr.keep hq_12 hmv
        replace hE := hE'
        replace hI := hI.rebase
        clear hE' hmv hmr
        obtain ⟨hE', hmv, hq_95, hcap_139⟩ := Row.still (l1 := []) (l2 := []) hq_95 hE
        have hmr : ∀ b : Nat, some b ∈ ([rb A_97] : List (Option Nat)) → w_138.heap[b]? = w_138.heap[b]? := fun _ _ => rfl
        replace hx0 := Kd.keep _ hx0 hmv
        replace hq_12 := Arr.keep hq_12 hmv
        replace hE := hE'
        clear hE' hmv hmr
        refine wpIn_ret ?_
        refine inScope_ret ?_
        obtain rfl := Option.some.inj H0
        exact retM hI rfl rfl rfl (fun wz hz => ⟨svL [(A_97, c_98)], rfl, (hE.below hI).trans hz.below, ⟨Arr.keep (Arr.keep hq_95 (hE.out hI)) (hz.mv _), hcap_139⟩⟩)

/-! ### porthole/portholeref01.Same: function 18 -/
noncomputable def G_ref01_Same.b1 (l0 : (List Int)) (l1 : (List Int)) (s1 : Int × Bool) : Option (Stp (Int × Bool) (Ex (Int × Bool) (Bool))) := (bif decide (s1.1 < (l0.length : Int)) then (req (inb s1.1 l0.length) (req (inb s1.1 l1.length) (bif ((rd l0 s1.1) != (rd l1 s1.1)) then some (.out (.ret false)) else some (.next ((IntKind.i64.wrap (s1.1 + 1)), s1.2))))) else some (.out (.brk (s1.1, s1.2))))
noncomputable def G_ref01_Same (l0 : (List Int)) (l1 : (List Int)) : Option (Bool) := (bif ((l0.length : Int) != (l1.length : Int)) then some false else ((loopω (G_ref01_Same.b1 l0 l1) (0, false)).bind fun o => o.on (fun s1 => some true) (fun r => some r)))
set_option maxRecDepth 100000 in
set_option maxHeartbeats 4000000 in
theorem G_ref01_Same.calls (l0 : (List Int)) (l1 : (List Int)) (A0 : Option Addr) (c0 : Nat) (A1 : Option Addr) (c1 : Nat) (w : World) {S : Nat → Prop} (hr0 : Arr (Kd.int .i64) S w A0 l0) (hc0 : l0.length ≤ c0) (hr1 : Arr (Kd.int .i64) S w A1 l1) (hc1 : l1.length ≤ c1) (r : Bool) (h : G_ref01_Same l0 l1 = some r) :
    Calls Try.prog 18 #[.slice A0 l0.length c0, .slice A1 l1.length c1] w fun e w' => e = .returned (.bool r) ∧ Below w.heap.size w w' := by
  replace hr0 := Arr.lo hr0
  replace hr1 := Arr.lo hr1
  unfold G_ref01_Same at h
  have H0 := h
  clear h
  refine enter Try.func18 rfl [.slice A0 l0.length c0, .slice A1 l1.length c1] (n := 26) rfl (Nat.le_of_ble_eq_true rfl) (fun a hI => ?_)
  have hF : FOpen Fence.wide := .inl rfl
  have hE := Ep.start w
  refine seq_region (live := [4, 0, 1]) (orc := []) hF hI ⟨[⟨4, [], .v (.bool false)⟩, ⟨0, [], .v (.slice A0 l0.length c0)⟩, ⟨1, [], .v (.slice A1 l1.length c1)⟩], [], [], [], none, none⟩ [] (by kernel_rfl) trivial (fun ns_1 a w_2 hI _ => ?_)
  refine wpIn_seq ?_
  refine seq_region (live := [10, 4, 0, 1]) (orc := []) hF hI ⟨[⟨10, [], .v (.bool ((l0.length : Int) != (l1.length : Int)))⟩, ⟨4, [], .v (.bool false)⟩, ⟨0, [], .v (.slice A0 l0.length c0)⟩, ⟨1, [], .v (.slice A1 l1.length c1)⟩], [], [], [], none, none⟩ [] (by kernel_rfl) trivial (fun ns_3 a w_4 hI _ => ?_)
  refine cond_ hI (((l0.length : Int) != (l1.length : Int))) rfl (fun hc_5 => ?_) (fun hc_5 => ?_)
  · replace H0 := bif_t hc_5 H0
    refine seq_region (live := [4, 10, 0, 1]) (orc := []) hF hI ⟨[⟨4, [], .v (.bool false)⟩, ⟨10, [], .v (.bool ((l0.length : Int) != (l1.length : Int)))⟩, ⟨0, [], .v (.slice A0 l0.length c0)⟩, ⟨1, [], .v (.slice A1 l1.length c1)⟩], [], [], [], none, none⟩ [] (by kernel_rfl) trivial (fun ns_6 a w_7 hI _ => ?_)
    refine wpIn_ret ?_
    refine then_ret ?_
    obtain rfl := Option.some.inj H0
    exact ret1 hI rfl rfl ⟨rfl, hE.below hI⟩
  · replace H0 := bif_f hc_5 H0
    refine wpIn_skip ?_
    refine then_normal ?_
    refine wpIn_seq ?_
    refine seq_region (live := [5, 10, 4, 0, 1]) (orc := []) hF hI ⟨[⟨5, [], .v (.int .i64 0)⟩, ⟨10, [], .v (.bool ((l0.length : Int) != (l1.length : Int)))⟩, ⟨4, [], .v (.bool false)⟩, ⟨0, [], .v (.slice A0 l0.length c0)⟩, ⟨1, [], .v (.slice A1 l1.length c1)⟩], [], [], [], none, none⟩ [] (by kernel_rfl) trivial (fun ns_8 a w_9 hI _ => ?_)
    obtain ⟨o_29, hL_30, H0⟩ := bind_some H0
    refine block_loop (fun (s1 : Int × Bool) a w_35 => ∃ ns, St w [] 26 ⟨[⟨5, [], .v (.int .i64 s1.1)⟩, ⟨10, [], .v (.bool ((l0.length : Int) != (l1.length : Int)))⟩, ⟨4, [], .v (.bool s1.2)⟩, ⟨0, [], .v (.slice A0 l0.length c0)⟩, ⟨1, [], .v (.slice A1 l1.length c1)⟩], [], [], [], none, none⟩ ns a w_35) (0, false) hL_30 ⟨_, hI.pick [5, 10, 4, 0, 1] 0 ⟨[⟨5, [], .v (.int .i64 0)⟩, ⟨10, [], .v (.bool ((l0.length : Int) != (l1.length : Int)))⟩, ⟨4, [], .v (.bool false)⟩, ⟨0, [], .v (.slice A0 l0.length c0)⟩, ⟨1, [], .v (.slice A1 l1.length c1)⟩], [], [], [], none, none⟩ (by kernel_rfl)⟩ ?_ ?_
    · clear hI
      rintro s1 a w_10 ⟨ns_11, hI⟩ r1 H1
      unfold G_ref01_Same.b1 at H1
      refine wpIn_seq ?_
      refine seq_region (live := [14, 5, 10, 4, 0, 1]) (orc := []) hF hI ⟨[⟨14, [], .v (.bool (decide (s1.1 < (l0.length : Int))))⟩, ⟨5, [], .v (.int .i64 s1.1)⟩, ⟨10, [], .v (.bool ((l0.length : Int) != (l1.length : Int)))⟩, ⟨4, [], .v (.bool s1.2)⟩, ⟨0, [], .v (.slice A0 l0.length c0)⟩, ⟨1, [], .v (.slice A1 l1.length c1)⟩], [], [], [], none, none⟩ [] (by kernel_rfl) trivial (fun ns_12 a w_13 hI _ => ?_)
      refine cond_ hI (decide (s1.1 < (l0.length : Int))) rfl (fun hc_14 => ?_) (fun hc_14 => ?_)
      · replace H1 := bif_t hc_14 H1
        refine wpIn_skip ?_
        refine then_normal ?_
        refine wpIn_seq ?_
        refine wpIn_block ?_
        refine wpIn_seq ?_
        obtain ⟨hN_15, H1⟩ := req_some H1
        obtain ⟨sv_16, hE_18, hA_17⟩ := Arr.elB (d := (Kd.int .i64)) hr0 s1.1 true (fun _ => hN_15)
        replace hE_18 := hE_18 rfl
        replace hA_17 := fun (_ : true = true) => hA_17 rfl
        obtain ⟨hN_19, H1⟩ := req_some H1
        obtain ⟨sv_20, hE_22, hA_21⟩ := Arr.elB (d := (Kd.int .i64)) hr1 s1.1 true (fun _ => hN_19)
        replace hE_22 := hE_22 rfl
        replace hA_21 := fun (_ : true = true) => hA_21 rfl
        refine drawn_ (live := [25, 14, 5, 10, 4, 0, 1]) (orc := [[.int .i64 (rd l0 s1.1)], [.int .i64 (rd l1 s1.1)]]) hF hI ⟨[⟨25, [], .v (.bool ((rd l0 s1.1) != (rd l1 s1.1)))⟩, ⟨14, [], .v (.bool (decide (s1.1 < (l0.length : Int))))⟩, ⟨5, [], .v (.int .i64 s1.1)⟩, ⟨10, [], .v (.bool ((l0.length : Int) != (l1.length : Int)))⟩, ⟨4, [], .v (.bool s1.2)⟩, ⟨0, [], .v (.slice A0 l0.length c0)⟩, ⟨1, [], .v (.slice A1 l1.length c1)⟩], [], [], [], none, none⟩ [.need true (0 ≤ s1.1 ∧ s1.1 < (l0.length : Int)), .need true (A0 = some (adr A0)), .cell true ((adr A0).add ((s1.1 : Int).toNat * 1)) [.int .i64 (rd l0 s1.1)], .need true (0 ≤ s1.1 ∧ s1.1 < (l1.length : Int)), .need true (A1 = some (adr A1)), .cell true ((adr A1).add ((s1.1 : Int).toNat * 1)) [.int .i64 (rd l1 s1.1)]] (by kernel_rfl) (by kernel_rfl) (by kernel_rfl) ⟨ob_inb (fun _ => hN_15), hA_17, ob_el (fun _ => hE_18) 0 [.int .i64 (rd l0 s1.1)] rfl, ob_inb (fun _ => hN_19), hA_21, ob_el (fun _ => hE_22) 0 [.int .i64 (rd l1 s1.1)] rfl, trivial⟩ (fun a w_23 hI => ?_)
        refine then_normal ?_
        refine cond_ hI (((rd l0 s1.1) != (rd l1 s1.1))) rfl (fun hc_24 => ?_) (fun hc_24 => ?_)
        · replace H1 := bif_t hc_24 H1
          refine seq_region (live := [4, 25, 14, 5, 10, 0, 1]) (orc := []) hF hI ⟨[⟨4, [], .v (.bool false)⟩, ⟨25, [], .v (.bool ((rd l0 s1.1) != (rd l1 s1.1)))⟩, ⟨14, [], .v (.bool (decide (s1.1 < (l0.length : Int))))⟩, ⟨5, [], .v (.int .i64 s1.1)⟩, ⟨10, [], .v (.bool ((l0.length : Int) != (l1.length : Int)))⟩, ⟨0, [], .v (.slice A0 l0.length c0)⟩, ⟨1, [], .v (.slice A1 l1.length c1)⟩], [], [], [], none, none⟩ [] (by kernel_rfl) trivial (fun ns_25 a w_26 hI _ => ?_)
          refine wpIn_ret ?_
          refine inBlock_ret ?_
          refine then_ret ?_
          refine then_ret ?_
          obtain rfl := Option.some.inj H1
          refine .inr ⟨_, rfl, fun ho => ?_⟩
          subst ho
          refine inBlock_ret ?_
          refine then_ret ?_
          obtain rfl := Option.some.inj H0
          exact ret1 hI rfl rfl ⟨rfl, hE.below hI⟩
        · replace H1 := bif_f hc_24 H1
          refine wpIn_skip ?_
          refine inBlock_normal ?_
          refine then_normal ?_
          refine region_ (live := [5, 25, 14, 10, 4, 0, 1]) (orc := []) hF hI ⟨[⟨5, [], .v (.int .i64 (IntKind.i64.wrap (s1.1 + 1)))⟩, ⟨25, [], .v (.bool ((rd l0 s1.1) != (rd l1 s1.1)))⟩, ⟨14, [], .v (.bool (decide (s1.1 < (l0.length : Int))))⟩, ⟨10, [], .v (.bool ((l0.length : Int) != (l1.length : Int)))⟩, ⟨4, [], .v (.bool s1.2)⟩, ⟨0, [], .v (.slice A0 l0.length c0)⟩, ⟨1, [], .v (.slice A1 l1.length c1)⟩], [], [], [], none, none⟩ [] (by kernel_rfl) trivial (fun ns_27 a w_28 hI _ => ?_)
          refine then_normal ?_
          obtain rfl := Option.some.inj H1
          exact ⟨_, rfl, ⟨_, hI.pick [5, 10, 4, 0, 1] 0 ⟨[⟨5, [], .v (.int .i64 (IntKind.i64.wrap (s1.1 + 1)))⟩, ⟨10, [], .v (.bool ((l0.length : Int) != (l1.length : Int)))⟩, ⟨4, [], .v (.bool s1.2)⟩, ⟨0, [], .v (.slice A0 l0.length c0)⟩, ⟨1, [], .v (.slice A1 l1.length c1)⟩], [], [], [], none, none⟩ (by kernel_rfl)⟩⟩
      · replace H1 := bif_f hc_14 H1
        refine wpIn_exit ?_
        refine then_exit ?_
        refine then_exit ?_
        obtain rfl := Option.some.inj H1
        exact .inl ⟨_, rfl, rfl, ⟨_, hI.pick [5, 10, 4, 0, 1] 0 ⟨[⟨5, [], .v (.int .i64 s1.1)⟩, ⟨10, [], .v (.bool ((l0.length : Int) != (l1.length : Int)))⟩, ⟨4, [], .v (.bool s1.2)⟩, ⟨0, [], .v (.slice A0 l0.length c0)⟩, ⟨1, [], .v (.slice A1 l1.length c1)⟩], [], [], [], none, none⟩ (by kernel_rfl)⟩⟩
    · clear hI
      rintro s1 a w_31 ho ⟨ns_32, hI⟩
      subst ho
      replace H0 : (some true : Option (Bool)) = _ := H0
      refine then_normal ?_
      refine seq_region (live := [4, 5, 10, 0, 1]) (orc := []) hF hI ⟨[⟨4, [], .v (.bool true)⟩, ⟨5, [], .v (.int .i64 s1.1)⟩, ⟨10, [], .v (.bool ((l0.length : Int) != (l1.length : Int)))⟩, ⟨0, [], .v (.slice A0 l0.length c0)⟩, ⟨1, [], .v (.slice A1 l1.length c1)⟩], [], [], [], none, none⟩ [] (by kernel_rfl) trivial (fun ns_33 a w_34 hI _ => ?_)
      refine wpIn_ret ?_
      obtain rfl := Option.some.inj H0
      exact ret1 hI rfl rfl ⟨rfl, hE.below hI⟩

/-! ### porthole/portholelaw21.wakes: function 12 -/
noncomputable def G_law21_wakes  : Option (Bool) := ((G_law21_two (⟨1, 0, 1, 1, 0, 0, 0⟩ : Chan)).bind fun t_5 => ((G_law21_two (⟨2, 0, 1, 1, 1, 0, 0⟩ : Chan)).bind fun t_12 => ((G_flow_Into t_5 1).bind fun t_21 => ((G_ref01_Same t_21 ([0, 1] : List Int)).bind fun t_31 => (bif t_31 then ((G_flow_Into t_5 0).bind fun t_38 => ((G_ref01_Same t_38 ([0] : List Int)).bind fun t_48 => (bif (t_31 && t_48) then ((G_flow_Into t_12 0).bind fun t_55 => ((G_ref01_Same t_55 ([0, 1] : List Int)).bind fun t_65 => some ((t_31 && t_48) && t_65))) else some false))) else some false)))))
set_option maxRecDepth 100000 in
set_option maxHeartbeats 4000000 in
theorem G_law21_wakes.calls   (w : World) {S : Nat → Prop}  (r : Bool) (h : G_law21_wakes = some r) :
    Calls Try.prog 12 #[] w fun e w' => e = .returned (.bool r) ∧ Below w.heap.size w w' := by
  unfold G_law21_wakes at h
  have H0 := h
  clear h
  refine enter Try.func12 rfl [] (n := 23) rfl (Nat.le_of_ble_eq_true rfl) (fun a hI => ?_)
  have hF : FOpen Fence.wide := .inl rfl
  have hE := Ep.start w
  refine seq_region (live := [0]) (orc := []) hF hI ⟨[⟨0, [], .v (.bool false)⟩], [], [], [], none, none⟩ [] (by kernel_rfl) trivial (fun ns_1 a w_2 hI _ => ?_)
  refine wpIn_seq ?_
  refine wpIn_region_lit ?_
  refine chunkL_ (live := [3, 0]) (orc := []) hF 1 hI ⟨[⟨3, [], .v (.agg #[.int .i64 1, .int .i64 0, .int .i64 1, .int .i64 1, .int .i64 0, .int .i64 0, .int .u32 0])⟩, ⟨0, [], .v (.bool false)⟩], [], [], [], none, none⟩ [] rfl (by kernel_rfl) trivial (fun ns_3 a w_4 hI => ?_)
  obtain ⟨hE', hmv, hmr⟩ := Ep.rebase (S0 := S) hE hI
  replace hE := hE'
  replace hI := hI.rebase
  clear hE' hmv hmr
  obtain ⟨t_5, hG_6, H0⟩ := bind_some H0
  refine callH_ (S0 := S) hF hE hI (wanted_none rfl) rfl (args := [.agg ((kd_Chan).cells (⟨1, 0, 1, 1, 0, 0, 0⟩ : Chan) (svL [])).toArray]) rfl (enters Try.func38 (by kernel_rfl) rfl) (fun sv_7 => .agg ((kd_Config).cells t_5 sv_7).toArray) _ (G_law21_two.calls (⟨1, 0, 1, 1, 0, 0, 0⟩ : Chan) (svL []) w_4 (S := Lo S w w_4 ns_3 []) (contI (S := Lo S w w_4 ns_3 []) (w := w_4) (d := kd_Chan) (x := (⟨1, 0, 1, 1, 0, 0, 0⟩ : Chan)) (sv := (svL [])) trivial) _ hG_6) (fun sv_7 => ⟨[⟨4, [], .v (.agg ((kd_Config).cells t_5 sv_7).toArray)⟩, ⟨3, [], .v (.agg ((kd_Chan).cells (⟨1, 0, 1, 1, 0, 0, 0⟩ : Chan) (svL [])).toArray)⟩, ⟨0, [], .v (.bool false)⟩], [], [], [], none, none⟩) (fun sv_7 => by kernel_rfl) (fun sv_7 a w_9 hput hE' hI' hmv hmr hres hR => ?_)
  replace hE := hE'
  replace hI := hI'
  clear hE' hI' hmv hmr
  have hR_8 := hR
  replace hR_8 := Kd.keep _ hR_8 hres
  clear hres
  refine chunkL_ (live := [5, 4, 0]) (orc := []) hF 1 hI ⟨[⟨5, [], .v (.agg #[.int .i64 2, .int .i64 0, .int .i64 1, .int .i64 1, .int .i64 1, .int .i64 0, .int .u32 0])⟩, ⟨4, [], .v (.agg ((kd_Config).cells t_5 sv_7).toArray)⟩, ⟨0, [], .v (.bool false)⟩], [], [], [], none, none⟩ [] rfl (by kernel_rfl) trivial (fun ns_10 a w_11 hI => ?_)
  obtain ⟨hE', hmv, hmr⟩ := Ep.rebase (S0 := S) hE hI
  replace hR_8 := Kd.keep _ hR_8 hmv
  replace hE := hE'
  replace hI := hI.rebase
  clear hE' hmv hmr
  obtain ⟨t_12, hG_13, H0⟩ := bind_some H0
  refine callH_ (S0 := S) hF hE hI (wanted_none rfl) rfl (args := [.agg ((kd_Chan).cells (⟨2, 0, 1, 1, 1, 0, 0⟩ : Chan) (svL [])).toArray]) rfl (enters Try.func38 (by kernel_rfl) rfl) (fun sv_14 => .agg ((kd_Config).cells t_12 sv_14).toArray) _ (G_law21_two.calls (⟨2, 0, 1, 1, 1, 0, 0⟩ : Chan) (svL []) w_11 (S := Lo S w w_11 ns_10 []) (contI (S := Lo S w w_11 ns_10 []) (w := w_11) (d := kd_Chan) (x := (⟨2, 0, 1, 1, 1, 0, 0⟩ : Chan)) (sv := (svL [])) trivial) _ hG_13) (fun sv_14 => ⟨[⟨6, [], .v (.agg ((kd_Config).cells t_12 sv_14).toArray)⟩, ⟨5, [], .v (.agg ((kd_Chan).cells (⟨2, 0, 1, 1, 1, 0, 0⟩ : Chan) (svL [])).toArray)⟩, ⟨4, [], .v (.agg ((kd_Config).cells t_5 sv_7).toArray)⟩, ⟨0, [], .v (.bool false)⟩], [], [], [], none, none⟩) (fun sv_14 => by kernel_rfl) (fun sv_14 a w_16 hput hE' hI' hmv hmr hres hR => ?_)
  replace hR_8 := Kd.keep _ hR_8 hmv
  replace hE := hE'
  replace hI := hI'
  clear hE' hI' hmv hmr
  have hR_15 := hR
  replace hR_15 := Kd.keep _ hR_15 hres
  clear hres
  refine chunkL_ (live := [2, 1, 0]) (orc := []) hF 4 hI ⟨[⟨2, [], .p 1 0⟩, ⟨1, [], .p 0 0⟩, ⟨0, [], .v (.bool false)⟩], [], [], [((((kd_Config).cells t_5 sv_7).map EV.v), 29), ((((kd_Config).cells t_12 sv_14).map EV.v), 29)], none, none⟩ [] rfl (by kernel_rfl) trivial (fun ns_17 a w_18 hI => ?_)
  refine wpListIn_nil ?_
  refine then_normal ?_
  refine wpIn_seq ?_
  refine wpIn_region_lit ?_
  refine chunkL_ (live := [7, 2, 1, 0]) (orc := []) hF 1 hI ⟨[⟨7, [], .v (.agg ((kd_Config).cells t_5 sv_7).toArray)⟩, ⟨2, [], .p 1 0⟩, ⟨1, [], .p 0 0⟩, ⟨0, [], .v (.bool false)⟩], [], [], [((((kd_Config).cells t_5 sv_7).map EV.v), 29), ((((kd_Config).cells t_12 sv_14).map EV.v), 29)], none, none⟩ [] rfl (by kernel_rfl) trivial (fun ns_19 a w_20 hI => ?_)
  obtain ⟨hE', hmv, hmr⟩ := Ep.rebase (S0 := S) hE hI
  replace hR_8 := Kd.keep _ hR_8 hmv
  replace hR_15 := Kd.keep _ hR_15 hmv
  replace hE := hE'
  replace hI := hI.rebase
  clear hE' hmv hmr
  obtain ⟨t_21, hG_22, H0⟩ := bind_some H0
  refine callH_ (S0 := S) hF hE hI (wanted_none rfl) rfl (args := [.agg ((kd_Config).cells t_5 (svL [((sv_7 0).1, (sv_7 0).2), ((sv_7 1).1, (sv_7 1).2), ((sv_7 2).1, (sv_7 2).2), ((sv_7 3).1, (sv_7 3).2)])).toArray, .int .i64 1]) rfl (enters Try.func17 (by kernel_rfl) rfl) (fun sv_23 => .slice ((sv_23 0).1) t_21.length ((sv_23 0).2)) _ (G_flow_Into.calls t_5 1 (svL [((sv_7 0).1, (sv_7 0).2), ((sv_7 1).1, (sv_7 1).2), ((sv_7 2).1, (sv_7 2).2), ((sv_7 3).1, (sv_7 3).2)]) w_20 (S := Lo S w w_20 ns_19 []) (contI (d := kd_Config) (x := t_5) (sv := (svL [((sv_7 0).1, (sv_7 0).2), ((sv_7 1).1, (sv_7 1).2), ((sv_7 2).1, (sv_7 2).2), ((sv_7 3).1, (sv_7 3).2)])) ⟨⟨hR_8.1.1, hR_8.1.2⟩, ⟨hR_8.2.1.1, hR_8.2.1.2⟩, ⟨hR_8.2.2.1.1, hR_8.2.2.1.2⟩, ⟨hR_8.2.2.2.1.1, hR_8.2.2.2.1.2⟩, trivial⟩) _ hG_22) (fun sv_23 => ⟨[⟨8, [], .v (.slice ((sv_23 0).1) t_21.length ((sv_23 0).2))⟩, ⟨7, [], .v (.agg ((kd_Config).cells t_5 (svL [((sv_7 0).1, (sv_7 0).2), ((sv_7 1).1, (sv_7 1).2), ((sv_7 2).1, (sv_7 2).2), ((sv_7 3).1, (sv_7 3).2)])).toArray)⟩, ⟨2, [], .p 1 0⟩, ⟨1, [], .p 0 0⟩, ⟨0, [], .v (.bool false)⟩], [], [], [((((kd_Config).cells t_5 sv_7).map EV.v), 29), ((((kd_Config).cells t_12 sv_14).map EV.v), 29)], none, none⟩) (fun sv_23 => by kernel_rfl) (fun sv_23 a w_25 hput hE' hI' hmv hmr hres hR => ?_)
  replace hR_8 := Kd.keep _ hR_8 hmv
  replace hR_15 := Kd.keep _ hR_15 hmv
  replace hE := hE'
  replace hI := hI'
  clear hE' hI' hmv hmr
  obtain ⟨hR_24, hR_24c⟩ := hR
  replace hR_24 := Arr.keep hR_24 hres
  clear hres
  refine chunkL_ (live := [8, 2, 1, 0]) (orc := []) hF 0 hI ⟨[⟨8, [], .v (.slice ((sv_23 0).1) t_21.length ((sv_23 0).2))⟩, ⟨2, [], .p 1 0⟩, ⟨1, [], .p 0 0⟩, ⟨0, [], .v (.bool false)⟩], [], [], [((((kd_Config).cells t_5 sv_7).map EV.v), 29), ((((kd_Config).cells t_12 sv_14).map EV.v), 29)], none, none⟩ [] rfl (by kernel_rfl) trivial (fun ns_26 a w_27 hI => ?_)
  obtain ⟨hE', hmv, hmr⟩ := Ep.rebase (S0 := S) hE hI
  replace hR_8 := Kd.keep _ hR_8 hmv
  replace hR_15 := Kd.keep _ hR_15 hmv
  replace hR_24 := Arr.keep hR_24 hmv
  replace hE := hE'
  replace hI := hI.rebase
  clear hE' hmv hmr
  refine buildSlice_ (S0 := S) (d := (Kd.int .i64)) (e := 3) hF hE hI (wanted_none rfl) rfl (by kernel_rfl) (cs := [.int .i64 0, .int .i64 1]) (by kernel_rfl) [0, 1] [(svL []), (svL [])] rfl rfl (by simp [maxLen]) (fun i x hi => by cases i with | zero => (simp only [List.getElem?_cons_zero, Option.some.injEq] at hi; subst hi; exact ⟨trivial, rfl⟩) | succ i => (simp only [List.getElem?_cons_succ] at hi; cases i with | zero => (simp only [List.getElem?_cons_zero, Option.some.injEq] at hi; subst hi; exact ⟨trivial, rfl⟩) | succ i => (simp only [List.getElem?_cons_succ] at hi; simp at hi))) (fun A_28 => ⟨[⟨9, [], .v (.slice A_28 ([0, 1] : List Int).length (([0, 1] : List Int).length))⟩, ⟨8, [], .v (.slice ((sv_23 0).1) t_21.length ((sv_23 0).2))⟩, ⟨2, [], .p 1 0⟩, ⟨1, [], .p 0 0⟩, ⟨0, [], .v (.bool false)⟩], [], [], [((((kd_Config).cells t_5 sv_7).map EV.v), 29), ((((kd_Config).cells t_12 sv_14).map EV.v), 29)], none, none⟩) (fun A_28 => by kernel_rfl) (fun A_28 a w_30 hput hE' hI' hmv hmr hq_29 => ?_)
  replace hR_8 := Kd.keep _ hR_8 hmv
  replace hR_15 := Kd.keep _ hR_15 hmv
  replace hR_24 := Arr.keep hR_24 hmv
  replace hE := hE'
  replace hI := hI'
  clear hE' hI' hmv hmr
  obtain ⟨t_31, hG_32, H0⟩ := bind_some H0
  refine chunkT_ (liveT := [12, 11, 2, 1, 0]) (liveF := [11, 2, 1, 0]) (orc := [[.bool t_31]]) hF 3 hI (t_31) ⟨[⟨12, [], .v (.agg ((kd_Config).cells t_5 (svL [((sv_7 0).1, (sv_7 0).2), ((sv_7 1).1, (sv_7 1).2), ((sv_7 2).1, (sv_7 2).2), ((sv_7 3).1, (sv_7 3).2)])).toArray)⟩, ⟨11, [], .v (.bool t_31)⟩, ⟨2, [], .p 1 0⟩, ⟨1, [], .p 0 0⟩, ⟨0, [], .v (.bool false)⟩], [], [], [((((kd_Config).cells t_5 sv_7).map EV.v), 29), ((((kd_Config).cells t_12 sv_14).map EV.v), 29)], none, none⟩ ⟨[⟨11, [], .v (.bool t_31)⟩, ⟨2, [], .p 1 0⟩, ⟨1, [], .p 0 0⟩, ⟨0, [], .v (.bool false)⟩], [], [], [((((kd_Config).cells t_5 sv_7).map EV.v), 29), ((((kd_Config).cells t_12 sv_14).map EV.v), 29)], none, none⟩ [.call true 18 [.slice ((sv_23 0).1) t_21.length ((sv_23 0).2), .slice A_28 ([0, 1] : List Int).length (([0, 1] : List Int).length)] (.bool t_31)] rfl (by kernel_rfl) ⟨ob_call (enters Try.func18 (by kernel_rfl) rfl) (fun hg wz hk => G_ref01_Same.calls t_21 ([0, 1] : List Int) ((sv_23 0).1) ((sv_23 0).2) A_28 (([0, 1] : List Int).length) wz (S := fun _ => True) (Arr.any (Arr.keep hR_24 (Lo.on hk))) hR_24c (Row.arr (S' := fun _ => True) (Row.on hq_29 hE (by simp) hk) (fun _ _ => trivial) (fun _ _ => trivial)).1 (Row.arr (S' := fun _ => True) hq_29 (fun _ _ => trivial) (fun _ _ => trivial)).2 _ hG_32), trivial⟩ (fun hb_33 ns_34 a w_35 hI hW => ?_) (fun hb_33 ns_36 a w_37 hI hW => ?_)
  · replace H0 := bif_t hb_33 H0
    obtain ⟨hE', hmv, hmr⟩ := Ep.rebase (S0 := S) hE hI
    replace hR_8 := Kd.keep _ hR_8 hmv
    replace hR_15 := Kd.keep _ hR_15 hmv
    replace hR_24 := Arr.keep hR_24 hmv
    replace hq_29 := Row.keep hq_29 hmv (fun b hb => hmr b (by rw [← hb]; first | (simp; done) | simp [rb]))
    replace hE := hE'
    replace hI := hI.rebase
    clear hE' hmv hmr
    obtain ⟨t_38, hG_39, H0⟩ := bind_some H0
    refine callH_ (S0 := S) hF hE hI hW rfl (args := [.agg ((kd_Config).cells t_5 (svL [((sv_7 0).1, (sv_7 0).2), ((sv_7 1).1, (sv_7 1).2), ((sv_7 2).1, (sv_7 2).2), ((sv_7 3).1, (sv_7 3).2)])).toArray, .int .i64 0]) rfl (enters Try.func17 (by kernel_rfl) rfl) (fun sv_40 => .slice ((sv_40 0).1) t_38.length ((sv_40 0).2)) _ (G_flow_Into.calls t_5 0 (svL [((sv_7 0).1, (sv_7 0).2), ((sv_7 1).1, (sv_7 1).2), ((sv_7 2).1, (sv_7 2).2), ((sv_7 3).1, (sv_7 3).2)]) w_35 (S := Lo S w w_35 ns_34 [rb A_28]) (contI (d := kd_Config) (x := t_5) (sv := (svL [((sv_7 0).1, (sv_7 0).2), ((sv_7 1).1, (sv_7 1).2), ((sv_7 2).1, (sv_7 2).2), ((sv_7 3).1, (sv_7 3).2)])) ⟨⟨hR_8.1.1, hR_8.1.2⟩, ⟨hR_8.2.1.1, hR_8.2.1.2⟩, ⟨hR_8.2.2.1.1, hR_8.2.2.1.2⟩, ⟨hR_8.2.2.2.1.1, hR_8.2.2.2.1.2⟩, trivial⟩) _ hG_39) (fun sv_40 => ⟨[⟨13, [], .v (.slice ((sv_40 0).1) t_38.length ((sv_40 0).2))⟩, ⟨12, [], .v (.agg ((kd_Config).cells t_5 (svL [((sv_7 0).1, (sv_7 0).2), ((sv_7 1).1, (sv_7 1).2), ((sv_7 2).1, (sv_7 2).2), ((sv_7 3).1, (sv_7 3).2)])).toArray)⟩, ⟨11, [], .v (.bool t_31)⟩, ⟨2, [], .p 1 0⟩, ⟨1, [], .p 0 0⟩, ⟨0, [], .v (.bool false)⟩], [], [], [((((kd_Config).cells t_5 sv_7).map EV.v), 29), ((((kd_Config).cells t_12 sv_14).map EV.v), 29)], none, none⟩) (fun sv_40 => by kernel_rfl) (fun sv_40 a w_42 hput hE' hI' hmv hmr hres hR => ?_)
    replace hR_8 := Kd.keep _ hR_8 hmv
    replace hR_15 := Kd.keep _ hR_15 hmv
    replace hR_24 := Arr.keep hR_24 hmv
    replace hq_29 := Row.keep hq_29 hmv (fun b hb => hmr b (by rw [← hb]; first | (simp; done) | simp [rb]) (by simp))
    replace hE := hE'
    replace hI := hI'
    clear hE' hI' hmv hmr
    obtain ⟨hR_41, hR_41c⟩ := hR
    replace hR_41 := Arr.keep hR_41 hres
    clear hres
    refine chunkL_ (live := [13, 11, 2, 1, 0]) (orc := []) hF 0 hI ⟨[⟨13, [], .v (.slice ((sv_40 0).1) t_38.length ((sv_40 0).2))⟩, ⟨11, [], .v (.bool t_31)⟩, ⟨2, [], .p 1 0⟩, ⟨1, [], .p 0 0⟩, ⟨0, [], .v (.bool false)⟩], [], [], [((((kd_Config).cells t_5 sv_7).map EV.v), 29), ((((kd_Config).cells t_12 sv_14).map EV.v), 29)], none, none⟩ [] rfl (by kernel_rfl) trivial (fun ns_43 a w_44 hI => ?_)
    refine unguardK_ hI t_31 (by kernel_rfl) (by simp [hb_33]) ?_
    obtain ⟨hE', hmv, hmr⟩ := Ep.rebase (S0 := S) hE hI
    replace hR_8 := Kd.keep _ hR_8 hmv
    replace hR_15 := Kd.keep _ hR_15 hmv
    replace hR_24 := Arr.keep hR_24 hmv
    replace hq_29 := Row.keep hq_29 hmv (fun b hb => hmr b (by rw [← hb]; first | (simp; done) | simp [rb]))
    replace hR_41 := Arr.keep hR_41 hmv
    replace hE := hE'
    replace hI := hI.rebase
    clear hE' hmv hmr
    refine buildSlice_ (S0 := S) (d := (Kd.int .i64)) (e := 3) hF hE hI (wanted_none rfl) rfl (by kernel_rfl) (cs := [.int .i64 0]) (by kernel_rfl) [0] [(svL [])] rfl rfl (by simp [maxLen]) (fun i x hi => by cases i with | zero => (simp only [List.getElem?_cons_zero, Option.some.injEq] at hi; subst hi; exact ⟨trivial, rfl⟩) | succ i => (simp only [List.getElem?_cons_succ] at hi; simp at hi)) (fun A_45 => ⟨[⟨14, [], .v (.slice A_45 ([0] : List Int).length (([0] : List Int).length))⟩, ⟨13, [], .v (.slice ((sv_40 0).1) t_38.length ((sv_40 0).2))⟩, ⟨11, [], .v (.bool t_31)⟩, ⟨2, [], .p 1 0⟩, ⟨1, [], .p 0 0⟩, ⟨0, [], .v (.bool false)⟩], [], [], [((((kd_Config).cells t_5 sv_7).map EV.v), 29), ((((kd_Config).cells t_12 sv_14).map EV.v), 29)], none, none⟩) (fun A_45 => by kernel_rfl) (fun A_45 a w_47 hput hE' hI' hmv hmr hq_46 => ?_)
    replace hR_8 := Kd.keep _ hR_8 hmv
    replace hR_15 := Kd.keep _ hR_15 hmv
    replace hR_24 := Arr.keep hR_24 hmv
    replace hq_29 := Row.keep hq_29 hmv (fun b hb => hmr b (by rw [← hb]; first | (simp; done) | simp [rb]) (by simp))
    replace hR_41 := Arr.keep hR_41 hmv
    replace hE := hE'
    replace hI := hI'
    clear hE' hI' hmv hmr
    refine unguardK_ hI t_31 (by kernel_rfl) (by simp [hb_33]) ?_
    obtain ⟨t_48, hG_49, H0⟩ := bind_some H0
    refine chunkT_ (liveT := [18, 17, 2, 1, 0]) (liveF := [17, 2, 1, 0]) (orc := [[.bool t_48]]) hF 4 hI ((t_31 && t_48)) ⟨[⟨18, [], .v (.agg ((kd_Config).cells t_12 sv_14).toArray)⟩, ⟨17, [], .v (.bool (t_31 && t_48))⟩, ⟨2, [], .p 1 0⟩, ⟨1, [], .p 0 0⟩, ⟨0, [], .v (.bool false)⟩], [], [], [((((kd_Config).cells t_5 sv_7).map EV.v), 29), ((((kd_Config).cells t_12 sv_14).map EV.v), 29)], none, none⟩ ⟨[⟨17, [], .v (.bool (t_31 && t_48))⟩, ⟨2, [], .p 1 0⟩, ⟨1, [], .p 0 0⟩, ⟨0, [], .v (.bool false)⟩], [], [], [((((kd_Config).cells t_5 sv_7).map EV.v), 29), ((((kd_Config).cells t_12 sv_14).map EV.v), 29)], none, none⟩ [.call true 18 [.slice ((sv_40 0).1) t_38.length ((sv_40 0).2), .slice A_45 ([0] : List Int).length (([0] : List Int).length)] (.bool t_48)] rfl (by kernel_rfl) ⟨ob_call (enters Try.func18 (by kernel_rfl) rfl) (fun hg wz hk => G_ref01_Same.calls t_38 ([0] : List Int) ((sv_40 0).1) ((sv_40 0).2) A_45 (([0] : List Int).length) wz (S := fun _ => True) (Arr.any (Arr.keep hR_41 (Lo.on hk))) hR_41c (Row.arr (S' := fun _ => True) (Row.on hq_46 hE (by simp) hk) (fun _ _ => trivial) (fun _ _ => trivial)).1 (Row.arr (S' := fun _ => True) hq_46 (fun _ _ => trivial) (fun _ _ => trivial)).2 _ hG_49), trivial⟩ (fun hb_50 ns_51 a w_52 hI hW => ?_) (fun hb_50 ns_53 a w_54 hI hW => ?_)
    · replace H0 := bif_t hb_50 H0
      obtain ⟨hE', hmv, hmr⟩ := Ep.rebase (S0 := S) hE hI
      replace hR_8 := Kd.keep _ hR_8 hmv
      replace hR_15 := Kd.keep _ hR_15 hmv
      replace hR_24 := Arr.keep hR_24 hmv
      replace hq_29 := Row.keep hq_29 hmv (fun b hb => hmr b (by rw [← hb]; first | (simp; done) | simp [rb]))
      replace hR_41 := Arr.keep hR_41 hmv
      replace hq_46 := Row.keep hq_46 hmv (fun b hb => hmr b (by rw [← hb]; first | (simp; done) | simp [rb]))
      replace hE := hE'
      replace hI := hI.rebase
      clear hE' hmv hmr
      obtain ⟨t_55, hG_56, H0⟩ := bind_some H0
      refine callH_ (S0 := S) hF hE hI hW rfl (args := [.agg ((kd_Config).cells t_12 (svL [((sv_14 0).1, (sv_14 0).2), ((sv_14 1).1, (sv_14 1).2), ((sv_14 2).1, (sv_14 2).2), ((sv_14 3).1, (sv_14 3).2)])).toArray, .int .i64 0]) rfl (enters Try.func17 (by kernel_rfl) rfl) (fun sv_57 => .slice ((sv_57 0).1) t_55.length ((sv_57 0).2)) _ (G_flow_Into.calls t_12 0 (svL [((sv_14 0).1, (sv_14 0).2), ((sv_14 1).1, (sv_14 1).2), ((sv_14 2).1, (sv_14 2).2), ((sv_14 3).1, (sv_14 3).2)]) w_52 (S := Lo S w w_52 ns_51 [rb A_28, rb A_45]) (contI (d := kd_Config) (x := t_12) (sv := (svL [((sv_14 0).1, (sv_14 0).2), ((sv_14 1).1, (sv_14 1).2), ((sv_14 2).1, (sv_14 2).2), ((sv_14 3).1, (sv_14 3).2)])) ⟨⟨hR_15.1.1, hR_15.1.2⟩, ⟨hR_15.2.1.1, hR_15.2.1.2⟩, ⟨hR_15.2.2.1.1, hR_15.2.2.1.2⟩, ⟨hR_15.2.2.2.1.1, hR_15.2.2.2.1.2⟩, trivial⟩) _ hG_56) (fun sv_57 => ⟨[⟨19, [], .v (.slice ((sv_57 0).1) t_55.length ((sv_57 0).2))⟩, ⟨18, [], .v (.agg ((kd_Config).cells t_12 (svL [((sv_14 0).1, (sv_14 0).2), ((sv_14 1).1, (sv_14 1).2), ((sv_14 2).1, (sv_14 2).2), ((sv_14 3).1, (sv_14 3).2)])).toArray)⟩, ⟨17, [], .v (.bool (t_31 && t_48))⟩, ⟨2, [], .p 1 0⟩, ⟨1, [], .p 0 0⟩, ⟨0, [], .v (.bool false)⟩], [], [], [((((kd_Config).cells t_5 sv_7).map EV.v), 29), ((((kd_Config).cells t_12 sv_14).map EV.v), 29)], none, none⟩) (fun sv_57 => by kernel_rfl) (fun sv_57 a w_59 hput hE' hI' hmv hmr hres hR => ?_)
      replace hR_8 := Kd.keep _ hR_8 hmv
      replace hR_15 := Kd.keep _ hR_15 hmv
      replace hR_24 := Arr.keep hR_24 hmv
      replace hq_29 := Row.keep hq_29 hmv (fun b hb => hmr b (by rw [← hb]; first | (simp; done) | simp [rb]) (by simp))
      replace hR_41 := Arr.keep hR_41 hmv
      replace hq_46 := Row.keep hq_46 hmv (fun b hb => hmr b (by rw [← hb]; first | (simp; done) | simp [rb]) (by simp))
      replace hE := hE'
      replace hI := hI'
      clear hE' hI' hmv hmr
      obtain ⟨hR_58, hR_58c⟩ := hR
      replace hR_58 := Arr.keep hR_58 hres
      clear hres
      refine chunkL_ (live := [19, 17, 2, 1, 0]) (orc := []) hF 0 hI ⟨[⟨19, [], .v (.slice ((sv_57 0).1) t_55.length ((sv_57 0).2))⟩, ⟨17, [], .v (.bool (t_31 && t_48))⟩, ⟨2, [], .p 1 0⟩, ⟨1, [], .p 0 0⟩, ⟨0, [], .v (.bool false)⟩], [], [], [((((kd_Config).cells t_5 sv_7).map EV.v), 29), ((((kd_Config).cells t_12 sv_14).map EV.v), 29)], none, none⟩ [] rfl (by kernel_rfl) trivial (fun ns_60 a w_61 hI => ?_)
      refine unguardK_ hI (t_31 && t_48) (by kernel_rfl) (by simp [hb_50]) ?_
      obtain ⟨hE', hmv, hmr⟩ := Ep.rebase (S0 := S) hE hI
      replace hR_8 := Kd.keep _ hR_8 hmv
      replace hR_15 := Kd.keep _ hR_15 hmv
      replace hR_24 := Arr.keep hR_24 hmv
      replace hq_29 := Row.keep hq_29 hmv (fun b hb => hmr b (by rw [← hb]; first | (simp; done) | simp [rb]))
      replace hR_41 := Arr.keep hR_41 hmv
      replace hq_46 := Row.keep hq_46 hmv (fun b hb => hmr b (by rw [← hb]; first | (simp; done) | simp [rb]))
      replace hR_58 := Arr.keep hR_58 hmv
      replace hE := hE'
      replace hI := hI.rebase
      clear hE' hmv hmr
      refine buildSlice_ (S0 := S) (d := (Kd.int .i64)) (e := 3) hF hE hI (wanted_none rfl) rfl (by kernel_rfl) (cs := [.int .i64 0, .int .i64 1]) (by kernel_rfl) [0, 1] [(svL []), (svL [])] rfl rfl (by simp [maxLen]) (fun i x hi => by cases i with | zero => (simp only [List.getElem?_cons_zero, Option.some.injEq] at hi; subst hi; exact ⟨trivial, rfl⟩) | succ i => (simp only [List.getElem?_cons_succ] at hi; cases i with | zero => (simp only [List.getElem?_cons_zero, Option.some.injEq] at hi; subst hi; exact ⟨trivial, rfl⟩) | succ i => (simp only [List.getElem?_cons_succ] at hi; simp at hi))) (fun A_62 => ⟨[⟨20, [], .v (.slice A_62 ([0, 1] : List Int).length (([0, 1] : List Int).length))⟩, ⟨19, [], .v (.slice ((sv_57 0).1) t_55.length ((sv_57 0).2))⟩, ⟨17, [], .v (.bool (t_31 && t_48))⟩, ⟨2, [], .p 1 0⟩, ⟨1, [], .p 0 0⟩, ⟨0, [], .v (.bool false)⟩], [], [], [((((kd_Config).cells t_5 sv_7).map EV.v), 29), ((((kd_Config).cells t_12 sv_14).map EV.v), 29)], none, none⟩) (fun A_62 => by kernel_rfl) (fun A_62 a w_64 hput hE' hI' hmv hmr hq_63 => ?_)
      replace hR_8 := Kd.keep _ hR_8 hmv
      replace hR_15 := Kd.keep _ hR_15 hmv
      replace hR_24 := Arr.keep hR_24 hmv
      replace hq_29 := Row.keep hq_29 hmv (fun b hb => hmr b (by rw [← hb]; first | (simp; done) | simp [rb]) (by simp))
      replace hR_41 := Arr.keep hR_41 hmv
      replace hq_46 := Row.keep hq_46 hmv (fun b hb => hmr b (by rw [← hb]; first | (simp; done) | simp [rb]) (by simp))
      replace hR_58 := Arr.keep hR_58 hmv
      replace hE := hE'
      replace hI := hI'
      clear hE' hI' hmv hmr
      refine unguardK_ hI (t_31 && t_48) (by kernel_rfl) (by simp [hb_50]) ?_
      obtain ⟨t_65, hG_66, H0⟩ := bind_some H0
      refine chunkL_ (live := [0, 2, 1]) (orc := [[.bool t_65]]) hF 3 hI ⟨[⟨0, [], .v (.bool ((t_31 && t_48) && t_65))⟩, ⟨2, [], .p 1 0⟩, ⟨1, [], .p 0 0⟩], [], [], [((((kd_Config).cells t_5 sv_7).map EV.v), 29), ((((kd_Config).cells t_12 sv_14).map EV.v), 29)], none, none⟩ [.call true 18 [.slice ((sv_57 0).1) t_55.length ((sv_57 0).2), .slice A_62 ([0, 1] : List Int).length (([0, 1] : List Int).length)] (.bool t_65)] rfl (by kernel_rfl) ⟨ob_call (enters Try.func18 (by kernel_rfl) rfl) (fun hg wz hk => G_ref01_Same.calls t_55 ([0, 1] : List Int) ((sv_57 0).1) ((sv_57 0).2) A_62 (([0, 1] : List Int).length) wz (S := fun _ => True) (Arr.any (Arr.keep hR_58 (Lo.on hk))) hR_58c (Row.arr (S' := fun _ => True) (Row.on hq_63 hE (by simp) hk) (fun _ _ => trivial) (fun _ _ => trivial)).1 (Row.arr (S' := fun _ => True) hq_63 (fun _ _ => trivial) (fun _ _ => trivial)).2 _ hG_66), trivial⟩ (fun ns_67 a w_68 hI => ?_)
      refine wpListIn_nil ?_
      refine then_normal ?_
      refine wpIn_ret ?_
      obtain rfl := Option.some.inj H0
      exact ret1 hI rfl rfl ⟨rfl, hE.below hI⟩
    · replace H0 := bif_f hb_50 H0
      refine skip1 hF hI hW ⟨[⟨17, [], .v (.bool (t_31 && t_48))⟩, ⟨2, [], .p 1 0⟩, ⟨1, [], .p 0 0⟩, ⟨0, [], .v (.bool false)⟩], [], [], [((((kd_Config).cells t_5 sv_7).map EV.v), 29), ((((kd_Config).cells t_12 sv_14).map EV.v), 29)], none, none⟩ (by kernel_rfl) (fun a hI => ?_)
      refine wantK_then hI (t_31 && t_48) (by kernel_rfl) (by simp [hb_50]) (fun hW => ?_)
      refine skip1 hF hI hW ⟨[⟨17, [], .v (.bool (t_31 && t_48))⟩, ⟨2, [], .p 1 0⟩, ⟨1, [], .p 0 0⟩, ⟨0, [], .v (.bool false)⟩], [], [], [((((kd_Config).cells t_5 sv_7).map EV.v), 29), ((((kd_Config).cells t_12 sv_14).map EV.v), 29)], none, none⟩ (by kernel_rfl) (fun a hI => ?_)
      refine wantK_then hI (t_31 && t_48) (by kernel_rfl) (by simp [hb_50]) (fun hW => ?_)
      refine skip1 hF hI hW ⟨[⟨17, [], .v (.bool (t_31 && t_48))⟩, ⟨2, [], .p 1 0⟩, ⟨1, [], .p 0 0⟩, ⟨0, [], .v (.bool false)⟩], [], [], [((((kd_Config).cells t_5 sv_7).map EV.v), 29), ((((kd_Config).cells t_12 sv_14).map EV.v), 29)], none, none⟩ (by kernel_rfl) (fun a hI => ?_)
      refine pick1 hF hI rfl rfl ((t_31 && t_48)) false rfl (by simp [hb_50]) rfl ⟨[⟨22, [], .v (.bool false)⟩, ⟨17, [], .v (.bool (t_31 && t_48))⟩, ⟨2, [], .p 1 0⟩, ⟨1, [], .p 0 0⟩, ⟨0, [], .v (.bool false)⟩], [], [], [((((kd_Config).cells t_5 sv_7).map EV.v), 29), ((((kd_Config).cells t_12 sv_14).map EV.v), 29)], none, none⟩ (by kernel_rfl) (fun a hI => ?_)
      refine chunkL_ (live := [0, 2, 1]) (orc := []) hF 1 hI ⟨[⟨0, [], .v (.bool false)⟩, ⟨2, [], .p 1 0⟩, ⟨1, [], .p 0 0⟩], [], [], [((((kd_Config).cells t_5 sv_7).map EV.v), 29), ((((kd_Config).cells t_12 sv_14).map EV.v), 29)], none, none⟩ [] rfl (by kernel_rfl) trivial (fun ns_69 a w_70 hI => ?_)
      refine wpListIn_nil ?_
      refine then_normal ?_
      refine wpIn_ret ?_
      obtain rfl := Option.some.inj H0
      exact ret1 hI rfl rfl ⟨rfl, hE.below hI⟩
  · replace H0 := bif_f hb_33 H0
    refine skip1 hF hI hW ⟨[⟨11, [], .v (.bool t_31)⟩, ⟨2, [], .p 1 0⟩, ⟨1, [], .p 0 0⟩, ⟨0, [], .v (.bool false)⟩], [], [], [((((kd_Config).cells t_5 sv_7).map EV.v), 29), ((((kd_Config).cells t_12 sv_14).map EV.v), 29)], none, none⟩ (by kernel_rfl) (fun a hI => ?_)
    refine wantK_then hI t_31 (by kernel_rfl) (by simp [hb_33]) (fun hW => ?_)
    refine skip1 hF hI hW ⟨[⟨11, [], .v (.bool t_31)⟩, ⟨2, [], .p 1 0⟩, ⟨1, [], .p 0 0⟩, ⟨0, [], .v (.bool false)⟩], [], [], [((((kd_Config).cells t_5 sv_7).map EV.v), 29), ((((kd_Config).cells t_12 sv_14).map EV.v), 29)], none, none⟩ (by kernel_rfl) (fun a hI => ?_)
    refine wantK_then hI t_31 (by kernel_rfl) (by simp [hb_33]) (fun hW => ?_)
    refine skip1 hF hI hW ⟨[⟨11, [], .v (.bool t_31)⟩, ⟨2, [], .p 1 0⟩, ⟨1, [], .p 0 0⟩, ⟨0, [], .v (.bool false)⟩], [], [], [((((kd_Config).cells t_5 sv_7).map EV.v), 29), ((((kd_Config).cells t_12 sv_14).map EV.v), 29)], none, none⟩ (by kernel_rfl) (fun a hI => ?_)
    refine pick1 hF hI rfl rfl (t_31) false rfl (by simp [hb_33]) rfl ⟨[⟨16, [], .v (.bool false)⟩, ⟨11, [], .v (.bool t_31)⟩, ⟨2, [], .p 1 0⟩, ⟨1, [], .p 0 0⟩, ⟨0, [], .v (.bool false)⟩], [], [], [((((kd_Config).cells t_5 sv_7).map EV.v), 29), ((((kd_Config).cells t_12 sv_14).map EV.v), 29)], none, none⟩ (by kernel_rfl) (fun a hI => ?_)
    refine chunkL_ (live := [17, 2, 1, 0]) (orc := []) hF 1 hI ⟨[⟨17, [], .v (.bool false)⟩, ⟨2, [], .p 1 0⟩, ⟨1, [], .p 0 0⟩, ⟨0, [], .v (.bool false)⟩], [], [], [((((kd_Config).cells t_5 sv_7).map EV.v), 29), ((((kd_Config).cells t_12 sv_14).map EV.v), 29)], none, none⟩ [] rfl (by kernel_rfl) trivial (fun ns_71 a w_72 hI => ?_)
    refine wantK_then hI false (by kernel_rfl) rfl (fun hW => ?_)
    refine skip1 hF hI hW ⟨[⟨17, [], .v (.bool false)⟩, ⟨2, [], .p 1 0⟩, ⟨1, [], .p 0 0⟩, ⟨0, [], .v (.bool false)⟩], [], [], [((((kd_Config).cells t_5 sv_7).map EV.v), 29), ((((kd_Config).cells t_12 sv_14).map EV.v), 29)], none, none⟩ (by kernel_rfl) (fun a hI => ?_)
    refine wantK_then hI false (by kernel_rfl) rfl (fun hW => ?_)
    refine skip1 hF hI hW ⟨[⟨17, [], .v (.bool false)⟩, ⟨2, [], .p 1 0⟩, ⟨1, [], .p 0 0⟩, ⟨0, [], .v (.bool false)⟩], [], [], [((((kd_Config).cells t_5 sv_7).map EV.v), 29), ((((kd_Config).cells t_12 sv_14).map EV.v), 29)], none, none⟩ (by kernel_rfl) (fun a hI => ?_)
    refine wantK_then hI false (by kernel_rfl) rfl (fun hW => ?_)
    refine skip1 hF hI hW ⟨[⟨17, [], .v (.bool false)⟩, ⟨2, [], .p 1 0⟩, ⟨1, [], .p 0 0⟩, ⟨0, [], .v (.bool false)⟩], [], [], [((((kd_Config).cells t_5 sv_7).map EV.v), 29), ((((kd_Config).cells t_12 sv_14).map EV.v), 29)], none, none⟩ (by kernel_rfl) (fun a hI => ?_)
    refine wantK_then hI false (by kernel_rfl) rfl (fun hW => ?_)
    refine skip1 hF hI hW ⟨[⟨17, [], .v (.bool false)⟩, ⟨2, [], .p 1 0⟩, ⟨1, [], .p 0 0⟩, ⟨0, [], .v (.bool false)⟩], [], [], [((((kd_Config).cells t_5 sv_7).map EV.v), 29), ((((kd_Config).cells t_12 sv_14).map EV.v), 29)], none, none⟩ (by kernel_rfl) (fun a hI => ?_)
    refine pick1 hF hI rfl rfl (false) false rfl rfl rfl ⟨[⟨22, [], .v (.bool false)⟩, ⟨17, [], .v (.bool false)⟩, ⟨2, [], .p 1 0⟩, ⟨1, [], .p 0 0⟩, ⟨0, [], .v (.bool false)⟩], [], [], [((((kd_Config).cells t_5 sv_7).map EV.v), 29), ((((kd_Config).cells t_12 sv_14).map EV.v), 29)], none, none⟩ (by kernel_rfl) (fun a hI => ?_)
    refine chunkL_ (live := [0, 2, 1]) (orc := []) hF 1 hI ⟨[⟨0, [], .v (.bool false)⟩, ⟨2, [], .p 1 0⟩, ⟨1, [], .p 0 0⟩], [], [], [((((kd_Config).cells t_5 sv_7).map EV.v), 29), ((((kd_Config).cells t_12 sv_14).map EV.v), 29)], none, none⟩ [] rfl (by kernel_rfl) trivial (fun ns_73 a w_74 hI => ?_)
    refine wpListIn_nil ?_
    refine then_normal ?_
    refine wpIn_ret ?_
    obtain rfl := Option.some.inj H0
    exact ret1 hI rfl rfl ⟨rfl, hE.below hI⟩

/-! ### porthole/portholeref06.Great: function 13 -/
noncomputable def G_ref06_Great (x0 : Config) : Option (Bool) := some (((decide ((x0.Parts.length : Int) > 100) || decide ((x0.Chans.length : Int) > 100)) || decide ((x0.Frames.e0.Windows.length : Int) > 100)) || decide ((x0.Frames.e1.Windows.length : Int) > 100))
set_option maxRecDepth 100000 in
set_option maxHeartbeats 4000000 in
theorem G_ref06_Great.calls (x0 : Config) (sv0 : SV) (w : World) {S : Nat → Prop} (hx0 : (kd_Config).cont S w x0 sv0) (r : Bool) (h : G_ref06_Great x0 = some r) :
    Calls Try.prog 13 #[.agg ((kd_Config).cells x0 sv0).toArray] w fun e w' => e = .returned (.bool r) ∧ Below w.heap.size w w' := by
  replace hx0 := Kd.lo _ hx0
  unfold G_ref06_Great at h
  have H0 := h
  clear h
  refine enter Try.func13 rfl [.agg ((kd_Config).cells x0 sv0).toArray] (n := 29) rfl (Nat.le_of_ble_eq_true rfl) (fun a hI => ?_)
  have hF : FOpen Fence.wide := .inl rfl
  have hE := Ep.start w
  refine seq_region (live := [2, 1, 0]) (orc := []) hF hI ⟨[⟨2, [], .v (.bool false)⟩, ⟨1, [], .p 0 0⟩, ⟨0, [], .v (.agg ((kd_Config).cells x0 sv0).toArray)⟩], [], [], [((((kd_Config).cells x0 sv0).map EV.v), 29)], none, none⟩ [] (by kernel_rfl) trivial (fun ns_1 a w_2 hI _ => ?_)
  refine seq_region (live := [2, 1, 0]) (orc := []) hF hI ⟨[⟨2, [], .v (.bool (((decide ((x0.Parts.length : Int) > 100) || decide ((x0.Chans.length : Int) > 100)) || decide ((x0.Frames.e0.Windows.length : Int) > 100)) || decide ((x0.Frames.e1.Windows.length : Int) > 100)))⟩, ⟨1, [], .p 0 0⟩, ⟨0, [], .v (.agg ((kd_Config).cells x0 sv0).toArray)⟩], [], [], [((((kd_Config).cells x0 sv0).map EV.v), 29)], none, none⟩ [] (by kernel_rfl) trivial (fun ns_3 a w_4 hI _ => ?_)
  refine wpIn_ret ?_
  obtain rfl := Option.some.inj H0
  exact ret1 hI rfl rfl ⟨rfl, hE.below hI⟩

/-! ### porthole/portholeref07.window: function 72 -/
noncomputable def G_ref07_window.b1 (x0 : Config) (a1 : Int) (s1 : Int × Bool) : Option (Stp (Int × Bool) (Ex (Int × Bool) (Bool))) := (bif decide (s1.1 < (((rdA_St27 x0.Frames ((rd x0.Parts a1).Core)).Windows).length : Int)) then (req (inb s1.1 ((rdA_St27 x0.Frames ((rd x0.Parts a1).Core)).Windows).length) (bif (((rd ((rdA_St27 x0.Frames ((rd x0.Parts a1).Core)).Windows) s1.1).Part) == a1) then some (.out (.ret true)) else some (.next ((IntKind.i64.wrap (s1.1 + 1)), s1.2)))) else some (.out (.brk (s1.1, s1.2))))
noncomputable def G_ref07_window (x0 : Config) (a1 : Int) : Option (Bool) := (req (inb a1 x0.Parts.length) (req (imp (((rd x0.Parts a1).Core) != 0) (inb a1 x0.Parts.length)) (bif ((((rd x0.Parts a1).Core) != 0) && (((rd x0.Parts a1).Core) != 1)) then some false else (req (inb a1 x0.Parts.length) (req (inb ((rd x0.Parts a1).Core) 2) ((loopω (G_ref07_window.b1 x0 a1) (0, false)).bind fun o => o.on (fun s1 => some false) (fun r => some r)))))))
set_option maxRecDepth 100000 in
set_option maxHeartbeats 4000000 in
theorem G_ref07_window.calls (x0 : Config) (a1 : Int) (sv0 : SV) (w : World) {S : Nat → Prop} (hx0 : (kd_Config).cont S w x0 sv0) (r : Bool) (h : G_ref07_window x0 a1 = some r) :
    Calls Try.prog 72 #[.agg ((kd_Config).cells x0 sv0).toArray, .int .i64 a1] w fun e w' => e = .returned (.bool r) ∧ Below w.heap.size w w' := by
  replace hx0 := Kd.lo _ hx0
  unfold G_ref07_window at h
  have H0 := h
  clear h
  refine enter Try.func72 rfl [.agg ((kd_Config).cells x0 sv0).toArray, .int .i64 a1] (n := 46) rfl (Nat.le_of_ble_eq_true rfl) (fun a hI => ?_)
  have hF : FOpen Fence.wide := .inl rfl
  have hE := Ep.start w
  refine seq_region (live := [4, 2, 0, 1]) (orc := []) hF hI ⟨[⟨4, [], .v (.bool false)⟩, ⟨2, [], .p 0 0⟩, ⟨0, [], .v (.agg ((kd_Config).cells x0 sv0).toArray)⟩, ⟨1, [], .v (.int .i64 a1)⟩], [], [], [((((kd_Config).cells x0 sv0).map EV.v), 29)], none, none⟩ [] (by kernel_rfl) trivial (fun ns_1 a w_2 hI _ => ?_)
  refine wpIn_seq ?_
  obtain ⟨hE', hmv, hmr⟩ := Ep.rebase (S0 := S) hE hI
  replace hx0 := Kd.keep _ hx0 hmv
  replace hE := hE'
  replace hI := hI.rebase
  clear hE' hmv hmr
  have hct := contI (S := Lo S w w_2 ns_1 []) (w := w_2) (d := kd_Config) (x := x0) (sv := (svL [((sv0 0).1, (sv0 0).2), ((sv0 1).1, (sv0 1).2), ((sv0 2).1, (sv0 2).2), ((sv0 3).1, (sv0 3).2)])) ⟨⟨hx0.1.1, hx0.1.2⟩, ⟨hx0.2.1.1, hx0.2.1.2⟩, ⟨hx0.2.2.1.1, hx0.2.2.1.2⟩, ⟨hx0.2.2.2.1.1, hx0.2.2.2.1.2⟩, trivial⟩
  obtain ⟨B_3, ns_5, hE', hI', hmv, hB_4⟩ := freeze_ (S0 := S) (d := kd_Config) hE hI 0 x0 (svL [((sv0 0).1, (sv0 0).2), ((sv0 1).1, (sv0 1).2), ((sv0 2).1, (sv0 2).2), ((sv0 3).1, (sv0 3).2)]) 29 rfl
  replace hB_4 := hB_4 hct
  clear hct
  have hmr : ∀ b : Nat, some b ∈ ([] : List (Option Nat)) → w_2.heap[b]? = w_2.heap[b]? := fun _ _ => rfl
  replace hx0 := Kd.keep _ hx0 hmv
  replace hE := hE'
  replace hI := hI'
  clear hE' hI' hmv hmr
  obtain ⟨ns_6, hE', hI', hmv⟩ := hE.cut (S0 := S) hI [4, 2, 0, 1] 0 ⟨[⟨4, [], .v (.bool false)⟩, ⟨2, [], .v (.pointer (some B_3))⟩, ⟨0, [], .v (.agg ((kd_Config).cells x0 sv0).toArray)⟩, ⟨1, [], .v (.int .i64 a1)⟩], [], [], [], none, none⟩ (by kernel_rfl)
  have hmr : ∀ b : Nat, some b ∈ ([] : List (Option Nat)) → w_2.heap[b]? = w_2.heap[b]? := fun _ _ => rfl
  replace hx0 := Kd.keep _ hx0 hmv
  replace hB_4 := El.keep hB_4 hmv
  replace hE := hE'
  replace hI := hI'
  clear hE' hI' hmv hmr
  obtain ⟨hN_7, H0⟩ := req_some H0
  obtain ⟨sv_8, hE_10, hA_9⟩ := Arr.elB (d := kd_Part) (hB_4).cont.1.1 a1 true (fun _ => hN_7)
  replace hE_10 := hE_10 rfl
  replace hA_9 := fun (_ : true = true) => hA_9 rfl
  obtain ⟨hN_11, H0⟩ := req_some H0
  obtain ⟨sv_12, hE_14, hA_13⟩ := Arr.elB (d := kd_Part) (hB_4).cont.1.1 a1 (((rd x0.Parts a1).Core) != 0) (fun hg => imp_spec hN_11 hg)
  refine seq_region (live := [22, 4, 2, 0, 1]) (orc := [[.slice (((svL [((sv0 0).1, (sv0 0).2), ((sv0 1).1, (sv0 1).2), ((sv0 2).1, (sv0 2).2), ((sv0 3).1, (sv0 3).2)]) 0).1) x0.Parts.length (((svL [((sv0 0).1, (sv0 0).2), ((sv0 1).1, (sv0 1).2), ((sv0 2).1, (sv0 2).2), ((sv0 3).1, (sv0 3).2)]) 0).2)], [.int .i64 ((rd x0.Parts a1).Core)], [.slice (((svL [((sv0 0).1, (sv0 0).2), ((sv0 1).1, (sv0 1).2), ((sv0 2).1, (sv0 2).2), ((sv0 3).1, (sv0 3).2)]) 0).1) x0.Parts.length (((svL [((sv0 0).1, (sv0 0).2), ((sv0 1).1, (sv0 1).2), ((sv0 2).1, (sv0 2).2), ((sv0 3).1, (sv0 3).2)]) 0).2)], [.int .i64 ((rd x0.Parts a1).Core)]]) hF hI ⟨[⟨22, [], .v (.bool ((((rd x0.Parts a1).Core) != 0) && (((rd x0.Parts a1).Core) != 1)))⟩, ⟨4, [], .v (.bool false)⟩, ⟨2, [], .v (.pointer (some B_3))⟩, ⟨0, [], .v (.agg ((kd_Config).cells x0 sv0).toArray)⟩, ⟨1, [], .v (.int .i64 a1)⟩], [], [], [], none, none⟩ [.cell true B_3 [.slice (((svL [((sv0 0).1, (sv0 0).2), ((sv0 1).1, (sv0 1).2), ((sv0 2).1, (sv0 2).2), ((sv0 3).1, (sv0 3).2)]) 0).1) x0.Parts.length (((svL [((sv0 0).1, (sv0 0).2), ((sv0 1).1, (sv0 1).2), ((sv0 2).1, (sv0 2).2), ((sv0 3).1, (sv0 3).2)]) 0).2)], .need true (0 ≤ a1 ∧ a1 < (x0.Parts.length : Int)), .need true (((svL [((sv0 0).1, (sv0 0).2), ((sv0 1).1, (sv0 1).2), ((sv0 2).1, (sv0 2).2), ((sv0 3).1, (sv0 3).2)]) 0).1 = some (adr (((svL [((sv0 0).1, (sv0 0).2), ((sv0 1).1, (sv0 1).2), ((sv0 2).1, (sv0 2).2), ((sv0 3).1, (sv0 3).2)]) 0).1))), .cell true ((adr (((svL [((sv0 0).1, (sv0 0).2), ((sv0 1).1, (sv0 1).2), ((sv0 2).1, (sv0 2).2), ((sv0 3).1, (sv0 3).2)]) 0).1)).add ((a1 : Int).toNat * 2)) [.int .i64 ((rd x0.Parts a1).Core)], .cell (((rd x0.Parts a1).Core) != 0) B_3 [.slice (((svL [((sv0 0).1, (sv0 0).2), ((sv0 1).1, (sv0 1).2), ((sv0 2).1, (sv0 2).2), ((sv0 3).1, (sv0 3).2)]) 0).1) x0.Parts.length (((svL [((sv0 0).1, (sv0 0).2), ((sv0 1).1, (sv0 1).2), ((sv0 2).1, (sv0 2).2), ((sv0 3).1, (sv0 3).2)]) 0).2)], .need (((rd x0.Parts a1).Core) != 0) (0 ≤ a1 ∧ a1 < (x0.Parts.length : Int)), .need (((rd x0.Parts a1).Core) != 0) (((svL [((sv0 0).1, (sv0 0).2), ((sv0 1).1, (sv0 1).2), ((sv0 2).1, (sv0 2).2), ((sv0 3).1, (sv0 3).2)]) 0).1 = some (adr (((svL [((sv0 0).1, (sv0 0).2), ((sv0 1).1, (sv0 1).2), ((sv0 2).1, (sv0 2).2), ((sv0 3).1, (sv0 3).2)]) 0).1))), .cell (((rd x0.Parts a1).Core) != 0) ((adr (((svL [((sv0 0).1, (sv0 0).2), ((sv0 1).1, (sv0 1).2), ((sv0 2).1, (sv0 2).2), ((sv0 3).1, (sv0 3).2)]) 0).1)).add ((a1 : Int).toNat * 2)) [.int .i64 ((rd x0.Parts a1).Core)]] (by kernel_rfl) ⟨ob_el (fun _ => hB_4) 0 [.slice (((svL [((sv0 0).1, (sv0 0).2), ((sv0 1).1, (sv0 1).2), ((sv0 2).1, (sv0 2).2), ((sv0 3).1, (sv0 3).2)]) 0).1) x0.Parts.length (((svL [((sv0 0).1, (sv0 0).2), ((sv0 1).1, (sv0 1).2), ((sv0 2).1, (sv0 2).2), ((sv0 3).1, (sv0 3).2)]) 0).2)] rfl, ob_inb (fun _ => hN_7), hA_9, ob_el (fun _ => hE_10) 0 [.int .i64 ((rd x0.Parts a1).Core)] rfl, ob_el (fun _ => hB_4) 0 [.slice (((svL [((sv0 0).1, (sv0 0).2), ((sv0 1).1, (sv0 1).2), ((sv0 2).1, (sv0 2).2), ((sv0 3).1, (sv0 3).2)]) 0).1) x0.Parts.length (((svL [((sv0 0).1, (sv0 0).2), ((sv0 1).1, (sv0 1).2), ((sv0 2).1, (sv0 2).2), ((sv0 3).1, (sv0 3).2)]) 0).2)] rfl, ob_inb (fun hg => imp_spec hN_11 hg), hA_13, ob_el (fun hg => hE_14 hg) 0 [.int .i64 ((rd x0.Parts a1).Core)] rfl, trivial⟩ (fun ns_15 a w_16 hI _ => ?_)
  refine cond_ hI (((((rd x0.Parts a1).Core) != 0) && (((rd x0.Parts a1).Core) != 1))) rfl (fun hc_17 => ?_) (fun hc_17 => ?_)
  · replace H0 := bif_t hc_17 H0
    refine seq_region (live := [4, 22, 2, 0, 1]) (orc := []) hF hI ⟨[⟨4, [], .v (.bool false)⟩, ⟨22, [], .v (.bool ((((rd x0.Parts a1).Core) != 0) && (((rd x0.Parts a1).Core) != 1)))⟩, ⟨2, [], .v (.pointer (some B_3))⟩, ⟨0, [], .v (.agg ((kd_Config).cells x0 sv0).toArray)⟩, ⟨1, [], .v (.int .i64 a1)⟩], [], [], [], none, none⟩ [] (by kernel_rfl) trivial (fun ns_18 a w_19 hI _ => ?_)
    refine wpIn_ret ?_
    refine then_ret ?_
    obtain rfl := Option.some.inj H0
    exact ret1 hI rfl rfl ⟨rfl, hE.below hI⟩
  · replace H0 := bif_f hc_17 H0
    refine wpIn_skip ?_
    refine then_normal ?_
    obtain ⟨hN_20, H0⟩ := req_some H0
    obtain ⟨sv_21, hE_23, hA_22⟩ := Arr.elB (d := kd_Part) (hB_4).cont.1.1 a1 true (fun _ => hN_20)
    replace hE_23 := hE_23 rfl
    replace hA_22 := fun (_ : true = true) => hA_22 rfl
    obtain ⟨hN_24, H0⟩ := req_some H0
    have hE_26 := elA_St27 (El.part (e := kd_St27) hB_4 2 x0.Frames (svO (svL [((sv0 0).1, (sv0 0).2), ((sv0 1).1, (sv0 1).2), ((sv0 2).1, (sv0 2).2), ((sv0 3).1, (sv0 3).2)]) 2) ⟨(hB_4).cont.2.2.1, (hB_4).cont.2.2.2.1, trivial⟩ rfl) hN_24
    refine seq_region (live := [5, 22, 4, 2, 0, 1]) (orc := [[.slice (((svL [((sv0 0).1, (sv0 0).2), ((sv0 1).1, (sv0 1).2), ((sv0 2).1, (sv0 2).2), ((sv0 3).1, (sv0 3).2)]) 0).1) x0.Parts.length (((svL [((sv0 0).1, (sv0 0).2), ((sv0 1).1, (sv0 1).2), ((sv0 2).1, (sv0 2).2), ((sv0 3).1, (sv0 3).2)]) 0).2)], [.int .i64 ((rd x0.Parts a1).Core)], [.slice (((svO (svO (svL [((sv0 0).1, (sv0 0).2), ((sv0 1).1, (sv0 1).2), ((sv0 2).1, (sv0 2).2), ((sv0 3).1, (sv0 3).2)]) 2) (((rd x0.Parts a1).Core : Int).toNat * 1)) 0).1) ((rdA_St27 x0.Frames ((rd x0.Parts a1).Core)).Windows).length (((svO (svO (svL [((sv0 0).1, (sv0 0).2), ((sv0 1).1, (sv0 1).2), ((sv0 2).1, (sv0 2).2), ((sv0 3).1, (sv0 3).2)]) 2) (((rd x0.Parts a1).Core : Int).toNat * 1)) 0).2)]]) hF hI ⟨[⟨5, [], .v (.slice (((svO (svO (svL [((sv0 0).1, (sv0 0).2), ((sv0 1).1, (sv0 1).2), ((sv0 2).1, (sv0 2).2), ((sv0 3).1, (sv0 3).2)]) 2) (((rd x0.Parts a1).Core : Int).toNat * 1)) 0).1) ((rdA_St27 x0.Frames ((rd x0.Parts a1).Core)).Windows).length (((svO (svO (svL [((sv0 0).1, (sv0 0).2), ((sv0 1).1, (sv0 1).2), ((sv0 2).1, (sv0 2).2), ((sv0 3).1, (sv0 3).2)]) 2) (((rd x0.Parts a1).Core : Int).toNat * 1)) 0).2))⟩, ⟨22, [], .v (.bool ((((rd x0.Parts a1).Core) != 0) && (((rd x0.Parts a1).Core) != 1)))⟩, ⟨4, [], .v (.bool false)⟩, ⟨2, [], .v (.pointer (some B_3))⟩, ⟨0, [], .v (.agg ((kd_Config).cells x0 sv0).toArray)⟩, ⟨1, [], .v (.int .i64 a1)⟩], [], [], [], none, none⟩ [.cell true B_3 [.slice (((svL [((sv0 0).1, (sv0 0).2), ((sv0 1).1, (sv0 1).2), ((sv0 2).1, (sv0 2).2), ((sv0 3).1, (sv0 3).2)]) 0).1) x0.Parts.length (((svL [((sv0 0).1, (sv0 0).2), ((sv0 1).1, (sv0 1).2), ((sv0 2).1, (sv0 2).2), ((sv0 3).1, (sv0 3).2)]) 0).2)], .need true (0 ≤ a1 ∧ a1 < (x0.Parts.length : Int)), .need true (((svL [((sv0 0).1, (sv0 0).2), ((sv0 1).1, (sv0 1).2), ((sv0 2).1, (sv0 2).2), ((sv0 3).1, (sv0 3).2)]) 0).1 = some (adr (((svL [((sv0 0).1, (sv0 0).2), ((sv0 1).1, (sv0 1).2), ((sv0 2).1, (sv0 2).2), ((sv0 3).1, (sv0 3).2)]) 0).1))), .cell true ((adr (((svL [((sv0 0).1, (sv0 0).2), ((sv0 1).1, (sv0 1).2), ((sv0 2).1, (sv0 2).2), ((sv0 3).1, (sv0 3).2)]) 0).1)).add ((a1 : Int).toNat * 2)) [.int .i64 ((rd x0.Parts a1).Core)], .need true (0 ≤ ((rd x0.Parts a1).Core) ∧ ((rd x0.Parts a1).Core) < ((2 : Nat) : Int)), .cell true (((B_3.add 2).add (((rd x0.Parts a1).Core : Int).toNat * 2)).add 1) [.slice (((svO (svO (svL [((sv0 0).1, (sv0 0).2), ((sv0 1).1, (sv0 1).2), ((sv0 2).1, (sv0 2).2), ((sv0 3).1, (sv0 3).2)]) 2) (((rd x0.Parts a1).Core : Int).toNat * 1)) 0).1) ((rdA_St27 x0.Frames ((rd x0.Parts a1).Core)).Windows).length (((svO (svO (svL [((sv0 0).1, (sv0 0).2), ((sv0 1).1, (sv0 1).2), ((sv0 2).1, (sv0 2).2), ((sv0 3).1, (sv0 3).2)]) 2) (((rd x0.Parts a1).Core : Int).toNat * 1)) 0).2)]] (by kernel_rfl) ⟨ob_el (fun _ => hB_4) 0 [.slice (((svL [((sv0 0).1, (sv0 0).2), ((sv0 1).1, (sv0 1).2), ((sv0 2).1, (sv0 2).2), ((sv0 3).1, (sv0 3).2)]) 0).1) x0.Parts.length (((svL [((sv0 0).1, (sv0 0).2), ((sv0 1).1, (sv0 1).2), ((sv0 2).1, (sv0 2).2), ((sv0 3).1, (sv0 3).2)]) 0).2)] rfl, ob_inb (fun _ => hN_20), hA_22, ob_el (fun _ => hE_23) 0 [.int .i64 ((rd x0.Parts a1).Core)] rfl, ob_inb (fun _ => hN_24), ob_el (fun _ => hE_26) 1 [.slice (((svO (svO (svL [((sv0 0).1, (sv0 0).2), ((sv0 1).1, (sv0 1).2), ((sv0 2).1, (sv0 2).2), ((sv0 3).1, (sv0 3).2)]) 2) (((rd x0.Parts a1).Core : Int).toNat * 1)) 0).1) ((rdA_St27 x0.Frames ((rd x0.Parts a1).Core)).Windows).length (((svO (svO (svL [((sv0 0).1, (sv0 0).2), ((sv0 1).1, (sv0 1).2), ((sv0 2).1, (sv0 2).2), ((sv0 3).1, (sv0 3).2)]) 2) (((rd x0.Parts a1).Core : Int).toNat * 1)) 0).2)] rfl, trivial⟩ (fun ns_27 a w_28 hI _ => ?_)
    refine wpIn_seq ?_
    refine seq_region (live := [6, 5, 22, 4, 2, 0, 1]) (orc := []) hF hI ⟨[⟨6, [], .v (.int .i64 0)⟩, ⟨5, [], .v (.slice (((svO (svO (svL [((sv0 0).1, (sv0 0).2), ((sv0 1).1, (sv0 1).2), ((sv0 2).1, (sv0 2).2), ((sv0 3).1, (sv0 3).2)]) 2) (((rd x0.Parts a1).Core : Int).toNat * 1)) 0).1) ((rdA_St27 x0.Frames ((rd x0.Parts a1).Core)).Windows).length (((svO (svO (svL [((sv0 0).1, (sv0 0).2), ((sv0 1).1, (sv0 1).2), ((sv0 2).1, (sv0 2).2), ((sv0 3).1, (sv0 3).2)]) 2) (((rd x0.Parts a1).Core : Int).toNat * 1)) 0).2))⟩, ⟨22, [], .v (.bool ((((rd x0.Parts a1).Core) != 0) && (((rd x0.Parts a1).Core) != 1)))⟩, ⟨4, [], .v (.bool false)⟩, ⟨2, [], .v (.pointer (some B_3))⟩, ⟨0, [], .v (.agg ((kd_Config).cells x0 sv0).toArray)⟩, ⟨1, [], .v (.int .i64 a1)⟩], [], [], [], none, none⟩ [] (by kernel_rfl) trivial (fun ns_29 a w_30 hI _ => ?_)
    obtain ⟨o_47, hL_48, H0⟩ := bind_some H0
    refine block_loop (fun (s1 : Int × Bool) a w_53 => ∃ ns, St w_2 ns_6 46 ⟨[⟨6, [], .v (.int .i64 s1.1)⟩, ⟨5, [], .v (.slice (((svO (svO (svL [((sv0 0).1, (sv0 0).2), ((sv0 1).1, (sv0 1).2), ((sv0 2).1, (sv0 2).2), ((sv0 3).1, (sv0 3).2)]) 2) (((rd x0.Parts a1).Core : Int).toNat * 1)) 0).1) ((rdA_St27 x0.Frames ((rd x0.Parts a1).Core)).Windows).length (((svO (svO (svL [((sv0 0).1, (sv0 0).2), ((sv0 1).1, (sv0 1).2), ((sv0 2).1, (sv0 2).2), ((sv0 3).1, (sv0 3).2)]) 2) (((rd x0.Parts a1).Core : Int).toNat * 1)) 0).2))⟩, ⟨22, [], .v (.bool ((((rd x0.Parts a1).Core) != 0) && (((rd x0.Parts a1).Core) != 1)))⟩, ⟨4, [], .v (.bool s1.2)⟩, ⟨2, [], .v (.pointer (some B_3))⟩, ⟨0, [], .v (.agg ((kd_Config).cells x0 sv0).toArray)⟩, ⟨1, [], .v (.int .i64 a1)⟩], [], [], [], none, none⟩ ns a w_53) (0, false) hL_48 ⟨_, hI.pick [6, 5, 22, 4, 2, 0, 1] 0 ⟨[⟨6, [], .v (.int .i64 0)⟩, ⟨5, [], .v (.slice (((svO (svO (svL [((sv0 0).1, (sv0 0).2), ((sv0 1).1, (sv0 1).2), ((sv0 2).1, (sv0 2).2), ((sv0 3).1, (sv0 3).2)]) 2) (((rd x0.Parts a1).Core : Int).toNat * 1)) 0).1) ((rdA_St27 x0.Frames ((rd x0.Parts a1).Core)).Windows).length (((svO (svO (svL [((sv0 0).1, (sv0 0).2), ((sv0 1).1, (sv0 1).2), ((sv0 2).1, (sv0 2).2), ((sv0 3).1, (sv0 3).2)]) 2) (((rd x0.Parts a1).Core : Int).toNat * 1)) 0).2))⟩, ⟨22, [], .v (.bool ((((rd x0.Parts a1).Core) != 0) && (((rd x0.Parts a1).Core) != 1)))⟩, ⟨4, [], .v (.bool false)⟩, ⟨2, [], .v (.pointer (some B_3))⟩, ⟨0, [], .v (.agg ((kd_Config).cells x0 sv0).toArray)⟩, ⟨1, [], .v (.int .i64 a1)⟩], [], [], [], none, none⟩ (by kernel_rfl)⟩ ?_ ?_
    · clear hI
      rintro s1 a w_31 ⟨ns_32, hI⟩ r1 H1
      unfold G_ref07_window.b1 at H1
      refine wpIn_seq ?_
      refine seq_region (live := [36, 6, 5, 22, 4, 2, 0, 1]) (orc := []) hF hI ⟨[⟨36, [], .v (.bool (decide (s1.1 < (((rdA_St27 x0.Frames ((rd x0.Parts a1).Core)).Windows).length : Int))))⟩, ⟨6, [], .v (.int .i64 s1.1)⟩, ⟨5, [], .v (.slice (((svO (svO (svL [((sv0 0).1, (sv0 0).2), ((sv0 1).1, (sv0 1).2), ((sv0 2).1, (sv0 2).2), ((sv0 3).1, (sv0 3).2)]) 2) (((rd x0.Parts a1).Core : Int).toNat * 1)) 0).1) ((rdA_St27 x0.Frames ((rd x0.Parts a1).Core)).Windows).length (((svO (svO (svL [((sv0 0).1, (sv0 0).2), ((sv0 1).1, (sv0 1).2), ((sv0 2).1, (sv0 2).2), ((sv0 3).1, (sv0 3).2)]) 2) (((rd x0.Parts a1).Core : Int).toNat * 1)) 0).2))⟩, ⟨22, [], .v (.bool ((((rd x0.Parts a1).Core) != 0) && (((rd x0.Parts a1).Core) != 1)))⟩, ⟨4, [], .v (.bool s1.2)⟩, ⟨2, [], .v (.pointer (some B_3))⟩, ⟨0, [], .v (.agg ((kd_Config).cells x0 sv0).toArray)⟩, ⟨1, [], .v (.int .i64 a1)⟩], [], [], [], none, none⟩ [] (by kernel_rfl) trivial (fun ns_33 a w_34 hI _ => ?_)
      refine cond_ hI (decide (s1.1 < (((rdA_St27 x0.Frames ((rd x0.Parts a1).Core)).Windows).length : Int))) rfl (fun hc_35 => ?_) (fun hc_35 => ?_)
      · replace H1 := bif_t hc_35 H1
        refine wpIn_skip ?_
        refine then_normal ?_
        refine wpIn_seq ?_
        refine wpIn_block ?_
        obtain ⟨hN_36, H1⟩ := req_some H1
        obtain ⟨sv_37, hE_39, hA_38⟩ := Arr.elB (d := kd_Window) (hE_26).cont.1.1 s1.1 true (fun _ => hN_36)
        replace hE_39 := hE_39 rfl
        replace hA_38 := fun (_ : true = true) => hA_38 rfl
        refine seq_region (live := [45, 36, 6, 5, 22, 4, 2, 0, 1]) (orc := [[.int .i64 ((rd ((rdA_St27 x0.Frames ((rd x0.Parts a1).Core)).Windows) s1.1).Part)]]) hF hI ⟨[⟨45, [], .v (.bool (((rd ((rdA_St27 x0.Frames ((rd x0.Parts a1).Core)).Windows) s1.1).Part) == a1))⟩, ⟨36, [], .v (.bool (decide (s1.1 < (((rdA_St27 x0.Frames ((rd x0.Parts a1).Core)).Windows).length : Int))))⟩, ⟨6, [], .v (.int .i64 s1.1)⟩, ⟨5, [], .v (.slice (((svO (svO (svL [((sv0 0).1, (sv0 0).2), ((sv0 1).1, (sv0 1).2), ((sv0 2).1, (sv0 2).2), ((sv0 3).1, (sv0 3).2)]) 2) (((rd x0.Parts a1).Core : Int).toNat * 1)) 0).1) ((rdA_St27 x0.Frames ((rd x0.Parts a1).Core)).Windows).length (((svO (svO (svL [((sv0 0).1, (sv0 0).2), ((sv0 1).1, (sv0 1).2), ((sv0 2).1, (sv0 2).2), ((sv0 3).1, (sv0 3).2)]) 2) (((rd x0.Parts a1).Core : Int).toNat * 1)) 0).2))⟩, ⟨22, [], .v (.bool ((((rd x0.Parts a1).Core) != 0) && (((rd x0.Parts a1).Core) != 1)))⟩, ⟨4, [], .v (.bool s1.2)⟩, ⟨2, [], .v (.pointer (some B_3))⟩, ⟨0, [], .v (.agg ((kd_Config).cells x0 sv0).toArray)⟩, ⟨1, [], .v (.int .i64 a1)⟩], [], [], [], none, none⟩ [.need true (0 ≤ s1.1 ∧ s1.1 < (((rdA_St27 x0.Frames ((rd x0.Parts a1).Core)).Windows).length : Int)), .need true (((svO (svO (svL [((sv0 0).1, (sv0 0).2), ((sv0 1).1, (sv0 1).2), ((sv0 2).1, (sv0 2).2), ((sv0 3).1, (sv0 3).2)]) 2) (((rd x0.Parts a1).Core : Int).toNat * 1)) 0).1 = some (adr (((svO (svO (svL [((sv0 0).1, (sv0 0).2), ((sv0 1).1, (sv0 1).2), ((sv0 2).1, (sv0 2).2), ((sv0 3).1, (sv0 3).2)]) 2) (((rd x0.Parts a1).Core : Int).toNat * 1)) 0).1))), .cell true ((adr (((svO (svO (svL [((sv0 0).1, (sv0 0).2), ((sv0 1).1, (sv0 1).2), ((sv0 2).1, (sv0 2).2), ((sv0 3).1, (sv0 3).2)]) 2) (((rd x0.Parts a1).Core : Int).toNat * 1)) 0).1)).add ((s1.1 : Int).toNat * 3)) [.int .i64 ((rd ((rdA_St27 x0.Frames ((rd x0.Parts a1).Core)).Windows) s1.1).Part)]] (by kernel_rfl) ⟨ob_inb (fun _ => hN_36), hA_38, ob_el (fun _ => hE_39) 0 [.int .i64 ((rd ((rdA_St27 x0.Frames ((rd x0.Parts a1).Core)).Windows) s1.1).Part)] rfl, trivial⟩ (fun ns_40 a w_41 hI _ => ?_)
        refine cond_ hI ((((rd ((rdA_St27 x0.Frames ((rd x0.Parts a1).Core)).Windows) s1.1).Part) == a1)) rfl (fun hc_42 => ?_) (fun hc_42 => ?_)
        · replace H1 := bif_t hc_42 H1
          refine seq_region (live := [4, 45, 36, 6, 5, 22, 2, 0, 1]) (orc := []) hF hI ⟨[⟨4, [], .v (.bool true)⟩, ⟨45, [], .v (.bool (((rd ((rdA_St27 x0.Frames ((rd x0.Parts a1).Core)).Windows) s1.1).Part) == a1))⟩, ⟨36, [], .v (.bool (decide (s1.1 < (((rdA_St27 x0.Frames ((rd x0.Parts a1).Core)).Windows).length : Int))))⟩, ⟨6, [], .v (.int .i64 s1.1)⟩, ⟨5, [], .v (.slice (((svO (svO (svL [((sv0 0).1, (sv0 0).2), ((sv0 1).1, (sv0 1).2), ((sv0 2).1, (sv0 2).2), ((sv0 3).1, (sv0 3).2)]) 2) (((rd x0.Parts a1).Core : Int).toNat * 1)) 0).1) ((rdA_St27 x0.Frames ((rd x0.Parts a1).Core)).Windows).length (((svO (svO (svL [((sv0 0).1, (sv0 0).2), ((sv0 1).1, (sv0 1).2), ((sv0 2).1, (sv0 2).2), ((sv0 3).1, (sv0 3).2)]) 2) (((rd x0.Parts a1).Core : Int).toNat * 1)) 0).2))⟩, ⟨22, [], .v (.bool ((((rd x0.Parts a1).Core) != 0) && (((rd x0.Parts a1).Core) != 1)))⟩, ⟨2, [], .v (.pointer (some B_3))⟩, ⟨0, [], .v (.agg ((kd_Config).cells x0 sv0).toArray)⟩, ⟨1, [], .v (.int .i64 a1)⟩], [], [], [], none, none⟩ [] (by kernel_rfl) trivial (fun ns_43 a w_44 hI _ => ?_)
          refine wpIn_ret ?_
          refine inBlock_ret ?_
          refine then_ret ?_
          refine then_ret ?_
          obtain rfl := Option.some.inj H1
          refine .inr ⟨_, rfl, fun ho => ?_⟩
          subst ho
          refine inBlock_ret ?_
          refine then_ret ?_
          obtain rfl := Option.some.inj H0
          exact ret1 hI rfl rfl ⟨rfl, hE.below hI⟩
        · replace H1 := bif_f hc_42 H1
          refine wpIn_skip ?_
          refine inBlock_normal ?_
          refine then_normal ?_
          refine region_ (live := [6, 45, 36, 5, 22, 4, 2, 0, 1]) (orc := []) hF hI ⟨[⟨6, [], .v (.int .i64 (IntKind.i64.wrap (s1.1 + 1)))⟩, ⟨45, [], .v (.bool (((rd ((rdA_St27 x0.Frames ((rd x0.Parts a1).Core)).Windows) s1.1).Part) == a1))⟩, ⟨36, [], .v (.bool (decide (s1.1 < (((rdA_St27 x0.Frames ((rd x0.Parts a1).Core)).Windows).length : Int))))⟩, ⟨5, [], .v (.slice (((svO (svO (svL [((sv0 0).1, (sv0 0).2), ((sv0 1).1, (sv0 1).2), ((sv0 2).1, (sv0 2).2), ((sv0 3).1, (sv0 3).2)]) 2) (((rd x0.Parts a1).Core : Int).toNat * 1)) 0).1) ((rdA_St27 x0.Frames ((rd x0.Parts a1).Core)).Windows).length (((svO (svO (svL [((sv0 0).1, (sv0 0).2), ((sv0 1).1, (sv0 1).2), ((sv0 2).1, (sv0 2).2), ((sv0 3).1, (sv0 3).2)]) 2) (((rd x0.Parts a1).Core : Int).toNat * 1)) 0).2))⟩, ⟨22, [], .v (.bool ((((rd x0.Parts a1).Core) != 0) && (((rd x0.Parts a1).Core) != 1)))⟩, ⟨4, [], .v (.bool s1.2)⟩, ⟨2, [], .v (.pointer (some B_3))⟩, ⟨0, [], .v (.agg ((kd_Config).cells x0 sv0).toArray)⟩, ⟨1, [], .v (.int .i64 a1)⟩], [], [], [], none, none⟩ [] (by kernel_rfl) trivial (fun ns_45 a w_46 hI _ => ?_)
          refine then_normal ?_
          obtain rfl := Option.some.inj H1
          exact ⟨_, rfl, ⟨_, hI.pick [6, 5, 22, 4, 2, 0, 1] 0 ⟨[⟨6, [], .v (.int .i64 (IntKind.i64.wrap (s1.1 + 1)))⟩, ⟨5, [], .v (.slice (((svO (svO (svL [((sv0 0).1, (sv0 0).2), ((sv0 1).1, (sv0 1).2), ((sv0 2).1, (sv0 2).2), ((sv0 3).1, (sv0 3).2)]) 2) (((rd x0.Parts a1).Core : Int).toNat * 1)) 0).1) ((rdA_St27 x0.Frames ((rd x0.Parts a1).Core)).Windows).length (((svO (svO (svL [((sv0 0).1, (sv0 0).2), ((sv0 1).1, (sv0 1).2), ((sv0 2).1, (sv0 2).2), ((sv0 3).1, (sv0 3).2)]) 2) (((rd x0.Parts a1).Core : Int).toNat * 1)) 0).2))⟩, ⟨22, [], .v (.bool ((((rd x0.Parts a1).Core) != 0) && (((rd x0.Parts a1).Core) != 1)))⟩, ⟨4, [], .v (.bool s1.2)⟩, ⟨2, [], .v (.pointer (some B_3))⟩, ⟨0, [], .v (.agg ((kd_Config).cells x0 sv0).toArray)⟩, ⟨1, [], .v (.int .i64 a1)⟩], [], [], [], none, none⟩ (by kernel_rfl)⟩⟩
      · replace H1 := bif_f hc_35 H1
        refine wpIn_exit ?_
        refine then_exit ?_
        refine then_exit ?_
        obtain rfl := Option.some.inj H1
        exact .inl ⟨_, rfl, rfl, ⟨_, hI.pick [6, 5, 22, 4, 2, 0, 1] 0 ⟨[⟨6, [], .v (.int .i64 s1.1)⟩, ⟨5, [], .v (.slice (((svO (svO (svL [((sv0 0).1, (sv0 0).2), ((sv0 1).1, (sv0 1).2), ((sv0 2).1, (sv0 2).2), ((sv0 3).1, (sv0 3).2)]) 2) (((rd x0.Parts a1).Core : Int).toNat * 1)) 0).1) ((rdA_St27 x0.Frames ((rd x0.Parts a1).Core)).Windows).length (((svO (svO (svL [((sv0 0).1, (sv0 0).2), ((sv0 1).1, (sv0 1).2), ((sv0 2).1, (sv0 2).2), ((sv0 3).1, (sv0 3).2)]) 2) (((rd x0.Parts a1).Core : Int).toNat * 1)) 0).2))⟩, ⟨22, [], .v (.bool ((((rd x0.Parts a1).Core) != 0) && (((rd x0.Parts a1).Core) != 1)))⟩, ⟨4, [], .v (.bool s1.2)⟩, ⟨2, [], .v (.pointer (some B_3))⟩, ⟨0, [], .v (.agg ((kd_Config).cells x0 sv0).toArray)⟩, ⟨1, [], .v (.int .i64 a1)⟩], [], [], [], none, none⟩ (by kernel_rfl)⟩⟩
    · clear hI
      rintro s1 a w_49 ho ⟨ns_50, hI⟩
      subst ho
      replace H0 : (some false : Option (Bool)) = _ := H0
      refine then_normal ?_
      refine seq_region (live := [4, 6, 5, 22, 2, 0, 1]) (orc := []) hF hI ⟨[⟨4, [], .v (.bool false)⟩, ⟨6, [], .v (.int .i64 s1.1)⟩, ⟨5, [], .v (.slice (((svO (svO (svL [((sv0 0).1, (sv0 0).2), ((sv0 1).1, (sv0 1).2), ((sv0 2).1, (sv0 2).2), ((sv0 3).1, (sv0 3).2)]) 2) (((rd x0.Parts a1).Core : Int).toNat * 1)) 0).1) ((rdA_St27 x0.Frames ((rd x0.Parts a1).Core)).Windows).length (((svO (svO (svL [((sv0 0).1, (sv0 0).2), ((sv0 1).1, (sv0 1).2), ((sv0 2).1, (sv0 2).2), ((sv0 3).1, (sv0 3).2)]) 2) (((rd x0.Parts a1).Core : Int).toNat * 1)) 0).2))⟩, ⟨22, [], .v (.bool ((((rd x0.Parts a1).Core) != 0) && (((rd x0.Parts a1).Core) != 1)))⟩, ⟨2, [], .v (.pointer (some B_3))⟩, ⟨0, [], .v (.agg ((kd_Config).cells x0 sv0).toArray)⟩, ⟨1, [], .v (.int .i64 a1)⟩], [], [], [], none, none⟩ [] (by kernel_rfl) trivial (fun ns_51 a w_52 hI _ => ?_)
      refine wpIn_ret ?_
      obtain rfl := Option.some.inj H0
      exact ret1 hI rfl rfl ⟨rfl, hE.below hI⟩

/-! ### porthole/portholeref07.part: function 86 -/
noncomputable def G_ref07_part (x0 : Config) (a1 : Int) : Option (Bool) := some (decide (a1 ≥ 0) && decide (a1 < (x0.Parts.length : Int)))
set_option maxRecDepth 100000 in
set_option maxHeartbeats 4000000 in
theorem G_ref07_part.calls (x0 : Config) (a1 : Int) (sv0 : SV) (w : World) {S : Nat → Prop} (hx0 : (kd_Config).cont S w x0 sv0) (r : Bool) (h : G_ref07_part x0 a1 = some r) :
    Calls Try.prog 86 #[.agg ((kd_Config).cells x0 sv0).toArray, .int .i64 a1] w fun e w' => e = .returned (.bool r) ∧ Below w.heap.size w w' := by
  replace hx0 := Kd.lo _ hx0
  unfold G_ref07_part at h
  have H0 := h
  clear h
  refine enter Try.func86 rfl [.agg ((kd_Config).cells x0 sv0).toArray, .int .i64 a1] (n := 14) rfl (Nat.le_of_ble_eq_true rfl) (fun a hI => ?_)
  have hF : FOpen Fence.wide := .inl rfl
  have hE := Ep.start w
  refine seq_region (live := [4, 2, 0, 1]) (orc := []) hF hI ⟨[⟨4, [], .v (.bool false)⟩, ⟨2, [], .p 0 0⟩, ⟨0, [], .v (.agg ((kd_Config).cells x0 sv0).toArray)⟩, ⟨1, [], .v (.int .i64 a1)⟩], [], [], [((((kd_Config).cells x0 sv0).map EV.v), 29)], none, none⟩ [] (by kernel_rfl) trivial (fun ns_1 a w_2 hI _ => ?_)
  refine seq_region (live := [4, 2, 0, 1]) (orc := []) hF hI ⟨[⟨4, [], .v (.bool (decide (a1 ≥ 0) && decide (a1 < (x0.Parts.length : Int))))⟩, ⟨2, [], .p 0 0⟩, ⟨0, [], .v (.agg ((kd_Config).cells x0 sv0).toArray)⟩, ⟨1, [], .v (.int .i64 a1)⟩], [], [], [((((kd_Config).cells x0 sv0).map EV.v), 29)], none, none⟩ [] (by kernel_rfl) trivial (fun ns_3 a w_4 hI _ => ?_)
  refine wpIn_ret ?_
  obtain rfl := Option.some.inj H0
  exact ret1 hI rfl rfl ⟨rfl, hE.below hI⟩

end Go.Proofs.Ytnfnincmhobpaab
