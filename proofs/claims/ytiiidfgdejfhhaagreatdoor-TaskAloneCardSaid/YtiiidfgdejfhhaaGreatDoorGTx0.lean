/- Walks of the seat's functions. No statement is proved here. Conditions: none. -/
import Derived.Test.YtiiidfgdejfhhaaGreatDoorProg
import Derived.Test.YtiiidfgdejfhhaaGreatDoorEng
set_option linter.unusedVariables false
set_option linter.unusedSimpArgs false
set_option maxRecDepth 100000
set_option maxHeartbeats 4000000
namespace Go.Proofs.YtiiidfgdejfhhaaGreatDoor
open Go Go.RowKit Go.Eng Go.Proofs

structure St257 where
  e0 : ByteArray
  e1 : ByteArray
  e2 : ByteArray
  e3 : ByteArray
  e4 : ByteArray
  e5 : ByteArray
  e6 : ByteArray
  e7 : ByteArray
  e8 : ByteArray
  e9 : ByteArray
  deriving Inhabited, DecidableEq
def kd_St257 : Kd St257 := ⟨10, fun x sv => [.string x.e0, .string x.e1, .string x.e2, .string x.e3, .string x.e4, .string x.e5, .string x.e6, .string x.e7, .string x.e8, .string x.e9], fun S w x sv => True, fun _ _ => rfl, Nat.le_of_ble_eq_true rfl, fun h hk => trivial⟩
def rdA_St257 (x : St257) (i : Int) : ByteArray := if i = 0 then x.e0 else if i = 1 then x.e1 else if i = 2 then x.e2 else if i = 3 then x.e3 else if i = 4 then x.e4 else if i = 5 then x.e5 else if i = 6 then x.e6 else if i = 7 then x.e7 else if i = 8 then x.e8 else x.e9
theorem elA_St257 {S : Nat → Prop} {w : World} {B : Addr} {x : St257} {sv : SV} (h : El kd_St257 S w B x sv) {i : Int} (hi : inb i 10 = true) : El Kd.str S w (B.add (i.toNat * 1)) (rdA_St257 x i) (svO sv (i.toNat * 0)) := by
  obtain ⟨h0, h1⟩ := inb_spec hi
  have : i = 0 ∨ i = 1 ∨ i = 2 ∨ i = 3 ∨ i = 4 ∨ i = 5 ∨ i = 6 ∨ i = 7 ∨ i = 8 ∨ i = 9 := by omega
  rcases this with rfl | rfl | rfl | rfl | rfl | rfl | rfl | rfl | rfl | rfl
  · exact El.part h (0 * 1) x.e0 (svO sv (0 * 0)) trivial rfl
  · exact El.part h (1 * 1) x.e1 (svO sv (1 * 0)) trivial rfl
  · exact El.part h (2 * 1) x.e2 (svO sv (2 * 0)) trivial rfl
  · exact El.part h (3 * 1) x.e3 (svO sv (3 * 0)) trivial rfl
  · exact El.part h (4 * 1) x.e4 (svO sv (4 * 0)) trivial rfl
  · exact El.part h (5 * 1) x.e5 (svO sv (5 * 0)) trivial rfl
  · exact El.part h (6 * 1) x.e6 (svO sv (6 * 0)) trivial rfl
  · exact El.part h (7 * 1) x.e7 (svO sv (7 * 0)) trivial rfl
  · exact El.part h (8 * 1) x.e8 (svO sv (8 * 0)) trivial rfl
  · exact El.part h (9 * 1) x.e9 (svO sv (9 * 0)) trivial rfl
theorem kd_one_St257 (x : St257) (sv : SV) (u : Value) (hu : u ∈ kd_St257.cells x sv) : u.oneCell' = true := by
  simp only [kd_St257, List.mem_cons, List.not_mem_nil, or_false] at hu
  rcases hu with rfl | rfl | rfl | rfl | rfl | rfl | rfl | rfl | rfl | rfl
  all_goals rfl
structure Part where
  Core : Int
  Private : Int
  deriving Inhabited, DecidableEq
def kd_Part : Kd Part := ⟨2, fun x sv => [.int .i64 x.Core, .int .i64 x.Private], fun S w x sv => True, fun _ _ => rfl, Nat.le_of_ble_eq_true rfl, fun h hk => trivial⟩
structure Chan where
  Kind : Int
  From : Int
  To : Int
  Words : Int
  Depth : Int
  Period : Int
  Boot : Int
  deriving Inhabited, DecidableEq
def kd_Chan : Kd Chan := ⟨7, fun x sv => [.int .i64 x.Kind, .int .i64 x.From, .int .i64 x.To, .int .i64 x.Words, .int .i64 x.Depth, .int .i64 x.Period, .int .u32 x.Boot], fun S w x sv => True, fun _ _ => rfl, Nat.le_of_ble_eq_true rfl, fun h hk => trivial⟩
structure Window where
  Part : Int
  Start : Int
  Len : Int
  deriving Inhabited, DecidableEq
def kd_Window : Kd Window := ⟨3, fun x sv => [.int .i64 x.Part, .int .i64 x.Start, .int .i64 x.Len], fun S w x sv => True, fun _ _ => rfl, Nat.le_of_ble_eq_true rfl, fun h hk => trivial⟩
structure Frame where
  Length : Int
  Windows : (List Window)
  deriving Inhabited, DecidableEq
def kd_Frame : Kd Frame := ⟨2, fun x sv => [.int .i64 x.Length, .slice (sv 0).1 x.Windows.length (sv 0).2], fun S w x sv => (Arr kd_Window S w (sv 0).1 x.Windows ∧ x.Windows.length ≤ (sv 0).2) ∧ True, fun _ _ => rfl, Nat.le_of_ble_eq_true rfl, fun h hk => ⟨⟨h.1.1.keep hk, h.1.2⟩, trivial⟩⟩
structure St27 where
  e0 : Frame
  e1 : Frame
  deriving Inhabited, DecidableEq
def kd_St27 : Kd St27 := ⟨4, fun x sv => [.int .i64 x.e0.Length, .slice (sv 0).1 x.e0.Windows.length (sv 0).2, .int .i64 x.e1.Length, .slice (sv 1).1 x.e1.Windows.length (sv 1).2], fun S w x sv => (Arr kd_Window S w (sv 0).1 x.e0.Windows ∧ x.e0.Windows.length ≤ (sv 0).2) ∧ (Arr kd_Window S w (sv 1).1 x.e1.Windows ∧ x.e1.Windows.length ≤ (sv 1).2) ∧ True, fun _ _ => rfl, Nat.le_of_ble_eq_true rfl, fun h hk => ⟨⟨h.1.1.keep hk, h.1.2⟩, ⟨h.2.1.1.keep hk, h.2.1.2⟩, trivial⟩⟩
def rdA_St27 (x : St27) (i : Int) : Frame := if i = 0 then x.e0 else x.e1
theorem elA_St27 {S : Nat → Prop} {w : World} {B : Addr} {x : St27} {sv : SV} (h : El kd_St27 S w B x sv) {i : Int} (hi : inb i 2 = true) : El kd_Frame S w (B.add (i.toNat * 2)) (rdA_St27 x i) (svO sv (i.toNat * 1)) := by
  obtain ⟨h0, h1⟩ := inb_spec hi
  have : i = 0 ∨ i = 1 := by omega
  rcases this with rfl | rfl
  · exact El.part h (0 * 2) x.e0 (svO sv (0 * 1)) ⟨h.cont.1, trivial⟩ rfl
  · exact El.part h (1 * 2) x.e1 (svO sv (1 * 1)) ⟨h.cont.2.1, trivial⟩ rfl
structure Config where
  Parts : (List Part)
  Chans : (List Chan)
  Frames : St27
  deriving Inhabited, DecidableEq
def kd_Config : Kd Config := ⟨6, fun x sv => [.slice (sv 0).1 x.Parts.length (sv 0).2, .slice (sv 1).1 x.Chans.length (sv 1).2, .int .i64 x.Frames.e0.Length, .slice (sv 2).1 x.Frames.e0.Windows.length (sv 2).2, .int .i64 x.Frames.e1.Length, .slice (sv 3).1 x.Frames.e1.Windows.length (sv 3).2], fun S w x sv => (Arr kd_Part S w (sv 0).1 x.Parts ∧ x.Parts.length ≤ (sv 0).2) ∧ (Arr kd_Chan S w (sv 1).1 x.Chans ∧ x.Chans.length ≤ (sv 1).2) ∧ (Arr kd_Window S w (sv 2).1 x.Frames.e0.Windows ∧ x.Frames.e0.Windows.length ≤ (sv 2).2) ∧ (Arr kd_Window S w (sv 3).1 x.Frames.e1.Windows ∧ x.Frames.e1.Windows.length ≤ (sv 3).2) ∧ True, fun _ _ => rfl, Nat.le_of_ble_eq_true rfl, fun h hk => ⟨⟨h.1.1.keep hk, h.1.2⟩, ⟨h.2.1.1.keep hk, h.2.1.2⟩, ⟨h.2.2.1.1.keep hk, h.2.2.1.2⟩, ⟨h.2.2.2.1.1.keep hk, h.2.2.2.1.2⟩, trivial⟩⟩
structure Standing where
  Part : Int
  Normal : Bool
  Made : (List Int)
  Valid : (List Int)
  deriving Inhabited, DecidableEq
def kd_Standing : Kd Standing := ⟨4, fun x sv => [.int .i64 x.Part, .bool x.Normal, .slice (sv 0).1 x.Made.length (sv 0).2, .slice (sv 1).1 x.Valid.length (sv 1).2], fun S w x sv => (Arr (Kd.int .i64) S w (sv 0).1 x.Made ∧ x.Made.length ≤ (sv 0).2) ∧ (Arr (Kd.int .i64) S w (sv 1).1 x.Valid ∧ x.Valid.length ≤ (sv 1).2) ∧ True, fun _ _ => rfl, Nat.le_of_ble_eq_true rfl, fun h hk => ⟨⟨h.1.1.keep hk, h.1.2⟩, ⟨h.2.1.1.keep hk, h.2.1.2⟩, trivial⟩⟩
structure Request where
  Op : Int
  Port : Int
  Addr : Int
  Data : (List Int)
  deriving Inhabited, DecidableEq
def kd_Request : Kd Request := ⟨4, fun x sv => [.int .i64 x.Op, .int .i64 x.Port, .int .u64 x.Addr, .slice (sv 0).1 x.Data.length (sv 0).2], fun S w x sv => (Arr (Kd.int .u32) S w (sv 0).1 x.Data ∧ x.Data.length ≤ (sv 0).2) ∧ True, fun _ _ => rfl, Nat.le_of_ble_eq_true rfl, fun h hk => ⟨⟨h.1.1.keep hk, h.1.2⟩, trivial⟩⟩
structure Task_cell where
  at_ : Int
  words : (List Int)
  deriving Inhabited, DecidableEq
def kd_Task_cell : Kd Task_cell := ⟨2, fun x sv => [.int .u64 x.at_, .slice (sv 0).1 x.words.length (sv 0).2], fun S w x sv => (Arr (Kd.int .u32) S w (sv 0).1 x.words ∧ x.words.length ≤ (sv 0).2) ∧ True, fun _ _ => rfl, Nat.le_of_ble_eq_true rfl, fun h hk => ⟨⟨h.1.1.keep hk, h.1.2⟩, trivial⟩⟩
inductive Fn133 where
  | nil
  | t221 (c0 : Task_cell)
  deriving Inhabited, DecidableEq
def fnv133 (x : Fn133) (sv : SV) : Value := match x with
  | .nil => .nilIface
  | .t221 c0 => .iface 221 (.agg ((kd_Task_cell).cells c0 sv).toArray)
def fnc133 (S : Nat → Prop) (w : World) (x : Fn133) (sv : SV) : Prop := match x with
  | .nil => True
  | .t221 c0 => (kd_Task_cell).cont S w c0 sv
theorem fnk133 {S S' : Nat → Prop} {w w' : World} {x : Fn133} {sv : SV} (h : fnc133 S w x sv) (hk : ∀ b, S b → IsC w b → S' b ∧ w'.heap[b]? = w.heap[b]?) : fnc133 S' w' x sv := by
  cases x with
  | nil => exact trivial
  | t221 c0 => exact (kd_Task_cell).keep h hk
theorem fnr133 {S : Nat → Prop} {w : World} {x y : Fn133} {sv : SV} (h : fnc133 S w x sv) (e : x = y) : fnc133 S w y sv := e ▸ h
def kdF133 : Kd Fn133 := ⟨1, fun x sv => [fnv133 x sv], fun S w x sv => fnc133 S w x sv, fun _ _ => rfl, Nat.one_pos, fun h hk => fnk133 h hk⟩
def Fn133.on {ρ : Type} (x : Fn133) (a0 : Option ρ) (a1 : Task_cell → Option ρ) : Option ρ := match x with
  | .nil => a0
  | .t221 c0 => a1 c0
theorem Fn133.split {ρ : Type} {x : Fn133} {a0 : Option ρ} {a1 : Task_cell → Option ρ} {r : ρ} (h : x.on a0 a1 = some r) : (x = .nil ∧ a0 = some r) ∨ (∃ y, x = .t221 y ∧ a1 y = some r) := by
  cases x with
  | nil => exact .inl (⟨rfl, h⟩)
  | t221 y => exact .inr (⟨y, rfl, h⟩)
structure Task_work_ where
  work : Fn133
  steps : Int
  over : Bool
  deriving Inhabited, DecidableEq
structure Task_Task where
  all : Task_work_
  own : Int
  deriving Inhabited, DecidableEq
def kd_Task_Task : Kd Task_Task := ⟨4, fun x sv => [(fnv133 x.all.work sv), .int .i64 x.all.steps, .bool x.all.over, .int .u32 x.own], fun S w x sv => (fnc133 S w x.all.work sv) ∧ True, fun _ _ => rfl, Nat.le_of_ble_eq_true rfl, fun h hk => ⟨fnk133 h.1 hk, trivial⟩⟩
def lv_Task_Task (S : Nat → Prop) (w : World) (b : Nat) (x : Task_Task) (sv : SV) (F : List Nat) : Prop := F = [] ∧ True
theorem lvk_Task_Task {S S' : Nat → Prop} {w w' : World} {b : Nat} {x : Task_Task} {sv : SV} {F : List Nat} (h : lv_Task_Task S w b x sv F) (hk : Mv S w S' w') (hb : ∀ b ∈ F, w'.heap[b]? = w.heap[b]?) : lv_Task_Task S' w' b x sv F := by
  obtain ⟨hF, _⟩ := h
  exact ⟨hF, trivial⟩
theorem lvn_Task_Task {S : Nat → Prop} {w : World} {b : Nat} {x : Task_Task} {sv : SV} {F : List Nat} (h : lv_Task_Task S w b x sv F) : ∀ b ∈ F, b < w.heap.size ∧ ∀ q, w.heap[b]? ≠ some (.deferred q) := by
  obtain ⟨hF, _⟩ := h
  intro c hc
  rw [hF] at hc
  cases hc
def lk_Task_Task : Lk Task_Task := ⟨kd_Task_Task, 140, lv_Task_Task, fun h hk hb => lvk_Task_Task h hk hb, fun h => lvn_Task_Task h⟩
structure Answer where
  Code : Int
  Data : (List Int)
  Valid : Bool
  Count : Int
  deriving Inhabited, DecidableEq
def kd_Answer : Kd Answer := ⟨4, fun x sv => [.int .i64 x.Code, .slice (sv 0).1 x.Data.length (sv 0).2, .bool x.Valid, .int .i64 x.Count], fun S w x sv => (Arr (Kd.int .u32) S w (sv 0).1 x.Data ∧ x.Data.length ≤ (sv 0).2) ∧ True, fun _ _ => rfl, Nat.le_of_ble_eq_true rfl, fun h hk => ⟨⟨h.1.1.keep hk, h.1.2⟩, trivial⟩⟩
inductive Fn316 where
  | f214
  | f215
  deriving Inhabited, DecidableEq
def fid316 (x : Fn316) : Nat := match x with
  | .f214 => 214
  | .f215 => 215
def fca316 (x : Fn316) (sv : SV) : Array Value := match x with
  | .f214 => #[]
  | .f215 => #[]
def fnv316 (x : Fn316) (sv : SV) : Value := .func (.func (fid316 x)) #[] (fca316 x sv)
def fnc316 (S : Nat → Prop) (w : World) (x : Fn316) (sv : SV) : Prop := match x with
  | .f214 => True
  | .f215 => True
theorem fnk316 {S S' : Nat → Prop} {w w' : World} {x : Fn316} {sv : SV} (h : fnc316 S w x sv) (hk : ∀ b, S b → IsC w b → S' b ∧ w'.heap[b]? = w.heap[b]?) : fnc316 S' w' x sv := by
  cases x with
  | f214 => exact trivial
  | f215 => exact trivial
def kdF316 : Kd Fn316 := ⟨1, fun x sv => [fnv316 x sv], fun S w x sv => fnc316 S w x sv, fun _ _ => rfl, Nat.one_pos, fun h hk => fnk316 h hk⟩
inductive Fn318 where
  | f218
  | f219
  | f221
  | f222
  | f223
  | f225
  | f227
  deriving Inhabited, DecidableEq
def fid318 (x : Fn318) : Nat := match x with
  | .f218 => 218
  | .f219 => 219
  | .f221 => 221
  | .f222 => 222
  | .f223 => 223
  | .f225 => 225
  | .f227 => 227
def fca318 (x : Fn318) (sv : SV) : Array Value := match x with
  | .f218 => #[]
  | .f219 => #[]
  | .f221 => #[]
  | .f222 => #[]
  | .f223 => #[]
  | .f225 => #[]
  | .f227 => #[]
def fnv318 (x : Fn318) (sv : SV) : Value := .func (.func (fid318 x)) #[] (fca318 x sv)
def fnc318 (S : Nat → Prop) (w : World) (x : Fn318) (sv : SV) : Prop := match x with
  | .f218 => True
  | .f219 => True
  | .f221 => True
  | .f222 => True
  | .f223 => True
  | .f225 => True
  | .f227 => True
theorem fnk318 {S S' : Nat → Prop} {w w' : World} {x : Fn318} {sv : SV} (h : fnc318 S w x sv) (hk : ∀ b, S b → IsC w b → S' b ∧ w'.heap[b]? = w.heap[b]?) : fnc318 S' w' x sv := by
  cases x with
  | f218 => exact trivial
  | f219 => exact trivial
  | f221 => exact trivial
  | f222 => exact trivial
  | f223 => exact trivial
  | f225 => exact trivial
  | f227 => exact trivial
def kdF318 : Kd Fn318 := ⟨1, fun x sv => [fnv318 x sv], fun S w x sv => fnc318 S w x sv, fun _ _ => rfl, Nat.one_pos, fun h hk => fnk318 h hk⟩
inductive Fn322 where
  | f232
  | f233
  deriving Inhabited, DecidableEq
def fid322 (x : Fn322) : Nat := match x with
  | .f232 => 232
  | .f233 => 233
def fca322 (x : Fn322) (sv : SV) : Array Value := match x with
  | .f232 => #[]
  | .f233 => #[]
def fnv322 (x : Fn322) (sv : SV) : Value := .func (.func (fid322 x)) #[] (fca322 x sv)
def fnc322 (S : Nat → Prop) (w : World) (x : Fn322) (sv : SV) : Prop := match x with
  | .f232 => True
  | .f233 => True
theorem fnk322 {S S' : Nat → Prop} {w w' : World} {x : Fn322} {sv : SV} (h : fnc322 S w x sv) (hk : ∀ b, S b → IsC w b → S' b ∧ w'.heap[b]? = w.heap[b]?) : fnc322 S' w' x sv := by
  cases x with
  | f232 => exact trivial
  | f233 => exact trivial
def kdF322 : Kd Fn322 := ⟨1, fun x sv => [fnv322 x sv], fun S w x sv => fnc322 S w x sv, fun _ _ => rfl, Nat.one_pos, fun h hk => fnk322 h hk⟩
inductive Fn181 where
  | f247 (c0 : Fn322)
  | f229
  | f230
  | f234
  deriving Inhabited, DecidableEq
def fid181 (x : Fn181) : Nat := match x with
  | .f247 _ => 247
  | .f229 => 229
  | .f230 => 230
  | .f234 => 234
def fca181 (x : Fn181) (sv : SV) : Array Value := match x with
  | .f247 _ => #[.pointer (some (adr (sv 0).1))]
  | .f229 => #[]
  | .f230 => #[]
  | .f234 => #[]
def fnv181 (x : Fn181) (sv : SV) : Value := .func (.func (fid181 x)) #[] (fca181 x sv)
def fnc181 (S : Nat → Prop) (w : World) (x : Fn181) (sv : SV) : Prop := match x with
  | .f247 c0 => El kdF322 S w (adr (sv 0).1) c0 (svO sv 1)
  | .f229 => True
  | .f230 => True
  | .f234 => True
theorem fnk181 {S S' : Nat → Prop} {w w' : World} {x : Fn181} {sv : SV} (h : fnc181 S w x sv) (hk : ∀ b, S b → IsC w b → S' b ∧ w'.heap[b]? = w.heap[b]?) : fnc181 S' w' x sv := by
  cases x with
  | f247 c0 => exact El.keep h hk
  | f229 => exact trivial
  | f230 => exact trivial
  | f234 => exact trivial
def kdF181 : Kd Fn181 := ⟨1, fun x sv => [fnv181 x sv], fun S w x sv => fnc181 S w x sv, fun _ _ => rfl, Nat.one_pos, fun h hk => fnk181 h hk⟩
inductive Fn37 where
  | f241 (c0 : Fn316)
  | f243 (c0 : Fn318)
  | f246 (c0 : Fn181)
  | f211
  | f216
  | f235
  deriving Inhabited, DecidableEq
def fid37 (x : Fn37) : Nat := match x with
  | .f241 _ => 241
  | .f243 _ => 243
  | .f246 _ => 246
  | .f211 => 211
  | .f216 => 216
  | .f235 => 235
def fca37 (x : Fn37) (sv : SV) : Array Value := match x with
  | .f241 _ => #[.pointer (some (adr (sv 0).1))]
  | .f243 _ => #[.pointer (some (adr (sv 0).1))]
  | .f246 _ => #[.pointer (some (adr (sv 0).1))]
  | .f211 => #[]
  | .f216 => #[]
  | .f235 => #[]
def fnv37 (x : Fn37) (sv : SV) : Value := .func (.func (fid37 x)) #[] (fca37 x sv)
def fnc37 (S : Nat → Prop) (w : World) (x : Fn37) (sv : SV) : Prop := match x with
  | .f241 c0 => El kdF316 S w (adr (sv 0).1) c0 (svO sv 1)
  | .f243 c0 => El kdF318 S w (adr (sv 0).1) c0 (svO sv 1)
  | .f246 c0 => El kdF181 S w (adr (sv 0).1) c0 (svO sv 1)
  | .f211 => True
  | .f216 => True
  | .f235 => True
theorem fnk37 {S S' : Nat → Prop} {w w' : World} {x : Fn37} {sv : SV} (h : fnc37 S w x sv) (hk : ∀ b, S b → IsC w b → S' b ∧ w'.heap[b]? = w.heap[b]?) : fnc37 S' w' x sv := by
  cases x with
  | f241 c0 => exact El.keep h hk
  | f243 c0 => exact El.keep h hk
  | f246 c0 => exact El.keep h hk
  | f211 => exact trivial
  | f216 => exact trivial
  | f235 => exact trivial
def kdF37 : Kd Fn37 := ⟨1, fun x sv => [fnv37 x sv], fun S w x sv => fnc37 S w x sv, fun _ _ => rfl, Nat.one_pos, fun h hk => fnk37 h hk⟩
structure Defect_rule where
  holds : Fn37
  deriving Inhabited, DecidableEq
def kd_Defect_rule : Kd Defect_rule := ⟨1, fun x sv => [(fnv37 x.holds sv)], fun S w x sv => (fnc37 S w x.holds sv) ∧ True, fun _ _ => rfl, Nat.le_of_ble_eq_true rfl, fun h hk => ⟨fnk37 h.1 hk, trivial⟩⟩
inductive Fn319 where
  | f245 (c0 : Fn318) (c1 : Config)
  deriving Inhabited, DecidableEq
def fid319 (x : Fn319) : Nat := match x with
  | .f245 _ _ => 245
def fca319 (x : Fn319) (sv : SV) : Array Value := match x with
  | .f245 _ _ => #[.pointer (some (adr (sv 0).1)), .pointer (some (adr (sv 1).1))]
def fnv319 (x : Fn319) (sv : SV) : Value := .func (.func (fid319 x)) #[] (fca319 x sv)
def fnc319 (S : Nat → Prop) (w : World) (x : Fn319) (sv : SV) : Prop := match x with
  | .f245 c0 c1 => El kdF318 S w (adr (sv 0).1) c0 (svO sv 1) ∧ El kd_Config S w (adr (sv 1).1) c1 (svO sv 2)
theorem fnk319 {S S' : Nat → Prop} {w w' : World} {x : Fn319} {sv : SV} (h : fnc319 S w x sv) (hk : ∀ b, S b → IsC w b → S' b ∧ w'.heap[b]? = w.heap[b]?) : fnc319 S' w' x sv := by
  cases x with
  | f245 c0 c1 => exact ⟨El.keep h.1 hk, El.keep h.2 hk⟩
def kdF319 : Kd Fn319 := ⟨1, fun x sv => [fnv319 x sv], fun S w x sv => fnc319 S w x sv, fun _ _ => rfl, Nat.one_pos, fun h hk => fnk319 h hk⟩
inductive Fn328 where
  | f249 (c0 : Fn322) (c1 : Config) (c2 : Int)
  | f252 (c0 : Int)
  deriving Inhabited, DecidableEq
def fid328 (x : Fn328) : Nat := match x with
  | .f249 _ _ _ => 249
  | .f252 _ => 252
def fca328 (x : Fn328) (sv : SV) : Array Value := match x with
  | .f249 _ _ _ => #[.pointer (some (adr (sv 0).1)), .pointer (some (adr (sv 1).1)), .pointer (some (adr (sv 6).1))]
  | .f252 _ => #[.pointer (some (adr (sv 0).1))]
def fnv328 (x : Fn328) (sv : SV) : Value := .func (.func (fid328 x)) #[] (fca328 x sv)
def fnc328 (S : Nat → Prop) (w : World) (x : Fn328) (sv : SV) : Prop := match x with
  | .f249 c0 c1 c2 => El kdF322 S w (adr (sv 0).1) c0 (svO sv 1) ∧ El kd_Config S w (adr (sv 1).1) c1 (svO sv 2) ∧ El (Kd.int .i64) S w (adr (sv 6).1) c2 (svO sv 7)
  | .f252 c0 => El (Kd.int .i64) S w (adr (sv 0).1) c0 (svO sv 1)
theorem fnk328 {S S' : Nat → Prop} {w w' : World} {x : Fn328} {sv : SV} (h : fnc328 S w x sv) (hk : ∀ b, S b → IsC w b → S' b ∧ w'.heap[b]? = w.heap[b]?) : fnc328 S' w' x sv := by
  cases x with
  | f249 c0 c1 c2 => exact ⟨El.keep h.1 hk, El.keep h.2.1 hk, El.keep h.2.2 hk⟩
  | f252 c0 => exact El.keep h hk
def kdF328 : Kd Fn328 := ⟨1, fun x sv => [fnv328 x sv], fun S w x sv => fnc328 S w x sv, fun _ _ => rfl, Nat.one_pos, fun h hk => fnk328 h hk⟩
inductive Fn214 where
  | f143 (c0 : Int) (c1 : Bool)
  | f145
  | f146
  | f147
  | f148
  | f149
  | f150
  | f151
  | f152
  | f153
  deriving Inhabited, DecidableEq
def fid214 (x : Fn214) : Nat := match x with
  | .f143 _ _ => 143
  | .f145 => 145
  | .f146 => 146
  | .f147 => 147
  | .f148 => 148
  | .f149 => 149
  | .f150 => 150
  | .f151 => 151
  | .f152 => 152
  | .f153 => 153
def fca214 (x : Fn214) (sv : SV) : Array Value := match x with
  | .f143 _ _ => #[.pointer (some (adr (sv 0).1)), .pointer (some (adr (sv 1).1))]
  | .f145 => #[]
  | .f146 => #[]
  | .f147 => #[]
  | .f148 => #[]
  | .f149 => #[]
  | .f150 => #[]
  | .f151 => #[]
  | .f152 => #[]
  | .f153 => #[]
def fnv214 (x : Fn214) (sv : SV) : Value := .func (.func (fid214 x)) #[] (fca214 x sv)
def fnc214 (S : Nat → Prop) (w : World) (x : Fn214) (sv : SV) : Prop := match x with
  | .f143 c0 c1 => El (Kd.int .i64) S w (adr (sv 0).1) c0 (svO sv 1) ∧ El Kd.bool S w (adr (sv 1).1) c1 (svO sv 2)
  | .f145 => True
  | .f146 => True
  | .f147 => True
  | .f148 => True
  | .f149 => True
  | .f150 => True
  | .f151 => True
  | .f152 => True
  | .f153 => True
theorem fnk214 {S S' : Nat → Prop} {w w' : World} {x : Fn214} {sv : SV} (h : fnc214 S w x sv) (hk : ∀ b, S b → IsC w b → S' b ∧ w'.heap[b]? = w.heap[b]?) : fnc214 S' w' x sv := by
  cases x with
  | f143 c0 c1 => exact ⟨El.keep h.1 hk, El.keep h.2 hk⟩
  | f145 => exact trivial
  | f146 => exact trivial
  | f147 => exact trivial
  | f148 => exact trivial
  | f149 => exact trivial
  | f150 => exact trivial
  | f151 => exact trivial
  | f152 => exact trivial
  | f153 => exact trivial
def kdF214 : Kd Fn214 := ⟨1, fun x sv => [fnv214 x sv], fun S w x sv => fnc214 S w x sv, fun _ _ => rfl, Nat.one_pos, fun h hk => fnk214 h hk⟩
structure Sign_row where
  ops : ByteArray
  holds : Fn214
  code : Int
  deriving Inhabited, DecidableEq
def kd_Sign_row : Kd Sign_row := ⟨3, fun x sv => [.string x.ops, (fnv214 x.holds sv), .int .i64 x.code], fun S w x sv => (fnc214 S w x.holds sv) ∧ True, fun _ _ => rfl, Nat.le_of_ble_eq_true rfl, fun h hk => ⟨fnk214 h.1 hk, trivial⟩⟩
structure Sign_asked where
  Request : Request
  c : Config
  s : Standing
  channel : Chan
  source : Bool
  own : Bool
  deriving Inhabited, DecidableEq
def kd_Sign_asked : Kd Sign_asked := ⟨23, fun x sv => [.int .i64 x.Request.Op, .int .i64 x.Request.Port, .int .u64 x.Request.Addr, .slice (sv 0).1 x.Request.Data.length (sv 0).2, .slice (sv 1).1 x.c.Parts.length (sv 1).2, .slice (sv 2).1 x.c.Chans.length (sv 2).2, .int .i64 x.c.Frames.e0.Length, .slice (sv 3).1 x.c.Frames.e0.Windows.length (sv 3).2, .int .i64 x.c.Frames.e1.Length, .slice (sv 4).1 x.c.Frames.e1.Windows.length (sv 4).2, .int .i64 x.s.Part, .bool x.s.Normal, .slice (sv 5).1 x.s.Made.length (sv 5).2, .slice (sv 6).1 x.s.Valid.length (sv 6).2, .int .i64 x.channel.Kind, .int .i64 x.channel.From, .int .i64 x.channel.To, .int .i64 x.channel.Words, .int .i64 x.channel.Depth, .int .i64 x.channel.Period, .int .u32 x.channel.Boot, .bool x.source, .bool x.own], fun S w x sv => (Arr (Kd.int .u32) S w (sv 0).1 x.Request.Data ∧ x.Request.Data.length ≤ (sv 0).2) ∧ (Arr kd_Part S w (sv 1).1 x.c.Parts ∧ x.c.Parts.length ≤ (sv 1).2) ∧ (Arr kd_Chan S w (sv 2).1 x.c.Chans ∧ x.c.Chans.length ≤ (sv 2).2) ∧ (Arr kd_Window S w (sv 3).1 x.c.Frames.e0.Windows ∧ x.c.Frames.e0.Windows.length ≤ (sv 3).2) ∧ (Arr kd_Window S w (sv 4).1 x.c.Frames.e1.Windows ∧ x.c.Frames.e1.Windows.length ≤ (sv 4).2) ∧ (Arr (Kd.int .i64) S w (sv 5).1 x.s.Made ∧ x.s.Made.length ≤ (sv 5).2) ∧ (Arr (Kd.int .i64) S w (sv 6).1 x.s.Valid ∧ x.s.Valid.length ≤ (sv 6).2) ∧ True, fun _ _ => rfl, Nat.le_of_ble_eq_true rfl, fun h hk => ⟨⟨h.1.1.keep hk, h.1.2⟩, ⟨h.2.1.1.keep hk, h.2.1.2⟩, ⟨h.2.2.1.1.keep hk, h.2.2.1.2⟩, ⟨h.2.2.2.1.1.keep hk, h.2.2.2.1.2⟩, ⟨h.2.2.2.2.1.1.keep hk, h.2.2.2.2.1.2⟩, ⟨h.2.2.2.2.2.1.1.keep hk, h.2.2.2.2.2.1.2⟩, ⟨h.2.2.2.2.2.2.1.1.keep hk, h.2.2.2.2.2.2.1.2⟩, trivial⟩⟩
structure Span where
  From : Int
  Size : Int
  deriving Inhabited, DecidableEq
def kd_Span : Kd Span := ⟨2, fun x sv => [.int .i64 x.From, .int .i64 x.Size], fun S w x sv => True, fun _ _ => rfl, Nat.le_of_ble_eq_true rfl, fun h hk => trivial⟩
theorem kd_one_Span (x : Span) (sv : SV) (u : Value) (hu : u ∈ kd_Span.cells x sv) : u.oneCell' = true := by
  simp only [kd_Span, List.mem_cons, List.not_mem_nil, or_false] at hu
  rcases hu with rfl | rfl
  all_goals rfl
structure Layout_plan where
  parts : Int
  l : (List Span)
  end_ : Int
  deriving Inhabited, DecidableEq
def kd_Layout_plan : Kd Layout_plan := ⟨3, fun x sv => [.int .i64 x.parts, .slice (sv 0).1 x.l.length (sv 0).2, .int .i64 x.end_], fun S w x sv => (Arr kd_Span S w (sv 0).1 x.l ∧ x.l.length ≤ (sv 0).2) ∧ True, fun _ _ => rfl, Nat.le_of_ble_eq_true rfl, fun h hk => ⟨⟨h.1.1.keep hk, h.1.2⟩, trivial⟩⟩
structure Mem_Mem where
  words : (List Int)
  deriving Inhabited, DecidableEq
def kd_Mem_Mem : Kd Mem_Mem := ⟨1, fun x sv => [.slice (sv 0).1 (sv 1).2 (sv 0).2], fun S w x sv => True, fun _ _ => rfl, Nat.le_of_ble_eq_true rfl, fun h hk => trivial⟩
def lv_Mem_Mem (S : Nat → Prop) (w : World) (b : Nat) (x : Mem_Mem) (sv : SV) (F : List Nat) : Prop := F = rb (sv 0).1 ++ ([]) ∧ (Row (Kd.int .u32) 60 S w 0 (sv 0).1 (sv 0).2 x.words ∧ x.words.length = (sv 1).2) ∧ True
theorem lvk_Mem_Mem {S S' : Nat → Prop} {w w' : World} {b : Nat} {x : Mem_Mem} {sv : SV} {F : List Nat} (h : lv_Mem_Mem S w b x sv F) (hk : Mv S w S' w') (hb : ∀ b ∈ F, w'.heap[b]? = w.heap[b]?) : lv_Mem_Mem S' w' b x sv F := by
  obtain ⟨hF, h0, _⟩ := h
  exact ⟨hF, ⟨Row.keep h0.1 hk (fun c hc => hb c (hF ▸ List.mem_append_left _ hc)), h0.2⟩, trivial⟩
theorem lvn_Mem_Mem {S : Nat → Prop} {w : World} {b : Nat} {x : Mem_Mem} {sv : SV} {F : List Nat} (h : lv_Mem_Mem S w b x sv F) : ∀ b ∈ F, b < w.heap.size ∧ ∀ q, w.heap[b]? ≠ some (.deferred q) := by
  obtain ⟨hF, h0, _⟩ := h
  intro c hc
  rw [hF] at hc
  rcases List.mem_append.1 hc with hc | hc
  · exact h0.1.ndl c hc
  cases hc
def lk_Mem_Mem : Lk Mem_Mem := ⟨kd_Mem_Mem, 159, lv_Mem_Mem, fun h hk hb => lvk_Mem_Mem h hk hb, fun h => lvn_Mem_Mem h⟩
structure Bell_Set where
  n : Int
  bits : Int
  deriving Inhabited, DecidableEq
def kd_Bell_Set : Kd Bell_Set := ⟨2, fun x sv => [.int .i64 x.n, .int .u64 x.bits], fun S w x sv => True, fun _ _ => rfl, Nat.le_of_ble_eq_true rfl, fun h hk => trivial⟩
def lv_Bell_Set (S : Nat → Prop) (w : World) (b : Nat) (x : Bell_Set) (sv : SV) (F : List Nat) : Prop := F = [] ∧ True
theorem lvk_Bell_Set {S S' : Nat → Prop} {w w' : World} {b : Nat} {x : Bell_Set} {sv : SV} {F : List Nat} (h : lv_Bell_Set S w b x sv F) (hk : Mv S w S' w') (hb : ∀ b ∈ F, w'.heap[b]? = w.heap[b]?) : lv_Bell_Set S' w' b x sv F := by
  obtain ⟨hF, _⟩ := h
  exact ⟨hF, trivial⟩
theorem lvn_Bell_Set {S : Nat → Prop} {w : World} {b : Nat} {x : Bell_Set} {sv : SV} {F : List Nat} (h : lv_Bell_Set S w b x sv F) : ∀ b ∈ F, b < w.heap.size ∧ ∀ q, w.heap[b]? ≠ some (.deferred q) := by
  obtain ⟨hF, _⟩ := h
  intro c hc
  rw [hF] at hc
  cases hc
def lk_Bell_Set : Lk Bell_Set := ⟨kd_Bell_Set, 162, lv_Bell_Set, fun h hk hb => lvk_Bell_Set h hk hb, fun h => lvn_Bell_Set h⟩
structure Did where
  Done : Bool
  Ans : Answer
  Mark : Bool
  Ring : Bool
  Stamped : Bool
  Buffer : Int
  deriving Inhabited, DecidableEq
def kd_Did : Kd Did := ⟨9, fun x sv => [.bool x.Done, .int .i64 x.Ans.Code, .slice (sv 0).1 x.Ans.Data.length (sv 0).2, .bool x.Ans.Valid, .int .i64 x.Ans.Count, .bool x.Mark, .bool x.Ring, .bool x.Stamped, .int .i64 x.Buffer], fun S w x sv => (Arr (Kd.int .u32) S w (sv 0).1 x.Ans.Data ∧ x.Ans.Data.length ≤ (sv 0).2) ∧ True, fun _ _ => rfl, Nat.le_of_ble_eq_true rfl, fun h hk => ⟨⟨h.1.1.keep hk, h.1.2⟩, trivial⟩⟩
def gv0 : St257 := (⟨(⟨#[]⟩ : ByteArray), (⟨#[99, 114, 101, 97, 116, 101]⟩ : ByteArray), (⟨#[110, 111, 114, 109, 97, 108]⟩ : ByteArray), (⟨#[119, 114, 105, 116, 101]⟩ : ByteArray), (⟨#[114, 101, 97, 100]⟩ : ByteArray), (⟨#[115, 101, 110, 100]⟩ : ByteArray), (⟨#[114, 101, 99, 101, 105, 118, 101]⟩ : ByteArray), (⟨#[115, 116, 97, 116, 117, 115]⟩ : ByteArray), (⟨#[112, 101, 101, 107]⟩ : ByteArray), (⟨#[112, 111, 107, 101]⟩ : ByteArray)⟩ : St257)
noncomputable def G_law13_example  : Option (Config) := some (⟨([(⟨0, 2⟩ : Part), (⟨1, 0⟩ : Part)] : List Part), ([(⟨1, 0, 1, 3, 0, 0, 0⟩ : Chan)] : List Chan), (⟨(⟨1, ([(⟨0, 0, 1⟩ : Window)] : List Window)⟩ : Frame), (⟨1, ([(⟨1, 0, 1⟩ : Window)] : List Window)⟩ : Frame)⟩ : St27)⟩ : Config)
theorem G_law13_example.calls   (w : World) {S : Nat → Prop}  (r : Config) (h : G_law13_example = some r) :
    Calls Tryz.prog 27 #[] w fun e w' => ∃ sv : SV, e = .returned (.agg ((kd_Config).cells r sv).toArray) ∧ Below w.heap.size w w' ∧ (kd_Config).cont (fun b => w.heap.size ≤ b ∨ S b) w' r sv := by
  unfold G_law13_example at h
  have H0 := h
  clear h
  refine enter Tryz.func27 rfl [] (n := 19) rfl (Nat.le_of_ble_eq_true rfl) (fun a hI => ?_)
  have hF : FOpen Fence.wide := .inl rfl
  have hE := Ep.start w
  refine sr0_ hF hI (s_ [p_ 0 0 0] [([.v (.slice none 0 0), .v (.slice none 0 0), .v (.int .i64 0), .v (.slice none 0 0), .v (.int .i64 0), .v (.slice none 0 0)], 29)]) (by kernel_rfl) (fun ns_1 a w_2 hI => ?_)
  refine wpIn_seq ?_
  refine wpIn_region_lit ?_
  refine ck0_ hF 2 hI (s_ [e_ 3 (.agg #[.int .i64 1, .int .i64 0]), e_ 2 (.agg #[.int .i64 0, .int .i64 2]), p_ 0 0 0] [([.v (.slice none 0 0), .v (.slice none 0 0), .v (.int .i64 0), .v (.slice none 0 0), .v (.int .i64 0), .v (.slice none 0 0)], 29)]) rfl (by kernel_rfl) (fun ns_3 a w_4 hI => ?_)
  obtain ⟨hE', hmv, hmr⟩ := Ep.rebase hE hI
  replace hE := hE'; replace hI := hI.rebase; clear hE' hmv hmr
  refine buildSlice_ (S0 := S) (d := kd_Part) (e := 155) hF hE hI (wanted_none rfl) rfl (by kernel_rfl) (cs := [.int .i64 0, .int .i64 2, .int .i64 1, .int .i64 0]) (by kernel_rfl) [(⟨0, 2⟩ : Part), (⟨1, 0⟩ : Part)] [(svL []), (svL [])] rfl rfl (by simp [maxLen]) (fun i x hi => by cases i with | zero => (simp only [List.getElem?_cons_zero, Option.some.injEq] at hi; subst hi; exact ⟨trivial, rfl⟩) | succ i => (simp only [List.getElem?_cons_succ] at hi; cases i with | zero => (simp only [List.getElem?_cons_zero, Option.some.injEq] at hi; subst hi; exact ⟨trivial, rfl⟩) | succ i => (simp only [List.getElem?_cons_succ] at hi; simp at hi))) (fun A_5 => (s_ [e_ 4 (.slice A_5 ([(⟨0, 2⟩ : Part), (⟨1, 0⟩ : Part)] : List Part).length (([(⟨0, 2⟩ : Part), (⟨1, 0⟩ : Part)] : List Part).length)), e_ 3 (.agg #[.int .i64 1, .int .i64 0]), e_ 2 (.agg #[.int .i64 0, .int .i64 2]), p_ 0 0 0] [([.v (.slice none 0 0), .v (.slice none 0 0), .v (.int .i64 0), .v (.slice none 0 0), .v (.int .i64 0), .v (.slice none 0 0)], 29)])) (fun A_5 => by kernel_rfl) (fun A_5 a w_7 hput hE' hI' hmv hmr hq_6 => ?_)
  replace hE := hE'; replace hI := hI'; clear hE' hI' hmv hmr
  refine ck0_ hF 1 hI (s_ [e_ 5 (.agg #[.int .i64 1, .int .i64 0, .int .i64 1, .int .i64 3, .int .i64 0, .int .i64 0, .int .u32 0]), e_ 4 (.slice A_5 ([(⟨0, 2⟩ : Part), (⟨1, 0⟩ : Part)] : List Part).length (([(⟨0, 2⟩ : Part), (⟨1, 0⟩ : Part)] : List Part).length)), p_ 0 0 0] [([.v (.slice none 0 0), .v (.slice none 0 0), .v (.int .i64 0), .v (.slice none 0 0), .v (.int .i64 0), .v (.slice none 0 0)], 29)]) rfl (by kernel_rfl) (fun ns_8 a w_9 hI => ?_)
  obtain ⟨hE', hmv, hmr⟩ := Ep.rebase hE hI
  replace hq_6 := Row.keep hq_6 (hmv _) (fun b hb => hmr b (by simp [hb]))
  replace hE := hE'; replace hI := hI.rebase; clear hE' hmv hmr
  refine buildSlice_ (S0 := S) (d := kd_Chan) (e := 86) hF hE hI (wanted_none rfl) rfl (by kernel_rfl) (cs := [.int .i64 1, .int .i64 0, .int .i64 1, .int .i64 3, .int .i64 0, .int .i64 0, .int .u32 0]) (by kernel_rfl) [(⟨1, 0, 1, 3, 0, 0, 0⟩ : Chan)] [(svL [])] rfl rfl (by simp [maxLen]) (fun i x hi => by cases i with | zero => (simp only [List.getElem?_cons_zero, Option.some.injEq] at hi; subst hi; exact ⟨trivial, rfl⟩) | succ i => (simp only [List.getElem?_cons_succ] at hi; simp at hi)) (fun A_10 => (s_ [e_ 6 (.slice A_10 ([(⟨1, 0, 1, 3, 0, 0, 0⟩ : Chan)] : List Chan).length (([(⟨1, 0, 1, 3, 0, 0, 0⟩ : Chan)] : List Chan).length)), e_ 5 (.agg #[.int .i64 1, .int .i64 0, .int .i64 1, .int .i64 3, .int .i64 0, .int .i64 0, .int .u32 0]), e_ 4 (.slice A_5 ([(⟨0, 2⟩ : Part), (⟨1, 0⟩ : Part)] : List Part).length (([(⟨0, 2⟩ : Part), (⟨1, 0⟩ : Part)] : List Part).length)), p_ 0 0 0] [([.v (.slice none 0 0), .v (.slice none 0 0), .v (.int .i64 0), .v (.slice none 0 0), .v (.int .i64 0), .v (.slice none 0 0)], 29)])) (fun A_10 => by kernel_rfl) (fun A_10 a w_12 hput hE' hI' hmv hmr hq_11 => ?_)
  replace hq_6 := Row.keep hq_6 (hmv _) (fun b hb => hmr b (by simp [hb]) (by simp))
  replace hE := hE'; replace hI := hI'; clear hE' hI' hmv hmr
  refine ck0_ hF 3 hI (s_ [p_ 1 1 0, p_ 0 0 0] [([.v (.slice none 0 0), .v (.slice none 0 0), .v (.int .i64 0), .v (.slice none 0 0), .v (.int .i64 0), .v (.slice none 0 0)], 29), ([.v (.slice A_5 ([(⟨0, 2⟩ : Part), (⟨1, 0⟩ : Part)] : List Part).length (([(⟨0, 2⟩ : Part), (⟨1, 0⟩ : Part)] : List Part).length)), .v (.slice A_10 ([(⟨1, 0, 1, 3, 0, 0, 0⟩ : Chan)] : List Chan).length (([(⟨1, 0, 1, 3, 0, 0, 0⟩ : Chan)] : List Chan).length)), .v (.int .i64 0), .v (.slice none 0 0), .v (.int .i64 0), .v (.slice none 0 0)], 29)]) rfl (by kernel_rfl) (fun ns_13 a w_14 hI => ?_)
  refine wpListIn_nil ?_
  refine then_normal ?_
  refine wpIn_seq ?_
  refine wpIn_region_lit ?_
  refine ck0_ hF 1 hI (s_ [e_ 8 (.agg #[.int .i64 0, .int .i64 0, .int .i64 1]), p_ 1 1 0, p_ 0 0 0] [([.v (.slice none 0 0), .v (.slice none 0 0), .v (.int .i64 0), .v (.slice none 0 0), .v (.int .i64 0), .v (.slice none 0 0)], 29), ([.v (.slice A_5 ([(⟨0, 2⟩ : Part), (⟨1, 0⟩ : Part)] : List Part).length (([(⟨0, 2⟩ : Part), (⟨1, 0⟩ : Part)] : List Part).length)), .v (.slice A_10 ([(⟨1, 0, 1, 3, 0, 0, 0⟩ : Chan)] : List Chan).length (([(⟨1, 0, 1, 3, 0, 0, 0⟩ : Chan)] : List Chan).length)), .v (.int .i64 0), .v (.slice none 0 0), .v (.int .i64 0), .v (.slice none 0 0)], 29)]) rfl (by kernel_rfl) (fun ns_15 a w_16 hI => ?_)
  obtain ⟨hE', hmv, hmr⟩ := Ep.rebase hE hI
  replace hq_6 := Row.keep hq_6 (hmv _) (fun b hb => hmr b (by simp [hb]))
  replace hq_11 := Row.keep hq_11 (hmv _) (fun b hb => hmr b (by simp [hb]))
  replace hE := hE'; replace hI := hI.rebase; clear hE' hmv hmr
  refine buildSlice_ (S0 := S) (d := kd_Window) (e := 157) hF hE hI (wanted_none rfl) rfl (by kernel_rfl) (cs := [.int .i64 0, .int .i64 0, .int .i64 1]) (by kernel_rfl) [(⟨0, 0, 1⟩ : Window)] [(svL [])] rfl rfl (by simp [maxLen]) (fun i x hi => by cases i with | zero => (simp only [List.getElem?_cons_zero, Option.some.injEq] at hi; subst hi; exact ⟨trivial, rfl⟩) | succ i => (simp only [List.getElem?_cons_succ] at hi; simp at hi)) (fun A_17 => (s_ [e_ 9 (.slice A_17 ([(⟨0, 0, 1⟩ : Window)] : List Window).length (([(⟨0, 0, 1⟩ : Window)] : List Window).length)), e_ 8 (.agg #[.int .i64 0, .int .i64 0, .int .i64 1]), p_ 1 1 0, p_ 0 0 0] [([.v (.slice none 0 0), .v (.slice none 0 0), .v (.int .i64 0), .v (.slice none 0 0), .v (.int .i64 0), .v (.slice none 0 0)], 29), ([.v (.slice A_5 ([(⟨0, 2⟩ : Part), (⟨1, 0⟩ : Part)] : List Part).length (([(⟨0, 2⟩ : Part), (⟨1, 0⟩ : Part)] : List Part).length)), .v (.slice A_10 ([(⟨1, 0, 1, 3, 0, 0, 0⟩ : Chan)] : List Chan).length (([(⟨1, 0, 1, 3, 0, 0, 0⟩ : Chan)] : List Chan).length)), .v (.int .i64 0), .v (.slice none 0 0), .v (.int .i64 0), .v (.slice none 0 0)], 29)])) (fun A_17 => by kernel_rfl) (fun A_17 a w_19 hput hE' hI' hmv hmr hq_18 => ?_)
  replace hq_6 := Row.keep hq_6 (hmv _) (fun b hb => hmr b (by simp [hb]) (by simp))
  replace hq_11 := Row.keep hq_11 (hmv _) (fun b hb => hmr b (by simp [hb]) (by simp))
  replace hE := hE'; replace hI := hI'; clear hE' hI' hmv hmr
  refine ck0_ hF 4 hI (s_ [p_ 1 1 0, p_ 0 0 0] [([.v (.slice none 0 0), .v (.slice none 0 0), .v (.int .i64 0), .v (.slice none 0 0), .v (.int .i64 0), .v (.slice none 0 0)], 29), ([.v (.slice A_5 ([(⟨0, 2⟩ : Part), (⟨1, 0⟩ : Part)] : List Part).length (([(⟨0, 2⟩ : Part), (⟨1, 0⟩ : Part)] : List Part).length)), .v (.slice A_10 ([(⟨1, 0, 1, 3, 0, 0, 0⟩ : Chan)] : List Chan).length (([(⟨1, 0, 1, 3, 0, 0, 0⟩ : Chan)] : List Chan).length)), .v (.int .i64 1), .v (.slice A_17 ([(⟨0, 0, 1⟩ : Window)] : List Window).length (([(⟨0, 0, 1⟩ : Window)] : List Window).length)), .v (.int .i64 0), .v (.slice none 0 0)], 29)]) rfl (by kernel_rfl) (fun ns_20 a w_21 hI => ?_)
  refine wpListIn_nil ?_
  refine then_normal ?_
  refine wpIn_seq ?_
  refine wpIn_region_lit ?_
  refine ck0_ hF 1 hI (s_ [e_ 13 (.agg #[.int .i64 1, .int .i64 0, .int .i64 1]), p_ 1 1 0, p_ 0 0 0] [([.v (.slice none 0 0), .v (.slice none 0 0), .v (.int .i64 0), .v (.slice none 0 0), .v (.int .i64 0), .v (.slice none 0 0)], 29), ([.v (.slice A_5 ([(⟨0, 2⟩ : Part), (⟨1, 0⟩ : Part)] : List Part).length (([(⟨0, 2⟩ : Part), (⟨1, 0⟩ : Part)] : List Part).length)), .v (.slice A_10 ([(⟨1, 0, 1, 3, 0, 0, 0⟩ : Chan)] : List Chan).length (([(⟨1, 0, 1, 3, 0, 0, 0⟩ : Chan)] : List Chan).length)), .v (.int .i64 1), .v (.slice A_17 ([(⟨0, 0, 1⟩ : Window)] : List Window).length (([(⟨0, 0, 1⟩ : Window)] : List Window).length)), .v (.int .i64 0), .v (.slice none 0 0)], 29)]) rfl (by kernel_rfl) (fun ns_22 a w_23 hI => ?_)
  obtain ⟨hE', hmv, hmr⟩ := Ep.rebase hE hI
  replace hq_6 := Row.keep hq_6 (hmv _) (fun b hb => hmr b (by simp [hb]))
  replace hq_11 := Row.keep hq_11 (hmv _) (fun b hb => hmr b (by simp [hb]))
  replace hq_18 := Row.keep hq_18 (hmv _) (fun b hb => hmr b (by simp [hb]))
  replace hE := hE'; replace hI := hI.rebase; clear hE' hmv hmr
  refine buildSlice_ (S0 := S) (d := kd_Window) (e := 157) hF hE hI (wanted_none rfl) rfl (by kernel_rfl) (cs := [.int .i64 1, .int .i64 0, .int .i64 1]) (by kernel_rfl) [(⟨1, 0, 1⟩ : Window)] [(svL [])] rfl rfl (by simp [maxLen]) (fun i x hi => by cases i with | zero => (simp only [List.getElem?_cons_zero, Option.some.injEq] at hi; subst hi; exact ⟨trivial, rfl⟩) | succ i => (simp only [List.getElem?_cons_succ] at hi; simp at hi)) (fun A_24 => (s_ [e_ 14 (.slice A_24 ([(⟨1, 0, 1⟩ : Window)] : List Window).length (([(⟨1, 0, 1⟩ : Window)] : List Window).length)), e_ 13 (.agg #[.int .i64 1, .int .i64 0, .int .i64 1]), p_ 1 1 0, p_ 0 0 0] [([.v (.slice none 0 0), .v (.slice none 0 0), .v (.int .i64 0), .v (.slice none 0 0), .v (.int .i64 0), .v (.slice none 0 0)], 29), ([.v (.slice A_5 ([(⟨0, 2⟩ : Part), (⟨1, 0⟩ : Part)] : List Part).length (([(⟨0, 2⟩ : Part), (⟨1, 0⟩ : Part)] : List Part).length)), .v (.slice A_10 ([(⟨1, 0, 1, 3, 0, 0, 0⟩ : Chan)] : List Chan).length (([(⟨1, 0, 1, 3, 0, 0, 0⟩ : Chan)] : List Chan).length)), .v (.int .i64 1), .v (.slice A_17 ([(⟨0, 0, 1⟩ : Window)] : List Window).length (([(⟨0, 0, 1⟩ : Window)] : List Window).length)), .v (.int .i64 0), .v (.slice none 0 0)], 29)])) (fun A_24 => by kernel_rfl) (fun A_24 a w_26 hput hE' hI' hmv hmr hq_25 => ?_)
  replace hq_6 := Row.keep hq_6 (hmv _) (fun b hb => hmr b (by simp [hb]) (by simp))
  replace hq_11 := Row.keep hq_11 (hmv _) (fun b hb => hmr b (by simp [hb]) (by simp))
  replace hq_18 := Row.keep hq_18 (hmv _) (fun b hb => hmr b (by simp [hb]) (by simp))
  replace hE := hE'; replace hI := hI'; clear hE' hI' hmv hmr
  refine ck0_ hF 4 hI (s_ [p_ 1 1 0, p_ 0 0 0] [([.v (.slice none 0 0), .v (.slice none 0 0), .v (.int .i64 0), .v (.slice none 0 0), .v (.int .i64 0), .v (.slice none 0 0)], 29), ([.v (.slice A_5 ([(⟨0, 2⟩ : Part), (⟨1, 0⟩ : Part)] : List Part).length (([(⟨0, 2⟩ : Part), (⟨1, 0⟩ : Part)] : List Part).length)), .v (.slice A_10 ([(⟨1, 0, 1, 3, 0, 0, 0⟩ : Chan)] : List Chan).length (([(⟨1, 0, 1, 3, 0, 0, 0⟩ : Chan)] : List Chan).length)), .v (.int .i64 1), .v (.slice A_17 ([(⟨0, 0, 1⟩ : Window)] : List Window).length (([(⟨0, 0, 1⟩ : Window)] : List Window).length)), .v (.int .i64 1), .v (.slice A_24 ([(⟨1, 0, 1⟩ : Window)] : List Window).length (([(⟨1, 0, 1⟩ : Window)] : List Window).length))], 29)]) rfl (by kernel_rfl) (fun ns_27 a w_28 hI => ?_)
  refine wpListIn_nil ?_
  refine then_normal ?_
  refine sr0_ hF hI (s_ [p_ 0 0 0] [([.v (.slice A_5 ([(⟨0, 2⟩ : Part), (⟨1, 0⟩ : Part)] : List Part).length (([(⟨0, 2⟩ : Part), (⟨1, 0⟩ : Part)] : List Part).length)), .v (.slice A_10 ([(⟨1, 0, 1, 3, 0, 0, 0⟩ : Chan)] : List Chan).length (([(⟨1, 0, 1, 3, 0, 0, 0⟩ : Chan)] : List Chan).length)), .v (.int .i64 1), .v (.slice A_17 ([(⟨0, 0, 1⟩ : Window)] : List Window).length (([(⟨0, 0, 1⟩ : Window)] : List Window).length)), .v (.int .i64 1), .v (.slice A_24 ([(⟨1, 0, 1⟩ : Window)] : List Window).length (([(⟨1, 0, 1⟩ : Window)] : List Window).length))], 29), ([.v (.slice A_5 ([(⟨0, 2⟩ : Part), (⟨1, 0⟩ : Part)] : List Part).length (([(⟨0, 2⟩ : Part), (⟨1, 0⟩ : Part)] : List Part).length)), .v (.slice A_10 ([(⟨1, 0, 1, 3, 0, 0, 0⟩ : Chan)] : List Chan).length (([(⟨1, 0, 1, 3, 0, 0, 0⟩ : Chan)] : List Chan).length)), .v (.int .i64 1), .v (.slice A_17 ([(⟨0, 0, 1⟩ : Window)] : List Window).length (([(⟨0, 0, 1⟩ : Window)] : List Window).length)), .v (.int .i64 1), .v (.slice A_24 ([(⟨1, 0, 1⟩ : Window)] : List Window).length (([(⟨1, 0, 1⟩ : Window)] : List Window).length))], 29)]) (by kernel_rfl) (fun ns_29 a w_30 hI => ?_)
  obtain ⟨hE', hmv, hmr⟩ := Ep.rebase hE hI
  replace hq_6 := Row.keep hq_6 (hmv _) (fun b hb => hmr b (by simp [hb]))
  replace hq_11 := Row.keep hq_11 (hmv _) (fun b hb => hmr b (by simp [hb]))
  replace hq_18 := Row.keep hq_18 (hmv _) (fun b hb => hmr b (by simp [hb]))
  replace hq_25 := Row.keep hq_25 (hmv _) (fun b hb => hmr b (by simp [hb]))
  replace hE := hE'; replace hI := hI.rebase; clear hE' hmv hmr
  obtain ⟨hE', hmv, hq_6, hcap_31⟩ := Row.still (l1 := []) (l2 := [rb A_10, rb A_17, rb A_24]) hq_6 (Nat.le_refl _) hE
  have hmr := hmr_ ([rb A_5, rb A_10, rb A_17, rb A_24] : List (List Nat)) w_30
  replace hq_11 := Row.keep hq_11 (hmv _) (fun b hb => hmr b (by simp [hb]))
  replace hq_18 := Row.keep hq_18 (hmv _) (fun b hb => hmr b (by simp [hb]))
  replace hq_25 := Row.keep hq_25 (hmv _) (fun b hb => hmr b (by simp [hb]))
  replace hE := hE'
  clear hE' hmv hmr
  obtain ⟨hE', hmv, hq_11, hcap_32⟩ := Row.still (l1 := []) (l2 := [rb A_17, rb A_24]) hq_11 (Nat.le_refl _) hE
  have hmr := hmr_ ([rb A_10, rb A_17, rb A_24] : List (List Nat)) w_30
  replace hq_18 := Row.keep hq_18 (hmv _) (fun b hb => hmr b (by simp [hb]))
  replace hq_25 := Row.keep hq_25 (hmv _) (fun b hb => hmr b (by simp [hb]))
  replace hq_6 := Arr.keep hq_6 (hmv _)
  replace hE := hE'
  clear hE' hmv hmr
  obtain ⟨hE', hmv, hq_18, hcap_33⟩ := Row.still (l1 := []) (l2 := [rb A_24]) hq_18 (Nat.le_refl _) hE
  have hmr := hmr_ ([rb A_17, rb A_24] : List (List Nat)) w_30
  replace hq_25 := Row.keep hq_25 (hmv _) (fun b hb => hmr b (by simp [hb]))
  replace hq_6 := Arr.keep hq_6 (hmv _)
  replace hq_11 := Arr.keep hq_11 (hmv _)
  replace hE := hE'
  clear hE' hmv hmr
  obtain ⟨hE', hmv, hq_25, hcap_34⟩ := Row.still (l1 := []) (l2 := []) hq_25 (Nat.le_refl _) hE
  have hmr := hmr_ ([rb A_24] : List (List Nat)) w_30
  replace hq_6 := Arr.keep hq_6 (hmv _)
  replace hq_11 := Arr.keep hq_11 (hmv _)
  replace hq_18 := Arr.keep hq_18 (hmv _)
  replace hE := hE'
  clear hE' hmv hmr
  refine wpIn_ret ?_
  obtain rfl := Option.some.inj H0
  exact retCell hI rfl rfl rfl rfl rfl rfl ⟨svL [(A_5, ([(⟨0, 2⟩ : Part), (⟨1, 0⟩ : Part)] : List Part).length), (A_10, ([(⟨1, 0, 1, 3, 0, 0, 0⟩ : Chan)] : List Chan).length), (A_17, ([(⟨0, 0, 1⟩ : Window)] : List Window).length), (A_24, ([(⟨1, 0, 1⟩ : Window)] : List Window).length)], rfl, hE.below hI, ⟨⟨Arr.keep hq_6 (hE.out hI), hcap_31⟩, ⟨Arr.keep hq_11 (hE.out hI), hcap_32⟩, ⟨Arr.keep hq_18 (hE.out hI), hcap_33⟩, ⟨Arr.keep hq_25 (hE.out hI), hcap_34⟩, trivial⟩⟩

noncomputable def G_defect_All (x0 : Config) : Option (Config) := some x0
theorem G_defect_All.calls (x0 : Config) (sv0 : SV) (w : World) {S : Nat → Prop} (hx0 : (kd_Config).cont S w x0 sv0) (r : Config) (h : G_defect_All x0 = some r) :
    Calls Tryz.prog 185 #[.agg ((kd_Config).cells x0 sv0).toArray] w fun e w' => ∃ sv : SV, e = .returned (.func (.func 200) #[] #[.pointer (some (adr (sv 0).1))]) ∧ Below w.heap.size w w' ∧ El kd_Config (fun b => w.heap.size ≤ b ∨ S b) w' (adr (sv 0).1) r (svO sv 1) := by
  replace hx0 := Kd.lo _ hx0
  unfold G_defect_All at h
  have H0 := h
  clear h
  refine enter Tryz.func185 rfl [.agg ((kd_Config).cells x0 sv0).toArray] (n := 4) rfl (Nat.le_of_ble_eq_true rfl) (fun a hI => ?_)
  have hF : FOpen Fence.wide := .inl rfl
  have hE := Ep.start w
  refine sr0_ hF hI (s_ [e_ 2 (.nilFunc), p_ 1 0 0] [((((kd_Config).cells x0 sv0).map EV.v), 29)]) (by kernel_rfl) (fun ns_1 a w_2 hI => ?_)
  refine wpIn_seq ?_
  refine wpIn_region_lit ?_
  obtain ⟨hE', hmv, hmr⟩ := Ep.rebase hE hI
  replace hx0 := Kd.keep _ hx0 (hmv _)
  replace hE := hE'; replace hI := hI.rebase; clear hE' hmv hmr
  have hct := contI (S := Lo S w w_2 ns_1 []) (w := w_2) (d := kd_Config) (x := x0) (sv := sv0) ⟨⟨hx0.1.1, hx0.1.2⟩, ⟨hx0.2.1.1, hx0.2.1.2⟩, ⟨hx0.2.2.1.1, hx0.2.2.1.2⟩, ⟨hx0.2.2.2.1.1, hx0.2.2.2.1.2⟩, trivial⟩
  obtain ⟨B_3, ns_5, hE', hI', hmv, hB_4⟩ := freeze_ (d := kd_Config) hE hI 0 x0 sv0 29 rfl
  replace hB_4 := hB_4 _ hct
  clear hct
  have hmr := hmr_ ([] : List (List Nat)) w_2
  replace hx0 := Kd.keep _ hx0 (hmv _)
  replace hE := hE'; replace hI := hI'; clear hE' hI' hmv hmr
  obtain ⟨ns_6, hE', hI', hmv⟩ := hE.cut hI [2, 1] 0 (s_ [e_ 2 (.nilFunc), e_ 1 (.pointer (some B_3))] []) (by kernel_rfl)
  have hmr := hmr_ ([] : List (List Nat)) w_2
  replace hx0 := Kd.keep _ hx0 (hmv _)
  replace hB_4 := El.keep hB_4 (hmv _)
  replace hE := hE'; replace hI := hI'; clear hE' hI' hmv hmr
  refine ck0_ hF 1 hI (s_ [e_ 3 (.func (.func 200) #[] #[.pointer (some B_3)]), e_ 2 (.nilFunc), e_ 1 (.pointer (some B_3))] []) rfl (by kernel_rfl) (fun ns_7 a w_8 hI => ?_)
  refine ck0_ hF 1 hI (s_ [e_ 2 (.func (.func 200) #[] #[.pointer (some B_3)])] []) rfl (by kernel_rfl) (fun ns_9 a w_10 hI => ?_)
  refine wpListIn_nil ?_
  refine then_normal ?_
  refine wpIn_ret ?_
  obtain rfl := Option.some.inj H0
  exact ret1 hI rfl rfl ⟨svL [(some B_3, 0), (sv0 0), (sv0 1), (sv0 2), (sv0 3)], rfl, hE.below hI, ⟨(El.keep hB_4 (hE.out hI)).cont, (El.keep hB_4 (hE.out hI)).at_, (El.keep hB_4 (hE.out hI)).cells⟩⟩

noncomputable def G_defect_part (x0 : Fn316) : Option (Defect_rule) := some (⟨(Fn37.f241 x0)⟩ : Defect_rule)
theorem G_defect_part.calls (x0 : Fn316) (sv0 : SV) (w : World) {S : Nat → Prop} (hx0 : (kdF316).cont S w x0 sv0) (r : Defect_rule) (h : G_defect_part x0 = some r) :
    Calls Tryz.prog 213 #[fnv316 x0 sv0] w fun e w' => ∃ sv : SV, e = .returned (.agg ((kd_Defect_rule).cells r sv).toArray) ∧ Below w.heap.size w w' ∧ (kd_Defect_rule).cont (fun b => w.heap.size ≤ b ∨ S b) w' r sv := by
  replace hx0 := Kd.lo _ hx0
  unfold G_defect_part at h
  have H0 := h
  clear h
  refine enter Tryz.func213 rfl [fnv316 x0 sv0] (n := 5) rfl (Nat.le_of_ble_eq_true rfl) (fun a hI => ?_)
  have hF : FOpen Fence.wide := .inl rfl
  have hE := Ep.start w
  refine sr0_ hF hI (s_ [p_ 2 1 0, p_ 1 0 0] [([.v (fnv316 x0 sv0)], 316), ([.v (.nilFunc)], 304)]) (by kernel_rfl) (fun ns_1 a w_2 hI => ?_)
  refine wpIn_seq ?_
  refine wpIn_region_lit ?_
  obtain ⟨hE', hmv, hmr⟩ := Ep.rebase hE hI
  replace hx0 := Kd.keep _ hx0 (hmv _)
  replace hE := hE'; replace hI := hI.rebase; clear hE' hmv hmr
  have hct := contI (S := Lo S w w_2 ns_1 []) (w := w_2) (d := kdF316) (x := x0) (sv := (svL [])) hx0
  obtain ⟨B_3, ns_5, hE', hI', hmv, hB_4⟩ := freeze_ (d := kdF316) hE hI 0 x0 (svL []) 316 rfl
  replace hB_4 := hB_4 _ hct
  clear hct
  have hmr := hmr_ ([] : List (List Nat)) w_2
  replace hx0 := Kd.keep _ hx0 (hmv _)
  replace hE := hE'; replace hI := hI'; clear hE' hI' hmv hmr
  obtain ⟨ns_6, hE', hI', hmv⟩ := hE.cut hI [2, 1] 1 (s_ [p_ 2 0 0, e_ 1 (.pointer (some B_3))] [([.v (.nilFunc)], 304)]) (by kernel_rfl)
  have hmr := hmr_ ([] : List (List Nat)) w_2
  replace hx0 := Kd.keep _ hx0 (hmv _)
  replace hB_4 := El.keep hB_4 (hmv _)
  replace hE := hE'; replace hI := hI'; clear hE' hI' hmv hmr
  refine ck0_ hF 1 hI (s_ [e_ 3 (.func (.func 241) #[] #[.pointer (some B_3)]), p_ 2 0 0, e_ 1 (.pointer (some B_3))] [([.v (.nilFunc)], 304)]) rfl (by kernel_rfl) (fun ns_7 a w_8 hI => ?_)
  refine ck0_ hF 2 hI (s_ [p_ 2 0 0] [([.v (.func (.func 241) #[] #[.pointer (some B_3)])], 304)]) rfl (by kernel_rfl) (fun ns_9 a w_10 hI => ?_)
  refine wpListIn_nil ?_
  refine then_normal ?_
  refine wpIn_ret ?_
  obtain rfl := Option.some.inj H0
  exact retCell hI rfl rfl rfl rfl rfl rfl ⟨svL [(some B_3, 0), (none, 0)], rfl, hE.below hI, ⟨⟨((El.keep hB_4 (hE.out hI))).cont, ((El.keep hB_4 (hE.out hI))).at_, ((El.keep hB_4 (hE.out hI))).cells⟩, trivial⟩⟩

noncomputable def G_defect_channel (x0 : Fn318) : Option (Defect_rule) := some (⟨(Fn37.f243 x0)⟩ : Defect_rule)
theorem G_defect_channel.calls (x0 : Fn318) (sv0 : SV) (w : World) {S : Nat → Prop} (hx0 : (kdF318).cont S w x0 sv0) (r : Defect_rule) (h : G_defect_channel x0 = some r) :
    Calls Tryz.prog 217 #[fnv318 x0 sv0] w fun e w' => ∃ sv : SV, e = .returned (.agg ((kd_Defect_rule).cells r sv).toArray) ∧ Below w.heap.size w w' ∧ (kd_Defect_rule).cont (fun b => w.heap.size ≤ b ∨ S b) w' r sv := by
  replace hx0 := Kd.lo _ hx0
  unfold G_defect_channel at h
  have H0 := h
  clear h
  refine enter Tryz.func217 rfl [fnv318 x0 sv0] (n := 5) rfl (Nat.le_of_ble_eq_true rfl) (fun a hI => ?_)
  have hF : FOpen Fence.wide := .inl rfl
  have hE := Ep.start w
  refine sr0_ hF hI (s_ [p_ 2 1 0, p_ 1 0 0] [([.v (fnv318 x0 sv0)], 318), ([.v (.nilFunc)], 304)]) (by kernel_rfl) (fun ns_1 a w_2 hI => ?_)
  refine wpIn_seq ?_
  refine wpIn_region_lit ?_
  obtain ⟨hE', hmv, hmr⟩ := Ep.rebase hE hI
  replace hx0 := Kd.keep _ hx0 (hmv _)
  replace hE := hE'; replace hI := hI.rebase; clear hE' hmv hmr
  have hct := contI (S := Lo S w w_2 ns_1 []) (w := w_2) (d := kdF318) (x := x0) (sv := (svL [])) hx0
  obtain ⟨B_3, ns_5, hE', hI', hmv, hB_4⟩ := freeze_ (d := kdF318) hE hI 0 x0 (svL []) 318 rfl
  replace hB_4 := hB_4 _ hct
  clear hct
  have hmr := hmr_ ([] : List (List Nat)) w_2
  replace hx0 := Kd.keep _ hx0 (hmv _)
  replace hE := hE'; replace hI := hI'; clear hE' hI' hmv hmr
  obtain ⟨ns_6, hE', hI', hmv⟩ := hE.cut hI [2, 1] 1 (s_ [p_ 2 0 0, e_ 1 (.pointer (some B_3))] [([.v (.nilFunc)], 304)]) (by kernel_rfl)
  have hmr := hmr_ ([] : List (List Nat)) w_2
  replace hx0 := Kd.keep _ hx0 (hmv _)
  replace hB_4 := El.keep hB_4 (hmv _)
  replace hE := hE'; replace hI := hI'; clear hE' hI' hmv hmr
  refine ck0_ hF 1 hI (s_ [e_ 3 (.func (.func 243) #[] #[.pointer (some B_3)]), p_ 2 0 0, e_ 1 (.pointer (some B_3))] [([.v (.nilFunc)], 304)]) rfl (by kernel_rfl) (fun ns_7 a w_8 hI => ?_)
  refine ck0_ hF 2 hI (s_ [p_ 2 0 0] [([.v (.func (.func 243) #[] #[.pointer (some B_3)])], 304)]) rfl (by kernel_rfl) (fun ns_9 a w_10 hI => ?_)
  refine wpListIn_nil ?_
  refine then_normal ?_
  refine wpIn_ret ?_
  obtain rfl := Option.some.inj H0
  exact retCell hI rfl rfl rfl rfl rfl rfl ⟨svL [(some B_3, 0), (none, 0)], rfl, hE.below hI, ⟨⟨((El.keep hB_4 (hE.out hI))).cont, ((El.keep hB_4 (hE.out hI))).at_, ((El.keep hB_4 (hE.out hI))).cells⟩, trivial⟩⟩

noncomputable def G_defect_frame (x0 : Fn181) : Option (Defect_rule) := some (⟨(Fn37.f246 x0)⟩ : Defect_rule)
theorem G_defect_frame.calls (x0 : Fn181) (sv0 : SV) (w : World) {S : Nat → Prop} (hx0 : (kdF181).cont S w x0 sv0) (r : Defect_rule) (h : G_defect_frame x0 = some r) :
    Calls Tryz.prog 228 #[fnv181 x0 sv0] w fun e w' => ∃ sv : SV, e = .returned (.agg ((kd_Defect_rule).cells r sv).toArray) ∧ Below w.heap.size w w' ∧ (kd_Defect_rule).cont (fun b => w.heap.size ≤ b ∨ S b) w' r sv := by
  replace hx0 := Kd.lo _ hx0
  unfold G_defect_frame at h
  have H0 := h
  clear h
  refine enter Tryz.func228 rfl [fnv181 x0 sv0] (n := 5) rfl (Nat.le_of_ble_eq_true rfl) (fun a hI => ?_)
  have hF : FOpen Fence.wide := .inl rfl
  have hE := Ep.start w
  refine sr0_ hF hI (s_ [p_ 2 1 0, p_ 1 0 0] [([.v (fnv181 x0 sv0)], 181), ([.v (.nilFunc)], 304)]) (by kernel_rfl) (fun ns_1 a w_2 hI => ?_)
  refine wpIn_seq ?_
  refine wpIn_region_lit ?_
  obtain ⟨hE', hmv, hmr⟩ := Ep.rebase hE hI
  replace hx0 := Kd.keep _ hx0 (hmv _)
  replace hE := hE'; replace hI := hI.rebase; clear hE' hmv hmr
  have hct := contI (S := Lo S w w_2 ns_1 []) (w := w_2) (d := kdF181) (x := x0) (sv := sv0) hx0
  obtain ⟨B_3, ns_5, hE', hI', hmv, hB_4⟩ := freeze_ (d := kdF181) hE hI 0 x0 sv0 181 rfl
  replace hB_4 := hB_4 _ hct
  clear hct
  have hmr := hmr_ ([] : List (List Nat)) w_2
  replace hx0 := Kd.keep _ hx0 (hmv _)
  replace hE := hE'; replace hI := hI'; clear hE' hI' hmv hmr
  obtain ⟨ns_6, hE', hI', hmv⟩ := hE.cut hI [2, 1] 1 (s_ [p_ 2 0 0, e_ 1 (.pointer (some B_3))] [([.v (.nilFunc)], 304)]) (by kernel_rfl)
  have hmr := hmr_ ([] : List (List Nat)) w_2
  replace hx0 := Kd.keep _ hx0 (hmv _)
  replace hB_4 := El.keep hB_4 (hmv _)
  replace hE := hE'; replace hI := hI'; clear hE' hI' hmv hmr
  refine ck0_ hF 1 hI (s_ [e_ 3 (.func (.func 246) #[] #[.pointer (some B_3)]), p_ 2 0 0, e_ 1 (.pointer (some B_3))] [([.v (.nilFunc)], 304)]) rfl (by kernel_rfl) (fun ns_7 a w_8 hI => ?_)
  refine ck0_ hF 2 hI (s_ [p_ 2 0 0] [([.v (.func (.func 246) #[] #[.pointer (some B_3)])], 304)]) rfl (by kernel_rfl) (fun ns_9 a w_10 hI => ?_)
  refine wpListIn_nil ?_
  refine then_normal ?_
  refine wpIn_ret ?_
  obtain rfl := Option.some.inj H0
  exact retCell hI rfl rfl rfl rfl rfl rfl ⟨(svP (some B_3, 0) sv0), rfl, hE.below hI, ⟨⟨((El.keep hB_4 (hE.out hI))).cont, ((El.keep hB_4 (hE.out hI))).at_, ((El.keep hB_4 (hE.out hI))).cells⟩, trivial⟩⟩

noncomputable def G_defect_window (x0 : Fn322) : Option (Defect_rule) := ((G_defect_frame (Fn181.f247 x0)).bind fun t_9 => some t_9)
theorem G_defect_window.calls (x0 : Fn322) (sv0 : SV) (w : World) {S : Nat → Prop} (hx0 : (kdF322).cont S w x0 sv0) (r : Defect_rule) (h : G_defect_window x0 = some r) :
    Calls Tryz.prog 231 #[fnv322 x0 sv0] w fun e w' => ∃ sv : SV, e = .returned (.agg ((kd_Defect_rule).cells r sv).toArray) ∧ Below w.heap.size w w' ∧ (kd_Defect_rule).cont (fun b => w.heap.size ≤ b ∨ S b) w' r sv := by
  replace hx0 := Kd.lo _ hx0
  unfold G_defect_window at h
  have H0 := h
  clear h
  refine enter Tryz.func231 rfl [fnv322 x0 sv0] (n := 5) rfl (Nat.le_of_ble_eq_true rfl) (fun a hI => ?_)
  have hF : FOpen Fence.wide := .inl rfl
  have hE := Ep.start w
  refine sr0_ hF hI (s_ [p_ 2 1 0, p_ 1 0 0] [([.v (fnv322 x0 sv0)], 322), ([.v (.nilFunc)], 304)]) (by kernel_rfl) (fun ns_1 a w_2 hI => ?_)
  refine wpIn_seq ?_
  refine wpIn_region_lit ?_
  obtain ⟨hE', hmv, hmr⟩ := Ep.rebase hE hI
  replace hx0 := Kd.keep _ hx0 (hmv _)
  replace hE := hE'; replace hI := hI.rebase; clear hE' hmv hmr
  have hct := contI (S := Lo S w w_2 ns_1 []) (w := w_2) (d := kdF322) (x := x0) (sv := (svL [])) hx0
  obtain ⟨B_3, ns_5, hE', hI', hmv, hB_4⟩ := freeze_ (d := kdF322) hE hI 0 x0 (svL []) 322 rfl
  replace hB_4 := hB_4 _ hct
  clear hct
  have hmr := hmr_ ([] : List (List Nat)) w_2
  replace hx0 := Kd.keep _ hx0 (hmv _)
  replace hE := hE'; replace hI := hI'; clear hE' hI' hmv hmr
  obtain ⟨ns_6, hE', hI', hmv⟩ := hE.cut hI [2, 1] 1 (s_ [p_ 2 0 0, e_ 1 (.pointer (some B_3))] [([.v (.nilFunc)], 304)]) (by kernel_rfl)
  have hmr := hmr_ ([] : List (List Nat)) w_2
  replace hx0 := Kd.keep _ hx0 (hmv _)
  replace hB_4 := El.keep hB_4 (hmv _)
  replace hE := hE'; replace hI := hI'; clear hE' hI' hmv hmr
  refine ck0_ hF 1 hI (s_ [e_ 3 (.func (.func 247) #[] #[.pointer (some B_3)]), p_ 2 0 0, e_ 1 (.pointer (some B_3))] [([.v (.nilFunc)], 304)]) rfl (by kernel_rfl) (fun ns_7 a w_8 hI => ?_)
  obtain ⟨hE', hmv, hmr⟩ := Ep.rebase hE hI
  replace hx0 := Kd.keep _ hx0 (hmv _)
  replace hB_4 := El.keep hB_4 (hmv _)
  replace hE := hE'; replace hI := hI.rebase; clear hE' hmv hmr
  obtain ⟨t_9, hG_10, H0⟩ := bind_some H0
  refine callH_ hF hE hI (wanted_none rfl) rfl (args := [.func (.func 247) #[] #[.pointer (some B_3)]]) rfl (enters Tryz.func228 (by kernel_rfl) rfl) (fun sv_11 => .agg ((kd_Defect_rule).cells t_9 sv_11).toArray) _ (G_defect_frame.calls (Fn181.f247 x0) (svL [(some B_3, 0)]) w_8 (S := Lo S w w_8 ns_7 []) (contI (S := Lo S w w_8 ns_7 []) (w := w_8) (d := kdF181) (x := (Fn181.f247 x0)) (sv := (svL [(some B_3, 0)])) ⟨hB_4.cont, hB_4.at_, hB_4.cells⟩) _ hG_10) (fun sv_11 => (s_ [e_ 4 (.agg ((kd_Defect_rule).cells t_9 sv_11).toArray), e_ 3 (.func (.func 247) #[] #[.pointer (some B_3)]), p_ 2 0 0, e_ 1 (.pointer (some B_3))] [([.v (.nilFunc)], 304)])) (fun sv_11 => by kernel_rfl) (fun sv_11 a w_13 hput hE' hI' hmv hmr hres hR => ?_)
  replace hx0 := Kd.keep _ hx0 (hmv _)
  replace hB_4 := El.keep hB_4 (hmv _)
  replace hE := hE'; replace hI := hI'; clear hE' hI' hmv hmr
  have hR_12 := hR
  replace hR_12 := Kd.keep _ hR_12 (hres _)
  clear hres
  refine ck0_ hF 1 hI (s_ [p_ 2 0 0] [((((kd_Defect_rule).cells t_9 sv_11).map EV.v), 304)]) rfl (by kernel_rfl) (fun ns_14 a w_15 hI => ?_)
  refine wpListIn_nil ?_
  refine then_normal ?_
  refine wpIn_ret ?_
  obtain rfl := Option.some.inj H0
  exact retCell hI rfl rfl rfl rfl rfl rfl ⟨sv_11, rfl, hE.below hI, ⟨(Kd.keep _ (show (kdF37).cont _ _ _ _ from hR_12.1) (hE.out hI)), trivial⟩⟩

noncomputable def G_defect_rules  : Option ((List Defect_rule)) := ((G_defect_part (Fn316.f214)).bind fun t_5 => ((G_defect_part (Fn316.f215)).bind fun t_10 => ((G_defect_channel (Fn318.f218)).bind fun t_17 => ((G_defect_channel (Fn318.f219)).bind fun t_22 => ((G_defect_channel (Fn318.f221)).bind fun t_27 => ((G_defect_channel (Fn318.f222)).bind fun t_32 => ((G_defect_channel (Fn318.f223)).bind fun t_37 => ((G_defect_channel (Fn318.f225)).bind fun t_42 => ((G_defect_channel (Fn318.f227)).bind fun t_47 => ((G_defect_frame (Fn181.f229)).bind fun t_52 => ((G_defect_frame (Fn181.f230)).bind fun t_57 => ((G_defect_window (Fn322.f232)).bind fun t_62 => ((G_defect_window (Fn322.f233)).bind fun t_67 => ((G_defect_frame (Fn181.f234)).bind fun t_72 => some ([(⟨(Fn37.f211)⟩ : Defect_rule), t_5, t_10, (⟨(Fn37.f216)⟩ : Defect_rule), t_17, t_22, t_27, t_32, t_37, t_42, t_47, t_52, t_57, t_62, t_67, t_72, (⟨(Fn37.f235)⟩ : Defect_rule)] : List Defect_rule)))))))))))))))
theorem G_defect_rules.calls   (w : World) {S : Nat → Prop}  (r : (List Defect_rule)) (h : G_defect_rules = some r) :
    Calls Tryz.prog 201 #[] w fun e w' => ∃ sv : SV, e = .returned (.slice ((sv 0).1) r.length ((sv 0).2)) ∧ Below w.heap.size w w' ∧ (Arr kd_Defect_rule (fun b => w.heap.size ≤ b ∨ S b) w' (sv 0).1 r ∧ r.length ≤ (sv 0).2) := by
  unfold G_defect_rules at h
  have H0 := h
  clear h
  refine enter Tryz.func201 rfl [] (n := 19) rfl (Nat.le_of_ble_eq_true rfl) (fun a hI => ?_)
  have hF : FOpen Fence.wide := .inl rfl
  have hE := Ep.start w
  refine sr0_ hF hI (s_ [e_ 0 (.slice none 0 0)] []) (by kernel_rfl) (fun ns_1 a w_2 hI => ?_)
  refine wpIn_seq ?_
  refine wpIn_region_lit ?_
  refine ck0_ hF 1 hI (s_ [e_ 1 (.agg #[.func (.func 211) #[] #[]]), e_ 0 (.slice none 0 0)] []) rfl (by kernel_rfl) (fun ns_3 a w_4 hI => ?_)
  obtain ⟨hE', hmv, hmr⟩ := Ep.rebase hE hI
  replace hE := hE'; replace hI := hI.rebase; clear hE' hmv hmr
  obtain ⟨t_5, hG_6, H0⟩ := bind_some H0
  refine callH_ hF hE hI (wanted_none rfl) rfl (args := [.func (.func 214) #[] #[]]) rfl (enters Tryz.func213 (by kernel_rfl) rfl) (fun sv_7 => .agg ((kd_Defect_rule).cells t_5 sv_7).toArray) _ (G_defect_part.calls (Fn316.f214) (svL []) w_4 (S := Lo S w w_4 ns_3 []) (contI (S := Lo S w w_4 ns_3 []) (w := w_4) (d := kdF316) (x := (Fn316.f214)) (sv := (svL [])) trivial) _ hG_6) (fun sv_7 => (s_ [e_ 2 (.agg ((kd_Defect_rule).cells t_5 sv_7).toArray), e_ 1 (.agg #[.func (.func 211) #[] #[]]), e_ 0 (.slice none 0 0)] [])) (fun sv_7 => by kernel_rfl) (fun sv_7 a w_9 hput hE' hI' hmv hmr hres hR => ?_)
  replace hE := hE'; replace hI := hI'; clear hE' hI' hmv hmr
  have hR_8 := hR
  replace hR_8 := Kd.keep _ hR_8 (hres _)
  clear hres
  obtain ⟨t_10, hG_11, H0⟩ := bind_some H0
  refine callH_ hF hE hI (wanted_none rfl) rfl (args := [.func (.func 215) #[] #[]]) rfl (enters Tryz.func213 (by kernel_rfl) rfl) (fun sv_12 => .agg ((kd_Defect_rule).cells t_10 sv_12).toArray) _ (G_defect_part.calls (Fn316.f215) (svL []) w_9 (S := Lo S w w_9 ns_3 []) (contI (S := Lo S w w_9 ns_3 []) (w := w_9) (d := kdF316) (x := (Fn316.f215)) (sv := (svL [])) trivial) _ hG_11) (fun sv_12 => (s_ [e_ 3 (.agg ((kd_Defect_rule).cells t_10 sv_12).toArray), e_ 2 (.agg ((kd_Defect_rule).cells t_5 sv_7).toArray), e_ 1 (.agg #[.func (.func 211) #[] #[]]), e_ 0 (.slice none 0 0)] [])) (fun sv_12 => by kernel_rfl) (fun sv_12 a w_14 hput hE' hI' hmv hmr hres hR => ?_)
  replace hR_8 := Kd.keep _ hR_8 (hmv _)
  replace hE := hE'; replace hI := hI'; clear hE' hI' hmv hmr
  have hR_13 := hR
  replace hR_13 := Kd.keep _ hR_13 (hres _)
  clear hres
  refine ck0_ hF 1 hI (s_ [e_ 4 (.agg #[.func (.func 216) #[] #[]]), e_ 3 (.agg ((kd_Defect_rule).cells t_10 sv_12).toArray), e_ 2 (.agg ((kd_Defect_rule).cells t_5 sv_7).toArray), e_ 1 (.agg #[.func (.func 211) #[] #[]]), e_ 0 (.slice none 0 0)] []) rfl (by kernel_rfl) (fun ns_15 a w_16 hI => ?_)
  obtain ⟨hE', hmv, hmr⟩ := Ep.rebase hE hI
  replace hR_8 := Kd.keep _ hR_8 (hmv _)
  replace hR_13 := Kd.keep _ hR_13 (hmv _)
  replace hE := hE'; replace hI := hI.rebase; clear hE' hmv hmr
  obtain ⟨t_17, hG_18, H0⟩ := bind_some H0
  refine callH_ hF hE hI (wanted_none rfl) rfl (args := [.func (.func 218) #[] #[]]) rfl (enters Tryz.func217 (by kernel_rfl) rfl) (fun sv_19 => .agg ((kd_Defect_rule).cells t_17 sv_19).toArray) _ (G_defect_channel.calls (Fn318.f218) (svL []) w_16 (S := Lo S w w_16 ns_15 []) (contI (S := Lo S w w_16 ns_15 []) (w := w_16) (d := kdF318) (x := (Fn318.f218)) (sv := (svL [])) trivial) _ hG_18) (fun sv_19 => (s_ [e_ 5 (.agg ((kd_Defect_rule).cells t_17 sv_19).toArray), e_ 4 (.agg #[.func (.func 216) #[] #[]]), e_ 3 (.agg ((kd_Defect_rule).cells t_10 sv_12).toArray), e_ 2 (.agg ((kd_Defect_rule).cells t_5 sv_7).toArray), e_ 1 (.agg #[.func (.func 211) #[] #[]]), e_ 0 (.slice none 0 0)] [])) (fun sv_19 => by kernel_rfl) (fun sv_19 a w_21 hput hE' hI' hmv hmr hres hR => ?_)
  replace hR_8 := Kd.keep _ hR_8 (hmv _)
  replace hR_13 := Kd.keep _ hR_13 (hmv _)
  replace hE := hE'; replace hI := hI'; clear hE' hI' hmv hmr
  have hR_20 := hR
  replace hR_20 := Kd.keep _ hR_20 (hres _)
  clear hres
  obtain ⟨t_22, hG_23, H0⟩ := bind_some H0
  refine callH_ hF hE hI (wanted_none rfl) rfl (args := [.func (.func 219) #[] #[]]) rfl (enters Tryz.func217 (by kernel_rfl) rfl) (fun sv_24 => .agg ((kd_Defect_rule).cells t_22 sv_24).toArray) _ (G_defect_channel.calls (Fn318.f219) (svL []) w_21 (S := Lo S w w_21 ns_15 []) (contI (S := Lo S w w_21 ns_15 []) (w := w_21) (d := kdF318) (x := (Fn318.f219)) (sv := (svL [])) trivial) _ hG_23) (fun sv_24 => (s_ [e_ 6 (.agg ((kd_Defect_rule).cells t_22 sv_24).toArray), e_ 5 (.agg ((kd_Defect_rule).cells t_17 sv_19).toArray), e_ 4 (.agg #[.func (.func 216) #[] #[]]), e_ 3 (.agg ((kd_Defect_rule).cells t_10 sv_12).toArray), e_ 2 (.agg ((kd_Defect_rule).cells t_5 sv_7).toArray), e_ 1 (.agg #[.func (.func 211) #[] #[]]), e_ 0 (.slice none 0 0)] [])) (fun sv_24 => by kernel_rfl) (fun sv_24 a w_26 hput hE' hI' hmv hmr hres hR => ?_)
  replace hR_8 := Kd.keep _ hR_8 (hmv _)
  replace hR_13 := Kd.keep _ hR_13 (hmv _)
  replace hR_20 := Kd.keep _ hR_20 (hmv _)
  replace hE := hE'; replace hI := hI'; clear hE' hI' hmv hmr
  have hR_25 := hR
  replace hR_25 := Kd.keep _ hR_25 (hres _)
  clear hres
  obtain ⟨t_27, hG_28, H0⟩ := bind_some H0
  refine callH_ hF hE hI (wanted_none rfl) rfl (args := [.func (.func 221) #[] #[]]) rfl (enters Tryz.func217 (by kernel_rfl) rfl) (fun sv_29 => .agg ((kd_Defect_rule).cells t_27 sv_29).toArray) _ (G_defect_channel.calls (Fn318.f221) (svL []) w_26 (S := Lo S w w_26 ns_15 []) (contI (S := Lo S w w_26 ns_15 []) (w := w_26) (d := kdF318) (x := (Fn318.f221)) (sv := (svL [])) trivial) _ hG_28) (fun sv_29 => (s_ [e_ 7 (.agg ((kd_Defect_rule).cells t_27 sv_29).toArray), e_ 6 (.agg ((kd_Defect_rule).cells t_22 sv_24).toArray), e_ 5 (.agg ((kd_Defect_rule).cells t_17 sv_19).toArray), e_ 4 (.agg #[.func (.func 216) #[] #[]]), e_ 3 (.agg ((kd_Defect_rule).cells t_10 sv_12).toArray), e_ 2 (.agg ((kd_Defect_rule).cells t_5 sv_7).toArray), e_ 1 (.agg #[.func (.func 211) #[] #[]]), e_ 0 (.slice none 0 0)] [])) (fun sv_29 => by kernel_rfl) (fun sv_29 a w_31 hput hE' hI' hmv hmr hres hR => ?_)
  replace hR_8 := Kd.keep _ hR_8 (hmv _)
  replace hR_13 := Kd.keep _ hR_13 (hmv _)
  replace hR_20 := Kd.keep _ hR_20 (hmv _)
  replace hR_25 := Kd.keep _ hR_25 (hmv _)
  replace hE := hE'; replace hI := hI'; clear hE' hI' hmv hmr
  have hR_30 := hR
  replace hR_30 := Kd.keep _ hR_30 (hres _)
  clear hres
  obtain ⟨t_32, hG_33, H0⟩ := bind_some H0
  refine callH_ hF hE hI (wanted_none rfl) rfl (args := [.func (.func 222) #[] #[]]) rfl (enters Tryz.func217 (by kernel_rfl) rfl) (fun sv_34 => .agg ((kd_Defect_rule).cells t_32 sv_34).toArray) _ (G_defect_channel.calls (Fn318.f222) (svL []) w_31 (S := Lo S w w_31 ns_15 []) (contI (S := Lo S w w_31 ns_15 []) (w := w_31) (d := kdF318) (x := (Fn318.f222)) (sv := (svL [])) trivial) _ hG_33) (fun sv_34 => (s_ [e_ 8 (.agg ((kd_Defect_rule).cells t_32 sv_34).toArray), e_ 7 (.agg ((kd_Defect_rule).cells t_27 sv_29).toArray), e_ 6 (.agg ((kd_Defect_rule).cells t_22 sv_24).toArray), e_ 5 (.agg ((kd_Defect_rule).cells t_17 sv_19).toArray), e_ 4 (.agg #[.func (.func 216) #[] #[]]), e_ 3 (.agg ((kd_Defect_rule).cells t_10 sv_12).toArray), e_ 2 (.agg ((kd_Defect_rule).cells t_5 sv_7).toArray), e_ 1 (.agg #[.func (.func 211) #[] #[]]), e_ 0 (.slice none 0 0)] [])) (fun sv_34 => by kernel_rfl) (fun sv_34 a w_36 hput hE' hI' hmv hmr hres hR => ?_)
  replace hR_8 := Kd.keep _ hR_8 (hmv _)
  replace hR_13 := Kd.keep _ hR_13 (hmv _)
  replace hR_20 := Kd.keep _ hR_20 (hmv _)
  replace hR_25 := Kd.keep _ hR_25 (hmv _)
  replace hR_30 := Kd.keep _ hR_30 (hmv _)
  replace hE := hE'; replace hI := hI'; clear hE' hI' hmv hmr
  have hR_35 := hR
  replace hR_35 := Kd.keep _ hR_35 (hres _)
  clear hres
  obtain ⟨t_37, hG_38, H0⟩ := bind_some H0
  refine callH_ hF hE hI (wanted_none rfl) rfl (args := [.func (.func 223) #[] #[]]) rfl (enters Tryz.func217 (by kernel_rfl) rfl) (fun sv_39 => .agg ((kd_Defect_rule).cells t_37 sv_39).toArray) _ (G_defect_channel.calls (Fn318.f223) (svL []) w_36 (S := Lo S w w_36 ns_15 []) (contI (S := Lo S w w_36 ns_15 []) (w := w_36) (d := kdF318) (x := (Fn318.f223)) (sv := (svL [])) trivial) _ hG_38) (fun sv_39 => (s_ [e_ 9 (.agg ((kd_Defect_rule).cells t_37 sv_39).toArray), e_ 8 (.agg ((kd_Defect_rule).cells t_32 sv_34).toArray), e_ 7 (.agg ((kd_Defect_rule).cells t_27 sv_29).toArray), e_ 6 (.agg ((kd_Defect_rule).cells t_22 sv_24).toArray), e_ 5 (.agg ((kd_Defect_rule).cells t_17 sv_19).toArray), e_ 4 (.agg #[.func (.func 216) #[] #[]]), e_ 3 (.agg ((kd_Defect_rule).cells t_10 sv_12).toArray), e_ 2 (.agg ((kd_Defect_rule).cells t_5 sv_7).toArray), e_ 1 (.agg #[.func (.func 211) #[] #[]]), e_ 0 (.slice none 0 0)] [])) (fun sv_39 => by kernel_rfl) (fun sv_39 a w_41 hput hE' hI' hmv hmr hres hR => ?_)
  replace hR_8 := Kd.keep _ hR_8 (hmv _)
  replace hR_13 := Kd.keep _ hR_13 (hmv _)
  replace hR_20 := Kd.keep _ hR_20 (hmv _)
  replace hR_25 := Kd.keep _ hR_25 (hmv _)
  replace hR_30 := Kd.keep _ hR_30 (hmv _)
  replace hR_35 := Kd.keep _ hR_35 (hmv _)
  replace hE := hE'; replace hI := hI'; clear hE' hI' hmv hmr
  have hR_40 := hR
  replace hR_40 := Kd.keep _ hR_40 (hres _)
  clear hres
  obtain ⟨t_42, hG_43, H0⟩ := bind_some H0
  refine callH_ hF hE hI (wanted_none rfl) rfl (args := [.func (.func 225) #[] #[]]) rfl (enters Tryz.func217 (by kernel_rfl) rfl) (fun sv_44 => .agg ((kd_Defect_rule).cells t_42 sv_44).toArray) _ (G_defect_channel.calls (Fn318.f225) (svL []) w_41 (S := Lo S w w_41 ns_15 []) (contI (S := Lo S w w_41 ns_15 []) (w := w_41) (d := kdF318) (x := (Fn318.f225)) (sv := (svL [])) trivial) _ hG_43) (fun sv_44 => (s_ [e_ 10 (.agg ((kd_Defect_rule).cells t_42 sv_44).toArray), e_ 9 (.agg ((kd_Defect_rule).cells t_37 sv_39).toArray), e_ 8 (.agg ((kd_Defect_rule).cells t_32 sv_34).toArray), e_ 7 (.agg ((kd_Defect_rule).cells t_27 sv_29).toArray), e_ 6 (.agg ((kd_Defect_rule).cells t_22 sv_24).toArray), e_ 5 (.agg ((kd_Defect_rule).cells t_17 sv_19).toArray), e_ 4 (.agg #[.func (.func 216) #[] #[]]), e_ 3 (.agg ((kd_Defect_rule).cells t_10 sv_12).toArray), e_ 2 (.agg ((kd_Defect_rule).cells t_5 sv_7).toArray), e_ 1 (.agg #[.func (.func 211) #[] #[]]), e_ 0 (.slice none 0 0)] [])) (fun sv_44 => by kernel_rfl) (fun sv_44 a w_46 hput hE' hI' hmv hmr hres hR => ?_)
  replace hR_8 := Kd.keep _ hR_8 (hmv _)
  replace hR_13 := Kd.keep _ hR_13 (hmv _)
  replace hR_20 := Kd.keep _ hR_20 (hmv _)
  replace hR_25 := Kd.keep _ hR_25 (hmv _)
  replace hR_30 := Kd.keep _ hR_30 (hmv _)
  replace hR_35 := Kd.keep _ hR_35 (hmv _)
  replace hR_40 := Kd.keep _ hR_40 (hmv _)
  replace hE := hE'; replace hI := hI'; clear hE' hI' hmv hmr
  have hR_45 := hR
  replace hR_45 := Kd.keep _ hR_45 (hres _)
  clear hres
  obtain ⟨t_47, hG_48, H0⟩ := bind_some H0
  refine callH_ hF hE hI (wanted_none rfl) rfl (args := [.func (.func 227) #[] #[]]) rfl (enters Tryz.func217 (by kernel_rfl) rfl) (fun sv_49 => .agg ((kd_Defect_rule).cells t_47 sv_49).toArray) _ (G_defect_channel.calls (Fn318.f227) (svL []) w_46 (S := Lo S w w_46 ns_15 []) (contI (S := Lo S w w_46 ns_15 []) (w := w_46) (d := kdF318) (x := (Fn318.f227)) (sv := (svL [])) trivial) _ hG_48) (fun sv_49 => (s_ [e_ 11 (.agg ((kd_Defect_rule).cells t_47 sv_49).toArray), e_ 10 (.agg ((kd_Defect_rule).cells t_42 sv_44).toArray), e_ 9 (.agg ((kd_Defect_rule).cells t_37 sv_39).toArray), e_ 8 (.agg ((kd_Defect_rule).cells t_32 sv_34).toArray), e_ 7 (.agg ((kd_Defect_rule).cells t_27 sv_29).toArray), e_ 6 (.agg ((kd_Defect_rule).cells t_22 sv_24).toArray), e_ 5 (.agg ((kd_Defect_rule).cells t_17 sv_19).toArray), e_ 4 (.agg #[.func (.func 216) #[] #[]]), e_ 3 (.agg ((kd_Defect_rule).cells t_10 sv_12).toArray), e_ 2 (.agg ((kd_Defect_rule).cells t_5 sv_7).toArray), e_ 1 (.agg #[.func (.func 211) #[] #[]]), e_ 0 (.slice none 0 0)] [])) (fun sv_49 => by kernel_rfl) (fun sv_49 a w_51 hput hE' hI' hmv hmr hres hR => ?_)
  replace hR_8 := Kd.keep _ hR_8 (hmv _)
  replace hR_13 := Kd.keep _ hR_13 (hmv _)
  replace hR_20 := Kd.keep _ hR_20 (hmv _)
  replace hR_25 := Kd.keep _ hR_25 (hmv _)
  replace hR_30 := Kd.keep _ hR_30 (hmv _)
  replace hR_35 := Kd.keep _ hR_35 (hmv _)
  replace hR_40 := Kd.keep _ hR_40 (hmv _)
  replace hR_45 := Kd.keep _ hR_45 (hmv _)
  replace hE := hE'; replace hI := hI'; clear hE' hI' hmv hmr
  have hR_50 := hR
  replace hR_50 := Kd.keep _ hR_50 (hres _)
  clear hres
  obtain ⟨t_52, hG_53, H0⟩ := bind_some H0
  refine callH_ hF hE hI (wanted_none rfl) rfl (args := [.func (.func 229) #[] #[]]) rfl (enters Tryz.func228 (by kernel_rfl) rfl) (fun sv_54 => .agg ((kd_Defect_rule).cells t_52 sv_54).toArray) _ (G_defect_frame.calls (Fn181.f229) (svL [(none, 0)]) w_51 (S := Lo S w w_51 ns_15 []) (contI (S := Lo S w w_51 ns_15 []) (w := w_51) (d := kdF181) (x := (Fn181.f229)) (sv := (svL [(none, 0)])) trivial) _ hG_53) (fun sv_54 => (s_ [e_ 12 (.agg ((kd_Defect_rule).cells t_52 sv_54).toArray), e_ 11 (.agg ((kd_Defect_rule).cells t_47 sv_49).toArray), e_ 10 (.agg ((kd_Defect_rule).cells t_42 sv_44).toArray), e_ 9 (.agg ((kd_Defect_rule).cells t_37 sv_39).toArray), e_ 8 (.agg ((kd_Defect_rule).cells t_32 sv_34).toArray), e_ 7 (.agg ((kd_Defect_rule).cells t_27 sv_29).toArray), e_ 6 (.agg ((kd_Defect_rule).cells t_22 sv_24).toArray), e_ 5 (.agg ((kd_Defect_rule).cells t_17 sv_19).toArray), e_ 4 (.agg #[.func (.func 216) #[] #[]]), e_ 3 (.agg ((kd_Defect_rule).cells t_10 sv_12).toArray), e_ 2 (.agg ((kd_Defect_rule).cells t_5 sv_7).toArray), e_ 1 (.agg #[.func (.func 211) #[] #[]]), e_ 0 (.slice none 0 0)] [])) (fun sv_54 => by kernel_rfl) (fun sv_54 a w_56 hput hE' hI' hmv hmr hres hR => ?_)
  replace hR_8 := Kd.keep _ hR_8 (hmv _)
  replace hR_13 := Kd.keep _ hR_13 (hmv _)
  replace hR_20 := Kd.keep _ hR_20 (hmv _)
  replace hR_25 := Kd.keep _ hR_25 (hmv _)
  replace hR_30 := Kd.keep _ hR_30 (hmv _)
  replace hR_35 := Kd.keep _ hR_35 (hmv _)
  replace hR_40 := Kd.keep _ hR_40 (hmv _)
  replace hR_45 := Kd.keep _ hR_45 (hmv _)
  replace hR_50 := Kd.keep _ hR_50 (hmv _)
  replace hE := hE'; replace hI := hI'; clear hE' hI' hmv hmr
  have hR_55 := hR
  replace hR_55 := Kd.keep _ hR_55 (hres _)
  clear hres
  obtain ⟨t_57, hG_58, H0⟩ := bind_some H0
  refine callH_ hF hE hI (wanted_none rfl) rfl (args := [.func (.func 230) #[] #[]]) rfl (enters Tryz.func228 (by kernel_rfl) rfl) (fun sv_59 => .agg ((kd_Defect_rule).cells t_57 sv_59).toArray) _ (G_defect_frame.calls (Fn181.f230) (svL [(none, 0)]) w_56 (S := Lo S w w_56 ns_15 []) (contI (S := Lo S w w_56 ns_15 []) (w := w_56) (d := kdF181) (x := (Fn181.f230)) (sv := (svL [(none, 0)])) trivial) _ hG_58) (fun sv_59 => (s_ [e_ 13 (.agg ((kd_Defect_rule).cells t_57 sv_59).toArray), e_ 12 (.agg ((kd_Defect_rule).cells t_52 sv_54).toArray), e_ 11 (.agg ((kd_Defect_rule).cells t_47 sv_49).toArray), e_ 10 (.agg ((kd_Defect_rule).cells t_42 sv_44).toArray), e_ 9 (.agg ((kd_Defect_rule).cells t_37 sv_39).toArray), e_ 8 (.agg ((kd_Defect_rule).cells t_32 sv_34).toArray), e_ 7 (.agg ((kd_Defect_rule).cells t_27 sv_29).toArray), e_ 6 (.agg ((kd_Defect_rule).cells t_22 sv_24).toArray), e_ 5 (.agg ((kd_Defect_rule).cells t_17 sv_19).toArray), e_ 4 (.agg #[.func (.func 216) #[] #[]]), e_ 3 (.agg ((kd_Defect_rule).cells t_10 sv_12).toArray), e_ 2 (.agg ((kd_Defect_rule).cells t_5 sv_7).toArray), e_ 1 (.agg #[.func (.func 211) #[] #[]]), e_ 0 (.slice none 0 0)] [])) (fun sv_59 => by kernel_rfl) (fun sv_59 a w_61 hput hE' hI' hmv hmr hres hR => ?_)
  replace hR_8 := Kd.keep _ hR_8 (hmv _)
  replace hR_13 := Kd.keep _ hR_13 (hmv _)
  replace hR_20 := Kd.keep _ hR_20 (hmv _)
  replace hR_25 := Kd.keep _ hR_25 (hmv _)
  replace hR_30 := Kd.keep _ hR_30 (hmv _)
  replace hR_35 := Kd.keep _ hR_35 (hmv _)
  replace hR_40 := Kd.keep _ hR_40 (hmv _)
  replace hR_45 := Kd.keep _ hR_45 (hmv _)
  replace hR_50 := Kd.keep _ hR_50 (hmv _)
  replace hR_55 := Kd.keep _ hR_55 (hmv _)
  replace hE := hE'; replace hI := hI'; clear hE' hI' hmv hmr
  have hR_60 := hR
  replace hR_60 := Kd.keep _ hR_60 (hres _)
  clear hres
  obtain ⟨t_62, hG_63, H0⟩ := bind_some H0
  refine callH_ hF hE hI (wanted_none rfl) rfl (args := [.func (.func 232) #[] #[]]) rfl (enters Tryz.func231 (by kernel_rfl) rfl) (fun sv_64 => .agg ((kd_Defect_rule).cells t_62 sv_64).toArray) _ (G_defect_window.calls (Fn322.f232) (svL []) w_61 (S := Lo S w w_61 ns_15 []) (contI (S := Lo S w w_61 ns_15 []) (w := w_61) (d := kdF322) (x := (Fn322.f232)) (sv := (svL [])) trivial) _ hG_63) (fun sv_64 => (s_ [e_ 14 (.agg ((kd_Defect_rule).cells t_62 sv_64).toArray), e_ 13 (.agg ((kd_Defect_rule).cells t_57 sv_59).toArray), e_ 12 (.agg ((kd_Defect_rule).cells t_52 sv_54).toArray), e_ 11 (.agg ((kd_Defect_rule).cells t_47 sv_49).toArray), e_ 10 (.agg ((kd_Defect_rule).cells t_42 sv_44).toArray), e_ 9 (.agg ((kd_Defect_rule).cells t_37 sv_39).toArray), e_ 8 (.agg ((kd_Defect_rule).cells t_32 sv_34).toArray), e_ 7 (.agg ((kd_Defect_rule).cells t_27 sv_29).toArray), e_ 6 (.agg ((kd_Defect_rule).cells t_22 sv_24).toArray), e_ 5 (.agg ((kd_Defect_rule).cells t_17 sv_19).toArray), e_ 4 (.agg #[.func (.func 216) #[] #[]]), e_ 3 (.agg ((kd_Defect_rule).cells t_10 sv_12).toArray), e_ 2 (.agg ((kd_Defect_rule).cells t_5 sv_7).toArray), e_ 1 (.agg #[.func (.func 211) #[] #[]]), e_ 0 (.slice none 0 0)] [])) (fun sv_64 => by kernel_rfl) (fun sv_64 a w_66 hput hE' hI' hmv hmr hres hR => ?_)
  replace hR_8 := Kd.keep _ hR_8 (hmv _)
  replace hR_13 := Kd.keep _ hR_13 (hmv _)
  replace hR_20 := Kd.keep _ hR_20 (hmv _)
  replace hR_25 := Kd.keep _ hR_25 (hmv _)
  replace hR_30 := Kd.keep _ hR_30 (hmv _)
  replace hR_35 := Kd.keep _ hR_35 (hmv _)
  replace hR_40 := Kd.keep _ hR_40 (hmv _)
  replace hR_45 := Kd.keep _ hR_45 (hmv _)
  replace hR_50 := Kd.keep _ hR_50 (hmv _)
  replace hR_55 := Kd.keep _ hR_55 (hmv _)
  replace hR_60 := Kd.keep _ hR_60 (hmv _)
  replace hE := hE'; replace hI := hI'; clear hE' hI' hmv hmr
  have hR_65 := hR
  replace hR_65 := Kd.keep _ hR_65 (hres _)
  clear hres
  obtain ⟨t_67, hG_68, H0⟩ := bind_some H0
  refine callH_ hF hE hI (wanted_none rfl) rfl (args := [.func (.func 233) #[] #[]]) rfl (enters Tryz.func231 (by kernel_rfl) rfl) (fun sv_69 => .agg ((kd_Defect_rule).cells t_67 sv_69).toArray) _ (G_defect_window.calls (Fn322.f233) (svL []) w_66 (S := Lo S w w_66 ns_15 []) (contI (S := Lo S w w_66 ns_15 []) (w := w_66) (d := kdF322) (x := (Fn322.f233)) (sv := (svL [])) trivial) _ hG_68) (fun sv_69 => (s_ [e_ 15 (.agg ((kd_Defect_rule).cells t_67 sv_69).toArray), e_ 14 (.agg ((kd_Defect_rule).cells t_62 sv_64).toArray), e_ 13 (.agg ((kd_Defect_rule).cells t_57 sv_59).toArray), e_ 12 (.agg ((kd_Defect_rule).cells t_52 sv_54).toArray), e_ 11 (.agg ((kd_Defect_rule).cells t_47 sv_49).toArray), e_ 10 (.agg ((kd_Defect_rule).cells t_42 sv_44).toArray), e_ 9 (.agg ((kd_Defect_rule).cells t_37 sv_39).toArray), e_ 8 (.agg ((kd_Defect_rule).cells t_32 sv_34).toArray), e_ 7 (.agg ((kd_Defect_rule).cells t_27 sv_29).toArray), e_ 6 (.agg ((kd_Defect_rule).cells t_22 sv_24).toArray), e_ 5 (.agg ((kd_Defect_rule).cells t_17 sv_19).toArray), e_ 4 (.agg #[.func (.func 216) #[] #[]]), e_ 3 (.agg ((kd_Defect_rule).cells t_10 sv_12).toArray), e_ 2 (.agg ((kd_Defect_rule).cells t_5 sv_7).toArray), e_ 1 (.agg #[.func (.func 211) #[] #[]]), e_ 0 (.slice none 0 0)] [])) (fun sv_69 => by kernel_rfl) (fun sv_69 a w_71 hput hE' hI' hmv hmr hres hR => ?_)
  replace hR_8 := Kd.keep _ hR_8 (hmv _)
  replace hR_13 := Kd.keep _ hR_13 (hmv _)
  replace hR_20 := Kd.keep _ hR_20 (hmv _)
  replace hR_25 := Kd.keep _ hR_25 (hmv _)
  replace hR_30 := Kd.keep _ hR_30 (hmv _)
  replace hR_35 := Kd.keep _ hR_35 (hmv _)
  replace hR_40 := Kd.keep _ hR_40 (hmv _)
  replace hR_45 := Kd.keep _ hR_45 (hmv _)
  replace hR_50 := Kd.keep _ hR_50 (hmv _)
  replace hR_55 := Kd.keep _ hR_55 (hmv _)
  replace hR_60 := Kd.keep _ hR_60 (hmv _)
  replace hR_65 := Kd.keep _ hR_65 (hmv _)
  replace hE := hE'; replace hI := hI'; clear hE' hI' hmv hmr
  have hR_70 := hR
  replace hR_70 := Kd.keep _ hR_70 (hres _)
  clear hres
  obtain ⟨t_72, hG_73, H0⟩ := bind_some H0
  refine callH_ hF hE hI (wanted_none rfl) rfl (args := [.func (.func 234) #[] #[]]) rfl (enters Tryz.func228 (by kernel_rfl) rfl) (fun sv_74 => .agg ((kd_Defect_rule).cells t_72 sv_74).toArray) _ (G_defect_frame.calls (Fn181.f234) (svL [(none, 0)]) w_71 (S := Lo S w w_71 ns_15 []) (contI (S := Lo S w w_71 ns_15 []) (w := w_71) (d := kdF181) (x := (Fn181.f234)) (sv := (svL [(none, 0)])) trivial) _ hG_73) (fun sv_74 => (s_ [e_ 16 (.agg ((kd_Defect_rule).cells t_72 sv_74).toArray), e_ 15 (.agg ((kd_Defect_rule).cells t_67 sv_69).toArray), e_ 14 (.agg ((kd_Defect_rule).cells t_62 sv_64).toArray), e_ 13 (.agg ((kd_Defect_rule).cells t_57 sv_59).toArray), e_ 12 (.agg ((kd_Defect_rule).cells t_52 sv_54).toArray), e_ 11 (.agg ((kd_Defect_rule).cells t_47 sv_49).toArray), e_ 10 (.agg ((kd_Defect_rule).cells t_42 sv_44).toArray), e_ 9 (.agg ((kd_Defect_rule).cells t_37 sv_39).toArray), e_ 8 (.agg ((kd_Defect_rule).cells t_32 sv_34).toArray), e_ 7 (.agg ((kd_Defect_rule).cells t_27 sv_29).toArray), e_ 6 (.agg ((kd_Defect_rule).cells t_22 sv_24).toArray), e_ 5 (.agg ((kd_Defect_rule).cells t_17 sv_19).toArray), e_ 4 (.agg #[.func (.func 216) #[] #[]]), e_ 3 (.agg ((kd_Defect_rule).cells t_10 sv_12).toArray), e_ 2 (.agg ((kd_Defect_rule).cells t_5 sv_7).toArray), e_ 1 (.agg #[.func (.func 211) #[] #[]]), e_ 0 (.slice none 0 0)] [])) (fun sv_74 => by kernel_rfl) (fun sv_74 a w_76 hput hE' hI' hmv hmr hres hR => ?_)
  replace hR_8 := Kd.keep _ hR_8 (hmv _)
  replace hR_13 := Kd.keep _ hR_13 (hmv _)
  replace hR_20 := Kd.keep _ hR_20 (hmv _)
  replace hR_25 := Kd.keep _ hR_25 (hmv _)
  replace hR_30 := Kd.keep _ hR_30 (hmv _)
  replace hR_35 := Kd.keep _ hR_35 (hmv _)
  replace hR_40 := Kd.keep _ hR_40 (hmv _)
  replace hR_45 := Kd.keep _ hR_45 (hmv _)
  replace hR_50 := Kd.keep _ hR_50 (hmv _)
  replace hR_55 := Kd.keep _ hR_55 (hmv _)
  replace hR_60 := Kd.keep _ hR_60 (hmv _)
  replace hR_65 := Kd.keep _ hR_65 (hmv _)
  replace hR_70 := Kd.keep _ hR_70 (hmv _)
  replace hE := hE'; replace hI := hI'; clear hE' hI' hmv hmr
  have hR_75 := hR
  replace hR_75 := Kd.keep _ hR_75 (hres _)
  clear hres
  refine ck0_ hF 1 hI (s_ [e_ 17 (.agg #[.func (.func 235) #[] #[]]), e_ 16 (.agg ((kd_Defect_rule).cells t_72 sv_74).toArray), e_ 15 (.agg ((kd_Defect_rule).cells t_67 sv_69).toArray), e_ 14 (.agg ((kd_Defect_rule).cells t_62 sv_64).toArray), e_ 13 (.agg ((kd_Defect_rule).cells t_57 sv_59).toArray), e_ 12 (.agg ((kd_Defect_rule).cells t_52 sv_54).toArray), e_ 11 (.agg ((kd_Defect_rule).cells t_47 sv_49).toArray), e_ 10 (.agg ((kd_Defect_rule).cells t_42 sv_44).toArray), e_ 9 (.agg ((kd_Defect_rule).cells t_37 sv_39).toArray), e_ 8 (.agg ((kd_Defect_rule).cells t_32 sv_34).toArray), e_ 7 (.agg ((kd_Defect_rule).cells t_27 sv_29).toArray), e_ 6 (.agg ((kd_Defect_rule).cells t_22 sv_24).toArray), e_ 5 (.agg ((kd_Defect_rule).cells t_17 sv_19).toArray), e_ 4 (.agg #[.func (.func 216) #[] #[]]), e_ 3 (.agg ((kd_Defect_rule).cells t_10 sv_12).toArray), e_ 2 (.agg ((kd_Defect_rule).cells t_5 sv_7).toArray), e_ 1 (.agg #[.func (.func 211) #[] #[]]), e_ 0 (.slice none 0 0)] []) rfl (by kernel_rfl) (fun ns_77 a w_78 hI => ?_)
  obtain ⟨hE', hmv, hmr⟩ := Ep.rebase hE hI
  replace hR_8 := Kd.keep _ hR_8 (hmv _)
  replace hR_13 := Kd.keep _ hR_13 (hmv _)
  replace hR_20 := Kd.keep _ hR_20 (hmv _)
  replace hR_25 := Kd.keep _ hR_25 (hmv _)
  replace hR_30 := Kd.keep _ hR_30 (hmv _)
  replace hR_35 := Kd.keep _ hR_35 (hmv _)
  replace hR_40 := Kd.keep _ hR_40 (hmv _)
  replace hR_45 := Kd.keep _ hR_45 (hmv _)
  replace hR_50 := Kd.keep _ hR_50 (hmv _)
  replace hR_55 := Kd.keep _ hR_55 (hmv _)
  replace hR_60 := Kd.keep _ hR_60 (hmv _)
  replace hR_65 := Kd.keep _ hR_65 (hmv _)
  replace hR_70 := Kd.keep _ hR_70 (hmv _)
  replace hR_75 := Kd.keep _ hR_75 (hmv _)
  replace hE := hE'; replace hI := hI.rebase; clear hE' hmv hmr
  refine buildSlice_ (S0 := S) (d := kd_Defect_rule) (e := 304) hF hE hI (wanted_none rfl) rfl (by kernel_rfl) (cs := [.func (.func 211) #[] #[], fnv37 t_5.holds sv_7, fnv37 t_10.holds sv_12, .func (.func 216) #[] #[], fnv37 t_17.holds sv_19, fnv37 t_22.holds sv_24, fnv37 t_27.holds sv_29, fnv37 t_32.holds sv_34, fnv37 t_37.holds sv_39, fnv37 t_42.holds sv_44, fnv37 t_47.holds sv_49, fnv37 t_52.holds sv_54, fnv37 t_57.holds sv_59, fnv37 t_62.holds sv_64, fnv37 t_67.holds sv_69, fnv37 t_72.holds sv_74, .func (.func 235) #[] #[]]) (by kernel_rfl) [(⟨(Fn37.f211)⟩ : Defect_rule), t_5, t_10, (⟨(Fn37.f216)⟩ : Defect_rule), t_17, t_22, t_27, t_32, t_37, t_42, t_47, t_52, t_57, t_62, t_67, t_72, (⟨(Fn37.f235)⟩ : Defect_rule)] [(svL [(none, 0), (none, 0)]), sv_7, sv_12, (svL [(none, 0), (none, 0)]), sv_19, sv_24, sv_29, sv_34, sv_39, sv_44, sv_49, sv_54, sv_59, sv_64, sv_69, sv_74, (svL [(none, 0), (none, 0)])] rfl rfl (by simp [maxLen]) (fun i x hi => by cases i with | zero => (simp only [List.getElem?_cons_zero, Option.some.injEq] at hi; subst hi; exact ⟨⟨trivial, trivial⟩, rfl⟩) | succ i => (simp only [List.getElem?_cons_succ] at hi; cases i with | zero => (simp only [List.getElem?_cons_zero, Option.some.injEq] at hi; subst hi; exact ⟨⟨hR_8.1, trivial⟩, rfl⟩) | succ i => (simp only [List.getElem?_cons_succ] at hi; cases i with | zero => (simp only [List.getElem?_cons_zero, Option.some.injEq] at hi; subst hi; exact ⟨⟨hR_13.1, trivial⟩, rfl⟩) | succ i => (simp only [List.getElem?_cons_succ] at hi; cases i with | zero => (simp only [List.getElem?_cons_zero, Option.some.injEq] at hi; subst hi; exact ⟨⟨trivial, trivial⟩, rfl⟩) | succ i => (simp only [List.getElem?_cons_succ] at hi; cases i with | zero => (simp only [List.getElem?_cons_zero, Option.some.injEq] at hi; subst hi; exact ⟨⟨hR_20.1, trivial⟩, rfl⟩) | succ i => (simp only [List.getElem?_cons_succ] at hi; cases i with | zero => (simp only [List.getElem?_cons_zero, Option.some.injEq] at hi; subst hi; exact ⟨⟨hR_25.1, trivial⟩, rfl⟩) | succ i => (simp only [List.getElem?_cons_succ] at hi; cases i with | zero => (simp only [List.getElem?_cons_zero, Option.some.injEq] at hi; subst hi; exact ⟨⟨hR_30.1, trivial⟩, rfl⟩) | succ i => (simp only [List.getElem?_cons_succ] at hi; cases i with | zero => (simp only [List.getElem?_cons_zero, Option.some.injEq] at hi; subst hi; exact ⟨⟨hR_35.1, trivial⟩, rfl⟩) | succ i => (simp only [List.getElem?_cons_succ] at hi; cases i with | zero => (simp only [List.getElem?_cons_zero, Option.some.injEq] at hi; subst hi; exact ⟨⟨hR_40.1, trivial⟩, rfl⟩) | succ i => (simp only [List.getElem?_cons_succ] at hi; cases i with | zero => (simp only [List.getElem?_cons_zero, Option.some.injEq] at hi; subst hi; exact ⟨⟨hR_45.1, trivial⟩, rfl⟩) | succ i => (simp only [List.getElem?_cons_succ] at hi; cases i with | zero => (simp only [List.getElem?_cons_zero, Option.some.injEq] at hi; subst hi; exact ⟨⟨hR_50.1, trivial⟩, rfl⟩) | succ i => (simp only [List.getElem?_cons_succ] at hi; cases i with | zero => (simp only [List.getElem?_cons_zero, Option.some.injEq] at hi; subst hi; exact ⟨⟨hR_55.1, trivial⟩, rfl⟩) | succ i => (simp only [List.getElem?_cons_succ] at hi; cases i with | zero => (simp only [List.getElem?_cons_zero, Option.some.injEq] at hi; subst hi; exact ⟨⟨hR_60.1, trivial⟩, rfl⟩) | succ i => (simp only [List.getElem?_cons_succ] at hi; cases i with | zero => (simp only [List.getElem?_cons_zero, Option.some.injEq] at hi; subst hi; exact ⟨⟨hR_65.1, trivial⟩, rfl⟩) | succ i => (simp only [List.getElem?_cons_succ] at hi; cases i with | zero => (simp only [List.getElem?_cons_zero, Option.some.injEq] at hi; subst hi; exact ⟨⟨hR_70.1, trivial⟩, rfl⟩) | succ i => (simp only [List.getElem?_cons_succ] at hi; cases i with | zero => (simp only [List.getElem?_cons_zero, Option.some.injEq] at hi; subst hi; exact ⟨⟨hR_75.1, trivial⟩, rfl⟩) | succ i => (simp only [List.getElem?_cons_succ] at hi; cases i with | zero => (simp only [List.getElem?_cons_zero, Option.some.injEq] at hi; subst hi; exact ⟨⟨trivial, trivial⟩, rfl⟩) | succ i => (simp only [List.getElem?_cons_succ] at hi; simp at hi)))))))))))))))))) (fun A_79 => (s_ [e_ 18 (.slice A_79 ([(⟨(Fn37.f211)⟩ : Defect_rule), t_5, t_10, (⟨(Fn37.f216)⟩ : Defect_rule), t_17, t_22, t_27, t_32, t_37, t_42, t_47, t_52, t_57, t_62, t_67, t_72, (⟨(Fn37.f235)⟩ : Defect_rule)] : List Defect_rule).length (([(⟨(Fn37.f211)⟩ : Defect_rule), t_5, t_10, (⟨(Fn37.f216)⟩ : Defect_rule), t_17, t_22, t_27, t_32, t_37, t_42, t_47, t_52, t_57, t_62, t_67, t_72, (⟨(Fn37.f235)⟩ : Defect_rule)] : List Defect_rule).length)), e_ 17 (.agg #[.func (.func 235) #[] #[]]), e_ 16 (.agg ((kd_Defect_rule).cells t_72 sv_74).toArray), e_ 15 (.agg ((kd_Defect_rule).cells t_67 sv_69).toArray), e_ 14 (.agg ((kd_Defect_rule).cells t_62 sv_64).toArray), e_ 13 (.agg ((kd_Defect_rule).cells t_57 sv_59).toArray), e_ 12 (.agg ((kd_Defect_rule).cells t_52 sv_54).toArray), e_ 11 (.agg ((kd_Defect_rule).cells t_47 sv_49).toArray), e_ 10 (.agg ((kd_Defect_rule).cells t_42 sv_44).toArray), e_ 9 (.agg ((kd_Defect_rule).cells t_37 sv_39).toArray), e_ 8 (.agg ((kd_Defect_rule).cells t_32 sv_34).toArray), e_ 7 (.agg ((kd_Defect_rule).cells t_27 sv_29).toArray), e_ 6 (.agg ((kd_Defect_rule).cells t_22 sv_24).toArray), e_ 5 (.agg ((kd_Defect_rule).cells t_17 sv_19).toArray), e_ 4 (.agg #[.func (.func 216) #[] #[]]), e_ 3 (.agg ((kd_Defect_rule).cells t_10 sv_12).toArray), e_ 2 (.agg ((kd_Defect_rule).cells t_5 sv_7).toArray), e_ 1 (.agg #[.func (.func 211) #[] #[]]), e_ 0 (.slice none 0 0)] [])) (fun A_79 => by kernel_rfl) (fun A_79 a w_81 hput hE' hI' hmv hmr hq_80 => ?_)
  replace hR_8 := Kd.keep _ hR_8 (hmv _)
  replace hR_13 := Kd.keep _ hR_13 (hmv _)
  replace hR_20 := Kd.keep _ hR_20 (hmv _)
  replace hR_25 := Kd.keep _ hR_25 (hmv _)
  replace hR_30 := Kd.keep _ hR_30 (hmv _)
  replace hR_35 := Kd.keep _ hR_35 (hmv _)
  replace hR_40 := Kd.keep _ hR_40 (hmv _)
  replace hR_45 := Kd.keep _ hR_45 (hmv _)
  replace hR_50 := Kd.keep _ hR_50 (hmv _)
  replace hR_55 := Kd.keep _ hR_55 (hmv _)
  replace hR_60 := Kd.keep _ hR_60 (hmv _)
  replace hR_65 := Kd.keep _ hR_65 (hmv _)
  replace hR_70 := Kd.keep _ hR_70 (hmv _)
  replace hR_75 := Kd.keep _ hR_75 (hmv _)
  replace hE := hE'; replace hI := hI'; clear hE' hI' hmv hmr
  refine ck0_ hF 1 hI (s_ [e_ 0 (.slice A_79 ([(⟨(Fn37.f211)⟩ : Defect_rule), t_5, t_10, (⟨(Fn37.f216)⟩ : Defect_rule), t_17, t_22, t_27, t_32, t_37, t_42, t_47, t_52, t_57, t_62, t_67, t_72, (⟨(Fn37.f235)⟩ : Defect_rule)] : List Defect_rule).length (([(⟨(Fn37.f211)⟩ : Defect_rule), t_5, t_10, (⟨(Fn37.f216)⟩ : Defect_rule), t_17, t_22, t_27, t_32, t_37, t_42, t_47, t_52, t_57, t_62, t_67, t_72, (⟨(Fn37.f235)⟩ : Defect_rule)] : List Defect_rule).length))] []) rfl (by kernel_rfl) (fun ns_82 a w_83 hI => ?_)
  refine wpListIn_nil ?_
  refine then_normal ?_
  obtain ⟨hE', hmv, hmr⟩ := Ep.rebase hE hI
  replace hR_8 := Kd.keep _ hR_8 (hmv _)
  replace hR_13 := Kd.keep _ hR_13 (hmv _)
  replace hR_20 := Kd.keep _ hR_20 (hmv _)
  replace hR_25 := Kd.keep _ hR_25 (hmv _)
  replace hR_30 := Kd.keep _ hR_30 (hmv _)
  replace hR_35 := Kd.keep _ hR_35 (hmv _)
  replace hR_40 := Kd.keep _ hR_40 (hmv _)
  replace hR_45 := Kd.keep _ hR_45 (hmv _)
  replace hR_50 := Kd.keep _ hR_50 (hmv _)
  replace hR_55 := Kd.keep _ hR_55 (hmv _)
  replace hR_60 := Kd.keep _ hR_60 (hmv _)
  replace hR_65 := Kd.keep _ hR_65 (hmv _)
  replace hR_70 := Kd.keep _ hR_70 (hmv _)
  replace hR_75 := Kd.keep _ hR_75 (hmv _)
  replace hq_80 := Row.keep hq_80 (hmv _) (fun b hb => hmr b (by simp [hb]))
  replace hE := hE'; replace hI := hI.rebase; clear hE' hmv hmr
  obtain ⟨hE', hmv, hq_80, hcap_84⟩ := Row.still (l1 := []) (l2 := []) hq_80 (Nat.le_refl _) hE
  have hmr := hmr_ ([rb A_79] : List (List Nat)) w_83
  replace hR_8 := Kd.keep _ hR_8 (hmv _)
  replace hR_13 := Kd.keep _ hR_13 (hmv _)
  replace hR_20 := Kd.keep _ hR_20 (hmv _)
  replace hR_25 := Kd.keep _ hR_25 (hmv _)
  replace hR_30 := Kd.keep _ hR_30 (hmv _)
  replace hR_35 := Kd.keep _ hR_35 (hmv _)
  replace hR_40 := Kd.keep _ hR_40 (hmv _)
  replace hR_45 := Kd.keep _ hR_45 (hmv _)
  replace hR_50 := Kd.keep _ hR_50 (hmv _)
  replace hR_55 := Kd.keep _ hR_55 (hmv _)
  replace hR_60 := Kd.keep _ hR_60 (hmv _)
  replace hR_65 := Kd.keep _ hR_65 (hmv _)
  replace hR_70 := Kd.keep _ hR_70 (hmv _)
  replace hR_75 := Kd.keep _ hR_75 (hmv _)
  replace hE := hE'
  clear hE' hmv hmr
  refine wpIn_ret ?_
  obtain rfl := Option.some.inj H0
  exact ret1 hI rfl rfl ⟨svL [(A_79, ([(⟨(Fn37.f211)⟩ : Defect_rule), t_5, t_10, (⟨(Fn37.f216)⟩ : Defect_rule), t_17, t_22, t_27, t_32, t_37, t_42, t_47, t_52, t_57, t_62, t_67, t_72, (⟨(Fn37.f235)⟩ : Defect_rule)] : List Defect_rule).length)], rfl, hE.below hI, ⟨Arr.keep hq_80 (hE.out hI), hcap_84⟩⟩

noncomputable def G_defect_within (a0 : Int) (a1 : Int) (a2 : Int) : Option (Bool) := some (decide (a0 ≥ a1) && decide (a0 ≤ a2))
theorem G_defect_within.calls (a0 : Int) (a1 : Int) (a2 : Int)  (w : World) {S : Nat → Prop}  (r : Bool) (h : G_defect_within a0 a1 a2 = some r) :
    Calls Tryz.prog 212 #[.int .i64 a0, .int .i64 a1, .int .i64 a2] w fun e w' => e = .returned (.bool r) ∧ Below w.heap.size w w' := by
  unfold G_defect_within at h
  have H0 := h
  clear h
  refine enter Tryz.func212 rfl [.int .i64 a0, .int .i64 a1, .int .i64 a2] (n := 15) rfl (Nat.le_of_ble_eq_true rfl) (fun a hI => ?_)
  have hF : FOpen Fence.wide := .inl rfl
  have hE := Ep.start w
  refine sr0_ hF hI (s_ [e_ 6 (.bool false), e_ 0 (.int .i64 a0), e_ 1 (.int .i64 a1), e_ 2 (.int .i64 a2)] []) (by kernel_rfl) (fun ns_1 a w_2 hI => ?_)
  refine sr0_ hF hI (s_ [e_ 6 (.bool (decide (a0 ≥ a1) && decide (a0 ≤ a2)))] []) (by kernel_rfl) (fun ns_3 a w_4 hI => ?_)
  refine wpIn_ret ?_
  obtain rfl := Option.some.inj H0
  exact ret1 hI rfl rfl ⟨rfl, hE.below hI⟩

noncomputable def G_defect_rules_2 (x0 : Part) : Option (Bool) := ((G_defect_within x0.Core 0 1).bind fun t_3 => some (!t_3))
theorem G_defect_rules_2.calls (x0 : Part) (sv0 : SV) (w : World) {S : Nat → Prop} (hx0 : (kd_Part).cont S w x0 sv0) (r : Bool) (h : G_defect_rules_2 x0 = some r) :
    Calls Tryz.prog 214 #[.agg ((kd_Part).cells x0 sv0).toArray] w fun e w' => e = .returned (.bool r) ∧ Below w.heap.size w w' := by
  replace hx0 := Kd.lo _ hx0
  unfold G_defect_rules_2 at h
  have H0 := h
  clear h
  refine enter Tryz.func214 rfl [.agg ((kd_Part).cells x0 sv0).toArray] (n := 7) rfl (Nat.le_of_ble_eq_true rfl) (fun a hI => ?_)
  have hF : FOpen Fence.wide := .inl rfl
  have hE := Ep.start w
  refine sr0_ hF hI (s_ [e_ 2 (.bool false), p_ 1 0 0] [((((kd_Part).cells x0 sv0).map EV.v), 155)]) (by kernel_rfl) (fun ns_1 a w_2 hI => ?_)
  obtain ⟨t_3, hG_4, H0⟩ := bind_some H0
  refine sr_ (orc := [[.bool t_3]]) hF hI (s_ [e_ 2 (.bool (!t_3))] [((((kd_Part).cells x0 sv0).map EV.v), 155)]) [.call true 212 [.int .i64 x0.Core, .int .i64 0, .int .i64 1] (.bool t_3)] (by kernel_rfl) ⟨ob_call (enters Tryz.func212 (by kernel_rfl) rfl) (fun hg wz hk => G_defect_within.calls x0.Core 0 1  wz (S := fun _ => True)  _ hG_4), trivial⟩ (fun ns_5 a w_6 hI => ?_)
  refine wpIn_ret ?_
  obtain rfl := Option.some.inj H0
  exact ret1 hI rfl rfl ⟨rfl, hE.below hI⟩

noncomputable def G_defect_rules_3 (x0 : Part) : Option (Bool) := ((G_defect_within x0.Private 0 64).bind fun t_3 => some (!t_3))
theorem G_defect_rules_3.calls (x0 : Part) (sv0 : SV) (w : World) {S : Nat → Prop} (hx0 : (kd_Part).cont S w x0 sv0) (r : Bool) (h : G_defect_rules_3 x0 = some r) :
    Calls Tryz.prog 215 #[.agg ((kd_Part).cells x0 sv0).toArray] w fun e w' => e = .returned (.bool r) ∧ Below w.heap.size w w' := by
  replace hx0 := Kd.lo _ hx0
  unfold G_defect_rules_3 at h
  have H0 := h
  clear h
  refine enter Tryz.func215 rfl [.agg ((kd_Part).cells x0 sv0).toArray] (n := 7) rfl (Nat.le_of_ble_eq_true rfl) (fun a hI => ?_)
  have hF : FOpen Fence.wide := .inl rfl
  have hE := Ep.start w
  refine sr0_ hF hI (s_ [e_ 2 (.bool false), p_ 1 0 0] [((((kd_Part).cells x0 sv0).map EV.v), 155)]) (by kernel_rfl) (fun ns_1 a w_2 hI => ?_)
  obtain ⟨t_3, hG_4, H0⟩ := bind_some H0
  refine sr_ (orc := [[.bool t_3]]) hF hI (s_ [e_ 2 (.bool (!t_3))] [((((kd_Part).cells x0 sv0).map EV.v), 155)]) [.call true 212 [.int .i64 x0.Private, .int .i64 0, .int .i64 64] (.bool t_3)] (by kernel_rfl) ⟨ob_call (enters Tryz.func212 (by kernel_rfl) rfl) (fun hg wz hk => G_defect_within.calls x0.Private 0 64  wz (S := fun _ => True)  _ hG_4), trivial⟩ (fun ns_5 a w_6 hI => ?_)
  refine wpIn_ret ?_
  obtain rfl := Option.some.inj H0
  exact ret1 hI rfl rfl ⟨rfl, hE.below hI⟩

noncomputable def Fn316.run (f : Fn316) (x0 : Part) : Option (Bool) := match f with
  | .f214 => G_defect_rules_2 x0
  | .f215 => G_defect_rules_3 x0
theorem Fn316.ent (f : Fn316) (args : Array Value) (w : World) : (callFunc (fid316 f) args).run Tryz.prog w = .ok (.enter (fid316 f) args) w := by
  cases f with
  | f214 => exact enters Tryz.func214 (by kernel_rfl) rfl args w
  | f215 => exact enters Tryz.func215 (by kernel_rfl) rfl args w
theorem Fn316.calls (f : Fn316) (x0 : Part) (svf : SV) (sv0 : SV) (w : World) {S : Nat → Prop} (hf : (kdF316).cont S w f svf) (hx0 : (kd_Part).cont S w x0 sv0) (r : Bool) (h : Fn316.run f x0 = some r) :
    Calls Tryz.prog (fid316 f) (([.agg ((kd_Part).cells x0 sv0).toArray] : List Value) ++ (fca316 f svf).toList).toArray w fun e w' => e = .returned (.bool r) ∧ Below w.heap.size w w' := by
  cases f with
  | f214 => exact G_defect_rules_2.calls x0  sv0  w hx0  r h
  | f215 => exact G_defect_rules_3.calls x0  sv0  w hx0  r h

noncomputable def G_api_Part_255.b1 (l0 : (List Part)) (x1 : Fn316) (s1 : Int × Int) : Option (Stp (Int × Int) (Ex (Int × Int) (Int))) := (bif decide (s1.1 < (l0.length : Int)) then (req (inb s1.1 l0.length) ((Fn316.run x1 (rd l0 s1.1)).bind fun t_16 => (bif t_16 then some (.out (.ret s1.1)) else some (.next ((IntKind.i64.wrap (s1.1 + 1)), s1.2))))) else some (.out (.brk (s1.1, s1.2))))
noncomputable def G_api_Part_255 (l0 : (List Part)) (x1 : Fn316) : Option (Int) := ((loopω (G_api_Part_255.b1 l0 x1) (0, 0)).bind fun o => o.on (fun s1 => some (-1)) (fun r => some r))
theorem G_api_Part_255.calls (l0 : (List Part)) (x1 : Fn316) (A0 : Option Addr) (c0 : Nat) (sv1 : SV) (w : World) {S : Nat → Prop} (hr0 : Arr kd_Part S w A0 l0) (hc0 : l0.length ≤ c0) (hx1 : (kdF316).cont S w x1 sv1) (r : Int) (h : G_api_Part_255 l0 x1 = some r) :
    Calls Tryz.prog 255 #[.slice A0 l0.length c0, fnv316 x1 sv1] w fun e w' => e = .returned (.int .i64 r) ∧ Below w.heap.size w w' := by
  replace hr0 := Arr.lo hr0
  replace hx1 := Kd.lo _ hx1
  unfold G_api_Part_255 at h
  have H0 := h
  clear h
  refine enter Tryz.func255 rfl [.slice A0 l0.length c0, fnv316 x1 sv1] (n := 19) rfl (Nat.le_of_ble_eq_true rfl) (fun a hI => ?_)
  have hF : FOpen Fence.wide := .inl rfl
  have hE := Ep.start w
  refine sr0_ hF hI (s_ [e_ 4 (.int .i64 0), e_ 0 (.slice A0 l0.length c0), e_ 1 (fnv316 x1 sv1)] []) (by kernel_rfl) (fun ns_1 a w_2 hI => ?_)
  refine wpIn_seq ?_
  refine sr0_ hF hI (s_ [e_ 8 (.int .i64 0), e_ 7 (.int .i64 (l0.length : Int)), e_ 4 (.int .i64 0), e_ 0 (.slice A0 l0.length c0), e_ 1 (fnv316 x1 sv1)] []) (by kernel_rfl) (fun ns_3 a w_4 hI => ?_)
  obtain ⟨o_25, hL_26, H0⟩ := bind_some H0
  refine block_loop (fun (s1 : Int × Int) a w_31 => ∃ ns, St w [] 19 (s_ [e_ 8 (.int .i64 s1.1), e_ 7 (.int .i64 (l0.length : Int)), e_ 4 (.int .i64 s1.2), e_ 0 (.slice A0 l0.length c0), e_ 1 (fnv316 x1 sv1)] []) ns a w_31) (0, 0) hL_26 ⟨_, hI.pick [8, 7, 4, 0, 1] 0 (s_ [e_ 8 (.int .i64 0), e_ 7 (.int .i64 (l0.length : Int)), e_ 4 (.int .i64 0), e_ 0 (.slice A0 l0.length c0), e_ 1 (fnv316 x1 sv1)] []) (by kernel_rfl)⟩ ?_ ?_
  ·clear hI
   rintro s1 a w_5 ⟨ns_6, hI⟩ r1 H1
   unfold G_api_Part_255.b1 at H1
   refine sr0_ hF hI (s_ [e_ 9 (.bool (decide (s1.1 < (l0.length : Int)))), e_ 8 (.int .i64 s1.1), e_ 7 (.int .i64 (l0.length : Int)), e_ 4 (.int .i64 s1.2), e_ 0 (.slice A0 l0.length c0), e_ 1 (fnv316 x1 sv1)] []) (by kernel_rfl) (fun ns_7 a w_8 hI => ?_)
   refine wpIn_seq ?_
   refine cond_ hI (decide (s1.1 < (l0.length : Int))) rfl (fun hc_9 => ?_) (fun hc_9 => ?_)
   ·replace H1 := bif_t hc_9 H1
    refine wpIn_skip ?_
    refine then_normal ?_
    refine wpIn_seq ?_
    refine wpIn_block ?_
    refine sr0_ hF hI (s_ [e_ 5 (.int .i64 s1.1), e_ 8 (.int .i64 s1.1), e_ 7 (.int .i64 (l0.length : Int)), e_ 4 (.int .i64 s1.2), e_ 0 (.slice A0 l0.length c0), e_ 1 (fnv316 x1 sv1)] []) (by kernel_rfl) (fun ns_10 a w_11 hI => ?_)
    obtain ⟨hN_12, H1⟩ := req_some H1
    obtain ⟨sv_13, hE_15, hA_14⟩ := Arr.elB (d := kd_Part) hr0 s1.1 true (fun _ => hN_12)
    replace hE_15 := hE_15 rfl
    replace hA_14 := fun (_ : true = true) => hA_14 rfl
    obtain ⟨t_16, hG_17, H1⟩ := bind_some H1
    refine sr_ (orc := [(kd_Part).cells (rd l0 s1.1) sv_13, [.bool t_16]]) hF hI (s_ [e_ 16 (.bool t_16), e_ 5 (.int .i64 s1.1), e_ 8 (.int .i64 s1.1), e_ 7 (.int .i64 (l0.length : Int)), e_ 4 (.int .i64 s1.2), e_ 0 (.slice A0 l0.length c0), e_ 1 (fnv316 x1 sv1)] []) [.need true ((0 : Int) ≤ s1.1 ∧ s1.1 < (l0.length : Int)), .need true (A0 = some (adr A0)), .cell true ((adr A0).add ((s1.1 : Int).toNat * 2)) ((kd_Part).cells (rd l0 s1.1) sv_13), .call true (fid316 x1) (([.agg ((kd_Part).cells (rd l0 s1.1) (svL [])).toArray] : List Value) ++ (fca316 x1 sv1).toList) (.bool t_16)] (by kernel_rfl) ⟨ob_inb (fun _ => hN_12), hA_14, ob_el (fun _ => hE_15) 0 ((kd_Part).cells (rd l0 s1.1) sv_13) rfl, ob_call (Fn316.ent x1) (fun hg wz hk => Fn316.calls x1 (rd l0 s1.1) sv1 (svL []) wz (S := fun _ => True) (Kd.any _ (Kd.keep kdF316 hx1 (Lo.on hk))) (Kd.any _ (Kd.keep kd_Part (contI (S := Lo S w w [] []) (w := w) (d := kd_Part) (x := (rd l0 s1.1)) (sv := (svL [])) trivial) (Lo.on hk))) _ hG_17), trivial⟩ (fun ns_18 a w_19 hI => ?_)
    refine cond_ hI (t_16) rfl (fun hc_20 => ?_) (fun hc_20 => ?_)
    ·replace H1 := bif_t hc_20 H1
     refine sr0_ hF hI (s_ [e_ 4 (.int .i64 s1.1)] []) (by kernel_rfl) (fun ns_21 a w_22 hI => ?_)
     refine wpIn_ret ?_
     refine inBlock_ret ?_
     refine then_ret ?_
     refine then_ret ?_
     obtain rfl := Option.some.inj H1
     refine .inr ⟨_, rfl, fun ho => ?_⟩
     subst ho
     refine inBlock_ret ?_
     refine then_ret ?_
     obtain rfl := Option.some.inj H0
     exact ret1 hI rfl rfl ⟨rfl, hE.below hI⟩
    ·replace H1 := bif_f hc_20 H1
     refine wpIn_skip ?_
     refine inBlock_normal ?_
     refine then_normal ?_
     refine rg0_ hF hI (s_ [e_ 8 (.int .i64 (IntKind.i64.wrap (s1.1 + 1))), e_ 7 (.int .i64 (l0.length : Int)), e_ 4 (.int .i64 s1.2), e_ 0 (.slice A0 l0.length c0), e_ 1 (fnv316 x1 sv1)] []) (by kernel_rfl) (fun ns_23 a w_24 hI => ?_)
     refine then_normal ?_
     obtain rfl := Option.some.inj H1
     exact ⟨_, rfl, ⟨_, hI.pick [8, 7, 4, 0, 1] 0 (s_ [e_ 8 (.int .i64 (IntKind.i64.wrap (s1.1 + 1))), e_ 7 (.int .i64 (l0.length : Int)), e_ 4 (.int .i64 s1.2), e_ 0 (.slice A0 l0.length c0), e_ 1 (fnv316 x1 sv1)] []) (by kernel_rfl)⟩⟩
   ·replace H1 := bif_f hc_9 H1
    refine wpIn_exit ?_
    refine then_exit ?_
    refine then_exit ?_
    obtain rfl := Option.some.inj H1
    exact .inl ⟨_, rfl, rfl, ⟨_, hI.pick [8, 7, 4, 0, 1] 0 (s_ [e_ 8 (.int .i64 s1.1), e_ 7 (.int .i64 (l0.length : Int)), e_ 4 (.int .i64 s1.2), e_ 0 (.slice A0 l0.length c0), e_ 1 (fnv316 x1 sv1)] []) (by kernel_rfl)⟩⟩
  ·clear hI
   rintro s1 a w_27 ho ⟨ns_28, hI⟩
   subst ho
   replace H0 : (some (-1) : Option (Int)) = _ := H0
   refine then_normal ?_
   refine sr0_ hF hI (s_ [e_ 4 (.int .i64 (-1))] []) (by kernel_rfl) (fun ns_29 a w_30 hI => ?_)
   refine wpIn_ret ?_
   obtain rfl := Option.some.inj H0
   exact ret1 hI rfl rfl ⟨rfl, hE.below hI⟩

noncomputable def G_api_Part_242 (l0 : (List Part)) (x1 : Fn316) : Option (Bool) := ((G_api_Part_255 l0 x1).bind fun t_3 => some (decide (t_3 ≥ 0)))
theorem G_api_Part_242.calls (l0 : (List Part)) (x1 : Fn316) (A0 : Option Addr) (c0 : Nat) (sv1 : SV) (w : World) {S : Nat → Prop} (hr0 : Arr kd_Part S w A0 l0) (hc0 : l0.length ≤ c0) (hx1 : (kdF316).cont S w x1 sv1) (r : Bool) (h : G_api_Part_242 l0 x1 = some r) :
    Calls Tryz.prog 242 #[.slice A0 l0.length c0, fnv316 x1 sv1] w fun e w' => e = .returned (.bool r) ∧ Below w.heap.size w w' := by
  replace hr0 := Arr.lo hr0
  replace hx1 := Kd.lo _ hx1
  unfold G_api_Part_242 at h
  have H0 := h
  clear h
  refine enter Tryz.func242 rfl [.slice A0 l0.length c0, fnv316 x1 sv1] (n := 9) rfl (Nat.le_of_ble_eq_true rfl) (fun a hI => ?_)
  have hF : FOpen Fence.wide := .inl rfl
  have hE := Ep.start w
  refine sr0_ hF hI (s_ [e_ 4 (.bool false), e_ 0 (.slice A0 l0.length c0), e_ 1 (fnv316 x1 sv1)] []) (by kernel_rfl) (fun ns_1 a w_2 hI => ?_)
  obtain ⟨t_3, hG_4, H0⟩ := bind_some H0
  refine sr_ (orc := [[.int .i64 t_3]]) hF hI (s_ [e_ 4 (.bool (decide (t_3 ≥ 0)))] []) [.call true 255 [.slice A0 l0.length c0, fnv316 x1 sv1] (.int .i64 t_3)] (by kernel_rfl) ⟨ob_call (enters Tryz.func255 (by kernel_rfl) rfl) (fun hg wz hk => G_api_Part_255.calls l0 x1 A0 c0 (svL []) wz (S := fun _ => True) (Arr.any (Arr.keep hr0 (Lo.on hk))) hc0 (Kd.any _ (Kd.keep kdF316 (contI (S := Lo S w w [] []) (w := w) (d := kdF316) (x := x1) (sv := (svL [])) hx1) (Lo.on hk))) _ hG_4), trivial⟩ (fun ns_5 a w_6 hI => ?_)
  refine wpIn_ret ?_
  obtain rfl := Option.some.inj H0
  exact ret1 hI rfl rfl ⟨rfl, hE.below hI⟩

noncomputable def G_defect_part_1 (x0 : Config) (y1 : Fn316) : Option (Bool) := ((G_api_Part_242 x0.Parts y1).bind fun t_3 => some t_3)
theorem G_defect_part_1.calls (x0 : Config) (y1 : Fn316) (sv0 : SV) (B1 : Addr) (sv1 : SV) (w : World) {S : Nat → Prop} (hx0 : (kd_Config).cont S w x0 sv0) (hB1 : El kdF316 S w B1 y1 sv1) (r : Bool) (h : G_defect_part_1 x0 y1 = some r) :
    Calls Tryz.prog 241 #[.agg ((kd_Config).cells x0 sv0).toArray, .pointer (some B1)] w fun e w' => e = .returned (.bool r) ∧ Below w.heap.size w w' := by
  replace hx0 := Kd.lo _ hx0
  replace hB1 := El.lo hB1
  unfold G_defect_part_1 at h
  have H0 := h
  clear h
  refine enter Tryz.func241 rfl [.agg ((kd_Config).cells x0 sv0).toArray, .pointer (some B1)] (n := 8) rfl (Nat.le_of_ble_eq_true rfl) (fun a hI => ?_)
  have hF : FOpen Fence.wide := .inl rfl
  have hE := Ep.start w
  refine sr0_ hF hI (s_ [e_ 3 (.bool false), p_ 2 0 0, e_ 1 (.pointer (some B1))] [((((kd_Config).cells x0 sv0).map EV.v), 29)]) (by kernel_rfl) (fun ns_1 a w_2 hI => ?_)
  obtain ⟨t_3, hG_4, H0⟩ := bind_some H0
  refine sr_ (orc := [[fnv316 y1 sv1], [.bool t_3]]) hF hI (s_ [e_ 3 (.bool t_3)] [((((kd_Config).cells x0 sv0).map EV.v), 29)]) [.cell true B1 [fnv316 y1 sv1], .call true 242 [.slice ((sv0 0).1) x0.Parts.length ((sv0 0).2), fnv316 y1 sv1] (.bool t_3)] (by kernel_rfl) ⟨ob_el (fun _ => hB1) 0 [fnv316 y1 sv1] rfl, ob_call (enters Tryz.func242 (by kernel_rfl) rfl) (fun hg wz hk => G_api_Part_242.calls x0.Parts y1 ((sv0 0).1) ((sv0 0).2) (svL []) wz (S := fun _ => True) (Arr.any (Arr.keep hx0.1.1 (Lo.on hk))) hx0.1.2 (Kd.any _ (Kd.keep kdF316 (contI (S := Lo S w w [] []) (w := w) (d := kdF316) (x := y1) (sv := (svL [])) (hB1).cont) (Lo.on hk))) _ hG_4), trivial⟩ (fun ns_5 a w_6 hI => ?_)
  refine wpIn_ret ?_
  obtain rfl := Option.some.inj H0
  exact ret1 hI rfl rfl ⟨rfl, hE.below hI⟩

noncomputable def G_defect_rules_5 (x0 : Config) (x1 : Chan) : Option (Bool) := some ((x1.Kind != 1) && (x1.Kind != 2))
theorem G_defect_rules_5.calls (x0 : Config) (x1 : Chan) (sv0 : SV) (sv1 : SV) (w : World) {S : Nat → Prop} (hx0 : (kd_Config).cont S w x0 sv0) (hx1 : (kd_Chan).cont S w x1 sv1) (r : Bool) (h : G_defect_rules_5 x0 x1 = some r) :
    Calls Tryz.prog 218 #[.agg ((kd_Config).cells x0 sv0).toArray, .agg ((kd_Chan).cells x1 sv1).toArray] w fun e w' => e = .returned (.bool r) ∧ Below w.heap.size w w' := by
  replace hx0 := Kd.lo _ hx0
  replace hx1 := Kd.lo _ hx1
  unfold G_defect_rules_5 at h
  have H0 := h
  clear h
  refine enter Tryz.func218 rfl [.agg ((kd_Config).cells x0 sv0).toArray, .agg ((kd_Chan).cells x1 sv1).toArray] (n := 13) rfl (Nat.le_of_ble_eq_true rfl) (fun a hI => ?_)
  have hF : FOpen Fence.wide := .inl rfl
  have hE := Ep.start w
  refine sr0_ hF hI (s_ [e_ 4 (.bool false), p_ 3 1 0] [((((kd_Config).cells x0 sv0).map EV.v), 29), ((((kd_Chan).cells x1 sv1).map EV.v), 86)]) (by kernel_rfl) (fun ns_1 a w_2 hI => ?_)
  refine sr0_ hF hI (s_ [e_ 4 (.bool ((x1.Kind != 1) && (x1.Kind != 2)))] [((((kd_Config).cells x0 sv0).map EV.v), 29), ((((kd_Chan).cells x1 sv1).map EV.v), 86)]) (by kernel_rfl) (fun ns_3 a w_4 hI => ?_)
  refine wpIn_ret ?_
  obtain rfl := Option.some.inj H0
  exact ret1 hI rfl rfl ⟨rfl, hE.below hI⟩

noncomputable def G_defect_strange (x0 : Config) (a1 : Int) : Option (Bool) := ((G_defect_within a1 0 (IntKind.i64.wrap ((x0.Parts.length : Int) - 1))).bind fun t_3 => some (!t_3))
theorem G_defect_strange.calls (x0 : Config) (a1 : Int) (sv0 : SV) (w : World) {S : Nat → Prop} (hx0 : (kd_Config).cont S w x0 sv0) (r : Bool) (h : G_defect_strange x0 a1 = some r) :
    Calls Tryz.prog 220 #[.agg ((kd_Config).cells x0 sv0).toArray, .int .i64 a1] w fun e w' => e = .returned (.bool r) ∧ Below w.heap.size w w' := by
  replace hx0 := Kd.lo _ hx0
  unfold G_defect_strange at h
  have H0 := h
  clear h
  refine enter Tryz.func220 rfl [.agg ((kd_Config).cells x0 sv0).toArray, .int .i64 a1] (n := 12) rfl (Nat.le_of_ble_eq_true rfl) (fun a hI => ?_)
  have hF : FOpen Fence.wide := .inl rfl
  have hE := Ep.start w
  refine sr0_ hF hI (s_ [e_ 4 (.bool false), p_ 2 0 0, e_ 1 (.int .i64 a1)] [((((kd_Config).cells x0 sv0).map EV.v), 29)]) (by kernel_rfl) (fun ns_1 a w_2 hI => ?_)
  obtain ⟨t_3, hG_4, H0⟩ := bind_some H0
  refine sr_ (orc := [[.bool t_3]]) hF hI (s_ [e_ 4 (.bool (!t_3))] [((((kd_Config).cells x0 sv0).map EV.v), 29)]) [.call true 212 [.int .i64 a1, .int .i64 0, .int .i64 (IntKind.i64.wrap ((x0.Parts.length : Int) - 1))] (.bool t_3)] (by kernel_rfl) ⟨ob_call (enters Tryz.func212 (by kernel_rfl) rfl) (fun hg wz hk => G_defect_within.calls a1 0 (IntKind.i64.wrap ((x0.Parts.length : Int) - 1))  wz (S := fun _ => True)  _ hG_4), trivial⟩ (fun ns_5 a w_6 hI => ?_)
  refine wpIn_ret ?_
  obtain rfl := Option.some.inj H0
  exact ret1 hI rfl rfl ⟨rfl, hE.below hI⟩

noncomputable def G_defect_rules_6 (x0 : Config) (x1 : Chan) : Option (Bool) := ((G_defect_strange x0 x1.From).bind fun t_3 => ((cal (!t_3) (G_defect_strange x0 x1.To) default).bind fun t_5 => some (t_3 || t_5)))
theorem G_defect_rules_6.calls (x0 : Config) (x1 : Chan) (sv0 : SV) (sv1 : SV) (w : World) {S : Nat → Prop} (hx0 : (kd_Config).cont S w x0 sv0) (hx1 : (kd_Chan).cont S w x1 sv1) (r : Bool) (h : G_defect_rules_6 x0 x1 = some r) :
    Calls Tryz.prog 219 #[.agg ((kd_Config).cells x0 sv0).toArray, .agg ((kd_Chan).cells x1 sv1).toArray] w fun e w' => e = .returned (.bool r) ∧ Below w.heap.size w w' := by
  replace hx0 := Kd.lo _ hx0
  replace hx1 := Kd.lo _ hx1
  unfold G_defect_rules_6 at h
  have H0 := h
  clear h
  refine enter Tryz.func219 rfl [.agg ((kd_Config).cells x0 sv0).toArray, .agg ((kd_Chan).cells x1 sv1).toArray] (n := 15) rfl (Nat.le_of_ble_eq_true rfl) (fun a hI => ?_)
  have hF : FOpen Fence.wide := .inl rfl
  have hE := Ep.start w
  refine sr0_ hF hI (s_ [e_ 4 (.bool false), p_ 3 1 0, p_ 2 0 0] [((((kd_Config).cells x0 sv0).map EV.v), 29), ((((kd_Chan).cells x1 sv1).map EV.v), 86)]) (by kernel_rfl) (fun ns_1 a w_2 hI => ?_)
  obtain ⟨t_3, hG_4, H0⟩ := bind_some H0
  obtain ⟨t_5, hG_6, H0⟩ := bind_some H0
  refine sr_ (orc := [[.bool t_3], [.bool t_5]]) hF hI (s_ [e_ 4 (.bool (t_3 || t_5))] [((((kd_Config).cells x0 sv0).map EV.v), 29), ((((kd_Chan).cells x1 sv1).map EV.v), 86)]) [.call true 220 [.agg ((kd_Config).cells x0 sv0).toArray, .int .i64 x1.From] (.bool t_3), .call (!t_3) 220 [.agg ((kd_Config).cells x0 sv0).toArray, .int .i64 x1.To] (.bool t_5)] (by kernel_rfl) ⟨ob_call (enters Tryz.func220 (by kernel_rfl) rfl) (fun hg wz hk => G_defect_strange.calls x0 x1.From sv0 wz (S := fun _ => True) (Kd.any _ (Kd.keep kd_Config (contI (S := Lo S w w [] []) (w := w) (d := kd_Config) (x := x0) (sv := sv0) ⟨⟨hx0.1.1, hx0.1.2⟩, ⟨hx0.2.1.1, hx0.2.1.2⟩, ⟨hx0.2.2.1.1, hx0.2.2.1.2⟩, ⟨hx0.2.2.2.1.1, hx0.2.2.2.1.2⟩, trivial⟩) (Lo.on hk))) _ hG_4), ob_call (enters Tryz.func220 (by kernel_rfl) rfl) (fun hg wz hk => G_defect_strange.calls x0 x1.To sv0 wz (S := fun _ => True) (Kd.any _ (Kd.keep kd_Config (contI (S := Lo S w w [] []) (w := w) (d := kd_Config) (x := x0) (sv := sv0) ⟨⟨hx0.1.1, hx0.1.2⟩, ⟨hx0.2.1.1, hx0.2.1.2⟩, ⟨hx0.2.2.1.1, hx0.2.2.1.2⟩, ⟨hx0.2.2.2.1.1, hx0.2.2.2.1.2⟩, trivial⟩) (Lo.on hk))) _ (cal_some hG_6 hg)), trivial⟩ (fun ns_7 a w_8 hI => ?_)
  refine wpIn_ret ?_
  obtain rfl := Option.some.inj H0
  exact ret1 hI rfl rfl ⟨rfl, hE.below hI⟩

noncomputable def G_defect_rules_7 (x0 : Config) (x1 : Chan) : Option (Bool) := some (x1.From == x1.To)
theorem G_defect_rules_7.calls (x0 : Config) (x1 : Chan) (sv0 : SV) (sv1 : SV) (w : World) {S : Nat → Prop} (hx0 : (kd_Config).cont S w x0 sv0) (hx1 : (kd_Chan).cont S w x1 sv1) (r : Bool) (h : G_defect_rules_7 x0 x1 = some r) :
    Calls Tryz.prog 221 #[.agg ((kd_Config).cells x0 sv0).toArray, .agg ((kd_Chan).cells x1 sv1).toArray] w fun e w' => e = .returned (.bool r) ∧ Below w.heap.size w w' := by
  replace hx0 := Kd.lo _ hx0
  replace hx1 := Kd.lo _ hx1
  unfold G_defect_rules_7 at h
  have H0 := h
  clear h
  refine enter Tryz.func221 rfl [.agg ((kd_Config).cells x0 sv0).toArray, .agg ((kd_Chan).cells x1 sv1).toArray] (n := 10) rfl (Nat.le_of_ble_eq_true rfl) (fun a hI => ?_)
  have hF : FOpen Fence.wide := .inl rfl
  have hE := Ep.start w
  refine sr0_ hF hI (s_ [e_ 4 (.bool false), p_ 3 1 0] [((((kd_Config).cells x0 sv0).map EV.v), 29), ((((kd_Chan).cells x1 sv1).map EV.v), 86)]) (by kernel_rfl) (fun ns_1 a w_2 hI => ?_)
  refine sr0_ hF hI (s_ [e_ 4 (.bool (x1.From == x1.To))] [((((kd_Config).cells x0 sv0).map EV.v), 29), ((((kd_Chan).cells x1 sv1).map EV.v), 86)]) (by kernel_rfl) (fun ns_3 a w_4 hI => ?_)
  refine wpIn_ret ?_
  obtain rfl := Option.some.inj H0
  exact ret1 hI rfl rfl ⟨rfl, hE.below hI⟩

noncomputable def G_defect_rules_8 (x0 : Config) (x1 : Chan) : Option (Bool) := ((G_defect_within x1.Words 1 16).bind fun t_3 => some (!t_3))
theorem G_defect_rules_8.calls (x0 : Config) (x1 : Chan) (sv0 : SV) (sv1 : SV) (w : World) {S : Nat → Prop} (hx0 : (kd_Config).cont S w x0 sv0) (hx1 : (kd_Chan).cont S w x1 sv1) (r : Bool) (h : G_defect_rules_8 x0 x1 = some r) :
    Calls Tryz.prog 222 #[.agg ((kd_Config).cells x0 sv0).toArray, .agg ((kd_Chan).cells x1 sv1).toArray] w fun e w' => e = .returned (.bool r) ∧ Below w.heap.size w w' := by
  replace hx0 := Kd.lo _ hx0
  replace hx1 := Kd.lo _ hx1
  unfold G_defect_rules_8 at h
  have H0 := h
  clear h
  refine enter Tryz.func222 rfl [.agg ((kd_Config).cells x0 sv0).toArray, .agg ((kd_Chan).cells x1 sv1).toArray] (n := 9) rfl (Nat.le_of_ble_eq_true rfl) (fun a hI => ?_)
  have hF : FOpen Fence.wide := .inl rfl
  have hE := Ep.start w
  refine sr0_ hF hI (s_ [e_ 4 (.bool false), p_ 3 1 0] [((((kd_Config).cells x0 sv0).map EV.v), 29), ((((kd_Chan).cells x1 sv1).map EV.v), 86)]) (by kernel_rfl) (fun ns_1 a w_2 hI => ?_)
  obtain ⟨t_3, hG_4, H0⟩ := bind_some H0
  refine sr_ (orc := [[.bool t_3]]) hF hI (s_ [e_ 4 (.bool (!t_3))] [((((kd_Config).cells x0 sv0).map EV.v), 29), ((((kd_Chan).cells x1 sv1).map EV.v), 86)]) [.call true 212 [.int .i64 x1.Words, .int .i64 1, .int .i64 16] (.bool t_3)] (by kernel_rfl) ⟨ob_call (enters Tryz.func212 (by kernel_rfl) rfl) (fun hg wz hk => G_defect_within.calls x1.Words 1 16  wz (S := fun _ => True)  _ hG_4), trivial⟩ (fun ns_5 a w_6 hI => ?_)
  refine wpIn_ret ?_
  obtain rfl := Option.some.inj H0
  exact ret1 hI rfl rfl ⟨rfl, hE.below hI⟩

noncomputable def G_defect_deep (x0 : Chan) : Option (Bool) := (bif (x0.Kind == 1) then some (x0.Depth == 0) else (bif (x0.Kind == 2) then some ((((x0.Depth == 1) || (x0.Depth == 2)) || (x0.Depth == 4)) || (x0.Depth == 8)) else some true))
theorem G_defect_deep.calls (x0 : Chan) (sv0 : SV) (w : World) {S : Nat → Prop} (hx0 : (kd_Chan).cont S w x0 sv0) (r : Bool) (h : G_defect_deep x0 = some r) :
    Calls Tryz.prog 224 #[.agg ((kd_Chan).cells x0 sv0).toArray] w fun e w' => e = .returned (.bool r) ∧ Below w.heap.size w w' := by
  replace hx0 := Kd.lo _ hx0
  unfold G_defect_deep at h
  have H0 := h
  clear h
  refine enter Tryz.func224 rfl [.agg ((kd_Chan).cells x0 sv0).toArray] (n := 30) rfl (Nat.le_of_ble_eq_true rfl) (fun a hI => ?_)
  have hF : FOpen Fence.wide := .inl rfl
  have hE := Ep.start w
  refine sr0_ hF hI (s_ [e_ 2 (.bool false), p_ 1 0 0] [((((kd_Chan).cells x0 sv0).map EV.v), 86)]) (by kernel_rfl) (fun ns_1 a w_2 hI => ?_)
  refine wpIn_seq ?_
  refine sr0_ hF hI (s_ [e_ 4 (.int .i64 x0.Kind), e_ 2 (.bool false), p_ 1 0 0] [((((kd_Chan).cells x0 sv0).map EV.v), 86)]) (by kernel_rfl) (fun ns_3 a w_4 hI => ?_)
  refine wpIn_block ?_
  refine sr0_ hF hI (s_ [e_ 5 (.bool (x0.Kind == 1)), e_ 4 (.int .i64 x0.Kind), e_ 2 (.bool false), p_ 1 0 0] [((((kd_Chan).cells x0 sv0).map EV.v), 86)]) (by kernel_rfl) (fun ns_5 a w_6 hI => ?_)
  refine cond_ hI ((x0.Kind == 1)) rfl (fun hc_7 => ?_) (fun hc_7 => ?_)
  ·replace H0 := bif_t hc_7 H0
   refine sr0_ hF hI (s_ [e_ 2 (.bool (x0.Depth == 0))] [((((kd_Chan).cells x0 sv0).map EV.v), 86)]) (by kernel_rfl) (fun ns_8 a w_9 hI => ?_)
   refine wpIn_ret ?_
   refine inBlock_ret ?_
   refine then_ret ?_
   obtain rfl := Option.some.inj H0
   exact ret1 hI rfl rfl ⟨rfl, hE.below hI⟩
  ·replace H0 := bif_f hc_7 H0
   refine sr0_ hF hI (s_ [e_ 10 (.bool (x0.Kind == 2)), e_ 2 (.bool false), p_ 1 0 0] [((((kd_Chan).cells x0 sv0).map EV.v), 86)]) (by kernel_rfl) (fun ns_10 a w_11 hI => ?_)
   refine cond_ hI ((x0.Kind == 2)) rfl (fun hc_12 => ?_) (fun hc_12 => ?_)
   ·replace H0 := bif_t hc_12 H0
    refine sr0_ hF hI (s_ [e_ 2 (.bool ((((x0.Depth == 1) || (x0.Depth == 2)) || (x0.Depth == 4)) || (x0.Depth == 8)))] [((((kd_Chan).cells x0 sv0).map EV.v), 86)]) (by kernel_rfl) (fun ns_13 a w_14 hI => ?_)
    refine wpIn_ret ?_
    refine inBlock_ret ?_
    refine then_ret ?_
    obtain rfl := Option.some.inj H0
    exact ret1 hI rfl rfl ⟨rfl, hE.below hI⟩
   ·replace H0 := bif_f hc_12 H0
    refine wpIn_skip ?_
    refine inBlock_normal ?_
    refine then_normal ?_
    refine sr0_ hF hI (s_ [e_ 2 (.bool true)] [((((kd_Chan).cells x0 sv0).map EV.v), 86)]) (by kernel_rfl) (fun ns_15 a w_16 hI => ?_)
    refine wpIn_ret ?_
    obtain rfl := Option.some.inj H0
    exact ret1 hI rfl rfl ⟨rfl, hE.below hI⟩

noncomputable def G_defect_rules_9 (x0 : Config) (x1 : Chan) : Option (Bool) := ((G_defect_deep x1).bind fun t_3 => some (!t_3))
theorem G_defect_rules_9.calls (x0 : Config) (x1 : Chan) (sv0 : SV) (sv1 : SV) (w : World) {S : Nat → Prop} (hx0 : (kd_Config).cont S w x0 sv0) (hx1 : (kd_Chan).cont S w x1 sv1) (r : Bool) (h : G_defect_rules_9 x0 x1 = some r) :
    Calls Tryz.prog 223 #[.agg ((kd_Config).cells x0 sv0).toArray, .agg ((kd_Chan).cells x1 (svL [])).toArray] w fun e w' => e = .returned (.bool r) ∧ Below w.heap.size w w' := by
  replace hx0 := Kd.lo _ hx0
  replace hx1 := Kd.lo _ hx1
  unfold G_defect_rules_9 at h
  have H0 := h
  clear h
  refine enter Tryz.func223 rfl [.agg ((kd_Config).cells x0 sv0).toArray, .agg ((kd_Chan).cells x1 (svL [])).toArray] (n := 8) rfl (Nat.le_of_ble_eq_true rfl) (fun a hI => ?_)
  have hF : FOpen Fence.wide := .inl rfl
  have hE := Ep.start w
  refine sr0_ hF hI (s_ [e_ 4 (.bool false), p_ 3 1 0] [((((kd_Config).cells x0 sv0).map EV.v), 29), ((((kd_Chan).cells x1 sv1).map EV.v), 86)]) (by kernel_rfl) (fun ns_1 a w_2 hI => ?_)
  obtain ⟨t_3, hG_4, H0⟩ := bind_some H0
  refine sr_ (orc := [[.bool t_3]]) hF hI (s_ [e_ 4 (.bool (!t_3))] [((((kd_Config).cells x0 sv0).map EV.v), 29), ((((kd_Chan).cells x1 sv1).map EV.v), 86)]) [.call true 224 [.agg ((kd_Chan).cells x1 (svL [])).toArray] (.bool t_3)] (by kernel_rfl) ⟨ob_call (enters Tryz.func224 (by kernel_rfl) rfl) (fun hg wz hk => G_defect_deep.calls x1 (svL []) wz (S := fun _ => True) (Kd.any _ (Kd.keep kd_Chan (contI (S := Lo S w w [] []) (w := w) (d := kd_Chan) (x := x1) (sv := (svL [])) trivial) (Lo.on hk))) _ hG_4), trivial⟩ (fun ns_5 a w_6 hI => ?_)
  refine wpIn_ret ?_
  obtain rfl := Option.some.inj H0
  exact ret1 hI rfl rfl ⟨rfl, hE.below hI⟩

noncomputable def G_defect_fresh (x0 : Chan) : Option (Bool) := (bif (x0.Kind == 1) then ((G_defect_within x0.Period 0 1048576).bind fun t_8 => some t_8) else (bif (x0.Kind == 2) then some (x0.Period == 0) else some true))
theorem G_defect_fresh.calls (x0 : Chan) (sv0 : SV) (w : World) {S : Nat → Prop} (hx0 : (kd_Chan).cont S w x0 sv0) (r : Bool) (h : G_defect_fresh x0 = some r) :
    Calls Tryz.prog 226 #[.agg ((kd_Chan).cells x0 sv0).toArray] w fun e w' => e = .returned (.bool r) ∧ Below w.heap.size w w' := by
  replace hx0 := Kd.lo _ hx0
  unfold G_defect_fresh at h
  have H0 := h
  clear h
  refine enter Tryz.func226 rfl [.agg ((kd_Chan).cells x0 sv0).toArray] (n := 15) rfl (Nat.le_of_ble_eq_true rfl) (fun a hI => ?_)
  have hF : FOpen Fence.wide := .inl rfl
  have hE := Ep.start w
  refine sr0_ hF hI (s_ [e_ 2 (.bool false), p_ 1 0 0] [((((kd_Chan).cells x0 sv0).map EV.v), 86)]) (by kernel_rfl) (fun ns_1 a w_2 hI => ?_)
  refine wpIn_seq ?_
  refine sr0_ hF hI (s_ [e_ 4 (.int .i64 x0.Kind), e_ 2 (.bool false), p_ 1 0 0] [((((kd_Chan).cells x0 sv0).map EV.v), 86)]) (by kernel_rfl) (fun ns_3 a w_4 hI => ?_)
  refine wpIn_block ?_
  refine sr0_ hF hI (s_ [e_ 5 (.bool (x0.Kind == 1)), e_ 4 (.int .i64 x0.Kind), e_ 2 (.bool false), p_ 1 0 0] [((((kd_Chan).cells x0 sv0).map EV.v), 86)]) (by kernel_rfl) (fun ns_5 a w_6 hI => ?_)
  refine cond_ hI ((x0.Kind == 1)) rfl (fun hc_7 => ?_) (fun hc_7 => ?_)
  ·replace H0 := bif_t hc_7 H0
   obtain ⟨t_8, hG_9, H0⟩ := bind_some H0
   refine sr_ (orc := [[.bool t_8]]) hF hI (s_ [e_ 2 (.bool t_8)] [((((kd_Chan).cells x0 sv0).map EV.v), 86)]) [.call true 212 [.int .i64 x0.Period, .int .i64 0, .int .i64 1048576] (.bool t_8)] (by kernel_rfl) ⟨ob_call (enters Tryz.func212 (by kernel_rfl) rfl) (fun hg wz hk => G_defect_within.calls x0.Period 0 1048576  wz (S := fun _ => True)  _ hG_9), trivial⟩ (fun ns_10 a w_11 hI => ?_)
   refine wpIn_ret ?_
   refine inBlock_ret ?_
   refine then_ret ?_
   obtain rfl := Option.some.inj H0
   exact ret1 hI rfl rfl ⟨rfl, hE.below hI⟩
  ·replace H0 := bif_f hc_7 H0
   refine sr0_ hF hI (s_ [e_ 10 (.bool (x0.Kind == 2)), e_ 2 (.bool false), p_ 1 0 0] [((((kd_Chan).cells x0 sv0).map EV.v), 86)]) (by kernel_rfl) (fun ns_12 a w_13 hI => ?_)
   refine cond_ hI ((x0.Kind == 2)) rfl (fun hc_14 => ?_) (fun hc_14 => ?_)
   ·replace H0 := bif_t hc_14 H0
    refine sr0_ hF hI (s_ [e_ 2 (.bool (x0.Period == 0))] [((((kd_Chan).cells x0 sv0).map EV.v), 86)]) (by kernel_rfl) (fun ns_15 a w_16 hI => ?_)
    refine wpIn_ret ?_
    refine inBlock_ret ?_
    refine then_ret ?_
    obtain rfl := Option.some.inj H0
    exact ret1 hI rfl rfl ⟨rfl, hE.below hI⟩
   ·replace H0 := bif_f hc_14 H0
    refine wpIn_skip ?_
    refine inBlock_normal ?_
    refine then_normal ?_
    refine sr0_ hF hI (s_ [e_ 2 (.bool true)] [((((kd_Chan).cells x0 sv0).map EV.v), 86)]) (by kernel_rfl) (fun ns_17 a w_18 hI => ?_)
    refine wpIn_ret ?_
    obtain rfl := Option.some.inj H0
    exact ret1 hI rfl rfl ⟨rfl, hE.below hI⟩

noncomputable def G_defect_rules_10 (x0 : Config) (x1 : Chan) : Option (Bool) := ((G_defect_fresh x1).bind fun t_3 => some (!t_3))
theorem G_defect_rules_10.calls (x0 : Config) (x1 : Chan) (sv0 : SV) (sv1 : SV) (w : World) {S : Nat → Prop} (hx0 : (kd_Config).cont S w x0 sv0) (hx1 : (kd_Chan).cont S w x1 sv1) (r : Bool) (h : G_defect_rules_10 x0 x1 = some r) :
    Calls Tryz.prog 225 #[.agg ((kd_Config).cells x0 sv0).toArray, .agg ((kd_Chan).cells x1 (svL [])).toArray] w fun e w' => e = .returned (.bool r) ∧ Below w.heap.size w w' := by
  replace hx0 := Kd.lo _ hx0
  replace hx1 := Kd.lo _ hx1
  unfold G_defect_rules_10 at h
  have H0 := h
  clear h
  refine enter Tryz.func225 rfl [.agg ((kd_Config).cells x0 sv0).toArray, .agg ((kd_Chan).cells x1 (svL [])).toArray] (n := 8) rfl (Nat.le_of_ble_eq_true rfl) (fun a hI => ?_)
  have hF : FOpen Fence.wide := .inl rfl
  have hE := Ep.start w
  refine sr0_ hF hI (s_ [e_ 4 (.bool false), p_ 3 1 0] [((((kd_Config).cells x0 sv0).map EV.v), 29), ((((kd_Chan).cells x1 sv1).map EV.v), 86)]) (by kernel_rfl) (fun ns_1 a w_2 hI => ?_)
  obtain ⟨t_3, hG_4, H0⟩ := bind_some H0
  refine sr_ (orc := [[.bool t_3]]) hF hI (s_ [e_ 4 (.bool (!t_3))] [((((kd_Config).cells x0 sv0).map EV.v), 29), ((((kd_Chan).cells x1 sv1).map EV.v), 86)]) [.call true 226 [.agg ((kd_Chan).cells x1 (svL [])).toArray] (.bool t_3)] (by kernel_rfl) ⟨ob_call (enters Tryz.func226 (by kernel_rfl) rfl) (fun hg wz hk => G_defect_fresh.calls x1 (svL []) wz (S := fun _ => True) (Kd.any _ (Kd.keep kd_Chan (contI (S := Lo S w w [] []) (w := w) (d := kd_Chan) (x := x1) (sv := (svL [])) trivial) (Lo.on hk))) _ hG_4), trivial⟩ (fun ns_5 a w_6 hI => ?_)
  refine wpIn_ret ?_
  obtain rfl := Option.some.inj H0
  exact ret1 hI rfl rfl ⟨rfl, hE.below hI⟩

noncomputable def G_defect_rules_11 (x0 : Config) (x1 : Chan) : Option (Bool) := some ((x1.Kind == 1) && (x1.Boot != 0))
theorem G_defect_rules_11.calls (x0 : Config) (x1 : Chan) (sv0 : SV) (sv1 : SV) (w : World) {S : Nat → Prop} (hx0 : (kd_Config).cont S w x0 sv0) (hx1 : (kd_Chan).cont S w x1 sv1) (r : Bool) (h : G_defect_rules_11 x0 x1 = some r) :
    Calls Tryz.prog 227 #[.agg ((kd_Config).cells x0 sv0).toArray, .agg ((kd_Chan).cells x1 sv1).toArray] w fun e w' => e = .returned (.bool r) ∧ Below w.heap.size w w' := by
  replace hx0 := Kd.lo _ hx0
  replace hx1 := Kd.lo _ hx1
  unfold G_defect_rules_11 at h
  have H0 := h
  clear h
  refine enter Tryz.func227 rfl [.agg ((kd_Config).cells x0 sv0).toArray, .agg ((kd_Chan).cells x1 sv1).toArray] (n := 13) rfl (Nat.le_of_ble_eq_true rfl) (fun a hI => ?_)
  have hF : FOpen Fence.wide := .inl rfl
  have hE := Ep.start w
  refine sr0_ hF hI (s_ [e_ 4 (.bool false), p_ 3 1 0] [((((kd_Config).cells x0 sv0).map EV.v), 29), ((((kd_Chan).cells x1 sv1).map EV.v), 86)]) (by kernel_rfl) (fun ns_1 a w_2 hI => ?_)
  refine sr0_ hF hI (s_ [e_ 4 (.bool ((x1.Kind == 1) && (x1.Boot != 0)))] [((((kd_Config).cells x0 sv0).map EV.v), 29), ((((kd_Chan).cells x1 sv1).map EV.v), 86)]) (by kernel_rfl) (fun ns_3 a w_4 hI => ?_)
  refine wpIn_ret ?_
  obtain rfl := Option.some.inj H0
  exact ret1 hI rfl rfl ⟨rfl, hE.below hI⟩

noncomputable def Fn318.run (f : Fn318) (x0 : Config) (x1 : Chan) : Option (Bool) := match f with
  | .f218 => G_defect_rules_5 x0 x1
  | .f219 => G_defect_rules_6 x0 x1
  | .f221 => G_defect_rules_7 x0 x1
  | .f222 => G_defect_rules_8 x0 x1
  | .f223 => G_defect_rules_9 x0 x1
  | .f225 => G_defect_rules_10 x0 x1
  | .f227 => G_defect_rules_11 x0 x1
theorem Fn318.ent (f : Fn318) (args : Array Value) (w : World) : (callFunc (fid318 f) args).run Tryz.prog w = .ok (.enter (fid318 f) args) w := by
  cases f with
  | f218 => exact enters Tryz.func218 (by kernel_rfl) rfl args w
  | f219 => exact enters Tryz.func219 (by kernel_rfl) rfl args w
  | f221 => exact enters Tryz.func221 (by kernel_rfl) rfl args w
  | f222 => exact enters Tryz.func222 (by kernel_rfl) rfl args w
  | f223 => exact enters Tryz.func223 (by kernel_rfl) rfl args w
  | f225 => exact enters Tryz.func225 (by kernel_rfl) rfl args w
  | f227 => exact enters Tryz.func227 (by kernel_rfl) rfl args w
theorem Fn318.calls (f : Fn318) (x0 : Config) (x1 : Chan) (svf : SV) (sv0 : SV) (sv1 : SV) (w : World) {S : Nat → Prop} (hf : (kdF318).cont S w f svf) (hx0 : (kd_Config).cont S w x0 sv0) (hx1 : (kd_Chan).cont S w x1 sv1) (r : Bool) (h : Fn318.run f x0 x1 = some r) :
    Calls Tryz.prog (fid318 f) (([.agg ((kd_Config).cells x0 sv0).toArray, .agg ((kd_Chan).cells x1 sv1).toArray] : List Value) ++ (fca318 f svf).toList).toArray w fun e w' => e = .returned (.bool r) ∧ Below w.heap.size w w' := by
  cases f with
  | f218 => exact G_defect_rules_5.calls x0 x1  sv0 sv1  w hx0 hx1  r h
  | f219 => exact G_defect_rules_6.calls x0 x1  sv0 sv1  w hx0 hx1  r h
  | f221 => exact G_defect_rules_7.calls x0 x1  sv0 sv1  w hx0 hx1  r h
  | f222 => exact G_defect_rules_8.calls x0 x1  sv0 sv1  w hx0 hx1  r h
  | f223 => exact G_defect_rules_9.calls x0 x1  sv0 sv1  w hx0 hx1  r h
  | f225 => exact G_defect_rules_10.calls x0 x1  sv0 sv1  w hx0 hx1  r h
  | f227 => exact G_defect_rules_11.calls x0 x1  sv0 sv1  w hx0 hx1  r h

noncomputable def G_defect_channel_1_1 (x0 : Chan) (y1 : Fn318) (y2 : Config) : Option (Bool) := ((Fn318.run y1 y2 x0).bind fun t_3 => some t_3)
theorem G_defect_channel_1_1.calls (x0 : Chan) (y1 : Fn318) (y2 : Config) (sv0 : SV) (B1 : Addr) (sv1 : SV) (B2 : Addr) (sv2 : SV) (w : World) {S : Nat → Prop} (hx0 : (kd_Chan).cont S w x0 sv0) (hB1 : El kdF318 S w B1 y1 sv1) (hB2 : El kd_Config S w B2 y2 sv2) (r : Bool) (h : G_defect_channel_1_1 x0 y1 y2 = some r) :
    Calls Tryz.prog 245 #[.agg ((kd_Chan).cells x0 (svL [])).toArray, .pointer (some B1), .pointer (some B2)] w fun e w' => e = .returned (.bool r) ∧ Below w.heap.size w w' := by
  replace hx0 := Kd.lo _ hx0
  replace hB1 := El.lo hB1
  replace hB2 := El.lo hB2
  unfold G_defect_channel_1_1 at h
  have H0 := h
  clear h
  refine enter Tryz.func245 rfl [.agg ((kd_Chan).cells x0 (svL [])).toArray, .pointer (some B1), .pointer (some B2)] (n := 9) rfl (Nat.le_of_ble_eq_true rfl) (fun a hI => ?_)
  have hF : FOpen Fence.wide := .inl rfl
  have hE := Ep.start w
  refine sr0_ hF hI (s_ [e_ 4 (.bool false), p_ 3 0 0, e_ 1 (.pointer (some B1)), e_ 2 (.pointer (some B2))] [((((kd_Chan).cells x0 sv0).map EV.v), 86)]) (by kernel_rfl) (fun ns_1 a w_2 hI => ?_)
  obtain ⟨t_3, hG_4, H0⟩ := bind_some H0
  refine sr_ (orc := [[fnv318 y1 sv1], (kd_Config).cells y2 sv2, [.bool t_3]]) hF hI (s_ [e_ 4 (.bool t_3)] [((((kd_Chan).cells x0 sv0).map EV.v), 86)]) [.cell true B1 [fnv318 y1 sv1], .cell true B2 ((kd_Config).cells y2 sv2), .call true (fid318 y1) (([.agg ((kd_Config).cells y2 sv2).toArray, .agg ((kd_Chan).cells x0 (svL [])).toArray] : List Value) ++ (fca318 y1 sv1).toList) (.bool t_3)] (by kernel_rfl) ⟨ob_el (fun _ => hB1) 0 [fnv318 y1 sv1] rfl, ob_el (fun _ => hB2) 0 ((kd_Config).cells y2 sv2) rfl, ob_call (Fn318.ent y1) (fun hg wz hk => Fn318.calls y1 y2 x0 sv1 sv2 (svL []) wz (S := fun _ => True) (Kd.any _ (Kd.keep kdF318 (hB1).cont (Lo.on hk))) (Kd.any _ (Kd.keep kd_Config (contI (S := Lo S w w [] []) (w := w) (d := kd_Config) (x := y2) (sv := sv2) ⟨⟨(hB2).cont.1.1, (hB2).cont.1.2⟩, ⟨(hB2).cont.2.1.1, (hB2).cont.2.1.2⟩, ⟨(hB2).cont.2.2.1.1, (hB2).cont.2.2.1.2⟩, ⟨(hB2).cont.2.2.2.1.1, (hB2).cont.2.2.2.1.2⟩, trivial⟩) (Lo.on hk))) (Kd.any _ (Kd.keep kd_Chan (contI (S := Lo S w w [] []) (w := w) (d := kd_Chan) (x := x0) (sv := (svL [])) trivial) (Lo.on hk))) _ hG_4), trivial⟩ (fun ns_5 a w_6 hI => ?_)
  refine wpIn_ret ?_
  obtain rfl := Option.some.inj H0
  exact ret1 hI rfl rfl ⟨rfl, hE.below hI⟩

noncomputable def Fn319.run (f : Fn319) (x0 : Chan) : Option (Bool) := match f with
  | .f245 c0 c1 => G_defect_channel_1_1 x0 c0 c1
theorem Fn319.ent (f : Fn319) (args : Array Value) (w : World) : (callFunc (fid319 f) args).run Tryz.prog w = .ok (.enter (fid319 f) args) w := by
  cases f with
  | f245 _ _ => exact enters Tryz.func245 (by kernel_rfl) rfl args w
theorem Fn319.calls (f : Fn319) (x0 : Chan) (svf : SV) (sv0 : SV) (w : World) {S : Nat → Prop} (hf : (kdF319).cont S w f svf) (hx0 : (kd_Chan).cont S w x0 sv0) (r : Bool) (h : Fn319.run f x0 = some r) :
    Calls Tryz.prog (fid319 f) (([.agg ((kd_Chan).cells x0 sv0).toArray] : List Value) ++ (fca319 f svf).toList).toArray w fun e w' => e = .returned (.bool r) ∧ Below w.heap.size w w' := by
  cases f with
  | f245 c0 c1 => exact G_defect_channel_1_1.calls x0 c0 c1 sv0 (adr (svf 0).1) (svO svf 1) (adr (svf 1).1) (svO svf 2) w hx0 hf.1 hf.2 r h

noncomputable def G_api_Chan_256.b1 (l0 : (List Chan)) (x1 : Fn319) (s1 : Int × Int) : Option (Stp (Int × Int) (Ex (Int × Int) (Int))) := (bif decide (s1.1 < (l0.length : Int)) then (req (inb s1.1 l0.length) ((Fn319.run x1 (rd l0 s1.1)).bind fun t_16 => (bif t_16 then some (.out (.ret s1.1)) else some (.next ((IntKind.i64.wrap (s1.1 + 1)), s1.2))))) else some (.out (.brk (s1.1, s1.2))))
noncomputable def G_api_Chan_256 (l0 : (List Chan)) (x1 : Fn319) : Option (Int) := ((loopω (G_api_Chan_256.b1 l0 x1) (0, 0)).bind fun o => o.on (fun s1 => some (-1)) (fun r => some r))
theorem G_api_Chan_256.calls (l0 : (List Chan)) (x1 : Fn319) (A0 : Option Addr) (c0 : Nat) (sv1 : SV) (w : World) {S : Nat → Prop} (hr0 : Arr kd_Chan S w A0 l0) (hc0 : l0.length ≤ c0) (hx1 : (kdF319).cont S w x1 sv1) (r : Int) (h : G_api_Chan_256 l0 x1 = some r) :
    Calls Tryz.prog 256 #[.slice A0 l0.length c0, fnv319 x1 sv1] w fun e w' => e = .returned (.int .i64 r) ∧ Below w.heap.size w w' := by
  replace hr0 := Arr.lo hr0
  replace hx1 := Kd.lo _ hx1
  unfold G_api_Chan_256 at h
  have H0 := h
  clear h
  refine enter Tryz.func256 rfl [.slice A0 l0.length c0, fnv319 x1 sv1] (n := 19) rfl (Nat.le_of_ble_eq_true rfl) (fun a hI => ?_)
  have hF : FOpen Fence.wide := .inl rfl
  have hE := Ep.start w
  refine sr0_ hF hI (s_ [e_ 4 (.int .i64 0), e_ 0 (.slice A0 l0.length c0), e_ 1 (fnv319 x1 sv1)] []) (by kernel_rfl) (fun ns_1 a w_2 hI => ?_)
  refine wpIn_seq ?_
  refine sr0_ hF hI (s_ [e_ 8 (.int .i64 0), e_ 7 (.int .i64 (l0.length : Int)), e_ 4 (.int .i64 0), e_ 0 (.slice A0 l0.length c0), e_ 1 (fnv319 x1 sv1)] []) (by kernel_rfl) (fun ns_3 a w_4 hI => ?_)
  obtain ⟨o_25, hL_26, H0⟩ := bind_some H0
  refine block_loop (fun (s1 : Int × Int) a w_31 => ∃ ns, St w [] 19 (s_ [e_ 8 (.int .i64 s1.1), e_ 7 (.int .i64 (l0.length : Int)), e_ 4 (.int .i64 s1.2), e_ 0 (.slice A0 l0.length c0), e_ 1 (fnv319 x1 sv1)] []) ns a w_31) (0, 0) hL_26 ⟨_, hI.pick [8, 7, 4, 0, 1] 0 (s_ [e_ 8 (.int .i64 0), e_ 7 (.int .i64 (l0.length : Int)), e_ 4 (.int .i64 0), e_ 0 (.slice A0 l0.length c0), e_ 1 (fnv319 x1 sv1)] []) (by kernel_rfl)⟩ ?_ ?_
  ·clear hI
   rintro s1 a w_5 ⟨ns_6, hI⟩ r1 H1
   unfold G_api_Chan_256.b1 at H1
   refine sr0_ hF hI (s_ [e_ 9 (.bool (decide (s1.1 < (l0.length : Int)))), e_ 8 (.int .i64 s1.1), e_ 7 (.int .i64 (l0.length : Int)), e_ 4 (.int .i64 s1.2), e_ 0 (.slice A0 l0.length c0), e_ 1 (fnv319 x1 sv1)] []) (by kernel_rfl) (fun ns_7 a w_8 hI => ?_)
   refine wpIn_seq ?_
   refine cond_ hI (decide (s1.1 < (l0.length : Int))) rfl (fun hc_9 => ?_) (fun hc_9 => ?_)
   ·replace H1 := bif_t hc_9 H1
    refine wpIn_skip ?_
    refine then_normal ?_
    refine wpIn_seq ?_
    refine wpIn_block ?_
    refine sr0_ hF hI (s_ [e_ 5 (.int .i64 s1.1), e_ 8 (.int .i64 s1.1), e_ 7 (.int .i64 (l0.length : Int)), e_ 4 (.int .i64 s1.2), e_ 0 (.slice A0 l0.length c0), e_ 1 (fnv319 x1 sv1)] []) (by kernel_rfl) (fun ns_10 a w_11 hI => ?_)
    obtain ⟨hN_12, H1⟩ := req_some H1
    obtain ⟨sv_13, hE_15, hA_14⟩ := Arr.elB (d := kd_Chan) hr0 s1.1 true (fun _ => hN_12)
    replace hE_15 := hE_15 rfl
    replace hA_14 := fun (_ : true = true) => hA_14 rfl
    obtain ⟨t_16, hG_17, H1⟩ := bind_some H1
    refine sr_ (orc := [(kd_Chan).cells (rd l0 s1.1) sv_13, [.bool t_16]]) hF hI (s_ [e_ 16 (.bool t_16), e_ 5 (.int .i64 s1.1), e_ 8 (.int .i64 s1.1), e_ 7 (.int .i64 (l0.length : Int)), e_ 4 (.int .i64 s1.2), e_ 0 (.slice A0 l0.length c0), e_ 1 (fnv319 x1 sv1)] []) [.need true ((0 : Int) ≤ s1.1 ∧ s1.1 < (l0.length : Int)), .need true (A0 = some (adr A0)), .cell true ((adr A0).add ((s1.1 : Int).toNat * 7)) ((kd_Chan).cells (rd l0 s1.1) sv_13), .call true (fid319 x1) (([.agg ((kd_Chan).cells (rd l0 s1.1) (svL [])).toArray] : List Value) ++ (fca319 x1 sv1).toList) (.bool t_16)] (by kernel_rfl) ⟨ob_inb (fun _ => hN_12), hA_14, ob_el (fun _ => hE_15) 0 ((kd_Chan).cells (rd l0 s1.1) sv_13) rfl, ob_call (Fn319.ent x1) (fun hg wz hk => Fn319.calls x1 (rd l0 s1.1) sv1 (svL []) wz (S := fun _ => True) (Kd.any _ (Kd.keep kdF319 hx1 (Lo.on hk))) (Kd.any _ (Kd.keep kd_Chan (contI (S := Lo S w w [] []) (w := w) (d := kd_Chan) (x := (rd l0 s1.1)) (sv := (svL [])) trivial) (Lo.on hk))) _ hG_17), trivial⟩ (fun ns_18 a w_19 hI => ?_)
    refine cond_ hI (t_16) rfl (fun hc_20 => ?_) (fun hc_20 => ?_)
    ·replace H1 := bif_t hc_20 H1
     refine sr0_ hF hI (s_ [e_ 4 (.int .i64 s1.1)] []) (by kernel_rfl) (fun ns_21 a w_22 hI => ?_)
     refine wpIn_ret ?_
     refine inBlock_ret ?_
     refine then_ret ?_
     refine then_ret ?_
     obtain rfl := Option.some.inj H1
     refine .inr ⟨_, rfl, fun ho => ?_⟩
     subst ho
     refine inBlock_ret ?_
     refine then_ret ?_
     obtain rfl := Option.some.inj H0
     exact ret1 hI rfl rfl ⟨rfl, hE.below hI⟩
    ·replace H1 := bif_f hc_20 H1
     refine wpIn_skip ?_
     refine inBlock_normal ?_
     refine then_normal ?_
     refine rg0_ hF hI (s_ [e_ 8 (.int .i64 (IntKind.i64.wrap (s1.1 + 1))), e_ 7 (.int .i64 (l0.length : Int)), e_ 4 (.int .i64 s1.2), e_ 0 (.slice A0 l0.length c0), e_ 1 (fnv319 x1 sv1)] []) (by kernel_rfl) (fun ns_23 a w_24 hI => ?_)
     refine then_normal ?_
     obtain rfl := Option.some.inj H1
     exact ⟨_, rfl, ⟨_, hI.pick [8, 7, 4, 0, 1] 0 (s_ [e_ 8 (.int .i64 (IntKind.i64.wrap (s1.1 + 1))), e_ 7 (.int .i64 (l0.length : Int)), e_ 4 (.int .i64 s1.2), e_ 0 (.slice A0 l0.length c0), e_ 1 (fnv319 x1 sv1)] []) (by kernel_rfl)⟩⟩
   ·replace H1 := bif_f hc_9 H1
    refine wpIn_exit ?_
    refine then_exit ?_
    refine then_exit ?_
    obtain rfl := Option.some.inj H1
    exact .inl ⟨_, rfl, rfl, ⟨_, hI.pick [8, 7, 4, 0, 1] 0 (s_ [e_ 8 (.int .i64 s1.1), e_ 7 (.int .i64 (l0.length : Int)), e_ 4 (.int .i64 s1.2), e_ 0 (.slice A0 l0.length c0), e_ 1 (fnv319 x1 sv1)] []) (by kernel_rfl)⟩⟩
  ·clear hI
   rintro s1 a w_27 ho ⟨ns_28, hI⟩
   subst ho
   replace H0 : (some (-1) : Option (Int)) = _ := H0
   refine then_normal ?_
   refine sr0_ hF hI (s_ [e_ 4 (.int .i64 (-1))] []) (by kernel_rfl) (fun ns_29 a w_30 hI => ?_)
   refine wpIn_ret ?_
   obtain rfl := Option.some.inj H0
   exact ret1 hI rfl rfl ⟨rfl, hE.below hI⟩

noncomputable def G_api_Chan_244 (l0 : (List Chan)) (x1 : Fn319) : Option (Bool) := ((G_api_Chan_256 l0 x1).bind fun t_3 => some (decide (t_3 ≥ 0)))
theorem G_api_Chan_244.calls (l0 : (List Chan)) (x1 : Fn319) (A0 : Option Addr) (c0 : Nat) (sv1 : SV) (w : World) {S : Nat → Prop} (hr0 : Arr kd_Chan S w A0 l0) (hc0 : l0.length ≤ c0) (hx1 : (kdF319).cont S w x1 sv1) (r : Bool) (h : G_api_Chan_244 l0 x1 = some r) :
    Calls Tryz.prog 244 #[.slice A0 l0.length c0, fnv319 x1 sv1] w fun e w' => e = .returned (.bool r) ∧ Below w.heap.size w w' := by
  replace hr0 := Arr.lo hr0
  replace hx1 := Kd.lo _ hx1
  unfold G_api_Chan_244 at h
  have H0 := h
  clear h
  refine enter Tryz.func244 rfl [.slice A0 l0.length c0, fnv319 x1 sv1] (n := 9) rfl (Nat.le_of_ble_eq_true rfl) (fun a hI => ?_)
  have hF : FOpen Fence.wide := .inl rfl
  have hE := Ep.start w
  refine sr0_ hF hI (s_ [e_ 4 (.bool false), e_ 0 (.slice A0 l0.length c0), e_ 1 (fnv319 x1 sv1)] []) (by kernel_rfl) (fun ns_1 a w_2 hI => ?_)
  obtain ⟨t_3, hG_4, H0⟩ := bind_some H0
  refine sr_ (orc := [[.int .i64 t_3]]) hF hI (s_ [e_ 4 (.bool (decide (t_3 ≥ 0)))] []) [.call true 256 [.slice A0 l0.length c0, fnv319 x1 sv1] (.int .i64 t_3)] (by kernel_rfl) ⟨ob_call (enters Tryz.func256 (by kernel_rfl) rfl) (fun hg wz hk => G_api_Chan_256.calls l0 x1 A0 c0 sv1 wz (S := fun _ => True) (Arr.any (Arr.keep hr0 (Lo.on hk))) hc0 (Kd.any _ (Kd.keep kdF319 (contI (S := Lo S w w [] []) (w := w) (d := kdF319) (x := x1) (sv := sv1) hx1) (Lo.on hk))) _ hG_4), trivial⟩ (fun ns_5 a w_6 hI => ?_)
  refine wpIn_ret ?_
  obtain rfl := Option.some.inj H0
  exact ret1 hI rfl rfl ⟨rfl, hE.below hI⟩

noncomputable def G_defect_channel_1 (x0 : Config) (y1 : Fn318) : Option (Bool) := ((G_api_Chan_244 x0.Chans (Fn319.f245 y1 x0)).bind fun t_11 => some t_11)
theorem G_defect_channel_1.calls (x0 : Config) (y1 : Fn318) (sv0 : SV) (B1 : Addr) (sv1 : SV) (w : World) {S : Nat → Prop} (hx0 : (kd_Config).cont S w x0 sv0) (hB1 : El kdF318 S w B1 y1 sv1) (r : Bool) (h : G_defect_channel_1 x0 y1 = some r) :
    Calls Tryz.prog 243 #[.agg ((kd_Config).cells x0 sv0).toArray, .pointer (some B1)] w fun e w' => e = .returned (.bool r) ∧ Below w.heap.size w w' := by
  replace hx0 := Kd.lo _ hx0
  replace hB1 := El.lo hB1
  unfold G_defect_channel_1 at h
  have H0 := h
  clear h
  refine enter Tryz.func243 rfl [.agg ((kd_Config).cells x0 sv0).toArray, .pointer (some B1)] (n := 8) rfl (Nat.le_of_ble_eq_true rfl) (fun a hI => ?_)
  have hF : FOpen Fence.wide := .inl rfl
  have hE := Ep.start w
  refine sr0_ hF hI (s_ [e_ 3 (.bool false), p_ 2 0 0, e_ 1 (.pointer (some B1))] [((((kd_Config).cells x0 sv0).map EV.v), 29)]) (by kernel_rfl) (fun ns_1 a w_2 hI => ?_)
  refine wpIn_seq ?_
  refine wpIn_region_lit ?_
  refine ck0_ hF 2 hI (s_ [e_ 5 (.slice ((sv0 1).1) x0.Chans.length ((sv0 1).2)), e_ 3 (.bool false), p_ 2 0 0, e_ 1 (.pointer (some B1))] [((((kd_Config).cells x0 sv0).map EV.v), 29)]) rfl (by kernel_rfl) (fun ns_3 a w_4 hI => ?_)
  obtain ⟨hE', hmv, hmr⟩ := Ep.rebase hE hI
  replace hx0 := Kd.keep _ hx0 (hmv _)
  replace hB1 := El.keep hB1 (hmv _)
  replace hE := hE'; replace hI := hI.rebase; clear hE' hmv hmr
  have hct := contI (S := Lo S w w_4 ns_3 []) (w := w_4) (d := kd_Config) (x := x0) (sv := sv0) ⟨⟨hx0.1.1, hx0.1.2⟩, ⟨hx0.2.1.1, hx0.2.1.2⟩, ⟨hx0.2.2.1.1, hx0.2.2.1.2⟩, ⟨hx0.2.2.2.1.1, hx0.2.2.2.1.2⟩, trivial⟩
  obtain ⟨B_5, ns_7, hE', hI', hmv, hB_6⟩ := freeze_ (d := kd_Config) hE hI 0 x0 sv0 29 rfl
  replace hB_6 := hB_6 _ hct
  clear hct
  have hmr := hmr_ ([] : List (List Nat)) w_4
  replace hx0 := Kd.keep _ hx0 (hmv _)
  replace hB1 := El.keep hB1 (hmv _)
  replace hE := hE'; replace hI := hI'; clear hE' hI' hmv hmr
  obtain ⟨ns_8, hE', hI', hmv⟩ := hE.cut hI [5, 3, 2, 1] 0 (s_ [e_ 5 (.slice ((sv0 1).1) x0.Chans.length ((sv0 1).2)), e_ 3 (.bool false), e_ 2 (.pointer (some B_5)), e_ 1 (.pointer (some B1))] []) (by kernel_rfl)
  have hmr := hmr_ ([] : List (List Nat)) w_4
  replace hx0 := Kd.keep _ hx0 (hmv _)
  replace hB1 := El.keep hB1 (hmv _)
  replace hB_6 := El.keep hB_6 (hmv _)
  replace hE := hE'; replace hI := hI'; clear hE' hI' hmv hmr
  refine ck0_ hF 1 hI (s_ [e_ 6 (.func (.func 245) #[] #[.pointer (some B1), .pointer (some B_5)]), e_ 5 (.slice ((sv0 1).1) x0.Chans.length ((sv0 1).2)), e_ 3 (.bool false), e_ 2 (.pointer (some B_5)), e_ 1 (.pointer (some B1))] []) rfl (by kernel_rfl) (fun ns_9 a w_10 hI => ?_)
  obtain ⟨t_11, hG_12, H0⟩ := bind_some H0
  refine ck_ (orc := [[.bool t_11]]) hF 2 hI (s_ [e_ 3 (.bool t_11)] []) [.call true 244 [.slice ((sv0 1).1) x0.Chans.length ((sv0 1).2), .func (.func 245) #[] #[.pointer (some B1), .pointer (some B_5)]] (.bool t_11)] rfl (by kernel_rfl) ⟨ob_call (enters Tryz.func244 (by kernel_rfl) rfl) (fun hg wz hk => G_api_Chan_244.calls x0.Chans (Fn319.f245 y1 x0) ((sv0 1).1) ((sv0 1).2) (svL [(some B1, 0), (some B_5, 0), (sv0 0), (sv0 1), (sv0 2), (sv0 3)]) wz (S := fun _ => True) (Arr.any (Arr.keep hx0.2.1.1 (Lo.on hk))) hx0.2.1.2 (Kd.any _ (Kd.keep kdF319 (contI (S := Lo S w w_4 ns_8 []) (w := w_4) (d := kdF319) (x := (Fn319.f245 y1 x0)) (sv := (svL [(some B1, 0), (some B_5, 0), (sv0 0), (sv0 1), (sv0 2), (sv0 3)])) ⟨⟨hB1.cont, hB1.at_, hB1.cells⟩, ⟨hB_6.cont, hB_6.at_, hB_6.cells⟩⟩) (Lo.on hk))) _ hG_12), trivial⟩ (fun ns_13 a w_14 hI => ?_)
  refine wpListIn_nil ?_
  refine then_normal ?_
  refine wpIn_ret ?_
  obtain rfl := Option.some.inj H0
  exact ret1 hI rfl rfl ⟨rfl, hE.below hI⟩

noncomputable def G_defect_foreign (x0 : Config) (a1 : Int) (x2 : Window) : Option (Bool) := ((G_defect_strange x0 x2.Part).bind fun t_3 => (req (imp (!t_3) (inb x2.Part x0.Parts.length)) (some (t_3 || (((rd x0.Parts x2.Part).Core) != a1)))))
theorem G_defect_foreign.calls (x0 : Config) (a1 : Int) (x2 : Window) (sv0 : SV) (sv2 : SV) (w : World) {S : Nat → Prop} (hx0 : (kd_Config).cont S w x0 sv0) (hx2 : (kd_Window).cont S w x2 sv2) (r : Bool) (h : G_defect_foreign x0 a1 x2 = some r) :
    Calls Tryz.prog 232 #[.agg ((kd_Config).cells x0 sv0).toArray, .int .i64 a1, .agg ((kd_Window).cells x2 sv2).toArray] w fun e w' => e = .returned (.bool r) ∧ Below w.heap.size w w' := by
  replace hx0 := Kd.lo _ hx0
  replace hx2 := Kd.lo _ hx2
  unfold G_defect_foreign at h
  have H0 := h
  clear h
  refine enter Tryz.func232 rfl [.agg ((kd_Config).cells x0 sv0).toArray, .int .i64 a1, .agg ((kd_Window).cells x2 sv2).toArray] (n := 22) rfl (Nat.le_of_ble_eq_true rfl) (fun a hI => ?_)
  have hF : FOpen Fence.wide := .inl rfl
  have hE := Ep.start w
  refine sr0_ hF hI (s_ [e_ 6 (.bool false), p_ 5 1 0, p_ 3 0 0, e_ 1 (.int .i64 a1)] [((((kd_Config).cells x0 sv0).map EV.v), 29), ((((kd_Window).cells x2 sv2).map EV.v), 157)]) (by kernel_rfl) (fun ns_1 a w_2 hI => ?_)
  obtain ⟨t_3, hG_4, H0⟩ := bind_some H0
  obtain ⟨hN_5, H0⟩ := req_some H0
  obtain ⟨sv_6, hE_8, hA_7⟩ := Arr.elB (d := kd_Part) hx0.1.1 x2.Part (!t_3) (fun hg => imp_spec hN_5 hg)
  refine sr_ (orc := [[.bool t_3], [.int .i64 ((rd x0.Parts x2.Part).Core)]]) hF hI (s_ [e_ 6 (.bool (t_3 || (((rd x0.Parts x2.Part).Core) != a1)))] [((((kd_Config).cells x0 sv0).map EV.v), 29), ((((kd_Window).cells x2 sv2).map EV.v), 157)]) [.call true 220 [.agg ((kd_Config).cells x0 sv0).toArray, .int .i64 x2.Part] (.bool t_3), .need (!t_3) ((0 : Int) ≤ x2.Part ∧ x2.Part < (x0.Parts.length : Int)), .need (!t_3) ((sv0 0).1 = some (adr ((sv0 0).1))), .cell (!t_3) ((adr ((sv0 0).1)).add ((x2.Part : Int).toNat * 2)) [.int .i64 ((rd x0.Parts x2.Part).Core)]] (by kernel_rfl) ⟨ob_call (enters Tryz.func220 (by kernel_rfl) rfl) (fun hg wz hk => G_defect_strange.calls x0 x2.Part sv0 wz (S := fun _ => True) (Kd.any _ (Kd.keep kd_Config (contI (S := Lo S w w [] []) (w := w) (d := kd_Config) (x := x0) (sv := sv0) ⟨⟨hx0.1.1, hx0.1.2⟩, ⟨hx0.2.1.1, hx0.2.1.2⟩, ⟨hx0.2.2.1.1, hx0.2.2.1.2⟩, ⟨hx0.2.2.2.1.1, hx0.2.2.2.1.2⟩, trivial⟩) (Lo.on hk))) _ hG_4), ob_inb (fun hg => imp_spec hN_5 hg), hA_7, ob_el (fun hg => hE_8 hg) 0 [.int .i64 ((rd x0.Parts x2.Part).Core)] rfl, trivial⟩ (fun ns_9 a w_10 hI => ?_)
  refine wpIn_ret ?_
  obtain rfl := Option.some.inj H0
  exact ret1 hI rfl rfl ⟨rfl, hE.below hI⟩

noncomputable def G_defect_beyond (x0 : Window) (a1 : Int) : Option (Bool) := some (decide (x0.Start > a1) || decide (x0.Len > (IntKind.i64.wrap (a1 - x0.Start))))
theorem G_defect_beyond.calls (x0 : Window) (a1 : Int) (sv0 : SV) (w : World) {S : Nat → Prop} (hx0 : (kd_Window).cont S w x0 sv0) (r : Bool) (h : G_defect_beyond x0 a1 = some r) :
    Calls Tryz.prog 250 #[.agg ((kd_Window).cells x0 sv0).toArray, .int .i64 a1] w fun e w' => e = .returned (.bool r) ∧ Below w.heap.size w w' := by
  replace hx0 := Kd.lo _ hx0
  unfold G_defect_beyond at h
  have H0 := h
  clear h
  refine enter Tryz.func250 rfl [.agg ((kd_Window).cells x0 sv0).toArray, .int .i64 a1] (n := 18) rfl (Nat.le_of_ble_eq_true rfl) (fun a hI => ?_)
  have hF : FOpen Fence.wide := .inl rfl
  have hE := Ep.start w
  refine sr0_ hF hI (s_ [e_ 4 (.bool false), p_ 2 0 0, e_ 1 (.int .i64 a1)] [((((kd_Window).cells x0 sv0).map EV.v), 157)]) (by kernel_rfl) (fun ns_1 a w_2 hI => ?_)
  refine sr0_ hF hI (s_ [e_ 4 (.bool (decide (x0.Start > a1) || decide (x0.Len > (IntKind.i64.wrap (a1 - x0.Start)))))] [((((kd_Window).cells x0 sv0).map EV.v), 157)]) (by kernel_rfl) (fun ns_3 a w_4 hI => ?_)
  refine wpIn_ret ?_
  obtain rfl := Option.some.inj H0
  exact ret1 hI rfl rfl ⟨rfl, hE.below hI⟩

noncomputable def G_defect_outside (x0 : Config) (a1 : Int) (x2 : Window) : Option (Bool) := (req (imp (!(decide (x2.Start < 0) || decide (x2.Len < 1))) (inb a1 2)) ((cal (!(decide (x2.Start < 0) || decide (x2.Len < 1))) (G_defect_beyond x2 ((rdA_St27 x0.Frames a1).Length)) default).bind fun t_10 => some ((decide (x2.Start < 0) || decide (x2.Len < 1)) || t_10)))
theorem G_defect_outside.calls (x0 : Config) (a1 : Int) (x2 : Window) (sv0 : SV) (sv2 : SV) (w : World) {S : Nat → Prop} (hx0 : (kd_Config).cont S w x0 sv0) (hx2 : (kd_Window).cont S w x2 sv2) (r : Bool) (h : G_defect_outside x0 a1 x2 = some r) :
    Calls Tryz.prog 233 #[.agg ((kd_Config).cells x0 sv0).toArray, .int .i64 a1, .agg ((kd_Window).cells x2 (svL [])).toArray] w fun e w' => e = .returned (.bool r) ∧ Below w.heap.size w w' := by
  replace hx0 := Kd.lo _ hx0
  replace hx2 := Kd.lo _ hx2
  unfold G_defect_outside at h
  have H0 := h
  clear h
  refine enter Tryz.func233 rfl [.agg ((kd_Config).cells x0 sv0).toArray, .int .i64 a1, .agg ((kd_Window).cells x2 (svL [])).toArray] (n := 24) rfl (Nat.le_of_ble_eq_true rfl) (fun a hI => ?_)
  have hF : FOpen Fence.wide := .inl rfl
  have hE := Ep.start w
  refine sr0_ hF hI (s_ [e_ 6 (.bool false), p_ 5 1 0, p_ 3 0 0, e_ 1 (.int .i64 a1)] [((((kd_Config).cells x0 sv0).map EV.v), 29), ((((kd_Window).cells x2 sv2).map EV.v), 157)]) (by kernel_rfl) (fun ns_1 a w_2 hI => ?_)
  refine wpIn_seq ?_
  obtain ⟨hE', hmv, hmr⟩ := Ep.rebase hE hI
  replace hx0 := Kd.keep _ hx0 (hmv _)
  replace hx2 := Kd.keep _ hx2 (hmv _)
  replace hE := hE'; replace hI := hI.rebase; clear hE' hmv hmr
  have hct := contI (S := Lo S w w_2 ns_1 []) (w := w_2) (d := kd_Config) (x := x0) (sv := sv0) ⟨⟨hx0.1.1, hx0.1.2⟩, ⟨hx0.2.1.1, hx0.2.1.2⟩, ⟨hx0.2.2.1.1, hx0.2.2.1.2⟩, ⟨hx0.2.2.2.1.1, hx0.2.2.2.1.2⟩, trivial⟩
  obtain ⟨B_3, ns_5, hE', hI', hmv, hB_4⟩ := freeze_ (d := kd_Config) hE hI 0 x0 sv0 29 rfl
  replace hB_4 := hB_4 _ hct
  clear hct
  have hmr := hmr_ ([] : List (List Nat)) w_2
  replace hx0 := Kd.keep _ hx0 (hmv _)
  replace hx2 := Kd.keep _ hx2 (hmv _)
  replace hE := hE'; replace hI := hI'; clear hE' hI' hmv hmr
  obtain ⟨ns_6, hE', hI', hmv⟩ := hE.cut hI [6, 5, 3, 1] 1 (s_ [e_ 6 (.bool false), p_ 5 0 0, e_ 3 (.pointer (some B_3)), e_ 1 (.int .i64 a1)] [((((kd_Window).cells x2 sv2).map EV.v), 157)]) (by kernel_rfl)
  have hmr := hmr_ ([] : List (List Nat)) w_2
  replace hx0 := Kd.keep _ hx0 (hmv _)
  replace hx2 := Kd.keep _ hx2 (hmv _)
  replace hB_4 := El.keep hB_4 (hmv _)
  replace hE := hE'; replace hI := hI'; clear hE' hI' hmv hmr
  obtain ⟨hN_7, H0⟩ := req_some H0
  have hE_9 := fun (hg : (!(decide (x2.Start < 0) || decide (x2.Len < 1))) = true) => elA_St27 (El.part (e := kd_St27) hB_4 2 x0.Frames (svO sv0 2) ⟨(hB_4).cont.2.2.1, (hB_4).cont.2.2.2.1, trivial⟩ rfl) (imp_spec hN_7 hg)
  obtain ⟨t_10, hG_11, H0⟩ := bind_some H0
  refine drawn_ (live := [6]) (orc := [[.int .i64 ((rdA_St27 x0.Frames a1).Length)], [.bool t_10]]) hF hI (s_ [e_ 6 (.bool ((decide (x2.Start < 0) || decide (x2.Len < 1)) || t_10))] [((((kd_Window).cells x2 sv2).map EV.v), 157)]) [.need (!(decide (x2.Start < 0) || decide (x2.Len < 1))) ((0 : Int) ≤ a1 ∧ a1 < ((2 : Nat) : Int)), .cell (!(decide (x2.Start < 0) || decide (x2.Len < 1))) ((B_3.add 2).add ((a1 : Int).toNat * 2)) [.int .i64 ((rdA_St27 x0.Frames a1).Length)], .call (!(decide (x2.Start < 0) || decide (x2.Len < 1))) 250 [.agg ((kd_Window).cells x2 (svL [])).toArray, .int .i64 ((rdA_St27 x0.Frames a1).Length)] (.bool t_10)] (by kernel_rfl) (by kernel_rfl) (by kernel_rfl) ⟨ob_inb (fun hg => imp_spec hN_7 hg), ob_el (fun hg => hE_9 hg) 0 [.int .i64 ((rdA_St27 x0.Frames a1).Length)] rfl, ob_call (enters Tryz.func250 (by kernel_rfl) rfl) (fun hg wz hk => G_defect_beyond.calls x2 ((rdA_St27 x0.Frames a1).Length) (svL []) wz (S := fun _ => True) (Kd.any _ (Kd.keep kd_Window (contI (S := Lo S w w_2 ns_6 []) (w := w_2) (d := kd_Window) (x := x2) (sv := (svL [])) trivial) (Lo.on hk))) _ (cal_some hG_11 hg)), trivial⟩ (fun a w_12 hI => ?_)
  refine then_normal ?_
  refine wpIn_ret ?_
  obtain rfl := Option.some.inj H0
  exact ret1 hI rfl rfl ⟨rfl, hE.below hI⟩

noncomputable def Fn322.run (f : Fn322) (x0 : Config) (a1 : Int) (x2 : Window) : Option (Bool) := match f with
  | .f232 => G_defect_foreign x0 a1 x2
  | .f233 => G_defect_outside x0 a1 x2
theorem Fn322.ent (f : Fn322) (args : Array Value) (w : World) : (callFunc (fid322 f) args).run Tryz.prog w = .ok (.enter (fid322 f) args) w := by
  cases f with
  | f232 => exact enters Tryz.func232 (by kernel_rfl) rfl args w
  | f233 => exact enters Tryz.func233 (by kernel_rfl) rfl args w
theorem Fn322.calls (f : Fn322) (x0 : Config) (a1 : Int) (x2 : Window) (svf : SV) (sv0 : SV) (sv2 : SV) (w : World) {S : Nat → Prop} (hf : (kdF322).cont S w f svf) (hx0 : (kd_Config).cont S w x0 sv0) (hx2 : (kd_Window).cont S w x2 sv2) (r : Bool) (h : Fn322.run f x0 a1 x2 = some r) :
    Calls Tryz.prog (fid322 f) (([.agg ((kd_Config).cells x0 sv0).toArray, .int .i64 a1, .agg ((kd_Window).cells x2 sv2).toArray] : List Value) ++ (fca322 f svf).toList).toArray w fun e w' => e = .returned (.bool r) ∧ Below w.heap.size w w' := by
  cases f with
  | f232 => exact G_defect_foreign.calls x0 a1 x2  sv0 sv2  w hx0 hx2  r h
  | f233 => exact G_defect_outside.calls x0 a1 x2  sv0 sv2  w hx0 hx2  r h

noncomputable def G_defect_window_1_1 (x0 : Window) (y1 : Fn322) (y2 : Config) (y3 : Int) : Option (Bool) := ((Fn322.run y1 y2 y3 x0).bind fun t_3 => some t_3)
theorem G_defect_window_1_1.calls (x0 : Window) (y1 : Fn322) (y2 : Config) (y3 : Int) (sv0 : SV) (B1 : Addr) (sv1 : SV) (B2 : Addr) (sv2 : SV) (B3 : Addr) (sv3 : SV) (w : World) {S : Nat → Prop} (hx0 : (kd_Window).cont S w x0 sv0) (hB1 : El kdF322 S w B1 y1 sv1) (hB2 : El kd_Config S w B2 y2 sv2) (hB3 : El (Kd.int .i64) S w B3 y3 sv3) (r : Bool) (h : G_defect_window_1_1 x0 y1 y2 y3 = some r) :
    Calls Tryz.prog 249 #[.agg ((kd_Window).cells x0 (svL [])).toArray, .pointer (some B1), .pointer (some B2), .pointer (some B3)] w fun e w' => e = .returned (.bool r) ∧ Below w.heap.size w w' := by
  replace hx0 := Kd.lo _ hx0
  replace hB1 := El.lo hB1
  replace hB2 := El.lo hB2
  replace hB3 := El.lo hB3
  unfold G_defect_window_1_1 at h
  have H0 := h
  clear h
  refine enter Tryz.func249 rfl [.agg ((kd_Window).cells x0 (svL [])).toArray, .pointer (some B1), .pointer (some B2), .pointer (some B3)] (n := 11) rfl (Nat.le_of_ble_eq_true rfl) (fun a hI => ?_)
  have hF : FOpen Fence.wide := .inl rfl
  have hE := Ep.start w
  refine sr0_ hF hI (s_ [e_ 5 (.bool false), p_ 4 0 0, e_ 1 (.pointer (some B1)), e_ 2 (.pointer (some B2)), e_ 3 (.pointer (some B3))] [((((kd_Window).cells x0 sv0).map EV.v), 157)]) (by kernel_rfl) (fun ns_1 a w_2 hI => ?_)
  obtain ⟨t_3, hG_4, H0⟩ := bind_some H0
  refine sr_ (orc := [[fnv322 y1 sv1], (kd_Config).cells y2 sv2, [.int .i64 y3], [.bool t_3]]) hF hI (s_ [e_ 5 (.bool t_3)] [((((kd_Window).cells x0 sv0).map EV.v), 157)]) [.cell true B1 [fnv322 y1 sv1], .cell true B2 ((kd_Config).cells y2 sv2), .cell true B3 [.int .i64 y3], .call true (fid322 y1) (([.agg ((kd_Config).cells y2 sv2).toArray, .int .i64 y3, .agg ((kd_Window).cells x0 (svL [])).toArray] : List Value) ++ (fca322 y1 sv1).toList) (.bool t_3)] (by kernel_rfl) ⟨ob_el (fun _ => hB1) 0 [fnv322 y1 sv1] rfl, ob_el (fun _ => hB2) 0 ((kd_Config).cells y2 sv2) rfl, ob_el (fun _ => hB3) 0 [.int .i64 y3] rfl, ob_call (Fn322.ent y1) (fun hg wz hk => Fn322.calls y1 y2 y3 x0 sv1 sv2 (svL []) wz (S := fun _ => True) (Kd.any _ (Kd.keep kdF322 (hB1).cont (Lo.on hk))) (Kd.any _ (Kd.keep kd_Config (contI (S := Lo S w w [] []) (w := w) (d := kd_Config) (x := y2) (sv := sv2) ⟨⟨(hB2).cont.1.1, (hB2).cont.1.2⟩, ⟨(hB2).cont.2.1.1, (hB2).cont.2.1.2⟩, ⟨(hB2).cont.2.2.1.1, (hB2).cont.2.2.1.2⟩, ⟨(hB2).cont.2.2.2.1.1, (hB2).cont.2.2.2.1.2⟩, trivial⟩) (Lo.on hk))) (Kd.any _ (Kd.keep kd_Window (contI (S := Lo S w w [] []) (w := w) (d := kd_Window) (x := x0) (sv := (svL [])) trivial) (Lo.on hk))) _ hG_4), trivial⟩ (fun ns_5 a w_6 hI => ?_)
  refine wpIn_ret ?_
  obtain rfl := Option.some.inj H0
  exact ret1 hI rfl rfl ⟨rfl, hE.below hI⟩

noncomputable def G_defect_idle_1 (x0 : Window) (y1 : Int) : Option (Bool) := some (x0.Part == y1)
theorem G_defect_idle_1.calls (x0 : Window) (y1 : Int) (sv0 : SV) (B1 : Addr) (sv1 : SV) (w : World) {S : Nat → Prop} (hx0 : (kd_Window).cont S w x0 sv0) (hB1 : El (Kd.int .i64) S w B1 y1 sv1) (r : Bool) (h : G_defect_idle_1 x0 y1 = some r) :
    Calls Tryz.prog 252 #[.agg ((kd_Window).cells x0 sv0).toArray, .pointer (some B1)] w fun e w' => e = .returned (.bool r) ∧ Below w.heap.size w w' := by
  replace hx0 := Kd.lo _ hx0
  replace hB1 := El.lo hB1
  unfold G_defect_idle_1 at h
  have H0 := h
  clear h
  refine enter Tryz.func252 rfl [.agg ((kd_Window).cells x0 sv0).toArray, .pointer (some B1)] (n := 8) rfl (Nat.le_of_ble_eq_true rfl) (fun a hI => ?_)
  have hF : FOpen Fence.wide := .inl rfl
  have hE := Ep.start w
  refine sr0_ hF hI (s_ [e_ 3 (.bool false), p_ 2 0 0, e_ 1 (.pointer (some B1))] [((((kd_Window).cells x0 sv0).map EV.v), 157)]) (by kernel_rfl) (fun ns_1 a w_2 hI => ?_)
  refine sr_ (orc := [[.int .i64 y1]]) hF hI (s_ [e_ 3 (.bool (x0.Part == y1))] [((((kd_Window).cells x0 sv0).map EV.v), 157)]) [.cell true B1 [.int .i64 y1]] (by kernel_rfl) ⟨ob_el (fun _ => hB1) 0 [.int .i64 y1] rfl, trivial⟩ (fun ns_3 a w_4 hI => ?_)
  refine wpIn_ret ?_
  obtain rfl := Option.some.inj H0
  exact ret1 hI rfl rfl ⟨rfl, hE.below hI⟩

noncomputable def Fn328.run (f : Fn328) (x0 : Window) : Option (Bool) := match f with
  | .f249 c0 c1 c2 => G_defect_window_1_1 x0 c0 c1 c2
  | .f252 c0 => G_defect_idle_1 x0 c0
theorem Fn328.ent (f : Fn328) (args : Array Value) (w : World) : (callFunc (fid328 f) args).run Tryz.prog w = .ok (.enter (fid328 f) args) w := by
  cases f with
  | f249 _ _ _ => exact enters Tryz.func249 (by kernel_rfl) rfl args w
  | f252 _ => exact enters Tryz.func252 (by kernel_rfl) rfl args w
theorem Fn328.calls (f : Fn328) (x0 : Window) (svf : SV) (sv0 : SV) (w : World) {S : Nat → Prop} (hf : (kdF328).cont S w f svf) (hx0 : (kd_Window).cont S w x0 sv0) (r : Bool) (h : Fn328.run f x0 = some r) :
    Calls Tryz.prog (fid328 f) (([.agg ((kd_Window).cells x0 sv0).toArray] : List Value) ++ (fca328 f svf).toList).toArray w fun e w' => e = .returned (.bool r) ∧ Below w.heap.size w w' := by
  cases f with
  | f249 c0 c1 c2 => exact G_defect_window_1_1.calls x0 c0 c1 c2 sv0 (adr (svf 0).1) (svO svf 1) (adr (svf 1).1) (svO svf 2) (adr (svf 6).1) (svO svf 7) w hx0 hf.1 hf.2.1 hf.2.2 r h
  | f252 c0 => exact G_defect_idle_1.calls x0 c0 sv0 (adr (svf 0).1) (svO svf 1) w hx0 hf r h

noncomputable def G_api_Window_257.b1 (l0 : (List Window)) (x1 : Fn328) (s1 : Int × Int) : Option (Stp (Int × Int) (Ex (Int × Int) (Int))) := (bif decide (s1.1 < (l0.length : Int)) then (req (inb s1.1 l0.length) ((Fn328.run x1 (rd l0 s1.1)).bind fun t_16 => (bif t_16 then some (.out (.ret s1.1)) else some (.next ((IntKind.i64.wrap (s1.1 + 1)), s1.2))))) else some (.out (.brk (s1.1, s1.2))))
noncomputable def G_api_Window_257 (l0 : (List Window)) (x1 : Fn328) : Option (Int) := ((loopω (G_api_Window_257.b1 l0 x1) (0, 0)).bind fun o => o.on (fun s1 => some (-1)) (fun r => some r))
theorem G_api_Window_257.calls (l0 : (List Window)) (x1 : Fn328) (A0 : Option Addr) (c0 : Nat) (sv1 : SV) (w : World) {S : Nat → Prop} (hr0 : Arr kd_Window S w A0 l0) (hc0 : l0.length ≤ c0) (hx1 : (kdF328).cont S w x1 sv1) (r : Int) (h : G_api_Window_257 l0 x1 = some r) :
    Calls Tryz.prog 257 #[.slice A0 l0.length c0, fnv328 x1 sv1] w fun e w' => e = .returned (.int .i64 r) ∧ Below w.heap.size w w' := by
  replace hr0 := Arr.lo hr0
  replace hx1 := Kd.lo _ hx1
  unfold G_api_Window_257 at h
  have H0 := h
  clear h
  refine enter Tryz.func257 rfl [.slice A0 l0.length c0, fnv328 x1 sv1] (n := 19) rfl (Nat.le_of_ble_eq_true rfl) (fun a hI => ?_)
  have hF : FOpen Fence.wide := .inl rfl
  have hE := Ep.start w
  refine sr0_ hF hI (s_ [e_ 4 (.int .i64 0), e_ 0 (.slice A0 l0.length c0), e_ 1 (fnv328 x1 sv1)] []) (by kernel_rfl) (fun ns_1 a w_2 hI => ?_)
  refine wpIn_seq ?_
  refine sr0_ hF hI (s_ [e_ 8 (.int .i64 0), e_ 7 (.int .i64 (l0.length : Int)), e_ 4 (.int .i64 0), e_ 0 (.slice A0 l0.length c0), e_ 1 (fnv328 x1 sv1)] []) (by kernel_rfl) (fun ns_3 a w_4 hI => ?_)
  obtain ⟨o_25, hL_26, H0⟩ := bind_some H0
  refine block_loop (fun (s1 : Int × Int) a w_31 => ∃ ns, St w [] 19 (s_ [e_ 8 (.int .i64 s1.1), e_ 7 (.int .i64 (l0.length : Int)), e_ 4 (.int .i64 s1.2), e_ 0 (.slice A0 l0.length c0), e_ 1 (fnv328 x1 sv1)] []) ns a w_31) (0, 0) hL_26 ⟨_, hI.pick [8, 7, 4, 0, 1] 0 (s_ [e_ 8 (.int .i64 0), e_ 7 (.int .i64 (l0.length : Int)), e_ 4 (.int .i64 0), e_ 0 (.slice A0 l0.length c0), e_ 1 (fnv328 x1 sv1)] []) (by kernel_rfl)⟩ ?_ ?_
  ·clear hI
   rintro s1 a w_5 ⟨ns_6, hI⟩ r1 H1
   unfold G_api_Window_257.b1 at H1
   refine sr0_ hF hI (s_ [e_ 9 (.bool (decide (s1.1 < (l0.length : Int)))), e_ 8 (.int .i64 s1.1), e_ 7 (.int .i64 (l0.length : Int)), e_ 4 (.int .i64 s1.2), e_ 0 (.slice A0 l0.length c0), e_ 1 (fnv328 x1 sv1)] []) (by kernel_rfl) (fun ns_7 a w_8 hI => ?_)
   refine wpIn_seq ?_
   refine cond_ hI (decide (s1.1 < (l0.length : Int))) rfl (fun hc_9 => ?_) (fun hc_9 => ?_)
   ·replace H1 := bif_t hc_9 H1
    refine wpIn_skip ?_
    refine then_normal ?_
    refine wpIn_seq ?_
    refine wpIn_block ?_
    refine sr0_ hF hI (s_ [e_ 5 (.int .i64 s1.1), e_ 8 (.int .i64 s1.1), e_ 7 (.int .i64 (l0.length : Int)), e_ 4 (.int .i64 s1.2), e_ 0 (.slice A0 l0.length c0), e_ 1 (fnv328 x1 sv1)] []) (by kernel_rfl) (fun ns_10 a w_11 hI => ?_)
    obtain ⟨hN_12, H1⟩ := req_some H1
    obtain ⟨sv_13, hE_15, hA_14⟩ := Arr.elB (d := kd_Window) hr0 s1.1 true (fun _ => hN_12)
    replace hE_15 := hE_15 rfl
    replace hA_14 := fun (_ : true = true) => hA_14 rfl
    obtain ⟨t_16, hG_17, H1⟩ := bind_some H1
    refine sr_ (orc := [(kd_Window).cells (rd l0 s1.1) sv_13, [.bool t_16]]) hF hI (s_ [e_ 16 (.bool t_16), e_ 5 (.int .i64 s1.1), e_ 8 (.int .i64 s1.1), e_ 7 (.int .i64 (l0.length : Int)), e_ 4 (.int .i64 s1.2), e_ 0 (.slice A0 l0.length c0), e_ 1 (fnv328 x1 sv1)] []) [.need true ((0 : Int) ≤ s1.1 ∧ s1.1 < (l0.length : Int)), .need true (A0 = some (adr A0)), .cell true ((adr A0).add ((s1.1 : Int).toNat * 3)) ((kd_Window).cells (rd l0 s1.1) sv_13), .call true (fid328 x1) (([.agg ((kd_Window).cells (rd l0 s1.1) (svL [])).toArray] : List Value) ++ (fca328 x1 sv1).toList) (.bool t_16)] (by kernel_rfl) ⟨ob_inb (fun _ => hN_12), hA_14, ob_el (fun _ => hE_15) 0 ((kd_Window).cells (rd l0 s1.1) sv_13) rfl, ob_call (Fn328.ent x1) (fun hg wz hk => Fn328.calls x1 (rd l0 s1.1) sv1 (svL []) wz (S := fun _ => True) (Kd.any _ (Kd.keep kdF328 hx1 (Lo.on hk))) (Kd.any _ (Kd.keep kd_Window (contI (S := Lo S w w [] []) (w := w) (d := kd_Window) (x := (rd l0 s1.1)) (sv := (svL [])) trivial) (Lo.on hk))) _ hG_17), trivial⟩ (fun ns_18 a w_19 hI => ?_)
    refine cond_ hI (t_16) rfl (fun hc_20 => ?_) (fun hc_20 => ?_)
    ·replace H1 := bif_t hc_20 H1
     refine sr0_ hF hI (s_ [e_ 4 (.int .i64 s1.1)] []) (by kernel_rfl) (fun ns_21 a w_22 hI => ?_)
     refine wpIn_ret ?_
     refine inBlock_ret ?_
     refine then_ret ?_
     refine then_ret ?_
     obtain rfl := Option.some.inj H1
     refine .inr ⟨_, rfl, fun ho => ?_⟩
     subst ho
     refine inBlock_ret ?_
     refine then_ret ?_
     obtain rfl := Option.some.inj H0
     exact ret1 hI rfl rfl ⟨rfl, hE.below hI⟩
    ·replace H1 := bif_f hc_20 H1
     refine wpIn_skip ?_
     refine inBlock_normal ?_
     refine then_normal ?_
     refine rg0_ hF hI (s_ [e_ 8 (.int .i64 (IntKind.i64.wrap (s1.1 + 1))), e_ 7 (.int .i64 (l0.length : Int)), e_ 4 (.int .i64 s1.2), e_ 0 (.slice A0 l0.length c0), e_ 1 (fnv328 x1 sv1)] []) (by kernel_rfl) (fun ns_23 a w_24 hI => ?_)
     refine then_normal ?_
     obtain rfl := Option.some.inj H1
     exact ⟨_, rfl, ⟨_, hI.pick [8, 7, 4, 0, 1] 0 (s_ [e_ 8 (.int .i64 (IntKind.i64.wrap (s1.1 + 1))), e_ 7 (.int .i64 (l0.length : Int)), e_ 4 (.int .i64 s1.2), e_ 0 (.slice A0 l0.length c0), e_ 1 (fnv328 x1 sv1)] []) (by kernel_rfl)⟩⟩
   ·replace H1 := bif_f hc_9 H1
    refine wpIn_exit ?_
    refine then_exit ?_
    refine then_exit ?_
    obtain rfl := Option.some.inj H1
    exact .inl ⟨_, rfl, rfl, ⟨_, hI.pick [8, 7, 4, 0, 1] 0 (s_ [e_ 8 (.int .i64 s1.1), e_ 7 (.int .i64 (l0.length : Int)), e_ 4 (.int .i64 s1.2), e_ 0 (.slice A0 l0.length c0), e_ 1 (fnv328 x1 sv1)] []) (by kernel_rfl)⟩⟩
  ·clear hI
   rintro s1 a w_27 ho ⟨ns_28, hI⟩
   subst ho
   replace H0 : (some (-1) : Option (Int)) = _ := H0
   refine then_normal ?_
   refine sr0_ hF hI (s_ [e_ 4 (.int .i64 (-1))] []) (by kernel_rfl) (fun ns_29 a w_30 hI => ?_)
   refine wpIn_ret ?_
   obtain rfl := Option.some.inj H0
   exact ret1 hI rfl rfl ⟨rfl, hE.below hI⟩

noncomputable def G_api_Window_248 (l0 : (List Window)) (x1 : Fn328) : Option (Bool) := ((G_api_Window_257 l0 x1).bind fun t_3 => some (decide (t_3 ≥ 0)))
theorem G_api_Window_248.calls (l0 : (List Window)) (x1 : Fn328) (A0 : Option Addr) (c0 : Nat) (sv1 : SV) (w : World) {S : Nat → Prop} (hr0 : Arr kd_Window S w A0 l0) (hc0 : l0.length ≤ c0) (hx1 : (kdF328).cont S w x1 sv1) (r : Bool) (h : G_api_Window_248 l0 x1 = some r) :
    Calls Tryz.prog 248 #[.slice A0 l0.length c0, fnv328 x1 sv1] w fun e w' => e = .returned (.bool r) ∧ Below w.heap.size w w' := by
  replace hr0 := Arr.lo hr0
  replace hx1 := Kd.lo _ hx1
  unfold G_api_Window_248 at h
  have H0 := h
  clear h
  refine enter Tryz.func248 rfl [.slice A0 l0.length c0, fnv328 x1 sv1] (n := 9) rfl (Nat.le_of_ble_eq_true rfl) (fun a hI => ?_)
  have hF : FOpen Fence.wide := .inl rfl
  have hE := Ep.start w
  refine sr0_ hF hI (s_ [e_ 4 (.bool false), e_ 0 (.slice A0 l0.length c0), e_ 1 (fnv328 x1 sv1)] []) (by kernel_rfl) (fun ns_1 a w_2 hI => ?_)
  obtain ⟨t_3, hG_4, H0⟩ := bind_some H0
  refine sr_ (orc := [[.int .i64 t_3]]) hF hI (s_ [e_ 4 (.bool (decide (t_3 ≥ 0)))] []) [.call true 257 [.slice A0 l0.length c0, fnv328 x1 sv1] (.int .i64 t_3)] (by kernel_rfl) ⟨ob_call (enters Tryz.func257 (by kernel_rfl) rfl) (fun hg wz hk => G_api_Window_257.calls l0 x1 A0 c0 sv1 wz (S := fun _ => True) (Arr.any (Arr.keep hr0 (Lo.on hk))) hc0 (Kd.any _ (Kd.keep kdF328 (contI (S := Lo S w w [] []) (w := w) (d := kdF328) (x := x1) (sv := sv1) hx1) (Lo.on hk))) _ hG_4), trivial⟩ (fun ns_5 a w_6 hI => ?_)
  refine wpIn_ret ?_
  obtain rfl := Option.some.inj H0
  exact ret1 hI rfl rfl ⟨rfl, hE.below hI⟩

noncomputable def G_defect_window_1 (x0 : Config) (a1 : Int) (y2 : Fn322) : Option (Bool) := (req (inb a1 2) ((G_api_Window_248 ((rdA_St27 x0.Frames a1).Windows) (Fn328.f249 y2 x0 a1)).bind fun t_18 => some t_18))
theorem G_defect_window_1.calls (x0 : Config) (a1 : Int) (y2 : Fn322) (sv0 : SV) (B2 : Addr) (sv2 : SV) (w : World) {S : Nat → Prop} (hx0 : (kd_Config).cont S w x0 sv0) (hB2 : El kdF322 S w B2 y2 sv2) (r : Bool) (h : G_defect_window_1 x0 a1 y2 = some r) :
    Calls Tryz.prog 247 #[.agg ((kd_Config).cells x0 sv0).toArray, .int .i64 a1, .pointer (some B2)] w fun e w' => e = .returned (.bool r) ∧ Below w.heap.size w w' := by
  replace hx0 := Kd.lo _ hx0
  replace hB2 := El.lo hB2
  unfold G_defect_window_1 at h
  have H0 := h
  clear h
  refine enter Tryz.func247 rfl [.agg ((kd_Config).cells x0 sv0).toArray, .int .i64 a1, .pointer (some B2)] (n := 13) rfl (Nat.le_of_ble_eq_true rfl) (fun a hI => ?_)
  have hF : FOpen Fence.wide := .inl rfl
  have hE := Ep.start w
  refine sr0_ hF hI (s_ [e_ 5 (.bool false), p_ 4 1 0, p_ 3 0 0, e_ 2 (.pointer (some B2))] [((((kd_Config).cells x0 sv0).map EV.v), 29), ([.v (.int .i64 a1)], 3)]) (by kernel_rfl) (fun ns_1 a w_2 hI => ?_)
  obtain ⟨hE', hmv, hmr⟩ := Ep.rebase hE hI
  replace hx0 := Kd.keep _ hx0 (hmv _)
  replace hB2 := El.keep hB2 (hmv _)
  replace hE := hE'; replace hI := hI.rebase; clear hE' hmv hmr
  have hct := contI (S := Lo S w w_2 ns_1 []) (w := w_2) (d := kd_Config) (x := x0) (sv := sv0) ⟨⟨hx0.1.1, hx0.1.2⟩, ⟨hx0.2.1.1, hx0.2.1.2⟩, ⟨hx0.2.2.1.1, hx0.2.2.1.2⟩, ⟨hx0.2.2.2.1.1, hx0.2.2.2.1.2⟩, trivial⟩
  obtain ⟨B_3, ns_5, hE', hI', hmv, hB_4⟩ := freeze_ (d := kd_Config) hE hI 0 x0 sv0 29 rfl
  replace hB_4 := hB_4 _ hct
  clear hct
  have hmr := hmr_ ([] : List (List Nat)) w_2
  replace hx0 := Kd.keep _ hx0 (hmv _)
  replace hB2 := El.keep hB2 (hmv _)
  replace hE := hE'; replace hI := hI'; clear hE' hI' hmv hmr
  obtain ⟨ns_6, hE', hI', hmv⟩ := hE.cut hI [5, 4, 3, 2] 1 (s_ [e_ 5 (.bool false), p_ 4 0 0, e_ 3 (.pointer (some B_3)), e_ 2 (.pointer (some B2))] [([.v (.int .i64 a1)], 3)]) (by kernel_rfl)
  have hmr := hmr_ ([] : List (List Nat)) w_2
  replace hx0 := Kd.keep _ hx0 (hmv _)
  replace hB2 := El.keep hB2 (hmv _)
  replace hB_4 := El.keep hB_4 (hmv _)
  replace hE := hE'; replace hI := hI'; clear hE' hI' hmv hmr
  refine wpIn_seq ?_
  refine wpIn_region_lit ?_
  obtain ⟨hN_7, H0⟩ := req_some H0
  have hE_9 := elA_St27 (El.part (e := kd_St27) hB_4 2 x0.Frames (svO sv0 2) ⟨(hB_4).cont.2.2.1, (hB_4).cont.2.2.2.1, trivial⟩ rfl) hN_7
  refine ck_ (orc := [[.slice (((svO (svO sv0 2) ((a1 : Int).toNat * 1)) 0).1) ((rdA_St27 x0.Frames a1).Windows).length (((svO (svO sv0 2) ((a1 : Int).toNat * 1)) 0).2)]]) hF 5 hI (s_ [e_ 10 (.slice (((svO (svO sv0 2) ((a1 : Int).toNat * 1)) 0).1) ((rdA_St27 x0.Frames a1).Windows).length (((svO (svO sv0 2) ((a1 : Int).toNat * 1)) 0).2)), e_ 5 (.bool false), p_ 4 0 0, e_ 3 (.pointer (some B_3)), e_ 2 (.pointer (some B2))] [([.v (.int .i64 a1)], 3)]) [.need true ((0 : Int) ≤ a1 ∧ a1 < ((2 : Nat) : Int)), .cell true (((B_3.add 2).add ((a1 : Int).toNat * 2)).add 1) [.slice (((svO (svO sv0 2) ((a1 : Int).toNat * 1)) 0).1) ((rdA_St27 x0.Frames a1).Windows).length (((svO (svO sv0 2) ((a1 : Int).toNat * 1)) 0).2)]] rfl (by kernel_rfl) ⟨ob_inb (fun _ => hN_7), ob_el (fun _ => hE_9) 1 [.slice (((svO (svO sv0 2) ((a1 : Int).toNat * 1)) 0).1) ((rdA_St27 x0.Frames a1).Windows).length (((svO (svO sv0 2) ((a1 : Int).toNat * 1)) 0).2)] rfl, trivial⟩ (fun ns_10 a w_11 hI => ?_)
  obtain ⟨hE', hmv, hmr⟩ := Ep.rebase hE hI
  replace hx0 := Kd.keep _ hx0 (hmv _)
  replace hB2 := El.keep hB2 (hmv _)
  replace hB_4 := El.keep hB_4 (hmv _)
  replace hE_9 := El.keep hE_9 (hmv _)
  replace hE := hE'; replace hI := hI.rebase; clear hE' hmv hmr
  have hct := contI (S := Lo S w w_11 ns_10 []) (w := w_11) (d := (Kd.int .i64)) (x := a1) (sv := (svL [])) trivial
  obtain ⟨B_12, ns_14, hE', hI', hmv, hB_13⟩ := freeze_ (d := (Kd.int .i64)) hE hI 0 a1 (svL []) 3 rfl
  replace hB_13 := hB_13 _ hct
  clear hct
  have hmr := hmr_ ([] : List (List Nat)) w_11
  replace hx0 := Kd.keep _ hx0 (hmv _)
  replace hB2 := El.keep hB2 (hmv _)
  replace hB_4 := El.keep hB_4 (hmv _)
  replace hE_9 := El.keep hE_9 (hmv _)
  replace hE := hE'; replace hI := hI'; clear hE' hI' hmv hmr
  obtain ⟨ns_15, hE', hI', hmv⟩ := hE.cut hI [10, 5, 4, 3, 2] 0 (s_ [e_ 10 (.slice (((svO (svO sv0 2) ((a1 : Int).toNat * 1)) 0).1) ((rdA_St27 x0.Frames a1).Windows).length (((svO (svO sv0 2) ((a1 : Int).toNat * 1)) 0).2)), e_ 5 (.bool false), e_ 4 (.pointer (some B_12)), e_ 3 (.pointer (some B_3)), e_ 2 (.pointer (some B2))] []) (by kernel_rfl)
  have hmr := hmr_ ([] : List (List Nat)) w_11
  replace hx0 := Kd.keep _ hx0 (hmv _)
  replace hB2 := El.keep hB2 (hmv _)
  replace hB_4 := El.keep hB_4 (hmv _)
  replace hE_9 := El.keep hE_9 (hmv _)
  replace hB_13 := El.keep hB_13 (hmv _)
  replace hE := hE'; replace hI := hI'; clear hE' hI' hmv hmr
  refine ck0_ hF 1 hI (s_ [e_ 11 (.func (.func 249) #[] #[.pointer (some B2), .pointer (some B_3), .pointer (some B_12)]), e_ 10 (.slice (((svO (svO sv0 2) ((a1 : Int).toNat * 1)) 0).1) ((rdA_St27 x0.Frames a1).Windows).length (((svO (svO sv0 2) ((a1 : Int).toNat * 1)) 0).2)), e_ 5 (.bool false), e_ 4 (.pointer (some B_12)), e_ 3 (.pointer (some B_3)), e_ 2 (.pointer (some B2))] []) rfl (by kernel_rfl) (fun ns_16 a w_17 hI => ?_)
  obtain ⟨t_18, hG_19, H0⟩ := bind_some H0
  refine ck_ (orc := [[.bool t_18]]) hF 2 hI (s_ [e_ 5 (.bool t_18)] []) [.call true 248 [.slice (((svO (svO sv0 2) ((a1 : Int).toNat * 1)) 0).1) ((rdA_St27 x0.Frames a1).Windows).length (((svO (svO sv0 2) ((a1 : Int).toNat * 1)) 0).2), .func (.func 249) #[] #[.pointer (some B2), .pointer (some B_3), .pointer (some B_12)]] (.bool t_18)] rfl (by kernel_rfl) ⟨ob_call (enters Tryz.func248 (by kernel_rfl) rfl) (fun hg wz hk => G_api_Window_248.calls ((rdA_St27 x0.Frames a1).Windows) (Fn328.f249 y2 x0 a1) (((svO (svO sv0 2) ((a1 : Int).toNat * 1)) 0).1) (((svO (svO sv0 2) ((a1 : Int).toNat * 1)) 0).2) (svL [(some B2, 0), (some B_3, 0), (sv0 0), (sv0 1), (sv0 2), (sv0 3), (some B_12, 0)]) wz (S := fun _ => True) (Arr.any (Arr.keep (hE_9).cont.1.1 (Lo.on hk))) (hE_9).cont.1.2 (Kd.any _ (Kd.keep kdF328 (contI (S := Lo S w w_11 ns_15 []) (w := w_11) (d := kdF328) (x := (Fn328.f249 y2 x0 a1)) (sv := (svL [(some B2, 0), (some B_3, 0), (sv0 0), (sv0 1), (sv0 2), (sv0 3), (some B_12, 0)])) ⟨⟨hB2.cont, hB2.at_, hB2.cells⟩, ⟨hB_4.cont, hB_4.at_, hB_4.cells⟩, ⟨hB_13.cont, hB_13.at_, hB_13.cells⟩⟩) (Lo.on hk))) _ hG_19), trivial⟩ (fun ns_20 a w_21 hI => ?_)
  refine wpListIn_nil ?_
  refine then_normal ?_
  refine wpIn_ret ?_
  obtain rfl := Option.some.inj H0
  exact ret1 hI rfl rfl ⟨rfl, hE.below hI⟩

noncomputable def G_defect_rules_12 (x0 : Config) (a1 : Int) : Option (Bool) := (req (inb a1 2) ((G_defect_within ((rdA_St27 x0.Frames a1).Length) 1 64).bind fun t_10 => some (!t_10)))
theorem G_defect_rules_12.calls (x0 : Config) (a1 : Int) (sv0 : SV) (w : World) {S : Nat → Prop} (hx0 : (kd_Config).cont S w x0 sv0) (r : Bool) (h : G_defect_rules_12 x0 a1 = some r) :
    Calls Tryz.prog 229 #[.agg ((kd_Config).cells x0 sv0).toArray, .int .i64 a1] w fun e w' => e = .returned (.bool r) ∧ Below w.heap.size w w' := by
  replace hx0 := Kd.lo _ hx0
  unfold G_defect_rules_12 at h
  have H0 := h
  clear h
  refine enter Tryz.func229 rfl [.agg ((kd_Config).cells x0 sv0).toArray, .int .i64 a1] (n := 12) rfl (Nat.le_of_ble_eq_true rfl) (fun a hI => ?_)
  have hF : FOpen Fence.wide := .inl rfl
  have hE := Ep.start w
  refine sr0_ hF hI (s_ [e_ 4 (.bool false), p_ 2 0 0, e_ 1 (.int .i64 a1)] [((((kd_Config).cells x0 sv0).map EV.v), 29)]) (by kernel_rfl) (fun ns_1 a w_2 hI => ?_)
  obtain ⟨hE', hmv, hmr⟩ := Ep.rebase hE hI
  replace hx0 := Kd.keep _ hx0 (hmv _)
  replace hE := hE'; replace hI := hI.rebase; clear hE' hmv hmr
  have hct := contI (S := Lo S w w_2 ns_1 []) (w := w_2) (d := kd_Config) (x := x0) (sv := sv0) ⟨⟨hx0.1.1, hx0.1.2⟩, ⟨hx0.2.1.1, hx0.2.1.2⟩, ⟨hx0.2.2.1.1, hx0.2.2.1.2⟩, ⟨hx0.2.2.2.1.1, hx0.2.2.2.1.2⟩, trivial⟩
  obtain ⟨B_3, ns_5, hE', hI', hmv, hB_4⟩ := freeze_ (d := kd_Config) hE hI 0 x0 sv0 29 rfl
  replace hB_4 := hB_4 _ hct
  clear hct
  have hmr := hmr_ ([] : List (List Nat)) w_2
  replace hx0 := Kd.keep _ hx0 (hmv _)
  replace hE := hE'; replace hI := hI'; clear hE' hI' hmv hmr
  obtain ⟨ns_6, hE', hI', hmv⟩ := hE.cut hI [4, 2, 1] 0 (s_ [e_ 4 (.bool false), e_ 2 (.pointer (some B_3)), e_ 1 (.int .i64 a1)] []) (by kernel_rfl)
  have hmr := hmr_ ([] : List (List Nat)) w_2
  replace hx0 := Kd.keep _ hx0 (hmv _)
  replace hB_4 := El.keep hB_4 (hmv _)
  replace hE := hE'; replace hI := hI'; clear hE' hI' hmv hmr
  obtain ⟨hN_7, H0⟩ := req_some H0
  have hE_9 := elA_St27 (El.part (e := kd_St27) hB_4 2 x0.Frames (svO sv0 2) ⟨(hB_4).cont.2.2.1, (hB_4).cont.2.2.2.1, trivial⟩ rfl) hN_7
  obtain ⟨t_10, hG_11, H0⟩ := bind_some H0
  refine sr_ (orc := [[.int .i64 ((rdA_St27 x0.Frames a1).Length)], [.bool t_10]]) hF hI (s_ [e_ 4 (.bool (!t_10))] []) [.need true ((0 : Int) ≤ a1 ∧ a1 < ((2 : Nat) : Int)), .cell true ((B_3.add 2).add ((a1 : Int).toNat * 2)) [.int .i64 ((rdA_St27 x0.Frames a1).Length)], .call true 212 [.int .i64 ((rdA_St27 x0.Frames a1).Length), .int .i64 1, .int .i64 64] (.bool t_10)] (by kernel_rfl) ⟨ob_inb (fun _ => hN_7), ob_el (fun _ => hE_9) 0 [.int .i64 ((rdA_St27 x0.Frames a1).Length)] rfl, ob_call (enters Tryz.func212 (by kernel_rfl) rfl) (fun hg wz hk => G_defect_within.calls ((rdA_St27 x0.Frames a1).Length) 1 64  wz (S := fun _ => True)  _ hG_11), trivial⟩ (fun ns_12 a w_13 hI => ?_)
  refine wpIn_ret ?_
  obtain rfl := Option.some.inj H0
  exact ret1 hI rfl rfl ⟨rfl, hE.below hI⟩

noncomputable def G_defect_rules_13 (x0 : Config) (a1 : Int) : Option (Bool) := (req (inb a1 2) (some (decide ((((rdA_St27 x0.Frames a1).Windows).length : Int) > 16))))
theorem G_defect_rules_13.calls (x0 : Config) (a1 : Int) (sv0 : SV) (w : World) {S : Nat → Prop} (hx0 : (kd_Config).cont S w x0 sv0) (r : Bool) (h : G_defect_rules_13 x0 a1 = some r) :
    Calls Tryz.prog 230 #[.agg ((kd_Config).cells x0 sv0).toArray, .int .i64 a1] w fun e w' => e = .returned (.bool r) ∧ Below w.heap.size w w' := by
  replace hx0 := Kd.lo _ hx0
  unfold G_defect_rules_13 at h
  have H0 := h
  clear h
  refine enter Tryz.func230 rfl [.agg ((kd_Config).cells x0 sv0).toArray, .int .i64 a1] (n := 12) rfl (Nat.le_of_ble_eq_true rfl) (fun a hI => ?_)
  have hF : FOpen Fence.wide := .inl rfl
  have hE := Ep.start w
  refine sr0_ hF hI (s_ [e_ 4 (.bool false), p_ 2 0 0, e_ 1 (.int .i64 a1)] [((((kd_Config).cells x0 sv0).map EV.v), 29)]) (by kernel_rfl) (fun ns_1 a w_2 hI => ?_)
  obtain ⟨hE', hmv, hmr⟩ := Ep.rebase hE hI
  replace hx0 := Kd.keep _ hx0 (hmv _)
  replace hE := hE'; replace hI := hI.rebase; clear hE' hmv hmr
  have hct := contI (S := Lo S w w_2 ns_1 []) (w := w_2) (d := kd_Config) (x := x0) (sv := sv0) ⟨⟨hx0.1.1, hx0.1.2⟩, ⟨hx0.2.1.1, hx0.2.1.2⟩, ⟨hx0.2.2.1.1, hx0.2.2.1.2⟩, ⟨hx0.2.2.2.1.1, hx0.2.2.2.1.2⟩, trivial⟩
  obtain ⟨B_3, ns_5, hE', hI', hmv, hB_4⟩ := freeze_ (d := kd_Config) hE hI 0 x0 sv0 29 rfl
  replace hB_4 := hB_4 _ hct
  clear hct
  have hmr := hmr_ ([] : List (List Nat)) w_2
  replace hx0 := Kd.keep _ hx0 (hmv _)
  replace hE := hE'; replace hI := hI'; clear hE' hI' hmv hmr
  obtain ⟨ns_6, hE', hI', hmv⟩ := hE.cut hI [4, 2, 1] 0 (s_ [e_ 4 (.bool false), e_ 2 (.pointer (some B_3)), e_ 1 (.int .i64 a1)] []) (by kernel_rfl)
  have hmr := hmr_ ([] : List (List Nat)) w_2
  replace hx0 := Kd.keep _ hx0 (hmv _)
  replace hB_4 := El.keep hB_4 (hmv _)
  replace hE := hE'; replace hI := hI'; clear hE' hI' hmv hmr
  obtain ⟨hN_7, H0⟩ := req_some H0
  have hE_9 := elA_St27 (El.part (e := kd_St27) hB_4 2 x0.Frames (svO sv0 2) ⟨(hB_4).cont.2.2.1, (hB_4).cont.2.2.2.1, trivial⟩ rfl) hN_7
  refine sr_ (orc := [[.slice (((svO (svO sv0 2) ((a1 : Int).toNat * 1)) 0).1) ((rdA_St27 x0.Frames a1).Windows).length (((svO (svO sv0 2) ((a1 : Int).toNat * 1)) 0).2)]]) hF hI (s_ [e_ 4 (.bool (decide ((((rdA_St27 x0.Frames a1).Windows).length : Int) > 16)))] []) [.need true ((0 : Int) ≤ a1 ∧ a1 < ((2 : Nat) : Int)), .cell true (((B_3.add 2).add ((a1 : Int).toNat * 2)).add 1) [.slice (((svO (svO sv0 2) ((a1 : Int).toNat * 1)) 0).1) ((rdA_St27 x0.Frames a1).Windows).length (((svO (svO sv0 2) ((a1 : Int).toNat * 1)) 0).2)]] (by kernel_rfl) ⟨ob_inb (fun _ => hN_7), ob_el (fun _ => hE_9) 1 [.slice (((svO (svO sv0 2) ((a1 : Int).toNat * 1)) 0).1) ((rdA_St27 x0.Frames a1).Windows).length (((svO (svO sv0 2) ((a1 : Int).toNat * 1)) 0).2)] rfl, trivial⟩ (fun ns_10 a w_11 hI => ?_)
  refine wpIn_ret ?_
  obtain rfl := Option.some.inj H0
  exact ret1 hI rfl rfl ⟨rfl, hE.below hI⟩

noncomputable def G_defect_small.b1 (l0 : (List Int)) (s1 : Int × Bool) : Option (Stp (Int × Bool) (Ex (Int × Bool) (Bool))) := (bif decide (s1.1 < (l0.length : Int)) then (req (inb s1.1 l0.length) ((G_defect_within (rd l0 s1.1) 0 4294967295).bind fun t_16 => (bif (!t_16) then some (.out (.ret false)) else some (.next ((IntKind.i64.wrap (s1.1 + 1)), s1.2))))) else some (.out (.brk (s1.1, s1.2))))
noncomputable def G_defect_small (l0 : (List Int)) : Option (Bool) := ((loopω (G_defect_small.b1 l0) (0, false)).bind fun o => o.on (fun s1 => some true) (fun r => some r))
theorem G_defect_small.calls (l0 : (List Int)) (A0 : Option Addr) (c0 : Nat) (w : World) {S : Nat → Prop} (hr0 : Arr (Kd.int .i64) S w A0 l0) (hc0 : l0.length ≤ c0) (r : Bool) (h : G_defect_small l0 = some r) :
    Calls Tryz.prog 251 #[.slice A0 l0.length c0] w fun e w' => e = .returned (.bool r) ∧ Below w.heap.size w w' := by
  replace hr0 := Arr.lo hr0
  unfold G_defect_small at h
  have H0 := h
  clear h
  refine enter Tryz.func251 rfl [.slice A0 l0.length c0] (n := 15) rfl (Nat.le_of_ble_eq_true rfl) (fun a hI => ?_)
  have hF : FOpen Fence.wide := .inl rfl
  have hE := Ep.start w
  refine sr0_ hF hI (s_ [e_ 2 (.bool false), e_ 0 (.slice A0 l0.length c0)] []) (by kernel_rfl) (fun ns_1 a w_2 hI => ?_)
  refine wpIn_seq ?_
  refine sr0_ hF hI (s_ [e_ 7 (.int .i64 0), e_ 6 (.int .i64 (l0.length : Int)), e_ 5 (.slice A0 l0.length c0), e_ 2 (.bool false)] []) (by kernel_rfl) (fun ns_3 a w_4 hI => ?_)
  obtain ⟨o_25, hL_26, H0⟩ := bind_some H0
  refine block_loop (fun (s1 : Int × Bool) a w_31 => ∃ ns, St w [] 15 (s_ [e_ 7 (.int .i64 s1.1), e_ 6 (.int .i64 (l0.length : Int)), e_ 5 (.slice A0 l0.length c0), e_ 2 (.bool s1.2)] []) ns a w_31) (0, false) hL_26 ⟨_, hI.pick [7, 6, 5, 2] 0 (s_ [e_ 7 (.int .i64 0), e_ 6 (.int .i64 (l0.length : Int)), e_ 5 (.slice A0 l0.length c0), e_ 2 (.bool false)] []) (by kernel_rfl)⟩ ?_ ?_
  ·clear hI
   rintro s1 a w_5 ⟨ns_6, hI⟩ r1 H1
   unfold G_defect_small.b1 at H1
   refine sr0_ hF hI (s_ [e_ 8 (.bool (decide (s1.1 < (l0.length : Int)))), e_ 7 (.int .i64 s1.1), e_ 6 (.int .i64 (l0.length : Int)), e_ 5 (.slice A0 l0.length c0), e_ 2 (.bool s1.2)] []) (by kernel_rfl) (fun ns_7 a w_8 hI => ?_)
   refine wpIn_seq ?_
   refine cond_ hI (decide (s1.1 < (l0.length : Int))) rfl (fun hc_9 => ?_) (fun hc_9 => ?_)
   ·replace H1 := bif_t hc_9 H1
    refine wpIn_skip ?_
    refine then_normal ?_
    refine wpIn_seq ?_
    refine wpIn_block ?_
    obtain ⟨hN_10, H1⟩ := req_some H1
    obtain ⟨sv_11, hE_13, hA_12⟩ := Arr.elB (d := (Kd.int .i64)) hr0 s1.1 true (fun _ => hN_10)
    replace hE_13 := hE_13 rfl
    replace hA_12 := fun (_ : true = true) => hA_12 rfl
    refine sr_ (orc := [[.int .i64 (rd l0 s1.1)]]) hF hI (s_ [e_ 4 (.int .i64 (rd l0 s1.1)), e_ 7 (.int .i64 s1.1), e_ 6 (.int .i64 (l0.length : Int)), e_ 5 (.slice A0 l0.length c0), e_ 2 (.bool s1.2)] []) [.need true ((0 : Int) ≤ s1.1 ∧ s1.1 < (l0.length : Int)), .need true (A0 = some (adr A0)), .cell true ((adr A0).add ((s1.1 : Int).toNat * 1)) [.int .i64 (rd l0 s1.1)]] (by kernel_rfl) ⟨ob_inb (fun _ => hN_10), hA_12, ob_el (fun _ => hE_13) 0 [.int .i64 (rd l0 s1.1)] rfl, trivial⟩ (fun ns_14 a w_15 hI => ?_)
    obtain ⟨t_16, hG_17, H1⟩ := bind_some H1
    refine sr_ (orc := [[.bool t_16]]) hF hI (s_ [e_ 13 (.bool (!t_16)), e_ 7 (.int .i64 s1.1), e_ 6 (.int .i64 (l0.length : Int)), e_ 5 (.slice A0 l0.length c0), e_ 2 (.bool s1.2)] []) [.call true 212 [.int .i64 (rd l0 s1.1), .int .i64 0, .int .i64 4294967295] (.bool t_16)] (by kernel_rfl) ⟨ob_call (enters Tryz.func212 (by kernel_rfl) rfl) (fun hg wz hk => G_defect_within.calls (rd l0 s1.1) 0 4294967295  wz (S := fun _ => True)  _ hG_17), trivial⟩ (fun ns_18 a w_19 hI => ?_)
    refine cond_ hI ((!t_16)) rfl (fun hc_20 => ?_) (fun hc_20 => ?_)
    ·replace H1 := bif_t hc_20 H1
     refine sr0_ hF hI (s_ [e_ 2 (.bool false)] []) (by kernel_rfl) (fun ns_21 a w_22 hI => ?_)
     refine wpIn_ret ?_
     refine inBlock_ret ?_
     refine then_ret ?_
     refine then_ret ?_
     obtain rfl := Option.some.inj H1
     refine .inr ⟨_, rfl, fun ho => ?_⟩
     subst ho
     refine inBlock_ret ?_
     refine then_ret ?_
     obtain rfl := Option.some.inj H0
     exact ret1 hI rfl rfl ⟨rfl, hE.below hI⟩
    ·replace H1 := bif_f hc_20 H1
     refine wpIn_skip ?_
     refine inBlock_normal ?_
     refine then_normal ?_
     refine rg0_ hF hI (s_ [e_ 7 (.int .i64 (IntKind.i64.wrap (s1.1 + 1))), e_ 6 (.int .i64 (l0.length : Int)), e_ 5 (.slice A0 l0.length c0), e_ 2 (.bool s1.2)] []) (by kernel_rfl) (fun ns_23 a w_24 hI => ?_)
     refine then_normal ?_
     obtain rfl := Option.some.inj H1
     exact ⟨_, rfl, ⟨_, hI.pick [7, 6, 5, 2] 0 (s_ [e_ 7 (.int .i64 (IntKind.i64.wrap (s1.1 + 1))), e_ 6 (.int .i64 (l0.length : Int)), e_ 5 (.slice A0 l0.length c0), e_ 2 (.bool s1.2)] []) (by kernel_rfl)⟩⟩
   ·replace H1 := bif_f hc_9 H1
    refine wpIn_exit ?_
    refine then_exit ?_
    refine then_exit ?_
    obtain rfl := Option.some.inj H1
    exact .inl ⟨_, rfl, rfl, ⟨_, hI.pick [7, 6, 5, 2] 0 (s_ [e_ 7 (.int .i64 s1.1), e_ 6 (.int .i64 (l0.length : Int)), e_ 5 (.slice A0 l0.length c0), e_ 2 (.bool s1.2)] []) (by kernel_rfl)⟩⟩
  ·clear hI
   rintro s1 a w_27 ho ⟨ns_28, hI⟩
   subst ho
   replace H0 : (some true : Option (Bool)) = _ := H0
   refine then_normal ?_
   refine sr0_ hF hI (s_ [e_ 2 (.bool true)] []) (by kernel_rfl) (fun ns_29 a w_30 hI => ?_)
   refine wpIn_ret ?_
   obtain rfl := Option.some.inj H0
   exact ret1 hI rfl rfl ⟨rfl, hE.below hI⟩

noncomputable def G_defect_crossed.b1 (x0 : Config) (a1 : Int) (s1 : Int × Bool) : Option (Stp (Int × Bool) (Ex (Int × Bool) (Bool))) := (bif decide (s1.1 < (((rdA_St27 x0.Frames a1).Windows).length : Int)) then (req (inb (IntKind.i64.wrap (s1.1 - 1)) ((rdA_St27 x0.Frames a1).Windows).length) (req (inb s1.1 ((rdA_St27 x0.Frames a1).Windows).length) ((G_defect_small ([(rd ((rdA_St27 x0.Frames a1).Windows) (IntKind.i64.wrap (s1.1 - 1))).Start, (rd ((rdA_St27 x0.Frames a1).Windows) (IntKind.i64.wrap (s1.1 - 1))).Len, (rd ((rdA_St27 x0.Frames a1).Windows) s1.1).Start] : List Int)).bind fun t_35 => (bif (t_35 && decide (((rd ((rdA_St27 x0.Frames a1).Windows) s1.1).Start) < (IntKind.i64.wrap (((rd ((rdA_St27 x0.Frames a1).Windows) (IntKind.i64.wrap (s1.1 - 1))).Start) + ((rd ((rdA_St27 x0.Frames a1).Windows) (IntKind.i64.wrap (s1.1 - 1))).Len))))) then some (.out (.ret true)) else some (.next ((IntKind.i64.wrap (s1.1 + 1)), s1.2)))))) else some (.out (.brk (s1.1, s1.2))))
noncomputable def G_defect_crossed (x0 : Config) (a1 : Int) : Option (Bool) := (req (inb a1 2) ((loopω (G_defect_crossed.b1 x0 a1) (1, false)).bind fun o => o.on (fun s1 => some false) (fun r => some r)))
theorem G_defect_crossed.calls (x0 : Config) (a1 : Int) (sv0 : SV) (w : World) {S : Nat → Prop} (hx0 : (kd_Config).cont S w x0 sv0) (r : Bool) (h : G_defect_crossed x0 a1 = some r) :
    Calls Tryz.prog 234 #[.agg ((kd_Config).cells x0 sv0).toArray, .int .i64 a1] w fun e w' => e = .returned (.bool r) ∧ Below w.heap.size w w' := by
  replace hx0 := Kd.lo _ hx0
  unfold G_defect_crossed at h
  have H0 := h
  clear h
  refine enter Tryz.func234 rfl [.agg ((kd_Config).cells x0 sv0).toArray, .int .i64 a1] (n := 46) rfl (Nat.le_of_ble_eq_true rfl) (fun a hI => ?_)
  have hF : FOpen Fence.wide := .inl rfl
  have hE := Ep.start w
  refine sr0_ hF hI (s_ [e_ 4 (.bool false), p_ 2 0 0, e_ 1 (.int .i64 a1)] [((((kd_Config).cells x0 sv0).map EV.v), 29)]) (by kernel_rfl) (fun ns_1 a w_2 hI => ?_)
  obtain ⟨hE', hmv, hmr⟩ := Ep.rebase hE hI
  replace hx0 := Kd.keep _ hx0 (hmv _)
  replace hE := hE'; replace hI := hI.rebase; clear hE' hmv hmr
  have hct := contI (S := Lo S w w_2 ns_1 []) (w := w_2) (d := kd_Config) (x := x0) (sv := sv0) ⟨⟨hx0.1.1, hx0.1.2⟩, ⟨hx0.2.1.1, hx0.2.1.2⟩, ⟨hx0.2.2.1.1, hx0.2.2.1.2⟩, ⟨hx0.2.2.2.1.1, hx0.2.2.2.1.2⟩, trivial⟩
  obtain ⟨B_3, ns_5, hE', hI', hmv, hB_4⟩ := freeze_ (d := kd_Config) hE hI 0 x0 sv0 29 rfl
  replace hB_4 := hB_4 _ hct
  clear hct
  have hmr := hmr_ ([] : List (List Nat)) w_2
  replace hx0 := Kd.keep _ hx0 (hmv _)
  replace hE := hE'; replace hI := hI'; clear hE' hI' hmv hmr
  obtain ⟨ns_6, hE', hI', hmv⟩ := hE.cut hI [4, 2, 1] 0 (s_ [e_ 4 (.bool false), e_ 2 (.pointer (some B_3)), e_ 1 (.int .i64 a1)] []) (by kernel_rfl)
  have hmr := hmr_ ([] : List (List Nat)) w_2
  replace hx0 := Kd.keep _ hx0 (hmv _)
  replace hB_4 := El.keep hB_4 (hmv _)
  replace hE := hE'; replace hI := hI'; clear hE' hI' hmv hmr
  obtain ⟨hN_7, H0⟩ := req_some H0
  have hE_9 := elA_St27 (El.part (e := kd_St27) hB_4 2 x0.Frames (svO sv0 2) ⟨(hB_4).cont.2.2.1, (hB_4).cont.2.2.2.1, trivial⟩ rfl) hN_7
  refine sr_ (orc := [[.slice (((svO (svO sv0 2) ((a1 : Int).toNat * 1)) 0).1) ((rdA_St27 x0.Frames a1).Windows).length (((svO (svO sv0 2) ((a1 : Int).toNat * 1)) 0).2)]]) hF hI (s_ [e_ 5 (.slice (((svO (svO sv0 2) ((a1 : Int).toNat * 1)) 0).1) ((rdA_St27 x0.Frames a1).Windows).length (((svO (svO sv0 2) ((a1 : Int).toNat * 1)) 0).2)), e_ 4 (.bool false)] []) [.need true ((0 : Int) ≤ a1 ∧ a1 < ((2 : Nat) : Int)), .cell true (((B_3.add 2).add ((a1 : Int).toNat * 2)).add 1) [.slice (((svO (svO sv0 2) ((a1 : Int).toNat * 1)) 0).1) ((rdA_St27 x0.Frames a1).Windows).length (((svO (svO sv0 2) ((a1 : Int).toNat * 1)) 0).2)]] (by kernel_rfl) ⟨ob_inb (fun _ => hN_7), ob_el (fun _ => hE_9) 1 [.slice (((svO (svO sv0 2) ((a1 : Int).toNat * 1)) 0).1) ((rdA_St27 x0.Frames a1).Windows).length (((svO (svO sv0 2) ((a1 : Int).toNat * 1)) 0).2)] rfl, trivial⟩ (fun ns_10 a w_11 hI => ?_)
  refine wpIn_seq ?_
  refine sr0_ hF hI (s_ [e_ 6 (.int .i64 1), e_ 5 (.slice (((svO (svO sv0 2) ((a1 : Int).toNat * 1)) 0).1) ((rdA_St27 x0.Frames a1).Windows).length (((svO (svO sv0 2) ((a1 : Int).toNat * 1)) 0).2)), e_ 4 (.bool false)] []) (by kernel_rfl) (fun ns_12 a w_13 hI => ?_)
  obtain ⟨hE', hmv, hmr⟩ := Ep.rebase hE hI
  replace hx0 := Kd.keep _ hx0 (hmv _)
  replace hB_4 := El.keep hB_4 (hmv _)
  replace hE_9 := El.keep hE_9 (hmv _)
  replace hE := hE'; replace hI := hI.rebase; clear hE' hmv hmr
  obtain ⟨o_45, hL_46, H0⟩ := bind_some H0
  refine block_loop (fun (s1 : Int × Bool) a w_52 => ∃ (ow ns : List Nat) , ((kd_Config).cont (Lo S w w_52 ow []) w_52 x0 sv0) ∧ (El kd_Config (Lo S w w_52 ow []) w_52 B_3 x0 sv0) ∧ (El kd_Frame (Lo S w w_52 ow []) w_52 ((B_3.add 2).add ((a1 : Int).toNat * 2)) (rdA_St27 x0.Frames a1) (svO (svO sv0 2) ((a1 : Int).toNat * 1))) ∧ Ep [] w w_52 ow [] ∧ St w_52 ow 46 (s_ [e_ 6 (.int .i64 s1.1), e_ 5 (.slice (((svO (svO sv0 2) ((a1 : Int).toNat * 1)) 0).1) ((rdA_St27 x0.Frames a1).Windows).length (((svO (svO sv0 2) ((a1 : Int).toNat * 1)) 0).2)), e_ 4 (.bool s1.2)] []) ns a w_52) (1, false) hL_46 ⟨_, _, hx0, hB_4, hE_9, hE, hI.pick [6, 5, 4] 0 (s_ [e_ 6 (.int .i64 1), e_ 5 (.slice (((svO (svO sv0 2) ((a1 : Int).toNat * 1)) 0).1) ((rdA_St27 x0.Frames a1).Windows).length (((svO (svO sv0 2) ((a1 : Int).toNat * 1)) 0).2)), e_ 4 (.bool false)] []) (by kernel_rfl)⟩ ?_ ?_
  ·clear hI hE
   rintro s1 a w_14 ⟨ow_16, ns_15, hx0, hB_4, hE_9, hE, hI⟩ r1 H1
   unfold G_defect_crossed.b1 at H1
   refine wpIn_seq ?_
   refine sr0_ hF hI (s_ [e_ 17 (.bool (decide (s1.1 < (((rdA_St27 x0.Frames a1).Windows).length : Int)))), e_ 6 (.int .i64 s1.1), e_ 5 (.slice (((svO (svO sv0 2) ((a1 : Int).toNat * 1)) 0).1) ((rdA_St27 x0.Frames a1).Windows).length (((svO (svO sv0 2) ((a1 : Int).toNat * 1)) 0).2)), e_ 4 (.bool s1.2)] []) (by kernel_rfl) (fun ns_17 a w_18 hI => ?_)
   refine cond_ hI (decide (s1.1 < (((rdA_St27 x0.Frames a1).Windows).length : Int))) rfl (fun hc_19 => ?_) (fun hc_19 => ?_)
   ·replace H1 := bif_t hc_19 H1
    refine wpIn_skip ?_
    refine then_normal ?_
    refine wpIn_seq ?_
    refine wpIn_block ?_
    refine wpIn_seq ?_
    obtain ⟨hN_20, H1⟩ := req_some H1
    obtain ⟨sv_21, hE_23, hA_22⟩ := Arr.elB (d := kd_Window) (hE_9).cont.1.1 (IntKind.i64.wrap (s1.1 - 1)) true (fun _ => hN_20)
    replace hE_23 := hE_23 rfl
    replace hA_22 := fun (_ : true = true) => hA_22 rfl
    obtain ⟨hN_24, H1⟩ := req_some H1
    obtain ⟨sv_25, hE_27, hA_26⟩ := Arr.elB (d := kd_Window) (hE_9).cont.1.1 s1.1 true (fun _ => hN_24)
    replace hE_27 := hE_27 rfl
    replace hA_26 := fun (_ : true = true) => hA_26 rfl
    refine drawnW_ (live := [8, 7, 6, 5, 4]) hF hI [.q [] [], .q [] [], .q [1] [], .q [0, 2] [], .q [3] [(kd_Window).cells (rd ((rdA_St27 x0.Frames a1).Windows) (IntKind.i64.wrap (s1.1 - 1))) sv_21], .q [] [], .q [] [], .q [5, 6] [], .q [7] [], .q [8] [[.int .i64 ((rd ((rdA_St27 x0.Frames a1).Windows) s1.1).Start)]], .al, .st 10 [4], .q [9] []] [.q 20 (.v (.slice (((svO (svO sv0 2) ((a1 : Int).toNat * 1)) 0).1) ((rdA_St27 x0.Frames a1).Windows).length (((svO (svO sv0 2) ((a1 : Int).toNat * 1)) 0).2))) [], .q 21 (.v (.int .i64 s1.1)) [], .q 22 (.v (.int .i64 (IntKind.i64.wrap (s1.1 - 1)))) [], .q 23 (.v (.pointer (some ((adr (((svO (svO sv0 2) ((a1 : Int).toNat * 1)) 0).1)).add (((IntKind.i64.wrap (s1.1 - 1)) : Int).toNat * 3))))) [.need true ((0 : Int) ≤ (IntKind.i64.wrap (s1.1 - 1)) ∧ (IntKind.i64.wrap (s1.1 - 1)) < (((rdA_St27 x0.Frames a1).Windows).length : Int)), .need true (((svO (svO sv0 2) ((a1 : Int).toNat * 1)) 0).1 = some (adr (((svO (svO sv0 2) ((a1 : Int).toNat * 1)) 0).1)))], .q 24 (.v (.agg ((kd_Window).cells (rd ((rdA_St27 x0.Frames a1).Windows) (IntKind.i64.wrap (s1.1 - 1))) sv_21).toArray)) [.cell true ((adr (((svO (svO sv0 2) ((a1 : Int).toNat * 1)) 0).1)).add (((IntKind.i64.wrap (s1.1 - 1)) : Int).toNat * 3)) ((kd_Window).cells (rd ((rdA_St27 x0.Frames a1).Windows) (IntKind.i64.wrap (s1.1 - 1))) sv_21)], .q 25 (.v (.slice (((svO (svO sv0 2) ((a1 : Int).toNat * 1)) 0).1) ((rdA_St27 x0.Frames a1).Windows).length (((svO (svO sv0 2) ((a1 : Int).toNat * 1)) 0).2))) [], .q 26 (.v (.int .i64 s1.1)) [], .q 27 (.v (.pointer (some ((adr (((svO (svO sv0 2) ((a1 : Int).toNat * 1)) 0).1)).add ((s1.1 : Int).toNat * 3))))) [.need true ((0 : Int) ≤ s1.1 ∧ s1.1 < (((rdA_St27 x0.Frames a1).Windows).length : Int)), .need true (((svO (svO sv0 2) ((a1 : Int).toNat * 1)) 0).1 = some (adr (((svO (svO sv0 2) ((a1 : Int).toNat * 1)) 0).1)))], .q 28 (.v (.pointer (some (((adr (((svO (svO sv0 2) ((a1 : Int).toNat * 1)) 0).1)).add ((s1.1 : Int).toNat * 3)).add 1)))) [], .q 29 (.v (.int .i64 ((rd ((rdA_St27 x0.Frames a1).Windows) s1.1).Start))) [.cell true (((adr (((svO (svO sv0 2) ((a1 : Int).toNat * 1)) 0).1)).add ((s1.1 : Int).toNat * 3)).add 1) [.int .i64 ((rd ((rdA_St27 x0.Frames a1).Windows) s1.1).Start)]], .al 7 157 [.int .i64 0, .int .i64 0, .int .i64 0], .st 10 [.int .i64 ((rd ((rdA_St27 x0.Frames a1).Windows) (IntKind.i64.wrap (s1.1 - 1))).Part), .int .i64 ((rd ((rdA_St27 x0.Frames a1).Windows) (IntKind.i64.wrap (s1.1 - 1))).Start), .int .i64 ((rd ((rdA_St27 x0.Frames a1).Windows) (IntKind.i64.wrap (s1.1 - 1))).Len)], .q 8 (.v (.int .i64 ((rd ((rdA_St27 x0.Frames a1).Windows) s1.1).Start))) []] (s_ [e_ 8 (.int .i64 ((rd ((rdA_St27 x0.Frames a1).Windows) s1.1).Start)), p_ 7 0 0, e_ 6 (.int .i64 s1.1), e_ 5 (.slice (((svO (svO sv0 2) ((a1 : Int).toNat * 1)) 0).1) ((rdA_St27 x0.Frames a1).Windows).length (((svO (svO sv0 2) ((a1 : Int).toNat * 1)) 0).2)), e_ 4 (.bool s1.2)] [((((kd_Window).cells (rd ((rdA_St27 x0.Frames a1).Windows) (IntKind.i64.wrap (s1.1 - 1))) sv_21).map EV.v), 157)]) (by kernel_rfl) (by kernel_rfl) (by kernel_rfl) (by kernel_rfl) (by kernel_rfl) (show Obs _ _ _ [.need true ((0 : Int) ≤ (IntKind.i64.wrap (s1.1 - 1)) ∧ (IntKind.i64.wrap (s1.1 - 1)) < (((rdA_St27 x0.Frames a1).Windows).length : Int)), .need true (((svO (svO sv0 2) ((a1 : Int).toNat * 1)) 0).1 = some (adr (((svO (svO sv0 2) ((a1 : Int).toNat * 1)) 0).1))), .cell true ((adr (((svO (svO sv0 2) ((a1 : Int).toNat * 1)) 0).1)).add (((IntKind.i64.wrap (s1.1 - 1)) : Int).toNat * 3)) ((kd_Window).cells (rd ((rdA_St27 x0.Frames a1).Windows) (IntKind.i64.wrap (s1.1 - 1))) sv_21), .need true ((0 : Int) ≤ s1.1 ∧ s1.1 < (((rdA_St27 x0.Frames a1).Windows).length : Int)), .need true (((svO (svO sv0 2) ((a1 : Int).toNat * 1)) 0).1 = some (adr (((svO (svO sv0 2) ((a1 : Int).toNat * 1)) 0).1))), .cell true (((adr (((svO (svO sv0 2) ((a1 : Int).toNat * 1)) 0).1)).add ((s1.1 : Int).toNat * 3)).add 1) [.int .i64 ((rd ((rdA_St27 x0.Frames a1).Windows) s1.1).Start)]] from ⟨ob_inb (fun _ => hN_20), hA_22, ob_el (fun _ => hE_23) 0 ((kd_Window).cells (rd ((rdA_St27 x0.Frames a1).Windows) (IntKind.i64.wrap (s1.1 - 1))) sv_21) rfl, ob_inb (fun _ => hN_24), hA_26, ob_el (fun _ => hE_27) 1 [.int .i64 ((rd ((rdA_St27 x0.Frames a1).Windows) s1.1).Start)] rfl, trivial⟩) (fun ns_28 a w_29 hI => ?_)
    refine then_normal ?_
    refine wpIn_seq ?_
    refine wpIn_region_lit ?_
    refine ck0_ hF 5 hI (s_ [e_ 34 (.int .i64 ((rd ((rdA_St27 x0.Frames a1).Windows) s1.1).Start)), e_ 33 (.int .i64 ((rd ((rdA_St27 x0.Frames a1).Windows) (IntKind.i64.wrap (s1.1 - 1))).Len)), e_ 31 (.int .i64 ((rd ((rdA_St27 x0.Frames a1).Windows) (IntKind.i64.wrap (s1.1 - 1))).Start)), e_ 8 (.int .i64 ((rd ((rdA_St27 x0.Frames a1).Windows) s1.1).Start)), p_ 7 0 0, e_ 6 (.int .i64 s1.1), e_ 5 (.slice (((svO (svO sv0 2) ((a1 : Int).toNat * 1)) 0).1) ((rdA_St27 x0.Frames a1).Windows).length (((svO (svO sv0 2) ((a1 : Int).toNat * 1)) 0).2)), e_ 4 (.bool s1.2)] [((((kd_Window).cells (rd ((rdA_St27 x0.Frames a1).Windows) (IntKind.i64.wrap (s1.1 - 1))) sv_21).map EV.v), 157)]) rfl (by kernel_rfl) (fun ns_30 a w_31 hI => ?_)
    obtain ⟨hE', hmv, hmr⟩ := Ep.rebase hE hI
    replace hx0 := Kd.keep _ hx0 (hmv _)
    replace hB_4 := El.keep hB_4 (hmv _)
    replace hE_9 := El.keep hE_9 (hmv _)
    replace hE_23 := El.keep hE_23 (hmv _)
    replace hE_27 := El.keep hE_27 (hmv _)
    replace hE := hE'; replace hI := hI.rebase; clear hE' hmv hmr
    refine buildSlice_ (S0 := S) (d := (Kd.int .i64)) (e := 3) hF hE hI (wanted_none rfl) rfl (by kernel_rfl) (cs := [.int .i64 ((rd ((rdA_St27 x0.Frames a1).Windows) (IntKind.i64.wrap (s1.1 - 1))).Start), .int .i64 ((rd ((rdA_St27 x0.Frames a1).Windows) (IntKind.i64.wrap (s1.1 - 1))).Len), .int .i64 ((rd ((rdA_St27 x0.Frames a1).Windows) s1.1).Start)]) (by kernel_rfl) [(rd ((rdA_St27 x0.Frames a1).Windows) (IntKind.i64.wrap (s1.1 - 1))).Start, (rd ((rdA_St27 x0.Frames a1).Windows) (IntKind.i64.wrap (s1.1 - 1))).Len, (rd ((rdA_St27 x0.Frames a1).Windows) s1.1).Start] [(svL []), (svL []), (svL [])] rfl rfl (by simp [maxLen]) (fun i x hi => by cases i with | zero => (simp only [List.getElem?_cons_zero, Option.some.injEq] at hi; subst hi; exact ⟨trivial, rfl⟩) | succ i => (simp only [List.getElem?_cons_succ] at hi; cases i with | zero => (simp only [List.getElem?_cons_zero, Option.some.injEq] at hi; subst hi; exact ⟨trivial, rfl⟩) | succ i => (simp only [List.getElem?_cons_succ] at hi; cases i with | zero => (simp only [List.getElem?_cons_zero, Option.some.injEq] at hi; subst hi; exact ⟨trivial, rfl⟩) | succ i => (simp only [List.getElem?_cons_succ] at hi; simp at hi)))) (fun A_32 => (s_ [e_ 35 (.slice A_32 ([(rd ((rdA_St27 x0.Frames a1).Windows) (IntKind.i64.wrap (s1.1 - 1))).Start, (rd ((rdA_St27 x0.Frames a1).Windows) (IntKind.i64.wrap (s1.1 - 1))).Len, (rd ((rdA_St27 x0.Frames a1).Windows) s1.1).Start] : List Int).length (([(rd ((rdA_St27 x0.Frames a1).Windows) (IntKind.i64.wrap (s1.1 - 1))).Start, (rd ((rdA_St27 x0.Frames a1).Windows) (IntKind.i64.wrap (s1.1 - 1))).Len, (rd ((rdA_St27 x0.Frames a1).Windows) s1.1).Start] : List Int).length)), e_ 34 (.int .i64 ((rd ((rdA_St27 x0.Frames a1).Windows) s1.1).Start)), e_ 33 (.int .i64 ((rd ((rdA_St27 x0.Frames a1).Windows) (IntKind.i64.wrap (s1.1 - 1))).Len)), e_ 31 (.int .i64 ((rd ((rdA_St27 x0.Frames a1).Windows) (IntKind.i64.wrap (s1.1 - 1))).Start)), e_ 8 (.int .i64 ((rd ((rdA_St27 x0.Frames a1).Windows) s1.1).Start)), p_ 7 0 0, e_ 6 (.int .i64 s1.1), e_ 5 (.slice (((svO (svO sv0 2) ((a1 : Int).toNat * 1)) 0).1) ((rdA_St27 x0.Frames a1).Windows).length (((svO (svO sv0 2) ((a1 : Int).toNat * 1)) 0).2)), e_ 4 (.bool s1.2)] [((((kd_Window).cells (rd ((rdA_St27 x0.Frames a1).Windows) (IntKind.i64.wrap (s1.1 - 1))) sv_21).map EV.v), 157)])) (fun A_32 => by kernel_rfl) (fun A_32 a w_34 hput hE' hI' hmv hmr hq_33 => ?_)
    replace hx0 := Kd.keep _ hx0 (hmv _)
    replace hB_4 := El.keep hB_4 (hmv _)
    replace hE_9 := El.keep hE_9 (hmv _)
    replace hE_23 := El.keep hE_23 (hmv _)
    replace hE_27 := El.keep hE_27 (hmv _)
    replace hE := hE'; replace hI := hI'; clear hE' hI' hmv hmr
    obtain ⟨t_35, hG_36, H1⟩ := bind_some H1
    refine ck_ (orc := [[.bool t_35]]) hF 10 hI (s_ [e_ 45 (.bool (t_35 && decide (((rd ((rdA_St27 x0.Frames a1).Windows) s1.1).Start) < (IntKind.i64.wrap (((rd ((rdA_St27 x0.Frames a1).Windows) (IntKind.i64.wrap (s1.1 - 1))).Start) + ((rd ((rdA_St27 x0.Frames a1).Windows) (IntKind.i64.wrap (s1.1 - 1))).Len)))))), e_ 6 (.int .i64 s1.1), e_ 5 (.slice (((svO (svO sv0 2) ((a1 : Int).toNat * 1)) 0).1) ((rdA_St27 x0.Frames a1).Windows).length (((svO (svO sv0 2) ((a1 : Int).toNat * 1)) 0).2)), e_ 4 (.bool s1.2)] [((((kd_Window).cells (rd ((rdA_St27 x0.Frames a1).Windows) (IntKind.i64.wrap (s1.1 - 1))) sv_21).map EV.v), 157)]) [.call true 251 [.slice A_32 ([(rd ((rdA_St27 x0.Frames a1).Windows) (IntKind.i64.wrap (s1.1 - 1))).Start, (rd ((rdA_St27 x0.Frames a1).Windows) (IntKind.i64.wrap (s1.1 - 1))).Len, (rd ((rdA_St27 x0.Frames a1).Windows) s1.1).Start] : List Int).length (([(rd ((rdA_St27 x0.Frames a1).Windows) (IntKind.i64.wrap (s1.1 - 1))).Start, (rd ((rdA_St27 x0.Frames a1).Windows) (IntKind.i64.wrap (s1.1 - 1))).Len, (rd ((rdA_St27 x0.Frames a1).Windows) s1.1).Start] : List Int).length)] (.bool t_35)] rfl (by kernel_rfl) ⟨ob_call (enters Tryz.func251 (by kernel_rfl) rfl) (fun hg wz hk => G_defect_small.calls ([(rd ((rdA_St27 x0.Frames a1).Windows) (IntKind.i64.wrap (s1.1 - 1))).Start, (rd ((rdA_St27 x0.Frames a1).Windows) (IntKind.i64.wrap (s1.1 - 1))).Len, (rd ((rdA_St27 x0.Frames a1).Windows) s1.1).Start] : List Int) A_32 (([(rd ((rdA_St27 x0.Frames a1).Windows) (IntKind.i64.wrap (s1.1 - 1))).Start, (rd ((rdA_St27 x0.Frames a1).Windows) (IntKind.i64.wrap (s1.1 - 1))).Len, (rd ((rdA_St27 x0.Frames a1).Windows) s1.1).Start] : List Int).length) wz (S := fun _ => True) (Row.arr (S' := fun _ => True) (Row.on hq_33 hE (by simp) hk) (fun _ _ => trivial) (fun _ _ => trivial)).1 (Row.arr (S' := fun _ => True) hq_33 (fun _ _ => trivial) (fun _ _ => trivial)).2 _ hG_36), trivial⟩ (fun ns_37 a w_38 hI => ?_)
    refine wpListIn_nil ?_
    refine then_normal ?_
    refine cond_ hI ((t_35 && decide (((rd ((rdA_St27 x0.Frames a1).Windows) s1.1).Start) < (IntKind.i64.wrap (((rd ((rdA_St27 x0.Frames a1).Windows) (IntKind.i64.wrap (s1.1 - 1))).Start) + ((rd ((rdA_St27 x0.Frames a1).Windows) (IntKind.i64.wrap (s1.1 - 1))).Len)))))) rfl (fun hc_39 => ?_) (fun hc_39 => ?_)
    ·replace H1 := bif_t hc_39 H1
     refine sr0_ hF hI (s_ [e_ 4 (.bool true)] [((((kd_Window).cells (rd ((rdA_St27 x0.Frames a1).Windows) (IntKind.i64.wrap (s1.1 - 1))) sv_21).map EV.v), 157)]) (by kernel_rfl) (fun ns_40 a w_41 hI => ?_)
     refine wpIn_ret ?_
     refine inBlock_ret ?_
     refine then_ret ?_
     refine then_ret ?_
     obtain rfl := Option.some.inj H1
     refine .inr ⟨_, rfl, fun ho => ?_⟩
     subst ho
     refine inBlock_ret ?_
     refine then_ret ?_
     obtain rfl := Option.some.inj H0
     exact ret1 hI rfl rfl ⟨rfl, hE.below hI⟩
    ·replace H1 := bif_f hc_39 H1
     refine wpIn_skip ?_
     refine inBlock_normal ?_
     refine then_normal ?_
     refine rg0_ hF hI (s_ [e_ 6 (.int .i64 (IntKind.i64.wrap (s1.1 + 1))), e_ 5 (.slice (((svO (svO sv0 2) ((a1 : Int).toNat * 1)) 0).1) ((rdA_St27 x0.Frames a1).Windows).length (((svO (svO sv0 2) ((a1 : Int).toNat * 1)) 0).2)), e_ 4 (.bool s1.2)] [((((kd_Window).cells (rd ((rdA_St27 x0.Frames a1).Windows) (IntKind.i64.wrap (s1.1 - 1))) sv_21).map EV.v), 157)]) (by kernel_rfl) (fun ns_42 a w_43 hI => ?_)
     refine then_normal ?_
     obtain ⟨hE', hmv, hmr⟩ := Ep.rebase hE hI
     replace hx0 := Kd.keep _ hx0 (hmv _)
     replace hB_4 := El.keep hB_4 (hmv _)
     replace hE_9 := El.keep hE_9 (hmv _)
     replace hE_23 := El.keep hE_23 (hmv _)
     replace hE_27 := El.keep hE_27 (hmv _)
     replace hq_33 := Row.keep hq_33 (hmv _) (fun b hb => hmr b (by simp [hb]))
     replace hE := hE'; replace hI := hI.rebase; clear hE' hmv hmr
     obtain ⟨hE', hmv, hq_33, hcap_44⟩ := Row.still (l1 := []) (l2 := []) hq_33 (Nat.le_refl _) hE
     have hmr := hmr_ ([rb A_32] : List (List Nat)) w_43
     replace hx0 := Kd.keep _ hx0 (hmv _)
     replace hB_4 := El.keep hB_4 (hmv _)
     replace hE_9 := El.keep hE_9 (hmv _)
     replace hE_23 := El.keep hE_23 (hmv _)
     replace hE_27 := El.keep hE_27 (hmv _)
     replace hE := hE'
     clear hE' hmv hmr
     obtain rfl := Option.some.inj H1
     exact ⟨_, rfl, ⟨_, _, hx0, hB_4, hE_9, hE, hI.pick [6, 5, 4] 0 (s_ [e_ 6 (.int .i64 (IntKind.i64.wrap (s1.1 + 1))), e_ 5 (.slice (((svO (svO sv0 2) ((a1 : Int).toNat * 1)) 0).1) ((rdA_St27 x0.Frames a1).Windows).length (((svO (svO sv0 2) ((a1 : Int).toNat * 1)) 0).2)), e_ 4 (.bool s1.2)] []) (by kernel_rfl)⟩⟩
   ·replace H1 := bif_f hc_19 H1
    refine wpIn_exit ?_
    refine then_exit ?_
    refine then_exit ?_
    obtain ⟨hE', hmv, hmr⟩ := Ep.rebase hE hI
    replace hx0 := Kd.keep _ hx0 (hmv _)
    replace hB_4 := El.keep hB_4 (hmv _)
    replace hE_9 := El.keep hE_9 (hmv _)
    replace hE := hE'; replace hI := hI.rebase; clear hE' hmv hmr
    obtain rfl := Option.some.inj H1
    exact .inl ⟨_, rfl, rfl, ⟨_, _, hx0, hB_4, hE_9, hE, hI.pick [6, 5, 4] 0 (s_ [e_ 6 (.int .i64 s1.1), e_ 5 (.slice (((svO (svO sv0 2) ((a1 : Int).toNat * 1)) 0).1) ((rdA_St27 x0.Frames a1).Windows).length (((svO (svO sv0 2) ((a1 : Int).toNat * 1)) 0).2)), e_ 4 (.bool s1.2)] []) (by kernel_rfl)⟩⟩
  ·clear hI hE
   rintro s1 a w_47 ho ⟨ow_49, ns_48, hx0, hB_4, hE_9, hE, hI⟩
   subst ho
   replace H0 : (some false : Option (Bool)) = _ := H0
   refine then_normal ?_
   refine sr0_ hF hI (s_ [e_ 4 (.bool false)] []) (by kernel_rfl) (fun ns_50 a w_51 hI => ?_)
   refine wpIn_ret ?_
   obtain rfl := Option.some.inj H0
   exact ret1 hI rfl rfl ⟨rfl, hE.below hI⟩

noncomputable def Fn181.run (f : Fn181) (x0 : Config) (a1 : Int) : Option (Bool) := match f with
  | .f247 c0 => G_defect_window_1 x0 a1 c0
  | .f229 => G_defect_rules_12 x0 a1
  | .f230 => G_defect_rules_13 x0 a1
  | .f234 => G_defect_crossed x0 a1
theorem Fn181.ent (f : Fn181) (args : Array Value) (w : World) : (callFunc (fid181 f) args).run Tryz.prog w = .ok (.enter (fid181 f) args) w := by
  cases f with
  | f247 _ => exact enters Tryz.func247 (by kernel_rfl) rfl args w
  | f229 => exact enters Tryz.func229 (by kernel_rfl) rfl args w
  | f230 => exact enters Tryz.func230 (by kernel_rfl) rfl args w
  | f234 => exact enters Tryz.func234 (by kernel_rfl) rfl args w
theorem Fn181.calls (f : Fn181) (x0 : Config) (a1 : Int) (svf : SV) (sv0 : SV) (w : World) {S : Nat → Prop} (hf : (kdF181).cont S w f svf) (hx0 : (kd_Config).cont S w x0 sv0) (r : Bool) (h : Fn181.run f x0 a1 = some r) :
    Calls Tryz.prog (fid181 f) (([.agg ((kd_Config).cells x0 sv0).toArray, .int .i64 a1] : List Value) ++ (fca181 f svf).toList).toArray w fun e w' => e = .returned (.bool r) ∧ Below w.heap.size w w' := by
  cases f with
  | f247 c0 => exact G_defect_window_1.calls x0 a1 c0 sv0 (adr (svf 0).1) (svO svf 1) w hx0 hf r h
  | f229 => exact G_defect_rules_12.calls x0 a1  sv0  w hx0  r h
  | f230 => exact G_defect_rules_13.calls x0 a1  sv0  w hx0  r h
  | f234 => exact G_defect_crossed.calls x0 a1  sv0  w hx0  r h

noncomputable def G_defect_frame_1 (x0 : Config) (y1 : Fn181) : Option (Bool) := ((Fn181.run y1 x0 0).bind fun t_3 => ((cal (!t_3) (Fn181.run y1 x0 1) default).bind fun t_5 => some (t_3 || t_5)))
theorem G_defect_frame_1.calls (x0 : Config) (y1 : Fn181) (sv0 : SV) (B1 : Addr) (sv1 : SV) (w : World) {S : Nat → Prop} (hx0 : (kd_Config).cont S w x0 sv0) (hB1 : El kdF181 S w B1 y1 sv1) (r : Bool) (h : G_defect_frame_1 x0 y1 = some r) :
    Calls Tryz.prog 246 #[.agg ((kd_Config).cells x0 sv0).toArray, .pointer (some B1)] w fun e w' => e = .returned (.bool r) ∧ Below w.heap.size w w' := by
  replace hx0 := Kd.lo _ hx0
  replace hB1 := El.lo hB1
  unfold G_defect_frame_1 at h
  have H0 := h
  clear h
  refine enter Tryz.func246 rfl [.agg ((kd_Config).cells x0 sv0).toArray, .pointer (some B1)] (n := 12) rfl (Nat.le_of_ble_eq_true rfl) (fun a hI => ?_)
  have hF : FOpen Fence.wide := .inl rfl
  have hE := Ep.start w
  refine sr0_ hF hI (s_ [e_ 3 (.bool false), p_ 2 0 0, e_ 1 (.pointer (some B1))] [((((kd_Config).cells x0 sv0).map EV.v), 29)]) (by kernel_rfl) (fun ns_1 a w_2 hI => ?_)
  obtain ⟨t_3, hG_4, H0⟩ := bind_some H0
  obtain ⟨t_5, hG_6, H0⟩ := bind_some H0
  refine sr_ (orc := [[fnv181 y1 sv1], [.bool t_3], [fnv181 y1 sv1], [.bool t_5]]) hF hI (s_ [e_ 3 (.bool (t_3 || t_5))] [((((kd_Config).cells x0 sv0).map EV.v), 29)]) [.cell true B1 [fnv181 y1 sv1], .call true (fid181 y1) (([.agg ((kd_Config).cells x0 sv0).toArray, .int .i64 0] : List Value) ++ (fca181 y1 sv1).toList) (.bool t_3), .cell (!t_3) B1 [fnv181 y1 sv1], .call (!t_3) (fid181 y1) (([.agg ((kd_Config).cells x0 sv0).toArray, .int .i64 1] : List Value) ++ (fca181 y1 sv1).toList) (.bool t_5)] (by kernel_rfl) ⟨ob_el (fun _ => hB1) 0 [fnv181 y1 sv1] rfl, ob_call (Fn181.ent y1) (fun hg wz hk => Fn181.calls y1 x0 0 sv1 sv0 wz (S := fun _ => True) (Kd.any _ (Kd.keep kdF181 (hB1).cont (Lo.on hk))) (Kd.any _ (Kd.keep kd_Config (contI (S := Lo S w w [] []) (w := w) (d := kd_Config) (x := x0) (sv := sv0) ⟨⟨hx0.1.1, hx0.1.2⟩, ⟨hx0.2.1.1, hx0.2.1.2⟩, ⟨hx0.2.2.1.1, hx0.2.2.1.2⟩, ⟨hx0.2.2.2.1.1, hx0.2.2.2.1.2⟩, trivial⟩) (Lo.on hk))) _ hG_4), ob_el (fun _ => hB1) 0 [fnv181 y1 sv1] rfl, ob_call (Fn181.ent y1) (fun hg wz hk => Fn181.calls y1 x0 1 sv1 sv0 wz (S := fun _ => True) (Kd.any _ (Kd.keep kdF181 (hB1).cont (Lo.on hk))) (Kd.any _ (Kd.keep kd_Config (contI (S := Lo S w w [] []) (w := w) (d := kd_Config) (x := x0) (sv := sv0) ⟨⟨hx0.1.1, hx0.1.2⟩, ⟨hx0.2.1.1, hx0.2.1.2⟩, ⟨hx0.2.2.1.1, hx0.2.2.1.2⟩, ⟨hx0.2.2.2.1.1, hx0.2.2.2.1.2⟩, trivial⟩) (Lo.on hk))) _ (cal_some hG_6 hg)), trivial⟩ (fun ns_7 a w_8 hI => ?_)
  refine wpIn_ret ?_
  obtain rfl := Option.some.inj H0
  exact ret1 hI rfl rfl ⟨rfl, hE.below hI⟩

noncomputable def G_defect_rules_1 (x0 : Config) : Option (Bool) := ((G_defect_within (x0.Parts.length : Int) 1 6).bind fun t_3 => some (!t_3))
theorem G_defect_rules_1.calls (x0 : Config) (sv0 : SV) (w : World) {S : Nat → Prop} (hx0 : (kd_Config).cont S w x0 sv0) (r : Bool) (h : G_defect_rules_1 x0 = some r) :
    Calls Tryz.prog 211 #[.agg ((kd_Config).cells x0 sv0).toArray] w fun e w' => e = .returned (.bool r) ∧ Below w.heap.size w w' := by
  replace hx0 := Kd.lo _ hx0
  unfold G_defect_rules_1 at h
  have H0 := h
  clear h
  refine enter Tryz.func211 rfl [.agg ((kd_Config).cells x0 sv0).toArray] (n := 8) rfl (Nat.le_of_ble_eq_true rfl) (fun a hI => ?_)
  have hF : FOpen Fence.wide := .inl rfl
  have hE := Ep.start w
  refine sr0_ hF hI (s_ [e_ 2 (.bool false), p_ 1 0 0] [((((kd_Config).cells x0 sv0).map EV.v), 29)]) (by kernel_rfl) (fun ns_1 a w_2 hI => ?_)
  obtain ⟨t_3, hG_4, H0⟩ := bind_some H0
  refine sr_ (orc := [[.bool t_3]]) hF hI (s_ [e_ 2 (.bool (!t_3))] [((((kd_Config).cells x0 sv0).map EV.v), 29)]) [.call true 212 [.int .i64 (x0.Parts.length : Int), .int .i64 1, .int .i64 6] (.bool t_3)] (by kernel_rfl) ⟨ob_call (enters Tryz.func212 (by kernel_rfl) rfl) (fun hg wz hk => G_defect_within.calls (x0.Parts.length : Int) 1 6  wz (S := fun _ => True)  _ hG_4), trivial⟩ (fun ns_5 a w_6 hI => ?_)
  refine wpIn_ret ?_
  obtain rfl := Option.some.inj H0
  exact ret1 hI rfl rfl ⟨rfl, hE.below hI⟩

noncomputable def G_defect_rules_4 (x0 : Config) : Option (Bool) := some (decide ((x0.Chans.length : Int) > 8))
theorem G_defect_rules_4.calls (x0 : Config) (sv0 : SV) (w : World) {S : Nat → Prop} (hx0 : (kd_Config).cont S w x0 sv0) (r : Bool) (h : G_defect_rules_4 x0 = some r) :
    Calls Tryz.prog 216 #[.agg ((kd_Config).cells x0 sv0).toArray] w fun e w' => e = .returned (.bool r) ∧ Below w.heap.size w w' := by
  replace hx0 := Kd.lo _ hx0
  unfold G_defect_rules_4 at h
  have H0 := h
  clear h
  refine enter Tryz.func216 rfl [.agg ((kd_Config).cells x0 sv0).toArray] (n := 7) rfl (Nat.le_of_ble_eq_true rfl) (fun a hI => ?_)
  have hF : FOpen Fence.wide := .inl rfl
  have hE := Ep.start w
  refine sr0_ hF hI (s_ [e_ 2 (.bool false), p_ 1 0 0] [((((kd_Config).cells x0 sv0).map EV.v), 29)]) (by kernel_rfl) (fun ns_1 a w_2 hI => ?_)
  refine sr0_ hF hI (s_ [e_ 2 (.bool (decide ((x0.Chans.length : Int) > 8)))] [((((kd_Config).cells x0 sv0).map EV.v), 29)]) (by kernel_rfl) (fun ns_3 a w_4 hI => ?_)
  refine wpIn_ret ?_
  obtain rfl := Option.some.inj H0
  exact ret1 hI rfl rfl ⟨rfl, hE.below hI⟩

end Go.Proofs.YtiiidfgdejfhhaaGreatDoor
