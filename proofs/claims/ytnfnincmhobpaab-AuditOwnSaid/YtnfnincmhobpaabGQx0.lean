import Derived.Test.YtnfnincmhobpaabProg
import Derived.Test.YtnfnincmhobpaabEng
set_option linter.unusedVariables false
set_option linter.unusedSimpArgs false
namespace Go.Proofs.Ytnfnincmhobpaab
open Go Go.RowKit Go.Eng Go.Proofs

structure Part where
  Core : Int
  Private : Int
  deriving Inhabited, DecidableEq
def kd_Part : Kd Part := ⟨2, fun x sv => [.int .i64 x.Core, .int .i64 x.Private], fun S w x sv => True, fun _ _ => rfl, Nat.le_of_ble_eq_true rfl, fun h hk => trivial⟩
theorem kd_one_Part (x : Part) (sv : SV) (u : Value) (hu : u ∈ kd_Part.cells x sv) : u.oneCell' = true := by
  simp only [kd_Part, List.mem_cons, List.not_mem_nil, or_false] at hu
  rcases hu with rfl | rfl
  all_goals rfl
structure Chan where
  Kind : Int
  From : Int
  To : Int
  Words : Int
  Depth : Int
  Period : Int
  Boot : Int
  deriving Inhabited, DecidableEq
def kd_Chan : Kd Chan := ⟨7, fun x sv => [.int .i64 x.Kind, .int .i64 x.From, .int .i64 x.To, .int .i64 x.Words, .int .i64 x.Depth, .int .i64 x.Period, .int .u32 x.Boot], fun S w x sv => True, fun _ _ => rfl, Nat.le_of_ble_eq_true rfl, fun h hk => trivial⟩
theorem kd_one_Chan (x : Chan) (sv : SV) (u : Value) (hu : u ∈ kd_Chan.cells x sv) : u.oneCell' = true := by
  simp only [kd_Chan, List.mem_cons, List.not_mem_nil, or_false] at hu
  rcases hu with rfl | rfl | rfl | rfl | rfl | rfl | rfl
  all_goals rfl
structure Window where
  Part : Int
  Start : Int
  Len : Int
  deriving Inhabited, DecidableEq
def kd_Window : Kd Window := ⟨3, fun x sv => [.int .i64 x.Part, .int .i64 x.Start, .int .i64 x.Len], fun S w x sv => True, fun _ _ => rfl, Nat.le_of_ble_eq_true rfl, fun h hk => trivial⟩
theorem kd_one_Window (x : Window) (sv : SV) (u : Value) (hu : u ∈ kd_Window.cells x sv) : u.oneCell' = true := by
  simp only [kd_Window, List.mem_cons, List.not_mem_nil, or_false] at hu
  rcases hu with rfl | rfl | rfl
  all_goals rfl
structure Frame where
  Length : Int
  Windows : (List Window)
  deriving Inhabited, DecidableEq
def kd_Frame : Kd Frame := ⟨2, fun x sv => [.int .i64 x.Length, .slice (sv 0).1 x.Windows.length (sv 0).2], fun S w x sv => (Arr kd_Window S w (sv 0).1 x.Windows ∧ x.Windows.length ≤ (sv 0).2) ∧ True, fun _ _ => rfl, Nat.le_of_ble_eq_true rfl, fun h hk => ⟨⟨h.1.1.keep hk, h.1.2⟩, trivial⟩⟩
theorem kd_one_Frame (x : Frame) (sv : SV) (u : Value) (hu : u ∈ kd_Frame.cells x sv) : u.oneCell' = true := by
  simp only [kd_Frame, List.mem_cons, List.not_mem_nil, or_false] at hu
  rcases hu with rfl | rfl
  all_goals rfl
structure St27 where
  e0 : Frame
  e1 : Frame
  deriving Inhabited, DecidableEq
def kd_St27 : Kd St27 := ⟨4, fun x sv => [.int .i64 x.e0.Length, .slice (sv 0).1 x.e0.Windows.length (sv 0).2, .int .i64 x.e1.Length, .slice (sv 1).1 x.e1.Windows.length (sv 1).2], fun S w x sv => (Arr kd_Window S w (sv 0).1 x.e0.Windows ∧ x.e0.Windows.length ≤ (sv 0).2) ∧ (Arr kd_Window S w (sv 1).1 x.e1.Windows ∧ x.e1.Windows.length ≤ (sv 1).2) ∧ True, fun _ _ => rfl, Nat.le_of_ble_eq_true rfl, fun h hk => ⟨⟨h.1.1.keep hk, h.1.2⟩, ⟨h.2.1.1.keep hk, h.2.1.2⟩, trivial⟩⟩
def rdA_St27 (x : St27) (i : Int) : Frame := if i = 0 then x.e0 else x.e1
theorem elA_St27 {S : Nat → Prop} {w : World} {B : Addr} {x : St27} {sv : SV} (h : El kd_St27 S w B x sv) {i : Int} (hi : inb i 2 = true) : El kd_Frame S w (B.add (i.toNat * 2)) (rdA_St27 x i) (svO sv (i.toNat * 1)) := by
  obtain ⟨h0, h1⟩ := inb_spec hi
  have : i = 0 ∨ i = 1 := by omega
  rcases this with rfl | rfl
  · exact El.part h (0 * 2) x.e0 (svO sv (0 * 1)) ⟨h.cont.1, trivial⟩ rfl
  · exact El.part h (1 * 2) x.e1 (svO sv (1 * 1)) ⟨h.cont.2.1, trivial⟩ rfl
theorem kd_one_St27 (x : St27) (sv : SV) (u : Value) (hu : u ∈ kd_St27.cells x sv) : u.oneCell' = true := by
  simp only [kd_St27, List.mem_cons, List.not_mem_nil, or_false] at hu
  rcases hu with rfl | rfl | rfl | rfl
  all_goals rfl
structure Config where
  Parts : (List Part)
  Chans : (List Chan)
  Frames : St27
  deriving Inhabited, DecidableEq
def kd_Config : Kd Config := ⟨6, fun x sv => [.slice (sv 0).1 x.Parts.length (sv 0).2, .slice (sv 1).1 x.Chans.length (sv 1).2, .int .i64 x.Frames.e0.Length, .slice (sv 2).1 x.Frames.e0.Windows.length (sv 2).2, .int .i64 x.Frames.e1.Length, .slice (sv 3).1 x.Frames.e1.Windows.length (sv 3).2], fun S w x sv => (Arr kd_Part S w (sv 0).1 x.Parts ∧ x.Parts.length ≤ (sv 0).2) ∧ (Arr kd_Chan S w (sv 1).1 x.Chans ∧ x.Chans.length ≤ (sv 1).2) ∧ (Arr kd_Window S w (sv 2).1 x.Frames.e0.Windows ∧ x.Frames.e0.Windows.length ≤ (sv 2).2) ∧ (Arr kd_Window S w (sv 3).1 x.Frames.e1.Windows ∧ x.Frames.e1.Windows.length ≤ (sv 3).2) ∧ True, fun _ _ => rfl, Nat.le_of_ble_eq_true rfl, fun h hk => ⟨⟨h.1.1.keep hk, h.1.2⟩, ⟨h.2.1.1.keep hk, h.2.1.2⟩, ⟨h.2.2.1.1.keep hk, h.2.2.1.2⟩, ⟨h.2.2.2.1.1.keep hk, h.2.2.2.1.2⟩, trivial⟩⟩
theorem kd_one_Config (x : Config) (sv : SV) (u : Value) (hu : u ∈ kd_Config.cells x sv) : u.oneCell' = true := by
  simp only [kd_Config, List.mem_cons, List.not_mem_nil, or_false] at hu
  rcases hu with rfl | rfl | rfl | rfl | rfl | rfl
  all_goals rfl
inductive Fn127 where
  | f95
  | f96
  deriving Inhabited, DecidableEq
def fid127 (x : Fn127) : Nat := match x with
  | .f95 => 95
  | .f96 => 96
def fca127 (x : Fn127) (sv : SV) : Array Value := match x with
  | .f95 => #[]
  | .f96 => #[]
def fnv127 (x : Fn127) (sv : SV) : Value := .func (.func (fid127 x)) #[] (fca127 x sv)
def fnc127 (S : Nat → Prop) (w : World) (x : Fn127) (sv : SV) : Prop := match x with
  | .f95 => True
  | .f96 => True
theorem fnk127 {S S' : Nat → Prop} {w w' : World} {x : Fn127} {sv : SV} (h : fnc127 S w x sv) (hk : ∀ b, S b → IsC w b → S' b ∧ w'.heap[b]? = w.heap[b]?) : fnc127 S' w' x sv := by
  cases x with
  | f95 => exact trivial
  | f96 => exact trivial
theorem fn1_127 (x : Fn127) (sv : SV) : (fnv127 x sv).oneCell' = true := rfl
theorem fnr127 {S : Nat → Prop} {w : World} {x y : Fn127} {sv : SV} (h : fnc127 S w x sv) (e : x = y) : fnc127 S w y sv := e ▸ h
def kdF127 : Kd Fn127 := ⟨1, fun x sv => [fnv127 x sv], fun S w x sv => fnc127 S w x sv, fun _ _ => rfl, Nat.one_pos, fun h hk => fnk127 h hk⟩
theorem kd_one_F127 (x : Fn127) (sv : SV) (u : Value) (hu : u ∈ kdF127.cells x sv) : u.oneCell' = true := by
  simp only [kdF127, List.mem_singleton] at hu
  subst hu; rfl
inductive Fn129 where
  | f99
  | f100
  | f102
  | f103
  | f104
  | f106
  | f108
  deriving Inhabited, DecidableEq
def fid129 (x : Fn129) : Nat := match x with
  | .f99 => 99
  | .f100 => 100
  | .f102 => 102
  | .f103 => 103
  | .f104 => 104
  | .f106 => 106
  | .f108 => 108
def fca129 (x : Fn129) (sv : SV) : Array Value := match x with
  | .f99 => #[]
  | .f100 => #[]
  | .f102 => #[]
  | .f103 => #[]
  | .f104 => #[]
  | .f106 => #[]
  | .f108 => #[]
def fnv129 (x : Fn129) (sv : SV) : Value := .func (.func (fid129 x)) #[] (fca129 x sv)
def fnc129 (S : Nat → Prop) (w : World) (x : Fn129) (sv : SV) : Prop := match x with
  | .f99 => True
  | .f100 => True
  | .f102 => True
  | .f103 => True
  | .f104 => True
  | .f106 => True
  | .f108 => True
theorem fnk129 {S S' : Nat → Prop} {w w' : World} {x : Fn129} {sv : SV} (h : fnc129 S w x sv) (hk : ∀ b, S b → IsC w b → S' b ∧ w'.heap[b]? = w.heap[b]?) : fnc129 S' w' x sv := by
  cases x with
  | f99 => exact trivial
  | f100 => exact trivial
  | f102 => exact trivial
  | f103 => exact trivial
  | f104 => exact trivial
  | f106 => exact trivial
  | f108 => exact trivial
theorem fn1_129 (x : Fn129) (sv : SV) : (fnv129 x sv).oneCell' = true := rfl
theorem fnr129 {S : Nat → Prop} {w : World} {x y : Fn129} {sv : SV} (h : fnc129 S w x sv) (e : x = y) : fnc129 S w y sv := e ▸ h
def kdF129 : Kd Fn129 := ⟨1, fun x sv => [fnv129 x sv], fun S w x sv => fnc129 S w x sv, fun _ _ => rfl, Nat.one_pos, fun h hk => fnk129 h hk⟩
theorem kd_one_F129 (x : Fn129) (sv : SV) (u : Value) (hu : u ∈ kdF129.cells x sv) : u.oneCell' = true := by
  simp only [kdF129, List.mem_singleton] at hu
  subst hu; rfl
inductive Fn133 where
  | f113
  | f114
  deriving Inhabited, DecidableEq
def fid133 (x : Fn133) : Nat := match x with
  | .f113 => 113
  | .f114 => 114
def fca133 (x : Fn133) (sv : SV) : Array Value := match x with
  | .f113 => #[]
  | .f114 => #[]
def fnv133 (x : Fn133) (sv : SV) : Value := .func (.func (fid133 x)) #[] (fca133 x sv)
def fnc133 (S : Nat → Prop) (w : World) (x : Fn133) (sv : SV) : Prop := match x with
  | .f113 => True
  | .f114 => True
theorem fnk133 {S S' : Nat → Prop} {w w' : World} {x : Fn133} {sv : SV} (h : fnc133 S w x sv) (hk : ∀ b, S b → IsC w b → S' b ∧ w'.heap[b]? = w.heap[b]?) : fnc133 S' w' x sv := by
  cases x with
  | f113 => exact trivial
  | f114 => exact trivial
theorem fn1_133 (x : Fn133) (sv : SV) : (fnv133 x sv).oneCell' = true := rfl
theorem fnr133 {S : Nat → Prop} {w : World} {x y : Fn133} {sv : SV} (h : fnc133 S w x sv) (e : x = y) : fnc133 S w y sv := e ▸ h
def kdF133 : Kd Fn133 := ⟨1, fun x sv => [fnv133 x sv], fun S w x sv => fnc133 S w x sv, fun _ _ => rfl, Nat.one_pos, fun h hk => fnk133 h hk⟩
theorem kd_one_F133 (x : Fn133) (sv : SV) (u : Value) (hu : u ∈ kdF133.cells x sv) : u.oneCell' = true := by
  simp only [kdF133, List.mem_singleton] at hu
  subst hu; rfl
inductive Fn100 where
  | f123 (c0 : Fn133)
  | f110
  | f111
  | f115
  deriving Inhabited, DecidableEq
def fid100 (x : Fn100) : Nat := match x with
  | .f123 _ => 123
  | .f110 => 110
  | .f111 => 111
  | .f115 => 115
def fca100 (x : Fn100) (sv : SV) : Array Value := match x with
  | .f123 _ => #[.pointer (some (adr (sv 0).1))]
  | .f110 => #[]
  | .f111 => #[]
  | .f115 => #[]
def fnv100 (x : Fn100) (sv : SV) : Value := .func (.func (fid100 x)) #[] (fca100 x sv)
def fnc100 (S : Nat → Prop) (w : World) (x : Fn100) (sv : SV) : Prop := match x with
  | .f123 c0 => El kdF133 S w (adr (sv 0).1) c0 (svO sv 1)
  | .f110 => True
  | .f111 => True
  | .f115 => True
theorem fnk100 {S S' : Nat → Prop} {w w' : World} {x : Fn100} {sv : SV} (h : fnc100 S w x sv) (hk : ∀ b, S b → IsC w b → S' b ∧ w'.heap[b]? = w.heap[b]?) : fnc100 S' w' x sv := by
  cases x with
  | f123 c0 => exact El.keep h hk
  | f110 => exact trivial
  | f111 => exact trivial
  | f115 => exact trivial
theorem fn1_100 (x : Fn100) (sv : SV) : (fnv100 x sv).oneCell' = true := rfl
theorem fnr100 {S : Nat → Prop} {w : World} {x y : Fn100} {sv : SV} (h : fnc100 S w x sv) (e : x = y) : fnc100 S w y sv := e ▸ h
def kdF100 : Kd Fn100 := ⟨1, fun x sv => [fnv100 x sv], fun S w x sv => fnc100 S w x sv, fun _ _ => rfl, Nat.one_pos, fun h hk => fnk100 h hk⟩
theorem kd_one_F100 (x : Fn100) (sv : SV) (u : Value) (hu : u ∈ kdF100.cells x sv) : u.oneCell' = true := by
  simp only [kdF100, List.mem_singleton] at hu
  subst hu; rfl
inductive Fn31 where
  | f117 (c0 : Fn127)
  | f119 (c0 : Fn129)
  | f122 (c0 : Fn100)
  | f92
  | f97
  | f116
  deriving Inhabited, DecidableEq
def fid31 (x : Fn31) : Nat := match x with
  | .f117 _ => 117
  | .f119 _ => 119
  | .f122 _ => 122
  | .f92 => 92
  | .f97 => 97
  | .f116 => 116
def fca31 (x : Fn31) (sv : SV) : Array Value := match x with
  | .f117 _ => #[.pointer (some (adr (sv 0).1))]
  | .f119 _ => #[.pointer (some (adr (sv 0).1))]
  | .f122 _ => #[.pointer (some (adr (sv 0).1))]
  | .f92 => #[]
  | .f97 => #[]
  | .f116 => #[]
def fnv31 (x : Fn31) (sv : SV) : Value := .func (.func (fid31 x)) #[] (fca31 x sv)
def fnc31 (S : Nat → Prop) (w : World) (x : Fn31) (sv : SV) : Prop := match x with
  | .f117 c0 => El kdF127 S w (adr (sv 0).1) c0 (svO sv 1)
  | .f119 c0 => El kdF129 S w (adr (sv 0).1) c0 (svO sv 1)
  | .f122 c0 => El kdF100 S w (adr (sv 0).1) c0 (svO sv 1)
  | .f92 => True
  | .f97 => True
  | .f116 => True
theorem fnk31 {S S' : Nat → Prop} {w w' : World} {x : Fn31} {sv : SV} (h : fnc31 S w x sv) (hk : ∀ b, S b → IsC w b → S' b ∧ w'.heap[b]? = w.heap[b]?) : fnc31 S' w' x sv := by
  cases x with
  | f117 c0 => exact El.keep h hk
  | f119 c0 => exact El.keep h hk
  | f122 c0 => exact El.keep h hk
  | f92 => exact trivial
  | f97 => exact trivial
  | f116 => exact trivial
theorem fn1_31 (x : Fn31) (sv : SV) : (fnv31 x sv).oneCell' = true := rfl
theorem fnr31 {S : Nat → Prop} {w : World} {x y : Fn31} {sv : SV} (h : fnc31 S w x sv) (e : x = y) : fnc31 S w y sv := e ▸ h
def kdF31 : Kd Fn31 := ⟨1, fun x sv => [fnv31 x sv], fun S w x sv => fnc31 S w x sv, fun _ _ => rfl, Nat.one_pos, fun h hk => fnk31 h hk⟩
theorem kd_one_F31 (x : Fn31) (sv : SV) (u : Value) (hu : u ∈ kdF31.cells x sv) : u.oneCell' = true := by
  simp only [kdF31, List.mem_singleton] at hu
  subst hu; rfl
structure Defect_rule where
  holds : Fn31
  deriving Inhabited, DecidableEq
def kd_Defect_rule : Kd Defect_rule := ⟨1, fun x sv => [(fnv31 x.holds sv)], fun S w x sv => (fnc31 S w x.holds sv) ∧ True, fun _ _ => rfl, Nat.le_of_ble_eq_true rfl, fun h hk => ⟨fnk31 h.1 hk, trivial⟩⟩
theorem kd_one_Defect_rule (x : Defect_rule) (sv : SV) (u : Value) (hu : u ∈ kd_Defect_rule.cells x sv) : u.oneCell' = true := by
  simp only [kd_Defect_rule, List.mem_cons, List.not_mem_nil, or_false] at hu
  subst hu; rfl
inductive Fn130 where
  | f121 (c0 : Fn129) (c1 : Config)
  deriving Inhabited, DecidableEq
def fid130 (x : Fn130) : Nat := match x with
  | .f121 _ _ => 121
def fca130 (x : Fn130) (sv : SV) : Array Value := match x with
  | .f121 _ _ => #[.pointer (some (adr (sv 0).1)), .pointer (some (adr (sv 1).1))]
def fnv130 (x : Fn130) (sv : SV) : Value := .func (.func (fid130 x)) #[] (fca130 x sv)
def fnc130 (S : Nat → Prop) (w : World) (x : Fn130) (sv : SV) : Prop := match x with
  | .f121 c0 c1 => El kdF129 S w (adr (sv 0).1) c0 (svO sv 1) ∧ El kd_Config S w (adr (sv 1).1) c1 (svO sv 2)
theorem fnk130 {S S' : Nat → Prop} {w w' : World} {x : Fn130} {sv : SV} (h : fnc130 S w x sv) (hk : ∀ b, S b → IsC w b → S' b ∧ w'.heap[b]? = w.heap[b]?) : fnc130 S' w' x sv := by
  cases x with
  | f121 c0 c1 => exact ⟨El.keep h.1 hk, El.keep h.2 hk⟩
theorem fn1_130 (x : Fn130) (sv : SV) : (fnv130 x sv).oneCell' = true := rfl
theorem fnr130 {S : Nat → Prop} {w : World} {x y : Fn130} {sv : SV} (h : fnc130 S w x sv) (e : x = y) : fnc130 S w y sv := e ▸ h
def kdF130 : Kd Fn130 := ⟨1, fun x sv => [fnv130 x sv], fun S w x sv => fnc130 S w x sv, fun _ _ => rfl, Nat.one_pos, fun h hk => fnk130 h hk⟩
theorem kd_one_F130 (x : Fn130) (sv : SV) (u : Value) (hu : u ∈ kdF130.cells x sv) : u.oneCell' = true := by
  simp only [kdF130, List.mem_singleton] at hu
  subst hu; rfl
inductive Fn137 where
  | f125 (c0 : Fn133) (c1 : Config) (c2 : Int)
  | f128 (c0 : Int)
  deriving Inhabited, DecidableEq
def fid137 (x : Fn137) : Nat := match x with
  | .f125 _ _ _ => 125
  | .f128 _ => 128
def fca137 (x : Fn137) (sv : SV) : Array Value := match x with
  | .f125 _ _ _ => #[.pointer (some (adr (sv 0).1)), .pointer (some (adr (sv 1).1)), .pointer (some (adr (sv 6).1))]
  | .f128 _ => #[.pointer (some (adr (sv 0).1))]
def fnv137 (x : Fn137) (sv : SV) : Value := .func (.func (fid137 x)) #[] (fca137 x sv)
def fnc137 (S : Nat → Prop) (w : World) (x : Fn137) (sv : SV) : Prop := match x with
  | .f125 c0 c1 c2 => El kdF133 S w (adr (sv 0).1) c0 (svO sv 1) ∧ El kd_Config S w (adr (sv 1).1) c1 (svO sv 2) ∧ El (Kd.int .i64) S w (adr (sv 6).1) c2 (svO sv 7)
  | .f128 c0 => El (Kd.int .i64) S w (adr (sv 0).1) c0 (svO sv 1)
theorem fnk137 {S S' : Nat → Prop} {w w' : World} {x : Fn137} {sv : SV} (h : fnc137 S w x sv) (hk : ∀ b, S b → IsC w b → S' b ∧ w'.heap[b]? = w.heap[b]?) : fnc137 S' w' x sv := by
  cases x with
  | f125 c0 c1 c2 => exact ⟨El.keep h.1 hk, El.keep h.2.1 hk, El.keep h.2.2 hk⟩
  | f128 c0 => exact El.keep h hk
theorem fn1_137 (x : Fn137) (sv : SV) : (fnv137 x sv).oneCell' = true := rfl
theorem fnr137 {S : Nat → Prop} {w : World} {x y : Fn137} {sv : SV} (h : fnc137 S w x sv) (e : x = y) : fnc137 S w y sv := e ▸ h
def kdF137 : Kd Fn137 := ⟨1, fun x sv => [fnv137 x sv], fun S w x sv => fnc137 S w x sv, fun _ _ => rfl, Nat.one_pos, fun h hk => fnk137 h hk⟩
theorem kd_one_F137 (x : Fn137) (sv : SV) (u : Value) (hu : u ∈ kdF137.cells x sv) : u.oneCell' = true := by
  simp only [kdF137, List.mem_singleton] at hu
  subst hu; rfl
structure Span where
  From : Int
  Size : Int
  deriving Inhabited, DecidableEq
def kd_Span : Kd Span := ⟨2, fun x sv => [.int .i64 x.From, .int .i64 x.Size], fun S w x sv => True, fun _ _ => rfl, Nat.le_of_ble_eq_true rfl, fun h hk => trivial⟩
theorem kd_one_Span (x : Span) (sv : SV) (u : Value) (hu : u ∈ kd_Span.cells x sv) : u.oneCell' = true := by
  simp only [kd_Span, List.mem_cons, List.not_mem_nil, or_false] at hu
  rcases hu with rfl | rfl
  all_goals rfl
structure Layout_plan where
  parts : Int
  l : (List Span)
  end_ : Int
  deriving Inhabited, DecidableEq
def kd_Layout_plan : Kd Layout_plan := ⟨3, fun x sv => [.int .i64 x.parts, .slice (sv 0).1 x.l.length (sv 0).2, .int .i64 x.end_], fun S w x sv => (Arr kd_Span S w (sv 0).1 x.l ∧ x.l.length ≤ (sv 0).2) ∧ True, fun _ _ => rfl, Nat.le_of_ble_eq_true rfl, fun h hk => ⟨⟨h.1.1.keep hk, h.1.2⟩, trivial⟩⟩
theorem kd_one_Layout_plan (x : Layout_plan) (sv : SV) (u : Value) (hu : u ∈ kd_Layout_plan.cells x sv) : u.oneCell' = true := by
  simp only [kd_Layout_plan, List.mem_cons, List.not_mem_nil, or_false] at hu
  rcases hu with rfl | rfl | rfl
  all_goals rfl
structure Portholelaw22_Times where
  Before : (List Int)
  After : (List Int)
  Was : (List Int)
  Is : (List Int)
  deriving Inhabited, DecidableEq
def kd_Portholelaw22_Times : Kd Portholelaw22_Times := ⟨4, fun x sv => [.slice (sv 0).1 x.Before.length (sv 0).2, .slice (sv 1).1 x.After.length (sv 1).2, .slice (sv 2).1 x.Was.length (sv 2).2, .slice (sv 3).1 x.Is.length (sv 3).2], fun S w x sv => (Arr (Kd.int .u32) S w (sv 0).1 x.Before ∧ x.Before.length ≤ (sv 0).2) ∧ (Arr (Kd.int .u32) S w (sv 1).1 x.After ∧ x.After.length ≤ (sv 1).2) ∧ (Arr (Kd.int .i64) S w (sv 2).1 x.Was ∧ x.Was.length ≤ (sv 2).2) ∧ (Arr (Kd.int .i64) S w (sv 3).1 x.Is ∧ x.Is.length ≤ (sv 3).2) ∧ True, fun _ _ => rfl, Nat.le_of_ble_eq_true rfl, fun h hk => ⟨⟨h.1.1.keep hk, h.1.2⟩, ⟨h.2.1.1.keep hk, h.2.1.2⟩, ⟨h.2.2.1.1.keep hk, h.2.2.1.2⟩, ⟨h.2.2.2.1.1.keep hk, h.2.2.2.1.2⟩, trivial⟩⟩
theorem kd_one_Portholelaw22_Times (x : Portholelaw22_Times) (sv : SV) (u : Value) (hu : u ∈ kd_Portholelaw22_Times.cells x sv) : u.oneCell' = true := by
  simp only [kd_Portholelaw22_Times, List.mem_cons, List.not_mem_nil, or_false] at hu
  rcases hu with rfl | rfl | rfl | rfl
  all_goals rfl

def wf_Part (x : Part) : Prop := (InK .i64) x.Core ∧ (InK .i64) x.Private
theorem op_Part : Opn Try.prog 86 kd_Part wf_Part := by
  refine ⟨by kernel_rfl, fun h => ?_⟩
  obtain ⟨xs, m, _, _, hlen, hxs, hf⟩ := DataW.trod_struct Try.underlying86 h
  obtain ⟨v0, s0, c0, k0, w0⟩ := opn_field hf hxs 0 _ rfl (Opn.int Try.underlying3 (by kernel_rfl))
  obtain ⟨v1, s1, c1, k1, w1⟩ := opn_field hf hxs 1 _ rfl (Opn.int Try.underlying3 (by kernel_rfl))
  exact ⟨⟨v0, v1⟩, svL [], (pieces_eq [1, 1] hlen (by kernel_rfl)).trans (app2 c0 (app2 c1 rfl)), trivial, ⟨w0, w1⟩⟩
def wf_Chan (x : Chan) : Prop := (InK .i64) x.Kind ∧ (InK .i64) x.From ∧ (InK .i64) x.To ∧ (InK .i64) x.Words ∧ (InK .i64) x.Depth ∧ (InK .i64) x.Period ∧ (InK .u32) x.Boot
theorem op_Chan : Opn Try.prog 74 kd_Chan wf_Chan := by
  refine ⟨by kernel_rfl, fun h => ?_⟩
  obtain ⟨xs, m, _, _, hlen, hxs, hf⟩ := DataW.trod_struct Try.underlying74 h
  obtain ⟨v0, s0, c0, k0, w0⟩ := opn_field hf hxs 0 _ rfl (Opn.int Try.underlying3 (by kernel_rfl))
  obtain ⟨v1, s1, c1, k1, w1⟩ := opn_field hf hxs 1 _ rfl (Opn.int Try.underlying3 (by kernel_rfl))
  obtain ⟨v2, s2, c2, k2, w2⟩ := opn_field hf hxs 2 _ rfl (Opn.int Try.underlying3 (by kernel_rfl))
  obtain ⟨v3, s3, c3, k3, w3⟩ := opn_field hf hxs 3 _ rfl (Opn.int Try.underlying3 (by kernel_rfl))
  obtain ⟨v4, s4, c4, k4, w4⟩ := opn_field hf hxs 4 _ rfl (Opn.int Try.underlying3 (by kernel_rfl))
  obtain ⟨v5, s5, c5, k5, w5⟩ := opn_field hf hxs 5 _ rfl (Opn.int Try.underlying3 (by kernel_rfl))
  obtain ⟨v6, s6, c6, k6, w6⟩ := opn_field hf hxs 6 _ rfl (Opn.int Try.underlying72 (by kernel_rfl))
  exact ⟨⟨v0, v1, v2, v3, v4, v5, v6⟩, svL [], (pieces_eq [1, 1, 1, 1, 1, 1, 1] hlen (by kernel_rfl)).trans (app2 c0 (app2 c1 (app2 c2 (app2 c3 (app2 c4 (app2 c5 (app2 c6 rfl))))))), trivial, ⟨w0, w1, w2, w3, w4, w5, w6⟩⟩
def wf_Window (x : Window) : Prop := (InK .i64) x.Part ∧ (InK .i64) x.Start ∧ (InK .i64) x.Len
theorem op_Window : Opn Try.prog 88 kd_Window wf_Window := by
  refine ⟨by kernel_rfl, fun h => ?_⟩
  obtain ⟨xs, m, _, _, hlen, hxs, hf⟩ := DataW.trod_struct Try.underlying88 h
  obtain ⟨v0, s0, c0, k0, w0⟩ := opn_field hf hxs 0 _ rfl (Opn.int Try.underlying3 (by kernel_rfl))
  obtain ⟨v1, s1, c1, k1, w1⟩ := opn_field hf hxs 1 _ rfl (Opn.int Try.underlying3 (by kernel_rfl))
  obtain ⟨v2, s2, c2, k2, w2⟩ := opn_field hf hxs 2 _ rfl (Opn.int Try.underlying3 (by kernel_rfl))
  exact ⟨⟨v0, v1, v2⟩, svL [], (pieces_eq [1, 1, 1] hlen (by kernel_rfl)).trans (app2 c0 (app2 c1 (app2 c2 rfl))), trivial, ⟨w0, w1, w2⟩⟩
def wf_Frame (x : Frame) : Prop := (InK .i64) x.Length ∧ (fun xs => xs.length ≤ maxLen ∧ ∀ x ∈ xs, wf_Window x) x.Windows
theorem op_Frame : Opn Try.prog 26 kd_Frame wf_Frame := by
  refine ⟨by kernel_rfl, fun h => ?_⟩
  obtain ⟨xs, m, _, _, hlen, hxs, hf⟩ := DataW.trod_struct Try.underlying26 h
  obtain ⟨v0, s0, c0, k0, w0⟩ := opn_field hf hxs 0 _ rfl (Opn.int Try.underlying3 (by kernel_rfl))
  obtain ⟨v1, s1, c1, k1, w1⟩ := opn_field hf hxs 1 _ rfl (Opn.slice op_Window Try.underlying24 (by kernel_rfl))
  exact ⟨⟨v0, v1⟩, svL [s1 0], (pieces_eq [1, 1] hlen (by kernel_rfl)).trans (app2 c0 (app2 c1 rfl)), ⟨k1, trivial⟩, ⟨w0, w1⟩⟩
def wf_St27 (x : St27) : Prop := wf_Frame x.e0 ∧ wf_Frame x.e1
theorem op_St27 : Opn Try.prog 27 kd_St27 wf_St27 := by
  refine ⟨by kernel_rfl, fun h => ?_⟩
  obtain ⟨xs, m, _, _, hlen, hxs, hf⟩ := DataW.trod_array Try.underlying27 h
  obtain ⟨v0, s0, c0, k0, w0⟩ := opn_elem hf hxs 0 (by decide) op_Frame
  obtain ⟨v1, s1, c1, k1, w1⟩ := opn_elem hf hxs 1 (by decide) op_Frame
  exact ⟨⟨v0, v1⟩, svL [s0 0, s1 0], (pieces_eq [2, 2] hlen (by kernel_rfl)).trans (app2 c0 (app2 c1 rfl)), ⟨k0.1, k1.1, trivial⟩, ⟨w0, w1⟩⟩
def wf_Config (x : Config) : Prop := (fun xs => xs.length ≤ maxLen ∧ ∀ x ∈ xs, wf_Part x) x.Parts ∧ (fun xs => xs.length ≤ maxLen ∧ ∀ x ∈ xs, wf_Chan x) x.Chans ∧ wf_St27 x.Frames
theorem op_Config : Opn Try.prog 29 kd_Config wf_Config := by
  refine ⟨by kernel_rfl, fun h => ?_⟩
  obtain ⟨xs, m, _, _, hlen, hxs, hf⟩ := DataW.trod_struct Try.underlying29 h
  obtain ⟨v0, s0, c0, k0, w0⟩ := opn_field hf hxs 0 _ rfl (Opn.slice op_Part Try.underlying22 (by kernel_rfl))
  obtain ⟨v1, s1, c1, k1, w1⟩ := opn_field hf hxs 1 _ rfl (Opn.slice op_Chan Try.underlying23 (by kernel_rfl))
  obtain ⟨v2, s2, c2, k2, w2⟩ := opn_field hf hxs 2 _ rfl op_St27
  exact ⟨⟨v0, v1, v2⟩, svL [s0 0, s1 0, s2 0, s2 1], (pieces_eq [1, 1, 4] hlen (by kernel_rfl)).trans (app2 c0 (app2 c1 (app2 c2 rfl))), ⟨k0, k1, k2.1, k2.2.1, trivial⟩, ⟨w0, w1, w2⟩⟩
def wf_Span (x : Span) : Prop := (InK .i64) x.From ∧ (InK .i64) x.Size
theorem op_Span : Opn Try.prog 109 kd_Span wf_Span := by
  refine ⟨by kernel_rfl, fun h => ?_⟩
  obtain ⟨xs, m, _, _, hlen, hxs, hf⟩ := DataW.trod_struct Try.underlying109 h
  obtain ⟨v0, s0, c0, k0, w0⟩ := opn_field hf hxs 0 _ rfl (Opn.int Try.underlying3 (by kernel_rfl))
  obtain ⟨v1, s1, c1, k1, w1⟩ := opn_field hf hxs 1 _ rfl (Opn.int Try.underlying3 (by kernel_rfl))
  exact ⟨⟨v0, v1⟩, svL [], (pieces_eq [1, 1] hlen (by kernel_rfl)).trans (app2 c0 (app2 c1 rfl)), trivial, ⟨w0, w1⟩⟩
def wf_Layout_plan (x : Layout_plan) : Prop := (InK .i64) x.parts ∧ (fun xs => xs.length ≤ maxLen ∧ ∀ x ∈ xs, wf_Span x) x.l ∧ (InK .i64) x.end_
theorem op_Layout_plan : Opn Try.prog 105 kd_Layout_plan wf_Layout_plan := by
  refine ⟨by kernel_rfl, fun h => ?_⟩
  obtain ⟨xs, m, _, _, hlen, hxs, hf⟩ := DataW.trod_struct Try.underlying105 h
  obtain ⟨v0, s0, c0, k0, w0⟩ := opn_field hf hxs 0 _ rfl (Opn.int Try.underlying3 (by kernel_rfl))
  obtain ⟨v1, s1, c1, k1, w1⟩ := opn_field hf hxs 1 _ rfl (Opn.slice op_Span Try.underlying103 (by kernel_rfl))
  obtain ⟨v2, s2, c2, k2, w2⟩ := opn_field hf hxs 2 _ rfl (Opn.int Try.underlying3 (by kernel_rfl))
  exact ⟨⟨v0, v1, v2⟩, svL [s1 0], (pieces_eq [1, 1, 1] hlen (by kernel_rfl)).trans (app2 c0 (app2 c1 (app2 c2 rfl))), ⟨k1, trivial⟩, ⟨w0, w1, w2⟩⟩
def wf_Portholelaw22_Times (x : Portholelaw22_Times) : Prop := (fun xs => xs.length ≤ maxLen ∧ ∀ x ∈ xs, (InK .u32) x) x.Before ∧ (fun xs => xs.length ≤ maxLen ∧ ∀ x ∈ xs, (InK .u32) x) x.After ∧ (fun xs => xs.length ≤ maxLen ∧ ∀ x ∈ xs, (InK .i64) x) x.Was ∧ (fun xs => xs.length ≤ maxLen ∧ ∀ x ∈ xs, (InK .i64) x) x.Is
theorem op_Portholelaw22_Times : Opn Try.prog 66 kd_Portholelaw22_Times wf_Portholelaw22_Times := by
  refine ⟨by kernel_rfl, fun h => ?_⟩
  obtain ⟨xs, m, _, _, hlen, hxs, hf⟩ := DataW.trod_struct Try.underlying66 h
  obtain ⟨v0, s0, c0, k0, w0⟩ := opn_field hf hxs 0 _ rfl (Opn.slice (Opn.int Try.underlying72 (by kernel_rfl)) Try.underlying47 (by kernel_rfl))
  obtain ⟨v1, s1, c1, k1, w1⟩ := opn_field hf hxs 1 _ rfl (Opn.slice (Opn.int Try.underlying72 (by kernel_rfl)) Try.underlying47 (by kernel_rfl))
  obtain ⟨v2, s2, c2, k2, w2⟩ := opn_field hf hxs 2 _ rfl (Opn.slice (Opn.int Try.underlying3 (by kernel_rfl)) Try.underlying39 (by kernel_rfl))
  obtain ⟨v3, s3, c3, k3, w3⟩ := opn_field hf hxs 3 _ rfl (Opn.slice (Opn.int Try.underlying3 (by kernel_rfl)) Try.underlying39 (by kernel_rfl))
  exact ⟨⟨v0, v1, v2, v3⟩, svL [s0 0, s1 0, s2 0, s3 0], (pieces_eq [1, 1, 1, 1] hlen (by kernel_rfl)).trans (app2 c0 (app2 c1 (app2 c2 (app2 c3 rfl)))), ⟨k0, k1, k2, k3, trivial⟩, ⟨w0, w1, w2, w3⟩⟩


/-! ### porthole/audit.Changed$1: function 62, an iterator -/
def G_audit_Changed_1.enc : (Int) → SV → List Value := fun y sv => [.int .i64 y]
def G_audit_Changed_1.fct : (Nat → Prop) → World → (Int) → SV → Prop := fun X w y sv => True
noncomputable def G_audit_Changed_1.b1 {σt R : Type} (bd : σt → (Int) → Option (Stp σt R)) (s0 : σt) (y1 : (List Int)) (y2 : (List Int)) (s1 : Int × σt) : Option (Stp (Int × σt) (Ex (Int × σt) (Stp σt R))) := (bif decide (s1.1 < (mxI (y1.length : Int) (y2.length : Int))) then (req (imp (decide (s1.1 < (y1.length : Int)) && decide (s1.1 < (y2.length : Int))) (inb s1.1 y1.length)) (req (imp (decide (s1.1 < (y1.length : Int)) && decide (s1.1 < (y2.length : Int))) (inb s1.1 y2.length)) (bif ((decide (s1.1 < (y1.length : Int)) && decide (s1.1 < (y2.length : Int))) && ((rd y1 s1.1) == (rd y2 s1.1))) then some (.next ((IntKind.i64.wrap (s1.1 + 1)), s1.2)) else ((bd s1.2 s1.1).bind fun z => z.on (fun s_24 => some (.next ((IntKind.i64.wrap (s1.1 + 1)), s_24))) (fun r_25 => some (.out (.ret (.out r_25)))))))) else some (.out (.brk (s1.1, s1.2))))
noncomputable def G_audit_Changed_1 {σt R : Type} (bd : σt → (Int) → Option (Stp σt R)) (s0 : σt) (y1 : (List Int)) (y2 : (List Int)) : Option (Stp σt R) := ((loopω (G_audit_Changed_1.b1 bd s0 y1 y2) (0, s0)).bind fun o => o.on (fun s1 => some (.next s1.2)) (fun r => some r))
set_option maxRecDepth 100000 in
set_option maxHeartbeats 4000000 in
theorem G_audit_Changed_1.calls {σt R : Type} (bd : σt → (Int) → Option (Stp σt R)) (s0 : σt) (y1 : (List Int)) (y2 : (List Int)) (B1 : Addr) (sv1 : SV) (B2 : Addr) (sv2 : SV) (l : Nat) (w : World) {S : Nat → Prop} (hB1 : El (Kd.slice (Kd.int .u32)) S w B1 y1 sv1) (hB2 : El (Kd.slice (Kd.int .u32)) S w B2 y2 sv2) {J : σt → (Nat → Prop) → World → Prop} {Jx : R → World → Prop} (hq : SeqH Try.prog l G_audit_Changed_1.enc G_audit_Changed_1.fct bd J Jx) (hJ : J s0 S w) (r : Stp σt R) (h : G_audit_Changed_1 bd s0 y1 y2 = some r) :
    Calls Try.prog 62 #[.func (.yield l) #[] #[], .pointer (some B1), .pointer (some B2)] w fun e w' => (∃ v, e = .returned v) ∧ SeqPost J Jx r w' := by
  replace hB1 := El.lo hB1
  replace hB2 := El.lo hB2
  unfold G_audit_Changed_1 at h
  have H0 := h
  clear h
  refine enter Try.func62 rfl [.func (.yield l) #[] #[], .pointer (some B1), .pointer (some B2)] (n := 39) rfl (Nat.le_of_ble_eq_true rfl) (fun a hI => ?_)
  have hF : FOpen Fence.wide := .inl rfl
  have hE := Ep.start w
  refine seq_region (live := [10, 9, 0, 1, 2]) (orc := [[.slice ((sv1 0).1) y1.length ((sv1 0).2)], [.slice ((sv2 0).1) y2.length ((sv2 0).2)]]) hF hI ⟨[⟨10, [], .v (.int .i64 0)⟩, ⟨9, [], .v (.int .i64 (mxI (y1.length : Int) (y2.length : Int)))⟩, ⟨0, [], .v (.func (.yield l) #[] #[])⟩, ⟨1, [], .v (.pointer (some B1))⟩, ⟨2, [], .v (.pointer (some B2))⟩], [], [], [], none, none⟩ [.cell true B1 [.slice ((sv1 0).1) y1.length ((sv1 0).2)], .cell true B2 [.slice ((sv2 0).1) y2.length ((sv2 0).2)]] (by kernel_rfl) ⟨ob_el (fun _ => hB1) 0 [.slice ((sv1 0).1) y1.length ((sv1 0).2)] rfl, ob_el (fun _ => hB2) 0 [.slice ((sv2 0).1) y2.length ((sv2 0).2)] rfl, trivial⟩ (fun ns_1 a w_2 hI _ => ?_)
  obtain ⟨hE', hmv, hmr⟩ := Ep.rebase (S0 := S) hE hI
  replace hB1 := El.keep hB1 hmv
  replace hB2 := El.keep hB2 hmv
  replace hE := hE'
  replace hI := hI.rebase
  clear hE' hmv hmr
  have hJ' := hq.new _ _ (Tc (Lo S w w_2 ns_1 []) w_2) _ _ hJ (hE.below hI) Tc.new
  obtain ⟨o_32, hL_33, H0⟩ := bind_some H0
  refine block_loop (fun (s1 : Int × σt) a w_34 => ∃ (T : Nat → Prop), (El (Kd.slice (Kd.int .u32)) T w_34 B1 y1 sv1) ∧ (El (Kd.slice (Kd.int .u32)) T w_34 B2 y2 sv2) ∧ J s1.2 T w_34 ∧ St w_34 [] 39 ⟨[⟨10, [], .v (.int .i64 s1.1)⟩, ⟨9, [], .v (.int .i64 (mxI (y1.length : Int) (y2.length : Int)))⟩, ⟨0, [], .v (.func (.yield l) #[] #[])⟩, ⟨1, [], .v (.pointer (some B1))⟩, ⟨2, [], .v (.pointer (some B2))⟩], [], [], [], none, none⟩ [] a w_34) (0, s0) hL_33 ⟨_, El.keep hB1 (Tc.mv _ _), El.keep hB2 (Tc.mv _ _), hJ', (hI.pick [10, 9, 0, 1, 2] 0 ⟨[⟨10, [], .v (.int .i64 0)⟩, ⟨9, [], .v (.int .i64 (mxI (y1.length : Int) (y2.length : Int)))⟩, ⟨0, [], .v (.func (.yield l) #[] #[])⟩, ⟨1, [], .v (.pointer (some B1))⟩, ⟨2, [], .v (.pointer (some B2))⟩], [], [], [], none, none⟩ (by kernel_rfl)).reset rfl rfl rfl _⟩ ?_ ?_
  · clear hI hE hJ hJ'
    rintro s1 a w ⟨S, hB1, hB2, hJ, hI⟩ r1 H1
    unfold G_audit_Changed_1.b1 at H1
    have hE := Ep.start w
    replace hB1 := El.lo hB1
    replace hB2 := El.lo hB2
    refine seq_region (live := [11, 10, 9, 0, 1, 2]) (orc := []) hF hI ⟨[⟨11, [], .v (.bool (decide (s1.1 < (mxI (y1.length : Int) (y2.length : Int)))))⟩, ⟨10, [], .v (.int .i64 s1.1)⟩, ⟨9, [], .v (.int .i64 (mxI (y1.length : Int) (y2.length : Int)))⟩, ⟨0, [], .v (.func (.yield l) #[] #[])⟩, ⟨1, [], .v (.pointer (some B1))⟩, ⟨2, [], .v (.pointer (some B2))⟩], [], [], [], none, none⟩ [] (by kernel_rfl) trivial (fun ns_3 a w_4 hI _ => ?_)
    refine wpIn_seq ?_
    refine cond_ hI (decide (s1.1 < (mxI (y1.length : Int) (y2.length : Int)))) rfl (fun hc_5 => ?_) (fun hc_5 => ?_)
    · replace H1 := bif_t hc_5 H1
      refine wpIn_skip ?_
      refine then_normal ?_
      refine wpIn_seq ?_
      refine wpIn_block ?_
      refine seq_region (live := [4, 10, 9, 0, 1, 2]) (orc := []) hF hI ⟨[⟨4, [], .v (.int .i64 s1.1)⟩, ⟨10, [], .v (.int .i64 s1.1)⟩, ⟨9, [], .v (.int .i64 (mxI (y1.length : Int) (y2.length : Int)))⟩, ⟨0, [], .v (.func (.yield l) #[] #[])⟩, ⟨1, [], .v (.pointer (some B1))⟩, ⟨2, [], .v (.pointer (some B2))⟩], [], [], [], none, none⟩ [] (by kernel_rfl) trivial (fun ns_6 a w_7 hI _ => ?_)
      refine wpIn_seq ?_
      refine wpIn_seq ?_
      obtain ⟨hN_8, H1⟩ := req_some H1
      obtain ⟨sv_9, hE_11, hA_10⟩ := Arr.elB (d := (Kd.int .u32)) (hB1).cont.1 s1.1 (decide (s1.1 < (y1.length : Int)) && decide (s1.1 < (y2.length : Int))) (fun hg => imp_spec hN_8 hg)
      obtain ⟨hN_12, H1⟩ := req_some H1
      obtain ⟨sv_13, hE_15, hA_14⟩ := Arr.elB (d := (Kd.int .u32)) (hB2).cont.1 s1.1 (decide (s1.1 < (y1.length : Int)) && decide (s1.1 < (y2.length : Int))) (fun hg => imp_spec hN_12 hg)
      refine drawn_ (live := [33, 4, 10, 9, 0, 1, 2]) (orc := [[.slice ((sv1 0).1) y1.length ((sv1 0).2)], [.slice ((sv2 0).1) y2.length ((sv2 0).2)], [.slice ((sv1 0).1) y1.length ((sv1 0).2)], [.int .u32 (rd y1 s1.1)], [.slice ((sv2 0).1) y2.length ((sv2 0).2)], [.int .u32 (rd y2 s1.1)]]) hF hI ⟨[⟨33, [], .v (.bool ((decide (s1.1 < (y1.length : Int)) && decide (s1.1 < (y2.length : Int))) && ((rd y1 s1.1) == (rd y2 s1.1))))⟩, ⟨4, [], .v (.int .i64 s1.1)⟩, ⟨10, [], .v (.int .i64 s1.1)⟩, ⟨9, [], .v (.int .i64 (mxI (y1.length : Int) (y2.length : Int)))⟩, ⟨0, [], .v (.func (.yield l) #[] #[])⟩, ⟨1, [], .v (.pointer (some B1))⟩, ⟨2, [], .v (.pointer (some B2))⟩], [], [], [], none, none⟩ [.cell true B1 [.slice ((sv1 0).1) y1.length ((sv1 0).2)], .cell (decide (s1.1 < (y1.length : Int))) B2 [.slice ((sv2 0).1) y2.length ((sv2 0).2)], .cell (decide (s1.1 < (y1.length : Int)) && decide (s1.1 < (y2.length : Int))) B1 [.slice ((sv1 0).1) y1.length ((sv1 0).2)], .need (decide (s1.1 < (y1.length : Int)) && decide (s1.1 < (y2.length : Int))) (0 ≤ s1.1 ∧ s1.1 < (y1.length : Int)), .need (decide (s1.1 < (y1.length : Int)) && decide (s1.1 < (y2.length : Int))) ((sv1 0).1 = some (adr ((sv1 0).1))), .cell (decide (s1.1 < (y1.length : Int)) && decide (s1.1 < (y2.length : Int))) ((adr ((sv1 0).1)).add ((s1.1 : Int).toNat * 1)) [.int .u32 (rd y1 s1.1)], .cell (decide (s1.1 < (y1.length : Int)) && decide (s1.1 < (y2.length : Int))) B2 [.slice ((sv2 0).1) y2.length ((sv2 0).2)], .need (decide (s1.1 < (y1.length : Int)) && decide (s1.1 < (y2.length : Int))) (0 ≤ s1.1 ∧ s1.1 < (y2.length : Int)), .need (decide (s1.1 < (y1.length : Int)) && decide (s1.1 < (y2.length : Int))) ((sv2 0).1 = some (adr ((sv2 0).1))), .cell (decide (s1.1 < (y1.length : Int)) && decide (s1.1 < (y2.length : Int))) ((adr ((sv2 0).1)).add ((s1.1 : Int).toNat * 1)) [.int .u32 (rd y2 s1.1)]] (by kernel_rfl) (by kernel_rfl) (by kernel_rfl) ⟨ob_el (fun _ => hB1) 0 [.slice ((sv1 0).1) y1.length ((sv1 0).2)] rfl, ob_el (fun _ => hB2) 0 [.slice ((sv2 0).1) y2.length ((sv2 0).2)] rfl, ob_el (fun _ => hB1) 0 [.slice ((sv1 0).1) y1.length ((sv1 0).2)] rfl, ob_inb (fun hg => imp_spec hN_8 hg), hA_10, ob_el (fun hg => hE_11 hg) 0 [.int .u32 (rd y1 s1.1)] rfl, ob_el (fun _ => hB2) 0 [.slice ((sv2 0).1) y2.length ((sv2 0).2)] rfl, ob_inb (fun hg => imp_spec hN_12 hg), hA_14, ob_el (fun hg => hE_15 hg) 0 [.int .u32 (rd y2 s1.1)] rfl, trivial⟩ (fun a w_16 hI => ?_)
      refine then_normal ?_
      refine cond_ hI (((decide (s1.1 < (y1.length : Int)) && decide (s1.1 < (y2.length : Int))) && ((rd y1 s1.1) == (rd y2 s1.1)))) rfl (fun hc_17 => ?_) (fun hc_17 => ?_)
      · replace H1 := bif_t hc_17 H1
        refine wpIn_exit ?_
        refine then_exit ?_
        refine inBlock_here ?_
        refine then_normal ?_
        refine region_ (live := [10, 9, 0, 1, 2]) (orc := []) hF hI ⟨[⟨10, [], .v (.int .i64 (IntKind.i64.wrap (s1.1 + 1)))⟩, ⟨9, [], .v (.int .i64 (mxI (y1.length : Int) (y2.length : Int)))⟩, ⟨0, [], .v (.func (.yield l) #[] #[])⟩, ⟨1, [], .v (.pointer (some B1))⟩, ⟨2, [], .v (.pointer (some B2))⟩], [], [], [], none, none⟩ [] (by kernel_rfl) trivial (fun ns_18 a w_19 hI _ => ?_)
        refine then_normal ?_
        obtain ⟨hE', hmv, hmr⟩ := Ep.rebase (S0 := S) hE hI
        replace hB1 := El.keep hB1 hmv
        replace hB2 := El.keep hB2 hmv
        replace hE := hE'
        replace hI := hI.rebase
        clear hE' hmv hmr
        have hJ' := hq.new _ _ (Tc (Lo S w w_19 ns_18 []) w_19) _ _ hJ (hE.below hI) Tc.new
        obtain rfl := Option.some.inj H1
        exact ⟨_, rfl, ⟨_, El.keep hB1 (Tc.mv _ _), El.keep hB2 (Tc.mv _ _), hJ', (hI.pick [10, 9, 0, 1, 2] 0 ⟨[⟨10, [], .v (.int .i64 (IntKind.i64.wrap (s1.1 + 1)))⟩, ⟨9, [], .v (.int .i64 (mxI (y1.length : Int) (y2.length : Int)))⟩, ⟨0, [], .v (.func (.yield l) #[] #[])⟩, ⟨1, [], .v (.pointer (some B1))⟩, ⟨2, [], .v (.pointer (some B2))⟩], [], [], [], none, none⟩ (by kernel_rfl)).reset rfl rfl rfl _⟩⟩
      · replace H1 := bif_f hc_17 H1
        refine wpIn_skip ?_
        refine then_normal ?_
        refine wpIn_seq ?_
        refine wpIn_region_lit ?_
        refine chunkL_ (live := [35, 34, 10, 9, 0, 1, 2]) (orc := []) hF 2 hI ⟨[⟨35, [], .v (.int .i64 s1.1)⟩, ⟨34, [], .v (.func (.yield l) #[] #[])⟩, ⟨10, [], .v (.int .i64 s1.1)⟩, ⟨9, [], .v (.int .i64 (mxI (y1.length : Int) (y2.length : Int)))⟩, ⟨0, [], .v (.func (.yield l) #[] #[])⟩, ⟨1, [], .v (.pointer (some B1))⟩, ⟨2, [], .v (.pointer (some B2))⟩], [], [], [], none, none⟩ [] rfl (by kernel_rfl) trivial (fun ns_20 a w_21 hI => ?_)
        obtain ⟨hE', hmv, hmr⟩ := Ep.rebase (S0 := S) hE hI
        replace hB1 := El.keep hB1 hmv
        replace hB2 := El.keep hB2 hmv
        replace hE := hE'
        replace hI := hI.rebase
        clear hE' hmv hmr
        obtain ⟨hE', hmv⟩ := hE.bare (S0 := S)
        replace hB1 := El.keep hB1 hmv
        replace hB2 := El.keep hB2 hmv
        replace hE := hE'
        replace hI := hI.reset rfl rfl rfl w_21
        clear hE' hmv
        obtain ⟨z_22, hz_23, H1⟩ := bind_some H1
        refine yield_ (S0 := S) hq hF hE hI rfl rfl rfl (wanted_none rfl) rfl rfl rfl hJ s1.1 (svL []) rfl hz_23 trivial ⟨[⟨36, [], .v (.bool true)⟩, ⟨35, [], .v (.int .i64 s1.1)⟩, ⟨34, [], .v (.func (.yield l) #[] #[])⟩, ⟨10, [], .v (.int .i64 s1.1)⟩, ⟨9, [], .v (.int .i64 (mxI (y1.length : Int) (y2.length : Int)))⟩, ⟨0, [], .v (.func (.yield l) #[] #[])⟩, ⟨1, [], .v (.pointer (some B1))⟩, ⟨2, [], .v (.pointer (some B2))⟩], [], [], [], none, none⟩ ⟨[⟨36, [], .v (.bool false)⟩, ⟨35, [], .v (.int .i64 s1.1)⟩, ⟨34, [], .v (.func (.yield l) #[] #[])⟩, ⟨10, [], .v (.int .i64 s1.1)⟩, ⟨9, [], .v (.int .i64 (mxI (y1.length : Int) (y2.length : Int)))⟩, ⟨0, [], .v (.func (.yield l) #[] #[])⟩, ⟨1, [], .v (.pointer (some B1))⟩, ⟨2, [], .v (.pointer (some B2))⟩], [], [], [], none, none⟩ (by kernel_rfl) (by kernel_rfl) (fun S s_24 a w hzz hJ' hE' hI' hmv => ?_) (fun r_25 a w hzz hJ' hE' hI' => ?_)
        · subst hzz
          replace hB1 := El.lo (El.keep hB1 hmv)
          replace hB2 := El.lo (El.keep hB2 hmv)
          replace hE := hE'
          replace hI := hI'
          replace hJ := hJ'
          clear hE' hI' hJ' hmv
          replace H1 : (some (.next ((IntKind.i64.wrap (s1.1 + 1)), s_24)) : Option (Stp (Int × σt) (Ex (Int × σt) (Stp σt R)))) = _ := H1
          refine chunkL_ (live := [37, 10, 9, 0, 1, 2]) (orc := []) hF 1 hI ⟨[⟨37, [], .v (.bool false)⟩, ⟨10, [], .v (.int .i64 s1.1)⟩, ⟨9, [], .v (.int .i64 (mxI (y1.length : Int) (y2.length : Int)))⟩, ⟨0, [], .v (.func (.yield l) #[] #[])⟩, ⟨1, [], .v (.pointer (some B1))⟩, ⟨2, [], .v (.pointer (some B2))⟩], [], [], [], none, none⟩ [] rfl (by kernel_rfl) trivial (fun ns_26 a w_27 hI => ?_)
          refine wpListIn_nil ?_
          refine then_normal ?_
          refine cond_ hI false rfl (fun h => by cases h) (fun _ => ?_)
          refine wpIn_skip ?_
          refine inBlock_normal ?_
          refine then_normal ?_
          refine region_ (live := [10, 9, 0, 1, 2]) (orc := []) hF hI ⟨[⟨10, [], .v (.int .i64 (IntKind.i64.wrap (s1.1 + 1)))⟩, ⟨9, [], .v (.int .i64 (mxI (y1.length : Int) (y2.length : Int)))⟩, ⟨0, [], .v (.func (.yield l) #[] #[])⟩, ⟨1, [], .v (.pointer (some B1))⟩, ⟨2, [], .v (.pointer (some B2))⟩], [], [], [], none, none⟩ [] (by kernel_rfl) trivial (fun ns_28 a w_29 hI _ => ?_)
          refine then_normal ?_
          obtain ⟨hE', hmv, hmr⟩ := Ep.rebase (S0 := S) hE hI
          replace hB1 := El.keep hB1 hmv
          replace hB2 := El.keep hB2 hmv
          replace hE := hE'
          replace hI := hI.rebase
          clear hE' hmv hmr
          have hJ' := hq.new _ _ (Tc (Lo S w w_29 ns_28 []) w_29) _ _ hJ (hE.below hI) Tc.new
          obtain rfl := Option.some.inj H1
          exact ⟨_, rfl, ⟨_, El.keep hB1 (Tc.mv _ _), El.keep hB2 (Tc.mv _ _), hJ', (hI.pick [10, 9, 0, 1, 2] 0 ⟨[⟨10, [], .v (.int .i64 (IntKind.i64.wrap (s1.1 + 1)))⟩, ⟨9, [], .v (.int .i64 (mxI (y1.length : Int) (y2.length : Int)))⟩, ⟨0, [], .v (.func (.yield l) #[] #[])⟩, ⟨1, [], .v (.pointer (some B1))⟩, ⟨2, [], .v (.pointer (some B2))⟩], [], [], [], none, none⟩ (by kernel_rfl)).reset rfl rfl rfl _⟩⟩
        · subst hzz
          replace hE := hE'
          replace hI := hI'
          replace hJ := hJ'
          clear hE' hI' hJ'
          replace H1 : (some (.out (.ret (.out r_25))) : Option (Stp (Int × σt) (Ex (Int × σt) (Stp σt R)))) = _ := H1
          refine chunkL_ (live := [37, 10, 9, 0, 1, 2]) (orc := []) hF 1 hI ⟨[⟨37, [], .v (.bool true)⟩, ⟨10, [], .v (.int .i64 s1.1)⟩, ⟨9, [], .v (.int .i64 (mxI (y1.length : Int) (y2.length : Int)))⟩, ⟨0, [], .v (.func (.yield l) #[] #[])⟩, ⟨1, [], .v (.pointer (some B1))⟩, ⟨2, [], .v (.pointer (some B2))⟩], [], [], [], none, none⟩ [] rfl (by kernel_rfl) trivial (fun ns_30 a w_31 hI => ?_)
          refine wpListIn_nil ?_
          refine then_normal ?_
          refine cond_ hI true rfl (fun _ => ?_) (fun h => by cases h)
          refine wpIn_ret ?_
          refine inBlock_ret ?_
          refine then_ret ?_
          refine then_ret ?_
          obtain rfl := Option.some.inj H1
          refine .inr ⟨_, rfl, fun ho => ?_⟩
          subst ho
          refine inBlock_ret ?_
          obtain rfl := Option.some.inj H0
          exact retG hI rfl rfl ⟨⟨_, rfl⟩, SeqPost.fin (hq.stop _ _ _ hJ (hE.below hI))⟩
    · replace H1 := bif_f hc_5 H1
      refine wpIn_exit ?_
      refine then_exit ?_
      refine then_exit ?_
      obtain ⟨hE', hmv, hmr⟩ := Ep.rebase (S0 := S) hE hI
      replace hB1 := El.keep hB1 hmv
      replace hB2 := El.keep hB2 hmv
      replace hE := hE'
      replace hI := hI.rebase
      clear hE' hmv hmr
      have hJ' := hq.new _ _ (Tc (Lo S w w_4 ns_3 []) w_4) _ _ hJ (hE.below hI) Tc.new
      obtain rfl := Option.some.inj H1
      exact .inl ⟨_, rfl, rfl, ⟨_, El.keep hB1 (Tc.mv _ _), El.keep hB2 (Tc.mv _ _), hJ', (hI.pick [10, 9, 0, 1, 2] 0 ⟨[⟨10, [], .v (.int .i64 s1.1)⟩, ⟨9, [], .v (.int .i64 (mxI (y1.length : Int) (y2.length : Int)))⟩, ⟨0, [], .v (.func (.yield l) #[] #[])⟩, ⟨1, [], .v (.pointer (some B1))⟩, ⟨2, [], .v (.pointer (some B2))⟩], [], [], [], none, none⟩ (by kernel_rfl)).reset rfl rfl rfl _⟩⟩
  · clear hI hE hJ hJ'
    rintro s1 a w ho ⟨S, hB1, hB2, hJ, hI⟩
    subst ho
    replace H0 : (some (.next s1.2) : Option (Stp σt R)) = _ := H0
    have hE := Ep.start w
    replace hB1 := El.lo hB1
    replace hB2 := El.lo hB2
    obtain rfl := Option.some.inj H0
    exact retN (retG hI rfl rfl ⟨⟨_, rfl⟩, SeqPost.nxt (fun _ => False) (hq.new _ _ _ _ _ hJ (hE.below hI) (fun _ h => h.elim))⟩)

/-! ### porthole/audit.Changed: function 49 -/
noncomputable def G_audit_Changed (l0 : (List Int)) (l1 : (List Int)) : Option (((List Int) × (List Int))) := some (l0, l1)
set_option maxRecDepth 100000 in
set_option maxHeartbeats 4000000 in
theorem G_audit_Changed.calls (l0 : (List Int)) (l1 : (List Int)) (A0 : Option Addr) (c0 : Nat) (A1 : Option Addr) (c1 : Nat) (w : World) {S : Nat → Prop} (hr0 : Arr (Kd.int .u32) S w A0 l0) (hc0 : l0.length ≤ c0) (hr1 : Arr (Kd.int .u32) S w A1 l1) (hc1 : l1.length ≤ c1) (r : ((List Int) × (List Int))) (h : G_audit_Changed l0 l1 = some r) :
    Calls Try.prog 49 #[.slice A0 l0.length c0, .slice A1 l1.length c1] w fun e w' => ∃ sv : SV, e = .returned (.func (.func 62) #[] #[.pointer (some (adr (sv 0).1)), .pointer (some (adr (sv 2).1))]) ∧ Below w.heap.size w w' ∧ El (Kd.slice (Kd.int .u32)) (fun b => w.heap.size ≤ b ∨ S b) w' (adr (sv 0).1) r.1 (svO sv 1) ∧ El (Kd.slice (Kd.int .u32)) (fun b => w.heap.size ≤ b ∨ S b) w' (adr (sv 2).1) r.2 (svO sv 3) := by
  replace hr0 := Arr.lo hr0
  replace hr1 := Arr.lo hr1
  unfold G_audit_Changed at h
  have H0 := h
  clear h
  refine enter Try.func49 rfl [.slice A0 l0.length c0, .slice A1 l1.length c1] (n := 6) rfl (Nat.le_of_ble_eq_true rfl) (fun a hI => ?_)
  have hF : FOpen Fence.wide := .inl rfl
  have hE := Ep.start w
  refine seq_region (live := [4, 3, 2]) (orc := []) hF hI ⟨[⟨4, [], .v (.nilFunc)⟩, ⟨3, [], .p 1 0⟩, ⟨2, [], .p 0 0⟩], [], [], [([.v (.slice A0 l0.length c0)], 47), ([.v (.slice A1 l1.length c1)], 47)], none, none⟩ [] (by kernel_rfl) trivial (fun ns_1 a w_2 hI _ => ?_)
  refine wpIn_seq ?_
  refine wpIn_region_lit ?_
  obtain ⟨hE', hmv, hmr⟩ := Ep.rebase (S0 := S) hE hI
  replace hr0 := Arr.keep hr0 hmv
  replace hr1 := Arr.keep hr1 hmv
  replace hE := hE'
  replace hI := hI.rebase
  clear hE' hmv hmr
  have hct := contI (S := Lo S w w_2 ns_1 []) (w := w_2) (d := (Kd.slice (Kd.int .u32))) (x := l0) (sv := (svL [(A0, c0)])) ⟨hr0, hc0⟩
  obtain ⟨B_3, ns_5, hE', hI', hmv, hB_4⟩ := freeze_ (S0 := S) (d := (Kd.slice (Kd.int .u32))) hE hI 0 l0 (svL [(A0, c0)]) 47 rfl
  replace hB_4 := hB_4 hct
  clear hct
  have hmr : ∀ b : Nat, some b ∈ ([] : List (Option Nat)) → w_2.heap[b]? = w_2.heap[b]? := fun _ _ => rfl
  replace hr0 := Arr.keep hr0 hmv
  replace hr1 := Arr.keep hr1 hmv
  replace hE := hE'
  replace hI := hI'
  clear hE' hI' hmv hmr
  obtain ⟨ns_6, hE', hI', hmv⟩ := hE.cut (S0 := S) hI [4, 3, 2] 1 ⟨[⟨4, [], .v (.nilFunc)⟩, ⟨3, [], .p 0 0⟩, ⟨2, [], .v (.pointer (some B_3))⟩], [], [], [([.v (.slice A1 l1.length c1)], 47)], none, none⟩ (by kernel_rfl)
  have hmr : ∀ b : Nat, some b ∈ ([] : List (Option Nat)) → w_2.heap[b]? = w_2.heap[b]? := fun _ _ => rfl
  replace hr0 := Arr.keep hr0 hmv
  replace hr1 := Arr.keep hr1 hmv
  replace hB_4 := El.keep hB_4 hmv
  replace hE := hE'
  replace hI := hI'
  clear hE' hI' hmv hmr
  have hct := contI (S := Lo S w w_2 ns_6 []) (w := w_2) (d := (Kd.slice (Kd.int .u32))) (x := l1) (sv := (svL [(A1, c1)])) ⟨hr1, hc1⟩
  obtain ⟨B_7, ns_9, hE', hI', hmv, hB_8⟩ := freeze_ (S0 := S) (d := (Kd.slice (Kd.int .u32))) hE hI 0 l1 (svL [(A1, c1)]) 47 rfl
  replace hB_8 := hB_8 hct
  clear hct
  have hmr : ∀ b : Nat, some b ∈ ([] : List (Option Nat)) → w_2.heap[b]? = w_2.heap[b]? := fun _ _ => rfl
  replace hr0 := Arr.keep hr0 hmv
  replace hr1 := Arr.keep hr1 hmv
  replace hB_4 := El.keep hB_4 hmv
  replace hE := hE'
  replace hI := hI'
  clear hE' hI' hmv hmr
  obtain ⟨ns_10, hE', hI', hmv⟩ := hE.cut (S0 := S) hI [4, 3, 2] 0 ⟨[⟨4, [], .v (.nilFunc)⟩, ⟨3, [], .v (.pointer (some B_7))⟩, ⟨2, [], .v (.pointer (some B_3))⟩], [], [], [], none, none⟩ (by kernel_rfl)
  have hmr : ∀ b : Nat, some b ∈ ([] : List (Option Nat)) → w_2.heap[b]? = w_2.heap[b]? := fun _ _ => rfl
  replace hr0 := Arr.keep hr0 hmv
  replace hr1 := Arr.keep hr1 hmv
  replace hB_4 := El.keep hB_4 hmv
  replace hB_8 := El.keep hB_8 hmv
  replace hE := hE'
  replace hI := hI'
  clear hE' hI' hmv hmr
  refine chunkL_ (live := [5, 4, 3, 2]) (orc := []) hF 1 hI ⟨[⟨5, [], .v (.func (.func 62) #[] #[.pointer (some B_3), .pointer (some B_7)])⟩, ⟨4, [], .v (.nilFunc)⟩, ⟨3, [], .v (.pointer (some B_7))⟩, ⟨2, [], .v (.pointer (some B_3))⟩], [], [], [], none, none⟩ [] rfl (by kernel_rfl) trivial (fun ns_11 a w_12 hI => ?_)
  refine chunkL_ (live := [4]) (orc := []) hF 1 hI ⟨[⟨4, [], .v (.func (.func 62) #[] #[.pointer (some B_3), .pointer (some B_7)])⟩], [], [], [], none, none⟩ [] rfl (by kernel_rfl) trivial (fun ns_13 a w_14 hI => ?_)
  refine wpListIn_nil ?_
  refine then_normal ?_
  refine wpIn_ret ?_
  obtain rfl := Option.some.inj H0
  exact ret1 hI rfl rfl ⟨svL [(some B_3, 0), ((svL [(A0, c0)]) 0), (some B_7, 0), ((svL [(A1, c1)]) 0)], rfl, hE.below hI, ⟨(El.keep hB_4 (hE.out hI)).cont, (El.keep hB_4 (hE.out hI)).at_, (El.keep hB_4 (hE.out hI)).cells⟩, ⟨(El.keep hB_8 (hE.out hI)).cont, (El.keep hB_8 (hE.out hI)).at_, (El.keep hB_8 (hE.out hI)).cells⟩⟩

/-! ### porthole/portholelaw22.told: function 32 -/
noncomputable def G_law22_told.r1 (l0 : (List Int)) (l1 : (List Int)) (a2 : Int) (t_7 : ((List Int) × (List Int))) (s1 : (List Int)) (y_33 : Int) : Option (Stp ((List Int)) (Nat × ((List Int)))) := (bif decide ((s1.length : Int) ≥ a2) then some (.out (0, s1)) else (req (decide ((s1.length + 1) * 8 ≤ 140737488355328)) (some (.next (s1 ++ [y_33])))))
noncomputable def G_law22_told (l0 : (List Int)) (l1 : (List Int)) (a2 : Int) : Option ((List Int)) := ((G_audit_Changed l0 l1).bind fun t_7 => ((G_audit_Changed_1 (G_law22_told.r1 l0 l1 a2 t_7) ([] : List Int) t_7.1 t_7.2).bind fun z => z.on (fun s1 => some s1) (fun r1 => some r1.2)))
set_option maxRecDepth 100000 in
set_option maxHeartbeats 4000000 in
theorem G_law22_told.calls (l0 : (List Int)) (l1 : (List Int)) (a2 : Int) (A0 : Option Addr) (c0 : Nat) (A1 : Option Addr) (c1 : Nat) (w : World) {S : Nat → Prop} (hr0 : Arr (Kd.int .u32) S w A0 l0) (hc0 : l0.length ≤ c0) (hr1 : Arr (Kd.int .u32) S w A1 l1) (hc1 : l1.length ≤ c1) (r : (List Int)) (h : G_law22_told l0 l1 a2 = some r) :
    Calls Try.prog 32 #[.slice A0 l0.length c0, .slice A1 l1.length c1, .int .i64 a2] w fun e w' => ∃ sv : SV, e = .returned (.slice ((sv 0).1) r.length ((sv 0).2)) ∧ Below w.heap.size w w' ∧ (Arr (Kd.int .i64) (fun b => w.heap.size ≤ b ∨ S b) w' (sv 0).1 r ∧ r.length ≤ (sv 0).2) := by
  replace hr0 := Arr.lo hr0
  replace hr1 := Arr.lo hr1
  unfold G_law22_told at h
  have H0 := h
  clear h
  refine enterM Try.func32 rfl [.slice A0 l0.length c0, .slice A1 l1.length c1, .int .i64 a2] (n := 26) rfl (Nat.le_of_ble_eq_true rfl) (fun a hI => ?_)
  have hF : FOpen Fence.wide := .inl rfl
  have hE := Ep.start w
  refine seq_region (live := [6, 5, 0, 1]) (orc := []) hF hI ⟨[⟨6, [], .v (.slice none 0 0)⟩, ⟨5, [], .p 0 0⟩, ⟨0, [], .v (.slice A0 l0.length c0)⟩, ⟨1, [], .v (.slice A1 l1.length c1)⟩], [], [], [([.v (.int .i64 a2)], 3)], some (w.heap.size, none), none⟩ [] (by kernel_rfl) trivial (fun ns_1 a w_2 hI _ => ?_)
  refine seq_region (live := [7, 6, 5, 0, 1]) (orc := []) hF hI ⟨[⟨7, [], .p 1 0⟩, ⟨6, [], .v (.slice none 0 0)⟩, ⟨5, [], .p 0 0⟩, ⟨0, [], .v (.slice A0 l0.length c0)⟩, ⟨1, [], .v (.slice A1 l1.length c1)⟩], [], [], [([.v (.int .i64 a2)], 3), ([.v (.slice none 0 0)], 39)], some (w.heap.size, none), none⟩ [] (by kernel_rfl) trivial (fun ns_3 a w_4 hI _ => ?_)
  refine wpIn_seq ?_
  refine wpIn_seq ?_
  refine wpIn_region_lit ?_
  refine chunkL_ (live := [11, 10, 7, 6, 5]) (orc := []) hF 2 hI ⟨[⟨11, [], .v (.slice A1 l1.length c1)⟩, ⟨10, [], .v (.slice A0 l0.length c0)⟩, ⟨7, [], .p 1 0⟩, ⟨6, [], .v (.slice none 0 0)⟩, ⟨5, [], .p 0 0⟩], [], [], [([.v (.int .i64 a2)], 3), ([.v (.slice none 0 0)], 39)], some (w.heap.size, none), none⟩ [] rfl (by kernel_rfl) trivial (fun ns_5 a w_6 hI => ?_)
  obtain ⟨hE', hmv, hmr⟩ := Ep.rebase (S0 := S) hE hI
  replace hr0 := Arr.keep hr0 hmv
  replace hr1 := Arr.keep hr1 hmv
  replace hE := hE'
  replace hI := hI.rebase
  clear hE' hmv hmr
  obtain ⟨t_7, hG_8, H0⟩ := bind_some H0
  refine callH_ (S0 := S) hF hE hI (wanted_none rfl) rfl (args := [.slice A0 l0.length c0, .slice A1 l1.length c1]) rfl (enters Try.func49 (by kernel_rfl) rfl) (fun sv_9 => .func (.func 62) #[] #[.pointer (some (adr (sv_9 0).1)), .pointer (some (adr (sv_9 2).1))]) _ (G_audit_Changed.calls l0 l1 A0 c0 A1 c1 w_6 (S := Lo S w w_6 ns_5 []) hr0 hc0 hr1 hc1 _ hG_8) (fun sv_9 => ⟨[⟨12, [], .v (.func (.func 62) #[] #[.pointer (some (adr (sv_9 0).1)), .pointer (some (adr (sv_9 2).1))])⟩, ⟨11, [], .v (.slice A1 l1.length c1)⟩, ⟨10, [], .v (.slice A0 l0.length c0)⟩, ⟨7, [], .p 1 0⟩, ⟨6, [], .v (.slice none 0 0)⟩, ⟨5, [], .p 0 0⟩], [], [], [([.v (.int .i64 a2)], 3), ([.v (.slice none 0 0)], 39)], some (w.heap.size, none), none⟩) (fun sv_9 => by kernel_rfl) (fun sv_9 a w_12 hput hE' hI' hmv hmr hres hR => ?_)
  replace hr0 := Arr.keep hr0 hmv
  replace hr1 := Arr.keep hr1 hmv
  replace hE := hE'
  replace hI := hI'
  clear hE' hI' hmv hmr
  obtain ⟨hR_10, hR_11⟩ := hR
  replace hR_10 := El.keep hR_10 hres
  replace hR_11 := El.keep hR_11 hres
  clear hres
  refine chunkL_ (live := [8, 7, 6, 5]) (orc := []) hF 1 hI ⟨[⟨8, [], .v (.func (.func 62) #[] #[.pointer (some (adr (sv_9 0).1)), .pointer (some (adr (sv_9 2).1))])⟩, ⟨7, [], .p 1 0⟩, ⟨6, [], .v (.slice none 0 0)⟩, ⟨5, [], .p 0 0⟩], [], [], [([.v (.int .i64 a2)], 3), ([.v (.slice none 0 0)], 39)], some (w.heap.size, none), none⟩ [] rfl (by kernel_rfl) trivial (fun ns_13 a w_14 hI => ?_)
  refine wpListIn_nil ?_
  refine then_normal ?_
  refine seq_region (live := [14, 8, 7, 6, 5]) (orc := []) hF hI ⟨[⟨14, [], .v (.bool true)⟩, ⟨8, [], .v (.func (.func 62) #[] #[.pointer (some (adr (sv_9 0).1)), .pointer (some (adr (sv_9 2).1))])⟩, ⟨7, [], .p 1 0⟩, ⟨6, [], .v (.slice none 0 0)⟩, ⟨5, [], .p 0 0⟩], [], [], [([.v (.int .i64 a2)], 3), ([.v (.slice none 0 0)], 39)], some (w.heap.size, none), none⟩ [] (by kernel_rfl) trivial (fun ns_15 a w_16 hI _ => ?_)
  refine cond_ hI true rfl (fun _ => ?_) (fun h => by cases h)
  refine seq_region (live := [15, 7, 6, 5]) (orc := []) hF hI ⟨[⟨15, [], .v (.func (.func 62) #[] #[.pointer (some (adr (sv_9 0).1)), .pointer (some (adr (sv_9 2).1))])⟩, ⟨7, [], .p 1 0⟩, ⟨6, [], .v (.slice none 0 0)⟩, ⟨5, [], .p 0 0⟩], [], [], [([.v (.int .i64 a2)], 3), ([.v (.slice none 0 0)], 39)], some (w.heap.size, none), none⟩ [] (by kernel_rfl) trivial (fun ns_17 a w_18 hI _ => ?_)
  refine wpIn_block ?_
  obtain ⟨hE', hmv, hmr⟩ := Ep.rebase (S0 := S) hE hI
  replace hr0 := Arr.keep hr0 hmv
  replace hr1 := Arr.keep hr1 hmv
  replace hR_10 := El.keep hR_10 hmv
  replace hR_11 := El.keep hR_11 hmv
  replace hE := hE'
  replace hI := hI.rebase
  clear hE' hmv hmr
  obtain ⟨hE', hmv⟩ := Ep.addNil (S0 := S) hE
  have hmr : ∀ b : Nat, some b ∈ ([] : List (Option Nat)) → w_18.heap[b]? = w_18.heap[b]? := fun _ _ => rfl
  replace hr0 := Arr.keep hr0 hmv
  replace hr1 := Arr.keep hr1 hmv
  replace hR_10 := El.keep hR_10 hmv
  replace hR_11 := El.keep hR_11 hmv
  replace hE := hE'
  clear hE' hmv hmr
  have hq_19 : Row (Kd.int .i64) 3 (Lo S w w_18 ns_17 [rb none]) w_18 w.heap.size none 0 ([] : List Int) := Row.nil
  obtain ⟨ns_20, hE', hI', hmv⟩ := hE.cut (S0 := S) hI [15, 7, 6, 5] 2 ⟨[⟨15, [], .v (.func (.func 62) #[] #[.pointer (some (adr (sv_9 0).1)), .pointer (some (adr (sv_9 2).1))])⟩, ⟨7, [], .p 1 0⟩, ⟨6, [], .v (.slice none 0 0)⟩, ⟨5, [], .p 0 0⟩], [], [], [([.v (.int .i64 a2)], 3), ([.v (.slice none ([] : List Int).length 0)], 39)], some (w.heap.size, none), none⟩ (by kernel_rfl)
  have hmr : ∀ b : Nat, some b ∈ ([rb none] : List (Option Nat)) → w_18.heap[b]? = w_18.heap[b]? := fun _ _ => rfl
  replace hr0 := Arr.keep hr0 hmv
  replace hr1 := Arr.keep hr1 hmv
  replace hR_10 := El.keep hR_10 hmv
  replace hR_11 := El.keep hR_11 hmv
  replace hq_19 := Row.keep hq_19 hmv (fun b hb => hmr b (by rw [← hb]; first | (simp; done) | simp [rb]))
  replace hE := hE'
  replace hI := hI'
  clear hE' hI' hmv hmr
  obtain ⟨z_26, hz_27, H0⟩ := bind_some H0
  refine rangeFunc_ (S0 := S) (ps := [16]) hE hI rfl (Nat.le_refl _) (lb := [.pointer (some (adr (sv_9 0).1)), .pointer (some (adr (sv_9 2).1))]) rfl (enters Try.func62 (by kernel_rfl) rfl) (fun l_23 aR_24 w_25 haR_32 hE' hI' hmv hmr => ?_)
  replace hr0 := Arr.keep hr0 hmv
  replace hr1 := Arr.keep hr1 hmv
  replace hR_10 := El.keep hR_10 hmv
  replace hR_11 := El.keep hR_11 hmv
  replace hq_19 := Row.keep hq_19 hmv (fun b hb => hmr b (by rw [← hb]; first | (simp; done) | simp [rb]))
  replace hE := hE'
  replace hI := hI'
  clear hE' hI' hmv hmr
  refine ⟨(List Int), Int, Nat × ((List Int)), G_audit_Changed_1.enc, G_audit_Changed_1.fct, G_law22_told.r1 l0 l1 a2 t_7, (fun (s1 : (List Int)) (T : Nat → Prop) (W : World) => ∃ (A_21 : Option Addr) (c_22 : Nat), (Arr (Kd.int .u32) (Lo S w W ns_20 [rb A_21, some l_23]) W A0 l0) ∧ (Arr (Kd.int .u32) (Lo S w W ns_20 [rb A_21, some l_23]) W A1 l1) ∧ (El (Kd.slice (Kd.int .u32)) (Lo S w W ns_20 [rb A_21, some l_23]) W (adr (sv_9 0).1) t_7.1 (svO sv_9 1)) ∧ (El (Kd.slice (Kd.int .u32)) (Lo S w W ns_20 [rb A_21, some l_23]) W (adr (sv_9 2).1) t_7.2 (svO sv_9 3)) ∧ (Row (Kd.int .i64) 3 (Lo S w W ns_20 [rb A_21, some l_23]) W w.heap.size A_21 c_22 s1) ∧ Ep w W ns_20 [rb A_21, some l_23] ∧ Inv W ns_20 26 ⟨[⟨15, [], .v (.func (.func 62) #[] #[.pointer (some (adr (sv_9 0).1)), .pointer (some (adr (sv_9 2).1))])⟩, ⟨7, [], .p 1 0⟩, ⟨6, [], .v (.slice none 0 0)⟩, ⟨5, [], .p 0 0⟩], [], [], [([.v (.int .i64 a2)], 3), ([.v (.slice A_21 s1.length c_22)], 39)], some (w.heap.size, none), none⟩ ns_20 aR_24 W ∧ Tk T W (Lo S w W ns_20 [rb A_21, some l_23]) W), (fun (r : Nat × ((List Int))) (W : World) => ∃ (A_21 : Option Addr) (c_22 : Nat), (Arr (Kd.int .u32) (Lo S w W ns_20 [rb A_21, some l_23]) W A0 l0) ∧ (Arr (Kd.int .u32) (Lo S w W ns_20 [rb A_21, some l_23]) W A1 l1) ∧ (El (Kd.slice (Kd.int .u32)) (Lo S w W ns_20 [rb A_21, some l_23]) W (adr (sv_9 0).1) t_7.1 (svO sv_9 1)) ∧ (El (Kd.slice (Kd.int .u32)) (Lo S w W ns_20 [rb A_21, some l_23]) W (adr (sv_9 2).1) t_7.2 (svO sv_9 3)) ∧ (Row (Kd.int .i64) 3 (Lo S w W ns_20 [rb A_21, some l_23]) W w.heap.size A_21 c_22 r.2) ∧ Ep w W ns_20 [rb A_21, some l_23] ∧ Inv W ns_20 26 ⟨[⟨15, [], .v (.func (.func 62) #[] #[.pointer (some (adr (sv_9 0).1)), .pointer (some (adr (sv_9 2).1))])⟩, ⟨7, [], .p 1 0⟩, ⟨6, [], .v (.slice none 0 0)⟩, ⟨5, [], .p 0 0⟩], [], [], [([.v (.int .i64 a2)], 3), ([.v (.slice A_21 r.2.length c_22)], 39)], some (w.heap.size, none), none⟩ ns_20 aR_24 W), (fun r => .exit 0), ([] : List Int), Tc (Lo S w w_25 ns_20 [rb none, some l_23]) w_25, z_26, fun _ _ => rfl, ?_, ?_, ?_, ?_, ?_, ?_, ?_⟩
  · rintro s1 T T' A B row ⟨A_21, c_22, hr0, hr1, hR_10, hR_11, hq_19, hE, hI, hT_28⟩ hg hrow hT'
    obtain ⟨hE', hI', hmv, hmr⟩ := hE.turn (S0 := S) hI hg (by simp) hrow
    replace hr0 := Arr.keep hr0 hmv
    replace hr1 := Arr.keep hr1 hmv
    replace hR_10 := El.keep hR_10 hmv
    replace hR_11 := El.keep hR_11 hmv
    replace hq_19 := Row.keep hq_19 hmv (fun b hb => hmr b (by rw [← hb]; first | (simp; done) | simp [rb]) (Ep.ne hE (i := 1) (j := 0) (by decide) rfl rfl hb))
    exact ⟨A_21, c_22, hr0, hr1, hR_10, hR_11, hq_19, hE', hI', hT_28.turn hmv hE hT'⟩
  · rintro r A B row ⟨A_21, c_22, hr0, hr1, hR_10, hR_11, hq_19, hE, hI⟩ hg hrow
    obtain ⟨hE', hI', hmv, hmr⟩ := hE.turn (S0 := S) hI hg (by simp) hrow
    replace hr0 := Arr.keep hr0 hmv
    replace hr1 := Arr.keep hr1 hmv
    replace hR_10 := El.keep hR_10 hmv
    replace hR_11 := El.keep hR_11 hmv
    replace hq_19 := Row.keep hq_19 hmv (fun b hb => hmr b (by rw [← hb]; first | (simp; done) | simp [rb]) (Ep.ne hE (i := 1) (j := 0) (by decide) rfl rfl hb))
    exact ⟨A_21, c_22, hr0, hr1, hR_10, hR_11, hq_19, hE', hI'⟩
  · intro J Jx hq hJ
    exact G_audit_Changed_1.calls _ _ t_7.1 t_7.2 (adr (sv_9 0).1) (svO sv_9 1) (adr (sv_9 2).1) (svO sv_9 3) _ w_25 (S := Tc (Lo S w w_25 ns_20 [rb none, some l_23]) w_25) (El.keep hR_10 (Tc.mv _ _)) (El.keep hR_11 (Tc.mv _ _)) hq hJ _ hz_27
  · exact ⟨none, 0, hr0, hr1, hR_10, hR_11, hq_19, hE, hI, Tk.new _ _⟩
  · rintro s1 y_33 sv_34 T_36 w_35 z hz ⟨A_21, c_22, hr0, hr1, hR_10, hR_11, hq_19, hE, hO, hT_28⟩ hf_37 oo_30 ho_31 hl_29
    unfold G_law22_told.r1 at hz
    have H1 := hz
    clear hz
    have hF : FOpen (Fence.wide.inRound l_23) := .inr ⟨l_23, rfl⟩
    have hI : Inv w_35 ns_20 26 ⟨[⟨16, [], .v (.int .i64 y_33)⟩, ⟨15, [], .v (.func (.func 62) #[] #[.pointer (some (adr (sv_9 0).1)), .pointer (some (adr (sv_9 2).1))])⟩, ⟨7, [], .p 1 0⟩, ⟨6, [], .v (.slice none 0 0)⟩, ⟨5, [], .p 0 0⟩], [], [], [([.v (.int .i64 a2)], 3), ([.v (.slice A_21 s1.length c_22)], 39)], some (w.heap.size, some aR_24.defers), some (2, ns_20)⟩ ns_20 _ w_35 := hO.round rfl rfl rfl [16] (G_audit_Changed_1.enc y_33 sv_34) (by kernel_rfl) (by kernel_rfl) _ haR_32
    refine region_ (live := [9, 7, 6, 5]) (orc := []) hF hI ⟨[⟨9, [], .v (.int .i64 y_33)⟩, ⟨7, [], .p 1 0⟩, ⟨6, [], .v (.slice none 0 0)⟩, ⟨5, [], .p 0 0⟩], [], [], [([.v (.int .i64 a2)], 3), ([.v (.slice A_21 s1.length c_22)], 39)], some (w.heap.size, some aR_24.defers), some (2, ns_20)⟩ [] (by kernel_rfl) trivial (fun ns_38 a w_39 hI _ => ?_)
    refine then_normal ?_
    obtain ⟨hE', hmv, hmr⟩ := Ep.rebase (S0 := S) hE hI
    replace hr0 := Arr.keep hr0 hmv
    replace hr1 := Arr.keep hr1 hmv
    replace hR_10 := El.keep hR_10 hmv
    replace hR_11 := El.keep hR_11 hmv
    replace hq_19 := Row.keep hq_19 hmv (fun b hb => hmr b (by rw [← hb]; first | (simp; done) | simp [rb]))
    replace hT_28 := Tk.keep hT_28 hmv
    replace hl_29 := (hmr _ (by simp)).trans hl_29
    replace hE := hE'
    replace hI := hI.rebase
    clear hE' hmv hmr
    refine begin_ (S0 := S) hE hI (by simp) hl_29 ho_31 (fun w_40 hE' hI' hmv hmr hl_29 => ?_)
    replace hr0 := Arr.keep hr0 hmv
    replace hr1 := Arr.keep hr1 hmv
    replace hR_10 := El.keep hR_10 hmv
    replace hR_11 := El.keep hR_11 hmv
    replace hq_19 := Row.keep hq_19 hmv (fun b hb => hmr b (by rw [← hb]; first | (simp; done) | simp [rb]) (Ep.ne hE (i := 1) (j := 0) (by decide) rfl rfl hb))
    replace hT_28 := Tk.keep hT_28 hmv
    replace hE := hE'
    replace hI := hI'
    clear hE' hI' hmv hmr
    refine wpIn_block ?_
    refine wpIn_seq ?_
    refine seq_region (live := [20, 9, 7, 6, 5]) (orc := []) hF hI ⟨[⟨20, [], .v (.bool (decide ((s1.length : Int) ≥ a2)))⟩, ⟨9, [], .v (.int .i64 y_33)⟩, ⟨7, [], .p 1 0⟩, ⟨6, [], .v (.slice none 0 0)⟩, ⟨5, [], .p 0 0⟩], [], [], [([.v (.int .i64 a2)], 3), ([.v (.slice A_21 s1.length c_22)], 39)], some (w.heap.size, some aR_24.defers), some (2, ns_20)⟩ [] (by kernel_rfl) trivial (fun ns_41 a w_42 hI _ => ?_)
    refine cond_ hI (decide ((s1.length : Int) ≥ a2)) rfl (fun hc_43 => ?_) (fun hc_43 => ?_)
    · replace H1 := bif_t hc_43 H1
      refine wpIn_exit ?_
      refine then_exit ?_
      refine inBlock_other (by decide) ?_
      obtain ⟨hE', hmv, hmr⟩ := Ep.rebase (S0 := S) hE hI
      replace hr0 := Arr.keep hr0 hmv
      replace hr1 := Arr.keep hr1 hmv
      replace hR_10 := El.keep hR_10 hmv
      replace hR_11 := El.keep hR_11 hmv
      replace hq_19 := Row.keep hq_19 hmv (fun b hb => hmr b (by rw [← hb]; first | (simp; done) | simp [rb]))
      replace hT_28 := Tk.keep hT_28 hmv
      replace hl_29 := (hmr _ (by simp)).trans hl_29
      replace hE := hE'
      replace hI := hI.rebase
      clear hE' hmv hmr
      obtain ⟨hE', hI', hmv⟩ := Ep.unround (S0 := S) (bs := [([.v (.int .i64 a2)], 3), ([.v (.slice A_21 s1.length c_22)], 39)]) hO hE hI rfl rfl rfl rfl rfl rfl (by kernel_rfl) rfl
      have hmr : ∀ b : Nat, some b ∈ ([rb A_21, some l_23] : List (Option Nat)) → w_42.heap[b]? = w_42.heap[b]? := fun _ _ => rfl
      replace hr0 := Arr.keep hr0 hmv
      replace hr1 := Arr.keep hr1 hmv
      replace hR_10 := El.keep hR_10 hmv
      replace hR_11 := El.keep hR_11 hmv
      replace hq_19 := Row.keep hq_19 hmv (fun b hb => hmr b (by rw [← hb]; first | (simp; done) | simp [rb]))
      replace hT_28 := Tk.keep hT_28 hmv
      replace hl_29 := (hmr _ (by simp)).trans hl_29
      replace hE := hE'
      replace hI := hI'
      clear hE' hI' hmv hmr
      obtain rfl := Option.some.inj H1
      exact RndQ.ex hl_29 rfl rfl ⟨_, _, hr0, hr1, hR_10, hR_11, hq_19, hE, hI⟩
    · replace H1 := bif_f hc_43 H1
      refine wpIn_skip ?_
      refine then_normal ?_
      refine wpIn_region_lit ?_
      refine chunkL_ (live := [22, 21, 7, 6, 5]) (orc := []) hF 2 hI ⟨[⟨22, [], .v (.int .i64 y_33)⟩, ⟨21, [], .v (.slice A_21 s1.length c_22)⟩, ⟨7, [], .p 1 0⟩, ⟨6, [], .v (.slice none 0 0)⟩, ⟨5, [], .p 0 0⟩], [], [], [([.v (.int .i64 a2)], 3), ([.v (.slice A_21 s1.length c_22)], 39)], some (w.heap.size, some aR_24.defers), some (2, ns_20)⟩ [] rfl (by kernel_rfl) trivial (fun ns_44 a w_45 hI => ?_)
      obtain ⟨hE', hmv, hmr⟩ := Ep.rebase (S0 := S) hE hI
      replace hr0 := Arr.keep hr0 hmv
      replace hr1 := Arr.keep hr1 hmv
      replace hR_10 := El.keep hR_10 hmv
      replace hR_11 := El.keep hR_11 hmv
      replace hq_19 := Row.keep hq_19 hmv (fun b hb => hmr b (by rw [← hb]; first | (simp; done) | simp [rb]))
      replace hT_28 := Tk.keep hT_28 hmv
      replace hl_29 := (hmr _ (by simp)).trans hl_29
      replace hE := hE'
      replace hI := hI.rebase
      clear hE' hmv hmr
      refine buildSlice_ (S0 := S) (d := (Kd.int .i64)) (e := 3) hF hE hI (wanted_none rfl) rfl (by kernel_rfl) (cs := [.int .i64 y_33]) (by kernel_rfl) [y_33] [(svL [])] rfl rfl (by simp [maxLen]) (fun i x hi => by cases i with | zero => (simp only [List.getElem?_cons_zero, Option.some.injEq] at hi; subst hi; exact ⟨trivial, rfl⟩) | succ i => (simp only [List.getElem?_cons_succ] at hi; simp at hi)) (fun A_46 => ⟨[⟨23, [], .v (.slice A_46 ([y_33] : List Int).length (([y_33] : List Int).length))⟩, ⟨22, [], .v (.int .i64 y_33)⟩, ⟨21, [], .v (.slice A_21 s1.length c_22)⟩, ⟨7, [], .p 1 0⟩, ⟨6, [], .v (.slice none 0 0)⟩, ⟨5, [], .p 0 0⟩], [], [], [([.v (.int .i64 a2)], 3), ([.v (.slice A_21 s1.length c_22)], 39)], some (w.heap.size, some aR_24.defers), some (2, ns_20)⟩) (fun A_46 => by kernel_rfl) (fun A_46 a w_48 hput hE' hI' hmv hmr hq_47 => ?_)
      replace hr0 := Arr.keep hr0 hmv
      replace hr1 := Arr.keep hr1 hmv
      replace hR_10 := El.keep hR_10 hmv
      replace hR_11 := El.keep hR_11 hmv
      replace hq_19 := Row.keep hq_19 hmv (fun b hb => hmr b (by rw [← hb]; first | (simp; done) | simp [rb]) (by simp))
      replace hT_28 := Tk.keep hT_28 hmv
      replace hl_29 := (hmr _ (by simp) (by simp)).trans hl_29
      replace hE := hE'
      replace hI := hI'
      clear hE' hI' hmv hmr
      obtain ⟨hE', hmv, hq_47, hcap_49⟩ := Row.still (l1 := [rb A_21, some l_23]) (l2 := []) hq_47 hE
      have hmr : ∀ b : Nat, some b ∈ ([rb A_21, some l_23, rb A_46] : List (Option Nat)) → w_48.heap[b]? = w_48.heap[b]? := fun _ _ => rfl
      replace hr0 := Arr.keep hr0 hmv
      replace hr1 := Arr.keep hr1 hmv
      replace hR_10 := El.keep hR_10 hmv
      replace hR_11 := El.keep hR_11 hmv
      replace hq_19 := Row.keep hq_19 hmv (fun b hb => hmr b (by rw [← hb]; first | (simp; done) | simp [rb]))
      replace hT_28 := Tk.keep hT_28 hmv
      replace hl_29 := (hmr _ (by simp)).trans hl_29
      replace hE := hE'
      clear hE' hmv hmr
      obtain ⟨hN_50, H1⟩ := req_some H1
      replace hN_50 := of_decide_eq_true hN_50
      refine append_ (S0 := S) (l1 := []) (l2 := [some l_23]) (d := (Kd.int .i64)) (e := 3) hF hE hI (wanted_none rfl) rfl (A := A_21) (c := c_22) (l := s1) rfl (A2 := A_46) (c2 := (([y_33] : List Int).length)) rfl hq_19 hq_47 (fun sv u hu => by exact kd_one_int _ sv u hu) Try.underlying39 (zi := (.int .i64 0, 1, 8)) (by kernel_rfl) rfl (by kernel_rfl) (len_max (by decide) hN_50) hN_50 (fun A_51 c_52 => ⟨[⟨24, [], .v (.slice A_51 (s1 ++ [y_33]).length c_52)⟩, ⟨23, [], .v (.slice A_46 ([y_33] : List Int).length (([y_33] : List Int).length))⟩, ⟨22, [], .v (.int .i64 y_33)⟩, ⟨21, [], .v (.slice A_21 s1.length c_22)⟩, ⟨7, [], .p 1 0⟩, ⟨6, [], .v (.slice none 0 0)⟩, ⟨5, [], .p 0 0⟩], [], [], [([.v (.int .i64 a2)], 3), ([.v (.slice A_21 s1.length c_22)], 39)], some (w.heap.size, some aR_24.defers), some (2, ns_20)⟩) (fun A_51 c_52 => by kernel_rfl) (fun A_51 c_52 a w_53 hput hE' hI' hmv hmr hq_19 => ?_)
      replace hr0 := Arr.keep hr0 hmv
      replace hr1 := Arr.keep hr1 hmv
      replace hR_10 := El.keep hR_10 hmv
      replace hR_11 := El.keep hR_11 hmv
      replace hT_28 := Tk.keep hT_28 hmv
      replace hl_29 := (hmr _ (by simp) (Ep.ne hE (i := 0) (j := 1) (by decide) rfl rfl rfl)).trans hl_29
      replace hq_47 := Arr.keep hq_47 hmv
      replace hE := hE'
      replace hI := hI'
      clear hE' hI' hmv hmr
      refine chunkL_ (live := [7, 6, 5]) (orc := []) hF 1 hI ⟨[⟨7, [], .p 1 0⟩, ⟨6, [], .v (.slice none 0 0)⟩, ⟨5, [], .p 0 0⟩], [], [], [([.v (.int .i64 a2)], 3), ([.v (.slice A_51 (s1 ++ [y_33]).length c_52)], 39)], some (w.heap.size, some aR_24.defers), some (2, ns_20)⟩ [] rfl (by kernel_rfl) trivial (fun ns_54 a w_55 hI => ?_)
      refine wpListIn_nil ?_
      refine inBlock_normal ?_
      obtain ⟨hE', hmv, hmr⟩ := Ep.rebase (S0 := S) hE hI
      replace hr0 := Arr.keep hr0 hmv
      replace hr1 := Arr.keep hr1 hmv
      replace hR_10 := El.keep hR_10 hmv
      replace hR_11 := El.keep hR_11 hmv
      replace hT_28 := Tk.keep hT_28 hmv
      replace hl_29 := (hmr _ (by simp)).trans hl_29
      replace hq_47 := Arr.keep hq_47 hmv
      replace hq_19 := Row.keep hq_19 hmv (fun b hb => hmr b (by rw [← hb]; first | (simp; done) | simp [rb]))
      replace hE := hE'
      replace hI := hI.rebase
      clear hE' hmv hmr
      obtain ⟨hE', hI', hmv⟩ := Ep.unround (S0 := S) (bs := [([.v (.int .i64 a2)], 3), ([.v (.slice A_51 (s1 ++ [y_33]).length c_52)], 39)]) hO hE hI rfl rfl rfl rfl rfl rfl (by kernel_rfl) rfl
      have hmr : ∀ b : Nat, some b ∈ ([rb A_51, some l_23] : List (Option Nat)) → w_55.heap[b]? = w_55.heap[b]? := fun _ _ => rfl
      replace hr0 := Arr.keep hr0 hmv
      replace hr1 := Arr.keep hr1 hmv
      replace hR_10 := El.keep hR_10 hmv
      replace hR_11 := El.keep hR_11 hmv
      replace hT_28 := Tk.keep hT_28 hmv
      replace hl_29 := (hmr _ (by simp)).trans hl_29
      replace hq_47 := Arr.keep hq_47 hmv
      replace hq_19 := Row.keep hq_19 hmv (fun b hb => hmr b (by rw [← hb]; first | (simp; done) | simp [rb]))
      replace hE := hE'
      replace hI := hI'
      clear hE' hI' hmv hmr
      obtain rfl := Option.some.inj H1
      exact RndQ.nrm hl_29 rfl ⟨_, _, hr0, hr1, hR_10, hR_11, hq_19, hE, hI, hT_28.re⟩ hT_28.same
  · rintro s1 T w_56 hzz ⟨A_21, c_22, hr0, hr1, hR_10, hR_11, hq_19, hE, hI, hT_28⟩
    subst hzz
    replace H0 : (some s1 : Option ((List Int))) = _ := H0
    obtain ⟨hE', hmv⟩ := hE.sub (S0 := S) (mine' := [rb A_21]) (sub_one [rb A_21] [] _)
    have hmr : ∀ b : Nat, some b ∈ ([rb A_21, some l_23] : List (Option Nat)) → w_56.heap[b]? = w_56.heap[b]? := fun _ _ => rfl
    replace hr0 := Arr.keep hr0 hmv
    replace hr1 := Arr.keep hr1 hmv
    replace hR_10 := El.keep hR_10 hmv
    replace hR_11 := El.keep hR_11 hmv
    replace hq_19 := Row.keep hq_19 hmv (fun b hb => hmr b (by rw [← hb]; first | (simp; done) | simp [rb]))
    replace hE := hE'
    clear hE' hmv hmr
    refine inBlock_normal ?_
    refine then_normal ?_
    refine seq_region (live := [6]) (orc := []) hF hI ⟨[⟨6, [], .v (.slice A_21 s1.length c_22)⟩], [], [], [([.v (.int .i64 a2)], 3), ([.v (.slice A_21 s1.length c_22)], 39)], some (w.heap.size, none), none⟩ [] (by kernel_rfl) trivial (fun ns_57 a w_58 hI _ => ?_)
    obtain ⟨hE', hmv, hmr⟩ := Ep.rebase (S0 := S) hE hI
    replace hr0 := Arr.keep hr0 hmv
    replace hr1 := Arr.keep hr1 hmv
    replace hR_10 := El.keep hR_10 hmv
    replace hR_11 := El.keep hR_11 hmv
    replace hq_19 := Row.keep hq_19 hmv (fun b hb => hmr b (by rw [← hb]; first | (simp; done) | simp [rb]))
    replace hE := hE'
    replace hI := hI.rebase
    clear hE' hmv hmr
    obtain ⟨hE', hmv, hq_19, hcap_59⟩ := Row.still (l1 := []) (l2 := []) hq_19 hE
    have hmr : ∀ b : Nat, some b ∈ ([rb A_21] : List (Option Nat)) → w_58.heap[b]? = w_58.heap[b]? := fun _ _ => rfl
    replace hr0 := Arr.keep hr0 hmv
    replace hr1 := Arr.keep hr1 hmv
    replace hR_10 := El.keep hR_10 hmv
    replace hR_11 := El.keep hR_11 hmv
    replace hE := hE'
    clear hE' hmv hmr
    refine wpIn_ret ?_
    obtain rfl := Option.some.inj H0
    exact retM hI rfl rfl rfl (fun wz hz => ⟨svL [(A_21, c_22)], rfl, (hE.below hI).trans hz.below, ⟨Arr.keep (Arr.keep hq_19 (hE.out hI)) (hz.mv _), hcap_59⟩⟩)
  · rintro r1 WX hzz ⟨A_21, c_22, hr0, hr1, hR_10, hR_11, hq_19, hE, hI⟩
    subst hzz
    replace H0 : (some r1.2 : Option ((List Int))) = _ := H0
    dsimp only
    obtain ⟨hE', hmv⟩ := hE.sub (S0 := S) (mine' := [rb A_21]) (sub_one [rb A_21] [] _)
    have hmr : ∀ b : Nat, some b ∈ ([rb A_21, some l_23] : List (Option Nat)) → WX.heap[b]? = WX.heap[b]? := fun _ _ => rfl
    replace hr0 := Arr.keep hr0 hmv
    replace hr1 := Arr.keep hr1 hmv
    replace hR_10 := El.keep hR_10 hmv
    replace hR_11 := El.keep hR_11 hmv
    replace hq_19 := Row.keep hq_19 hmv (fun b hb => hmr b (by rw [← hb]; first | (simp; done) | simp [rb]))
    replace hE := hE'
    clear hE' hmv hmr
    refine wpIn_exit ?_
    refine inBlock_here ?_
    refine then_normal ?_
    refine seq_region (live := [6]) (orc := []) hF hI ⟨[⟨6, [], .v (.slice A_21 r1.2.length c_22)⟩], [], [], [([.v (.int .i64 a2)], 3), ([.v (.slice A_21 r1.2.length c_22)], 39)], some (w.heap.size, none), none⟩ [] (by kernel_rfl) trivial (fun ns_61 a w_62 hI _ => ?_)
    obtain ⟨hE', hmv, hmr⟩ := Ep.rebase (S0 := S) hE hI
    replace hr0 := Arr.keep hr0 hmv
    replace hr1 := Arr.keep hr1 hmv
    replace hR_10 := El.keep hR_10 hmv
    replace hR_11 := El.keep hR_11 hmv
    replace hq_19 := Row.keep hq_19 hmv (fun b hb => hmr b (by rw [← hb]; first | (simp; done) | simp [rb]))
    replace hE := hE'
    replace hI := hI.rebase
    clear hE' hmv hmr
    obtain ⟨hE', hmv, hq_19, hcap_63⟩ := Row.still (l1 := []) (l2 := []) hq_19 hE
    have hmr : ∀ b : Nat, some b ∈ ([rb A_21] : List (Option Nat)) → w_62.heap[b]? = w_62.heap[b]? := fun _ _ => rfl
    replace hr0 := Arr.keep hr0 hmv
    replace hr1 := Arr.keep hr1 hmv
    replace hR_10 := El.keep hR_10 hmv
    replace hR_11 := El.keep hR_11 hmv
    replace hE := hE'
    clear hE' hmv hmr
    refine wpIn_ret ?_
    obtain rfl := Option.some.inj H0
    exact retM hI rfl rfl rfl (fun wz hz => ⟨svL [(A_21, c_22)], rfl, (hE.below hI).trans hz.below, ⟨Arr.keep (Arr.keep hq_19 (hE.out hI)) (hz.mv _), hcap_63⟩⟩)

/-! ### porthole/portholeref01.Same: function 18 -/
noncomputable def G_ref01_Same.b1 (l0 : (List Int)) (l1 : (List Int)) (s1 : Int × Bool) : Option (Stp (Int × Bool) (Ex (Int × Bool) (Bool))) := (bif decide (s1.1 < (l0.length : Int)) then (req (inb s1.1 l0.length) (req (inb s1.1 l1.length) (bif ((rd l0 s1.1) != (rd l1 s1.1)) then some (.out (.ret false)) else some (.next ((IntKind.i64.wrap (s1.1 + 1)), s1.2))))) else some (.out (.brk (s1.1, s1.2))))
noncomputable def G_ref01_Same (l0 : (List Int)) (l1 : (List Int)) : Option (Bool) := (bif ((l0.length : Int) != (l1.length : Int)) then some false else ((loopω (G_ref01_Same.b1 l0 l1) (0, false)).bind fun o => o.on (fun s1 => some true) (fun r => some r)))
set_option maxRecDepth 100000 in
set_option maxHeartbeats 4000000 in
theorem G_ref01_Same.calls (l0 : (List Int)) (l1 : (List Int)) (A0 : Option Addr) (c0 : Nat) (A1 : Option Addr) (c1 : Nat) (w : World) {S : Nat → Prop} (hr0 : Arr (Kd.int .i64) S w A0 l0) (hc0 : l0.length ≤ c0) (hr1 : Arr (Kd.int .i64) S w A1 l1) (hc1 : l1.length ≤ c1) (r : Bool) (h : G_ref01_Same l0 l1 = some r) :
    Calls Try.prog 18 #[.slice A0 l0.length c0, .slice A1 l1.length c1] w fun e w' => e = .returned (.bool r) ∧ Below w.heap.size w w' := by
  replace hr0 := Arr.lo hr0
  replace hr1 := Arr.lo hr1
  unfold G_ref01_Same at h
  have H0 := h
  clear h
  refine enter Try.func18 rfl [.slice A0 l0.length c0, .slice A1 l1.length c1] (n := 26) rfl (Nat.le_of_ble_eq_true rfl) (fun a hI => ?_)
  have hF : FOpen Fence.wide := .inl rfl
  have hE := Ep.start w
  refine seq_region (live := [4, 0, 1]) (orc := []) hF hI ⟨[⟨4, [], .v (.bool false)⟩, ⟨0, [], .v (.slice A0 l0.length c0)⟩, ⟨1, [], .v (.slice A1 l1.length c1)⟩], [], [], [], none, none⟩ [] (by kernel_rfl) trivial (fun ns_1 a w_2 hI _ => ?_)
  refine wpIn_seq ?_
  refine seq_region (live := [10, 4, 0, 1]) (orc := []) hF hI ⟨[⟨10, [], .v (.bool ((l0.length : Int) != (l1.length : Int)))⟩, ⟨4, [], .v (.bool false)⟩, ⟨0, [], .v (.slice A0 l0.length c0)⟩, ⟨1, [], .v (.slice A1 l1.length c1)⟩], [], [], [], none, none⟩ [] (by kernel_rfl) trivial (fun ns_3 a w_4 hI _ => ?_)
  refine cond_ hI (((l0.length : Int) != (l1.length : Int))) rfl (fun hc_5 => ?_) (fun hc_5 => ?_)
  · replace H0 := bif_t hc_5 H0
    refine seq_region (live := [4]) (orc := []) hF hI ⟨[⟨4, [], .v (.bool false)⟩], [], [], [], none, none⟩ [] (by kernel_rfl) trivial (fun ns_6 a w_7 hI _ => ?_)
    refine wpIn_ret ?_
    refine then_ret ?_
    obtain rfl := Option.some.inj H0
    exact ret1 hI rfl rfl ⟨rfl, hE.below hI⟩
  · replace H0 := bif_f hc_5 H0
    refine wpIn_skip ?_
    refine then_normal ?_
    refine wpIn_seq ?_
    refine seq_region (live := [5, 4, 0, 1]) (orc := []) hF hI ⟨[⟨5, [], .v (.int .i64 0)⟩, ⟨4, [], .v (.bool false)⟩, ⟨0, [], .v (.slice A0 l0.length c0)⟩, ⟨1, [], .v (.slice A1 l1.length c1)⟩], [], [], [], none, none⟩ [] (by kernel_rfl) trivial (fun ns_8 a w_9 hI _ => ?_)
    obtain ⟨o_29, hL_30, H0⟩ := bind_some H0
    refine block_loop (fun (s1 : Int × Bool) a w_35 => ∃ ns, St w [] 26 ⟨[⟨5, [], .v (.int .i64 s1.1)⟩, ⟨4, [], .v (.bool s1.2)⟩, ⟨0, [], .v (.slice A0 l0.length c0)⟩, ⟨1, [], .v (.slice A1 l1.length c1)⟩], [], [], [], none, none⟩ ns a w_35) (0, false) hL_30 ⟨_, hI.pick [5, 4, 0, 1] 0 ⟨[⟨5, [], .v (.int .i64 0)⟩, ⟨4, [], .v (.bool false)⟩, ⟨0, [], .v (.slice A0 l0.length c0)⟩, ⟨1, [], .v (.slice A1 l1.length c1)⟩], [], [], [], none, none⟩ (by kernel_rfl)⟩ ?_ ?_
    · clear hI
      rintro s1 a w_10 ⟨ns_11, hI⟩ r1 H1
      unfold G_ref01_Same.b1 at H1
      refine wpIn_seq ?_
      refine seq_region (live := [14, 5, 4, 0, 1]) (orc := []) hF hI ⟨[⟨14, [], .v (.bool (decide (s1.1 < (l0.length : Int))))⟩, ⟨5, [], .v (.int .i64 s1.1)⟩, ⟨4, [], .v (.bool s1.2)⟩, ⟨0, [], .v (.slice A0 l0.length c0)⟩, ⟨1, [], .v (.slice A1 l1.length c1)⟩], [], [], [], none, none⟩ [] (by kernel_rfl) trivial (fun ns_12 a w_13 hI _ => ?_)
      refine cond_ hI (decide (s1.1 < (l0.length : Int))) rfl (fun hc_14 => ?_) (fun hc_14 => ?_)
      · replace H1 := bif_t hc_14 H1
        refine wpIn_skip ?_
        refine then_normal ?_
        refine wpIn_seq ?_
        refine wpIn_block ?_
        refine wpIn_seq ?_
        obtain ⟨hN_15, H1⟩ := req_some H1
        obtain ⟨sv_16, hE_18, hA_17⟩ := Arr.elB (d := (Kd.int .i64)) hr0 s1.1 true (fun _ => hN_15)
        replace hE_18 := hE_18 rfl
        replace hA_17 := fun (_ : true = true) => hA_17 rfl
        obtain ⟨hN_19, H1⟩ := req_some H1
        obtain ⟨sv_20, hE_22, hA_21⟩ := Arr.elB (d := (Kd.int .i64)) hr1 s1.1 true (fun _ => hN_19)
        replace hE_22 := hE_22 rfl
        replace hA_21 := fun (_ : true = true) => hA_21 rfl
        refine drawn_ (live := [25, 5, 4, 0, 1]) (orc := [[.int .i64 (rd l0 s1.1)], [.int .i64 (rd l1 s1.1)]]) hF hI ⟨[⟨25, [], .v (.bool ((rd l0 s1.1) != (rd l1 s1.1)))⟩, ⟨5, [], .v (.int .i64 s1.1)⟩, ⟨4, [], .v (.bool s1.2)⟩, ⟨0, [], .v (.slice A0 l0.length c0)⟩, ⟨1, [], .v (.slice A1 l1.length c1)⟩], [], [], [], none, none⟩ [.need true (0 ≤ s1.1 ∧ s1.1 < (l0.length : Int)), .need true (A0 = some (adr A0)), .cell true ((adr A0).add ((s1.1 : Int).toNat * 1)) [.int .i64 (rd l0 s1.1)], .need true (0 ≤ s1.1 ∧ s1.1 < (l1.length : Int)), .need true (A1 = some (adr A1)), .cell true ((adr A1).add ((s1.1 : Int).toNat * 1)) [.int .i64 (rd l1 s1.1)]] (by kernel_rfl) (by kernel_rfl) (by kernel_rfl) ⟨ob_inb (fun _ => hN_15), hA_17, ob_el (fun _ => hE_18) 0 [.int .i64 (rd l0 s1.1)] rfl, ob_inb (fun _ => hN_19), hA_21, ob_el (fun _ => hE_22) 0 [.int .i64 (rd l1 s1.1)] rfl, trivial⟩ (fun a w_23 hI => ?_)
        refine then_normal ?_
        refine cond_ hI (((rd l0 s1.1) != (rd l1 s1.1))) rfl (fun hc_24 => ?_) (fun hc_24 => ?_)
        · replace H1 := bif_t hc_24 H1
          refine seq_region (live := [4]) (orc := []) hF hI ⟨[⟨4, [], .v (.bool false)⟩], [], [], [], none, none⟩ [] (by kernel_rfl) trivial (fun ns_25 a w_26 hI _ => ?_)
          refine wpIn_ret ?_
          refine inBlock_ret ?_
          refine then_ret ?_
          refine then_ret ?_
          obtain rfl := Option.some.inj H1
          refine .inr ⟨_, rfl, fun ho => ?_⟩
          subst ho
          refine inBlock_ret ?_
          refine then_ret ?_
          obtain rfl := Option.some.inj H0
          exact ret1 hI rfl rfl ⟨rfl, hE.below hI⟩
        · replace H1 := bif_f hc_24 H1
          refine wpIn_skip ?_
          refine inBlock_normal ?_
          refine then_normal ?_
          refine region_ (live := [5, 4, 0, 1]) (orc := []) hF hI ⟨[⟨5, [], .v (.int .i64 (IntKind.i64.wrap (s1.1 + 1)))⟩, ⟨4, [], .v (.bool s1.2)⟩, ⟨0, [], .v (.slice A0 l0.length c0)⟩, ⟨1, [], .v (.slice A1 l1.length c1)⟩], [], [], [], none, none⟩ [] (by kernel_rfl) trivial (fun ns_27 a w_28 hI _ => ?_)
          refine then_normal ?_
          obtain rfl := Option.some.inj H1
          exact ⟨_, rfl, ⟨_, hI.pick [5, 4, 0, 1] 0 ⟨[⟨5, [], .v (.int .i64 (IntKind.i64.wrap (s1.1 + 1)))⟩, ⟨4, [], .v (.bool s1.2)⟩, ⟨0, [], .v (.slice A0 l0.length c0)⟩, ⟨1, [], .v (.slice A1 l1.length c1)⟩], [], [], [], none, none⟩ (by kernel_rfl)⟩⟩
      · replace H1 := bif_f hc_14 H1
        refine wpIn_exit ?_
        refine then_exit ?_
        refine then_exit ?_
        obtain rfl := Option.some.inj H1
        exact .inl ⟨_, rfl, rfl, ⟨_, hI.pick [5, 4, 0, 1] 0 ⟨[⟨5, [], .v (.int .i64 s1.1)⟩, ⟨4, [], .v (.bool s1.2)⟩, ⟨0, [], .v (.slice A0 l0.length c0)⟩, ⟨1, [], .v (.slice A1 l1.length c1)⟩], [], [], [], none, none⟩ (by kernel_rfl)⟩⟩
    · clear hI
      rintro s1 a w_31 ho ⟨ns_32, hI⟩
      subst ho
      replace H0 : (some true : Option (Bool)) = _ := H0
      refine then_normal ?_
      refine seq_region (live := [4]) (orc := []) hF hI ⟨[⟨4, [], .v (.bool true)⟩], [], [], [], none, none⟩ [] (by kernel_rfl) trivial (fun ns_33 a w_34 hI _ => ?_)
      refine wpIn_ret ?_
      obtain rfl := Option.some.inj H0
      exact ret1 hI rfl rfl ⟨rfl, hE.below hI⟩

/-! ### porthole/portholelaw22.wakes: function 30 -/
noncomputable def G_law22_wakes  : Option (Bool) := ((G_law22_told ([1, 2] : List Int) ([1, 3, 4] : List Int) 9).bind fun t_11 => ((G_ref01_Same t_11 ([1, 2] : List Int)).bind fun t_19 => some t_19))
set_option maxRecDepth 100000 in
set_option maxHeartbeats 4000000 in
theorem G_law22_wakes.calls   (w : World) {S : Nat → Prop}  (r : Bool) (h : G_law22_wakes = some r) :
    Calls Try.prog 30 #[] w fun e w' => e = .returned (.bool r) ∧ Below w.heap.size w w' := by
  unfold G_law22_wakes at h
  have H0 := h
  clear h
  refine enter Try.func30 rfl [] (n := 6) rfl (Nat.le_of_ble_eq_true rfl) (fun a hI => ?_)
  have hF : FOpen Fence.wide := .inl rfl
  have hE := Ep.start w
  refine seq_region (live := [0]) (orc := []) hF hI ⟨[⟨0, [], .v (.bool false)⟩], [], [], [], none, none⟩ [] (by kernel_rfl) trivial (fun ns_1 a w_2 hI _ => ?_)
  refine wpIn_seq ?_
  refine wpIn_region_lit ?_
  obtain ⟨hE', hmv, hmr⟩ := Ep.rebase (S0 := S) hE hI
  replace hE := hE'
  replace hI := hI.rebase
  clear hE' hmv hmr
  refine buildSlice_ (S0 := S) (d := (Kd.int .u32)) (e := 72) hF hE hI (wanted_none rfl) rfl (by kernel_rfl) (cs := [.int .u32 1, .int .u32 2]) (by kernel_rfl) [1, 2] [(svL []), (svL [])] rfl rfl (by simp [maxLen]) (fun i x hi => by cases i with | zero => (simp only [List.getElem?_cons_zero, Option.some.injEq] at hi; subst hi; exact ⟨trivial, rfl⟩) | succ i => (simp only [List.getElem?_cons_succ] at hi; cases i with | zero => (simp only [List.getElem?_cons_zero, Option.some.injEq] at hi; subst hi; exact ⟨trivial, rfl⟩) | succ i => (simp only [List.getElem?_cons_succ] at hi; simp at hi))) (fun A_3 => ⟨[⟨1, [], .v (.slice A_3 ([1, 2] : List Int).length (([1, 2] : List Int).length))⟩, ⟨0, [], .v (.bool false)⟩], [], [], [], none, none⟩) (fun A_3 => by kernel_rfl) (fun A_3 a w_5 hput hE' hI' hmv hmr hq_4 => ?_)
  replace hE := hE'
  replace hI := hI'
  clear hE' hI' hmv hmr
  refine buildSlice_ (S0 := S) (d := (Kd.int .u32)) (e := 72) hF hE hI (wanted_none rfl) rfl (by kernel_rfl) (cs := [.int .u32 1, .int .u32 3, .int .u32 4]) (by kernel_rfl) [1, 3, 4] [(svL []), (svL []), (svL [])] rfl rfl (by simp [maxLen]) (fun i x hi => by cases i with | zero => (simp only [List.getElem?_cons_zero, Option.some.injEq] at hi; subst hi; exact ⟨trivial, rfl⟩) | succ i => (simp only [List.getElem?_cons_succ] at hi; cases i with | zero => (simp only [List.getElem?_cons_zero, Option.some.injEq] at hi; subst hi; exact ⟨trivial, rfl⟩) | succ i => (simp only [List.getElem?_cons_succ] at hi; cases i with | zero => (simp only [List.getElem?_cons_zero, Option.some.injEq] at hi; subst hi; exact ⟨trivial, rfl⟩) | succ i => (simp only [List.getElem?_cons_succ] at hi; simp at hi)))) (fun A_6 => ⟨[⟨2, [], .v (.slice A_6 ([1, 3, 4] : List Int).length (([1, 3, 4] : List Int).length))⟩, ⟨1, [], .v (.slice A_3 ([1, 2] : List Int).length (([1, 2] : List Int).length))⟩, ⟨0, [], .v (.bool false)⟩], [], [], [], none, none⟩) (fun A_6 => by kernel_rfl) (fun A_6 a w_8 hput hE' hI' hmv hmr hq_7 => ?_)
  replace hq_4 := Row.keep hq_4 hmv (fun b hb => hmr b (by rw [← hb]; first | (simp; done) | simp [rb]) (by simp))
  replace hE := hE'
  replace hI := hI'
  clear hE' hI' hmv hmr
  obtain ⟨hE', hmv, hq_4, hcap_9⟩ := Row.still (l1 := []) (l2 := [rb A_6]) hq_4 hE
  have hmr : ∀ b : Nat, some b ∈ ([rb A_3, rb A_6] : List (Option Nat)) → w_8.heap[b]? = w_8.heap[b]? := fun _ _ => rfl
  replace hq_7 := Row.keep hq_7 hmv (fun b hb => hmr b (by rw [← hb]; first | (simp; done) | simp [rb]))
  replace hE := hE'
  clear hE' hmv hmr
  obtain ⟨hE', hmv, hq_7, hcap_10⟩ := Row.still (l1 := []) (l2 := []) hq_7 hE
  have hmr : ∀ b : Nat, some b ∈ ([rb A_6] : List (Option Nat)) → w_8.heap[b]? = w_8.heap[b]? := fun _ _ => rfl
  replace hq_4 := Arr.keep hq_4 hmv
  replace hE := hE'
  clear hE' hmv hmr
  obtain ⟨t_11, hG_12, H0⟩ := bind_some H0
  refine callH_ (S0 := S) hF hE hI (wanted_none rfl) rfl (args := [.slice A_3 ([1, 2] : List Int).length (([1, 2] : List Int).length), .slice A_6 ([1, 3, 4] : List Int).length (([1, 3, 4] : List Int).length), .int .i64 9]) rfl (enters Try.func32 (by kernel_rfl) rfl) (fun sv_13 => .slice ((sv_13 0).1) t_11.length ((sv_13 0).2)) _ (G_law22_told.calls ([1, 2] : List Int) ([1, 3, 4] : List Int) 9 A_3 (([1, 2] : List Int).length) A_6 (([1, 3, 4] : List Int).length) w_8 (S := Lo S w w_8 ns_1 []) hq_4 hcap_9 hq_7 hcap_10 _ hG_12) (fun sv_13 => ⟨[⟨3, [], .v (.slice ((sv_13 0).1) t_11.length ((sv_13 0).2))⟩, ⟨2, [], .v (.slice A_6 ([1, 3, 4] : List Int).length (([1, 3, 4] : List Int).length))⟩, ⟨1, [], .v (.slice A_3 ([1, 2] : List Int).length (([1, 2] : List Int).length))⟩, ⟨0, [], .v (.bool false)⟩], [], [], [], none, none⟩) (fun sv_13 => by kernel_rfl) (fun sv_13 a w_15 hput hE' hI' hmv hmr hres hR => ?_)
  replace hq_4 := Arr.keep hq_4 hmv
  replace hq_7 := Arr.keep hq_7 hmv
  replace hE := hE'
  replace hI := hI'
  clear hE' hI' hmv hmr
  obtain ⟨hR_14, hR_14c⟩ := hR
  replace hR_14 := Arr.keep hR_14 hres
  clear hres
  refine buildSlice_ (S0 := S) (d := (Kd.int .i64)) (e := 3) hF hE hI (wanted_none rfl) rfl (by kernel_rfl) (cs := [.int .i64 1, .int .i64 2]) (by kernel_rfl) [1, 2] [(svL []), (svL [])] rfl rfl (by simp [maxLen]) (fun i x hi => by cases i with | zero => (simp only [List.getElem?_cons_zero, Option.some.injEq] at hi; subst hi; exact ⟨trivial, rfl⟩) | succ i => (simp only [List.getElem?_cons_succ] at hi; cases i with | zero => (simp only [List.getElem?_cons_zero, Option.some.injEq] at hi; subst hi; exact ⟨trivial, rfl⟩) | succ i => (simp only [List.getElem?_cons_succ] at hi; simp at hi))) (fun A_16 => ⟨[⟨4, [], .v (.slice A_16 ([1, 2] : List Int).length (([1, 2] : List Int).length))⟩, ⟨3, [], .v (.slice ((sv_13 0).1) t_11.length ((sv_13 0).2))⟩, ⟨2, [], .v (.slice A_6 ([1, 3, 4] : List Int).length (([1, 3, 4] : List Int).length))⟩, ⟨1, [], .v (.slice A_3 ([1, 2] : List Int).length (([1, 2] : List Int).length))⟩, ⟨0, [], .v (.bool false)⟩], [], [], [], none, none⟩) (fun A_16 => by kernel_rfl) (fun A_16 a w_18 hput hE' hI' hmv hmr hq_17 => ?_)
  replace hq_4 := Arr.keep hq_4 hmv
  replace hq_7 := Arr.keep hq_7 hmv
  replace hR_14 := Arr.keep hR_14 hmv
  replace hE := hE'
  replace hI := hI'
  clear hE' hI' hmv hmr
  obtain ⟨t_19, hG_20, H0⟩ := bind_some H0
  refine chunkL_ (live := [0]) (orc := [[.bool t_19]]) hF 2 hI ⟨[⟨0, [], .v (.bool t_19)⟩], [], [], [], none, none⟩ [.call true 18 [.slice ((sv_13 0).1) t_11.length ((sv_13 0).2), .slice A_16 ([1, 2] : List Int).length (([1, 2] : List Int).length)] (.bool t_19)] rfl (by kernel_rfl) ⟨ob_call (enters Try.func18 (by kernel_rfl) rfl) (fun hg wz hk => G_ref01_Same.calls t_11 ([1, 2] : List Int) ((sv_13 0).1) ((sv_13 0).2) A_16 (([1, 2] : List Int).length) wz (S := fun _ => True) (Arr.any (Arr.keep hR_14 (Lo.on hk))) hR_14c (Row.arr (S' := fun _ => True) (Row.on hq_17 hE (by simp) hk) (fun _ _ => trivial) (fun _ _ => trivial)).1 (Row.arr (S' := fun _ => True) hq_17 (fun _ _ => trivial) (fun _ _ => trivial)).2 _ hG_20), trivial⟩ (fun ns_21 a w_22 hI => ?_)
  refine wpListIn_nil ?_
  refine then_normal ?_
  refine wpIn_ret ?_
  obtain rfl := Option.some.inj H0
  exact ret1 hI rfl rfl ⟨rfl, hE.below hI⟩

/-! ### porthole/portholeref06.Great: function 13 -/
noncomputable def G_ref06_Great (x0 : Config) : Option (Bool) := some (((decide ((x0.Parts.length : Int) > 100) || decide ((x0.Chans.length : Int) > 100)) || decide ((x0.Frames.e0.Windows.length : Int) > 100)) || decide ((x0.Frames.e1.Windows.length : Int) > 100))
set_option maxRecDepth 100000 in
set_option maxHeartbeats 4000000 in
theorem G_ref06_Great.calls (x0 : Config) (sv0 : SV) (w : World) {S : Nat → Prop} (hx0 : (kd_Config).cont S w x0 sv0) (r : Bool) (h : G_ref06_Great x0 = some r) :
    Calls Try.prog 13 #[.agg ((kd_Config).cells x0 sv0).toArray] w fun e w' => e = .returned (.bool r) ∧ Below w.heap.size w w' := by
  replace hx0 := Kd.lo _ hx0
  unfold G_ref06_Great at h
  have H0 := h
  clear h
  refine enter Try.func13 rfl [.agg ((kd_Config).cells x0 sv0).toArray] (n := 29) rfl (Nat.le_of_ble_eq_true rfl) (fun a hI => ?_)
  have hF : FOpen Fence.wide := .inl rfl
  have hE := Ep.start w
  refine seq_region (live := [2, 1]) (orc := []) hF hI ⟨[⟨2, [], .v (.bool false)⟩, ⟨1, [], .p 0 0⟩], [], [], [((((kd_Config).cells x0 sv0).map EV.v), 29)], none, none⟩ [] (by kernel_rfl) trivial (fun ns_1 a w_2 hI _ => ?_)
  refine seq_region (live := [2]) (orc := []) hF hI ⟨[⟨2, [], .v (.bool (((decide ((x0.Parts.length : Int) > 100) || decide ((x0.Chans.length : Int) > 100)) || decide ((x0.Frames.e0.Windows.length : Int) > 100)) || decide ((x0.Frames.e1.Windows.length : Int) > 100)))⟩], [], [], [((((kd_Config).cells x0 sv0).map EV.v), 29)], none, none⟩ [] (by kernel_rfl) trivial (fun ns_3 a w_4 hI _ => ?_)
  refine wpIn_ret ?_
  obtain rfl := Option.some.inj H0
  exact ret1 hI rfl rfl ⟨rfl, hE.below hI⟩

/-! ### porthole/portholeref07.window: function 72 -/
noncomputable def G_ref07_window.b1 (x0 : Config) (a1 : Int) (s1 : Int × Bool) : Option (Stp (Int × Bool) (Ex (Int × Bool) (Bool))) := (bif decide (s1.1 < (((rdA_St27 x0.Frames ((rd x0.Parts a1).Core)).Windows).length : Int)) then (req (inb s1.1 ((rdA_St27 x0.Frames ((rd x0.Parts a1).Core)).Windows).length) (bif (((rd ((rdA_St27 x0.Frames ((rd x0.Parts a1).Core)).Windows) s1.1).Part) == a1) then some (.out (.ret true)) else some (.next ((IntKind.i64.wrap (s1.1 + 1)), s1.2)))) else some (.out (.brk (s1.1, s1.2))))
noncomputable def G_ref07_window (x0 : Config) (a1 : Int) : Option (Bool) := (req (inb a1 x0.Parts.length) (req (imp (((rd x0.Parts a1).Core) != 0) (inb a1 x0.Parts.length)) (bif ((((rd x0.Parts a1).Core) != 0) && (((rd x0.Parts a1).Core) != 1)) then some false else (req (inb a1 x0.Parts.length) (req (inb ((rd x0.Parts a1).Core) 2) ((loopω (G_ref07_window.b1 x0 a1) (0, false)).bind fun o => o.on (fun s1 => some false) (fun r => some r)))))))
set_option maxRecDepth 100000 in
set_option maxHeartbeats 4000000 in
theorem G_ref07_window.calls (x0 : Config) (a1 : Int) (sv0 : SV) (w : World) {S : Nat → Prop} (hx0 : (kd_Config).cont S w x0 sv0) (r : Bool) (h : G_ref07_window x0 a1 = some r) :
    Calls Try.prog 72 #[.agg ((kd_Config).cells x0 sv0).toArray, .int .i64 a1] w fun e w' => e = .returned (.bool r) ∧ Below w.heap.size w w' := by
  replace hx0 := Kd.lo _ hx0
  unfold G_ref07_window at h
  have H0 := h
  clear h
  refine enter Try.func72 rfl [.agg ((kd_Config).cells x0 sv0).toArray, .int .i64 a1] (n := 46) rfl (Nat.le_of_ble_eq_true rfl) (fun a hI => ?_)
  have hF : FOpen Fence.wide := .inl rfl
  have hE := Ep.start w
  refine seq_region (live := [4, 2, 1]) (orc := []) hF hI ⟨[⟨4, [], .v (.bool false)⟩, ⟨2, [], .p 0 0⟩, ⟨1, [], .v (.int .i64 a1)⟩], [], [], [((((kd_Config).cells x0 sv0).map EV.v), 29)], none, none⟩ [] (by kernel_rfl) trivial (fun ns_1 a w_2 hI _ => ?_)
  refine wpIn_seq ?_
  obtain ⟨hE', hmv, hmr⟩ := Ep.rebase (S0 := S) hE hI
  replace hx0 := Kd.keep _ hx0 hmv
  replace hE := hE'
  replace hI := hI.rebase
  clear hE' hmv hmr
  have hct := contI (S := Lo S w w_2 ns_1 []) (w := w_2) (d := kd_Config) (x := x0) (sv := sv0) ⟨⟨hx0.1.1, hx0.1.2⟩, ⟨hx0.2.1.1, hx0.2.1.2⟩, ⟨hx0.2.2.1.1, hx0.2.2.1.2⟩, ⟨hx0.2.2.2.1.1, hx0.2.2.2.1.2⟩, trivial⟩
  obtain ⟨B_3, ns_5, hE', hI', hmv, hB_4⟩ := freeze_ (S0 := S) (d := kd_Config) hE hI 0 x0 sv0 29 rfl
  replace hB_4 := hB_4 hct
  clear hct
  have hmr : ∀ b : Nat, some b ∈ ([] : List (Option Nat)) → w_2.heap[b]? = w_2.heap[b]? := fun _ _ => rfl
  replace hx0 := Kd.keep _ hx0 hmv
  replace hE := hE'
  replace hI := hI'
  clear hE' hI' hmv hmr
  obtain ⟨ns_6, hE', hI', hmv⟩ := hE.cut (S0 := S) hI [4, 2, 1] 0 ⟨[⟨4, [], .v (.bool false)⟩, ⟨2, [], .v (.pointer (some B_3))⟩, ⟨1, [], .v (.int .i64 a1)⟩], [], [], [], none, none⟩ (by kernel_rfl)
  have hmr : ∀ b : Nat, some b ∈ ([] : List (Option Nat)) → w_2.heap[b]? = w_2.heap[b]? := fun _ _ => rfl
  replace hx0 := Kd.keep _ hx0 hmv
  replace hB_4 := El.keep hB_4 hmv
  replace hE := hE'
  replace hI := hI'
  clear hE' hI' hmv hmr
  obtain ⟨hN_7, H0⟩ := req_some H0
  obtain ⟨sv_8, hE_10, hA_9⟩ := Arr.elB (d := kd_Part) (hB_4).cont.1.1 a1 true (fun _ => hN_7)
  replace hE_10 := hE_10 rfl
  replace hA_9 := fun (_ : true = true) => hA_9 rfl
  obtain ⟨hN_11, H0⟩ := req_some H0
  obtain ⟨sv_12, hE_14, hA_13⟩ := Arr.elB (d := kd_Part) (hB_4).cont.1.1 a1 (((rd x0.Parts a1).Core) != 0) (fun hg => imp_spec hN_11 hg)
  refine seq_region (live := [22, 4, 2, 1]) (orc := [[.slice ((sv0 0).1) x0.Parts.length ((sv0 0).2)], [.int .i64 ((rd x0.Parts a1).Core)], [.slice ((sv0 0).1) x0.Parts.length ((sv0 0).2)], [.int .i64 ((rd x0.Parts a1).Core)]]) hF hI ⟨[⟨22, [], .v (.bool ((((rd x0.Parts a1).Core) != 0) && (((rd x0.Parts a1).Core) != 1)))⟩, ⟨4, [], .v (.bool false)⟩, ⟨2, [], .v (.pointer (some B_3))⟩, ⟨1, [], .v (.int .i64 a1)⟩], [], [], [], none, none⟩ [.cell true B_3 [.slice ((sv0 0).1) x0.Parts.length ((sv0 0).2)], .need true (0 ≤ a1 ∧ a1 < (x0.Parts.length : Int)), .need true ((sv0 0).1 = some (adr ((sv0 0).1))), .cell true ((adr ((sv0 0).1)).add ((a1 : Int).toNat * 2)) [.int .i64 ((rd x0.Parts a1).Core)], .cell (((rd x0.Parts a1).Core) != 0) B_3 [.slice ((sv0 0).1) x0.Parts.length ((sv0 0).2)], .need (((rd x0.Parts a1).Core) != 0) (0 ≤ a1 ∧ a1 < (x0.Parts.length : Int)), .need (((rd x0.Parts a1).Core) != 0) ((sv0 0).1 = some (adr ((sv0 0).1))), .cell (((rd x0.Parts a1).Core) != 0) ((adr ((sv0 0).1)).add ((a1 : Int).toNat * 2)) [.int .i64 ((rd x0.Parts a1).Core)]] (by kernel_rfl) ⟨ob_el (fun _ => hB_4) 0 [.slice ((sv0 0).1) x0.Parts.length ((sv0 0).2)] rfl, ob_inb (fun _ => hN_7), hA_9, ob_el (fun _ => hE_10) 0 [.int .i64 ((rd x0.Parts a1).Core)] rfl, ob_el (fun _ => hB_4) 0 [.slice ((sv0 0).1) x0.Parts.length ((sv0 0).2)] rfl, ob_inb (fun hg => imp_spec hN_11 hg), hA_13, ob_el (fun hg => hE_14 hg) 0 [.int .i64 ((rd x0.Parts a1).Core)] rfl, trivial⟩ (fun ns_15 a w_16 hI _ => ?_)
  refine cond_ hI (((((rd x0.Parts a1).Core) != 0) && (((rd x0.Parts a1).Core) != 1))) rfl (fun hc_17 => ?_) (fun hc_17 => ?_)
  · replace H0 := bif_t hc_17 H0
    refine seq_region (live := [4]) (orc := []) hF hI ⟨[⟨4, [], .v (.bool false)⟩], [], [], [], none, none⟩ [] (by kernel_rfl) trivial (fun ns_18 a w_19 hI _ => ?_)
    refine wpIn_ret ?_
    refine then_ret ?_
    obtain rfl := Option.some.inj H0
    exact ret1 hI rfl rfl ⟨rfl, hE.below hI⟩
  · replace H0 := bif_f hc_17 H0
    refine wpIn_skip ?_
    refine then_normal ?_
    obtain ⟨hN_20, H0⟩ := req_some H0
    obtain ⟨sv_21, hE_23, hA_22⟩ := Arr.elB (d := kd_Part) (hB_4).cont.1.1 a1 true (fun _ => hN_20)
    replace hE_23 := hE_23 rfl
    replace hA_22 := fun (_ : true = true) => hA_22 rfl
    obtain ⟨hN_24, H0⟩ := req_some H0
    have hE_26 := elA_St27 (El.part (e := kd_St27) hB_4 2 x0.Frames (svO sv0 2) ⟨(hB_4).cont.2.2.1, (hB_4).cont.2.2.2.1, trivial⟩ rfl) hN_24
    refine seq_region (live := [5, 4, 1]) (orc := [[.slice ((sv0 0).1) x0.Parts.length ((sv0 0).2)], [.int .i64 ((rd x0.Parts a1).Core)], [.slice (((svO (svO sv0 2) (((rd x0.Parts a1).Core : Int).toNat * 1)) 0).1) ((rdA_St27 x0.Frames ((rd x0.Parts a1).Core)).Windows).length (((svO (svO sv0 2) (((rd x0.Parts a1).Core : Int).toNat * 1)) 0).2)]]) hF hI ⟨[⟨5, [], .v (.slice (((svO (svO sv0 2) (((rd x0.Parts a1).Core : Int).toNat * 1)) 0).1) ((rdA_St27 x0.Frames ((rd x0.Parts a1).Core)).Windows).length (((svO (svO sv0 2) (((rd x0.Parts a1).Core : Int).toNat * 1)) 0).2))⟩, ⟨4, [], .v (.bool false)⟩, ⟨1, [], .v (.int .i64 a1)⟩], [], [], [], none, none⟩ [.cell true B_3 [.slice ((sv0 0).1) x0.Parts.length ((sv0 0).2)], .need true (0 ≤ a1 ∧ a1 < (x0.Parts.length : Int)), .need true ((sv0 0).1 = some (adr ((sv0 0).1))), .cell true ((adr ((sv0 0).1)).add ((a1 : Int).toNat * 2)) [.int .i64 ((rd x0.Parts a1).Core)], .need true (0 ≤ ((rd x0.Parts a1).Core) ∧ ((rd x0.Parts a1).Core) < ((2 : Nat) : Int)), .cell true (((B_3.add 2).add (((rd x0.Parts a1).Core : Int).toNat * 2)).add 1) [.slice (((svO (svO sv0 2) (((rd x0.Parts a1).Core : Int).toNat * 1)) 0).1) ((rdA_St27 x0.Frames ((rd x0.Parts a1).Core)).Windows).length (((svO (svO sv0 2) (((rd x0.Parts a1).Core : Int).toNat * 1)) 0).2)]] (by kernel_rfl) ⟨ob_el (fun _ => hB_4) 0 [.slice ((sv0 0).1) x0.Parts.length ((sv0 0).2)] rfl, ob_inb (fun _ => hN_20), hA_22, ob_el (fun _ => hE_23) 0 [.int .i64 ((rd x0.Parts a1).Core)] rfl, ob_inb (fun _ => hN_24), ob_el (fun _ => hE_26) 1 [.slice (((svO (svO sv0 2) (((rd x0.Parts a1).Core : Int).toNat * 1)) 0).1) ((rdA_St27 x0.Frames ((rd x0.Parts a1).Core)).Windows).length (((svO (svO sv0 2) (((rd x0.Parts a1).Core : Int).toNat * 1)) 0).2)] rfl, trivial⟩ (fun ns_27 a w_28 hI _ => ?_)
    refine wpIn_seq ?_
    refine seq_region (live := [6, 5, 4, 1]) (orc := []) hF hI ⟨[⟨6, [], .v (.int .i64 0)⟩, ⟨5, [], .v (.slice (((svO (svO sv0 2) (((rd x0.Parts a1).Core : Int).toNat * 1)) 0).1) ((rdA_St27 x0.Frames ((rd x0.Parts a1).Core)).Windows).length (((svO (svO sv0 2) (((rd x0.Parts a1).Core : Int).toNat * 1)) 0).2))⟩, ⟨4, [], .v (.bool false)⟩, ⟨1, [], .v (.int .i64 a1)⟩], [], [], [], none, none⟩ [] (by kernel_rfl) trivial (fun ns_29 a w_30 hI _ => ?_)
    obtain ⟨o_47, hL_48, H0⟩ := bind_some H0
    refine block_loop (fun (s1 : Int × Bool) a w_53 => ∃ ns, St w_2 ns_6 46 ⟨[⟨6, [], .v (.int .i64 s1.1)⟩, ⟨5, [], .v (.slice (((svO (svO sv0 2) (((rd x0.Parts a1).Core : Int).toNat * 1)) 0).1) ((rdA_St27 x0.Frames ((rd x0.Parts a1).Core)).Windows).length (((svO (svO sv0 2) (((rd x0.Parts a1).Core : Int).toNat * 1)) 0).2))⟩, ⟨4, [], .v (.bool s1.2)⟩, ⟨1, [], .v (.int .i64 a1)⟩], [], [], [], none, none⟩ ns a w_53) (0, false) hL_48 ⟨_, hI.pick [6, 5, 4, 1] 0 ⟨[⟨6, [], .v (.int .i64 0)⟩, ⟨5, [], .v (.slice (((svO (svO sv0 2) (((rd x0.Parts a1).Core : Int).toNat * 1)) 0).1) ((rdA_St27 x0.Frames ((rd x0.Parts a1).Core)).Windows).length (((svO (svO sv0 2) (((rd x0.Parts a1).Core : Int).toNat * 1)) 0).2))⟩, ⟨4, [], .v (.bool false)⟩, ⟨1, [], .v (.int .i64 a1)⟩], [], [], [], none, none⟩ (by kernel_rfl)⟩ ?_ ?_
    · clear hI
      rintro s1 a w_31 ⟨ns_32, hI⟩ r1 H1
      unfold G_ref07_window.b1 at H1
      refine wpIn_seq ?_
      refine seq_region (live := [36, 6, 5, 4, 1]) (orc := []) hF hI ⟨[⟨36, [], .v (.bool (decide (s1.1 < (((rdA_St27 x0.Frames ((rd x0.Parts a1).Core)).Windows).length : Int))))⟩, ⟨6, [], .v (.int .i64 s1.1)⟩, ⟨5, [], .v (.slice (((svO (svO sv0 2) (((rd x0.Parts a1).Core : Int).toNat * 1)) 0).1) ((rdA_St27 x0.Frames ((rd x0.Parts a1).Core)).Windows).length (((svO (svO sv0 2) (((rd x0.Parts a1).Core : Int).toNat * 1)) 0).2))⟩, ⟨4, [], .v (.bool s1.2)⟩, ⟨1, [], .v (.int .i64 a1)⟩], [], [], [], none, none⟩ [] (by kernel_rfl) trivial (fun ns_33 a w_34 hI _ => ?_)
      refine cond_ hI (decide (s1.1 < (((rdA_St27 x0.Frames ((rd x0.Parts a1).Core)).Windows).length : Int))) rfl (fun hc_35 => ?_) (fun hc_35 => ?_)
      · replace H1 := bif_t hc_35 H1
        refine wpIn_skip ?_
        refine then_normal ?_
        refine wpIn_seq ?_
        refine wpIn_block ?_
        obtain ⟨hN_36, H1⟩ := req_some H1
        obtain ⟨sv_37, hE_39, hA_38⟩ := Arr.elB (d := kd_Window) (hE_26).cont.1.1 s1.1 true (fun _ => hN_36)
        replace hE_39 := hE_39 rfl
        replace hA_38 := fun (_ : true = true) => hA_38 rfl
        refine seq_region (live := [45, 6, 5, 4, 1]) (orc := [[.int .i64 ((rd ((rdA_St27 x0.Frames ((rd x0.Parts a1).Core)).Windows) s1.1).Part)]]) hF hI ⟨[⟨45, [], .v (.bool (((rd ((rdA_St27 x0.Frames ((rd x0.Parts a1).Core)).Windows) s1.1).Part) == a1))⟩, ⟨6, [], .v (.int .i64 s1.1)⟩, ⟨5, [], .v (.slice (((svO (svO sv0 2) (((rd x0.Parts a1).Core : Int).toNat * 1)) 0).1) ((rdA_St27 x0.Frames ((rd x0.Parts a1).Core)).Windows).length (((svO (svO sv0 2) (((rd x0.Parts a1).Core : Int).toNat * 1)) 0).2))⟩, ⟨4, [], .v (.bool s1.2)⟩, ⟨1, [], .v (.int .i64 a1)⟩], [], [], [], none, none⟩ [.need true (0 ≤ s1.1 ∧ s1.1 < (((rdA_St27 x0.Frames ((rd x0.Parts a1).Core)).Windows).length : Int)), .need true (((svO (svO sv0 2) (((rd x0.Parts a1).Core : Int).toNat * 1)) 0).1 = some (adr (((svO (svO sv0 2) (((rd x0.Parts a1).Core : Int).toNat * 1)) 0).1))), .cell true ((adr (((svO (svO sv0 2) (((rd x0.Parts a1).Core : Int).toNat * 1)) 0).1)).add ((s1.1 : Int).toNat * 3)) [.int .i64 ((rd ((rdA_St27 x0.Frames ((rd x0.Parts a1).Core)).Windows) s1.1).Part)]] (by kernel_rfl) ⟨ob_inb (fun _ => hN_36), hA_38, ob_el (fun _ => hE_39) 0 [.int .i64 ((rd ((rdA_St27 x0.Frames ((rd x0.Parts a1).Core)).Windows) s1.1).Part)] rfl, trivial⟩ (fun ns_40 a w_41 hI _ => ?_)
        refine cond_ hI ((((rd ((rdA_St27 x0.Frames ((rd x0.Parts a1).Core)).Windows) s1.1).Part) == a1)) rfl (fun hc_42 => ?_) (fun hc_42 => ?_)
        · replace H1 := bif_t hc_42 H1
          refine seq_region (live := [4]) (orc := []) hF hI ⟨[⟨4, [], .v (.bool true)⟩], [], [], [], none, none⟩ [] (by kernel_rfl) trivial (fun ns_43 a w_44 hI _ => ?_)
          refine wpIn_ret ?_
          refine inBlock_ret ?_
          refine then_ret ?_
          refine then_ret ?_
          obtain rfl := Option.some.inj H1
          refine .inr ⟨_, rfl, fun ho => ?_⟩
          subst ho
          refine inBlock_ret ?_
          refine then_ret ?_
          obtain rfl := Option.some.inj H0
          exact ret1 hI rfl rfl ⟨rfl, hE.below hI⟩
        · replace H1 := bif_f hc_42 H1
          refine wpIn_skip ?_
          refine inBlock_normal ?_
          refine then_normal ?_
          refine region_ (live := [6, 5, 4, 1]) (orc := []) hF hI ⟨[⟨6, [], .v (.int .i64 (IntKind.i64.wrap (s1.1 + 1)))⟩, ⟨5, [], .v (.slice (((svO (svO sv0 2) (((rd x0.Parts a1).Core : Int).toNat * 1)) 0).1) ((rdA_St27 x0.Frames ((rd x0.Parts a1).Core)).Windows).length (((svO (svO sv0 2) (((rd x0.Parts a1).Core : Int).toNat * 1)) 0).2))⟩, ⟨4, [], .v (.bool s1.2)⟩, ⟨1, [], .v (.int .i64 a1)⟩], [], [], [], none, none⟩ [] (by kernel_rfl) trivial (fun ns_45 a w_46 hI _ => ?_)
          refine then_normal ?_
          obtain rfl := Option.some.inj H1
          exact ⟨_, rfl, ⟨_, hI.pick [6, 5, 4, 1] 0 ⟨[⟨6, [], .v (.int .i64 (IntKind.i64.wrap (s1.1 + 1)))⟩, ⟨5, [], .v (.slice (((svO (svO sv0 2) (((rd x0.Parts a1).Core : Int).toNat * 1)) 0).1) ((rdA_St27 x0.Frames ((rd x0.Parts a1).Core)).Windows).length (((svO (svO sv0 2) (((rd x0.Parts a1).Core : Int).toNat * 1)) 0).2))⟩, ⟨4, [], .v (.bool s1.2)⟩, ⟨1, [], .v (.int .i64 a1)⟩], [], [], [], none, none⟩ (by kernel_rfl)⟩⟩
      · replace H1 := bif_f hc_35 H1
        refine wpIn_exit ?_
        refine then_exit ?_
        refine then_exit ?_
        obtain rfl := Option.some.inj H1
        exact .inl ⟨_, rfl, rfl, ⟨_, hI.pick [6, 5, 4, 1] 0 ⟨[⟨6, [], .v (.int .i64 s1.1)⟩, ⟨5, [], .v (.slice (((svO (svO sv0 2) (((rd x0.Parts a1).Core : Int).toNat * 1)) 0).1) ((rdA_St27 x0.Frames ((rd x0.Parts a1).Core)).Windows).length (((svO (svO sv0 2) (((rd x0.Parts a1).Core : Int).toNat * 1)) 0).2))⟩, ⟨4, [], .v (.bool s1.2)⟩, ⟨1, [], .v (.int .i64 a1)⟩], [], [], [], none, none⟩ (by kernel_rfl)⟩⟩
    · clear hI
      rintro s1 a w_49 ho ⟨ns_50, hI⟩
      subst ho
      replace H0 : (some false : Option (Bool)) = _ := H0
      refine then_normal ?_
      refine seq_region (live := [4]) (orc := []) hF hI ⟨[⟨4, [], .v (.bool false)⟩], [], [], [], none, none⟩ [] (by kernel_rfl) trivial (fun ns_51 a w_52 hI _ => ?_)
      refine wpIn_ret ?_
      obtain rfl := Option.some.inj H0
      exact ret1 hI rfl rfl ⟨rfl, hE.below hI⟩

/-! ### porthole/portholeref07.part: function 86 -/
noncomputable def G_ref07_part (x0 : Config) (a1 : Int) : Option (Bool) := some (decide (a1 ≥ 0) && decide (a1 < (x0.Parts.length : Int)))
set_option maxRecDepth 100000 in
set_option maxHeartbeats 4000000 in
theorem G_ref07_part.calls (x0 : Config) (a1 : Int) (sv0 : SV) (w : World) {S : Nat → Prop} (hx0 : (kd_Config).cont S w x0 sv0) (r : Bool) (h : G_ref07_part x0 a1 = some r) :
    Calls Try.prog 86 #[.agg ((kd_Config).cells x0 sv0).toArray, .int .i64 a1] w fun e w' => e = .returned (.bool r) ∧ Below w.heap.size w w' := by
  replace hx0 := Kd.lo _ hx0
  unfold G_ref07_part at h
  have H0 := h
  clear h
  refine enter Try.func86 rfl [.agg ((kd_Config).cells x0 sv0).toArray, .int .i64 a1] (n := 14) rfl (Nat.le_of_ble_eq_true rfl) (fun a hI => ?_)
  have hF : FOpen Fence.wide := .inl rfl
  have hE := Ep.start w
  refine seq_region (live := [4, 2, 1]) (orc := []) hF hI ⟨[⟨4, [], .v (.bool false)⟩, ⟨2, [], .p 0 0⟩, ⟨1, [], .v (.int .i64 a1)⟩], [], [], [((((kd_Config).cells x0 sv0).map EV.v), 29)], none, none⟩ [] (by kernel_rfl) trivial (fun ns_1 a w_2 hI _ => ?_)
  refine seq_region (live := [4]) (orc := []) hF hI ⟨[⟨4, [], .v (.bool (decide (a1 ≥ 0) && decide (a1 < (x0.Parts.length : Int))))⟩], [], [], [((((kd_Config).cells x0 sv0).map EV.v), 29)], none, none⟩ [] (by kernel_rfl) trivial (fun ns_3 a w_4 hI _ => ?_)
  refine wpIn_ret ?_
  obtain rfl := Option.some.inj H0
  exact ret1 hI rfl rfl ⟨rfl, hE.below hI⟩

/-! ### porthole/portholeref07.chans: function 73 -/
noncomputable def G_ref07_chans.b1 (x0 : Config) (a1 : Int) (s1 : Int × Bool) : Option (Stp (Int × Bool) (Ex (Int × Bool) (Bool))) := (bif decide (s1.1 < (x0.Chans.length : Int)) then (req (inb s1.1 x0.Chans.length) (bif (a1 == 5) then (bif ((((rd x0.Chans s1.1).Kind) != 1) && (((rd x0.Chans s1.1).Kind) != 2)) then some (.out (.ret true)) else some (.next ((IntKind.i64.wrap (s1.1 + 1)), s1.2))) else (bif (a1 == 6) then ((G_ref07_part x0 ((rd x0.Chans s1.1).From)).bind fun t_35 => ((cal (!(!t_35)) (G_ref07_part x0 ((rd x0.Chans s1.1).To)) default).bind fun t_37 => (bif ((!t_35) || (!t_37)) then some (.out (.ret true)) else some (.next ((IntKind.i64.wrap (s1.1 + 1)), s1.2))))) else (bif (a1 == 7) then (bif (((rd x0.Chans s1.1).From) == ((rd x0.Chans s1.1).To)) then some (.out (.ret true)) else some (.next ((IntKind.i64.wrap (s1.1 + 1)), s1.2))) else (bif (a1 == 8) then (bif (decide (((rd x0.Chans s1.1).Words) < 1) || decide (((rd x0.Chans s1.1).Words) > 16)) then some (.out (.ret true)) else some (.next ((IntKind.i64.wrap (s1.1 + 1)), s1.2))) else (bif (a1 == 9) then (bif (((((rd x0.Chans s1.1).Kind) == 1) && (((rd x0.Chans s1.1).Depth) != 0)) || (((((((rd x0.Chans s1.1).Kind) == 2) && (((rd x0.Chans s1.1).Depth) != 1)) && (((rd x0.Chans s1.1).Depth) != 2)) && (((rd x0.Chans s1.1).Depth) != 4)) && (((rd x0.Chans s1.1).Depth) != 8))) then some (.out (.ret true)) else some (.next ((IntKind.i64.wrap (s1.1 + 1)), s1.2))) else (bif (a1 == 10) then (bif (((((rd x0.Chans s1.1).Kind) == 1) && (decide (((rd x0.Chans s1.1).Period) < 0) || decide (((rd x0.Chans s1.1).Period) > 1048576))) || ((((rd x0.Chans s1.1).Kind) == 2) && (((rd x0.Chans s1.1).Period) != 0))) then some (.out (.ret true)) else some (.next ((IntKind.i64.wrap (s1.1 + 1)), s1.2))) else (bif (bif (a1 == 11) then ((((rd x0.Chans s1.1).Kind) == 1) && (((rd x0.Chans s1.1).Boot) != 0)) else false) then some (.out (.ret true)) else some (.next ((IntKind.i64.wrap (s1.1 + 1)), s1.2)))))))))) else some (.out (.brk (s1.1, s1.2))))
noncomputable def G_ref07_chans (x0 : Config) (a1 : Int) : Option (Bool) := ((loopω (G_ref07_chans.b1 x0 a1) (0, false)).bind fun o => o.on (fun s1 => some false) (fun r => some r))
set_option maxRecDepth 100000 in
set_option maxHeartbeats 4000000 in
theorem G_ref07_chans.calls (x0 : Config) (a1 : Int) (sv0 : SV) (w : World) {S : Nat → Prop} (hx0 : (kd_Config).cont S w x0 sv0) (r : Bool) (h : G_ref07_chans x0 a1 = some r) :
    Calls Try.prog 73 #[.agg ((kd_Config).cells x0 sv0).toArray, .int .i64 a1] w fun e w' => e = .returned (.bool r) ∧ Below w.heap.size w w' := by
  replace hx0 := Kd.lo _ hx0
  unfold G_ref07_chans at h
  have H0 := h
  clear h
  refine enter Try.func73 rfl [.agg ((kd_Config).cells x0 sv0).toArray, .int .i64 a1] (n := 133) rfl (Nat.le_of_ble_eq_true rfl) (fun a hI => ?_)
  have hF : FOpen Fence.wide := .inl rfl
  have hE := Ep.start w
  refine seq_region (live := [4, 2, 1]) (orc := []) hF hI ⟨[⟨4, [], .v (.bool false)⟩, ⟨2, [], .p 0 0⟩, ⟨1, [], .v (.int .i64 a1)⟩], [], [], [((((kd_Config).cells x0 sv0).map EV.v), 29)], none, none⟩ [] (by kernel_rfl) trivial (fun ns_1 a w_2 hI _ => ?_)
  refine wpIn_seq ?_
  refine seq_region (live := [5, 4, 2, 1]) (orc := []) hF hI ⟨[⟨5, [], .v (.int .i64 0)⟩, ⟨4, [], .v (.bool false)⟩, ⟨2, [], .p 0 0⟩, ⟨1, [], .v (.int .i64 a1)⟩], [], [], [((((kd_Config).cells x0 sv0).map EV.v), 29)], none, none⟩ [] (by kernel_rfl) trivial (fun ns_3 a w_4 hI _ => ?_)
  obtain ⟨o_122, hL_123, H0⟩ := bind_some H0
  refine block_loop (fun (s1 : Int × Bool) a w_128 => ∃ ns, St w [] 133 ⟨[⟨5, [], .v (.int .i64 s1.1)⟩, ⟨4, [], .v (.bool s1.2)⟩, ⟨2, [], .p 0 0⟩, ⟨1, [], .v (.int .i64 a1)⟩], [], [], [((((kd_Config).cells x0 sv0).map EV.v), 29)], none, none⟩ ns a w_128) (0, false) hL_123 ⟨_, hI.pick [5, 4, 2, 1] 1 ⟨[⟨5, [], .v (.int .i64 0)⟩, ⟨4, [], .v (.bool false)⟩, ⟨2, [], .p 0 0⟩, ⟨1, [], .v (.int .i64 a1)⟩], [], [], [((((kd_Config).cells x0 sv0).map EV.v), 29)], none, none⟩ (by kernel_rfl)⟩ ?_ ?_
  · clear hI
    rintro s1 a w_5 ⟨ns_6, hI⟩ r1 H1
    unfold G_ref07_chans.b1 at H1
    refine wpIn_seq ?_
    refine seq_region (live := [12, 5, 4, 2, 1]) (orc := []) hF hI ⟨[⟨12, [], .v (.bool (decide (s1.1 < (x0.Chans.length : Int))))⟩, ⟨5, [], .v (.int .i64 s1.1)⟩, ⟨4, [], .v (.bool s1.2)⟩, ⟨2, [], .p 0 0⟩, ⟨1, [], .v (.int .i64 a1)⟩], [], [], [((((kd_Config).cells x0 sv0).map EV.v), 29)], none, none⟩ [] (by kernel_rfl) trivial (fun ns_7 a w_8 hI _ => ?_)
    refine cond_ hI (decide (s1.1 < (x0.Chans.length : Int))) rfl (fun hc_9 => ?_) (fun hc_9 => ?_)
    · replace H1 := bif_t hc_9 H1
      refine wpIn_skip ?_
      refine then_normal ?_
      refine wpIn_seq ?_
      refine wpIn_block ?_
      obtain ⟨hN_10, H1⟩ := req_some H1
      obtain ⟨sv_11, hE_13, hA_12⟩ := Arr.elB (d := kd_Chan) hx0.2.1.1 s1.1 true (fun _ => hN_10)
      replace hE_13 := hE_13 rfl
      replace hA_12 := fun (_ : true = true) => hA_12 rfl
      refine seq_region (live := [6, 5, 4, 2, 1]) (orc := [(kd_Chan).cells (rd x0.Chans s1.1) sv_11]) hF hI ⟨[⟨6, [], .p 1 0⟩, ⟨5, [], .v (.int .i64 s1.1)⟩, ⟨4, [], .v (.bool s1.2)⟩, ⟨2, [], .p 0 0⟩, ⟨1, [], .v (.int .i64 a1)⟩], [], [], [((((kd_Config).cells x0 sv0).map EV.v), 29), ((((kd_Chan).cells (rd x0.Chans s1.1) sv_11).map EV.v), 74)], none, none⟩ [.need true (0 ≤ s1.1 ∧ s1.1 < (x0.Chans.length : Int)), .need true ((sv0 1).1 = some (adr ((sv0 1).1))), .cell true ((adr ((sv0 1).1)).add ((s1.1 : Int).toNat * 7)) ((kd_Chan).cells (rd x0.Chans s1.1) sv_11)] (by kernel_rfl) ⟨ob_inb (fun _ => hN_10), hA_12, ob_el (fun _ => hE_13) 0 ((kd_Chan).cells (rd x0.Chans s1.1) sv_11) rfl, trivial⟩ (fun ns_14 a w_15 hI _ => ?_)
      refine seq_region (live := [7, 6, 5, 4, 2, 1]) (orc := []) hF hI ⟨[⟨7, [], .v (.bool false)⟩, ⟨6, [], .p 1 0⟩, ⟨5, [], .v (.int .i64 s1.1)⟩, ⟨4, [], .v (.bool s1.2)⟩, ⟨2, [], .p 0 0⟩, ⟨1, [], .v (.int .i64 a1)⟩], [], [], [((((kd_Config).cells x0 sv0).map EV.v), 29), ((((kd_Chan).cells (rd x0.Chans s1.1) sv_11).map EV.v), 74)], none, none⟩ [] (by kernel_rfl) trivial (fun ns_16 a w_17 hI _ => ?_)
      refine wpIn_seq ?_
      refine seq_region (live := [20, 7, 6, 5, 4, 2, 1]) (orc := []) hF hI ⟨[⟨20, [], .v (.int .i64 a1)⟩, ⟨7, [], .v (.bool false)⟩, ⟨6, [], .p 1 0⟩, ⟨5, [], .v (.int .i64 s1.1)⟩, ⟨4, [], .v (.bool s1.2)⟩, ⟨2, [], .p 0 0⟩, ⟨1, [], .v (.int .i64 a1)⟩], [], [], [((((kd_Config).cells x0 sv0).map EV.v), 29), ((((kd_Chan).cells (rd x0.Chans s1.1) sv_11).map EV.v), 74)], none, none⟩ [] (by kernel_rfl) trivial (fun ns_18 a w_19 hI _ => ?_)
      refine wpIn_block ?_
      refine seq_region (live := [21, 20, 7, 6, 5, 4, 2, 1]) (orc := []) hF hI ⟨[⟨21, [], .v (.bool (a1 == 5))⟩, ⟨20, [], .v (.int .i64 a1)⟩, ⟨7, [], .v (.bool false)⟩, ⟨6, [], .p 1 0⟩, ⟨5, [], .v (.int .i64 s1.1)⟩, ⟨4, [], .v (.bool s1.2)⟩, ⟨2, [], .p 0 0⟩, ⟨1, [], .v (.int .i64 a1)⟩], [], [], [((((kd_Config).cells x0 sv0).map EV.v), 29), ((((kd_Chan).cells (rd x0.Chans s1.1) sv_11).map EV.v), 74)], none, none⟩ [] (by kernel_rfl) trivial (fun ns_20 a w_21 hI _ => ?_)
      refine cond_ hI ((a1 == 5)) rfl (fun hc_22 => ?_) (fun hc_22 => ?_)
      · replace H1 := bif_t hc_22 H1
        refine region_ (live := [7, 5, 4, 2, 1]) (orc := []) hF hI ⟨[⟨7, [], .v (.bool ((((rd x0.Chans s1.1).Kind) != 1) && (((rd x0.Chans s1.1).Kind) != 2)))⟩, ⟨5, [], .v (.int .i64 s1.1)⟩, ⟨4, [], .v (.bool s1.2)⟩, ⟨2, [], .p 0 0⟩, ⟨1, [], .v (.int .i64 a1)⟩], [], [], [((((kd_Config).cells x0 sv0).map EV.v), 29), ((((kd_Chan).cells (rd x0.Chans s1.1) sv_11).map EV.v), 74)], none, none⟩ [] (by kernel_rfl) trivial (fun ns_23 a w_24 hI _ => ?_)
        refine inBlock_normal ?_
        refine then_normal ?_
        refine seq_region (live := [132, 5, 4, 2, 1]) (orc := []) hF hI ⟨[⟨132, [], .v (.bool ((((rd x0.Chans s1.1).Kind) != 1) && (((rd x0.Chans s1.1).Kind) != 2)))⟩, ⟨5, [], .v (.int .i64 s1.1)⟩, ⟨4, [], .v (.bool s1.2)⟩, ⟨2, [], .p 0 0⟩, ⟨1, [], .v (.int .i64 a1)⟩], [], [], [((((kd_Config).cells x0 sv0).map EV.v), 29), ((((kd_Chan).cells (rd x0.Chans s1.1) sv_11).map EV.v), 74)], none, none⟩ [] (by kernel_rfl) trivial (fun ns_25 a w_26 hI _ => ?_)
        refine cond_ hI (((((rd x0.Chans s1.1).Kind) != 1) && (((rd x0.Chans s1.1).Kind) != 2))) rfl (fun hc_27 => ?_) (fun hc_27 => ?_)
        · replace H1 := bif_t hc_27 H1
          refine seq_region (live := [4]) (orc := []) hF hI ⟨[⟨4, [], .v (.bool true)⟩], [], [], [((((kd_Config).cells x0 sv0).map EV.v), 29), ((((kd_Chan).cells (rd x0.Chans s1.1) sv_11).map EV.v), 74)], none, none⟩ [] (by kernel_rfl) trivial (fun ns_28 a w_29 hI _ => ?_)
          refine wpIn_ret ?_
          refine inBlock_ret ?_
          refine then_ret ?_
          refine then_ret ?_
          obtain rfl := Option.some.inj H1
          refine .inr ⟨_, rfl, fun ho => ?_⟩
          subst ho
          refine inBlock_ret ?_
          refine then_ret ?_
          obtain rfl := Option.some.inj H0
          exact ret1 hI rfl rfl ⟨rfl, hE.below hI⟩
        · replace H1 := bif_f hc_27 H1
          refine wpIn_skip ?_
          refine inBlock_normal ?_
          refine then_normal ?_
          refine region_ (live := [5, 4, 2, 1]) (orc := []) hF hI ⟨[⟨5, [], .v (.int .i64 (IntKind.i64.wrap (s1.1 + 1)))⟩, ⟨4, [], .v (.bool s1.2)⟩, ⟨2, [], .p 0 0⟩, ⟨1, [], .v (.int .i64 a1)⟩], [], [], [((((kd_Config).cells x0 sv0).map EV.v), 29), ((((kd_Chan).cells (rd x0.Chans s1.1) sv_11).map EV.v), 74)], none, none⟩ [] (by kernel_rfl) trivial (fun ns_30 a w_31 hI _ => ?_)
          refine then_normal ?_
          obtain rfl := Option.some.inj H1
          exact ⟨_, rfl, ⟨_, hI.pick [5, 4, 2, 1] 1 ⟨[⟨5, [], .v (.int .i64 (IntKind.i64.wrap (s1.1 + 1)))⟩, ⟨4, [], .v (.bool s1.2)⟩, ⟨2, [], .p 0 0⟩, ⟨1, [], .v (.int .i64 a1)⟩], [], [], [((((kd_Config).cells x0 sv0).map EV.v), 29)], none, none⟩ (by kernel_rfl)⟩⟩
      · replace H1 := bif_f hc_22 H1
        refine seq_region (live := [31, 20, 7, 6, 5, 4, 2, 1]) (orc := []) hF hI ⟨[⟨31, [], .v (.bool (a1 == 6))⟩, ⟨20, [], .v (.int .i64 a1)⟩, ⟨7, [], .v (.bool false)⟩, ⟨6, [], .p 1 0⟩, ⟨5, [], .v (.int .i64 s1.1)⟩, ⟨4, [], .v (.bool s1.2)⟩, ⟨2, [], .p 0 0⟩, ⟨1, [], .v (.int .i64 a1)⟩], [], [], [((((kd_Config).cells x0 sv0).map EV.v), 29), ((((kd_Chan).cells (rd x0.Chans s1.1) sv_11).map EV.v), 74)], none, none⟩ [] (by kernel_rfl) trivial (fun ns_32 a w_33 hI _ => ?_)
        refine cond_ hI ((a1 == 6)) rfl (fun hc_34 => ?_) (fun hc_34 => ?_)
        · replace H1 := bif_t hc_34 H1
          obtain ⟨t_35, hG_36, H1⟩ := bind_some H1
          obtain ⟨t_37, hG_38, H1⟩ := bind_some H1
          refine region_ (live := [7, 5, 4, 2, 1]) (orc := [[.bool t_35], [.bool t_37]]) hF hI ⟨[⟨7, [], .v (.bool ((!t_35) || (!t_37)))⟩, ⟨5, [], .v (.int .i64 s1.1)⟩, ⟨4, [], .v (.bool s1.2)⟩, ⟨2, [], .p 0 0⟩, ⟨1, [], .v (.int .i64 a1)⟩], [], [], [((((kd_Config).cells x0 sv0).map EV.v), 29), ((((kd_Chan).cells (rd x0.Chans s1.1) sv_11).map EV.v), 74)], none, none⟩ [.call true 86 [.agg ((kd_Config).cells x0 sv0).toArray, .int .i64 ((rd x0.Chans s1.1).From)] (.bool t_35), .call (!(!t_35)) 86 [.agg ((kd_Config).cells x0 sv0).toArray, .int .i64 ((rd x0.Chans s1.1).To)] (.bool t_37)] (by kernel_rfl) ⟨ob_call (enters Try.func86 (by kernel_rfl) rfl) (fun hg wz hk => G_ref07_part.calls x0 ((rd x0.Chans s1.1).From) sv0 wz (S := fun _ => True) (Kd.any _ (Kd.keep kd_Config (contI (S := Lo S w w [] []) (w := w) (d := kd_Config) (x := x0) (sv := sv0) ⟨⟨hx0.1.1, hx0.1.2⟩, ⟨hx0.2.1.1, hx0.2.1.2⟩, ⟨hx0.2.2.1.1, hx0.2.2.1.2⟩, ⟨hx0.2.2.2.1.1, hx0.2.2.2.1.2⟩, trivial⟩) (Lo.on hk))) _ hG_36), ob_call (enters Try.func86 (by kernel_rfl) rfl) (fun hg wz hk => G_ref07_part.calls x0 ((rd x0.Chans s1.1).To) sv0 wz (S := fun _ => True) (Kd.any _ (Kd.keep kd_Config (contI (S := Lo S w w [] []) (w := w) (d := kd_Config) (x := x0) (sv := sv0) ⟨⟨hx0.1.1, hx0.1.2⟩, ⟨hx0.2.1.1, hx0.2.1.2⟩, ⟨hx0.2.2.1.1, hx0.2.2.1.2⟩, ⟨hx0.2.2.2.1.1, hx0.2.2.2.1.2⟩, trivial⟩) (Lo.on hk))) _ (cal_some hG_38 hg)), trivial⟩ (fun ns_39 a w_40 hI _ => ?_)
          refine inBlock_normal ?_
          refine then_normal ?_
          refine seq_region (live := [132, 5, 4, 2, 1]) (orc := []) hF hI ⟨[⟨132, [], .v (.bool ((!t_35) || (!t_37)))⟩, ⟨5, [], .v (.int .i64 s1.1)⟩, ⟨4, [], .v (.bool s1.2)⟩, ⟨2, [], .p 0 0⟩, ⟨1, [], .v (.int .i64 a1)⟩], [], [], [((((kd_Config).cells x0 sv0).map EV.v), 29), ((((kd_Chan).cells (rd x0.Chans s1.1) sv_11).map EV.v), 74)], none, none⟩ [] (by kernel_rfl) trivial (fun ns_41 a w_42 hI _ => ?_)
          refine cond_ hI (((!t_35) || (!t_37))) rfl (fun hc_43 => ?_) (fun hc_43 => ?_)
          · replace H1 := bif_t hc_43 H1
            refine seq_region (live := [4]) (orc := []) hF hI ⟨[⟨4, [], .v (.bool true)⟩], [], [], [((((kd_Config).cells x0 sv0).map EV.v), 29), ((((kd_Chan).cells (rd x0.Chans s1.1) sv_11).map EV.v), 74)], none, none⟩ [] (by kernel_rfl) trivial (fun ns_44 a w_45 hI _ => ?_)
            refine wpIn_ret ?_
            refine inBlock_ret ?_
            refine then_ret ?_
            refine then_ret ?_
            obtain rfl := Option.some.inj H1
            refine .inr ⟨_, rfl, fun ho => ?_⟩
            subst ho
            refine inBlock_ret ?_
            refine then_ret ?_
            obtain rfl := Option.some.inj H0
            exact ret1 hI rfl rfl ⟨rfl, hE.below hI⟩
          · replace H1 := bif_f hc_43 H1
            refine wpIn_skip ?_
            refine inBlock_normal ?_
            refine then_normal ?_
            refine region_ (live := [5, 4, 2, 1]) (orc := []) hF hI ⟨[⟨5, [], .v (.int .i64 (IntKind.i64.wrap (s1.1 + 1)))⟩, ⟨4, [], .v (.bool s1.2)⟩, ⟨2, [], .p 0 0⟩, ⟨1, [], .v (.int .i64 a1)⟩], [], [], [((((kd_Config).cells x0 sv0).map EV.v), 29), ((((kd_Chan).cells (rd x0.Chans s1.1) sv_11).map EV.v), 74)], none, none⟩ [] (by kernel_rfl) trivial (fun ns_46 a w_47 hI _ => ?_)
            refine then_normal ?_
            obtain rfl := Option.some.inj H1
            exact ⟨_, rfl, ⟨_, hI.pick [5, 4, 2, 1] 1 ⟨[⟨5, [], .v (.int .i64 (IntKind.i64.wrap (s1.1 + 1)))⟩, ⟨4, [], .v (.bool s1.2)⟩, ⟨2, [], .p 0 0⟩, ⟨1, [], .v (.int .i64 a1)⟩], [], [], [((((kd_Config).cells x0 sv0).map EV.v), 29)], none, none⟩ (by kernel_rfl)⟩⟩
        · replace H1 := bif_f hc_34 H1
          refine seq_region (live := [45, 20, 7, 6, 5, 4, 2, 1]) (orc := []) hF hI ⟨[⟨45, [], .v (.bool (a1 == 7))⟩, ⟨20, [], .v (.int .i64 a1)⟩, ⟨7, [], .v (.bool false)⟩, ⟨6, [], .p 1 0⟩, ⟨5, [], .v (.int .i64 s1.1)⟩, ⟨4, [], .v (.bool s1.2)⟩, ⟨2, [], .p 0 0⟩, ⟨1, [], .v (.int .i64 a1)⟩], [], [], [((((kd_Config).cells x0 sv0).map EV.v), 29), ((((kd_Chan).cells (rd x0.Chans s1.1) sv_11).map EV.v), 74)], none, none⟩ [] (by kernel_rfl) trivial (fun ns_48 a w_49 hI _ => ?_)
          refine cond_ hI ((a1 == 7)) rfl (fun hc_50 => ?_) (fun hc_50 => ?_)
          · replace H1 := bif_t hc_50 H1
            refine region_ (live := [7, 5, 4, 2, 1]) (orc := []) hF hI ⟨[⟨7, [], .v (.bool (((rd x0.Chans s1.1).From) == ((rd x0.Chans s1.1).To)))⟩, ⟨5, [], .v (.int .i64 s1.1)⟩, ⟨4, [], .v (.bool s1.2)⟩, ⟨2, [], .p 0 0⟩, ⟨1, [], .v (.int .i64 a1)⟩], [], [], [((((kd_Config).cells x0 sv0).map EV.v), 29), ((((kd_Chan).cells (rd x0.Chans s1.1) sv_11).map EV.v), 74)], none, none⟩ [] (by kernel_rfl) trivial (fun ns_51 a w_52 hI _ => ?_)
            refine inBlock_normal ?_
            refine then_normal ?_
            refine seq_region (live := [132, 5, 4, 2, 1]) (orc := []) hF hI ⟨[⟨132, [], .v (.bool (((rd x0.Chans s1.1).From) == ((rd x0.Chans s1.1).To)))⟩, ⟨5, [], .v (.int .i64 s1.1)⟩, ⟨4, [], .v (.bool s1.2)⟩, ⟨2, [], .p 0 0⟩, ⟨1, [], .v (.int .i64 a1)⟩], [], [], [((((kd_Config).cells x0 sv0).map EV.v), 29), ((((kd_Chan).cells (rd x0.Chans s1.1) sv_11).map EV.v), 74)], none, none⟩ [] (by kernel_rfl) trivial (fun ns_53 a w_54 hI _ => ?_)
            refine cond_ hI ((((rd x0.Chans s1.1).From) == ((rd x0.Chans s1.1).To))) rfl (fun hc_55 => ?_) (fun hc_55 => ?_)
            · replace H1 := bif_t hc_55 H1
              refine seq_region (live := [4]) (orc := []) hF hI ⟨[⟨4, [], .v (.bool true)⟩], [], [], [((((kd_Config).cells x0 sv0).map EV.v), 29), ((((kd_Chan).cells (rd x0.Chans s1.1) sv_11).map EV.v), 74)], none, none⟩ [] (by kernel_rfl) trivial (fun ns_56 a w_57 hI _ => ?_)
              refine wpIn_ret ?_
              refine inBlock_ret ?_
              refine then_ret ?_
              refine then_ret ?_
              obtain rfl := Option.some.inj H1
              refine .inr ⟨_, rfl, fun ho => ?_⟩
              subst ho
              refine inBlock_ret ?_
              refine then_ret ?_
              obtain rfl := Option.some.inj H0
              exact ret1 hI rfl rfl ⟨rfl, hE.below hI⟩
            · replace H1 := bif_f hc_55 H1
              refine wpIn_skip ?_
              refine inBlock_normal ?_
              refine then_normal ?_
              refine region_ (live := [5, 4, 2, 1]) (orc := []) hF hI ⟨[⟨5, [], .v (.int .i64 (IntKind.i64.wrap (s1.1 + 1)))⟩, ⟨4, [], .v (.bool s1.2)⟩, ⟨2, [], .p 0 0⟩, ⟨1, [], .v (.int .i64 a1)⟩], [], [], [((((kd_Config).cells x0 sv0).map EV.v), 29), ((((kd_Chan).cells (rd x0.Chans s1.1) sv_11).map EV.v), 74)], none, none⟩ [] (by kernel_rfl) trivial (fun ns_58 a w_59 hI _ => ?_)
              refine then_normal ?_
              obtain rfl := Option.some.inj H1
              exact ⟨_, rfl, ⟨_, hI.pick [5, 4, 2, 1] 1 ⟨[⟨5, [], .v (.int .i64 (IntKind.i64.wrap (s1.1 + 1)))⟩, ⟨4, [], .v (.bool s1.2)⟩, ⟨2, [], .p 0 0⟩, ⟨1, [], .v (.int .i64 a1)⟩], [], [], [((((kd_Config).cells x0 sv0).map EV.v), 29)], none, none⟩ (by kernel_rfl)⟩⟩
          · replace H1 := bif_f hc_50 H1
            refine seq_region (live := [52, 20, 7, 6, 5, 4, 2, 1]) (orc := []) hF hI ⟨[⟨52, [], .v (.bool (a1 == 8))⟩, ⟨20, [], .v (.int .i64 a1)⟩, ⟨7, [], .v (.bool false)⟩, ⟨6, [], .p 1 0⟩, ⟨5, [], .v (.int .i64 s1.1)⟩, ⟨4, [], .v (.bool s1.2)⟩, ⟨2, [], .p 0 0⟩, ⟨1, [], .v (.int .i64 a1)⟩], [], [], [((((kd_Config).cells x0 sv0).map EV.v), 29), ((((kd_Chan).cells (rd x0.Chans s1.1) sv_11).map EV.v), 74)], none, none⟩ [] (by kernel_rfl) trivial (fun ns_60 a w_61 hI _ => ?_)
            refine cond_ hI ((a1 == 8)) rfl (fun hc_62 => ?_) (fun hc_62 => ?_)
            · replace H1 := bif_t hc_62 H1
              refine region_ (live := [7, 5, 4, 2, 1]) (orc := []) hF hI ⟨[⟨7, [], .v (.bool (decide (((rd x0.Chans s1.1).Words) < 1) || decide (((rd x0.Chans s1.1).Words) > 16)))⟩, ⟨5, [], .v (.int .i64 s1.1)⟩, ⟨4, [], .v (.bool s1.2)⟩, ⟨2, [], .p 0 0⟩, ⟨1, [], .v (.int .i64 a1)⟩], [], [], [((((kd_Config).cells x0 sv0).map EV.v), 29), ((((kd_Chan).cells (rd x0.Chans s1.1) sv_11).map EV.v), 74)], none, none⟩ [] (by kernel_rfl) trivial (fun ns_63 a w_64 hI _ => ?_)
              refine inBlock_normal ?_
              refine then_normal ?_
              refine seq_region (live := [132, 5, 4, 2, 1]) (orc := []) hF hI ⟨[⟨132, [], .v (.bool (decide (((rd x0.Chans s1.1).Words) < 1) || decide (((rd x0.Chans s1.1).Words) > 16)))⟩, ⟨5, [], .v (.int .i64 s1.1)⟩, ⟨4, [], .v (.bool s1.2)⟩, ⟨2, [], .p 0 0⟩, ⟨1, [], .v (.int .i64 a1)⟩], [], [], [((((kd_Config).cells x0 sv0).map EV.v), 29), ((((kd_Chan).cells (rd x0.Chans s1.1) sv_11).map EV.v), 74)], none, none⟩ [] (by kernel_rfl) trivial (fun ns_65 a w_66 hI _ => ?_)
              refine cond_ hI ((decide (((rd x0.Chans s1.1).Words) < 1) || decide (((rd x0.Chans s1.1).Words) > 16))) rfl (fun hc_67 => ?_) (fun hc_67 => ?_)
              · replace H1 := bif_t hc_67 H1
                refine seq_region (live := [4]) (orc := []) hF hI ⟨[⟨4, [], .v (.bool true)⟩], [], [], [((((kd_Config).cells x0 sv0).map EV.v), 29), ((((kd_Chan).cells (rd x0.Chans s1.1) sv_11).map EV.v), 74)], none, none⟩ [] (by kernel_rfl) trivial (fun ns_68 a w_69 hI _ => ?_)
                refine wpIn_ret ?_
                refine inBlock_ret ?_
                refine then_ret ?_
                refine then_ret ?_
                obtain rfl := Option.some.inj H1
                refine .inr ⟨_, rfl, fun ho => ?_⟩
                subst ho
                refine inBlock_ret ?_
                refine then_ret ?_
                obtain rfl := Option.some.inj H0
                exact ret1 hI rfl rfl ⟨rfl, hE.below hI⟩
              · replace H1 := bif_f hc_67 H1
                refine wpIn_skip ?_
                refine inBlock_normal ?_
                refine then_normal ?_
                refine region_ (live := [5, 4, 2, 1]) (orc := []) hF hI ⟨[⟨5, [], .v (.int .i64 (IntKind.i64.wrap (s1.1 + 1)))⟩, ⟨4, [], .v (.bool s1.2)⟩, ⟨2, [], .p 0 0⟩, ⟨1, [], .v (.int .i64 a1)⟩], [], [], [((((kd_Config).cells x0 sv0).map EV.v), 29), ((((kd_Chan).cells (rd x0.Chans s1.1) sv_11).map EV.v), 74)], none, none⟩ [] (by kernel_rfl) trivial (fun ns_70 a w_71 hI _ => ?_)
                refine then_normal ?_
                obtain rfl := Option.some.inj H1
                exact ⟨_, rfl, ⟨_, hI.pick [5, 4, 2, 1] 1 ⟨[⟨5, [], .v (.int .i64 (IntKind.i64.wrap (s1.1 + 1)))⟩, ⟨4, [], .v (.bool s1.2)⟩, ⟨2, [], .p 0 0⟩, ⟨1, [], .v (.int .i64 a1)⟩], [], [], [((((kd_Config).cells x0 sv0).map EV.v), 29)], none, none⟩ (by kernel_rfl)⟩⟩
            · replace H1 := bif_f hc_62 H1
              refine seq_region (live := [62, 20, 7, 6, 5, 4, 2, 1]) (orc := []) hF hI ⟨[⟨62, [], .v (.bool (a1 == 9))⟩, ⟨20, [], .v (.int .i64 a1)⟩, ⟨7, [], .v (.bool false)⟩, ⟨6, [], .p 1 0⟩, ⟨5, [], .v (.int .i64 s1.1)⟩, ⟨4, [], .v (.bool s1.2)⟩, ⟨2, [], .p 0 0⟩, ⟨1, [], .v (.int .i64 a1)⟩], [], [], [((((kd_Config).cells x0 sv0).map EV.v), 29), ((((kd_Chan).cells (rd x0.Chans s1.1) sv_11).map EV.v), 74)], none, none⟩ [] (by kernel_rfl) trivial (fun ns_72 a w_73 hI _ => ?_)
              refine cond_ hI ((a1 == 9)) rfl (fun hc_74 => ?_) (fun hc_74 => ?_)
              · replace H1 := bif_t hc_74 H1
                refine region_ (live := [7, 5, 4, 2, 1]) (orc := []) hF hI ⟨[⟨7, [], .v (.bool (((((rd x0.Chans s1.1).Kind) == 1) && (((rd x0.Chans s1.1).Depth) != 0)) || (((((((rd x0.Chans s1.1).Kind) == 2) && (((rd x0.Chans s1.1).Depth) != 1)) && (((rd x0.Chans s1.1).Depth) != 2)) && (((rd x0.Chans s1.1).Depth) != 4)) && (((rd x0.Chans s1.1).Depth) != 8))))⟩, ⟨5, [], .v (.int .i64 s1.1)⟩, ⟨4, [], .v (.bool s1.2)⟩, ⟨2, [], .p 0 0⟩, ⟨1, [], .v (.int .i64 a1)⟩], [], [], [((((kd_Config).cells x0 sv0).map EV.v), 29), ((((kd_Chan).cells (rd x0.Chans s1.1) sv_11).map EV.v), 74)], none, none⟩ [] (by kernel_rfl) trivial (fun ns_75 a w_76 hI _ => ?_)
                refine inBlock_normal ?_
                refine then_normal ?_
                refine seq_region (live := [132, 5, 4, 2, 1]) (orc := []) hF hI ⟨[⟨132, [], .v (.bool (((((rd x0.Chans s1.1).Kind) == 1) && (((rd x0.Chans s1.1).Depth) != 0)) || (((((((rd x0.Chans s1.1).Kind) == 2) && (((rd x0.Chans s1.1).Depth) != 1)) && (((rd x0.Chans s1.1).Depth) != 2)) && (((rd x0.Chans s1.1).Depth) != 4)) && (((rd x0.Chans s1.1).Depth) != 8))))⟩, ⟨5, [], .v (.int .i64 s1.1)⟩, ⟨4, [], .v (.bool s1.2)⟩, ⟨2, [], .p 0 0⟩, ⟨1, [], .v (.int .i64 a1)⟩], [], [], [((((kd_Config).cells x0 sv0).map EV.v), 29), ((((kd_Chan).cells (rd x0.Chans s1.1) sv_11).map EV.v), 74)], none, none⟩ [] (by kernel_rfl) trivial (fun ns_77 a w_78 hI _ => ?_)
                refine cond_ hI ((((((rd x0.Chans s1.1).Kind) == 1) && (((rd x0.Chans s1.1).Depth) != 0)) || (((((((rd x0.Chans s1.1).Kind) == 2) && (((rd x0.Chans s1.1).Depth) != 1)) && (((rd x0.Chans s1.1).Depth) != 2)) && (((rd x0.Chans s1.1).Depth) != 4)) && (((rd x0.Chans s1.1).Depth) != 8)))) rfl (fun hc_79 => ?_) (fun hc_79 => ?_)
                · replace H1 := bif_t hc_79 H1
                  refine seq_region (live := [4]) (orc := []) hF hI ⟨[⟨4, [], .v (.bool true)⟩], [], [], [((((kd_Config).cells x0 sv0).map EV.v), 29), ((((kd_Chan).cells (rd x0.Chans s1.1) sv_11).map EV.v), 74)], none, none⟩ [] (by kernel_rfl) trivial (fun ns_80 a w_81 hI _ => ?_)
                  refine wpIn_ret ?_
                  refine inBlock_ret ?_
                  refine then_ret ?_
                  refine then_ret ?_
                  obtain rfl := Option.some.inj H1
                  refine .inr ⟨_, rfl, fun ho => ?_⟩
                  subst ho
                  refine inBlock_ret ?_
                  refine then_ret ?_
                  obtain rfl := Option.some.inj H0
                  exact ret1 hI rfl rfl ⟨rfl, hE.below hI⟩
                · replace H1 := bif_f hc_79 H1
                  refine wpIn_skip ?_
                  refine inBlock_normal ?_
                  refine then_normal ?_
                  refine region_ (live := [5, 4, 2, 1]) (orc := []) hF hI ⟨[⟨5, [], .v (.int .i64 (IntKind.i64.wrap (s1.1 + 1)))⟩, ⟨4, [], .v (.bool s1.2)⟩, ⟨2, [], .p 0 0⟩, ⟨1, [], .v (.int .i64 a1)⟩], [], [], [((((kd_Config).cells x0 sv0).map EV.v), 29), ((((kd_Chan).cells (rd x0.Chans s1.1) sv_11).map EV.v), 74)], none, none⟩ [] (by kernel_rfl) trivial (fun ns_82 a w_83 hI _ => ?_)
                  refine then_normal ?_
                  obtain rfl := Option.some.inj H1
                  exact ⟨_, rfl, ⟨_, hI.pick [5, 4, 2, 1] 1 ⟨[⟨5, [], .v (.int .i64 (IntKind.i64.wrap (s1.1 + 1)))⟩, ⟨4, [], .v (.bool s1.2)⟩, ⟨2, [], .p 0 0⟩, ⟨1, [], .v (.int .i64 a1)⟩], [], [], [((((kd_Config).cells x0 sv0).map EV.v), 29)], none, none⟩ (by kernel_rfl)⟩⟩
              · replace H1 := bif_f hc_74 H1
                refine seq_region (live := [97, 20, 7, 6, 5, 4, 2, 1]) (orc := []) hF hI ⟨[⟨97, [], .v (.bool (a1 == 10))⟩, ⟨20, [], .v (.int .i64 a1)⟩, ⟨7, [], .v (.bool false)⟩, ⟨6, [], .p 1 0⟩, ⟨5, [], .v (.int .i64 s1.1)⟩, ⟨4, [], .v (.bool s1.2)⟩, ⟨2, [], .p 0 0⟩, ⟨1, [], .v (.int .i64 a1)⟩], [], [], [((((kd_Config).cells x0 sv0).map EV.v), 29), ((((kd_Chan).cells (rd x0.Chans s1.1) sv_11).map EV.v), 74)], none, none⟩ [] (by kernel_rfl) trivial (fun ns_84 a w_85 hI _ => ?_)
                refine cond_ hI ((a1 == 10)) rfl (fun hc_86 => ?_) (fun hc_86 => ?_)
                · replace H1 := bif_t hc_86 H1
                  refine region_ (live := [7, 5, 4, 2, 1]) (orc := []) hF hI ⟨[⟨7, [], .v (.bool (((((rd x0.Chans s1.1).Kind) == 1) && (decide (((rd x0.Chans s1.1).Period) < 0) || decide (((rd x0.Chans s1.1).Period) > 1048576))) || ((((rd x0.Chans s1.1).Kind) == 2) && (((rd x0.Chans s1.1).Period) != 0))))⟩, ⟨5, [], .v (.int .i64 s1.1)⟩, ⟨4, [], .v (.bool s1.2)⟩, ⟨2, [], .p 0 0⟩, ⟨1, [], .v (.int .i64 a1)⟩], [], [], [((((kd_Config).cells x0 sv0).map EV.v), 29), ((((kd_Chan).cells (rd x0.Chans s1.1) sv_11).map EV.v), 74)], none, none⟩ [] (by kernel_rfl) trivial (fun ns_87 a w_88 hI _ => ?_)
                  refine inBlock_normal ?_
                  refine then_normal ?_
                  refine seq_region (live := [132, 5, 4, 2, 1]) (orc := []) hF hI ⟨[⟨132, [], .v (.bool (((((rd x0.Chans s1.1).Kind) == 1) && (decide (((rd x0.Chans s1.1).Period) < 0) || decide (((rd x0.Chans s1.1).Period) > 1048576))) || ((((rd x0.Chans s1.1).Kind) == 2) && (((rd x0.Chans s1.1).Period) != 0))))⟩, ⟨5, [], .v (.int .i64 s1.1)⟩, ⟨4, [], .v (.bool s1.2)⟩, ⟨2, [], .p 0 0⟩, ⟨1, [], .v (.int .i64 a1)⟩], [], [], [((((kd_Config).cells x0 sv0).map EV.v), 29), ((((kd_Chan).cells (rd x0.Chans s1.1) sv_11).map EV.v), 74)], none, none⟩ [] (by kernel_rfl) trivial (fun ns_89 a w_90 hI _ => ?_)
                  refine cond_ hI ((((((rd x0.Chans s1.1).Kind) == 1) && (decide (((rd x0.Chans s1.1).Period) < 0) || decide (((rd x0.Chans s1.1).Period) > 1048576))) || ((((rd x0.Chans s1.1).Kind) == 2) && (((rd x0.Chans s1.1).Period) != 0)))) rfl (fun hc_91 => ?_) (fun hc_91 => ?_)
                  · replace H1 := bif_t hc_91 H1
                    refine seq_region (live := [4]) (orc := []) hF hI ⟨[⟨4, [], .v (.bool true)⟩], [], [], [((((kd_Config).cells x0 sv0).map EV.v), 29), ((((kd_Chan).cells (rd x0.Chans s1.1) sv_11).map EV.v), 74)], none, none⟩ [] (by kernel_rfl) trivial (fun ns_92 a w_93 hI _ => ?_)
                    refine wpIn_ret ?_
                    refine inBlock_ret ?_
                    refine then_ret ?_
                    refine then_ret ?_
                    obtain rfl := Option.some.inj H1
                    refine .inr ⟨_, rfl, fun ho => ?_⟩
                    subst ho
                    refine inBlock_ret ?_
                    refine then_ret ?_
                    obtain rfl := Option.some.inj H0
                    exact ret1 hI rfl rfl ⟨rfl, hE.below hI⟩
                  · replace H1 := bif_f hc_91 H1
                    refine wpIn_skip ?_
                    refine inBlock_normal ?_
                    refine then_normal ?_
                    refine region_ (live := [5, 4, 2, 1]) (orc := []) hF hI ⟨[⟨5, [], .v (.int .i64 (IntKind.i64.wrap (s1.1 + 1)))⟩, ⟨4, [], .v (.bool s1.2)⟩, ⟨2, [], .p 0 0⟩, ⟨1, [], .v (.int .i64 a1)⟩], [], [], [((((kd_Config).cells x0 sv0).map EV.v), 29), ((((kd_Chan).cells (rd x0.Chans s1.1) sv_11).map EV.v), 74)], none, none⟩ [] (by kernel_rfl) trivial (fun ns_94 a w_95 hI _ => ?_)
                    refine then_normal ?_
                    obtain rfl := Option.some.inj H1
                    exact ⟨_, rfl, ⟨_, hI.pick [5, 4, 2, 1] 1 ⟨[⟨5, [], .v (.int .i64 (IntKind.i64.wrap (s1.1 + 1)))⟩, ⟨4, [], .v (.bool s1.2)⟩, ⟨2, [], .p 0 0⟩, ⟨1, [], .v (.int .i64 a1)⟩], [], [], [((((kd_Config).cells x0 sv0).map EV.v), 29)], none, none⟩ (by kernel_rfl)⟩⟩
                · replace H1 := bif_f hc_86 H1
                  refine seq_region (live := [122, 7, 6, 5, 4, 2, 1]) (orc := []) hF hI ⟨[⟨122, [], .v (.bool (a1 == 11))⟩, ⟨7, [], .v (.bool false)⟩, ⟨6, [], .p 1 0⟩, ⟨5, [], .v (.int .i64 s1.1)⟩, ⟨4, [], .v (.bool s1.2)⟩, ⟨2, [], .p 0 0⟩, ⟨1, [], .v (.int .i64 a1)⟩], [], [], [((((kd_Config).cells x0 sv0).map EV.v), 29), ((((kd_Chan).cells (rd x0.Chans s1.1) sv_11).map EV.v), 74)], none, none⟩ [] (by kernel_rfl) trivial (fun ns_96 a w_97 hI _ => ?_)
                  refine cond_merge hI ((a1 == 11)) rfl ⟨[⟨7, [], .v (.bool ((((rd x0.Chans s1.1).Kind) == 1) && (((rd x0.Chans s1.1).Boot) != 0)))⟩, ⟨5, [], .v (.int .i64 s1.1)⟩, ⟨4, [], .v (.bool s1.2)⟩, ⟨2, [], .p 0 0⟩, ⟨1, [], .v (.int .i64 a1)⟩], [], [], [((((kd_Config).cells x0 sv0).map EV.v), 29), ((((kd_Chan).cells (rd x0.Chans s1.1) sv_11).map EV.v), 74)], none, none⟩ ⟨[⟨7, [], .v (.bool false)⟩, ⟨5, [], .v (.int .i64 s1.1)⟩, ⟨4, [], .v (.bool s1.2)⟩, ⟨2, [], .p 0 0⟩, ⟨1, [], .v (.int .i64 a1)⟩], [], [], [((((kd_Config).cells x0 sv0).map EV.v), 29), ((((kd_Chan).cells (rd x0.Chans s1.1) sv_11).map EV.v), 74)], none, none⟩ (fun b => ⟨[⟨7, [], .v (.bool (bif b then ((((rd x0.Chans s1.1).Kind) == 1) && (((rd x0.Chans s1.1).Boot) != 0)) else false))⟩, ⟨5, [], .v (.int .i64 s1.1)⟩, ⟨4, [], .v (.bool s1.2)⟩, ⟨2, [], .p 0 0⟩, ⟨1, [], .v (.int .i64 a1)⟩], [], [], [((((kd_Config).cells x0 sv0).map EV.v), 29), ((((kd_Chan).cells (rd x0.Chans s1.1) sv_11).map EV.v), 74)], none, none⟩) (fun b => by cases b <;> rfl) (fun hc_98 => ?_) (fun hc_98 => ?_) (fun ns_101 a w_102 hI => ?_)
                  · refine region_ (live := [7, 5, 4, 2, 1]) (orc := []) hF hI ⟨[⟨7, [], .v (.bool ((((rd x0.Chans s1.1).Kind) == 1) && (((rd x0.Chans s1.1).Boot) != 0)))⟩, ⟨5, [], .v (.int .i64 s1.1)⟩, ⟨4, [], .v (.bool s1.2)⟩, ⟨2, [], .p 0 0⟩, ⟨1, [], .v (.int .i64 a1)⟩], [], [], [((((kd_Config).cells x0 sv0).map EV.v), 29), ((((kd_Chan).cells (rd x0.Chans s1.1) sv_11).map EV.v), 74)], none, none⟩ [] (by kernel_rfl) trivial (fun ns_99 a w_100 hI _ => ?_)
                    refine then_normal ?_
                    exact ⟨_, hI.pick [7, 5, 4, 2, 1] 2 ⟨[⟨7, [], .v (.bool ((((rd x0.Chans s1.1).Kind) == 1) && (((rd x0.Chans s1.1).Boot) != 0)))⟩, ⟨5, [], .v (.int .i64 s1.1)⟩, ⟨4, [], .v (.bool s1.2)⟩, ⟨2, [], .p 0 0⟩, ⟨1, [], .v (.int .i64 a1)⟩], [], [], [((((kd_Config).cells x0 sv0).map EV.v), 29), ((((kd_Chan).cells (rd x0.Chans s1.1) sv_11).map EV.v), 74)], none, none⟩ (by kernel_rfl)⟩
                  · refine wpIn_skip ?_
                    refine then_normal ?_
                    exact ⟨_, hI.pick [7, 5, 4, 2, 1] 2 ⟨[⟨7, [], .v (.bool false)⟩, ⟨5, [], .v (.int .i64 s1.1)⟩, ⟨4, [], .v (.bool s1.2)⟩, ⟨2, [], .p 0 0⟩, ⟨1, [], .v (.int .i64 a1)⟩], [], [], [((((kd_Config).cells x0 sv0).map EV.v), 29), ((((kd_Chan).cells (rd x0.Chans s1.1) sv_11).map EV.v), 74)], none, none⟩ (by kernel_rfl)⟩
                  · refine inBlock_normal ?_
                    refine then_normal ?_
                    refine seq_region (live := [132, 5, 4, 2, 1]) (orc := []) hF hI ⟨[⟨132, [], .v (.bool (bif (a1 == 11) then ((((rd x0.Chans s1.1).Kind) == 1) && (((rd x0.Chans s1.1).Boot) != 0)) else false))⟩, ⟨5, [], .v (.int .i64 s1.1)⟩, ⟨4, [], .v (.bool s1.2)⟩, ⟨2, [], .p 0 0⟩, ⟨1, [], .v (.int .i64 a1)⟩], [], [], [((((kd_Config).cells x0 sv0).map EV.v), 29), ((((kd_Chan).cells (rd x0.Chans s1.1) sv_11).map EV.v), 74)], none, none⟩ [] (by kernel_rfl) trivial (fun ns_115 a w_116 hI _ => ?_)
                    refine cond_ hI ((bif (a1 == 11) then ((((rd x0.Chans s1.1).Kind) == 1) && (((rd x0.Chans s1.1).Boot) != 0)) else false)) rfl (fun hc_117 => ?_) (fun hc_117 => ?_)
                    · replace H1 := bif_t hc_117 H1
                      refine seq_region (live := [4]) (orc := []) hF hI ⟨[⟨4, [], .v (.bool true)⟩], [], [], [((((kd_Config).cells x0 sv0).map EV.v), 29), ((((kd_Chan).cells (rd x0.Chans s1.1) sv_11).map EV.v), 74)], none, none⟩ [] (by kernel_rfl) trivial (fun ns_118 a w_119 hI _ => ?_)
                      refine wpIn_ret ?_
                      refine inBlock_ret ?_
                      refine then_ret ?_
                      refine then_ret ?_
                      obtain rfl := Option.some.inj H1
                      refine .inr ⟨_, rfl, fun ho => ?_⟩
                      subst ho
                      refine inBlock_ret ?_
                      refine then_ret ?_
                      obtain rfl := Option.some.inj H0
                      exact ret1 hI rfl rfl ⟨rfl, hE.below hI⟩
                    · replace H1 := bif_f hc_117 H1
                      refine wpIn_skip ?_
                      refine inBlock_normal ?_
                      refine then_normal ?_
                      refine region_ (live := [5, 4, 2, 1]) (orc := []) hF hI ⟨[⟨5, [], .v (.int .i64 (IntKind.i64.wrap (s1.1 + 1)))⟩, ⟨4, [], .v (.bool s1.2)⟩, ⟨2, [], .p 0 0⟩, ⟨1, [], .v (.int .i64 a1)⟩], [], [], [((((kd_Config).cells x0 sv0).map EV.v), 29), ((((kd_Chan).cells (rd x0.Chans s1.1) sv_11).map EV.v), 74)], none, none⟩ [] (by kernel_rfl) trivial (fun ns_120 a w_121 hI _ => ?_)
                      refine then_normal ?_
                      obtain rfl := Option.some.inj H1
                      exact ⟨_, rfl, ⟨_, hI.pick [5, 4, 2, 1] 1 ⟨[⟨5, [], .v (.int .i64 (IntKind.i64.wrap (s1.1 + 1)))⟩, ⟨4, [], .v (.bool s1.2)⟩, ⟨2, [], .p 0 0⟩, ⟨1, [], .v (.int .i64 a1)⟩], [], [], [((((kd_Config).cells x0 sv0).map EV.v), 29)], none, none⟩ (by kernel_rfl)⟩⟩
    · replace H1 := bif_f hc_9 H1
      refine wpIn_exit ?_
      refine then_exit ?_
      refine then_exit ?_
      obtain rfl := Option.some.inj H1
      exact .inl ⟨_, rfl, rfl, ⟨_, hI.pick [5, 4, 2, 1] 1 ⟨[⟨5, [], .v (.int .i64 s1.1)⟩, ⟨4, [], .v (.bool s1.2)⟩, ⟨2, [], .p 0 0⟩, ⟨1, [], .v (.int .i64 a1)⟩], [], [], [((((kd_Config).cells x0 sv0).map EV.v), 29)], none, none⟩ (by kernel_rfl)⟩⟩
  · clear hI
    rintro s1 a w_124 ho ⟨ns_125, hI⟩
    subst ho
    replace H0 : (some false : Option (Bool)) = _ := H0
    refine then_normal ?_
    refine seq_region (live := [4]) (orc := []) hF hI ⟨[⟨4, [], .v (.bool false)⟩], [], [], [((((kd_Config).cells x0 sv0).map EV.v), 29)], none, none⟩ [] (by kernel_rfl) trivial (fun ns_126 a w_127 hI _ => ?_)
    refine wpIn_ret ?_
    obtain rfl := Option.some.inj H0
    exact ret1 hI rfl rfl ⟨rfl, hE.below hI⟩

/-! ### porthole/portholeref07.word: function 87 -/
noncomputable def G_ref07_word (a0 : Int) : Option (Bool) := some (decide (a0 ≥ 0) && decide (a0 ≤ 4294967295))
set_option maxRecDepth 100000 in
set_option maxHeartbeats 4000000 in
theorem G_ref07_word.calls (a0 : Int)  (w : World) {S : Nat → Prop}  (r : Bool) (h : G_ref07_word a0 = some r) :
    Calls Try.prog 87 #[.int .i64 a0] w fun e w' => e = .returned (.bool r) ∧ Below w.heap.size w w' := by
  unfold G_ref07_word at h
  have H0 := h
  clear h
  refine enter Try.func87 rfl [.int .i64 a0] (n := 9) rfl (Nat.le_of_ble_eq_true rfl) (fun a hI => ?_)
  have hF : FOpen Fence.wide := .inl rfl
  have hE := Ep.start w
  refine seq_region (live := [2, 0]) (orc := []) hF hI ⟨[⟨2, [], .v (.bool false)⟩, ⟨0, [], .v (.int .i64 a0)⟩], [], [], [], none, none⟩ [] (by kernel_rfl) trivial (fun ns_1 a w_2 hI _ => ?_)
  refine seq_region (live := [2]) (orc := []) hF hI ⟨[⟨2, [], .v (.bool (decide (a0 ≥ 0) && decide (a0 ≤ 4294967295)))⟩], [], [], [], none, none⟩ [] (by kernel_rfl) trivial (fun ns_3 a w_4 hI _ => ?_)
  refine wpIn_ret ?_
  obtain rfl := Option.some.inj H0
  exact ret1 hI rfl rfl ⟨rfl, hE.below hI⟩

/-! ### porthole/portholeref07.windows: function 74 -/
noncomputable def G_ref07_windows.b1 (x0 : Config) (a1 : Int) (a2 : Int) (s1 : Int × Bool) : Option (Stp (Int × Bool) (Ex (Int × Bool) (Bool))) := (bif decide (s1.1 < (((rdA_St27 x0.Frames a1).Windows).length : Int)) then (req (inb s1.1 ((rdA_St27 x0.Frames a1).Windows).length) ((cal (a2 == 14) (G_ref07_part x0 ((rd ((rdA_St27 x0.Frames a1).Windows) s1.1).Part)) default).bind fun t_41 => (req (imp ((a2 == 14) && (!(!t_41))) (inb ((rd ((rdA_St27 x0.Frames a1).Windows) s1.1).Part) x0.Parts.length)) (bif ((a2 == 14) && ((!t_41) || (((rd x0.Parts ((rd ((rdA_St27 x0.Frames a1).Windows) s1.1).Part)).Core) != a1))) then some (.out (.ret true)) else (req (imp ((a2 == 15) && (!(decide (((rd ((rdA_St27 x0.Frames a1).Windows) s1.1).Start) < 0) || decide (((rd ((rdA_St27 x0.Frames a1).Windows) s1.1).Len) < 1)))) (inb a1 2)) (req (imp ((a2 == 15) && (!((decide (((rd ((rdA_St27 x0.Frames a1).Windows) s1.1).Start) < 0) || decide (((rd ((rdA_St27 x0.Frames a1).Windows) s1.1).Len) < 1)) || decide (((rd ((rdA_St27 x0.Frames a1).Windows) s1.1).Start) > ((rdA_St27 x0.Frames a1).Length))))) (inb a1 2)) (bif ((a2 == 15) && (((decide (((rd ((rdA_St27 x0.Frames a1).Windows) s1.1).Start) < 0) || decide (((rd ((rdA_St27 x0.Frames a1).Windows) s1.1).Len) < 1)) || decide (((rd ((rdA_St27 x0.Frames a1).Windows) s1.1).Start) > ((rdA_St27 x0.Frames a1).Length))) || decide (((rd ((rdA_St27 x0.Frames a1).Windows) s1.1).Len) > (IntKind.i64.wrap (((rdA_St27 x0.Frames a1).Length) - ((rd ((rdA_St27 x0.Frames a1).Windows) s1.1).Start)))))) then some (.out (.ret true)) else ((cal ((a2 == 16) && decide (s1.1 > 0)) (G_ref07_word ((rd ((rdA_St27 x0.Frames a1).Windows) s1.1).Start)) default).bind fun t_62 => (req (imp (((a2 == 16) && decide (s1.1 > 0)) && t_62) (inb (IntKind.i64.wrap (s1.1 - 1)) ((rdA_St27 x0.Frames a1).Windows).length)) ((cal (((a2 == 16) && decide (s1.1 > 0)) && t_62) (G_ref07_word ((rd ((rdA_St27 x0.Frames a1).Windows) (IntKind.i64.wrap (s1.1 - 1))).Start)) default).bind fun t_68 => (req (imp ((((a2 == 16) && decide (s1.1 > 0)) && t_62) && t_68) (inb (IntKind.i64.wrap (s1.1 - 1)) ((rdA_St27 x0.Frames a1).Windows).length)) ((cal ((((a2 == 16) && decide (s1.1 > 0)) && t_62) && t_68) (G_ref07_word ((rd ((rdA_St27 x0.Frames a1).Windows) (IntKind.i64.wrap (s1.1 - 1))).Len)) default).bind fun t_74 => (req (imp (((((a2 == 16) && decide (s1.1 > 0)) && t_62) && t_68) && t_74) (inb (IntKind.i64.wrap (s1.1 - 1)) ((rdA_St27 x0.Frames a1).Windows).length)) (req (imp (((((a2 == 16) && decide (s1.1 > 0)) && t_62) && t_68) && t_74) (inb (IntKind.i64.wrap (s1.1 - 1)) ((rdA_St27 x0.Frames a1).Windows).length)) (bif ((((((a2 == 16) && decide (s1.1 > 0)) && t_62) && t_68) && t_74) && decide (((rd ((rdA_St27 x0.Frames a1).Windows) s1.1).Start) < (IntKind.i64.wrap (((rd ((rdA_St27 x0.Frames a1).Windows) (IntKind.i64.wrap (s1.1 - 1))).Start) + ((rd ((rdA_St27 x0.Frames a1).Windows) (IntKind.i64.wrap (s1.1 - 1))).Len))))) then some (.out (.ret true)) else some (.next ((IntKind.i64.wrap (s1.1 + 1)), s1.2))))))))))))))))) else some (.out (.brk (s1.1, s1.2))))
noncomputable def G_ref07_windows (x0 : Config) (a1 : Int) (a2 : Int) : Option (Bool) := (req (inb a1 2) (bif (a2 == 12) then (req (inb a1 2) (req (imp (!(decide (((rdA_St27 x0.Frames a1).Length) < 1))) (inb a1 2)) (some (decide (((rdA_St27 x0.Frames a1).Length) < 1) || decide (((rdA_St27 x0.Frames a1).Length) > 64))))) else (bif (a2 == 13) then some (decide ((((rdA_St27 x0.Frames a1).Windows).length : Int) > 16)) else ((loopω (G_ref07_windows.b1 x0 a1 a2) (0, false)).bind fun o => o.on (fun s1 => some false) (fun r => some r)))))
set_option maxRecDepth 100000 in
set_option maxHeartbeats 4000000 in
theorem G_ref07_windows.calls (x0 : Config) (a1 : Int) (a2 : Int) (sv0 : SV) (w : World) {S : Nat → Prop} (hx0 : (kd_Config).cont S w x0 sv0) (r : Bool) (h : G_ref07_windows x0 a1 a2 = some r) :
    Calls Try.prog 74 #[.agg ((kd_Config).cells x0 sv0).toArray, .int .i64 a1, .int .i64 a2] w fun e w' => e = .returned (.bool r) ∧ Below w.heap.size w w' := by
  replace hx0 := Kd.lo _ hx0
  unfold G_ref07_windows at h
  have H0 := h
  clear h
  refine enter Try.func74 rfl [.agg ((kd_Config).cells x0 sv0).toArray, .int .i64 a1, .int .i64 a2] (n := 148) rfl (Nat.le_of_ble_eq_true rfl) (fun a hI => ?_)
  have hF : FOpen Fence.wide := .inl rfl
  have hE := Ep.start w
  refine seq_region (live := [6, 3, 1, 2]) (orc := []) hF hI ⟨[⟨6, [], .v (.bool false)⟩, ⟨3, [], .p 0 0⟩, ⟨1, [], .v (.int .i64 a1)⟩, ⟨2, [], .v (.int .i64 a2)⟩], [], [], [((((kd_Config).cells x0 sv0).map EV.v), 29)], none, none⟩ [] (by kernel_rfl) trivial (fun ns_1 a w_2 hI _ => ?_)
  obtain ⟨hE', hmv, hmr⟩ := Ep.rebase (S0 := S) hE hI
  replace hx0 := Kd.keep _ hx0 hmv
  replace hE := hE'
  replace hI := hI.rebase
  clear hE' hmv hmr
  have hct := contI (S := Lo S w w_2 ns_1 []) (w := w_2) (d := kd_Config) (x := x0) (sv := sv0) ⟨⟨hx0.1.1, hx0.1.2⟩, ⟨hx0.2.1.1, hx0.2.1.2⟩, ⟨hx0.2.2.1.1, hx0.2.2.1.2⟩, ⟨hx0.2.2.2.1.1, hx0.2.2.2.1.2⟩, trivial⟩
  obtain ⟨B_3, ns_5, hE', hI', hmv, hB_4⟩ := freeze_ (S0 := S) (d := kd_Config) hE hI 0 x0 sv0 29 rfl
  replace hB_4 := hB_4 hct
  clear hct
  have hmr : ∀ b : Nat, some b ∈ ([] : List (Option Nat)) → w_2.heap[b]? = w_2.heap[b]? := fun _ _ => rfl
  replace hx0 := Kd.keep _ hx0 hmv
  replace hE := hE'
  replace hI := hI'
  clear hE' hI' hmv hmr
  obtain ⟨ns_6, hE', hI', hmv⟩ := hE.cut (S0 := S) hI [6, 3, 1, 2] 0 ⟨[⟨6, [], .v (.bool false)⟩, ⟨3, [], .v (.pointer (some B_3))⟩, ⟨1, [], .v (.int .i64 a1)⟩, ⟨2, [], .v (.int .i64 a2)⟩], [], [], [], none, none⟩ (by kernel_rfl)
  have hmr : ∀ b : Nat, some b ∈ ([] : List (Option Nat)) → w_2.heap[b]? = w_2.heap[b]? := fun _ _ => rfl
  replace hx0 := Kd.keep _ hx0 hmv
  replace hB_4 := El.keep hB_4 hmv
  replace hE := hE'
  replace hI := hI'
  clear hE' hI' hmv hmr
  obtain ⟨hN_7, H0⟩ := req_some H0
  have hE_9 := elA_St27 (El.part (e := kd_St27) hB_4 2 x0.Frames (svO sv0 2) ⟨(hB_4).cont.2.2.1, (hB_4).cont.2.2.2.1, trivial⟩ rfl) hN_7
  refine seq_region (live := [7, 6, 3, 1, 2]) (orc := [[.slice (((svO (svO sv0 2) ((a1 : Int).toNat * 1)) 0).1) ((rdA_St27 x0.Frames a1).Windows).length (((svO (svO sv0 2) ((a1 : Int).toNat * 1)) 0).2)]]) hF hI ⟨[⟨7, [], .v (.slice (((svO (svO sv0 2) ((a1 : Int).toNat * 1)) 0).1) ((rdA_St27 x0.Frames a1).Windows).length (((svO (svO sv0 2) ((a1 : Int).toNat * 1)) 0).2))⟩, ⟨6, [], .v (.bool false)⟩, ⟨3, [], .v (.pointer (some B_3))⟩, ⟨1, [], .v (.int .i64 a1)⟩, ⟨2, [], .v (.int .i64 a2)⟩], [], [], [], none, none⟩ [.need true (0 ≤ a1 ∧ a1 < ((2 : Nat) : Int)), .cell true (((B_3.add 2).add ((a1 : Int).toNat * 2)).add 1) [.slice (((svO (svO sv0 2) ((a1 : Int).toNat * 1)) 0).1) ((rdA_St27 x0.Frames a1).Windows).length (((svO (svO sv0 2) ((a1 : Int).toNat * 1)) 0).2)]] (by kernel_rfl) ⟨ob_inb (fun _ => hN_7), ob_el (fun _ => hE_9) 1 [.slice (((svO (svO sv0 2) ((a1 : Int).toNat * 1)) 0).1) ((rdA_St27 x0.Frames a1).Windows).length (((svO (svO sv0 2) ((a1 : Int).toNat * 1)) 0).2)] rfl, trivial⟩ (fun ns_10 a w_11 hI _ => ?_)
  refine wpIn_seq ?_
  refine seq_region (live := [16, 7, 6, 3, 1, 2]) (orc := []) hF hI ⟨[⟨16, [], .v (.bool (a2 == 12))⟩, ⟨7, [], .v (.slice (((svO (svO sv0 2) ((a1 : Int).toNat * 1)) 0).1) ((rdA_St27 x0.Frames a1).Windows).length (((svO (svO sv0 2) ((a1 : Int).toNat * 1)) 0).2))⟩, ⟨6, [], .v (.bool false)⟩, ⟨3, [], .v (.pointer (some B_3))⟩, ⟨1, [], .v (.int .i64 a1)⟩, ⟨2, [], .v (.int .i64 a2)⟩], [], [], [], none, none⟩ [] (by kernel_rfl) trivial (fun ns_12 a w_13 hI _ => ?_)
  refine cond_ hI ((a2 == 12)) rfl (fun hc_14 => ?_) (fun hc_14 => ?_)
  · replace H0 := bif_t hc_14 H0
    obtain ⟨hN_15, H0⟩ := req_some H0
    have hE_17 := elA_St27 (El.part (e := kd_St27) hB_4 2 x0.Frames (svO sv0 2) ⟨(hB_4).cont.2.2.1, (hB_4).cont.2.2.2.1, trivial⟩ rfl) hN_15
    obtain ⟨hN_18, H0⟩ := req_some H0
    have hE_20 := fun (hg : (!(decide (((rdA_St27 x0.Frames a1).Length) < 1))) = true) => elA_St27 (El.part (e := kd_St27) hB_4 2 x0.Frames (svO sv0 2) ⟨(hB_4).cont.2.2.1, (hB_4).cont.2.2.2.1, trivial⟩ rfl) (imp_spec hN_18 hg)
    refine seq_region (live := [6]) (orc := [[.int .i64 ((rdA_St27 x0.Frames a1).Length)], [.int .i64 ((rdA_St27 x0.Frames a1).Length)]]) hF hI ⟨[⟨6, [], .v (.bool (decide (((rdA_St27 x0.Frames a1).Length) < 1) || decide (((rdA_St27 x0.Frames a1).Length) > 64)))⟩], [], [], [], none, none⟩ [.need true (0 ≤ a1 ∧ a1 < ((2 : Nat) : Int)), .cell true ((B_3.add 2).add ((a1 : Int).toNat * 2)) [.int .i64 ((rdA_St27 x0.Frames a1).Length)], .need (!(decide (((rdA_St27 x0.Frames a1).Length) < 1))) (0 ≤ a1 ∧ a1 < ((2 : Nat) : Int)), .cell (!(decide (((rdA_St27 x0.Frames a1).Length) < 1))) ((B_3.add 2).add ((a1 : Int).toNat * 2)) [.int .i64 ((rdA_St27 x0.Frames a1).Length)]] (by kernel_rfl) ⟨ob_inb (fun _ => hN_15), ob_el (fun _ => hE_17) 0 [.int .i64 ((rdA_St27 x0.Frames a1).Length)] rfl, ob_inb (fun hg => imp_spec hN_18 hg), ob_el (fun hg => hE_20 hg) 0 [.int .i64 ((rdA_St27 x0.Frames a1).Length)] rfl, trivial⟩ (fun ns_21 a w_22 hI _ => ?_)
    refine wpIn_ret ?_
    refine then_ret ?_
    obtain rfl := Option.some.inj H0
    exact ret1 hI rfl rfl ⟨rfl, hE.below hI⟩
  · replace H0 := bif_f hc_14 H0
    refine wpIn_skip ?_
    refine then_normal ?_
    refine wpIn_seq ?_
    refine seq_region (live := [32, 7, 6, 3, 1, 2]) (orc := []) hF hI ⟨[⟨32, [], .v (.bool (a2 == 13))⟩, ⟨7, [], .v (.slice (((svO (svO sv0 2) ((a1 : Int).toNat * 1)) 0).1) ((rdA_St27 x0.Frames a1).Windows).length (((svO (svO sv0 2) ((a1 : Int).toNat * 1)) 0).2))⟩, ⟨6, [], .v (.bool false)⟩, ⟨3, [], .v (.pointer (some B_3))⟩, ⟨1, [], .v (.int .i64 a1)⟩, ⟨2, [], .v (.int .i64 a2)⟩], [], [], [], none, none⟩ [] (by kernel_rfl) trivial (fun ns_23 a w_24 hI _ => ?_)
    refine cond_ hI ((a2 == 13)) rfl (fun hc_25 => ?_) (fun hc_25 => ?_)
    · replace H0 := bif_t hc_25 H0
      refine seq_region (live := [6]) (orc := []) hF hI ⟨[⟨6, [], .v (.bool (decide ((((rdA_St27 x0.Frames a1).Windows).length : Int) > 16)))⟩], [], [], [], none, none⟩ [] (by kernel_rfl) trivial (fun ns_26 a w_27 hI _ => ?_)
      refine wpIn_ret ?_
      refine then_ret ?_
      obtain rfl := Option.some.inj H0
      exact ret1 hI rfl rfl ⟨rfl, hE.below hI⟩
    · replace H0 := bif_f hc_25 H0
      refine wpIn_skip ?_
      refine then_normal ?_
      refine wpIn_seq ?_
      refine seq_region (live := [8, 7, 6, 3, 1, 2]) (orc := []) hF hI ⟨[⟨8, [], .v (.int .i64 0)⟩, ⟨7, [], .v (.slice (((svO (svO sv0 2) ((a1 : Int).toNat * 1)) 0).1) ((rdA_St27 x0.Frames a1).Windows).length (((svO (svO sv0 2) ((a1 : Int).toNat * 1)) 0).2))⟩, ⟨6, [], .v (.bool false)⟩, ⟨3, [], .v (.pointer (some B_3))⟩, ⟨1, [], .v (.int .i64 a1)⟩, ⟨2, [], .v (.int .i64 a2)⟩], [], [], [], none, none⟩ [] (by kernel_rfl) trivial (fun ns_28 a w_29 hI _ => ?_)
      obtain ⟨o_90, hL_91, H0⟩ := bind_some H0
      refine block_loop (fun (s1 : Int × Bool) a w_96 => ∃ ns, St w_2 ns_6 148 ⟨[⟨8, [], .v (.int .i64 s1.1)⟩, ⟨7, [], .v (.slice (((svO (svO sv0 2) ((a1 : Int).toNat * 1)) 0).1) ((rdA_St27 x0.Frames a1).Windows).length (((svO (svO sv0 2) ((a1 : Int).toNat * 1)) 0).2))⟩, ⟨6, [], .v (.bool s1.2)⟩, ⟨3, [], .v (.pointer (some B_3))⟩, ⟨1, [], .v (.int .i64 a1)⟩, ⟨2, [], .v (.int .i64 a2)⟩], [], [], [], none, none⟩ ns a w_96) (0, false) hL_91 ⟨_, hI.pick [8, 7, 6, 3, 1, 2] 0 ⟨[⟨8, [], .v (.int .i64 0)⟩, ⟨7, [], .v (.slice (((svO (svO sv0 2) ((a1 : Int).toNat * 1)) 0).1) ((rdA_St27 x0.Frames a1).Windows).length (((svO (svO sv0 2) ((a1 : Int).toNat * 1)) 0).2))⟩, ⟨6, [], .v (.bool false)⟩, ⟨3, [], .v (.pointer (some B_3))⟩, ⟨1, [], .v (.int .i64 a1)⟩, ⟨2, [], .v (.int .i64 a2)⟩], [], [], [], none, none⟩ (by kernel_rfl)⟩ ?_ ?_
      · clear hI
        rintro s1 a w_30 ⟨ns_31, hI⟩ r1 H1
        unfold G_ref07_windows.b1 at H1
        refine wpIn_seq ?_
        refine seq_region (live := [39, 8, 7, 6, 3, 1, 2]) (orc := []) hF hI ⟨[⟨39, [], .v (.bool (decide (s1.1 < (((rdA_St27 x0.Frames a1).Windows).length : Int))))⟩, ⟨8, [], .v (.int .i64 s1.1)⟩, ⟨7, [], .v (.slice (((svO (svO sv0 2) ((a1 : Int).toNat * 1)) 0).1) ((rdA_St27 x0.Frames a1).Windows).length (((svO (svO sv0 2) ((a1 : Int).toNat * 1)) 0).2))⟩, ⟨6, [], .v (.bool s1.2)⟩, ⟨3, [], .v (.pointer (some B_3))⟩, ⟨1, [], .v (.int .i64 a1)⟩, ⟨2, [], .v (.int .i64 a2)⟩], [], [], [], none, none⟩ [] (by kernel_rfl) trivial (fun ns_32 a w_33 hI _ => ?_)
        refine cond_ hI (decide (s1.1 < (((rdA_St27 x0.Frames a1).Windows).length : Int))) rfl (fun hc_34 => ?_) (fun hc_34 => ?_)
        · replace H1 := bif_t hc_34 H1
          refine wpIn_skip ?_
          refine then_normal ?_
          refine wpIn_seq ?_
          refine wpIn_block ?_
          obtain ⟨hN_35, H1⟩ := req_some H1
          obtain ⟨sv_36, hE_38, hA_37⟩ := Arr.elB (d := kd_Window) (hE_9).cont.1.1 s1.1 true (fun _ => hN_35)
          replace hE_38 := hE_38 rfl
          replace hA_37 := fun (_ : true = true) => hA_37 rfl
          refine seq_region (live := [9, 8, 7, 6, 3, 1, 2]) (orc := [(kd_Window).cells (rd ((rdA_St27 x0.Frames a1).Windows) s1.1) sv_36]) hF hI ⟨[⟨9, [], .p 0 0⟩, ⟨8, [], .v (.int .i64 s1.1)⟩, ⟨7, [], .v (.slice (((svO (svO sv0 2) ((a1 : Int).toNat * 1)) 0).1) ((rdA_St27 x0.Frames a1).Windows).length (((svO (svO sv0 2) ((a1 : Int).toNat * 1)) 0).2))⟩, ⟨6, [], .v (.bool s1.2)⟩, ⟨3, [], .v (.pointer (some B_3))⟩, ⟨1, [], .v (.int .i64 a1)⟩, ⟨2, [], .v (.int .i64 a2)⟩], [], [], [((((kd_Window).cells (rd ((rdA_St27 x0.Frames a1).Windows) s1.1) sv_36).map EV.v), 88)], none, none⟩ [.need true (0 ≤ s1.1 ∧ s1.1 < (((rdA_St27 x0.Frames a1).Windows).length : Int)), .need true (((svO (svO sv0 2) ((a1 : Int).toNat * 1)) 0).1 = some (adr (((svO (svO sv0 2) ((a1 : Int).toNat * 1)) 0).1))), .cell true ((adr (((svO (svO sv0 2) ((a1 : Int).toNat * 1)) 0).1)).add ((s1.1 : Int).toNat * 3)) ((kd_Window).cells (rd ((rdA_St27 x0.Frames a1).Windows) s1.1) sv_36)] (by kernel_rfl) ⟨ob_inb (fun _ => hN_35), hA_37, ob_el (fun _ => hE_38) 0 ((kd_Window).cells (rd ((rdA_St27 x0.Frames a1).Windows) s1.1) sv_36) rfl, trivial⟩ (fun ns_39 a w_40 hI _ => ?_)
          refine wpIn_seq ?_
          obtain ⟨t_41, hG_42, H1⟩ := bind_some H1
          obtain ⟨hN_43, H1⟩ := req_some H1
          obtain ⟨sv_44, hE_46, hA_45⟩ := Arr.elB (d := kd_Part) (hB_4).cont.1.1 ((rd ((rdA_St27 x0.Frames a1).Windows) s1.1).Part) ((a2 == 14) && (!(!t_41))) (fun hg => imp_spec hN_43 hg)
          refine seq_region (live := [65, 9, 8, 7, 6, 3, 1, 2]) (orc := [(kd_Config).cells x0 sv0, [.bool t_41], [.slice ((sv0 0).1) x0.Parts.length ((sv0 0).2)], [.int .i64 ((rd x0.Parts ((rd ((rdA_St27 x0.Frames a1).Windows) s1.1).Part)).Core)]]) hF hI ⟨[⟨65, [], .v (.bool ((a2 == 14) && ((!t_41) || (((rd x0.Parts ((rd ((rdA_St27 x0.Frames a1).Windows) s1.1).Part)).Core) != a1))))⟩, ⟨9, [], .p 0 0⟩, ⟨8, [], .v (.int .i64 s1.1)⟩, ⟨7, [], .v (.slice (((svO (svO sv0 2) ((a1 : Int).toNat * 1)) 0).1) ((rdA_St27 x0.Frames a1).Windows).length (((svO (svO sv0 2) ((a1 : Int).toNat * 1)) 0).2))⟩, ⟨6, [], .v (.bool s1.2)⟩, ⟨3, [], .v (.pointer (some B_3))⟩, ⟨1, [], .v (.int .i64 a1)⟩, ⟨2, [], .v (.int .i64 a2)⟩], [], [], [((((kd_Window).cells (rd ((rdA_St27 x0.Frames a1).Windows) s1.1) sv_36).map EV.v), 88)], none, none⟩ [.cell (a2 == 14) B_3 ((kd_Config).cells x0 sv0), .call (a2 == 14) 86 [.agg ((kd_Config).cells x0 sv0).toArray, .int .i64 ((rd ((rdA_St27 x0.Frames a1).Windows) s1.1).Part)] (.bool t_41), .cell ((a2 == 14) && (!(!t_41))) B_3 [.slice ((sv0 0).1) x0.Parts.length ((sv0 0).2)], .need ((a2 == 14) && (!(!t_41))) (0 ≤ ((rd ((rdA_St27 x0.Frames a1).Windows) s1.1).Part) ∧ ((rd ((rdA_St27 x0.Frames a1).Windows) s1.1).Part) < (x0.Parts.length : Int)), .need ((a2 == 14) && (!(!t_41))) ((sv0 0).1 = some (adr ((sv0 0).1))), .cell ((a2 == 14) && (!(!t_41))) ((adr ((sv0 0).1)).add ((((rd ((rdA_St27 x0.Frames a1).Windows) s1.1).Part) : Int).toNat * 2)) [.int .i64 ((rd x0.Parts ((rd ((rdA_St27 x0.Frames a1).Windows) s1.1).Part)).Core)]] (by kernel_rfl) ⟨ob_el (fun _ => hB_4) 0 ((kd_Config).cells x0 sv0) rfl, ob_call (enters Try.func86 (by kernel_rfl) rfl) (fun hg wz hk => G_ref07_part.calls x0 ((rd ((rdA_St27 x0.Frames a1).Windows) s1.1).Part) sv0 wz (S := fun _ => True) (Kd.any _ (Kd.keep kd_Config (contI (S := Lo S w w_2 ns_6 []) (w := w_2) (d := kd_Config) (x := x0) (sv := sv0) ⟨⟨(hB_4).cont.1.1, (hB_4).cont.1.2⟩, ⟨(hB_4).cont.2.1.1, (hB_4).cont.2.1.2⟩, ⟨(hB_4).cont.2.2.1.1, (hB_4).cont.2.2.1.2⟩, ⟨(hB_4).cont.2.2.2.1.1, (hB_4).cont.2.2.2.1.2⟩, trivial⟩) (Lo.on hk))) _ (cal_some hG_42 hg)), ob_el (fun _ => hB_4) 0 [.slice ((sv0 0).1) x0.Parts.length ((sv0 0).2)] rfl, ob_inb (fun hg => imp_spec hN_43 hg), hA_45, ob_el (fun hg => hE_46 hg) 0 [.int .i64 ((rd x0.Parts ((rd ((rdA_St27 x0.Frames a1).Windows) s1.1).Part)).Core)] rfl, trivial⟩ (fun ns_47 a w_48 hI _ => ?_)
          refine cond_ hI (((a2 == 14) && ((!t_41) || (((rd x0.Parts ((rd ((rdA_St27 x0.Frames a1).Windows) s1.1).Part)).Core) != a1)))) rfl (fun hc_49 => ?_) (fun hc_49 => ?_)
          · replace H1 := bif_t hc_49 H1
            refine seq_region (live := [6]) (orc := []) hF hI ⟨[⟨6, [], .v (.bool true)⟩], [], [], [((((kd_Window).cells (rd ((rdA_St27 x0.Frames a1).Windows) s1.1) sv_36).map EV.v), 88)], none, none⟩ [] (by kernel_rfl) trivial (fun ns_50 a w_51 hI _ => ?_)
            refine wpIn_ret ?_
            refine then_ret ?_
            refine inBlock_ret ?_
            refine then_ret ?_
            refine then_ret ?_
            obtain rfl := Option.some.inj H1
            refine .inr ⟨_, rfl, fun ho => ?_⟩
            subst ho
            refine inBlock_ret ?_
            refine then_ret ?_
            obtain rfl := Option.some.inj H0
            exact ret1 hI rfl rfl ⟨rfl, hE.below hI⟩
          · replace H1 := bif_f hc_49 H1
            refine wpIn_skip ?_
            refine then_normal ?_
            refine wpIn_seq ?_
            refine wpIn_seq ?_
            obtain ⟨hN_52, H1⟩ := req_some H1
            have hE_54 := fun (hg : ((a2 == 15) && (!(decide (((rd ((rdA_St27 x0.Frames a1).Windows) s1.1).Start) < 0) || decide (((rd ((rdA_St27 x0.Frames a1).Windows) s1.1).Len) < 1)))) = true) => elA_St27 (El.part (e := kd_St27) hB_4 2 x0.Frames (svO sv0 2) ⟨(hB_4).cont.2.2.1, (hB_4).cont.2.2.2.1, trivial⟩ rfl) (imp_spec hN_52 hg)
            obtain ⟨hN_55, H1⟩ := req_some H1
            have hE_57 := fun (hg : ((a2 == 15) && (!((decide (((rd ((rdA_St27 x0.Frames a1).Windows) s1.1).Start) < 0) || decide (((rd ((rdA_St27 x0.Frames a1).Windows) s1.1).Len) < 1)) || decide (((rd ((rdA_St27 x0.Frames a1).Windows) s1.1).Start) > ((rdA_St27 x0.Frames a1).Length))))) = true) => elA_St27 (El.part (e := kd_St27) hB_4 2 x0.Frames (svO sv0 2) ⟨(hB_4).cont.2.2.1, (hB_4).cont.2.2.2.1, trivial⟩ rfl) (imp_spec hN_55 hg)
            refine drawn_ (live := [100, 9, 8, 7, 6, 3, 1, 2]) (orc := [[.int .i64 ((rdA_St27 x0.Frames a1).Length)], [.int .i64 ((rdA_St27 x0.Frames a1).Length)]]) hF hI ⟨[⟨100, [], .v (.bool ((a2 == 15) && (((decide (((rd ((rdA_St27 x0.Frames a1).Windows) s1.1).Start) < 0) || decide (((rd ((rdA_St27 x0.Frames a1).Windows) s1.1).Len) < 1)) || decide (((rd ((rdA_St27 x0.Frames a1).Windows) s1.1).Start) > ((rdA_St27 x0.Frames a1).Length))) || decide (((rd ((rdA_St27 x0.Frames a1).Windows) s1.1).Len) > (IntKind.i64.wrap (((rdA_St27 x0.Frames a1).Length) - ((rd ((rdA_St27 x0.Frames a1).Windows) s1.1).Start)))))))⟩, ⟨9, [], .p 0 0⟩, ⟨8, [], .v (.int .i64 s1.1)⟩, ⟨7, [], .v (.slice (((svO (svO sv0 2) ((a1 : Int).toNat * 1)) 0).1) ((rdA_St27 x0.Frames a1).Windows).length (((svO (svO sv0 2) ((a1 : Int).toNat * 1)) 0).2))⟩, ⟨6, [], .v (.bool s1.2)⟩, ⟨3, [], .v (.pointer (some B_3))⟩, ⟨1, [], .v (.int .i64 a1)⟩, ⟨2, [], .v (.int .i64 a2)⟩], [], [], [((((kd_Window).cells (rd ((rdA_St27 x0.Frames a1).Windows) s1.1) sv_36).map EV.v), 88)], none, none⟩ [.need ((a2 == 15) && (!(decide (((rd ((rdA_St27 x0.Frames a1).Windows) s1.1).Start) < 0) || decide (((rd ((rdA_St27 x0.Frames a1).Windows) s1.1).Len) < 1)))) (0 ≤ a1 ∧ a1 < ((2 : Nat) : Int)), .cell ((a2 == 15) && (!(decide (((rd ((rdA_St27 x0.Frames a1).Windows) s1.1).Start) < 0) || decide (((rd ((rdA_St27 x0.Frames a1).Windows) s1.1).Len) < 1)))) ((B_3.add 2).add ((a1 : Int).toNat * 2)) [.int .i64 ((rdA_St27 x0.Frames a1).Length)], .need ((a2 == 15) && (!((decide (((rd ((rdA_St27 x0.Frames a1).Windows) s1.1).Start) < 0) || decide (((rd ((rdA_St27 x0.Frames a1).Windows) s1.1).Len) < 1)) || decide (((rd ((rdA_St27 x0.Frames a1).Windows) s1.1).Start) > ((rdA_St27 x0.Frames a1).Length))))) (0 ≤ a1 ∧ a1 < ((2 : Nat) : Int)), .cell ((a2 == 15) && (!((decide (((rd ((rdA_St27 x0.Frames a1).Windows) s1.1).Start) < 0) || decide (((rd ((rdA_St27 x0.Frames a1).Windows) s1.1).Len) < 1)) || decide (((rd ((rdA_St27 x0.Frames a1).Windows) s1.1).Start) > ((rdA_St27 x0.Frames a1).Length))))) ((B_3.add 2).add ((a1 : Int).toNat * 2)) [.int .i64 ((rdA_St27 x0.Frames a1).Length)]] (by kernel_rfl) (by kernel_rfl) (by kernel_rfl) ⟨ob_inb (fun hg => imp_spec hN_52 hg), ob_el (fun hg => hE_54 hg) 0 [.int .i64 ((rdA_St27 x0.Frames a1).Length)] rfl, ob_inb (fun hg => imp_spec hN_55 hg), ob_el (fun hg => hE_57 hg) 0 [.int .i64 ((rdA_St27 x0.Frames a1).Length)] rfl, trivial⟩ (fun a w_58 hI => ?_)
            refine then_normal ?_
            refine cond_ hI (((a2 == 15) && (((decide (((rd ((rdA_St27 x0.Frames a1).Windows) s1.1).Start) < 0) || decide (((rd ((rdA_St27 x0.Frames a1).Windows) s1.1).Len) < 1)) || decide (((rd ((rdA_St27 x0.Frames a1).Windows) s1.1).Start) > ((rdA_St27 x0.Frames a1).Length))) || decide (((rd ((rdA_St27 x0.Frames a1).Windows) s1.1).Len) > (IntKind.i64.wrap (((rdA_St27 x0.Frames a1).Length) - ((rd ((rdA_St27 x0.Frames a1).Windows) s1.1).Start))))))) rfl (fun hc_59 => ?_) (fun hc_59 => ?_)
            · replace H1 := bif_t hc_59 H1
              refine seq_region (live := [6]) (orc := []) hF hI ⟨[⟨6, [], .v (.bool true)⟩], [], [], [((((kd_Window).cells (rd ((rdA_St27 x0.Frames a1).Windows) s1.1) sv_36).map EV.v), 88)], none, none⟩ [] (by kernel_rfl) trivial (fun ns_60 a w_61 hI _ => ?_)
              refine wpIn_ret ?_
              refine then_ret ?_
              refine inBlock_ret ?_
              refine then_ret ?_
              refine then_ret ?_
              obtain rfl := Option.some.inj H1
              refine .inr ⟨_, rfl, fun ho => ?_⟩
              subst ho
              refine inBlock_ret ?_
              refine then_ret ?_
              obtain rfl := Option.some.inj H0
              exact ret1 hI rfl rfl ⟨rfl, hE.below hI⟩
            · replace H1 := bif_f hc_59 H1
              refine wpIn_skip ?_
              refine then_normal ?_
              refine wpIn_seq ?_
              obtain ⟨t_62, hG_63, H1⟩ := bind_some H1
              obtain ⟨hN_64, H1⟩ := req_some H1
              obtain ⟨sv_65, hE_67, hA_66⟩ := Arr.elB (d := kd_Window) (hE_9).cont.1.1 (IntKind.i64.wrap (s1.1 - 1)) (((a2 == 16) && decide (s1.1 > 0)) && t_62) (fun hg => imp_spec hN_64 hg)
              obtain ⟨t_68, hG_69, H1⟩ := bind_some H1
              obtain ⟨hN_70, H1⟩ := req_some H1
              obtain ⟨sv_71, hE_73, hA_72⟩ := Arr.elB (d := kd_Window) (hE_9).cont.1.1 (IntKind.i64.wrap (s1.1 - 1)) ((((a2 == 16) && decide (s1.1 > 0)) && t_62) && t_68) (fun hg => imp_spec hN_70 hg)
              obtain ⟨t_74, hG_75, H1⟩ := bind_some H1
              obtain ⟨hN_76, H1⟩ := req_some H1
              obtain ⟨sv_77, hE_79, hA_78⟩ := Arr.elB (d := kd_Window) (hE_9).cont.1.1 (IntKind.i64.wrap (s1.1 - 1)) (((((a2 == 16) && decide (s1.1 > 0)) && t_62) && t_68) && t_74) (fun hg => imp_spec hN_76 hg)
              obtain ⟨hN_80, H1⟩ := req_some H1
              obtain ⟨sv_81, hE_83, hA_82⟩ := Arr.elB (d := kd_Window) (hE_9).cont.1.1 (IntKind.i64.wrap (s1.1 - 1)) (((((a2 == 16) && decide (s1.1 > 0)) && t_62) && t_68) && t_74) (fun hg => imp_spec hN_80 hg)
              refine drawn_ (live := [147, 8, 7, 6, 3, 1, 2]) (orc := [[.bool t_62], [.int .i64 ((rd ((rdA_St27 x0.Frames a1).Windows) (IntKind.i64.wrap (s1.1 - 1))).Start)], [.bool t_68], [.int .i64 ((rd ((rdA_St27 x0.Frames a1).Windows) (IntKind.i64.wrap (s1.1 - 1))).Len)], [.bool t_74], [.int .i64 ((rd ((rdA_St27 x0.Frames a1).Windows) (IntKind.i64.wrap (s1.1 - 1))).Start)], [.int .i64 ((rd ((rdA_St27 x0.Frames a1).Windows) (IntKind.i64.wrap (s1.1 - 1))).Len)]]) hF hI ⟨[⟨147, [], .v (.bool ((((((a2 == 16) && decide (s1.1 > 0)) && t_62) && t_68) && t_74) && decide (((rd ((rdA_St27 x0.Frames a1).Windows) s1.1).Start) < (IntKind.i64.wrap (((rd ((rdA_St27 x0.Frames a1).Windows) (IntKind.i64.wrap (s1.1 - 1))).Start) + ((rd ((rdA_St27 x0.Frames a1).Windows) (IntKind.i64.wrap (s1.1 - 1))).Len))))))⟩, ⟨8, [], .v (.int .i64 s1.1)⟩, ⟨7, [], .v (.slice (((svO (svO sv0 2) ((a1 : Int).toNat * 1)) 0).1) ((rdA_St27 x0.Frames a1).Windows).length (((svO (svO sv0 2) ((a1 : Int).toNat * 1)) 0).2))⟩, ⟨6, [], .v (.bool s1.2)⟩, ⟨3, [], .v (.pointer (some B_3))⟩, ⟨1, [], .v (.int .i64 a1)⟩, ⟨2, [], .v (.int .i64 a2)⟩], [], [], [((((kd_Window).cells (rd ((rdA_St27 x0.Frames a1).Windows) s1.1) sv_36).map EV.v), 88)], none, none⟩ [.call ((a2 == 16) && decide (s1.1 > 0)) 87 [.int .i64 ((rd ((rdA_St27 x0.Frames a1).Windows) s1.1).Start)] (.bool t_62), .need (((a2 == 16) && decide (s1.1 > 0)) && t_62) (0 ≤ (IntKind.i64.wrap (s1.1 - 1)) ∧ (IntKind.i64.wrap (s1.1 - 1)) < (((rdA_St27 x0.Frames a1).Windows).length : Int)), .need (((a2 == 16) && decide (s1.1 > 0)) && t_62) (((svO (svO sv0 2) ((a1 : Int).toNat * 1)) 0).1 = some (adr (((svO (svO sv0 2) ((a1 : Int).toNat * 1)) 0).1))), .cell (((a2 == 16) && decide (s1.1 > 0)) && t_62) (((adr (((svO (svO sv0 2) ((a1 : Int).toNat * 1)) 0).1)).add (((IntKind.i64.wrap (s1.1 - 1)) : Int).toNat * 3)).add 1) [.int .i64 ((rd ((rdA_St27 x0.Frames a1).Windows) (IntKind.i64.wrap (s1.1 - 1))).Start)], .call (((a2 == 16) && decide (s1.1 > 0)) && t_62) 87 [.int .i64 ((rd ((rdA_St27 x0.Frames a1).Windows) (IntKind.i64.wrap (s1.1 - 1))).Start)] (.bool t_68), .need ((((a2 == 16) && decide (s1.1 > 0)) && t_62) && t_68) (0 ≤ (IntKind.i64.wrap (s1.1 - 1)) ∧ (IntKind.i64.wrap (s1.1 - 1)) < (((rdA_St27 x0.Frames a1).Windows).length : Int)), .need ((((a2 == 16) && decide (s1.1 > 0)) && t_62) && t_68) (((svO (svO sv0 2) ((a1 : Int).toNat * 1)) 0).1 = some (adr (((svO (svO sv0 2) ((a1 : Int).toNat * 1)) 0).1))), .cell ((((a2 == 16) && decide (s1.1 > 0)) && t_62) && t_68) (((adr (((svO (svO sv0 2) ((a1 : Int).toNat * 1)) 0).1)).add (((IntKind.i64.wrap (s1.1 - 1)) : Int).toNat * 3)).add 2) [.int .i64 ((rd ((rdA_St27 x0.Frames a1).Windows) (IntKind.i64.wrap (s1.1 - 1))).Len)], .call ((((a2 == 16) && decide (s1.1 > 0)) && t_62) && t_68) 87 [.int .i64 ((rd ((rdA_St27 x0.Frames a1).Windows) (IntKind.i64.wrap (s1.1 - 1))).Len)] (.bool t_74), .need (((((a2 == 16) && decide (s1.1 > 0)) && t_62) && t_68) && t_74) (0 ≤ (IntKind.i64.wrap (s1.1 - 1)) ∧ (IntKind.i64.wrap (s1.1 - 1)) < (((rdA_St27 x0.Frames a1).Windows).length : Int)), .need (((((a2 == 16) && decide (s1.1 > 0)) && t_62) && t_68) && t_74) (((svO (svO sv0 2) ((a1 : Int).toNat * 1)) 0).1 = some (adr (((svO (svO sv0 2) ((a1 : Int).toNat * 1)) 0).1))), .cell (((((a2 == 16) && decide (s1.1 > 0)) && t_62) && t_68) && t_74) (((adr (((svO (svO sv0 2) ((a1 : Int).toNat * 1)) 0).1)).add (((IntKind.i64.wrap (s1.1 - 1)) : Int).toNat * 3)).add 1) [.int .i64 ((rd ((rdA_St27 x0.Frames a1).Windows) (IntKind.i64.wrap (s1.1 - 1))).Start)], .need (((((a2 == 16) && decide (s1.1 > 0)) && t_62) && t_68) && t_74) (0 ≤ (IntKind.i64.wrap (s1.1 - 1)) ∧ (IntKind.i64.wrap (s1.1 - 1)) < (((rdA_St27 x0.Frames a1).Windows).length : Int)), .need (((((a2 == 16) && decide (s1.1 > 0)) && t_62) && t_68) && t_74) (((svO (svO sv0 2) ((a1 : Int).toNat * 1)) 0).1 = some (adr (((svO (svO sv0 2) ((a1 : Int).toNat * 1)) 0).1))), .cell (((((a2 == 16) && decide (s1.1 > 0)) && t_62) && t_68) && t_74) (((adr (((svO (svO sv0 2) ((a1 : Int).toNat * 1)) 0).1)).add (((IntKind.i64.wrap (s1.1 - 1)) : Int).toNat * 3)).add 2) [.int .i64 ((rd ((rdA_St27 x0.Frames a1).Windows) (IntKind.i64.wrap (s1.1 - 1))).Len)]] (by kernel_rfl) (by kernel_rfl) (by kernel_rfl) ⟨ob_call (enters Try.func87 (by kernel_rfl) rfl) (fun hg wz hk => G_ref07_word.calls ((rd ((rdA_St27 x0.Frames a1).Windows) s1.1).Start)  wz (S := fun _ => True)  _ (cal_some hG_63 hg)), ob_inb (fun hg => imp_spec hN_64 hg), hA_66, ob_el (fun hg => hE_67 hg) 1 [.int .i64 ((rd ((rdA_St27 x0.Frames a1).Windows) (IntKind.i64.wrap (s1.1 - 1))).Start)] rfl, ob_call (enters Try.func87 (by kernel_rfl) rfl) (fun hg wz hk => G_ref07_word.calls ((rd ((rdA_St27 x0.Frames a1).Windows) (IntKind.i64.wrap (s1.1 - 1))).Start)  wz (S := fun _ => True)  _ (cal_some hG_69 hg)), ob_inb (fun hg => imp_spec hN_70 hg), hA_72, ob_el (fun hg => hE_73 hg) 2 [.int .i64 ((rd ((rdA_St27 x0.Frames a1).Windows) (IntKind.i64.wrap (s1.1 - 1))).Len)] rfl, ob_call (enters Try.func87 (by kernel_rfl) rfl) (fun hg wz hk => G_ref07_word.calls ((rd ((rdA_St27 x0.Frames a1).Windows) (IntKind.i64.wrap (s1.1 - 1))).Len)  wz (S := fun _ => True)  _ (cal_some hG_75 hg)), ob_inb (fun hg => imp_spec hN_76 hg), hA_78, ob_el (fun hg => hE_79 hg) 1 [.int .i64 ((rd ((rdA_St27 x0.Frames a1).Windows) (IntKind.i64.wrap (s1.1 - 1))).Start)] rfl, ob_inb (fun hg => imp_spec hN_80 hg), hA_82, ob_el (fun hg => hE_83 hg) 2 [.int .i64 ((rd ((rdA_St27 x0.Frames a1).Windows) (IntKind.i64.wrap (s1.1 - 1))).Len)] rfl, trivial⟩ (fun a w_84 hI => ?_)
              refine then_normal ?_
              refine cond_ hI (((((((a2 == 16) && decide (s1.1 > 0)) && t_62) && t_68) && t_74) && decide (((rd ((rdA_St27 x0.Frames a1).Windows) s1.1).Start) < (IntKind.i64.wrap (((rd ((rdA_St27 x0.Frames a1).Windows) (IntKind.i64.wrap (s1.1 - 1))).Start) + ((rd ((rdA_St27 x0.Frames a1).Windows) (IntKind.i64.wrap (s1.1 - 1))).Len)))))) rfl (fun hc_85 => ?_) (fun hc_85 => ?_)
              · replace H1 := bif_t hc_85 H1
                refine seq_region (live := [6]) (orc := []) hF hI ⟨[⟨6, [], .v (.bool true)⟩], [], [], [((((kd_Window).cells (rd ((rdA_St27 x0.Frames a1).Windows) s1.1) sv_36).map EV.v), 88)], none, none⟩ [] (by kernel_rfl) trivial (fun ns_86 a w_87 hI _ => ?_)
                refine wpIn_ret ?_
                refine inBlock_ret ?_
                refine then_ret ?_
                refine then_ret ?_
                obtain rfl := Option.some.inj H1
                refine .inr ⟨_, rfl, fun ho => ?_⟩
                subst ho
                refine inBlock_ret ?_
                refine then_ret ?_
                obtain rfl := Option.some.inj H0
                exact ret1 hI rfl rfl ⟨rfl, hE.below hI⟩
              · replace H1 := bif_f hc_85 H1
                refine wpIn_skip ?_
                refine inBlock_normal ?_
                refine then_normal ?_
                refine region_ (live := [8, 7, 6, 3, 1, 2]) (orc := []) hF hI ⟨[⟨8, [], .v (.int .i64 (IntKind.i64.wrap (s1.1 + 1)))⟩, ⟨7, [], .v (.slice (((svO (svO sv0 2) ((a1 : Int).toNat * 1)) 0).1) ((rdA_St27 x0.Frames a1).Windows).length (((svO (svO sv0 2) ((a1 : Int).toNat * 1)) 0).2))⟩, ⟨6, [], .v (.bool s1.2)⟩, ⟨3, [], .v (.pointer (some B_3))⟩, ⟨1, [], .v (.int .i64 a1)⟩, ⟨2, [], .v (.int .i64 a2)⟩], [], [], [((((kd_Window).cells (rd ((rdA_St27 x0.Frames a1).Windows) s1.1) sv_36).map EV.v), 88)], none, none⟩ [] (by kernel_rfl) trivial (fun ns_88 a w_89 hI _ => ?_)
                refine then_normal ?_
                obtain rfl := Option.some.inj H1
                exact ⟨_, rfl, ⟨_, hI.pick [8, 7, 6, 3, 1, 2] 0 ⟨[⟨8, [], .v (.int .i64 (IntKind.i64.wrap (s1.1 + 1)))⟩, ⟨7, [], .v (.slice (((svO (svO sv0 2) ((a1 : Int).toNat * 1)) 0).1) ((rdA_St27 x0.Frames a1).Windows).length (((svO (svO sv0 2) ((a1 : Int).toNat * 1)) 0).2))⟩, ⟨6, [], .v (.bool s1.2)⟩, ⟨3, [], .v (.pointer (some B_3))⟩, ⟨1, [], .v (.int .i64 a1)⟩, ⟨2, [], .v (.int .i64 a2)⟩], [], [], [], none, none⟩ (by kernel_rfl)⟩⟩
        · replace H1 := bif_f hc_34 H1
          refine wpIn_exit ?_
          refine then_exit ?_
          refine then_exit ?_
          obtain rfl := Option.some.inj H1
          exact .inl ⟨_, rfl, rfl, ⟨_, hI.pick [8, 7, 6, 3, 1, 2] 0 ⟨[⟨8, [], .v (.int .i64 s1.1)⟩, ⟨7, [], .v (.slice (((svO (svO sv0 2) ((a1 : Int).toNat * 1)) 0).1) ((rdA_St27 x0.Frames a1).Windows).length (((svO (svO sv0 2) ((a1 : Int).toNat * 1)) 0).2))⟩, ⟨6, [], .v (.bool s1.2)⟩, ⟨3, [], .v (.pointer (some B_3))⟩, ⟨1, [], .v (.int .i64 a1)⟩, ⟨2, [], .v (.int .i64 a2)⟩], [], [], [], none, none⟩ (by kernel_rfl)⟩⟩
      · clear hI
        rintro s1 a w_92 ho ⟨ns_93, hI⟩
        subst ho
        replace H0 : (some false : Option (Bool)) = _ := H0
        refine then_normal ?_
        refine seq_region (live := [6]) (orc := []) hF hI ⟨[⟨6, [], .v (.bool false)⟩], [], [], [], none, none⟩ [] (by kernel_rfl) trivial (fun ns_94 a w_95 hI _ => ?_)
        refine wpIn_ret ?_
        obtain rfl := Option.some.inj H0
        exact ret1 hI rfl rfl ⟨rfl, hE.below hI⟩

/-! ### porthole/portholeref07.Holds: function 55 -/
noncomputable def G_ref07_Holds.b1 (x0 : Config) (a1 : Int) (s1 : Int × Bool) : Option (Stp (Int × Bool) (Ex (Int × Bool) (Bool))) := (bif decide (s1.1 < (x0.Parts.length : Int)) then (req (inb s1.1 x0.Parts.length) ((cal (!((((a1 == 2) && (((rd x0.Parts s1.1).Core) != 0)) && (((rd x0.Parts s1.1).Core) != 1)) || ((a1 == 3) && (decide (((rd x0.Parts s1.1).Private) < 0) || decide (((rd x0.Parts s1.1).Private) > 64)))) && (a1 == 17)) (G_ref07_window x0 s1.1) default).bind fun t_24 => (bif (((((a1 == 2) && (((rd x0.Parts s1.1).Core) != 0)) && (((rd x0.Parts s1.1).Core) != 1)) || ((a1 == 3) && (decide (((rd x0.Parts s1.1).Private) < 0) || decide (((rd x0.Parts s1.1).Private) > 64)))) || ((a1 == 17) && (!t_24))) then some (.out (.ret true)) else some (.next ((IntKind.i64.wrap (s1.1 + 1)), s1.2))))) else some (.out (.brk (s1.1, s1.2))))
noncomputable def G_ref07_Holds (x0 : Config) (a1 : Int) : Option (Bool) := (bif (a1 == 1) then some (decide ((x0.Parts.length : Int) < 1) || decide ((x0.Parts.length : Int) > 6)) else (bif (((a1 == 2) || (a1 == 3)) || (a1 == 17)) then ((loopω (G_ref07_Holds.b1 x0 a1) (0, false)).bind fun o => o.on (fun s1 => some false) (fun r => some r)) else (bif (a1 == 4) then some (decide ((x0.Chans.length : Int) > 8)) else (bif (decide (a1 ≥ 5) && decide (a1 ≤ 11)) then ((G_ref07_chans x0 a1).bind fun t_48 => some t_48) else (bif (decide (a1 ≥ 12) && decide (a1 ≤ 16)) then ((G_ref07_windows x0 0 a1).bind fun t_55 => ((cal (!t_55) (G_ref07_windows x0 1 a1) default).bind fun t_57 => some (t_55 || t_57))) else some false)))))
set_option maxRecDepth 100000 in
set_option maxHeartbeats 4000000 in
theorem G_ref07_Holds.calls (x0 : Config) (a1 : Int) (sv0 : SV) (w : World) {S : Nat → Prop} (hx0 : (kd_Config).cont S w x0 sv0) (r : Bool) (h : G_ref07_Holds x0 a1 = some r) :
    Calls Try.prog 55 #[.agg ((kd_Config).cells x0 sv0).toArray, .int .i64 a1] w fun e w' => e = .returned (.bool r) ∧ Below w.heap.size w w' := by
  replace hx0 := Kd.lo _ hx0
  unfold G_ref07_Holds at h
  have H0 := h
  clear h
  refine enter Try.func55 rfl [.agg ((kd_Config).cells x0 sv0).toArray, .int .i64 a1] (n := 111) rfl (Nat.le_of_ble_eq_true rfl) (fun a hI => ?_)
  have hF : FOpen Fence.wide := .inl rfl
  have hE := Ep.start w
  refine seq_region (live := [4, 2, 1]) (orc := []) hF hI ⟨[⟨4, [], .v (.bool false)⟩, ⟨2, [], .p 0 0⟩, ⟨1, [], .v (.int .i64 a1)⟩], [], [], [((((kd_Config).cells x0 sv0).map EV.v), 29)], none, none⟩ [] (by kernel_rfl) trivial (fun ns_1 a w_2 hI _ => ?_)
  refine wpIn_seq ?_
  refine wpIn_block ?_
  refine seq_region (live := [7, 4, 2, 1]) (orc := []) hF hI ⟨[⟨7, [], .v (.bool (a1 == 1))⟩, ⟨4, [], .v (.bool false)⟩, ⟨2, [], .p 0 0⟩, ⟨1, [], .v (.int .i64 a1)⟩], [], [], [((((kd_Config).cells x0 sv0).map EV.v), 29)], none, none⟩ [] (by kernel_rfl) trivial (fun ns_3 a w_4 hI _ => ?_)
  refine cond_ hI ((a1 == 1)) rfl (fun hc_5 => ?_) (fun hc_5 => ?_)
  · replace H0 := bif_t hc_5 H0
    refine seq_region (live := [4]) (orc := []) hF hI ⟨[⟨4, [], .v (.bool (decide ((x0.Parts.length : Int) < 1) || decide ((x0.Parts.length : Int) > 6)))⟩], [], [], [((((kd_Config).cells x0 sv0).map EV.v), 29)], none, none⟩ [] (by kernel_rfl) trivial (fun ns_6 a w_7 hI _ => ?_)
    refine wpIn_ret ?_
    refine inBlock_ret ?_
    refine then_ret ?_
    obtain rfl := Option.some.inj H0
    exact ret1 hI rfl rfl ⟨rfl, hE.below hI⟩
  · replace H0 := bif_f hc_5 H0
    refine seq_region (live := [20, 4, 2, 1]) (orc := []) hF hI ⟨[⟨20, [], .v (.bool (((a1 == 2) || (a1 == 3)) || (a1 == 17)))⟩, ⟨4, [], .v (.bool false)⟩, ⟨2, [], .p 0 0⟩, ⟨1, [], .v (.int .i64 a1)⟩], [], [], [((((kd_Config).cells x0 sv0).map EV.v), 29)], none, none⟩ [] (by kernel_rfl) trivial (fun ns_8 a w_9 hI _ => ?_)
    refine cond_ hI ((((a1 == 2) || (a1 == 3)) || (a1 == 17))) rfl (fun hc_10 => ?_) (fun hc_10 => ?_)
    · replace H0 := bif_t hc_10 H0
      refine seq_region (live := [5, 4, 2, 1]) (orc := []) hF hI ⟨[⟨5, [], .v (.int .i64 0)⟩, ⟨4, [], .v (.bool false)⟩, ⟨2, [], .p 0 0⟩, ⟨1, [], .v (.int .i64 a1)⟩], [], [], [((((kd_Config).cells x0 sv0).map EV.v), 29)], none, none⟩ [] (by kernel_rfl) trivial (fun ns_11 a w_12 hI _ => ?_)
      obtain ⟨o_33, hL_34, H0⟩ := bind_some H0
      refine block_loop (fun (s1 : Int × Bool) a w_39 => ∃ ns, St w [] 111 ⟨[⟨5, [], .v (.int .i64 s1.1)⟩, ⟨4, [], .v (.bool s1.2)⟩, ⟨2, [], .p 0 0⟩, ⟨1, [], .v (.int .i64 a1)⟩], [], [], [((((kd_Config).cells x0 sv0).map EV.v), 29)], none, none⟩ ns a w_39) (0, false) hL_34 ⟨_, hI.pick [5, 4, 2, 1] 1 ⟨[⟨5, [], .v (.int .i64 0)⟩, ⟨4, [], .v (.bool false)⟩, ⟨2, [], .p 0 0⟩, ⟨1, [], .v (.int .i64 a1)⟩], [], [], [((((kd_Config).cells x0 sv0).map EV.v), 29)], none, none⟩ (by kernel_rfl)⟩ ?_ ?_
      · clear hI
        rintro s1 a w_13 ⟨ns_14, hI⟩ r1 H1
        unfold G_ref07_Holds.b1 at H1
        refine wpIn_seq ?_
        refine seq_region (live := [35, 5, 4, 2, 1]) (orc := []) hF hI ⟨[⟨35, [], .v (.bool (decide (s1.1 < (x0.Parts.length : Int))))⟩, ⟨5, [], .v (.int .i64 s1.1)⟩, ⟨4, [], .v (.bool s1.2)⟩, ⟨2, [], .p 0 0⟩, ⟨1, [], .v (.int .i64 a1)⟩], [], [], [((((kd_Config).cells x0 sv0).map EV.v), 29)], none, none⟩ [] (by kernel_rfl) trivial (fun ns_15 a w_16 hI _ => ?_)
        refine cond_ hI (decide (s1.1 < (x0.Parts.length : Int))) rfl (fun hc_17 => ?_) (fun hc_17 => ?_)
        · replace H1 := bif_t hc_17 H1
          refine wpIn_skip ?_
          refine then_normal ?_
          refine wpIn_seq ?_
          refine wpIn_block ?_
          obtain ⟨hN_18, H1⟩ := req_some H1
          obtain ⟨sv_19, hE_21, hA_20⟩ := Arr.elB (d := kd_Part) hx0.1.1 s1.1 true (fun _ => hN_18)
          replace hE_21 := hE_21 rfl
          replace hA_20 := fun (_ : true = true) => hA_20 rfl
          refine seq_region (live := [6, 5, 4, 2, 1]) (orc := [(kd_Part).cells (rd x0.Parts s1.1) sv_19]) hF hI ⟨[⟨6, [], .p 1 0⟩, ⟨5, [], .v (.int .i64 s1.1)⟩, ⟨4, [], .v (.bool s1.2)⟩, ⟨2, [], .p 0 0⟩, ⟨1, [], .v (.int .i64 a1)⟩], [], [], [((((kd_Config).cells x0 sv0).map EV.v), 29), ((((kd_Part).cells (rd x0.Parts s1.1) sv_19).map EV.v), 86)], none, none⟩ [.need true (0 ≤ s1.1 ∧ s1.1 < (x0.Parts.length : Int)), .need true ((sv0 0).1 = some (adr ((sv0 0).1))), .cell true ((adr ((sv0 0).1)).add ((s1.1 : Int).toNat * 2)) ((kd_Part).cells (rd x0.Parts s1.1) sv_19)] (by kernel_rfl) ⟨ob_inb (fun _ => hN_18), hA_20, ob_el (fun _ => hE_21) 0 ((kd_Part).cells (rd x0.Parts s1.1) sv_19) rfl, trivial⟩ (fun ns_22 a w_23 hI _ => ?_)
          obtain ⟨t_24, hG_25, H1⟩ := bind_some H1
          refine seq_region (live := [78, 5, 4, 2, 1]) (orc := [[.bool t_24]]) hF hI ⟨[⟨78, [], .v (.bool (((((a1 == 2) && (((rd x0.Parts s1.1).Core) != 0)) && (((rd x0.Parts s1.1).Core) != 1)) || ((a1 == 3) && (decide (((rd x0.Parts s1.1).Private) < 0) || decide (((rd x0.Parts s1.1).Private) > 64)))) || ((a1 == 17) && (!t_24))))⟩, ⟨5, [], .v (.int .i64 s1.1)⟩, ⟨4, [], .v (.bool s1.2)⟩, ⟨2, [], .p 0 0⟩, ⟨1, [], .v (.int .i64 a1)⟩], [], [], [((((kd_Config).cells x0 sv0).map EV.v), 29), ((((kd_Part).cells (rd x0.Parts s1.1) sv_19).map EV.v), 86)], none, none⟩ [.call (!((((a1 == 2) && (((rd x0.Parts s1.1).Core) != 0)) && (((rd x0.Parts s1.1).Core) != 1)) || ((a1 == 3) && (decide (((rd x0.Parts s1.1).Private) < 0) || decide (((rd x0.Parts s1.1).Private) > 64)))) && (a1 == 17)) 72 [.agg ((kd_Config).cells x0 sv0).toArray, .int .i64 s1.1] (.bool t_24)] (by kernel_rfl) ⟨ob_call (enters Try.func72 (by kernel_rfl) rfl) (fun hg wz hk => G_ref07_window.calls x0 s1.1 sv0 wz (S := fun _ => True) (Kd.any _ (Kd.keep kd_Config (contI (S := Lo S w w [] []) (w := w) (d := kd_Config) (x := x0) (sv := sv0) ⟨⟨hx0.1.1, hx0.1.2⟩, ⟨hx0.2.1.1, hx0.2.1.2⟩, ⟨hx0.2.2.1.1, hx0.2.2.1.2⟩, ⟨hx0.2.2.2.1.1, hx0.2.2.2.1.2⟩, trivial⟩) (Lo.on hk))) _ (cal_some hG_25 hg)), trivial⟩ (fun ns_26 a w_27 hI _ => ?_)
          refine cond_ hI ((((((a1 == 2) && (((rd x0.Parts s1.1).Core) != 0)) && (((rd x0.Parts s1.1).Core) != 1)) || ((a1 == 3) && (decide (((rd x0.Parts s1.1).Private) < 0) || decide (((rd x0.Parts s1.1).Private) > 64)))) || ((a1 == 17) && (!t_24)))) rfl (fun hc_28 => ?_) (fun hc_28 => ?_)
          · replace H1 := bif_t hc_28 H1
            refine seq_region (live := [4]) (orc := []) hF hI ⟨[⟨4, [], .v (.bool true)⟩], [], [], [((((kd_Config).cells x0 sv0).map EV.v), 29), ((((kd_Part).cells (rd x0.Parts s1.1) sv_19).map EV.v), 86)], none, none⟩ [] (by kernel_rfl) trivial (fun ns_29 a w_30 hI _ => ?_)
            refine wpIn_ret ?_
            refine inBlock_ret ?_
            refine then_ret ?_
            refine then_ret ?_
            obtain rfl := Option.some.inj H1
            refine .inr ⟨_, rfl, fun ho => ?_⟩
            subst ho
            refine inBlock_ret ?_
            refine inBlock_ret ?_
            refine then_ret ?_
            obtain rfl := Option.some.inj H0
            exact ret1 hI rfl rfl ⟨rfl, hE.below hI⟩
          · replace H1 := bif_f hc_28 H1
            refine wpIn_skip ?_
            refine inBlock_normal ?_
            refine then_normal ?_
            refine region_ (live := [5, 4, 2, 1]) (orc := []) hF hI ⟨[⟨5, [], .v (.int .i64 (IntKind.i64.wrap (s1.1 + 1)))⟩, ⟨4, [], .v (.bool s1.2)⟩, ⟨2, [], .p 0 0⟩, ⟨1, [], .v (.int .i64 a1)⟩], [], [], [((((kd_Config).cells x0 sv0).map EV.v), 29), ((((kd_Part).cells (rd x0.Parts s1.1) sv_19).map EV.v), 86)], none, none⟩ [] (by kernel_rfl) trivial (fun ns_31 a w_32 hI _ => ?_)
            refine then_normal ?_
            obtain rfl := Option.some.inj H1
            exact ⟨_, rfl, ⟨_, hI.pick [5, 4, 2, 1] 1 ⟨[⟨5, [], .v (.int .i64 (IntKind.i64.wrap (s1.1 + 1)))⟩, ⟨4, [], .v (.bool s1.2)⟩, ⟨2, [], .p 0 0⟩, ⟨1, [], .v (.int .i64 a1)⟩], [], [], [((((kd_Config).cells x0 sv0).map EV.v), 29)], none, none⟩ (by kernel_rfl)⟩⟩
        · replace H1 := bif_f hc_17 H1
          refine wpIn_exit ?_
          refine then_exit ?_
          refine then_exit ?_
          obtain rfl := Option.some.inj H1
          exact .inl ⟨_, rfl, rfl, ⟨_, hI.pick [5, 4, 2, 1] 1 ⟨[⟨5, [], .v (.int .i64 s1.1)⟩, ⟨4, [], .v (.bool s1.2)⟩, ⟨2, [], .p 0 0⟩, ⟨1, [], .v (.int .i64 a1)⟩], [], [], [((((kd_Config).cells x0 sv0).map EV.v), 29)], none, none⟩ (by kernel_rfl)⟩⟩
      · clear hI
        rintro s1 a w_35 ho ⟨ns_36, hI⟩
        subst ho
        replace H0 : (some false : Option (Bool)) = _ := H0
        refine inBlock_normal ?_
        refine then_normal ?_
        refine seq_region (live := [4]) (orc := []) hF hI ⟨[⟨4, [], .v (.bool false)⟩], [], [], [((((kd_Config).cells x0 sv0).map EV.v), 29)], none, none⟩ [] (by kernel_rfl) trivial (fun ns_37 a w_38 hI _ => ?_)
        refine wpIn_ret ?_
        obtain rfl := Option.some.inj H0
        exact ret1 hI rfl rfl ⟨rfl, hE.below hI⟩
    · replace H0 := bif_f hc_10 H0
      refine seq_region (live := [79, 4, 2, 1]) (orc := []) hF hI ⟨[⟨79, [], .v (.bool (a1 == 4))⟩, ⟨4, [], .v (.bool false)⟩, ⟨2, [], .p 0 0⟩, ⟨1, [], .v (.int .i64 a1)⟩], [], [], [((((kd_Config).cells x0 sv0).map EV.v), 29)], none, none⟩ [] (by kernel_rfl) trivial (fun ns_40 a w_41 hI _ => ?_)
      refine cond_ hI ((a1 == 4)) rfl (fun hc_42 => ?_) (fun hc_42 => ?_)
      · replace H0 := bif_t hc_42 H0
        refine seq_region (live := [4]) (orc := []) hF hI ⟨[⟨4, [], .v (.bool (decide ((x0.Chans.length : Int) > 8)))⟩], [], [], [((((kd_Config).cells x0 sv0).map EV.v), 29)], none, none⟩ [] (by kernel_rfl) trivial (fun ns_43 a w_44 hI _ => ?_)
        refine wpIn_ret ?_
        refine inBlock_ret ?_
        refine then_ret ?_
        obtain rfl := Option.some.inj H0
        exact ret1 hI rfl rfl ⟨rfl, hE.below hI⟩
      · replace H0 := bif_f hc_42 H0
        refine seq_region (live := [86, 4, 2, 1]) (orc := []) hF hI ⟨[⟨86, [], .v (.bool (decide (a1 ≥ 5) && decide (a1 ≤ 11)))⟩, ⟨4, [], .v (.bool false)⟩, ⟨2, [], .p 0 0⟩, ⟨1, [], .v (.int .i64 a1)⟩], [], [], [((((kd_Config).cells x0 sv0).map EV.v), 29)], none, none⟩ [] (by kernel_rfl) trivial (fun ns_45 a w_46 hI _ => ?_)
        refine cond_ hI ((decide (a1 ≥ 5) && decide (a1 ≤ 11))) rfl (fun hc_47 => ?_) (fun hc_47 => ?_)
        · replace H0 := bif_t hc_47 H0
          obtain ⟨t_48, hG_49, H0⟩ := bind_some H0
          refine seq_region (live := [4]) (orc := [[.bool t_48]]) hF hI ⟨[⟨4, [], .v (.bool t_48)⟩], [], [], [((((kd_Config).cells x0 sv0).map EV.v), 29)], none, none⟩ [.call true 73 [.agg ((kd_Config).cells x0 sv0).toArray, .int .i64 a1] (.bool t_48)] (by kernel_rfl) ⟨ob_call (enters Try.func73 (by kernel_rfl) rfl) (fun hg wz hk => G_ref07_chans.calls x0 a1 sv0 wz (S := fun _ => True) (Kd.any _ (Kd.keep kd_Config (contI (S := Lo S w w [] []) (w := w) (d := kd_Config) (x := x0) (sv := sv0) ⟨⟨hx0.1.1, hx0.1.2⟩, ⟨hx0.2.1.1, hx0.2.1.2⟩, ⟨hx0.2.2.1.1, hx0.2.2.1.2⟩, ⟨hx0.2.2.2.1.1, hx0.2.2.2.1.2⟩, trivial⟩) (Lo.on hk))) _ hG_49), trivial⟩ (fun ns_50 a w_51 hI _ => ?_)
          refine wpIn_ret ?_
          refine inBlock_ret ?_
          refine then_ret ?_
          obtain rfl := Option.some.inj H0
          exact ret1 hI rfl rfl ⟨rfl, hE.below hI⟩
        · replace H0 := bif_f hc_47 H0
          refine seq_region (live := [96, 4, 2, 1]) (orc := []) hF hI ⟨[⟨96, [], .v (.bool (decide (a1 ≥ 12) && decide (a1 ≤ 16)))⟩, ⟨4, [], .v (.bool false)⟩, ⟨2, [], .p 0 0⟩, ⟨1, [], .v (.int .i64 a1)⟩], [], [], [((((kd_Config).cells x0 sv0).map EV.v), 29)], none, none⟩ [] (by kernel_rfl) trivial (fun ns_52 a w_53 hI _ => ?_)
          refine cond_ hI ((decide (a1 ≥ 12) && decide (a1 ≤ 16))) rfl (fun hc_54 => ?_) (fun hc_54 => ?_)
          · replace H0 := bif_t hc_54 H0
            obtain ⟨t_55, hG_56, H0⟩ := bind_some H0
            obtain ⟨t_57, hG_58, H0⟩ := bind_some H0
            refine seq_region (live := [4]) (orc := [[.bool t_55], [.bool t_57]]) hF hI ⟨[⟨4, [], .v (.bool (t_55 || t_57))⟩], [], [], [((((kd_Config).cells x0 sv0).map EV.v), 29)], none, none⟩ [.call true 74 [.agg ((kd_Config).cells x0 sv0).toArray, .int .i64 0, .int .i64 a1] (.bool t_55), .call (!t_55) 74 [.agg ((kd_Config).cells x0 sv0).toArray, .int .i64 1, .int .i64 a1] (.bool t_57)] (by kernel_rfl) ⟨ob_call (enters Try.func74 (by kernel_rfl) rfl) (fun hg wz hk => G_ref07_windows.calls x0 0 a1 sv0 wz (S := fun _ => True) (Kd.any _ (Kd.keep kd_Config (contI (S := Lo S w w [] []) (w := w) (d := kd_Config) (x := x0) (sv := sv0) ⟨⟨hx0.1.1, hx0.1.2⟩, ⟨hx0.2.1.1, hx0.2.1.2⟩, ⟨hx0.2.2.1.1, hx0.2.2.1.2⟩, ⟨hx0.2.2.2.1.1, hx0.2.2.2.1.2⟩, trivial⟩) (Lo.on hk))) _ hG_56), ob_call (enters Try.func74 (by kernel_rfl) rfl) (fun hg wz hk => G_ref07_windows.calls x0 1 a1 sv0 wz (S := fun _ => True) (Kd.any _ (Kd.keep kd_Config (contI (S := Lo S w w [] []) (w := w) (d := kd_Config) (x := x0) (sv := sv0) ⟨⟨hx0.1.1, hx0.1.2⟩, ⟨hx0.2.1.1, hx0.2.1.2⟩, ⟨hx0.2.2.1.1, hx0.2.2.1.2⟩, ⟨hx0.2.2.2.1.1, hx0.2.2.2.1.2⟩, trivial⟩) (Lo.on hk))) _ (cal_some hG_58 hg)), trivial⟩ (fun ns_59 a w_60 hI _ => ?_)
            refine wpIn_ret ?_
            refine inBlock_ret ?_
            refine then_ret ?_
            obtain rfl := Option.some.inj H0
            exact ret1 hI rfl rfl ⟨rfl, hE.below hI⟩
          · replace H0 := bif_f hc_54 H0
            refine wpIn_skip ?_
            refine inBlock_normal ?_
            refine then_normal ?_
            refine seq_region (live := [4]) (orc := []) hF hI ⟨[⟨4, [], .v (.bool false)⟩], [], [], [((((kd_Config).cells x0 sv0).map EV.v), 29)], none, none⟩ [] (by kernel_rfl) trivial (fun ns_61 a w_62 hI _ => ?_)
            refine wpIn_ret ?_
            obtain rfl := Option.some.inj H0
            exact ret1 hI rfl rfl ⟨rfl, hE.below hI⟩

/-! ### porthole/portholeref07.All: function 39 -/
noncomputable def G_ref07_All.b1 (x0 : Config) (s1 : Int × (List Int)) : Option (Stp (Int × (List Int)) (Ex (Int × (List Int)) ((List Int)))) := (bif decide (s1.1 ≤ 17) then ((G_ref07_Holds x0 s1.1).bind fun t_16 => (bif t_16 then (req (decide ((s1.2.length + 1) * 8 ≤ 140737488355328)) (some (.next ((IntKind.i64.wrap (s1.1 + 1)), (s1.2 ++ [s1.1]))))) else some (.next ((IntKind.i64.wrap (s1.1 + 1)), s1.2)))) else some (.out (.brk (s1.1, s1.2))))
noncomputable def G_ref07_All (x0 : Config) : Option ((List Int)) := ((loopω (G_ref07_All.b1 x0) (1, ([] : List Int))).bind fun o => o.on (fun s1 => some s1.2) (fun r => some r))
set_option maxRecDepth 100000 in
set_option maxHeartbeats 4000000 in
theorem G_ref07_All.calls (x0 : Config) (sv0 : SV) (w : World) {S : Nat → Prop} (hx0 : (kd_Config).cont S w x0 sv0) (r : (List Int)) (h : G_ref07_All x0 = some r) :
    Calls Try.prog 39 #[.agg ((kd_Config).cells x0 sv0).toArray] w fun e w' => ∃ sv : SV, e = .returned (.slice ((sv 0).1) r.length ((sv 0).2)) ∧ Below w.heap.size w w' ∧ (Arr (Kd.int .i64) (fun b => w.heap.size ≤ b ∨ S b) w' (sv 0).1 r ∧ r.length ≤ (sv 0).2) := by
  replace hx0 := Kd.lo _ hx0
  unfold G_ref07_All at h
  have H0 := h
  clear h
  refine enter Try.func39 rfl [.agg ((kd_Config).cells x0 sv0).toArray] (n := 17) rfl (Nat.le_of_ble_eq_true rfl) (fun a hI => ?_)
  have hF : FOpen Fence.wide := .inl rfl
  have hE := Ep.start w
  refine seq_region (live := [2, 1]) (orc := []) hF hI ⟨[⟨2, [], .v (.slice none 0 0)⟩, ⟨1, [], .p 0 0⟩], [], [], [((((kd_Config).cells x0 sv0).map EV.v), 29)], none, none⟩ [] (by kernel_rfl) trivial (fun ns_1 a w_2 hI _ => ?_)
  refine seq_region (live := [3, 2, 1]) (orc := []) hF hI ⟨[⟨3, [], .v (.slice none 0 0)⟩, ⟨2, [], .v (.slice none 0 0)⟩, ⟨1, [], .p 0 0⟩], [], [], [((((kd_Config).cells x0 sv0).map EV.v), 29)], none, none⟩ [] (by kernel_rfl) trivial (fun ns_3 a w_4 hI _ => ?_)
  refine wpIn_seq ?_
  refine seq_region (live := [4, 3, 2, 1]) (orc := []) hF hI ⟨[⟨4, [], .v (.int .i64 1)⟩, ⟨3, [], .v (.slice none 0 0)⟩, ⟨2, [], .v (.slice none 0 0)⟩, ⟨1, [], .p 0 0⟩], [], [], [((((kd_Config).cells x0 sv0).map EV.v), 29)], none, none⟩ [] (by kernel_rfl) trivial (fun ns_5 a w_6 hI _ => ?_)
  obtain ⟨hE', hmv, hmr⟩ := Ep.rebase (S0 := S) hE hI
  replace hx0 := Kd.keep _ hx0 hmv
  replace hE := hE'
  replace hI := hI.rebase
  clear hE' hmv hmr
  obtain ⟨hE', hmv⟩ := Ep.addNil (S0 := S) hE
  have hmr : ∀ b : Nat, some b ∈ ([] : List (Option Nat)) → w_6.heap[b]? = w_6.heap[b]? := fun _ _ => rfl
  replace hx0 := Kd.keep _ hx0 hmv
  replace hE := hE'
  clear hE' hmv hmr
  have hq_7 : Row (Kd.int .i64) 3 (Lo S w w_6 ns_5 [rb none]) w_6 w.heap.size none 0 ([] : List Int) := Row.nil
  obtain ⟨o_37, hL_38, H0⟩ := bind_some H0
  refine block_loop (fun (s1 : Int × (List Int)) a w_45 => ∃ (ow ns : List Nat) (A_8 : Option Addr) (c_9 : Nat), ((kd_Config).cont (Lo S w w_45 ow [rb A_8]) w_45 x0 sv0) ∧ (Row (Kd.int .i64) 3 (Lo S w w_45 ow [rb A_8]) w_45 w.heap.size A_8 c_9 s1.2) ∧ Ep w w_45 ow [rb A_8] ∧ St w_45 ow 17 ⟨[⟨4, [], .v (.int .i64 s1.1)⟩, ⟨3, [], .v (.slice A_8 s1.2.length c_9)⟩, ⟨2, [], .v (.slice none 0 0)⟩, ⟨1, [], .p 0 0⟩], [], [], [((((kd_Config).cells x0 sv0).map EV.v), 29)], none, none⟩ ns a w_45) (1, ([] : List Int)) hL_38 ⟨_, _, _, _, hx0, hq_7, hE, hI.pick [4, 3, 2, 1] 1 ⟨[⟨4, [], .v (.int .i64 1)⟩, ⟨3, [], .v (.slice none ([] : List Int).length 0)⟩, ⟨2, [], .v (.slice none 0 0)⟩, ⟨1, [], .p 0 0⟩], [], [], [((((kd_Config).cells x0 sv0).map EV.v), 29)], none, none⟩ (by kernel_rfl)⟩ ?_ ?_
  · clear hI hE
    rintro s1 a w_10 ⟨ow_12, ns_11, A_8, c_9, hx0, hq_7, hE, hI⟩ r1 H1
    unfold G_ref07_All.b1 at H1
    refine wpIn_seq ?_
    refine seq_region (live := [6, 4, 3, 2, 1]) (orc := []) hF hI ⟨[⟨6, [], .v (.bool (decide (s1.1 ≤ 17)))⟩, ⟨4, [], .v (.int .i64 s1.1)⟩, ⟨3, [], .v (.slice A_8 s1.2.length c_9)⟩, ⟨2, [], .v (.slice none 0 0)⟩, ⟨1, [], .p 0 0⟩], [], [], [((((kd_Config).cells x0 sv0).map EV.v), 29)], none, none⟩ [] (by kernel_rfl) trivial (fun ns_13 a w_14 hI _ => ?_)
    refine cond_ hI (decide (s1.1 ≤ 17)) rfl (fun hc_15 => ?_) (fun hc_15 => ?_)
    · replace H1 := bif_t hc_15 H1
      refine wpIn_skip ?_
      refine then_normal ?_
      refine wpIn_seq ?_
      refine wpIn_block ?_
      obtain ⟨t_16, hG_17, H1⟩ := bind_some H1
      refine seq_region (live := [11, 4, 3, 2, 1]) (orc := [[.bool t_16]]) hF hI ⟨[⟨11, [], .v (.bool t_16)⟩, ⟨4, [], .v (.int .i64 s1.1)⟩, ⟨3, [], .v (.slice A_8 s1.2.length c_9)⟩, ⟨2, [], .v (.slice none 0 0)⟩, ⟨1, [], .p 0 0⟩], [], [], [((((kd_Config).cells x0 sv0).map EV.v), 29)], none, none⟩ [.call true 55 [.agg ((kd_Config).cells x0 sv0).toArray, .int .i64 s1.1] (.bool t_16)] (by kernel_rfl) ⟨ob_call (enters Try.func55 (by kernel_rfl) rfl) (fun hg wz hk => G_ref07_Holds.calls x0 s1.1 sv0 wz (S := fun _ => True) (Kd.any _ (Kd.keep kd_Config (contI (S := Lo S w w_10 ow_12 [rb A_8]) (w := w_10) (d := kd_Config) (x := x0) (sv := sv0) ⟨⟨hx0.1.1, hx0.1.2⟩, ⟨hx0.2.1.1, hx0.2.1.2⟩, ⟨hx0.2.2.1.1, hx0.2.2.1.2⟩, ⟨hx0.2.2.2.1.1, hx0.2.2.2.1.2⟩, trivial⟩) (Lo.on hk))) _ hG_17), trivial⟩ (fun ns_18 a w_19 hI _ => ?_)
      refine cond_ hI (t_16) rfl (fun hc_20 => ?_) (fun hc_20 => ?_)
      · replace H1 := bif_t hc_20 H1
        refine wpIn_region_lit ?_
        refine chunkL_ (live := [13, 12, 4, 3, 2, 1]) (orc := []) hF 2 hI ⟨[⟨13, [], .v (.int .i64 s1.1)⟩, ⟨12, [], .v (.slice A_8 s1.2.length c_9)⟩, ⟨4, [], .v (.int .i64 s1.1)⟩, ⟨3, [], .v (.slice A_8 s1.2.length c_9)⟩, ⟨2, [], .v (.slice none 0 0)⟩, ⟨1, [], .p 0 0⟩], [], [], [((((kd_Config).cells x0 sv0).map EV.v), 29)], none, none⟩ [] rfl (by kernel_rfl) trivial (fun ns_21 a w_22 hI => ?_)
        obtain ⟨hE', hmv, hmr⟩ := Ep.rebase (S0 := S) hE hI
        replace hx0 := Kd.keep _ hx0 hmv
        replace hq_7 := Row.keep hq_7 hmv (fun b hb => hmr b (by rw [← hb]; first | (simp; done) | simp [rb]))
        replace hE := hE'
        replace hI := hI.rebase
        clear hE' hmv hmr
        refine buildSlice_ (S0 := S) (d := (Kd.int .i64)) (e := 3) hF hE hI (wanted_none rfl) rfl (by kernel_rfl) (cs := [.int .i64 s1.1]) (by kernel_rfl) [s1.1] [(svL [])] rfl rfl (by simp [maxLen]) (fun i x hi => by cases i with | zero => (simp only [List.getElem?_cons_zero, Option.some.injEq] at hi; subst hi; exact ⟨trivial, rfl⟩) | succ i => (simp only [List.getElem?_cons_succ] at hi; simp at hi)) (fun A_23 => ⟨[⟨14, [], .v (.slice A_23 ([s1.1] : List Int).length (([s1.1] : List Int).length))⟩, ⟨13, [], .v (.int .i64 s1.1)⟩, ⟨12, [], .v (.slice A_8 s1.2.length c_9)⟩, ⟨4, [], .v (.int .i64 s1.1)⟩, ⟨3, [], .v (.slice A_8 s1.2.length c_9)⟩, ⟨2, [], .v (.slice none 0 0)⟩, ⟨1, [], .p 0 0⟩], [], [], [((((kd_Config).cells x0 sv0).map EV.v), 29)], none, none⟩) (fun A_23 => by kernel_rfl) (fun A_23 a w_25 hput hE' hI' hmv hmr hq_24 => ?_)
        replace hx0 := Kd.keep _ hx0 hmv
        replace hq_7 := Row.keep hq_7 hmv (fun b hb => hmr b (by rw [← hb]; first | (simp; done) | simp [rb]) (by simp))
        replace hE := hE'
        replace hI := hI'
        clear hE' hI' hmv hmr
        obtain ⟨hE', hmv, hq_24, hcap_26⟩ := Row.still (l1 := [rb A_8]) (l2 := []) hq_24 hE
        have hmr : ∀ b : Nat, some b ∈ ([rb A_8, rb A_23] : List (Option Nat)) → w_25.heap[b]? = w_25.heap[b]? := fun _ _ => rfl
        replace hx0 := Kd.keep _ hx0 hmv
        replace hq_7 := Row.keep hq_7 hmv (fun b hb => hmr b (by rw [← hb]; first | (simp; done) | simp [rb]))
        replace hE := hE'
        clear hE' hmv hmr
        obtain ⟨hN_27, H1⟩ := req_some H1
        replace hN_27 := of_decide_eq_true hN_27
        refine append_ (S0 := S) (l1 := []) (l2 := []) (d := (Kd.int .i64)) (e := 3) hF hE hI (wanted_none rfl) rfl (A := A_8) (c := c_9) (l := s1.2) rfl (A2 := A_23) (c2 := (([s1.1] : List Int).length)) rfl hq_7 hq_24 (fun sv u hu => by exact kd_one_int _ sv u hu) Try.underlying39 (zi := (.int .i64 0, 1, 8)) (by kernel_rfl) rfl (by kernel_rfl) (len_max (by decide) hN_27) hN_27 (fun A_28 c_29 => ⟨[⟨15, [], .v (.slice A_28 (s1.2 ++ [s1.1]).length c_29)⟩, ⟨14, [], .v (.slice A_23 ([s1.1] : List Int).length (([s1.1] : List Int).length))⟩, ⟨13, [], .v (.int .i64 s1.1)⟩, ⟨12, [], .v (.slice A_8 s1.2.length c_9)⟩, ⟨4, [], .v (.int .i64 s1.1)⟩, ⟨3, [], .v (.slice A_8 s1.2.length c_9)⟩, ⟨2, [], .v (.slice none 0 0)⟩, ⟨1, [], .p 0 0⟩], [], [], [((((kd_Config).cells x0 sv0).map EV.v), 29)], none, none⟩) (fun A_28 c_29 => by kernel_rfl) (fun A_28 c_29 a w_30 hput hE' hI' hmv hmr hq_7 => ?_)
        replace hx0 := Kd.keep _ hx0 hmv
        replace hq_24 := Arr.keep hq_24 hmv
        replace hE := hE'
        replace hI := hI'
        clear hE' hI' hmv hmr
        refine chunkL_ (live := [3, 4, 2, 1]) (orc := []) hF 1 hI ⟨[⟨3, [], .v (.slice A_28 (s1.2 ++ [s1.1]).length c_29)⟩, ⟨4, [], .v (.int .i64 s1.1)⟩, ⟨2, [], .v (.slice none 0 0)⟩, ⟨1, [], .p 0 0⟩], [], [], [((((kd_Config).cells x0 sv0).map EV.v), 29)], none, none⟩ [] rfl (by kernel_rfl) trivial (fun ns_31 a w_32 hI => ?_)
        refine wpListIn_nil ?_
        refine inBlock_normal ?_
        refine then_normal ?_
        refine region_ (live := [4, 3, 2, 1]) (orc := []) hF hI ⟨[⟨4, [], .v (.int .i64 (IntKind.i64.wrap (s1.1 + 1)))⟩, ⟨3, [], .v (.slice A_28 (s1.2 ++ [s1.1]).length c_29)⟩, ⟨2, [], .v (.slice none 0 0)⟩, ⟨1, [], .p 0 0⟩], [], [], [((((kd_Config).cells x0 sv0).map EV.v), 29)], none, none⟩ [] (by kernel_rfl) trivial (fun ns_33 a w_34 hI _ => ?_)
        refine then_normal ?_
        obtain ⟨hE', hmv, hmr⟩ := Ep.rebase (S0 := S) hE hI
        replace hx0 := Kd.keep _ hx0 hmv
        replace hq_24 := Arr.keep hq_24 hmv
        replace hq_7 := Row.keep hq_7 hmv (fun b hb => hmr b (by rw [← hb]; first | (simp; done) | simp [rb]))
        replace hE := hE'
        replace hI := hI.rebase
        clear hE' hmv hmr
        obtain rfl := Option.some.inj H1
        exact ⟨_, rfl, ⟨_, _, _, _, hx0, hq_7, hE, hI.pick [4, 3, 2, 1] 1 ⟨[⟨4, [], .v (.int .i64 (IntKind.i64.wrap (s1.1 + 1)))⟩, ⟨3, [], .v (.slice A_28 (s1.2 ++ [s1.1]).length c_29)⟩, ⟨2, [], .v (.slice none 0 0)⟩, ⟨1, [], .p 0 0⟩], [], [], [((((kd_Config).cells x0 sv0).map EV.v), 29)], none, none⟩ (by kernel_rfl)⟩⟩
      · replace H1 := bif_f hc_20 H1
        refine wpIn_skip ?_
        refine inBlock_normal ?_
        refine then_normal ?_
        refine region_ (live := [4, 3, 2, 1]) (orc := []) hF hI ⟨[⟨4, [], .v (.int .i64 (IntKind.i64.wrap (s1.1 + 1)))⟩, ⟨3, [], .v (.slice A_8 s1.2.length c_9)⟩, ⟨2, [], .v (.slice none 0 0)⟩, ⟨1, [], .p 0 0⟩], [], [], [((((kd_Config).cells x0 sv0).map EV.v), 29)], none, none⟩ [] (by kernel_rfl) trivial (fun ns_35 a w_36 hI _ => ?_)
        refine then_normal ?_
        obtain ⟨hE', hmv, hmr⟩ := Ep.rebase (S0 := S) hE hI
        replace hx0 := Kd.keep _ hx0 hmv
        replace hq_7 := Row.keep hq_7 hmv (fun b hb => hmr b (by rw [← hb]; first | (simp; done) | simp [rb]))
        replace hE := hE'
        replace hI := hI.rebase
        clear hE' hmv hmr
        obtain rfl := Option.some.inj H1
        exact ⟨_, rfl, ⟨_, _, _, _, hx0, hq_7, hE, hI.pick [4, 3, 2, 1] 1 ⟨[⟨4, [], .v (.int .i64 (IntKind.i64.wrap (s1.1 + 1)))⟩, ⟨3, [], .v (.slice A_8 s1.2.length c_9)⟩, ⟨2, [], .v (.slice none 0 0)⟩, ⟨1, [], .p 0 0⟩], [], [], [((((kd_Config).cells x0 sv0).map EV.v), 29)], none, none⟩ (by kernel_rfl)⟩⟩
    · replace H1 := bif_f hc_15 H1
      refine wpIn_exit ?_
      refine then_exit ?_
      refine then_exit ?_
      obtain ⟨hE', hmv, hmr⟩ := Ep.rebase (S0 := S) hE hI
      replace hx0 := Kd.keep _ hx0 hmv
      replace hq_7 := Row.keep hq_7 hmv (fun b hb => hmr b (by rw [← hb]; first | (simp; done) | simp [rb]))
      replace hE := hE'
      replace hI := hI.rebase
      clear hE' hmv hmr
      obtain rfl := Option.some.inj H1
      exact .inl ⟨_, rfl, rfl, ⟨_, _, _, _, hx0, hq_7, hE, hI.pick [4, 3, 2, 1] 1 ⟨[⟨4, [], .v (.int .i64 s1.1)⟩, ⟨3, [], .v (.slice A_8 s1.2.length c_9)⟩, ⟨2, [], .v (.slice none 0 0)⟩, ⟨1, [], .p 0 0⟩], [], [], [((((kd_Config).cells x0 sv0).map EV.v), 29)], none, none⟩ (by kernel_rfl)⟩⟩
  · clear hI hE
    rintro s1 a w_39 ho ⟨ow_41, ns_40, A_8, c_9, hx0, hq_7, hE, hI⟩
    subst ho
    replace H0 : (some s1.2 : Option ((List Int))) = _ := H0
    refine then_normal ?_
    refine seq_region (live := [2]) (orc := []) hF hI ⟨[⟨2, [], .v (.slice A_8 s1.2.length c_9)⟩], [], [], [((((kd_Config).cells x0 sv0).map EV.v), 29)], none, none⟩ [] (by kernel_rfl) trivial (fun ns_42 a w_43 hI _ => ?_)
    obtain ⟨hE', hmv, hmr⟩ := Ep.rebase (S0 := S) hE hI
    replace hx0 := Kd.keep _ hx0 hmv
    replace hq_7 := Row.keep hq_7 hmv (fun b hb => hmr b (by rw [← hb]; first | (simp; done) | simp [rb]))
    replace hE := hE'
    replace hI := hI.rebase
    clear hE' hmv hmr
    obtain ⟨hE', hmv, hq_7, hcap_44⟩ := Row.still (l1 := []) (l2 := []) hq_7 hE
    have hmr : ∀ b : Nat, some b ∈ ([rb A_8] : List (Option Nat)) → w_43.heap[b]? = w_43.heap[b]? := fun _ _ => rfl
    replace hx0 := Kd.keep _ hx0 hmv
    replace hE := hE'
    clear hE' hmv hmr
    refine wpIn_ret ?_
    obtain rfl := Option.some.inj H0
    exact ret1 hI rfl rfl ⟨svL [(A_8, c_9)], rfl, hE.below hI, ⟨Arr.keep hq_7 (hE.out hI), hcap_44⟩⟩

/-! ### porthole/portholeref07.Accepts: function 14 -/
noncomputable def G_ref07_Accepts (x0 : Config) : Option (Bool) := ((G_ref07_All x0).bind fun t_5 => some ((t_5.length : Int) == 0))
set_option maxRecDepth 100000 in
set_option maxHeartbeats 4000000 in
theorem G_ref07_Accepts.calls (x0 : Config) (sv0 : SV) (w : World) {S : Nat → Prop} (hx0 : (kd_Config).cont S w x0 sv0) (r : Bool) (h : G_ref07_Accepts x0 = some r) :
    Calls Try.prog 14 #[.agg ((kd_Config).cells x0 sv0).toArray] w fun e w' => e = .returned (.bool r) ∧ Below w.heap.size w w' := by
  replace hx0 := Kd.lo _ hx0
  unfold G_ref07_Accepts at h
  have H0 := h
  clear h
  refine enter Try.func14 rfl [.agg ((kd_Config).cells x0 sv0).toArray] (n := 7) rfl (Nat.le_of_ble_eq_true rfl) (fun a hI => ?_)
  have hF : FOpen Fence.wide := .inl rfl
  have hE := Ep.start w
  refine seq_region (live := [2, 1]) (orc := []) hF hI ⟨[⟨2, [], .v (.bool false)⟩, ⟨1, [], .p 0 0⟩], [], [], [((((kd_Config).cells x0 sv0).map EV.v), 29)], none, none⟩ [] (by kernel_rfl) trivial (fun ns_1 a w_2 hI _ => ?_)
  refine wpIn_seq ?_
  refine wpIn_region_lit ?_
  refine chunkL_ (live := [3, 2]) (orc := []) hF 1 hI ⟨[⟨3, [], .v (.agg ((kd_Config).cells x0 sv0).toArray)⟩, ⟨2, [], .v (.bool false)⟩], [], [], [((((kd_Config).cells x0 sv0).map EV.v), 29)], none, none⟩ [] rfl (by kernel_rfl) trivial (fun ns_3 a w_4 hI => ?_)
  obtain ⟨hE', hmv, hmr⟩ := Ep.rebase (S0 := S) hE hI
  replace hx0 := Kd.keep _ hx0 hmv
  replace hE := hE'
  replace hI := hI.rebase
  clear hE' hmv hmr
  obtain ⟨t_5, hG_6, H0⟩ := bind_some H0
  refine callH_ (S0 := S) hF hE hI (wanted_none rfl) rfl (args := [.agg ((kd_Config).cells x0 sv0).toArray]) rfl (enters Try.func39 (by kernel_rfl) rfl) (fun sv_7 => .slice ((sv_7 0).1) t_5.length ((sv_7 0).2)) _ (G_ref07_All.calls x0 sv0 w_4 (S := Lo S w w_4 ns_3 []) (contI (S := Lo S w w_4 ns_3 []) (w := w_4) (d := kd_Config) (x := x0) (sv := sv0) ⟨⟨hx0.1.1, hx0.1.2⟩, ⟨hx0.2.1.1, hx0.2.1.2⟩, ⟨hx0.2.2.1.1, hx0.2.2.1.2⟩, ⟨hx0.2.2.2.1.1, hx0.2.2.2.1.2⟩, trivial⟩) _ hG_6) (fun sv_7 => ⟨[⟨4, [], .v (.slice ((sv_7 0).1) t_5.length ((sv_7 0).2))⟩, ⟨3, [], .v (.agg ((kd_Config).cells x0 sv0).toArray)⟩, ⟨2, [], .v (.bool false)⟩], [], [], [((((kd_Config).cells x0 sv0).map EV.v), 29)], none, none⟩) (fun sv_7 => by kernel_rfl) (fun sv_7 a w_9 hput hE' hI' hmv hmr hres hR => ?_)
  replace hx0 := Kd.keep _ hx0 hmv
  replace hE := hE'
  replace hI := hI'
  clear hE' hI' hmv hmr
  obtain ⟨hR_8, hR_8c⟩ := hR
  replace hR_8 := Arr.keep hR_8 hres
  clear hres
  refine chunkL_ (live := [2]) (orc := []) hF 3 hI ⟨[⟨2, [], .v (.bool ((t_5.length : Int) == 0))⟩], [], [], [((((kd_Config).cells x0 sv0).map EV.v), 29)], none, none⟩ [] rfl (by kernel_rfl) trivial (fun ns_10 a w_11 hI => ?_)
  refine wpListIn_nil ?_
  refine then_normal ?_
  refine wpIn_ret ?_
  obtain rfl := Option.some.inj H0
  exact ret1 hI rfl rfl ⟨rfl, hE.below hI⟩

/-! ### porthole/defect.within: function 93 -/
noncomputable def G_defect_within (a0 : Int) (a1 : Int) (a2 : Int) : Option (Bool) := some (decide (a0 ≥ a1) && decide (a0 ≤ a2))
set_option maxRecDepth 100000 in
set_option maxHeartbeats 4000000 in
theorem G_defect_within.calls (a0 : Int) (a1 : Int) (a2 : Int)  (w : World) {S : Nat → Prop}  (r : Bool) (h : G_defect_within a0 a1 a2 = some r) :
    Calls Try.prog 93 #[.int .i64 a0, .int .i64 a1, .int .i64 a2] w fun e w' => e = .returned (.bool r) ∧ Below w.heap.size w w' := by
  unfold G_defect_within at h
  have H0 := h
  clear h
  refine enter Try.func93 rfl [.int .i64 a0, .int .i64 a1, .int .i64 a2] (n := 15) rfl (Nat.le_of_ble_eq_true rfl) (fun a hI => ?_)
  have hF : FOpen Fence.wide := .inl rfl
  have hE := Ep.start w
  refine seq_region (live := [6, 0, 1, 2]) (orc := []) hF hI ⟨[⟨6, [], .v (.bool false)⟩, ⟨0, [], .v (.int .i64 a0)⟩, ⟨1, [], .v (.int .i64 a1)⟩, ⟨2, [], .v (.int .i64 a2)⟩], [], [], [], none, none⟩ [] (by kernel_rfl) trivial (fun ns_1 a w_2 hI _ => ?_)
  refine seq_region (live := [6]) (orc := []) hF hI ⟨[⟨6, [], .v (.bool (decide (a0 ≥ a1) && decide (a0 ≤ a2)))⟩], [], [], [], none, none⟩ [] (by kernel_rfl) trivial (fun ns_3 a w_4 hI _ => ?_)
  refine wpIn_ret ?_
  obtain rfl := Option.some.inj H0
  exact ret1 hI rfl rfl ⟨rfl, hE.below hI⟩

/-! ### porthole/defect.rules$1: function 92 -/
noncomputable def G_defect_rules_1 (x0 : Config) : Option (Bool) := ((G_defect_within (x0.Parts.length : Int) 1 6).bind fun t_3 => some (!t_3))
set_option maxRecDepth 100000 in
set_option maxHeartbeats 4000000 in
theorem G_defect_rules_1.calls (x0 : Config) (sv0 : SV) (w : World) {S : Nat → Prop} (hx0 : (kd_Config).cont S w x0 sv0) (r : Bool) (h : G_defect_rules_1 x0 = some r) :
    Calls Try.prog 92 #[.agg ((kd_Config).cells x0 sv0).toArray] w fun e w' => e = .returned (.bool r) ∧ Below w.heap.size w w' := by
  replace hx0 := Kd.lo _ hx0
  unfold G_defect_rules_1 at h
  have H0 := h
  clear h
  refine enter Try.func92 rfl [.agg ((kd_Config).cells x0 sv0).toArray] (n := 8) rfl (Nat.le_of_ble_eq_true rfl) (fun a hI => ?_)
  have hF : FOpen Fence.wide := .inl rfl
  have hE := Ep.start w
  refine seq_region (live := [2, 1]) (orc := []) hF hI ⟨[⟨2, [], .v (.bool false)⟩, ⟨1, [], .p 0 0⟩], [], [], [((((kd_Config).cells x0 sv0).map EV.v), 29)], none, none⟩ [] (by kernel_rfl) trivial (fun ns_1 a w_2 hI _ => ?_)
  obtain ⟨t_3, hG_4, H0⟩ := bind_some H0
  refine seq_region (live := [2]) (orc := [[.bool t_3]]) hF hI ⟨[⟨2, [], .v (.bool (!t_3))⟩], [], [], [((((kd_Config).cells x0 sv0).map EV.v), 29)], none, none⟩ [.call true 93 [.int .i64 (x0.Parts.length : Int), .int .i64 1, .int .i64 6] (.bool t_3)] (by kernel_rfl) ⟨ob_call (enters Try.func93 (by kernel_rfl) rfl) (fun hg wz hk => G_defect_within.calls (x0.Parts.length : Int) 1 6  wz (S := fun _ => True)  _ hG_4), trivial⟩ (fun ns_5 a w_6 hI _ => ?_)
  refine wpIn_ret ?_
  obtain rfl := Option.some.inj H0
  exact ret1 hI rfl rfl ⟨rfl, hE.below hI⟩

/-! ### porthole/defect.rules$2: function 95 -/
noncomputable def G_defect_rules_2 (x0 : Part) : Option (Bool) := ((G_defect_within x0.Core 0 1).bind fun t_3 => some (!t_3))
set_option maxRecDepth 100000 in
set_option maxHeartbeats 4000000 in
theorem G_defect_rules_2.calls (x0 : Part) (sv0 : SV) (w : World) {S : Nat → Prop} (hx0 : (kd_Part).cont S w x0 sv0) (r : Bool) (h : G_defect_rules_2 x0 = some r) :
    Calls Try.prog 95 #[.agg ((kd_Part).cells x0 sv0).toArray] w fun e w' => e = .returned (.bool r) ∧ Below w.heap.size w w' := by
  replace hx0 := Kd.lo _ hx0
  unfold G_defect_rules_2 at h
  have H0 := h
  clear h
  refine enter Try.func95 rfl [.agg ((kd_Part).cells x0 sv0).toArray] (n := 7) rfl (Nat.le_of_ble_eq_true rfl) (fun a hI => ?_)
  have hF : FOpen Fence.wide := .inl rfl
  have hE := Ep.start w
  refine seq_region (live := [2, 1]) (orc := []) hF hI ⟨[⟨2, [], .v (.bool false)⟩, ⟨1, [], .p 0 0⟩], [], [], [((((kd_Part).cells x0 sv0).map EV.v), 86)], none, none⟩ [] (by kernel_rfl) trivial (fun ns_1 a w_2 hI _ => ?_)
  obtain ⟨t_3, hG_4, H0⟩ := bind_some H0
  refine seq_region (live := [2]) (orc := [[.bool t_3]]) hF hI ⟨[⟨2, [], .v (.bool (!t_3))⟩], [], [], [((((kd_Part).cells x0 sv0).map EV.v), 86)], none, none⟩ [.call true 93 [.int .i64 x0.Core, .int .i64 0, .int .i64 1] (.bool t_3)] (by kernel_rfl) ⟨ob_call (enters Try.func93 (by kernel_rfl) rfl) (fun hg wz hk => G_defect_within.calls x0.Core 0 1  wz (S := fun _ => True)  _ hG_4), trivial⟩ (fun ns_5 a w_6 hI _ => ?_)
  refine wpIn_ret ?_
  obtain rfl := Option.some.inj H0
  exact ret1 hI rfl rfl ⟨rfl, hE.below hI⟩

/-! ### porthole/defect.rules$3: function 96 -/
noncomputable def G_defect_rules_3 (x0 : Part) : Option (Bool) := ((G_defect_within x0.Private 0 64).bind fun t_3 => some (!t_3))
set_option maxRecDepth 100000 in
set_option maxHeartbeats 4000000 in
theorem G_defect_rules_3.calls (x0 : Part) (sv0 : SV) (w : World) {S : Nat → Prop} (hx0 : (kd_Part).cont S w x0 sv0) (r : Bool) (h : G_defect_rules_3 x0 = some r) :
    Calls Try.prog 96 #[.agg ((kd_Part).cells x0 sv0).toArray] w fun e w' => e = .returned (.bool r) ∧ Below w.heap.size w w' := by
  replace hx0 := Kd.lo _ hx0
  unfold G_defect_rules_3 at h
  have H0 := h
  clear h
  refine enter Try.func96 rfl [.agg ((kd_Part).cells x0 sv0).toArray] (n := 7) rfl (Nat.le_of_ble_eq_true rfl) (fun a hI => ?_)
  have hF : FOpen Fence.wide := .inl rfl
  have hE := Ep.start w
  refine seq_region (live := [2, 1]) (orc := []) hF hI ⟨[⟨2, [], .v (.bool false)⟩, ⟨1, [], .p 0 0⟩], [], [], [((((kd_Part).cells x0 sv0).map EV.v), 86)], none, none⟩ [] (by kernel_rfl) trivial (fun ns_1 a w_2 hI _ => ?_)
  obtain ⟨t_3, hG_4, H0⟩ := bind_some H0
  refine seq_region (live := [2]) (orc := [[.bool t_3]]) hF hI ⟨[⟨2, [], .v (.bool (!t_3))⟩], [], [], [((((kd_Part).cells x0 sv0).map EV.v), 86)], none, none⟩ [.call true 93 [.int .i64 x0.Private, .int .i64 0, .int .i64 64] (.bool t_3)] (by kernel_rfl) ⟨ob_call (enters Try.func93 (by kernel_rfl) rfl) (fun hg wz hk => G_defect_within.calls x0.Private 0 64  wz (S := fun _ => True)  _ hG_4), trivial⟩ (fun ns_5 a w_6 hI _ => ?_)
  refine wpIn_ret ?_
  obtain rfl := Option.some.inj H0
  exact ret1 hI rfl rfl ⟨rfl, hE.below hI⟩

/-! ### calls through a function of type 127 -/
noncomputable def Fn127.run (f : Fn127) (x0 : Part) : Option (Bool) := match f with
  | .f95 => G_defect_rules_2 x0
  | .f96 => G_defect_rules_3 x0
theorem Fn127.ent (f : Fn127) (args : Array Value) (w : World) : (callFunc (fid127 f) args).run Try.prog w = .ok (.enter (fid127 f) args) w := by
  cases f with
  | f95 => exact enters Try.func95 (by kernel_rfl) rfl args w
  | f96 => exact enters Try.func96 (by kernel_rfl) rfl args w
theorem Fn127.calls (f : Fn127) (x0 : Part) (svf : SV) (sv0 : SV) (w : World) {S : Nat → Prop} (hf : (kdF127).cont S w f svf) (hx0 : (kd_Part).cont S w x0 sv0) (r : Bool) (h : Fn127.run f x0 = some r) :
    Calls Try.prog (fid127 f) (([.agg ((kd_Part).cells x0 sv0).toArray] : List Value) ++ (fca127 f svf).toList).toArray w fun e w' => e = .returned (.bool r) ∧ Below w.heap.size w w' := by
  cases f with
  | f95 => exact G_defect_rules_2.calls x0  sv0  w hx0  r h
  | f96 => exact G_defect_rules_3.calls x0  sv0  w hx0  r h

/-! ### slices.IndexFunc[[]porthole/api.Part,porthole/api.Part]: function 129 -/
noncomputable def G_api_Part_129.b1 (l0 : (List Part)) (x1 : Fn127) (s1 : Int × Int) : Option (Stp (Int × Int) (Ex (Int × Int) (Int))) := (bif decide (s1.1 < (l0.length : Int)) then (req (inb s1.1 l0.length) ((Fn127.run x1 (rd l0 s1.1)).bind fun t_16 => (bif t_16 then some (.out (.ret s1.1)) else some (.next ((IntKind.i64.wrap (s1.1 + 1)), s1.2))))) else some (.out (.brk (s1.1, s1.2))))
noncomputable def G_api_Part_129 (l0 : (List Part)) (x1 : Fn127) : Option (Int) := ((loopω (G_api_Part_129.b1 l0 x1) (0, 0)).bind fun o => o.on (fun s1 => some (-1)) (fun r => some r))
set_option maxRecDepth 100000 in
set_option maxHeartbeats 4000000 in
theorem G_api_Part_129.calls (l0 : (List Part)) (x1 : Fn127) (A0 : Option Addr) (c0 : Nat) (sv1 : SV) (w : World) {S : Nat → Prop} (hr0 : Arr kd_Part S w A0 l0) (hc0 : l0.length ≤ c0) (hx1 : (kdF127).cont S w x1 sv1) (r : Int) (h : G_api_Part_129 l0 x1 = some r) :
    Calls Try.prog 129 #[.slice A0 l0.length c0, fnv127 x1 sv1] w fun e w' => e = .returned (.int .i64 r) ∧ Below w.heap.size w w' := by
  replace hr0 := Arr.lo hr0
  replace hx1 := Kd.lo _ hx1
  unfold G_api_Part_129 at h
  have H0 := h
  clear h
  refine enter Try.func129 rfl [.slice A0 l0.length c0, fnv127 x1 sv1] (n := 19) rfl (Nat.le_of_ble_eq_true rfl) (fun a hI => ?_)
  have hF : FOpen Fence.wide := .inl rfl
  have hE := Ep.start w
  refine seq_region (live := [4, 0, 1]) (orc := []) hF hI ⟨[⟨4, [], .v (.int .i64 0)⟩, ⟨0, [], .v (.slice A0 l0.length c0)⟩, ⟨1, [], .v (fnv127 x1 sv1)⟩], [], [], [], none, none⟩ [] (by kernel_rfl) trivial (fun ns_1 a w_2 hI _ => ?_)
  refine wpIn_seq ?_
  refine seq_region (live := [8, 7, 4, 0, 1]) (orc := []) hF hI ⟨[⟨8, [], .v (.int .i64 0)⟩, ⟨7, [], .v (.int .i64 (l0.length : Int))⟩, ⟨4, [], .v (.int .i64 0)⟩, ⟨0, [], .v (.slice A0 l0.length c0)⟩, ⟨1, [], .v (fnv127 x1 sv1)⟩], [], [], [], none, none⟩ [] (by kernel_rfl) trivial (fun ns_3 a w_4 hI _ => ?_)
  obtain ⟨o_25, hL_26, H0⟩ := bind_some H0
  refine block_loop (fun (s1 : Int × Int) a w_31 => ∃ ns, St w [] 19 ⟨[⟨8, [], .v (.int .i64 s1.1)⟩, ⟨7, [], .v (.int .i64 (l0.length : Int))⟩, ⟨4, [], .v (.int .i64 s1.2)⟩, ⟨0, [], .v (.slice A0 l0.length c0)⟩, ⟨1, [], .v (fnv127 x1 sv1)⟩], [], [], [], none, none⟩ ns a w_31) (0, 0) hL_26 ⟨_, hI.pick [8, 7, 4, 0, 1] 0 ⟨[⟨8, [], .v (.int .i64 0)⟩, ⟨7, [], .v (.int .i64 (l0.length : Int))⟩, ⟨4, [], .v (.int .i64 0)⟩, ⟨0, [], .v (.slice A0 l0.length c0)⟩, ⟨1, [], .v (fnv127 x1 sv1)⟩], [], [], [], none, none⟩ (by kernel_rfl)⟩ ?_ ?_
  · clear hI
    rintro s1 a w_5 ⟨ns_6, hI⟩ r1 H1
    unfold G_api_Part_129.b1 at H1
    refine seq_region (live := [9, 8, 7, 4, 0, 1]) (orc := []) hF hI ⟨[⟨9, [], .v (.bool (decide (s1.1 < (l0.length : Int))))⟩, ⟨8, [], .v (.int .i64 s1.1)⟩, ⟨7, [], .v (.int .i64 (l0.length : Int))⟩, ⟨4, [], .v (.int .i64 s1.2)⟩, ⟨0, [], .v (.slice A0 l0.length c0)⟩, ⟨1, [], .v (fnv127 x1 sv1)⟩], [], [], [], none, none⟩ [] (by kernel_rfl) trivial (fun ns_7 a w_8 hI _ => ?_)
    refine wpIn_seq ?_
    refine cond_ hI (decide (s1.1 < (l0.length : Int))) rfl (fun hc_9 => ?_) (fun hc_9 => ?_)
    · replace H1 := bif_t hc_9 H1
      refine wpIn_skip ?_
      refine then_normal ?_
      refine wpIn_seq ?_
      refine wpIn_block ?_
      refine seq_region (live := [5, 8, 7, 4, 0, 1]) (orc := []) hF hI ⟨[⟨5, [], .v (.int .i64 s1.1)⟩, ⟨8, [], .v (.int .i64 s1.1)⟩, ⟨7, [], .v (.int .i64 (l0.length : Int))⟩, ⟨4, [], .v (.int .i64 s1.2)⟩, ⟨0, [], .v (.slice A0 l0.length c0)⟩, ⟨1, [], .v (fnv127 x1 sv1)⟩], [], [], [], none, none⟩ [] (by kernel_rfl) trivial (fun ns_10 a w_11 hI _ => ?_)
      obtain ⟨hN_12, H1⟩ := req_some H1
      obtain ⟨sv_13, hE_15, hA_14⟩ := Arr.elB (d := kd_Part) hr0 s1.1 true (fun _ => hN_12)
      replace hE_15 := hE_15 rfl
      replace hA_14 := fun (_ : true = true) => hA_14 rfl
      obtain ⟨t_16, hG_17, H1⟩ := bind_some H1
      refine seq_region (live := [16, 5, 8, 7, 4, 0, 1]) (orc := [(kd_Part).cells (rd l0 s1.1) sv_13, [.bool t_16]]) hF hI ⟨[⟨16, [], .v (.bool t_16)⟩, ⟨5, [], .v (.int .i64 s1.1)⟩, ⟨8, [], .v (.int .i64 s1.1)⟩, ⟨7, [], .v (.int .i64 (l0.length : Int))⟩, ⟨4, [], .v (.int .i64 s1.2)⟩, ⟨0, [], .v (.slice A0 l0.length c0)⟩, ⟨1, [], .v (fnv127 x1 sv1)⟩], [], [], [], none, none⟩ [.need true (0 ≤ s1.1 ∧ s1.1 < (l0.length : Int)), .need true (A0 = some (adr A0)), .cell true ((adr A0).add ((s1.1 : Int).toNat * 2)) ((kd_Part).cells (rd l0 s1.1) sv_13), .call true (fid127 x1) (([.agg ((kd_Part).cells (rd l0 s1.1) (svL [])).toArray] : List Value) ++ (fca127 x1 sv1).toList) (.bool t_16)] (by kernel_rfl) ⟨ob_inb (fun _ => hN_12), hA_14, ob_el (fun _ => hE_15) 0 ((kd_Part).cells (rd l0 s1.1) sv_13) rfl, ob_call (Fn127.ent x1) (fun hg wz hk => Fn127.calls x1 (rd l0 s1.1) sv1 (svL []) wz (S := fun _ => True) (Kd.any _ (Kd.keep kdF127 hx1 (Lo.on hk))) (Kd.any _ (Kd.keep kd_Part (contI (S := Lo S w w [] []) (w := w) (d := kd_Part) (x := (rd l0 s1.1)) (sv := (svL [])) trivial) (Lo.on hk))) _ hG_17), trivial⟩ (fun ns_18 a w_19 hI _ => ?_)
      refine cond_ hI (t_16) rfl (fun hc_20 => ?_) (fun hc_20 => ?_)
      · replace H1 := bif_t hc_20 H1
        refine seq_region (live := [4]) (orc := []) hF hI ⟨[⟨4, [], .v (.int .i64 s1.1)⟩], [], [], [], none, none⟩ [] (by kernel_rfl) trivial (fun ns_21 a w_22 hI _ => ?_)
        refine wpIn_ret ?_
        refine inBlock_ret ?_
        refine then_ret ?_
        refine then_ret ?_
        obtain rfl := Option.some.inj H1
        refine .inr ⟨_, rfl, fun ho => ?_⟩
        subst ho
        refine inBlock_ret ?_
        refine then_ret ?_
        obtain rfl := Option.some.inj H0
        exact ret1 hI rfl rfl ⟨rfl, hE.below hI⟩
      · replace H1 := bif_f hc_20 H1
        refine wpIn_skip ?_
        refine inBlock_normal ?_
        refine then_normal ?_
        refine region_ (live := [8, 7, 4, 0, 1]) (orc := []) hF hI ⟨[⟨8, [], .v (.int .i64 (IntKind.i64.wrap (s1.1 + 1)))⟩, ⟨7, [], .v (.int .i64 (l0.length : Int))⟩, ⟨4, [], .v (.int .i64 s1.2)⟩, ⟨0, [], .v (.slice A0 l0.length c0)⟩, ⟨1, [], .v (fnv127 x1 sv1)⟩], [], [], [], none, none⟩ [] (by kernel_rfl) trivial (fun ns_23 a w_24 hI _ => ?_)
        refine then_normal ?_
        obtain rfl := Option.some.inj H1
        exact ⟨_, rfl, ⟨_, hI.pick [8, 7, 4, 0, 1] 0 ⟨[⟨8, [], .v (.int .i64 (IntKind.i64.wrap (s1.1 + 1)))⟩, ⟨7, [], .v (.int .i64 (l0.length : Int))⟩, ⟨4, [], .v (.int .i64 s1.2)⟩, ⟨0, [], .v (.slice A0 l0.length c0)⟩, ⟨1, [], .v (fnv127 x1 sv1)⟩], [], [], [], none, none⟩ (by kernel_rfl)⟩⟩
    · replace H1 := bif_f hc_9 H1
      refine wpIn_exit ?_
      refine then_exit ?_
      refine then_exit ?_
      obtain rfl := Option.some.inj H1
      exact .inl ⟨_, rfl, rfl, ⟨_, hI.pick [8, 7, 4, 0, 1] 0 ⟨[⟨8, [], .v (.int .i64 s1.1)⟩, ⟨7, [], .v (.int .i64 (l0.length : Int))⟩, ⟨4, [], .v (.int .i64 s1.2)⟩, ⟨0, [], .v (.slice A0 l0.length c0)⟩, ⟨1, [], .v (fnv127 x1 sv1)⟩], [], [], [], none, none⟩ (by kernel_rfl)⟩⟩
  · clear hI
    rintro s1 a w_27 ho ⟨ns_28, hI⟩
    subst ho
    replace H0 : (some (-1) : Option (Int)) = _ := H0
    refine then_normal ?_
    refine seq_region (live := [4]) (orc := []) hF hI ⟨[⟨4, [], .v (.int .i64 (-1))⟩], [], [], [], none, none⟩ [] (by kernel_rfl) trivial (fun ns_29 a w_30 hI _ => ?_)
    refine wpIn_ret ?_
    obtain rfl := Option.some.inj H0
    exact ret1 hI rfl rfl ⟨rfl, hE.below hI⟩

/-! ### slices.ContainsFunc[[]porthole/api.Part,porthole/api.Part]: function 118 -/
noncomputable def G_api_Part_118 (l0 : (List Part)) (x1 : Fn127) : Option (Bool) := ((G_api_Part_129 l0 x1).bind fun t_3 => some (decide (t_3 ≥ 0)))
set_option maxRecDepth 100000 in
set_option maxHeartbeats 4000000 in
theorem G_api_Part_118.calls (l0 : (List Part)) (x1 : Fn127) (A0 : Option Addr) (c0 : Nat) (sv1 : SV) (w : World) {S : Nat → Prop} (hr0 : Arr kd_Part S w A0 l0) (hc0 : l0.length ≤ c0) (hx1 : (kdF127).cont S w x1 sv1) (r : Bool) (h : G_api_Part_118 l0 x1 = some r) :
    Calls Try.prog 118 #[.slice A0 l0.length c0, fnv127 x1 sv1] w fun e w' => e = .returned (.bool r) ∧ Below w.heap.size w w' := by
  replace hr0 := Arr.lo hr0
  replace hx1 := Kd.lo _ hx1
  unfold G_api_Part_118 at h
  have H0 := h
  clear h
  refine enter Try.func118 rfl [.slice A0 l0.length c0, fnv127 x1 sv1] (n := 9) rfl (Nat.le_of_ble_eq_true rfl) (fun a hI => ?_)
  have hF : FOpen Fence.wide := .inl rfl
  have hE := Ep.start w
  refine seq_region (live := [4, 0, 1]) (orc := []) hF hI ⟨[⟨4, [], .v (.bool false)⟩, ⟨0, [], .v (.slice A0 l0.length c0)⟩, ⟨1, [], .v (fnv127 x1 sv1)⟩], [], [], [], none, none⟩ [] (by kernel_rfl) trivial (fun ns_1 a w_2 hI _ => ?_)
  obtain ⟨t_3, hG_4, H0⟩ := bind_some H0
  refine seq_region (live := [4]) (orc := [[.int .i64 t_3]]) hF hI ⟨[⟨4, [], .v (.bool (decide (t_3 ≥ 0)))⟩], [], [], [], none, none⟩ [.call true 129 [.slice A0 l0.length c0, fnv127 x1 sv1] (.int .i64 t_3)] (by kernel_rfl) ⟨ob_call (enters Try.func129 (by kernel_rfl) rfl) (fun hg wz hk => G_api_Part_129.calls l0 x1 A0 c0 (svL []) wz (S := fun _ => True) (Arr.any (Arr.keep hr0 (Lo.on hk))) hc0 (Kd.any _ (Kd.keep kdF127 (contI (S := Lo S w w [] []) (w := w) (d := kdF127) (x := x1) (sv := (svL [])) hx1) (Lo.on hk))) _ hG_4), trivial⟩ (fun ns_5 a w_6 hI _ => ?_)
  refine wpIn_ret ?_
  obtain rfl := Option.some.inj H0
  exact ret1 hI rfl rfl ⟨rfl, hE.below hI⟩

/-! ### porthole/defect.part$1: function 117 -/
noncomputable def G_defect_part_1 (x0 : Config) (y1 : Fn127) : Option (Bool) := ((G_api_Part_118 x0.Parts y1).bind fun t_3 => some t_3)
set_option maxRecDepth 100000 in
set_option maxHeartbeats 4000000 in
theorem G_defect_part_1.calls (x0 : Config) (y1 : Fn127) (sv0 : SV) (B1 : Addr) (sv1 : SV) (w : World) {S : Nat → Prop} (hx0 : (kd_Config).cont S w x0 sv0) (hB1 : El kdF127 S w B1 y1 sv1) (r : Bool) (h : G_defect_part_1 x0 y1 = some r) :
    Calls Try.prog 117 #[.agg ((kd_Config).cells x0 sv0).toArray, .pointer (some B1)] w fun e w' => e = .returned (.bool r) ∧ Below w.heap.size w w' := by
  replace hx0 := Kd.lo _ hx0
  replace hB1 := El.lo hB1
  unfold G_defect_part_1 at h
  have H0 := h
  clear h
  refine enter Try.func117 rfl [.agg ((kd_Config).cells x0 sv0).toArray, .pointer (some B1)] (n := 8) rfl (Nat.le_of_ble_eq_true rfl) (fun a hI => ?_)
  have hF : FOpen Fence.wide := .inl rfl
  have hE := Ep.start w
  refine seq_region (live := [3, 2, 1]) (orc := []) hF hI ⟨[⟨3, [], .v (.bool false)⟩, ⟨2, [], .p 0 0⟩, ⟨1, [], .v (.pointer (some B1))⟩], [], [], [((((kd_Config).cells x0 sv0).map EV.v), 29)], none, none⟩ [] (by kernel_rfl) trivial (fun ns_1 a w_2 hI _ => ?_)
  obtain ⟨t_3, hG_4, H0⟩ := bind_some H0
  refine seq_region (live := [3]) (orc := [[fnv127 y1 sv1], [.bool t_3]]) hF hI ⟨[⟨3, [], .v (.bool t_3)⟩], [], [], [((((kd_Config).cells x0 sv0).map EV.v), 29)], none, none⟩ [.cell true B1 [fnv127 y1 sv1], .call true 118 [.slice ((sv0 0).1) x0.Parts.length ((sv0 0).2), fnv127 y1 sv1] (.bool t_3)] (by kernel_rfl) ⟨ob_el (fun _ => hB1) 0 [fnv127 y1 sv1] rfl, ob_call (enters Try.func118 (by kernel_rfl) rfl) (fun hg wz hk => G_api_Part_118.calls x0.Parts y1 ((sv0 0).1) ((sv0 0).2) (svL []) wz (S := fun _ => True) (Arr.any (Arr.keep hx0.1.1 (Lo.on hk))) hx0.1.2 (Kd.any _ (Kd.keep kdF127 (contI (S := Lo S w w [] []) (w := w) (d := kdF127) (x := y1) (sv := (svL [])) (hB1).cont) (Lo.on hk))) _ hG_4), trivial⟩ (fun ns_5 a w_6 hI _ => ?_)
  refine wpIn_ret ?_
  obtain rfl := Option.some.inj H0
  exact ret1 hI rfl rfl ⟨rfl, hE.below hI⟩

/-! ### porthole/defect.part: function 94 -/
noncomputable def G_defect_part (x0 : Fn127) : Option (Defect_rule) := some (⟨(Fn31.f117 x0)⟩ : Defect_rule)
set_option maxRecDepth 100000 in
set_option maxHeartbeats 4000000 in
theorem G_defect_part.calls (x0 : Fn127) (sv0 : SV) (w : World) {S : Nat → Prop} (hx0 : (kdF127).cont S w x0 sv0) (r : Defect_rule) (h : G_defect_part x0 = some r) :
    Calls Try.prog 94 #[fnv127 x0 sv0] w fun e w' => ∃ sv : SV, e = .returned (.agg ((kd_Defect_rule).cells r sv).toArray) ∧ Below w.heap.size w w' ∧ (kd_Defect_rule).cont (fun b => w.heap.size ≤ b ∨ S b) w' r sv := by
  replace hx0 := Kd.lo _ hx0
  unfold G_defect_part at h
  have H0 := h
  clear h
  refine enter Try.func94 rfl [fnv127 x0 sv0] (n := 5) rfl (Nat.le_of_ble_eq_true rfl) (fun a hI => ?_)
  have hF : FOpen Fence.wide := .inl rfl
  have hE := Ep.start w
  refine seq_region (live := [2, 1]) (orc := []) hF hI ⟨[⟨2, [], .p 1 0⟩, ⟨1, [], .p 0 0⟩], [], [], [([.v (fnv127 x0 sv0)], 127), ([.v (.nilFunc)], 124)], none, none⟩ [] (by kernel_rfl) trivial (fun ns_1 a w_2 hI _ => ?_)
  refine wpIn_seq ?_
  refine wpIn_region_lit ?_
  obtain ⟨hE', hmv, hmr⟩ := Ep.rebase (S0 := S) hE hI
  replace hx0 := Kd.keep _ hx0 hmv
  replace hE := hE'
  replace hI := hI.rebase
  clear hE' hmv hmr
  have hct := contI (S := Lo S w w_2 ns_1 []) (w := w_2) (d := kdF127) (x := x0) (sv := (svL [])) hx0
  obtain ⟨B_3, ns_5, hE', hI', hmv, hB_4⟩ := freeze_ (S0 := S) (d := kdF127) hE hI 0 x0 (svL []) 127 rfl
  replace hB_4 := hB_4 hct
  clear hct
  have hmr : ∀ b : Nat, some b ∈ ([] : List (Option Nat)) → w_2.heap[b]? = w_2.heap[b]? := fun _ _ => rfl
  replace hx0 := Kd.keep _ hx0 hmv
  replace hE := hE'
  replace hI := hI'
  clear hE' hI' hmv hmr
  obtain ⟨ns_6, hE', hI', hmv⟩ := hE.cut (S0 := S) hI [2, 1] 1 ⟨[⟨2, [], .p 0 0⟩, ⟨1, [], .v (.pointer (some B_3))⟩], [], [], [([.v (.nilFunc)], 124)], none, none⟩ (by kernel_rfl)
  have hmr : ∀ b : Nat, some b ∈ ([] : List (Option Nat)) → w_2.heap[b]? = w_2.heap[b]? := fun _ _ => rfl
  replace hx0 := Kd.keep _ hx0 hmv
  replace hB_4 := El.keep hB_4 hmv
  replace hE := hE'
  replace hI := hI'
  clear hE' hI' hmv hmr
  refine chunkL_ (live := [3, 2, 1]) (orc := []) hF 1 hI ⟨[⟨3, [], .v (.func (.func 117) #[] #[.pointer (some B_3)])⟩, ⟨2, [], .p 0 0⟩, ⟨1, [], .v (.pointer (some B_3))⟩], [], [], [([.v (.nilFunc)], 124)], none, none⟩ [] rfl (by kernel_rfl) trivial (fun ns_7 a w_8 hI => ?_)
  refine chunkL_ (live := [2]) (orc := []) hF 2 hI ⟨[⟨2, [], .p 0 0⟩], [], [], [([.v (.func (.func 117) #[] #[.pointer (some B_3)])], 124)], none, none⟩ [] rfl (by kernel_rfl) trivial (fun ns_9 a w_10 hI => ?_)
  refine wpListIn_nil ?_
  refine then_normal ?_
  refine wpIn_ret ?_
  obtain rfl := Option.some.inj H0
  exact retCell hI rfl rfl rfl rfl rfl rfl ⟨svL [(some B_3, 0), (none, 0)], rfl, hE.below hI, ⟨⟨((El.keep hB_4 (hE.out hI))).cont, ((El.keep hB_4 (hE.out hI))).at_, ((El.keep hB_4 (hE.out hI))).cells⟩, trivial⟩⟩

/-! ### porthole/defect.rules$4: function 97 -/
noncomputable def G_defect_rules_4 (x0 : Config) : Option (Bool) := some (decide ((x0.Chans.length : Int) > 8))
set_option maxRecDepth 100000 in
set_option maxHeartbeats 4000000 in
theorem G_defect_rules_4.calls (x0 : Config) (sv0 : SV) (w : World) {S : Nat → Prop} (hx0 : (kd_Config).cont S w x0 sv0) (r : Bool) (h : G_defect_rules_4 x0 = some r) :
    Calls Try.prog 97 #[.agg ((kd_Config).cells x0 sv0).toArray] w fun e w' => e = .returned (.bool r) ∧ Below w.heap.size w w' := by
  replace hx0 := Kd.lo _ hx0
  unfold G_defect_rules_4 at h
  have H0 := h
  clear h
  refine enter Try.func97 rfl [.agg ((kd_Config).cells x0 sv0).toArray] (n := 7) rfl (Nat.le_of_ble_eq_true rfl) (fun a hI => ?_)
  have hF : FOpen Fence.wide := .inl rfl
  have hE := Ep.start w
  refine seq_region (live := [2, 1]) (orc := []) hF hI ⟨[⟨2, [], .v (.bool false)⟩, ⟨1, [], .p 0 0⟩], [], [], [((((kd_Config).cells x0 sv0).map EV.v), 29)], none, none⟩ [] (by kernel_rfl) trivial (fun ns_1 a w_2 hI _ => ?_)
  refine seq_region (live := [2]) (orc := []) hF hI ⟨[⟨2, [], .v (.bool (decide ((x0.Chans.length : Int) > 8)))⟩], [], [], [((((kd_Config).cells x0 sv0).map EV.v), 29)], none, none⟩ [] (by kernel_rfl) trivial (fun ns_3 a w_4 hI _ => ?_)
  refine wpIn_ret ?_
  obtain rfl := Option.some.inj H0
  exact ret1 hI rfl rfl ⟨rfl, hE.below hI⟩

/-! ### porthole/defect.rules$5: function 99 -/
noncomputable def G_defect_rules_5 (x0 : Config) (x1 : Chan) : Option (Bool) := some ((x1.Kind != 1) && (x1.Kind != 2))
set_option maxRecDepth 100000 in
set_option maxHeartbeats 4000000 in
theorem G_defect_rules_5.calls (x0 : Config) (x1 : Chan) (sv0 : SV) (sv1 : SV) (w : World) {S : Nat → Prop} (hx0 : (kd_Config).cont S w x0 sv0) (hx1 : (kd_Chan).cont S w x1 sv1) (r : Bool) (h : G_defect_rules_5 x0 x1 = some r) :
    Calls Try.prog 99 #[.agg ((kd_Config).cells x0 sv0).toArray, .agg ((kd_Chan).cells x1 sv1).toArray] w fun e w' => e = .returned (.bool r) ∧ Below w.heap.size w w' := by
  replace hx0 := Kd.lo _ hx0
  replace hx1 := Kd.lo _ hx1
  unfold G_defect_rules_5 at h
  have H0 := h
  clear h
  refine enter Try.func99 rfl [.agg ((kd_Config).cells x0 sv0).toArray, .agg ((kd_Chan).cells x1 sv1).toArray] (n := 13) rfl (Nat.le_of_ble_eq_true rfl) (fun a hI => ?_)
  have hF : FOpen Fence.wide := .inl rfl
  have hE := Ep.start w
  refine seq_region (live := [4, 3]) (orc := []) hF hI ⟨[⟨4, [], .v (.bool false)⟩, ⟨3, [], .p 1 0⟩], [], [], [((((kd_Config).cells x0 sv0).map EV.v), 29), ((((kd_Chan).cells x1 sv1).map EV.v), 74)], none, none⟩ [] (by kernel_rfl) trivial (fun ns_1 a w_2 hI _ => ?_)
  refine seq_region (live := [4]) (orc := []) hF hI ⟨[⟨4, [], .v (.bool ((x1.Kind != 1) && (x1.Kind != 2)))⟩], [], [], [((((kd_Config).cells x0 sv0).map EV.v), 29), ((((kd_Chan).cells x1 sv1).map EV.v), 74)], none, none⟩ [] (by kernel_rfl) trivial (fun ns_3 a w_4 hI _ => ?_)
  refine wpIn_ret ?_
  obtain rfl := Option.some.inj H0
  exact ret1 hI rfl rfl ⟨rfl, hE.below hI⟩

/-! ### porthole/defect.strange: function 101 -/
noncomputable def G_defect_strange (x0 : Config) (a1 : Int) : Option (Bool) := ((G_defect_within a1 0 (IntKind.i64.wrap ((x0.Parts.length : Int) - 1))).bind fun t_3 => some (!t_3))
set_option maxRecDepth 100000 in
set_option maxHeartbeats 4000000 in
theorem G_defect_strange.calls (x0 : Config) (a1 : Int) (sv0 : SV) (w : World) {S : Nat → Prop} (hx0 : (kd_Config).cont S w x0 sv0) (r : Bool) (h : G_defect_strange x0 a1 = some r) :
    Calls Try.prog 101 #[.agg ((kd_Config).cells x0 sv0).toArray, .int .i64 a1] w fun e w' => e = .returned (.bool r) ∧ Below w.heap.size w w' := by
  replace hx0 := Kd.lo _ hx0
  unfold G_defect_strange at h
  have H0 := h
  clear h
  refine enter Try.func101 rfl [.agg ((kd_Config).cells x0 sv0).toArray, .int .i64 a1] (n := 12) rfl (Nat.le_of_ble_eq_true rfl) (fun a hI => ?_)
  have hF : FOpen Fence.wide := .inl rfl
  have hE := Ep.start w
  refine seq_region (live := [4, 2, 1]) (orc := []) hF hI ⟨[⟨4, [], .v (.bool false)⟩, ⟨2, [], .p 0 0⟩, ⟨1, [], .v (.int .i64 a1)⟩], [], [], [((((kd_Config).cells x0 sv0).map EV.v), 29)], none, none⟩ [] (by kernel_rfl) trivial (fun ns_1 a w_2 hI _ => ?_)
  obtain ⟨t_3, hG_4, H0⟩ := bind_some H0
  refine seq_region (live := [4]) (orc := [[.bool t_3]]) hF hI ⟨[⟨4, [], .v (.bool (!t_3))⟩], [], [], [((((kd_Config).cells x0 sv0).map EV.v), 29)], none, none⟩ [.call true 93 [.int .i64 a1, .int .i64 0, .int .i64 (IntKind.i64.wrap ((x0.Parts.length : Int) - 1))] (.bool t_3)] (by kernel_rfl) ⟨ob_call (enters Try.func93 (by kernel_rfl) rfl) (fun hg wz hk => G_defect_within.calls a1 0 (IntKind.i64.wrap ((x0.Parts.length : Int) - 1))  wz (S := fun _ => True)  _ hG_4), trivial⟩ (fun ns_5 a w_6 hI _ => ?_)
  refine wpIn_ret ?_
  obtain rfl := Option.some.inj H0
  exact ret1 hI rfl rfl ⟨rfl, hE.below hI⟩

/-! ### porthole/defect.rules$6: function 100 -/
noncomputable def G_defect_rules_6 (x0 : Config) (x1 : Chan) : Option (Bool) := ((G_defect_strange x0 x1.From).bind fun t_3 => ((cal (!t_3) (G_defect_strange x0 x1.To) default).bind fun t_5 => some (t_3 || t_5)))
set_option maxRecDepth 100000 in
set_option maxHeartbeats 4000000 in
theorem G_defect_rules_6.calls (x0 : Config) (x1 : Chan) (sv0 : SV) (sv1 : SV) (w : World) {S : Nat → Prop} (hx0 : (kd_Config).cont S w x0 sv0) (hx1 : (kd_Chan).cont S w x1 sv1) (r : Bool) (h : G_defect_rules_6 x0 x1 = some r) :
    Calls Try.prog 100 #[.agg ((kd_Config).cells x0 sv0).toArray, .agg ((kd_Chan).cells x1 sv1).toArray] w fun e w' => e = .returned (.bool r) ∧ Below w.heap.size w w' := by
  replace hx0 := Kd.lo _ hx0
  replace hx1 := Kd.lo _ hx1
  unfold G_defect_rules_6 at h
  have H0 := h
  clear h
  refine enter Try.func100 rfl [.agg ((kd_Config).cells x0 sv0).toArray, .agg ((kd_Chan).cells x1 sv1).toArray] (n := 15) rfl (Nat.le_of_ble_eq_true rfl) (fun a hI => ?_)
  have hF : FOpen Fence.wide := .inl rfl
  have hE := Ep.start w
  refine seq_region (live := [4, 3, 2]) (orc := []) hF hI ⟨[⟨4, [], .v (.bool false)⟩, ⟨3, [], .p 1 0⟩, ⟨2, [], .p 0 0⟩], [], [], [((((kd_Config).cells x0 sv0).map EV.v), 29), ((((kd_Chan).cells x1 sv1).map EV.v), 74)], none, none⟩ [] (by kernel_rfl) trivial (fun ns_1 a w_2 hI _ => ?_)
  obtain ⟨t_3, hG_4, H0⟩ := bind_some H0
  obtain ⟨t_5, hG_6, H0⟩ := bind_some H0
  refine seq_region (live := [4]) (orc := [[.bool t_3], [.bool t_5]]) hF hI ⟨[⟨4, [], .v (.bool (t_3 || t_5))⟩], [], [], [((((kd_Config).cells x0 sv0).map EV.v), 29), ((((kd_Chan).cells x1 sv1).map EV.v), 74)], none, none⟩ [.call true 101 [.agg ((kd_Config).cells x0 sv0).toArray, .int .i64 x1.From] (.bool t_3), .call (!t_3) 101 [.agg ((kd_Config).cells x0 sv0).toArray, .int .i64 x1.To] (.bool t_5)] (by kernel_rfl) ⟨ob_call (enters Try.func101 (by kernel_rfl) rfl) (fun hg wz hk => G_defect_strange.calls x0 x1.From sv0 wz (S := fun _ => True) (Kd.any _ (Kd.keep kd_Config (contI (S := Lo S w w [] []) (w := w) (d := kd_Config) (x := x0) (sv := sv0) ⟨⟨hx0.1.1, hx0.1.2⟩, ⟨hx0.2.1.1, hx0.2.1.2⟩, ⟨hx0.2.2.1.1, hx0.2.2.1.2⟩, ⟨hx0.2.2.2.1.1, hx0.2.2.2.1.2⟩, trivial⟩) (Lo.on hk))) _ hG_4), ob_call (enters Try.func101 (by kernel_rfl) rfl) (fun hg wz hk => G_defect_strange.calls x0 x1.To sv0 wz (S := fun _ => True) (Kd.any _ (Kd.keep kd_Config (contI (S := Lo S w w [] []) (w := w) (d := kd_Config) (x := x0) (sv := sv0) ⟨⟨hx0.1.1, hx0.1.2⟩, ⟨hx0.2.1.1, hx0.2.1.2⟩, ⟨hx0.2.2.1.1, hx0.2.2.1.2⟩, ⟨hx0.2.2.2.1.1, hx0.2.2.2.1.2⟩, trivial⟩) (Lo.on hk))) _ (cal_some hG_6 hg)), trivial⟩ (fun ns_7 a w_8 hI _ => ?_)
  refine wpIn_ret ?_
  obtain rfl := Option.some.inj H0
  exact ret1 hI rfl rfl ⟨rfl, hE.below hI⟩

/-! ### porthole/defect.rules$7: function 102 -/
noncomputable def G_defect_rules_7 (x0 : Config) (x1 : Chan) : Option (Bool) := some (x1.From == x1.To)
set_option maxRecDepth 100000 in
set_option maxHeartbeats 4000000 in
theorem G_defect_rules_7.calls (x0 : Config) (x1 : Chan) (sv0 : SV) (sv1 : SV) (w : World) {S : Nat → Prop} (hx0 : (kd_Config).cont S w x0 sv0) (hx1 : (kd_Chan).cont S w x1 sv1) (r : Bool) (h : G_defect_rules_7 x0 x1 = some r) :
    Calls Try.prog 102 #[.agg ((kd_Config).cells x0 sv0).toArray, .agg ((kd_Chan).cells x1 sv1).toArray] w fun e w' => e = .returned (.bool r) ∧ Below w.heap.size w w' := by
  replace hx0 := Kd.lo _ hx0
  replace hx1 := Kd.lo _ hx1
  unfold G_defect_rules_7 at h
  have H0 := h
  clear h
  refine enter Try.func102 rfl [.agg ((kd_Config).cells x0 sv0).toArray, .agg ((kd_Chan).cells x1 sv1).toArray] (n := 10) rfl (Nat.le_of_ble_eq_true rfl) (fun a hI => ?_)
  have hF : FOpen Fence.wide := .inl rfl
  have hE := Ep.start w
  refine seq_region (live := [4, 3]) (orc := []) hF hI ⟨[⟨4, [], .v (.bool false)⟩, ⟨3, [], .p 1 0⟩], [], [], [((((kd_Config).cells x0 sv0).map EV.v), 29), ((((kd_Chan).cells x1 sv1).map EV.v), 74)], none, none⟩ [] (by kernel_rfl) trivial (fun ns_1 a w_2 hI _ => ?_)
  refine seq_region (live := [4]) (orc := []) hF hI ⟨[⟨4, [], .v (.bool (x1.From == x1.To))⟩], [], [], [((((kd_Config).cells x0 sv0).map EV.v), 29), ((((kd_Chan).cells x1 sv1).map EV.v), 74)], none, none⟩ [] (by kernel_rfl) trivial (fun ns_3 a w_4 hI _ => ?_)
  refine wpIn_ret ?_
  obtain rfl := Option.some.inj H0
  exact ret1 hI rfl rfl ⟨rfl, hE.below hI⟩

/-! ### porthole/defect.rules$8: function 103 -/
noncomputable def G_defect_rules_8 (x0 : Config) (x1 : Chan) : Option (Bool) := ((G_defect_within x1.Words 1 16).bind fun t_3 => some (!t_3))
set_option maxRecDepth 100000 in
set_option maxHeartbeats 4000000 in
theorem G_defect_rules_8.calls (x0 : Config) (x1 : Chan) (sv0 : SV) (sv1 : SV) (w : World) {S : Nat → Prop} (hx0 : (kd_Config).cont S w x0 sv0) (hx1 : (kd_Chan).cont S w x1 sv1) (r : Bool) (h : G_defect_rules_8 x0 x1 = some r) :
    Calls Try.prog 103 #[.agg ((kd_Config).cells x0 sv0).toArray, .agg ((kd_Chan).cells x1 sv1).toArray] w fun e w' => e = .returned (.bool r) ∧ Below w.heap.size w w' := by
  replace hx0 := Kd.lo _ hx0
  replace hx1 := Kd.lo _ hx1
  unfold G_defect_rules_8 at h
  have H0 := h
  clear h
  refine enter Try.func103 rfl [.agg ((kd_Config).cells x0 sv0).toArray, .agg ((kd_Chan).cells x1 sv1).toArray] (n := 9) rfl (Nat.le_of_ble_eq_true rfl) (fun a hI => ?_)
  have hF : FOpen Fence.wide := .inl rfl
  have hE := Ep.start w
  refine seq_region (live := [4, 3]) (orc := []) hF hI ⟨[⟨4, [], .v (.bool false)⟩, ⟨3, [], .p 1 0⟩], [], [], [((((kd_Config).cells x0 sv0).map EV.v), 29), ((((kd_Chan).cells x1 sv1).map EV.v), 74)], none, none⟩ [] (by kernel_rfl) trivial (fun ns_1 a w_2 hI _ => ?_)
  obtain ⟨t_3, hG_4, H0⟩ := bind_some H0
  refine seq_region (live := [4]) (orc := [[.bool t_3]]) hF hI ⟨[⟨4, [], .v (.bool (!t_3))⟩], [], [], [((((kd_Config).cells x0 sv0).map EV.v), 29), ((((kd_Chan).cells x1 sv1).map EV.v), 74)], none, none⟩ [.call true 93 [.int .i64 x1.Words, .int .i64 1, .int .i64 16] (.bool t_3)] (by kernel_rfl) ⟨ob_call (enters Try.func93 (by kernel_rfl) rfl) (fun hg wz hk => G_defect_within.calls x1.Words 1 16  wz (S := fun _ => True)  _ hG_4), trivial⟩ (fun ns_5 a w_6 hI _ => ?_)
  refine wpIn_ret ?_
  obtain rfl := Option.some.inj H0
  exact ret1 hI rfl rfl ⟨rfl, hE.below hI⟩

/-! ### porthole/defect.deep: function 105 -/
noncomputable def G_defect_deep (x0 : Chan) : Option (Bool) := (bif (x0.Kind == 1) then some (x0.Depth == 0) else (bif (x0.Kind == 2) then some ((((x0.Depth == 1) || (x0.Depth == 2)) || (x0.Depth == 4)) || (x0.Depth == 8)) else some true))
set_option maxRecDepth 100000 in
set_option maxHeartbeats 4000000 in
theorem G_defect_deep.calls (x0 : Chan) (sv0 : SV) (w : World) {S : Nat → Prop} (hx0 : (kd_Chan).cont S w x0 sv0) (r : Bool) (h : G_defect_deep x0 = some r) :
    Calls Try.prog 105 #[.agg ((kd_Chan).cells x0 sv0).toArray] w fun e w' => e = .returned (.bool r) ∧ Below w.heap.size w w' := by
  replace hx0 := Kd.lo _ hx0
  unfold G_defect_deep at h
  have H0 := h
  clear h
  refine enter Try.func105 rfl [.agg ((kd_Chan).cells x0 sv0).toArray] (n := 30) rfl (Nat.le_of_ble_eq_true rfl) (fun a hI => ?_)
  have hF : FOpen Fence.wide := .inl rfl
  have hE := Ep.start w
  refine seq_region (live := [2, 1]) (orc := []) hF hI ⟨[⟨2, [], .v (.bool false)⟩, ⟨1, [], .p 0 0⟩], [], [], [((((kd_Chan).cells x0 sv0).map EV.v), 74)], none, none⟩ [] (by kernel_rfl) trivial (fun ns_1 a w_2 hI _ => ?_)
  refine wpIn_seq ?_
  refine seq_region (live := [4, 2, 1]) (orc := []) hF hI ⟨[⟨4, [], .v (.int .i64 x0.Kind)⟩, ⟨2, [], .v (.bool false)⟩, ⟨1, [], .p 0 0⟩], [], [], [((((kd_Chan).cells x0 sv0).map EV.v), 74)], none, none⟩ [] (by kernel_rfl) trivial (fun ns_3 a w_4 hI _ => ?_)
  refine wpIn_block ?_
  refine seq_region (live := [5, 4, 2, 1]) (orc := []) hF hI ⟨[⟨5, [], .v (.bool (x0.Kind == 1))⟩, ⟨4, [], .v (.int .i64 x0.Kind)⟩, ⟨2, [], .v (.bool false)⟩, ⟨1, [], .p 0 0⟩], [], [], [((((kd_Chan).cells x0 sv0).map EV.v), 74)], none, none⟩ [] (by kernel_rfl) trivial (fun ns_5 a w_6 hI _ => ?_)
  refine cond_ hI ((x0.Kind == 1)) rfl (fun hc_7 => ?_) (fun hc_7 => ?_)
  · replace H0 := bif_t hc_7 H0
    refine seq_region (live := [2]) (orc := []) hF hI ⟨[⟨2, [], .v (.bool (x0.Depth == 0))⟩], [], [], [((((kd_Chan).cells x0 sv0).map EV.v), 74)], none, none⟩ [] (by kernel_rfl) trivial (fun ns_8 a w_9 hI _ => ?_)
    refine wpIn_ret ?_
    refine inBlock_ret ?_
    refine then_ret ?_
    obtain rfl := Option.some.inj H0
    exact ret1 hI rfl rfl ⟨rfl, hE.below hI⟩
  · replace H0 := bif_f hc_7 H0
    refine seq_region (live := [10, 2, 1]) (orc := []) hF hI ⟨[⟨10, [], .v (.bool (x0.Kind == 2))⟩, ⟨2, [], .v (.bool false)⟩, ⟨1, [], .p 0 0⟩], [], [], [((((kd_Chan).cells x0 sv0).map EV.v), 74)], none, none⟩ [] (by kernel_rfl) trivial (fun ns_10 a w_11 hI _ => ?_)
    refine cond_ hI ((x0.Kind == 2)) rfl (fun hc_12 => ?_) (fun hc_12 => ?_)
    · replace H0 := bif_t hc_12 H0
      refine seq_region (live := [2]) (orc := []) hF hI ⟨[⟨2, [], .v (.bool ((((x0.Depth == 1) || (x0.Depth == 2)) || (x0.Depth == 4)) || (x0.Depth == 8)))⟩], [], [], [((((kd_Chan).cells x0 sv0).map EV.v), 74)], none, none⟩ [] (by kernel_rfl) trivial (fun ns_13 a w_14 hI _ => ?_)
      refine wpIn_ret ?_
      refine inBlock_ret ?_
      refine then_ret ?_
      obtain rfl := Option.some.inj H0
      exact ret1 hI rfl rfl ⟨rfl, hE.below hI⟩
    · replace H0 := bif_f hc_12 H0
      refine wpIn_skip ?_
      refine inBlock_normal ?_
      refine then_normal ?_
      refine seq_region (live := [2]) (orc := []) hF hI ⟨[⟨2, [], .v (.bool true)⟩], [], [], [((((kd_Chan).cells x0 sv0).map EV.v), 74)], none, none⟩ [] (by kernel_rfl) trivial (fun ns_15 a w_16 hI _ => ?_)
      refine wpIn_ret ?_
      obtain rfl := Option.some.inj H0
      exact ret1 hI rfl rfl ⟨rfl, hE.below hI⟩

/-! ### porthole/defect.rules$9: function 104 -/
noncomputable def G_defect_rules_9 (x0 : Config) (x1 : Chan) : Option (Bool) := ((G_defect_deep x1).bind fun t_3 => some (!t_3))
set_option maxRecDepth 100000 in
set_option maxHeartbeats 4000000 in
theorem G_defect_rules_9.calls (x0 : Config) (x1 : Chan) (sv0 : SV) (sv1 : SV) (w : World) {S : Nat → Prop} (hx0 : (kd_Config).cont S w x0 sv0) (hx1 : (kd_Chan).cont S w x1 sv1) (r : Bool) (h : G_defect_rules_9 x0 x1 = some r) :
    Calls Try.prog 104 #[.agg ((kd_Config).cells x0 sv0).toArray, .agg ((kd_Chan).cells x1 (svL [])).toArray] w fun e w' => e = .returned (.bool r) ∧ Below w.heap.size w w' := by
  replace hx0 := Kd.lo _ hx0
  replace hx1 := Kd.lo _ hx1
  unfold G_defect_rules_9 at h
  have H0 := h
  clear h
  refine enter Try.func104 rfl [.agg ((kd_Config).cells x0 sv0).toArray, .agg ((kd_Chan).cells x1 (svL [])).toArray] (n := 8) rfl (Nat.le_of_ble_eq_true rfl) (fun a hI => ?_)
  have hF : FOpen Fence.wide := .inl rfl
  have hE := Ep.start w
  refine seq_region (live := [4, 3]) (orc := []) hF hI ⟨[⟨4, [], .v (.bool false)⟩, ⟨3, [], .p 1 0⟩], [], [], [((((kd_Config).cells x0 sv0).map EV.v), 29), ((((kd_Chan).cells x1 sv1).map EV.v), 74)], none, none⟩ [] (by kernel_rfl) trivial (fun ns_1 a w_2 hI _ => ?_)
  obtain ⟨t_3, hG_4, H0⟩ := bind_some H0
  refine seq_region (live := [4]) (orc := [[.bool t_3]]) hF hI ⟨[⟨4, [], .v (.bool (!t_3))⟩], [], [], [((((kd_Config).cells x0 sv0).map EV.v), 29), ((((kd_Chan).cells x1 sv1).map EV.v), 74)], none, none⟩ [.call true 105 [.agg ((kd_Chan).cells x1 (svL [])).toArray] (.bool t_3)] (by kernel_rfl) ⟨ob_call (enters Try.func105 (by kernel_rfl) rfl) (fun hg wz hk => G_defect_deep.calls x1 (svL []) wz (S := fun _ => True) (Kd.any _ (Kd.keep kd_Chan (contI (S := Lo S w w [] []) (w := w) (d := kd_Chan) (x := x1) (sv := (svL [])) trivial) (Lo.on hk))) _ hG_4), trivial⟩ (fun ns_5 a w_6 hI _ => ?_)
  refine wpIn_ret ?_
  obtain rfl := Option.some.inj H0
  exact ret1 hI rfl rfl ⟨rfl, hE.below hI⟩

/-! ### porthole/defect.fresh: function 107 -/
noncomputable def G_defect_fresh (x0 : Chan) : Option (Bool) := (bif (x0.Kind == 1) then ((G_defect_within x0.Period 0 1048576).bind fun t_8 => some t_8) else (bif (x0.Kind == 2) then some (x0.Period == 0) else some true))
set_option maxRecDepth 100000 in
set_option maxHeartbeats 4000000 in
theorem G_defect_fresh.calls (x0 : Chan) (sv0 : SV) (w : World) {S : Nat → Prop} (hx0 : (kd_Chan).cont S w x0 sv0) (r : Bool) (h : G_defect_fresh x0 = some r) :
    Calls Try.prog 107 #[.agg ((kd_Chan).cells x0 sv0).toArray] w fun e w' => e = .returned (.bool r) ∧ Below w.heap.size w w' := by
  replace hx0 := Kd.lo _ hx0
  unfold G_defect_fresh at h
  have H0 := h
  clear h
  refine enter Try.func107 rfl [.agg ((kd_Chan).cells x0 sv0).toArray] (n := 15) rfl (Nat.le_of_ble_eq_true rfl) (fun a hI => ?_)
  have hF : FOpen Fence.wide := .inl rfl
  have hE := Ep.start w
  refine seq_region (live := [2, 1]) (orc := []) hF hI ⟨[⟨2, [], .v (.bool false)⟩, ⟨1, [], .p 0 0⟩], [], [], [((((kd_Chan).cells x0 sv0).map EV.v), 74)], none, none⟩ [] (by kernel_rfl) trivial (fun ns_1 a w_2 hI _ => ?_)
  refine wpIn_seq ?_
  refine seq_region (live := [4, 2, 1]) (orc := []) hF hI ⟨[⟨4, [], .v (.int .i64 x0.Kind)⟩, ⟨2, [], .v (.bool false)⟩, ⟨1, [], .p 0 0⟩], [], [], [((((kd_Chan).cells x0 sv0).map EV.v), 74)], none, none⟩ [] (by kernel_rfl) trivial (fun ns_3 a w_4 hI _ => ?_)
  refine wpIn_block ?_
  refine seq_region (live := [5, 4, 2, 1]) (orc := []) hF hI ⟨[⟨5, [], .v (.bool (x0.Kind == 1))⟩, ⟨4, [], .v (.int .i64 x0.Kind)⟩, ⟨2, [], .v (.bool false)⟩, ⟨1, [], .p 0 0⟩], [], [], [((((kd_Chan).cells x0 sv0).map EV.v), 74)], none, none⟩ [] (by kernel_rfl) trivial (fun ns_5 a w_6 hI _ => ?_)
  refine cond_ hI ((x0.Kind == 1)) rfl (fun hc_7 => ?_) (fun hc_7 => ?_)
  · replace H0 := bif_t hc_7 H0
    obtain ⟨t_8, hG_9, H0⟩ := bind_some H0
    refine seq_region (live := [2]) (orc := [[.bool t_8]]) hF hI ⟨[⟨2, [], .v (.bool t_8)⟩], [], [], [((((kd_Chan).cells x0 sv0).map EV.v), 74)], none, none⟩ [.call true 93 [.int .i64 x0.Period, .int .i64 0, .int .i64 1048576] (.bool t_8)] (by kernel_rfl) ⟨ob_call (enters Try.func93 (by kernel_rfl) rfl) (fun hg wz hk => G_defect_within.calls x0.Period 0 1048576  wz (S := fun _ => True)  _ hG_9), trivial⟩ (fun ns_10 a w_11 hI _ => ?_)
    refine wpIn_ret ?_
    refine inBlock_ret ?_
    refine then_ret ?_
    obtain rfl := Option.some.inj H0
    exact ret1 hI rfl rfl ⟨rfl, hE.below hI⟩
  · replace H0 := bif_f hc_7 H0
    refine seq_region (live := [10, 2, 1]) (orc := []) hF hI ⟨[⟨10, [], .v (.bool (x0.Kind == 2))⟩, ⟨2, [], .v (.bool false)⟩, ⟨1, [], .p 0 0⟩], [], [], [((((kd_Chan).cells x0 sv0).map EV.v), 74)], none, none⟩ [] (by kernel_rfl) trivial (fun ns_12 a w_13 hI _ => ?_)
    refine cond_ hI ((x0.Kind == 2)) rfl (fun hc_14 => ?_) (fun hc_14 => ?_)
    · replace H0 := bif_t hc_14 H0
      refine seq_region (live := [2]) (orc := []) hF hI ⟨[⟨2, [], .v (.bool (x0.Period == 0))⟩], [], [], [((((kd_Chan).cells x0 sv0).map EV.v), 74)], none, none⟩ [] (by kernel_rfl) trivial (fun ns_15 a w_16 hI _ => ?_)
      refine wpIn_ret ?_
      refine inBlock_ret ?_
      refine then_ret ?_
      obtain rfl := Option.some.inj H0
      exact ret1 hI rfl rfl ⟨rfl, hE.below hI⟩
    · replace H0 := bif_f hc_14 H0
      refine wpIn_skip ?_
      refine inBlock_normal ?_
      refine then_normal ?_
      refine seq_region (live := [2]) (orc := []) hF hI ⟨[⟨2, [], .v (.bool true)⟩], [], [], [((((kd_Chan).cells x0 sv0).map EV.v), 74)], none, none⟩ [] (by kernel_rfl) trivial (fun ns_17 a w_18 hI _ => ?_)
      refine wpIn_ret ?_
      obtain rfl := Option.some.inj H0
      exact ret1 hI rfl rfl ⟨rfl, hE.below hI⟩

/-! ### porthole/defect.rules$10: function 106 -/
noncomputable def G_defect_rules_10 (x0 : Config) (x1 : Chan) : Option (Bool) := ((G_defect_fresh x1).bind fun t_3 => some (!t_3))
set_option maxRecDepth 100000 in
set_option maxHeartbeats 4000000 in
theorem G_defect_rules_10.calls (x0 : Config) (x1 : Chan) (sv0 : SV) (sv1 : SV) (w : World) {S : Nat → Prop} (hx0 : (kd_Config).cont S w x0 sv0) (hx1 : (kd_Chan).cont S w x1 sv1) (r : Bool) (h : G_defect_rules_10 x0 x1 = some r) :
    Calls Try.prog 106 #[.agg ((kd_Config).cells x0 sv0).toArray, .agg ((kd_Chan).cells x1 (svL [])).toArray] w fun e w' => e = .returned (.bool r) ∧ Below w.heap.size w w' := by
  replace hx0 := Kd.lo _ hx0
  replace hx1 := Kd.lo _ hx1
  unfold G_defect_rules_10 at h
  have H0 := h
  clear h
  refine enter Try.func106 rfl [.agg ((kd_Config).cells x0 sv0).toArray, .agg ((kd_Chan).cells x1 (svL [])).toArray] (n := 8) rfl (Nat.le_of_ble_eq_true rfl) (fun a hI => ?_)
  have hF : FOpen Fence.wide := .inl rfl
  have hE := Ep.start w
  refine seq_region (live := [4, 3]) (orc := []) hF hI ⟨[⟨4, [], .v (.bool false)⟩, ⟨3, [], .p 1 0⟩], [], [], [((((kd_Config).cells x0 sv0).map EV.v), 29), ((((kd_Chan).cells x1 sv1).map EV.v), 74)], none, none⟩ [] (by kernel_rfl) trivial (fun ns_1 a w_2 hI _ => ?_)
  obtain ⟨t_3, hG_4, H0⟩ := bind_some H0
  refine seq_region (live := [4]) (orc := [[.bool t_3]]) hF hI ⟨[⟨4, [], .v (.bool (!t_3))⟩], [], [], [((((kd_Config).cells x0 sv0).map EV.v), 29), ((((kd_Chan).cells x1 sv1).map EV.v), 74)], none, none⟩ [.call true 107 [.agg ((kd_Chan).cells x1 (svL [])).toArray] (.bool t_3)] (by kernel_rfl) ⟨ob_call (enters Try.func107 (by kernel_rfl) rfl) (fun hg wz hk => G_defect_fresh.calls x1 (svL []) wz (S := fun _ => True) (Kd.any _ (Kd.keep kd_Chan (contI (S := Lo S w w [] []) (w := w) (d := kd_Chan) (x := x1) (sv := (svL [])) trivial) (Lo.on hk))) _ hG_4), trivial⟩ (fun ns_5 a w_6 hI _ => ?_)
  refine wpIn_ret ?_
  obtain rfl := Option.some.inj H0
  exact ret1 hI rfl rfl ⟨rfl, hE.below hI⟩

/-! ### porthole/defect.rules$11: function 108 -/
noncomputable def G_defect_rules_11 (x0 : Config) (x1 : Chan) : Option (Bool) := some ((x1.Kind == 1) && (x1.Boot != 0))
set_option maxRecDepth 100000 in
set_option maxHeartbeats 4000000 in
theorem G_defect_rules_11.calls (x0 : Config) (x1 : Chan) (sv0 : SV) (sv1 : SV) (w : World) {S : Nat → Prop} (hx0 : (kd_Config).cont S w x0 sv0) (hx1 : (kd_Chan).cont S w x1 sv1) (r : Bool) (h : G_defect_rules_11 x0 x1 = some r) :
    Calls Try.prog 108 #[.agg ((kd_Config).cells x0 sv0).toArray, .agg ((kd_Chan).cells x1 sv1).toArray] w fun e w' => e = .returned (.bool r) ∧ Below w.heap.size w w' := by
  replace hx0 := Kd.lo _ hx0
  replace hx1 := Kd.lo _ hx1
  unfold G_defect_rules_11 at h
  have H0 := h
  clear h
  refine enter Try.func108 rfl [.agg ((kd_Config).cells x0 sv0).toArray, .agg ((kd_Chan).cells x1 sv1).toArray] (n := 13) rfl (Nat.le_of_ble_eq_true rfl) (fun a hI => ?_)
  have hF : FOpen Fence.wide := .inl rfl
  have hE := Ep.start w
  refine seq_region (live := [4, 3]) (orc := []) hF hI ⟨[⟨4, [], .v (.bool false)⟩, ⟨3, [], .p 1 0⟩], [], [], [((((kd_Config).cells x0 sv0).map EV.v), 29), ((((kd_Chan).cells x1 sv1).map EV.v), 74)], none, none⟩ [] (by kernel_rfl) trivial (fun ns_1 a w_2 hI _ => ?_)
  refine seq_region (live := [4]) (orc := []) hF hI ⟨[⟨4, [], .v (.bool ((x1.Kind == 1) && (x1.Boot != 0)))⟩], [], [], [((((kd_Config).cells x0 sv0).map EV.v), 29), ((((kd_Chan).cells x1 sv1).map EV.v), 74)], none, none⟩ [] (by kernel_rfl) trivial (fun ns_3 a w_4 hI _ => ?_)
  refine wpIn_ret ?_
  obtain rfl := Option.some.inj H0
  exact ret1 hI rfl rfl ⟨rfl, hE.below hI⟩

end Go.Proofs.Ytnfnincmhobpaab
