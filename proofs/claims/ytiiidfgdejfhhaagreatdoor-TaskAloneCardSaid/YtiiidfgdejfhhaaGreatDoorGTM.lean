/- Mirrors of the walks' pure functions that can be computed. No statement of the seat is proved here. Conditions: none. -/
import Derived.Test.YtiiidfgdejfhhaaGreatDoorGT
set_option linter.unusedVariables false
set_option linter.unusedSimpArgs false
namespace Go.Proofs.YtiiidfgdejfhhaaGreatDoor
open Go Go.RowKit Go.Eng Go.Proofs

def Ole {α : Type} (x y : Option α) : Prop := ∀ r, x = some r → y = some r
theorem Ole.refl {α : Type} (x : Option α) : Ole x x := fun _ h => h
theorem Ole.none {α : Type} (x : Option α) : Ole .none x := fun _ h => by cases h
theorem Ole.bind {α β : Type} {x y : Option α} {f g : α → Option β} (h1 : Ole x y) (h2 : ∀ a, Ole (f a) (g a)) : Ole (x.bind f) (y.bind g) := fun r h => by
  cases x with
  | none => cases h
  | some a => rw [h1 a rfl]; exact h2 a r h
theorem Ole.bif {α : Type} {c : Bool} {x y x' y' : Option α} (h1 : Ole x x') (h2 : Ole y y') : Ole (bif c then x else y) (bif c then x' else y') := by cases c; exact h2; exact h1
theorem Ole.req {α : Type} {c : Bool} {x y : Option α} (h : Ole x y) : Ole (Eng.req c x) (Eng.req c y) := Ole.bif h (Ole.refl _)
theorem Ole.cal {α : Type} {c : Bool} {x y : Option α} {d : α} (h : Ole x y) : Ole (Eng.cal c x d) (Eng.cal c y d) := Ole.bif h (Ole.refl _)
theorem Ole.opt {α ρ : Type} {t : Option α} {a a' : Option ρ} {f f' : α → Option ρ} (h1 : Ole a a') (h2 : ∀ y, Ole (f y) (f' y)) : Ole (Eng.opt t a f) (Eng.opt t a' f') := by
  cases t with
  | none => exact h1
  | some y => exact h2 y
theorem Ole.exon {S R T : Type} {o : Ex S R} {f f' : S → Option T} {g g' : R → Option T} (h1 : ∀ s, Ole (f s) (f' s)) (h2 : ∀ r, Ole (g r) (g' r)) : Ole (o.on f g) (o.on f' g') := by
  cases o with
  | brk s => exact h1 s
  | ret r => exact h2 r
theorem Ole.stpon {S R T : Type} {o : Stp S R} {f f' : S → Option T} {g g' : R → Option T} (h1 : ∀ s, Ole (f s) (f' s)) (h2 : ∀ r, Ole (g r) (g' r)) : Ole (o.on f g) (o.on f' g') := by
  cases o with
  | next s => exact h1 s
  | out r => exact h2 r
def loopC {S O : Type} (B : S → Option (Stp S O)) (s : S) : Option O := iter B 100000 s
theorem iter_le {S O : Type} {B B' : S → Option (Stp S O)} (h : ∀ s, Ole (B s) (B' s)) : ∀ (k : Nat) (s : S), Ole (iter B k s) (iter B' k s)
  | 0, s => Ole.refl _
  | k + 1, s => fun r hr => by
    unfold iter at hr ⊢
    cases hb : B s with
    | none => rw [hb] at hr; cases hr
    | some x =>
      rw [hb] at hr
      rw [h s x hb]
      cases x with
      | next s' => exact iter_le h k s' r hr
      | out o => exact hr
theorem Ole.loop {S O : Type} {B B' : S → Option (Stp S O)} {s : S} (h : ∀ s, Ole (B s) (B' s)) : Ole (loopC B s) (loopω B' s) := fun r hr => loopω_of (iter_le h 100000 s r hr)

theorem Fn133.on_le {ρ : Type} (x : Fn133) {a0 : Option ρ} {a1 : Task_cell → Option ρ} {a0' : Option ρ} {a1' : Task_cell → Option ρ} (ha0 : Ole a0 a0') (ha1 : ∀ y, Ole (a1 y) (a1' y)) : Ole (x.on a0 a1) (x.on a0' a1') := by
  cases x with
  | nil => exact ha0
  | t221 y => exact ha1 y
def C_law13_example  : Option (Config) := some (⟨([(⟨0, 2⟩ : Part), (⟨1, 0⟩ : Part)] : List Part), ([(⟨1, 0, 1, 3, 0, 0, 0⟩ : Chan)] : List Chan), (⟨(⟨1, ([(⟨0, 0, 1⟩ : Window)] : List Window)⟩ : Frame), (⟨1, ([(⟨1, 0, 1⟩ : Window)] : List Window)⟩ : Frame)⟩ : St27)⟩ : Config)
theorem C_law13_example.le  : Ole (C_law13_example) (G_law13_example) := by
  unfold C_law13_example G_law13_example
  with_reducible repeat' first
   | exact Ole.refl _
def C_defect_All (x0 : Config) : Option (Config) := some x0
theorem C_defect_All.le (x0 : Config) : Ole (C_defect_All x0) (G_defect_All x0) := by
  unfold C_defect_All G_defect_All
  with_reducible repeat' first
   | exact Ole.refl _
def C_defect_part (x0 : Fn316) : Option (Defect_rule) := some (⟨(Fn37.f241 x0)⟩ : Defect_rule)
theorem C_defect_part.le (x0 : Fn316) : Ole (C_defect_part x0) (G_defect_part x0) := by
  unfold C_defect_part G_defect_part
  with_reducible repeat' first
   | exact Ole.refl _
def C_defect_channel (x0 : Fn318) : Option (Defect_rule) := some (⟨(Fn37.f243 x0)⟩ : Defect_rule)
theorem C_defect_channel.le (x0 : Fn318) : Ole (C_defect_channel x0) (G_defect_channel x0) := by
  unfold C_defect_channel G_defect_channel
  with_reducible repeat' first
   | exact Ole.refl _
def C_defect_frame (x0 : Fn181) : Option (Defect_rule) := some (⟨(Fn37.f246 x0)⟩ : Defect_rule)
theorem C_defect_frame.le (x0 : Fn181) : Ole (C_defect_frame x0) (G_defect_frame x0) := by
  unfold C_defect_frame G_defect_frame
  with_reducible repeat' first
   | exact Ole.refl _
def C_defect_window (x0 : Fn322) : Option (Defect_rule) := ((C_defect_frame (Fn181.f247 x0)).bind fun t_9 => some t_9)
theorem C_defect_window.le (x0 : Fn322) : Ole (C_defect_window x0) (G_defect_window x0) := by
  unfold C_defect_window G_defect_window
  with_reducible repeat' first
   | exact C_defect_frame.le _
   | refine Ole.bind ?_ (fun _ => ?_)
   | exact Ole.refl _
def C_defect_rules  : Option ((List Defect_rule)) := ((C_defect_part (Fn316.f214)).bind fun t_5 => ((C_defect_part (Fn316.f215)).bind fun t_10 => ((C_defect_channel (Fn318.f218)).bind fun t_17 => ((C_defect_channel (Fn318.f219)).bind fun t_22 => ((C_defect_channel (Fn318.f221)).bind fun t_27 => ((C_defect_channel (Fn318.f222)).bind fun t_32 => ((C_defect_channel (Fn318.f223)).bind fun t_37 => ((C_defect_channel (Fn318.f225)).bind fun t_42 => ((C_defect_channel (Fn318.f227)).bind fun t_47 => ((C_defect_frame (Fn181.f229)).bind fun t_52 => ((C_defect_frame (Fn181.f230)).bind fun t_57 => ((C_defect_window (Fn322.f232)).bind fun t_62 => ((C_defect_window (Fn322.f233)).bind fun t_67 => ((C_defect_frame (Fn181.f234)).bind fun t_72 => some ([(⟨(Fn37.f211)⟩ : Defect_rule), t_5, t_10, (⟨(Fn37.f216)⟩ : Defect_rule), t_17, t_22, t_27, t_32, t_37, t_42, t_47, t_52, t_57, t_62, t_67, t_72, (⟨(Fn37.f235)⟩ : Defect_rule)] : List Defect_rule)))))))))))))))
theorem C_defect_rules.le  : Ole (C_defect_rules) (G_defect_rules) := by
  unfold C_defect_rules G_defect_rules
  with_reducible repeat' first
   | exact C_defect_frame.le _
   | exact C_defect_window.le _
   | exact C_defect_part.le _
   | exact C_defect_channel.le _
   | refine Ole.bind ?_ (fun _ => ?_)
   | exact Ole.refl _
def C_defect_within (a0 : Int) (a1 : Int) (a2 : Int) : Option (Bool) := some (decide (a0 ≥ a1) && decide (a0 ≤ a2))
theorem C_defect_within.le (a0 : Int) (a1 : Int) (a2 : Int) : Ole (C_defect_within a0 a1 a2) (G_defect_within a0 a1 a2) := by
  unfold C_defect_within G_defect_within
  with_reducible repeat' first
   | exact Ole.refl _
def C_defect_rules_2 (x0 : Part) : Option (Bool) := ((C_defect_within x0.Core 0 1).bind fun t_3 => some (!t_3))
theorem C_defect_rules_2.le (x0 : Part) : Ole (C_defect_rules_2 x0) (G_defect_rules_2 x0) := by
  unfold C_defect_rules_2 G_defect_rules_2
  with_reducible repeat' first
   | exact C_defect_within.le _ _ _
   | refine Ole.bind ?_ (fun _ => ?_)
   | exact Ole.refl _
def C_defect_rules_3 (x0 : Part) : Option (Bool) := ((C_defect_within x0.Private 0 64).bind fun t_3 => some (!t_3))
theorem C_defect_rules_3.le (x0 : Part) : Ole (C_defect_rules_3 x0) (G_defect_rules_3 x0) := by
  unfold C_defect_rules_3 G_defect_rules_3
  with_reducible repeat' first
   | exact C_defect_within.le _ _ _
   | refine Ole.bind ?_ (fun _ => ?_)
   | exact Ole.refl _
def Fn316.runC (f : Fn316) (x0 : Part) : Option (Bool) := match f with
  | .f214 => C_defect_rules_2 x0
  | .f215 => C_defect_rules_3 x0
theorem Fn316.runC.le (f : Fn316) (x0 : Part) : Ole (Fn316.runC f x0) (Fn316.run f x0) := by
  cases f with
  | f214 => exact C_defect_rules_2.le x0
  | f215 => exact C_defect_rules_3.le x0
def C_api_Part_255.b1 (l0 : (List Part)) (x1 : Fn316) (s1 : Int × Int) : Option (Stp (Int × Int) (Ex (Int × Int) (Int))) := (bif decide (s1.1 < (l0.length : Int)) then (req (inb s1.1 l0.length) ((Fn316.runC x1 (rd l0 s1.1)).bind fun t_16 => (bif t_16 then some (.out (.ret s1.1)) else some (.next ((IntKind.i64.wrap (s1.1 + 1)), s1.2))))) else some (.out (.brk (s1.1, s1.2))))
theorem C_api_Part_255.b1.le (l0 : (List Part)) (x1 : Fn316) (s1 : Int × Int) : Ole (C_api_Part_255.b1 l0 x1 s1) (G_api_Part_255.b1 l0 x1 s1) := by
  unfold C_api_Part_255.b1 G_api_Part_255.b1
  with_reducible repeat' first
   | exact Fn316.runC.le _ _
   | refine Ole.bind ?_ (fun _ => ?_)
   | refine Ole.bif ?_ ?_
   | refine Ole.req ?_
   | exact Ole.refl _
def C_api_Part_255 (l0 : (List Part)) (x1 : Fn316) : Option (Int) := ((loopC (C_api_Part_255.b1 l0 x1) (0, 0)).bind fun o => o.on (fun s1 => some (-1)) (fun r => some r))
theorem C_api_Part_255.le (l0 : (List Part)) (x1 : Fn316) : Ole (C_api_Part_255 l0 x1) (G_api_Part_255 l0 x1) := by
  unfold C_api_Part_255 G_api_Part_255
  with_reducible repeat' first
   | exact C_api_Part_255.b1.le _ _ _
   | refine Ole.bind ?_ (fun _ => ?_)
   | refine Ole.loop (fun _ => ?_)
   | refine Ole.exon (fun _ => ?_) (fun _ => ?_)
   | exact Ole.refl _
def C_api_Part_242 (l0 : (List Part)) (x1 : Fn316) : Option (Bool) := ((C_api_Part_255 l0 x1).bind fun t_3 => some (decide (t_3 ≥ 0)))
theorem C_api_Part_242.le (l0 : (List Part)) (x1 : Fn316) : Ole (C_api_Part_242 l0 x1) (G_api_Part_242 l0 x1) := by
  unfold C_api_Part_242 G_api_Part_242
  with_reducible repeat' first
   | exact C_api_Part_255.le _ _
   | refine Ole.bind ?_ (fun _ => ?_)
   | exact Ole.refl _
def C_defect_part_1 (x0 : Config) (y1 : Fn316) : Option (Bool) := ((C_api_Part_242 x0.Parts y1).bind fun t_3 => some t_3)
theorem C_defect_part_1.le (x0 : Config) (y1 : Fn316) : Ole (C_defect_part_1 x0 y1) (G_defect_part_1 x0 y1) := by
  unfold C_defect_part_1 G_defect_part_1
  with_reducible repeat' first
   | exact C_api_Part_242.le _ _
   | refine Ole.bind ?_ (fun _ => ?_)
   | exact Ole.refl _
def C_defect_rules_5 (x0 : Config) (x1 : Chan) : Option (Bool) := some ((x1.Kind != 1) && (x1.Kind != 2))
theorem C_defect_rules_5.le (x0 : Config) (x1 : Chan) : Ole (C_defect_rules_5 x0 x1) (G_defect_rules_5 x0 x1) := by
  unfold C_defect_rules_5 G_defect_rules_5
  with_reducible repeat' first
   | exact Ole.refl _
def C_defect_strange (x0 : Config) (a1 : Int) : Option (Bool) := ((C_defect_within a1 0 (IntKind.i64.wrap ((x0.Parts.length : Int) - 1))).bind fun t_3 => some (!t_3))
theorem C_defect_strange.le (x0 : Config) (a1 : Int) : Ole (C_defect_strange x0 a1) (G_defect_strange x0 a1) := by
  unfold C_defect_strange G_defect_strange
  with_reducible repeat' first
   | exact C_defect_within.le _ _ _
   | refine Ole.bind ?_ (fun _ => ?_)
   | exact Ole.refl _
def C_defect_rules_6 (x0 : Config) (x1 : Chan) : Option (Bool) := ((C_defect_strange x0 x1.From).bind fun t_3 => ((cal (!t_3) (C_defect_strange x0 x1.To) default).bind fun t_5 => some (t_3 || t_5)))
theorem C_defect_rules_6.le (x0 : Config) (x1 : Chan) : Ole (C_defect_rules_6 x0 x1) (G_defect_rules_6 x0 x1) := by
  unfold C_defect_rules_6 G_defect_rules_6
  with_reducible repeat' first
   | exact C_defect_strange.le _ _
   | refine Ole.bind ?_ (fun _ => ?_)
   | refine Ole.cal ?_
   | exact Ole.refl _
def C_defect_rules_7 (x0 : Config) (x1 : Chan) : Option (Bool) := some (x1.From == x1.To)
theorem C_defect_rules_7.le (x0 : Config) (x1 : Chan) : Ole (C_defect_rules_7 x0 x1) (G_defect_rules_7 x0 x1) := by
  unfold C_defect_rules_7 G_defect_rules_7
  with_reducible repeat' first
   | exact Ole.refl _
def C_defect_rules_8 (x0 : Config) (x1 : Chan) : Option (Bool) := ((C_defect_within x1.Words 1 16).bind fun t_3 => some (!t_3))
theorem C_defect_rules_8.le (x0 : Config) (x1 : Chan) : Ole (C_defect_rules_8 x0 x1) (G_defect_rules_8 x0 x1) := by
  unfold C_defect_rules_8 G_defect_rules_8
  with_reducible repeat' first
   | exact C_defect_within.le _ _ _
   | refine Ole.bind ?_ (fun _ => ?_)
   | exact Ole.refl _
def C_defect_deep (x0 : Chan) : Option (Bool) := (bif (x0.Kind == 1) then some (x0.Depth == 0) else (bif (x0.Kind == 2) then some ((((x0.Depth == 1) || (x0.Depth == 2)) || (x0.Depth == 4)) || (x0.Depth == 8)) else some true))
theorem C_defect_deep.le (x0 : Chan) : Ole (C_defect_deep x0) (G_defect_deep x0) := by
  unfold C_defect_deep G_defect_deep
  with_reducible repeat' first
   | refine Ole.bif ?_ ?_
   | exact Ole.refl _
def C_defect_rules_9 (x0 : Config) (x1 : Chan) : Option (Bool) := ((C_defect_deep x1).bind fun t_3 => some (!t_3))
theorem C_defect_rules_9.le (x0 : Config) (x1 : Chan) : Ole (C_defect_rules_9 x0 x1) (G_defect_rules_9 x0 x1) := by
  unfold C_defect_rules_9 G_defect_rules_9
  with_reducible repeat' first
   | exact C_defect_deep.le _
   | refine Ole.bind ?_ (fun _ => ?_)
   | exact Ole.refl _
def C_defect_fresh (x0 : Chan) : Option (Bool) := (bif (x0.Kind == 1) then ((C_defect_within x0.Period 0 1048576).bind fun t_8 => some t_8) else (bif (x0.Kind == 2) then some (x0.Period == 0) else some true))
theorem C_defect_fresh.le (x0 : Chan) : Ole (C_defect_fresh x0) (G_defect_fresh x0) := by
  unfold C_defect_fresh G_defect_fresh
  with_reducible repeat' first
   | exact C_defect_within.le _ _ _
   | refine Ole.bind ?_ (fun _ => ?_)
   | refine Ole.bif ?_ ?_
   | exact Ole.refl _
def C_defect_rules_10 (x0 : Config) (x1 : Chan) : Option (Bool) := ((C_defect_fresh x1).bind fun t_3 => some (!t_3))
theorem C_defect_rules_10.le (x0 : Config) (x1 : Chan) : Ole (C_defect_rules_10 x0 x1) (G_defect_rules_10 x0 x1) := by
  unfold C_defect_rules_10 G_defect_rules_10
  with_reducible repeat' first
   | exact C_defect_fresh.le _
   | refine Ole.bind ?_ (fun _ => ?_)
   | exact Ole.refl _
def C_defect_rules_11 (x0 : Config) (x1 : Chan) : Option (Bool) := some ((x1.Kind == 1) && (x1.Boot != 0))
theorem C_defect_rules_11.le (x0 : Config) (x1 : Chan) : Ole (C_defect_rules_11 x0 x1) (G_defect_rules_11 x0 x1) := by
  unfold C_defect_rules_11 G_defect_rules_11
  with_reducible repeat' first
   | exact Ole.refl _
def Fn318.runC (f : Fn318) (x0 : Config) (x1 : Chan) : Option (Bool) := match f with
  | .f218 => C_defect_rules_5 x0 x1
  | .f219 => C_defect_rules_6 x0 x1
  | .f221 => C_defect_rules_7 x0 x1
  | .f222 => C_defect_rules_8 x0 x1
  | .f223 => C_defect_rules_9 x0 x1
  | .f225 => C_defect_rules_10 x0 x1
  | .f227 => C_defect_rules_11 x0 x1
theorem Fn318.runC.le (f : Fn318) (x0 : Config) (x1 : Chan) : Ole (Fn318.runC f x0 x1) (Fn318.run f x0 x1) := by
  cases f with
  | f218 => exact C_defect_rules_5.le x0 x1
  | f219 => exact C_defect_rules_6.le x0 x1
  | f221 => exact C_defect_rules_7.le x0 x1
  | f222 => exact C_defect_rules_8.le x0 x1
  | f223 => exact C_defect_rules_9.le x0 x1
  | f225 => exact C_defect_rules_10.le x0 x1
  | f227 => exact C_defect_rules_11.le x0 x1
def C_defect_channel_1_1 (x0 : Chan) (y1 : Fn318) (y2 : Config) : Option (Bool) := ((Fn318.runC y1 y2 x0).bind fun t_3 => some t_3)
theorem C_defect_channel_1_1.le (x0 : Chan) (y1 : Fn318) (y2 : Config) : Ole (C_defect_channel_1_1 x0 y1 y2) (G_defect_channel_1_1 x0 y1 y2) := by
  unfold C_defect_channel_1_1 G_defect_channel_1_1
  with_reducible repeat' first
   | exact Fn318.runC.le _ _ _
   | refine Ole.bind ?_ (fun _ => ?_)
   | exact Ole.refl _
def Fn319.runC (f : Fn319) (x0 : Chan) : Option (Bool) := match f with
  | .f245 c0 c1 => C_defect_channel_1_1 x0 c0 c1
theorem Fn319.runC.le (f : Fn319) (x0 : Chan) : Ole (Fn319.runC f x0) (Fn319.run f x0) := by
  cases f with
  | f245 c0 c1 => exact C_defect_channel_1_1.le x0 c0 c1
def C_api_Chan_256.b1 (l0 : (List Chan)) (x1 : Fn319) (s1 : Int × Int) : Option (Stp (Int × Int) (Ex (Int × Int) (Int))) := (bif decide (s1.1 < (l0.length : Int)) then (req (inb s1.1 l0.length) ((Fn319.runC x1 (rd l0 s1.1)).bind fun t_16 => (bif t_16 then some (.out (.ret s1.1)) else some (.next ((IntKind.i64.wrap (s1.1 + 1)), s1.2))))) else some (.out (.brk (s1.1, s1.2))))
theorem C_api_Chan_256.b1.le (l0 : (List Chan)) (x1 : Fn319) (s1 : Int × Int) : Ole (C_api_Chan_256.b1 l0 x1 s1) (G_api_Chan_256.b1 l0 x1 s1) := by
  unfold C_api_Chan_256.b1 G_api_Chan_256.b1
  with_reducible repeat' first
   | exact Fn319.runC.le _ _
   | refine Ole.bind ?_ (fun _ => ?_)
   | refine Ole.bif ?_ ?_
   | refine Ole.req ?_
   | exact Ole.refl _
def C_api_Chan_256 (l0 : (List Chan)) (x1 : Fn319) : Option (Int) := ((loopC (C_api_Chan_256.b1 l0 x1) (0, 0)).bind fun o => o.on (fun s1 => some (-1)) (fun r => some r))
theorem C_api_Chan_256.le (l0 : (List Chan)) (x1 : Fn319) : Ole (C_api_Chan_256 l0 x1) (G_api_Chan_256 l0 x1) := by
  unfold C_api_Chan_256 G_api_Chan_256
  with_reducible repeat' first
   | exact C_api_Chan_256.b1.le _ _ _
   | refine Ole.bind ?_ (fun _ => ?_)
   | refine Ole.loop (fun _ => ?_)
   | refine Ole.exon (fun _ => ?_) (fun _ => ?_)
   | exact Ole.refl _
def C_api_Chan_244 (l0 : (List Chan)) (x1 : Fn319) : Option (Bool) := ((C_api_Chan_256 l0 x1).bind fun t_3 => some (decide (t_3 ≥ 0)))
theorem C_api_Chan_244.le (l0 : (List Chan)) (x1 : Fn319) : Ole (C_api_Chan_244 l0 x1) (G_api_Chan_244 l0 x1) := by
  unfold C_api_Chan_244 G_api_Chan_244
  with_reducible repeat' first
   | exact C_api_Chan_256.le _ _
   | refine Ole.bind ?_ (fun _ => ?_)
   | exact Ole.refl _
def C_defect_channel_1 (x0 : Config) (y1 : Fn318) : Option (Bool) := ((C_api_Chan_244 x0.Chans (Fn319.f245 y1 x0)).bind fun t_11 => some t_11)
theorem C_defect_channel_1.le (x0 : Config) (y1 : Fn318) : Ole (C_defect_channel_1 x0 y1) (G_defect_channel_1 x0 y1) := by
  unfold C_defect_channel_1 G_defect_channel_1
  with_reducible repeat' first
   | exact C_api_Chan_244.le _ _
   | refine Ole.bind ?_ (fun _ => ?_)
   | exact Ole.refl _
def C_defect_foreign (x0 : Config) (a1 : Int) (x2 : Window) : Option (Bool) := ((C_defect_strange x0 x2.Part).bind fun t_3 => (req (imp (!t_3) (inb x2.Part x0.Parts.length)) (some (t_3 || (((rd x0.Parts x2.Part).Core) != a1)))))
theorem C_defect_foreign.le (x0 : Config) (a1 : Int) (x2 : Window) : Ole (C_defect_foreign x0 a1 x2) (G_defect_foreign x0 a1 x2) := by
  unfold C_defect_foreign G_defect_foreign
  with_reducible repeat' first
   | exact C_defect_strange.le _ _
   | refine Ole.bind ?_ (fun _ => ?_)
   | refine Ole.req ?_
   | exact Ole.refl _
def C_defect_beyond (x0 : Window) (a1 : Int) : Option (Bool) := some (decide (x0.Start > a1) || decide (x0.Len > (IntKind.i64.wrap (a1 - x0.Start))))
theorem C_defect_beyond.le (x0 : Window) (a1 : Int) : Ole (C_defect_beyond x0 a1) (G_defect_beyond x0 a1) := by
  unfold C_defect_beyond G_defect_beyond
  with_reducible repeat' first
   | exact Ole.refl _
def C_defect_outside (x0 : Config) (a1 : Int) (x2 : Window) : Option (Bool) := (req (imp (!(decide (x2.Start < 0) || decide (x2.Len < 1))) (inb a1 2)) ((cal (!(decide (x2.Start < 0) || decide (x2.Len < 1))) (C_defect_beyond x2 ((rdA_St27 x0.Frames a1).Length)) default).bind fun t_10 => some ((decide (x2.Start < 0) || decide (x2.Len < 1)) || t_10)))
theorem C_defect_outside.le (x0 : Config) (a1 : Int) (x2 : Window) : Ole (C_defect_outside x0 a1 x2) (G_defect_outside x0 a1 x2) := by
  unfold C_defect_outside G_defect_outside
  with_reducible repeat' first
   | exact C_defect_beyond.le _ _
   | refine Ole.bind ?_ (fun _ => ?_)
   | refine Ole.req ?_
   | refine Ole.cal ?_
   | exact Ole.refl _
def Fn322.runC (f : Fn322) (x0 : Config) (a1 : Int) (x2 : Window) : Option (Bool) := match f with
  | .f232 => C_defect_foreign x0 a1 x2
  | .f233 => C_defect_outside x0 a1 x2
theorem Fn322.runC.le (f : Fn322) (x0 : Config) (a1 : Int) (x2 : Window) : Ole (Fn322.runC f x0 a1 x2) (Fn322.run f x0 a1 x2) := by
  cases f with
  | f232 => exact C_defect_foreign.le x0 a1 x2
  | f233 => exact C_defect_outside.le x0 a1 x2
def C_defect_window_1_1 (x0 : Window) (y1 : Fn322) (y2 : Config) (y3 : Int) : Option (Bool) := ((Fn322.runC y1 y2 y3 x0).bind fun t_3 => some t_3)
theorem C_defect_window_1_1.le (x0 : Window) (y1 : Fn322) (y2 : Config) (y3 : Int) : Ole (C_defect_window_1_1 x0 y1 y2 y3) (G_defect_window_1_1 x0 y1 y2 y3) := by
  unfold C_defect_window_1_1 G_defect_window_1_1
  with_reducible repeat' first
   | exact Fn322.runC.le _ _ _ _
   | refine Ole.bind ?_ (fun _ => ?_)
   | exact Ole.refl _
def C_defect_idle_1 (x0 : Window) (y1 : Int) : Option (Bool) := some (x0.Part == y1)
theorem C_defect_idle_1.le (x0 : Window) (y1 : Int) : Ole (C_defect_idle_1 x0 y1) (G_defect_idle_1 x0 y1) := by
  unfold C_defect_idle_1 G_defect_idle_1
  with_reducible repeat' first
   | exact Ole.refl _
def Fn328.runC (f : Fn328) (x0 : Window) : Option (Bool) := match f with
  | .f249 c0 c1 c2 => C_defect_window_1_1 x0 c0 c1 c2
  | .f252 c0 => C_defect_idle_1 x0 c0
theorem Fn328.runC.le (f : Fn328) (x0 : Window) : Ole (Fn328.runC f x0) (Fn328.run f x0) := by
  cases f with
  | f249 c0 c1 c2 => exact C_defect_window_1_1.le x0 c0 c1 c2
  | f252 c0 => exact C_defect_idle_1.le x0 c0
def C_api_Window_257.b1 (l0 : (List Window)) (x1 : Fn328) (s1 : Int × Int) : Option (Stp (Int × Int) (Ex (Int × Int) (Int))) := (bif decide (s1.1 < (l0.length : Int)) then (req (inb s1.1 l0.length) ((Fn328.runC x1 (rd l0 s1.1)).bind fun t_16 => (bif t_16 then some (.out (.ret s1.1)) else some (.next ((IntKind.i64.wrap (s1.1 + 1)), s1.2))))) else some (.out (.brk (s1.1, s1.2))))
theorem C_api_Window_257.b1.le (l0 : (List Window)) (x1 : Fn328) (s1 : Int × Int) : Ole (C_api_Window_257.b1 l0 x1 s1) (G_api_Window_257.b1 l0 x1 s1) := by
  unfold C_api_Window_257.b1 G_api_Window_257.b1
  with_reducible repeat' first
   | exact Fn328.runC.le _ _
   | refine Ole.bind ?_ (fun _ => ?_)
   | refine Ole.bif ?_ ?_
   | refine Ole.req ?_
   | exact Ole.refl _
def C_api_Window_257 (l0 : (List Window)) (x1 : Fn328) : Option (Int) := ((loopC (C_api_Window_257.b1 l0 x1) (0, 0)).bind fun o => o.on (fun s1 => some (-1)) (fun r => some r))
theorem C_api_Window_257.le (l0 : (List Window)) (x1 : Fn328) : Ole (C_api_Window_257 l0 x1) (G_api_Window_257 l0 x1) := by
  unfold C_api_Window_257 G_api_Window_257
  with_reducible repeat' first
   | exact C_api_Window_257.b1.le _ _ _
   | refine Ole.bind ?_ (fun _ => ?_)
   | refine Ole.loop (fun _ => ?_)
   | refine Ole.exon (fun _ => ?_) (fun _ => ?_)
   | exact Ole.refl _
def C_api_Window_248 (l0 : (List Window)) (x1 : Fn328) : Option (Bool) := ((C_api_Window_257 l0 x1).bind fun t_3 => some (decide (t_3 ≥ 0)))
theorem C_api_Window_248.le (l0 : (List Window)) (x1 : Fn328) : Ole (C_api_Window_248 l0 x1) (G_api_Window_248 l0 x1) := by
  unfold C_api_Window_248 G_api_Window_248
  with_reducible repeat' first
   | exact C_api_Window_257.le _ _
   | refine Ole.bind ?_ (fun _ => ?_)
   | exact Ole.refl _
def C_defect_window_1 (x0 : Config) (a1 : Int) (y2 : Fn322) : Option (Bool) := (req (inb a1 2) ((C_api_Window_248 ((rdA_St27 x0.Frames a1).Windows) (Fn328.f249 y2 x0 a1)).bind fun t_18 => some t_18))
theorem C_defect_window_1.le (x0 : Config) (a1 : Int) (y2 : Fn322) : Ole (C_defect_window_1 x0 a1 y2) (G_defect_window_1 x0 a1 y2) := by
  unfold C_defect_window_1 G_defect_window_1
  with_reducible repeat' first
   | exact C_api_Window_248.le _ _
   | refine Ole.bind ?_ (fun _ => ?_)
   | refine Ole.req ?_
   | exact Ole.refl _
def C_defect_rules_12 (x0 : Config) (a1 : Int) : Option (Bool) := (req (inb a1 2) ((C_defect_within ((rdA_St27 x0.Frames a1).Length) 1 64).bind fun t_10 => some (!t_10)))
theorem C_defect_rules_12.le (x0 : Config) (a1 : Int) : Ole (C_defect_rules_12 x0 a1) (G_defect_rules_12 x0 a1) := by
  unfold C_defect_rules_12 G_defect_rules_12
  with_reducible repeat' first
   | exact C_defect_within.le _ _ _
   | refine Ole.bind ?_ (fun _ => ?_)
   | refine Ole.req ?_
   | exact Ole.refl _
def C_defect_rules_13 (x0 : Config) (a1 : Int) : Option (Bool) := (req (inb a1 2) (some (decide ((((rdA_St27 x0.Frames a1).Windows).length : Int) > 16))))
theorem C_defect_rules_13.le (x0 : Config) (a1 : Int) : Ole (C_defect_rules_13 x0 a1) (G_defect_rules_13 x0 a1) := by
  unfold C_defect_rules_13 G_defect_rules_13
  with_reducible repeat' first
   | refine Ole.req ?_
   | exact Ole.refl _
def C_defect_small.b1 (l0 : (List Int)) (s1 : Int × Bool) : Option (Stp (Int × Bool) (Ex (Int × Bool) (Bool))) := (bif decide (s1.1 < (l0.length : Int)) then (req (inb s1.1 l0.length) ((C_defect_within (rd l0 s1.1) 0 4294967295).bind fun t_16 => (bif (!t_16) then some (.out (.ret false)) else some (.next ((IntKind.i64.wrap (s1.1 + 1)), s1.2))))) else some (.out (.brk (s1.1, s1.2))))
theorem C_defect_small.b1.le (l0 : (List Int)) (s1 : Int × Bool) : Ole (C_defect_small.b1 l0 s1) (G_defect_small.b1 l0 s1) := by
  unfold C_defect_small.b1 G_defect_small.b1
  with_reducible repeat' first
   | exact C_defect_within.le _ _ _
   | refine Ole.bind ?_ (fun _ => ?_)
   | refine Ole.bif ?_ ?_
   | refine Ole.req ?_
   | exact Ole.refl _
def C_defect_small (l0 : (List Int)) : Option (Bool) := ((loopC (C_defect_small.b1 l0) (0, false)).bind fun o => o.on (fun s1 => some true) (fun r => some r))
theorem C_defect_small.le (l0 : (List Int)) : Ole (C_defect_small l0) (G_defect_small l0) := by
  unfold C_defect_small G_defect_small
  with_reducible repeat' first
   | exact C_defect_small.b1.le _ _
   | refine Ole.bind ?_ (fun _ => ?_)
   | refine Ole.loop (fun _ => ?_)
   | refine Ole.exon (fun _ => ?_) (fun _ => ?_)
   | exact Ole.refl _
def C_defect_crossed.b1 (x0 : Config) (a1 : Int) (s1 : Int × Bool) : Option (Stp (Int × Bool) (Ex (Int × Bool) (Bool))) := (bif decide (s1.1 < (((rdA_St27 x0.Frames a1).Windows).length : Int)) then (req (inb (IntKind.i64.wrap (s1.1 - 1)) ((rdA_St27 x0.Frames a1).Windows).length) (req (inb s1.1 ((rdA_St27 x0.Frames a1).Windows).length) ((C_defect_small ([(rd ((rdA_St27 x0.Frames a1).Windows) (IntKind.i64.wrap (s1.1 - 1))).Start, (rd ((rdA_St27 x0.Frames a1).Windows) (IntKind.i64.wrap (s1.1 - 1))).Len, (rd ((rdA_St27 x0.Frames a1).Windows) s1.1).Start] : List Int)).bind fun t_35 => (bif (t_35 && decide (((rd ((rdA_St27 x0.Frames a1).Windows) s1.1).Start) < (IntKind.i64.wrap (((rd ((rdA_St27 x0.Frames a1).Windows) (IntKind.i64.wrap (s1.1 - 1))).Start) + ((rd ((rdA_St27 x0.Frames a1).Windows) (IntKind.i64.wrap (s1.1 - 1))).Len))))) then some (.out (.ret true)) else some (.next ((IntKind.i64.wrap (s1.1 + 1)), s1.2)))))) else some (.out (.brk (s1.1, s1.2))))
theorem C_defect_crossed.b1.le (x0 : Config) (a1 : Int) (s1 : Int × Bool) : Ole (C_defect_crossed.b1 x0 a1 s1) (G_defect_crossed.b1 x0 a1 s1) := by
  unfold C_defect_crossed.b1 G_defect_crossed.b1
  with_reducible repeat' first
   | exact C_defect_small.le _
   | refine Ole.bind ?_ (fun _ => ?_)
   | refine Ole.bif ?_ ?_
   | refine Ole.req ?_
   | exact Ole.refl _
def C_defect_crossed (x0 : Config) (a1 : Int) : Option (Bool) := (req (inb a1 2) ((loopC (C_defect_crossed.b1 x0 a1) (1, false)).bind fun o => o.on (fun s1 => some false) (fun r => some r)))
theorem C_defect_crossed.le (x0 : Config) (a1 : Int) : Ole (C_defect_crossed x0 a1) (G_defect_crossed x0 a1) := by
  unfold C_defect_crossed G_defect_crossed
  with_reducible repeat' first
   | exact C_defect_crossed.b1.le _ _ _
   | refine Ole.bind ?_ (fun _ => ?_)
   | refine Ole.req ?_
   | refine Ole.loop (fun _ => ?_)
   | refine Ole.exon (fun _ => ?_) (fun _ => ?_)
   | exact Ole.refl _
def Fn181.runC (f : Fn181) (x0 : Config) (a1 : Int) : Option (Bool) := match f with
  | .f247 c0 => C_defect_window_1 x0 a1 c0
  | .f229 => C_defect_rules_12 x0 a1
  | .f230 => C_defect_rules_13 x0 a1
  | .f234 => C_defect_crossed x0 a1
theorem Fn181.runC.le (f : Fn181) (x0 : Config) (a1 : Int) : Ole (Fn181.runC f x0 a1) (Fn181.run f x0 a1) := by
  cases f with
  | f247 c0 => exact C_defect_window_1.le x0 a1 c0
  | f229 => exact C_defect_rules_12.le x0 a1
  | f230 => exact C_defect_rules_13.le x0 a1
  | f234 => exact C_defect_crossed.le x0 a1
def C_defect_frame_1 (x0 : Config) (y1 : Fn181) : Option (Bool) := ((Fn181.runC y1 x0 0).bind fun t_3 => ((cal (!t_3) (Fn181.runC y1 x0 1) default).bind fun t_5 => some (t_3 || t_5)))
theorem C_defect_frame_1.le (x0 : Config) (y1 : Fn181) : Ole (C_defect_frame_1 x0 y1) (G_defect_frame_1 x0 y1) := by
  unfold C_defect_frame_1 G_defect_frame_1
  with_reducible repeat' first
   | exact Fn181.runC.le _ _ _
   | refine Ole.bind ?_ (fun _ => ?_)
   | refine Ole.cal ?_
   | exact Ole.refl _
def C_defect_rules_1 (x0 : Config) : Option (Bool) := ((C_defect_within (x0.Parts.length : Int) 1 6).bind fun t_3 => some (!t_3))
theorem C_defect_rules_1.le (x0 : Config) : Ole (C_defect_rules_1 x0) (G_defect_rules_1 x0) := by
  unfold C_defect_rules_1 G_defect_rules_1
  with_reducible repeat' first
   | exact C_defect_within.le _ _ _
   | refine Ole.bind ?_ (fun _ => ?_)
   | exact Ole.refl _
def C_defect_rules_4 (x0 : Config) : Option (Bool) := some (decide ((x0.Chans.length : Int) > 8))
theorem C_defect_rules_4.le (x0 : Config) : Ole (C_defect_rules_4 x0) (G_defect_rules_4 x0) := by
  unfold C_defect_rules_4 G_defect_rules_4
  with_reducible repeat' first
   | exact Ole.refl _
def C_defect_idle.b1 (x0 : Config) (s1 : Int × Bool) : Option (Stp (Int × Bool) (Ex (Int × Bool) (Bool))) := (bif decide (s1.1 < (x0.Parts.length : Int)) then (req (inb s1.1 x0.Parts.length) ((C_defect_within ((rd x0.Parts s1.1).Core) 0 1).bind fun t_29 => (req (imp (!(!t_29)) (inb ((rd x0.Parts s1.1).Core) 2)) ((cal (!(!t_29)) (C_api_Window_248 ((rdA_St27 x0.Frames ((rd x0.Parts s1.1).Core)).Windows) (Fn328.f252 s1.1)) default).bind fun t_34 => (bif ((!t_29) || (!t_34)) then some (.out (.ret true)) else some (.next ((IntKind.i64.wrap (s1.1 + 1)), s1.2))))))) else some (.out (.brk (s1.1, s1.2))))
theorem C_defect_idle.b1.le (x0 : Config) (s1 : Int × Bool) : Ole (C_defect_idle.b1 x0 s1) (G_defect_idle.b1 x0 s1) := by
  unfold C_defect_idle.b1 G_defect_idle.b1
  with_reducible repeat' first
   | exact C_api_Window_248.le _ _
   | exact C_defect_within.le _ _ _
   | refine Ole.bind ?_ (fun _ => ?_)
   | refine Ole.bif ?_ ?_
   | refine Ole.req ?_
   | refine Ole.cal ?_
   | exact Ole.refl _
def C_defect_idle (x0 : Config) : Option (Bool) := ((loopC (C_defect_idle.b1 x0) (0, false)).bind fun o => o.on (fun s1 => some false) (fun r => some r))
theorem C_defect_idle.le (x0 : Config) : Ole (C_defect_idle x0) (G_defect_idle x0) := by
  unfold C_defect_idle G_defect_idle
  with_reducible repeat' first
   | exact C_defect_idle.b1.le _ _
   | refine Ole.bind ?_ (fun _ => ?_)
   | refine Ole.loop (fun _ => ?_)
   | refine Ole.exon (fun _ => ?_) (fun _ => ?_)
   | exact Ole.refl _
def Fn37.runC (f : Fn37) (x0 : Config) : Option (Bool) := match f with
  | .f241 c0 => C_defect_part_1 x0 c0
  | .f243 c0 => C_defect_channel_1 x0 c0
  | .f246 c0 => C_defect_frame_1 x0 c0
  | .f211 => C_defect_rules_1 x0
  | .f216 => C_defect_rules_4 x0
  | .f235 => C_defect_idle x0
theorem Fn37.runC.le (f : Fn37) (x0 : Config) : Ole (Fn37.runC f x0) (Fn37.run f x0) := by
  cases f with
  | f241 c0 => exact C_defect_part_1.le x0 c0
  | f243 c0 => exact C_defect_channel_1.le x0 c0
  | f246 c0 => exact C_defect_frame_1.le x0 c0
  | f211 => exact C_defect_rules_1.le x0
  | f216 => exact C_defect_rules_4.le x0
  | f235 => exact C_defect_idle.le x0
def C_defect_All_1.b1 {σt R : Type} (bd : σt → (Int) → Option (Stp σt R)) (s0 : σt) (y1 : Config) (t_1 : (List Defect_rule)) (s1 : Int × σt) : Option (Stp (Int × σt) (Ex (Int × σt) (Stp σt R))) := (bif decide (s1.1 < (t_1.length : Int)) then (req (inb s1.1 t_1.length) ((Fn37.runC ((rd t_1 s1.1).holds) y1).bind fun t_17 => (bif t_17 then ((bd s1.2 (IntKind.i64.wrap (s1.1 + 1))).bind fun z => z.on (fun s_30 => some (.next ((IntKind.i64.wrap (s1.1 + 1)), s_30))) (fun r_31 => some (.out (.ret (.out r_31))))) else some (.next ((IntKind.i64.wrap (s1.1 + 1)), s1.2))))) else some (.out (.brk (s1.1, s1.2))))
theorem C_defect_All_1.b1.le {σt R : Type} (bd bd' : σt → (Int) → Option (Stp σt R)) (s0 : σt) (y1 : Config) (t_1 : (List Defect_rule)) (s1 : Int × σt) (hbd : ∀ s x, Ole (bd s x) (bd' s x)) : Ole (C_defect_All_1.b1 bd s0 y1 t_1 s1) (G_defect_All_1.b1 bd' s0 y1 t_1 s1) := by
  unfold C_defect_All_1.b1 G_defect_All_1.b1
  with_reducible repeat' first
   | exact Fn37.runC.le _ _
   | exact hbd _ _
   | refine Ole.bind ?_ (fun _ => ?_)
   | refine Ole.bif ?_ ?_
   | refine Ole.req ?_
   | refine Ole.stpon (fun _ => ?_) (fun _ => ?_)
   | exact Ole.refl _
def C_defect_All_1 {σt R : Type} (bd : σt → (Int) → Option (Stp σt R)) (s0 : σt) (y1 : Config) : Option (Stp σt R) := ((C_defect_rules).bind fun t_1 => ((loopC (C_defect_All_1.b1 bd s0 y1 t_1) (0, s0)).bind fun o => o.on (fun s1 => some (.next s1.2)) (fun r => some r)))
theorem C_defect_All_1.le {σt R : Type} (bd bd' : σt → (Int) → Option (Stp σt R)) (s0 : σt) (y1 : Config) (hbd : ∀ s x, Ole (bd s x) (bd' s x)) : Ole (C_defect_All_1 bd s0 y1) (G_defect_All_1 bd' s0 y1) := by
  unfold C_defect_All_1 G_defect_All_1
  with_reducible repeat' first
   | exact C_defect_rules.le
   | refine C_defect_All_1.b1.le _ _ _ _ _ _ (fun _ _ => ?_)
   | exact hbd _ _
   | refine Ole.bind ?_ (fun _ => ?_)
   | refine Ole.loop (fun _ => ?_)
   | refine Ole.exon (fun _ => ?_) (fun _ => ?_)
   | exact Ole.refl _
def C_defect_First.r1 (x0 : Config) (t_5 : Config) (s1 : Int) (y_23 : Int) : Option (Stp (Int) (Nat × (Int))) := some (.out (0, y_23))
theorem C_defect_First.r1.le (x0 : Config) (t_5 : Config) (s1 : Int) (y_23 : Int) : Ole (C_defect_First.r1 x0 t_5 s1 y_23) (G_defect_First.r1 x0 t_5 s1 y_23) := by
  unfold C_defect_First.r1 G_defect_First.r1
  with_reducible repeat' first
   | exact Ole.refl _
def C_defect_First (x0 : Config) : Option (Int) := ((C_defect_All x0).bind fun t_5 => ((C_defect_All_1 (C_defect_First.r1 x0 t_5) 0 t_5).bind fun z => z.on (fun s1 => some 0) (fun r1 => some r1.2)))
theorem C_defect_First.le (x0 : Config) : Ole (C_defect_First x0) (G_defect_First x0) := by
  unfold C_defect_First G_defect_First
  with_reducible repeat' first
   | exact C_defect_First.r1.le _ _ _ _
   | exact C_defect_All.le _
   | refine C_defect_All_1.le _ _ _ _ (fun _ _ => ?_)
   | refine Ole.bind ?_ (fun _ => ?_)
   | refine Ole.stpon (fun _ => ?_) (fun _ => ?_)
   | exact Ole.refl _
def C_defect_Accepts (x0 : Config) : Option (Bool) := ((C_defect_First x0).bind fun t_3 => some (t_3 == 0))
theorem C_defect_Accepts.le (x0 : Config) : Ole (C_defect_Accepts x0) (G_defect_Accepts x0) := by
  unfold C_defect_Accepts G_defect_Accepts
  with_reducible repeat' first
   | exact C_defect_First.le _
   | refine Ole.bind ?_ (fun _ => ?_)
   | exact Ole.refl _
def C_sign_Name (a0 : Int) : Option (ByteArray) := (bif (decide (a0 < 1) || decide (a0 ≥ 10)) then some (⟨#[]⟩ : ByteArray) else (req (inb a0 10) (some (rdA_St257 gv0 a0))))
theorem C_sign_Name.le (a0 : Int) : Ole (C_sign_Name a0) (G_sign_Name a0) := by
  unfold C_sign_Name G_sign_Name
  with_reducible repeat' first
   | refine Ole.bif ?_ ?_
   | refine Ole.req ?_
   | exact Ole.refl _
def C_sign_Port (x0 : Config) (a1 : Int) : Option (Int × Int × Bool × Bool) := ((cal (!(decide (a1 < 0) || decide ((IntKind.i64.wrap (Int.tdiv a1 2)) ≥ (x0.Chans.length : Int)))) (C_defect_Accepts x0) default).bind fun t_3 => (bif ((decide (a1 < 0) || decide ((IntKind.i64.wrap (Int.tdiv a1 2)) ≥ (x0.Chans.length : Int))) || (!t_3)) then some (0, 0, false, false) else (req (inb (IntKind.i64.wrap (Int.tdiv a1 2)) x0.Chans.length) (bif ((Int.tmod a1 2) == 0) then some ((IntKind.i64.wrap (Int.tdiv a1 2)), (rd x0.Chans (IntKind.i64.wrap (Int.tdiv a1 2))).From, true, true) else some ((IntKind.i64.wrap (Int.tdiv a1 2)), (rd x0.Chans (IntKind.i64.wrap (Int.tdiv a1 2))).To, false, true)))))
theorem C_sign_Port.le (x0 : Config) (a1 : Int) : Ole (C_sign_Port x0 a1) (G_sign_Port x0 a1) := by
  unfold C_sign_Port G_sign_Port
  with_reducible repeat' first
   | exact C_defect_Accepts.le _
   | refine Ole.bind ?_ (fun _ => ?_)
   | refine Ole.bif ?_ ?_
   | refine Ole.req ?_
   | refine Ole.cal ?_
   | exact Ole.refl _
def C_sign_rows_1 (a0 : Int) (a1 : Bool) : Option (Fn214) := some (Fn214.f143 a0 a1)
theorem C_sign_rows_1.le (a0 : Int) (a1 : Bool) : Ole (C_sign_rows_1 a0 a1) (G_sign_rows_1 a0 a1) := by
  unfold C_sign_rows_1 G_sign_rows_1
  with_reducible repeat' first
   | exact Ole.refl _
def C_sign_rows  : Option ((List Sign_row)) := ((C_sign_rows_1 1 true).bind fun t_7 => ((C_sign_rows_1 1 false).bind fun t_14 => ((C_sign_rows_1 2 true).bind fun t_21 => ((C_sign_rows_1 2 false).bind fun t_28 => some ([(⟨(⟨#[49]⟩ : ByteArray), (Fn214.f145), 4⟩ : Sign_row), (⟨(⟨#[49]⟩ : ByteArray), (Fn214.f146), 1⟩ : Sign_row), (⟨(⟨#[49, 50]⟩ : ByteArray), (Fn214.f147), 5⟩ : Sign_row), (⟨(⟨#[51, 52, 53, 54, 55]⟩ : ByteArray), (Fn214.f148), 3⟩ : Sign_row), (⟨(⟨#[51, 52, 53, 54, 55]⟩ : ByteArray), (Fn214.f149), 5⟩ : Sign_row), (⟨(⟨#[51]⟩ : ByteArray), t_7, 5⟩ : Sign_row), (⟨(⟨#[52]⟩ : ByteArray), t_14, 5⟩ : Sign_row), (⟨(⟨#[53]⟩ : ByteArray), t_21, 5⟩ : Sign_row), (⟨(⟨#[54]⟩ : ByteArray), t_28, 5⟩ : Sign_row), (⟨(⟨#[51, 53]⟩ : ByteArray), (Fn214.f150), 3⟩ : Sign_row), (⟨(⟨#[51, 53]⟩ : ByteArray), (Fn214.f151), 4⟩ : Sign_row), (⟨(⟨#[57]⟩ : ByteArray), (Fn214.f152), 3⟩ : Sign_row), (⟨(⟨#[56, 57]⟩ : ByteArray), (Fn214.f153), 6⟩ : Sign_row)] : List Sign_row)))))
theorem C_sign_rows.le  : Ole (C_sign_rows) (G_sign_rows) := by
  unfold C_sign_rows G_sign_rows
  with_reducible repeat' first
   | exact C_sign_rows_1.le _ _
   | refine Ole.bind ?_ (fun _ => ?_)
   | exact Ole.refl _
def C_slices_Index_byte_byte.b1 (l0 : (List Int)) (a1 : Int) (s1 : Int × Int) : Option (Stp (Int × Int) (Ex (Int × Int) (Int))) := (bif decide (s1.1 < (l0.length : Int)) then (req (inb s1.1 l0.length) (bif (a1 == (rd l0 s1.1)) then some (.out (.ret s1.1)) else some (.next ((IntKind.i64.wrap (s1.1 + 1)), s1.2)))) else some (.out (.brk (s1.1, s1.2))))
theorem C_slices_Index_byte_byte.b1.le (l0 : (List Int)) (a1 : Int) (s1 : Int × Int) : Ole (C_slices_Index_byte_byte.b1 l0 a1 s1) (G_slices_Index_byte_byte.b1 l0 a1 s1) := by
  unfold C_slices_Index_byte_byte.b1 G_slices_Index_byte_byte.b1
  with_reducible repeat' first
   | refine Ole.bif ?_ ?_
   | refine Ole.req ?_
   | exact Ole.refl _
def C_slices_Index_byte_byte (l0 : (List Int)) (a1 : Int) : Option (Int) := ((loopC (C_slices_Index_byte_byte.b1 l0 a1) (0, 0)).bind fun o => o.on (fun s1 => some (-1)) (fun r => some r))
theorem C_slices_Index_byte_byte.le (l0 : (List Int)) (a1 : Int) : Ole (C_slices_Index_byte_byte l0 a1) (G_slices_Index_byte_byte l0 a1) := by
  unfold C_slices_Index_byte_byte G_slices_Index_byte_byte
  with_reducible repeat' first
   | exact C_slices_Index_byte_byte.b1.le _ _ _
   | refine Ole.bind ?_ (fun _ => ?_)
   | refine Ole.loop (fun _ => ?_)
   | refine Ole.exon (fun _ => ?_) (fun _ => ?_)
   | exact Ole.refl _
def C_slices_Contains_byte_byte (l0 : (List Int)) (a1 : Int) : Option (Bool) := ((C_slices_Index_byte_byte l0 a1).bind fun t_3 => some (decide (t_3 ≥ 0)))
theorem C_slices_Contains_byte_byte.le (l0 : (List Int)) (a1 : Int) : Ole (C_slices_Contains_byte_byte l0 a1) (G_slices_Contains_byte_byte l0 a1) := by
  unfold C_slices_Contains_byte_byte G_slices_Contains_byte_byte
  with_reducible repeat' first
   | exact C_slices_Index_byte_byte.le _ _
   | refine Ole.bind ?_ (fun _ => ?_)
   | exact Ole.refl _
def C_sign_asked_is (x0 : Sign_asked) (a1 : Int) (a2 : Bool) : Option (Bool) := some ((x0.channel.Kind == a1) && (x0.source == a2))
theorem C_sign_asked_is.le (x0 : Sign_asked) (a1 : Int) (a2 : Bool) : Ole (C_sign_asked_is x0 a1 a2) (G_sign_asked_is x0 a1 a2) := by
  unfold C_sign_asked_is G_sign_asked_is
  with_reducible repeat' first
   | exact Ole.refl _
def C_sign_rows_1_1 (x0 : Sign_asked) (y1 : Int) (y2 : Bool) : Option (Bool) := ((C_sign_asked_is x0 y1 y2).bind fun t_3 => some (!t_3))
theorem C_sign_rows_1_1.le (x0 : Sign_asked) (y1 : Int) (y2 : Bool) : Ole (C_sign_rows_1_1 x0 y1 y2) (G_sign_rows_1_1 x0 y1 y2) := by
  unfold C_sign_rows_1_1 G_sign_rows_1_1
  with_reducible repeat' first
   | exact C_sign_asked_is.le _ _ _
   | refine Ole.bind ?_ (fun _ => ?_)
   | exact Ole.refl _
def C_sign_rows_2 (x0 : Sign_asked) : Option (Bool) := some (!x0.own)
theorem C_sign_rows_2.le (x0 : Sign_asked) : Ole (C_sign_rows_2 x0) (G_sign_rows_2 x0) := by
  unfold C_sign_rows_2 G_sign_rows_2
  with_reducible repeat' first
   | exact Ole.refl _
def C_slices_Index_int_int.b1 (l0 : (List Int)) (a1 : Int) (s1 : Int × Int) : Option (Stp (Int × Int) (Ex (Int × Int) (Int))) := (bif decide (s1.1 < (l0.length : Int)) then (req (inb s1.1 l0.length) (bif (a1 == (rd l0 s1.1)) then some (.out (.ret s1.1)) else some (.next ((IntKind.i64.wrap (s1.1 + 1)), s1.2)))) else some (.out (.brk (s1.1, s1.2))))
theorem C_slices_Index_int_int.b1.le (l0 : (List Int)) (a1 : Int) (s1 : Int × Int) : Ole (C_slices_Index_int_int.b1 l0 a1 s1) (G_slices_Index_int_int.b1 l0 a1 s1) := by
  unfold C_slices_Index_int_int.b1 G_slices_Index_int_int.b1
  with_reducible repeat' first
   | refine Ole.bif ?_ ?_
   | refine Ole.req ?_
   | exact Ole.refl _
def C_slices_Index_int_int (l0 : (List Int)) (a1 : Int) : Option (Int) := ((loopC (C_slices_Index_int_int.b1 l0 a1) (0, 0)).bind fun o => o.on (fun s1 => some (-1)) (fun r => some r))
theorem C_slices_Index_int_int.le (l0 : (List Int)) (a1 : Int) : Ole (C_slices_Index_int_int l0 a1) (G_slices_Index_int_int l0 a1) := by
  unfold C_slices_Index_int_int G_slices_Index_int_int
  with_reducible repeat' first
   | exact C_slices_Index_int_int.b1.le _ _ _
   | refine Ole.bind ?_ (fun _ => ?_)
   | refine Ole.loop (fun _ => ?_)
   | refine Ole.exon (fun _ => ?_) (fun _ => ?_)
   | exact Ole.refl _
def C_slices_Contains_int_int (l0 : (List Int)) (a1 : Int) : Option (Bool) := ((C_slices_Index_int_int l0 a1).bind fun t_3 => some (decide (t_3 ≥ 0)))
theorem C_slices_Contains_int_int.le (l0 : (List Int)) (a1 : Int) : Ole (C_slices_Contains_int_int l0 a1) (G_slices_Contains_int_int l0 a1) := by
  unfold C_slices_Contains_int_int G_slices_Contains_int_int
  with_reducible repeat' first
   | exact C_slices_Index_int_int.le _ _
   | refine Ole.bind ?_ (fun _ => ?_)
   | exact Ole.refl _
def C_sign_asked_made (x0 : Sign_asked) : Option (Bool) := ((C_slices_Contains_int_int x0.s.Made x0.Request.Port).bind fun t_3 => some t_3)
theorem C_sign_asked_made.le (x0 : Sign_asked) : Ole (C_sign_asked_made x0) (G_sign_asked_made x0) := by
  unfold C_sign_asked_made G_sign_asked_made
  with_reducible repeat' first
   | exact C_slices_Contains_int_int.le _ _
   | refine Ole.bind ?_ (fun _ => ?_)
   | exact Ole.refl _
def C_sign_rows_3 (x0 : Sign_asked) : Option (Bool) := some x0.s.Normal
theorem C_sign_rows_3.le (x0 : Sign_asked) : Ole (C_sign_rows_3 x0) (G_sign_rows_3 x0) := by
  unfold C_sign_rows_3 G_sign_rows_3
  with_reducible repeat' first
   | exact Ole.refl _
def C_sign_rows_4 (x0 : Sign_asked) : Option (Bool) := ((cal (!(!x0.own)) (C_sign_asked_made x0) default).bind fun t_3 => some ((!x0.own) || (!t_3)))
theorem C_sign_rows_4.le (x0 : Sign_asked) : Ole (C_sign_rows_4 x0) (G_sign_rows_4 x0) := by
  unfold C_sign_rows_4 G_sign_rows_4
  with_reducible repeat' first
   | exact C_sign_asked_made.le _
   | refine Ole.bind ?_ (fun _ => ?_)
   | refine Ole.cal ?_
   | exact Ole.refl _
def C_sign_rows_5 (x0 : Sign_asked) : Option (Bool) := some (!x0.s.Normal)
theorem C_sign_rows_5.le (x0 : Sign_asked) : Ole (C_sign_rows_5 x0) (G_sign_rows_5 x0) := by
  unfold C_sign_rows_5 G_sign_rows_5
  with_reducible repeat' first
   | exact Ole.refl _
def C_sign_rows_6 (x0 : Sign_asked) : Option (Bool) := some ((x0.Request.Data.length : Int) == 0)
theorem C_sign_rows_6.le (x0 : Sign_asked) : Ole (C_sign_rows_6 x0) (G_sign_rows_6 x0) := by
  unfold C_sign_rows_6 G_sign_rows_6
  with_reducible repeat' first
   | exact Ole.refl _
def C_sign_rows_7 (x0 : Sign_asked) : Option (Bool) := some (decide ((x0.Request.Data.length : Int) > x0.channel.Words))
theorem C_sign_rows_7.le (x0 : Sign_asked) : Ole (C_sign_rows_7 x0) (G_sign_rows_7 x0) := by
  unfold C_sign_rows_7 G_sign_rows_7
  with_reducible repeat' first
   | exact Ole.refl _
def C_sign_rows_8 (x0 : Sign_asked) : Option (Bool) := some ((x0.Request.Data.length : Int) != 1)
theorem C_sign_rows_8.le (x0 : Sign_asked) : Ole (C_sign_rows_8 x0) (G_sign_rows_8 x0) := by
  unfold C_sign_rows_8 G_sign_rows_8
  with_reducible repeat' first
   | exact Ole.refl _
def C_layout_sized (x0 : Chan) : Option (Int) := (bif (x0.Kind == 1) then some (IntKind.i64.wrap (3 + (IntKind.i64.wrap (4 * (IntKind.i64.wrap (2 + x0.Words)))))) else some (IntKind.i64.wrap (1 + (IntKind.i64.wrap (x0.Depth * (IntKind.i64.wrap (1 + x0.Words)))))))
theorem C_layout_sized.le (x0 : Chan) : Ole (C_layout_sized x0) (G_layout_sized x0) := by
  unfold C_layout_sized G_layout_sized
  with_reducible repeat' first
   | refine Ole.bif ?_ ?_
   | exact Ole.refl _
def C_layout_of.b1 (x0 : Config) (t_3 : Bool) (s1 : Int × Int × (List Span) × Int) : Option (Stp (Int × Int × (List Span) × Int) (Ex (Int × Int × (List Span) × Int) (Layout_plan))) := (bif decide (s1.1 < (x0.Parts.length : Int)) then (req (inb s1.1 x0.Parts.length) (req (decide ((s1.2.2.1.length + 1) * 16 ≤ 140737488355328)) (some (.next ((IntKind.i64.wrap (s1.1 + 1)), s1.2.1, (s1.2.2.1 ++ [(⟨s1.2.2.2, (rd x0.Parts s1.1).Private⟩ : Span)]), (IntKind.i64.wrap (s1.2.2.2 + ((rd x0.Parts s1.1).Private)))))))) else some (.out (.brk (s1.1, s1.2.1, s1.2.2.1, s1.2.2.2))))
theorem C_layout_of.b1.le (x0 : Config) (t_3 : Bool) (s1 : Int × Int × (List Span) × Int) : Ole (C_layout_of.b1 x0 t_3 s1) (G_layout_of.b1 x0 t_3 s1) := by
  unfold C_layout_of.b1 G_layout_of.b1
  with_reducible repeat' first
   | refine Ole.bif ?_ ?_
   | refine Ole.req ?_
   | exact Ole.refl _
def C_layout_of.b2 (x0 : Config) (t_3 : Bool) (s1 : Int × Int × (List Span) × Int) (s2 : Int × Int × (List Span) × Int) : Option (Stp (Int × Int × (List Span) × Int) (Ex (Int × Int × (List Span) × Int) (Layout_plan))) := (bif decide (s2.1 < (x0.Chans.length : Int)) then (req (inb s2.1 x0.Chans.length) ((C_layout_sized (rd x0.Chans s2.1)).bind fun t_75 => (req (decide ((s2.2.2.1.length + 1) * 16 ≤ 140737488355328)) (req (decide (((s2.2.2.1 ++ [(⟨s2.2.2.2, t_75⟩ : Span)]).length + 1) * 16 ≤ 140737488355328)) (some (.next ((IntKind.i64.wrap (s2.1 + 1)), s2.2.1, ((s2.2.2.1 ++ [(⟨s2.2.2.2, t_75⟩ : Span)]) ++ [(⟨(IntKind.i64.wrap (s2.2.2.2 + t_75)), 1⟩ : Span)]), (IntKind.i64.wrap ((IntKind.i64.wrap (s2.2.2.2 + t_75)) + 1))))))))) else some (.out (.brk (s2.1, s2.2.1, s2.2.2.1, s2.2.2.2))))
theorem C_layout_of.b2.le (x0 : Config) (t_3 : Bool) (s1 : Int × Int × (List Span) × Int) (s2 : Int × Int × (List Span) × Int) : Ole (C_layout_of.b2 x0 t_3 s1 s2) (G_layout_of.b2 x0 t_3 s1 s2) := by
  unfold C_layout_of.b2 G_layout_of.b2
  with_reducible repeat' first
   | exact C_layout_sized.le _
   | refine Ole.bind ?_ (fun _ => ?_)
   | refine Ole.bif ?_ ?_
   | refine Ole.req ?_
   | exact Ole.refl _
def C_layout_of (x0 : Config) : Option (Layout_plan) := ((C_defect_Accepts x0).bind fun t_3 => (bif (!t_3) then some (⟨0, [], 0⟩ : Layout_plan) else ((loopC (C_layout_of.b1 x0 t_3) (0, (x0.Parts.length : Int), ([] : List Span), 0)).bind fun o => o.on (fun s1 => ((loopC (C_layout_of.b2 x0 t_3 s1) (0, s1.2.1, s1.2.2.1, s1.2.2.2)).bind fun o => o.on (fun s2 => some (⟨s2.2.1, s2.2.2.1, s2.2.2.2⟩ : Layout_plan)) (fun r => some r))) (fun r => some r))))
theorem C_layout_of.le (x0 : Config) : Ole (C_layout_of x0) (G_layout_of x0) := by
  unfold C_layout_of G_layout_of
  with_reducible repeat' first
   | exact C_layout_of.b2.le _ _ _ _
   | exact C_layout_of.b1.le _ _ _
   | exact C_defect_Accepts.le _
   | refine Ole.bind ?_ (fun _ => ?_)
   | refine Ole.bif ?_ ?_
   | refine Ole.loop (fun _ => ?_)
   | refine Ole.exon (fun _ => ?_) (fun _ => ?_)
   | exact Ole.refl _
def C_layout_plan_at (x0 : Layout_plan) (a1 : Int) (a2 : Int) (a3 : Int) : Option (Span) := (bif (decide (a2 < 0) || decide (a2 ≥ a3)) then some (⟨0, 0⟩ : Span) else (req (inb (IntKind.i64.wrap (a1 + a2)) x0.l.length) (some (rd x0.l (IntKind.i64.wrap (a1 + a2))))))
theorem C_layout_plan_at.le (x0 : Layout_plan) (a1 : Int) (a2 : Int) (a3 : Int) : Ole (C_layout_plan_at x0 a1 a2 a3) (G_layout_plan_at x0 a1 a2 a3) := by
  unfold C_layout_plan_at G_layout_plan_at
  with_reducible repeat' first
   | refine Ole.bif ?_ ?_
   | refine Ole.req ?_
   | exact Ole.refl _
def C_layout_Private (x0 : Config) (a1 : Int) : Option (Span) := ((C_layout_of x0).bind fun t_5 => ((C_layout_plan_at t_5 0 a1 t_5.parts).bind fun t_12 => some t_12))
theorem C_layout_Private.le (x0 : Config) (a1 : Int) : Ole (C_layout_Private x0 a1) (G_layout_Private x0 a1) := by
  unfold C_layout_Private G_layout_Private
  with_reducible repeat' first
   | exact C_layout_plan_at.le _ _ _ _
   | exact C_layout_of.le _
   | refine Ole.bind ?_ (fun _ => ?_)
   | exact Ole.refl _
def C_span_Right (x0 : Span) : Option (Bool) := some (((decide (x0.From ≥ 0) && decide (x0.Size ≥ 0)) && decide (x0.From ≤ 2147483647)) && decide (x0.Size ≤ (IntKind.i64.wrap (2147483647 - x0.From))))
theorem C_span_Right.le (x0 : Span) : Ole (C_span_Right x0) (G_span_Right x0) := by
  unfold C_span_Right G_span_Right
  with_reducible repeat' first
   | exact Ole.refl _
def C_span_Has (x0 : Span) (a1 : Int) : Option (Bool) := ((C_span_Right x0).bind fun t_3 => some ((t_3 && decide (a1 ≥ x0.From)) && decide (a1 < (IntKind.i64.wrap (x0.From + x0.Size)))))
theorem C_span_Has.le (x0 : Span) (a1 : Int) : Ole (C_span_Has x0 a1) (G_span_Has x0 a1) := by
  unfold C_span_Has G_span_Has
  with_reducible repeat' first
   | exact C_span_Right.le _
   | refine Ole.bind ?_ (fun _ => ?_)
   | exact Ole.refl _
def C_sign_asked_private (x0 : Sign_asked) : Option (Bool) := ((cal (decide (x0.Request.Addr < 2147483648)) (C_layout_Private x0.c x0.s.Part) default).bind fun t_3 => ((cal (decide (x0.Request.Addr < 2147483648)) (C_span_Has t_3 (IntKind.i64.wrap x0.Request.Addr)) default).bind fun t_5 => some (decide (x0.Request.Addr < 2147483648) && t_5)))
theorem C_sign_asked_private.le (x0 : Sign_asked) : Ole (C_sign_asked_private x0) (G_sign_asked_private x0) := by
  unfold C_sign_asked_private G_sign_asked_private
  with_reducible repeat' first
   | exact C_span_Has.le _ _
   | exact C_layout_Private.le _ _
   | refine Ole.bind ?_ (fun _ => ?_)
   | refine Ole.cal ?_
   | exact Ole.refl _
def C_sign_rows_9 (x0 : Sign_asked) : Option (Bool) := ((C_sign_asked_private x0).bind fun t_3 => some (!t_3))
theorem C_sign_rows_9.le (x0 : Sign_asked) : Ole (C_sign_rows_9 x0) (G_sign_rows_9 x0) := by
  unfold C_sign_rows_9 G_sign_rows_9
  with_reducible repeat' first
   | exact C_sign_asked_private.le _
   | refine Ole.bind ?_ (fun _ => ?_)
   | exact Ole.refl _
def Fn214.runC (f : Fn214) (x0 : Sign_asked) : Option (Bool) := match f with
  | .f143 c0 c1 => C_sign_rows_1_1 x0 c0 c1
  | .f145 => C_sign_rows_2 x0
  | .f146 => C_sign_asked_made x0
  | .f147 => C_sign_rows_3 x0
  | .f148 => C_sign_rows_4 x0
  | .f149 => C_sign_rows_5 x0
  | .f150 => C_sign_rows_6 x0
  | .f151 => C_sign_rows_7 x0
  | .f152 => C_sign_rows_8 x0
  | .f153 => C_sign_rows_9 x0
theorem Fn214.runC.le (f : Fn214) (x0 : Sign_asked) : Ole (Fn214.runC f x0) (Fn214.run f x0) := by
  cases f with
  | f143 c0 c1 => exact C_sign_rows_1_1.le x0 c0 c1
  | f145 => exact C_sign_rows_2.le x0
  | f146 => exact C_sign_asked_made.le x0
  | f147 => exact C_sign_rows_3.le x0
  | f148 => exact C_sign_rows_4.le x0
  | f149 => exact C_sign_rows_5.le x0
  | f150 => exact C_sign_rows_6.le x0
  | f151 => exact C_sign_rows_7.le x0
  | f152 => exact C_sign_rows_8.le x0
  | f153 => exact C_sign_rows_9.le x0
def C_sign_Refused.b1 (x0 : Config) (x1 : Standing) (x2 : Request) (t_3 : Bool) (t_10 : ByteArray) (t_19 : Int × Int × Bool × Bool) (t_40 : (List Sign_row)) (s1 : Int × Int) : Option (Stp (Int × Int) (Ex (Int × Int) (Int))) := (bif decide (s1.1 < (t_40.length : Int)) then (req (inb s1.1 t_40.length) ((C_slices_Contains_byte_byte (bytesI ((rd t_40 s1.1).ops)) (IntKind.u8.wrap (IntKind.i64.wrap (48 + x2.Op)))).bind fun t_66 => ((cal t_66 (Fn214.runC ((rd t_40 s1.1).holds) (⟨x2, x0, x1, (rd x0.Chans t_19.1), t_19.2.2.1, (t_19.2.1 == x1.Part)⟩ : Sign_asked)) default).bind fun t_68 => (bif (t_66 && t_68) then some (.out (.ret ((rd t_40 s1.1).code))) else some (.next ((IntKind.i64.wrap (s1.1 + 1)), s1.2)))))) else some (.out (.brk (s1.1, s1.2))))
theorem C_sign_Refused.b1.le (x0 : Config) (x1 : Standing) (x2 : Request) (t_3 : Bool) (t_10 : ByteArray) (t_19 : Int × Int × Bool × Bool) (t_40 : (List Sign_row)) (s1 : Int × Int) : Ole (C_sign_Refused.b1 x0 x1 x2 t_3 t_10 t_19 t_40 s1) (G_sign_Refused.b1 x0 x1 x2 t_3 t_10 t_19 t_40 s1) := by
  unfold C_sign_Refused.b1 G_sign_Refused.b1
  with_reducible repeat' first
   | exact Fn214.runC.le _ _
   | exact C_slices_Contains_byte_byte.le _ _
   | refine Ole.bind ?_ (fun _ => ?_)
   | refine Ole.bif ?_ ?_
   | refine Ole.req ?_
   | refine Ole.cal ?_
   | exact Ole.refl _
def C_sign_Refused.b2 (x0 : Config) (x1 : Standing) (x2 : Request) (t_3 : Bool) (t_10 : ByteArray) (t_19 : Int × Int × Bool × Bool) (t_87 : (List Sign_row)) (s2 : Int × Int) : Option (Stp (Int × Int) (Ex (Int × Int) (Int))) := (bif decide (s2.1 < (t_87.length : Int)) then (req (inb s2.1 t_87.length) ((C_slices_Contains_byte_byte (bytesI ((rd t_87 s2.1).ops)) (IntKind.u8.wrap (IntKind.i64.wrap (48 + x2.Op)))).bind fun t_113 => ((cal t_113 (Fn214.runC ((rd t_87 s2.1).holds) (⟨x2, x0, x1, (⟨0, 0, 0, 0, 0, 0, 0⟩ : Chan), false, false⟩ : Sign_asked)) default).bind fun t_115 => (bif (t_113 && t_115) then some (.out (.ret ((rd t_87 s2.1).code))) else some (.next ((IntKind.i64.wrap (s2.1 + 1)), s2.2)))))) else some (.out (.brk (s2.1, s2.2))))
theorem C_sign_Refused.b2.le (x0 : Config) (x1 : Standing) (x2 : Request) (t_3 : Bool) (t_10 : ByteArray) (t_19 : Int × Int × Bool × Bool) (t_87 : (List Sign_row)) (s2 : Int × Int) : Ole (C_sign_Refused.b2 x0 x1 x2 t_3 t_10 t_19 t_87 s2) (G_sign_Refused.b2 x0 x1 x2 t_3 t_10 t_19 t_87 s2) := by
  unfold C_sign_Refused.b2 G_sign_Refused.b2
  with_reducible repeat' first
   | exact Fn214.runC.le _ _
   | exact C_slices_Contains_byte_byte.le _ _
   | refine Ole.bind ?_ (fun _ => ?_)
   | refine Ole.bif ?_ ?_
   | refine Ole.req ?_
   | refine Ole.cal ?_
   | exact Ole.refl _
def C_sign_Refused (x0 : Config) (x1 : Standing) (x2 : Request) : Option (Int) := ((C_defect_Accepts x0).bind fun t_3 => (bif (((!t_3) || decide (x1.Part < 0)) || decide (x1.Part ≥ (x0.Parts.length : Int))) then some 4 else ((C_sign_Name x2.Op).bind fun t_10 => (bif (t_10.toList == (⟨#[]⟩ : ByteArray).toList) then some 3 else ((C_sign_Port x0 x2.Port).bind fun t_19 => (bif t_19.2.2.2 then (req (inb t_19.1 x0.Chans.length) ((C_sign_rows).bind fun t_40 => ((loopC (C_sign_Refused.b1 x0 x1 x2 t_3 t_10 t_19 t_40) (0, 0)).bind fun o => o.on (fun s1 => some 0) (fun r => some r)))) else ((C_sign_rows).bind fun t_87 => ((loopC (C_sign_Refused.b2 x0 x1 x2 t_3 t_10 t_19 t_87) (0, 0)).bind fun o => o.on (fun s2 => some 0) (fun r => some r)))))))))
theorem C_sign_Refused.le (x0 : Config) (x1 : Standing) (x2 : Request) : Ole (C_sign_Refused x0 x1 x2) (G_sign_Refused x0 x1 x2) := by
  unfold C_sign_Refused G_sign_Refused
  with_reducible repeat' first
   | exact C_sign_Port.le _ _
   | exact C_sign_Refused.b2.le _ _ _ _ _ _ _ _
   | exact C_sign_Refused.b1.le _ _ _ _ _ _ _ _
   | exact C_sign_Name.le _
   | exact C_sign_rows.le
   | exact C_defect_Accepts.le _
   | refine Ole.bind ?_ (fun _ => ?_)
   | refine Ole.bif ?_ ?_
   | refine Ole.req ?_
   | refine Ole.loop (fun _ => ?_)
   | refine Ole.exon (fun _ => ?_) (fun _ => ?_)
   | exact Ole.refl _
def C_slices_Clone_uint32_uint32 (l0 : (List Int)) : Option ((List Int)) := (req (decide ((([] : List Int).length + l0.length) * 4 ≤ 140737488355328)) (some (([] : List Int) ++ l0)))
theorem C_slices_Clone_uint32_uint32.le (l0 : (List Int)) : Ole (C_slices_Clone_uint32_uint32 l0) (G_slices_Clone_uint32_uint32 l0) := by
  unfold C_slices_Clone_uint32_uint32 G_slices_Clone_uint32_uint32
  with_reducible repeat' first
   | refine Ole.req ?_
   | exact Ole.refl _
def C_task_made (x0 : Config) (a1 : Int) (x2 : Request) : Option (Fn133) := (bif (x2.Op == 8) then some (Fn133.t221 (⟨x2.Addr, []⟩ : Task_cell)) else (bif (x2.Op == 9) then ((C_slices_Clone_uint32_uint32 x2.Data).bind fun t_15 => some (Fn133.t221 (⟨x2.Addr, t_15⟩ : Task_cell))) else ((C_sign_Port x0 x2.Port).bind fun t_24 => (bif (x2.Op == 3) then none else (bif (x2.Op == 4) then none else (bif (x2.Op == 5) then none else (bif (x2.Op == 6) then none else (bif (x2.Op == 7) then (req (inb t_24.1 x0.Chans.length) (bif (((rd x0.Chans t_24.1).Kind) == 2) then none else some Fn133.nil)) else some Fn133.nil))))))))
theorem C_task_made.le (x0 : Config) (a1 : Int) (x2 : Request) : Ole (C_task_made x0 a1 x2) (G_task_made x0 a1 x2) := by
  unfold C_task_made G_task_made
  with_reducible repeat' first
   | exact C_sign_Port.le _ _
   | exact C_slices_Clone_uint32_uint32.le _
   | refine Fn133.on_le _ ?_ (fun _ => ?_)
   | exact Ole.none _
   | refine Ole.bind ?_ (fun _ => ?_)
   | refine Ole.bif ?_ ?_
   | refine Ole.req ?_
   | exact Ole.refl _
def C_task_Begin (x0 : Config) (x1 : Standing) (a2 : Int) (x3 : Request) : Option ((Option Task_Task) × Answer × Bool) := ((C_sign_Refused x0 x1 x3).bind fun t_3 => (bif (t_3 != 0) then some (none, (⟨t_3, [], false, 0⟩ : Answer), true) else ((C_task_made x0 a2 x3).bind fun t_15 => (Fn133.on t_15 ((cal (x3.Op == 7) (C_slices_Contains_int_int x1.Valid x3.Port) default).bind fun t_26 => some (none, (⟨0, [], ((x3.Op == 7) && t_26), 0⟩ : Answer), true)) (fun y_23 => some ((some (⟨(⟨(Fn133.t221 y_23), 1, false⟩ : Task_work_), a2⟩ : Task_Task)), (⟨0, [], false, 0⟩ : Answer), false))))))
theorem C_task_Begin.le (x0 : Config) (x1 : Standing) (a2 : Int) (x3 : Request) : Ole (C_task_Begin x0 x1 a2 x3) (G_task_Begin x0 x1 a2 x3) := by
  unfold C_task_Begin G_task_Begin
  with_reducible repeat' first
   | exact C_slices_Contains_int_int.le _ _
   | exact C_task_made.le _ _ _
   | exact C_sign_Refused.le _ _ _
   | refine Fn133.on_le _ ?_ (fun _ => ?_)
   | exact Ole.none _
   | refine Ole.bind ?_ (fun _ => ?_)
   | refine Ole.bif ?_ ?_
   | refine Ole.cal ?_
   | exact Ole.refl _
def C_ref07_window.b1 (x0 : Config) (a1 : Int) (s1 : Int × Bool) : Option (Stp (Int × Bool) (Ex (Int × Bool) (Bool))) := (bif decide (s1.1 < (((rdA_St27 x0.Frames ((rd x0.Parts a1).Core)).Windows).length : Int)) then (req (inb s1.1 ((rdA_St27 x0.Frames ((rd x0.Parts a1).Core)).Windows).length) (bif (((rd ((rdA_St27 x0.Frames ((rd x0.Parts a1).Core)).Windows) s1.1).Part) == a1) then some (.out (.ret true)) else some (.next ((IntKind.i64.wrap (s1.1 + 1)), s1.2)))) else some (.out (.brk (s1.1, s1.2))))
theorem C_ref07_window.b1.le (x0 : Config) (a1 : Int) (s1 : Int × Bool) : Ole (C_ref07_window.b1 x0 a1 s1) (G_ref07_window.b1 x0 a1 s1) := by
  unfold C_ref07_window.b1 G_ref07_window.b1
  with_reducible repeat' first
   | refine Ole.bif ?_ ?_
   | refine Ole.req ?_
   | exact Ole.refl _
def C_ref07_window (x0 : Config) (a1 : Int) : Option (Bool) := (req (inb a1 x0.Parts.length) (req (imp (((rd x0.Parts a1).Core) != 0) (inb a1 x0.Parts.length)) (bif ((((rd x0.Parts a1).Core) != 0) && (((rd x0.Parts a1).Core) != 1)) then some false else (req (inb a1 x0.Parts.length) (req (inb ((rd x0.Parts a1).Core) 2) ((loopC (C_ref07_window.b1 x0 a1) (0, false)).bind fun o => o.on (fun s1 => some false) (fun r => some r)))))))
theorem C_ref07_window.le (x0 : Config) (a1 : Int) : Ole (C_ref07_window x0 a1) (G_ref07_window x0 a1) := by
  unfold C_ref07_window G_ref07_window
  with_reducible repeat' first
   | exact C_ref07_window.b1.le _ _ _
   | refine Ole.bind ?_ (fun _ => ?_)
   | refine Ole.bif ?_ ?_
   | refine Ole.req ?_
   | refine Ole.loop (fun _ => ?_)
   | refine Ole.exon (fun _ => ?_) (fun _ => ?_)
   | exact Ole.refl _
def C_ref07_part (x0 : Config) (a1 : Int) : Option (Bool) := some (decide (a1 ≥ 0) && decide (a1 < (x0.Parts.length : Int)))
theorem C_ref07_part.le (x0 : Config) (a1 : Int) : Ole (C_ref07_part x0 a1) (G_ref07_part x0 a1) := by
  unfold C_ref07_part G_ref07_part
  with_reducible repeat' first
   | exact Ole.refl _
def C_ref07_chans.b1 (x0 : Config) (a1 : Int) (s1 : Int × Bool) : Option (Stp (Int × Bool) (Ex (Int × Bool) (Bool))) := (bif decide (s1.1 < (x0.Chans.length : Int)) then (req (inb s1.1 x0.Chans.length) (bif (a1 == 5) then (bif ((((rd x0.Chans s1.1).Kind) != 1) && (((rd x0.Chans s1.1).Kind) != 2)) then some (.out (.ret true)) else some (.next ((IntKind.i64.wrap (s1.1 + 1)), s1.2))) else (bif (a1 == 6) then ((C_ref07_part x0 ((rd x0.Chans s1.1).From)).bind fun t_35 => ((cal (!(!t_35)) (C_ref07_part x0 ((rd x0.Chans s1.1).To)) default).bind fun t_37 => (bif ((!t_35) || (!t_37)) then some (.out (.ret true)) else some (.next ((IntKind.i64.wrap (s1.1 + 1)), s1.2))))) else (bif (a1 == 7) then (bif (((rd x0.Chans s1.1).From) == ((rd x0.Chans s1.1).To)) then some (.out (.ret true)) else some (.next ((IntKind.i64.wrap (s1.1 + 1)), s1.2))) else (bif (a1 == 8) then (bif (decide (((rd x0.Chans s1.1).Words) < 1) || decide (((rd x0.Chans s1.1).Words) > 16)) then some (.out (.ret true)) else some (.next ((IntKind.i64.wrap (s1.1 + 1)), s1.2))) else (bif (a1 == 9) then (bif (((((rd x0.Chans s1.1).Kind) == 1) && (((rd x0.Chans s1.1).Depth) != 0)) || (((((((rd x0.Chans s1.1).Kind) == 2) && (((rd x0.Chans s1.1).Depth) != 1)) && (((rd x0.Chans s1.1).Depth) != 2)) && (((rd x0.Chans s1.1).Depth) != 4)) && (((rd x0.Chans s1.1).Depth) != 8))) then some (.out (.ret true)) else some (.next ((IntKind.i64.wrap (s1.1 + 1)), s1.2))) else (bif (a1 == 10) then (bif (((((rd x0.Chans s1.1).Kind) == 1) && (decide (((rd x0.Chans s1.1).Period) < 0) || decide (((rd x0.Chans s1.1).Period) > 1048576))) || ((((rd x0.Chans s1.1).Kind) == 2) && (((rd x0.Chans s1.1).Period) != 0))) then some (.out (.ret true)) else some (.next ((IntKind.i64.wrap (s1.1 + 1)), s1.2))) else (bif (bif (a1 == 11) then ((((rd x0.Chans s1.1).Kind) == 1) && (((rd x0.Chans s1.1).Boot) != 0)) else false) then some (.out (.ret true)) else some (.next ((IntKind.i64.wrap (s1.1 + 1)), s1.2)))))))))) else some (.out (.brk (s1.1, s1.2))))
theorem C_ref07_chans.b1.le (x0 : Config) (a1 : Int) (s1 : Int × Bool) : Ole (C_ref07_chans.b1 x0 a1 s1) (G_ref07_chans.b1 x0 a1 s1) := by
  unfold C_ref07_chans.b1 G_ref07_chans.b1
  with_reducible repeat' first
   | exact C_ref07_part.le _ _
   | refine Ole.bind ?_ (fun _ => ?_)
   | refine Ole.bif ?_ ?_
   | refine Ole.req ?_
   | refine Ole.cal ?_
   | exact Ole.refl _
def C_ref07_chans (x0 : Config) (a1 : Int) : Option (Bool) := ((loopC (C_ref07_chans.b1 x0 a1) (0, false)).bind fun o => o.on (fun s1 => some false) (fun r => some r))
theorem C_ref07_chans.le (x0 : Config) (a1 : Int) : Ole (C_ref07_chans x0 a1) (G_ref07_chans x0 a1) := by
  unfold C_ref07_chans G_ref07_chans
  with_reducible repeat' first
   | exact C_ref07_chans.b1.le _ _ _
   | refine Ole.bind ?_ (fun _ => ?_)
   | refine Ole.loop (fun _ => ?_)
   | refine Ole.exon (fun _ => ?_) (fun _ => ?_)
   | exact Ole.refl _
def C_ref07_word (a0 : Int) : Option (Bool) := some (decide (a0 ≥ 0) && decide (a0 ≤ 4294967295))
theorem C_ref07_word.le (a0 : Int) : Ole (C_ref07_word a0) (G_ref07_word a0) := by
  unfold C_ref07_word G_ref07_word
  with_reducible repeat' first
   | exact Ole.refl _
def C_ref07_windows.b1 (x0 : Config) (a1 : Int) (a2 : Int) (s1 : Int × Bool) : Option (Stp (Int × Bool) (Ex (Int × Bool) (Bool))) := (bif decide (s1.1 < (((rdA_St27 x0.Frames a1).Windows).length : Int)) then (req (inb s1.1 ((rdA_St27 x0.Frames a1).Windows).length) ((cal (a2 == 14) (C_ref07_part x0 ((rd ((rdA_St27 x0.Frames a1).Windows) s1.1).Part)) default).bind fun t_41 => (req (imp ((a2 == 14) && (!(!t_41))) (inb ((rd ((rdA_St27 x0.Frames a1).Windows) s1.1).Part) x0.Parts.length)) (bif ((a2 == 14) && ((!t_41) || (((rd x0.Parts ((rd ((rdA_St27 x0.Frames a1).Windows) s1.1).Part)).Core) != a1))) then some (.out (.ret true)) else (req (imp ((a2 == 15) && (!(decide (((rd ((rdA_St27 x0.Frames a1).Windows) s1.1).Start) < 0) || decide (((rd ((rdA_St27 x0.Frames a1).Windows) s1.1).Len) < 1)))) (inb a1 2)) (req (imp ((a2 == 15) && (!((decide (((rd ((rdA_St27 x0.Frames a1).Windows) s1.1).Start) < 0) || decide (((rd ((rdA_St27 x0.Frames a1).Windows) s1.1).Len) < 1)) || decide (((rd ((rdA_St27 x0.Frames a1).Windows) s1.1).Start) > ((rdA_St27 x0.Frames a1).Length))))) (inb a1 2)) (bif ((a2 == 15) && (((decide (((rd ((rdA_St27 x0.Frames a1).Windows) s1.1).Start) < 0) || decide (((rd ((rdA_St27 x0.Frames a1).Windows) s1.1).Len) < 1)) || decide (((rd ((rdA_St27 x0.Frames a1).Windows) s1.1).Start) > ((rdA_St27 x0.Frames a1).Length))) || decide (((rd ((rdA_St27 x0.Frames a1).Windows) s1.1).Len) > (IntKind.i64.wrap (((rdA_St27 x0.Frames a1).Length) - ((rd ((rdA_St27 x0.Frames a1).Windows) s1.1).Start)))))) then some (.out (.ret true)) else ((cal ((a2 == 16) && decide (s1.1 > 0)) (C_ref07_word ((rd ((rdA_St27 x0.Frames a1).Windows) s1.1).Start)) default).bind fun t_62 => (req (imp (((a2 == 16) && decide (s1.1 > 0)) && t_62) (inb (IntKind.i64.wrap (s1.1 - 1)) ((rdA_St27 x0.Frames a1).Windows).length)) ((cal (((a2 == 16) && decide (s1.1 > 0)) && t_62) (C_ref07_word ((rd ((rdA_St27 x0.Frames a1).Windows) (IntKind.i64.wrap (s1.1 - 1))).Start)) default).bind fun t_68 => (req (imp ((((a2 == 16) && decide (s1.1 > 0)) && t_62) && t_68) (inb (IntKind.i64.wrap (s1.1 - 1)) ((rdA_St27 x0.Frames a1).Windows).length)) ((cal ((((a2 == 16) && decide (s1.1 > 0)) && t_62) && t_68) (C_ref07_word ((rd ((rdA_St27 x0.Frames a1).Windows) (IntKind.i64.wrap (s1.1 - 1))).Len)) default).bind fun t_74 => (req (imp (((((a2 == 16) && decide (s1.1 > 0)) && t_62) && t_68) && t_74) (inb (IntKind.i64.wrap (s1.1 - 1)) ((rdA_St27 x0.Frames a1).Windows).length)) (req (imp (((((a2 == 16) && decide (s1.1 > 0)) && t_62) && t_68) && t_74) (inb (IntKind.i64.wrap (s1.1 - 1)) ((rdA_St27 x0.Frames a1).Windows).length)) (bif ((((((a2 == 16) && decide (s1.1 > 0)) && t_62) && t_68) && t_74) && decide (((rd ((rdA_St27 x0.Frames a1).Windows) s1.1).Start) < (IntKind.i64.wrap (((rd ((rdA_St27 x0.Frames a1).Windows) (IntKind.i64.wrap (s1.1 - 1))).Start) + ((rd ((rdA_St27 x0.Frames a1).Windows) (IntKind.i64.wrap (s1.1 - 1))).Len))))) then some (.out (.ret true)) else some (.next ((IntKind.i64.wrap (s1.1 + 1)), s1.2))))))))))))))))) else some (.out (.brk (s1.1, s1.2))))
theorem C_ref07_windows.b1.le (x0 : Config) (a1 : Int) (a2 : Int) (s1 : Int × Bool) : Ole (C_ref07_windows.b1 x0 a1 a2 s1) (G_ref07_windows.b1 x0 a1 a2 s1) := by
  unfold C_ref07_windows.b1 G_ref07_windows.b1
  with_reducible repeat' first
   | exact C_ref07_word.le _
   | exact C_ref07_part.le _ _
   | refine Ole.bind ?_ (fun _ => ?_)
   | refine Ole.bif ?_ ?_
   | refine Ole.req ?_
   | refine Ole.cal ?_
   | exact Ole.refl _
def C_ref07_windows (x0 : Config) (a1 : Int) (a2 : Int) : Option (Bool) := (req (inb a1 2) (bif (a2 == 12) then (req (inb a1 2) (req (imp (!(decide (((rdA_St27 x0.Frames a1).Length) < 1))) (inb a1 2)) (some (decide (((rdA_St27 x0.Frames a1).Length) < 1) || decide (((rdA_St27 x0.Frames a1).Length) > 64))))) else (bif (a2 == 13) then some (decide ((((rdA_St27 x0.Frames a1).Windows).length : Int) > 16)) else ((loopC (C_ref07_windows.b1 x0 a1 a2) (0, false)).bind fun o => o.on (fun s1 => some false) (fun r => some r)))))
theorem C_ref07_windows.le (x0 : Config) (a1 : Int) (a2 : Int) : Ole (C_ref07_windows x0 a1 a2) (G_ref07_windows x0 a1 a2) := by
  unfold C_ref07_windows G_ref07_windows
  with_reducible repeat' first
   | exact C_ref07_windows.b1.le _ _ _ _
   | refine Ole.bind ?_ (fun _ => ?_)
   | refine Ole.bif ?_ ?_
   | refine Ole.req ?_
   | refine Ole.loop (fun _ => ?_)
   | refine Ole.exon (fun _ => ?_) (fun _ => ?_)
   | exact Ole.refl _
def C_ref07_Holds.b1 (x0 : Config) (a1 : Int) (s1 : Int × Bool) : Option (Stp (Int × Bool) (Ex (Int × Bool) (Bool))) := (bif decide (s1.1 < (x0.Parts.length : Int)) then (req (inb s1.1 x0.Parts.length) ((cal (!((((a1 == 2) && (((rd x0.Parts s1.1).Core) != 0)) && (((rd x0.Parts s1.1).Core) != 1)) || ((a1 == 3) && (decide (((rd x0.Parts s1.1).Private) < 0) || decide (((rd x0.Parts s1.1).Private) > 64)))) && (a1 == 17)) (C_ref07_window x0 s1.1) default).bind fun t_24 => (bif (((((a1 == 2) && (((rd x0.Parts s1.1).Core) != 0)) && (((rd x0.Parts s1.1).Core) != 1)) || ((a1 == 3) && (decide (((rd x0.Parts s1.1).Private) < 0) || decide (((rd x0.Parts s1.1).Private) > 64)))) || ((a1 == 17) && (!t_24))) then some (.out (.ret true)) else some (.next ((IntKind.i64.wrap (s1.1 + 1)), s1.2))))) else some (.out (.brk (s1.1, s1.2))))
theorem C_ref07_Holds.b1.le (x0 : Config) (a1 : Int) (s1 : Int × Bool) : Ole (C_ref07_Holds.b1 x0 a1 s1) (G_ref07_Holds.b1 x0 a1 s1) := by
  unfold C_ref07_Holds.b1 G_ref07_Holds.b1
  with_reducible repeat' first
   | exact C_ref07_window.le _ _
   | refine Ole.bind ?_ (fun _ => ?_)
   | refine Ole.bif ?_ ?_
   | refine Ole.req ?_
   | refine Ole.cal ?_
   | exact Ole.refl _
def C_ref07_Holds (x0 : Config) (a1 : Int) : Option (Bool) := (bif (a1 == 1) then some (decide ((x0.Parts.length : Int) < 1) || decide ((x0.Parts.length : Int) > 6)) else (bif (((a1 == 2) || (a1 == 3)) || (a1 == 17)) then ((loopC (C_ref07_Holds.b1 x0 a1) (0, false)).bind fun o => o.on (fun s1 => some false) (fun r => some r)) else (bif (a1 == 4) then some (decide ((x0.Chans.length : Int) > 8)) else (bif (decide (a1 ≥ 5) && decide (a1 ≤ 11)) then ((C_ref07_chans x0 a1).bind fun t_48 => some t_48) else (bif (decide (a1 ≥ 12) && decide (a1 ≤ 16)) then ((C_ref07_windows x0 0 a1).bind fun t_55 => ((cal (!t_55) (C_ref07_windows x0 1 a1) default).bind fun t_57 => some (t_55 || t_57))) else some false)))))
theorem C_ref07_Holds.le (x0 : Config) (a1 : Int) : Ole (C_ref07_Holds x0 a1) (G_ref07_Holds x0 a1) := by
  unfold C_ref07_Holds G_ref07_Holds
  with_reducible repeat' first
   | exact C_ref07_chans.le _ _
   | exact C_ref07_windows.le _ _ _
   | exact C_ref07_Holds.b1.le _ _ _
   | refine Ole.bind ?_ (fun _ => ?_)
   | refine Ole.bif ?_ ?_
   | refine Ole.cal ?_
   | refine Ole.loop (fun _ => ?_)
   | refine Ole.exon (fun _ => ?_) (fun _ => ?_)
   | exact Ole.refl _
def C_ref07_All.b1 (x0 : Config) (s1 : Int × (List Int)) : Option (Stp (Int × (List Int)) (Ex (Int × (List Int)) ((List Int)))) := (bif decide (s1.1 ≤ 17) then ((C_ref07_Holds x0 s1.1).bind fun t_16 => (bif t_16 then (req (decide ((s1.2.length + 1) * 8 ≤ 140737488355328)) (some (.next ((IntKind.i64.wrap (s1.1 + 1)), (s1.2 ++ [s1.1]))))) else some (.next ((IntKind.i64.wrap (s1.1 + 1)), s1.2)))) else some (.out (.brk (s1.1, s1.2))))
theorem C_ref07_All.b1.le (x0 : Config) (s1 : Int × (List Int)) : Ole (C_ref07_All.b1 x0 s1) (G_ref07_All.b1 x0 s1) := by
  unfold C_ref07_All.b1 G_ref07_All.b1
  with_reducible repeat' first
   | exact C_ref07_Holds.le _ _
   | refine Ole.bind ?_ (fun _ => ?_)
   | refine Ole.bif ?_ ?_
   | refine Ole.req ?_
   | exact Ole.refl _
def C_ref07_All (x0 : Config) : Option ((List Int)) := ((loopC (C_ref07_All.b1 x0) (1, ([] : List Int))).bind fun o => o.on (fun s1 => some s1.2) (fun r => some r))
theorem C_ref07_All.le (x0 : Config) : Ole (C_ref07_All x0) (G_ref07_All x0) := by
  unfold C_ref07_All G_ref07_All
  with_reducible repeat' first
   | exact C_ref07_All.b1.le _ _
   | refine Ole.bind ?_ (fun _ => ?_)
   | refine Ole.loop (fun _ => ?_)
   | refine Ole.exon (fun _ => ?_) (fun _ => ?_)
   | exact Ole.refl _
def C_ref07_Accepts (x0 : Config) : Option (Bool) := ((C_ref07_All x0).bind fun t_5 => some ((t_5.length : Int) == 0))
theorem C_ref07_Accepts.le (x0 : Config) : Ole (C_ref07_Accepts x0) (G_ref07_Accepts x0) := by
  unfold C_ref07_Accepts G_ref07_Accepts
  with_reducible repeat' first
   | exact C_ref07_All.le _
   | refine Ole.bind ?_ (fun _ => ?_)
   | exact Ole.refl _
def C_ref08_source (x0 : Chan) : Option (Int) := (bif (x0.Kind == 1) then some (IntKind.i64.wrap (11 + (IntKind.i64.wrap (4 * x0.Words)))) else some (IntKind.i64.wrap ((IntKind.i64.wrap (1 + x0.Depth)) + (IntKind.i64.wrap (x0.Depth * x0.Words)))))
theorem C_ref08_source.le (x0 : Chan) : Ole (C_ref08_source x0) (G_ref08_source x0) := by
  unfold C_ref08_source G_ref08_source
  with_reducible repeat' first
   | refine Ole.bif ?_ ?_
   | exact Ole.refl _
def C_ref08_before.b1 (x0 : Config) (a1 : Int) (s1 : Int × Int) : Option (Stp (Int × Int) (Ex (Int × Int) (Int))) := (bif decide (s1.1 < (x0.Parts.length : Int)) then (req (inb s1.1 x0.Parts.length) (some (.next ((IntKind.i64.wrap (s1.1 + 1)), (IntKind.i64.wrap (s1.2 + ((rd x0.Parts s1.1).Private))))))) else some (.out (.brk (s1.1, s1.2))))
theorem C_ref08_before.b1.le (x0 : Config) (a1 : Int) (s1 : Int × Int) : Ole (C_ref08_before.b1 x0 a1 s1) (G_ref08_before.b1 x0 a1 s1) := by
  unfold C_ref08_before.b1 G_ref08_before.b1
  with_reducible repeat' first
   | refine Ole.bif ?_ ?_
   | refine Ole.req ?_
   | exact Ole.refl _
def C_ref08_before.b2 (x0 : Config) (a1 : Int) (s1 : Int × Int) (s2 : Int × Int) : Option (Stp (Int × Int) (Ex (Int × Int) (Int))) := (bif decide (s2.1 < a1) then (req (inb s2.1 x0.Chans.length) ((C_ref08_source (rd x0.Chans s2.1)).bind fun t_35 => some (.next ((IntKind.i64.wrap (s2.1 + 1)), (IntKind.i64.wrap ((IntKind.i64.wrap (s2.2 + t_35)) + 1)))))) else some (.out (.brk (s2.1, s2.2))))
theorem C_ref08_before.b2.le (x0 : Config) (a1 : Int) (s1 : Int × Int) (s2 : Int × Int) : Ole (C_ref08_before.b2 x0 a1 s1 s2) (G_ref08_before.b2 x0 a1 s1 s2) := by
  unfold C_ref08_before.b2 G_ref08_before.b2
  with_reducible repeat' first
   | exact C_ref08_source.le _
   | refine Ole.bind ?_ (fun _ => ?_)
   | refine Ole.bif ?_ ?_
   | refine Ole.req ?_
   | exact Ole.refl _
def C_ref08_before (x0 : Config) (a1 : Int) : Option (Int) := ((loopC (C_ref08_before.b1 x0 a1) (0, 0)).bind fun o => o.on (fun s1 => ((loopC (C_ref08_before.b2 x0 a1 s1) (0, s1.2)).bind fun o => o.on (fun s2 => some s2.2) (fun r => some r))) (fun r => some r))
theorem C_ref08_before.le (x0 : Config) (a1 : Int) : Ole (C_ref08_before x0 a1) (G_ref08_before x0 a1) := by
  unfold C_ref08_before G_ref08_before
  with_reducible repeat' first
   | exact C_ref08_before.b2.le _ _ _ _
   | exact C_ref08_before.b1.le _ _ _
   | refine Ole.bind ?_ (fun _ => ?_)
   | refine Ole.loop (fun _ => ?_)
   | refine Ole.exon (fun _ => ?_) (fun _ => ?_)
   | exact Ole.refl _
def C_ref08_Size (x0 : Config) : Option (Int) := ((C_ref07_Accepts x0).bind fun t_3 => (bif (!t_3) then some 0 else ((C_ref08_before x0 (x0.Chans.length : Int)).bind fun t_10 => some t_10)))
theorem C_ref08_Size.le (x0 : Config) : Ole (C_ref08_Size x0) (G_ref08_Size x0) := by
  unfold C_ref08_Size G_ref08_Size
  with_reducible repeat' first
   | exact C_ref08_before.le _ _
   | exact C_ref07_Accepts.le _
   | refine Ole.bind ?_ (fun _ => ?_)
   | refine Ole.bif ?_ ?_
   | exact Ole.refl _
def C_mem_New (a0 : Int) : Option ((Option Mem_Mem) × Int) := (bif (decide (a0 < 0) || decide (a0 > 65536)) then some (none, 7) else (req (decide (0 ≤ a0) && decide ((a0 : Int).toNat * (1 + 4) ≤ 16777216)) (some ((some (⟨(List.replicate (a0 : Int).toNat (0 : Int))⟩ : Mem_Mem)), 0))))
theorem C_mem_New.le (a0 : Int) : Ole (C_mem_New a0) (G_mem_New a0) := by
  unfold C_mem_New G_mem_New
  with_reducible repeat' first
   | exact Ole.none _
   | refine Ole.bif ?_ ?_
   | refine Ole.req ?_
   | exact Ole.refl _
def C_bell_New (a0 : Int) : Option ((Option Bell_Set) × Int) := (bif (decide (a0 < 0) || decide (a0 > 64)) then some (none, 7) else some ((some (⟨a0, 0⟩ : Bell_Set)), 0))
theorem C_bell_New.le (a0 : Int) : Ole (C_bell_New a0) (G_bell_New a0) := by
  unfold C_bell_New G_bell_New
  with_reducible repeat' first
   | exact Ole.none _
   | refine Ole.bif ?_ ?_
   | exact Ole.refl _
def C_mem_Mem_there (x0 : Mem_Mem) (a1 : Int) : Option (Bool) := some (decide (a1 < (IntKind.u64.wrap (x0.words.length : Int))))
theorem C_mem_Mem_there.le (x0 : Mem_Mem) (a1 : Int) : Ole (C_mem_Mem_there x0 a1) (G_mem_Mem_there x0 a1) := by
  unfold C_mem_Mem_there G_mem_Mem_there
  with_reducible repeat' first
   | exact Ole.refl _
def C_mem_Mem_Load (x0 : Mem_Mem) (a1 : Int) : Option (Int × Int) := ((C_mem_Mem_there x0 a1).bind fun t_3 => (bif (!t_3) then some (0, 6) else (req (inb a1 x0.words.length) (some ((rd x0.words a1), 0)))))
theorem C_mem_Mem_Load.le (x0 : Mem_Mem) (a1 : Int) : Ole (C_mem_Mem_Load x0 a1) (G_mem_Mem_Load x0 a1) := by
  unfold C_mem_Mem_Load G_mem_Mem_Load
  with_reducible repeat' first
   | exact C_mem_Mem_there.le _ _
   | refine Ole.bind ?_ (fun _ => ?_)
   | refine Ole.bif ?_ ?_
   | refine Ole.req ?_
   | exact Ole.refl _
def C_mem_Mem_Store (x0 : Mem_Mem) (a1 : Int) (a2 : Int) : Option (Int × Mem_Mem) := ((C_mem_Mem_there x0 a1).bind fun t_3 => (bif (!t_3) then some (6, x0) else (req (inb a1 x0.words.length) (some (0, (⟨(x0.words.set (a1 : Int).toNat a2)⟩ : Mem_Mem))))))
theorem C_mem_Mem_Store.le (x0 : Mem_Mem) (a1 : Int) (a2 : Int) : Ole (C_mem_Mem_Store x0 a1 a2) (G_mem_Mem_Store x0 a1 a2) := by
  unfold C_mem_Mem_Store G_mem_Mem_Store
  with_reducible repeat' first
   | exact C_mem_Mem_there.le _ _
   | refine Ole.bind ?_ (fun _ => ?_)
   | refine Ole.bif ?_ ?_
   | refine Ole.req ?_
   | exact Ole.refl _
def C_task_Task_Step (x0 : Task_Task) (x1 : Mem_Mem) (x2 : Bell_Set) (a3 : Int) : Option (Did × Task_Task × Mem_Mem × Bell_Set) := (bif x0.all.over then some ((⟨false, (⟨0, [], false, 0⟩ : Answer), false, false, false, 0⟩ : Did), x0, x1, x2) else (Fn133.on x0.all.work none (fun y_27 => (bif ((y_27.words.length : Int) == 0) then ((C_mem_Mem_Load x1 y_27.at_).bind fun t_40 => some ((⟨true, (⟨0, ([t_40.1] : List Int), false, 0⟩ : Answer), true, false, false, 0⟩ : Did), (⟨(⟨(Fn133.t221 y_27), (IntKind.i64.wrap (x0.all.steps + 1)), true⟩ : Task_work_), x0.own⟩ : Task_Task), x1, x2)) else (req (inb 0 y_27.words.length) ((C_mem_Mem_Store x1 y_27.at_ (rd y_27.words 0)).bind fun t_78 => some ((⟨true, (⟨0, [], false, 0⟩ : Answer), true, false, false, 0⟩ : Did), (⟨(⟨(Fn133.t221 y_27), (IntKind.i64.wrap (x0.all.steps + 1)), true⟩ : Task_work_), x0.own⟩ : Task_Task), t_78.2, x2)))))))
theorem C_task_Task_Step.le (x0 : Task_Task) (x1 : Mem_Mem) (x2 : Bell_Set) (a3 : Int) : Ole (C_task_Task_Step x0 x1 x2 a3) (G_task_Task_Step x0 x1 x2 a3) := by
  unfold C_task_Task_Step G_task_Task_Step
  with_reducible repeat' first
   | exact C_mem_Mem_Store.le _ _ _
   | exact C_mem_Mem_Load.le _ _
   | refine Fn133.on_le _ ?_ (fun _ => ?_)
   | exact Ole.none _
   | refine Ole.bind ?_ (fun _ => ?_)
   | refine Ole.bif ?_ ?_
   | refine Ole.req ?_
   | exact Ole.refl _
def C_task_Task_Steps (x0 : Task_Task) : Option (Int) := some x0.all.steps
theorem C_task_Task_Steps.le (x0 : Task_Task) : Ole (C_task_Task_Steps x0) (G_task_Task_Steps x0) := by
  unfold C_task_Task_Steps G_task_Task_Steps
  with_reducible repeat' first
   | exact Ole.refl _
def C_law13_wakes  : Option (Bool) := ((C_law13_example).bind fun t_3 => ((C_task_Begin t_3 (⟨0, false, [], []⟩ : Standing) 0 (⟨1, 0, 0, []⟩ : Request)).bind fun t_12 => ((C_task_Begin t_3 (⟨0, false, [], []⟩ : Standing) 0 (⟨8, 0, 1, []⟩ : Request)).bind fun t_24 => (opt t_24.1 (bif ((((!t_12.2.2) || (t_12.2.1.Code != 0)) || t_24.2.2) || true) then some false else ((C_ref08_Size t_3).bind fun t_43 => ((C_mem_New t_43).bind fun t_47 => ((C_bell_New 2).bind fun t_56 => (opt t_47.1 (opt t_56.1 (bif ((((t_47.2 != 0) || (t_56.2 != 0)) || true) || true) then some false else none) (fun y_70 => (bif ((((t_47.2 != 0) || (t_56.2 != 0)) || true) || false) then some false else none))) (fun y_66 => (opt t_56.1 (bif ((((t_47.2 != 0) || (t_56.2 != 0)) || false) || true) then some false else none) (fun y_88 => (bif ((((t_47.2 != 0) || (t_56.2 != 0)) || false) || false) then some false else none))))))))) (fun y_35 => (bif ((((!t_12.2.2) || (t_12.2.1.Code != 0)) || t_24.2.2) || false) then some false else ((C_ref08_Size t_3).bind fun t_110 => ((C_mem_New t_110).bind fun t_114 => ((C_bell_New 2).bind fun t_123 => (opt t_114.1 (opt t_123.1 (bif ((((t_114.2 != 0) || (t_123.2 != 0)) || true) || true) then some false else none) (fun y_137 => (bif ((((t_114.2 != 0) || (t_123.2 != 0)) || true) || false) then some false else none))) (fun y_133 => (opt t_123.1 (bif ((((t_114.2 != 0) || (t_123.2 != 0)) || false) || true) then some false else none) (fun y_155 => (bif ((((t_114.2 != 0) || (t_123.2 != 0)) || false) || false) then some false else ((C_task_Task_Step y_35 y_133 y_155 0).bind fun t_172 => ((cal t_172.1.Done (C_task_Task_Steps t_172.2.1) default).bind fun t_178 => some (t_172.1.Done && (t_178 == 2))))))))))))))))))
theorem C_law13_wakes.le  : Ole (C_law13_wakes) (G_law13_wakes) := by
  unfold C_law13_wakes G_law13_wakes
  with_reducible repeat' first
   | exact C_mem_New.le _
   | exact C_task_Begin.le _ _ _ _
   | exact C_ref08_Size.le _
   | exact C_task_Task_Steps.le _
   | exact C_task_Task_Step.le _ _ _ _
   | exact C_bell_New.le _
   | exact C_law13_example.le
   | exact Ole.none _
   | refine Ole.bind ?_ (fun _ => ?_)
   | refine Ole.bif ?_ ?_
   | refine Ole.cal ?_
   | refine Ole.opt ?_ (fun _ => ?_)
   | exact Ole.refl _
def C_mem_Mem_Words (x0 : Mem_Mem) : Option ((List Int)) := (req (decide (0 ≤ (x0.words.length : Int)) && decide (((x0.words.length : Int) : Int).toNat * (1 + 4) ≤ 16777216)) (some (cpl (List.replicate ((x0.words.length : Int) : Int).toNat (0 : Int)) x0.words)))
theorem C_mem_Mem_Words.le (x0 : Mem_Mem) : Ole (C_mem_Mem_Words x0) (G_mem_Mem_Words x0) := by
  unfold C_mem_Mem_Words G_mem_Mem_Words
  with_reducible repeat' first
   | refine Ole.req ?_
   | exact Ole.refl _
def C_ref02_Same.b1 (l0 : (List Int)) (l1 : (List Int)) (s1 : Int × Bool) : Option (Stp (Int × Bool) (Ex (Int × Bool) (Bool))) := (bif decide (s1.1 < (l0.length : Int)) then (req (inb s1.1 l0.length) (req (inb s1.1 l1.length) (bif ((rd l0 s1.1) != (rd l1 s1.1)) then some (.out (.ret false)) else some (.next ((IntKind.i64.wrap (s1.1 + 1)), s1.2))))) else some (.out (.brk (s1.1, s1.2))))
theorem C_ref02_Same.b1.le (l0 : (List Int)) (l1 : (List Int)) (s1 : Int × Bool) : Ole (C_ref02_Same.b1 l0 l1 s1) (G_ref02_Same.b1 l0 l1 s1) := by
  unfold C_ref02_Same.b1 G_ref02_Same.b1
  with_reducible repeat' first
   | refine Ole.bif ?_ ?_
   | refine Ole.req ?_
   | exact Ole.refl _
def C_ref02_Same (l0 : (List Int)) (l1 : (List Int)) : Option (Bool) := (bif ((l0.length : Int) != (l1.length : Int)) then some false else ((loopC (C_ref02_Same.b1 l0 l1) (0, false)).bind fun o => o.on (fun s1 => some true) (fun r => some r)))
theorem C_ref02_Same.le (l0 : (List Int)) (l1 : (List Int)) : Ole (C_ref02_Same l0 l1) (G_ref02_Same l0 l1) := by
  unfold C_ref02_Same G_ref02_Same
  with_reducible repeat' first
   | exact C_ref02_Same.b1.le _ _ _
   | refine Ole.bind ?_ (fun _ => ?_)
   | refine Ole.bif ?_ ?_
   | refine Ole.loop (fun _ => ?_)
   | refine Ole.exon (fun _ => ?_) (fun _ => ?_)
   | exact Ole.refl _
def C_law13_TaskAlone.b1 (a0 : Int) (a1 : Int) (t_3 : Bool) (t_10 : Config) (t_17 : Int) (t_21 : (Option Mem_Mem) × Int) (t_30 : (Option Bell_Set) × Int) (y_40 : Mem_Mem) (y_186 : Bell_Set) (t_273 : (Option Task_Task) × Answer × Bool) (t_285 : (Option Task_Task) × Answer × Bool) (y_296 : Task_Task) (y_314 : Task_Task) (t_346 : Did × Task_Task × Mem_Mem × Bell_Set) (t_361 : Did × Task_Task × Mem_Mem × Bell_Set) (t_371 : (List Int)) (s1 : Int × Bool) : Option (Stp (Int × Bool) (Ex (Int × Bool) (Bool))) := (bif decide (s1.1 < (t_371.length : Int)) then (req (inb s1.1 t_371.length) (bif (((IntKind.u64.wrap s1.1) != (IntKind.u64.wrap (Int.tmod a0 2))) && ((rd t_371 s1.1) != 0)) then some (.out (.ret false)) else some (.next ((IntKind.i64.wrap (s1.1 + 1)), s1.2)))) else some (.out (.brk (s1.1, s1.2))))
theorem C_law13_TaskAlone.b1.le (a0 : Int) (a1 : Int) (t_3 : Bool) (t_10 : Config) (t_17 : Int) (t_21 : (Option Mem_Mem) × Int) (t_30 : (Option Bell_Set) × Int) (y_40 : Mem_Mem) (y_186 : Bell_Set) (t_273 : (Option Task_Task) × Answer × Bool) (t_285 : (Option Task_Task) × Answer × Bool) (y_296 : Task_Task) (y_314 : Task_Task) (t_346 : Did × Task_Task × Mem_Mem × Bell_Set) (t_361 : Did × Task_Task × Mem_Mem × Bell_Set) (t_371 : (List Int)) (s1 : Int × Bool) : Ole (C_law13_TaskAlone.b1 a0 a1 t_3 t_10 t_17 t_21 t_30 y_40 y_186 t_273 t_285 y_296 y_314 t_346 t_361 t_371 s1) (G_law13_TaskAlone.b1 a0 a1 t_3 t_10 t_17 t_21 t_30 y_40 y_186 t_273 t_285 y_296 y_314 t_346 t_361 t_371 s1) := by
  unfold C_law13_TaskAlone.b1 G_law13_TaskAlone.b1
  with_reducible repeat' first
   | refine Ole.bif ?_ ?_
   | refine Ole.req ?_
   | exact Ole.refl _
def C_law13_TaskAlone (a0 : Int) (a1 : Int) : Option (Bool) := ((C_law13_wakes).bind fun t_3 => (bif (!t_3) then some false else ((C_law13_example).bind fun t_10 => ((C_ref08_Size t_10).bind fun t_17 => ((C_mem_New t_17).bind fun t_21 => ((C_bell_New 2).bind fun t_30 => (opt t_21.1 (opt t_30.1 (bif ((((t_21.2 != 0) || (t_30.2 != 0)) || true) || true) then some false else ((C_task_Begin t_10 (⟨0, false, [], []⟩ : Standing) 0 (⟨9, 0, (IntKind.u64.wrap (Int.tmod a0 2)), ([a1] : List Int)⟩ : Request)).bind fun t_62 => ((C_task_Begin t_10 (⟨0, false, [], []⟩ : Standing) 0 (⟨8, 0, (IntKind.u64.wrap (Int.tmod a0 2)), []⟩ : Request)).bind fun t_74 => (opt t_62.1 (opt t_74.1 none (fun y_89 => none)) (fun y_85 => (opt t_74.1 none (fun y_103 => none))))))) (fun y_44 => (bif ((((t_21.2 != 0) || (t_30.2 != 0)) || true) || false) then some false else ((C_task_Begin t_10 (⟨0, false, [], []⟩ : Standing) 0 (⟨9, 0, (IntKind.u64.wrap (Int.tmod a0 2)), ([a1] : List Int)⟩ : Request)).bind fun t_131 => ((C_task_Begin t_10 (⟨0, false, [], []⟩ : Standing) 0 (⟨8, 0, (IntKind.u64.wrap (Int.tmod a0 2)), []⟩ : Request)).bind fun t_143 => (opt t_131.1 (opt t_143.1 none (fun y_158 => none)) (fun y_154 => (opt t_143.1 none (fun y_172 => none))))))))) (fun y_40 => (opt t_30.1 (bif ((((t_21.2 != 0) || (t_30.2 != 0)) || false) || true) then some false else ((C_task_Begin t_10 (⟨0, false, [], []⟩ : Standing) 0 (⟨9, 0, (IntKind.u64.wrap (Int.tmod a0 2)), ([a1] : List Int)⟩ : Request)).bind fun t_204 => ((C_task_Begin t_10 (⟨0, false, [], []⟩ : Standing) 0 (⟨8, 0, (IntKind.u64.wrap (Int.tmod a0 2)), []⟩ : Request)).bind fun t_216 => (opt t_204.1 (opt t_216.1 none (fun y_231 => none)) (fun y_227 => (opt t_216.1 none (fun y_245 => none))))))) (fun y_186 => (bif ((((t_21.2 != 0) || (t_30.2 != 0)) || false) || false) then some false else ((C_task_Begin t_10 (⟨0, false, [], []⟩ : Standing) 0 (⟨9, 0, (IntKind.u64.wrap (Int.tmod a0 2)), ([a1] : List Int)⟩ : Request)).bind fun t_273 => ((C_task_Begin t_10 (⟨0, false, [], []⟩ : Standing) 0 (⟨8, 0, (IntKind.u64.wrap (Int.tmod a0 2)), []⟩ : Request)).bind fun t_285 => (opt t_273.1 (opt t_285.1 none (fun y_300 => none)) (fun y_296 => (opt t_285.1 (bif !(((t_273.2.2 || t_285.2.2) || false) || true) then ((C_task_Task_Step y_296 y_40 y_186 0).bind fun t_322 => (bif ((((t_273.2.2 || t_285.2.2) || false) || true) || (!t_322.1.Done)) then some false else none)) else some false) (fun y_314 => (bif !(((t_273.2.2 || t_285.2.2) || false) || false) then ((C_task_Task_Step y_296 y_40 y_186 0).bind fun t_346 => (bif ((((t_273.2.2 || t_285.2.2) || false) || false) || (!t_346.1.Done)) then some false else ((C_task_Task_Step y_314 t_346.2.2.1 t_346.2.2.2 0).bind fun t_361 => ((C_mem_Mem_Words t_361.2.2.1).bind fun t_371 => ((loopC (C_law13_TaskAlone.b1 a0 a1 t_3 t_10 t_17 t_21 t_30 y_40 y_186 t_273 t_285 y_296 y_314 t_346 t_361 t_371) (0, false)).bind fun o => o.on (fun s1 => (bif t_361.1.Done then ((C_ref02_Same t_361.1.Ans.Data ([a1] : List Int)).bind fun t_408 => some (t_361.1.Done && t_408)) else some false)) (fun r => some r)))))) else some false))))))))))))))))))
theorem C_law13_TaskAlone.le (a0 : Int) (a1 : Int) : Ole (C_law13_TaskAlone a0 a1) (G_law13_TaskAlone a0 a1) := by
  unfold C_law13_TaskAlone G_law13_TaskAlone
  with_reducible repeat' first
   | exact C_law13_wakes.le
   | exact C_mem_New.le _
   | exact C_task_Begin.le _ _ _ _
   | exact C_mem_Mem_Words.le _
   | exact C_ref08_Size.le _
   | exact C_task_Task_Step.le _ _ _ _
   | exact C_ref02_Same.le _ _
   | exact C_bell_New.le _
   | exact C_law13_TaskAlone.b1.le _ _ _ _ _ _ _ _ _ _ _ _ _ _ _ _ _
   | exact C_law13_example.le
   | exact Ole.none _
   | refine Ole.bind ?_ (fun _ => ?_)
   | refine Ole.bif ?_ ?_
   | refine Ole.opt ?_ (fun _ => ?_)
   | refine Ole.loop (fun _ => ?_)
   | refine Ole.exon (fun _ => ?_) (fun _ => ?_)
   | exact Ole.refl _
end Go.Proofs.YtiiidfgdejfhhaaGreatDoor
