/- The plain law behind BoundSteps. -/
import Derived.Test.YtnfnincmhobpaabPureBound
set_option linter.unusedVariables false
set_option linter.unusedSimpArgs false
namespace Go.Proofs.Ytnfnincmhobpaab
open Go Go.RowKit Go.Eng
theorem bwakes : G_law23_wakes = some true := by
  unfold G_law23_wakes
  have hc : (([(⟨1, 0, 1, 3, 0, 0, 0⟩ : Chan)] : List Chan)).length ≤ 100 := by decide
  have hw : wf_Request (⟨3, 0, 0, ([1, 2] : List Int)⟩ : Request) := by
    refine ⟨rfl, rfl, rfl, by decide, ?_⟩
    intro x hx
    simp at hx
    rcases hx with rfl | rfl <;> rfl
  have h1 := steps_ok (⟨([(⟨0, 0⟩ : Part), (⟨1, 0⟩ : Part)] : List Part), ([(⟨1, 0, 1, 3, 0, 0, 0⟩ : Chan)] : List Chan), (⟨(⟨1, ([(⟨0, 0, 1⟩ : Window)] : List Window)⟩ : Frame), (⟨1, ([(⟨1, 0, 1⟩ : Window)] : List Window)⟩ : Frame)⟩ : St27)⟩ : Config) (⟨3, 0, 0, ([1, 2] : List Int)⟩ : Request) (⟨0, [], false, 0⟩ : Answer) hc hw
  have h2 := bound_ok (⟨([(⟨0, 0⟩ : Part), (⟨1, 0⟩ : Part)] : List Part), ([(⟨1, 0, 1, 3, 0, 0, 0⟩ : Chan)] : List Chan), (⟨(⟨1, ([(⟨0, 0, 1⟩ : Window)] : List Window)⟩ : Frame), (⟨1, ([(⟨1, 0, 1⟩ : Window)] : List Window)⟩ : Frame)⟩ : St27)⟩ : Config) (⟨3, 0, 0, ([1, 2] : List Int)⟩ : Request) hc hw
  rw [h1, h2]
  have h3 : stp (⟨([(⟨0, 0⟩ : Part), (⟨1, 0⟩ : Part)] : List Part), ([(⟨1, 0, 1, 3, 0, 0, 0⟩ : Chan)] : List Chan), (⟨(⟨1, ([(⟨0, 0, 1⟩ : Window)] : List Window)⟩ : Frame), (⟨1, ([(⟨1, 0, 1⟩ : Window)] : List Window)⟩ : Frame)⟩ : St27)⟩ : Config) (⟨3, 0, 0, ([1, 2] : List Int)⟩ : Request) (⟨0, [], false, 0⟩ : Answer) = 9 := by decide
  have h4 : wds (⟨([(⟨0, 0⟩ : Part), (⟨1, 0⟩ : Part)] : List Part), ([(⟨1, 0, 1, 3, 0, 0, 0⟩ : Chan)] : List Chan), (⟨(⟨1, ([(⟨0, 0, 1⟩ : Window)] : List Window)⟩ : Frame), (⟨1, ([(⟨1, 0, 1⟩ : Window)] : List Window)⟩ : Frame)⟩ : St27)⟩ : Config) (⟨3, 0, 0, ([1, 2] : List Int)⟩ : Request) = 3 := by decide
  rw [h3, h4]
  rfl
theorem great_ok (c : Config) : ∃ b, G_ref06_Great c = some b ∧ (b = false → c.Chans.length ≤ 100) := by
  refine ⟨_, rfl, fun h => acc_len (congrArg some h)⟩
theorem pureBoundSteps (x0 : Config) (x1 : Request) (x2 : Answer) (w0 : wf_Config x0) (w1 : wf_Request x1) (w2 : wf_Answer x2) : G_law23_BoundSteps x0 x1 x2 = some true := by
  unfold G_law23_BoundSteps
  rw [bwakes]
  obtain ⟨b, hb, hl⟩ := great_ok x0
  obtain ⟨a, ha, _⟩ := accepts_ok x0 (wfc_of w0)
  simp only [Option.bind_some, Bool.not_true, cond_false, hb, ha]
  cases b
  · simp only [Bool.not_false, cal_t, Option.bind_some, Bool.false_or]
    rw [rwords_ok x0 x1 (hl rfl) w1, words_ok x0 x1 (hl rfl) w1, bound_ok x0 x1 (hl rfl) w1, steps_ok x0 x1 x2 (hl rfl) w1, rsteps_ok x0 x1 x2 (hl rfl) w1]
    simp only [Option.bind_some, beq_self_eq_true, cal_t, Bool.true_and, Bool.and_true]
    cases (!a || decide ((x1.Data.length : Int) > 100) || decide ((x2.Data.length : Int) > 100)) <;> rfl
  · rfl
end Go.Proofs.Ytnfnincmhobpaab
