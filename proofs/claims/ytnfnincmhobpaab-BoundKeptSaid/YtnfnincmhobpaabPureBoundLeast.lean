/- The plain law behind BoundLeast. -/
import Derived.Test.YtnfnincmhobpaabPureBoundSteps
set_option linter.unusedVariables false
set_option linter.unusedSimpArgs false
namespace Go.Proofs.Ytnfnincmhobpaab
open Go Go.RowKit Go.Eng
theorem stp_ge (c : Config) (q : Request) (a : Answer) (h1 : (q.Data.length : Int) ≤ 100) (h2 : (a.Data.length : Int) ≤ 100) : 1 ≤ stp c q a ∧ stp c q a ≤ 107 := by
  unfold stp
  rw [w64 (x := (q.Data.length : Int) + 7) (by omega) (by omega), w64 (x := (a.Data.length : Int) + 6) (by omega) (by omega), w64 (x := (q.Data.length : Int) + 5) (by omega) (by omega), w64 (x := (a.Data.length : Int) + 4) (by omega) (by omega)]
  repeat' split
  all_goals omega
theorem stp_le (c : Config) (q : Request) (a : Answer) (w : Int) (h1 : (q.Data.length : Int) ≤ w) (h2 : (a.Data.length : Int) ≤ w) (hw : w ≤ 16) : stp c q a ≤ w + 7 := by
  unfold stp
  rw [w64 (x := (q.Data.length : Int) + 7) (by omega) (by omega), w64 (x := (a.Data.length : Int) + 6) (by omega) (by omega), w64 (x := (q.Data.length : Int) + 5) (by omega) (by omega), w64 (x := (a.Data.length : Int) + 4) (by omega) (by omega)]
  repeat' split
  all_goals omega
theorem pureBoundLeast (x0 : Config) (x1 : Request) (x2 : Answer) (w0 : wf_Config x0) (w1 : wf_Request x1) (w2 : wf_Answer x2) : G_law23_BoundLeast x0 x1 x2 = some true := by
  unfold G_law23_BoundLeast
  rw [bwakes]
  obtain ⟨b, hb, hl⟩ := great_ok x0
  obtain ⟨a, ha, hacc⟩ := accepts_ok x0 (wfc_of w0)
  simp only [Option.bind_some, Bool.not_true, cond_false, hb, ha]
  cases b
  · have hc := hl rfl
    simp only [Bool.not_false, cal_t, Option.bind_some, Bool.false_or]
    rw [rwords_ok x0 x1 hc w1, bound_ok x0 x1 hc w1, steps_ok x0 x1 x2 hc w1]
    cases a
    · rfl
    · have hA := hacc rfl
      have hw := wds_le hA w1
      simp only [Bool.not_true, Bool.not_false, Bool.false_or, cal_t, Option.bind_some]
      by_cases h1 : (x1.Data.length : Int) ≤ wds x0 x1
      · rw [show decide ((x1.Data.length : Int) > wds x0 x1) = false by simp; omega]
        simp only [Bool.not_false, Bool.false_or, cal_t, Option.bind_some]
        by_cases h2 : (x2.Data.length : Int) ≤ wds x0 x1
        · rw [show decide ((x2.Data.length : Int) > wds x0 x1) = false by simp; omega]
          have h3 := stp_ge x0 x1 x2 (by omega) (by omega)
          have h4 := stp_le x0 x1 x2 (wds x0 x1) h1 h2 hw.2
          rw [w64 (x := 2 * wds x0 x1) (by omega) (by omega), w64 (x := 2 * wds x0 x1 + 16) (by omega) (by omega)]
          simp only [w64 (x := wds x0 x1 + 7) (by omega) (by omega), cond_false, show decide (stp x0 x1 x2 ≥ 1) = true by simp; omega, cal_t, Option.bind_some, Bool.true_and, show decide (stp x0 x1 x2 ≤ 2 * wds x0 x1 + 16) = true by simp; omega, show decide (stp x0 x1 x2 ≤ wds x0 x1 + 7) = true by simp; omega]
        · rw [show decide ((x2.Data.length : Int) > wds x0 x1) = true by simp; omega]
          rfl
      · rw [show decide ((x1.Data.length : Int) > wds x0 x1) = true by simp; omega]
        rfl
  · rfl
end Go.Proofs.Ytnfnincmhobpaab
