/- The plain law behind HistPlace. -/
import Derived.Test.YtnfnincmhobpaaaPureHist
set_option linter.unusedSimpArgs false
set_option linter.unusedVariables false
namespace Go.Proofs.Ytnfnincmhobpaaa
open Go Go.RowKit Go.Eng
theorem place_eq17 (l : List Call) (hS : ∀ i : Int, 0 ≤ i → i < l.length → SoundAt l i) (i : Int) (h0 : 0 ≤ i) (h1 : i < l.length) :
    ∃ p, G_ref17_Place l i = some p ∧ G_hist_Place l i = some (p.At, p.Behind, p.Is) := by
  unfold G_ref17_Place G_hist_Place
  have hb := inb_of h0 h1
  rw [hb, req_t, req_t, show (decide (i < 0) || decide (i ≥ (l.length : Int))) = false by simp; omega, cond_false]
  by_cases hm : (rd l i).Mark ≥ 0
  · simp only [hm, decide_true, cond_true]
    exact ⟨_, rfl, rfl⟩
  · simp only [hm, decide_false, cond_false]
    cases hd : (!(rd l i).Done || (rd l i).Req.Op != 4)
    case true => exact ⟨_, rfl, rfl⟩
    case false =>
      simp only [cond_false]
      by_cases hs : (rd l i).Saw = -1
      · have e1 : ¬ (rd l i).Saw ≥ 0 := by omega
        have e2 : (rd l i).Saw < 0 := by omega
        simp only [e1, e2, decide_true, decide_false, imp, Bool.not_false, Bool.true_or, req_t, Bool.false_and, cond_false, cond_true]
        exact ⟨_, rfl, rfl⟩
      · obtain ⟨g0, g1, _⟩ := (hS i h0 h1).saw hs
        have e1 : (rd l i).Saw ≥ 0 := g0
        have e2 : ¬ (rd l i).Saw < 0 := by omega
        have e3 : ¬ (rd l i).Saw ≥ (l.length : Int) := by omega
        simp only [e1, e2, e3, decide_true, decide_false, imp, inb_of g0 g1, Bool.or_true, Bool.or_false, req_t, Bool.true_and, cond_false]
        by_cases hg : (rd l (rd l i).Saw).Mark > (rd l i).From
        · simp only [hg, decide_true, cond_true, mxI, if_true]
          exact ⟨_, rfl, rfl⟩
        · simp only [hg, decide_false, cond_false, mxI, if_false]
          exact ⟨_, rfl, rfl⟩
theorem pureHistPlace (x0 : (List Call)) (a1 : Int) (w0 : x0.length ≤ maxLen ∧ ∀ x ∈ x0, wf_Call x) (w1 : InK .i64 a1) : G_law17_HistPlace x0 a1 = some true := by
  unfold G_law17_HistPlace
  rw [wakes17, Option.bind_some]
  simp only [Bool.not_true, cond_false]
  by_cases hl : x0.length ≤ 60
  case neg =>
    have : (x0.length : Int) > 60 := by omega
    simp [this]
  have hl' : ¬ (x0.length : Int) > 60 := by omega
  simp only [hl', decide_false, Bool.not_false, cal_t, Bool.false_or]
  obtain ⟨b, hb, hS⟩ := sound_ok x0 hl
  rw [hb, Option.bind_some]
  cases b with
  | false => simp
  | true =>
    simp only [Bool.not_true, cond_false]
    by_cases hi : 0 ≤ a1 ∧ a1 < x0.length
    · obtain ⟨p, hp, hh⟩ := place_eq17 x0 (hS.1 rfl) a1 hi.1 hi.2
      rw [hh, hp, show (decide (a1 < 0) || decide (a1 ≥ (x0.length : Int))) = false by simp; omega]
      simp [eqb_Portholeref17_Spot]
    · have hb : (decide (a1 < 0) || decide (a1 ≥ (x0.length : Int))) = true := by simp; omega
      have hP : G_hist_Place x0 a1 = some (0, false, false) := by
        unfold G_hist_Place; rw [hb]; rfl
      rw [hP, hb]
      rfl
end Go.Proofs.Ytnfnincmhobpaaa
