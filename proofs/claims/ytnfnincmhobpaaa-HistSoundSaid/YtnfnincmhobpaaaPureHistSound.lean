/- The plain law behind HistSound. -/
import Derived.Test.YtnfnincmhobpaaaPureHist
set_option linter.unusedSimpArgs false
set_option linter.unusedVariables false
namespace Go.Proofs.Ytnfnincmhobpaaa
open Go Go.RowKit Go.Eng
theorem tmod_in {a : Int} {n : Nat} (ha : 0 ≤ a) (hn : n ≠ 0) : inb (Int.tmod a (n : Int)) n = true := by
  have h1 := Int.tmod_nonneg (n : Int) ha
  have h2 := Int.tmod_lt_of_pos a (b := (n : Int)) (by omega)
  exact inb_of h1 h2
theorem pureHistSound (x0 : (List Call)) (a1 : Int) (a2 : Int) (w0 : x0.length ≤ maxLen ∧ ∀ x ∈ x0, wf_Call x) (w1 : InK .u8 a1) (w2 : InK .u8 a2) : G_law17_HistSound x0 a1 a2 = some true := by
  have b1 := w1.u8
  have b2 := w2.u8
  unfold G_law17_HistSound
  rw [wakes17, Option.bind_some, w64 (x := a1) (by omega) (by omega), w64 (x := a2) (by omega) (by omega)]
  simp only [Bool.not_true, cond_false]
  by_cases hl : x0.length ≤ 60
  case neg =>
    have : (x0.length : Int) > 60 := by omega
    simp [this]
  have hl' : ¬ (x0.length : Int) > 60 := by omega
  simp only [hl', decide_false, cond_false]
  obtain ⟨b, hb, hS⟩ := hsound_ok x0 hl w0.2
  obtain ⟨c, hc, hT⟩ := sound_ok x0 hl
  rw [hb, hc, Option.bind_some, Option.bind_some]
  have hbc : b = c := by
    cases b <;> cases c
    · rfl
    · exact hS.2 (hT.1 rfl)
    · exact (hT.2 (hS.1 rfl)).symm
    · rfl
  subst hbc
  simp only [beq_self_eq_true, Bool.not_true, cond_false]
  by_cases hn : x0.length = 0
  · simp [hn]
  · have h1 : ((x0.length : Int) == 0) = false := by simpa using hn
    have h2 : decide (¬ (x0.length : Int) = 0) = true := by simpa using hn
    rw [h1, h2, tmod_in b1.1 hn, tmod_in b2.1 hn]
    simp only [cond_false, req_t]
    have hA : ∀ x y : Call, G_hist_Ahead x y = some (aheadB x y) := fun _ _ => rfl
    rw [hA, ahead_eq]
    simp
end Go.Proofs.Ytnfnincmhobpaaa
