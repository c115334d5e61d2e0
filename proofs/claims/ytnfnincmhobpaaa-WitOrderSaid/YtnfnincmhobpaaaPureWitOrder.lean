/- The plain law behind WitOrder. -/
import Derived.Test.YtnfnincmhobpaaaPWitR
set_option linter.unusedVariables false
set_option linter.unusedSimpArgs false
namespace Go.Proofs.Ytnfnincmhobpaaa
open Go Go.RowKit Go.Eng
theorem pureWitOrder (x0 : (List Call)) (x1 : (List Belling)) (w0 : x0.length ≤ maxLen ∧ ∀ x ∈ x0, wf_Call x) (w1 : x1.length ≤ maxLen ∧ ∀ x ∈ x1, wf_Belling x) : G_law19_WitOrder x0 x1 = some true := by
  unfold G_law19_WitOrder
  rw [wakes19, Option.bind_some]
  simp only [Bool.not_true, cond_false]
  by_cases hl : x0.length ≤ 60 ∧ x1.length ≤ 60
  case neg =>
    have : (decide ((x0.length : Int) > 60) || decide ((x1.length : Int) > 60)) = true := by simp; omega
    rw [this]; simp
  have hf : (decide ((x0.length : Int) > 60) || decide ((x1.length : Int) > 60)) = false := by simp; omega
  rw [hf]
  simp only [Bool.not_false, cal_t, Bool.false_or]
  obtain ⟨b, hb, hS⟩ := sound_ok x0 hl.1
  rw [hb, Option.bind_some]
  cases b with
  | false => simp
  | true =>
    simp only [Bool.not_true, cond_false]
    obtain ⟨p, p1, p2⟩ := places (hS.1 rfl)
    obtain ⟨l', s1, s2⟩ := spots_eq hl.1 hl.2 p2
    have hlen : l'.length ≤ 180 := by have := lp_len (P3 p) x0 x1; rw [s2.perm.length_eq]; omega
    rw [worder_eq s1 hlen, Option.bind_some, order_eq hl.1 hl.2 p1 s2, Option.bind_some, items_eq l' hlen, Option.bind_some, same_eq _ (by rw [List.length_map]; simp only [maxLen]; omega)]
    rfl
end Go.Proofs.Ytnfnincmhobpaaa
