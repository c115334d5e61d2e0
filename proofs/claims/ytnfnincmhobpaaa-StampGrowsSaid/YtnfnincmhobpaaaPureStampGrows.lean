/- The plain law behind StampGrows: what the walk shows is true of every input. -/
import Derived.Test.YtnfnincmhobpaaaG1
namespace Go.Proofs.Ytnfnincmhobpaaa
open Go Go.RowKit Go.Eng
theorem wakes24 : G_law24_wakes = some true := by
  simp [G_law24_wakes, G_stamp_Fresh, w64]
theorem pureStampGrows (x0 : St23) (w0 : wf_St23 x0) : G_law24_StampGrows x0 = some true := by
  obtain ⟨h0, h1, h2, h3⟩ := w0
  have b0 := h0.u32
  have b1 := h1.u32
  have b2 := h2.u32
  have b3 := h3.u32
  unfold G_law24_StampGrows
  rw [w64 (x := x0.e0) (by omega) (by omega), w64 (x := x0.e1) (by omega) (by omega), w64 (x := x0.e2) (by omega) (by omega), w64 (x := x0.e3) (by omega) (by omega)]
  generalize x0.e0 = p at *
  generalize x0.e1 = s at *
  generalize x0.e2 = now at *
  generalize x0.e3 = more at *
  unfold G_law24_grows
  rw [wakes24, w64 (x := p + more) (by omega) (by omega), w64 (x := s + more) (by omega) (by omega), w64 (x := now - more) (by omega) (by omega), w64 (x := now + more) (by omega) (by omega)]
  simp only [G_stamp_Fresh, Option.bind_some, Bool.not_true, cond_false]
  rw [w64 (x := now - s) (by omega) (by omega), w64 (x := now - (s + more)) (by omega) (by omega), w64 (x := now - more - s) (by omega) (by omega), w64 (x := now + more - (s + more)) (by omega) (by omega)]
  by_cases hf : now - s ≤ p
  · have e1 : now - s ≤ p + more := by omega
    have e2 : now - (s + more) ≤ p := by omega
    have e3 : now - more - s ≤ p := by omega
    have e4 : now + more - (s + more) ≤ p := by omega
    by_cases hm : more ≤ now <;> simp [hf, e1, e2, e3, e4, hm]
  · have e4 : ¬ now + more - (s + more) ≤ p := by omega
    simp [hf, e4]
end Go.Proofs.Ytnfnincmhobpaaa
