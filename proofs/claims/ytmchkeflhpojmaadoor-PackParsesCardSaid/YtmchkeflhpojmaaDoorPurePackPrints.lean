/- The plain law behind PackPrints: any acts have the document's text, or none; those that have one are parsed from it. -/
import Derived.Test.YtmchkeflhpojmaaDoorPParse
import Derived.Test.YtmchkeflhpojmaaDoorGTM
set_option linter.unusedVariables false
set_option linter.unusedSimpArgs false
namespace Go.Proofs.YtmchkeflhpojmaaDoor
open Go Go.RowKit Go.Eng
set_option maxRecDepth 100000 in
theorem wakesT : G_law30_wakes = some true := C_law30_wakes.le _ (by kernel_rfl)
theorem same_self (l : List Int) (hl : l.length ≤ maxLen) : G_ref01_Same l l = some true := by
  unfold G_ref01_Same
  rw [show (((l.length : Int)) != (l.length : Int)) = false by simp, cond_false]
  have := loop_all0 (B := G_ref01_Same.b1 l l) l.length (fun _ _ => True) (fun _ s => s) false trivial (fun i s hi _ => ⟨by
    unfold G_ref01_Same.b1
    dsimp only
    rw [lt_t hi, inb_n hi, wp1 hi hl]
    simp, trivial⟩) (fun s _ => by
    unfold G_ref01_Same.b1
    rw [lt_f]; rfl)
  rw [this.1]; rfl
theorem prt_ok {l : List Int} (h : (prt l).2 = true) : l.length ≤ 4096 ∧ (runs l).all (fun p => okA p.1) = true ∧ prt l = (⟨(txt (runs l)).toArray⟩, true) := by
  unfold prt at h ⊢
  by_cases hl : l.length > 4096
  · rw [if_pos hl] at h; cases h
  · rw [if_neg hl] at h ⊢
    cases ha : (runs l).all (fun p => okA p.1) with
    | true => exact ⟨by omega, rfl, rfl⟩
    | false => rw [ha, cond_false] at h; cases h
theorem prt_no {l : List Int} (h : (prt l).2 = false) : prt l = (⟨#[]⟩, false) := by
  unfold prt at h ⊢
  by_cases hl : l.length > 4096
  · rw [if_pos hl]
  · rw [if_neg hl] at h ⊢
    cases ha : (runs l).all (fun p => okA p.1) with
    | true => rw [ha, cond_true] at h; cases h
    | false => rfl
/-- what has a text is read from it -/
theorem back {l : List Int} (h : l.length ≤ 4096) (ha : (runs l).all (fun p => okA p.1) = true) : pp [] (-1) [] (txt (runs l)) = (l, true) := by
  rw [fwd0 (runs l) (okR_runs l) (fun p hp => List.all_eq_true.1 ha p hp) (by rw [ex_runs]; exact h), ex_runs]
theorem purePackPrints (l0 : (List Int)) (h0 : l0.length ≤ maxLen ∧ ∀ x ∈ l0, InK .i64 x) : G_law30_PackPrints l0 = some true := by
  unfold G_law30_PackPrints
  rw [wakesT]
  simp only [Option.bind_some, Bool.not_true, cond_false]
  by_cases hl : (l0.length : Int) > 5000
  · rw [decide_eq_true hl]; rfl
  · rw [decide_eq_false hl, cond_false, packPrint l0 h0.1, refPrint l0 (by omega)]
    simp only [Option.bind_some]
    cases hp : (prt l0).2 with
    | true =>
      obtain ⟨h1, h2, e⟩ := prt_ok hp
      have hpp := packParse (txt (runs l0))
      rw [back h1 h2] at hpp
      have hsz : G_pack_Size ⟨(txt (runs l0)).toArray⟩ = some (l0.length : Int) := by unfold G_pack_Size; rw [hpp]; rfl
      rw [e]
      simp only [hpp, same_self l0 h0.1, hsz, Option.bind_some]
      simp [cal, same_self l0 h0.1, hsz]
    | false =>
      rw [prt_no hp]
      have hpp := packParse []
      rw [show (⟨([] : List UInt8).toArray⟩ : ByteArray) = ⟨#[]⟩ from rfl] at hpp
      simp only [hpp, Option.bind_some]
      simp [cal]
end Go.Proofs.YtmchkeflhpojmaaDoor
