/- The plain law behind PackRuns: the runs of any acts are told, each once, up to where one stops. -/
import Derived.Test.YtmchkeflhpojmaaDoorPRuns
import Derived.Test.YtmchkeflhpojmaaDoorGPM
set_option linter.unusedVariables false
set_option linter.unusedSimpArgs false
namespace Go.Proofs.YtmchkeflhpojmaaDoor
open Go Go.RowKit Go.Eng
set_option maxRecDepth 100000 in
theorem wakes30 : G_law30_wakes = some true := C_law30_wakes.le _ (by kernel_rfl)
theorem u8w {a : Int} (h : InK .u8 a) : IntKind.i64.wrap a = a := by
  have := InK.u8 h
  rw [w64] <;> omega
theorem eqb_run (x y : Portholeref30_Run) : eqb_Portholeref30_Run x y = decide (x = y) := by
  unfold eqb_Portholeref30_Run
  cases x; cases y
  rw [Bool.eq_iff_iff]
  simp [Portholeref30_Run.mk.injEq]
/-- the law's body over what is told from the j-th on -/
theorem fold1 (l : List Int) (a1 : Int) (ha : 0 ≤ a1) (ha2 : a1 ≤ 255) (hl : l.length ≤ 1000) (t28 : List Int) : ∀ (k j : Nat), j + k = (runs l).length → (j : Int) ≤ a1 →
    ∃ z, foldY (G_law30_PackRuns.r1 l a1 true ((runs l).map toR) t28) (false, (j : Int)) (((runs l).drop j).map fun p => (p.1, (p.2 : Int))) = some z ∧
      (z = .next (false, ((runs l).length : Int)) ∧ ((runs l).length : Int) ≤ a1 ∨ z = .out (0, (false, a1)) ∧ a1 < ((runs l).length : Int))
  | k, j, h, hj => by
    rcases Nat.eq_zero_or_pos k with h0 | h0
    · have : j = (runs l).length := by omega
      subst this
      rw [List.drop_of_length_le (Nat.le_refl _)]
      exact ⟨_, rfl, .inl ⟨rfl, hj⟩⟩
    · have hjl : j < (runs l).length := by omega
      have hrl := runs_len l
      obtain ⟨p, hp⟩ : ∃ p, (runs l)[j]? = some p := ⟨_, List.getElem?_eq_getElem hjl⟩
      have hd : (runs l).drop j = p :: (runs l).drop (j + 1) := by
        rw [List.drop_eq_getElem_cons hjl]
        rw [List.getElem?_eq_getElem hjl, Option.some.injEq] at hp
        rw [hp]
      rw [hd]
      simp only [List.map_cons, foldY]
      have hw : IntKind.i64.wrap a1 = a1 := by rw [w64] <;> omega
      by_cases hs : (j : Int) ≥ a1
      · have hB : G_law30_PackRuns.r1 l a1 true ((runs l).map toR) t28 (false, (j : Int)) (p.1, (p.2 : Int)) = some (.out (0, (false, (j : Int)))) := by
          unfold G_law30_PackRuns.r1
          dsimp only
          rw [hw, decide_eq_true hs]; rfl
        rw [hB]
        have : (j : Int) = a1 := by omega
        exact ⟨_, rfl, .inr ⟨by rw [this], by omega⟩⟩
      · have hlen : ((runs l).map toR).length = (runs l).length := by simp
        have hrd : rd ((runs l).map toR) (j : Int) = toR p := by simp [rd, List.getD_eq_getElem?_getD, hp]
        have hB : G_law30_PackRuns.r1 l a1 true ((runs l).map toR) t28 (false, (j : Int)) (p.1, (p.2 : Int)) = some (.next (false, ((j + 1 : Nat) : Int))) := by
          unfold G_law30_PackRuns.r1
          dsimp only
          rw [hw, decide_eq_false hs, hlen, hrd]
          have hge : decide ((j : Int) ≥ ((runs l).length : Int)) = false := by simp; omega
          have he : eqb_Portholeref30_Run (toR p) (⟨p.1, (p.2 : Int)⟩ : Portholeref30_Run) = true := by rw [eqb_run]; simp [toR]
          rw [hge, he, inb_n hjl]
          have hw1 : IntKind.i64.wrap ((j : Int) + 1) = ((j + 1 : Nat) : Int) := wp1 hjl (by simp only [maxLen]; omega)
          simp only [cond_false, imp_tt, req_t, Bool.not_true, Bool.or_false, Bool.not_false, Bool.true_and, Bool.false_or, hw1]
          rcases Nat.eq_zero_or_pos j with h1 | h1
          · subst h1
            simp [imp]
          · have hw2 : IntKind.i64.wrap ((j : Int) - 1) = ((j - 1 : Nat) : Int) := by rw [w64] <;> omega
            obtain ⟨q, hq⟩ : ∃ q, (runs l)[j - 1]? = some q := ⟨_, List.getElem?_eq_getElem (by omega)⟩
            have hrq : rd ((runs l).map toR) ((j - 1 : Nat) : Int) = toR q := by simp [rd, List.getD_eq_getElem?_getD, hq]
            have hne := runs_adj l (j - 1) q p hq (by rw [show j - 1 + 1 = j by omega]; exact hp)
            rw [hw2, hrq, inb_n (by omega)]
            have : ((toR q).Act == p.1) = false := by simpa [toR] using hne
            rw [this]
            simp
        rw [hB]
        simp only [Option.bind_some, Stp.on]
        exact fold1 l a1 ha ha2 hl t28 (k - 1) (j + 1) (by omega) (by omega)
  termination_by k => k
theorem purePackRuns (l0 : (List Int)) (a1 : Int) (h0 : l0.length ≤ maxLen ∧ ∀ x ∈ l0, InK .i64 x) (w1 : InK .u8 a1) : G_law30_PackRuns l0 a1 = some true := by
  unfold G_law30_PackRuns
  rw [wakes30]
  simp only [Option.bind_some, Bool.not_true, cond_false]
  by_cases hl : (l0.length : Int) > 500
  · rw [decide_eq_true hl]; rfl
  · rw [decide_eq_false hl, cond_false, refRuns l0 (by omega)]
    have ha := InK.u8 w1
    simp only [Option.bind_some, G_pack_Runs]
    obtain ⟨z, hz, hc⟩ := fold1 l0 a1 (by omega) (by omega) (by omega) l0 (runs l0).length 0 (by omega) (by omega)
    rw [List.drop_zero, show (((0 : Nat) : Int)) = 0 from rfl] at hz
    rw [packRuns_it _ _ l0 h0.1 hz, u8w w1]
    simp only [Option.bind_some, List.length_map]
    rcases hc with ⟨rfl, h⟩ | ⟨rfl, h⟩
    · simp only [Stp.on]
      have : mnI a1 ((runs l0).length : Int) = ((runs l0).length : Int) := by unfold mnI; split <;> omega
      rw [this]; simp
    · simp only [Stp.on, Nat.beq_refl, cond_true]
      have : mnI a1 ((runs l0).length : Int) = a1 := by unfold mnI; split <;> omega
      rw [this]; simp
end Go.Proofs.YtmchkeflhpojmaaDoor
