/- The plain law behind AuditApart: no two partitions own one address. Conditions: none. -/
import Derived.Test.YtnfnincmhobpaabPChg
set_option linter.unusedVariables false
set_option linter.unusedSimpArgs false
namespace Go.Proofs.Ytnfnincmhobpaab
open Go Go.RowKit Go.Eng
theorem ps_mono {c : Config} (h : AccS c) : ∀ {i j : Nat}, i ≤ j → j ≤ c.Parts.length → ps c i ≤ ps c j := by
  intro i j hij
  induction j with
  | zero => intro _; have : i = 0 := by omega
            subst this; omega
  | succ j ih =>
    intro hj
    by_cases he : i = j + 1
    · subst he; omega
    · have h1 := ih (by omega) (by omega)
      have h2 := h.priv _ (rdm (xs := c.Parts) (i := j) (by omega))
      simp only [ps]; omega
theorem bs_mono {c : Config} (h : AccS c) : ∀ {i j : Nat}, i ≤ j → j ≤ c.Chans.length → bs c i ≤ bs c j := by
  intro i j hij
  induction j with
  | zero => intro _; have : i = 0 := by omega
            subst this; omega
  | succ j ih =>
    intro hj
    by_cases he : i = j + 1
    · subst he; omega
    · have h1 := ih (by omega) (by omega)
      have h2 := srcSz_bd h (rdm (xs := c.Chans) (i := j) (by omega))
      simp only [bs]; omega
theorem hasS_in {s : Span} {z : Int} (h : hasS s z = true) : s.From ≤ z ∧ z < s.From + s.Size := by
  unfold hasS at h; simp at h; omega
theorem may_cases {c : Config} {p z : Int} (h : mayB c p z = true) :
    (∃ q : Nat, p = (q : Int) ∧ q < c.Parts.length ∧ ps c q ≤ z ∧ z < ps c (q + 1)) ∨
    (∃ k : Nat, k < c.Chans.length ∧ (((rd c.Chans (k : Int)).From = p ∧ bs c k ≤ z ∧ z < bs c k + srcSz (rd c.Chans (k : Int))) ∨ ((rd c.Chans (k : Int)).To = p ∧ bs c k + srcSz (rd c.Chans (k : Int)) ≤ z ∧ z < bs c (k + 1)))) := by
  unfold mayB at h
  rw [Bool.or_eq_true] at h
  rcases h with h | h
  · left
    unfold mayP at h
    rw [Bool.and_eq_true, Bool.and_eq_true] at h
    obtain ⟨⟨h1, h2⟩, h3⟩ := h
    simp at h1 h2
    have := hasS_in h3
    refine ⟨p.toNat, by omega, by omega, ?_⟩
    simpa [pvS, ps] using this
  · right
    rw [List.any_eq_true] at h
    obtain ⟨k, hk, h⟩ := h
    refine ⟨k, List.mem_range.1 hk, ?_⟩
    unfold mayK at h
    rw [Bool.or_eq_true, Bool.and_eq_true, Bool.and_eq_true] at h
    rcases h with ⟨h1, h2⟩ | ⟨h1, h2⟩
    · left
      have := hasS_in h2
      exact ⟨by simpa using h1, by simpa [scS] using this⟩
    · right
      have := hasS_in h2
      exact ⟨by simpa using h1, by simpa [dsS, bs] using this⟩
theorem may_one {c : Config} (h : AccS c) {p q z : Int} (hp : mayB c p z = true) (hq : mayB c q z = true) : p = q := by
  rcases may_cases hp with ⟨i, rfl, hi, a1, a2⟩ | ⟨i, hi, a⟩
  · rcases may_cases hq with ⟨j, rfl, hj, b1, b2⟩ | ⟨j, hj, b⟩
    · by_cases hij : i = j
      · rw [hij]
      · rcases Nat.lt_or_gt_of_ne hij with hlt | hlt
        · have := ps_mono h (show i + 1 ≤ j by omega) (by omega); omega
        · have := ps_mono h (show j + 1 ≤ i by omega) (by omega); omega
    · have e1 := ps_mono h (show i + 1 ≤ c.Parts.length by omega) (Nat.le_refl _)
      have e2 := bs_mono h (Nat.zero_le j) (by omega)
      have e3 := srcSz_bd h (rdm hj)
      have e4 : bs c 0 = ps c c.Parts.length := rfl
      rcases b with ⟨_, b1, b2⟩ | ⟨_, b1, b2⟩
      · omega
      · omega
  · rcases may_cases hq with ⟨j, rfl, hj, b1, b2⟩ | ⟨j, hj, b⟩
    · have e1 := ps_mono h (show j + 1 ≤ c.Parts.length by omega) (Nat.le_refl _)
      have e2 := bs_mono h (Nat.zero_le i) (by omega)
      have e3 := srcSz_bd h (rdm hi)
      have e4 : bs c 0 = ps c c.Parts.length := rfl
      rcases a with ⟨_, a1, a2⟩ | ⟨_, a1, a2⟩
      · omega
      · omega
    · have e3 := srcSz_bd h (rdm hi)
      have e5 := srcSz_bd h (rdm hj)
      have e6 : bs c (i + 1) = bs c i + srcSz (rd c.Chans (i : Int)) + 1 := rfl
      have e7 : bs c (j + 1) = bs c j + srcSz (rd c.Chans (j : Int)) + 1 := rfl
      by_cases hij : i = j
      · subst hij
        rcases a with ⟨a0, a1, a2⟩ | ⟨a0, a1, a2⟩ <;> rcases b with ⟨b0, b1, b2⟩ | ⟨b0, b1, b2⟩
        · rw [← a0, ← b0]
        · omega
        · omega
        · rw [← a0, ← b0]
      · have : (bs c i ≤ z ∧ z < bs c (i + 1)) ∧ (bs c j ≤ z ∧ z < bs c (j + 1)) := by
          rcases a with ⟨a0, a1, a2⟩ | ⟨a0, a1, a2⟩ <;> rcases b with ⟨b0, b1, b2⟩ | ⟨b0, b1, b2⟩ <;> omega
        rcases Nat.lt_or_gt_of_ne hij with hlt | hlt
        · have := bs_mono h (show i + 1 ≤ j by omega) (by omega); omega
        · have := bs_mono h (show j + 1 ≤ i by omega) (by omega); omega
theorem own_trans {c : Config} {p : Int} {x y z : List Int} (h1 : x.length = y.length) (h2 : z.length = y.length) (ha : ownB c p x y = true) (hb : ownB c p y z = true) : ownB c p x z = true := by
  unfold ownB at *
  rw [List.all_eq_true] at *
  intro w hw
  obtain ⟨j, rfl, _, hj, hg⟩ := chs_mem.1 hw
  by_cases e1 : chg x y j = true
  · exact ha _ (chs_mem.2 ⟨j, rfl, by omega, by omega, e1⟩)
  · refine hb _ (chs_mem.2 ⟨j, rfl, by omega, by omega, ?_⟩)
    by_cases e2 : chg y z j = true
    · exact e2
    · exfalso
      unfold chg at hg e1 e2
      simp at hg e1 e2
      rcases hg with (h | h) | h
      · omega
      · omega
      · exact h (e1.2.trans e2.2)
def cnt (f : Nat → Bool) : Nat → Nat
  | 0 => 0
  | i + 1 => cnt f i + if f i then 1 else 0
theorem cnt_le (f : Nat → Bool) : ∀ i, cnt f i ≤ i
  | 0 => Nat.le_refl _
  | i + 1 => by have := cnt_le f i; simp only [cnt]; split <;> omega
theorem cnt_one {f : Nat → Bool} (h : ∀ i j, f i = true → f j = true → i = j) : ∀ n, cnt f n ≤ 1 ∧ (1 ≤ cnt f n → ∃ i, i < n ∧ f i = true)
  | 0 => ⟨by simp [cnt], fun h => by simp [cnt] at h⟩
  | n + 1 => by
    obtain ⟨h1, h2⟩ := cnt_one h n
    simp only [cnt]
    by_cases hf : f n = true
    · rw [if_pos hf]
      by_cases h0 : 1 ≤ cnt f n
      · obtain ⟨i, hi, hfi⟩ := h2 h0
        have := h _ _ hf hfi
        omega
      · exact ⟨by omega, fun _ => ⟨n, by omega, hf⟩⟩
    · rw [if_neg hf]
      exact ⟨by omega, fun h0 => by obtain ⟨i, hi, hfi⟩ := h2 (by omega); exact ⟨i, by omega, hfi⟩⟩
theorem great_eq (c : Config) : G_ref06_Great c = some (((decide ((c.Parts.length : Int) > 100) || decide ((c.Chans.length : Int) > 100)) || decide ((c.Frames.e0.Windows.length : Int) > 100)) || decide ((c.Frames.e1.Windows.length : Int) > 100)) := rfl
theorem pureAuditApart (x0 : Config) (x1 : Portholelaw22_Times) (x2 : (List Int)) (w0 : wf_Config x0) (w1 : wf_Portholelaw22_Times x1) (w2 : x2.length ≤ maxLen ∧ ∀ x ∈ x2, (InK .u32) x) : G_law22_AuditApart x0 x1 x2 = some true := by
  unfold G_law22_AuditApart
  have hc := wfc_of w0
  simp only [wakes_ok, Option.bind_some, Bool.not_true, cond_false, great_eq]
  generalize (((decide ((x0.Parts.length : Int) > 100) || decide ((x0.Chans.length : Int) > 100)) || decide ((x0.Frames.e0.Windows.length : Int) > 100)) || decide ((x0.Frames.e1.Windows.length : Int) > 100)) = g
  cases g
  case true => simp
  simp only [Bool.not_false, cal_t, racc_eq x0 hc, Option.bind_some, Bool.false_or]
  cases ha : acc x0
  · simp
  simp only [Bool.not_true, Bool.false_or]
  by_cases hl : x1.Before.length ≤ 300 ∧ x1.After.length ≤ 300 ∧ x1.Before.length = x1.After.length ∧ x2.length = x1.After.length
  case neg =>
    rw [show (((decide ((x1.Before.length : Int) > 300) || decide ((x1.After.length : Int) > 300)) || ((x1.Before.length : Int) != (x1.After.length : Int))) || ((x2.length : Int) != (x1.After.length : Int))) = true by simp; omega]
    rfl
  obtain ⟨h1, h2, h3, h4⟩ := hl
  rw [show (((decide ((x1.Before.length : Int) > 300) || decide ((x1.After.length : Int) > 300)) || ((x1.Before.length : Int) != (x1.After.length : Int))) || ((x2.length : Int) != (x1.After.length : Int))) = false by simp; omega]
  have hA := accS ha
  have hn := hA.n6
  simp only [cond_false]
  have l1 := loop_run (B := G_law22_AuditApart.b1 x0 x1 x2 true false true) (fun i => ((i : Int), ((cnt (fun j => ownB x0 (j : Int) x1.Before x1.After) i : Nat) : Int), false)) x0.Parts.length (.brk ((x0.Parts.length : Int), ((cnt (fun j => ownB x0 (j : Int) x1.Before x1.After) x0.Parts.length : Nat) : Int), false)) (fun i hi => by
    have hle := cnt_le (fun j => ownB x0 (j : Int) x1.Before x1.After) i
    unfold G_law22_AuditApart.b1
    simp only [lt_t hi, cond_true, own_eq hc ha _ _ _ h1 h2, own_eq hc ha _ _ x2 h2 (show x2.length ≤ 300 by omega), own_eq hc ha _ _ x2 h1 (show x2.length ≤ 300 by omega), Option.bind_some, wp1 hi hc.1, cnt]
    by_cases e1 : ownB x0 (i : Int) x1.Before x1.After = true
    case neg =>
      rw [Bool.not_eq_true] at e1
      simp only [e1, Bool.false_and, cal_f, Option.bind_some, cond_false]
      simp
    · simp only [e1]
      cases e2 : ownB x0 (i : Int) x1.After x2
      · simp only [Bool.and_false, Bool.false_and, cal_f, Option.bind_some, cond_false, cond_true, if_true]
        rw [w64 (by omega) (by omega)]; rfl
      · have e3 := own_trans h3 h4 e1 e2
        simp only [Bool.and_self, cal_t, Option.bind_some, e3, Bool.not_true, Bool.and_false, cond_false, cond_true, if_true]
        rw [w64 (by omega) (by omega)]; rfl) (by unfold G_law22_AuditApart.b1; simp only [lt_f, cond_false])
  rw [show (((0 : Nat) : Int), ((cnt (fun j => ownB x0 (j : Int) x1.Before x1.After) 0 : Nat) : Int), false) = ((0 : Int), (0 : Int), false) from rfl] at l1
  rw [l1]
  simp only [Option.bind_some, Ex.on_brk, quiet_ok x1.Before x1.After h1 h2]
  cases hch : chs x1.Before x1.After 0 (max x1.Before.length x1.After.length) with
  | nil =>
    simp only [List.length_nil]
    by_cases hle : ((cnt (fun j => ownB x0 (j : Int) x1.Before x1.After) x0.Parts.length : Nat) : Int) ≤ 1
    · simp [hle, cal]
    · simp [hle, cal]
  | cons y r =>
    have : cnt (fun j => ownB x0 (j : Int) x1.Before x1.After) x0.Parts.length ≤ 1 := by
      refine (cnt_one (fun i j hi hj => ?_) _).1
      have m1 : mayB x0 (i : Int) y = true := by
        unfold ownB at hi; rw [hch, List.all_cons, Bool.and_eq_true] at hi; exact hi.1
      have m2 : mayB x0 (j : Int) y = true := by
        unfold ownB at hj; rw [hch, List.all_cons, Bool.and_eq_true] at hj; exact hj.1
      have := may_one hA m1 m2
      omega
    have hle : ((cnt (fun j => ownB x0 (j : Int) x1.Before x1.After) x0.Parts.length : Nat) : Int) ≤ 1 := by omega
    simp [hle, cal]
end Go.Proofs.Ytnfnincmhobpaab
