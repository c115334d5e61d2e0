/- The plain law behind BoundKept. -/
import Derived.Test.YtnfnincmhobpaabPureBoundLeast
set_option linter.unusedVariables false
set_option linter.unusedSimpArgs false
namespace Go.Proofs.Ytnfnincmhobpaab
open Go Go.RowKit Go.Eng
theorem same2 {B B' : Int × Bool → Option (Stp (Int × Bool) (Ex (Int × Bool) Bool))} {n : Nat} (h1 : ∀ i : Nat, i < n → B ((i : Int), false) = B' ((i : Int), false) ∧ (B ((i : Int), false) = some (.out (.ret false)) ∨ B ((i : Int), false) = some (.next (((i + 1 : Nat) : Int), false)))) (h2 : B ((n : Int), false) = some (.out (.brk ((n : Int), false)))) (h2' : B' ((n : Int), false) = some (.out (.brk ((n : Int), false)))) :
    ∀ (k i : Nat), i + k = n → loopω B ((i : Int), false) = loopω B' ((i : Int), false) ∧ (loopω B ((i : Int), false) = some (.ret false) ∨ loopω B ((i : Int), false) = some (.brk ((n : Int), false)))
  | 0, i, h => by
    rw [loopω_eq (B := B), loopω_eq (B := B'), show i = n by omega, h2, h2']
    exact ⟨rfl, .inr rfl⟩
  | k + 1, i, h => by
    obtain ⟨h3, h4⟩ := h1 i (by omega)
    rw [loopω_eq (B := B), loopω_eq (B := B'), ← h3]
    rcases h4 with h4 | h4
    · rw [h4]; exact ⟨rfl, .inl rfl⟩
    · rw [h4]; exact same2 h1 h2 h2' k (i + 1) (by omega)
theorem u64w (x : Int) : IntKind.u64.wrap x = x % 18446744073709551616 := by
  simp [IntKind.wrap, IntKind.signed, IntKind.bits]
theorem kept_eq (c : Config) (l : List Call) (hl : l.length ≤ maxLen) (hc : c.Chans.length ≤ 100) (hw : ∀ i : Nat, i < l.length → wf_Request (rd l (i : Int)).Req)
    (hg : ∀ i : Nat, i < l.length → ((rd l (i : Int)).Req.Data.length : Int) ≤ 100 ∧ ((rd l (i : Int)).Ans.Data.length : Int) ≤ 100 ∧ (rd l (i : Int)).Own0 ≥ -1099511627776 ∧ (rd l (i : Int)).Own1 ≤ 1099511627776) :
    ∃ b, G_bound_Kept c l = some b ∧ G_ref23_Kept c l = some b := by
  unfold G_bound_Kept G_ref23_Kept
  obtain ⟨h, h3⟩ := same2 (B := G_bound_Kept.b1 c l) (B' := G_ref23_Kept.b1 c l) (n := l.length) (fun i hi => by
    have hq := hw i hi
    have hd := hg i hi
    unfold G_bound_Kept.b1 G_ref23_Kept.b1
    simp only [lt_t hi, inb_n hi, cond_true, req_t, w1 hi hl, steps_ok c _ _ hc hq, rsteps_ok c _ _ hc hq, rwords_ok c _ hc hq, bound_ok c _ hc hq, Option.bind_some]
    generalize rd l (i : Int) = x at hq hd
    cases x.Done
    · exact ⟨rfl, .inr rfl⟩
    · simp only [Bool.not_true, cond_false]
      have h5 := stp_ge c x.Req x.Ans hd.1 hd.2.1
      rw [w64 (x := stp c x.Req x.Ans - 1) (by omega) (by omega), show IntKind.i64.wrap (16 + IntKind.i64.wrap (2 * wds c x.Req)) = IntKind.i64.wrap (IntKind.i64.wrap (2 * wds c x.Req) + 16) by congr 1; omega]
      generalize IntKind.i64.wrap (IntKind.i64.wrap (2 * wds c x.Req) + 16) = B
      generalize stp c x.Req x.Ans = t at h5
      by_cases h6 : x.Own1 < x.Own0
      · rw [show decide (x.Own1 < x.Own0) = true by simpa using h6]
        simp only [Bool.true_or, Bool.not_true, cal_f, Option.bind_some, Bool.or_true, cond_true]
        exact ⟨trivial, .inl trivial⟩
      · rw [show decide (x.Own1 < x.Own0) = false by simp; omega]
        rw [w64 (x := x.Own1 - x.Own0) (by omega) (by omega), u64w, u64w, u64w, u64w]
        rw [show (x.Own1 % 18446744073709551616 - x.Own0 % 18446744073709551616) % 18446744073709551616 = x.Own1 - x.Own0 by omega, show (t - 1) % 18446744073709551616 = t - 1 by omega, show decide (x.Own1 - x.Own0 < 0) = false by simp; omega]
        simp only [Bool.false_or, Bool.or_false]
        cases h7 : (x.Own1 - x.Own0 != t - 1)
        · simp only [Bool.not_false, cal_t, Option.bind_some, Bool.false_or, cond_false]
          cases h8 : decide (t > B)
          · simp
          · simp
        · simp only [Bool.not_true, cal_f, Option.bind_some, Bool.true_or, cond_true]
          cases h8 : decide (t > B)
          · simp
          · simp) (by unfold G_bound_Kept.b1; rw [lt_f]; rfl) (by unfold G_ref23_Kept.b1; rw [lt_f]; rfl) l.length 0 (by omega)
  rw [show ((0 : Nat) : Int) = 0 from rfl] at h h3
  rw [← h]
  rcases h3 with h3 | h3
  · rw [h3]; exact ⟨_, rfl, rfl⟩
  · rw [h3]; exact ⟨_, rfl, rfl⟩
theorem pureBoundKept (x0 : Config) (x1 : (List Call)) (w0 : wf_Config x0) (w1 : x1.length ≤ maxLen ∧ ∀ x ∈ x1, wf_Call x) : G_law23_BoundKept x0 x1 = some true := by
  unfold G_law23_BoundKept
  rw [bwakes]
  obtain ⟨b, hb, hl⟩ := great_ok x0
  obtain ⟨a, ha, _⟩ := accepts_ok x0 (wfc_of w0)
  simp only [Option.bind_some, Bool.not_true, cond_false, hb, ha]
  have hfin : ∀ t10 t12, b = false → ((loopω (G_law23_BoundKept.b1 x0 x1 true t10 t12) (0, false)).bind fun o => o.on (fun s1 => ((G_bound_Kept x0 x1).bind fun t_43 => ((G_ref23_Kept x0 x1).bind fun t_45 => some (t_43 == t_45)))) (fun r => some r)) = some true := by
    intro t10 t12 hbf
    have key : ∀ i : Nat, i < x1.length → G_law23_BoundKept.b1 x0 x1 true t10 t12 ((i : Int), false) = bif (((decide ((((rd x1 (i : Int)).Req.Data).length : Int) > 100) || decide ((((rd x1 (i : Int)).Ans.Data).length : Int) > 100)) || decide (((rd x1 (i : Int)).Own0) < (-1099511627776))) || decide (((rd x1 (i : Int)).Own1) > 1099511627776)) then some (.out (.ret true)) else some (.next (((i + 1 : Nat) : Int), false)) := by
      intro i hi
      unfold G_law23_BoundKept.b1
      simp only [lt_t hi, inb_n hi, cond_true, req_t, Go.Proofs.Ytnfnincmhobpaab.w1 hi w1.1]
    rcases scan2 (B := G_law23_BoundKept.b1 x0 x1 true t10 t12) (n := x1.length) (fun i hi => by
      rw [key i hi]
      cases (((decide ((((rd x1 (i : Int)).Req.Data).length : Int) > 100) || decide ((((rd x1 (i : Int)).Ans.Data).length : Int) > 100)) || decide (((rd x1 (i : Int)).Own0) < (-1099511627776))) || decide (((rd x1 (i : Int)).Own1) > 1099511627776))
      · exact .inr rfl
      · exact .inl rfl) (by unfold G_law23_BoundKept.b1; rw [lt_f]; rfl) x1.length 0 (by omega) with h | ⟨h, h5⟩
    · rw [show ((0 : Nat) : Int) = 0 from rfl] at h; rw [h]; rfl
    · rw [show ((0 : Nat) : Int) = 0 from rfl] at h; rw [h]
      obtain ⟨v, e1, e2⟩ := kept_eq x0 x1 w1.1 (hl hbf) (fun i hi => (w1.2 _ (rd_mem (by omega) (by omega))).2.1) (fun i hi => by
        have h6 := h5 i (by omega) hi
        rw [key i hi] at h6
        cases h7 : (((decide ((((rd x1 (i : Int)).Req.Data).length : Int) > 100) || decide ((((rd x1 (i : Int)).Ans.Data).length : Int) > 100)) || decide (((rd x1 (i : Int)).Own0) < (-1099511627776))) || decide (((rd x1 (i : Int)).Own1) > 1099511627776))
        · simp at h7; omega
        · rw [h7] at h6; cases h6)
      simp only [Option.bind_some, Ex.on, e1, e2, beq_self_eq_true]
  cases b
  · simp only [Bool.not_false, cal_t, Option.bind_some, Bool.false_or]
    rw [hfin _ _ rfl]
    cases (!a || decide ((x1.length : Int) > 60)) <;> rfl
  · rfl
end Go.Proofs.Ytnfnincmhobpaab
