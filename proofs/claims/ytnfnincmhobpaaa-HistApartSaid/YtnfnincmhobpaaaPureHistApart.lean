/- The plain law behind HistApart. -/
import Derived.Test.YtnfnincmhobpaaaPureHist
set_option linter.unusedSimpArgs false
set_option linter.unusedVariables false
namespace Go.Proofs.Ytnfnincmhobpaaa
open Go Go.RowKit Go.Eng
theorem before_ex (l : List Call) (i : Int) (h0 : 0 ≤ i) : ∀ n : Nat, (n : Int) ≤ i → (∃ k, 0 ≤ k ∧ k < (n : Int) ∧ (rd l k).Part = (rd l i).Part ∧ ∀ j, k < j → j < (n : Int) → (rd l j).Part ≠ (rd l i).Part) ∨ ∀ j, 0 ≤ j → j < (n : Int) → (rd l j).Part ≠ (rd l i).Part := by
  intro n
  induction n with
  | zero => intro _; right; intro j a b; omega
  | succ n ih =>
    intro hn
    by_cases hp : (rd l (n : Int)).Part = (rd l i).Part
    · left; exact ⟨n, by omega, by omega, hp, fun j a b => by omega⟩
    · rcases ih (by omega) with ⟨k, a, b, c, d⟩ | h
      · left
        refine ⟨k, a, by omega, c, fun j u v => ?_⟩
        by_cases hj : j = n
        · subst hj; exact hp
        · exact d j u (by omega)
      · right
        intro j u v
        by_cases hj : j = n
        · subst hj; exact hp
        · exact h j u (by omega)
/-- of sound calls of one partition each is ahead of each later one. -/
theorem apart (l : List Call) (hS : ∀ i : Int, 0 ≤ i → i < l.length → SoundAt l i) : ∀ (n : Nat) (i k : Int), i.toNat = n → 0 ≤ k → k < i → i < l.length → (rd l k).Part = (rd l i).Part → (rd l k).Done = true ∧ (rd l k).To < (rd l i).From := by
  intro n
  induction n using Nat.strongRecOn with
  | _ n ih =>
    intro i k hn h0 h1 h2 hp
    have hb : ∃ p, Before l i p ∧ k ≤ p := by
      rcases before_ex l i (by omega) i.toNat (by omega) with ⟨p, a, b, c, d⟩ | h
      · refine ⟨p, .inr ⟨a, by omega, c, fun j u v => d j u (by omega)⟩, ?_⟩
        apply Classical.byContradiction
        intro hh
        exact d k (by omega) (by omega) hp
      · exact absurd hp (h k h0 (by omega))
    obtain ⟨p, hB, hkp⟩ := hb
    obtain ⟨q1, _, _⟩ := ((hS i (by omega) h2).next p hB).2 (by omega)
    simp only [aheadB, Bool.and_eq_true, decide_eq_true_eq] at q1
    by_cases hk : k = p
    · subst hk; exact q1
    · rcases hB with ⟨hh, _⟩ | ⟨p0, p1, p2, _⟩
      · omega
      · obtain ⟨r1, r2⟩ := ih p.toNat (by omega) p k rfl h0 (by omega) (by omega) (hp.trans p2.symm)
        have := ((one_spec _).1 (hS p p0 (by omega)).one).d q1.1
        exact ⟨r1, by omega⟩
theorem rd_take (l : List Call) (i j : Int) (h0 : 0 ≤ j) (h1 : j < i) : rd (l.take i.toNat) j = rd l j := by
  unfold rd
  rw [List.getD_eq_getElem?_getD, List.getD_eq_getElem?_getD, List.getElem?_take, if_pos (by omega)]
theorem pureHistApart (x0 : (List Call)) (w0 : x0.length ≤ maxLen ∧ ∀ x ∈ x0, wf_Call x) : G_law17_HistApart x0 = some true := by
  unfold G_law17_HistApart
  rw [wakes17, Option.bind_some]
  simp only [Bool.not_true, cond_false]
  by_cases hl : x0.length ≤ 60
  case neg =>
    have : (x0.length : Int) > 60 := by omega
    simp [this]
  have hl' : ¬ (x0.length : Int) > 60 := by omega
  simp only [hl', decide_false, Bool.not_false, cal_t, Bool.false_or]
  obtain ⟨b, hb, hS⟩ := hsound_ok x0 hl w0.2
  rw [hb, Option.bind_some]
  cases b with
  | false => simp
  | true =>
    simp only [Bool.not_true, cond_false]
    have hS := hS.1 rfl
    have hB := loopω_ok (B := G_law17_HistApart.b1 x0 true true) (fun s => 0 ≤ s.1 ∧ s.1 ≤ x0.length) (fun s => (x0.length - s.1).toNat) (fun o => ∃ s, o = .brk s) ?_ (0, false) ⟨by simp, by simp⟩
    · obtain ⟨o, ho, s, rfl⟩ := hB
      rw [ho]; rfl
    · rintro ⟨i, r⟩ ⟨a, b⟩
      simp only at a b
      unfold G_law17_HistApart.b1
      by_cases hi : i < x0.length
      · left
        simp only [hi, decide_true, cond_true]
        rw [inb_of a hi, req_t, inb_of a (by omega), req_t]
        have hlen : ((x0.take i.toNat).length : Int) = i := by rw [List.length_take]; omega
        have hC := loopω_ok (B := G_law17_HistApart.b2 x0 true true (i, r)) (fun s => 0 ≤ s.1 ∧ s.1 ≤ i) (fun s => (i - s.1).toNat) (fun o => ∃ s, o = .brk s) ?_ (0, r) ⟨by simp, by simp only; omega⟩
        · obtain ⟨o, ho, s, rfl⟩ := hC
          rw [ho, w64 (x := i + 1) (by omega) (by omega)]
          exact ⟨_, rfl, ⟨by simp only; omega, by simp only; omega⟩, by simp only; omega⟩
        · rintro ⟨k, r2⟩ ⟨c, d⟩
          simp only at c d
          unfold G_law17_HistApart.b2
          simp only [hlen]
          by_cases hk : k < i
          · left
            have h1 := inb_of (n := (x0.take i.toNat).length) c (by omega)
            simp only [hk, decide_true, cond_true, h1, req_t, rd_take x0 i k c hk]
            rw [w64 (x := k + 1) (by omega) (by omega)]
            have hA : ∀ x y : Call, G_hist_Ahead x y = some (x.Done && decide (x.To < y.From)) := fun _ _ => rfl
            by_cases hp : (rd x0 k).Part = (rd x0 i).Part
            · obtain ⟨q1, q2⟩ := apart x0 hS i.toNat i k rfl c hk hi hp
              have k1 := ((one_spec _).1 (hS k c (by omega)).one).d q1
              have i1 := ((one_spec _).1 (hS i a hi).one).d
              have e2 : ((rd x0 i).Done && decide ((rd x0 i).To < (rd x0 k).From)) = false := by
                cases hd : (rd x0 i).Done
                · rfl
                · have := i1 hd; simp; omega
              rw [hA, hA, e2, q1, show decide ((rd x0 k).To < (rd x0 i).From) = true by simpa using q2, show ((rd x0 k).Part == (rd x0 i).Part) = true by simpa using hp]
              exact ⟨_, rfl, ⟨by simp only; omega, by simp only; omega⟩, by simp only; omega⟩
            · rw [show ((rd x0 k).Part == (rd x0 i).Part) = false by simpa using hp]
              exact ⟨_, rfl, ⟨by simp only; omega, by simp only; omega⟩, by simp only; omega⟩
          · right
            simp only [hk, decide_false, cond_false]
            exact ⟨_, rfl, _, rfl⟩
      · right
        simp only [hi, decide_false, cond_false]
        exact ⟨_, rfl, _, rfl⟩
end Go.Proofs.Ytnfnincmhobpaaa
