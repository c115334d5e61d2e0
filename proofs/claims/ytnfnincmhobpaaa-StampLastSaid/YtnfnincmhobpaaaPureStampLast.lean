/- The plain law behind StampLast: what the walk shows is true of every input. -/
import Derived.Test.YtnfnincmhobpaaaPureRef17
set_option linter.unusedSimpArgs false
set_option linter.unusedVariables false
namespace Go.Proofs.Ytnfnincmhobpaaa
open Go Go.RowKit Go.Eng
theorem wakes24' : G_law24_wakes = some true := by
  simp [G_law24_wakes, G_stamp_Fresh, w64]
theorem small_ok (l : List Call) (hl : l.length ≤ 60) : ∃ b, G_ref24_Small l = some b := by
  unfold G_ref24_Small
  have hB := loopω_ok (B := G_ref24_Small.b1 l) (fun s => 0 ≤ s.1 ∧ s.1 ≤ l.length) (fun s => (l.length - s.1).toNat) (fun _ => True) ?_ (0, false) ⟨by simp, by simp⟩
  · obtain ⟨o, ho, _⟩ := hB
    rw [ho]
    cases o
    · exact ⟨_, rfl⟩
    · exact ⟨_, rfl⟩
  · rintro ⟨i, r⟩ ⟨a, b⟩
    simp only at a b
    unfold G_ref24_Small.b1
    by_cases hi : i < l.length
    · simp only [hi, decide_true, cond_true]
      rw [inb_of a hi, req_t, w64 (x := i + 1) (by omega) (by omega)]
      simp only [Bool.cond_eq_ite]
      split
      · right; exact ⟨_, rfl, trivial⟩
      · left; exact ⟨_, rfl, ⟨by simp only; omega, by simp only; omega⟩, by simp only; omega⟩
    · right
      simp only [hi, decide_false, cond_false]
      exact ⟨_, rfl, trivial⟩
/-- two loops that go side by side. -/
theorem loopω_sync {S O S' O' : Type} {B : S → Option (Stp S O)} {B' : S' → Option (Stp S' O')} (R : S → S' → Prop) (m : S → Nat) (Q : O → O' → Prop)
    (h : ∀ s t, R s t → (∃ s' t', B s = some (.next s') ∧ B' t = some (.next t') ∧ R s' t' ∧ m s' < m s) ∨ (∃ o o', B s = some (.out o) ∧ B' t = some (.out o') ∧ Q o o')) :
    ∀ (s : S) (t : S'), R s t → ∃ o o', loopω B s = some o ∧ loopω B' t = some o' ∧ Q o o' := by
  intro s
  generalize hm : m s = k
  induction k using Nat.strongRecOn generalizing s with
  | _ k ih =>
    intro t hR
    rcases h s t hR with ⟨s', t', h1, h2, h3, h4⟩ | ⟨o, o', h1, h2, h3⟩
    · obtain ⟨o, o', q1, q2, q3⟩ := ih (m s') (by omega) s' rfl t' h3
      exact ⟨o, o', by rw [loopω_eq, h1]; exact q1, by rw [loopω_eq, h2]; exact q2, q3⟩
    · exact ⟨o, o', by rw [loopω_eq, h1], by rw [loopω_eq, h2], h3⟩
/-- a call's effect: hist's answer is the document's, of sound calls. -/
theorem place_eq (l : List Call) (hS : ∀ i : Int, 0 ≤ i → i < l.length → SoundAt l i) (i : Int) (h0 : 0 ≤ i) (h1 : i < l.length) :
    ∃ p, G_ref17_Place l i = some p ∧ G_hist_Place l i = some (p.At, p.Behind, p.Is) := by
  unfold G_ref17_Place G_hist_Place
  have hb := inb_of h0 h1
  rw [hb, req_t, req_t, show (decide (i < 0) || decide (i ≥ (l.length : Int))) = false by simp; omega, cond_false]
  by_cases hm : (rd l i).Mark ≥ 0
  · simp only [hm, decide_true, cond_true]
    exact ⟨_, rfl, rfl⟩
  · simp only [hm, decide_false, cond_false]
    cases hd : (!(rd l i).Done || (rd l i).Req.Op != 4)
    case true => exact ⟨_, rfl, rfl⟩
    case false =>
      simp only [cond_false]
      by_cases hs : (rd l i).Saw = -1
      · have e1 : ¬ (rd l i).Saw ≥ 0 := by omega
        have e2 : (rd l i).Saw < 0 := by omega
        simp only [e1, e2, decide_true, decide_false, imp, Bool.not_false, Bool.true_or, req_t, Bool.false_and, cond_false, cond_true]
        exact ⟨_, rfl, rfl⟩
      · obtain ⟨g0, g1, _⟩ := (hS i h0 h1).saw hs
        have e1 : (rd l i).Saw ≥ 0 := g0
        have e2 : ¬ (rd l i).Saw < 0 := by omega
        have e3 : ¬ (rd l i).Saw ≥ (l.length : Int) := by omega
        simp only [e1, e2, e3, decide_true, decide_false, imp, inb_of g0 g1, Bool.or_true, Bool.or_false, req_t, Bool.true_and, cond_false]
        by_cases hg : (rd l (rd l i).Saw).Mark > (rd l i).From
        · simp only [hg, decide_true, cond_true, mxI, if_true]
          exact ⟨_, rfl, rfl⟩
        · simp only [hg, decide_false, cond_false, mxI, if_false]
          exact ⟨_, rfl, rfl⟩
theorem last_eq (l : List Call) (hl : l.length ≤ 60) (hS : ∀ i : Int, 0 ≤ i → i < l.length → SoundAt l i) (ch i : Int) (hc0 : 0 ≤ ch) (hc1 : ch ≤ 100) :
    ∃ b : Int, -1 ≤ b ∧ G_stamp_Last l ch i = some (mxI b 0, decide (b ≥ 0)) ∧ G_ref24_Last l ch i = some b := by
  unfold G_stamp_Last G_ref24_Last
  by_cases hi : 0 ≤ i ∧ i < l.length
  · obtain ⟨h0, h1⟩ := hi
    obtain ⟨p, hp, hh⟩ := place_eq l hS i h0 h1
    rw [hp, hh, show (decide (i < 0) || decide (i ≥ (l.length : Int))) = false by simp; omega, cond_false, Option.bind_some, Option.bind_some]
    obtain ⟨At, Beh, Is⟩ := p
    simp only
    cases Is with
    | false =>
      have hB := loopω_ok (B := G_stamp_Last.b1 l ch i (At, Beh, false)) (fun s => 0 ≤ s.1 ∧ s.1 ≤ l.length ∧ s.2 = -1) (fun s => (l.length - s.1).toNat) (fun o => ∃ k, o = .brk (k, -1)) ?_ (0, -1) ⟨by simp, by simp, rfl⟩
      · obtain ⟨o, ho, k, rfl⟩ := hB
        refine ⟨-1, by omega, ?_, ?_⟩
        · rw [ho]; rfl
        · rw [loopω_eq]
          simp [G_ref24_Last.b1]
      · rintro ⟨k, b⟩ ⟨a1, a2, a3⟩
        simp only at a1 a2 a3
        subst a3
        unfold G_stamp_Last.b1
        by_cases hk : k < l.length
        · left
          simp only [hk, decide_true, cond_true, Bool.not_false, Bool.true_or]
          rw [inb_of a1 hk, req_t, w64 (x := k + 1) (by omega) (by omega)]
          exact ⟨_, rfl, ⟨by simp only; omega, by simp only; omega, rfl⟩, by simp only; omega⟩
        · right
          simp only [hk, decide_false, cond_false]
          exact ⟨_, rfl, k, rfl⟩
    | true =>
      have hB := loopω_sync (B := G_stamp_Last.b1 l ch i (At, Beh, true)) (B' := G_ref24_Last.b1 l ch i ⟨At, Beh, true⟩) (fun s t => s = t ∧ 0 ≤ s.1 ∧ s.1 ≤ l.length ∧ -1 ≤ s.2 ∧ s.2 < l.length) (fun s => (l.length - s.1).toNat)
        (fun o o' => ∃ k b, o = .brk (k, b) ∧ o' = .brk (k, b) ∧ -1 ≤ b) ?_ (0, -1) (0, -1) ⟨rfl, by simp, by simp, by simp, by simp only; omega⟩
      · obtain ⟨o, o', ho, ho', k, b, rfl, rfl, hb⟩ := hB
        exact ⟨b, hb, by rw [ho]; rfl, by rw [ho']; rfl⟩
      · rintro ⟨k, b⟩ t ⟨rfl, a1, a2, a3, a4⟩
        simp only at a1 a2 a3 a4
        unfold G_stamp_Last.b1 G_ref24_Last.b1
        by_cases hk : k < l.length
        · left
          have hx := inb_of a1 hk
          simp only [hk, decide_true, cond_true, Bool.true_and, hx, req_t, imp, Bool.or_true, Bool.not_true, Bool.false_or, G_ref24_write, Option.bind_some, ge_iff_le]
          rw [w64 (x := k + 1) (by omega) (by omega), w64 (x := 2 * ch) (by omega) (by omega)]
          have hbb : ∀ X : Bool, (X || inb b l.length) = true ∨ b < 0 := by
            intro X
            by_cases h : b < 0
            · exact .inr h
            · left; rw [inb_of (by omega) a4]; simp
          have hreq : ∀ {α : Type} (c : Bool) (x : Option α), (b < 0 → c = true) → req (c || inb b l.length) x = x := by
            intro α c x h
            rcases hbb c with h' | h'
            · rw [h']; rfl
            · rw [h h']; rfl
          rw [hreq _ _ (fun h => by simp [h]), hreq _ _ (fun h => by simp [h])]
          generalize hop : ((rd l k).Req.Op == 3) = op
          have e1 : ((rd l k).Req.Op != 3) = !op := by rw [← hop]; rfl
          generalize hpo : ((rd l k).Req.Port == 2 * ch) = po
          have e2 : ((rd l k).Req.Port != 2 * ch) = !po := by rw [← hpo]; rfl
          generalize hco : ((rd l k).Ans.Code == 0) = co
          have e3 : ((rd l k).Ans.Code != 0) = !co := by rw [← hco]; rfl
          have e4 : decide ((rd l k).Mark > At) = !decide ((rd l k).Mark ≤ At) := by
            by_cases h : (rd l k).Mark ≤ At
            · simp [h] <;> omega
            · simp [h]; omega
          have e5 : decide ((rd l k).Mark < 0) = !decide (0 ≤ (rd l k).Mark) := by
            by_cases h : 0 ≤ (rd l k).Mark
            · simp [h] <;> omega
            · simp [h]; omega
          rw [e1, e2, e3, e4, e5]
          generalize decide ((rd l k).Mark ≤ At) = g1
          generalize decide (0 ≤ (rd l k).Mark) = g2
          generalize (rd l k).Done = g3
          generalize (decide (b < 0) || decide ((rd l k).Mark > (rd l b).Mark)) = g4
          cases op <;> cases po <;> cases co <;> cases g1 <;> cases g2 <;> cases g3 <;> cases g4 <;> simp only [Bool.not_true, Bool.not_false, Bool.true_or, Bool.or_true, Bool.false_or, Bool.or_false, Bool.true_and, Bool.and_true, Bool.false_and, Bool.and_false, cond_true, cond_false] <;>
            exact ⟨_, _, rfl, rfl, ⟨rfl, by simp only; omega, by simp only; omega, by simp only; omega, by simp only; omega⟩, by simp only; omega⟩
        · right
          simp only [hk, decide_false, cond_false, Bool.false_and]
          exact ⟨_, _, rfl, rfl, k, b, rfl, rfl, a3⟩
  · have hb : (decide (i < 0) || decide (i ≥ (l.length : Int))) = true := by simp; omega
    have hP : G_hist_Place l i = some (0, false, false) := by
      unfold G_hist_Place; rw [hb]; rfl
    rw [hP, hb, Option.bind_some]
    have hB := loopω_ok (B := G_stamp_Last.b1 l ch i (0, false, false)) (fun s => 0 ≤ s.1 ∧ s.1 ≤ l.length ∧ s.2 = -1) (fun s => (l.length - s.1).toNat) (fun o => ∃ k, o = .brk (k, -1)) ?_ (0, -1) ⟨by simp, by simp, rfl⟩
    · obtain ⟨o, ho, k, rfl⟩ := hB
      refine ⟨-1, by omega, ?_, rfl⟩
      rw [ho]; rfl
    · rintro ⟨k, b⟩ ⟨a1, a2, a3⟩
      simp only at a1 a2 a3
      subst a3
      unfold G_stamp_Last.b1
      by_cases hk : k < l.length
      · left
        simp only [hk, decide_true, cond_true, Bool.not_false, Bool.true_or]
        rw [inb_of a1 hk, req_t, w64 (x := k + 1) (by omega) (by omega)]
        exact ⟨_, rfl, ⟨by simp only; omega, by simp only; omega, rfl⟩, by simp only; omega⟩
      · right
        simp only [hk, decide_false, cond_false]
        exact ⟨_, rfl, k, rfl⟩
theorem pureStampLast (x0 : List Call) (a1 : Int) (a2 : Int) (w0 : x0.length ≤ maxLen ∧ ∀ x ∈ x0, wf_Call x) (w1 : InK .i64 a1) (w2 : InK .i64 a2) : G_law24_StampLast x0 a1 a2 = some true := by
  unfold G_law24_StampLast
  rw [wakes24', Option.bind_some]
  simp only [Bool.not_true, cond_false]
  by_cases hl : x0.length ≤ 60
  case neg =>
    have : (x0.length : Int) > 60 := by omega
    simp [this]
  have hl' : ¬ (x0.length : Int) > 60 := by omega
  simp only [hl', decide_false, Bool.not_false, cal_t, Bool.false_or]
  obtain ⟨b, hb, hS⟩ := sound_ok x0 hl
  obtain ⟨s, hs⟩ := small_ok x0 hl
  rw [hb, Option.bind_some, hs]
  cases b with
  | false => simp
  | true =>
    simp only [Bool.not_true, Bool.not_false, cal_t, Option.bind_some, Bool.false_or]
    by_cases hc : 0 ≤ a1 ∧ a1 ≤ 100
    · obtain ⟨v, v0, v1, v2⟩ := last_eq x0 hl (hS.1 rfl) a1 a2 hc.1 hc.2
      rw [v1, v2]
      cases s with
      | false => simp
      | true =>
        have : (!true || decide (a1 < 0) || decide (a1 > 100)) = false := by simp; omega
        rw [this]
        simp only [cond_false, Option.bind_some]
        by_cases hv : v ≥ 0
        · simp [hv, mxI]; omega
        · simp [hv, mxI] <;> omega
    · have : (decide (a1 < 0) || decide (a1 > 100)) = true := by simp; omega
      rw [Bool.or_assoc, this]
      simp
end Go.Proofs.Ytnfnincmhobpaaa
