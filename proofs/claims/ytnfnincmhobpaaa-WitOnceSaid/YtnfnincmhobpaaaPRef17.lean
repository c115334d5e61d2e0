/- The plain law behind Sound of the document (layer 17): what it asks of each call. -/
import Derived.Test.YtnfnincmhobpaaaGX
set_option linter.unusedSimpArgs false
set_option linter.unusedVariables false
namespace Go.Proofs.Ytnfnincmhobpaaa
open Go Go.RowKit Go.Eng
def Before (l : List Call) (i k : Int) : Prop := (k = -1 ∧ ∀ j, 0 ≤ j → j < i → (rd l j).Part ≠ (rd l i).Part) ∨ (0 ≤ k ∧ k < i ∧ (rd l k).Part = (rd l i).Part ∧ ∀ j, k < j → j < i → (rd l j).Part ≠ (rd l i).Part)
theorem before_ok (l : List Call) (hl : l.length ≤ 60) (i : Int) (h0 : 0 ≤ i) (h1 : i < l.length) : ∃ k, G_ref17_before l i = some k ∧ Before l i k := by
  unfold G_ref17_before
  rw [w64 (by omega) (by omega)]
  have hB := loopω_ok (B := G_ref17_before.b1 l i) (fun s => -1 ≤ s.1 ∧ s.1 < i ∧ ∀ j, s.1 < j → j < i → (rd l j).Part ≠ (rd l i).Part) (fun s => (s.1 + 1).toNat) (fun o => (∃ s, o = .brk s ∧ Before l i (-1)) ∨ (∃ k, o = .ret k ∧ Before l i k)) ?_ (i - 1, 0) ⟨by simp only; omega, by simp only; omega, fun j a b => by simp only at a; omega⟩
  · obtain ⟨o, ho, hq⟩ := hB
    rw [ho]
    rcases hq with ⟨s, rfl, hq⟩ | ⟨k, rfl, hq⟩
    · exact ⟨-1, rfl, hq⟩
    · exact ⟨k, rfl, hq⟩
  · rintro ⟨s, r⟩ ⟨a, b, c⟩
    simp only at a b c
    unfold G_ref17_before.b1
    by_cases hs : s ≥ 0
    · simp only [hs, decide_true, cond_true]
      rw [inb_of (by omega) (by omega), inb_of (by omega) (by omega), req_t, req_t]
      by_cases hp : (rd l s).Part = (rd l i).Part
      · right
        simp only [hp, beq_self_eq_true, cond_true]
        exact ⟨_, rfl, .inr ⟨s, rfl, .inr ⟨by omega, b, hp, c⟩⟩⟩
      · left
        rw [show ((rd l s).Part == (rd l i).Part) = false by simpa using hp, cond_false, w64 (by omega) (by omega)]
        refine ⟨_, rfl, ⟨by simp only; omega, by simp only; omega, fun j u v => ?_⟩, by simp only; omega⟩
        simp only at u
        by_cases hj : j = s
        · subst hj; exact hp
        · exact c j (by omega) v
    · right
      simp only [hs, decide_false, cond_false]
      exact ⟨_, rfl, .inl ⟨_, rfl, .inl ⟨rfl, fun j u v => c j (by omega) v⟩⟩⟩
noncomputable def oneB (x : Call) : Bool := (G_ref17_one x).getD false
theorem one_eq (x : Call) : G_ref17_one x = some (oneB x) := by
  unfold oneB G_ref17_one
  simp only [Bool.cond_eq_ite]
  repeat' split
  all_goals rfl
def aheadB (a b : Call) : Bool := a.Done && decide (a.To < b.From)
theorem ahead_eq (a b : Call) : G_ref17_Ahead a b = some (aheadB a b) := rfl
structure SoundAt (l : List Call) (i : Int) : Prop where
  one : oneB (rd l i) = true
  rise : 0 < i → (rd l (i - 1)).From < (rd l i).From
  next : ∀ k, Before l i k → (k < 0 → (rd l i).Own0 = 1) ∧ (0 ≤ k → aheadB (rd l k) (rd l i) = true ∧ (rd l k).T1 ≤ (rd l i).T0 ∧ IntKind.i64.wrap ((rd l i).Own0 - (rd l k).Own1) = 1)
  saw : (rd l i).Saw ≠ -1 → 0 ≤ (rd l i).Saw ∧ (rd l i).Saw < l.length ∧ (rd l (rd l i).Saw).Req.Op = 3 ∧ 0 ≤ (rd l (rd l i).Saw).Mark ∧ ((rd l i).Done = true → (rd l (rd l i).Saw).Mark ≤ (rd l i).To)
theorem Before.det {l : List Call} {i k k' : Int} (h : Before l i k) (h' : Before l i k') : k = k' := by
  rcases h with ⟨h1, h2⟩ | ⟨h1, h2, h3, h4⟩ <;> rcases h' with ⟨g1, g2⟩ | ⟨g1, g2, g3, g4⟩
  · omega
  · exact absurd g3 (h2 _ g1 g2)
  · exact absurd h3 (g2 _ h1 h2)
  · rcases Int.lt_trichotomy k k' with hh | hh | hh
    · exact absurd g3 (h4 _ hh g2)
    · exact hh
    · exact absurd h3 (g4 _ hh h2)
theorem sound_body (l : List Call) (hl : l.length ≤ 60) (i : Int) (r : Bool) (h0 : 0 ≤ i) (h1 : i < l.length) :
    (G_ref17_Sound.b1 l (i, r) = some (.next (i + 1, r)) ∧ SoundAt l i) ∨ (G_ref17_Sound.b1 l (i, r) = some (.out (.ret false)) ∧ ¬ SoundAt l i) := by
  unfold G_ref17_Sound.b1
  simp only [h1, decide_true, cond_true]
  rw [inb_of h0 h1, req_t, one_eq, Option.bind_some]
  obtain ⟨k, hk, hB⟩ := before_ok l hl i h0 h1
  rw [hk, Option.bind_some, w64 (x := i + 1) (by omega) (by omega), w64 (x := i - 1) (by omega) (by omega)]
  have hkn : k < l.length := by rcases hB with ⟨h, _⟩ | ⟨_, h, _⟩ <;> omega
  by_cases a1 : oneB (rd l i) = true
  case neg =>
    right
    simp only [Bool.not_eq_true] at a1
    refine ⟨?_, fun h => by rw [h.one] at a1; cases a1⟩
    simp [a1, imp]
  by_cases a2 : 0 < i → (rd l (i - 1)).From < (rd l i).From
  case neg =>
    right
    refine ⟨?_, fun h => a2 h.rise⟩
    have hi : 0 < i := by
      apply Classical.byContradiction; intro h; exact a2 (fun hh => absurd hh h)
    have hf : (rd l (i - 1)).From ≥ (rd l i).From := by
      apply Classical.byContradiction; intro h; exact a2 (fun _ => by omega)
    simp [a1, hi, hf, imp, inb_of (i := i - 1) (n := l.length) (by omega) (by omega)]
  have e1 : imp (!(!oneB (rd l i)) && decide (i > 0)) (inb (i - 1) l.length) = true := by
    by_cases hi : 0 < i
    · rw [inb_of (by omega) (by omega)]; simp [imp]
    · simp [imp, hi]
  have e2 : ((!oneB (rd l i)) || (decide (i > 0) && decide ((rd l (i - 1)).From ≥ (rd l i).From))) = false := by
    by_cases hi : 0 < i
    · have := a2 hi; simp [a1, hi]; omega
    · simp [a1, hi]
  rw [e1, req_t, e2, cond_false]
  by_cases a3 : k < 0 → (rd l i).Own0 = 1
  case neg =>
    right
    have hi : k < 0 := by
      apply Classical.byContradiction; intro h; exact a3 (fun hh => absurd hh h)
    have hf : (rd l i).Own0 ≠ 1 := by
      intro h; exact a3 (fun _ => h)
    refine ⟨?_, fun h => a3 (h.next k hB).1⟩
    have hf' : ((rd l i).Own0 != 1) = true := by simpa using hf
    rw [hf']
    simp [hi]
  have e3 : (decide (k < 0) && (rd l i).Own0 != 1) = false := by
    by_cases hi : k < 0
    · simp [a3 hi]
    · simp [hi]
  rw [e3, cond_false]
  have hnx : ∀ (X : Prop), ((k < 0 → (rd l i).Own0 = 1) ∧ X) → ∀ k', Before l i k' → k' = k := fun X h k' hk' => hk'.det hB
  -- what is left once the call ahead is sound
  have hend : ∀ (hq : 0 ≤ k → aheadB (rd l k) (rd l i) = true ∧ (rd l k).T1 ≤ (rd l i).T0 ∧ IntKind.i64.wrap ((rd l i).Own0 - (rd l k).Own1) = 1),
      ((bif (rd l i).Saw != -1 then bif decide ((rd l i).Saw < 0) || decide ((rd l i).Saw ≥ ↑l.length) then (some (Stp.out (Ex.ret false)) : Option (Stp (Int × Bool) (Ex (Int × Bool) Bool)))
        else req (inb (rd l i).Saw l.length) (bif (rd l (rd l i).Saw).Req.Op != 3 || decide ((rd l (rd l i).Saw).Mark < 0) || (rd l i).Done && decide ((rd l (rd l i).Saw).Mark > (rd l i).To) then
          some (Stp.out (Ex.ret false)) else some (Stp.next (i + 1, r))) else some (Stp.next (i + 1, r))) = some (.next (i + 1, r)) ∧ SoundAt l i) ∨
      ((bif (rd l i).Saw != -1 then bif decide ((rd l i).Saw < 0) || decide ((rd l i).Saw ≥ ↑l.length) then (some (Stp.out (Ex.ret false)) : Option (Stp (Int × Bool) (Ex (Int × Bool) Bool)))
        else req (inb (rd l i).Saw l.length) (bif (rd l (rd l i).Saw).Req.Op != 3 || decide ((rd l (rd l i).Saw).Mark < 0) || (rd l i).Done && decide ((rd l (rd l i).Saw).Mark > (rd l i).To) then
          some (Stp.out (Ex.ret false)) else some (Stp.next (i + 1, r))) else some (Stp.next (i + 1, r))) = some (.out (.ret false)) ∧ ¬ SoundAt l i) := by
    intro hq
    have hall : ∀ k', Before l i k' → (k' < 0 → (rd l i).Own0 = 1) ∧ (0 ≤ k' → aheadB (rd l k') (rd l i) = true ∧ (rd l k').T1 ≤ (rd l i).T0 ∧ IntKind.i64.wrap ((rd l i).Own0 - (rd l k').Own1) = 1) := by
      intro k' hk'
      obtain rfl := hk'.det hB
      exact ⟨a3, hq⟩
    by_cases hs : (rd l i).Saw = -1
    · left
      rw [show ((rd l i).Saw != -1) = false by simp [hs]]
      exact ⟨rfl, ⟨a1, a2, hall, fun h => absurd hs h⟩⟩
    · rw [show ((rd l i).Saw != -1) = true by simpa using hs, cond_true]
      by_cases hr : 0 ≤ (rd l i).Saw ∧ (rd l i).Saw < l.length
      · rw [show (decide ((rd l i).Saw < 0) || decide ((rd l i).Saw ≥ ↑l.length)) = false by simp; omega, cond_false, inb_of hr.1 hr.2, req_t]
        by_cases hw : (rd l (rd l i).Saw).Req.Op = 3 ∧ 0 ≤ (rd l (rd l i).Saw).Mark ∧ ((rd l i).Done = true → (rd l (rd l i).Saw).Mark ≤ (rd l i).To)
        · left
          obtain ⟨w1, w2, w3⟩ := hw
          have : ((rd l (rd l i).Saw).Req.Op != 3 || decide ((rd l (rd l i).Saw).Mark < 0) || (rd l i).Done && decide ((rd l (rd l i).Saw).Mark > (rd l i).To)) = false := by
            cases hd : (rd l i).Done
            · simp [w1]; omega
            · have := w3 hd; simp [w1]; omega
          rw [this]
          exact ⟨rfl, ⟨a1, a2, hall, fun _ => ⟨hr.1, hr.2, w1, w2, w3⟩⟩⟩
        · right
          have : ((rd l (rd l i).Saw).Req.Op != 3 || decide ((rd l (rd l i).Saw).Mark < 0) || (rd l i).Done && decide ((rd l (rd l i).Saw).Mark > (rd l i).To)) = true := by
            apply Classical.byContradiction
            intro hn
            apply hw
            simp only [Bool.not_eq_true, Bool.or_eq_false_iff, bne_eq_false_iff_eq, decide_eq_false_iff_not, Bool.and_eq_false_iff] at hn
            obtain ⟨⟨n1, n2⟩, n3⟩ := hn
            refine ⟨n1, by omega, fun hd => ?_⟩
            rcases n3 with n3 | n3
            · rw [hd] at n3; cases n3
            · omega
          rw [this]
          exact ⟨rfl, fun h => hw ⟨(h.saw hs).2.2.1, (h.saw hs).2.2.2.1, (h.saw hs).2.2.2.2⟩⟩
      · right
        rw [show (decide ((rd l i).Saw < 0) || decide ((rd l i).Saw ≥ ↑l.length)) = true by simp; omega]
        exact ⟨rfl, fun h => hr ⟨(h.saw hs).1, (h.saw hs).2.1⟩⟩
  by_cases hk0 : 0 ≤ k
  case neg =>
    simp only [ge_iff_le, hk0, decide_false, imp, Bool.not_false, Bool.true_or, req_t, cal_f, Option.bind_some, Bool.false_and, cond_false]
    exact hend (fun h => absurd h hk0)
  case pos =>
    have hb : inb k l.length = true := inb_of hk0 hkn
    simp only [ge_iff_le, hk0, decide_true, imp, hb, Bool.or_true, req_t, cal_t, Bool.true_and, ahead_eq, Option.bind_some]
    by_cases hq : aheadB (rd l k) (rd l i) = true ∧ (rd l k).T1 ≤ (rd l i).T0 ∧ IntKind.i64.wrap ((rd l i).Own0 - (rd l k).Own1) = 1
    · obtain ⟨q1, q2, q3⟩ := hq
      have : (!aheadB (rd l k) (rd l i) || decide ((rd l k).T1 > (rd l i).T0) || IntKind.i64.wrap ((rd l i).Own0 - (rd l k).Own1) != 1) = false := by
        simp [q1, q3]; omega
      rw [this]
      exact hend (fun _ => ⟨q1, q2, q3⟩)
    · right
      have : (!aheadB (rd l k) (rd l i) || decide ((rd l k).T1 > (rd l i).T0) || IntKind.i64.wrap ((rd l i).Own0 - (rd l k).Own1) != 1) = true := by
        apply Classical.byContradiction
        intro hn
        apply hq
        simp only [Bool.not_eq_true, Bool.or_eq_false_iff, bne_eq_false_iff_eq, decide_eq_false_iff_not, Bool.not_eq_false'] at hn
        obtain ⟨⟨n1, n2⟩, n3⟩ := hn
        exact ⟨n1, by omega, n3⟩
      rw [this]
      exact ⟨rfl, fun h => hq ((h.next k hB).2 hk0)⟩
theorem sound_ok (l : List Call) (hl : l.length ≤ 60) : ∃ b, G_ref17_Sound l = some b ∧ (b = true ↔ ∀ i : Int, 0 ≤ i → i < l.length → SoundAt l i) := by
  unfold G_ref17_Sound
  have hB := loopω_ok (B := G_ref17_Sound.b1 l) (fun s => 0 ≤ s.1 ∧ s.1 ≤ l.length ∧ ∀ j, 0 ≤ j → j < s.1 → SoundAt l j) (fun s => (l.length - s.1).toNat)
    (fun o => (∃ s, o = .brk s ∧ ∀ i : Int, 0 ≤ i → i < l.length → SoundAt l i) ∨ (o = .ret false ∧ ∃ i : Int, 0 ≤ i ∧ i < l.length ∧ ¬ SoundAt l i)) ?_ (0, false) ⟨by simp, by simp, fun j a b => by simp only at b; omega⟩
  · obtain ⟨o, ho, hq⟩ := hB
    rw [ho]
    rcases hq with ⟨s, rfl, hq⟩ | ⟨rfl, i, q1, q2, q3⟩
    · exact ⟨true, rfl, fun _ => hq, fun _ => rfl⟩
    · exact ⟨false, rfl, (fun h => by cases h), fun h => absurd (h i q1 q2) q3⟩
  · rintro ⟨i, r⟩ ⟨a, b, c⟩
    simp only at a b c
    by_cases hi : i < l.length
    · rcases sound_body l hl i r a hi with ⟨h1, h2⟩ | ⟨h1, h2⟩
      · left
        refine ⟨_, h1, ⟨by simp only; omega, by simp only; omega, fun j u v => ?_⟩, by simp only; omega⟩
        simp only at v
        by_cases hj : j = i
        · subst hj; exact h2
        · exact c j u (by omega)
      · right; exact ⟨_, h1, .inr ⟨rfl, i, a, hi, h2⟩⟩
    · right
      refine ⟨.brk (i, r), ?_, .inl ⟨_, rfl, fun j u v => c j u (by omega)⟩⟩
      unfold G_ref17_Sound.b1
      simp only [hi, decide_false, cond_false]
end Go.Proofs.Ytnfnincmhobpaaa
