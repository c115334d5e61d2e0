/- The plain law behind hist's Sound and Place: they are the document's. -/
import Derived.Test.YtnfnincmhobpaaaPureRef17
set_option linter.unusedSimpArgs false
set_option linter.unusedVariables false
namespace Go.Proofs.Ytnfnincmhobpaaa
open Go Go.RowKit Go.Eng
structure One (x : Call) : Prop where
  f : 0 ≤ x.From ∧ 0 ≤ x.T0 ∧ 1 ≤ x.Own0
  d : x.Done = true → x.From ≤ x.To ∧ x.T0 ≤ x.T1 ∧ x.Own0 ≤ x.Own1
  u : x.Done = false → x.To = -1 ∧ x.T1 = -1 ∧ x.Own1 = -1
  m : x.Mark ≠ -1 → x.From ≤ x.Mark ∧ (x.Done = true → x.Mark ≤ x.To)
  r : x.Ring ≠ -1 → 0 ≤ x.Mark ∧ x.Mark < x.Ring ∧ (x.Done = true → x.Ring ≤ x.To)
theorem one_spec (x : Call) : oneB x = true ↔ One x := by
  have hi : One x ↔ ((0 ≤ x.From ∧ 0 ≤ x.T0 ∧ 1 ≤ x.Own0) ∧ (x.Done = true → x.From ≤ x.To ∧ x.T0 ≤ x.T1 ∧ x.Own0 ≤ x.Own1) ∧ (x.Done = false → x.To = -1 ∧ x.T1 = -1 ∧ x.Own1 = -1) ∧
      (x.Mark ≠ -1 → x.From ≤ x.Mark ∧ (x.Done = true → x.Mark ≤ x.To)) ∧ (x.Ring ≠ -1 → 0 ≤ x.Mark ∧ x.Mark < x.Ring ∧ (x.Done = true → x.Ring ≤ x.To))) :=
    ⟨fun h => ⟨h.f, h.d, h.u, h.m, h.r⟩, fun ⟨a, b, c, d, e⟩ => ⟨a, b, c, d, e⟩⟩
  rw [hi]
  unfold oneB G_ref17_one
  simp only [Bool.cond_eq_ite]
  cases hd : x.Done
  · split
    · rename_i h; simp at h ⊢; omega
    · rename_i h; simp at h
      split
      · rename_i h2; simp at h2 ⊢; omega
      · rename_i h2; simp at h2
        split
        · rename_i h3; simp at h3 ⊢; omega
        · rename_i h3; simp at h3 ⊢; omega
  · split
    · rename_i h; simp at h ⊢; omega
    · rename_i h; simp at h
      split
      · rename_i h2; simp at h2 ⊢; omega
      · rename_i h2; simp at h2
        split
        · rename_i h3; simp at h3 ⊢; omega
        · rename_i h3; simp at h3 ⊢; omega
theorem timed_ok (x : Call) : ∃ b, G_hist_timed x = some b ∧ (b = true ↔ ((0 ≤ x.From ∧ 0 ≤ x.T0 ∧ 1 ≤ x.Own0) ∧ (x.Done = true → x.From ≤ x.To ∧ x.T0 ≤ x.T1 ∧ x.Own0 ≤ x.Own1) ∧ (x.Done = false → x.To = -1 ∧ x.T1 = -1 ∧ x.Own1 = -1))) := by
  unfold G_hist_timed
  simp only [Bool.cond_eq_ite]
  cases hd : x.Done
  · split
    · rename_i h; refine ⟨_, rfl, ?_⟩; simp at h ⊢; omega
    · rename_i h; refine ⟨_, rfl, ?_⟩; simp at h ⊢; omega
  · split
    · rename_i h; refine ⟨_, rfl, ?_⟩; simp at h ⊢; omega
    · rename_i h; refine ⟨_, rfl, ?_⟩; simp at h ⊢; omega
theorem marked_ok (x : Call) : ∃ b, G_hist_marked x = some b ∧ (b = true ↔ ((x.Mark ≠ -1 → x.From ≤ x.Mark ∧ (x.Done = true → x.Mark ≤ x.To)) ∧ (x.Ring ≠ -1 → 0 ≤ x.Mark ∧ x.Mark < x.Ring ∧ (x.Done = true → x.Ring ≤ x.To)))) := by
  unfold G_hist_marked G_hist_marked_1
  by_cases hm : x.Mark = -1
  · by_cases hr : x.Ring = -1
    · exact ⟨true, by simp [hm, hr], by simp [hm, hr]⟩
    · exact ⟨false, by simp [hm, hr], by simp [hm, hr]⟩
  · have hm' : (x.Mark != -1) = true := by simpa using hm
    simp only [hm', cal_t, Option.bind_some, Bool.true_and]
    cases hd : x.Done
    · by_cases h1 : x.Mark ≥ x.From
      · simp only [h1, decide_true, Bool.not_false, Bool.true_or, Bool.and_true, Bool.not_true, cond_false]
        by_cases hr : x.Ring = -1
        · exact ⟨true, by simp [hr], by simp [hr] <;> omega⟩
        · by_cases h2 : x.Mark ≥ 0 ∧ x.Ring > x.Mark
          · refine ⟨true, ?_, by simp; omega⟩
            have : (x.Ring == -1) = false := by simpa using hr
            have h3 : x.Ring ≥ x.From := by omega
            simp [this, h2.1, h2.2, h3]
          · refine ⟨false, ?_, by simp; omega⟩
            have : (x.Ring == -1) = false := by simpa using hr
            have h3 : (decide (x.Mark ≥ 0) && decide (x.Ring > x.Mark)) = false := by simp; omega
            simp only [this, h3, Bool.not_false, Bool.true_and, cal_f, Option.bind_some, Bool.false_or, Bool.false_and]
      · exact ⟨false, by simp [h1], by simp; omega⟩
    · by_cases h1 : x.Mark ≥ x.From ∧ x.Mark ≤ x.To
      · simp only [h1.1, h1.2, decide_true, Bool.not_true, Bool.false_or, Bool.and_true, cond_false]
        by_cases hr : x.Ring = -1
        · exact ⟨true, by simp [hr], by simp [hr] <;> omega⟩
        · have hr' : (x.Ring == -1) = false := by simpa using hr
          by_cases h2 : x.Mark ≥ 0 ∧ x.Ring > x.Mark
          · have h3 : x.Ring ≥ x.From := by omega
            refine ⟨decide (x.Ring ≤ x.To), ?_, by simp; omega⟩
            simp [hr', h2.1, h2.2, h3]
          · refine ⟨false, ?_, by simp; omega⟩
            have h3 : (decide (x.Mark ≥ 0) && decide (x.Ring > x.Mark)) = false := by simp; omega
            simp only [hr', h3, Bool.not_false, Bool.true_and, cal_f, Option.bind_some, Bool.false_or, Bool.false_and]
      · refine ⟨false, ?_, by simp; omega⟩
        have : (decide (x.Mark ≥ x.From) && decide (x.Mark ≤ x.To)) = false := by simp; omega
        simp [this] <;> omega
theorem mget_mset {β : Type} (m : List (Int × β)) (k q : Int) (v : β) : mget (mset m k v) q = if q = k then some v else mget m q := by
  induction m with
  | nil => simp only [mset, mget]
  | cons p r ih =>
    obtain ⟨k', v'⟩ := p
    simp only [mset]
    split
    · rename_i h; subst h
      simp only [mget]
      split <;> rfl
    · rename_i h
      simp only [mget, ih]
      by_cases h1 : q = k'
      · subst h1
        simp [Ne.symm h]
      · simp [h1]
def LastIn (l : List Call) (i : Int) (m : List (Int × Int)) : Prop := ∀ q, (∀ k, mget m q = some k → 0 ≤ k ∧ k < i ∧ (rd l k).Part = q ∧ ∀ j, k < j → j < i → (rd l j).Part ≠ q) ∧ (mget m q = none → ∀ j, 0 ≤ j → j < i → (rd l j).Part ≠ q)
theorem LastIn.before {l : List Call} {i : Int} {m : List (Int × Int)} (h : LastIn l i m) : Before l i ((mget m (rd l i).Part).getD (-1)) := by
  obtain ⟨h1, h2⟩ := h (rd l i).Part
  cases hm : mget m (rd l i).Part with
  | none => exact .inl ⟨rfl, h2 hm⟩
  | some k => exact .inr (h1 k hm)
theorem LastIn.next {l : List Call} {i : Int} {m : List (Int × Int)} (h : LastIn l i m) (h0 : 0 ≤ i) : LastIn l (i + 1) (mset m (rd l i).Part i) := by
  intro q
  obtain ⟨h1, h2⟩ := h q
  rw [mget_mset]
  by_cases hq : q = (rd l i).Part
  · rw [if_pos hq]
    refine ⟨fun k hk => ?_, fun hk => by cases hk⟩
    simp only [Option.some.injEq] at hk
    subst hk
    exact ⟨h0, by omega, hq.symm, fun j a b => by omega⟩
  · rw [if_neg hq]
    refine ⟨fun k hk => ?_, fun hk j a b => ?_⟩
    · obtain ⟨a, b, c, d⟩ := h1 k hk
      refine ⟨a, by omega, c, fun j u v => ?_⟩
      by_cases hj : j = i
      · subst hj; exact fun hh => hq hh.symm
      · exact d j u (by omega)
    · by_cases hj : j = i
      · subst hj; exact fun hh => hq hh.symm
      · exact h2 hk j a (by omega)
theorem hsaw_ok (l : List Call) (x : Call) : ∃ b, G_hist_saw l x = some b ∧ (b = true ↔ (0 ≤ x.Saw ∧ x.Saw < l.length ∧ (rd l x.Saw).Req.Op = 3 ∧ 0 ≤ (rd l x.Saw).Mark ∧ (x.Done = true → (rd l x.Saw).Mark ≤ x.To))) := by
  unfold G_hist_saw
  by_cases h : 0 ≤ x.Saw ∧ x.Saw < l.length
  · rw [show (decide (x.Saw < 0) || decide (x.Saw ≥ (l.length : Int))) = false by simp; omega, cond_false, inb_of h.1 h.2, req_t]
    refine ⟨_, rfl, ?_⟩
    cases hd : x.Done
    · simp [h.1, h.2]
    · simp [h.1, h.2, and_assoc]
  · rw [show (decide (x.Saw < 0) || decide (x.Saw ≥ (l.length : Int))) = true by simp; omega, cond_true]
    refine ⟨false, rfl, ?_⟩
    simp; intro a b; exact absurd ⟨a, b⟩ h
/-- Own0 and Own1 are the machine's numbers. -/
theorem wrap_sub {a b : Int} (ha : -9223372036854775808 ≤ a ∧ a ≤ 9223372036854775807) (hb : -9223372036854775808 ≤ b ∧ b ≤ 9223372036854775807) : (b = IntKind.i64.wrap (a - 1)) ↔ IntKind.i64.wrap (a - b) = 1 := by
  simp [IntKind.wrap, IntKind.signed, IntKind.bits]; omega
theorem rd_own (l : List Call) (hw : ∀ x ∈ l, wf_Call x) (i : Int) (h0 : 0 ≤ i) (h1 : i < l.length) : InK .i64 (rd l i).Own0 ∧ InK .i64 (rd l i).Own1 := by
  have := hw _ (rd_mem h0 h1)
  obtain ⟨_, _, _, _, _, _, _, _, a, b, _⟩ := this
  exact ⟨a, b⟩
theorem hsound_body (l : List Call) (hl : l.length ≤ 60) (hw : ∀ x ∈ l, wf_Call x) (i : Int) (r : Bool) (m : List (Int × Int)) (h0 : 0 ≤ i) (h1 : i < l.length) (hm : LastIn l i m) :
    (G_hist_Sound.b1 l (i, r, m) = some (.next (i + 1, r, mset m (rd l i).Part i)) ∧ SoundAt l i) ∨ (G_hist_Sound.b1 l (i, r, m) = some (.out (.ret false)) ∧ ¬ SoundAt l i) := by
  have hB := hm.before
  unfold G_hist_Sound.b1
  simp only [h1, decide_true, cond_true]
  obtain ⟨bt, ht, hts⟩ := timed_ok (rd l i)
  obtain ⟨bm, hmk, hms⟩ := marked_ok (rd l i)
  rw [inb_of h0 h1, req_t, ht, Option.bind_some, hmk, w64 (x := i + 1) (by omega) (by omega), w64 (x := i - 1) (by omega) (by omega)]
  have hone : (bt && bm) = true ↔ oneB (rd l i) = true := by
    rw [Bool.and_eq_true, hts, hms, one_spec]
    exact ⟨fun ⟨⟨a, b, c⟩, d, e⟩ => ⟨a, b, c, d, e⟩, fun h => ⟨⟨h.f, h.d, h.u⟩, h.m, h.r⟩⟩
  by_cases a1 : bt = true ∧ bm = true
  case neg =>
    right
    refine ⟨?_, fun h => a1 (by have := hone.2 h.one; simpa using this)⟩
    cases bt
    · simp [imp]
    · cases bm
      · simp [imp]
      · exact absurd ⟨rfl, rfl⟩ a1
  obtain ⟨rfl, rfl⟩ := a1
  have a1 : oneB (rd l i) = true := hone.1 rfl
  simp only [Bool.not_true, Bool.not_false, cal_t, Option.bind_some, Bool.false_or, Bool.or_false, Bool.true_and]
  by_cases a2 : 0 < i → (rd l (i - 1)).From < (rd l i).From
  case neg =>
    right
    refine ⟨?_, fun h => a2 h.rise⟩
    have hi : 0 < i := by
      apply Classical.byContradiction; intro h; exact a2 (fun hh => absurd hh h)
    have hf : (rd l i).From ≤ (rd l (i - 1)).From := by
      apply Classical.byContradiction; intro h; exact a2 (fun _ => by omega)
    simp [hi, hf, imp, inb_of (i := i - 1) (n := l.length) (by omega) (by omega)]
  have e1 : imp (decide (i > 0)) (inb (i - 1) l.length) = true := by
    by_cases hi : 0 < i
    · rw [inb_of (by omega) (by omega)]; simp [imp]
    · simp [imp, hi]
  have e2 : (decide (i > 0) && decide ((rd l i).From ≤ (rd l (i - 1)).From)) = false := by
    by_cases hi : 0 < i
    · have := a2 hi; simp [hi]; omega
    · simp [hi]
  rw [e1, req_t, e2, cond_false]
  obtain ⟨bs, hs, hss⟩ := hsaw_ok l (rd l i)
  have hend : ∀ (hn : ∀ k, Before l i k → (k < 0 → (rd l i).Own0 = 1) ∧ (0 ≤ k → aheadB (rd l k) (rd l i) = true ∧ (rd l k).T1 ≤ (rd l i).T0 ∧ IntKind.i64.wrap ((rd l i).Own0 - (rd l k).Own1) = 1)) (X : Option (Stp (Int × Bool × List (Int × Int)) (Ex (Int × Bool × List (Int × Int)) Bool))),
      X = ((cal ((rd l i).Saw != -1) (G_hist_saw l (rd l i)) default).bind fun t => bif ((rd l i).Saw != -1 && !t) then some (Stp.out (Ex.ret false)) else some (Stp.next (i + 1, r, mset m (rd l i).Part i))) →
      (X = some (.next (i + 1, r, mset m (rd l i).Part i)) ∧ SoundAt l i) ∨ (X = some (.out (.ret false)) ∧ ¬ SoundAt l i) := by
    rintro hn X rfl
    by_cases hsw : (rd l i).Saw = -1
    · left
      have : ((rd l i).Saw != -1) = false := by simp [hsw]
      rw [this]
      exact ⟨rfl, ⟨a1, a2, hn, fun h => absurd hsw h⟩⟩
    · have : ((rd l i).Saw != -1) = true := by simpa using hsw
      rw [this, cal_t, hs, Option.bind_some]
      cases bs with
      | true => left; exact ⟨rfl, ⟨a1, a2, hn, fun _ => hss.1 rfl⟩⟩
      | false => right; exact ⟨rfl, fun h => by have := hss.2 (h.saw hsw); cases this⟩
  cases hg : mget m (rd l i).Part with
  | none =>
    rw [hg] at hB
    simp only [Option.isSome_none, imp, Bool.not_false, Bool.true_or, req_t, cal_f, Option.bind_some, Bool.false_and, Bool.false_or, Bool.true_and]
    by_cases ho : (rd l i).Own0 = 1
    · rw [show ((rd l i).Own0 != 1) = false by simp [ho], cond_false]
      refine hend (fun k hk => ?_) _ rfl
      obtain rfl := hk.det hB
      exact ⟨fun _ => ho, fun h => absurd h (by simp)⟩
    · right
      rw [show ((rd l i).Own0 != 1) = true by simpa using ho, cond_true]
      exact ⟨rfl, fun h => ho ((h.next _ hB).1 (by simp))⟩
  | some k =>
    rw [hg] at hB
    obtain ⟨k0, k1, _, _⟩ := (hm (rd l i).Part).1 k hg
    simp only [Option.isSome_some, Option.getD_some, imp, inb_of k0 (show k < l.length by omega), Bool.or_true, req_t, cal_t, Bool.not_true, Bool.false_and, Bool.or_false, Bool.true_and]
    have hf : G_hist_follows (rd l k) (rd l i) = some ((aheadB (rd l k) (rd l i) && decide ((rd l k).T1 ≤ (rd l i).T0)) && ((rd l k).Own1 == IntKind.i64.wrap ((rd l i).Own0 - 1))) := rfl
    rw [hf, Option.bind_some]
    have b0 := (rd_own l hw i h0 h1).1.i64
    have b1 := (rd_own l hw k k0 (by omega)).2.i64
    by_cases hq : aheadB (rd l k) (rd l i) = true ∧ (rd l k).T1 ≤ (rd l i).T0 ∧ IntKind.i64.wrap ((rd l i).Own0 - (rd l k).Own1) = 1
    · obtain ⟨q1, q2, q3⟩ := hq
      have q4 := (wrap_sub b0 b1).2 q3
      rw [q1, show decide ((rd l k).T1 ≤ (rd l i).T0) = true by simpa using q2, show ((rd l k).Own1 == IntKind.i64.wrap ((rd l i).Own0 - 1)) = true by simpa using q4]
      refine hend (fun k' hk' => ?_) _ rfl
      obtain rfl := hk'.det hB
      exact ⟨fun h => absurd h (by first | omega | (simp at h; omega)), fun _ => ⟨q1, q2, q3⟩⟩
    · right
      have : ((aheadB (rd l k) (rd l i) && decide ((rd l k).T1 ≤ (rd l i).T0)) && ((rd l k).Own1 == IntKind.i64.wrap ((rd l i).Own0 - 1))) = false := by
        apply Classical.byContradiction
        intro hn
        simp only [Bool.not_eq_false, Bool.and_eq_true, decide_eq_true_eq, beq_iff_eq] at hn
        exact hq ⟨hn.1.1, hn.1.2, (wrap_sub b0 b1).1 hn.2⟩
      rw [this]
      exact ⟨rfl, fun h => hq ((h.next _ hB).2 k0)⟩
theorem hsound_ok (l : List Call) (hl : l.length ≤ 60) (hw : ∀ x ∈ l, wf_Call x) : ∃ b, G_hist_Sound l = some b ∧ (b = true ↔ ∀ i : Int, 0 ≤ i → i < l.length → SoundAt l i) := by
  unfold G_hist_Sound
  have hB := loopω_ok (B := G_hist_Sound.b1 l) (fun s => 0 ≤ s.1 ∧ s.1 ≤ l.length ∧ LastIn l s.1 s.2.2 ∧ ∀ j, 0 ≤ j → j < s.1 → SoundAt l j) (fun s => (l.length - s.1).toNat)
    (fun o => (∃ s, o = .brk s ∧ ∀ i : Int, 0 ≤ i → i < l.length → SoundAt l i) ∨ (o = .ret false ∧ ∃ i : Int, 0 ≤ i ∧ i < l.length ∧ ¬ SoundAt l i)) ?_ (0, false, []) ⟨by simp, by simp, fun q => ⟨(fun k hk => by cases hk), fun _ j a b => by first | omega | (simp only at b; omega)⟩, fun j a b => by simp only at b; omega⟩
  · obtain ⟨o, ho, hq⟩ := hB
    rw [ho]
    rcases hq with ⟨s, rfl, hq⟩ | ⟨rfl, i, q1, q2, q3⟩
    · exact ⟨true, rfl, fun _ => hq, fun _ => rfl⟩
    · exact ⟨false, rfl, (fun h => by cases h), fun h => absurd (h i q1 q2) q3⟩
  · rintro ⟨i, r, m⟩ ⟨a, b, hm, c⟩
    simp only at a b c hm
    by_cases hi : i < l.length
    · rcases hsound_body l hl hw i r m a hi hm with ⟨h1, h2⟩ | ⟨h1, h2⟩
      · left
        refine ⟨_, h1, ⟨by simp only; omega, by simp only; omega, hm.next a, fun j u v => ?_⟩, by simp only; omega⟩
        simp only at v
        by_cases hj : j = i
        · subst hj; exact h2
        · exact c j u (by omega)
      · right; exact ⟨_, h1, .inr ⟨rfl, i, a, hi, h2⟩⟩
    · right
      refine ⟨.brk (i, r, m), ?_, .inl ⟨_, rfl, fun j u v => c j u (by omega)⟩⟩
      unfold G_hist_Sound.b1
      simp only [hi, decide_false, cond_false]
theorem wakes17 : G_law17_wakes = some true := by
  unfold G_law17_wakes
  have h1 : G_hist_Sound [] = some true := by
    unfold G_hist_Sound
    rw [loopω_eq]
    simp [G_hist_Sound.b1]
  rw [h1]
  have h2 : ∀ x : Call, x.Own0 = 0 → G_hist_Sound [x] = some false := by
    intro x hx
    unfold G_hist_Sound
    rw [loopω_eq]
    have : G_hist_timed x = some false := by simp [G_hist_timed, hx]
    simp [G_hist_Sound.b1, inb, rd, this, imp]
  simp only [Option.bind_some, cond_true, cal_t]
  rw [h2 _ rfl]
  rfl
end Go.Proofs.Ytnfnincmhobpaaa
