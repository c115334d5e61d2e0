/- Plain law: the library's stable sort, at one type: merging, and the whole. No statement of the seat is proved here. Conditions: none. -/
import Derived.Test.YtnfnincmhobpaaaPSortM
set_option linter.unusedVariables false
set_option linter.unusedSimpArgs false
set_option linter.unusedSectionVars false
namespace Go.Proofs.Ytnfnincmhobpaaa
open Go Go.RowKit Go.Eng
abbrev SelfT := List Wit_spot → Nat → Int → Int → Int → Fn96 → Option (List Wit_spot)
def rst2 (self : SelfT) (n mid e b : Nat) (f : Fn96) (u : List Wit_spot) : Option (List Wit_spot) :=
  bif (decide ((mid : Int) < (e : Int)) && decide ((e : Int) < (b : Int))) then (self u n (mid : Int) (e : Int) (b : Int) f).bind fun t => some t else some u
def rst1 (self : SelfT) (n a s mid e b : Nat) (f : Fn96) (t : List Wit_spot) : Option (List Wit_spot) :=
  bif (decide ((a : Int) < (s : Int)) && decide ((s : Int) < (mid : Int))) then (self t n (a : Int) (s : Int) (mid : Int) f).bind fun u => rst2 self n mid e b f u else rst2 self n mid e b f t
section
variable {lt : Wit_spot → Wit_spot → Bool} {R : Wit_spot → Wit_spot → Prop} (O : Ord lt R) {f : Fn96} (hc : ∀ x y, ∃ c, Fn96.run f x y = some c ∧ decide (c < 0) = lt x y)
include O hc
theorem smC {l : List Wit_spot} {n a m b : Nat} (hl : l.length = n) (hn : n ≤ 4294967296) (ham : a + 1 < m) (hmb : m + 1 < b) (hb : b ≤ n) (h1 : Srt lt l a m) (h2 : Srt lt l m b) :
    ∃ s e mid l1, mid = (a + b) / 2 ∧ s + e = mid + m ∧ a ≤ s ∧ s ≤ mid ∧ mid ≤ e ∧ e ≤ b ∧ Ok lt R l l1 a b ∧ Srt lt l1 a s ∧ Srt lt l1 s mid ∧ Srt lt l1 mid e ∧ Srt lt l1 e b ∧
      (∀ p q, a ≤ p → p < mid → mid ≤ q → q < b → lt (gt l1 q) (gt l1 p) = false) ∧ ∀ self, G_wit_spot_56.step self l n (a : Int) (m : Int) (b : Int) f = rst1 self n a s mid e b f l1 := by
  obtain ⟨mid, hmid⟩ : ∃ mid, mid = (a + b) / 2 := ⟨_, rfl⟩
  obtain ⟨lo, hi, hlo⟩ : ∃ lo hi, (mid < m ∧ lo = mid + m - b ∧ hi = mid) ∨ (m ≤ mid ∧ lo = a ∧ hi = m) := by
    by_cases h : mid < m
    · exact ⟨_, _, .inl ⟨h, rfl, rfl⟩⟩
    · exact ⟨_, _, .inr ⟨by omega, rfl, rfl⟩⟩
  have emid : IntKind.i64.wrap (Int.fdiv (IntKind.u64.wrap (IntKind.i64.wrap ((a : Int) + (b : Int)))) 2) = (mid : Int) := by rw [half (by omega) (by omega), hmid]
  have enn : IntKind.i64.wrap ((mid : Int) + (m : Int)) = ((mid + m : Nat) : Int) := by rw [w64] <;> omega
  have epp : IntKind.i64.wrap (((mid + m : Nat) : Int) - 1) = ((mid + m - 1 : Nat) : Int) := by rw [w64] <;> omega
  obtain ⟨x, e1, x1, x2, x3, x4⟩ := bsearch (B := G_wit_spot_56.b5 (fun _ _ _ _ _ _ => none) l n (a : Int) (m : Int) (b : Int) f) (fun c => !lt (gt l (mid + m - 1 - c)) (gt l c)) lo hi (fun i j h1 h2 h3 => by
    obtain ⟨c, hc1, hc2⟩ := hc (gt l (mid + m - 1 - (i + j) / 2)) (gt l ((i + j) / 2))
    have e5 : IntKind.i64.wrap (((mid + m - 1 : Nat) : Int) - (((i + j) / 2 : Nat) : Int)) = ((mid + m - 1 - (i + j) / 2 : Nat) : Int) := by rw [w64 (by omega) (by omega)]; omega
    unfold G_wit_spot_56.b5
    simp only [lt_t h2, cond_true, half (show i ≤ 4294967296 by omega) (show j ≤ 4294967296 by omega), emid, enn, epp, e5, inb_n (show (i + j) / 2 < n by omega), inb_n (show mid + m - 1 - (i + j) / 2 < n by omega), req_t, rd_gt, hc1, Option.bind_some, hc2, wp1 (show (i + j) / 2 < n by omega) (show n ≤ maxLen by simp only [maxLen]; omega)]) (fun i => by unfold G_wit_spot_56.b5; simp only [lt_f, cond_false]) (hi - lo) lo hi (Nat.le_refl _) (Nat.le_refl _) (by omega) (Nat.le_refl _) (.inl rfl) (.inl rfl)
  obtain ⟨e, he⟩ : ∃ e, e = mid + m - x := ⟨_, rfl⟩
  have hbe : x ≤ mid ∧ mid ≤ e ∧ e ≤ b ∧ a ≤ x ∧ x ≤ m ∧ m ≤ e := by omega
  obtain ⟨b1, b2, b3, b4, b5, b6⟩ := hbe
  have hYX : ∀ u v, x ≤ u → u < m → m ≤ v → v < e → lt (gt l v) (gt l u) = true := fun u v u1 u2 v1 v2 => by
    rcases x4 with h | h
    · omega
    · have h : lt (gt l (mid + m - 1 - x)) (gt l x) = true := by simpa using h
      rw [show mid + m - 1 - x = e - 1 by omega] at h
      have t1 : lt (gt l v) (gt l x) = true := by
        by_cases hv : v = e - 1
        · rw [hv]; exact h
        · exact O.le_lt_lt (h2 v (e - 1) v1 (by omega) (by omega)) h
      by_cases hu : u = x
      · rw [hu]; exact t1
      · exact O.lt_le_lt t1 (h1 x u (by omega) (by omega) u2)
  have hAB : ∀ u v, a ≤ u → u < x → e ≤ v → v < b → lt (gt l v) (gt l u) = false := fun u v u1 u2 v1 v2 => by
    rcases x3 with h | h
    · omega
    · have h : lt (gt l (mid + m - 1 - (x - 1))) (gt l (x - 1)) = false := by simpa using h
      rw [show mid + m - 1 - (x - 1) = e by omega] at h
      have t1 : lt (gt l v) (gt l (x - 1)) = false := by
        by_cases hv : v = e
        · rw [hv]; exact h
        · exact O.ntr _ _ _ (h2 e v (by omega) (by omega) v2) h
      by_cases hu : u = x - 1
      · rw [hu]; exact t1
      · exact O.ntr _ _ _ t1 (h1 u (x - 1) u1 (by omega) (by omega))
  obtain ⟨l1, hrot, hval⟩ : ∃ l1, Rot l l1 x m e ∧ ∀ self, (bif (decide ((x : Int) < (m : Int)) && decide ((m : Int) < (e : Int))) then ((G_wit_spot_57 l n (x : Int) (m : Int) (e : Int) f).bind fun t => rst1 self n a x mid e b f t) else rst1 self n a x mid e b f l) = rst1 self n a x mid e b f l1 := by
    by_cases h : x < m ∧ m < e
    · obtain ⟨l1, k1, k2⟩ := rot_eq (f := f) hl hn h.1 h.2 (show e ≤ n by omega)
      refine ⟨l1, k2, fun self => ?_⟩
      rw [show (decide ((x : Int) < (m : Int)) && decide ((m : Int) < (e : Int))) = true by simp; omega, cond_true, k1, Option.bind_some]
    · refine ⟨l, Rot.none (by omega), fun self => ?_⟩
      rw [show (decide ((x : Int) < (m : Int)) && decide ((m : Int) < (e : Int))) = false by simp; omega, cond_false]
  have hok : Ok lt R l l1 a b := hrot.ok (O := O) (by omega) b5 b6 b3 (by omega) hYX
  obtain ⟨r1, r2, g⟩ := hrot
  have gA : ∀ k, k < x → gt l1 k = gt l k := fun k hk => by rw [g, if_neg (by omega), if_neg (by omega)]
  have gB : ∀ k, e ≤ k → gt l1 k = gt l k := fun k hk => by rw [g, if_neg (by omega), if_neg (by omega)]
  have gY : ∀ k, x ≤ k → k < mid → gt l1 k = gt l (k + (m - x)) := fun k k1 k2 => by rw [g, if_pos (by omega)]
  have gX : ∀ k, mid ≤ k → k < e → gt l1 k = gt l (k - (e - m)) := fun k k1 k2 => by rw [g, if_neg (by omega), if_pos (by omega)]
  refine ⟨x, e, mid, l1, hmid, by omega, b4, b1, b2, b3, hok, fun p q hp hpq hq => ?_, fun p q hp hpq hq => ?_, fun p q hp hpq hq => ?_, fun p q hp hpq hq => ?_, fun p q hp hpm hqm hq => ?_, fun self => ?_⟩
  · rw [gA p (by omega), gA q hq]; exact h1 p q hp hpq (by omega)
  · rw [gY p hp (by omega), gY q (by omega) hq]; exact h2 _ _ (by omega) (by omega) (by omega)
  · rw [gX p hp (by omega), gX q (by omega) hq]; exact h1 _ _ (by omega) (by omega) (by omega)
  · rw [gB p hp, gB q (by omega)]; exact h2 p q (by omega) hpq hq
  · by_cases c1 : p < x
    · rw [gA p c1]
      by_cases c2 : q < e
      · rw [gX q hqm c2]; exact h1 p _ hp (by omega) (by omega)
      · rw [gB q (by omega)]; exact hAB p q hp c1 (by omega) hq
    · rw [gY p (by omega) hpm]
      by_cases c2 : q < e
      · rw [gX q hqm c2]; exact O.asy _ _ (hYX _ _ (by omega) (by omega) (by omega) (by omega))
      · rw [gB q (by omega)]; exact h2 _ q (by omega) (by omega) hq
  · rw [← hval]
    unfold G_wit_spot_56.step
    rw [show (IntKind.i64.wrap ((m : Int) - (a : Int)) == 1) = false by rw [w64 (x := (m : Int) - (a : Int)) (by omega) (by omega)]; simp; omega, cond_false]
    rw [show (IntKind.i64.wrap ((b : Int) - (m : Int)) == 1) = false by rw [w64 (x := (b : Int) - (m : Int)) (by omega) (by omega)]; simp; omega, cond_false]
    have hini : ((bif decide ((m : Int) > (mid : Int)) then (mid : Int) else (m : Int)), (bif decide ((m : Int) > (mid : Int)) then IntKind.i64.wrap (((mid + m : Nat) : Int) - (b : Int)) else (a : Int))) = ((hi : Int), (lo : Int)) := by
      rcases hlo with ⟨q1, q2, q3⟩ | ⟨q1, q2, q3⟩
      · rw [show decide ((m : Int) > (mid : Int)) = true by simp; omega, cond_true, cond_true, w64 (by omega) (by omega), q2, q3]
        congr 1; omega
      · rw [show decide ((m : Int) > (mid : Int)) = false by simp; omega, cond_false, cond_false, q2, q3]
    have eend : IntKind.i64.wrap (((mid + m : Nat) : Int) - (x : Int)) = (e : Int) := by rw [w64 (by omega) (by omega)]; omega
    have f1 : G_wit_spot_56.b5 self l n (a : Int) (m : Int) (b : Int) f = G_wit_spot_56.b5 (fun _ _ _ _ _ _ => none) l n (a : Int) (m : Int) (b : Int) f := rfl
    simp only [emid, enn]
    rw [hini, f1, e1]
    simp only [Option.bind_some, Ex.on_brk, eend]
    rfl
end
def SMv (l : List Wit_spot) (n a m b : Nat) (f : Fn96) (l' : List Wit_spot) : Prop :=
  (∀ k, G_wit_spot_56.n k l n (a : Int) (m : Int) (b : Int) f = some l' ∨ G_wit_spot_56.n k l n (a : Int) (m : Int) (b : Int) f = none) ∧ ∀ k, b - a < k → G_wit_spot_56.n k l n (a : Int) (m : Int) (b : Int) f = some l'
section
variable {lt : Wit_spot → Wit_spot → Bool} {R : Wit_spot → Wit_spot → Prop} (O : Ord lt R) {f : Fn96} (hc : ∀ x y, ∃ c, Fn96.run f x y = some c ∧ decide (c < 0) = lt x y)
include O hc
theorem sm {n : Nat} (hn : n ≤ 4294967296) : ∀ (d : Nat) (l : List Wit_spot) (a m b : Nat), b - a ≤ d → a < m → m < b → b ≤ n → l.length = n → Srt lt l a m → Srt lt l m b → ∃ l', SMv l n a m b f l' ∧ Ok lt R l l' a b ∧ Srt lt l' a b
  | 0, l, a, m, b, hd, ham, hmb, hb, hl, h1, h2 => by omega
  | d + 1, l, a, m, b, hd, ham, hmb, hb, hl, h1, h2 => by
    have flat : ∀ l', (∀ self, G_wit_spot_56.step self l n (a : Int) (m : Int) (b : Int) f = some l') → SMv l n a m b f l' := fun l' h => by
      refine ⟨fun k => ?_, fun k hk => ?_⟩
      · cases k with
        | zero => exact .inr rfl
        | succ k => exact .inl (h _)
      · cases k with
        | zero => omega
        | succ k => exact h _
    by_cases hA : m = a + 1
    · subst hA
      obtain ⟨l', k1, k2, k3⟩ := smA O hc (fun _ _ _ _ _ _ => none) hl hn hmb hb h2
      exact ⟨l', flat l' k1, k2, k3⟩
    by_cases hB : b = m + 1
    · subst hB
      obtain ⟨l', k1, k2, k3⟩ := smB O hc (fun _ _ _ _ _ _ => none) hl hn (show a + 1 < m by omega) hb h1
      exact ⟨l', flat l' k1, k2, k3⟩
    obtain ⟨s, e, mid, l1, c0, c1, c2, c3, c4, c5, hok, s1, s2, s3, s4, hx, hstep⟩ := smC O hc hl hn (show a + 1 < m by omega) (show m + 1 < b by omega) hb h1 h2
    -- the left half
    obtain ⟨l2, L1, L2, L3⟩ : ∃ l2, ((a < s ∧ s < mid ∧ SMv l1 n a s mid f l2) ∨ (¬ (a < s ∧ s < mid) ∧ l2 = l1)) ∧ Ok lt R l1 l2 a mid ∧ Srt lt l2 a mid := by
      by_cases h : a < s ∧ s < mid
      · obtain ⟨l2, k1, k2, k3⟩ := sm hn d l1 a s mid (by omega) h.1 h.2 (by omega) (hok.len.trans hl) s1 s2
        exact ⟨l2, .inl ⟨h.1, h.2, k1⟩, k2, k3⟩
      · refine ⟨l1, .inr ⟨h, rfl⟩, .refl _ _ _, ?_⟩
        by_cases h' : a < s
        · have : s = mid := by omega
          rw [← this]; exact s1
        · have : s = a := by omega
          rw [← this]; exact s2
    -- the right half
    have s3' : Srt lt l2 mid e := s3.same fun k k1 k2 => L2.out k (by omega)
    have s4' : Srt lt l2 e b := s4.same fun k k1 k2 => L2.out k (by omega)
    obtain ⟨l3, R1, R2, R3⟩ : ∃ l3, ((mid < e ∧ e < b ∧ SMv l2 n mid e b f l3) ∨ (¬ (mid < e ∧ e < b) ∧ l3 = l2)) ∧ Ok lt R l2 l3 mid b ∧ Srt lt l3 mid b := by
      by_cases h : mid < e ∧ e < b
      · obtain ⟨l3, k1, k2, k3⟩ := sm hn d l2 mid e b (by omega) h.1 h.2 hb (L2.len.trans (hok.len.trans hl)) s3' s4'
        exact ⟨l3, .inl ⟨h.1, h.2, k1⟩, k2, k3⟩
      · refine ⟨l2, .inr ⟨h, rfl⟩, .refl _ _ _, ?_⟩
        by_cases h' : mid < e
        · have : e = b := by omega
          rw [← this]; exact s3'
        · have : e = mid := by omega
          rw [← this]; exact s4'
    refine ⟨l3, ⟨fun k => ?_, fun k hk => ?_⟩, hok.trans ((L2.mono (Nat.le_refl _) (by omega)).trans (R2.mono (by omega) (Nat.le_refl _))), ?_⟩
    · cases k with
      | zero => exact .inr rfl
      | succ k =>
        show G_wit_spot_56.step (G_wit_spot_56.n k) l n (a : Int) (m : Int) (b : Int) f = _ ∨ G_wit_spot_56.step (G_wit_spot_56.n k) l n (a : Int) (m : Int) (b : Int) f = _
        rw [hstep]
        have hr : rst2 (G_wit_spot_56.n k) n mid e b f l2 = some l3 ∨ rst2 (G_wit_spot_56.n k) n mid e b f l2 = none := by
          unfold rst2
          rcases R1 with ⟨q1, q2, q3⟩ | ⟨q1, q2⟩
          · rw [show (decide ((mid : Int) < (e : Int)) && decide ((e : Int) < (b : Int))) = true by simp; omega, cond_true]
            rcases q3.1 k with h | h <;> rw [h]
            · exact .inl rfl
            · exact .inr rfl
          · rw [show (decide ((mid : Int) < (e : Int)) && decide ((e : Int) < (b : Int))) = false by simp; omega, cond_false, q2]
            exact .inl rfl
        unfold rst1
        rcases L1 with ⟨q1, q2, q3⟩ | ⟨q1, q2⟩
        · rw [show (decide ((a : Int) < (s : Int)) && decide ((s : Int) < (mid : Int))) = true by simp; omega, cond_true]
          rcases q3.1 k with h | h <;> rw [h]
          · exact hr
          · exact .inr rfl
        · rw [show (decide ((a : Int) < (s : Int)) && decide ((s : Int) < (mid : Int))) = false by simp; omega, cond_false, ← q2]
          exact hr
    · cases k with
      | zero => omega
      | succ k =>
        show G_wit_spot_56.step (G_wit_spot_56.n k) l n (a : Int) (m : Int) (b : Int) f = _
        rw [hstep]
        have hr : rst2 (G_wit_spot_56.n k) n mid e b f l2 = some l3 := by
          unfold rst2
          rcases R1 with ⟨q1, q2, q3⟩ | ⟨q1, q2⟩
          · rw [show (decide ((mid : Int) < (e : Int)) && decide ((e : Int) < (b : Int))) = true by simp; omega, cond_true, q3.2 k (by omega)]; rfl
          · rw [show (decide ((mid : Int) < (e : Int)) && decide ((e : Int) < (b : Int))) = false by simp; omega, cond_false, q2]
        unfold rst1
        rcases L1 with ⟨q1, q2, q3⟩ | ⟨q1, q2⟩
        · rw [show (decide ((a : Int) < (s : Int)) && decide ((s : Int) < (mid : Int))) = true by simp; omega, cond_true, q3.2 k (by omega)]
          exact hr
        · rw [show (decide ((a : Int) < (s : Int)) && decide ((s : Int) < (mid : Int))) = false by simp; omega, cond_false, ← q2]
          exact hr
    · refine Srt.join (m := mid) (L3.same fun k k1 k2 => R2.out k (by omega)) R3 fun p q hp hpm hqm hq => ?_
      obtain ⟨p', p1, p2, e1⟩ := L2.inn p hp hpm
      obtain ⟨q', q1, q2, e2⟩ := R2.inn q hqm hq
      rw [R2.out p (by omega), e1, e2, L2.out q' (by omega)]
      exact hx p' q' p1 p2 q1 q2
theorem merge_eq {l : List Wit_spot} {n a m b : Nat} (hl : l.length = n) (hn : n ≤ 4294967296) (ham : a < m) (hmb : m < b) (hb : b ≤ n) (h1 : Srt lt l a m) (h2 : Srt lt l m b) :
    ∃ l', G_wit_spot_56 l n (a : Int) (m : Int) (b : Int) f = some l' ∧ Ok lt R l l' a b ∧ Srt lt l' a b := by
  obtain ⟨l', k1, k2, k3⟩ := sm O hc hn (b - a) l a m b (Nat.le_refl _) ham hmb hb hl h1 h2
  refine ⟨l', ?_, k2, k3⟩
  unfold G_wit_spot_56
  refine recω_of (k1.2 (b - a + 1) (by omega)) fun k r' hr => ?_
  rcases k1.1 k with h | h
  · rw [h] at hr; exact (Option.some.inj hr).symm
  · rw [h] at hr; cases hr
/-! ### the whole -/
def Blk (lt : Wit_spot → Wit_spot → Bool) (l : List Wit_spot) (bs n : Nat) : Prop := ∀ k, Srt lt l (k * bs) (min ((k + 1) * bs) n)
theorem blocks {l0 : List Wit_spot} {n : Nat} (hn : n ≤ 4294967296) : ∀ (d t : Nat) (l : List Wit_spot), n - 20 * t ≤ d → 20 * t ≤ n → l.length = n → (∀ k, k < t → Srt lt l (k * 20) ((k + 1) * 20)) →
    ∃ (b : Int) (t' : Nat) (l' : List Wit_spot), loopω (G_wit_spot_53.b1 l0 n (n : Int) f) (((20 * t + 20 : Nat) : Int), ((20 * t : Nat) : Int), l) = some (.brk (b, ((20 * t' : Nat) : Int), l')) ∧ 20 * t' ≤ n ∧ n < 20 * t' + 20 ∧ Ok lt R l l' 0 n ∧ (∀ k, k < t' → Srt lt l' (k * 20) ((k + 1) * 20))
  | d, t, l, hd, ht, hl, hB => by
    by_cases hle : 20 * t + 20 ≤ n
    · obtain ⟨l1, k1, k2, k3⟩ := ins_eq O hc (a := 20 * t) (b := 20 * t + 20) hl hn (by omega) hle
      have hbody : G_wit_spot_53.b1 l0 n (n : Int) f (((20 * t + 20 : Nat) : Int), ((20 * t : Nat) : Int), l) = some (.next (((20 * (t + 1) + 20 : Nat) : Int), ((20 * (t + 1) : Nat) : Int), l1)) := by
        unfold G_wit_spot_53.b1
        simp only [show decide (((20 * t + 20 : Nat) : Int) ≤ (n : Int)) = true by simp; omega, cond_true, k1, Option.bind_some]
        rw [show IntKind.i64.wrap (((20 * t + 20 : Nat) : Int) + 20) = ((20 * (t + 1) + 20 : Nat) : Int) by rw [w64 (by omega) (by omega)]; omega, show 20 * t + 20 = 20 * (t + 1) by omega]
      rw [loopω_eq, hbody]
      cases d with
      | zero => omega
      | succ d =>
        obtain ⟨b, t', l', m1, m2, m3, m4, m5⟩ := blocks (l0 := l0) hn d (t + 1) l1 (by omega) (by omega) (k2.len.trans hl) (fun k hk => by
          by_cases hkt : k = t
          · subst hkt; rw [show k * 20 = 20 * k by omega, show (k + 1) * 20 = 20 * k + 20 by omega]; exact k3
          · exact (hB k (by omega)).same fun p p1 p2 => k2.out p (by omega))
        exact ⟨b, t', l', m1, m2, m3, (k2.mono (by omega) hle).trans m4, m5⟩
    · refine ⟨((20 * t + 20 : Nat) : Int), t, l, ?_, ht, by omega, .refl _ _ _, hB⟩
      rw [loopω_eq]
      unfold G_wit_spot_53.b1
      rw [show decide (((20 * t + 20 : Nat) : Int) ≤ (n : Int)) = false by simp; omega]
      rfl
theorem merges {l0 : List Wit_spot} {s1 : Int × Int × List Wit_spot} {t31 : List Wit_spot} {s2 : Int × List Wit_spot} {n bs : Nat} (hn : n ≤ 1073741824) (hbs : 1 ≤ bs) (hbn : bs < n) (hs2 : s2.1 = (bs : Int)) :
    ∀ (d t : Nat) (l : List Wit_spot), n - 2 * bs * t ≤ d → 2 * bs * t ≤ n → l.length = n → (∀ k, k < t → Srt lt l (k * (2 * bs)) ((k + 1) * (2 * bs))) → (∀ k, 2 * t ≤ k → Srt lt l (k * bs) (min ((k + 1) * bs) n)) →
    ∃ (b : Int) (t' : Nat) (l' : List Wit_spot), loopω (G_wit_spot_53.b3 l0 n (n : Int) f s1 t31 s2) (((2 * bs * t + 2 * bs : Nat) : Int), ((2 * bs * t : Nat) : Int), l) = some (.brk (b, ((2 * bs * t' : Nat) : Int), l')) ∧ 2 * bs * t' ≤ n ∧ n < 2 * bs * t' + 2 * bs ∧ Ok lt R l l' 0 n ∧
      (∀ k, k < t' → Srt lt l' (k * (2 * bs)) ((k + 1) * (2 * bs))) ∧ (∀ k, 2 * t' ≤ k → Srt lt l' (k * bs) (min ((k + 1) * bs) n))
  | d, t, l, hd, ht, hl, hB, hC => by
    by_cases hle : 2 * bs * t + 2 * bs ≤ n
    · have hm1 : Srt lt l (2 * bs * t) (2 * bs * t + bs) := by
        have := hC (2 * t) (Nat.le_refl _)
        rw [show 2 * t * bs = 2 * bs * t by rw [Nat.mul_right_comm], show min ((2 * t + 1) * bs) n = 2 * bs * t + bs by rw [Nat.succ_mul, Nat.mul_right_comm 2 t bs]; omega] at this
        exact this
      have hm2 : Srt lt l (2 * bs * t + bs) (2 * bs * t + 2 * bs) := by
        have := hC (2 * t + 1) (by omega)
        rw [show (2 * t + 1) * bs = 2 * bs * t + bs by rw [Nat.succ_mul, Nat.mul_right_comm 2 t bs], show min ((2 * t + 1 + 1) * bs) n = 2 * bs * t + 2 * bs by rw [show (2 * t + 1 + 1) * bs = 2 * t * bs + bs + bs by rw [Nat.add_mul, Nat.add_mul, Nat.one_mul], Nat.mul_right_comm 2 t bs]; omega] at this
        exact this
      obtain ⟨l1, k1, k2, k3⟩ := merge_eq O hc hl (show n ≤ 4294967296 by omega) (show 2 * bs * t < 2 * bs * t + bs by omega) (show 2 * bs * t + bs < 2 * bs * t + 2 * bs by omega) hle hm1 hm2
      have hx : 2 * bs * (t + 1) = 2 * bs * t + 2 * bs := Nat.mul_succ _ _
      have hbody : G_wit_spot_53.b3 l0 n (n : Int) f s1 t31 s2 (((2 * bs * t + 2 * bs : Nat) : Int), ((2 * bs * t : Nat) : Int), l) = some (.next (((2 * bs * (t + 1) + 2 * bs : Nat) : Int), ((2 * bs * (t + 1) : Nat) : Int), l1)) := by
        rw [hx]
        unfold G_wit_spot_53.b3
        simp only [show decide (((2 * bs * t + 2 * bs : Nat) : Int) ≤ (n : Int)) = true from decide_eq_true (by omega), cond_true, hs2]
        rw [show IntKind.i64.wrap (((2 * bs * t : Nat) : Int) + (bs : Int)) = ((2 * bs * t + bs : Nat) : Int) by rw [w64 (by omega) (by omega)]; omega, k1, Option.bind_some]
        rw [show IntKind.i64.wrap (2 * (bs : Int)) = ((2 * bs : Nat) : Int) by rw [w64 (by omega) (by omega)]; omega, show IntKind.i64.wrap (((2 * bs * t + 2 * bs : Nat) : Int) + ((2 * bs : Nat) : Int)) = ((2 * bs * t + 2 * bs + 2 * bs : Nat) : Int) by rw [w64 (by omega) (by omega)]; omega]
      rw [loopω_eq, hbody]
      cases d with
      | zero => omega
      | succ d =>
        obtain ⟨b, t', l', m1, m2, m3, m4, m5, m6⟩ := merges hn hbs hbn hs2 d (t + 1) l1 (by omega) (by omega) (k2.len.trans hl) (fun k hk => by
          by_cases hkt : k = t
          · subst hkt; rw [show k * (2 * bs) = 2 * bs * k from Nat.mul_comm _ _, show (k + 1) * (2 * bs) = 2 * bs * k + 2 * bs by rw [Nat.mul_comm, Nat.mul_succ]]; exact k3
          · refine (hB k (by omega)).same fun p p1 p2 => k2.out p (.inl ?_)
            have : (k + 1) * (2 * bs) ≤ t * (2 * bs) := Nat.mul_le_mul_right _ (by omega)
            rw [Nat.mul_comm t (2 * bs)] at this; omega) (fun k hk => (hC k (by omega)).same fun p p1 p2 => k2.out p (.inr (by
            have : (2 * t + 2) * bs ≤ k * bs := Nat.mul_le_mul_right _ (by omega)
            rw [show (2 * t + 2) * bs = 2 * bs * t + 2 * bs by rw [Nat.add_mul, Nat.mul_right_comm 2 t bs]] at this; omega)))
        exact ⟨b, t', l', m1, m2, m3, (k2.mono (by omega) hle).trans m4, m5, m6⟩
    · refine ⟨((2 * bs * t + 2 * bs : Nat) : Int), t, l, ?_, ht, by omega, .refl _ _ _, hB, hC⟩
      rw [loopω_eq]
      unfold G_wit_spot_53.b3
      rw [show decide (((2 * bs * t + 2 * bs : Nat) : Int) ≤ (n : Int)) = false from decide_eq_false (by omega)]
      rfl
theorem rounds {l0 : List Wit_spot} {s1 : Int × Int × List Wit_spot} {t31 : List Wit_spot} {n : Nat} (hn : n ≤ 1073741824) : ∀ (d bs : Nat) (l : List Wit_spot), n - bs ≤ d → 1 ≤ bs → l.length = n → Blk lt l bs n → bs ≤ 2147483648 →
    ∃ l', ((loopω (G_wit_spot_53.b2 l0 n (n : Int) f s1 t31) ((bs : Int), l)).bind fun o => o.on (fun s2 => some s2.2) (fun r => some r)) = some l' ∧ Ok lt R l l' 0 n ∧ Srt lt l' 0 n
  | d, bs, l, hd, hbs, hl, hB, hbb => by
    by_cases hlt : bs < n
    · obtain ⟨b, t, l1, m1, m2, m3, m4, m5, m6⟩ := merges O hc (l0 := l0) (s1 := s1) (t31 := t31) (s2 := ((bs : Int), l)) hn hbs hlt rfl n 0 l (by omega) (by omega) hl (fun k hk => by omega) (fun k hk => hB k)
      have ez : ((2 * bs * 0 + 2 * bs : Nat) : Int) = IntKind.i64.wrap (2 * (bs : Int)) := by rw [w64 (by omega) (by omega)]; omega
      rw [ez, show ((2 * bs * 0 : Nat) : Int) = 0 by simp] at m1
      have ht2 : 2 * t * bs = 2 * bs * t := Nat.mul_right_comm 2 t bs
      have ea : IntKind.i64.wrap (((2 * bs * t : Nat) : Int) + (bs : Int)) = ((2 * bs * t + bs : Nat) : Int) := by rw [w64 (by omega) (by omega)]; omega
      have eb : IntKind.i64.wrap ((bs : Int) * 2) = ((2 * bs : Nat) : Int) := by rw [w64 (by omega) (by omega)]; omega
      have hs1 : Srt lt l1 (2 * bs * t) (min (2 * bs * t + bs) n) := by
        have := m6 (2 * t) (Nat.le_refl _)
        rw [ht2, show (2 * t + 1) * bs = 2 * bs * t + bs by rw [Nat.add_mul, Nat.one_mul, ht2]] at this; exact this
      have hs2 : Srt lt l1 (min (2 * bs * t + bs) n) n := by
        have := m6 (2 * t + 1) (by omega)
        rw [show (2 * t + 1) * bs = 2 * bs * t + bs by rw [Nat.succ_mul, ht2], show min ((2 * t + 1 + 1) * bs) n = n by rw [Nat.succ_mul, Nat.succ_mul, ht2]; omega] at this
        by_cases h : 2 * bs * t + bs ≤ n
        · rw [show min (2 * bs * t + bs) n = 2 * bs * t + bs by omega]; exact this
        · exact .triv (by omega)
      obtain ⟨l2, hb2, ok2, srt2⟩ : ∃ l2, G_wit_spot_53.b2 l0 n (n : Int) f s1 t31 ((bs : Int), l) = some (.next (((2 * bs : Nat) : Int), l2)) ∧ Ok lt R l1 l2 (2 * bs * t) n ∧ Srt lt l2 (2 * bs * t) n := by
        by_cases hmn : 2 * bs * t + bs < n
        · rw [show min (2 * bs * t + bs) n = 2 * bs * t + bs by omega] at hs1 hs2
          obtain ⟨l2, k1, k2, k3⟩ := merge_eq O hc (m4.len.trans hl) (show n ≤ 4294967296 by omega) (show 2 * bs * t < 2 * bs * t + bs by omega) hmn (Nat.le_refl _) hs1 hs2
          refine ⟨l2, ?_, k2, k3⟩
          unfold G_wit_spot_53.b2
          simp only [lt_t hlt, cond_true, m1, Option.bind_some, Ex.on_brk, ea, lt_t hmn, k1, eb]
        · refine ⟨l1, ?_, .refl _ _ _, ?_⟩
          · unfold G_wit_spot_53.b2
            simp only [lt_t hlt, cond_true, m1, Option.bind_some, Ex.on_brk, ea, show decide (((2 * bs * t + bs : Nat) : Int) < (n : Int)) = false from decide_eq_false (by omega), cond_false, eb]
          · rw [show min (2 * bs * t + bs) n = n by omega] at hs1; exact hs1
      have hB2 : Blk lt l2 (2 * bs) n := fun k => by
        rcases Nat.lt_trichotomy k t with hk | hk | hk
        · have : (k + 1) * (2 * bs) ≤ t * (2 * bs) := Nat.mul_le_mul_right _ (by omega)
          rw [Nat.mul_comm t (2 * bs)] at this
          rw [show min ((k + 1) * (2 * bs)) n = (k + 1) * (2 * bs) by omega]
          exact (m5 k hk).same fun p p1 p2 => ok2.out p (by omega)
        · subst hk
          rw [show k * (2 * bs) = 2 * bs * k from Nat.mul_comm _ _, show min ((k + 1) * (2 * bs)) n = n by rw [Nat.succ_mul, Nat.mul_comm k (2 * bs)]; omega]
          exact srt2
        · have : (t + 1) * (2 * bs) ≤ k * (2 * bs) := Nat.mul_le_mul_right _ (by omega)
          rw [Nat.succ_mul, Nat.mul_comm t (2 * bs)] at this
          exact .triv (by omega)
      rw [loopω_eq, hb2]
      cases d with
      | zero => omega
      | succ d =>
        obtain ⟨l', q1, q2, q3⟩ := rounds (l0 := l0) (s1 := s1) (t31 := t31) hn d (2 * bs) l2 (by omega) (by omega) (ok2.len.trans (m4.len.trans hl)) hB2 (by omega)
        exact ⟨l', q1, m4.trans ((ok2.mono (by omega) (Nat.le_refl _)).trans q2), q3⟩
    · refine ⟨l, ?_, .refl _ _ _, ?_⟩
      · rw [loopω_eq]
        unfold G_wit_spot_53.b2
        rw [show decide ((bs : Int) < (n : Int)) = false by simp; omega]
        rfl
      · have := hB 0
        rw [Nat.zero_mul, show min ((0 + 1) * bs) n = n by rw [Nat.zero_add, Nat.one_mul]; omega] at this
        exact this
theorem stable_eq {l : List Wit_spot} (hn : l.length ≤ 1073741824) : ∃ l', G_wit_spot_49 l l.length f = some l' ∧ Ok lt R l l' 0 l.length ∧ Srt lt l' 0 l.length := by
  unfold G_wit_spot_49 G_wit_spot_53
  obtain ⟨b, t, l1, m1, m2, m3, m4, m5⟩ := blocks O hc (l0 := l) (n := l.length) (by omega) l.length 0 l (by omega) (by omega) rfl (fun k hk => by omega)
  rw [show ((20 * 0 + 20 : Nat) : Int) = 20 from rfl, show ((20 * 0 : Nat) : Int) = 0 from rfl] at m1
  rw [m1, Option.bind_some, Ex.on_brk]
  obtain ⟨l2, k1, k2, k3⟩ := ins_eq O hc (n := l.length) (a := 20 * t) (b := l.length) m4.len (by omega) m2 (Nat.le_refl _)
  simp only [k1, Option.bind_some]
  have hB : Blk lt l2 20 l.length := fun k => by
    rcases Nat.lt_trichotomy k t with hk | hk | hk
    · rw [show min ((k + 1) * 20) l.length = (k + 1) * 20 by omega]
      exact (m5 k hk).same fun p p1 p2 => k2.out p (by omega)
    · subst hk
      rw [show k * 20 = 20 * k by omega, show min ((k + 1) * 20) l.length = l.length by omega]
      exact k3
    · exact .triv (by omega)
  obtain ⟨l', q1, q2, q3⟩ := rounds O hc (l0 := l) (s1 := (b, ((20 * t : Nat) : Int), l1)) (t31 := l2) hn l.length 20 l2 (by omega) (by omega) (k2.len.trans m4.len) hB (by omega)
  rw [show ((20 : Nat) : Int) = 20 from rfl] at q1
  refine ⟨l', ?_, m4.trans ((k2.mono (by omega) (Nat.le_refl _)).trans q2), q3⟩
  rw [q1]; rfl
end
end Go.Proofs.Ytnfnincmhobpaaa
