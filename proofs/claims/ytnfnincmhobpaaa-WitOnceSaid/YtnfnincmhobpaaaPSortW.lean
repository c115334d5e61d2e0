/- Plain law: the library's stable sort, at one type, sorts. No statement of the seat is proved here. Conditions: none. -/
import Derived.Test.YtnfnincmhobpaaaPSort
import Derived.Test.YtnfnincmhobpaaaGX
set_option linter.unusedVariables false
set_option linter.unusedSimpArgs false
set_option linter.unusedSectionVars false
namespace Go.Proofs.Ytnfnincmhobpaaa
open Go Go.RowKit Go.Eng
theorem wu64 {x : Int} (h1 : 0 ≤ x) (h2 : x ≤ 18446744073709551615) : IntKind.u64.wrap x = x := by
  simp [IntKind.wrap, IntKind.signed, IntKind.bits]; omega
theorem half {i j : Nat} (hi : i ≤ 4294967296) (hj : j ≤ 4294967296) : IntKind.i64.wrap (Int.fdiv (IntKind.u64.wrap (IntKind.i64.wrap ((i : Int) + (j : Int)))) 2) = (((i + j) / 2 : Nat) : Int) := by
  rw [w64 (x := (i : Int) + (j : Int)) (by omega) (by omega), wu64 (by omega) (by omega)]
  have : Int.fdiv ((i : Int) + (j : Int)) 2 = (((i + j) / 2 : Nat) : Int) := by rw [show (i : Int) + (j : Int) = ((i + j : Nat) : Int) by omega]; exact (Int.ofNat_fdiv (i + j) 2).symm
  rw [this, w64] <;> omega
theorem toNat_n (i : Nat) : ((i : Int)).toNat = i := by omega
theorem rd_gt {α : Type} [Inhabited α] (l : List α) (i : Nat) : rd l (i : Int) = gt l i := rfl
section
variable {lt : Wit_spot → Wit_spot → Bool} {R : Wit_spot → Wit_spot → Prop} (O : Ord lt R) {f : Fn96} (hc : ∀ x y, ∃ c, Fn96.run f x y = some c ∧ decide (c < 0) = lt x y)
include O hc
theorem ins_inner {l0 : List Wit_spot} {s1 : Int × List Wit_spot} {n a i : Nat} {b : Int} (hn : n ≤ 4294967296) (hi : i < n) : ∀ (k j : Nat) (l : List Wit_spot), l.length = n → j = a + k → j ≤ i →
    (∀ p q, a ≤ p → p < q → q ≤ i → p ≠ j → q ≠ j → lt (gt l q) (gt l p) = false) → (∀ q, j < q → q ≤ i → lt (gt l j) (gt l q) = true) →
    ∃ j' l', loopω (G_wit_spot_55.b2 l0 n (a : Int) b f s1) ((j : Int), l) = some (.brk (j', l')) ∧ Ok lt R l l' a (i + 1) ∧ Srt lt l' a (i + 1)
  | 0, j, l, hl, hj, hji, J1, J2 => by
    refine ⟨(j : Int), l, ?_, .refl _ _ _, fun p q hp hpq hq => ?_⟩
    · rw [loopω_eq]
      have : decide ((j : Int) > (a : Int)) = false := by simp; omega
      simp only [G_wit_spot_55.b2, this]
      rfl
    · by_cases hpj : p = j
      · subst hpj; exact O.asy _ _ (J2 q hpq (by omega))
      · exact J1 p q hp hpq (by omega) hpj (by omega)
  | k + 1, j, l, hl, hj, hji, J1, J2 => by
    obtain ⟨j0, rfl⟩ : ∃ j0, j = j0 + 1 := ⟨j - 1, by omega⟩
    obtain ⟨c, hc1, hc2⟩ := hc (gt l (j0 + 1)) (gt l j0)
    have e1 : decide (((j0 + 1 : Nat) : Int) > (a : Int)) = true := by simp; omega
    have e2 : IntKind.i64.wrap (((j0 + 1 : Nat) : Int) - 1) = (j0 : Int) := by rw [w64 (x := ((j0 + 1 : Nat) : Int) - 1) (by omega) (by omega)]; omega
    have hbody : G_wit_spot_55.b2 l0 n (a : Int) b f s1 (((j0 + 1 : Nat) : Int), l) = if lt (gt l (j0 + 1)) (gt l j0) = true then some (.next ((j0 : Int), sw l (j0 + 1) j0)) else some (.out (.brk (((j0 + 1 : Nat) : Int), l))) := by
      unfold G_wit_spot_55.b2
      simp only [e1, e2, inb_n (show j0 + 1 < n by omega), inb_n (show j0 < n by omega), imp_tt, req_t, cal_t, rd_gt, hc1, Option.bind_some, hc2, Bool.true_and, toNat_n]
      cases lt (gt l (j0 + 1)) (gt l j0) <;> rfl
    rw [loopω_eq, hbody]
    by_cases hlt : lt (gt l (j0 + 1)) (gt l j0) = true
    · rw [if_pos hlt]
      have g := sw_get (l := l) (i := j0) (j := j0 + 1) (by omega) (by omega)
      have hok : Ok lt R l (sw l j0 (j0 + 1)) a (i + 1) := sw_ok O (by omega) (by omega) (by omega) hlt
      rw [sw_comm (show j0 + 1 ≠ j0 by omega)]
      obtain ⟨j', l', h1, h2, h3⟩ := ins_inner (l0 := l0) (s1 := s1) (a := a) (b := b) hn hi k j0 (sw l j0 (j0 + 1)) (by rw [sw_len, hl]) (by omega) (by omega) (fun p q hp hpq hq hpj hqj => by
        rw [g p, g q]
        by_cases q1 : q = j0 + 1
        · rw [if_pos q1, if_neg (by omega), if_neg hpj]
          exact J1 p j0 hp (by omega) (by omega) (by omega) (by omega)
        · rw [if_neg q1, if_neg hqj]
          by_cases p1 : p = j0 + 1
          · rw [if_pos p1]; exact J1 j0 q (by omega) (by omega) hq (by omega) (by omega)
          · rw [if_neg p1, if_neg hpj]; exact J1 p q hp hpq hq p1 q1) (fun q hq hqi => by
        rw [g j0, g q, if_neg (by omega), if_pos rfl]
        by_cases q1 : q = j0 + 1
        · rw [if_pos q1]; exact hlt
        · rw [if_neg q1, if_neg (by omega)]; exact J2 q (by omega) hqi)
      exact ⟨j', l', h1, hok.trans h2, h3⟩
    · rw [if_neg hlt]
      have hlt' : lt (gt l (j0 + 1)) (gt l j0) = false := by simpa using hlt
      refine ⟨_, l, rfl, .refl _ _ _, fun p q hp hpq hq => ?_⟩
      by_cases hpj : p = j0 + 1
      · subst hpj; exact O.asy _ _ (J2 q hpq (by omega))
      · by_cases hqj : q = j0 + 1
        · subst hqj
          by_cases hp0 : p = j0
          · subst hp0; exact hlt'
          · exact O.ntr _ _ _ hlt' (J1 p j0 hp (by omega) (by omega) (by omega) (by omega))
        · exact J1 p q hp hpq (by omega) hpj hqj
theorem ins_outer {l0 : List Wit_spot} {n a b : Nat} (hn : n ≤ 4294967296) (hb : b ≤ n) : ∀ (k i : Nat) (l : List Wit_spot), l.length = n → i + k = b → a < i → Srt lt l a i →
    ∃ l', ((loopω (G_wit_spot_55.b1 l0 n (a : Int) (b : Int) f) ((i : Int), l)).bind fun o => o.on (fun s1 => some s1.2) (fun r => some r)) = some l' ∧ Ok lt R l l' a b ∧ Srt lt l' a b
  | 0, i, l, hl, hi, hai, hs => by
    have : i = b := by omega
    subst this
    refine ⟨l, ?_, .refl _ _ _, hs⟩
    rw [loopω_eq]
    simp [G_wit_spot_55.b1]
  | k + 1, i, l, hl, hi, hai, hs => by
    obtain ⟨j', l', h1, h2, h3⟩ := ins_inner O hc (l0 := l0) (s1 := ((i : Int), l)) (b := (b : Int)) (a := a) hn (show i < n by omega) (i - a) i l hl (by omega) (Nat.le_refl _) (fun p q hp hpq hq hpi hqi => hs p q hp hpq (by omega)) (fun q hq hqi => by omega)
    have hbody : G_wit_spot_55.b1 l0 n (a : Int) (b : Int) f ((i : Int), l) = some (.next (((i + 1 : Nat) : Int), l')) := by
      unfold G_wit_spot_55.b1
      simp only [lt_t (show i < b by omega), cond_true, h1, Option.bind_some, Ex.on_brk, wp1 (show i < b by omega) (show b ≤ maxLen by simp only [maxLen]; omega)]
    rw [loopω_eq, hbody]
    obtain ⟨l'', k1, k2, k3⟩ := ins_outer (l0 := l0) (a := a) hn hb k (i + 1) l' (by rw [h2.len, hl]) (by omega) (by omega) h3
    exact ⟨l'', k1, (h2.mono (Nat.le_refl _) (by omega)).trans k2, k3⟩
theorem ins_eq {l : List Wit_spot} {n a b : Nat} (hl : l.length = n) (hn : n ≤ 4294967296) (hab : a ≤ b) (hb : b ≤ n) : ∃ l', G_wit_spot_55 l n (a : Int) (b : Int) f = some l' ∧ Ok lt R l l' a b ∧ Srt lt l' a b := by
  unfold G_wit_spot_55
  have e : IntKind.i64.wrap ((a : Int) + 1) = ((a + 1 : Nat) : Int) := by rw [w64] <;> omega
  rw [e]
  by_cases h : a + 1 ≤ b
  · exact ins_outer O hc hn hb (b - (a + 1)) (a + 1) l hl (by omega) (by omega) (.triv (by omega))
  · refine ⟨l, ?_, .refl _ _ _, .triv (by omega)⟩
    rw [loopω_eq]
    have : decide (((a + 1 : Nat) : Int) < (b : Int)) = false := by simp; omega
    simp only [G_wit_spot_55.b1, this, cond_false]
    rfl
omit O hc
theorem swr_eq {l : List Wit_spot} {n a b k : Nat} (hl : l.length = n) (hn : n ≤ 4294967296) (hab : a + k ≤ b) (hb : b + k ≤ n) : ∃ l', G_wit_spot_58 l n (a : Int) (b : Int) (k : Int) f = some l' ∧ Swp l l' a b k := by
  unfold G_wit_spot_58
  have key : ∀ (j i : Nat) (l1 : List Wit_spot), i + j = k → Swp l l1 a b i → ∃ l', ((loopω (G_wit_spot_58.b1 l n (a : Int) (b : Int) (k : Int) f) ((i : Int), l1)).bind fun o => o.on (fun s1 => some s1.2) (fun r => some r)) = some l' ∧ Swp l l' a b k := by
    intro j
    induction j with
    | zero =>
      intro i l1 h hS
      have : i = k := by omega
      subst this
      refine ⟨l1, ?_, hS⟩
      rw [loopω_eq]; simp [G_wit_spot_58.b1]
    | succ j ih =>
      intro i l1 h hS
      have e1 : IntKind.i64.wrap ((b : Int) + (i : Int)) = ((b + i : Nat) : Int) := by rw [w64] <;> omega
      have e2 : IntKind.i64.wrap ((a : Int) + (i : Int)) = ((a + i : Nat) : Int) := by rw [w64] <;> omega
      have hbody : G_wit_spot_58.b1 l n (a : Int) (b : Int) (k : Int) f ((i : Int), l1) = some (.next (((i + 1 : Nat) : Int), sw l1 (a + i) (b + i))) := by
        unfold G_wit_spot_58.b1
        simp only [lt_t (show i < k by omega), cond_true, e1, e2, inb_n (show a + i < n by omega), inb_n (show b + i < n by omega), req_t, rd_gt, toNat_n, wp1 (show i < k by omega) (show k ≤ maxLen by simp only [maxLen]; omega)]
        rfl
      rw [loopω_eq, hbody]
      exact ih (i + 1) _ (by omega) (hS.next (by omega) (by omega))
  have := key k 0 l (by omega) (.zero _ _ _)
  simpa using this
theorem rot_loop {l0 : List Wit_spot} {n m : Nat} {a b : Int} (hn : n ≤ 4294967296) : ∀ (d i j : Nat) (l : List Wit_spot), i + j ≤ d → 1 ≤ i → 1 ≤ j → i ≤ m → m + j ≤ n → l.length = n →
    ∃ l', ((loopω (G_wit_spot_57.b1 l0 n a (m : Int) b f) ((j : Int), (i : Int), l)).bind fun o => o.on (fun s1 => ((G_wit_spot_58 s1.2.2 n (IntKind.i64.wrap ((m : Int) - s1.2.1)) (m : Int) s1.2.1 f).bind fun t_43 => some t_43)) (fun r => some r)) = some l' ∧ Rot l l' (m - i) m (m + j)
  | 0, i, j, l, hd, hi, hj, him, hmj, hl => by omega
  | d + 1, i, j, l, hd, hi, hj, him, hmj, hl => by
    have em : IntKind.i64.wrap ((m : Int) - (i : Int)) = ((m - i : Nat) : Int) := by rw [w64] <;> omega
    by_cases hij : i = j
    · subst hij
      obtain ⟨l', h1, h2⟩ := swr_eq (f := f) (a := m - i) (b := m) (k := i) hl hn (by omega) (by omega)
      refine ⟨l', ?_, Rot.eq (i := i) (by omega) rfl h2⟩
      rw [loopω_eq]
      have : ((i : Int) != (i : Int)) = false := by simp
      simp only [G_wit_spot_57.b1, this, cond_false, Option.bind_some, Ex.on_brk, em, h1]
    · have hne : ((i : Int) != (j : Int)) = true := by simp; omega
      by_cases hgt : j < i
      · obtain ⟨l1, h1, h2⟩ := swr_eq (f := f) (a := m - i) (b := m) (k := j) hl hn (by omega) (by omega)
        have e3 : IntKind.i64.wrap ((i : Int) - (j : Int)) = ((i - j : Nat) : Int) := by rw [w64] <;> omega
        have hb : G_wit_spot_57.b1 l0 n a (m : Int) b f ((j : Int), (i : Int), l) = some (.next ((j : Int), ((i - j : Nat) : Int), l1)) := by
          unfold G_wit_spot_57.b1
          simp only [hne, cond_true, show decide ((i : Int) > (j : Int)) = true by simp; omega, em, h1, Option.bind_some, e3]
        rw [loopω_eq, hb]
        obtain ⟨l', k1, k2⟩ := rot_loop hn d (i - j) j l1 (by omega) (by omega) hj (by omega) hmj (by rw [h2.1, hl])
        refine ⟨l', k1, Rot.big (j := j) (by omega) rfl h2 ?_⟩
        rw [show m - i + j = m - (i - j) by omega]; exact k2
      · obtain ⟨l1, h1, h2⟩ := swr_eq (f := f) (a := m - i) (b := m + j - i) (k := i) hl hn (by omega) (by omega)
        have e3 : IntKind.i64.wrap ((j : Int) - (i : Int)) = ((j - i : Nat) : Int) := by rw [w64] <;> omega
        have e4 : IntKind.i64.wrap (IntKind.i64.wrap ((m : Int) + (j : Int)) - (i : Int)) = ((m + j - i : Nat) : Int) := by rw [w64 (x := (m : Int) + (j : Int)) (by omega) (by omega), w64] <;> omega
        have hb : G_wit_spot_57.b1 l0 n a (m : Int) b f ((j : Int), (i : Int), l) = some (.next (((j - i : Nat) : Int), (i : Int), l1)) := by
          unfold G_wit_spot_57.b1
          simp only [hne, cond_true, show decide ((i : Int) > (j : Int)) = false by simp; omega, cond_false, em, e4, h1, Option.bind_some, e3]
        rw [loopω_eq, hb]
        obtain ⟨l', k1, k2⟩ := rot_loop hn d i (j - i) l1 (by omega) hi (by omega) him (by omega) (by rw [h2.1, hl])
        refine ⟨l', k1, Rot.sml (i := i) (by omega) (by omega) h2 ?_⟩
        rw [show m + j - i = m + (j - i) by omega]; exact k2
theorem rot_eq {l : List Wit_spot} {n s m e : Nat} (hl : l.length = n) (hn : n ≤ 4294967296) (h1 : s < m) (h2 : m < e) (h3 : e ≤ n) : ∃ l', G_wit_spot_57 l n (s : Int) (m : Int) (e : Int) f = some l' ∧ Rot l l' s m e := by
  unfold G_wit_spot_57
  have e1 : IntKind.i64.wrap ((e : Int) - (m : Int)) = ((e - m : Nat) : Int) := by rw [w64] <;> omega
  have e2 : IntKind.i64.wrap ((m : Int) - (s : Int)) = ((m - s : Nat) : Int) := by rw [w64] <;> omega
  rw [e1, e2]
  obtain ⟨l', k1, k2⟩ := rot_loop (f := f) (l0 := l) (a := (s : Int)) (b := (e : Int)) (m := m) hn _ (m - s) (e - m) l (Nat.le_refl _) (by omega) (by omega) (by omega) (by omega) hl
  refine ⟨l', k1, ?_⟩
  rw [show m - (m - s) = s by omega, show m + (e - m) = e by omega] at k2
  exact k2
end
end Go.Proofs.Ytnfnincmhobpaaa
