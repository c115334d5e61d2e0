/- Plain law: the library's stable sort, at one type: merging in place, and the whole. No statement of the seat is proved here. Conditions: none. -/
import Derived.Test.YtnfnincmhobpaaaPSortW
set_option linter.unusedVariables false
set_option linter.unusedSimpArgs false
set_option linter.unusedSectionVars false
namespace Go.Proofs.Ytnfnincmhobpaaa
open Go Go.RowKit Go.Eng
theorem bsearch {ρ : Type} {B : Int × Int → Option (Stp (Int × Int) (Ex (Int × Int) ρ))} (q : Nat → Bool) (lo hi : Nat)
    (hB : ∀ i j : Nat, lo ≤ i → i < j → j ≤ hi → B ((j : Int), (i : Int)) = some (.next ((bif q ((i + j) / 2) then (j : Int) else (((i + j) / 2 : Nat) : Int)), (bif q ((i + j) / 2) then (((i + j) / 2 + 1 : Nat) : Int) else (i : Int)))))
    (hE : ∀ i : Nat, B ((i : Int), (i : Int)) = some (.out (.brk ((i : Int), (i : Int))))) : ∀ (d i j : Nat), j - i ≤ d → lo ≤ i → i ≤ j → j ≤ hi → (i = lo ∨ q (i - 1) = true) → (j = hi ∨ q j = false) →
      ∃ x : Nat, loopω B ((j : Int), (i : Int)) = some (.brk ((x : Int), (x : Int))) ∧ lo ≤ x ∧ x ≤ hi ∧ (x = lo ∨ q (x - 1) = true) ∧ (x = hi ∨ q x = false)
  | 0, i, j, hd, hlo, hij, hhi, h1, h2 => by
    have : i = j := by omega
    subst this
    exact ⟨i, by rw [loopω_eq, hE], hlo, hhi, h1, h2⟩
  | d + 1, i, j, hd, hlo, hij, hhi, h1, h2 => by
    by_cases he : i = j
    · subst he
      exact ⟨i, by rw [loopω_eq, hE], hlo, hhi, h1, h2⟩
    · rw [loopω_eq, hB i j hlo (by omega) hhi]
      cases hq : q ((i + j) / 2)
      · exact bsearch q lo hi hB hE d i ((i + j) / 2) (by omega) hlo (by omega) (by omega) h1 (.inr hq)
      · exact bsearch q lo hi hB hE d ((i + j) / 2 + 1) j (by omega) (by omega) (by omega) hhi (.inr (by simpa using hq)) h2
section
variable {lt : Wit_spot → Wit_spot → Bool} {R : Wit_spot → Wit_spot → Prop} (O : Ord lt R) {f : Fn96} (hc : ∀ x y, ∃ c, Fn96.run f x y = some c ∧ decide (c < 0) = lt x y)
include O hc
/-- the left run has one element alone -/
theorem smA {l : List Wit_spot} {n a b : Nat} (self : List Wit_spot → Nat → Int → Int → Int → Fn96 → Option (List Wit_spot)) (hl : l.length = n) (hn : n ≤ 4294967296) (hab : a + 1 < b) (hb : b ≤ n) (hs : Srt lt l (a + 1) b) :
    ∃ l', (∀ self, G_wit_spot_56.step self l n (a : Int) ((a + 1 : Nat) : Int) (b : Int) f = some l') ∧ Ok lt R l l' a b ∧ Srt lt l' a b := by
  obtain ⟨x, e1, x1, x2, x3, x4⟩ := bsearch (B := G_wit_spot_56.b1 self l n (a : Int) ((a + 1 : Nat) : Int) (b : Int) f) (fun h => lt (gt l h) (gt l a)) (a + 1) b (fun i j h1 h2 h3 => by
    obtain ⟨c, hc1, hc2⟩ := hc (gt l ((i + j) / 2)) (gt l a)
    unfold G_wit_spot_56.b1
    simp only [lt_t h2, cond_true, half (show i ≤ 4294967296 by omega) (show j ≤ 4294967296 by omega), inb_n (show (i + j) / 2 < n by omega), inb_n (show a < n by omega), req_t, rd_gt, hc1, Option.bind_some, hc2, wp1 (show (i + j) / 2 < n by omega) (show n ≤ maxLen by simp only [maxLen]; omega)]) (fun i => by unfold G_wit_spot_56.b1; simp only [lt_f, cond_false]) (b - (a + 1)) (a + 1) b (Nat.le_refl _) (Nat.le_refl _) (by omega) (Nat.le_refl _) (.inl rfl) (.inl rfl)
  have hless : ∀ h, a + 1 ≤ h → h < x → lt (gt l h) (gt l a) = true := fun h h1 h2 => by
    rcases x3 with e | e
    · omega
    · by_cases hx : h = x - 1
      · rw [hx]; exact e
      · exact O.le_lt_lt (hs h (x - 1) h1 (by omega) (by omega)) e
  have hmore : ∀ h, x ≤ h → h < b → lt (gt l h) (gt l a) = false := fun h h1 h2 => by
    rcases x4 with e | e
    · omega
    · by_cases hx : h = x
      · rw [hx]; exact e
      · exact O.ntr _ _ _ (hs x h (by omega) (by omega) h2) e
  have key : ∀ (j k : Nat) (l1 : List Wit_spot), k + j = x - 1 → a ≤ k → Ok lt R l l1 a b → (∀ p, gt l1 p = if a ≤ p ∧ p < k then gt l (p + 1) else if p = k then gt l a else gt l p) →
      ∃ l', loopω (G_wit_spot_56.b2 self l n (a : Int) ((a + 1 : Nat) : Int) (b : Int) f ((x : Int), (x : Int))) ((k : Int), l1) = some (.brk (((x - 1 : Nat) : Int), l')) ∧ Ok lt R l l' a b ∧ (∀ p, gt l' p = if a ≤ p ∧ p < x - 1 then gt l (p + 1) else if p = x - 1 then gt l a else gt l p) := by
    intro j
    induction j with
    | zero =>
      intro k l1 h hak hok hg
      have : k = x - 1 := by omega
      subst this
      refine ⟨l1, ?_, hok, hg⟩
      rw [loopω_eq]
      unfold G_wit_spot_56.b2
      rw [show IntKind.i64.wrap ((x : Int) - 1) = ((x - 1 : Nat) : Int) by rw [w64] <;> omega, lt_f]; rfl
    | succ j ih =>
      intro k l1 h hak hok hg
      have hbody : G_wit_spot_56.b2 self l n (a : Int) ((a + 1 : Nat) : Int) (b : Int) f ((x : Int), (x : Int)) ((k : Int), l1) = some (.next (((k + 1 : Nat) : Int), sw l1 k (k + 1))) := by
        unfold G_wit_spot_56.b2
        simp only [show IntKind.i64.wrap ((x : Int) - 1) = ((x - 1 : Nat) : Int) by rw [w64] <;> omega, lt_t (show k < x - 1 by omega), cond_true, wp1 (show k < n by omega) (show n ≤ maxLen by simp only [maxLen]; omega), inb_n (show k < n by omega), inb_n (show k + 1 < n by omega), req_t, rd_gt, toNat_n]
        rfl
      rw [loopω_eq, hbody]
      have hl1 : l1.length = n := hok.len.trans hl
      have g := sw_get (l := l1) (i := k) (j := k + 1) (by omega) (by omega)
      have v1 : gt l1 (k + 1) = gt l (k + 1) := by rw [hg, if_neg (by omega), if_neg (by omega)]
      have v0 : gt l1 k = gt l a := by rw [hg, if_neg (by omega), if_pos rfl]
      refine ih (k + 1) _ (by omega) (by omega) (hok.trans (sw_ok O hak (by omega) (by omega) (by rw [v1, v0]; exact hless _ (by omega) (by omega)))) (fun p => ?_)
      rw [g]
      by_cases c1 : p = k + 1
      · rw [if_pos c1, v0, if_neg (by omega), if_pos c1]
      · rw [if_neg c1]
        by_cases c2 : p = k
        · rw [if_pos c2, v1, if_pos (by omega), c2]
        · rw [if_neg c2, hg]
          by_cases c3 : a ≤ p ∧ p < k
          · rw [if_pos c3, if_pos (by omega)]
          · rw [if_neg c3, if_neg c2, if_neg (by omega), if_neg c1]
  obtain ⟨l', e2, hok, hg⟩ := key (x - 1 - a) a l (by omega) (Nat.le_refl _) (.refl _ _ _) (fun p => by
    rw [if_neg (by omega)]
    by_cases c : p = a
    · rw [if_pos c, c]
    · rw [if_neg c])
  refine ⟨l', fun self' => ?_, hok, fun p q hp hpq hq => ?_⟩
  · unfold G_wit_spot_56.step
    rw [show (IntKind.i64.wrap (((a + 1 : Nat) : Int) - (a : Int)) == 1) = true by rw [w64 (x := ((a + 1 : Nat) : Int) - (a : Int)) (by omega) (by omega)]; simp; omega, cond_true]
    have f1 : G_wit_spot_56.b1 self' l n (a : Int) ((a + 1 : Nat) : Int) (b : Int) f = G_wit_spot_56.b1 self l n (a : Int) ((a + 1 : Nat) : Int) (b : Int) f := rfl
    have f2 : G_wit_spot_56.b2 self' l n (a : Int) ((a + 1 : Nat) : Int) (b : Int) f = G_wit_spot_56.b2 self l n (a : Int) ((a + 1 : Nat) : Int) (b : Int) f := rfl
    rw [f1, f2, e1, Option.bind_some, Ex.on_brk, e2]; rfl
  · rw [hg p, hg q]
    by_cases q1 : a ≤ q ∧ q < x - 1
    · rw [if_pos q1, if_pos (by omega)]; exact hs (p + 1) (q + 1) (by omega) (by omega) (by omega)
    · rw [if_neg q1]
      by_cases q2 : q = x - 1
      · rw [if_pos q2, if_pos (by omega)]; exact O.asy _ _ (hless _ (by omega) (by omega))
      · rw [if_neg q2]
        by_cases p1 : a ≤ p ∧ p < x - 1
        · rw [if_pos p1]; exact hs (p + 1) q (by omega) (by omega) hq
        · rw [if_neg p1]
          by_cases p2 : p = x - 1
          · rw [if_pos p2]; exact hmore q (by omega) hq
          · rw [if_neg p2]; exact hs p q (by omega) hpq hq
/-- the right run has one element alone -/
theorem smB {l : List Wit_spot} {n a m : Nat} (self : List Wit_spot → Nat → Int → Int → Int → Fn96 → Option (List Wit_spot)) (hl : l.length = n) (hn : n ≤ 4294967296) (ham : a + 1 < m) (hb : m + 1 ≤ n) (hs : Srt lt l a m) :
    ∃ l', (∀ self, G_wit_spot_56.step self l n (a : Int) (m : Int) ((m + 1 : Nat) : Int) f = some l') ∧ Ok lt R l l' a (m + 1) ∧ Srt lt l' a (m + 1) := by
  obtain ⟨x, e1, x1, x2, x3, x4⟩ := bsearch (B := G_wit_spot_56.b3 self l n (a : Int) (m : Int) ((m + 1 : Nat) : Int) f) (fun h => !lt (gt l m) (gt l h)) a m (fun i j h1 h2 h3 => by
    obtain ⟨c, hc1, hc2⟩ := hc (gt l m) (gt l ((i + j) / 2))
    unfold G_wit_spot_56.b3
    simp only [lt_t h2, cond_true, half (show i ≤ 4294967296 by omega) (show j ≤ 4294967296 by omega), inb_n (show (i + j) / 2 < n by omega), inb_n (show m < n by omega), req_t, rd_gt, hc1, Option.bind_some, hc2, wp1 (show (i + j) / 2 < n by omega) (show n ≤ maxLen by simp only [maxLen]; omega)]) (fun i => by unfold G_wit_spot_56.b3; simp only [lt_f, cond_false]) (m - a) a m (Nat.le_refl _) (Nat.le_refl _) (by omega) (Nat.le_refl _) (.inl rfl) (.inl rfl)
  have hmore : ∀ h, x ≤ h → h < m → lt (gt l m) (gt l h) = true := fun h h1 h2 => by
    rcases x4 with e | e
    · omega
    · have e : lt (gt l m) (gt l x) = true := by simpa using e
      by_cases hx : h = x
      · rw [hx]; exact e
      · exact O.lt_le_lt e (hs x h (by omega) (by omega) h2)
  have hless : ∀ h, a ≤ h → h < x → lt (gt l m) (gt l h) = false := fun h h1 h2 => by
    rcases x3 with e | e
    · omega
    · have e : lt (gt l m) (gt l (x - 1)) = false := by simpa using e
      by_cases hx : h = x - 1
      · rw [hx]; exact e
      · exact O.ntr _ _ _ e (hs h (x - 1) h1 (by omega) (by omega))
  have key : ∀ (j k : Nat) (l1 : List Wit_spot), x + j = k → k ≤ m → Ok lt R l l1 a (m + 1) → (∀ p, gt l1 p = if k < p ∧ p ≤ m then gt l (p - 1) else if p = k then gt l m else gt l p) →
      ∃ l', loopω (G_wit_spot_56.b4 self l n (a : Int) (m : Int) ((m + 1 : Nat) : Int) f ((x : Int), (x : Int))) ((k : Int), l1) = some (.brk ((x : Int), l')) ∧ Ok lt R l l' a (m + 1) ∧ (∀ p, gt l' p = if x < p ∧ p ≤ m then gt l (p - 1) else if p = x then gt l m else gt l p) := by
    intro j
    induction j with
    | zero =>
      intro k l1 h hkm hok hg
      have : k = x := by omega
      subst this
      refine ⟨l1, ?_, hok, hg⟩
      rw [loopω_eq]
      unfold G_wit_spot_56.b4
      rw [show decide ((k : Int) > (k : Int)) = false by simp]; rfl
    | succ j ih =>
      intro k l1 h hkm hok hg
      obtain ⟨k0, rfl⟩ : ∃ k0, k = k0 + 1 := ⟨k - 1, by omega⟩
      have ew : IntKind.i64.wrap (((k0 + 1 : Nat) : Int) - 1) = (k0 : Int) := by rw [w64 (x := ((k0 + 1 : Nat) : Int) - 1) (by omega) (by omega)]; omega
      have hbody : G_wit_spot_56.b4 self l n (a : Int) (m : Int) ((m + 1 : Nat) : Int) f ((x : Int), (x : Int)) (((k0 + 1 : Nat) : Int), l1) = some (.next ((k0 : Int), sw l1 (k0 + 1) k0)) := by
        unfold G_wit_spot_56.b4
        simp only [show decide (((k0 + 1 : Nat) : Int) > (x : Int)) = true by simp; omega, cond_true, ew, inb_n (show k0 < n by omega), inb_n (show k0 + 1 < n by omega), req_t, rd_gt, toNat_n]
        rfl
      rw [loopω_eq, hbody, sw_comm (show k0 + 1 ≠ k0 by omega)]
      have hl1 : l1.length = n := hok.len.trans hl
      have g := sw_get (l := l1) (i := k0) (j := k0 + 1) (by omega) (by omega)
      have v1 : gt l1 (k0 + 1) = gt l m := by rw [hg, if_neg (by omega), if_pos rfl]
      have v0 : gt l1 k0 = gt l k0 := by rw [hg, if_neg (by omega), if_neg (by omega)]
      refine ih k0 _ (by omega) (by omega) (hok.trans (sw_ok O (by omega) (by omega) (by omega) (by rw [v1, v0]; exact hmore _ (by omega) (by omega)))) (fun p => ?_)
      rw [g]
      by_cases c1 : p = k0 + 1
      · rw [if_pos c1, v0, if_pos (by omega), c1]; rfl
      · rw [if_neg c1]
        by_cases c2 : p = k0
        · rw [if_pos c2, v1, if_neg (by omega), if_pos c2]
        · rw [if_neg c2, hg]
          by_cases c3 : k0 + 1 < p ∧ p ≤ m
          · rw [if_pos c3, if_pos (by omega)]
          · rw [if_neg c3, if_neg c1, if_neg (by omega), if_neg c2]
  obtain ⟨l', e2, hok, hg⟩ := key (m - x) m l (by omega) (Nat.le_refl _) (.refl _ _ _) (fun p => by
    rw [if_neg (by omega)]
    by_cases c : p = m
    · rw [if_pos c, c]
    · rw [if_neg c])
  refine ⟨l', fun self' => ?_, hok, fun p q hp hpq hq => ?_⟩
  · unfold G_wit_spot_56.step
    rw [show (IntKind.i64.wrap ((m : Int) - (a : Int)) == 1) = false by rw [w64 (x := (m : Int) - (a : Int)) (by omega) (by omega)]; simp; omega, cond_false]
    rw [show (IntKind.i64.wrap (((m + 1 : Nat) : Int) - (m : Int)) == 1) = true by rw [w64 (x := ((m + 1 : Nat) : Int) - (m : Int)) (by omega) (by omega)]; simp; omega, cond_true]
    have f1 : G_wit_spot_56.b3 self' l n (a : Int) (m : Int) ((m + 1 : Nat) : Int) f = G_wit_spot_56.b3 self l n (a : Int) (m : Int) ((m + 1 : Nat) : Int) f := rfl
    have f2 : G_wit_spot_56.b4 self' l n (a : Int) (m : Int) ((m + 1 : Nat) : Int) f = G_wit_spot_56.b4 self l n (a : Int) (m : Int) ((m + 1 : Nat) : Int) f := rfl
    rw [f1, f2, e1, Option.bind_some, Ex.on_brk, e2]; rfl
  · rw [hg p, hg q]
    by_cases q1 : x < q ∧ q ≤ m
    · rw [if_pos q1]
      by_cases p1 : x < p ∧ p ≤ m
      · rw [if_pos p1]; exact hs (p - 1) (q - 1) (by omega) (by omega) (by omega)
      · rw [if_neg p1]
        by_cases p2 : p = x
        · rw [if_pos p2]; exact O.asy _ _ (hmore _ (by omega) (by omega))
        · rw [if_neg p2]; exact hs p (q - 1) hp (by omega) (by omega)
    · rw [if_neg q1, if_neg (show ¬ (x < p ∧ p ≤ m) by omega), if_neg (show ¬ p = x by omega)]
      by_cases q2 : q = x
      · rw [if_pos q2]; exact hless p hp (by omega)
      · rw [if_neg q2]; exact hs p q hp hpq (by omega)
end
end Go.Proofs.Ytnfnincmhobpaaa
