/- Plain aids: what a stable sort's steps may do to a list. No statement of the seat is proved here. Conditions: none. -/
import Derived.Test.YtnfnincmhobpaaaPLoop
set_option linter.unusedVariables false
set_option linter.unusedSimpArgs false
set_option linter.unusedSectionVars false
namespace Go.Proofs.Ytnfnincmhobpaaa
open Go Go.RowKit Go.Eng
section
variable {α : Type} [Inhabited α]
abbrev gt (l : List α) (i : Nat) : α := rd l (i : Int)
theorem gt_of {l : List α} {i : Nat} (h : i < l.length) : gt l i = l[i] := by simp [gt, rd, List.getD_eq_getElem?_getD, List.getElem?_eq_getElem h]
theorem gt_q (l : List α) (i : Nat) : gt l i = (l[i]?).getD default := by simp [gt, rd, List.getD_eq_getElem?_getD]
def sw (l : List α) (i j : Nat) : List α := (l.set i (gt l j)).set j (gt l i)
theorem sw_len (l : List α) (i j : Nat) : (sw l i j).length = l.length := by simp [sw]
theorem sw_get {l : List α} {i j : Nat} (hi : i < l.length) (hj : j < l.length) (k : Nat) : gt (sw l i j) k = if k = j then gt l i else if k = i then gt l j else gt l k := by
  rw [gt_q (sw l i j), sw]
  by_cases h1 : k = j
  · subst h1; rw [if_pos rfl, List.getElem?_set_self (by simpa using hj)]; rfl
  · rw [if_neg h1, List.getElem?_set_ne (Ne.symm h1)]
    by_cases h2 : k = i
    · subst h2; rw [if_pos rfl, List.getElem?_set_self hi]; rfl
    · rw [if_neg h2, List.getElem?_set_ne (Ne.symm h2), ← gt_q]
theorem sw_perm {l : List α} {i j : Nat} (hi : i < l.length) (hj : j < l.length) : (sw l i j).Perm l := by
  unfold sw
  rw [gt_of hi, gt_of hj]
  exact List.set_set_perm hi hj
theorem sw_comm {l : List α} {i j : Nat} (h : i ≠ j) : sw l i j = sw l j i := by
  unfold sw; exact List.set_comm _ _ h
variable (lt : α → α → Bool) (R : α → α → Prop)
structure Ord : Prop where
  asy : ∀ a b, lt a b = true → lt b a = false
  ntr : ∀ a b c, lt a b = false → lt b c = false → lt a c = false
  r : ∀ a b, lt a b = true → R a b
variable {lt R}
theorem Ord.lt_le_lt (O : Ord lt R) {a b c : α} (h1 : lt a b = true) (h2 : lt c b = false) : lt a c = true := by
  cases h : lt a c
  · have := O.ntr a c b h h2; rw [h1] at this; cases this
  · rfl
theorem Ord.le_lt_lt (O : Ord lt R) {a b c : α} (h1 : lt b a = false) (h2 : lt b c = true) : lt a c = true := by
  cases h : lt a c
  · have := O.ntr b a c h1 h; rw [h2] at this; cases this
  · rfl
variable (lt R)
/-- what stands ahead is less, unless it is greater -/
def Pst (l : List α) : Prop := ∀ i j, i < j → j < l.length → lt (gt l j) (gt l i) = false → R (gt l i) (gt l j)
def Srt (l : List α) (a b : Nat) : Prop := ∀ i j, a ≤ i → i < j → j < b → lt (gt l j) (gt l i) = false
/-- what a step may do, within a and b -/
structure Ok (l l' : List α) (a b : Nat) : Prop where
  len : l'.length = l.length
  perm : l'.Perm l
  out : ∀ k, k < a ∨ b ≤ k → gt l' k = gt l k
  inn : ∀ k, a ≤ k → k < b → ∃ k', a ≤ k' ∧ k' < b ∧ gt l' k = gt l k'
  pst : Pst lt R l → Pst lt R l'
variable {lt R}
theorem Ok.refl (l : List α) (a b : Nat) : Ok lt R l l a b := ⟨rfl, .refl _, fun _ _ => rfl, fun k h1 h2 => ⟨k, h1, h2, rfl⟩, id⟩
theorem Ok.trans {l l' l'' : List α} {a b : Nat} (h : Ok lt R l l' a b) (k : Ok lt R l' l'' a b) : Ok lt R l l'' a b :=
  ⟨k.len.trans h.len, k.perm.trans h.perm, fun i hi => (k.out i hi).trans (h.out i hi), fun i h1 h2 => by
    obtain ⟨j, j1, j2, e1⟩ := k.inn i h1 h2
    obtain ⟨m, m1, m2, e2⟩ := h.inn j j1 j2
    exact ⟨m, m1, m2, e1.trans e2⟩, fun hp => k.pst (h.pst hp)⟩
theorem Ok.mono {l l' : List α} {a b a' b' : Nat} (h : Ok lt R l l' a b) (h1 : a' ≤ a) (h2 : b ≤ b') : Ok lt R l l' a' b' :=
  ⟨h.len, h.perm, fun k hk => h.out k (by omega), fun k k1 k2 => by
    by_cases hk : a ≤ k ∧ k < b
    · obtain ⟨j, j1, j2, e⟩ := h.inn k hk.1 hk.2
      exact ⟨j, by omega, by omega, e⟩
    · exact ⟨k, k1, k2, h.out k (by omega)⟩, h.pst⟩
/-- two neighbours, of which the second one is less -/
theorem sw_ok (O : Ord lt R) {l : List α} {i a b : Nat} (ha : a ≤ i) (hb : i + 1 < b) (hl : i + 1 < l.length) (h : lt (gt l (i + 1)) (gt l i) = true) : Ok lt R l (sw l i (i + 1)) a b := by
  have g := sw_get (l := l) (i := i) (j := i + 1) (by omega) hl
  refine ⟨sw_len _ _ _, sw_perm (by omega) hl, fun k hk => ?_, fun k h1 h2 => ?_, fun hp p q hpq hq hn => ?_⟩
  · rw [g, if_neg (by omega), if_neg (by omega)]
  · rw [g]
    by_cases e1 : k = i + 1
    · rw [if_pos e1]; exact ⟨i, ha, by omega, rfl⟩
    · rw [if_neg e1]
      by_cases e2 : k = i
      · rw [if_pos e2]; exact ⟨i + 1, by omega, hb, rfl⟩
      · rw [if_neg e2]; exact ⟨k, h1, h2, rfl⟩
  · rw [sw_len] at hq
    rw [g p, g q] at hn ⊢
    by_cases q1 : q = i + 1
    · rw [if_pos q1] at hn ⊢
      by_cases p2 : p = i
      · rw [if_neg (by omega), if_pos p2] at hn ⊢
        exact O.r _ _ h
      · rw [if_neg (by omega), if_neg p2] at hn ⊢
        exact hp p i (by omega) (by omega) hn
    · rw [if_neg q1] at hn ⊢
      by_cases q2 : q = i
      · rw [if_pos q2] at hn ⊢
        rw [if_neg (by omega), if_neg (by omega)] at hn ⊢
        exact hp p (i + 1) (by omega) hl hn
      · rw [if_neg q2] at hn ⊢
        by_cases p1 : p = i + 1
        · rw [if_pos p1] at hn ⊢
          exact hp i q (by omega) hq hn
        · rw [if_neg p1] at hn ⊢
          by_cases p2 : p = i
          · rw [if_pos p2] at hn ⊢
            exact hp (i + 1) q (by omega) hq hn
          · rw [if_neg p2] at hn ⊢
            exact hp p q hpq hq hn
/-- two blocks, one behind the other, change places -/
def Rot (l l' : List α) (s m e : Nat) : Prop := l'.length = l.length ∧ l'.Perm l ∧ ∀ k, gt l' k = if s ≤ k ∧ k < s + (e - m) then gt l (k + (m - s)) else if s + (e - m) ≤ k ∧ k < e then gt l (k - (e - m)) else gt l k
theorem Rot.ok {O : Ord lt R} {l l' : List α} {s m e a b : Nat} (h : Rot l l' s m e) (h1 : a ≤ s) (h2 : s ≤ m) (h3 : m ≤ e) (h4 : e ≤ b) (h5 : e ≤ l.length)
    (hlt : ∀ u v, s ≤ u → u < m → m ≤ v → v < e → lt (gt l v) (gt l u) = true) : Ok lt R l l' a b := by
  obtain ⟨hl, hp, g⟩ := h
  refine ⟨hl, hp, fun k hk => ?_, fun k k1 k2 => ?_, fun hP p q hpq hq hn => ?_⟩
  · rw [g, if_neg (by omega), if_neg (by omega)]
  · rw [g]
    by_cases c1 : s ≤ k ∧ k < s + (e - m)
    · rw [if_pos c1]; exact ⟨_, by omega, by omega, rfl⟩
    · rw [if_neg c1]
      by_cases c2 : s + (e - m) ≤ k ∧ k < e
      · rw [if_pos c2]; exact ⟨_, by omega, by omega, rfl⟩
      · rw [if_neg c2]; exact ⟨k, k1, k2, rfl⟩
  · rw [hl] at hq
    rw [g p, g q] at hn ⊢
    by_cases p1 : s ≤ p ∧ p < s + (e - m)
    · rw [if_pos p1] at hn ⊢
      by_cases q1 : s ≤ q ∧ q < s + (e - m)
      · rw [if_pos q1] at hn ⊢
        exact hP _ _ (by omega) (by omega) hn
      · rw [if_neg q1] at hn ⊢
        by_cases q2 : s + (e - m) ≤ q ∧ q < e
        · rw [if_pos q2] at hn ⊢
          exact O.r _ _ (hlt _ _ (by omega) (by omega) (by omega) (by omega))
        · rw [if_neg q2] at hn ⊢
          exact hP _ _ (by omega) (by omega) hn
    · rw [if_neg p1] at hn ⊢
      by_cases p2 : s + (e - m) ≤ p ∧ p < e
      · rw [if_pos p2] at hn ⊢
        by_cases q1 : s ≤ q ∧ q < s + (e - m)
        · omega
        · rw [if_neg q1] at hn ⊢
          by_cases q2 : s + (e - m) ≤ q ∧ q < e
          · rw [if_pos q2] at hn ⊢
            exact hP _ _ (by omega) (by omega) hn
          · rw [if_neg q2] at hn ⊢
            exact hP _ _ (by omega) (by omega) hn
      · rw [if_neg p2] at hn ⊢
        by_cases q1 : s ≤ q ∧ q < s + (e - m)
        · rw [if_pos q1] at hn ⊢
          exact hP _ _ (by omega) (by omega) hn
        · rw [if_neg q1] at hn ⊢
          by_cases q2 : s + (e - m) ≤ q ∧ q < e
          · rw [if_pos q2] at hn ⊢
            exact hP _ _ (by omega) (by omega) hn
          · rw [if_neg q2] at hn ⊢
            exact hP _ _ hpq hq hn
/-- two stretches of like length change places -/
def Swp (l l' : List α) (a b n : Nat) : Prop := l'.length = l.length ∧ l'.Perm l ∧ ∀ k, gt l' k = if a ≤ k ∧ k < a + n then gt l (b + (k - a)) else if b ≤ k ∧ k < b + n then gt l (a + (k - b)) else gt l k
theorem Swp.zero (l : List α) (a b : Nat) : Swp l l a b 0 := ⟨rfl, .refl _, fun k => by rw [if_neg (by omega), if_neg (by omega)]⟩
theorem Swp.next {l l' : List α} {a b n : Nat} (h : Swp l l' a b n) (hab : a + n < b) (hb : b + n < l.length) : Swp l (sw l' (a + n) (b + n)) a b (n + 1) := by
  obtain ⟨h1, h2, h3⟩ := h
  refine ⟨by rw [sw_len, h1], (sw_perm (by omega) (by omega)).trans h2, fun k => ?_⟩
  rw [sw_get (by omega) (by omega), h3 (a + n), h3 (b + n), h3 k]
  by_cases c1 : k = b + n
  · rw [if_pos c1, if_neg (by omega), if_neg (by omega), if_neg (by omega), if_pos (by omega)]; congr 1; omega
  · rw [if_neg c1]
    by_cases c2 : k = a + n
    · rw [if_pos c2, if_neg (by omega), if_neg (by omega), if_pos (by omega)]; congr 1; omega
    · rw [if_neg c2]
      by_cases c3 : a ≤ k ∧ k < a + n
      · rw [if_pos c3, if_pos (by omega)]
      · rw [if_neg c3]
        by_cases c4 : b ≤ k ∧ k < b + n
        · rw [if_pos c4, if_neg (by omega), if_pos (by omega)]
        · rw [if_neg c4, if_neg (by omega), if_neg (by omega)]
theorem Rot.big {l l1 l2 : List α} {s m e j : Nat} (hs : s + j < m) (he : e = m + j) (h : Swp l l1 s m j) (k : Rot l1 l2 (s + j) m e) : Rot l l2 s m e := by
  obtain ⟨a1, a2, a3⟩ := h
  obtain ⟨b1, b2, b3⟩ := k
  refine ⟨b1.trans a1, b2.trans a2, fun q => ?_⟩
  rw [b3]
  by_cases c1 : s + j ≤ q ∧ q < s + j + (e - m)
  · rw [if_pos c1, a3, if_neg (by omega), if_pos (by omega), if_neg (by omega), if_pos (by omega)]; congr 1; omega
  · rw [if_neg c1]
    by_cases c2 : s + j + (e - m) ≤ q ∧ q < e
    · rw [if_pos c2, a3, if_neg (by omega), if_neg (by omega), if_neg (by omega), if_pos (by omega)]
    · rw [if_neg c2, a3]
      by_cases c3 : s ≤ q ∧ q < s + j
      · rw [if_pos c3, if_pos (by omega)]; congr 1; omega
      · rw [if_neg c3, if_neg (by omega), if_neg (by omega), if_neg (by omega)]
theorem Rot.sml {l l1 l2 : List α} {s m e i : Nat} (hs : s + i = m) (he : m + i < e) (h : Swp l l1 s (e - i) i) (k : Rot l1 l2 s m (e - i)) : Rot l l2 s m e := by
  obtain ⟨a1, a2, a3⟩ := h
  obtain ⟨b1, b2, b3⟩ := k
  refine ⟨b1.trans a1, b2.trans a2, fun q => ?_⟩
  rw [b3]
  by_cases c1 : s ≤ q ∧ q < s + (e - i - m)
  · rw [if_pos c1, a3, if_neg (by omega), if_neg (by omega), if_pos (by omega)]
  · rw [if_neg c1]
    by_cases c2 : s + (e - i - m) ≤ q ∧ q < e - i
    · rw [if_pos c2, a3, if_pos (by omega), if_pos (by omega)]; congr 1; omega
    · rw [if_neg c2, a3]
      by_cases c3 : e - i ≤ q ∧ q < e - i + i
      · rw [if_neg (by omega), if_pos c3, if_neg (by omega), if_pos (by omega)]; congr 1; omega
      · rw [if_neg (by omega), if_neg c3, if_neg (by omega), if_neg (by omega)]
theorem Rot.eq {l l1 : List α} {s m e i : Nat} (hs : s + i = m) (he : m + i = e) (h : Swp l l1 s m i) : Rot l l1 s m e := by
  obtain ⟨a1, a2, a3⟩ := h
  refine ⟨a1, a2, fun q => ?_⟩
  rw [a3]
  by_cases c1 : s ≤ q ∧ q < s + i
  · rw [if_pos c1, if_pos (by omega)]; congr 1; omega
  · rw [if_neg c1]
    by_cases c2 : m ≤ q ∧ q < m + i
    · rw [if_pos c2, if_neg (by omega), if_pos (by omega)]; congr 1; omega
    · rw [if_neg c2, if_neg (by omega), if_neg (by omega)]
theorem Rot.none {l : List α} {s m e : Nat} (h : (s = m ∧ m ≤ e) ∨ (m = e ∧ s ≤ m)) : Rot l l s m e := by
  refine ⟨rfl, .refl _, fun q => ?_⟩
  by_cases c1 : s ≤ q ∧ q < s + (e - m)
  · rw [if_pos c1]; congr 1; omega
  · rw [if_neg c1]
    by_cases c2 : s + (e - m) ≤ q ∧ q < e
    · rw [if_pos c2]; congr 1; omega
    · rw [if_neg c2]
theorem Srt.mono {l : List α} {a b a' b' : Nat} (h : Srt lt l a b) (h1 : a ≤ a') (h2 : b' ≤ b) : Srt lt l a' b' := fun i j hi hij hj => h i j (by omega) hij (by omega)
theorem Srt.same {l l' : List α} {a b : Nat} (h : Srt lt l a b) (hs : ∀ k, a ≤ k → k < b → gt l' k = gt l k) : Srt lt l' a b := fun i j hi hij hj => by rw [hs i hi (by omega), hs j (by omega) hj]; exact h i j hi hij hj
theorem Srt.triv {l : List α} {a b : Nat} (h : b ≤ a + 1) : Srt lt l a b := fun i j hi hij hj => by omega
theorem Srt.join {l : List α} {a m b : Nat} (h1 : Srt lt l a m) (h2 : Srt lt l m b) (h3 : ∀ i j, a ≤ i → i < m → m ≤ j → j < b → lt (gt l j) (gt l i) = false) : Srt lt l a b := fun i j hi hij hj => by
  by_cases c1 : j < m
  · exact h1 i j hi hij c1
  · by_cases c2 : i < m
    · exact h3 i j hi c2 (by omega) hj
    · exact h2 i j (by omega) hij hj
end
end Go.Proofs.Ytnfnincmhobpaaa
