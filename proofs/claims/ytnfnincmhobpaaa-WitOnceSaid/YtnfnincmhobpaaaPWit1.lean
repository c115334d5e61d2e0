/- The plain law behind WitOrder and WitAll: spots in order, by the program and by definition. No statement of the seat is proved here. Conditions: none. -/
import Derived.Test.YtnfnincmhobpaaaPSortN
import Derived.Test.YtnfnincmhobpaaaPRef17
set_option linter.unusedVariables false
set_option linter.unusedSimpArgs false
set_option linter.unusedSectionVars false
namespace Go.Proofs.Ytnfnincmhobpaaa
open Go Go.RowKit Go.Eng
/-! ### the order -/
def wlt (x y : Wit_spot) : Bool := decide (x.at_ < y.at_) || (x.at_ == y.at_ && decide (x.rank < y.rank))
theorem wlt_iff {x y : Wit_spot} : wlt x y = true ↔ (x.at_ < y.at_ ∨ (x.at_ = y.at_ ∧ x.rank < y.rank)) := by simp [wlt]
theorem wlt_f {x y : Wit_spot} : wlt x y = false ↔ ¬ (x.at_ < y.at_ ∨ (x.at_ = y.at_ ∧ x.rank < y.rank)) := by rw [← Bool.not_eq_true, wlt_iff]
def WR (x y : Wit_spot) : Prop := wlt x y = true ∨ (wlt y x = false ∧ x.item.Of < y.item.Of)
theorem wOrd : Ord wlt WR := ⟨fun a b h => by rw [wlt_iff] at h; rw [wlt_f]; omega, fun a b c h1 h2 => by rw [wlt_f] at *; omega, fun a b h => .inl h⟩
theorem cmp_int (a b : Int) : G_cmp_Compare_int a b = some (if a < b then -1 else if a > b then 1 else 0) := by
  unfold G_cmp_Compare_int G_cmp_isNaN_int
  simp only [bne_self_eq_false, Option.bind_some, cond_false]
  by_cases h : a < b
  · simp [h]
  · by_cases h2 : a > b <;> simp [h, h2]
theorem or_int (a b : Int) : G_cmp_Or_int [a, b] = some (if a ≠ 0 then a else b) := by
  unfold G_cmp_Or_int
  rw [loopω_eq]
  unfold G_cmp_Or_int.b1
  by_cases h : a = 0
  · have e1 : decide ((0 : Int) < (([a, b] : List Int).length : Int)) = true := by simp
    have e2 : inb 0 ([a, b] : List Int).length = true := inb_of (by omega) (by simp)
    have e3 : (rd ([a, b] : List Int) 0 != 0) = false := by simp [rd, h]
    have e4 : IntKind.i64.wrap ((0 : Int) + 1) = 1 := by decide
    simp only [e1, e2, e3, e4, cond_true, cond_false, req_t]
    rw [loopω_eq]
    have f1 : decide ((1 : Int) < (([a, b] : List Int).length : Int)) = true := by simp
    have f2 : inb 1 ([a, b] : List Int).length = true := inb_of (by omega) (by simp)
    have f3 : rd ([a, b] : List Int) 1 = b := by simp [rd]
    have f4 : IntKind.i64.wrap ((1 : Int) + 1) = 2 := by decide
    simp only [f1, f2, f3, f4, cond_true, req_t]
    by_cases h2 : b = 0
    · subst h2
      simp only [bne_self_eq_false, cond_false]
      rw [loopω_eq]
      have g1 : decide ((2 : Int) < (([a, 0] : List Int).length : Int)) = false := by simp
      simp only [g1, cond_false]
      simp [h]
    · rw [show (b != 0) = true by simpa using h2]
      simp [h]
  · have e1 : decide ((0 : Int) < (([a, b] : List Int).length : Int)) = true := by simp
    have e2 : inb 0 ([a, b] : List Int).length = true := inb_of (by omega) (by simp)
    have e3 : (rd ([a, b] : List Int) 0 != 0) = true := by simp [rd, h]
    have e5 : rd ([a, b] : List Int) 0 = a := by simp [rd]
    rw [e1, e2, e3, e5]
    simp [h]
theorem wcmp (x y : Wit_spot) : ∃ c, Fn96.run .f50 x y = some c ∧ decide (c < 0) = wlt x y := by
  show ∃ c, G_wit_spots_1 x y = some c ∧ _
  unfold G_wit_spots_1
  simp only [cmp_int, or_int, Option.bind_some]
  refine ⟨_, rfl, ?_⟩
  rw [Bool.eq_iff_iff, decide_eq_true_iff, wlt_iff]
  split <;> rename_i h <;> (repeat' split at h) <;> (repeat' split) <;> omega
/-! ### the spots -/
section
variable {α : Type}
theorem loop_app {ρ : Type} {B : Int × List α → Option (Stp (Int × List α) (Ex (Int × List α) ρ))} (n : Nat) (g : Nat → List α) (hg : ∀ i, (g i).length ≤ 2) (s0 : List α) (h1 : ∀ (i : Nat) (s : List α), i < n → s.length ≤ s0.length + 2 * n → B ((i : Int), s) = some (.next (((i + 1 : Nat) : Int), s ++ g i)))
    (h2 : ∀ s, B ((n : Int), s) = some (.out (.brk ((n : Int), s)))) : loopω B (0, s0) = some (.brk ((n : Int), s0 ++ (List.range n).flatMap g)) := by
  obtain ⟨h, -⟩ := loop_all0 (B := B) n (fun i s => s.length ≤ s0.length + 2 * i) (fun i s => s ++ g i) s0 (Nat.le_refl _) (fun i s hi hs => ⟨h1 i s hi (by omega), by
    rw [List.length_append]; have := hg i; omega⟩) (fun s _ => h2 s)
  rw [h]
  congr 3
  have : ∀ (l : List Nat) (s : List α), l.foldl (fun s i => s ++ g i) s = s ++ l.flatMap g := fun l => by
    induction l with
    | nil => simp
    | cons x r ih => intro s; rw [List.foldl_cons, ih, List.flatMap_cons, List.append_assoc]
  exact this _ _
theorem flat_len (g : Nat → List α) (c : Nat) (hg : ∀ i, (g i).length ≤ c) (n : Nat) : ((List.range n).flatMap g).length ≤ c * n := by
  induction n with
  | zero => simp
  | succ n ih => rw [List.range_succ, List.flatMap_append, List.length_append, Nat.mul_succ]; have := hg n; rw [List.flatMap_singleton]; omega
theorem flat_perm (f g : Nat → List α) : ∀ l : List Nat, (l.flatMap fun i => f i ++ g i).Perm (l.flatMap f ++ l.flatMap g)
  | [] => .refl _
  | x :: r => by
    rw [List.flatMap_cons, List.flatMap_cons, List.flatMap_cons]
    refine ((flat_perm f g r).append_left _).trans ?_
    rw [List.append_assoc, List.append_assoc]
    refine List.Perm.append_left _ ?_
    rw [← List.append_assoc, ← List.append_assoc]
    exact List.perm_append_comm.append_right _
end
def effs (P : Nat → Int × Bool × Bool) (i : Nat) : List Wit_spot := bif (P i).2.2 then [⟨(P i).1, bif (P i).2.1 then 3 else 0, ⟨1, i⟩⟩] else []
def rng (l : List Call) (i : Nat) : List Wit_spot := bif decide ((rd l i).Ring ≥ 0) then [⟨(rd l i).Ring, 1, ⟨2, i⟩⟩] else []
def bel (b : List Belling) (i : Nat) : List Wit_spot := [⟨(rd b i).At, 2, ⟨3, i⟩⟩]
theorem effs_mem {P : Nat → Int × Bool × Bool} {i : Nat} {x : Wit_spot} (h : x ∈ effs P i) : x.item = ⟨1, i⟩ ∧ (x.rank = 0 ∨ x.rank = 3) := by
  unfold effs at h
  cases e : (P i).2.2 <;> rw [e] at h
  · simp at h
  · simp only [cond_true, List.mem_singleton] at h
    subst h
    cases (P i).2.1 <;> simp
theorem rng_mem {l : List Call} {i : Nat} {x : Wit_spot} (h : x ∈ rng l i) : x.item = ⟨2, i⟩ ∧ x.rank = 1 := by
  unfold rng at h
  cases e : decide ((rd l i).Ring ≥ 0) <;> rw [e] at h
  · simp at h
  · simp only [cond_true, List.mem_singleton] at h
    subst h; simp
theorem bel_mem {l : List Belling} {i : Nat} {x : Wit_spot} (h : x ∈ bel l i) : x.item = ⟨3, i⟩ ∧ x.rank = 2 := by
  unfold bel at h
  simp only [List.mem_singleton] at h
  subst h; simp
theorem effs_len (P : Nat → Int × Bool × Bool) (i : Nat) : (effs P i).length ≤ 1 := by unfold effs; cases (P i).2.2 <;> simp
theorem rng_len (l : List Call) (i : Nat) : (rng l i).length ≤ 1 := by unfold rng; cases decide ((rd l i).Ring ≥ 0) <;> simp
def lp (P : Nat → Int × Bool × Bool) (l : List Call) (b : List Belling) : List Wit_spot := (List.range l.length).flatMap (fun i => effs P i ++ rng l i) ++ (List.range b.length).flatMap (bel b)
def lr (P : Nat → Int × Bool × Bool) (l : List Call) (b : List Belling) : List Wit_spot := ((List.range l.length).flatMap (effs P) ++ (List.range l.length).flatMap (rng l)) ++ (List.range b.length).flatMap (bel b)
theorem lp_lr (P : Nat → Int × Bool × Bool) (l : List Call) (b : List Belling) : (lp P l b).Perm (lr P l b) := (flat_perm _ _ _).append_right _
theorem lp_len (P : Nat → Int × Bool × Bool) (l : List Call) (b : List Belling) : (lp P l b).length ≤ 2 * l.length + b.length := by
  unfold lp
  have h1 := flat_len (fun i => effs P i ++ rng l i) 2 (fun i => by rw [List.length_append]; have := effs_len P i; have := rng_len l i; omega) l.length
  have h2 := flat_len (bel b) 1 (fun i => by simp [bel]) b.length
  rw [List.length_append]; omega
def Dx (a b : Wit_spot) : Prop := (a.rank = b.rank ∨ a.item.Kind = b.item.Kind) → a.item.Of < b.item.Of
theorem flat_dx (f : Nat → List Wit_spot) (n : Nat) (h1 : ∀ i, (f i).Pairwise Dx) (h2 : ∀ i x, x ∈ f i → x.item.Of = i) : ((List.range n).flatMap f).Pairwise Dx := by
  rw [List.pairwise_flatMap]
  refine ⟨fun i _ => h1 i, List.pairwise_lt_range.imp ?_⟩
  intro i j hij x hx y hy _
  rw [h2 i x hx, h2 j y hy]; omega
theorem one_dx {l : List Wit_spot} (h : l.length ≤ 1) : l.Pairwise Dx := by
  match l, h with
  | [], _ => exact .nil
  | [x], _ => exact List.pairwise_singleton _ _
theorem lp_dx (P : Nat → Int × Bool × Bool) (l : List Call) (b : List Belling) : (lp P l b).Pairwise Dx := by
  unfold lp
  rw [List.pairwise_append]
  refine ⟨flat_dx _ _ (fun i => ?_) fun i x hx => ?_, flat_dx _ _ (fun i => one_dx (by simp [bel])) fun i x hx => by rw [(bel_mem hx).1], fun x hx y hy => ?_⟩
  · rw [List.pairwise_append]
    refine ⟨one_dx (effs_len P i), one_dx (rng_len l i), fun x hx y hy h => ?_⟩
    have := effs_mem hx; have := rng_mem hy
    simp_all
  · rcases List.mem_append.1 hx with h | h
    · rw [(effs_mem h).1]
    · rw [(rng_mem h).1]
  · obtain ⟨i, _, hx⟩ := List.mem_flatMap.1 hx
    obtain ⟨j, _, hy⟩ := List.mem_flatMap.1 hy
    obtain ⟨y1, y2⟩ := bel_mem hy
    intro h
    exfalso
    rcases List.mem_append.1 hx with hx | hx
    · obtain ⟨x1, x2⟩ := effs_mem hx
      rw [x1, y1, y2] at h; simp at h; omega
    · obtain ⟨x1, x2⟩ := rng_mem hx
      rw [x1, y1, y2, x2] at h; simp at h
theorem lr_dx (P : Nat → Int × Bool × Bool) (l : List Call) (b : List Belling) : (lr P l b).Pairwise Dx := by
  unfold lr
  rw [List.pairwise_append, List.pairwise_append]
  refine ⟨⟨flat_dx _ _ (fun i => one_dx (effs_len P i)) fun i x hx => by rw [(effs_mem hx).1], flat_dx _ _ (fun i => one_dx (rng_len l i)) fun i x hx => by rw [(rng_mem hx).1], fun x hx y hy => ?_⟩, flat_dx _ _ (fun i => one_dx (by simp [bel])) fun i x hx => by rw [(bel_mem hx).1], fun x hx y hy => ?_⟩
  · obtain ⟨i, _, hx⟩ := List.mem_flatMap.1 hx
    obtain ⟨j, _, hy⟩ := List.mem_flatMap.1 hy
    obtain ⟨x1, x2⟩ := effs_mem hx
    obtain ⟨y1, y2⟩ := rng_mem hy
    intro h
    exfalso
    rw [x1, y1, y2] at h; simp at h; omega
  · obtain ⟨j, _, hy⟩ := List.mem_flatMap.1 hy
    obtain ⟨y1, y2⟩ := bel_mem hy
    intro h
    exfalso
    rcases List.mem_append.1 hx with hx | hx
    · obtain ⟨i, _, hx⟩ := List.mem_flatMap.1 hx
      obtain ⟨x1, x2⟩ := effs_mem hx
      rw [x1, y1, y2] at h; simp at h; omega
    · obtain ⟨i, _, hx⟩ := List.mem_flatMap.1 hx
      obtain ⟨x1, x2⟩ := rng_mem hx
      rw [x1, y1, y2, x2] at h; simp at h
theorem pst_of {l : List Wit_spot} (h : l.Pairwise Dx) : Pst wlt WR l := fun i j hij hj hn => by
  by_cases hl : wlt (gt l i) (gt l j) = true
  · exact .inl hl
  · refine .inr ⟨hn, ?_⟩
    have := List.pairwise_iff_getElem.1 h i j (by omega) hj hij
    rw [gt_of (show i < l.length by omega), gt_of hj] at hl hn ⊢
    refine this (.inl ?_)
    rw [wlt_iff] at hl
    rw [wlt_f] at hn
    omega
theorem pst_pw {l : List Wit_spot} (h : Pst wlt WR l) (hs : Srt wlt l 0 l.length) : l.Pairwise WR := by
  rw [List.pairwise_iff_getElem]
  intro i j hi hj hij
  have := h i j hij hj (hs i j (by omega) hij hj)
  rw [gt_of hi, gt_of hj] at this
  exact this
/-- what the program's spots are -/
structure Sorted (l l' : List Wit_spot) : Prop where
  perm : l'.Perm l
  pw : l'.Pairwise WR
theorem spots_eq {l : List Call} {b : List Belling} {P : Nat → Int × Bool × Bool} (hl : l.length ≤ 60) (hb : b.length ≤ 60) (hP : ∀ i : Nat, i < l.length → G_hist_Place l i = some (P i)) : ∃ l', G_wit_spots l b = some l' ∧ Sorted (lp P l b) l' := by
  unfold G_wit_spots
  have h1 := loop_app (B := G_wit_spots.b1 l b) l.length (fun i => effs P i ++ rng l i) (fun i => by rw [List.length_append]; have := effs_len P i; have := rng_len l i; omega) [] (fun i s hi hs => by
    simp only [List.length_nil] at hs
    unfold G_wit_spots.b1
    dsimp only
    rw [lt_t hi, cond_true, inb_n hi, req_t, hP i hi, Option.bind_some, wp1 hi (by simp only [maxLen]; omega)]
    have r1 : ∀ k : Nat, k ≤ 200 → decide ((k + 1) * 32 ≤ 140737488355328) = true := fun k hk => decide_eq_true (by omega)
    unfold effs rng
    cases (P i).2.2 <;> cases decide ((rd l (i : Int)).Ring ≥ 0)
    · simp only [cond_true, cond_false, List.append_nil]
    · simp only [cond_true, cond_false, List.nil_append, r1 _ (show s.length ≤ 200 by omega), req_t]
    · simp only [cond_true, cond_false, List.append_nil, r1 _ (show s.length ≤ 200 by omega), req_t]
    · rw [cond_true, cond_true, cond_true, cond_true, r1 _ (show s.length ≤ 200 by omega), req_t, r1 _ (by rw [List.length_append, List.length_singleton]; omega), req_t, List.append_assoc]) (fun s => by
    unfold G_wit_spots.b1; rw [lt_f, cond_false])
  rw [h1, Option.bind_some, Ex.on_brk]
  have h2 := loop_app (B := G_wit_spots.b2 l b ((l.length : Int), [] ++ (List.range l.length).flatMap (fun i => effs P i ++ rng l i))) b.length (bel b) (fun i => by simp [bel]) ([] ++ (List.range l.length).flatMap (fun i => effs P i ++ rng l i)) (fun i s hi hs => by
    have hle := flat_len (fun i => effs P i ++ rng l i) 2 (fun i => by rw [List.length_append]; have := effs_len P i; have := rng_len l i; omega) l.length
    rw [List.nil_append] at hs
    unfold G_wit_spots.b2
    dsimp only
    rw [lt_t hi, cond_true, inb_n hi, req_t, wp1 hi (by simp only [maxLen]; omega), show decide ((s.length + 1) * 32 ≤ 140737488355328) = true from decide_eq_true (by omega), req_t]
    rfl) (fun s => by unfold G_wit_spots.b2; rw [lt_f, cond_false])
  rw [h2, Option.bind_some, Ex.on_brk, List.nil_append]
  have hle := lp_len P l b
  obtain ⟨l', k1, k2, k3⟩ := stable_eq wOrd (f := Fn96.f50) wcmp (l := lp P l b) (by omega)
  refine ⟨l', ?_, k2.perm, pst_pw (k2.pst (pst_of (lp_dx P l b))) (by rw [k2.len]; exact k3)⟩
  show (G_wit_spot_49 (lp P l b) (lp P l b).length Fn96.f50).bind _ = _
  rw [k1]; rfl
/-! ### by definition -/
theorem eqb_item (x y : Item) : eqb_Item x y = decide (x = y) := by
  rw [Bool.eq_iff_iff, decide_eq_true_iff]
  cases x; cases y; simp [eqb_Item]
end Go.Proofs.Ytnfnincmhobpaaa
