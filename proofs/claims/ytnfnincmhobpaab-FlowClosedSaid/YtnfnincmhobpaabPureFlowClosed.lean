/- The plain law behind FlowClosed. -/
import Derived.Test.YtnfnincmhobpaabPureInto
set_option linter.unusedVariables false
set_option linter.unusedSimpArgs false
namespace Go.Proofs.Ytnfnincmhobpaab
open Go Go.RowKit Go.Eng
theorem any_rd (l : List Int) (a : Int) : ((List.range' 0 l.length).any fun (j : Nat) => rd l (j : Int) == a) = decide (a ∈ l) := by
  rw [Bool.eq_iff_iff]
  simp only [List.any_eq_true, beq_iff_eq, decide_eq_true_iff]
  constructor
  · rintro ⟨j, hj, rfl⟩
    rw [List.mem_range'_1] at hj
    exact rd_mem (by omega) (by omega)
  · intro h
    obtain ⟨j, hj, rfl⟩ := List.mem_iff_getElem.1 h
    refine ⟨j, by rw [List.mem_range'_1]; omega, ?_⟩
    simp [rd, List.getElem?_eq_getElem hj]
theorem any_rd' (l : List Int) (a : Int) : ((List.range' 0 l.length).any fun (j : Nat) => a == rd l (j : Int)) = decide (a ∈ l) := by
  rw [← any_rd]
  congr 1
  funext j
  rw [Bool.eq_iff_iff, beq_iff_eq, beq_iff_eq]
  exact eq_comm
theorem both_loop (x0 : Config) (a1 a2 : Int) (b1 b2 b3 : Bool) (l : List Int) (hl : l.length ≤ maxLen) : ∀ (k i : Nat) (u v : Bool), i + k = l.length →
    loopω (G_law21_FlowClosed.b1 x0 a1 a2 b1 b2 b3 l) ((i : Int), u, v) = some (.brk ((l.length : Int), u || (List.range' i k).any (fun (j : Nat) => rd l (j : Int) == a1), v || (List.range' i k).any (fun (j : Nat) => rd l (j : Int) == a2)))
  | 0, i, u, v, h => by
    rw [loopω_eq, show i = l.length by omega]
    simp only [G_law21_FlowClosed.b1, lt_f, cond_false]
    simp
  | k + 1, i, u, v, h => by
    have hi : i < l.length := by omega
    rw [loopω_eq]
    simp only [G_law21_FlowClosed.b1, lt_t hi, cond_true, inb_n hi, req_t, w1 hi hl]
    rw [both_loop x0 a1 a2 b1 b2 b3 l hl k (i + 1) _ _ (by omega), List.range'_succ]
    simp [Bool.or_assoc]
theorem also_loop (x0 : Config) (a1 a2 : Int) (b1 b2 b3 : Bool) (l : List Int) (hl : l.length ≤ maxLen) (s1 : Int × Bool × Bool) (m : List Int) (s2 : Int × Bool) : ∀ (k i : Nat) (u : Bool), i + k = l.length →
    loopω (G_law21_FlowClosed.b3 x0 a1 a2 b1 b2 b3 l s1 m s2) ((i : Int), u) = some (.brk ((l.length : Int), u || (List.range' i k).any (fun (j : Nat) => rd m s2.1 == rd l (j : Int))))
  | 0, i, u, h => by
    rw [loopω_eq, show i = l.length by omega]
    simp only [G_law21_FlowClosed.b3, lt_f, cond_false]
    simp
  | k + 1, i, u, h => by
    have hi : i < l.length := by omega
    rw [loopω_eq]
    simp only [G_law21_FlowClosed.b3, lt_t hi, cond_true, inb_n hi, req_t, w1 hi hl]
    rw [also_loop x0 a1 a2 b1 b2 b3 l hl s1 m s2 k (i + 1) _ (by omega), List.range'_succ]
    simp [Bool.or_assoc]
theorem sub_loop (x0 : Config) (a1 a2 : Int) (b1 b2 b3 : Bool) (l : List Int) (hl : l.length ≤ maxLen) (s1 : Int × Bool × Bool) (m : List Int) (hm : m.length ≤ maxLen) (h : ∀ y ∈ m, y ∈ l) : ∀ (k i : Nat), i + k = m.length →
    loopω (G_law21_FlowClosed.b2 x0 a1 a2 b1 b2 b3 l s1 m) ((i : Int), false) = some (.brk ((m.length : Int), false))
  | 0, i, hk => by
    rw [loopω_eq, show i = m.length by omega]
    simp only [G_law21_FlowClosed.b2, lt_f, cond_false]
  | k + 1, i, hk => by
    have hi : i < m.length := by omega
    rw [loopω_eq]
    have := also_loop x0 a1 a2 b1 b2 b3 l hl s1 m ((i : Int), false) l.length 0 false (by omega)
    rw [show ((0 : Nat) : Int) = 0 from rfl, any_rd', Bool.false_or, show decide (rd m (i : Int) ∈ l) = true by simp; exact h _ (rd_mem (by omega) (by omega))] at this
    simp only [G_law21_FlowClosed.b2, lt_t hi, cond_true, inb_n hi, req_t, w1 hi hm, this, Option.bind_some, Ex.on_brk, Bool.not_true, cond_false]
    exact sub_loop x0 a1 a2 b1 b2 b3 l hl s1 m hm h k (i + 1) (by omega)
theorem filter_one : ∀ (n m : Nat), m < n → (List.range n).filter (fun q => q == m) = [m]
  | 0, m, h => by omega
  | n + 1, m, h => by
    rw [List.range_succ, List.filter_append]
    by_cases hm : m = n
    · subst hm
      have : (List.range m).filter (fun q => q == m) = [] := by
        rw [List.filter_eq_nil_iff]
        intro q hq
        rw [List.mem_range] at hq
        simp; omega
      rw [this]; simp
    · rw [filter_one n m (by omega)]
      have : ¬ n = m := fun h => hm h.symm
      simp [this]
theorem mem_into {c : Config} {p : Int} {R : Nat → Bool} (hR : ∀ q, q < c.Parts.length → (R q = true ↔ Reach (edgesOf c) p (q : Int))) (x : Int) : x ∈ ((List.range c.Parts.length).filter R).map Int.ofNat ↔ (0 ≤ x ∧ x < c.Parts.length) ∧ Reach (edgesOf c) p x := by
  simp only [List.mem_map, List.mem_filter, List.mem_range]
  constructor
  · rintro ⟨q, ⟨h1, h2⟩, rfl⟩
    exact ⟨⟨by simp, by simp; omega⟩, (hR q h1).1 h2⟩
  · rintro ⟨⟨h1, h2⟩, h3⟩
    refine ⟨x.toNat, ⟨by omega, (hR _ (by omega)).2 (by rw [Int.toNat_of_nonneg h1]; exact h3)⟩, ?_⟩
    show ((x.toNat : Nat) : Int) = x
    omega
theorem len_into {c : Config} {R : Nat → Bool} : (((List.range c.Parts.length).filter R).map Int.ofNat).length ≤ c.Parts.length := by
  rw [List.length_map]
  exact Nat.le_trans (List.length_filter_le _ _) (by simp)
theorem pureFlowClosed (x0 : Config) (a1 : Int) (a2 : Int) (w0 : wf_Config x0) (w1' : InK .i64 a1) (w2 : InK .i64 a2) : G_law21_FlowClosed x0 a1 a2 = some true := by
  have hwf := wfc_of w0
  unfold G_law21_FlowClosed
  rw [wakes21]
  simp only [Option.bind_some, Bool.not_true, cond_false, G_ref06_Great]
  generalize (((decide ((x0.Parts.length : Int) > 100) || decide ((x0.Chans.length : Int) > 100)) || decide ((x0.Frames.e0.Windows.length : Int) > 100)) || decide ((x0.Frames.e1.Windows.length : Int) > 100)) = g
  obtain ⟨b, hb, hacc⟩ := accepts_ok x0 hwf
  rw [hb]
  cases g
  case true => rfl
  cases b
  case false => rfl
  simp only [Bool.not_false, cal_t, Option.bind_some, Bool.not_true, Bool.or_self, Bool.false_or]
  cases hr : (((decide (a1 < 0) || decide (a1 ≥ (x0.Parts.length : Int))) || decide (a2 < 0)) || decide (a2 ≥ (x0.Parts.length : Int)))
  case true => rfl
  simp only [cond_false]
  simp at hr
  obtain ⟨⟨⟨p0, p1⟩, q0⟩, q1⟩ := hr
  have hA := hacc rfl
  have hn := hA.parts.2
  have hmx : ∀ {n : Nat}, n ≤ 6 → n ≤ maxLen := fun h => by simp only [maxLen]; omega
  have hcm : x0.Chans.length ≤ maxLen := hwf.2.1
  obtain ⟨R, hR, e1⟩ := into_ok x0 a1 (by omega) hcm (acc_in hA) p0 p1
  obtain ⟨R2, hR2, e2⟩ := into_ok x0 a2 (by omega) hcm (acc_in hA) q0 q1
  have hl1 := len_into (c := x0) (R := R)
  have hl2 := len_into (c := x0) (R := R2)
  have hm1 := mem_into hR
  have hm2 := mem_into hR2
  rw [e1]
  simp only [Option.bind_some]
  generalize ((List.range x0.Parts.length).filter R).map Int.ofNat = L at *
  generalize hL2 : ((List.range x0.Parts.length).filter R2).map Int.ofNat = L2 at *
  have hb1 := both_loop x0 a1 a2 true false true L (hmx (by omega)) L.length 0 false false (by omega)
  rw [show ((0 : Nat) : Int) = 0 from rfl, any_rd, any_rd, Bool.false_or, Bool.false_or] at hb1
  rw [hb1]
  simp only [Option.bind_some, Ex.on_brk]
  have hself : decide (a1 ∈ L) = true := by simp only [decide_eq_true_iff]; exact (hm1 a1).2 ⟨⟨p0, p1⟩, .refl⟩
  rw [hself]
  -- alone
  have halone : G_flow_Into (⟨x0.Parts, [], x0.Frames⟩ : Config) a1 = some [a1] := by
    have hE : edgesOf (⟨x0.Parts, [], x0.Frames⟩ : Config) = [] := by simp [edgesOf, edgesFrom]
    obtain ⟨R3, hR3, e3⟩ := into_ok (⟨x0.Parts, [], x0.Frames⟩ : Config) a1 (by simp only; omega) (by simp [maxLen]) (by rw [hE]; intro x hx; simp at hx) p0 p1
    rw [e3]
    rw [hE] at hR3
    have : (List.range x0.Parts.length).filter R3 = [a1.toNat] := by
      rw [← filter_one x0.Parts.length a1.toNat (by omega)]
      apply List.filter_congr
      intro q hq
      rw [List.mem_range] at hq
      rw [Bool.eq_iff_iff, hR3 q hq, beq_iff_eq]
      constructor
      · intro h
        rcases h.first with h | ⟨t, h, _⟩
        · omega
        · simp at h
      · intro h
        have : (q : Int) = a1 := by omega
        rw [this]; exact .refl
    rw [this]
    simp only [List.map_cons, List.map_nil, Option.some.injEq, List.cons.injEq, and_true]
    show ((a1.toNat : Nat) : Int) = a1
    omega
  have hone : G_ref01_Same [a1] ([a1] : List Int) = some true := by rw [same01 _ _ (by simp [maxLen])]; simp
  cases hin : decide (a2 ∈ L)
  · simp only [cond_false, cond_true, halone, Option.bind_some, hone]
    rfl
  · simp only [cond_true, e2, Option.bind_some]
    simp only [decide_eq_true_iff] at hin
    have hpq := ((hm1 a2).1 hin).2
    have hs := sub_loop x0 a1 a2 true false true L (hmx (by omega)) ((L.length : Int), true, true) L2 (hmx (by omega)) (fun y hy => by
      obtain ⟨h1, h2⟩ := (hm2 y).1 hy
      exact (hm1 y).2 ⟨h1, hpq.trans h2⟩) L2.length 0 (by omega)
    rw [show ((0 : Nat) : Int) = 0 from rfl] at hs
    rw [hs]
    simp only [Option.bind_some, Ex.on_brk, cond_true, halone, hone]
    rfl
end Go.Proofs.Ytnfnincmhobpaab
