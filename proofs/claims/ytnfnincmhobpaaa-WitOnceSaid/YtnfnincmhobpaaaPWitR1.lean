/- The plain law behind WitOrder and WitAll: the document's order is the sorted list. No statement of the seat is proved here. Conditions: none. -/
import Derived.Test.YtnfnincmhobpaaaPWit1
set_option linter.unusedVariables false
set_option linter.unusedSimpArgs false
set_option linter.unusedSectionVars false
namespace Go.Proofs.Ytnfnincmhobpaaa
open Go Go.RowKit Go.Eng
noncomputable def PR (l : List Call) (i : Nat) : Portholeref17_Spot := (G_ref17_Place l i).getD default
abbrev P3 (p : Nat → Portholeref17_Spot) (i : Nat) : Int × Bool × Bool := ((p i).At, (p i).Behind, (p i).Is)
theorem place_eq (l : List Call) (hS : ∀ i : Int, 0 ≤ i → i < l.length → SoundAt l i) (i : Int) (h0 : 0 ≤ i) (h1 : i < l.length) :
    ∃ p, G_ref17_Place l i = some p ∧ G_hist_Place l i = some (p.At, p.Behind, p.Is) := by
  unfold G_ref17_Place G_hist_Place
  have hb := inb_of h0 h1
  rw [hb, req_t, req_t, show (decide (i < 0) || decide (i ≥ (l.length : Int))) = false by simp; omega, cond_false]
  by_cases hm : (rd l i).Mark ≥ 0
  · simp only [hm, decide_true, cond_true]
    exact ⟨_, rfl, rfl⟩
  · simp only [hm, decide_false, cond_false]
    cases hd : (!(rd l i).Done || (rd l i).Req.Op != 4)
    case true => exact ⟨_, rfl, rfl⟩
    case false =>
      simp only [cond_false]
      by_cases hs : (rd l i).Saw = -1
      · have e1 : ¬ (rd l i).Saw ≥ 0 := by omega
        have e2 : (rd l i).Saw < 0 := by omega
        simp only [e1, e2, decide_true, decide_false, imp, Bool.not_false, Bool.true_or, req_t, Bool.false_and, cond_false, cond_true]
        exact ⟨_, rfl, rfl⟩
      · obtain ⟨g0, g1, _⟩ := (hS i h0 h1).saw hs
        have e1 : (rd l i).Saw ≥ 0 := g0
        have e2 : ¬ (rd l i).Saw < 0 := by omega
        have e3 : ¬ (rd l i).Saw ≥ (l.length : Int) := by omega
        simp only [e1, e2, e3, decide_true, decide_false, imp, inb_of g0 g1, Bool.or_true, Bool.or_false, req_t, Bool.true_and, cond_false]
        by_cases hg : (rd l (rd l i).Saw).Mark > (rd l i).From
        · simp only [hg, decide_true, cond_true, mxI, if_true]
          exact ⟨_, rfl, rfl⟩
        · simp only [hg, decide_false, cond_false, mxI, if_false]
          exact ⟨_, rfl, rfl⟩
theorem places {l : List Call} (hS : ∀ i : Int, 0 ≤ i → i < l.length → SoundAt l i) : ∃ p : Nat → Portholeref17_Spot, (∀ i : Nat, i < l.length → G_ref17_Place l i = some (p i)) ∧ ∀ i : Nat, i < l.length → G_hist_Place l i = some (P3 p i) := by
  refine ⟨PR l, fun i hi => ?_, fun i hi => ?_⟩
  · obtain ⟨p, h1, h2⟩ := place_eq l hS i (by omega) (by omega)
    rw [h1]; unfold PR; rw [h1]; rfl
  · obtain ⟨p, h1, h2⟩ := place_eq l hS i (by omega) (by omega)
    rw [h2]; unfold P3 PR; rw [h1]; rfl
/-- which ones are left -/
theorem wr_asy {a b : Wit_spot} (h : WR a b) (k : WR b a) : False := by
  rcases h with h | ⟨h1, h2⟩ <;> rcases k with k | ⟨k1, k2⟩
  · have := wOrd.asy _ _ h; rw [k] at this; cases this
  · rw [h] at k1; cases k1
  · rw [k] at h1; cases h1
  · omega
theorem nodup_inj {α : Type} {l : List α} (h : l.Nodup) {i j : Nat} (hi : i < l.length) (hj : j < l.length) (he : l[i] = l[j]) : i = j := by
  have h := List.pairwise_iff_getElem.1 h
  rcases Nat.lt_trichotomy i j with hh | hh | hh
  · exact absurd he (h i j hi hj hh)
  · exact hh
  · exact absurd he.symm (h j i hj hi hh)
theorem dx_items {l : List Wit_spot} (h : l.Pairwise Dx) : (l.map Wit_spot.item).Nodup := by
  rw [List.Nodup, List.pairwise_map]
  refine h.imp fun {a b} hab he => ?_
  have := hab (.inr (by rw [he]))
  rw [he] at this; omega
/-! ### what is told -/
theorem all_fold {σt R : Type} (bd : σt → (Int × Item) → Option (Stp σt R)) (s0 : σt) (y1 : List Call) (y2 : List Belling) (l : List Wit_spot) (hl : l.length ≤ maxLen) : ∀ (k i : Nat) (s : σt), i + k = l.length →
    ((loopω (G_wit_All_1.b1 bd s0 y1 y2 l) ((i : Int), s)).bind fun o => o.on (fun s1 => some (Stp.next s1.2)) (fun r => some r)) = foldS bd s ((l.drop i).map fun x => (x.at_, x.item))
  | 0, i, s, h => by
    rw [loopω_eq]
    unfold G_wit_All_1.b1
    dsimp only
    rw [show i = l.length by omega, lt_f, cond_false, List.drop_length]
    rfl
  | k + 1, i, s, h => by
    have hi : i < l.length := by omega
    rw [loopω_eq, List.drop_eq_getElem_cons hi, List.map_cons, foldS_cons]
    have hb : G_wit_All_1.b1 bd s0 y1 y2 l ((i : Int), s) = (bd s (l[i].at_, l[i].item)).bind fun z => z.on (fun s_27 => some (.next (((i + 1 : Nat) : Int), s_27))) (fun r_28 => some (.out (.ret (.out r_28)))) := by
      unfold G_wit_All_1.b1
      dsimp only
      rw [lt_t hi, cond_true, inb_n hi, req_t, wp1 hi hl, show rd l (i : Int) = l[i] from gt_of hi]
    rw [hb]
    cases bd s (l[i].at_, l[i].item) with
    | none => rfl
    | some z =>
      cases z with
      | out r => rfl
      | next s' => exact all_fold bd s0 y1 y2 l hl k (i + 1) s' (by omega)
theorem all_eq {σt R : Type} (bd : σt → (Int × Item) → Option (Stp σt R)) (s0 : σt) {l : List Call} {b : List Belling} {l' : List Wit_spot} (h : G_wit_spots l b = some l') (hl : l'.length ≤ maxLen) : G_wit_All_1 bd s0 l b = foldS bd s0 (l'.map fun x => (x.at_, x.item)) := by
  unfold G_wit_All_1
  rw [h, Option.bind_some]
  exact all_fold bd s0 l b l' hl l'.length 0 s0 (by omega)
theorem worder_eq {l : List Call} {b : List Belling} {l' : List Wit_spot} (h : G_wit_spots l b = some l') (hl : l'.length ≤ 180) : G_wit_Order l b = some (l'.map Wit_spot.item) := by
  unfold G_wit_Order G_wit_All
  rw [Option.bind_some, all_eq _ _ h (by simp only [maxLen]; omega)]
  have : ∀ (m : List Wit_spot) (s : List Item), s.length + m.length ≤ 180 → foldS (G_wit_Order.r1 l b (l, b)) s (m.map fun x => (x.at_, x.item)) = some (.next (s ++ m.map Wit_spot.item)) := fun m => by
    induction m with
    | nil => intro s _; simp
    | cons x r ih =>
      intro s hs
      rw [List.length_cons] at hs
      rw [List.map_cons, foldS_cons]
      have : G_wit_Order.r1 l b (l, b) s (x.at_, x.item) = some (.next (s ++ [x.item])) := by
        unfold G_wit_Order.r1
        rw [show decide ((s.length + 1) * 16 ≤ 140737488355328) = true from decide_eq_true (by omega), req_t]
      rw [this, Option.bind_some]
      show foldS _ (s ++ [x.item]) _ = _
      rw [ih _ (by rw [List.length_append, List.length_singleton]; omega), List.append_assoc]
      rfl
  rw [this l' [] (by simpa using hl)]
  rfl
theorem same_eq (l : List Item) (hl : l.length ≤ maxLen) : G_ref19_Same l l = some true := by
  unfold G_ref19_Same
  rw [show ((l.length : Int) != (l.length : Int)) = false by simp, cond_false, loop_any (B := G_ref19_Same.b1 l l) l.length false false (fun _ => false) (fun i hi => by
    unfold G_ref19_Same.b1
    rw [lt_t hi, cond_true, inb_n hi, req_t, req_t, wp1 hi hl, eqb_item]
    simp) (by unfold G_ref19_Same.b1; rw [lt_f, cond_false])]
  rw [show ((List.range l.length).any fun x => false) = false from List.any_eq_false.2 fun _ _ => by simp]
  rfl
theorem wakes19 : G_law19_wakes = some true := by
  unfold G_law19_wakes
  obtain ⟨l1, a1, a2⟩ := spots_eq (l := []) (b := []) (P := fun _ => default) (by simp) (by simp) (fun i hi => by simp at hi)
  have e1 : l1 = [] := by
    have := a2.perm
    rw [show lp (fun _ => default) [] [] = [] from rfl] at this
    exact this.eq_nil
  subst e1
  rw [worder_eq a1 (by simp), Option.bind_some]
  simp only [List.map_nil, List.length_nil]
  rw [show (((0 : Nat) : Int) == 0) = true from rfl, cond_true]
  obtain ⟨l2, b1, b2⟩ := spots_eq (l := [(⟨0, (⟨0, 0, 0, []⟩ : Request), (⟨0, [], false, 0⟩ : Answer), true, 0, 0, 0, 0, 1, 1, 0, (-1), 0, (-1)⟩ : Call)]) (b := []) (P := fun _ => (0, false, true)) (by simp) (by simp) (fun i hi => by
    have : i = 0 := by simpa using hi
    subst this; rfl)
  have e2 : l2 = [⟨0, 0, ⟨1, 0⟩⟩] := by
    have := b2.perm
    rw [show lp (fun _ => (0, false, true)) [(⟨0, (⟨0, 0, 0, []⟩ : Request), (⟨0, [], false, 0⟩ : Answer), true, 0, 0, 0, 0, 1, 1, 0, (-1), 0, (-1)⟩ : Call)] [] = [⟨0, 0, ⟨1, 0⟩⟩] from rfl] at this
    exact this.eq_singleton
  subst e2
  rw [worder_eq b1 (by simp), Option.bind_some]
  rw [show ([⟨0, 0, ⟨1, 0⟩⟩] : List Wit_spot).map Wit_spot.item = [⟨1, 0⟩] from rfl, same_eq _ (by simp [maxLen])]
  rfl
end Go.Proofs.Ytnfnincmhobpaaa
