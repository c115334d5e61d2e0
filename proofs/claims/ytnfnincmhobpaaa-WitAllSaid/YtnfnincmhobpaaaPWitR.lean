/- The plain law behind WitOrder and WitAll: the document's order is the sorted list. No statement of the seat is proved here. Conditions: none. -/
import Derived.Test.YtnfnincmhobpaaaPWit
set_option linter.unusedVariables false
set_option linter.unusedSimpArgs false
set_option linter.unusedSectionVars false
namespace Go.Proofs.Ytnfnincmhobpaaa
open Go Go.RowKit Go.Eng
noncomputable def PR (l : List Call) (i : Nat) : Portholeref17_Spot := (G_ref17_Place l i).getD default
abbrev P3 (p : Nat → Portholeref17_Spot) (i : Nat) : Int × Bool × Bool := ((p i).At, (p i).Behind, (p i).Is)
theorem place_eq (l : List Call) (hS : ∀ i : Int, 0 ≤ i → i < l.length → SoundAt l i) (i : Int) (h0 : 0 ≤ i) (h1 : i < l.length) :
    ∃ p, G_ref17_Place l i = some p ∧ G_hist_Place l i = some (p.At, p.Behind, p.Is) := by
  unfold G_ref17_Place G_hist_Place
  have hb := inb_of h0 h1
  rw [hb, req_t, req_t, show (decide (i < 0) || decide (i ≥ (l.length : Int))) = false by simp; omega, cond_false]
  by_cases hm : (rd l i).Mark ≥ 0
  · simp only [hm, decide_true, cond_true]
    exact ⟨_, rfl, rfl⟩
  · simp only [hm, decide_false, cond_false]
    cases hd : (!(rd l i).Done || (rd l i).Req.Op != 4)
    case true => exact ⟨_, rfl, rfl⟩
    case false =>
      simp only [cond_false]
      by_cases hs : (rd l i).Saw = -1
      · have e1 : ¬ (rd l i).Saw ≥ 0 := by omega
        have e2 : (rd l i).Saw < 0 := by omega
        simp only [e1, e2, decide_true, decide_false, imp, Bool.not_false, Bool.true_or, req_t, Bool.false_and, cond_false, cond_true]
        exact ⟨_, rfl, rfl⟩
      · obtain ⟨g0, g1, _⟩ := (hS i h0 h1).saw hs
        have e1 : (rd l i).Saw ≥ 0 := g0
        have e2 : ¬ (rd l i).Saw < 0 := by omega
        have e3 : ¬ (rd l i).Saw ≥ (l.length : Int) := by omega
        simp only [e1, e2, e3, decide_true, decide_false, imp, inb_of g0 g1, Bool.or_true, Bool.or_false, req_t, Bool.true_and, cond_false]
        by_cases hg : (rd l (rd l i).Saw).Mark > (rd l i).From
        · simp only [hg, decide_true, cond_true, mxI, if_true]
          exact ⟨_, rfl, rfl⟩
        · simp only [hg, decide_false, cond_false, mxI, if_false]
          exact ⟨_, rfl, rfl⟩
theorem places {l : List Call} (hS : ∀ i : Int, 0 ≤ i → i < l.length → SoundAt l i) : ∃ p : Nat → Portholeref17_Spot, (∀ i : Nat, i < l.length → G_ref17_Place l i = some (p i)) ∧ ∀ i : Nat, i < l.length → G_hist_Place l i = some (P3 p i) := by
  refine ⟨PR l, fun i hi => ?_, fun i hi => ?_⟩
  · obtain ⟨p, h1, h2⟩ := place_eq l hS i (by omega) (by omega)
    rw [h1]; unfold PR; rw [h1]; rfl
  · obtain ⟨p, h1, h2⟩ := place_eq l hS i (by omega) (by omega)
    rw [h2]; unfold P3 PR; rw [h1]; rfl
theorem ofS_app (a b : List Wit_spot) : (a ++ b).map ofS = a.map ofS ++ b.map ofS := List.map_append
/-- the first three loops -/
theorem map_loop {ρ : Type} {B : Int × List Portholeref19_Spot → Option (Stp (Int × List Portholeref19_Spot) (Ex (Int × List Portholeref19_Spot) ρ))} (n : Nat) (g : Nat → List Wit_spot) (hg : ∀ i, (g i).length ≤ 1) (s0 : List Wit_spot) (h0 : s0.length ≤ 180)
    (hn : n ≤ 60) (h1 : ∀ (i : Nat) (s : List Portholeref19_Spot), i < n → s.length ≤ 300 → B ((i : Int), s) = some (.next (((i + 1 : Nat) : Int), s ++ (g i).map ofS)))
    (h2 : ∀ s, B ((n : Int), s) = some (.out (.brk ((n : Int), s)))) : loopω B (0, s0.map ofS) = some (.brk ((n : Int), (s0 ++ (List.range n).flatMap g).map ofS)) := by
  rw [loop_app (B := B) n (fun i => (g i).map ofS) (fun i => by rw [List.length_map]; have := hg i; omega) (s0.map ofS) (fun i s hi hs => h1 i s hi (by rw [List.length_map] at hs; omega)) h2, List.map_append, List.map_flatMap]
/-- which ones are left -/
def isT (o : List Wit_spot) (x : Wit_spot) : Prop := x.item ∈ o.map Wit_spot.item
theorem best_ok {l0 : List Call} {l1 : List Belling} {s1 s2 : Int × List Portholeref19_Spot} {b : Int} {L o : List Wit_spot} (hL : L.length ≤ 180) (ho : o.length ≤ L.length) (hp : Pst wlt WR L) (hex : ∃ j, j < L.length ∧ ¬ isT o (gt L j)) :
    ∃ (e : Int) (k : Nat), loopω (G_ref19_Order.b5 l0 l1 s1 s2 (b, L.map ofS) (o.map ofS)) (0, -1) = some (.brk (e, (k : Int))) ∧ k < L.length ∧ ¬ isT o (gt L k) ∧ ∀ j, j < L.length → ¬ isT o (gt L j) → j ≠ k → WR (gt L k) (gt L j) := by
  have hB := loopω_ok (B := G_ref19_Order.b5 l0 l1 s1 s2 (b, L.map ofS) (o.map ofS)) (fun s => ∃ i : Nat, s.1 = i ∧ i ≤ L.length ∧ ((s.2 = -1 ∧ ∀ j, j < i → isT o (gt L j)) ∨ (∃ k : Nat, s.2 = k ∧ k < i ∧ ¬ isT o (gt L k) ∧ ∀ j, j < i → ¬ isT o (gt L j) → j ≠ k → WR (gt L k) (gt L j)))) (fun s => (L.length - s.1).toNat)
    (fun x => ∃ (e : Int) (k : Nat), x = .brk (e, (k : Int)) ∧ k < L.length ∧ ¬ isT o (gt L k) ∧ ∀ j, j < L.length → ¬ isT o (gt L j) → j ≠ k → WR (gt L k) (gt L j)) ?_ (0, -1) ⟨0, rfl, Nat.zero_le _, .inl ⟨rfl, fun j hj => by omega⟩⟩
  · obtain ⟨o', h1, h2⟩ := hB
    obtain ⟨e, k, rfl, h3⟩ := h2
    exact ⟨e, k, h1, h3⟩
  · rintro ⟨i', best⟩ ⟨i, hi', hi, hb⟩
    simp only at hi' hb
    subst hi'
    by_cases hlt : i < L.length
    · left
      unfold G_ref19_Order.b5
      dsimp only
      rw [List.length_map, lt_t hlt, cond_true, inb_n hlt, req_t, rd_ofS, taken_eq o _ (by simp only [maxLen]; omega), Option.bind_some, wp1 hlt (by simp only [maxLen]; omega)]
      by_cases ht : (ofS (rd L (i : Int))).Item ∈ o.map Wit_spot.item
      · rw [decide_eq_true ht, cond_true]
        refine ⟨_, rfl, ⟨i + 1, rfl, hlt, ?_⟩, by simp only; omega⟩
        rcases hb with ⟨b1, b2⟩ | ⟨k, b1, b2, b3, b4⟩
        · refine .inl ⟨b1, fun j hj => ?_⟩
          by_cases hji : j = i
          · subst hji; exact ht
          · exact b2 j (by omega)
        · refine .inr ⟨k, b1, by omega, b3, fun j hj hn => ?_⟩
          by_cases hji : j = i
          · subst hji; exact absurd ht hn
          · exact b4 j (by omega) hn
      · rw [decide_eq_false ht, cond_false]
        rcases hb with ⟨b1, b2⟩ | ⟨k, b1, b2, b3, b4⟩
        · subst b1
          have e1 : decide ((-1 : Int) < 0) = true := by decide
          rw [e1]
          simp only [Bool.not_true, Bool.true_or, Bool.false_and, imp, Bool.not_false, req_t, cond_true]
          refine ⟨_, rfl, ⟨i + 1, rfl, hlt, .inr ⟨i, rfl, by omega, ht, fun j hj hn hne => absurd (b2 j (by omega)) hn⟩⟩, by simp only; omega⟩
        · subst b1
          have e1 : decide ((k : Int) < 0) = false := by simp
          have hk : k < L.length := by omega
          rw [e1, inb_n hk]
          simp only [imp_tt, req_t, Bool.false_or, rd_ofS]
          have hw : (decide ((ofS (rd L (i : Int))).At < (ofS (rd L (k : Int))).At) || ((ofS (rd L (i : Int))).At == (ofS (rd L (k : Int))).At && decide ((ofS (rd L (i : Int))).Rank < (ofS (rd L (k : Int))).Rank))) = wlt (gt L i) (gt L k) := rfl
          rw [hw]
          cases hc : wlt (gt L i) (gt L k)
          · refine ⟨_, rfl, ⟨i + 1, rfl, hlt, .inr ⟨k, rfl, by omega, b3, fun j hj hn hne => ?_⟩⟩, by simp only; omega⟩
            by_cases hji : j = i
            · subst hji; exact hp k j b2 hlt hc
            · exact b4 j (by omega) hn hne
          · refine ⟨_, rfl, ⟨i + 1, rfl, hlt, .inr ⟨i, rfl, by omega, ht, fun j hj hn hne => .inl ?_⟩⟩, by simp only; omega⟩
            by_cases hjk : j = k
            · subst hjk; exact hc
            · rcases b4 j (by omega) hn hjk with h | ⟨h, -⟩
              · exact wOrd.lt_le_lt hc (wOrd.asy _ _ h)
              · exact wOrd.lt_le_lt hc h
    · right
      unfold G_ref19_Order.b5
      dsimp only
      rw [List.length_map, show decide ((i : Int) < (L.length : Int)) = false by simp; omega, cond_false]
      refine ⟨_, rfl, ?_⟩
      have hil : i = L.length := by omega
      subst hil
      rcases hb with ⟨b1, b2⟩ | ⟨k, b1, b2, b3, b4⟩
      · obtain ⟨j, j1, j2⟩ := hex
        exact absurd (b2 j j1) j2
      · subst b1
        exact ⟨_, k, rfl, b2, b3, b4⟩
theorem wr_asy {a b : Wit_spot} (h : WR a b) (k : WR b a) : False := by
  rcases h with h | ⟨h1, h2⟩ <;> rcases k with k | ⟨k1, k2⟩
  · have := wOrd.asy _ _ h; rw [k] at this; cases this
  · rw [h] at k1; cases k1
  · rw [k] at h1; cases h1
  · omega
theorem nodup_inj {α : Type} {l : List α} (h : l.Nodup) {i j : Nat} (hi : i < l.length) (hj : j < l.length) (he : l[i] = l[j]) : i = j := by
  have h := List.pairwise_iff_getElem.1 h
  rcases Nat.lt_trichotomy i j with hh | hh | hh
  · exact absurd he (h i j hi hj hh)
  · exact hh
  · exact absurd he.symm (h j i hj hi hh)
theorem dx_items {l : List Wit_spot} (h : l.Pairwise Dx) : (l.map Wit_spot.item).Nodup := by
  rw [List.Nodup, List.pairwise_map]
  refine h.imp fun {a b} hab he => ?_
  have := hab (.inr (by rw [he]))
  rw [he] at this; omega
theorem choose_ok {l0 : List Call} {l1 : List Belling} {s1 s2 : Int × List Portholeref19_Spot} {b : Int} {L l' : List Wit_spot} (hL : L.length ≤ 180) (hd : L.Pairwise Dx) (hp : l'.Perm L) (hw : l'.Pairwise WR) : ∀ (d k : Nat), k + d = l'.length →
    loopω (G_ref19_Order.b4 l0 l1 s1 s2 (b, L.map ofS)) ((l'.take k).map ofS) = some (.brk (l'.map ofS))
  | 0, k, h => by
    rw [loopω_eq]
    unfold G_ref19_Order.b4
    rw [List.take_of_length_le (by omega), List.length_map, List.length_map, hp.length_eq, lt_f]
    rfl
  | d + 1, k, h => by
    have hk : k < l'.length := by omega
    have hnd : (l'.map Wit_spot.item).Nodup := (hp.map _).nodup_iff.2 (dx_items hd)
    have hsp : l' = l'.take k ++ l'[k] :: l'.drop (k + 1) := by rw [List.getElem_cons_drop, List.take_append_drop]
    have hT : ∀ x, x ∈ l' → (isT (l'.take k) x ↔ x ∈ l'.take k) := fun x hx => by
      constructor
      · intro h
        obtain ⟨y, hy, he⟩ := List.mem_map.1 h
        have hy' : y ∈ l' := List.mem_of_mem_take hy
        have hinj : y = x := by
          obtain ⟨p, p1, rfl⟩ := List.getElem_of_mem hy'
          obtain ⟨q, q1, rfl⟩ := List.getElem_of_mem hx
          have := nodup_inj hnd (i := p) (j := q) (by simpa using p1) (by simpa using q1) (by simpa using he)
          subst this; rfl
        rw [← hinj]; exact hy
      · intro h; exact List.mem_map_of_mem h
    have hkT : ¬ isT (l'.take k) l'[k] := fun h => by
      have := hnd
      rw [show l'.map Wit_spot.item = (l'.take k ++ l'[k] :: l'.drop (k + 1)).map Wit_spot.item from congrArg _ hsp, List.map_append, List.nodup_append] at this
      exact this.2.2 _ h l'[k].item (List.mem_map_of_mem List.mem_cons_self) rfl
    have hmem : ∀ j, j < L.length → gt L j ∈ l' := fun j hj => hp.mem_iff.2 (by rw [gt_of hj]; exact List.getElem_mem _)
    obtain ⟨j0, j1, j2⟩ := List.getElem_of_mem (hp.mem_iff.1 (List.getElem_mem hk))
    have j2' : gt L j0 = l'[k] := by rw [gt_of j1]; exact j2
    have hle : (l'.take k).length = k := by rw [List.length_take]; omega
    obtain ⟨e, i, h1, h2, h3, h4⟩ := best_ok (l0 := l0) (l1 := l1) (s1 := s1) (s2 := s2) (b := b) (o := l'.take k) hL (by rw [hle, ← hp.length_eq]; omega) (pst_of hd) ⟨j0, j1, by rw [j2']; exact hkT⟩
    have hi : gt L i = l'[k] := by
      by_cases hij : j0 = i
      · subst hij; exact j2'
      · exfalso
        have w1 := h4 j0 j1 (by rw [j2']; exact hkT) hij
        rw [j2'] at w1
        have hiM : gt L i ∈ l' := hmem i h2
        rw [hsp, List.mem_append, List.mem_cons] at hiM
        rcases hiM with m | m | m
        · exact h3 ((hT _ (hmem i h2)).2 m)
        · have hnL : (L.map Wit_spot.item).Nodup := dx_items hd
          have := nodup_inj hnL (i := i) (j := j0) (by simpa using h2) (by simpa using j1) (by simp [← gt_of h2, m, j2])
          exact hij this.symm
        · have hw2 := hw
          rw [hsp, List.pairwise_append, List.pairwise_cons] at hw2
          exact wr_asy w1 (hw2.2.1.1 _ m)
    have hbody : G_ref19_Order.b4 l0 l1 s1 s2 (b, L.map ofS) ((l'.take k).map ofS) = some (.next ((l'.take (k + 1)).map ofS)) := by
      unfold G_ref19_Order.b4
      dsimp only
      rw [List.length_map, List.length_map, hle, lt_t (show k < L.length by rw [← hp.length_eq]; exact hk), cond_true, h1, Option.bind_some, Ex.on_brk, inb_n h2, req_t, show decide ((k + 1) * 32 ≤ 140737488355328) = true from decide_eq_true (by have := hp.length_eq; omega), req_t, rd_ofS]
      show some (Stp.next (_ ++ [ofS (gt L i)])) = _
      rw [hi, List.take_succ_eq_append_getElem hk, List.map_append]
      rfl
    rw [loopω_eq, hbody]
    exact choose_ok hL hd hp hw d (k + 1) (by omega)
theorem order_eq {l : List Call} {b : List Belling} {p : Nat → Portholeref17_Spot} {l' : List Wit_spot} (hl : l.length ≤ 60) (hb : b.length ≤ 60) (hP : ∀ i : Nat, i < l.length → G_ref17_Place l i = some (p i)) (hs : Sorted (lp (P3 p) l b) l') : G_ref19_Order l b = some (l'.map ofS) := by
  unfold G_ref19_Order
  have r1 : ∀ k : Nat, k ≤ 300 → decide ((k + 1) * 32 ≤ 140737488355328) = true := fun k hk => decide_eq_true (by omega)
  have l1 := flat_len (effs (P3 p)) 1 (effs_len _) l.length
  have l2 := flat_len (rng l) 1 (rng_len _) l.length
  have h1 := map_loop (B := G_ref19_Order.b1 l b) l.length (effs (P3 p)) (effs_len _) [] (by simp) hl (fun i s hi hs => by
    unfold G_ref19_Order.b1
    dsimp only
    rw [lt_t hi, cond_true, hP i hi, Option.bind_some, wp1 hi (by simp only [maxLen]; omega), r1 _ hs, req_t]
    unfold effs
    dsimp only
    cases (p i).Is <;> cases (p i).Behind <;> simp [ofS]) (fun s => by unfold G_ref19_Order.b1; rw [lt_f, cond_false])
  rw [show ([] : List Portholeref19_Spot) = ([] : List Wit_spot).map ofS from rfl, h1, Option.bind_some, Ex.on_brk, List.nil_append]
  have h2 := map_loop (B := G_ref19_Order.b2 l b ((l.length : Int), ((List.range l.length).flatMap (effs (P3 p))).map ofS)) l.length (rng l) (rng_len _) ((List.range l.length).flatMap (effs (P3 p))) (by omega) hl (fun i s hi hs => by
    unfold G_ref19_Order.b2
    dsimp only
    rw [lt_t hi, cond_true, inb_n hi, req_t, req_t, wp1 hi (by simp only [maxLen]; omega), r1 _ hs, req_t]
    unfold rng
    cases decide ((rd l (i : Int)).Ring ≥ 0) <;> simp [ofS]) (fun s => by unfold G_ref19_Order.b2; rw [lt_f, cond_false])
  rw [h2, Option.bind_some, Ex.on_brk]
  have h3 := map_loop (B := G_ref19_Order.b3 l b ((l.length : Int), ((List.range l.length).flatMap (effs (P3 p))).map ofS) ((l.length : Int), ((List.range l.length).flatMap (effs (P3 p)) ++ (List.range l.length).flatMap (rng l)).map ofS)) b.length (bel b) (fun i => by simp [bel]) ((List.range l.length).flatMap (effs (P3 p)) ++ (List.range l.length).flatMap (rng l)) (by rw [List.length_append]; omega) hb (fun i s hi hs => by
    unfold G_ref19_Order.b3
    dsimp only
    rw [lt_t hi, cond_true, inb_n hi, req_t, wp1 hi (by simp only [maxLen]; omega), r1 _ hs, req_t]
    rfl) (fun s => by unfold G_ref19_Order.b3; rw [lt_f, cond_false])
  rw [h3, Option.bind_some, Ex.on_brk]
  have hLen : (lr (P3 p) l b).length ≤ 180 := by have := lp_len (P3 p) l b; rw [(lp_lr _ _ _).length_eq] at this; omega
  have h4 := choose_ok (l0 := l) (l1 := b) (s1 := ((l.length : Int), ((List.range l.length).flatMap (effs (P3 p))).map ofS)) (s2 := ((l.length : Int), ((List.range l.length).flatMap (effs (P3 p)) ++ (List.range l.length).flatMap (rng l)).map ofS)) (b := (b.length : Int)) hLen (lr_dx (P3 p) l b) (hs.perm.trans (lp_lr _ _ _)) hs.pw l'.length 0 (by omega)
  rw [List.take_zero] at h4
  show (loopω (G_ref19_Order.b4 l b _ _ ((b.length : Int), (lr (P3 p) l b).map ofS)) (([] : List Wit_spot).map ofS)).bind _ = _
  rw [h4]; rfl
/-! ### what is told -/
theorem all_fold {σt R : Type} (bd : σt → (Int × Item) → Option (Stp σt R)) (s0 : σt) (y1 : List Call) (y2 : List Belling) (l : List Wit_spot) (hl : l.length ≤ maxLen) : ∀ (k i : Nat) (s : σt), i + k = l.length →
    ((loopω (G_wit_All_1.b1 bd s0 y1 y2 l) ((i : Int), s)).bind fun o => o.on (fun s1 => some (Stp.next s1.2)) (fun r => some r)) = foldS bd s ((l.drop i).map fun x => (x.at_, x.item))
  | 0, i, s, h => by
    rw [loopω_eq]
    unfold G_wit_All_1.b1
    dsimp only
    rw [show i = l.length by omega, lt_f, cond_false, List.drop_length]
    rfl
  | k + 1, i, s, h => by
    have hi : i < l.length := by omega
    rw [loopω_eq, List.drop_eq_getElem_cons hi, List.map_cons, foldS_cons]
    have hb : G_wit_All_1.b1 bd s0 y1 y2 l ((i : Int), s) = (bd s (l[i].at_, l[i].item)).bind fun z => z.on (fun s_27 => some (.next (((i + 1 : Nat) : Int), s_27))) (fun r_28 => some (.out (.ret (.out r_28)))) := by
      unfold G_wit_All_1.b1
      dsimp only
      rw [lt_t hi, cond_true, inb_n hi, req_t, wp1 hi hl, show rd l (i : Int) = l[i] from gt_of hi]
    rw [hb]
    cases bd s (l[i].at_, l[i].item) with
    | none => rfl
    | some z =>
      cases z with
      | out r => rfl
      | next s' => exact all_fold bd s0 y1 y2 l hl k (i + 1) s' (by omega)
theorem all_eq {σt R : Type} (bd : σt → (Int × Item) → Option (Stp σt R)) (s0 : σt) {l : List Call} {b : List Belling} {l' : List Wit_spot} (h : G_wit_spots l b = some l') (hl : l'.length ≤ maxLen) : G_wit_All_1 bd s0 l b = foldS bd s0 (l'.map fun x => (x.at_, x.item)) := by
  unfold G_wit_All_1
  rw [h, Option.bind_some]
  exact all_fold bd s0 l b l' hl l'.length 0 s0 (by omega)
theorem worder_eq {l : List Call} {b : List Belling} {l' : List Wit_spot} (h : G_wit_spots l b = some l') (hl : l'.length ≤ 180) : G_wit_Order l b = some (l'.map Wit_spot.item) := by
  unfold G_wit_Order G_wit_All
  rw [Option.bind_some, all_eq _ _ h (by simp only [maxLen]; omega)]
  have : ∀ (m : List Wit_spot) (s : List Item), s.length + m.length ≤ 180 → foldS (G_wit_Order.r1 l b (l, b)) s (m.map fun x => (x.at_, x.item)) = some (.next (s ++ m.map Wit_spot.item)) := fun m => by
    induction m with
    | nil => intro s _; simp
    | cons x r ih =>
      intro s hs
      rw [List.length_cons] at hs
      rw [List.map_cons, foldS_cons]
      have : G_wit_Order.r1 l b (l, b) s (x.at_, x.item) = some (.next (s ++ [x.item])) := by
        unfold G_wit_Order.r1
        rw [show decide ((s.length + 1) * 16 ≤ 140737488355328) = true from decide_eq_true (by omega), req_t]
      rw [this, Option.bind_some]
      show foldS _ (s ++ [x.item]) _ = _
      rw [ih _ (by rw [List.length_append, List.length_singleton]; omega), List.append_assoc]
      rfl
  rw [this l' [] (by simpa using hl)]
  rfl
theorem same_eq (l : List Item) (hl : l.length ≤ maxLen) : G_ref19_Same l l = some true := by
  unfold G_ref19_Same
  rw [show ((l.length : Int) != (l.length : Int)) = false by simp, cond_false, loop_any (B := G_ref19_Same.b1 l l) l.length false false (fun _ => false) (fun i hi => by
    unfold G_ref19_Same.b1
    rw [lt_t hi, cond_true, inb_n hi, req_t, req_t, wp1 hi hl, eqb_item]
    simp) (by unfold G_ref19_Same.b1; rw [lt_f, cond_false])]
  rw [show ((List.range l.length).any fun x => false) = false from List.any_eq_false.2 fun _ _ => by simp]
  rfl
theorem items_eq (l : List Wit_spot) (hl : l.length ≤ 180) : G_ref19_Items (l.map ofS) = some (l.map Wit_spot.item) := by
  unfold G_ref19_Items
  have h := loop_app (B := G_ref19_Items.b1 (l.map ofS)) l.length (fun i => [(gt l i).item]) (fun i => by simp) [] (fun i s hi hs => by
    unfold G_ref19_Items.b1
    dsimp only
    simp only [List.length_nil] at hs
    rw [List.length_map, lt_t hi, cond_true, inb_n hi, req_t, wp1 hi (by simp only [maxLen]; omega), show decide ((s.length + 1) * 16 ≤ 140737488355328) = true from decide_eq_true (by omega), req_t, rd_ofS]
    rfl) (fun s => by unfold G_ref19_Items.b1; dsimp only; rw [List.length_map, lt_f, cond_false])
  rw [h, Option.bind_some, Ex.on_brk, List.nil_append]
  congr 1
  rw [← List.map_eq_flatMap]
  apply List.ext_getElem
  · simp
  · intro i h1 h2
    rw [List.length_map] at h2
    simp [gt_of h2]
theorem wakes19 : G_law19_wakes = some true := by
  unfold G_law19_wakes
  obtain ⟨l1, a1, a2⟩ := spots_eq (l := []) (b := []) (P := fun _ => default) (by simp) (by simp) (fun i hi => by simp at hi)
  have e1 : l1 = [] := by
    have := a2.perm
    rw [show lp (fun _ => default) [] [] = [] from rfl] at this
    exact this.eq_nil
  subst e1
  rw [worder_eq a1 (by simp), Option.bind_some]
  simp only [List.map_nil, List.length_nil]
  rw [show (((0 : Nat) : Int) == 0) = true from rfl, cond_true]
  obtain ⟨l2, b1, b2⟩ := spots_eq (l := [(⟨0, (⟨0, 0, 0, []⟩ : Request), (⟨0, [], false, 0⟩ : Answer), true, 0, 0, 0, 0, 1, 1, 0, (-1), 0, (-1)⟩ : Call)]) (b := []) (P := fun _ => (0, false, true)) (by simp) (by simp) (fun i hi => by
    have : i = 0 := by simpa using hi
    subst this; rfl)
  have e2 : l2 = [⟨0, 0, ⟨1, 0⟩⟩] := by
    have := b2.perm
    rw [show lp (fun _ => (0, false, true)) [(⟨0, (⟨0, 0, 0, []⟩ : Request), (⟨0, [], false, 0⟩ : Answer), true, 0, 0, 0, 0, 1, 1, 0, (-1), 0, (-1)⟩ : Call)] [] = [⟨0, 0, ⟨1, 0⟩⟩] from rfl] at this
    exact this.eq_singleton
  subst e2
  rw [worder_eq b1 (by simp), Option.bind_some]
  rw [show ([⟨0, 0, ⟨1, 0⟩⟩] : List Wit_spot).map Wit_spot.item = [⟨1, 0⟩] from rfl, same_eq _ (by simp [maxLen])]
  rfl
end Go.Proofs.Ytnfnincmhobpaaa
