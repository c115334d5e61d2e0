/- The plain law behind flow's Edges and Into: who leads into a partition is who reaches it by the edges. -/
import Derived.Test.YtnfnincmhobpaabPureAcc
set_option linter.unusedVariables false
set_option linter.unusedSimpArgs false
namespace Go.Proofs.Ytnfnincmhobpaab
open Go Go.RowKit Go.Eng
def edg (x : Chan) : List (Int × Int) := if x.Kind == 2 then [(x.From, x.To), (x.To, x.From)] else [(x.From, x.To)]
def edgesFrom (c : Config) (i k : Nat) : List (Int × Int) := (List.range' i k).flatMap fun (j : Nat) => edg (rd c.Chans (j : Int))
def edgesOf (c : Config) : List (Int × Int) := edgesFrom c 0 c.Chans.length
theorem edges_loop {σt R : Type} (bd : σt → Int × Int → Option (Stp σt R)) (s0 : σt) (c : Config) (hc : c.Chans.length ≤ maxLen) : ∀ (k i : Nat) (s : σt), i + k = c.Chans.length →
    ((loopω (G_flow_Edges_1.b1 bd s0 c) ((i : Int), s)).bind fun o => o.on (fun s1 => some (.next s1.2)) (fun r => some r)) = foldS bd s (edgesFrom c i k)
  | 0, i, s, h => by
    rw [loopω_eq, show i = c.Chans.length by omega]
    simp only [G_flow_Edges_1.b1, lt_f, cond_false]
    rfl
  | k + 1, i, s, h => by
    have hi : i < c.Chans.length := by omega
    rw [loopω_eq]
    simp only [G_flow_Edges_1.b1, lt_t hi, cond_true, inb_n hi, req_t, w1 hi hc]
    have he : edgesFrom c i (k + 1) = edg (rd c.Chans (i : Int)) ++ edgesFrom c (i + 1) k := by
      unfold edgesFrom; rw [List.range'_succ, List.flatMap_cons]
    rw [he, foldS_append]
    have ih := fun s => edges_loop bd s0 c hc k (i + 1) s (by omega)
    cases hk : ((rd c.Chans (i : Int)).Kind == 2)
    · simp only [edg, hk, Bool.false_eq_true, if_false, cond_false, foldS_cons, foldS_nil]
      cases bd s ((rd c.Chans (i : Int)).From, (rd c.Chans (i : Int)).To) with
      | none => rfl
      | some z =>
        cases z with
        | next s' => simp only [Option.bind_some, Stp.on_next]; exact ih s'
        | out r => rfl
    · simp only [edg, hk, if_true, cond_true, foldS_cons, foldS_nil]
      cases bd s ((rd c.Chans (i : Int)).From, (rd c.Chans (i : Int)).To) with
      | none => rfl
      | some z =>
        cases z with
        | next s' =>
          simp only [Option.bind_some, Stp.on_next]
          cases bd s' ((rd c.Chans (i : Int)).To, (rd c.Chans (i : Int)).From) with
          | none => rfl
          | some z =>
            cases z with
            | next s'' => simp only [Option.bind_some, Stp.on_next]; exact ih s''
            | out r => rfl
        | out r => rfl
theorem edges_ok {σt R : Type} (bd : σt → Int × Int → Option (Stp σt R)) (s0 : σt) (c : Config) (hc : c.Chans.length ≤ maxLen) : G_flow_Edges_1 bd s0 c = foldS bd s0 (edgesOf c) :=
  edges_loop bd s0 c hc c.Chans.length 0 s0 (by omega)
inductive Reach (E : List (Int × Int)) (p : Int) : Int → Prop
  | refl : Reach E p p
  | step {f t : Int} : Reach E p t → (f, t) ∈ E → Reach E p f
theorem Reach.first {E : List (Int × Int)} {p q : Int} (h : Reach E p q) : q = p ∨ ∃ t, (q, t) ∈ E ∧ Reach E p t := by
  cases h with
  | refl => exact .inl rfl
  | step h1 h2 => exact .inr ⟨_, h2, h1⟩
theorem Reach.trans {E : List (Int × Int)} {p q r : Int} (h : Reach E p q) (k : Reach E q r) : Reach E p r := by
  induction k with
  | refl => exact h
  | step _ h2 ih => exact .step ih h2
def InE (n : Nat) (E : List (Int × Int)) : Prop := ∀ x ∈ E, (0 ≤ x.1 ∧ x.1 < n) ∧ (0 ≤ x.2 ∧ x.2 < n)
theorem r2_fold (c : Config) (p : Int) (s1 : List Bool) (t : Config) (s : List Bool) : ∀ (E : List (Int × Int)), InE s.length E →
    (foldS (G_flow_Into.r2 c p s1 t) s E = some (.next s) ∧ ∀ x ∈ E, rd s x.2 = true → rd s x.1 = true) ∨ (∃ x ∈ E, rd s x.2 = true ∧ rd s x.1 = false ∧ foldS (G_flow_Into.r2 c p s1 t) s E = some (.out (0, s.set x.1.toNat true)))
  | [], h => .inl ⟨rfl, fun x hx => by simp at hx⟩
  | (f, t') :: E, h => by
    obtain ⟨⟨h1, h2⟩, h3, h4⟩ := h (f, t') (by simp)
    have hf : inb f s.length = true := inb_of h1 h2
    have ht : inb t' s.length = true := inb_of h3 h4
    rw [foldS_cons]
    have e : G_flow_Into.r2 c p s1 t s (f, t') = (bif (rd s t' && !(rd s f)) then some (.out (0, s.set f.toNat true)) else some (.next s)) := by
      unfold G_flow_Into.r2
      simp only [hf, ht, req_t, show ∀ x, imp x true = true from fun x => by simp [imp]]
    rw [e]
    cases hb : (rd s t' && !(rd s f))
    · simp only [cond_false, Option.bind_some, Stp.on_next]
      rcases r2_fold c p s1 t s E (fun x hx => h x (by simp [hx])) with ⟨g1, g2⟩ | ⟨x, g1, g2⟩
      · refine .inl ⟨g1, fun x hx hh => ?_⟩
        rcases List.mem_cons.1 hx with rfl | hx
        · simp only at hh ⊢
          simp [hh] at hb
          exact hb
        · exact g2 x hx hh
      · exact .inr ⟨x, by simp [g1], g2⟩
    · simp only [cond_true, Option.bind_some, Stp.on_out]
      simp at hb
      exact .inr ⟨(f, t'), by simp, hb.1, hb.2, rfl⟩
theorem rd_set {s : List Bool} {f q : Int} (hf : 0 ≤ f) (hfl : f < s.length) (hq : 0 ≤ q) : rd (s.set f.toNat true) q = if q = f then true else rd s q := by
  unfold rd
  rw [List.getD_eq_getElem?_getD, List.getD_eq_getElem?_getD, List.getElem?_set]
  by_cases h : q = f
  · subst h; rw [if_pos rfl, if_pos (by omega), if_pos rfl]; rfl
  · have : ¬ f.toNat = q.toNat := by omega
    simp [h, this]
theorem into_loop (c : Config) (p : Int) (hp : 0 ≤ p) (n : Nat) (hc : c.Chans.length ≤ maxLen) (hE : InE n (edgesOf c)) (s0 : List Bool) (h0 : s0.length = n) (h1 : rd s0 p = true) (h2 : ∀ q : Int, 0 ≤ q → rd s0 q = true → q = p) :
    ∃ s : List Bool, loopω (G_flow_Into.b1 c p) s0 = some (.brk s) ∧ s.length = n ∧ ∀ q : Int, 0 ≤ q → q < n → (rd s q = true ↔ Reach (edgesOf c) p q) := by
  obtain ⟨o, ho, s, rfl, hs⟩ := loopω_ok (B := G_flow_Into.b1 c p) (fun s => s.length = n ∧ rd s p = true ∧ ∀ q : Int, 0 ≤ q → rd s q = true → Reach (edgesOf c) p q) (fun s => s.count false)
    (fun o => ∃ s : List Bool, o = .brk s ∧ s.length = n ∧ (rd s p = true ∧ ∀ q : Int, 0 ≤ q → rd s q = true → Reach (edgesOf c) p q) ∧ ∀ x ∈ edgesOf c, rd s x.2 = true → rd s x.1 = true) (fun s ⟨e1, e2, e3⟩ => by
      unfold G_flow_Into.b1
      simp only [G_flow_Edges, Option.bind_some, edges_ok _ _ c hc]
      rcases r2_fold c p s c s (edgesOf c) (by rw [e1]; exact hE) with ⟨g1, g2⟩ | ⟨x, g1, g2, g3, g4⟩
      · right
        rw [g1]
        exact ⟨_, rfl, s, rfl, e1, ⟨e2, e3⟩, g2⟩
      · left
        rw [g4]
        obtain ⟨⟨k1, k2⟩, k3, k4⟩ := hE x g1
        have hxl : x.1 < s.length := by rw [e1]; exact k2
        have hnl : x.1.toNat < s.length := by omega
        have hget : s[x.1.toNat] = false := by
          have := g3
          unfold rd at this
          rw [List.getD_eq_getElem?_getD, List.getElem?_eq_getElem hnl] at this
          simpa using this
        refine ⟨_, rfl, ⟨by rw [List.length_set]; exact e1, ?_, fun q hq hr => ?_⟩, ?_⟩
        · rw [rd_set k1 hxl hp]; split
          · rfl
          · exact e2
        · rw [rd_set k1 hxl hq] at hr
          split at hr
          · rename_i hqx; subst hqx; exact .step (e3 x.2 k3 g2) g1
          · exact e3 q hq hr
        · have hpos : 0 < s.count false := List.count_pos_iff.2 (hget ▸ List.getElem_mem hnl)
          rw [List.count_set hnl, hget]
          simp; omega) s0 ⟨h0, h1, fun q hq hr => by rw [h2 q hq hr]; exact .refl⟩
  refine ⟨s, ho, hs.1, fun q hq hqn => ⟨hs.2.1.2 q hq, fun hr => ?_⟩⟩
  have : ∀ r : Int, Reach (edgesOf c) p r → rd s r = true := by
    intro r hr
    induction hr with
    | refl => exact hs.2.1.1
    | step _ h2 ih => exact hs.2.2 _ h2 ih
  exact this q hr
theorem tell_loop (c : Config) (p : Int) (s : List Bool) (hs : s.length ≤ 1000) : ∀ (k i : Nat) (out : List Int), i + k = s.length → out.length ≤ i →
    ((loopω (G_flow_Into.b3 c p s) ((i : Int), out)).bind fun o => o.on (fun s3 => some s3.2) (fun r => some r)) = some (out ++ ((List.range' i k).filter fun (j : Nat) => rd s (j : Int)).map Int.ofNat)
  | 0, i, out, h, ho => by
    rw [loopω_eq, show i = s.length by omega]
    unfold G_flow_Into.b3
    rw [lt_f]
    simp
  | k + 1, i, out, h, ho => by
    have hi : i < s.length := by omega
    rw [loopω_eq, List.range'_succ]
    simp only [G_flow_Into.b3, lt_t hi, cond_true, inb_n hi, req_t, w1 hi (show s.length ≤ maxLen by simp only [maxLen]; omega), show decide ((out.length + 1) * 8 ≤ 140737488355328) = true by simp; omega]
    cases hr : rd s (i : Int)
    · simp only [cond_false]
      have := tell_loop c p s hs k (i + 1) out (by omega) (by omega)
      rw [this]
      simp [hr]
    · simp only [cond_true]
      have := tell_loop c p s hs k (i + 1) (out ++ [(i : Int)]) (by omega) (by simp; omega)
      rw [this]
      simp [hr]
theorem into_ok (c : Config) (p : Int) (hn : c.Parts.length ≤ 1000) (hc : c.Chans.length ≤ maxLen) (hE : InE c.Parts.length (edgesOf c)) (h0 : 0 ≤ p) (h1 : p < c.Parts.length) :
    ∃ R : Nat → Bool, (∀ q, q < c.Parts.length → (R q = true ↔ Reach (edgesOf c) p (q : Int))) ∧ G_flow_Into c p = some (((List.range c.Parts.length).filter R).map Int.ofNat) := by
  have hlen : (List.replicate ((c.Parts.length : Int) : Int).toNat (false : Bool)).length = c.Parts.length := by simp
  have hrep : ∀ q : Int, rd (List.replicate ((c.Parts.length : Int) : Int).toNat (false : Bool)) q = false := by
    intro q
    unfold rd
    rw [List.getD_eq_getElem?_getD, List.getElem?_replicate]
    split <;> rfl
  obtain ⟨s, hs, hsl, hr⟩ := into_loop c p h0 c.Parts.length hc hE ((List.replicate ((c.Parts.length : Int) : Int).toNat (false : Bool)).set p.toNat true) (by rw [List.length_set]; exact hlen)
    (by rw [rd_set h0 (by rw [hlen]; exact h1) h0]; simp) (fun q hq hh => by
      rw [rd_set h0 (by rw [hlen]; exact h1) hq, hrep] at hh
      simpa using hh)
  refine ⟨fun q => rd s (q : Int), fun q hq => hr q (by omega) (by omega), ?_⟩
  unfold G_flow_Into
  rw [show (decide (p < 0) || decide (p ≥ (c.Parts.length : Int))) = false by simp; omega, cond_false]
  rw [show (decide (0 ≤ (c.Parts.length : Int)) && decide (((c.Parts.length : Int) : Int).toNat * (1 + 1) ≤ 16777216)) = true by simp; omega, req_t]
  rw [show inb p (List.replicate ((c.Parts.length : Int) : Int).toNat (false : Bool)).length = true by rw [hlen]; exact inb_of h0 h1, req_t, hs]
  simp only [Option.bind_some, Ex.on_brk]
  have := tell_loop c p s (by omega) s.length 0 [] (by omega) (by simp)
  rw [show ((0 : Nat) : Int) = 0 from rfl] at this
  rw [this, hsl, List.range_eq_range']
  simp
theorem eqv_loop {B : Int × Bool → Option (Stp (Int × Bool) (Ex (Int × Bool) Bool))} {n : Nat} {t : Nat → Bool} (h1 : ∀ i : Nat, i < n → B ((i : Int), false) = bif t i then some (.out (.ret false)) else some (.next (((i + 1 : Nat) : Int), false))) (h2 : B ((n : Int), false) = some (.out (.brk ((n : Int), false)))) :
    ∀ (k i : Nat), i + k = n → ((loopω B ((i : Int), false)).bind fun o => o.on (fun s1 => some true) (fun r => some r)) = some (!((List.range' i k).any t))
  | 0, i, h => by rw [loopω_eq, show i = n by omega, h2]; rfl
  | k + 1, i, h => by
    rw [loopω_eq, h1 i (by omega), List.range'_succ]
    cases ht : t i
    · simp only [cond_false, List.any_cons, ht, Bool.false_or]
      exact eqv_loop h1 h2 k (i + 1) (by omega)
    · simp [ht]
theorem eq_of_rd {a b : List Int} (hl : a.length = b.length) : (!((List.range' 0 a.length).any fun i => rd a (i : Int) != rd b (i : Int))) = decide (a = b) := by
  rw [Bool.eq_iff_iff]
  simp only [Bool.not_eq_true', List.any_eq_false, decide_eq_true_iff, bne_iff_ne, ne_eq, Decidable.not_not]
  constructor
  · intro h
    apply List.ext_getElem hl
    intro i h1 h2
    have := h i (by rw [List.mem_range'_1]; omega)
    unfold rd at this
    simpa [List.getElem?_eq_getElem h1, List.getElem?_eq_getElem h2] using this
  · rintro rfl i _; rfl
theorem same01 (a b : List Int) (ha : a.length ≤ maxLen) : G_ref01_Same a b = some (decide (a = b)) := by
  unfold G_ref01_Same
  by_cases hl : a.length = b.length
  · rw [show ((a.length : Int) != (b.length : Int)) = false by simp [hl], cond_false, ← eq_of_rd hl]
    exact eqv_loop (n := a.length) (t := fun i => rd a (i : Int) != rd b (i : Int)) (fun i hi => by
      unfold G_ref01_Same.b1
      simp only [lt_t hi, inb_n hi, inb_n (show i < b.length by omega), cond_true, req_t, w1 hi ha]) (by unfold G_ref01_Same.b1; rw [lt_f]; rfl) a.length 0 (by omega)
  · rw [show ((a.length : Int) != (b.length : Int)) = true by simp; omega, show decide (a = b) = false by simp; intro h; exact hl (by rw [h])]
    rfl
theorem two_edges (x : Chan) (c : Config) (h : G_law21_two x = some c) : c.Parts.length = 2 ∧ edgesOf c = edg x ∧ c.Chans.length = 1 := by
  unfold G_law21_two at h
  simp only [Option.some.injEq] at h
  subst h
  refine ⟨rfl, ?_, rfl⟩
  simp [edgesOf, edgesFrom, rd]
theorem wakes21 : G_law21_wakes = some true := by
  unfold G_law21_wakes
  obtain ⟨c1, h1⟩ : ∃ c, G_law21_two (⟨1, 0, 1, 1, 0, 0, 0⟩ : Chan) = some c := ⟨_, rfl⟩
  obtain ⟨c2, h2⟩ : ∃ c, G_law21_two (⟨2, 0, 1, 1, 1, 0, 0⟩ : Chan) = some c := ⟨_, rfl⟩
  obtain ⟨a1, a2, a3⟩ := two_edges _ _ h1
  obtain ⟨b1, b2, b3⟩ := two_edges _ _ h2
  have e1 : edgesOf c1 = [(0, 1)] := a2
  have e2 : edgesOf c2 = [(0, 1), (1, 0)] := b2
  have i1 : InE c1.Parts.length (edgesOf c1) := by rw [e1, a1]; intro x hx; simp at hx; subst hx; simp
  have i2 : InE c2.Parts.length (edgesOf c2) := by rw [e2, b1]; intro x hx; simp at hx; rcases hx with rfl | rfl <;> simp
  obtain ⟨R1, r1, q1⟩ := into_ok c1 1 (by omega) (by simp only [maxLen]; omega) i1 (by omega) (by omega)
  obtain ⟨R2, r2, q2⟩ := into_ok c1 0 (by omega) (by simp only [maxLen]; omega) i1 (by omega) (by omega)
  obtain ⟨R3, r3, q3⟩ := into_ok c2 0 (by omega) (by simp only [maxLen]; omega) i2 (by omega) (by omega)
  rw [a1] at r1 r2 q1 q2
  rw [b1] at r3 q3
  rw [e1] at r1 r2
  rw [e2] at r3
  have t10 : R1 0 = true := (r1 0 (by omega)).2 (.step .refl (by simp))
  have t11 : R1 1 = true := (r1 1 (by omega)).2 .refl
  have t20 : R2 0 = true := (r2 0 (by omega)).2 .refl
  have t21 : R2 1 = false := by
    cases hh : R2 1
    · rfl
    · rcases ((r2 1 (by omega)).1 hh).first with h | ⟨t, h, _⟩
      · simp at h
      · simp at h
  have t30 : R3 0 = true := (r3 0 (by omega)).2 .refl
  have t31 : R3 1 = true := (r3 1 (by omega)).2 (.step .refl (by simp))
  have l1 : ((List.range 2).filter R1).map Int.ofNat = [0, 1] := by simp [List.range_succ, List.filter, t10, t11]
  have l2 : ((List.range 2).filter R2).map Int.ofNat = [0] := by simp [List.range_succ, List.filter, t20, t21]
  have l3 : ((List.range 2).filter R3).map Int.ofNat = [0, 1] := by simp [List.range_succ, List.filter, t30, t31]
  rw [l1] at q1
  rw [l2] at q2
  rw [l3] at q3
  rw [h1, h2]
  simp only [Option.bind_some, q1, q2, q3]
  rw [same01 _ _ (by simp [maxLen]), same01 _ _ (by simp [maxLen])]
  rfl
theorem acc_in {c : Config} (h : Acc c) : InE c.Parts.length (edgesOf c) := by
  intro x hx
  unfold edgesOf edgesFrom at hx
  obtain ⟨j, hj, hx⟩ := List.mem_flatMap.1 hx
  rw [List.mem_range'_1] at hj
  obtain ⟨h1, h2⟩ := h.ends j (by omega)
  unfold edg at hx
  split at hx
  · simp at hx
    rcases hx with rfl | rfl
    · exact ⟨h1, h2⟩
    · exact ⟨h2, h1⟩
  · simp at hx
    subst hx
    exact ⟨h1, h2⟩
end Go.Proofs.Ytnfnincmhobpaab
