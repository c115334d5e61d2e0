/- The plain law behind FlowInto. -/
import Derived.Test.YtnfnincmhobpaabPureInto
set_option linter.unusedVariables false
set_option linter.unusedSimpArgs false
namespace Go.Proofs.Ytnfnincmhobpaab
open Go Go.RowKit Go.Eng
abbrev mkE (x : Int × Int) : Portholeref21_Edge := ⟨x.1, x.2⟩
theorem refEdges_loop (c : Config) (hc : c.Chans.length ≤ 8) : ∀ (k i : Nat) (out : List Portholeref21_Edge), i + k = c.Chans.length → out.length ≤ 2 * i →
    ((loopω (G_ref21_Edges.b1 c) ((i : Int), out)).bind fun o => o.on (fun s1 => some s1.2) (fun r => some r)) = some (out ++ (edgesFrom c i k).map mkE)
  | 0, i, out, h, ho => by
    rw [loopω_eq, show i = c.Chans.length by omega]
    simp only [G_ref21_Edges.b1, lt_f, cond_false]
    simp [edgesFrom]
  | k + 1, i, out, h, ho => by
    have hi : i < c.Chans.length := by omega
    rw [loopω_eq]
    have he : edgesFrom c i (k + 1) = edg (rd c.Chans (i : Int)) ++ edgesFrom c (i + 1) k := by
      unfold edgesFrom; rw [List.range'_succ, List.flatMap_cons]
    rw [he]
    simp only [G_ref21_Edges.b1, lt_t hi, cond_true, inb_n hi, req_t, w1 hi (show c.Chans.length ≤ maxLen by simp only [maxLen]; omega)]
    rw [show decide ((out.length + 1) * 16 ≤ 140737488355328) = true by simp; omega]
    simp only [req_t]
    cases hk : ((rd c.Chans (i : Int)).Kind == 2)
    · simp only [cond_false]
      have := refEdges_loop c hc k (i + 1) (out ++ [(⟨(rd c.Chans (i : Int)).From, (rd c.Chans (i : Int)).To⟩ : Portholeref21_Edge)]) (by omega) (by simp; omega)
      rw [this]
      simp [edg, hk]
    · simp only [cond_true]
      rw [show decide (((out ++ [(⟨(rd c.Chans (i : Int)).From, (rd c.Chans (i : Int)).To⟩ : Portholeref21_Edge)]).length + 1) * 16 ≤ 140737488355328) = true by simp; omega]
      simp only [req_t]
      have := refEdges_loop c hc k (i + 1) ((out ++ [(⟨(rd c.Chans (i : Int)).From, (rd c.Chans (i : Int)).To⟩ : Portholeref21_Edge)]) ++ [(⟨(rd c.Chans (i : Int)).To, (rd c.Chans (i : Int)).From⟩ : Portholeref21_Edge)]) (by omega) (by simp; omega)
      rw [this]
      simp [edg, hk]
theorem refEdges_ok (c : Config) (hc : c.Chans.length ≤ 8) : G_ref21_Edges c = some ((edgesOf c).map mkE) := by
  have := refEdges_loop c hc c.Chans.length 0 [] (by omega) (by simp)
  simpa [G_ref21_Edges, edgesOf] using this
theorem edges_len (c : Config) : (edgesOf c).length ≤ 2 * c.Chans.length := by
  unfold edgesOf edgesFrom
  have key : ∀ (l : List Nat), (l.flatMap fun (j : Nat) => edg (rd c.Chans (j : Int))).length ≤ 2 * l.length := by
    intro l
    induction l with
    | nil => simp
    | cons x l ih =>
      rw [List.flatMap_cons, List.length_append, List.length_cons]
      have : (edg (rd c.Chans (x : Int))).length ≤ 2 := by unfold edg; split <;> simp
      omega
  have := key (List.range' 0 c.Chans.length)
  simpa using this
theorem told_fold (x0 : Config) (a1 : Int) (m : Nat) (hm : m ≤ 255) (b1 b2 b3 : Bool) (t : Config) (L : List (Int × Int)) (hL : L.length ≤ 16) : ∀ (l pre : List (Int × Int)), pre ++ l = L → pre.length ≤ m →
    (foldS (G_law21_FlowInto.r1 x0 a1 (m : Int) b1 b2 b3 (L.map mkE) t) (false, (pre.length : Int)) l = some (.next (false, ((min m L.length : Nat) : Int)))) ∨ (foldS (G_law21_FlowInto.r1 x0 a1 (m : Int) b1 b2 b3 (L.map mkE) t) (false, (pre.length : Int)) l = some (.out (0, (false, ((min m L.length : Nat) : Int)))))
  | [], pre, h, hp => by
    left
    rw [List.append_nil] at h
    subst h
    rw [Nat.min_eq_right hp]; rfl
  | x :: l, pre, h, hp => by
    have hlt : pre.length < L.length := by rw [← h]; simp
    have ew : IntKind.i64.wrap (m : Int) = (m : Int) := w64 (by omega) (by omega)
    have hx : rd (L.map mkE) (pre.length : Int) = mkE x := by
      unfold rd
      rw [← h]
      simp
    have step : G_law21_FlowInto.r1 x0 a1 (m : Int) b1 b2 b3 (L.map mkE) t (false, (pre.length : Int)) x = if m ≤ pre.length then some (.out (0, (false, (pre.length : Int)))) else some (.next (false, ((pre ++ [x]).length : Int))) := by
      unfold G_law21_FlowInto.r1
      simp only [ew]
      by_cases hc : m ≤ pre.length
      · rw [show decide ((pre.length : Int) ≥ (m : Int)) = true by simp; omega, if_pos hc]; rfl
      · rw [show decide ((pre.length : Int) ≥ (m : Int)) = false by simp; omega, if_neg hc, cond_false]
        rw [show (decide ((pre.length : Int) ≥ ((L.map mkE).length : Int))) = false by simp; omega]
        rw [show inb (pre.length : Int) (L.map mkE).length = true from inb_of (by omega) (by simp; omega)]
        rw [show imp (!false) true = true by rfl, req_t, hx]
        rw [show eqb_Portholeref21_Edge (mkE x) (⟨x.1, x.2⟩ : Portholeref21_Edge) = true by simp [eqb_Portholeref21_Edge]]
        rw [show IntKind.i64.wrap ((pre.length : Int) + 1) = ((pre ++ [x]).length : Int) by rw [w64 (by omega) (by omega)]; simp]
        rfl
    rw [foldS_cons, step]
    by_cases hc : m ≤ pre.length
    · right
      rw [if_pos hc]
      have : min m L.length = pre.length := by omega
      rw [this]; rfl
    · rw [if_neg hc]
      simp only [Option.bind_some, Stp.on_next]
      exact told_fold x0 a1 m hm b1 b2 b3 t L hL l (pre ++ [x]) (by rw [← h]; simp) (by simp; omega)
/-- a way of at most so many edges -/
def lead (E : List (Int × Int)) (p : Int) : Nat → Int → Bool
  | 0, q => q == p
  | m + 1, q => (q == p) || E.any fun e => e.1 == q && lead E p m e.2
theorem lead_mono {E : List (Int × Int)} {p : Int} : ∀ (m : Nat) (q : Int), lead E p m q = true → lead E p (m + 1) q = true
  | 0, q, h => by
    simp only [lead] at h
    simp only [lead, h, Bool.true_or]
  | m + 1, q, h => by
    rw [lead] at h
    rw [lead]
    simp only [Bool.or_eq_true, List.any_eq_true, Bool.and_eq_true] at h ⊢
    rcases h with h | ⟨e, h1, h2, h3⟩
    · exact .inl h
    · exact .inr ⟨e, h1, h2, lead_mono m e.2 h3⟩
theorem lead_le {E : List (Int × Int)} {p : Int} {q : Int} {m : Nat} (h : lead E p m q = true) : ∀ k, lead E p (m + k) q = true
  | 0 => h
  | k + 1 => lead_mono (m + k) q (lead_le h k)
theorem lead_reach {E : List (Int × Int)} {p : Int} : ∀ (m : Nat) (q : Int), lead E p m q = true → Reach E p q
  | 0, q, h => by simp only [lead, beq_iff_eq] at h; subst h; exact .refl
  | m + 1, q, h => by
    rw [lead] at h
    simp only [Bool.or_eq_true, beq_iff_eq, List.any_eq_true, Bool.and_eq_true] at h
    rcases h with rfl | ⟨e, h1, rfl, h3⟩
    · exact .refl
    · exact .step (lead_reach m e.2 h3) h1
theorem countP_lt {α : Type} {a b : α → Bool} : ∀ (l : List α), (∀ x ∈ l, a x = true → b x = true) → (∃ x ∈ l, b x = true ∧ a x = false) → l.countP a < l.countP b
  | [], _, ⟨x, hx, _⟩ => by simp at hx
  | y :: l, h, ⟨x, hx, h1, h2⟩ => by
    have hle : l.countP a ≤ l.countP b := List.countP_mono_left fun z hz => h z (by simp [hz])
    rw [List.countP_cons, List.countP_cons]
    rcases List.mem_cons.1 hx with rfl | hx
    · rw [h1, h2]; simp; omega
    · have := countP_lt l (fun z hz => h z (by simp [hz])) ⟨x, hx, h1, h2⟩
      cases ha : a y
      · simp; omega
      · rw [h y (by simp) ha]; simp; omega
theorem lead_all {E : List (Int × Int)} {p : Int} {n : Nat} (hE : InE n E) (h0 : 0 ≤ p) (h1 : p < n) (q : Int) (h : Reach E p q) : lead E p n q = true := by
  have key : ∀ m : Nat, (∃ j, j < m ∧ ∀ q : Nat, q < n → lead E p (j + 1) (q : Int) = true → lead E p j (q : Int) = true) ∨ m + 1 ≤ (List.range n).countP (fun (q : Nat) => lead E p m (q : Int)) := by
    intro m
    induction m with
    | zero =>
      right
      have : 0 < (List.range n).countP (fun (q : Nat) => lead E p 0 (q : Int)) := List.countP_pos_iff.2 ⟨p.toNat, List.mem_range.2 (by omega), by simp [lead]; omega⟩
      omega
    | succ m ih =>
      rcases ih with ⟨j, hj, hs⟩ | hc
      · exact .inl ⟨j, by omega, hs⟩
      · by_cases hst : ∀ q : Nat, q < n → lead E p (m + 1) (q : Int) = true → lead E p m (q : Int) = true
        · exact .inl ⟨m, by omega, hst⟩
        · right
          simp only [Classical.not_forall] at hst
          obtain ⟨q, hq, hq1, hq2⟩ := hst
          have := countP_lt (a := fun (q : Nat) => lead E p m (q : Int)) (b := fun (q : Nat) => lead E p (m + 1) (q : Int)) (List.range n) (fun x _ hx => lead_mono m _ hx) ⟨q, List.mem_range.2 hq, hq1, by simpa using hq2⟩
          omega
  rcases key n with ⟨j, hj, hs⟩ | hc
  · have : ∀ r : Int, Reach E p r → lead E p j r = true := by
      intro r hr
      induction hr with
      | refl => cases j <;> simp [lead]
      | @step f t _ h2 ih =>
        obtain ⟨⟨f0, f1⟩, _⟩ := hE _ h2
        simp only at f0 f1
        have h3 : lead E p (j + 1) f = true := by
          rw [lead]
          simp only [Bool.or_eq_true, List.any_eq_true, Bool.and_eq_true, beq_iff_eq]
          exact .inr ⟨(f, t), h2, rfl, ih⟩
        have := hs f.toNat (by omega)
        rw [Int.toNat_of_nonneg f0] at this
        exact this h3
    have h4 := lead_le (this q h) (n - j)
    rwa [show j + (n - j) = n by omega] at h4
  · have : (List.range n).countP (fun (q : Nat) => lead E p n (q : Int)) ≤ n := by
      have := List.countP_le_length (p := fun (q : Nat) => lead E p n (q : Int)) (l := List.range n)
      simpa using this
    omega
def via (E : List (Int × Int)) (p : Int) (m : Nat) (q : Int) (i k : Nat) : Bool := (List.range' i k).any fun (j : Nat) => (E.getD j (0, 0)).1 == q && lead E p m (E.getD j (0, 0)).2
theorem leads_loop (E : List (Int × Int)) (hE : E.length ≤ 16) (p : Int) (m : Nat) (hm : m ≤ 100) (self_ : List Portholeref21_Edge → Int → Int → Int → Option Bool) (q : Int)
    (hs : ∀ t, self_ (E.map mkE) t p (m : Int) = some (lead E p m t) ∨ self_ (E.map mkE) t p (m : Int) = none) : ∀ (k i : Nat), i + k = E.length →
    (((loopω (G_ref21_leads.b1 self_ (E.map mkE) q p ((m + 1 : Nat) : Int)) ((i : Int), false)).bind fun o => o.on (fun s1 => some false) (fun r => some r)) = some (via E p m q i k)) ∨
    ((∃ t, self_ (E.map mkE) t p (m : Int) = none) ∧ ((loopω (G_ref21_leads.b1 self_ (E.map mkE) q p ((m + 1 : Nat) : Int)) ((i : Int), false)).bind fun o => o.on (fun s1 => some false) (fun r => some r)) = none)
  | 0, i, h => by
    left
    rw [loopω_eq]
    have : decide ((i : Int) < ((E.map mkE).length : Int)) = false := by simp; omega
    simp only [G_ref21_leads.b1, this, Bool.false_and, cond_false]
    simp [via]
  | k + 1, i, h => by
    have hi : i < E.length := by omega
    have hi2 : i < (E.map mkE).length := by simpa using hi
    have hx : rd (E.map mkE) (i : Int) = mkE (E.getD i (0, 0)) := by
      unfold rd
      simp [List.getElem?_eq_getElem hi]
    have hw : IntKind.i64.wrap (((m + 1 : Nat) : Int) - 1) = (m : Int) := by rw [w64 (by omega) (by omega)] <;> omega
    have hv : via E p m q i (k + 1) = ((E.getD i (0, 0)).1 == q && lead E p m (E.getD i (0, 0)).2 || via E p m q (i + 1) k) := by
      unfold via; rw [List.range'_succ, List.any_cons]
    rw [loopω_eq, hv]
    have ih := leads_loop E hE p m hm self_ q hs k (i + 1) (by omega)
    simp only [G_ref21_leads.b1, lt_t hi2, inb_n hi2, hx, hw, show decide (((m + 1 : Nat) : Int) > 0) = true by rw [decide_eq_true_iff]; omega, Bool.and_self, cond_true, req_t, show ∀ x, imp x true = true from fun x => by simp [imp], w1 hi2 (show (E.map mkE).length ≤ maxLen by simp [maxLen]; omega)]
    cases hq : ((E.getD i (0, 0)).1 == q)
    · simp only [cal_f, Option.bind_some, Bool.false_and, cond_false, Bool.false_or]
      exact ih
    · simp only [cal_t, Bool.true_and]
      rcases hs (E.getD i (0, 0)).2 with h2 | h2
      · rw [h2]
        simp only [Option.bind_some]
        cases lead E p m (E.getD i (0, 0)).2
        · simp only [cond_false, Bool.false_or]; exact ih
        · left; rfl
      · right
        rw [h2]
        exact ⟨⟨_, h2⟩, rfl⟩
theorem via_any (E : List (Int × Int)) (p : Int) (m : Nat) (q : Int) : via E p m q 0 E.length = E.any fun e => e.1 == q && lead E p m e.2 := by
  unfold via
  rw [Bool.eq_iff_iff, List.any_eq_true, List.any_eq_true]
  constructor
  · rintro ⟨j, hj, h⟩
    rw [List.mem_range'_1] at hj
    refine ⟨E.getD j (0, 0), ?_, h⟩
    rw [List.getD_eq_getElem?_getD, List.getElem?_eq_getElem (by omega)]
    simp
  · rintro ⟨e, he, h⟩
    obtain ⟨j, hj, rfl⟩ := List.mem_iff_getElem.1 he
    refine ⟨j, by rw [List.mem_range'_1]; omega, ?_⟩
    rw [List.getD_eq_getElem?_getD, List.getElem?_eq_getElem hj]
    exact h
theorem leads_n (E : List (Int × Int)) (hE : E.length ≤ 16) (p : Int) : ∀ (k m : Nat) (q : Int), m ≤ 100 → (G_ref21_leads.n k (E.map mkE) q p (m : Int) = some (lead E p m q)) ∨ (k ≤ m ∧ G_ref21_leads.n k (E.map mkE) q p (m : Int) = none)
  | 0, m, q, hm => .inr ⟨by omega, rfl⟩
  | k + 1, m, q, hm => by
    show (G_ref21_leads.step (G_ref21_leads.n k) (E.map mkE) q p (m : Int) = _) ∨ (_ ∧ G_ref21_leads.step (G_ref21_leads.n k) (E.map mkE) q p (m : Int) = none)
    unfold G_ref21_leads.step
    cases hq : (q == p)
    · simp only [cond_false]
      cases m with
      | zero =>
        left
        rw [loopω_eq]
        simp only [G_ref21_leads.b1, show decide (((0 : Nat) : Int) > 0) = false by simp, Bool.and_false, cond_false]
        simp [lead, hq]
      | succ m =>
        have ih := fun t => leads_n E hE p k m t (by omega)
        rcases leads_loop E hE p m (by omega) (G_ref21_leads.n k) q (fun t => (ih t).imp id And.right) E.length 0 (by omega) with h | ⟨⟨t, ht⟩, h⟩
        · left
          rw [show ((0 : Nat) : Int) = 0 from rfl] at h
          rw [h, via_any, lead, hq, Bool.false_or]
        · right
          rw [show ((0 : Nat) : Int) = 0 from rfl] at h
          refine ⟨?_, h⟩
          rcases ih t with h2 | ⟨h2, _⟩
          · rw [h2] at ht; cases ht
          · omega
    · left
      have : lead E p m q = true := by cases m <;> simp [lead, hq]
      rw [this]; rfl
theorem leads_ok (E : List (Int × Int)) (hE : E.length ≤ 16) (p q : Int) (m : Nat) (hm : m ≤ 100) : G_ref21_leads (E.map mkE) q p (m : Int) = some (lead E p m q) := by
  unfold G_ref21_leads
  refine recω_of (n := m + 1) ?_ (fun k r' h => ?_)
  · rcases leads_n E hE p (m + 1) m q hm with h | ⟨h, _⟩
    · exact h
    · omega
  · rcases leads_n E hE p k m q hm with h2 | ⟨_, h2⟩
    · rw [h2] at h; exact (Option.some.inj h).symm
    · rw [h2] at h; cases h
theorem refInto_loop (c : Config) (p : Int) (hn : c.Parts.length ≤ 6) (hE : (edgesOf c).length ≤ 16) : ∀ (k i : Nat) (out : List Int), i + k = c.Parts.length → out.length ≤ i →
    ((loopω (G_ref21_Into.b1 c p ((edgesOf c).map mkE)) ((i : Int), out)).bind fun o => o.on (fun s1 => some s1.2) (fun r => some r)) = some (out ++ ((List.range' i k).filter fun (j : Nat) => lead (edgesOf c) p c.Parts.length (j : Int)).map Int.ofNat)
  | 0, i, out, h, ho => by
    rw [loopω_eq, show i = c.Parts.length by omega]
    simp only [G_ref21_Into.b1, lt_f, cond_false]
    simp
  | k + 1, i, out, h, ho => by
    have hi : i < c.Parts.length := by omega
    rw [loopω_eq, List.range'_succ]
    simp only [G_ref21_Into.b1, lt_t hi, cond_true, leads_ok (edgesOf c) hE p (i : Int) c.Parts.length (by omega), Option.bind_some, w1 hi (show c.Parts.length ≤ maxLen by simp only [maxLen]; omega), show decide ((out.length + 1) * 8 ≤ 140737488355328) = true by simp; omega, req_t]
    cases hr : lead (edgesOf c) p c.Parts.length (i : Int)
    · simp only [cond_false]
      rw [refInto_loop c p hn hE k (i + 1) out (by omega) (by omega)]
      simp [hr]
    · simp only [cond_true]
      rw [refInto_loop c p hn hE k (i + 1) (out ++ [(i : Int)]) (by omega) (by simp; omega)]
      simp [hr]
theorem pureFlowInto (x0 : Config) (a1 : Int) (a2 : Int) (w0 : wf_Config x0) (w1' : InK .i64 a1) (w2 : InK .u8 a2) : G_law21_FlowInto x0 a1 a2 = some true := by
  have hwf := wfc_of w0
  unfold G_law21_FlowInto
  rw [wakes21]
  simp only [Option.bind_some, Bool.not_true, cond_false, G_ref06_Great]
  generalize (((decide ((x0.Parts.length : Int) > 100) || decide ((x0.Chans.length : Int) > 100)) || decide ((x0.Frames.e0.Windows.length : Int) > 100)) || decide ((x0.Frames.e1.Windows.length : Int) > 100)) = g
  obtain ⟨b, hb, hacc⟩ := accepts_ok x0 hwf
  rw [hb]
  cases g
  case true => rfl
  cases b
  case false => rfl
  simp only [Bool.not_false, cal_t, Option.bind_some, Bool.not_true, Bool.or_self, cond_false]
  have hA := hacc rfl
  have hn := hA.parts.2
  have hch := hA.chans
  have hcm : x0.Chans.length ≤ maxLen := hwf.2.1
  have hel : (edgesOf x0).length ≤ 16 := by have := edges_len x0; omega
  obtain ⟨m0, m9⟩ := w2.u8
  obtain ⟨m, rfl⟩ : ∃ m : Nat, a2 = (m : Int) := ⟨a2.toNat, by omega⟩
  have ew : IntKind.i64.wrap (m : Int) = (m : Int) := w64 (by omega) (by omega)
  simp only [refEdges_ok x0 hch, Option.bind_some, G_flow_Edges, edges_ok _ _ x0 hcm, ew]
  have hmin : mnI (m : Int) (((edgesOf x0).map mkE).length : Int) = ((min m (edgesOf x0).length : Nat) : Int) := by
    unfold mnI
    rw [List.length_map]
    split <;> omega
  have hrest : ((G_flow_Into x0 a1).bind fun t_86 => (bif (decide (a1 < 0) || decide (a1 ≥ (x0.Parts.length : Int))) then some ((t_86.length : Int) == 0) else ((G_ref21_Into x0 a1).bind fun t_100 => ((G_ref01_Same t_86 t_100).bind fun t_105 => some t_105)))) = some true := by
    cases hr : (decide (a1 < 0) || decide (a1 ≥ (x0.Parts.length : Int)))
    · simp at hr
      obtain ⟨R, hR, e1⟩ := into_ok x0 a1 (by omega) hcm (acc_in hA) hr.1 hr.2
      have e2 : G_ref21_Into x0 a1 = some (((List.range x0.Parts.length).filter fun (j : Nat) => lead (edgesOf x0) a1 x0.Parts.length (j : Int)).map Int.ofNat) := by
        unfold G_ref21_Into
        rw [refEdges_ok x0 hch, Option.bind_some]
        have := refInto_loop x0 a1 hn hel x0.Parts.length 0 [] (by omega) (by simp)
        rw [show ((0 : Nat) : Int) = 0 from rfl] at this
        rw [this, List.range_eq_range']
        simp
      rw [e1, e2]
      simp only [Option.bind_some, cond_false]
      have hfe : (List.range x0.Parts.length).filter R = (List.range x0.Parts.length).filter fun (j : Nat) => lead (edgesOf x0) a1 x0.Parts.length (j : Int) := by
        apply List.filter_congr
        intro q hq
        rw [List.mem_range] at hq
        rw [Bool.eq_iff_iff, hR q hq]
        exact ⟨fun h => lead_all (acc_in hA) hr.1 hr.2 _ h, fun h => lead_reach _ _ h⟩
      rw [← hfe, same01 _ _ (by
        rw [List.length_map]
        have := List.length_filter_le R (List.range x0.Parts.length)
        simp only [List.length_range] at this
        simp only [maxLen]; omega)]
      simp
    · unfold G_flow_Into
      rw [hr]
      rfl
  have hne : (((min m (edgesOf x0).length : Nat) : Int) != mnI (m : Int) (((edgesOf x0).map mkE).length : Int)) = false := by rw [hmin]; simp
  rcases told_fold x0 a1 m (by omega) true false true x0 (edgesOf x0) hel (edgesOf x0) [] rfl (by simp) with h | h
  · rw [show (([] : List (Int × Int)).length : Int) = 0 from rfl] at h
    rw [h]
    simp only [Option.bind_some, Stp.on_next, hne, cond_false]
    exact hrest
  · rw [show (([] : List (Int × Int)).length : Int) = 0 from rfl] at h
    rw [h]
    simp only [Option.bind_some, Stp.on_out, hne, cond_false]
    exact hrest
end Go.Proofs.Ytnfnincmhobpaab
