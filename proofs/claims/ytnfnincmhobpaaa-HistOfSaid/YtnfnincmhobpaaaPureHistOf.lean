/- The plain law behind HistOf. -/
import Derived.Test.YtnfnincmhobpaaaPureHist
set_option linter.unusedSimpArgs false
set_option linter.unusedVariables false
namespace Go.Proofs.Ytnfnincmhobpaaa
open Go Go.RowKit Go.Eng
/-- a loop that counts up over a list and finds nothing -/
theorem count_ok {R : Type} {B : Int × Bool → Option (Stp (Int × Bool) (Ex (Int × Bool) R))} {n : Nat} (h1 : ∀ i : Nat, i < n → B ((i : Int), false) = some (.next (((i + 1 : Nat) : Int), false))) (h2 : B ((n : Int), false) = some (.out (.brk ((n : Int), false)))) :
    ∀ (k i : Nat), i + k = n → loopω B ((i : Int), false) = some (.brk ((n : Int), false))
  | 0, i, h => by rw [loopω_eq]; rw [show i = n by omega, h2]
  | k + 1, i, h => by rw [loopω_eq, h1 i (by omega)]; exact count_ok h1 h2 k (i + 1) (by omega)
theorem same_self17 (a : List Int) (ha : a.length ≤ maxLen) : G_ref01_Same a a = some true := by
  unfold G_ref01_Same
  rw [show ((a.length : Int) != (a.length : Int)) = false by simp, cond_false]
  rw [show loopω (G_ref01_Same.b1 a a) (0, false) = some (.brk ((a.length : Int), false)) from count_ok (n := a.length) (fun i hi => by
    unfold G_ref01_Same.b1
    simp only [maxLen] at ha
    rw [show decide ((i : Int) < (a.length : Int)) = true by simp; omega, cond_true, inb_of (by omega) (by omega), req_t, req_t, show (rd a (i : Int) != rd a (i : Int)) = false by simp, cond_false, w64 (by omega) (by omega)]; rfl)
    (by unfold G_ref01_Same.b1; rw [show decide ((a.length : Int) < (a.length : Int)) = false by simp]; rfl) a.length 0 (by omega)]
  rfl
theorem req_self (x : Request) (hx : wf_Request x) : G_ref14_SameRequest x x = some true := by
  obtain ⟨_, _, _, ha, _⟩ := hx
  unfold G_ref14_SameRequest
  rw [show ((((x.Op != x.Op) || (x.Port != x.Port)) || (x.Addr != x.Addr)) || ((x.Data.length : Int) != (x.Data.length : Int))) = false by simp, cond_false]
  rw [show loopω (G_ref14_SameRequest.b1 x x) (0, false) = some (.brk ((x.Data.length : Int), false)) from count_ok (n := x.Data.length) (fun i hi => by
    unfold G_ref14_SameRequest.b1
    simp only [maxLen] at ha
    rw [show decide ((i : Int) < (x.Data.length : Int)) = true by simp; omega, cond_true, inb_of (by omega) (by omega), req_t, req_t, show (rd x.Data (i : Int) != rd x.Data (i : Int)) = false by simp, cond_false, w64 (by omega) (by omega)]; rfl)
    (by unfold G_ref14_SameRequest.b1; rw [show decide ((x.Data.length : Int) < (x.Data.length : Int)) = false by simp]; rfl) x.Data.length 0 (by omega)]
  rfl
theorem ans_self (x : Answer) (hx : wf_Answer x) : G_ref11_SameAnswer x x = some true := by
  obtain ⟨_, ⟨ha, _⟩, _, _⟩ := hx
  unfold G_ref11_SameAnswer
  rw [show ((((x.Code != x.Code) || (!(x.Valid == x.Valid))) || (x.Count != x.Count)) || ((x.Data.length : Int) != (x.Data.length : Int))) = false by simp, cond_false]
  rw [show loopω (G_ref11_SameAnswer.b1 x x) (0, false) = some (.brk ((x.Data.length : Int), false)) from count_ok (n := x.Data.length) (fun i hi => by
    unfold G_ref11_SameAnswer.b1
    simp only [maxLen] at ha
    rw [show decide ((i : Int) < (x.Data.length : Int)) = true by simp; omega, cond_true, inb_of (by omega) (by omega), req_t, req_t, show (rd x.Data (i : Int) != rd x.Data (i : Int)) = false by simp, cond_false, w64 (by omega) (by omega)]; rfl)
    (by unfold G_ref11_SameAnswer.b1; rw [show decide ((x.Data.length : Int) < (x.Data.length : Int)) = false by simp]; rfl) x.Data.length 0 (by omega)]
  rfl
theorem call_self (x : Call) (hx : wf_Call x) : G_ref16_SameCall x x = some true := by
  obtain ⟨_, hr, ha, _⟩ := hx
  unfold G_ref16_SameCall
  simp [req_self x.Req hr, ans_self x.Ans ha]
def mine17 (l : List Call) (p : Int) (i : Nat) : Bool := (rd l (i : Int)).Part == p
def idx17 (l : List Call) (p : Int) (i k : Nat) : List Nat := (List.range' i k).filter (mine17 l p)
theorem idx17_succ (l : List Call) (p : Int) (i k : Nat) : idx17 l p i (k + 1) = if mine17 l p i then i :: idx17 l p (i + 1) k else idx17 l p (i + 1) k := by
  unfold idx17
  rw [List.range'_succ, List.filter_cons]
theorem of_loop {σt R : Type} (bd : σt → Int × Call → Option (Stp σt R)) (s0 : σt) (l : List Call) (p : Int) (hl : l.length ≤ 60) : ∀ (k i : Nat) (s : σt), i + k = l.length →
    ((loopω (G_hist_Of_1.b1 bd s0 l p) ((i : Int), s)).bind fun o => o.on (fun s1 => some (.next s1.2)) (fun r => some r)) = foldS bd s ((idx17 l p i k).map fun (j : Nat) => ((j : Int), rd l (j : Int)))
  | 0, i, s, h => by
    rw [loopω_eq]
    unfold G_hist_Of_1.b1
    rw [show decide ((i : Int) < (l.length : Int)) = false by simp; omega]
    rfl
  | k + 1, i, s, h => by
    rw [loopω_eq, idx17_succ]
    have h4 : IntKind.i64.wrap ((i : Int) + 1) = ((i + 1 : Nat) : Int) := by rw [w64] <;> omega
    simp only [G_hist_Of_1.b1, show decide ((i : Int) < (l.length : Int)) = true by simp; omega, cond_true, inb_of (show (0 : Int) ≤ (i : Int) by omega) (show (i : Int) < l.length by omega), req_t, h4]
    have hm : ((rd l (i : Int)).Part == p) = mine17 l p i := rfl
    rw [hm]
    cases mine17 l p i
    · simp only [cond_false, Bool.false_eq_true, if_false]
      exact of_loop bd s0 l p hl k (i + 1) s (by omega)
    · simp only [cond_true, if_true, List.map_cons, foldS_cons]
      cases bd s ((i : Int), rd l (i : Int)) with
      | none => rfl
      | some z =>
        cases z with
        | next s' =>
          simp only [Option.bind_some, Stp.on_next]
          exact of_loop bd s0 l p hl k (i + 1) s' (by omega)
        | out r => rfl
theorem refOf_loop (l : List Call) (p : Int) (hl : l.length ≤ 60) : ∀ (k i : Nat) (out : List Int), i + k = l.length → out.length ≤ i →
    ((loopω (G_ref17_Of.b1 l p) ((i : Int), out)).bind fun o => o.on (fun s1 => some s1.2) (fun r => some r)) = some (out ++ (idx17 l p i k).map Int.ofNat)
  | 0, i, out, h, ho => by
    rw [loopω_eq]
    unfold G_ref17_Of.b1
    rw [show decide ((i : Int) < (l.length : Int)) = false by simp; omega]
    simp [idx17]
  | k + 1, i, out, h, ho => by
    rw [loopω_eq, idx17_succ]
    have h4 : IntKind.i64.wrap ((i : Int) + 1) = ((i + 1 : Nat) : Int) := by rw [w64] <;> omega
    have h5 : decide ((out.length + 1) * 8 ≤ 140737488355328) = true := by simp; omega
    simp only [G_ref17_Of.b1, show decide ((i : Int) < (l.length : Int)) = true by simp; omega, cond_true, inb_of (show (0 : Int) ≤ (i : Int) by omega) (show (i : Int) < l.length by omega), req_t, h4, h5]
    have hm : ((rd l (i : Int)).Part == p) = mine17 l p i := rfl
    rw [hm]
    cases mine17 l p i
    · simp only [cond_false, Bool.false_eq_true, if_false]
      exact refOf_loop l p hl k (i + 1) out (by omega) (by omega)
    · simp only [cond_true, if_true]
      have := refOf_loop l p hl k (i + 1) (out ++ [(i : Int)]) (by omega) (by simp; omega)
      simpa using this
theorem foldS_takeM {α β : Type} {f : α → β} {bd : Bool × List β → α → Option (Stp (Bool × List β) (Nat × (Bool × List β)))} {m : Nat} {b : Bool} : ∀ (l : List α) (s : List β), (∀ s x, x ∈ l → s.length ≤ m → bd (b, s) x = if m ≤ s.length then some (.out (0, (b, s))) else some (.next (b, s ++ [f x]))) → s.length ≤ m →
    (foldS bd (b, s) l = some (.next (b, s ++ (l.map f).take (m - s.length)))) ∨ (foldS bd (b, s) l = some (.out (0, (b, s ++ (l.map f).take (m - s.length)))))
  | [], s, h, hs => .inl (by simp)
  | x :: l, s, h, hs => by
    rw [foldS_cons, h s x (by simp) hs]
    split
    · right
      have : m - s.length = 0 := by omega
      simp [this]
    · rename_i hlt
      have ih := foldS_takeM (f := f) (bd := bd) (m := m) (b := b) l (s ++ [f x]) (fun s x hx => h s x (by simp [hx])) (by simp; omega)
      obtain ⟨k, hk⟩ : ∃ k, m - s.length = k + 1 := ⟨m - s.length - 1, by omega⟩
      have hk2 : m - (s ++ [f x]).length = k := by simp; omega
      rw [hk2] at ih
      rw [hk]
      simpa using ih
theorem pureHistOf (x0 : (List Call)) (a1 : Int) (a2 : Int) (w0 : x0.length ≤ maxLen ∧ ∀ x ∈ x0, wf_Call x) (w1 : InK .i64 a1) (w2 : InK .u8 a2) : G_law17_HistOf x0 a1 a2 = some true := by
  unfold G_law17_HistOf
  rw [wakes17, Option.bind_some, Bool.not_true, cond_false]
  by_cases hl : x0.length ≤ 60
  case neg => rw [show decide ((x0.length : Int) > 60) = true by simp; omega]; rfl
  rw [show decide ((x0.length : Int) > 60) = false by simp; omega, cond_false]
  obtain ⟨a0, a9⟩ := w2.u8
  obtain ⟨m, rfl⟩ : ∃ m : Nat, a2 = (m : Int) := ⟨a2.toNat, by omega⟩
  have ew : IntKind.i64.wrap (m : Int) = (m : Int) := w64 (by omega) (by omega)
  have hof : ∀ {σt R : Type} (bd : σt → Int × Call → Option (Stp σt R)) (s : σt), G_hist_Of_1 bd s x0 a1 = foldS bd s ((idx17 x0 a1 0 x0.length).map fun (j : Nat) => ((j : Int), rd x0 (j : Int))) := fun bd s => of_loop bd s x0 a1 hl x0.length 0 s (by omega)
  have hrf : G_ref17_Of x0 a1 = some ((idx17 x0 a1 0 x0.length).map Int.ofNat) := by
    have := refOf_loop x0 a1 hl x0.length 0 [] (by omega) (by simp)
    simpa [G_ref17_Of] using this
  have hil : (idx17 x0 a1 0 x0.length).length ≤ 60 := by
    unfold idx17
    exact Nat.le_trans (List.length_filter_le _ _) (by simpa using hl)
  have him : ∀ j ∈ idx17 x0 a1 0 x0.length, j < x0.length := by
    intro j hj
    unfold idx17 at hj
    have := (List.mem_filter.1 hj).1
    rw [List.mem_range'_1] at this
    omega
  simp only [G_hist_Of, Option.bind_some, hof, hrf, ew]
  have hst : ∀ (s : List Int) (x : Int × Call), x ∈ ((idx17 x0 a1 0 x0.length).map fun (j : Nat) => ((j : Int), rd x0 (j : Int))) → s.length ≤ m →
      G_law17_HistOf.r1 x0 a1 (m : Int) true (x0, a1) (false, s) x = if m ≤ s.length then some (.out (0, (false, s))) else some (.next (false, s ++ [x.1])) := by
    intro s x hx hs
    obtain ⟨j, hj, rfl⟩ := List.mem_map.1 hx
    have hjl := him j hj
    unfold G_law17_HistOf.r1
    simp only [ew]
    by_cases hc : m ≤ s.length
    · rw [show decide ((s.length : Int) ≥ (m : Int)) = true by simp; omega, if_pos hc]; rfl
    · rw [show decide ((s.length : Int) ≥ (m : Int)) = false by simp; omega, if_neg hc, cond_false]
      rw [show (decide ((j : Int) < 0) || decide ((j : Int) ≥ (x0.length : Int))) = false by simp; omega, inb_of (show (0 : Int) ≤ (j : Int) by omega) (show (j : Int) < x0.length by omega)]
      have hwf := w0.2 _ (rd_mem (xs := x0) (i := (j : Int)) (by omega) (by omega))
      rw [show imp (!false) true = true by rfl, req_t, Bool.not_false, cal_t, call_self _ hwf]
      simp only [Option.bind_some, Bool.not_true, Bool.or_false, cond_false]
      rw [show decide ((s.length + 1) * 8 ≤ 140737488355328) = true by simp; omega]; rfl
  have hmap : ((idx17 x0 a1 0 x0.length).map fun (j : Nat) => ((j : Int), rd x0 (j : Int))).map (fun x => x.1) = (idx17 x0 a1 0 x0.length).map Int.ofNat := by simp [Function.comp_def]
  obtain ⟨k, hk, hk1, hk2⟩ : ∃ k : Nat, mnI (m : Int) (((idx17 x0 a1 0 x0.length).map Int.ofNat).length : Int) = (k : Int) ∧ k ≤ ((idx17 x0 a1 0 x0.length).map Int.ofNat).length ∧ ((idx17 x0 a1 0 x0.length).map Int.ofNat).take k = ((idx17 x0 a1 0 x0.length).map Int.ofNat).take m := by
    unfold mnI
    split
    · exact ⟨_, rfl, Nat.le_refl _, by rw [List.take_of_length_le (Nat.le_refl _), List.take_of_length_le (by omega)]⟩
    · exact ⟨m, rfl, by omega, rfl⟩
  have hfin : (G_ref01_Same (((idx17 x0 a1 0 x0.length).map Int.ofNat).take m) (((idx17 x0 a1 0 x0.length).map Int.ofNat).take (k : Int).toNat)) = some true := by
    rw [Int.toNat_natCast, hk2]
    refine same_self17 _ ?_
    rw [List.length_take, List.length_map]
    simp only [maxLen]; omega
  have hin : inb (k : Int) (((idx17 x0 a1 0 x0.length).map Int.ofNat).length + 1) = true := inb_of (by omega) (by omega)
  rcases foldS_takeM (f := fun x : Int × Call => x.1) (bd := G_law17_HistOf.r1 x0 a1 (m : Int) true (x0, a1)) (m := m) (b := false) ((idx17 x0 a1 0 x0.length).map fun (j : Nat) => ((j : Int), rd x0 (j : Int))) [] hst (by simp) with h | h
  · rw [h]
    simp only [Option.bind_some, Stp.on_next, List.nil_append, List.length_nil, Nat.sub_zero, hmap, hk, hin, req_t, hfin]
  · rw [h]
    simp only [Option.bind_some, Stp.on_out, List.nil_append, List.length_nil, Nat.sub_zero, hmap, hk, hin, req_t, hfin]
    rfl
end Go.Proofs.Ytnfnincmhobpaaa
