/- Plain law: the runs of acts, as the program tells them and as the document does. No statement of the seat is proved here. Conditions: none. -/
import Derived.Test.YtmchkeflhpojmaaDoorPLoop
import Derived.Test.YtmchkeflhpojmaaDoorGT
set_option linter.unusedVariables false
set_option linter.unusedSimpArgs false
namespace Go.Proofs.YtmchkeflhpojmaaDoor
open Go Go.RowKit Go.Eng
/-- the runs of acts -/
def runs : List Int → List (Int × Nat)
  | [] => []
  | x :: t => match runs t with
    | [] => [(x, 1)]
    | p :: r => if x = p.1 then (p.1, p.2 + 1) :: r else (x, 1) :: p :: r
theorem runs_eq (x : Int) (t : List Int) : runs (x :: t) = match runs t with | [] => [(x, 1)] | p :: r => if x = p.1 then (p.1, p.2 + 1) :: r else (x, 1) :: p :: r := rfl
theorem runs_hd : ∀ (x : Int) (t : List Int), ∃ n r, runs (x :: t) = (x, n + 1) :: r
  | x, t => by
    unfold runs
    cases runs t with
    | nil => exact ⟨0, [], rfl⟩
    | cons p r =>
      dsimp only
      split
      · rename_i h; exact ⟨p.2, r, by rw [h]⟩
      · exact ⟨0, p :: r, rfl⟩
/-- how many more there are of one act -/
def more (x : Int) : List Int → Nat
  | [] => 0
  | y :: t => if y = x then more x t + 1 else 0
theorem more_eq (x y : Int) (t : List Int) : more x (y :: t) = if y = x then more x t + 1 else 0 := rfl
theorem more_le (x : Int) : ∀ t, more x t ≤ t.length
  | [] => Nat.le_refl _
  | y :: t => by
    unfold more
    have := more_le x t
    split <;> simp <;> omega
theorem runs_cons (x : Int) : ∀ t, runs (x :: t) = (x, more x t + 1) :: runs (t.drop (more x t))
  | [] => rfl
  | y :: t => by
    have ih := runs_cons y t
    rw [runs_eq, ih, more_eq]
    dsimp only
    by_cases h : x = y
    · subst h
      simp
    · rw [if_neg h, if_neg (fun e => h e.symm), List.drop_zero, ih]
theorem more_get (x : Int) : ∀ (t : List Int) (j : Nat), j < more x t → t[j]? = some x
  | [], j, h => by simp [more] at h
  | y :: t, j, h => by
    unfold more at h
    split at h
    · rename_i e
      cases j with
      | zero => simp [e]
      | succ j => simpa using more_get x t j (by omega)
    · omega
theorem more_end (x : Int) : ∀ (t : List Int), t[more x t]? ≠ some x
  | [] => by simp
  | y :: t => by
    unfold more
    split
    · simpa using more_end x t
    · rename_i e
      simpa using e
/-- one act more -/
def addR (r : List (Int × Nat)) (x : Int) : List (Int × Nat) :=
  match r.getLast? with
  | some p => if p.1 = x then r.dropLast ++ [(x, p.2 + 1)] else r ++ [(x, 1)]
  | none => [(x, 1)]
theorem addR_cons (p q : Int × Nat) (r : List (Int × Nat)) (x : Int) : addR (p :: q :: r) x = p :: addR (q :: r) x := by
  unfold addR
  rw [List.getLast?_cons_cons]
  cases h : (q :: r).getLast? with
  | none => simp at h
  | some z =>
    dsimp only
    split <;> simp
theorem runs_ne (x : Int) (t : List Int) : runs (x :: t) ≠ [] := by rw [runs_cons]; simp
theorem addR_ne (r : List (Int × Nat)) (x : Int) : addR r x ≠ [] := by
  unfold addR
  split
  · split <;> simp
  · simp
theorem addR_hd (p : Int × Nat) (r : List (Int × Nat)) (x : Int) : ∃ n s, addR (p :: r) x = (p.1, n) :: s ∧ p.2 ≤ n := by
  cases r with
  | nil =>
    unfold addR
    simp only [List.getLast?_singleton]
    split
    · rename_i h; exact ⟨p.2 + 1, [], by simp [h], by omega⟩
    · exact ⟨p.2, [(x, 1)], by simp, Nat.le_refl _⟩
  | cons q r => exact ⟨p.2, _, addR_cons p q r x, Nat.le_refl _⟩
theorem runs_snoc (x : Int) : ∀ l, runs (l ++ [x]) = addR (runs l) x
  | [] => rfl
  | y :: t => by
    have ih := runs_snoc x t
    show runs (y :: (t ++ [x])) = _
    unfold runs
    rw [ih]
    cases ht : runs t with
    | nil =>
      have : addR [] x = [(x, 1)] := rfl
      rw [this]
      dsimp only
      unfold addR
      simp only [List.getLast?_singleton, List.dropLast_singleton, List.nil_append]
      by_cases h : y = x
      · subst h; simp
      · rw [if_neg h, if_neg h]; rfl
    | cons p r =>
      dsimp only
      by_cases h : y = p.1
      · rw [if_pos h]
        cases r with
        | nil =>
          unfold addR
          simp only [List.getLast?_singleton, List.dropLast_singleton, List.nil_append]
          by_cases h2 : p.1 = x
          · rw [if_pos h2, if_pos h2]; simp [h, h2]
          · rw [if_neg h2, if_neg h2]; simp [h]
        | cons q r =>
          rw [addR_cons, addR_cons]
          simp [h]
      · rw [if_neg h, addR_cons]
        obtain ⟨n, s, e, _⟩ := addR_hd p r x
        rw [e]
        simp [h]
theorem runs_last : ∀ l : List Int, (runs l).getLast?.map Prod.fst = l.getLast?
  | [] => rfl
  | [x] => rfl
  | x :: y :: t => by
    have ih := runs_last (y :: t)
    rw [List.getLast?_cons_cons, ← ih]
    obtain ⟨n, r, e⟩ := runs_hd y t
    rw [runs_eq, e]
    dsimp only
    split
    · rename_i h
      cases r with
      | nil => rfl
      | cons q r => rw [List.getLast?_cons_cons, List.getLast?_cons_cons]
    · rw [List.getLast?_cons_cons]
theorem runs_adj : ∀ (l : List Int) (j : Nat) (p q : Int × Nat), (runs l)[j]? = some p → (runs l)[j + 1]? = some q → p.1 ≠ q.1
  | [], j, p, q, h, _ => by simp [runs] at h
  | x :: t, j, p, q, h, h2 => by
    have ih := runs_adj t
    unfold runs at h h2
    cases ht : runs t with
    | nil => rw [ht] at h2; simp at h2
    | cons a r =>
      rw [ht] at h h2 ih
      dsimp only at h h2
      split at h
      · rename_i e
        rw [if_pos e] at h2
        cases j with
        | zero =>
          simp only [List.getElem?_cons_zero, Option.some.injEq] at h
          subst h
          exact ih 0 a q rfl (by simpa using h2)
        | succ j => exact ih (j + 1) p q (by simpa using h) (by simpa using h2)
      · rename_i e
        rw [if_neg e] at h2
        cases j with
        | zero =>
          simp only [List.getElem?_cons_zero, List.getElem?_cons_succ, Option.some.injEq, Nat.zero_add] at h h2
          subst h; subst h2; exact e
        | succ j => exact ih j p q (by simpa using h) (by simpa using h2)
theorem runs_len : ∀ l : List Int, (runs l).length ≤ l.length
  | [] => Nat.le_refl _
  | x :: t => by
    have := runs_len t
    unfold runs
    cases ht : runs t with
    | nil => simp
    | cons a r =>
      rw [ht] at this
      dsimp only
      split <;> simp at * <;> omega
theorem runs_many : ∀ (l : List Int) (p : Int × Nat), p ∈ runs l → 1 ≤ p.2 ∧ p.2 ≤ l.length
  | [], p, h => by simp [runs] at h
  | x :: t, p, h => by
    have ih := runs_many t
    unfold runs at h
    cases ht : runs t with
    | nil => rw [ht] at h; simp at h; subst h; simp
    | cons a r =>
      rw [ht] at h ih
      dsimp only at h
      have ha := ih a (by simp)
      split at h
      · rcases List.mem_cons.1 h with rfl | h
        · simp; omega
        · have := ih p (by simp [h]); simp; omega
      · rcases List.mem_cons.1 h with rfl | h
        · simp
        · have := ih p h; simp; omega
/-- a body over what is told, one behind the other -/
def foldY {σt R α : Type} (bd : σt → α → Option (Stp σt R)) : σt → List α → Option (Stp σt R)
  | s, [] => some (.next s)
  | s, x :: r => (bd s x).bind fun z => z.on (fun s' => foldY bd s' r) (fun q => some (.out q))
section
variable {σt R : Type} (bd : σt → (Int × Int) → Option (Stp σt R)) (s0 : σt) (l : List Int) (hl : l.length ≤ maxLen)
theorem rd_nat {i : Nat} {x : Int} (h : l[i]? = some x) : rd l (i : Int) = x := by
  simp [rd, List.getD_eq_getElem?_getD, h]
include hl in
theorem run2 (i : Nat) (x : Int) (t : List Int) (hi : l.drop i = x :: t) (a : Int × σt) (ha : a.1 = (i : Int)) (s : σt) : ∀ (k j : Nat), j + k = more x t + 1 → loopω (G_pack_Runs_1.b2 bd s0 l a) (((i + j : Nat) : Int), s) = some (.brk (((i + (more x t + 1) : Nat) : Int), s))
  | k, j, h => by
    have hlen : l.length = i + (t.length + 1) := by
      have := congrArg List.length hi
      simp only [List.length_drop, List.length_cons] at this
      have h0 : i < l.length := by
        rcases Nat.lt_or_ge i l.length with h | h
        · exact h
        · rw [List.drop_of_length_le h] at hi; cases hi
      omega
    have hget : ∀ q, l[i + q]? = (x :: t)[q]? := fun q => by rw [← hi, List.getElem?_drop]
    have hm := more_le x t
    have hx : rd l (i : Int) = x := rd_nat l (by have := hget 0; simpa using this)
    have hin : inb (i : Int) l.length = true := inb_n (by omega)
    by_cases hj : i + j < l.length
    · cases k with
      | zero =>
        have hB : G_pack_Runs_1.b2 bd s0 l a (((i + j : Nat) : Int), s) = some (.out (.brk (((i + j : Nat) : Int), s))) := by
          unfold G_pack_Runs_1.b2
          dsimp only
          rw [ha, hx, imp_of (fun _ => inb_n hj), imp_of (fun _ => hin), req_t, req_t, lt_t hj]
          have he : (x :: t)[j]? ≠ some x := by
            rw [show j = more x t + 1 by omega]; simpa using more_end x t
          obtain ⟨y, hy⟩ : ∃ y, l[i + j]? = some y := ⟨_, List.getElem?_eq_getElem hj⟩
          have hyx : y ≠ x := fun e => he (by rw [← hget j, hy, e])
          rw [rd_nat l hy]
          have : (true && y == x) = false := by simpa using hyx
          rw [this]; rfl
        rw [loopω_eq, hB, show j = more x t + 1 by omega]
      | succ k =>
        have hB : G_pack_Runs_1.b2 bd s0 l a (((i + j : Nat) : Int), s) = some (.next (((i + j + 1 : Nat) : Int), s)) := by
          unfold G_pack_Runs_1.b2
          dsimp only
          rw [ha, hx, imp_of (fun _ => inb_n hj), imp_of (fun _ => hin), req_t, req_t, lt_t hj]
          have hy : l[i + j]? = some x := by
            rw [hget j]
            cases j with
            | zero => rfl
            | succ j => simpa using more_get x t j (by omega)
          rw [rd_nat l hy]
          have : (true && x == x) = true := by simp
          rw [this, wp1 hj hl]; rfl
        rw [loopω_eq, hB]
        exact run2 i x t hi a ha s k (j + 1) (by omega)
    · have hB : G_pack_Runs_1.b2 bd s0 l a (((i + j : Nat) : Int), s) = some (.out (.brk (((i + j : Nat) : Int), s))) := by
        unfold G_pack_Runs_1.b2
        dsimp only
        have hf : decide (((i + j : Nat) : Int) < (l.length : Int)) = false := by simp; omega
        rw [hf, imp_of (fun h => by cases h), imp_of (fun h => by cases h), req_t, req_t]; rfl
      have : j = more x t + 1 := by omega
      rw [loopω_eq, hB, this]
theorem sub64 {i m : Nat} (h : i + m ≤ maxLen) : IntKind.i64.wrap (((i + m : Nat) : Int) - (i : Int)) = (m : Int) := by
  simp only [maxLen] at h
  rw [w64] <;> omega
include hl in
theorem run1 (z : Stp σt R) : ∀ (k i : Nat) (s : σt), i + k = l.length → foldY bd s ((runs (l.drop i)).map fun p => (p.1, (p.2 : Int))) = some z → ((loopω (G_pack_Runs_1.b1 bd s0 l) ((i : Int), s)).bind fun o => o.on (fun s1 => some (.next s1.2)) (fun r => some r)) = some z
  | k, i, s, h, hz => by
    rw [loopω_eq]
    rcases Nat.eq_zero_or_pos k with h0 | h0
    · have hi : i = l.length := by omega
      subst hi
      have hB : G_pack_Runs_1.b1 bd s0 l ((l.length : Int), s) = some (.out (.brk ((l.length : Int), s))) := by
        unfold G_pack_Runs_1.b1
        rw [lt_f]; rfl
      rw [hB]
      rw [List.drop_of_length_le (Nat.le_refl _)] at hz
      exact hz
    · have hi : i < l.length := by omega
      obtain ⟨x, t, e⟩ : ∃ x t, l.drop i = x :: t := by
        cases hd : l.drop i with
        | nil => have := congrArg List.length hd; simp only [List.length_drop, List.length_nil] at this; omega
        | cons x t => exact ⟨x, t, rfl⟩
      have hlen : l.length = i + (t.length + 1) := by
        have := congrArg List.length e
        simp only [List.length_drop, List.length_cons] at this; omega
      have hm := more_le x t
      have hx : rd l (i : Int) = x := rd_nat l (by
        have : l[i + 0]? = (x :: t)[0]? := by rw [← e, List.getElem?_drop]
        simpa using this)
      have hb := run2 bd s0 l hl i x t e ((i : Int), s) rfl s (more x t + 1) 0 (by omega)
      simp only [Nat.add_zero] at hb
      rw [e, runs_cons] at hz
      simp only [List.map_cons, foldY] at hz
      have hB : G_pack_Runs_1.b1 bd s0 l ((i : Int), s) = (bd s (x, ((more x t + 1 : Nat) : Int))).bind fun z => z.on (fun s' => some (.next (((i + (more x t + 1) : Nat) : Int), s'))) (fun r => some (.out (.ret (.out r)))) := by
        unfold G_pack_Runs_1.b1
        dsimp only
        rw [lt_t hi, cond_true, hb]
        simp only [Option.bind_some, Ex.on, inb_n hi, req_t, hx]
        rw [sub64 (by omega)]
      rw [hB]
      cases hbd : bd s (x, ((more x t + 1 : Nat) : Int)) with
      | none => rw [hbd] at hz; cases hz
      | some q =>
        rw [hbd] at hz
        cases q with
        | next s' =>
          simp only [Option.bind_some, Stp.on] at hz ⊢
          refine run1 z (l.length - (i + (more x t + 1))) (i + (more x t + 1)) s' (by omega) ?_
          rw [← List.drop_drop, e]
          simpa using hz
        | out r =>
          simp only [Option.bind_some, Stp.on] at hz ⊢
          exact hz
  termination_by k i s h => k
include hl in
theorem packRuns_it {z : Stp σt R} (h : foldY bd s0 ((runs l).map fun p => (p.1, (p.2 : Int))) = some z) : G_pack_Runs_1 bd s0 l = some z := by
  unfold G_pack_Runs_1
  exact run1 bd s0 l hl z l.length 0 s0 (by omega) (by simpa using h)
end
/-- a run, as the document has it -/
def toR (p : Int × Nat) : Portholeref30_Run := ⟨p.1, (p.2 : Int)⟩
theorem refRuns (l : List Int) (hl : l.length ≤ 1000000000) : G_ref30_Runs l = some ((runs l).map toR) := by
  unfold G_ref30_Runs
  have key : ∀ (k i : Nat), i + k = l.length → loopω (G_ref30_Runs.b1 l) ((i : Int), (runs (l.take i)).map toR) = some (.brk ((l.length : Int), (runs l).map toR)) := by
    intro k
    induction k with
    | zero =>
      intro i h
      have hi : i = l.length := by omega
      subst hi
      have hB : G_ref30_Runs.b1 l ((l.length : Int), (runs (l.take l.length)).map toR) = some (.out (.brk ((l.length : Int), (runs (l.take l.length)).map toR))) := by
        unfold G_ref30_Runs.b1
        rw [lt_f]; rfl
      rw [loopω_eq, hB, List.take_length]
    | succ k ih =>
      intro i h
      have hi : i < l.length := by omega
      obtain ⟨x, hx⟩ : ∃ x, l[i]? = some x := ⟨_, List.getElem?_eq_getElem hi⟩
      have hrx : rd l (i : Int) = x := rd_nat l hx
      have htk : l.take (i + 1) = l.take i ++ [x] := by rw [List.take_add_one, hx]; rfl
      have ih := ih (i + 1) (by omega)
      rw [htk, runs_snoc] at ih
      have hlen : (runs (l.take i)).length ≤ i := by have := runs_len (l.take i); rw [List.length_take] at this; omega
      have hw1 : IntKind.i64.wrap ((i : Int) + 1) = ((i + 1 : Nat) : Int) := wp1 hi (by simp only [maxLen]; omega)
      suffices hB : G_ref30_Runs.b1 l ((i : Int), (runs (l.take i)).map toR) = some (.next (((i + 1 : Nat) : Int), (addR (runs (l.take i)) x).map toR)) by rw [loopω_eq, hB]; exact ih
      clear ih
      unfold G_ref30_Runs.b1
      dsimp only
      rw [lt_t hi]
      simp only [cond_true, hrx, hw1, inb_n hi]
      rcases Nat.eq_zero_or_pos i with h0 | h0
      · subst h0
        rw [show decide (((0 : Nat) : Int) > 0) = false by rfl]
        simp only [imp, Bool.not_false, Bool.true_or, req_t, Bool.false_and, cond_false, List.take_zero]
        simp [runs, toR, addR]
      · have hpos : decide ((i : Int) > 0) = true := by simp; omega
        have hw2 : IntKind.i64.wrap ((i : Int) - 1) = ((i - 1 : Nat) : Int) := by rw [w64] <;> omega
        obtain ⟨y, hy⟩ : ∃ y, l[i - 1]? = some y := ⟨_, List.getElem?_eq_getElem (by omega)⟩
        have hry : rd l ((i - 1 : Nat) : Int) = y := rd_nat l hy
        have hlast : (runs (l.take i)).getLast?.map Prod.fst = some y := by
          rw [runs_last, List.getLast?_eq_getElem?, List.length_take, Nat.min_eq_left (by omega), List.getElem?_take, if_pos (by omega), hy]
        obtain ⟨p, hp, hpy⟩ := Option.map_eq_some_iff.1 hlast
        rw [hpos, hw2, hry]
        have hi1 : inb ((i - 1 : Nat) : Int) l.length = true := inb_n (by omega)
        simp only [imp, Bool.not_true, Bool.false_or, hi1, req_t, Bool.true_and]
        have hne : runs (l.take i) ≠ [] := fun e => by rw [e] at hp; cases hp
        have hlp : 0 < (runs (l.take i)).length := List.length_pos_iff.2 hne
        have hge : (runs (l.take i))[(runs (l.take i)).length - 1]? = some p := by rw [← List.getLast?_eq_getElem?]; exact hp
        by_cases hxy : x = y
        · have hc : (x == y) = true := by simp [hxy]
          have hadd : addR (runs (l.take i)) x = (runs (l.take i)).dropLast ++ [(x, p.2 + 1)] := by
            unfold addR
            rw [hp]
            exact if_pos (by rw [hpy, hxy])
          rw [hadd]
          simp only [hc, cond_true, List.length_map]
          have hw3 : IntKind.i64.wrap (((runs (l.take i)).length : Int) - 1) = (((runs (l.take i)).length - 1 : Nat) : Int) := by rw [w64] <;> omega
          rw [hw3, inb_n (by omega), req_t, req_t]
          have hrd : rd ((runs (l.take i)).map toR) (((runs (l.take i)).length - 1 : Nat) : Int) = toR p := by
            simp [rd, List.getD_eq_getElem?_getD, hge]
          have hpm := runs_many (l.take i) p (List.mem_of_getElem? hge)
          rw [hrd]
          have hset : (((runs (l.take i)).map toR).set ((((runs (l.take i)).length - 1 : Nat) : Int)).toNat ⟨(toR p).Act, IntKind.i64.wrap ((toR p).Many + 1)⟩) = ((runs (l.take i)).dropLast ++ [(x, p.2 + 1)]).map toR := by
            have hpl : p.2 ≤ i := by have := hpm.2; rw [List.length_take] at this; omega
            have hw4 : IntKind.i64.wrap ((toR p).Many + 1) = ((p.2 + 1 : Nat) : Int) := by
              show IntKind.i64.wrap ((p.2 : Int) + 1) = _
              rw [w64] <;> omega
            rw [hw4, Int.toNat_natCast]
            have hsplit : runs (l.take i) = (runs (l.take i)).dropLast ++ [p] := by
              have := List.dropLast_concat_getLast hne
              rw [List.getLast?_eq_some_getLast hne] at hp
              rw [Option.some.inj hp] at this
              exact this.symm
            generalize runs (l.take i) = rr at hsplit hlp ⊢
            generalize rr.dropLast = d at hsplit
            subst hsplit
            have : (toR p).Act = x := by show p.1 = x; rw [hpy, hxy]
            simp [List.set_append, toR] at this ⊢
            exact this
          rw [hset]
        · have hc : (x == y) = false := by simp [hxy]
          have hadd : addR (runs (l.take i)) x = runs (l.take i) ++ [(x, 1)] := by
            unfold addR
            rw [hp]
            exact if_neg (by rw [hpy]; exact fun e => hxy e.symm)
          rw [hadd]
          simp only [hc, cond_false, List.length_map]
          have hd : decide (((runs (l.take i)).length + 1) * 16 ≤ 140737488355328) = true := by rw [decide_eq_true_iff]; omega
          rw [hd, req_t]
          have : (runs (l.take i)).map toR ++ [(⟨x, 1⟩ : Portholeref30_Run)] = (runs (l.take i) ++ [(x, 1)]).map toR := by simp [toR]
          rw [this]
  have := key l.length 0 (by omega)
  simp only [List.take_zero] at this
  rw [show ((0 : Nat) : Int) = 0 from rfl] at this
  have h0 : (runs ([] : List Int)).map toR = [] := rfl
  rw [h0] at this
  rw [this]
  rfl
end Go.Proofs.YtmchkeflhpojmaaDoor
