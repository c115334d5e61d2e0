/- The plain law behind PackParses: any text is that of the acts that the document says, or of none. -/
import Derived.Test.YtmchkeflhpojmaaDoorPurePackPrints
set_option linter.unusedVariables false
set_option linter.unusedSimpArgs false
namespace Go.Proofs.YtmchkeflhpojmaaDoor
open Go Go.RowKit Go.Eng
/-! ### the document's reading -/
/-- digits, as long as the number isn't too great: how many, and the number -/
def dg2 (n : Nat) : List UInt8 → Nat × Nat
  | [] => (0, n)
  | b :: t => bif isD b && decide (n ≤ 4096) then ((dg2 (n * 10 + (b.toNat - 48)) t).1 + 1, (dg2 (n * 10 + (b.toNat - 48)) t).2) else (0, n)
theorem dg2_le : ∀ (l : List UInt8) (n : Nat), (dg2 n l).1 ≤ l.length
  | [], n => Nat.le_refl _
  | b :: t, n => by
    rw [dg2]
    cases isD b && decide (n ≤ 4096) with
    | true => have := dg2_le t (n * 10 + (b.toNat - 48)); simp only [cond_true, List.length_cons]; omega
    | false => simp
theorem dg2_val : ∀ (l : List UInt8) (n : Nat), n ≤ 50000 → (dg2 n l).2 ≤ 50000
  | [], n, h => h
  | b :: t, n, h => by
    rw [dg2]
    cases hc : isD b && decide (n ≤ 4096) with
    | true =>
      simp only [Bool.and_eq_true, decide_eq_true_iff] at hc
      have := isD_iff.1 hc.1
      exact dg2_val t _ (by omega)
    | false => exact h
theorem val0_ge : ∀ (l : List UInt8) (n : Nat), n ≤ val0 n l
  | [], n => Nat.le_refl _
  | b :: t, n => Nat.le_trans (by omega) (val0_ge t (n * 10 + (b.toNat - 48)))
theorem dg2_of (rest : List UInt8) (hr : ∀ b, rest.head? = some b → isD b = false) : ∀ (e : List UInt8) (n : Nat), e.all isD = true → val0 n e ≤ 4096 → dg2 n (e ++ rest) = (e.length, val0 n e)
  | [], n, _, _ => by
    cases rest with
    | nil => rfl
    | cons b t =>
      rw [List.nil_append, dg2, hr b rfl]; rfl
  | b :: e, n, he, hv => by
    rw [List.all_cons, Bool.and_eq_true] at he
    have h1 : val0 n (b :: e) = val0 (n * 10 + (b.toNat - 48)) e := rfl
    have h2 := val0_ge e (n * 10 + (b.toNat - 48))
    rw [h1] at hv
    rw [List.cons_append, dg2, he.1, decide_eq_true (by omega : n ≤ 4096), dg2_of rest hr e _ he.2 hv]
    rfl
section
variable (l : List UInt8) (hl : l.length ≤ 1000000)
include hl in
theorem refB2 (s1 : Int × (List Int) × Bool × (List Int)) (t20 : Int) : ∀ (rest : List UInt8) (k n : Nat), k ≤ l.length → l.drop k = rest → n ≤ 50000 →
    loopω (G_ref30_Parse.b2 ⟨l.toArray⟩ s1 t20) ((k : Int), (n : Int)) = some (.brk (((k + (dg2 n rest).1 : Nat) : Int), ((dg2 n rest).2 : Int)))
  | [], k, n, hkl, hr, hn => by
    have hk : ¬ k < l.length := fun h => by rw [List.drop_eq_getElem_cons h] at hr; cases hr
    have hB : G_ref30_Parse.b2 ⟨l.toArray⟩ s1 t20 ((k : Int), (n : Int)) = some (.out (.brk ((k : Int), (n : Int)))) := by
      unfold G_ref30_Parse.b2
      dsimp only
      rw [size_mk, show decide ((k : Int) < (l.length : Int)) = false by rw [decide_eq_false_iff_not]; omega]
      rfl
    rw [loopω_eq, hB]; rfl
  | b :: t, k, n, hkl, hr, hn => by
    have hb : l[k]? = some b := by
      have : (l.drop k)[0]? = some b := by rw [hr]; rfl
      rw [List.getElem?_drop] at this; simpa using this
    have hk : k < l.length := (List.getElem?_eq_some_iff.1 hb).1
    have hr2 : l.drop (k + 1) = t := by rw [← List.drop_drop, hr]; rfl
    have hrd := rdB_at l k b hb
    have hb256 : b.toNat < 256 := b.toNat_lt
    have e1 : (decide ((b.toNat : Int) ≥ 48) && decide ((b.toNat : Int) ≤ 57)) = isD b := by
      unfold isD
      rw [show decide ((b.toNat : Int) ≥ 48) = decide (48 ≤ b.toNat) by rw [Bool.eq_iff_iff]; simp; omega, show decide ((b.toNat : Int) ≤ 57) = decide (b.toNat ≤ 57) by rw [Bool.eq_iff_iff]; simp; omega]
    have e2 : decide ((n : Int) ≤ 4096) = decide (n ≤ 4096) := by rw [Bool.eq_iff_iff]; simp; omega
    have hB : G_ref30_Parse.b2 ⟨l.toArray⟩ s1 t20 ((k : Int), (n : Int)) = some (bif isD b && decide (n ≤ 4096) then .next (((k + 1 : Nat) : Int), ((n * 10 + (b.toNat - 48) : Nat) : Int)) else .out (.brk ((k : Int), (n : Int)))) := by
      unfold G_ref30_Parse.b2
      dsimp only
      rw [size_mk, hrd, inb_n hk, lt_t hk, e2]
      simp only [imp_tt, req_t, Bool.true_and, e1]
      cases hc : isD b && decide (n ≤ 4096) with
      | false => rfl
      | true =>
        simp only [Bool.and_eq_true, decide_eq_true_iff] at hc
        have hd := isD_iff.1 hc.1
        simp only [cond_true]
        have w1 : IntKind.u8.wrap ((b.toNat : Int) - 48) = ((b.toNat - 48 : Nat) : Int) := by
          rw [show (b.toNat : Int) - 48 = ((b.toNat - 48 : Nat) : Int) by omega, u8n (by omega)]
        have w2 : IntKind.i64.wrap (((b.toNat - 48 : Nat) : Int)) = ((b.toNat - 48 : Nat) : Int) := by rw [w64] <;> omega
        have w3 : IntKind.i64.wrap ((n : Int) * 10) = ((n * 10 : Nat) : Int) := by rw [w64] <;> omega
        have w4 : IntKind.i64.wrap (((n * 10 : Nat) : Int) + ((b.toNat - 48 : Nat) : Int)) = ((n * 10 + (b.toNat - 48) : Nat) : Int) := by rw [w64] <;> omega
        rw [w1, w2, w3, w4, wp1 hk (by simp only [maxLen]; omega)]
    rw [loopω_eq, hB, dg2]
    cases hc : isD b && decide (n ≤ 4096) with
    | false => rfl
    | true =>
      simp only [cond_true]
      have hc' := hc
      simp only [Bool.and_eq_true, decide_eq_true_iff] at hc'
      have hd := isD_iff.1 hc'.1
      rw [refB2 s1 t20 t (k + 1) (n * 10 + (b.toNat - 48)) (by omega) hr2 (by omega)]
      rw [show k + 1 + (dg2 (n * 10 + (b.toNat - 48)) t).1 = k + ((dg2 (n * 10 + (b.toNat - 48)) t).1 + 1) by omega]
theorem refB3 (s1 : Int × (List Int) × Bool × (List Int)) (t20 : Int) (s2 : Int × Int) (m : Nat) (hm : (bif (s2.1 == (IntKind.i64.wrap (s1.1 + 1))) then 1 else s2.2) = (m : Int)) (hm2 : m ≤ 4096) (acts : List Int) (ha : acts.length ≤ 4096) :
    loopω (G_ref30_Parse.b3 ⟨l.toArray⟩ s1 t20 s2) (0, acts) = some (.brk ((m : Int), acts ++ List.replicate m t20)) := by
  have key := loopω_ok (B := G_ref30_Parse.b3 ⟨l.toArray⟩ s1 t20 s2) (fun s => ∃ j : Nat, j ≤ m ∧ s = ((j : Int), acts ++ List.replicate j t20)) (fun s => m - s.1.toNat) (fun o => o = .brk ((m : Int), acts ++ List.replicate m t20)) (fun s hs => by
    obtain ⟨j, hj, rfl⟩ := hs
    unfold G_ref30_Parse.b3
    dsimp only
    rw [hm]
    by_cases h : j < m
    · left
      rw [lt_t h, cond_true, show decide (((acts ++ List.replicate j t20).length + 1) * 8 ≤ 140737488355328) = true by rw [decide_eq_true_iff]; simp; omega, req_t, wp1 h (by simp only [maxLen]; omega)]
      exact ⟨_, rfl, ⟨j + 1, h, by rw [List.append_assoc, ← List.replicate_succ']⟩, by simp only [Int.toNat_natCast]; omega⟩
    · right
      have : j = m := by omega
      subst this
      rw [lt_f, cond_false]
      exact ⟨_, rfl, rfl⟩) (0, acts) ⟨0, Nat.zero_le _, by simp⟩
  obtain ⟨o, ho, rfl⟩ := key
  exact ho
/-- a letter's number behind it -/
def num2 (t : List UInt8) : Nat := if (dg2 0 t).1 = 0 then 1 else (dg2 0 t).2
def stepR (acts : List Int) (f : Bool) (g : List Int) (i : Nat) (b : UInt8) (t : List UInt8) : Stp (Int × (List Int) × Bool × (List Int)) (Ex (Int × (List Int) × Bool × (List Int)) ((List Int) × Bool)) :=
  bif decide (idx b < 0) || decide (4096 < num2 t) || decide (4096 < acts.length + num2 t) then .out (.ret ([], false)) else .next (((i + 1 + (dg2 0 t).1 : Nat) : Int), acts ++ List.replicate (num2 t) (idx b), f, g)
theorem refLetter (b : UInt8) : G_ref30_letter (b.toNat : Int) = some (idx b) := by
  have h : ∀ c : UInt8, ((b.toNat : Int) == (c.toNat : Int)) = decide (b = c) := fun c => by
    rw [Bool.eq_iff_iff, beq_iff_eq, decide_eq_true_iff]
    constructor
    · intro e; exact UInt8.toNat_inj.1 (by omega)
    · rintro rfl; rfl
  have h1 := h 97
  have h2 := h 98
  have h3 := h 116
  rw [show ((97 : UInt8).toNat : Int) = 97 from rfl] at h1
  rw [show ((98 : UInt8).toNat : Int) = 98 from rfl] at h2
  rw [show ((116 : UInt8).toNat : Int) = 116 from rfl] at h3
  unfold G_ref30_letter idx
  rw [h1, h2, h3]
  by_cases k1 : b = 97
  · simp [k1]
  · by_cases k2 : b = 98
    · simp [k2]
    · by_cases k3 : b = 116
      · simp [k3]
      · simp [k1, k2, k3]
include hl in
theorem refB1P (i : Nat) (b : UInt8) (t : List UInt8) (hr : l.drop i = b :: t) (acts : List Int) (ha : acts.length ≤ 4096) (f : Bool) (g : List Int) :
    G_ref30_Parse.b1 ⟨l.toArray⟩ ((i : Int), acts, f, g) = some (stepR acts f g i b t) := by
  have hb : l[i]? = some b := by
    have : (l.drop i)[0]? = some b := by rw [hr]; rfl
    rw [List.getElem?_drop] at this; simpa using this
  have hi : i < l.length := (List.getElem?_eq_some_iff.1 hb).1
  have hr2 : l.drop (i + 1) = t := by rw [← List.drop_drop, hr]; rfl
  have hlt : t.length + (i + 1) = l.length := by
    have := congrArg List.length hr2
    rw [List.length_drop] at this; omega
  have hw : IntKind.i64.wrap ((i : Int) + 1) = ((i + 1 : Nat) : Int) := wp1 hi (by simp only [maxLen]; omega)
  unfold G_ref30_Parse.b1
  dsimp only
  rw [size_mk, lt_t hi, cond_true, inb_n hi, req_t, rdB_at l i b hb, refLetter]
  simp only [Option.bind_some]
  unfold stepR
  cases hneg : decide (idx b < 0) with
  | true => rfl
  | false =>
    simp only [cond_false, Bool.false_or]
    have hb2 := refB2 l hl ((i : Int), acts, f, g) (idx b) t (i + 1) 0 (by omega) hr2 (by omega)
    rw [show ((0 : Nat) : Int) = 0 from rfl] at hb2
    rw [hw, hb2]
    simp only [Option.bind_some, Ex.on]
    have hv := dg2_val t 0 (by omega)
    have hle := dg2_le t 0
    have hm : (bif ((((i + 1 + (dg2 0 t).1 : Nat) : Int)) == ((i + 1 : Nat) : Int)) then 1 else (((dg2 0 t).2 : Nat) : Int)) = ((num2 t : Nat) : Int) := by
      unfold num2
      by_cases h0 : (dg2 0 t).1 = 0
      · rw [if_pos h0, h0]; simp
      · rw [if_neg h0, show ((((i + 1 + (dg2 0 t).1 : Nat) : Int)) == ((i + 1 : Nat) : Int)) = false by rw [beq_eq_false_iff_ne]; omega]; rfl
    rw [hm]
    rcases Nat.lt_or_ge 4096 (num2 t) with h1 | h1
    · rw [decide_eq_true h1, show decide (((num2 t : Nat) : Int) > 4096) = true by rw [decide_eq_true_iff]; omega]; rfl
    · rw [decide_eq_false (Nat.not_lt.2 h1), show decide (((num2 t : Nat) : Int) > 4096) = false by rw [decide_eq_false_iff_not]; omega]
      simp only [cond_false, Bool.false_or]
      rw [refB3 l ((i : Int), acts, f, g) (idx b) (((i + 1 + (dg2 0 t).1 : Nat) : Int), ((dg2 0 t).2 : Int)) (num2 t) (by dsimp only; rw [hw]; exact hm) h1 acts ha]
      simp only [Option.bind_some, Ex.on, List.length_append, List.length_replicate]
      have hw2 : IntKind.i64.wrap (IntKind.i64.wrap (((i + 1 + (dg2 0 t).1 : Nat) : Int) - 1) + 1) = ((i + 1 + (dg2 0 t).1 : Nat) : Int) := by
        rw [w64 (x := ((i + 1 + (dg2 0 t).1 : Nat) : Int) - 1) (by omega) (by omega), w64 (by omega) (by omega)]; omega
      rcases Nat.lt_or_ge 4096 (acts.length + num2 t) with h2 | h2
      · rw [decide_eq_true h2, show decide (((acts.length + num2 t : Nat) : Int) > 4096) = true by rw [decide_eq_true_iff]; omega]; rfl
      · rw [decide_eq_false (Nat.not_lt.2 h2), show decide (((acts.length + num2 t : Nat) : Int) > 4096) = false by rw [decide_eq_false_iff_not]; omega, hw2]; rfl
theorem refEnd (i : Nat) (hi : l.length ≤ i) (acts : List Int) (f : Bool) (g : List Int) : G_ref30_Parse.b1 ⟨l.toArray⟩ ((i : Int), acts, f, g) = some (.out (.brk ((i : Int), acts, f, g))) := by
  unfold G_ref30_Parse.b1
  dsimp only
  rw [size_mk, show decide ((i : Int) < (l.length : Int)) = false by rw [decide_eq_false_iff_not]; omega]; rfl
include hl in
theorem refTotal : ∃ r, G_ref30_Parse ⟨l.toArray⟩ = some r ∧ (r = ([], false) ∨ ∃ acts, r = (acts, true) ∧ prt acts = (⟨l.toArray⟩, true)) := by
  unfold G_ref30_Parse
  have key := loopω_ok (B := G_ref30_Parse.b1 ⟨l.toArray⟩) (fun s => ∃ (i : Nat) (acts : List Int) (f : Bool) (g : List Int), acts.length ≤ 4096 ∧ i ≤ l.length ∧ s = ((i : Int), acts, f, g)) (fun s => l.length - s.1.toNat) (fun o => o = .ret ([], false) ∨ ∃ s, o = .brk s ∧ s.2.1.length ≤ 4096) (fun s hs => by
    obtain ⟨i, acts, f, g, ha, hi, rfl⟩ := hs
    cases hr : l.drop i with
    | nil =>
      have : l.length ≤ i := by have := congrArg List.length hr; rw [List.length_drop, List.length_nil] at this; omega
      exact .inr ⟨_, refEnd l i this acts f g, .inr ⟨_, rfl, ha⟩⟩
    | cons b t =>
      have hlen : l.length = i + 1 + t.length := by have := congrArg List.length hr; rw [List.length_drop, List.length_cons] at this; omega
      have hle := dg2_le t 0
      rw [refB1P l hl i b t hr acts ha f g]
      unfold stepR
      cases hc : decide (idx b < 0) || decide (4096 < num2 t) || decide (4096 < acts.length + num2 t) with
      | true => exact .inr ⟨_, rfl, .inl rfl⟩
      | false =>
        simp only [Bool.or_eq_false_iff, decide_eq_false_iff_not] at hc
        exact .inl ⟨_, rfl, ⟨_, _, _, _, by simp; omega, by omega, rfl⟩, by simp only [Int.toNat_natCast]; omega⟩) (0, ([] : List Int), false, ([] : List Int)) ⟨0, [], false, [], by simp, Nat.zero_le _, rfl⟩
  obtain ⟨o, ho, hq⟩ := key
  rw [ho]
  rcases hq with rfl | ⟨s, rfl, hs⟩
  · exact ⟨_, rfl, .inl rfl⟩
  · simp only [Option.bind_some, Ex.on]
    rw [refPrint s.2.1 (by omega)]
    simp only [Option.bind_some]
    cases hc : (!(prt s.2.1).2) || (!((prt s.2.1).1.toList == (⟨l.toArray⟩ : ByteArray).toList)) with
    | true => exact ⟨_, rfl, .inl rfl⟩
    | false =>
      simp only [Bool.or_eq_false_iff, Bool.not_eq_false', beq_iff_eq] at hc
      refine ⟨_, rfl, .inr ⟨s.2.1, rfl, ?_⟩⟩
      have e := hc.2
      rw [ByteArray.toList_eq, ByteArray.toList_eq] at e
      have e2 : (prt s.2.1).1 = ⟨l.toArray⟩ := ByteArray.ext (Array.ext' e)
      rw [← e2, ← hc.1]
end
theorem head_txt {T : List (Int × Nat)} (hA : ∀ p ∈ T, okA p.1 = true) : ∀ b, (txt T).head? = some b → isD b = false := by
  intro b hb
  cases T with
  | nil => cases hb
  | cons p T =>
    rw [txt_cons] at hb
    unfold seg at hb
    simp only [List.cons_append, List.head?_cons, Option.some.injEq] at hb
    rw [← hb]
    exact (idx_letter (hA p (by simp))).2
theorem refFwd (R : List (Int × Nat)) (hR : okR R) (hA : ∀ p ∈ R, okA p.1 = true) (hl : (ex R).length ≤ 4096) (hll : (txt R).length ≤ 1000000) : G_ref30_Parse ⟨(txt R).toArray⟩ = some (ex R, true) := by
  unfold G_ref30_Parse
  have key : ∀ (B A : List (Int × Nat)) (f : Bool) (g : List Int), R = A ++ B → loopω (G_ref30_Parse.b1 ⟨(txt R).toArray⟩) (((txt A).length : Int), ex A, f, g) = some (.brk (((txt R).length : Int), ex R, f, g)) := by
    intro B
    induction B with
    | nil =>
      intro A f g e
      rw [List.append_nil] at e
      subst e
      rw [loopω_eq, refEnd _ _ (Nat.le_refl _)]
    | cons p B ih =>
      intro A f g e
      obtain ⟨a, n⟩ := p
      have hmem : ∀ q ∈ (a, n) :: B, okA q.1 = true := fun q hq => hA q (by rw [e]; simp at hq ⊢; exact .inr hq)
      have ha := hmem (a, n) (by simp)
      obtain ⟨i1, i2⟩ := idx_letter ha
      have hokR : ∀ (A B : List (Int × Nat)), okR (A ++ B) → okR B := by
        intro A B h
        induction A with
        | nil => exact h
        | cons x A ih => exact ih h.2.2
      have hB := hokR A ((a, n) :: B) (by rw [← e]; exact hR)
      have hn := hB.1
      simp only at hn
      have hexl : (ex A).length + n + (ex B).length ≤ 4096 := by
        rw [e] at hl
        have : ex (A ++ (a, n) :: B) = ex A ++ (List.replicate n a ++ ex B) := by simp [ex]
        rw [this] at hl
        simp only [List.length_append, List.length_replicate] at hl
        omega
      have htx : txt R = txt A ++ (letter a :: (dsOf n ++ txt B)) := by
        rw [e, txt_append, txt_cons, seg_eq]; simp
      have hd : (txt R).drop (txt A).length = letter a :: (dsOf n ++ txt B) := by rw [htx]; simp
      have hdg : dg2 0 (dsOf n ++ txt B) = ((dsOf n).length, val0 0 (dsOf n)) := by
        refine dg2_of _ (head_txt fun q hq => hmem q (by simp [hq])) _ _ (dsOf_isD n) ?_
        unfold dsOf
        split
        · have := dig_val n
          unfold val at this
          rw [this]; omega
        · exact Nat.zero_le _
      have hnum : num2 (dsOf n ++ txt B) = n := by
        unfold num2
        rw [hdg]
        unfold dsOf
        by_cases h1 : n > 1
        · rw [if_pos h1]
          have h2 := dig_val n
          unfold val at h2
          have h3 : (Lib.decDigits n).length ≠ 0 := fun h => dig_ne n (List.length_eq_zero_iff.1 h)
          rw [if_neg h3, h2]
        · rw [if_neg h1]
          show (1 : Nat) = n
          omega
      have hge := okA_ge ha
      have hneg : decide (a < 0) = false := by rw [decide_eq_false_iff_not]; rw [decide_eq_true_iff] at hge; omega
      rw [loopω_eq, refB1P (txt R) hll (txt A).length (letter a) (dsOf n ++ txt B) hd (ex A) (by omega) f g]
      unfold stepR
      rw [hnum, hdg, i1, hneg, decide_eq_false (by omega : ¬ 4096 < n), decide_eq_false (by omega : ¬ 4096 < (ex A).length + n)]
      simp only [Bool.or_self, cond_false]
      have hA2 : (txt (A ++ [(a, n)])).length = (txt A).length + 1 + (dsOf n).length := by
        rw [txt_append, List.length_append, txt_cons, seg_eq]; simp [txt]; omega
      have hE2 : ex (A ++ [(a, n)]) = ex A ++ List.replicate n a := by simp [ex]
      have := ih (A ++ [(a, n)]) f g (by rw [e]; simp)
      rw [hA2, hE2] at this
      exact this
  have := key R [] false [] rfl
  rw [show (((txt ([] : List (Int × Nat))).length : Nat) : Int) = 0 from rfl, show ex ([] : List (Int × Nat)) = [] from rfl] at this
  rw [this]
  simp only [Option.bind_some, Ex.on]
  rw [refPrint (ex R) (by omega)]
  have hp : prt (ex R) = (⟨(txt R).toArray⟩, true) := by
    unfold prt
    rw [if_neg (by omega), runs_ex R hR, List.all_eq_true.2 hA]; rfl
  rw [hp]
  simp
theorem purePackParses (a0 : ByteArray) (w0 : a0.size ≤ maxLen) : G_law30_PackParses a0 = some true := by
  unfold G_law30_PackParses
  rw [wakesT]
  simp only [Option.bind_some, Bool.not_true, cond_false]
  by_cases hl : (a0.size : Int) > 300
  · rw [decide_eq_true hl]; rfl
  · rw [decide_eq_false hl, cond_false]
    obtain ⟨l, rfl⟩ : ∃ l : List UInt8, a0 = ⟨l.toArray⟩ := ⟨a0.data.toList, by apply ByteArray.ext; simp⟩
    have hll : l.length ≤ 300 := by rw [size_mk] at hl; omega
    have hP := packParse l
    rw [hP]
    simp only [Option.bind_some]
    cases h2 : (pp [] (-1) [] l).2 with
    | true =>
      have hx : pp [] (-1) [] l = ((pp [] (-1) [] l).1, true) := by rw [← h2]
      obtain ⟨R, hR, hA, e1, e2, e3⟩ := snd0 l _ hx
      have hF := refFwd R hR hA (by rw [← e2]; exact e3) (by rw [← e1]; omega)
      rw [← e1, ← e2] at hF
      rw [hF]
      have hS := same_self (pp [] (-1) [] l).1 (by simp only [maxLen]; omega)
      have hZ : G_pack_Size ⟨l.toArray⟩ = some ((pp [] (-1) [] l).1.length : Int) := by unfold G_pack_Size; rw [hP]; rfl
      simp [cal, hS, hZ]
    | false =>
      have hx := pp_no l _ _ _ h2
      obtain ⟨r, hr, hc⟩ := refTotal l (by omega)
      have : r = ([], false) := by
        rcases hc with h | ⟨acts, rfl, hp⟩
        · exact h
        · exfalso
          have hp2 : (prt acts).2 = true := by rw [hp]
          obtain ⟨k1, k2, k3⟩ := prt_ok hp2
          rw [hp] at k3
          have e : l = txt (runs acts) := by
            have := congrArg (fun z => (Prod.fst z).data.toList) k3
            simpa using this
          have hb := back k1 k2
          rw [← e, hx] at hb
          cases hb
      subst this
      rw [hr, hx]
      have hS := same_self [] (by simp [maxLen])
      have hZ : G_pack_Size ⟨l.toArray⟩ = some 0 := by unfold G_pack_Size; rw [hP, hx]; rfl
      simp [cal, hS, hZ]
end Go.Proofs.YtmchkeflhpojmaaDoor
