/- The plain law behind WitOnce: what comes in order has each item once. -/
import Derived.Test.YtnfnincmhobpaaaPWitR1
set_option linter.unusedVariables false
set_option linter.unusedSimpArgs false
namespace Go.Proofs.Ytnfnincmhobpaaa
open Go Go.RowKit Go.Eng
theorem loop_seq {σ ρ : Type} {B : Int × σ → Option (Stp (Int × σ) (Ex (Int × σ) ρ))} (n : Nat) (S : Nat → σ) (h1 : ∀ i : Nat, i < n → B ((i : Int), S i) = some (.next (((i + 1 : Nat) : Int), S (i + 1)))) (h2 : B ((n : Int), S n) = some (.out (.brk ((n : Int), S n)))) :
    loopω B (0, S 0) = some (.brk ((n : Int), S n)) := by
  have : ∀ (k i : Nat), i + k = n → loopω B ((i : Int), S i) = some (.brk ((n : Int), S n)) := by
    intro k
    induction k with
    | zero => intro i h; obtain rfl : i = n := by omega
              rw [loopω_eq, h2]
    | succ k ih => intro i h; rw [loopω_eq, h1 i (by omega)]; exact ih (i + 1) (by omega)
  exact this n 0 (by omega)
def cnt (L : List Item) (k n : Nat) (K : Int) : List Int := (List.range n).map fun (j : Nat) => if (⟨K, (j : Int)⟩ : Item) ∈ L.take k then 1 else 0
theorem cnt_len (L : List Item) (k n : Nat) (K : Int) : (cnt L k n K).length = n := by simp [cnt]
theorem cnt_rd (L : List Item) (k n : Nat) (K : Int) {j : Nat} (hj : j < n) : rd (cnt L k n K) (j : Int) = if (⟨K, (j : Int)⟩ : Item) ∈ L.take k then 1 else 0 := by
  simp [cnt, rd, List.getD_eq_getElem?_getD, hj]
theorem cnt_zero (L : List Item) (n : Nat) (K : Int) : cnt L 0 n K = List.replicate n 0 := by
  unfold cnt
  rw [List.eq_replicate_iff]
  refine ⟨by simp, fun x hx => ?_⟩
  obtain ⟨j, _, rfl⟩ := List.mem_map.1 hx
  simp
theorem cnt_other {L : List Item} {k : Nat} (hk : k < L.length) (n : Nat) {K : Int} (h : L[k].Kind ≠ K) : cnt L (k + 1) n K = cnt L k n K := by
  unfold cnt
  refine List.map_congr_left fun j hj => ?_
  have : ((⟨K, (j : Int)⟩ : Item) ∈ L.take (k + 1)) ↔ ((⟨K, (j : Int)⟩ : Item) ∈ L.take k) := by
    rw [List.take_succ_eq_append_getElem hk, List.mem_append, List.mem_singleton]
    refine ⟨fun hh => hh.resolve_right fun he => h (by rw [← he]), .inl⟩
  simp only [this]
theorem cnt_set {L : List Item} {k : Nat} (hk : k < L.length) {n j : Nat} {K : Int} (h : L[k] = ⟨K, (j : Int)⟩) (hj : j < n) : (cnt L k n K).set j 1 = cnt L (k + 1) n K := by
  apply List.ext_getElem?
  intro i
  rw [List.getElem?_set, cnt_len]
  unfold cnt
  have hm : ∀ q : Nat, ((⟨K, (q : Int)⟩ : Item) ∈ L.take (k + 1)) ↔ ((⟨K, (q : Int)⟩ : Item) ∈ L.take k ∨ q = j) := fun q => by
    rw [List.take_succ_eq_append_getElem hk, List.mem_append, List.mem_singleton, h]
    constructor
    · rintro (hh | hh)
      · exact .inl hh
      · right; injection hh with _ hh; omega
    · rintro (hh | rfl)
      · exact .inl hh
      · exact .inr rfl
  by_cases hji : j = i
  · subst hji
    rw [if_pos rfl, if_pos hj, List.getElem?_map, List.getElem?_range hj]
    simp only [Option.map_some, hm, or_true, if_true]
  · rw [if_neg hji, List.getElem?_map, List.getElem?_map]
    cases hi : (List.range n)[i]? with
    | none => rfl
    | some q =>
      have hq : q = i := by rw [List.getElem?_eq_some_iff] at hi; obtain ⟨_, hi⟩ := hi; simpa using hi.symm
      subst hq
      simp only [Option.map_some, hm, or_iff_left (Ne.symm hji)]
theorem not_again {L : List Item} (hd : L.Nodup) {k : Nat} (hk : k < L.length) : L[k] ∉ L.take k := fun hm => by
  obtain ⟨i, hi, he⟩ := List.mem_iff_getElem.1 hm
  rw [List.length_take] at hi
  rw [List.getElem_take] at he
  have := nodup_inj hd (by omega) hk he
  omega
/-- what is told of the items -/
structure Good (n m : Nat) (L : List Item) : Prop where
  len : L.length ≤ 180
  nd : L.Nodup
  all : ∀ x ∈ L, ∃ j : Nat, x.Of = j ∧ ((x.Kind = 1 ∧ j < n) ∨ (x.Kind = 2 ∧ j < n) ∨ (x.Kind = 3 ∧ j < m))
abbrev sts (L : List Item) (n m : Nat) (k : Nat) : Bool × List Int × List Int × List Int := (false, cnt L k n 1, cnt L k n 2, cnt L k m 3)
theorem w01 : IntKind.i64.wrap ((0 : Int) + 1) = 1 := by decide
theorem once_step {l0 : List Call} {l1 : List Belling} {t3 t10 : Bool} {L : List Item} (hL : Good l0.length l1.length L) (k : Nat) (hk : k < L.length) :
    G_law19_WitOnce.b1 l0 l1 t3 t10 L ((k : Int), sts L l0.length l1.length k) = some (.next (((k + 1 : Nat) : Int), sts L l0.length l1.length (k + 1))) := by
  have hr : rd L (k : Int) = L[k] := gt_of hk
  have hn := not_again hL.nd hk
  obtain ⟨j, hj, hc⟩ := hL.all L[k] (List.getElem_mem hk)
  have hw := wp1 hk (by have := hL.len; simp only [maxLen]; omega)
  rcases hc with ⟨hc, hb⟩ | ⟨hc, hb⟩ | ⟨hc, hb⟩
  · have hx : L[k] = ⟨1, (j : Int)⟩ := by cases hq : L[k]; rw [hq] at hj hc; simp only at hj hc; rw [hj, hc]
    rw [hx] at hn
    unfold G_law19_WitOnce.b1
    dsimp only [sts]
    rw [lt_t hk, cond_true, inb_n hk, req_t, hr, hx, hw]
    simp only [cnt_len, inb_n hb, imp_tt, req_t, cnt_rd L k _ 1 hb, if_neg hn, w01]
    rw [cnt_other hk _ (K := 2) (by rw [hc]; decide), cnt_other hk _ (K := 3) (by rw [hc]; decide), ← cnt_set hk hx hb]
    have e1 : decide ((j : Int) < 0) = false := by simp
    have e2 : decide ((j : Int) ≥ (l0.length : Int)) = false := by simp; omega
    rw [e1, e2]
    rfl
  · have hx : L[k] = ⟨2, (j : Int)⟩ := by cases hq : L[k]; rw [hq] at hj hc; simp only at hj hc; rw [hj, hc]
    rw [hx] at hn
    unfold G_law19_WitOnce.b1
    dsimp only [sts]
    rw [lt_t hk, cond_true, inb_n hk, req_t, hr, hx, hw]
    simp only [cnt_len, inb_n hb, imp_tt, req_t, cnt_rd L k _ 2 hb, if_neg hn, w01]
    rw [cnt_other hk _ (K := 1) (by rw [hc]; decide), cnt_other hk _ (K := 3) (by rw [hc]; decide), ← cnt_set hk hx hb]
    have e1 : decide ((j : Int) < 0) = false := by simp
    have e2 : decide ((j : Int) ≥ (l0.length : Int)) = false := by simp; omega
    rw [e1, e2]
    rfl
  · have hx : L[k] = ⟨3, (j : Int)⟩ := by cases hq : L[k]; rw [hq] at hj hc; simp only at hj hc; rw [hj, hc]
    rw [hx] at hn
    unfold G_law19_WitOnce.b1
    dsimp only [sts]
    rw [lt_t hk, cond_true, inb_n hk, req_t, hr, hx, hw]
    simp only [cnt_len, inb_n hb, imp_tt, req_t, cnt_rd L k _ 3 hb, if_neg hn, w01]
    rw [cnt_other hk _ (K := 1) (by rw [hc]; decide), cnt_other hk _ (K := 2) (by rw [hc]; decide), ← cnt_set hk hx hb]
    have e1 : decide ((j : Int) < 0) = false := by simp
    have e2 : decide ((j : Int) ≥ (l1.length : Int)) = false := by simp; omega
    rw [e1, e2]
    rfl
theorem mem_items {l l' : List Wit_spot} (hp : l'.Perm l) (x : Item) : x ∈ l'.map Wit_spot.item ↔ ∃ s ∈ l, s.item = x := by
  rw [List.mem_map]
  exact ⟨fun ⟨s, h1, h2⟩ => ⟨s, hp.mem_iff.1 h1, h2⟩, fun ⟨s, h1, h2⟩ => ⟨s, hp.mem_iff.2 h1, h2⟩⟩
theorem lp_mem {P : Nat → Int × Bool × Bool} {l : List Call} {b : List Belling} {s : Wit_spot} : s ∈ lp P l b ↔ (∃ i : Nat, i < l.length ∧ (s ∈ effs P i ∨ s ∈ rng l i)) ∨ ∃ i : Nat, i < b.length ∧ s ∈ bel b i := by
  unfold lp
  simp only [List.mem_append, List.mem_flatMap, List.mem_range]
theorem mem1 {P : Nat → Int × Bool × Bool} {l : List Call} {b : List Belling} {i : Nat} (hi : i < l.length) : (∃ s ∈ lp P l b, s.item = ⟨1, (i : Int)⟩) ↔ (P i).2.2 = true := by
  constructor
  · rintro ⟨s, hs, he⟩
    rcases lp_mem.1 hs with ⟨q, hq, h | h⟩ | ⟨q, hq, h⟩
    · have h0 := (effs_mem h).1
      rw [he] at h0
      have : (i : Int) = q := by injection h0
      obtain rfl : i = q := by omega
      unfold effs at h
      cases hp : (P i).2.2 with
      | true => rfl
      | false => rw [hp] at h; cases h
    · have := (rng_mem h).1; rw [he] at this; injection this with h1 _; cases h1
    · have := (bel_mem h).1; rw [he] at this; injection this with h1 _; cases h1
  · intro hp
    refine ⟨_, lp_mem.2 (.inl ⟨i, hi, .inl (by unfold effs; rw [hp, cond_true]; exact List.mem_singleton.2 rfl)⟩), rfl⟩
theorem mem2 {P : Nat → Int × Bool × Bool} {l : List Call} {b : List Belling} {i : Nat} (hi : i < l.length) : (∃ s ∈ lp P l b, s.item = ⟨2, (i : Int)⟩) ↔ (rd l (i : Int)).Ring ≥ 0 := by
  constructor
  · rintro ⟨s, hs, he⟩
    rcases lp_mem.1 hs with ⟨q, hq, h | h⟩ | ⟨q, hq, h⟩
    · have := (effs_mem h).1; rw [he] at this; injection this with h1 _; cases h1
    · have h0 := (rng_mem h).1
      rw [he] at h0
      have : (i : Int) = q := by injection h0
      obtain rfl : i = q := by omega
      unfold rng at h
      by_cases hp : (rd l (i : Int)).Ring ≥ 0
      · exact hp
      · rw [decide_eq_false hp] at h; cases h
    · have := (bel_mem h).1; rw [he] at this; injection this with h1 _; cases h1
  · intro hp
    refine ⟨_, lp_mem.2 (.inl ⟨i, hi, .inr (by unfold rng; rw [decide_eq_true hp, cond_true]; exact List.mem_singleton.2 rfl)⟩), rfl⟩
theorem mem3 {P : Nat → Int × Bool × Bool} {l : List Call} {b : List Belling} {i : Nat} (hi : i < b.length) : ∃ s ∈ lp P l b, s.item = ⟨3, (i : Int)⟩ :=
  ⟨_, lp_mem.2 (.inr ⟨i, hi, by unfold bel; exact List.mem_singleton.2 rfl⟩), rfl⟩
theorem lp_good {P : Nat → Int × Bool × Bool} {l : List Call} {b : List Belling} {l' : List Wit_spot} (hl : l.length ≤ 60) (hb : b.length ≤ 60) (hs : Sorted (lp P l b) l') : Good l.length b.length (l'.map Wit_spot.item) := by
  refine ⟨?_, ?_, fun x hx => ?_⟩
  · rw [List.length_map, hs.perm.length_eq]; have := lp_len P l b; omega
  · exact (hs.perm.map _).nodup_iff.2 (dx_items (lp_dx P l b))
  · obtain ⟨s, h1, rfl⟩ := (mem_items hs.perm x).1 hx
    rcases lp_mem.1 h1 with ⟨q, hq, h | h⟩ | ⟨q, hq, h⟩
    · rw [(effs_mem h).1]; exact ⟨q, rfl, .inl ⟨rfl, hq⟩⟩
    · rw [(rng_mem h).1]; exact ⟨q, rfl, .inr (.inl ⟨rfl, hq⟩)⟩
    · rw [(bel_mem h).1]; exact ⟨q, rfl, .inr (.inr ⟨rfl, hq⟩)⟩
theorem one_iff {p : Prop} [Decidable p] : ((if p then (1 : Int) else 0) == 1) = decide p := by by_cases h : p <;> simp [h]
theorem pureWitOnce (x0 : (List Call)) (x1 : (List Belling)) (w0 : x0.length ≤ maxLen ∧ ∀ x ∈ x0, wf_Call x) (w1 : x1.length ≤ maxLen ∧ ∀ x ∈ x1, wf_Belling x) : G_law19_WitOnce x0 x1 = some true := by
  unfold G_law19_WitOnce
  rw [wakes19, Option.bind_some]
  simp only [Bool.not_true, cond_false]
  by_cases hl : x0.length ≤ 60 ∧ x1.length ≤ 60
  case neg =>
    have : (decide ((x0.length : Int) > 60) || decide ((x1.length : Int) > 60)) = true := by simp; omega
    rw [this]; simp
  have hf : (decide ((x0.length : Int) > 60) || decide ((x1.length : Int) > 60)) = false := by simp; omega
  rw [hf]
  simp only [Bool.not_false, cal_t, Bool.false_or]
  obtain ⟨b, hb, hS⟩ := sound_ok x0 hl.1
  rw [hb, Option.bind_some]
  cases b with
  | false => simp
  | true =>
    simp only [Bool.not_true, cond_false]
    obtain ⟨p, p1, p2⟩ := places (hS.1 rfl)
    obtain ⟨l', s1, s2⟩ := spots_eq hl.1 hl.2 p2
    have hg := lp_good hl.1 hl.2 s2
    have hlen : l'.length ≤ 180 := by have := hg.len; rwa [List.length_map] at this
    have hm : ∀ x, x ∈ l'.map Wit_spot.item ↔ ∃ s ∈ lp (P3 p) x0 x1, s.item = x := mem_items s2.perm
    rw [worder_eq s1 hlen, Option.bind_some]
    generalize l'.map Wit_spot.item = L at hg hm
    have r1 : (decide (0 ≤ (x0.length : Int)) && decide (((x0.length : Int) : Int).toNat * (1 + 8) ≤ 16777216)) = true := by simp; omega
    have r2 : (decide (0 ≤ (x1.length : Int)) && decide (((x1.length : Int) : Int).toNat * (1 + 8) ≤ 16777216)) = true := by simp; omega
    rw [r1, r2, req_t, req_t, req_t, Int.toNat_natCast, Int.toNat_natCast]
    have L1 := loop_seq (B := G_law19_WitOnce.b1 x0 x1 true true L) L.length (sts L x0.length x1.length) (fun i hi => once_step hg i hi) (by
      unfold G_law19_WitOnce.b1
      dsimp only
      rw [lt_f, cond_false])
    simp only [sts, cnt_zero] at L1
    rw [L1, Option.bind_some, Ex.on_brk]
    have ht : L.take L.length = L := List.take_length
    have L2 := loop_seq (ρ := Bool) (B := G_law19_WitOnce.b2 x0 x1 true true L ((L.length : Int), sts L x0.length x1.length L.length)) x0.length (fun _ => false) (fun i hi => by
      unfold G_law19_WitOnce.b2
      dsimp only
      rw [lt_t hi, cond_true, inb_n hi, req_t, p1 i hi, Option.bind_some, cnt_len, cnt_len, inb_n hi, req_t, imp_tt, req_t, cnt_rd _ _ _ _ hi, cnt_rd _ _ _ _ hi, one_iff, one_iff, ht, wp1 hi (by simp only [maxLen]; omega)]
      have e1 : decide ((⟨1, (i : Int)⟩ : Item) ∈ L) = (p i).Is := by
        rw [Bool.eq_iff_iff, decide_eq_true_iff, hm, mem1 hi]
      have e2 : decide ((⟨2, (i : Int)⟩ : Item) ∈ L) = decide ((rd x0 (i : Int)).Ring ≥ 0) := by
        rw [Bool.eq_iff_iff, decide_eq_true_iff, decide_eq_true_iff, hm, mem2 hi]
      rw [e1, e2]
      simp) (by
      unfold G_law19_WitOnce.b2
      dsimp only
      rw [lt_f, cond_false])
    rw [L2, Option.bind_some, Ex.on_brk]
    have L3 := loop_seq (ρ := Bool) (B := G_law19_WitOnce.b3 x0 x1 true true L ((L.length : Int), sts L x0.length x1.length L.length) ((x0.length : Int), false)) x1.length (fun _ => false) (fun i hi => by
      unfold G_law19_WitOnce.b3
      dsimp only
      rw [cnt_len, lt_t hi, cond_true, inb_n hi, req_t, cnt_rd _ _ _ _ hi, ht, if_pos ((hm _).2 (mem3 hi)), wp1 hi (by simp only [maxLen]; omega)]
      rfl) (by
      unfold G_law19_WitOnce.b3
      dsimp only
      rw [cnt_len, lt_f, cond_false])
    rw [L3, Option.bind_some, Ex.on_brk]
end Go.Proofs.Ytnfnincmhobpaaa
