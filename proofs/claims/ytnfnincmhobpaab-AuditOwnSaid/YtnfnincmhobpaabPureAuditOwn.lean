/- The plain law behind AuditOwn. Conditions: none. -/
import Derived.Test.YtnfnincmhobpaabPChg
set_option linter.unusedVariables false
set_option linter.unusedSimpArgs false
namespace Go.Proofs.Ytnfnincmhobpaab
open Go Go.RowKit Go.Eng
theorem rown_eq {c : Config} (hc : wfc c) (ha : acc c = true) (p : Int) (a b : List Int) (h1 : a.length ≤ 300) (h2 : b.length ≤ 300) : G_ref22_Own c p a b = some (ownB c p a b) := by
  unfold G_ref22_Own
  rw [refChanged_ok a b h1 h2, Option.bind_some]
  have hl := chs_len a b 0 (max a.length b.length)
  have hm : ∀ x ∈ chs a b 0 (max a.length b.length), 0 ≤ x ∧ x ≤ 300 := fun x hx => by
    obtain ⟨j, rfl, _, h, _⟩ := chs_mem.1 hx; omega
  unfold ownB
  generalize hL : chs a b 0 (max a.length b.length) = l at *
  rw [loop_anyL (fun x => !mayB c p x) l false false (fun i hi => ?_) (by unfold G_ref22_Own.b1; rw [lt_f]; rfl)]
  · rw [any_not]
    cases l.all (mayB c p) <;> rfl
  · have hx := hm _ (rdm hi)
    unfold G_ref22_Own.b1
    simp only [lt_t hi, inb_n hi, cond_true, req_t, wp1 hi (by simp only [maxLen]; omega), rmay_eq hc ha p _ (by omega) (show rd l (i : Int) ≤ 9223372036854775807 by omega), Option.bind_some, bif_some]
theorem cont_eq (l : List Int) (hl : l.length ≤ 300) (x : Int) : G_slices_Contains_int_int l x = some (l.any fun y => x == y) := by
  unfold G_slices_Contains_int_int G_slices_Index_int_int
  have h := loop_find (B := G_slices_Index_int_int.b1 l x) l.length 0 (fun i => x == rd l (i : Int)) (fun i => (i : Int)) (fun i hi => by
    unfold G_slices_Index_int_int.b1
    simp only [lt_t hi, inb_n hi, cond_true, req_t, wp1 hi (by simp only [maxLen]; omega), Option.bind_some, bif_some]) (by unfold G_slices_Index_int_int.b1; rw [lt_f]; rfl) l.length 0 (by omega)
  rw [show ((0 : Nat) : Int) = 0 from rfl] at h
  rw [h, ← any_rd, List.range_eq_range']
  cases h2 : (List.range' 0 l.length).find? (fun i : Nat => x == rd l (i : Int)) with
  | none => simp only [Option.bind_some, Ex.on_brk, Option.some.injEq]; rw [show (List.range' 0 l.length).any (fun i : Nat => x == rd l (i : Int)) = false by simpa using h2]; rfl
  | some j => simp only [Option.bind_some, Ex.on_ret, Option.some.injEq]; rw [show (List.range' 0 l.length).any (fun i : Nat => x == rd l (i : Int)) = true by rw [List.any_eq_true]; exact ⟨j, List.mem_of_find?_eq_some h2, List.find?_some (p := fun i : Nat => x == rd l (i : Int)) h2⟩]; simp
theorem rhasI_eq (l : List Int) (hl : l.length ≤ 300) (x : Int) : G_ref22_has l x = some (l.any fun y => x == y) := by
  unfold G_ref22_has
  rw [loop_anyL (fun y => x == y) l false true (fun i hi => ?_) (by unfold G_ref22_has.b1; rw [lt_f]; rfl)]
  · cases l.any (fun y => x == y) <;> rfl
  · unfold G_ref22_has.b1
    have e : (rd l (i : Int) == x) = (x == rd l (i : Int)) := by rw [Bool.eq_iff_iff]; simp; exact eq_comm
    simp only [lt_t hi, inb_n hi, cond_true, req_t, wp1 hi (by simp only [maxLen]; omega), e, bif_some]
def ringB (c : Config) (p z : Int) : Bool := (List.range c.Chans.length).any fun k => z == 2 * (k : Int) + 1 && (rd c.Chans (k : Int)).From == p
theorem rings_eq {c : Config} (hc : wfc c) (hm : c.Chans.length ≤ 8) (p z : Int) : G_ref22_rings c p z = some (ringB c p z) := by
  unfold G_ref22_rings
  rw [loop_any c.Chans.length false true (fun k => z == 2 * (k : Int) + 1 && (rd c.Chans (k : Int)).From == p) (fun i hi => ?_) (by unfold G_ref22_rings.b1; rw [lt_f]; rfl)]
  · unfold ringB
    cases (List.range c.Chans.length).any _ <;> rfl
  · unfold G_ref22_rings.b1
    simp only [lt_t hi, inb_n hi, cond_true, req_t, wp1 hi hc.2.1, imp_tt]
    rw [w64 (x := 2 * (i : Int)) (by omega) (by omega), w64 (x := 2 * (i : Int) + 1) (by omega) (by omega), bif_some]
theorem ring_eq {c : Config} (hm : c.Chans.length ≤ 8) (p z : Int) (h1 : -9223372036854775808 ≤ z) (h2 : z ≤ 9223372036854775807) :
    (((decide (z < 0) || ((Int.tmod z 2) == 0)) || decide ((IntKind.i64.wrap (Int.tdiv z 2)) ≥ (c.Chans.length : Int))) || (((rd c.Chans (IntKind.i64.wrap (Int.tdiv z 2))).From) != p)) = !ringB c p z := by
  by_cases hz : z < 0
  · have e : ringB c p z = false := by
      unfold ringB; rw [List.any_eq_false]; intro k hk; simp; omega
    rw [e]; simp [hz]
  obtain ⟨n, rfl⟩ : ∃ n : Nat, z = (n : Int) := ⟨z.toNat, by omega⟩
  have e1 : Int.tdiv (n : Int) 2 = ((n / 2 : Nat) : Int) := rfl
  have e2 : Int.tmod (n : Int) 2 = ((n % 2 : Nat) : Int) := rfl
  rw [e1, e2, w64 (by omega) (by omega)]
  by_cases hmod : n % 2 = 0
  · have e : ringB c p n = false := by
      unfold ringB; rw [List.any_eq_false]; intro k hk; simp; omega
    rw [e]; simp [hmod]
  by_cases hlt : n / 2 < c.Chans.length
  · have e : ringB c p n = ((rd c.Chans ((n / 2 : Nat) : Int)).From == p) := by
      unfold ringB
      rw [Bool.eq_iff_iff, List.any_eq_true]
      constructor
      · rintro ⟨k, hk, h⟩
        rw [Bool.and_eq_true] at h
        have : n / 2 = k := by have := h.1; simp at this; omega
        rw [this]; exact h.2
      · intro h
        exact ⟨n / 2, List.mem_range.2 hlt, by rw [Bool.and_eq_true]; exact ⟨by simp; omega, h⟩⟩
    rw [e, show decide ((n : Int) < 0) = false by simp, show (((n % 2 : Nat) : Int) == 0) = false by simp; omega, show decide (((n / 2 : Nat) : Int) ≥ (c.Chans.length : Int)) = false by simp; omega]
    simp [bne]
  · have e : ringB c p n = false := by
      unfold ringB; rw [List.any_eq_false]; intro k hk; rw [List.mem_range] at hk; simp; omega
    rw [e, show decide (((n / 2 : Nat) : Int) ≥ (c.Chans.length : Int)) = true by simp; omega]
    simp
def bellB (c : Config) (p : Int) (a b : List Int) : Bool := (a.all fun x => b.any fun y => x == y) && (b.all fun x => (a.any fun y => x == y) || ringB c p x)
theorem bells_eq {c : Config} (hc : wfc c) (hm : c.Chans.length ≤ 8) (p : Int) (a b : List Int) (ha : a.length ≤ 60) (hb : b.length ≤ 60) (wb : ∀ x ∈ b, InK .i64 x) : G_audit_Bells c p a b = some (bellB c p a b) := by
  unfold G_audit_Bells bellB
  rw [loop_anyL (fun x => !b.any fun y => x == y) a false false (fun i hi => ?_) (by unfold G_audit_Bells.b1; rw [lt_f]; rfl)]
  · rw [any_not]
    cases (a.all fun x => b.any fun y => x == y)
    · rfl
    · simp only [Bool.not_true, cond_false, Option.bind_some, Ex.on_brk, Bool.true_and]
      rw [loop_anyL (fun x => !((a.any fun y => x == y) || ringB c p x)) b false false (fun i hi => ?_) (by unfold G_audit_Bells.b2; rw [lt_f]; rfl)]
      · rw [any_not]
        cases b.all fun x => (a.any fun y => x == y) || ringB c p x <;> rfl
      · obtain ⟨z1, z2⟩ := (wb _ (rdm hi)).i64
        unfold G_audit_Bells.b2
        simp only [lt_t hi, inb_n hi, cond_true, req_t, wp1 hi (by simp only [maxLen]; omega), cont_eq a (by omega), Option.bind_some, ring_eq hm p _ z1 z2]
        rw [imp_of (fun h => ?_), req_t]
        · cases (a.any fun y => rd b (i : Int) == y)
          · cases ringB c p (rd b (i : Int)) <;> rfl
          · rfl
        · simp at h
          refine inb_of ?_ ?_
          · have := h.1.1
            have e := Int.tdiv_eq_ediv_of_nonneg (b := 2) this
            rw [e, w64 (by omega) (by omega)]; omega
          · exact h.2
  · unfold G_audit_Bells.b1
    simp only [lt_t hi, inb_n hi, cond_true, req_t, wp1 hi (by simp only [maxLen]; omega), cont_eq b (by omega), Option.bind_some, bif_some]
theorem rbells_eq {c : Config} (hc : wfc c) (hm : c.Chans.length ≤ 8) (p : Int) (a b : List Int) (ha : a.length ≤ 60) (hb : b.length ≤ 60) : G_ref22_Bells c p a b = some (bellB c p a b) := by
  unfold G_ref22_Bells bellB
  rw [loop_anyL (fun x => !b.any fun y => x == y) a false false (fun i hi => ?_) (by unfold G_ref22_Bells.b1; rw [lt_f]; rfl)]
  · rw [any_not]
    cases (a.all fun x => b.any fun y => x == y)
    · rfl
    · simp only [Bool.not_true, cond_false, Option.bind_some, Ex.on_brk, Bool.true_and]
      rw [loop_anyL (fun x => !((a.any fun y => x == y) || ringB c p x)) b false false (fun i hi => ?_) (by unfold G_ref22_Bells.b2; rw [lt_f]; rfl)]
      · rw [any_not]
        cases b.all fun x => (a.any fun y => x == y) || ringB c p x <;> rfl
      · unfold G_ref22_Bells.b2
        simp only [lt_t hi, inb_n hi, cond_true, req_t, imp_tt, wp1 hi (by simp only [maxLen]; omega), rhasI_eq a (by omega), Option.bind_some, rings_eq hc hm]
        cases (a.any fun y => rd b (i : Int) == y)
        · cases ringB c p (rd b (i : Int)) <;> rfl
        · rfl
  · unfold G_ref22_Bells.b1
    simp only [lt_t hi, inb_n hi, cond_true, req_t, wp1 hi (by simp only [maxLen]; omega), rhasI_eq b (by omega), Option.bind_some, bif_some]
theorem great_eq (c : Config) : G_ref06_Great c = some (((decide ((c.Parts.length : Int) > 100) || decide ((c.Chans.length : Int) > 100)) || decide ((c.Frames.e0.Windows.length : Int) > 100)) || decide ((c.Frames.e1.Windows.length : Int) > 100)) := rfl
theorem pureAuditOwn (x0 : Config) (a1 : Int) (x2 : Portholelaw22_Times) (w0 : wf_Config x0) (w1 : InK .i64 a1) (w2 : wf_Portholelaw22_Times x2) : G_law22_AuditOwn x0 a1 x2 = some true := by
  unfold G_law22_AuditOwn
  have hc := wfc_of w0
  simp only [wakes_ok, Option.bind_some, Bool.not_true, cond_false, great_eq]
  generalize (((decide ((x0.Parts.length : Int) > 100) || decide ((x0.Chans.length : Int) > 100)) || decide ((x0.Frames.e0.Windows.length : Int) > 100)) || decide ((x0.Frames.e1.Windows.length : Int) > 100)) = g
  cases g
  case true => simp
  simp only [Bool.not_false, cal_t, racc_eq x0 hc, Option.bind_some, Bool.false_or]
  cases ha : acc x0
  · simp
  simp only [Bool.not_true, Bool.false_or]
  by_cases hl : x2.Before.length ≤ 300 ∧ x2.After.length ≤ 300 ∧ x2.Was.length ≤ 60 ∧ x2.Is.length ≤ 60
  case neg =>
    rw [show (((decide ((x2.Before.length : Int) > 300) || decide ((x2.After.length : Int) > 300)) || decide ((x2.Was.length : Int) > 60)) || decide ((x2.Is.length : Int) > 60)) = true by simp; omega]
    rfl
  obtain ⟨h1, h2, h3, h4⟩ := hl
  rw [show (((decide ((x2.Before.length : Int) > 300) || decide ((x2.After.length : Int) > 300)) || decide ((x2.Was.length : Int) > 60)) || decide ((x2.Is.length : Int) > 60)) = false by simp; omega]
  have hm := (accS ha).m8
  simp only [cond_false, own_eq hc ha _ _ _ h1 h2, rown_eq hc ha _ _ _ h1 h2, Option.bind_some, bells_eq hc hm a1 _ _ h3 h4 w2.2.2.2.2, rbells_eq hc hm a1 _ _ h3 h4, BEq.rfl, cal_t, Bool.true_and]
end Go.Proofs.Ytnfnincmhobpaab
