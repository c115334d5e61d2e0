/- Plain law: the addresses that changed. No statement of the seat is proved here. Conditions: none. -/
import Derived.Test.YtnfnincmhobpaabPLay
set_option linter.unusedVariables false
set_option linter.unusedSimpArgs false
namespace Go.Proofs.Ytnfnincmhobpaab
open Go Go.RowKit Go.Eng
/-- an address that changed -/
def chg (a b : List Int) (i : Nat) : Bool := !((decide ((i : Int) < (a.length : Int)) && decide ((i : Int) < (b.length : Int))) && (rd a (i : Int) == rd b (i : Int)))
def chs (a b : List Int) (i k : Nat) : List Int := ((List.range' i k).filter (chg a b)).map Int.ofNat
theorem mxI_max (a b : Nat) : mxI (a : Int) (b : Int) = ((max a b : Nat) : Int) := by
  unfold mxI; split <;> omega
theorem chs_succ (a b : List Int) (i k : Nat) : chs a b i (k + 1) = if chg a b i then (i : Int) :: chs a b (i + 1) k else chs a b (i + 1) k := by
  unfold chs
  rw [List.range'_succ, List.filter_cons]
  split <;> simp
theorem chs_len (a b : List Int) (i k : Nat) : (chs a b i k).length ≤ k := by
  unfold chs
  rw [List.length_map]
  exact Nat.le_trans (List.length_filter_le _ _) (by simp)
theorem changed1_loop {σt R : Type} (bd : σt → Int → Option (Stp σt R)) (s0 : σt) (a b : List Int) (ha : a.length ≤ 300) (hb : b.length ≤ 300) : ∀ (k i : Nat) (s : σt), i + k = max a.length b.length →
    ((loopω (G_audit_Changed_1.b1 bd s0 a b) ((i : Int), s)).bind fun o => o.on (fun s1 => some (.next s1.2)) (fun r => some r)) = foldS bd s (chs a b i k)
  | 0, i, s, h => by
    rw [loopω_eq]
    have : decide ((i : Int) < mxI (a.length : Int) (b.length : Int)) = false := by rw [mxI_max]; simp; omega
    simp only [G_audit_Changed_1.b1, this, cond_false]
    rfl
  | k + 1, i, s, h => by
    rw [loopω_eq, chs_succ]
    have h1 : decide ((i : Int) < mxI (a.length : Int) (b.length : Int)) = true := by rw [mxI_max]; simp; omega
    have h2 : imp (decide ((i : Int) < (a.length : Int)) && decide ((i : Int) < (b.length : Int))) (inb (i : Int) a.length) = true := by simp [imp, inb]; omega
    have h3 : imp (decide ((i : Int) < (a.length : Int)) && decide ((i : Int) < (b.length : Int))) (inb (i : Int) b.length) = true := by simp [imp, inb]; omega
    have h4 : IntKind.i64.wrap ((i : Int) + 1) = ((i + 1 : Nat) : Int) := by rw [w64] <;> omega
    simp only [G_audit_Changed_1.b1, h1, h2, h3, h4, cond_true, req_t]
    have hc : ((decide ((i : Int) < (a.length : Int)) && decide ((i : Int) < (b.length : Int))) && (rd a (i : Int) == rd b (i : Int))) = !chg a b i := by unfold chg; simp
    rw [hc]
    cases chg a b i
    · simp only [Bool.not_false, cond_true, Bool.false_eq_true, if_false]
      exact changed1_loop bd s0 a b ha hb k (i + 1) s (by omega)
    · simp only [Bool.not_true, cond_false, if_true, foldS_cons]
      cases bd s (i : Int) with
      | none => rfl
      | some z =>
        cases z with
        | next s' =>
          simp only [Option.bind_some, Stp.on_next]
          exact changed1_loop bd s0 a b ha hb k (i + 1) s' (by omega)
        | out r => rfl
theorem changed1_ok {σt R : Type} (bd : σt → Int → Option (Stp σt R)) (s0 : σt) (a b : List Int) (ha : a.length ≤ 300) (hb : b.length ≤ 300) : G_audit_Changed_1 bd s0 a b = foldS bd s0 (chs a b 0 (max a.length b.length)) :=
  changed1_loop bd s0 a b ha hb _ 0 s0 (by omega)
theorem told_ok (a b : List Int) (m : Nat) (hm : m ≤ 1000) (ha : a.length ≤ 300) (hb : b.length ≤ 300) : G_law22_told a b (m : Int) = some ((chs a b 0 (max a.length b.length)).take m) := by
  unfold G_law22_told
  simp only [G_audit_Changed, Option.bind_some, changed1_ok _ _ a b ha hb]
  obtain ⟨z, h1, h2⟩ := foldS_take (bd := G_law22_told.r1 a b (m : Int) (a, b)) (m := m) (fun s x hs => by
    unfold G_law22_told.r1
    by_cases hc : m ≤ s.length
    · have : decide ((s.length : Int) ≥ (m : Int)) = true := by simp; omega
      rw [this, if_pos hc]; rfl
    · have : decide ((s.length : Int) ≥ (m : Int)) = false := by simp; omega
      have h2 : decide ((s.length + 1) * 8 ≤ 140737488355328) = true := by simp; omega
      rw [this, if_neg hc, h2]; rfl) (chs a b 0 (max a.length b.length)) [] (by simp)
  rw [h1]
  cases z <;> simp_all
theorem same_loop (a b : List Int) (ha : a.length ≤ 1000) (hl : a.length = b.length) : ∀ (k i : Nat), i + k = a.length → (∀ j, j < i → rd a (j : Int) = rd b (j : Int)) →
    ((loopω (G_ref01_Same.b1 a b) ((i : Int), false)).bind fun o => o.on (fun s1 => some true) (fun r => some r)) = some (decide (∀ j, j < a.length → rd a (j : Int) = rd b (j : Int)))
  | 0, i, h, hj => by
    rw [loopω_eq]
    have : decide ((i : Int) < (a.length : Int)) = false := by simp; omega
    simp only [G_ref01_Same.b1, this, cond_false]
    have : decide (∀ j, j < a.length → rd a (j : Int) = rd b (j : Int)) = true := by simp; intro j hjj; exact hj j (by omega)
    rw [this]; rfl
  | k + 1, i, h, hj => by
    rw [loopω_eq]
    have h1 : decide ((i : Int) < (a.length : Int)) = true := by simp; omega
    have h2 : inb (i : Int) a.length = true := by simp [inb]; omega
    have h3 : inb (i : Int) b.length = true := by simp [inb]; omega
    have h4 : IntKind.i64.wrap ((i : Int) + 1) = ((i + 1 : Nat) : Int) := by rw [w64] <;> omega
    simp only [G_ref01_Same.b1, h1, h2, h3, h4, cond_true, req_t]
    by_cases he : rd a (i : Int) = rd b (i : Int)
    · have : (rd a (i : Int) != rd b (i : Int)) = false := by simp [he]
      rw [this]
      simp only [cond_false]
      exact same_loop a b ha hl k (i + 1) (by omega) (fun j hjj => by
        by_cases hji : j = i
        · rw [hji]; exact he
        · exact hj j (by omega))
    · have : (rd a (i : Int) != rd b (i : Int)) = true := by simp [he]
      rw [this]
      have hd : decide (∀ j, j < a.length → rd a (j : Int) = rd b (j : Int)) = false := by simp; exact ⟨i, by omega, he⟩
      rw [hd]; rfl
theorem same_self (a : List Int) (ha : a.length ≤ 1000) : G_ref01_Same a a = some true := by
  unfold G_ref01_Same
  have : ((a.length : Int) != (a.length : Int)) = false := by simp
  rw [this]
  simp only [cond_false]
  have := same_loop a a ha rfl a.length 0 (by omega) (fun j hj => by omega)
  simpa using this
theorem refChanged_loop (a b : List Int) (ha : a.length ≤ 300) (hb : b.length ≤ 300) : ∀ (k i : Nat) (out : List Int), i + k = max a.length b.length → out.length ≤ i →
    ((loopω (G_ref22_Changed.b1 a b) ((i : Int), out)).bind fun o => o.on (fun s1 => some s1.2) (fun r => some r)) = some (out ++ chs a b i k)
  | 0, i, out, h, ho => by
    rw [loopω_eq]
    have : (decide ((i : Int) < (a.length : Int)) || decide ((i : Int) < (b.length : Int))) = false := by simp; omega
    simp only [G_ref22_Changed.b1, this, cond_false]
    simp [chs]
  | k + 1, i, out, h, ho => by
    rw [loopω_eq, chs_succ]
    have h1 : (decide ((i : Int) < (a.length : Int)) || decide ((i : Int) < (b.length : Int))) = true := by simp; omega
    have h2 : imp (!(decide ((i : Int) ≥ (a.length : Int)) || decide ((i : Int) ≥ (b.length : Int)))) (inb (i : Int) a.length) = true := by simp [imp, inb]; omega
    have h3 : imp (!(decide ((i : Int) ≥ (a.length : Int)) || decide ((i : Int) ≥ (b.length : Int)))) (inb (i : Int) b.length) = true := by simp [imp, inb]; omega
    have h4 : IntKind.i64.wrap ((i : Int) + 1) = ((i + 1 : Nat) : Int) := by rw [w64] <;> omega
    have h5 : decide ((out.length + 1) * 8 ≤ 140737488355328) = true := by simp; omega
    simp only [G_ref22_Changed.b1, h1, h2, h3, h4, h5, cond_true, req_t]
    have hc : ((decide ((i : Int) ≥ (a.length : Int)) || decide ((i : Int) ≥ (b.length : Int))) || (rd a (i : Int) != rd b (i : Int))) = chg a b i := by
      unfold chg
      by_cases e1 : i < a.length <;> by_cases e2 : i < b.length <;> simp_all [bne] <;> omega
    rw [hc]
    cases chg a b i
    · simp only [cond_false, Bool.false_eq_true, if_false]
      exact refChanged_loop a b ha hb k (i + 1) out (by omega) (by omega)
    · simp only [cond_true, if_true]
      have := refChanged_loop a b ha hb k (i + 1) (out ++ [(i : Int)]) (by omega) (by simp; omega)
      simpa using this
theorem refChanged_ok (a b : List Int) (ha : a.length ≤ 300) (hb : b.length ≤ 300) : G_ref22_Changed a b = some (chs a b 0 (max a.length b.length)) := by
  have := refChanged_loop a b ha hb (max a.length b.length) 0 [] (by omega) (by simp)
  simpa [G_ref22_Changed] using this
theorem quiet_ok (a b : List Int) (ha : a.length ≤ 300) (hb : b.length ≤ 300) : G_audit_Quiet a b = some (((chs a b 0 (max a.length b.length)).length : Int) == 0) := by
  unfold G_audit_Quiet
  simp only [G_audit_Changed, Option.bind_some, changed1_ok _ _ a b ha hb]
  cases chs a b 0 (max a.length b.length) with
  | nil => rfl
  | cons x l =>
    simp only [foldS_cons, G_audit_Quiet.r1, Option.bind_some, Stp.on_out, List.length_cons]
    congr 1
theorem wakes_ok : G_law22_wakes = some true := by
  unfold G_law22_wakes
  have h2 : (chs ([1, 2] : List Int) ([1, 3, 4] : List Int) 0 3).take 9 = ([1, 2] : List Int) := by decide
  have h1 : G_law22_told ([1, 2] : List Int) ([1, 3, 4] : List Int) 9 = some ([1, 2] : List Int) := (told_ok ([1, 2] : List Int) ([1, 3, 4] : List Int) 9 (by decide) (by decide) (by decide)).trans (congrArg some h2)
  rw [h1]
  simp only [Option.bind_some]
  rw [same_self _ (by decide)]
  rfl
theorem chs_mem {a b : List Int} {i k : Nat} {x : Int} : x ∈ chs a b i k ↔ ∃ j : Nat, x = (j : Int) ∧ i ≤ j ∧ j < i + k ∧ chg a b j = true := by
  unfold chs
  rw [List.mem_map]
  constructor
  · rintro ⟨j, hj, rfl⟩
    rw [List.mem_filter, List.mem_range'_1] at hj
    exact ⟨j, rfl, hj.1.1, hj.1.2, hj.2⟩
  · rintro ⟨j, rfl, h1, h2, h3⟩
    exact ⟨j, by rw [List.mem_filter, List.mem_range'_1]; exact ⟨⟨h1, h2⟩, h3⟩, rfl⟩
theorem foldS_all {σt R : Type} {bd : σt → Int → Option (Stp σt R)} {q : Int → Bool} {s : σt} {r : R} : ∀ {l : List Int}, (∀ x ∈ l, bd s x = some (bif q x then .next s else .out r)) → foldS bd s l = some (bif l.all q then .next s else .out r)
  | [], _ => rfl
  | x :: l, h => by
    rw [foldS_cons, h x (by simp), List.all_cons, Option.bind_some]
    cases q x
    · rfl
    · simp only [cond_true, Stp.on_next, Bool.true_and]
      exact foldS_all (fun y hy => h y (List.mem_cons_of_mem _ hy))
/-- all that changed may be a partition's -/
def ownB (c : Config) (p : Int) (a b : List Int) : Bool := (chs a b 0 (max a.length b.length)).all (mayB c p)
theorem own_eq {c : Config} (hc : wfc c) (ha : acc c = true) (p : Int) (a b : List Int) (h1 : a.length ≤ 300) (h2 : b.length ≤ 300) : G_audit_Own c p a b = some (ownB c p a b) := by
  unfold G_audit_Own
  simp only [G_audit_Changed, Option.bind_some, changed1_ok _ _ a b h1 h2]
  rw [foldS_all (q := mayB c p) (r := (0, false)) (fun x hx => ?_)]
  · unfold ownB
    cases (chs a b 0 (max a.length b.length)).all (mayB c p) <;> rfl
  · unfold G_audit_Own.r1
    rw [may_eq hc ha, Option.bind_some]
    cases mayB c p x <;> rfl
end Go.Proofs.Ytnfnincmhobpaab
