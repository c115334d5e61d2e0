/- The plain law behind a call's words, bound and steps. -/
import Derived.Test.YtnfnincmhobpaabPureAccB
set_option linter.unusedVariables false
set_option linter.unusedSimpArgs false
namespace Go.Proofs.Ytnfnincmhobpaab
open Go Go.RowKit Go.Eng
def hasCh (c : Config) (q : Request) : Bool := decide (3 ≤ q.Op ∧ q.Op ≤ 7 ∧ 0 ≤ q.Port ∧ q.Port < 2 * (c.Chans.length : Int))
theorem port64 {q : Request} (h : wf_Request q) : -9223372036854775808 ≤ q.Port ∧ q.Port ≤ 9223372036854775807 := InK.i64 h.2.1
theorem tdiv2 (p : Int) : (0 ≤ p → Int.tdiv p 2 = p / 2) ∧ (p < 0 → Int.tdiv p 2 = -((-p) / 2)) := by
  refine ⟨fun h => Int.tdiv_eq_ediv_of_nonneg h, fun h => ?_⟩
  rw [← Int.tdiv_eq_ediv_of_nonneg (by omega), Int.neg_tdiv, Int.neg_neg]
theorem has_ok (c : Config) (q : Request) (hc : c.Chans.length ≤ 100) : G_ref23_has c q = some (hasCh c q) := by
  unfold G_ref23_has hasCh
  rw [w64 (by omega) (by omega)]
  congr 1
  rw [Bool.eq_iff_iff]
  simp
  omega
theorem half {q : Request} (hw : wf_Request q) : IntKind.i64.wrap (Int.tdiv q.Port 2) = Int.tdiv q.Port 2 := by
  have := port64 hw
  have h2 := tdiv2 q.Port
  by_cases h : 0 ≤ q.Port
  · rw [w64] <;> have := h2.1 h <;> omega
  · rw [w64] <;> have := h2.2 (by omega) <;> omega
theorem hasCh_inb {c : Config} {q : Request} (hw : wf_Request q) (h : hasCh c q = true) : inb (IntKind.i64.wrap (Int.tdiv q.Port 2)) c.Chans.length = true := by
  rw [half hw]
  simp only [hasCh, decide_eq_true_eq] at h
  rw [(tdiv2 q.Port).1 (by omega)]
  exact inb_of (by omega) (by omega)
theorem channel_ok (c : Config) (q : Request) (hc : c.Chans.length ≤ 100) (hw : wf_Request q) : G_bound_channel c q = some (bif hasCh c q then (rd c.Chans (IntKind.i64.wrap (Int.tdiv q.Port 2)), true) else ((⟨0, 0, 0, 0, 0, 0, 0⟩ : Chan), false)) := by
  unfold G_bound_channel
  cases h : hasCh c q
  · rw [half hw]
    rw [show (((decide (q.Op < 3) || decide (q.Op > 7)) || decide (q.Port < 0)) || decide (Int.tdiv q.Port 2 ≥ (c.Chans.length : Int))) = true by
      simp only [hasCh, decide_eq_false_iff_not] at h
      have h2 := tdiv2 q.Port
      simp
      by_cases hp : 0 ≤ q.Port
      · have := h2.1 hp; omega
      · omega]
    rfl
  · rw [hasCh_inb hw h]
    have h' := h
    simp only [hasCh, decide_eq_true_eq] at h
    rw [half hw]
    rw [show (((decide (q.Op < 3) || decide (q.Op > 7)) || decide (q.Port < 0)) || decide (Int.tdiv q.Port 2 ≥ (c.Chans.length : Int))) = false by
      have h2 := (tdiv2 q.Port).1 (by omega)
      simp
      omega]
    rfl
def wds (c : Config) (q : Request) : Int := bif hasCh c q then (rd c.Chans (IntKind.i64.wrap (Int.tdiv q.Port 2))).Words else 0
theorem words_ok (c : Config) (q : Request) (hc : c.Chans.length ≤ 100) (hw : wf_Request q) : G_bound_Words c q = some (wds c q) := by
  unfold G_bound_Words wds
  rw [channel_ok c q hc hw]
  cases hasCh c q <;> rfl
theorem rwords_ok (c : Config) (q : Request) (hc : c.Chans.length ≤ 100) (hw : wf_Request q) : G_ref23_Words c q = some (wds c q) := by
  unfold G_ref23_Words wds
  rw [has_ok c q hc]
  cases h : hasCh c q
  · rfl
  · simp only [Option.bind_some, Bool.not_true, cond_false, hasCh_inb hw h, req_t, cond_true]
theorem wds_le {c : Config} (ha : Acc c) {q : Request} (hw : wf_Request q) : 0 ≤ wds c q ∧ wds c q ≤ 16 := by
  unfold wds
  cases h : hasCh c q
  · simp
  · rw [half hw]
    simp only [hasCh, decide_eq_true_eq] at h
    rw [(tdiv2 q.Port).1 (by omega)]
    have := ha.words (q.Port / 2).toNat (by omega)
    rw [show (((q.Port / 2).toNat : Nat) : Int) = q.Port / 2 by omega] at this
    simp only [cond_true]
    omega
theorem bound_ok (c : Config) (q : Request) (hc : c.Chans.length ≤ 100) (hw : wf_Request q) : G_bound_Bound c q = some (IntKind.i64.wrap ((IntKind.i64.wrap (2 * wds c q)) + 16)) := by
  unfold G_bound_Bound
  rw [words_ok c q hc hw]; rfl
/-! the steps -/
noncomputable def stepFn (c : Config) (q : Request) (a : Answer) (r : Bound_row) : Option Int := match r.steps with
  | .f75 n => G_bound_in_1 c q a n
  | .f76 n => G_bound_out_1 c q a n
  | .f77 n => G_bound_some_1 c q a n
  | .f61 => G_bound_status c q a
def rowIs (q : Request) (a : Answer) (r : Bound_row) : Bool := (r.op == q.Op) && (r.code == a.Code)
theorem rd_drop {α : Type} [Inhabited α] {l : List α} {i : Nat} (h : i < l.length) : l.drop i = rd l (i : Int) :: l.drop (i + 1) := by
  rw [List.drop_eq_getElem_cons h]
  congr 1
  simp [rd, List.getD, h]
theorem steps_scan (c : Config) (q : Request) (a : Answer) (rows : List Bound_row) (hl : rows.length ≤ maxLen) : ∀ (k i : Nat), i + k = rows.length →
    loopω (G_bound_Steps.b1 c q a rows) ((i : Int), 0) = match (rows.drop i).find? (rowIs q a) with | none => some (Ex.brk ((rows.length : Int), 0)) | some r => (stepFn c q a r).map Ex.ret
  | 0, i, h => by
    rw [loopω_eq, show i = rows.length by omega]
    unfold G_bound_Steps.b1
    simp only [lt_f, cond_false]
    simp
  | k + 1, i, h => by
    have hi : i < rows.length := by omega
    rw [loopω_eq, rd_drop hi]
    unfold G_bound_Steps.b1
    simp only [lt_t hi, cond_true, inb_n hi, req_t, w1 hi hl]
    rw [List.find?_cons]
    cases hr : rowIs q a (rd rows (i : Int))
    · simp only [rowIs] at hr
      rw [hr]
      exact steps_scan c q a rows hl k (i + 1) (by omega)
    · simp only [rowIs] at hr
      rw [hr]
      simp only [cond_true, stepFn]
      cases (rd rows (i : Int)).steps <;> simp only
      · cases G_bound_in_1 c q a _ <;> rfl
      · cases G_bound_out_1 c q a _ <;> rfl
      · cases G_bound_some_1 c q a _ <;> rfl
      · cases G_bound_status c q a <;> rfl
def stp (c : Config) (q : Request) (a : Answer) : Int :=
  if q.Op = 3 ∧ a.Code = 0 then IntKind.i64.wrap ((q.Data.length : Int) + 7)
  else if q.Op = 4 ∧ a.Code = 0 then IntKind.i64.wrap ((a.Data.length : Int) + 6)
  else if q.Op = 4 ∧ a.Code = 1 then 5
  else if q.Op = 5 ∧ a.Code = 0 then IntKind.i64.wrap ((q.Data.length : Int) + 5)
  else if q.Op = 6 ∧ a.Code = 0 then IntKind.i64.wrap ((a.Data.length : Int) + 4)
  else if (q.Op = 5 ∨ q.Op = 6) ∧ a.Code = 2 then 2
  else if q.Op = 7 ∧ a.Code = 0 ∧ hasCh c q = true ∧ (rd c.Chans (IntKind.i64.wrap (Int.tdiv q.Port 2))).Kind = 2 then 2
  else if (q.Op = 8 ∨ q.Op = 9) ∧ a.Code = 0 then 2
  else 1
theorem rsteps_ok (c : Config) (q : Request) (a : Answer) (hc : c.Chans.length ≤ 100) (hw : wf_Request q) : G_ref23_Steps c q a = some (stp c q a) := by
  unfold G_ref23_Steps stp
  rw [has_ok c q hc]
  have hi : imp (((q.Op == 7) && (a.Code == 0)) && hasCh c q) (inb (IntKind.i64.wrap (Int.tdiv q.Port 2)) c.Chans.length) = true := imp_of fun h => by
    rw [Bool.and_eq_true] at h; exact hasCh_inb hw h.2
  have hb : ∀ (b : Bool) (p : Prop) [Decidable p] (x y : Option Int) (u v : Int), (b = true ↔ p) → x = some u → y = some v → (bif b then x else y) = some (if p then u else v) := by
    intro b p _ x y u v h h1 h2
    by_cases hp : p
    · rw [h.mpr hp, if_pos hp]; exact h1
    · rw [show b = false by rw [Bool.eq_false_iff]; exact fun h3 => hp (h.mp h3), if_neg hp]; exact h2
  refine hb _ _ _ _ _ _ (by simp) rfl (hb _ _ _ _ _ _ (by simp) rfl (hb _ _ _ _ _ _ (by simp) rfl (hb _ _ _ _ _ _ (by simp) rfl (hb _ _ _ _ _ _ (by simp) rfl (hb _ _ _ _ _ _ (by simp) rfl ?_)))))
  have key : ∀ t : Bool, (q.Op = 7 → a.Code = 0 → t = hasCh c q) → (Eng.req (imp (((q.Op == 7) && (a.Code == 0)) && t) (inb (IntKind.i64.wrap (Int.tdiv q.Port 2)) c.Chans.length)) (bif ((((q.Op == 7) && (a.Code == 0)) && t) && (((rd c.Chans (IntKind.i64.wrap (Int.tdiv q.Port 2))).Kind) == 2)) then some 2 else (bif (((q.Op == 8) || (q.Op == 9)) && (a.Code == 0)) then some 2 else some 1)))
      = some (if q.Op = 7 ∧ a.Code = 0 ∧ hasCh c q = true ∧ (rd c.Chans (IntKind.i64.wrap (Int.tdiv q.Port 2))).Kind = 2 then (2 : Int) else if (q.Op = 8 ∨ q.Op = 9) ∧ a.Code = 0 then 2 else 1) := by
    intro t ht
    rw [show imp (((q.Op == 7) && (a.Code == 0)) && t) (inb (IntKind.i64.wrap (Int.tdiv q.Port 2)) c.Chans.length) = true from imp_of fun h => by
      rw [Bool.and_eq_true, Bool.and_eq_true] at h
      rw [ht (by simpa using h.1.1) (by simpa using h.1.2)] at h
      exact hasCh_inb hw h.2, req_t]
    refine hb _ _ _ _ _ _ ?_ rfl (hb _ _ _ _ _ _ (by simp) rfl rfl)
    constructor
    · intro h
      simp at h
      have := ht h.1.1.1 h.1.1.2
      exact ⟨h.1.1.1, h.1.1.2, this ▸ h.1.2, h.2⟩
    · rintro ⟨h1, h2, h3, h4⟩
      rw [ht h1 h2, h3, h1, h2, h4]; rfl
  cases hg : ((q.Op == 7) && (a.Code == 0))
  · simp only [cal_f, Option.bind_some]
    have := key default (fun h1 h2 => by rw [h1, h2] at hg; simp at hg)
    rw [hg] at this
    exact this
  · simp only [cal_t, Option.bind_some]
    have := key _ (fun _ _ => rfl)
    rw [hg] at this
    exact this
theorem status_ok (c : Config) (q : Request) (a : Answer) (hc : c.Chans.length ≤ 100) (hw : wf_Request q) : G_bound_status c q a = some (if hasCh c q = true ∧ (rd c.Chans (IntKind.i64.wrap (Int.tdiv q.Port 2))).Kind = 2 then 2 else 1) := by
  unfold G_bound_status
  rw [channel_ok c q hc hw]
  cases h : hasCh c q
  · rfl
  · simp only [cond_true, Option.bind_some]
    by_cases h2 : (rd c.Chans (IntKind.i64.wrap (Int.tdiv q.Port 2))).Kind = 2
    · rw [if_pos (by exact ⟨trivial, h2⟩), h2]; rfl
    · rw [if_neg (fun h => h2 h.2), show ((rd c.Chans (IntKind.i64.wrap (Int.tdiv q.Port 2))).Kind == 2) = false by simpa using h2]; rfl
theorem steps_ok (c : Config) (q : Request) (a : Answer) (hc : c.Chans.length ≤ 100) (hw : wf_Request q) : G_bound_Steps c q a = some (stp c q a) := by
  unfold G_bound_Steps
  simp only [G_bound_rows, G_bound_in, G_bound_out, G_bound_some, Option.bind_some]
  have h := steps_scan c q a [(⟨3, 0, (Fn54.f75 7)⟩ : Bound_row), (⟨4, 0, (Fn54.f76 6)⟩ : Bound_row), (⟨4, 1, (Fn54.f77 5)⟩ : Bound_row), (⟨5, 0, (Fn54.f75 5)⟩ : Bound_row), (⟨6, 0, (Fn54.f76 4)⟩ : Bound_row), (⟨5, 2, (Fn54.f77 2)⟩ : Bound_row), (⟨6, 2, (Fn54.f77 2)⟩ : Bound_row), (⟨7, 0, (Fn54.f61)⟩ : Bound_row), (⟨8, 0, (Fn54.f77 2)⟩ : Bound_row), (⟨9, 0, (Fn54.f77 2)⟩ : Bound_row)] (by simp [maxLen]) 10 0 rfl
  rw [show (((0 : Nat) : Int), (0 : Int)) = ((0 : Int), (0 : Int)) from rfl] at h
  rw [h]
  clear h
  simp only [List.drop_zero]
  have hst := status_ok c q a hc hw
  have hn : ∀ (x : Int) (n : Int), x ≠ n → (n == x) = false := fun x n h => by simpa using fun h2 => h h2.symm
  have e1 : q.Op = 3 ∨ q.Op = 4 ∨ q.Op = 5 ∨ q.Op = 6 ∨ q.Op = 7 ∨ q.Op = 8 ∨ q.Op = 9 ∨ (q.Op ≠ 3 ∧ q.Op ≠ 4 ∧ q.Op ≠ 5 ∧ q.Op ≠ 6 ∧ q.Op ≠ 7 ∧ q.Op ≠ 8 ∧ q.Op ≠ 9) := by omega
  have e2 : a.Code = 0 ∨ a.Code = 1 ∨ a.Code = 2 ∨ (a.Code ≠ 0 ∧ a.Code ≠ 1 ∧ a.Code ≠ 2) := by omega
  rcases e1 with h1 | h1 | h1 | h1 | h1 | h1 | h1 | ⟨h3, h4, h5, h6, h7, h8, h9⟩ <;> rcases e2 with g | g | g | ⟨g0, g1, g2⟩
  all_goals first
    | (simp [List.find?, rowIs, stp, stepFn, G_bound_in_1, G_bound_out_1, G_bound_some_1, hst, Ex.on, *] <;> first | omega | (congr 1; omega))

theorem acc_len {c : Config} (h : G_ref06_Great c = some false) : c.Chans.length ≤ 100 := by
  unfold G_ref06_Great at h
  simp at h
  omega
end Go.Proofs.Ytnfnincmhobpaab
