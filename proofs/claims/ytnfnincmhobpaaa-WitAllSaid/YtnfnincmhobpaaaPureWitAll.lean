/- The plain law behind WitAll. -/
import Derived.Test.YtnfnincmhobpaaaPWitR
set_option linter.unusedVariables false
set_option linter.unusedSimpArgs false
namespace Go.Proofs.Ytnfnincmhobpaaa
open Go Go.RowKit Go.Eng
theorem told {l0 : List Call} {l1 : List Belling} {a2 : Int} {t3 t10 : Bool} {t30 : List Call × List Belling} {l' : List Wit_spot} (hl : l'.length ≤ 180) {st : Nat} (hst : IntKind.i64.wrap a2 = (st : Int)) : ∀ (d k : Nat), k + d = l'.length → k ≤ st →
    foldS (G_law19_WitAll.r1 l0 l1 a2 t3 t10 (l'.map ofS) t30) (false, (k : Int)) ((l'.drop k).map fun x => (x.at_, x.item)) = some (if l'.length ≤ st then .next (false, (l'.length : Int)) else .out (0, (false, (st : Int))))
  | 0, k, h, hk => by
    have hk' : k = l'.length := by omega
    subst hk'
    rw [List.drop_length, if_pos hk]
    rfl
  | d + 1, k, h, hk => by
    have hi : k < l'.length := by omega
    rw [List.drop_eq_getElem_cons hi, List.map_cons, foldS_cons]
    by_cases hc : k = st
    · subst hc
      have : G_law19_WitAll.r1 l0 l1 a2 t3 t10 (l'.map ofS) t30 (false, (k : Int)) (l'[k].at_, l'[k].item) = some (.out (0, (false, (k : Int)))) := by
        unfold G_law19_WitAll.r1
        dsimp only
        rw [hst, show decide ((k : Int) ≥ (k : Int)) = true by simp, cond_true]
      rw [this, if_neg (by omega)]
      rfl
    · have : G_law19_WitAll.r1 l0 l1 a2 t3 t10 (l'.map ofS) t30 (false, (k : Int)) (l'[k].at_, l'[k].item) = some (.next (false, ((k + 1 : Nat) : Int))) := by
        unfold G_law19_WitAll.r1
        dsimp only
        rw [hst, List.length_map, show decide ((k : Int) ≥ (st : Int)) = false by simp; omega, cond_false, show decide ((k : Int) ≥ (l'.length : Int)) = false by simp; omega, inb_n hi, imp_tt, imp_tt, req_t, req_t, rd_ofS, show rd l' (k : Int) = l'[k] from gt_of hi, wp1 hi (by simp only [maxLen]; omega), eqb_item]
        simp [ofS]
      rw [this, Option.bind_some]
      exact told hl hst d (k + 1) (by omega) (by omega)
theorem pureWitAll (x0 : (List Call)) (x1 : (List Belling)) (a2 : Int) (w0 : x0.length ≤ maxLen ∧ ∀ x ∈ x0, wf_Call x) (w1 : x1.length ≤ maxLen ∧ ∀ x ∈ x1, wf_Belling x) (w2 : InK .u8 a2) : G_law19_WitAll x0 x1 a2 = some true := by
  unfold G_law19_WitAll
  rw [wakes19, Option.bind_some]
  simp only [Bool.not_true, cond_false]
  by_cases hl : x0.length ≤ 60 ∧ x1.length ≤ 60
  case neg =>
    have : (decide ((x0.length : Int) > 60) || decide ((x1.length : Int) > 60)) = true := by simp; omega
    rw [this]; simp
  have hf : (decide ((x0.length : Int) > 60) || decide ((x1.length : Int) > 60)) = false := by simp; omega
  rw [hf]
  simp only [Bool.not_false, cal_t, Bool.false_or]
  obtain ⟨b, hb, hS⟩ := sound_ok x0 hl.1
  rw [hb, Option.bind_some]
  cases b with
  | false => simp
  | true =>
    simp only [Bool.not_true, cond_false]
    obtain ⟨p, p1, p2⟩ := places (hS.1 rfl)
    obtain ⟨l', s1, s2⟩ := spots_eq hl.1 hl.2 p2
    have hlen : l'.length ≤ 180 := by have := lp_len (P3 p) x0 x1; rw [s2.perm.length_eq]; omega
    have ha := InK.u8 w2
    obtain ⟨st, rfl⟩ : ∃ st : Nat, a2 = st := ⟨a2.toNat, by omega⟩
    have hst : IntKind.i64.wrap (st : Int) = (st : Int) := w64 (by omega) (by omega)
    rw [order_eq hl.1 hl.2 p1 s2, Option.bind_some]
    unfold G_wit_All
    rw [Option.bind_some, all_eq _ _ s1 (by simp only [maxLen]; omega)]
    have := told (l0 := x0) (l1 := x1) (t3 := true) (t10 := true) (t30 := (x0, x1)) hlen hst l'.length 0 (by omega) (by omega)
    rw [List.drop_zero] at this
    rw [show ((0 : Nat) : Int) = 0 from rfl] at this
    rw [this, Option.bind_some, hst, List.length_map]
    by_cases hc : l'.length ≤ st
    · rw [if_pos hc, Stp.on_next]
      simp [mnI]; omega
    · rw [if_neg hc, Stp.on_out]
      simp [mnI]; omega
end Go.Proofs.Ytnfnincmhobpaaa
