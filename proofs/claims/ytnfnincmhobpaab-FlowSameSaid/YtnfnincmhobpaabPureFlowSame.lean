/- The plain law behind FlowSame. -/
import Derived.Test.YtnfnincmhobpaabPureInto
set_option linter.unusedVariables false
set_option linter.unusedSimpArgs false
namespace Go.Proofs.Ytnfnincmhobpaab
open Go Go.RowKit Go.Eng
theorem eqInt (a b : List Int) (ha : a.length ≤ maxLen) : G_slices_Equal_int_int a b = some (decide (a = b)) := by
  unfold G_slices_Equal_int_int
  by_cases hl : a.length = b.length
  · rw [show ((a.length : Int) != (b.length : Int)) = false by simp [hl], cond_false, ← eq_of_rd hl]
    exact eqv_loop (n := a.length) (t := fun i => rd a (i : Int) != rd b (i : Int)) (fun i hi => by
      unfold G_slices_Equal_int_int.b1
      simp only [lt_t hi, inb_n hi, inb_n (show i < b.length by omega), cond_true, req_t, w1 hi ha]) (by unfold G_slices_Equal_int_int.b1; rw [lt_f]; rfl) a.length 0 (by omega)
  · rw [show ((a.length : Int) != (b.length : Int)) = true by simp; omega, show decide (a = b) = false by simp; intro h; exact hl (by rw [h])]
    rfl
theorem eqU32 (a b : List Int) (ha : a.length ≤ maxLen) : G_slices_Equal_uint32_uint32 a b = some (decide (a = b)) := by
  unfold G_slices_Equal_uint32_uint32
  by_cases hl : a.length = b.length
  · rw [show ((a.length : Int) != (b.length : Int)) = false by simp [hl], cond_false, ← eq_of_rd hl]
    exact eqv_loop (n := a.length) (t := fun i => rd a (i : Int) != rd b (i : Int)) (fun i hi => by
      unfold G_slices_Equal_uint32_uint32.b1
      simp only [lt_t hi, inb_n hi, inb_n (show i < b.length by omega), cond_true, req_t, w1 hi ha]) (by unfold G_slices_Equal_uint32_uint32.b1; rw [lt_f]; rfl) a.length 0 (by omega)
  · rw [show ((a.length : Int) != (b.length : Int)) = true by simp; omega, show decide (a = b) = false by simp; intro h; exact hl (by rw [h])]
    rfl
def reqEq (x y : Request) : Bool := (x.Op == y.Op) && (x.Port == y.Port) && (x.Addr == y.Addr) && decide (x.Data = y.Data)
def ansEq (x y : Answer) : Bool := (x.Code == y.Code) && (x.Valid == y.Valid) && (x.Count == y.Count) && decide (x.Data = y.Data)
def sEq (x y : Sight) : Bool := (x.Kind == y.Kind) && (x.Own == y.Own) && (x.Tick == y.Tick) && decide (x.Ports = y.Ports) && reqEq x.Req y.Req && ansEq x.Ans y.Ans
theorem cal_v {α : Type} (g : Bool) (v d : α) : cal g (some v) d = some (bif g then v else d) := by cases g <;> rfl
theorem reqEq_ok (x y : Request) (hx : wf_Request x) : G_ref14_SameRequest x y = some (reqEq x y) := by
  have ha : x.Data.length ≤ maxLen := hx.2.2.2.1
  unfold G_ref14_SameRequest reqEq
  by_cases hl : x.Data.length = y.Data.length
  · cases hc : (((x.Op != y.Op) || (x.Port != y.Port)) || (x.Addr != y.Addr))
    · rw [show ((x.Data.length : Int) != (y.Data.length : Int)) = false by simp [hl]]
      simp only [Bool.or_self, cond_false]
      rw [← eq_of_rd hl]
      have h3 : ((x.Op == y.Op) && (x.Port == y.Port) && (x.Addr == y.Addr)) = true := by simp at hc ⊢; exact hc
      rw [h3, Bool.true_and]
      exact eqv_loop (n := x.Data.length) (t := fun i => rd x.Data (i : Int) != rd y.Data (i : Int)) (fun i hi => by
        unfold G_ref14_SameRequest.b1
        simp only [lt_t hi, inb_n hi, inb_n (show i < y.Data.length by omega), cond_true, req_t, w1 hi ha]) (by unfold G_ref14_SameRequest.b1; rw [lt_f]; rfl) x.Data.length 0 (by omega)
    · have h3 : ((x.Op == y.Op) && (x.Port == y.Port) && (x.Addr == y.Addr)) = false := by
        rw [Bool.eq_false_iff]; intro h; simp at hc h; omega
      rw [h3]; rfl
  · rw [show ((x.Data.length : Int) != (y.Data.length : Int)) = true by simp; omega, show decide (x.Data = y.Data) = false by simp; intro h; exact hl (by rw [h])]
    simp
theorem ansEq_ok (x y : Answer) (hx : wf_Answer x) : G_ref11_SameAnswer x y = some (ansEq x y) := by
  have ha : x.Data.length ≤ maxLen := hx.2.1.1
  unfold G_ref11_SameAnswer ansEq
  by_cases hl : x.Data.length = y.Data.length
  · cases hc : (((x.Code != y.Code) || (!(x.Valid == y.Valid))) || (x.Count != y.Count))
    · rw [show ((x.Data.length : Int) != (y.Data.length : Int)) = false by simp [hl]]
      simp only [Bool.or_self, cond_false]
      rw [← eq_of_rd hl]
      have h3 : ((x.Code == y.Code) && (x.Valid == y.Valid) && (x.Count == y.Count)) = true := by simp at hc ⊢; exact hc
      rw [h3, Bool.true_and]
      exact eqv_loop (n := x.Data.length) (t := fun i => rd x.Data (i : Int) != rd y.Data (i : Int)) (fun i hi => by
        unfold G_ref11_SameAnswer.b1
        simp only [lt_t hi, inb_n hi, inb_n (show i < y.Data.length by omega), cond_true, req_t, w1 hi ha]) (by unfold G_ref11_SameAnswer.b1; rw [lt_f]; rfl) x.Data.length 0 (by omega)
    · have h3 : ((x.Code == y.Code) && (x.Valid == y.Valid) && (x.Count == y.Count)) = false := by
        rw [Bool.eq_false_iff]; intro h
        simp only [Bool.and_eq_true, beq_iff_eq] at h
        obtain ⟨⟨h1, h2⟩, h4⟩ := h
        rw [h1, h2, h4] at hc
        simp at hc
      rw [h3]; simp
  · rw [show ((x.Data.length : Int) != (y.Data.length : Int)) = true by simp; omega, show decide (x.Data = y.Data) = false by simp; intro h; exact hl (by rw [h])]
    simp
theorem alike_ok (x y : Sight) (hx : wf_Sight x) : G_flow_alike x y = some (sEq x y) := by
  have hp : x.Ports.length ≤ maxLen := by obtain ⟨_, _, _, _, _, h⟩ := hx; first | exact h.1.1 | exact h.1
  have hr : wf_Request x.Req := by obtain ⟨_, _, _, h, _⟩ := hx; exact h
  have ha : wf_Answer x.Ans := by obtain ⟨_, _, _, _, h, _⟩ := hx; exact h
  have h1 : x.Req.Data.length ≤ maxLen := hr.2.2.2.1
  have h2 : x.Ans.Data.length ≤ maxLen := ha.2.1.1
  unfold G_flow_alike
  simp only [eqInt _ _ hp, eqU32 _ _ h1, eqU32 _ _ h2, cal_v, Option.bind_some, Option.some.injEq]
  unfold sEq reqEq ansEq
  rw [Bool.eq_iff_iff]
  constructor
  · intro h
    simp only [Bool.and_eq_true] at h ⊢
    simp_all
  · intro h
    simp only [Bool.and_eq_true] at h ⊢
    simp_all
theorem pureFlowSame (x0 : (List Sight)) (x1 : (List Sight)) (w0 : x0.length ≤ maxLen ∧ ∀ x ∈ x0, wf_Sight x) (w1' : x1.length ≤ maxLen ∧ ∀ x ∈ x1, wf_Sight x) : G_law21_FlowSame x0 x1 = some true := by
  unfold G_law21_FlowSame
  rw [wakes21]
  simp only [Option.bind_some, Bool.not_true, cond_false]
  cases hl : (decide ((x0.length : Int) > 60) || decide ((x1.length : Int) > 60))
  case true => rfl
  simp only [Bool.not_false, cal_t, Bool.false_or]
  have hmx := w0.1
  have e1 : G_flow_Same x0 x1 = some (decide (x0.length = x1.length) && !((List.range' 0 x0.length).any fun (i : Nat) => !(sEq (rd x0 (i : Int)) (rd x1 (i : Int))))) := by
    unfold G_flow_Same G_api_Sight__with_43
    by_cases hle : x0.length = x1.length
    · rw [show ((x0.length : Int) != (x1.length : Int)) = false by simp [hle], cond_false]
      have := eqv_loop (B := G_api_Sight__with_43.b1 x0 x1) (n := x0.length) (t := fun (i : Nat) => !(sEq (rd x0 (i : Int)) (rd x1 (i : Int)))) (fun i hi => by
        unfold G_api_Sight__with_43.b1
        simp only [lt_t hi, inb_n hi, inb_n (show i < x1.length by omega), cond_true, req_t, w1 hi hmx, alike_ok _ _ (w0.2 _ (rd_mem (xs := x0) (i := (i : Int)) (by omega) (by omega))), Option.bind_some]) (by unfold G_api_Sight__with_43.b1; rw [lt_f]; rfl) x0.length 0 (by omega)
      rw [show ((0 : Nat) : Int) = 0 from rfl] at this
      rw [this]
      simp [hle]
    · rw [show ((x0.length : Int) != (x1.length : Int)) = true by simp; omega]
      simp [hle]
  have e2 : G_ref21_Same x0 x1 = some (decide (x0.length = x1.length) && !((List.range' 0 x0.length).any fun (i : Nat) => !(sEq (rd x0 (i : Int)) (rd x1 (i : Int))))) := by
    unfold G_ref21_Same
    by_cases hle : x0.length = x1.length
    · rw [show ((x0.length : Int) != (x1.length : Int)) = false by simp [hle], cond_false]
      have := eqv_loop (B := G_ref21_Same.b1 x0 x1) (n := x0.length) (t := fun (i : Nat) => !(sEq (rd x0 (i : Int)) (rd x1 (i : Int)))) (fun i hi => by
        unfold G_ref21_Same.b1
        have hx := w0.2 _ (rd_mem (xs := x0) (i := (i : Int)) (by omega) (by omega))
        have hp : (rd x0 (i : Int)).Ports.length ≤ maxLen := by obtain ⟨_, _, _, _, _, h⟩ := hx; first | exact h.1.1 | exact h.1
        have hr : wf_Request (rd x0 (i : Int)).Req := by obtain ⟨_, _, _, h, _⟩ := hx; exact h
        have ha : wf_Answer (rd x0 (i : Int)).Ans := by obtain ⟨_, _, _, _, h, _⟩ := hx; exact h
        simp only [lt_t hi, inb_n hi, inb_n (show i < x1.length by omega), cond_true, req_t, w1 hi hmx, same01 _ _ hp, reqEq_ok _ _ hr, ansEq_ok _ _ ha, cal_v, Option.bind_some, show ∀ x, imp x true = true from fun x => by simp [imp]]
        generalize rd x0 (i : Int) = x
        generalize rd x1 (i : Int) = y
        cases hk : (((x.Kind != y.Kind) || (x.Own != y.Own)) || (x.Tick != y.Tick))
        · have h3 : ((x.Kind == y.Kind) && (x.Own == y.Own) && (x.Tick == y.Tick)) = true := by simp at hk ⊢; exact hk
          unfold sEq
          rw [h3]
          simp only [Bool.not_false, cond_true, Bool.false_or, Bool.true_and]
          cases decide (x.Ports = y.Ports)
          · rfl
          · cases reqEq x.Req y.Req
            · rfl
            · cases ansEq x.Ans y.Ans <;> rfl
        · have h3 : ((x.Kind == y.Kind) && (x.Own == y.Own) && (x.Tick == y.Tick)) = false := by
            rw [Bool.eq_false_iff]; intro h; simp at hk h; omega
          unfold sEq
          rw [h3]
          rfl) (by unfold G_ref21_Same.b1; rw [lt_f]; rfl) x0.length 0 (by omega)
      rw [show ((0 : Nat) : Int) = 0 from rfl] at this
      rw [this]
      simp [hle]
    · rw [show ((x0.length : Int) != (x1.length : Int)) = true by simp; omega]
      simp [hle]
  rw [e1, e2]
  simp
end Go.Proofs.Ytnfnincmhobpaab
