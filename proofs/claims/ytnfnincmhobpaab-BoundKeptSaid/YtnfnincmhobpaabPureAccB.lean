/- The plain law behind the document's acceptance of a configuration: it answers always; what it accepts has few partitions and channels, and these lead from partition to partition. -/
import Derived.Test.YtnfnincmhobpaabGB
set_option linter.unusedVariables false
set_option linter.unusedSimpArgs false
namespace Go.Proofs.Ytnfnincmhobpaab
open Go Go.RowKit Go.Eng
theorem scan2 {B : Int × Bool → Option (Stp (Int × Bool) (Ex (Int × Bool) Bool))} {n : Nat} (h1 : ∀ i : Nat, i < n → B ((i : Int), false) = some (.out (.ret true)) ∨ B ((i : Int), false) = some (.next (((i + 1 : Nat) : Int), false))) (h2 : B ((n : Int), false) = some (.out (.brk ((n : Int), false)))) :
    ∀ (k i : Nat), i + k = n → loopω B ((i : Int), false) = some (.ret true) ∨ (loopω B ((i : Int), false) = some (.brk ((n : Int), false)) ∧ ∀ j, i ≤ j → j < n → B ((j : Int), false) = some (.next (((j + 1 : Nat) : Int), false)))
  | 0, i, h => by
    right
    rw [loopω_eq, show i = n by omega, h2]
    exact ⟨rfl, fun j h3 h4 => by omega⟩
  | k + 1, i, h => by
    rw [loopω_eq]
    rcases h1 i (by omega) with h3 | h3
    · left; rw [h3]
    · rw [h3]
      simp only
      rcases scan2 h1 h2 k (i + 1) (by omega) with h4 | ⟨h4, h5⟩
      · exact .inl h4
      · refine .inr ⟨h4, fun j h6 h7 => ?_⟩
        by_cases hj : j = i
        · subst hj; exact h3
        · exact h5 j (by omega) h7
theorem lt_t {i n : Nat} (h : i < n) : decide ((i : Int) < (n : Int)) = true := by simp; omega
theorem lt_f (n : Nat) : decide ((n : Int) < (n : Int)) = false := by simp
theorem inb_n {i n : Nat} (h : i < n) : inb (i : Int) n = true := inb_of (by omega) (by omega)
theorem w1 {i n : Nat} (h : i < n) (hn : n ≤ maxLen) : IntKind.i64.wrap ((i : Int) + 1) = ((i + 1 : Nat) : Int) := by
  simp only [maxLen] at hn
  rw [w64] <;> omega
def wfc (c : Config) : Prop := c.Parts.length ≤ maxLen ∧ c.Chans.length ≤ maxLen ∧ c.Frames.e0.Windows.length ≤ maxLen ∧ c.Frames.e1.Windows.length ≤ maxLen
theorem part_eq (c : Config) (p : Int) : G_ref07_part c p = some (decide (p ≥ 0) && decide (p < (c.Parts.length : Int))) := rfl
def chBad (c : Config) (k : Int) (x : Chan) : Bool :=
  bif k == 5 then (x.Kind != 1) && (x.Kind != 2)
  else bif k == 6 then (!(decide (x.From ≥ 0) && decide (x.From < (c.Parts.length : Int)))) || (!(decide (x.To ≥ 0) && decide (x.To < (c.Parts.length : Int))))
  else bif k == 7 then x.From == x.To
  else bif k == 8 then decide (x.Words < 1) || decide (x.Words > 16)
  else bif k == 9 then ((x.Kind == 1) && (x.Depth != 0)) || (((((x.Kind == 2) && (x.Depth != 1)) && (x.Depth != 2)) && (x.Depth != 4)) && (x.Depth != 8))
  else bif k == 10 then ((x.Kind == 1) && (decide (x.Period < 0) || decide (x.Period > 1048576))) || ((x.Kind == 2) && (x.Period != 0))
  else bif (k == 11) then ((x.Kind == 1) && (x.Boot != 0)) else false
theorem chans_ok (c : Config) (hc : wfc c) (k : Int) : G_ref07_chans c k = some true ∨ (G_ref07_chans c k = some false ∧ ∀ i, i < c.Chans.length → chBad c k (rd c.Chans (i : Int)) = false) := by
  have key : ∀ i : Nat, i < c.Chans.length → G_ref07_chans.b1 c k ((i : Int), false) = bif chBad c k (rd c.Chans (i : Int)) then some (.out (.ret true)) else some (.next (((i + 1 : Nat) : Int), false)) := by
    intro i hi
    unfold G_ref07_chans.b1 chBad
    simp only [lt_t hi, inb_n hi, cond_true, req_t, w1 hi hc.2.1, part_eq, Option.bind_some]
    generalize rd c.Chans (i : Int) = x
    cases (k == 5) <;> simp only [cond_true, cond_false]
    · cases (k == 6) <;> simp only [cond_true, cond_false]
      · cases (k == 7) <;> simp only [cond_true, cond_false]
        · cases (k == 8) <;> simp only [cond_true, cond_false]
          · cases (k == 9) <;> simp only [cond_true, cond_false]
            · cases (k == 10) <;> simp only [cond_true, cond_false]
      · cases (decide (x.From ≥ 0) && decide (x.From < (c.Parts.length : Int)))
        · rfl
        · simp only [Bool.not_true, Bool.not_false, cal_t, Option.bind_some, Bool.false_or]
  unfold G_ref07_chans
  rcases scan2 (B := G_ref07_chans.b1 c k) (n := c.Chans.length) (fun i hi => by
    rw [key i hi]; cases chBad c k (rd c.Chans (i : Int))
    · exact .inr rfl
    · exact .inl rfl) (by unfold G_ref07_chans.b1; rw [lt_f]; rfl) c.Chans.length 0 (by omega) with h | ⟨h, h5⟩
  · left; rw [show ((0 : Nat) : Int) = 0 from rfl] at h; rw [h]; rfl
  · right
    rw [show ((0 : Nat) : Int) = 0 from rfl] at h
    rw [h]
    refine ⟨rfl, fun i hi => ?_⟩
    have h6 := h5 i (by omega) hi
    rw [key i hi] at h6
    cases h7 : chBad c k (rd c.Chans (i : Int))
    · rfl
    · rw [h7] at h6; cases h6
theorem window_ok (c : Config) (hc : wfc c) (p : Nat) (hp : p < c.Parts.length) : ∃ b, G_ref07_window c (p : Int) = some b := by
  unfold G_ref07_window
  simp only [inb_n hp, req_t]
  rw [show imp (((rd c.Parts (p : Int)).Core) != 0) true = true by simp [imp], req_t]
  cases h : ((((rd c.Parts (p : Int)).Core) != 0) && (((rd c.Parts (p : Int)).Core) != 1))
  · simp only [cond_false]
    have h01 : (rd c.Parts (p : Int)).Core = 0 ∨ (rd c.Parts (p : Int)).Core = 1 := by
      by_cases h0 : (rd c.Parts (p : Int)).Core = 0
      · exact .inl h0
      · right; simpa [h0] using h
    rw [show inb ((rd c.Parts (p : Int)).Core) 2 = true by rcases h01 with h | h <;> rw [h] <;> rfl, req_t]
    have hw : (rdA_St27 c.Frames ((rd c.Parts (p : Int)).Core)).Windows.length ≤ maxLen := by
      rcases h01 with h | h
      · rw [h]; exact hc.2.2.1
      · rw [h]; exact hc.2.2.2
    rcases scan2 (B := G_ref07_window.b1 c (p : Int)) (n := (rdA_St27 c.Frames ((rd c.Parts (p : Int)).Core)).Windows.length) (fun i hi => by
      unfold G_ref07_window.b1
      simp only [lt_t hi, inb_n hi, cond_true, req_t, w1 hi hw]
      cases (((rd ((rdA_St27 c.Frames ((rd c.Parts (p : Int)).Core)).Windows) (i : Int)).Part) == (p : Int))
      · exact .inr rfl
      · exact .inl rfl) (by unfold G_ref07_window.b1; rw [lt_f]; rfl) (rdA_St27 c.Frames ((rd c.Parts (p : Int)).Core)).Windows.length 0 (by omega) with h | ⟨h, _⟩
    · rw [show ((0 : Nat) : Int) = 0 from rfl] at h; rw [h]; exact ⟨_, rfl⟩
    · rw [show ((0 : Nat) : Int) = 0 from rfl] at h; rw [h]; exact ⟨_, rfl⟩
  · exact ⟨_, rfl⟩
abbrev T2 (m : Int) (X : Option (Stp (Int × Bool) (Ex (Int × Bool) Bool))) : Prop := X = some (.out (.ret true)) ∨ X = some (.next (m, false))
theorem T2.bif {m : Int} {b : Bool} {A B : Option (Stp (Int × Bool) (Ex (Int × Bool) Bool))} (h1 : b = true → T2 m A) (h2 : b = false → T2 m B) : T2 m (bif b then A else B) := by
  cases b
  · exact h2 rfl
  · exact h1 rfl
theorem T2.req {m : Int} {b : Bool} {A : Option (Stp (Int × Bool) (Ex (Int × Bool) Bool))} (h1 : b = true) (h2 : T2 m A) : T2 m (Eng.req b A) := by
  subst h1; exact h2
theorem T2.calw {m : Int} {g : Bool} {z : Int} {f : Bool → Option (Stp (Int × Bool) (Ex (Int × Bool) Bool))} (h : ∀ t, T2 m (f t)) : T2 m ((cal g (G_ref07_word z) default).bind f) := by
  cases g
  · exact h _
  · exact h _
theorem T2.calp {m : Int} {g : Bool} {c : Config} {z : Int} {f : Bool → Option (Stp (Int × Bool) (Ex (Int × Bool) Bool))} (h : ∀ t, (g = true → t = (decide (z ≥ 0) && decide (z < (c.Parts.length : Int)))) → T2 m (f t)) : T2 m ((cal g (G_ref07_part c z) default).bind f) := by
  cases g
  · exact h _ (fun hh => by cases hh)
  · exact h _ (fun _ => rfl)
theorem imp_of {g c : Bool} (h : g = true → c = true) : imp g c = true := by
  cases g
  · rfl
  · simp [imp, h rfl]
theorem windows_ok (c : Config) (hc : wfc c) (f : Int) (hf : f = 0 ∨ f = 1) (k : Int) : ∃ b, G_ref07_windows c f k = some b := by
  unfold G_ref07_windows
  have hf2 : inb f 2 = true := by rcases hf with rfl | rfl <;> rfl
  have hi : ∀ x, imp x true = true := fun x => by simp [imp]
  simp only [hf2, req_t, hi]
  cases (k == 12) <;> simp only [cond_true, cond_false]
  · cases (k == 13) <;> simp only [cond_true, cond_false]
    · have hw : (rdA_St27 c.Frames f).Windows.length ≤ maxLen := by
        rcases hf with rfl | rfl
        · exact hc.2.2.1
        · exact hc.2.2.2
      have key : ∀ i : Nat, i < (rdA_St27 c.Frames f).Windows.length → T2 (((i + 1 : Nat) : Int)) (G_ref07_windows.b1 c f k ((i : Int), false)) := by
        intro i hil
        unfold G_ref07_windows.b1
        have hm1 : ∀ {x : Bool}, (x && decide ((i : Int) > 0)) = true → inb (IntKind.i64.wrap ((i : Int) - 1)) (rdA_St27 c.Frames f).Windows.length = true := fun h => by
          simp only [maxLen] at hw
          simp at h
          rw [w64 (by omega) (by omega)]
          exact inb_of (by omega) (by omega)
        simp only [lt_t hil, inb_n hil, cond_true, req_t, w1 hil hw]
        refine T2.calp fun t41 h41 => T2.req (imp_of fun h => ?_) (T2.bif (fun _ => .inl rfl) (fun _ => T2.req (imp_of fun _ => hf2) (T2.req (imp_of fun _ => hf2) (T2.bif (fun _ => .inl rfl) (fun _ => T2.calw fun t62 => T2.req (imp_of fun h => ?_) (T2.calw fun t68 => T2.req (imp_of fun h => ?_) (T2.calw fun t74 => T2.req (imp_of fun h => ?_) (T2.req (imp_of fun h => ?_) (T2.bif (fun _ => .inl rfl) (fun _ => .inr rfl))))))))))
        · rw [Bool.and_eq_true] at h
          have := h41 h.1
          rw [this] at h
          have h2 := h.2
          simp at h2
          exact inb_of h2.1 h2.2
        · rw [Bool.and_eq_true] at h; exact hm1 h.1
        · rw [Bool.and_eq_true, Bool.and_eq_true] at h; exact hm1 h.1.1
        · rw [Bool.and_eq_true, Bool.and_eq_true, Bool.and_eq_true] at h; exact hm1 h.1.1.1
        · rw [Bool.and_eq_true, Bool.and_eq_true, Bool.and_eq_true] at h; exact hm1 h.1.1.1
      rcases scan2 (B := G_ref07_windows.b1 c f k) (n := (rdA_St27 c.Frames f).Windows.length) key (by unfold G_ref07_windows.b1; rw [lt_f]; rfl) (rdA_St27 c.Frames f).Windows.length 0 (by omega) with h | ⟨h, _⟩
      · rw [show ((0 : Nat) : Int) = 0 from rfl] at h; rw [h]; exact ⟨_, rfl⟩
      · rw [show ((0 : Nat) : Int) = 0 from rfl] at h; rw [h]; exact ⟨_, rfl⟩
    · exact ⟨_, rfl⟩
  · exact ⟨_, rfl⟩
theorem holds_ok (c : Config) (hc : wfc c) (k : Int) : ∃ b, G_ref07_Holds c k = some b ∧ (b = false → (k = 1 → 1 ≤ c.Parts.length ∧ c.Parts.length ≤ 6) ∧ (k = 4 → c.Chans.length ≤ 8) ∧
    (5 ≤ k ∧ k ≤ 11 → ∀ i, i < c.Chans.length → chBad c k (rd c.Chans (i : Int)) = false)) := by
  unfold G_ref07_Holds
  by_cases h1 : k = 1
  · subst h1
    refine ⟨_, rfl, fun h => ⟨fun _ => ?_, fun h => by omega, fun h => by omega⟩⟩
    simp at h
    omega
  rw [show (k == 1) = false by simpa using h1, cond_false]
  cases h2 : (((k == 2) || (k == 3)) || (k == 17)) <;> simp only [cond_true, cond_false]
  · by_cases h4 : k = 4
    · subst h4
      refine ⟨_, rfl, fun h => ⟨fun h => by omega, fun _ => ?_, fun h => by omega⟩⟩
      simp at h
      omega
    rw [show (k == 4) = false by simpa using h4, cond_false]
    cases h5 : (decide (k ≥ 5) && decide (k ≤ 11)) <;> simp only [cond_true, cond_false]
    · have h6 : ¬ (5 ≤ k ∧ k ≤ 11) := by simp at h5; omega
      cases (decide (k ≥ 12) && decide (k ≤ 16)) <;> simp only [cond_true, cond_false]
      · exact ⟨_, rfl, fun _ => ⟨fun h => absurd h h1, fun h => absurd h h4, fun h => absurd h h6⟩⟩
      · obtain ⟨b0, e0⟩ := windows_ok c hc 0 (.inl rfl) k
        obtain ⟨b1, e1⟩ := windows_ok c hc 1 (.inr rfl) k
        rw [e0, e1]
        cases b0
        · exact ⟨_, rfl, fun _ => ⟨fun h => absurd h h1, fun h => absurd h h4, fun h => absurd h h6⟩⟩
        · exact ⟨_, rfl, fun _ => ⟨fun h => absurd h h1, fun h => absurd h h4, fun h => absurd h h6⟩⟩
    · rcases chans_ok c hc k with h | ⟨h, h6⟩
      · rw [h]; exact ⟨_, rfl, fun hh => by cases hh⟩
      · rw [h]; exact ⟨_, rfl, fun _ => ⟨fun h => absurd h h1, fun h => absurd h h4, fun _ => h6⟩⟩
  · have hk : k ≠ 4 ∧ ¬ (5 ≤ k ∧ k ≤ 11) := by
      simp at h2
      omega
    rcases scan2 (B := G_ref07_Holds.b1 c k) (n := c.Parts.length) (fun i hi => by
      unfold G_ref07_Holds.b1
      simp only [lt_t hi, inb_n hi, cond_true, req_t, w1 hi hc.1]
      obtain ⟨b, hb⟩ := window_ok c hc i hi
      show T2 _ _
      rw [hb]
      cases (!((((k == 2) && (((rd c.Parts (i : Int)).Core) != 0)) && (((rd c.Parts (i : Int)).Core) != 1)) || ((k == 3) && (decide (((rd c.Parts (i : Int)).Private) < 0) || decide (((rd c.Parts (i : Int)).Private) > 64)))) && (k == 17))
      · simp only [cal_f, Option.bind_some]; exact T2.bif (fun _ => .inl rfl) (fun _ => .inr rfl)
      · simp only [cal_t, Option.bind_some]; exact T2.bif (fun _ => .inl rfl) (fun _ => .inr rfl)) (by unfold G_ref07_Holds.b1; rw [lt_f]; rfl) c.Parts.length 0 (by omega) with h | ⟨h, _⟩
    · rw [show ((0 : Nat) : Int) = 0 from rfl] at h; rw [h]; exact ⟨_, rfl, fun hh => by cases hh⟩
    · rw [show ((0 : Nat) : Int) = 0 from rfl] at h; rw [h]; exact ⟨_, rfl, fun _ => ⟨fun h => absurd h h1, fun h => absurd h hk.1, fun h => absurd h hk.2⟩⟩
theorem all_loop (c : Config) (hc : wfc c) : ∀ (m : Nat) (k : Int) (out : List Int), k + m = 18 → 1 ≤ k → out.length ≤ 20 - m → ∃ l, loopω (G_ref07_All.b1 c) (k, out) = some (.brk (18, l)) ∧ (l = [] → out = [] ∧ ∀ j, k ≤ j → j ≤ 17 → G_ref07_Holds c j = some false)
  | 0, k, out, h, hk, ho => by
    refine ⟨out, ?_, fun h2 => ⟨h2, fun j h3 h4 => by omega⟩⟩
    rw [loopω_eq, show k = 18 by omega]
    rfl
  | m + 1, k, out, h, hk, ho => by
    obtain ⟨b, hb, _⟩ := holds_ok c hc k
    have hw : IntKind.i64.wrap (k + 1) = k + 1 := w64 (by omega) (by omega)
    rw [loopω_eq]
    simp only [G_ref07_All.b1, show decide (k ≤ 17) = true by simp; omega, cond_true, hb, Option.bind_some, hw]
    cases b
    · simp only [cond_false]
      obtain ⟨l, h1, h2⟩ := all_loop c hc m (k + 1) out (by omega) (by omega) (by omega)
      refine ⟨l, h1, fun h3 => ⟨(h2 h3).1, fun j h4 h5 => ?_⟩⟩
      by_cases hj : j = k
      · rw [hj]; exact hb
      · exact (h2 h3).2 j (by omega) h5
    · simp only [cond_true]
      rw [show decide ((out.length + 1) * 8 ≤ 140737488355328) = true by simp; omega]
      simp only [req_t]
      obtain ⟨l, h1, h2⟩ := all_loop c hc m (k + 1) (out ++ [k]) (by omega) (by omega) (by simp; omega)
      exact ⟨l, h1, fun h3 => by have := (h2 h3).1; simp at this⟩
structure Acc (c : Config) : Prop where
  parts : 1 ≤ c.Parts.length ∧ c.Parts.length ≤ 6
  chans : c.Chans.length ≤ 8
  good : ∀ k, 5 ≤ k → k ≤ 11 → ∀ i, i < c.Chans.length → chBad c k (rd c.Chans (i : Int)) = false
theorem accepts_ok (c : Config) (hc : wfc c) : ∃ b, G_ref07_Accepts c = some b ∧ (b = true → Acc c) := by
  unfold G_ref07_Accepts G_ref07_All
  obtain ⟨l, h1, h2⟩ := all_loop c hc 17 1 [] (by omega) (by omega) (by simp)
  rw [h1]
  refine ⟨_, rfl, fun h => ?_⟩
  have hl : l = [] := by simpa using h
  have h3 := (h2 hl).2
  obtain ⟨b1, e1, f1⟩ := holds_ok c hc 1
  obtain ⟨b4, e4, f4⟩ := holds_ok c hc 4
  rw [h3 1 (by omega) (by omega)] at e1
  rw [h3 4 (by omega) (by omega)] at e4
  simp only [Option.some.injEq] at e1 e4
  refine ⟨(f1 e1.symm).1 rfl, (f4 e4.symm).2.1 rfl, fun k hk1 hk2 => ?_⟩
  obtain ⟨b6, e6, f6⟩ := holds_ok c hc k
  rw [h3 k (by omega) (by omega)] at e6
  simp only [Option.some.injEq] at e6
  exact (f6 e6.symm).2.2 ⟨hk1, hk2⟩
theorem Acc.words {c : Config} (h : Acc c) (i : Nat) (hi : i < c.Chans.length) : 1 ≤ (rd c.Chans (i : Int)).Words ∧ (rd c.Chans (i : Int)).Words ≤ 16 := by
  have := h.good 8 (by omega) (by omega) i hi
  simp [chBad] at this
  omega
theorem wfc_of {c : Config} (h : wf_Config c) : wfc c := by
  obtain ⟨h1, h2, h3⟩ := h
  obtain ⟨h4, h5⟩ := h3
  exact ⟨h1.1, h2.1, h4.2.1, h5.2.1⟩
end Go.Proofs.Ytnfnincmhobpaab
