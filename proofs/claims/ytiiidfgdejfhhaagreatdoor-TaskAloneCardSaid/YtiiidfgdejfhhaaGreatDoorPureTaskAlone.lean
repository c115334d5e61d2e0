/- The plain law behind TaskAlone: a Poke and then a Peek of one's own address. -/
import Derived.Test.YtiiidfgdejfhhaaGreatDoorGTM
set_option linter.unusedVariables false
set_option linter.unusedSimpArgs false
namespace Go.Proofs.YtiiidfgdejfhhaaGreatDoor
open Go Go.RowKit Go.Eng
theorem same1 (a : Int) : C_ref02_Same [a] [a] = some true := by
  have h : C_ref02_Same.b1 [a] [a] (0, false) = some (.next (1, false)) := by
    unfold C_ref02_Same.b1
    have e : (rd [a] 0 != rd [a] 0) = false := by simp
    dsimp only
    rw [e]
    rfl
  have h2 : C_ref02_Same.b1 [a] [a] (1, false) = some (.out (.brk (1, false))) := rfl
  unfold C_ref02_Same loopC
  rw [show (100000 : Nat) = 99998 + 1 + 1 from rfl]
  unfold iter
  rw [h]
  dsimp only
  unfold iter
  rw [h2]
  rfl
theorem alone_at {a x : Int} (b : Int) (h : IntKind.u64.wrap (Int.tmod a 2) = IntKind.u64.wrap (Int.tmod x 2)) : C_law13_TaskAlone a b = C_law13_TaskAlone x b := by
  have hb : C_law13_TaskAlone.b1 a = C_law13_TaskAlone.b1 x := by
    funext
    unfold C_law13_TaskAlone.b1
    rw [h]
  unfold C_law13_TaskAlone
  rw [h, hb]
set_option maxRecDepth 100000 in
theorem alone0 (b : Int) : C_law13_TaskAlone 0 b = ((C_ref02_Same [b] [b]).bind fun t => some (true && t)) := by kernel_rfl
set_option maxRecDepth 100000 in
theorem alone1 (b : Int) : C_law13_TaskAlone 1 b = ((C_ref02_Same [b] [b]).bind fun t => some (true && t)) := by kernel_rfl
theorem pureTaskAlone (a0 : Int) (a1 : Int) (w0 : InK .u8 a0) (w1 : InK .u32 a1) : G_law13_TaskAlone a0 a1 = some true := by
  refine C_law13_TaskAlone.le a0 a1 true ?_
  have ha := InK.u8 w0
  obtain ⟨n, rfl⟩ : ∃ n : Nat, a0 = n := ⟨a0.toNat, by omega⟩
  have ht : Int.tmod (n : Int) 2 = ((n % 2 : Nat) : Int) := by rw [Int.tmod_eq_emod_of_nonneg (by omega)]; omega
  rcases Nat.mod_two_eq_zero_or_one n with h | h
  · rw [alone_at (x := 0) a1 (by rw [ht, h]; rfl), alone0, same1]; rfl
  · rw [alone_at (x := 1) a1 (by rw [ht, h]; rfl), alone1, same1]; rfl
end Go.Proofs.YtiiidfgdejfhhaaGreatDoor
