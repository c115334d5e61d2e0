/- Own engine: walks of whole regions by evaluation in the kernel. No statement of the seat is proved here. Conditions: none. -/
import Derived.WalkKit
import Derived.OwnWalkIn
import Derived.TacticsInMore
import Derived.RangeFuncCalls
import Derived.RangeFuncNested
import Derived.RangeFuncBound
import Derived.RangeFuncLeaves
import Derived.KernelRfl
import Derived.OpenShut
import Derived.Laws.StructEq
import Derived.Maps.AppendAt
import Derived.Sort.QuietThIn
set_option linter.unusedVariables false
set_option linter.unusedSimpArgs false
namespace Go.Eng
open Go Go.RowKit

/-! ### values as the evaluator sees them -/
inductive EV where
  | v (x : Value)
  | p (k off : Nat)
  | s (k off n c : Nat)
  | f (fn : Fn) (first cap : List (Sum Value (Nat × Nat)))
  deriving Inhabited

def den1 (ns : List Nat) : Sum Value (Nat × Nat) → Value
  | .inl x => x
  | .inr (k, off) => .pointer (some ⟨ns.getD k 0, off, none⟩)
def EV.den (ns : List Nat) : EV → Value
  | .v x => x
  | .p k off => .pointer (some ⟨ns.getD k 0, off, none⟩)
  | .s k off n c => .slice (some ⟨ns.getD k 0, off, none⟩) n c
  | .f fn a b => .func fn (a.map (den1 ns)).toArray (b.map (den1 ns)).toArray

abbrev Path := List (Nat × Bool)
def eqb (c w : Bool) : Bool := match w with | true => c | false => !c
def pathB (gv : List Bool) : Path → Bool
  | [] => true
  | [(i, w)] => eqb (gv.getD i false) w
  | (i, w) :: r => pathB gv r && eqb (gv.getD i false) w
theorem pathB_cons (gv : List Bool) (i : Nat) (w : Bool) (r : Path) : pathB gv ((i, w) :: r) = (pathB gv r && eqb (gv.getD i false) w) := by
  cases r <;> simp [pathB]
def pathWf (n : Nat) (p : Path) : Prop := ∀ x ∈ p, x.1 < n
theorem pathB_append (gv : List Bool) (c : Bool) (p : Path) (h : pathWf gv.length p) : pathB (gv ++ [c]) p = pathB gv p := by
  induction p with
  | nil => rfl
  | cons x r ih =>
    obtain ⟨i, w⟩ := x
    have hi : i < gv.length := h (i, w) (by simp)
    rw [pathB_cons, pathB_cons, ih (fun y hy => h y (List.mem_cons_of_mem _ hy))]
    simp [List.getD_eq_getElem?_getD, List.getElem?_append_left hi]
def beqPath : Path → Path → Bool
  | [], [] => true
  | (i, w) :: r, (j, u) :: q => Nat.beq i j && (match w, u with | true, true => true | false, false => true | _, _ => false) && beqPath r q
  | _, _ => false
theorem beqPath_eq : ∀ {p q : Path}, beqPath p q = true → p = q
  | [], [], _ => rfl
  | (i, w) :: r, (j, u) :: q, h => by
    simp only [beqPath, Bool.and_eq_true] at h
    obtain ⟨⟨h1, h2⟩, h3⟩ := h
    have := Nat.eq_of_beq_eq_true h1
    subst this
    rw [beqPath_eq h3]
    cases w <;> cases u <;> simp_all
  | [], _ :: _, h => by simp [beqPath] at h
  | _ :: _, [], h => by simp [beqPath] at h
/-- q is an end of p. -/
def endOf (q : Path) : Path → Bool
  | [] => beqPath q []
  | x :: r => beqPath q (x :: r) || endOf q r
theorem pathB_endOf {gv : List Bool} {q : Path} : ∀ {p : Path}, endOf q p = true → pathB gv p = true → pathB gv q = true
  | [], h, hp => by rw [beqPath_eq h]; rfl
  | x :: r, h, hp => by
    simp only [endOf, Bool.or_eq_true] at h
    rcases h with h | h
    · rw [beqPath_eq h]; exact hp
    · obtain ⟨i, w⟩ := x
      rw [pathB_cons, Bool.and_eq_true] at hp
      exact pathB_endOf h hp.1

/-! ### the evaluator's state -/
structure Ent where
  t : Nat
  p : Path
  e : EV
structure S where
  env : List Ent
  gv : List Bool
  gi : List (Nat × Nat)
  bs : List (List EV × TypeId)

def look : List Ent → Nat → Option Ent
  | [], _ => none
  | x :: r, t => bif Nat.beq x.t t then some x else look r t
theorem look_mem : ∀ {l : List Ent} {t : Nat} {x : Ent}, look l t = some x → x ∈ l ∧ x.t = t
  | y :: r, t, x, h => by
    simp only [look] at h
    cases hb : Nat.beq y.t t
    · rw [hb] at h; have := look_mem h; exact ⟨List.mem_cons_of_mem _ this.1, this.2⟩
    · rw [hb] at h; simp only [cond_true, Option.some.injEq] at h; subst h; exact ⟨by simp, Nat.eq_of_beq_eq_true hb⟩
def drop (l : List Ent) (t : Nat) : List Ent := l.filter fun x => !Nat.beq x.t t
def gidx : List (Nat × Nat) → Nat → Option Nat
  | [], _ => none
  | (d, i) :: r, t => bif Nat.beq d t then some i else gidx r t
theorem gidx_mem : ∀ {l : List (Nat × Nat)} {t i : Nat}, gidx l t = some i → (t, i) ∈ l
  | (d, j) :: r, t, i, h => by
    simp only [gidx] at h
    cases hb : Nat.beq d t
    · rw [hb] at h; exact List.mem_cons_of_mem _ (gidx_mem h)
    · rw [hb] at h; simp only [cond_true, Option.some.injEq] at h; subst h; rw [Nat.eq_of_beq_eq_true hb]; simp

/-- an operand: constants, and what a slot holds. -/
def opnd (env : List Ent) : Operand → Option (Path × EV)
  | .tmp t => (look env t).map fun x => (x.p, x.e)
  | .const v => some ([], .v v)
  | .global g => some ([], .v (.pointer (some ⟨g, 0, none⟩)))
  | .func f => some ([], .v (.func (.func f) #[] #[]))

inductive Ob where
  | cell (g : Bool) (p : Addr) (vs : List Value)
  | need (g : Bool) (q : Prop)
  | call (g : Bool) (f : FuncId) (args : List Value) (v : Value)
  | run (g : Bool) (s : Sem Next) (v : Value)
/-! ### what an operation that looks at no memory comes to -/
def Sem.val {α : Type} (P : Program) : Sem α → Option α
  | .pure a => some a
  | .program k => Sem.val P (k P)
  | .mark _ k => Sem.val P k
  | _ => none
theorem Sem.run_val {α : Type} {P : Program} {s : Sem α} {a : α} (h : Sem.val P s = some a) (w : World) : s.run P w = .ok a w := by
  induction s with
  | pure b => simp only [Sem.val, Option.some.injEq] at h; subst h; rfl
  | program k ih => exact ih P h
  | mark m k ih => exact ih h
  | load => simp [Sem.val] at h
  | store => simp [Sem.val] at h
  | new => simp [Sem.val] at h
  | shape => simp [Sem.val] at h
  | freeze => simp [Sem.val] at h
  | frozen => simp [Sem.val] at h
  | getObj => simp [Sem.val] at h
  | setObj => simp [Sem.val] at h
  | choose => simp [Sem.val] at h
  | sys => simp [Sem.val] at h
  | halt => simp [Sem.val] at h



/-! ### the heap: blocks of the call's own, told cell by cell -/
/-- what lay in w0, but for the blocks 'own', lies as it lay. -/
structure Keeps (own : List Nat) (w0 w : World) : Prop where
  os : w.os = w0.os
  tape : w.tape = w0.tape
  output : w.output = w0.output
  size : w0.heap.size ≤ w.heap.size
  block : ∀ k, k < w0.heap.size → k ∉ own → w.heap[k]? = w0.heap[k]?
theorem Keeps.refl (own : List Nat) (w : World) : Keeps own w w := ⟨rfl, rfl, rfl, Nat.le_refl _, fun _ _ _ => rfl⟩
theorem Keeps.below {w0 w : World} (h : Keeps [] w0 w) : Below w0.heap.size w0 w := ⟨h.os, h.tape, h.output, h.size, fun k hk => h.block k hk (by simp)⟩
theorem Keeps.of_below {own : List Nat} {w0 w : World} (h : Below w0.heap.size w0 w) : Keeps own w0 w := ⟨h.os, h.tape, h.output, h.size, fun k hk _ => h.block k hk⟩
theorem Keeps.trans_below {own : List Nat} {w0 w w1 : World} (h : Keeps own w0 w) (k : Below w.heap.size w w1) : Keeps own w0 w1 :=
  ⟨k.os.trans h.os, k.tape.trans h.tape, k.output.trans h.output, Nat.le_trans h.size k.size, fun i hi ho => (k.block i (Nat.lt_of_lt_of_le hi h.size)).trans (h.block i hi ho)⟩
theorem Keeps.setCell {own : List Nat} {w0 w : World} (h : Keeps own w0 w) (p : Addr) (u : Value) (hp : p.block ∈ own ∨ w0.heap.size ≤ p.block) : Keeps own w0 (w.setCell p u) :=
  ⟨h.os, h.tape, h.output, by simpa [World.setCell] using h.size, fun i hi ho => (Below.heap_setCell _ _ _ _ (by
    rcases hp with hp | hp
    · rintro rfl; exact ho hp
    · omega)).trans (h.block i hi ho)⟩

def Ob.holds (P : Program) (w : World) (own : List Nat) : Ob → Prop
  | .cell g p vs => g = true → p.block ∉ own ∧ ∀ j x, vs[j]? = some x → w.cell? (p.add j) = some x
  | .need g q => g = true → q
  | .call g f args v => g = true → (∀ args w, (callFunc f args).run P w = .ok (.enter f args) w) ∧ ∀ w1, Keeps own w w1 → Calls P f args.toArray w1 fun e w' => e = .returned v ∧ Below w1.heap.size w1 w'
  | .run g s v => g = true → ∀ w1, Keeps own w w1 → s.run P w1 = .ok (.value v) w1
def Obs (P : Program) (w : World) (own : List Nat) : List Ob → Prop
  | [] => True
  | o :: r => o.holds P w own ∧ Obs P w own r
theorem Obs_append {P : Program} {w : World} {own : List Nat} : ∀ {l r : List Ob}, Obs P w own (l ++ r) ↔ Obs P w own l ∧ Obs P w own r
  | [], r => by simp [Obs]
  | o :: l, r => by simp [Obs, Obs_append, and_assoc]


structure Loc (w0 : World) (own ns : List Nat) (bs : List (List EV × TypeId)) (w : World) : Prop where
  len : ns.length = bs.length
  nodup : ns.Nodup
  base : Keeps own w0 w
  ge : ∀ b ∈ ns, b ∈ own ∨ w0.heap.size ≤ b
  blk : ∀ k cs T, bs[k]? = some (cs, T) → w.heap[ns.getD k 0]? = some (.cells (cs.map (EV.den ns)).toArray T (0, 0))

/-- denotations hang on the blocks that there are alone -/
def EV.wf (m : Nat) : EV → Bool
  | .v _ => true
  | .p k _ => Nat.blt k m
  | .s k _ _ _ => Nat.blt k m
  | .f _ a b => a.all (fun x => match x with | .inl _ => true | .inr (k, _) => Nat.blt k m) && b.all (fun x => match x with | .inl _ => true | .inr (k, _) => Nat.blt k m)
theorem getD_append_left {ns : List Nat} {k b : Nat} (h : k < ns.length) : (ns ++ [b]).getD k 0 = ns.getD k 0 := by
  simp [List.getD_eq_getElem?_getD, List.getElem?_append_left h]
theorem den1_append {ns : List Nat} {b : Nat} (x : Sum Value (Nat × Nat)) (h : (match x with | .inl _ => true | .inr (k, _) => Nat.blt k ns.length) = true) : den1 (ns ++ [b]) x = den1 ns x := by
  cases x with
  | inl => rfl
  | inr p => obtain ⟨k, off⟩ := p; simp only [den1]; rw [getD_append_left (by simpa using h)]
theorem EV.den_append {ns : List Nat} {b : Nat} {e : EV} (h : e.wf ns.length = true) : e.den (ns ++ [b]) = e.den ns := by
  cases e with
  | v => rfl
  | p k off => simp only [EV.den]; rw [getD_append_left (by simpa [EV.wf] using h)]
  | s k off n c => simp only [EV.den]; rw [getD_append_left (by simpa [EV.wf] using h)]
  | f fn a c =>
    simp only [EV.wf, Bool.and_eq_true, List.all_eq_true] at h
    simp only [EV.den]
    rw [List.map_congr_left (fun x hx => den1_append x (h.1 x hx)), List.map_congr_left (fun x hx => den1_append x (h.2 x hx))]
theorem Loc.lt {w0 : World} {own ns : List Nat} {bs : List (List EV × TypeId)} {w : World} (h : Loc w0 own ns bs w) {b : Nat} (hb : b ∈ ns) : b < w.heap.size := by
  obtain ⟨k, hk, rfl⟩ := List.getElem_of_mem hb
  have hk' : k < bs.length := by rw [← h.len]; exact hk
  have := h.blk k bs[k].1 bs[k].2 (by simp [hk'])
  rw [List.getD_eq_getElem?_getD, List.getElem?_eq_getElem hk] at this
  exact (Array.getElem?_eq_some_iff.1 this).1
/-- a new block -/
theorem Loc.alloc {w0 : World} {own ns : List Nat} {bs : List (List EV × TypeId)} {w : World} (h : Loc w0 own ns bs w) (hb : ∀ x ∈ bs, ∀ e ∈ x.1, EV.wf ns.length e = true)
    (cs : List EV) (T : TypeId) (hc : ∀ e ∈ cs, EV.wf ns.length e = true) :
    Loc w0 own (ns ++ [w.heap.size]) (bs ++ [(cs, T)]) (w.alloc (.cells (cs.map (EV.den ns)).toArray T)) := by
  refine ⟨by simp [h.len], ?_, h.base.trans_below ((Below.refl _ _).alloc (Nat.le_refl _) _), ?_, ?_⟩
  · rw [List.nodup_append]
    refine ⟨h.nodup, by simp, fun a ha b hb => ?_⟩
    simp only [List.mem_singleton] at hb
    have := h.lt ha
    omega
  · intro b hb
    simp only [List.mem_append, List.mem_singleton] at hb
    rcases hb with hb | rfl
    · exact h.ge b hb
    · exact .inr h.base.size
  · intro k cs' T' hk
    rcases Nat.lt_or_ge k bs.length with hlt | hge
    · rw [List.getElem?_append_left hlt] at hk
      have hk' : k < ns.length := by rw [h.len]; exact hlt
      have hmem := List.mem_of_getElem? hk
      rw [getD_append_left hk', List.map_congr_left (fun e he => EV.den_append (hb _ hmem e he)),
        Below.heap_alloc _ _ _ (h.lt (b := ns.getD k 0) (by rw [List.getD_eq_getElem?_getD, List.getElem?_eq_getElem hk']; simp))]
      exact h.blk k cs' T' hk
    · rw [List.getElem?_append_right hge] at hk
      have hk0 : k = bs.length := by
        have := (List.getElem?_eq_some_iff.1 hk).1
        simp at this; omega
      subst hk0
      simp only [Nat.sub_self, List.getElem?_cons_zero, Option.some.injEq, Prod.mk.injEq] at hk
      obtain ⟨rfl, rfl⟩ := hk
      rw [← h.len]
      have : (ns ++ [w.heap.size]).getD ns.length 0 = w.heap.size := by simp [List.getD_eq_getElem?_getD]
      rw [this, List.map_congr_left (fun e he => EV.den_append (hc e he))]
      exact heap_alloc_new _ _

/-! ### stores into a block of the call's own -/
def one1 : Value → Bool
  | .agg _ | .tuple _ => false
  | _ => true
def EV.oneCell : EV → Bool
  | .v x => one1 x
  | _ => true
theorem EV.den_oneCell {ns : List Nat} {e : EV} (h : e.oneCell = true) : one1 (e.den ns) = true := by
  cases e with
  | v x => exact h
  | _ => rfl
theorem run_store1 {P : Program} {w : World} {p : Addr} {x u : Value} (hx : one1 x = true) (hc : w.cell? p = some u) (hf : w.frozen? p = false) :
    (store p x).run P w = .ok () (w.setCell p x) := by
  unfold store
  cases x <;> simp_all [Sem.run, one1]
theorem Loc.cell {w0 : World} {own ns : List Nat} {bs : List (List EV × TypeId)} {w : World} (h : Loc w0 own ns bs w) {k : Nat} {cs : List EV} {T : TypeId} (hk : bs[k]? = some (cs, T))
    {off : Nat} {e : EV} (he : cs[off]? = some e) : w.cell? ⟨ns.getD k 0, off, none⟩ = some (e.den ns) := by
  unfold World.cell?
  simp only [h.blk k cs T hk]
  simp [he]
theorem Loc.unfrozen {w0 : World} {own ns : List Nat} {bs : List (List EV × TypeId)} {w : World} (h : Loc w0 own ns bs w) {k : Nat} {cs : List EV} {T : TypeId} (hk : bs[k]? = some (cs, T))
    (off : Nat) : w.frozen? ⟨ns.getD k 0, off, none⟩ = false := by
  unfold World.frozen?
  simp only [h.blk k cs T hk]
  simp
theorem Loc.mem {w0 : World} {own ns : List Nat} {bs : List (List EV × TypeId)} {w : World} (h : Loc w0 own ns bs w) {k : Nat} (hk : k < bs.length) : ns.getD k 0 ∈ ns := by
  have : k < ns.length := by rw [h.len]; exact hk
  rw [List.getD_eq_getElem?_getD, List.getElem?_eq_getElem this]; simp
theorem Loc.store {w0 : World} {own ns : List Nat} {bs : List (List EV × TypeId)} {w : World} (h : Loc w0 own ns bs w) {k : Nat} {cs : List EV} {T : TypeId} (hk : bs[k]? = some (cs, T))
    (off : Nat) (e : EV) : Loc w0 own ns (bs.set k (cs.set off e, T)) (w.setCell ⟨ns.getD k 0, off, none⟩ (e.den ns)) := by
  have hkl : k < bs.length := (List.getElem?_eq_some_iff.1 hk).1
  have hkn : k < ns.length := by rw [h.len]; exact hkl
  refine ⟨by simp [h.len], h.nodup, h.base.setCell _ _ (h.ge _ (h.mem hkl)), h.ge, ?_⟩
  intro j cs' T' hj
  by_cases hjk : j = k
  · subst hjk
    rw [List.getElem?_set_self hkl] at hj
    simp only [Option.some.injEq, Prod.mk.injEq] at hj
    obtain ⟨rfl, rfl⟩ := hj
    have hb := h.blk j cs T hk
    have hlt := (Array.getElem?_eq_some_iff.1 hb).1
    have he := (Array.getElem?_eq_some_iff.1 hb).2
    simp only [World.setCell]
    rw [Array.getElem?_modify, if_pos rfl, hb]
    simp [List.map_set, List.set_toArray]
  · rw [List.getElem?_set_ne (Ne.symm hjk)] at hj
    have hjl : j < ns.length := by rw [h.len]; exact (List.getElem?_eq_some_iff.1 hj).1
    have hne : ns.getD j 0 ≠ ns.getD k 0 := by
      rw [List.getD_eq_getElem?_getD, List.getD_eq_getElem?_getD, List.getElem?_eq_getElem hjl, List.getElem?_eq_getElem hkn]
      simp only [Option.getD_some]
      intro hh
      have hp := List.pairwise_iff_getElem.1 h.nodup
      rcases Nat.lt_or_gt_of_ne hjk with hlt | hgt
      · exact hp j k hjl hkn hlt hh
      · exact hp k j hkn hjl hgt hh.symm
    rw [← h.blk j cs' T' hj]
    exact Below.heap_setCell _ _ _ _ (by simpa using hne)
def setMany : List EV → Nat → List EV → List EV
  | cs, _, [] => cs
  | cs, off, e :: r => setMany (cs.set off e) (off + 1) r
theorem setMany_length (es : List EV) : ∀ (cs : List EV) (off : Nat), (setMany cs off es).length = cs.length := by
  induction es with
  | nil => intro cs off; rfl
  | cons e r ih => intro cs off; simp [setMany, ih]
theorem add_at (b off j : Nat) : (⟨b, off, none⟩ : Addr).add j = ⟨b, off + j, none⟩ := by
  unfold Addr.add; split <;> simp_all
theorem Loc.storeCells {P : Program} {w0 : World} {own ns : List Nat} (es : List EV) (hone : ∀ e ∈ es, e.oneCell = true) : ∀ (bs : List (List EV × TypeId)) (w : World) (k : Nat) (cs : List EV) (T : TypeId) (off i : Nat),
    Loc w0 own ns bs w → bs[k]? = some (cs, T) → off + i + es.length ≤ cs.length →
    ∃ w', (Go.storeCells ⟨ns.getD k 0, off, none⟩ (es.map (EV.den ns)) i).run P w = .ok () w' ∧ Loc w0 own ns (bs.set k (setMany cs (off + i) es, T)) w' ∧ w'.heap.size = w.heap.size := by
  induction es with
  | nil =>
    intro bs w k cs T off i h hk hl
    refine ⟨w, rfl, ?_, rfl⟩
    have : bs.set k (setMany cs (off + i) [], T) = bs := by
      apply List.ext_getElem?
      intro j
      by_cases hj : j = k
      · subst hj; rw [List.getElem?_set_self (List.getElem?_eq_some_iff.1 hk).1, hk]; rfl
      · rw [List.getElem?_set_ne (Ne.symm hj)]
    rw [this]; exact h
  | cons e r ih =>
    intro bs w k cs T off i h hk hl
    simp only [List.length_cons] at hl
    have hlt : off + i < cs.length := by omega
    have hc := h.cell hk (List.getElem?_eq_getElem hlt)
    have hf := h.unfrozen hk (off + i)
    have hr := run_store1 (P := P) (x := e.den ns) (EV.den_oneCell (ns := ns) (hone e (by simp))) hc hf
    have h1 := h.store hk (off + i) e
    have hk1 : (bs.set k (cs.set (off + i) e, T))[k]? = some (cs.set (off + i) e, T) := List.getElem?_set_self (List.getElem?_eq_some_iff.1 hk).1
    obtain ⟨w', hrun, hL, hs⟩ := ih (fun e' he' => hone e' (List.mem_cons_of_mem _ he')) _ _ k _ T off (i + 1) h1 hk1 (by simp; omega)
    refine ⟨w', ?_, ?_, by rw [hs]; simp [World.setCell]⟩
    · simp only [List.map_cons, Go.storeCells, Sem.run_bind, add_at, hr, Result.andThen_ok]
      exact hrun
    · rw [List.set_set] at hL
      simpa [setMany, Nat.add_assoc] using hL
/-! ### loads -/
theorem run_loadCells {P : Program} {w : World} {a : Addr} (vs : List Value) : ∀ (i : Nat) (acc : Array Value), (∀ j x, vs[j]? = some x → w.cell? (a.add (i + j)) = some x) →
    (loadCellsFrom a i vs.length acc).run P w = .ok (acc ++ vs.toArray) w := by
  induction vs with
  | nil => intro i acc _; simp [loadCellsFrom, Sem.run]
  | cons x r ih =>
    intro i acc h
    have h0 := h 0 x rfl
    simp only [List.length_cons, loadCellsFrom, Sem.run_bind]
    have : (load (a.add i)).run P w = .ok x w := by
      unfold load; simp only [Nat.add_zero] at h0; simp [Sem.run, h0]
    rw [this]
    simp only [Result.andThen_ok]
    rw [ih (i + 1) (acc.push x) (fun j y hy => by have := h (j + 1) y (by simpa using hy); rwa [show i + (j + 1) = i + 1 + j by omega] at this)]
    simp
def isAggT (P : Program) (T : TypeId) : Option Bool :=
  match P.underlying T with
  | some (.struct _) => some true
  | some (.array ..) => some true
  | some _ => some false
  | none => none
def szT (P : Program) (T : TypeId) : Option Nat := match P.info? T with | some i => some i.size | none => none
theorem run_isAgg {P : Program} {T : TypeId} {b : Bool} (h : isAggT P T = some b) (w : World) : (isAgg T).run P w = .ok b w := by
  unfold isAggT at h
  unfold isAgg underlying
  simp only [Sem.run_bind]
  cases hu : P.underlying T with
  | none => rw [hu] at h; simp at h
  | some d =>
    rw [hu] at h
    have : (program).run P w = .ok P w := rfl
    rw [this]
    simp only [Result.andThen_ok, hu]
    cases d <;> simp_all [Sem.run]
theorem run_sizeOf {P : Program} {T : TypeId} {k : Nat} (h : szT P T = some k) (w : World) : (sizeOf T).run P w = .ok k w := by
  unfold szT at h
  unfold sizeOf typeInfo
  simp only [Sem.run_bind]
  have : (program).run P w = .ok P w := rfl
  rw [this]
  simp only [Result.andThen_ok]
  cases hi : P.info? T with
  | none => rw [hi] at h; simp at h
  | some i => rw [hi] at h; simp only [Option.some.injEq] at h; simp [Sem.run, h]
theorem run_loadVar_agg {P : Program} {T : TypeId} {a : Addr} {w : World} {vs : List Value} (h1 : isAggT P T = some true) (h2 : szT P T = some vs.length)
    (h : ∀ j x, vs[j]? = some x → w.cell? (a.add j) = some x) : (loadVar T a).run P w = .ok (.agg vs.toArray) w := by
  unfold loadVar
  simp only [Sem.run_bind, run_isAgg h1 w, Result.andThen_ok, if_true, run_sizeOf h2 w, loadCells]
  rw [run_loadCells vs 0 #[] (fun j x hx => by rw [Nat.zero_add]; exact h j x hx)]
  simp [Sem.run]
theorem run_loadVar_one {P : Program} {T : TypeId} {a : Addr} {w : World} {x : Value} (h1 : isAggT P T = some false)
    (h : w.cell? a = some x) : (loadVar T a).run P w = .ok x w := by
  unfold loadVar
  simp only [Sem.run_bind, run_isAgg h1 w, Result.andThen_ok]
  simp [load, Sem.run, h]

/-! ### the invariant between the evaluator's state and the machine's -/
def gvv (b : Bool) (v : Value) : Value := bif b then v else undef
structure Inv (w0 : World) (own : List Nat) (n : Nat) (σ : S) (ns : List Nat) (a : Act) (w : World) : Prop where
  size : a.tmps.size = n
  defers : a.defers = []
  env : ∀ x ∈ σ.env, a.tmps[x.t]? = some (gvv (pathB σ.gv x.p) (x.e.den ns))
  ewf : ∀ x ∈ σ.env, x.e.wf σ.bs.length = true ∧ pathWf σ.gv.length x.p
  bwf : ∀ x ∈ σ.bs, ∀ e ∈ x.1, EV.wf σ.bs.length e = true
  gi : ∀ x ∈ σ.gi, ∃ y c, look σ.env x.1 = some y ∧ y.e = .v (.bool c) ∧ σ.gv[x.2]? = some c
  loc : Loc w0 own ns σ.bs w

def oEnv (env : List Ent) (g : Path) (x : Operand) : Option EV :=
  match opnd env x with
  | some (q, e) => bif endOf q g then some e else none
  | none => none
theorem endOf_nil : ∀ (p : Path), endOf [] p = true
  | [] => rfl
  | _ :: r => by simp [endOf, endOf_nil r]
theorem Inv.opnd {w0 : World} {own : List Nat} {n : Nat} {σ : S} {ns : List Nat} {a : Act} {w : World} (hI : Inv w0 own n σ ns a w) {g : Path} {x : Operand} {e : EV}
    (h : oEnv σ.env g x = some e) (hp : pathB σ.gv g = true) : a.eval x = e.den ns := by
  unfold oEnv at h
  cases x with
  | tmp t =>
    simp only [Eng.opnd] at h
    cases hl : look σ.env t with
    | none => rw [hl] at h; simp at h
    | some y =>
      rw [hl] at h
      simp only [Option.map_some] at h
      cases hb : endOf y.p g
      · rw [hb] at h; simp at h
      · rw [hb] at h
        simp only [cond_true, Option.some.injEq] at h
        subst h
        have hm := look_mem hl
        have := hI.env y hm.1
        rw [pathB_endOf hb hp, hm.2] at this
        simp only [gvv, cond_true] at this
        simp [Act.eval, Array.getD_eq_getD_getElem?, this]
  | const v => simp only [Eng.opnd, endOf_nil, cond_true, Option.some.injEq] at h; subst h; rfl
  | global gl => simp only [Eng.opnd, endOf_nil, cond_true, Option.some.injEq] at h; subst h; rfl
  | func f => simp only [Eng.opnd, endOf_nil, cond_true, Option.some.injEq] at h; subst h; rfl

inductive Res where
  | val (e : EV) (obs : List Ob) (orc : List (List Value))
  | new (cs : List EV) (T : TypeId) (sl : Option Nat)
  | upd (k : Nat) (cs : List EV) (T : TypeId)

/-- what an operation comes to that looks at values alone -/
def rhoV (env : List Ent) (g : Path) (x : Operand) : Value := match oEnv env g x with | some (.v x) => x | _ => undef
def allV (env : List Ent) (g : Path) (xs : Array Operand) : Bool := xs.toList.all fun x => match oEnv env g x with | some (.v _) => true | _ => false
def notSel : Op → Bool
  | .select .. => false
  | .defer .. => false
  | _ => true
def evD (P : Program) (σ : S) (g : Path) (orc : List (List Value)) (o : Oper) : Option Res :=
  bif allV σ.env g o.op.operands && notSel o.op then
    match Sem.val P (execOp (rhoV σ.env g) o) with
    | some (.value x) => some (.val (.v x) [] orc)
    | _ => none
  else none
def foff (P : Program) (T : TypeId) (j : Nat) : Option Nat :=
  match P.underlying T with
  | some (.struct fs) =>
    match fs[j]? with
    | some f => match szT P f.type with | some k => bif Nat.beq k 0 then none else some f.offset | none => none
    | none => none
  | _ => none
def cellsE : EV → Option (List EV)
  | .v (.agg cs) => some (cs.toList.map .v)
  | .v (.tuple _) => none
  | e => some [e]
def allVs : List EV → Option (List Value)
  | [] => some []
  | .v x :: r => match allVs r with | some l => some (x :: l) | none => none
  | _ :: _ => none
def evLoad (P : Program) (σ : S) (g : Path) (orc : List (List Value)) (T : TypeId) : EV → Option Res
  | .p k off =>
    match σ.bs[k]? with
    | some (cs, _) =>
      match isAggT P T with
      | some true =>
        match szT P T with
        | some m => match allVs ((cs.drop off).take m) with | some vs => bif Nat.beq vs.length m then some (.val (.v (.agg vs.toArray)) [] orc) else none | none => none
        | none => none
      | some false => match cs[off]? with | some e => some (.val e [] orc) | none => none
      | none => none
    | none => none
  | .v (.pointer (some p)) =>
    match orc with
    | vs :: rest =>
      match isAggT P T with
      | some true => match szT P T with | some m => bif Nat.beq vs.length m then some (.val (.v (.agg vs.toArray)) [.cell (pathB σ.gv g) p vs] rest) else none | none => none
      | some false => match vs with | [x] => some (.val (.v x) [.cell (pathB σ.gv g) p [x]] rest) | _ => none
      | none => none
    | [] => none
  | _ => none
def adr (A : Option Addr) : Addr := A.getD ⟨0, 0, none⟩
def evIndex (P : Program) (σ : S) (g : Path) (orc : List (List Value)) (T : TypeId) : EV → EV → Option Res
  | .v (.slice A n _), .v (.int _ i) =>
    match P.underlying T with
    | some (.slice E) => match szT P E with | some m => some (.val (.v (.pointer (some ((adr A).add (i.toNat * m))))) [.need (pathB σ.gv g) (0 ≤ i ∧ i < (n : Int)), .need (pathB σ.gv g) (A = some (adr A))] orc) | none => none
    | _ => none
  | .s k off n _, .v (.int _ (.ofNat j)) =>
    match P.underlying T with
    | some (.slice E) => match szT P E with | some m => bif Nat.blt j n then some (.val (.p k (off + j * m)) [] orc) else none | none => none
    | _ => none
  | .p k off, .v (.int _ (.ofNat j)) =>
    match P.underlying T with
    | some (.array n E) => match szT P E with | some m => bif Nat.blt j n then some (.val (.p k (off + j * m)) [] orc) else none | none => none
    | _ => none
  | _, _ => none
def evDiv (σ : S) (g : Path) (orc : List (List Value)) (b : BinOp) : EV → EV → Option Res
  | .v (.int k x), .v (.int k' y) =>
    bif decide (k = k') then
      match b with
      | .quo => some (.val (.v (.int k (k.wrap (x.tdiv y)))) [.need (pathB σ.gv g) (¬ y = 0)] orc)
      | .rem => some (.val (.v (.int k (x.tmod y))) [.need (pathB σ.gv g) (¬ y = 0)] orc)
      | _ => none
    else none
  | _, _ => none
/-- '||' and '&&' -/
def gcOf (gi : List (Nat × Nat)) (g : Path) (u : Bool) : Operand → Path
  | .tmp t => match gidx gi t with | some i => (i, u) :: g | none => g
  | _ => g
def boolOf : Option EV → Option Bool
  | some (.v (.bool b)) => some b
  | _ => none
theorem boolOf_eq {x : Option EV} {b : Bool} (h : boolOf x = some b) : x = some (.v (.bool b)) := by
  unfold boolOf at h
  split at h
  · simp only [Option.some.injEq] at h; rw [h]
  · simp at h
def isTrueC : Operand → Bool
  | .const (.bool true) => true
  | _ => false
theorem isTrueC_eq {x : Operand} (h : isTrueC x = true) : x = .const (.bool true) := by
  unfold isTrueC at h; split at h <;> simp_all
def isFalseC : Operand → Bool
  | .const (.bool false) => true
  | _ => false
theorem isFalseC_eq {x : Operand} (h : isFalseC x = true) : x = .const (.bool false) := by
  unfold isFalseC at h; split at h <;> simp_all
def evPick (σ : S) (g : Path) (orc : List (List Value)) (c x y : Operand) : Option Res :=
  match boolOf (oEnv σ.env g c) with
  | some cb =>
    match isTrueC x, isFalseC y with
    | true, _ => match boolOf (oEnv σ.env (gcOf σ.gi g false c) y) with | some eb => some (.val (.v (.bool (cb || eb))) [] orc) | none => none
    | false, true => match boolOf (oEnv σ.env (gcOf σ.gi g true c) x) with | some eb => some (.val (.v (.bool (cb && eb))) [] orc) | none => none
    | false, false => none
  | none => none
def isNil {α : Type} : List α → Bool
  | [] => true
  | _ => false
def allOne (cs : List EV) : Bool := cs.all EV.oneCell
def evStore (P : Program) (σ : S) (T : TypeId) : EV → EV → Option Res
  | .p k off, x =>
    match σ.bs[k]?, cellsE x, szT P T with
    | some (cs, U), some es, some m =>
      bif Nat.beq es.length m && Nat.ble (off + m) cs.length && allOne es then some (.upd k (setMany cs off es) U) else none
    | _, _, _ => none
  | _, _ => none
/-- an operation whose operands are values, and that looks at what lies still: what it comes to is told -/
def evRun (σ : S) (g : Path) (orc : List (List Value)) (o : Oper) : Option Res :=
  bif allV σ.env g o.op.operands && notSel o.op then
    match orc with | [v] :: rest => some (.val (.v v) [.run (pathB σ.gv g) (execOp (rhoV σ.env g) o) v] rest) | _ => none
  else none
def isAggE : Option EV → Bool
  | some (.v (.agg _)) => true
  | _ => false
def evOp (P : Program) (σ : S) (g : Path) (orc : List (List Value)) (o : Oper) : Option Res :=
  match o.op with
  | .move x | .assign x => match oEnv σ.env g x with | some e => some (.val e [] orc) | none => none
  | .pick c x y => evPick σ g orc c x y
  | .fieldAddr T x j =>
    match oEnv σ.env g x with
    | some (.p k off) => match foff P T j with | some d => some (.val (.p k (off + d)) [] orc) | none => none
    | _ => evD P σ g orc o
  | .load T x => match oEnv σ.env g x with | some e => evLoad P σ g orc T e | none => none
  | .indexAddr T x i => match oEnv σ.env g x, oEnv σ.env g i with | some e, some f => evIndex P σ g orc T e f | _, _ => none
  | .nilCheck x =>
    match oEnv σ.env g x with
    | some (.p k off) => some (.val (.p k off) [] orc)
    | _ => evD P σ g orc o
  | .binOp .quo T x y U => match oEnv σ.env g x, oEnv σ.env g y with | some e, some f => evDiv σ g orc .quo e f | _, _ => none
  | .binOp .rem T x y U => match oEnv σ.env g x, oEnv σ.env g y with | some e, some f => evDiv σ g orc .rem e f | _, _ => none
  | .store T x y => bif isNil g then (match oEnv σ.env g x, oEnv σ.env g y with | some e, some f => evStore P σ T e f | _, _ => none) else none
  | .box T x => bif isNil g then (match oEnv σ.env g x with | some e => (match cellsE e with | some cs => some (.new cs T none) | none => none) | none => none) else none
  | .alloc T => bif isNil g then (match P.info? T with | some i => (match i.zero with | some z => some (.new (z.cells.toList.map .v) T none) | none => none) | none => none) else none
  | .lookup T x i ok => evRun σ g orc o
  | .slice T x lo hi mx => evRun σ g orc o
  | .index T x i => evRun σ g orc o
  | .binOp .eql T x y U => bif isAggE (oEnv σ.env g x) then evRun σ g orc o else evD P σ g orc o
  | .binOp .neq T x y U => bif isAggE (oEnv σ.env g x) then evRun σ g orc o else evD P σ g orc o
  | _ => evD P σ g orc o

/-! ### soundness of one operation -/
theorem Keeps.cell {own : List Nat} {w0 w : World} (h : Keeps own w0 w) {p : Addr} (hp : p.block ∉ own) {x : Value} (hc : w0.cell? p = some x) : w.cell? p = some x := by
  have hlt := World.block_lt_of_cell? w0 p hc
  rw [World.cell?_of_block (w := w0) (h.block p.block hlt hp)]; exact hc
theorem add_block (p : Addr) (j : Nat) : (p.add j).block = p.block := by unfold Addr.add; split <;> rfl
section
variable {P : Program} {w0 : World} {own : List Nat} {n : Nat} {σ : S} {ns : List Nat} {a : Act} {w : World} {g : Path} {o : Oper} {orc orc' : List (List Value)} {e : EV} {obs : List Ob}

theorem evD_sound (hI : Inv w0 own n σ ns a w) (hp : pathB σ.gv g = true) (h : evD P σ g orc o = some (.val e obs orc')) :
    (execOp a.eval o).run P w = .ok (.value (e.den ns)) w := by
  unfold evD at h
  cases hb : (allV σ.env g o.op.operands && notSel o.op)
  · rw [hb] at h; simp at h
  · rw [hb] at h
    simp only [Bool.and_eq_true] at hb
    obtain ⟨hall, hsel⟩ := hb
    simp only [cond_true] at h
    cases hv : Sem.val P (execOp (rhoV σ.env g) o) with
    | none => rw [hv] at h; simp at h
    | some r =>
      rw [hv] at h
      cases r with
      | value x =>
        simp only [Option.some.injEq, Res.val.injEq] at h
        obtain ⟨rfl, rfl, rfl⟩ := h
        have hr := Sem.run_val hv w
        rw [execOp_congr (ρ := a.eval) (ρ' := rhoV σ.env g) o (by intro cs b hh; rw [hh] at hsel; simp [notSel] at hsel) ?_]
        · exact hr
        · intro x hx
          unfold allV at hall
          rw [List.all_eq_true] at hall
          have := hall x (by simpa using hx)
          unfold rhoV
          cases ho : oEnv σ.env g x with
          | none => rw [ho] at this; simp at this
          | some y =>
            rw [ho] at this
            cases y with
            | v u => simp only; rw [hI.opnd ho hp]; rfl
            | p => simp at this
            | s => simp at this
            | f => simp at this
      | _ => simp at h
theorem allVs_den {es : List EV} {vs : List Value} (h : allVs es = some vs) : es.map (EV.den ns) = vs := by
  induction es generalizing vs with
  | nil => simp only [allVs, Option.some.injEq] at h; subst h; rfl
  | cons x r ih =>
    cases x with
    | v u =>
      simp only [allVs] at h
      cases hr : allVs r with
      | none => rw [hr] at h; simp at h
      | some l => rw [hr] at h; simp only [Option.some.injEq] at h; subst h; simp [ih hr, EV.den]
    | _ => simp [allVs] at h
theorem run_loadAt {T : TypeId} {p : Addr} {x : Value} (h : (loadVar T p).run P w = .ok x w) : (Instr.loadAt T (.pointer (some p))).run P w = .ok x w := by
  unfold Instr.loadAt Instr.sureAddr; simp only [Sem.run_bind, Sem.run_pure, Result.andThen_ok]; exact h
theorem evLoad_sound {T : TypeId} {e0 : EV} (hI : Inv w0 own n σ ns a w) (hp : pathB σ.gv g = true) (h : evLoad P σ g orc T e0 = some (.val e obs orc')) (hob : Obs P w0 own obs) :
    (Instr.loadAt T (e0.den ns)).run P w = .ok (e.den ns) w := by
  unfold evLoad at h
  cases e0 with
  | p k off =>
    simp only at h
    cases hk : σ.bs[k]? with
    | none => rw [hk] at h; simp at h
    | some ct =>
      obtain ⟨cs, U⟩ := ct
      rw [hk] at h
      simp only at h
      cases hg : isAggT P T with
      | none => rw [hg] at h; simp at h
      | some b =>
        rw [hg] at h
        cases b with
        | true =>
          simp only at h
          cases hs : szT P T with
          | none => rw [hs] at h; simp at h
          | some m =>
            rw [hs] at h
            simp only at h
            cases hv : allVs ((cs.drop off).take m) with
            | none => rw [hv] at h; simp at h
            | some vs =>
              rw [hv] at h
              simp only at h
              cases hm : Nat.beq vs.length m
              · rw [hm] at h; simp at h
              · rw [hm] at h
                simp only [cond_true, Option.some.injEq, Res.val.injEq] at h
                obtain ⟨rfl, rfl, rfl⟩ := h
                have hlen := Nat.eq_of_beq_eq_true hm
                refine run_loadAt (run_loadVar_agg hg (by rw [hs, hlen]) ?_)
                intro j x hj
                rw [add_at]
                have hd := allVs_den (ns := ns) hv
                rw [← hd, List.getElem?_map] at hj
                obtain ⟨y, hy, rfl⟩ := Option.map_eq_some_iff.1 hj
                rw [List.getElem?_take] at hy
                split at hy
                · rw [List.getElem?_drop] at hy
                  exact hI.loc.cell hk hy
                · cases hy
        | false =>
          simp only at h
          cases hc : cs[off]? with
          | none => rw [hc] at h; simp at h
          | some e1 =>
            rw [hc] at h
            simp only [Option.some.injEq, Res.val.injEq] at h
            obtain ⟨rfl, rfl, rfl⟩ := h
            exact run_loadAt (run_loadVar_one hg (hI.loc.cell hk hc))
  | v x =>
    cases x with
    | pointer q =>
      cases q with
      | none => simp at h
      | some p =>
        simp only at h
        cases orc with
        | nil => simp at h
        | cons vs rest =>
          simp only at h
          cases hg : isAggT P T with
          | none => rw [hg] at h; simp at h
          | some b =>
            rw [hg] at h
            cases b with
            | true =>
              simp only at h
              cases hs : szT P T with
              | none => rw [hs] at h; simp at h
              | some m =>
                rw [hs] at h
                simp only at h
                cases hm : Nat.beq vs.length m
                · rw [hm] at h; simp at h
                · rw [hm] at h
                  simp only [cond_true, Option.some.injEq, Res.val.injEq] at h
                  obtain ⟨rfl, rfl, rfl⟩ := h
                  have hlen := Nat.eq_of_beq_eq_true hm
                  obtain ⟨hno, hcell⟩ := hob.1 hp
                  exact run_loadAt (run_loadVar_agg hg (by rw [hs, hlen]) (fun j x hj => hI.loc.base.cell (by rw [add_block]; exact hno) (hcell j x hj)))
            | false =>
              simp only at h
              cases vs with
              | nil => simp at h
              | cons x r =>
                cases r with
                | cons _ _ => simp at h
                | nil =>
                  simp only [Option.some.injEq, Res.val.injEq] at h
                  obtain ⟨rfl, rfl, rfl⟩ := h
                  obtain ⟨hno, hcell⟩ := hob.1 hp
                  have h0 := hcell 0 x rfl
                  have hz : p.add 0 = p := by unfold Addr.add; simp
                  rw [hz] at h0
                  exact run_loadAt (run_loadVar_one hg (hI.loc.base.cell hno h0))
    | _ => simp at h
  | s => simp at h
  | f => simp at h
theorem run_under {P : Program} {T : TypeId} {d : TypeDesc} (h : P.underlying T = some d) (w : World) : (underlying T).run P w = .ok d w := by
  unfold underlying
  simp only [Sem.run_bind]
  have : (program).run P w = .ok P w := rfl
  rw [this]
  simp only [Result.andThen_ok, h]; rfl
theorem evIndex_sound {T : TypeId} {e0 e1 : EV} (hI : Inv w0 own n σ ns a w) (hp : pathB σ.gv g = true) (h : evIndex P σ g orc T e0 e1 = some (.val e obs orc')) (hob : Obs P w0 own obs) :
    (Instr.indexAt T (e0.den ns) (e1.den ns)).run P w = .ok (e.den ns) w := by
  unfold evIndex at h
  split at h
  · rename_i A m c k i
    cases hu : P.underlying T with
    | none => rw [hu] at h; simp at h
    | some d =>
      rw [hu] at h
      cases d with
      | slice E =>
        simp only at h
        cases hs : szT P E with
        | none => rw [hs] at h; simp at h
        | some sz =>
          rw [hs] at h
          simp only [Option.some.injEq, Res.val.injEq] at h
          obtain ⟨rfl, rfl, rfl⟩ := h
          obtain ⟨hb, hA, _⟩ := hob
          have hb := hb hp
          have hA := hA hp
          simp only [EV.den]
          generalize hadr : adr A = ad at *
          rw [hA]
          unfold Instr.indexAt asIntOf
          simp only [Sem.run_bind, Sem.run_pure, Result.andThen_ok, run_under hu w]
          simp [Sem.run_bind, run_sizeOf hs w, run_under hu w, hb.1, hb.2, Sem.run]
      | _ => simp at h
  · rename_i k off m c kk j
    cases hu : P.underlying T with
    | none => rw [hu] at h; simp at h
    | some d =>
      rw [hu] at h
      cases d with
      | slice E =>
        simp only at h
        cases hs : szT P E with
        | none => rw [hs] at h; simp at h
        | some sz =>
          rw [hs] at h
          simp only at h
          cases hm : Nat.blt j m
          · rw [hm] at h; simp at h
          · rw [hm] at h
            simp only [cond_true, Option.some.injEq, Res.val.injEq] at h
            obtain ⟨rfl, rfl, rfl⟩ := h
            have hlt : j < m := by simpa using hm
            simp only [EV.den]
            unfold Instr.indexAt asIntOf
            simp only [Sem.run_bind, Sem.run_pure, Result.andThen_ok, run_under hu w]
            have h0 : (0 : Int) ≤ Int.ofNat j := Int.natCast_nonneg j
            have h1 : (Int.ofNat j : Int) < (m : Int) := Int.ofNat_lt.2 hlt
            simp [Sem.run_bind, run_sizeOf hs w, run_under hu w, h0, h1, Sem.run, add_at, hlt]
      | _ => simp at h
  · rename_i k off kk j
    cases hu : P.underlying T with
    | none => rw [hu] at h; simp at h
    | some d =>
      rw [hu] at h
      cases d with
      | array m E =>
        simp only at h
        cases hs : szT P E with
        | none => rw [hs] at h; simp at h
        | some sz =>
          rw [hs] at h
          simp only at h
          cases hm : Nat.blt j m
          · rw [hm] at h; simp at h
          · rw [hm] at h
            simp only [cond_true, Option.some.injEq, Res.val.injEq] at h
            obtain ⟨rfl, rfl, rfl⟩ := h
            have hlt : j < m := by simpa using hm
            simp only [EV.den]
            unfold Instr.indexAt asIntOf Instr.sureAddr
            simp only [Sem.run_bind, Sem.run_pure, Result.andThen_ok, run_under hu w]
            have h0 : (0 : Int) ≤ Int.ofNat j := Int.natCast_nonneg j
            have h1 : (Int.ofNat j : Int) < (m : Int) := Int.ofNat_lt.2 hlt
            simp [Sem.run_bind, run_sizeOf hs w, run_under hu w, h0, h1, Sem.run, add_at, hlt]
      | _ => simp at h
  · simp at h
end

section
variable {P : Program} {w0 : World} {own : List Nat} {n : Nat} {σ : S} {ns : List Nat} {a : Act} {w : World} {g : Path} {o : Oper} {orc orc' : List (List Value)} {e : EV} {obs : List Ob}
theorem evDiv_sound {b : BinOp} {T : TypeId} {e0 e1 : EV} (hp : pathB σ.gv g = true) (h : evDiv σ g orc b e0 e1 = some (.val e obs orc')) (hob : Obs P w0 own obs) (x y : Operand) :
    (do eqGuard b T x y (e0.den ns) (e1.den ns); binOp b T (e0.den ns) (e1.den ns)).run P w = .ok (e.den ns) w := by
  unfold evDiv at h
  split at h
  · rename_i k u k' v
    cases hk : decide (k = k')
    · rw [hk] at h; simp at h
    · rw [hk] at h
      have hkk : k = k' := by simpa using hk
      subst hkk
      simp only [cond_true] at h
      split at h
      · simp only [Option.some.injEq, Res.val.injEq] at h
        obtain ⟨rfl, rfl, rfl⟩ := h
        have := hob.1 hp
        simp [EV.den, eqGuard, binOp, Op.intDiv, this, Sem.run_bind, Sem.run]
      · simp only [Option.some.injEq, Res.val.injEq] at h
        obtain ⟨rfl, rfl, rfl⟩ := h
        have := hob.1 hp
        simp [EV.den, eqGuard, binOp, Op.intDiv, this, Sem.run_bind, Sem.run]
      · simp at h
  · simp at h
theorem gcOf_path {c : Operand} {cb u : Bool} (hI : Inv w0 own n σ ns a w) (hp : pathB σ.gv g = true) (hc : oEnv σ.env g c = some (.v (.bool cb))) (hu : cb = u) :
    pathB σ.gv (gcOf σ.gi g u c) = true := by
  cases c with
  | tmp t =>
    unfold gcOf
    simp only
    cases hi : gidx σ.gi t with
    | none => exact hp
    | some i =>
      simp only
      obtain ⟨yy, cc, hl, he, hgv⟩ := hI.gi _ (gidx_mem hi)
      simp only at hl hgv
      have : yy.e = .v (.bool cb) := by
        unfold oEnv Eng.opnd at hc
        simp only [hl, Option.map_some] at hc
        cases hb : endOf yy.p g
        · rw [hb] at hc; simp at hc
        · rw [hb] at hc; simpa using hc
      rw [he] at this
      simp only [EV.v.injEq, Value.bool.injEq] at this
      subst this
      rw [pathB_cons, hp, List.getD_eq_getElem?_getD, hgv]
      subst hu
      cases cc <;> rfl
  | _ => exact hp
theorem evPick_sound {c x y : Operand} (hI : Inv w0 own n σ ns a w) (hp : pathB σ.gv g = true) (h : evPick σ g orc c x y = some (.val e obs orc')) :
    a.eval c = .bool true ∧ a.eval x = e.den ns ∨ a.eval c = .bool false ∧ a.eval y = e.den ns := by
  unfold evPick at h
  cases hc : boolOf (oEnv σ.env g c) with
  | none => rw [hc] at h; simp at h
  | some cb =>
    rw [hc] at h
    have hc' := boolOf_eq hc
    have hce := hI.opnd hc' hp
    simp only at h
    cases hx : isTrueC x with
    | true =>
      rw [hx] at h
      simp only at h
      cases hy : boolOf (oEnv σ.env (gcOf σ.gi g false c) y) with
      | none => rw [hy] at h; simp at h
      | some eb =>
        rw [hy] at h
        simp only [Option.some.injEq, Res.val.injEq] at h
        obtain ⟨rfl, rfl, rfl⟩ := h
        have := isTrueC_eq hx
        subst this
        cases cb with
        | true => left; exact ⟨hce, rfl⟩
        | false => right; exact ⟨hce, by rw [hI.opnd (boolOf_eq hy) (gcOf_path hI hp hc' rfl)]; rfl⟩
    | false =>
      cases hy : isFalseC y with
      | false => rw [hx, hy] at h; simp at h
      | true =>
        rw [hx, hy] at h
        simp only at h
        cases hxe : boolOf (oEnv σ.env (gcOf σ.gi g true c) x) with
        | none => rw [hxe] at h; simp at h
        | some eb =>
          rw [hxe] at h
          simp only [Option.some.injEq, Res.val.injEq] at h
          obtain ⟨rfl, rfl, rfl⟩ := h
          have := isFalseC_eq hy
          subst this
          cases cb with
          | true => left; exact ⟨hce, by rw [hI.opnd (boolOf_eq hxe) (gcOf_path hI hp hc' rfl)]; rfl⟩
          | false => right; exact ⟨hce, rfl⟩
theorem foff_sound {T : TypeId} {j d b off : Nat} (h : foff P T j = some d) : (Instr.fieldAt T (.pointer (some ⟨b, off, none⟩)) j).run P w = .ok (.pointer (some ⟨b, off + d, none⟩)) w := by
  unfold foff at h
  cases hu : P.underlying T with
  | none => rw [hu] at h; simp at h
  | some dd =>
    rw [hu] at h
    cases dd with
    | struct fs =>
      simp only at h
      cases hf : fs[j]? with
      | none => rw [hf] at h; simp at h
      | some f =>
        rw [hf] at h
        simp only at h
        cases hs : szT P f.type with
        | none => rw [hs] at h; simp at h
        | some k =>
          rw [hs] at h
          simp only at h
          cases hk : Nat.beq k 0
          · rw [hk] at h
            simp only [cond_false, Option.some.injEq] at h
            subst h
            have hk0 : ¬ k = 0 := fun hh => by subst hh; simp at hk
            unfold Instr.fieldAt Instr.sureAddr fieldPlace
            simp [Sem.run_bind, run_under hu w, hf, Sem.run, run_sizeOf hs w, hk0, add_at]
          · rw [hk] at h; simp at h
    | _ => simp at h
end

section
variable {P : Program} {w0 : World} {own : List Nat} {n : Nat} {σ : S} {ns : List Nat} {a : Act} {w : World} {g : Path} {o : Oper} {orc orc' : List (List Value)} {e : EV} {obs : List Ob}
theorem evD_val {r : Res} (h : evD P σ g orc o = some r) : ∃ x, r = .val (.v x) [] orc := by
  unfold evD at h
  cases hb : (allV σ.env g o.op.operands && notSel o.op)
  · rw [hb] at h; simp at h
  · rw [hb] at h
    simp only [cond_true] at h
    split at h
    · rename_i x _
      simp only [Option.some.injEq] at h
      exact ⟨x, h.symm⟩
    · simp at h
def Res.isVal : Res → Bool
  | .val .. => true
  | _ => false
theorem evPick_isVal {c x y : Operand} {r : Res} (h : evPick σ g orc c x y = some r) : r.isVal = true := by
  unfold evPick at h
  repeat' (split at h)
  all_goals first | (cases h; rfl) | (simp at h)
theorem evLoad_isVal {T : TypeId} {e0 : EV} {r : Res} (h : evLoad P σ g orc T e0 = some r) : r.isVal = true := by
  unfold evLoad at h
  simp only [Bool.cond_eq_ite] at h
  repeat' (split at h)
  all_goals first | (cases h; rfl) | (simp at h)
theorem evIndex_isVal {T : TypeId} {e0 e1 : EV} {r : Res} (h : evIndex P σ g orc T e0 e1 = some r) : r.isVal = true := by
  unfold evIndex at h
  simp only [Bool.cond_eq_ite] at h
  repeat' (split at h)
  all_goals first | (cases h; rfl) | (simp at h)
theorem evDiv_isVal {b : BinOp} {e0 e1 : EV} {r : Res} (h : evDiv σ g orc b e0 e1 = some r) : r.isVal = true := by
  unfold evDiv at h
  simp only [Bool.cond_eq_ite] at h
  repeat' (split at h)
  all_goals first | (cases h; rfl) | (simp at h)
theorem evRun_isVal {r : Res} (h : evRun σ g orc o = some r) : r.isVal = true := by
  unfold evRun at h
  simp only [Bool.cond_eq_ite] at h
  repeat' (split at h)
  all_goals first | (cases h; rfl) | (simp at h)
theorem evRun_sound (hI : Inv w0 own n σ ns a w) (hp : pathB σ.gv g = true) (h : evRun σ g orc o = some (.val e obs orc')) (hob : Obs P w0 own obs) :
    (execOp a.eval o).run P w = .ok (.value (e.den ns)) w := by
  unfold evRun at h
  cases hb : (allV σ.env g o.op.operands && notSel o.op)
  · rw [hb] at h; simp at h
  · rw [hb] at h
    simp only [Bool.and_eq_true] at hb
    obtain ⟨hall, hsel⟩ := hb
    simp only [cond_true] at h
    split at h
    · simp only [Option.some.injEq, Res.val.injEq] at h
      obtain ⟨rfl, rfl, rfl⟩ := h
      rw [execOp_congr (ρ := a.eval) (ρ' := rhoV σ.env g) o (by intro cs b hh; rw [hh] at hsel; simp [notSel] at hsel) ?_]
      · exact hob.1 hp w hI.loc.base
      · intro x hx
        unfold allV at hall
        rw [List.all_eq_true] at hall
        have := hall x (by simpa using hx)
        unfold rhoV
        cases ho : oEnv σ.env g x with
        | none => rw [ho] at this; simp at this
        | some y =>
          rw [ho] at this
          cases y with
          | v u => simp only; rw [hI.opnd ho hp]; rfl
          | p => simp at this
          | s => simp at this
          | f => simp at this
    · cases h
theorem evOp_val (hI : Inv w0 own n σ ns a w) (hp : pathB σ.gv g = true) (h : evOp P σ g orc o = some (.val e obs orc')) (hob : Obs P w0 own obs) :
    (execOp a.eval o).run P w = .ok (.value (e.den ns)) w := by
  have hD : evD P σ g orc o = some (.val e obs orc') → (execOp a.eval o).run P w = .ok (.value (e.den ns)) w := fun h => evD_sound hI hp h
  unfold evOp at h
  split at h
  · rename_i x hop
    cases hx : oEnv σ.env g x with
    | none => rw [hx] at h; simp at h
    | some e1 =>
      rw [hx] at h
      simp only [Option.some.injEq, Res.val.injEq] at h
      obtain ⟨rfl, rfl, rfl⟩ := h
      unfold execOp; rw [hop]; simp only [hI.opnd hx hp]; rfl
  · rename_i x hop
    cases hx : oEnv σ.env g x with
    | none => rw [hx] at h; simp at h
    | some e1 =>
      rw [hx] at h
      simp only [Option.some.injEq, Res.val.injEq] at h
      obtain ⟨rfl, rfl, rfl⟩ := h
      unfold execOp; rw [hop]; simp only [hI.opnd hx hp]; rfl
  · rename_i c x y hop
    unfold execOp; rw [hop]
    rcases evPick_sound hI hp h with ⟨h1, h2⟩ | ⟨h1, h2⟩
    · simp [h1, h2, asBool, Sem.run_bind, Sem.run]
    · simp [h1, h2, asBool, Sem.run_bind, Sem.run]
  · rename_i T x j hop
    split at h
    · rename_i k off hx
      cases hf : foff P T j with
      | none => rw [hf] at h; simp at h
      | some d =>
        rw [hf] at h
        simp only [Option.some.injEq, Res.val.injEq] at h
        obtain ⟨rfl, rfl, rfl⟩ := h
        unfold execOp; rw [hop]
        simp only [hI.opnd hx hp, EV.den, Sem.run_bind, foff_sound hf, Result.andThen_ok]; rfl
    · exact hD h
  · rename_i T x hop
    cases hx : oEnv σ.env g x with
    | none => rw [hx] at h; simp at h
    | some e1 =>
      rw [hx] at h
      simp only at h
      unfold execOp; rw [hop]
      simp only [hI.opnd hx hp, Sem.run_bind, evLoad_sound hI hp h hob, Result.andThen_ok]; rfl
  · rename_i T x i hop
    cases hx : oEnv σ.env g x with
    | none => rw [hx] at h; simp at h
    | some e1 =>
      cases hi : oEnv σ.env g i with
      | none => rw [hx, hi] at h; simp at h
      | some e2 =>
        rw [hx, hi] at h
        simp only at h
        unfold execOp; rw [hop]
        simp only [hI.opnd hx hp, hI.opnd hi hp, Sem.run_bind, evIndex_sound hI hp h hob, Result.andThen_ok]; rfl
  · rename_i x hop
    split at h
    · rename_i k off hx
      simp only [Option.some.injEq, Res.val.injEq] at h
      obtain ⟨rfl, rfl, rfl⟩ := h
      unfold execOp; rw [hop]
      simp only [hI.opnd hx hp, EV.den]; rfl
    · exact hD h
  · rename_i T x y U hop
    cases hx : oEnv σ.env g x with
    | none => rw [hx] at h; simp at h
    | some e1 =>
      cases hi : oEnv σ.env g y with
      | none => rw [hx, hi] at h; simp at h
      | some e2 =>
        rw [hx, hi] at h
        simp only at h
        unfold execOp; rw [hop]
        simp only [hI.opnd hx hp, hI.opnd hi hp, Sem.run_bind]
        have := evDiv_sound (T := T) hp h hob x y (P := P) (w := w) (ns := ns)
        simp only [Sem.run_bind] at this
        rw [this]; rfl
  · rename_i T x y U hop
    cases hx : oEnv σ.env g x with
    | none => rw [hx] at h; simp at h
    | some e1 =>
      cases hi : oEnv σ.env g y with
      | none => rw [hx, hi] at h; simp at h
      | some e2 =>
        rw [hx, hi] at h
        simp only at h
        unfold execOp; rw [hop]
        simp only [hI.opnd hx hp, hI.opnd hi hp, Sem.run_bind]
        have := evDiv_sound (T := T) hp h hob x y (P := P) (w := w) (ns := ns)
        simp only [Sem.run_bind] at this
        rw [this]; rfl
  · -- store
    cases hg : isNil g
    · rw [hg] at h; simp at h
    · rw [hg] at h
      simp only [cond_true] at h
      split at h
      · unfold evStore at h
        repeat' (split at h)
        all_goals first | (simp at h; done) | skip
        rename_i U es m _ _ _
        cases hb : (Nat.beq es.length m && Nat.ble (_ + m) _ && allOne es) <;> rw [hb] at h <;> simp at h
      · simp at h
  · cases hg : isNil g
    · rw [hg] at h; simp at h
    · rw [hg] at h
      simp only [cond_true] at h
      repeat' (split at h)
      all_goals simp at h
  · cases hg : isNil g
    · rw [hg] at h; simp at h
    · rw [hg] at h
      simp only [cond_true] at h
      repeat' (split at h)
      all_goals simp at h
  · exact evRun_sound hI hp h hob
  · exact evRun_sound hI hp h hob
  · exact evRun_sound hI hp h hob
  · simp only [Bool.cond_eq_ite] at h
    split at h
    · exact evRun_sound hI hp h hob
    · exact hD h
  · simp only [Bool.cond_eq_ite] at h
    split at h
    · exact evRun_sound hI hp h hob
    · exact hD h
  · exact hD h
theorem cellsE_den {x : EV} {es : List EV} (h : cellsE x = some es) : (x.den ns).cells = (es.map (EV.den ns)).toArray := by
  unfold cellsE at h
  split at h
  · rename_i cs
    simp only [Option.some.injEq] at h
    subst h
    simp only [EV.den, Value.cells, List.map_map]
    have : (EV.den ns ∘ EV.v) = id := rfl
    rw [this]; simp
  · simp at h
  · rename_i h1 h2
    simp only [Option.some.injEq] at h
    subst h
    cases x with
    | v u => cases u <;> first | rfl | (exact (h1 _ rfl).elim) | (exact (h2 _ rfl).elim)
    | _ => rfl
theorem evOp_new {cs : List EV} {T : TypeId} {sl : Option Nat} (hI : Inv w0 own n σ ns a w) (h : evOp P σ g orc o = some (.new cs T sl)) :
    g = [] ∧ sl = none ∧ (execOp a.eval o).run P w = .ok (.value (.pointer (some ⟨w.heap.size, 0, none⟩))) (w.alloc (.cells (cs.map (EV.den ns)).toArray T)) := by
  have hD : ¬ evD P σ g orc o = some (.new cs T sl) := fun h => by obtain ⟨x, hx⟩ := evD_val h; cases hx
  have hN : isNil g = true → g = [] := fun h => by cases g <;> simp_all [isNil]
  unfold evOp at h
  split at h
  case h_11 T' x hop =>
    cases hg : isNil g
    · rw [hg] at h; simp at h
    · have hgn := hN hg
      rw [hg] at h
      simp only [cond_true] at h
      cases hx : oEnv σ.env g x with
      | none => rw [hx] at h; simp at h
      | some e1 =>
        rw [hx] at h
        simp only at h
        cases hc : cellsE e1 with
        | none => rw [hc] at h; simp at h
        | some es =>
          rw [hc] at h
          simp only [Option.some.injEq, Res.new.injEq] at h
          obtain ⟨rfl, rfl, rfl⟩ := h
          refine ⟨hgn, rfl, ?_⟩
          unfold execOp; rw [hop]
          simp only [hI.opnd hx (by rw [hgn]; rfl), Instr.box, newVar, newRow, newObj, Sem.run_bind, cellsE_den hc]
          rfl
  case h_12 T' hop =>
    cases hg : isNil g
    · rw [hg] at h; simp at h
    · have hgn := hN hg
      rw [hg] at h
      simp only [cond_true] at h
      cases hi : P.info? T' with
      | none => rw [hi] at h; simp at h
      | some i =>
        rw [hi] at h
        simp only at h
        cases hz : i.zero with
        | none => rw [hz] at h; simp at h
        | some z =>
          rw [hz] at h
          simp only [Option.some.injEq, Res.new.injEq] at h
          obtain ⟨rfl, rfl, rfl⟩ := h
          refine ⟨hgn, rfl, ?_⟩
          unfold execOp; rw [hop]
          have hzv : (zeroValue T').run P w = .ok z w := by
            unfold zeroValue typeInfo
            simp only [Sem.run_bind]
            have : (program).run P w = .ok P w := rfl
            rw [this]
            simp [hi, hz, Sem.run]
          simp only [Instr.alloc, newVar, newRow, newObj, Sem.run_bind, hzv, Result.andThen_ok, List.map_map]
          have : (EV.den ns ∘ EV.v) = id := rfl
          rw [this, List.map_id]; rfl
  all_goals (exfalso; revert h)
  · split <;> simp
  · split <;> simp
  · intro h; have := evPick_isVal h; simp [Res.isVal] at this
  · split
    · split <;> simp
    · exact hD
  · split
    · intro h; have := evLoad_isVal h; simp [Res.isVal] at this
    · simp
  · split
    · intro h; have := evIndex_isVal h; simp [Res.isVal] at this
    · simp
  · split
    · simp
    · exact hD
  · split
    · intro h; have := evDiv_isVal h; simp [Res.isVal] at this
    · simp
  · split
    · intro h; have := evDiv_isVal h; simp [Res.isVal] at this
    · simp
  · cases isNil g
    · simp
    · simp only [cond_true]
      split
      · unfold evStore
        simp only [Bool.cond_eq_ite]
        repeat' split
        all_goals simp
      · simp
  · intro h; have := evRun_isVal h; simp [Res.isVal] at this
  · intro h; have := evRun_isVal h; simp [Res.isVal] at this
  · intro h; have := evRun_isVal h; simp [Res.isVal] at this
  · simp only [Bool.cond_eq_ite]
    split
    · intro h; have := evRun_isVal h; simp [Res.isVal] at this
    · exact hD
  · simp only [Bool.cond_eq_ite]
    split
    · intro h; have := evRun_isVal h; simp [Res.isVal] at this
    · exact hD
  · exact hD
theorem evOp_upd {k : Nat} {cs : List EV} {T : TypeId} (hI : Inv w0 own n σ ns a w) (h : evOp P σ g orc o = some (.upd k cs T)) :
    g = [] ∧ ∃ w', (execOp a.eval o).run P w = .ok .skip w' ∧ Loc w0 own ns (σ.bs.set k (cs, T)) w' := by
  have hD : ¬ evD P σ g orc o = some (.upd k cs T) := fun h => by obtain ⟨x, hx⟩ := evD_val h; cases hx
  have hN : isNil g = true → g = [] := fun h => by cases g <;> simp_all [isNil]
  unfold evOp at h
  split at h
  case h_10 T' x y hop =>
    cases hg : isNil g
    · rw [hg] at h; simp at h
    · have hgn := hN hg
      rw [hg] at h
      simp only [cond_true] at h
      cases hx : oEnv σ.env g x with
      | none => rw [hx] at h; simp at h
      | some ex =>
        cases hy : oEnv σ.env g y with
        | none => rw [hx, hy] at h; simp at h
        | some ey =>
          rw [hx, hy] at h
          simp only at h
          unfold evStore at h
          cases ex with
          | p k' off =>
            simp only at h
            cases hk : σ.bs[k']? with
            | none => rw [hk] at h; simp at h
            | some ct =>
              obtain ⟨cs0, U⟩ := ct
              cases hce : cellsE ey with
              | none => rw [hk, hce] at h; simp at h
              | some es =>
                cases hsz : szT P T' with
                | none => rw [hk, hce, hsz] at h; simp at h
                | some m =>
                  rw [hk, hce, hsz] at h
                  simp only at h
                  cases hb : (Nat.beq es.length m && Nat.ble (off + m) cs0.length && allOne es)
                  · rw [hb] at h; simp at h
                  · rw [hb] at h
                    simp only [cond_true, Option.some.injEq, Res.upd.injEq] at h
                    obtain ⟨rfl, rfl, rfl⟩ := h
                    simp only [Bool.and_eq_true] at hb
                    obtain ⟨⟨hb1, hb2⟩, hb3⟩ := hb
                    have hm := Nat.eq_of_beq_eq_true hb1
                    have hle := Nat.le_of_ble_eq_true hb2
                    have hone : ∀ e ∈ es, e.oneCell = true := by simpa [allOne, List.all_eq_true] using hb3
                    obtain ⟨w', hrun, hL, _⟩ := Loc.storeCells (P := P) es hone σ.bs w k' cs0 U off 0 hI.loc hk (by omega)
                    refine ⟨hgn, w', ?_, by simpa using hL⟩
                    have hpn : pathB σ.gv g = true := by rw [hgn]; rfl
                    unfold execOp; rw [hop]
                    have hcd := cellsE_den (ns := ns) hce
                    have hpx : EV.den ns (EV.p k' off) = .pointer (some ⟨ns.getD k' 0, off, none⟩) := rfl
                    simp only [hI.opnd hx hpn, hI.opnd hy hpn, hpx, Instr.storeAt, Instr.sureAddr, storeVar, Sem.run_bind, Sem.run_pure, Result.andThen_ok, run_sizeOf hsz w, hcd, List.size_toArray, List.length_map, hm, ne_eq, not_true, if_false]
                    rw [hrun]
                    rfl
          | _ => simp at h
  all_goals (exfalso; revert h)
  · split <;> simp
  · split <;> simp
  · intro h; have := evPick_isVal h; simp [Res.isVal] at this
  · split
    · split <;> simp
    · exact hD
  · split
    · intro h; have := evLoad_isVal h; simp [Res.isVal] at this
    · simp
  · split
    · intro h; have := evIndex_isVal h; simp [Res.isVal] at this
    · simp
  · split
    · simp
    · exact hD
  · split
    · intro h; have := evDiv_isVal h; simp [Res.isVal] at this
    · simp
  · split
    · intro h; have := evDiv_isVal h; simp [Res.isVal] at this
    · simp
  · cases isNil g
    · simp
    · simp only [cond_true]
      repeat' split
      all_goals simp
  · cases isNil g
    · simp
    · simp only [cond_true]
      repeat' split
      all_goals simp
  · intro h; have := evRun_isVal h; simp [Res.isVal] at this
  · intro h; have := evRun_isVal h; simp [Res.isVal] at this
  · intro h; have := evRun_isVal h; simp [Res.isVal] at this
  · simp only [Bool.cond_eq_ite]
    split
    · intro h; have := evRun_isVal h; simp [Res.isVal] at this
    · exact hD
  · simp only [Bool.cond_eq_ite]
    split
    · intro h; have := evRun_isVal h; simp [Res.isVal] at this
    · exact hD
  · exact hD
end

/-! ### one operation of a region, its guard with it -/
def isBool : EV → Option Bool
  | .v (.bool b) => some b
  | _ => none
theorem isBool_eq {e : EV} {b : Bool} (h : isBool e = some b) : e = .v (.bool b) := by
  unfold isBool at h; split at h <;> simp_all
/-- the path of an operation, and the state with the guard's Bool at hand -/
def guardOf (ops : Array Oper) (σ : S) (gd : Option (Nat × Bool)) : Option (S × Path) :=
  match gd with
  | none => some (σ, [])
  | some (j, want) =>
    match ops[j]? with
    | some oj =>
      match oj.dst with
      | some d =>
        match look σ.env d with
        | some y =>
          match isBool y.e with
          | some c =>
            match gidx σ.gi d with
            | some i => some (σ, (i, want) :: y.p)
            | none => some ({ σ with gv := σ.gv ++ [c], gi := (d, σ.gv.length) :: σ.gi }, (σ.gv.length, want) :: y.p)
          | none => none
        | none => none
      | none => none
    | none => none
def put1 (σ : S) (n : Nat) (dst : Option Tmp) (p : Path) (e : Option EV) : Option S :=
  match dst with
  | none => some σ
  | some d =>
    bif Nat.blt d n then
      match e with
      | some e => bif e.wf σ.bs.length then some { σ with env := ⟨d, p, e⟩ :: drop σ.env d, gi := σ.gi.filter fun x => !Nat.beq x.1 d } else none
      | none => some { σ with env := drop σ.env d, gi := σ.gi.filter fun x => !Nat.beq x.1 d }
    else none
/-! ### static calls -/
def evArgs (env : List Ent) (g : Path) : List Operand → Option (List EV)
  | [] => some []
  | x :: r => match oEnv env g x, evArgs env g r with | some e, some l => some (e :: l) | _, _ => none
def sumE : Sum Value (Nat × Nat) → EV
  | .inl u => .v u
  | .inr (k, off) => .p k off
/-- what a static call (of a Go function) comes to -/
def callOf (σ : S) (g : Path) (o : Oper) : Option (FuncId × List EV) :=
  match o.op with
  | .call { callee := .value x, args := xs, .. } =>
    match oEnv σ.env g x, evArgs σ.env g xs.toList with
    | some (.v (.func (.func f) first cap)), some es => some (f, first.toList.map .v ++ es ++ cap.toList.map .v)
    | some (.f (.func f) first cap), some es => some (f, first.map sumE ++ es ++ cap.map sumE)
    | _, _ => none
  | _ => none
def stepC (σ1 : S) (g : Path) (n : Nat) (orc : List (List Value)) (o : Oper) (f : FuncId) (es : List EV) : Option (S × List Ob × List (List Value)) :=
  match allVs es, orc with
  | some args, [v] :: orc' => match put1 σ1 n o.dst g (some (.v v)) with | some σ2 => some (σ2, [.call (pathB σ1.gv g) f args v], orc') | none => none
  | _, _ => none
def step1 (P : Program) (ops : Array Oper) (n : Nat) (σ : S) (orc : List (List Value)) (o : Oper) : Option (S × List Ob × List (List Value)) :=
  match guardOf ops σ o.guard with
  | none => none
  | some (σ1, g) =>
    match callOf σ1 g o with
    | some (f, es) => stepC σ1 g n orc o f es
    | none =>
    match evOp P σ1 g orc o with
    | some (.val e obs orc') => match put1 σ1 n o.dst g (some e) with | some σ2 => some (σ2, obs, orc') | none => none
    | some (.new cs T none) =>
      bif cs.all (EV.wf σ1.bs.length) then
        match put1 { σ1 with bs := σ1.bs ++ [(cs, T)] } n o.dst g (some (.p σ1.bs.length 0)) with | some σ2 => some (σ2, [], orc) | none => none
      else none
    | some (.upd k cs T) =>
      bif cs.all (EV.wf σ1.bs.length) then
        match put1 { σ1 with bs := σ1.bs.set k (cs, T) } n o.dst g none with | some σ2 => some (σ2, [], orc) | none => none
      else none
    | _ => none

def gdB (ops : Array Oper) (a : Act) : Option (Nat × Bool) → Bool
  | none => true
  | some (j, want) => yielded ops a.tmps j == some want
section
variable {P : Program} {w0 : World} {own : List Nat} {n : Nat} {σ σ1 : S} {ns : List Nat} {a : Act} {w : World} {g : Path} {o : Oper} {orc orc' : List (List Value)} {e : EV} {obs : List Ob} {ops : Array Oper}
theorem guardOf_sound (hI : Inv w0 own n σ ns a w) {gd : Option (Nat × Bool)} (h : guardOf ops σ gd = some (σ1, g)) :
    Inv w0 own n σ1 ns a w ∧ pathWf σ1.gv.length g ∧ gdB ops a gd = pathB σ1.gv g := by
  unfold gdB
  unfold guardOf at h
  cases gd with
  | none =>
    simp only [Option.some.injEq, Prod.mk.injEq] at h
    obtain ⟨rfl, rfl⟩ := h
    exact ⟨hI, fun x hx => by simp at hx, rfl⟩
  | some jw =>
    obtain ⟨j, want⟩ := jw
    simp only at h
    cases hj : ops[j]? with
    | none => rw [hj] at h; simp at h
    | some oj =>
      rw [hj] at h
      simp only at h
      cases hd : oj.dst with
      | none => rw [hd] at h; simp at h
      | some d =>
        rw [hd] at h
        simp only at h
        cases hl : look σ.env d with
        | none => rw [hl] at h; simp at h
        | some y =>
          rw [hl] at h
          simp only at h
          cases hb : isBool y.e with
          | none => rw [hb] at h; simp at h
          | some c =>
            rw [hb] at h
            simp only at h
            have hye := isBool_eq hb
            have hm := look_mem hl
            have henv := hI.env y hm.1
            rw [hm.2, hye] at henv
            have hy : yielded ops a.tmps j = (bif pathB σ.gv y.p then some c else none) := by
              unfold yielded
              simp only [hj, Option.bind_some, hd, henv]
              cases pathB σ.gv y.p <;> rfl
            have hval : ∀ gv i, pathB gv y.p = pathB σ.gv y.p → gv[i]? = some c → (yielded ops a.tmps j == some want) = pathB gv ((i, want) :: y.p) := by
              intro gv i hgp hgi
              rw [hy, pathB_cons, hgp, List.getD_eq_getElem?_getD, hgi]
              cases pathB σ.gv y.p <;> cases c <;> cases want <;> rfl
            cases hi : gidx σ.gi d with
            | some i =>
              rw [hi] at h
              simp only [Option.some.injEq, Prod.mk.injEq] at h
              obtain ⟨rfl, rfl⟩ := h
              obtain ⟨y', c', hl', he', hg'⟩ := hI.gi _ (gidx_mem hi)
              simp only at hl' hg'
              rw [hl] at hl'
              simp only [Option.some.injEq] at hl'
              subst hl'
              rw [hye] at he'
              simp only [EV.v.injEq, Value.bool.injEq] at he'
              subst he'
              have hil := (List.getElem?_eq_some_iff.1 hg').1
              refine ⟨hI, ?_, hval _ _ rfl hg'⟩
              intro x hx
              simp only [List.mem_cons] at hx
              rcases hx with rfl | hx
              · exact hil
              · exact (hI.ewf y hm.1).2 x hx
            | none =>
              rw [hi] at h
              simp only [Option.some.injEq, Prod.mk.injEq] at h
              obtain ⟨rfl, rfl⟩ := h
              have happ : ∀ x ∈ σ.env, pathB (σ.gv ++ [c]) x.p = pathB σ.gv x.p := fun x hx => pathB_append _ _ _ (hI.ewf x hx).2
              refine ⟨⟨hI.size, hI.defers, fun x hx => ?_, fun x hx => ⟨(hI.ewf x hx).1, fun z hz => ?_⟩, hI.bwf, ?_, hI.loc⟩, ?_, ?_⟩
              · rw [happ x hx]; exact hI.env x hx
              · have := (hI.ewf x hx).2 z hz
                simp only [List.length_append, List.length_singleton]; omega
              · intro x hx
                simp only [List.mem_cons] at hx
                rcases hx with rfl | hx
                · exact ⟨y, c, hl, hye, by simp⟩
                · obtain ⟨y', c', h1, h2, h3⟩ := hI.gi x hx
                  exact ⟨y', c', h1, h2, by rw [List.getElem?_append_left (List.getElem?_eq_some_iff.1 h3).1]; exact h3⟩
              · intro x hx
                simp only [List.mem_cons] at hx
                simp only [List.length_append, List.length_singleton]
                rcases hx with rfl | hx
                · simp
                · have := (hI.ewf y hm.1).2 x hx; omega
              · exact hval _ _ (happ y hm.1) (by simp)
theorem look_drop {env : List Ent} {d t : Nat} (h : t ≠ d) : look (drop env d) t = look env t := by
  induction env with
  | nil => rfl
  | cons x r ih =>
    unfold drop at *
    rw [List.filter_cons]
    cases hb : Nat.beq x.t d
    · simp only [Bool.not_false, if_true, look, ih]
    · have hx := Nat.eq_of_beq_eq_true hb
      simp only [Bool.not_true, Bool.false_eq_true, if_false]
      rw [ih]
      simp only [look]
      have : Nat.beq x.t t = false := by
        cases hh : Nat.beq x.t t
        · rfl
        · exact absurd ((Nat.eq_of_beq_eq_true hh).symm.trans hx) h
      rw [this]; rfl
theorem put1_sound (hI : Inv w0 own n σ ns a w) (hg : pathWf σ.gv.length g) {dst : Option Tmp} {e : Option EV} {v : Value} {σ2 : S} (h : put1 σ n dst g e = some σ2)
    (hv : ∀ x, e = some x → v = gvv (pathB σ.gv g) (x.den ns)) : Inv w0 own n σ2 ns (a.put dst v) w := by
  unfold put1 at h
  cases dst with
  | none => simp only [Option.some.injEq] at h; subst h; exact hI
  | some d =>
    simp only at h
    cases hdn : Nat.blt d n
    · rw [hdn] at h; simp at h
    · rw [hdn] at h
      have hlt : d < n := by simpa using hdn
      simp only [cond_true] at h
      have hput : ∀ t, (a.put (some d) v).tmps[t]? = if t = d then some v else a.tmps[t]? := by
        intro t
        simp only [Act.put, Array.getElem?_setIfInBounds]
        by_cases ht : d = t
        · subst ht; simp [hI.size, hlt]
        · rw [if_neg ht, if_neg (Ne.symm ht)]
      have hsz : (a.put (some d) v).tmps.size = n := by simp [Act.put, hI.size]
      have hdrop : ∀ x ∈ drop σ.env d, x ∈ σ.env ∧ x.t ≠ d := by
        intro x hx
        unfold drop at hx
        rw [List.mem_filter] at hx
        exact ⟨hx.1, fun hh => by subst hh; simp at hx⟩
      have hgi : ∀ (env' : List Ent), (∀ t, t ≠ d → look env' t = look σ.env t) → ∀ x ∈ σ.gi.filter (fun x => !Nat.beq x.1 d), ∃ y c, look env' x.1 = some y ∧ y.e = .v (.bool c) ∧ σ.gv[x.2]? = some c := by
        intro env' hlk x hx
        rw [List.mem_filter] at hx
        obtain ⟨y, c, h1, h2, h3⟩ := hI.gi x hx.1
        exact ⟨y, c, by rw [hlk _ (fun hh => by rw [hh] at hx; simp at hx)]; exact h1, h2, h3⟩
      cases e with
      | none =>
        simp only [Option.some.injEq] at h
        subst h
        refine ⟨hsz, hI.defers, fun x hx => ?_, fun x hx => hI.ewf x (hdrop x hx).1, hI.bwf, hgi _ (fun t ht => look_drop ht), hI.loc⟩
        rw [hput, if_neg (hdrop x hx).2]; exact hI.env x (hdrop x hx).1
      | some x0 =>
        simp only at h
        cases hwf : x0.wf σ.bs.length
        · rw [hwf] at h; simp at h
        · rw [hwf] at h
          simp only [cond_true, Option.some.injEq] at h
          subst h
          refine ⟨hsz, hI.defers, fun x hx => ?_, fun x hx => ?_, hI.bwf, hgi _ (fun t ht => ?_), hI.loc⟩
          · simp only [List.mem_cons] at hx
            rcases hx with rfl | hx
            · rw [hput, if_pos rfl, hv x0 rfl]
            · rw [hput, if_neg (hdrop x hx).2]; exact hI.env x (hdrop x hx).1
          · simp only [List.mem_cons] at hx
            rcases hx with rfl | hx
            · exact ⟨hwf, hg⟩
            · exact hI.ewf x (hdrop x hx).1
          · simp only [look]
            have : Nat.beq d t = false := by
              cases hh : Nat.beq d t
              · rfl
              · exact absurd (Nat.eq_of_beq_eq_true hh).symm ht
            rw [this]
            exact look_drop ht
end

section
variable {F : Fence} {m : Nat} {P : Program} {w0 : World} {own : List Nat} {n : Nat} {σ σ2 : S} {ns : List Nat} {a : Act} {w : World} {o : Oper} {orc orc' : List (List Value)} {obs : List Ob} {ops : Array Oper}
  {Q : Exit → Act → World → Prop} {rest : List Oper}
theorem evArgs_eval {g : Path} (hI : Inv w0 own n σ ns a w) (hp : pathB σ.gv g = true) : ∀ {xs : List Operand} {es : List EV}, evArgs σ.env g xs = some es → xs.map a.eval = es.map (EV.den ns)
  | [], es, h => by simp only [evArgs, Option.some.injEq] at h; subst h; rfl
  | x :: r, es, h => by
    simp only [evArgs] at h
    cases hx : oEnv σ.env g x with
    | none => rw [hx] at h; simp at h
    | some e =>
      cases hr : evArgs σ.env g r with
      | none => rw [hx, hr] at h; simp at h
      | some l =>
        rw [hx, hr] at h
        simp only [Option.some.injEq] at h
        subst h
        simp [hI.opnd hx hp, evArgs_eval hI hp hr]
theorem map_den_v (l : List Value) : (l.map EV.v).map (EV.den ns) = l := by
  rw [List.map_map]; have : (EV.den ns ∘ EV.v) = id := rfl
  rw [this, List.map_id]
theorem map_den_sum (l : List (Sum Value (Nat × Nat))) : (l.map sumE).map (EV.den ns) = l.map (den1 ns) := by
  rw [List.map_map]
  apply List.map_congr_left
  intro y _
  cases y with
  | inl => rfl
  | inr p => rfl
theorem callOf_run {g : Path} {f : FuncId} {es : List EV} (hI : Inv w0 own n σ ns a w) (hp : pathB σ.gv g = true) (h : callOf σ g o = some (f, es))
    (hent : ∀ args w, (callFunc f args).run P w = .ok (.enter f args) w) :
    (∀ c, o.op ≠ .defer c) ∧ (execOp a.eval o).run P w = .ok (.enter f (es.map (EV.den ns)).toArray) w := by
  unfold callOf at h
  split at h
  · rename_i x xs ats hop
    refine ⟨(fun c hc => by rw [hop] at hc; cases hc), ?_⟩
    split at h
    · rename_i f' first cap es' hx hes
      simp only [Option.some.injEq, Prod.mk.injEq] at h
      obtain ⟨rfl, rfl⟩ := h
      unfold execOp; rw [hop]
      simp only [resolve, Deferred.ofValue, hI.opnd hx hp, EV.den, Sem.run_bind, Sem.run_pure, Result.andThen_ok, invoke]
      rw [hent]
      have := evArgs_eval hI hp hes
      simp only [List.map_append, map_den_v]
      congr 2
      apply Array.ext'
      simp [← this]
    · rename_i f' first cap es' hx hes
      simp only [Option.some.injEq, Prod.mk.injEq] at h
      obtain ⟨rfl, rfl⟩ := h
      unfold execOp; rw [hop]
      simp only [resolve, Deferred.ofValue, hI.opnd hx hp, EV.den, Sem.run_bind, Sem.run_pure, Result.andThen_ok, invoke]
      rw [hent]
      have := evArgs_eval hI hp hes
      simp only [List.map_append, map_den_sum]
      congr 2
      apply Array.ext'
      simp [← this]
    · simp at h
  · simp at h
theorem Loc.below {bs : List (List EV × TypeId)} (h : Loc w0 own ns bs w) {w1 : World} (hb : Below w.heap.size w w1) : Loc w0 own ns bs w1 :=
  ⟨h.len, h.nodup, h.base.trans_below hb, h.ge, fun k cs T hk => by
    have hl : ns.getD k 0 ∈ ns := h.mem (List.getElem?_eq_some_iff.1 hk).1
    rw [hb.block _ (h.lt hl)]; exact h.blk k cs T hk⟩
theorem Inv.below (hI : Inv w0 own n σ ns a w) {w1 : World} (hb : Below w.heap.size w w1) : Inv w0 own n σ ns a w1 :=
  ⟨hI.size, hI.defers, hI.env, hI.ewf, hI.bwf, hI.gi, hI.loc.below hb⟩
/-- the fences under which the walks go: all is let in. -/
def FOpen (F : Fence) : Prop := F = Fence.wide ∨ ∃ l, F = Fence.wide.inRound l
theorem FOpen.fn {F : Fence} (h : FOpen F) (f : FuncId) : F.fn f := by rcases h with rfl | ⟨l, rfl⟩ <;> trivial
theorem FOpen.depth {F : Fence} (h : FOpen F) : F.depth = none := by rcases h with rfl | ⟨l, rfl⟩ <;> rfl
theorem FOpen.calls {F : Fence} (h : FOpen F) {k : Nat} {f : FuncId} {args : Array Value} {R : Ending → World → Prop} (hc : Calls P f args w R) : CallsIn F k P f args w R := by
  rcases h with rfl | ⟨l, rfl⟩
  · exact callsIn_wide.2 hc
  · exact CallsIn.inRound l (callsIn_wide.2 hc)
end

section
variable {F : Fence} {m : Nat} {P : Program} {w0 : World} {own : List Nat} {n : Nat} {σ σ2 : S} {ns : List Nat} {a : Act} {w : World} {o : Oper} {orc orc' : List (List Value)} {obs : List Ob} {ops : Array Oper}
  {Q : Exit → Act → World → Prop} {rest : List Oper}
theorem Inv.alloc (hI : Inv w0 own n σ ns a w) (cs : List EV) (T : TypeId) (hc : ∀ e ∈ cs, EV.wf σ.bs.length e = true) :
    Inv w0 own n { σ with bs := σ.bs ++ [(cs, T)] } (ns ++ [w.heap.size]) a (w.alloc (.cells (cs.map (EV.den ns)).toArray T)) := by
  have hl : ns.length = σ.bs.length := hI.loc.len
  have hmono : ∀ {e : EV}, e.wf σ.bs.length = true → e.wf (σ.bs ++ [(cs, T)]).length = true := by
    intro e he
    have hk : ∀ k, Nat.blt k σ.bs.length = true → Nat.blt k (σ.bs ++ [(cs, T)]).length = true := by
      intro k hk
      have : k < σ.bs.length := by simpa using hk
      simp; omega
    cases e with
    | v => rfl
    | p k off => exact hk _ he
    | s k off n c => exact hk _ he
    | f fn x y =>
      simp only [EV.wf, Bool.and_eq_true, List.all_eq_true] at he ⊢
      constructor
      · intro z hz; have := he.1 z hz; cases z with | inl => rfl | inr q => exact hk _ this
      · intro z hz; have := he.2 z hz; cases z with | inl => rfl | inr q => exact hk _ this
  refine ⟨hI.size, hI.defers, fun x hx => ?_, fun x hx => ⟨hmono (hI.ewf x hx).1, (hI.ewf x hx).2⟩, fun x hx e he => ?_, hI.gi, ?_⟩
  · rw [EV.den_append (by rw [hl]; exact (hI.ewf x hx).1)]; exact hI.env x hx
  · simp only [List.mem_append, List.mem_singleton] at hx
    rcases hx with hx | rfl
    · exact hmono (hI.bwf x hx e he)
    · exact hmono (hc e he)
  · exact hI.loc.alloc (fun x hx e he => by rw [hl]; exact hI.bwf x hx e he) cs T (fun e he => by rw [hl]; exact hc e he)
theorem Inv.upd (hI : Inv w0 own n σ ns a w) {k : Nat} {cs : List EV} {T : TypeId} {w' : World} (hc : ∀ e ∈ cs, EV.wf σ.bs.length e = true) (hL : Loc w0 own ns (σ.bs.set k (cs, T)) w') :
    Inv w0 own n { σ with bs := σ.bs.set k (cs, T) } ns a w' :=
  ⟨hI.size, hI.defers, hI.env, fun x hx => by simpa using hI.ewf x hx, fun x hx e he => by
    have := List.mem_or_eq_of_mem_set hx
    simp only [List.length_set]
    rcases this with h | rfl
    · exact hI.bwf x h e he
    · exact hc e he, hI.gi, hL⟩
theorem step1_sound (hF : FOpen F) (hI : Inv w0 own n σ ns a w) (h : step1 P ops n σ orc o = some (σ2, obs, orc')) (hob : Obs P w0 own obs)
    (K : ∀ ns' a' w', Inv w0 own n σ2 ns' a' w' → ns <+: ns' → wpListIn F m P ops Q rest a' w') : wpListIn F m P ops Q (o :: rest) a w := by
  unfold step1 at h
  cases hgd : guardOf ops σ o.guard with
  | none => rw [hgd] at h; simp at h
  | some sg =>
    obtain ⟨σ1, g⟩ := sg
    rw [hgd] at h
    simp only at h
    obtain ⟨hI1, hgw, hwant⟩ := guardOf_sound hI hgd
    have hw : Region.wanted o (yielded ops a.tmps) = pathB σ1.gv g := by
      rw [← hwant]; unfold Region.wanted gdB; cases o.guard <;> rfl
    have hnd : ∀ r, evOp P σ1 g orc o = some r → ∀ c, o.op ≠ .defer c := by
      intro r hr c hc
      unfold evOp at hr
      rw [hc] at hr
      simp only at hr
      unfold evD at hr
      rw [hc] at hr
      simp [notSel] at hr
    cases hco : callOf σ1 g o with
    | some fe =>
      obtain ⟨f, es⟩ := fe
      rw [hco] at h
      simp only at h
      unfold stepC at h
      split at h
      · rename_i args v orc1 hargs
        cases hp : put1 σ1 n o.dst g (some (.v v)) with
        | none => rw [hp] at h; simp at h
        | some σ3 =>
          rw [hp] at h
          simp only [Option.some.injEq, Prod.mk.injEq] at h
          obtain ⟨rfl, rfl, rfl⟩ := h
          unfold wpListIn
          rw [hw]
          cases hb : pathB σ1.gv g with
          | true =>
            obtain ⟨hent, hcall⟩ := hob.1 hb
            simp only [if_true]
            obtain ⟨hnd, hrun⟩ := callOf_run hI1 hb hco hent
            refine ⟨fun f _ => hF.fn f, ?_⟩
            rw [Oper.semAt_plain F _ _ hnd, hrun, Oper.uponIn_enter]
            refine ⟨fun hd => by rw [hF.depth] at hd; simp at hd, ?_⟩
            rw [allVs_den hargs]
            refine (hF.calls (hcall w hI.loc.base)).mono ?_
            rintro e w1 ⟨rfl, hbl⟩
            exact K _ _ _ (put1_sound (hI1.below hbl) hgw hp (fun x hx => by simp only [Option.some.injEq] at hx; subst hx; rw [hb]; rfl)) (List.prefix_refl _)
          | false =>
            simp only [Bool.false_eq_true, if_false]
            exact ⟨fun f _ => hF.fn f, K _ _ _ (put1_sound hI1 hgw hp (fun x hx => by rw [hb]; rfl)) (List.prefix_refl _)⟩
      · simp at h
    | none =>
    rw [hco] at h
    simp only at h
    cases he : evOp P σ1 g orc o with
    | none => rw [he] at h; simp at h
    | some r =>
      have hsem : o.semAt F.round a.eval = execOp a.eval o := Oper.semAt_plain F _ _ (hnd r he)
      rw [he] at h
      unfold wpListIn
      rw [hw]
      cases r with
      | val e obs1 orc1 =>
        simp only at h
        cases hp : put1 σ1 n o.dst g (some e) with
        | none => rw [hp] at h; simp at h
        | some σ3 =>
          rw [hp] at h
          simp only [Option.some.injEq, Prod.mk.injEq] at h
          obtain ⟨rfl, rfl, rfl⟩ := h
          cases hb : pathB σ1.gv g with
          | true =>
            simp only [if_true]
            refine ⟨fun f _ => hF.fn f, ?_⟩
            rw [hsem, evOp_val hI1 hb he hob]
            exact K _ _ _ (put1_sound hI1 hgw hp (fun x hx => by simp only [Option.some.injEq] at hx; subst hx; rw [hb]; rfl)) (List.prefix_refl _)
          | false =>
            simp only [Bool.false_eq_true, if_false]
            exact ⟨fun f _ => hF.fn f, K _ _ _ (put1_sound hI1 hgw hp (fun x hx => by rw [hb]; rfl)) (List.prefix_refl _)⟩
      | new cs T sl =>
        cases sl with
        | some _ => simp at h
        | none =>
          simp only at h
          cases hall : cs.all (EV.wf σ1.bs.length)
          · rw [hall] at h; simp at h
          · rw [hall] at h
            simp only [cond_true] at h
            cases hp : put1 { σ1 with bs := σ1.bs ++ [(cs, T)] } n o.dst g (some (.p σ1.bs.length 0)) with
            | none => rw [hp] at h; simp at h
            | some σ3 =>
              rw [hp] at h
              simp only [Option.some.injEq, Prod.mk.injEq] at h
              obtain ⟨rfl, rfl, rfl⟩ := h
              obtain ⟨rfl, _, hrun⟩ := evOp_new hI1 he
              simp only [pathB, if_true]
              refine ⟨fun f _ => hF.fn f, ?_⟩
              rw [hsem, hrun]
              have hI2 := hI1.alloc cs T (by simpa [List.all_eq_true] using hall)
              refine K _ _ _ (put1_sound hI2 hgw hp (fun x hx => ?_)) (List.prefix_append _ _)
              simp only [Option.some.injEq] at hx
              subst hx
              simp only [pathB, gvv, cond_true, EV.den]
              rw [← hI1.loc.len]
              simp [List.getD_eq_getElem?_getD]
      | upd k cs T =>
        simp only at h
        cases hall : cs.all (EV.wf σ1.bs.length)
        · rw [hall] at h; simp at h
        · rw [hall] at h
          simp only [cond_true] at h
          cases hp : put1 { σ1 with bs := σ1.bs.set k (cs, T) } n o.dst g none with
          | none => rw [hp] at h; simp at h
          | some σ3 =>
            rw [hp] at h
            simp only [Option.some.injEq, Prod.mk.injEq] at h
            obtain ⟨rfl, rfl, rfl⟩ := h
            obtain ⟨rfl, w', hrun, hL⟩ := evOp_upd hI1 he
            simp only [pathB, if_true]
            refine ⟨fun f _ => hF.fn f, ?_⟩
            rw [hsem, hrun]
            exact K _ _ _ (put1_sound (hI1.upd (by simpa [List.all_eq_true] using hall) hL) hgw hp (fun x hx => by cases hx)) (List.prefix_refl _)
/-- as many operations as 'k' says. -/
def steps (P : Program) (ops : Array Oper) (n : Nat) : Nat → List Oper → S → List (List Value) → Option (S × List Ob × List (List Value))
  | 0, _, σ, orc => some (σ, [], orc)
  | k + 1, o :: l, σ, orc =>
    match step1 P ops n σ orc o with
    | some (σ1, obs, orc1) => match steps P ops n k l σ1 orc1 with | some (σ2, obs2, orc2) => some (σ2, obs ++ obs2, orc2) | none => none
    | none => none
  | _, _, _, _ => none
theorem steps_sound (hF : FOpen F) (k : Nat) : ∀ (l : List Oper) (σ σ2 : S) (orc orc' : List (List Value)) (obs : List Ob) (ns : List Nat) (a : Act) (w : World), Inv w0 own n σ ns a w →
    steps P ops n k l σ orc = some (σ2, obs, orc') → Obs P w0 own obs → (∀ ns' a' w', Inv w0 own n σ2 ns' a' w' → ns <+: ns' → wpListIn F m P ops Q (l.drop k) a' w') → wpListIn F m P ops Q l a w := by
  induction k with
  | zero =>
    intro l σ σ2 orc orc' obs ns a w hI h hob K
    simp only [steps, Option.some.injEq, Prod.mk.injEq] at h
    obtain ⟨rfl, rfl, rfl⟩ := h
    exact K _ _ _ hI (List.prefix_refl _)
  | succ k ih =>
    intro l σ σ2 orc orc' obs ns a w hI h hob K
    cases l with
    | nil => simp [steps] at h
    | cons o l =>
      simp only [steps] at h
      cases h1 : step1 P ops n σ orc o with
      | none => rw [h1] at h; simp at h
      | some r =>
        obtain ⟨σ1, obs1, orc1⟩ := r
        rw [h1] at h
        simp only at h
        cases h2 : steps P ops n k l σ1 orc1 with
        | none => rw [h2] at h; simp at h
        | some r2 =>
          obtain ⟨σ3, obs3, orc3⟩ := r2
          rw [h2] at h
          simp only [Option.some.injEq, Prod.mk.injEq] at h
          obtain ⟨rfl, rfl, rfl⟩ := h
          rw [Obs_append] at hob
          exact step1_sound hF hI h1 hob.1 (fun ns' a' w' hI' hp => ih l σ1 σ3 orc1 orc3 obs3 ns' a' w' hI' h2 hob.2 (fun ns2 a2 w2 hI2 hp2 => K ns2 a2 w2 hI2 (hp.trans hp2)))
end

/-! ### a whole region -/
def pickE (env : List Ent) : List Nat → Option (List Ent)
  | [] => some []
  | t :: r => match look env t, pickE env r with | some x, some l => bif isNil x.p then some (x :: l) else none | _, _ => none
theorem pickE_mem {env : List Ent} : ∀ {l : List Nat} {out : List Ent}, pickE env l = some out → ∀ x ∈ out, x ∈ env ∧ x.p = []
  | [], out, h, x, hx => by simp only [pickE, Option.some.injEq] at h; subst h; simp at hx
  | t :: r, out, h, x, hx => by
    simp only [pickE] at h
    split at h
    · rename_i y l hy hl
      cases hn : isNil y.p
      · rw [hn] at h; simp at h
      · rw [hn] at h
        simp only [cond_true, Option.some.injEq] at h
        subst h
        simp only [List.mem_cons] at hx
        rcases hx with rfl | hx
        · exact ⟨(look_mem hy).1, by cases hh : x.p <;> simp_all [isNil]⟩
        · exact pickE_mem hl x hx
    · cases h
def fin (live : List Nat) (σ : S) : Option S := match pickE σ.env live with | some env => some ⟨env, [], [], σ.bs⟩ | none => none
def region (P : Program) (ops : List Oper) (n : Nat) (live : List Nat) (σ : S) (orc : List (List Value)) : Option (S × List Ob) :=
  match steps P ops.toArray n ops.length ops σ orc with
  | some (σ1, obs, []) => match fin live σ1 with | some σ2 => some (σ2, obs) | none => none
  | _ => none
/-- what is known of the machine between two regions -/
abbrev St (w0 : World) (own : List Nat) (n : Nat) (σ : S) (ns : List Nat) (a : Act) (w : World) : Prop := Inv w0 own n σ ns a w
section
variable {F : Fence} {m : Nat} {P : Program} {w0 : World} {own : List Nat} {n : Nat} {σ σ2 : S} {ns : List Nat} {a : Act} {w : World} {o : Oper} {orc orc' : List (List Value)} {obs : List Ob} {ops : Array Oper}
  {Q : Exit → Act → World → Prop} {rest : List Oper}
theorem isNil_eq {α : Type} {l : List α} (h : isNil l = true) : l = [] := by cases l <;> simp_all [isNil]
theorem Inv.fin (hI : Inv w0 own n σ ns a w) {live : List Nat} (h : Eng.fin live σ = some σ2) : Inv w0 own n σ2 ns a w := by
  unfold Eng.fin at h
  split at h
  · rename_i env henv
    simp only [Option.some.injEq] at h
    subst h
    have hm := pickE_mem henv
    refine ⟨hI.size, hI.defers, fun x hx => ?_, fun x hx => ?_, hI.bwf, fun x hx => by simp at hx, hI.loc⟩
    · have := hI.env x (hm x hx).1
      rw [(hm x hx).2] at this ⊢
      exact this
    · exact ⟨(hI.ewf x (hm x hx).1).1, by rw [(hm x hx).2]; intro y hy; simp at hy⟩
  · cases h
theorem region_ {id : Nat} {l : List Oper} {live : List Nat} (hF : FOpen F) (hI : St w0 own n σ ns a w) (σ2 : S) (obs : List Ob) (h : region P l n live σ orc = some (σ2, obs)) (hob : Obs P w0 own obs)
    (K : ∀ ns' a' w', St w0 own n σ2 ns' a' w' → ns <+: ns' → Q .normal a' w') : (Code.region id l.toArray false).wpIn F m P Q a w := by
  unfold region at h
  cases hs : steps P l.toArray n l.length l σ orc with
  | none => rw [hs] at h; simp at h
  | some r =>
    obtain ⟨σ1, obs1, orc1⟩ := r
    rw [hs] at h
    cases orc1 with
    | cons _ _ => simp at h
    | nil =>
      simp only at h
      cases hf : Eng.fin live σ1 with
      | none => rw [hf] at h; simp at h
      | some σ3 =>
        rw [hf] at h
        simp only [Option.some.injEq, Prod.mk.injEq] at h
        obtain ⟨rfl, rfl⟩ := h
        refine wpIn_region_lit (steps_sound hF l.length l σ σ1 orc [] obs1 ns a w hI hs hob (fun ns' a' w' hI' hp => ?_))
        rw [List.drop_length]
        exact wpListIn_nil (K ns' a' w' (hI'.fin hf) hp)
/-- a region, and what follows it -/
theorem seq_region {id : Nat} {l : List Oper} {live : List Nat} {y : Code} (hF : FOpen F) (hI : St w0 own n σ ns a w) (σ2 : S) (obs : List Ob) (h : region P l n live σ orc = some (σ2, obs)) (hob : Obs P w0 own obs)
    (K : ∀ ns' a' w', St w0 own n σ2 ns' a' w' → ns <+: ns' → y.wpIn F m P Q a' w') : (Code.seq (Code.region id l.toArray false) y).wpIn F m P Q a w :=
  wpIn_seq (region_ hF hI σ2 obs h hob K)
/-- a piece of a region -/
theorem chunk {live : List Nat} (hF : FOpen F) (k : Nat) (hI : Inv w0 own n σ ns a w) (σ2 : S) (obs : List Ob) {l : List Oper} (h : steps P ops n k l σ orc = some (σ2, obs, [])) (hob : Obs P w0 own obs)
    (hr : l.drop k = rest) (K : ∀ ns' a' w', Inv w0 own n σ2 ns' a' w' → ns <+: ns' → wpListIn F m P ops Q rest a' w') : wpListIn F m P ops Q l a w :=
  steps_sound hF k l σ σ2 orc [] obs ns a w hI h hob (fun ns' a' w' hI' hp => by rw [hr]; exact K ns' a' w' hI' hp)

/-- a call whose callee leaves what lay as it lay; unguarded, or guarded with the value known ahead. -/
theorem call_step (hF : FOpen F) (hI : Inv w0 own n σ ns a w) {σ1 : S} {g : Path} (hg : guardOf ops σ o.guard = some (σ1, g)) {f : FuncId} {es : List EV} (hco : callOf σ1 g o = some (f, es))
    (hent : ∀ args w, (callFunc f args).run P w = .ok (.enter f args) w) (ev : EV) {σ2 : S} (hput : put1 σ1 n o.dst g (some ev) = some σ2)
    (hc : pathB σ1.gv g = true → Calls P f (es.map (EV.den ns)).toArray w fun e w' => e = .returned (ev.den ns) ∧ Below w.heap.size w w')
    (K : ∀ a' w', Inv w0 own n σ2 ns a' w' → wpListIn F m P ops Q rest a' w') : wpListIn F m P ops Q (o :: rest) a w := by
  obtain ⟨hI1, hgw, hwant⟩ := guardOf_sound hI hg
  have hw : Region.wanted o (yielded ops a.tmps) = pathB σ1.gv g := by
    rw [← hwant]; unfold Region.wanted gdB; cases o.guard <;> rfl
  unfold wpListIn
  rw [hw]
  cases hb : pathB σ1.gv g with
  | true =>
    simp only [if_true]
    obtain ⟨hnd, hrun⟩ := callOf_run hI1 hb hco hent
    refine ⟨fun f _ => hF.fn f, ?_⟩
    rw [Oper.semAt_plain F _ _ hnd, hrun, Oper.uponIn_enter]
    refine ⟨fun hd => by rw [hF.depth] at hd; simp at hd, ?_⟩
    refine (hF.calls (hc hb)).mono ?_
    rintro e w1 ⟨rfl, hbl⟩
    exact K _ _ (put1_sound (hI1.below hbl) hgw hput (fun x hx => by simp only [Option.some.injEq] at hx; subst hx; rw [hb]; rfl))
  | false =>
    simp only [Bool.false_eq_true, if_false]
    exact ⟨fun f _ => hF.fn f, K _ _ (put1_sound hI1 hgw hput (fun x hx => by rw [hb]; rfl))⟩
/-- an unguarded call, whatever comes of it. -/
theorem call_any (hF : FOpen F) (hI : Inv w0 own n σ ns a w) (hg : o.guard = none) {f : FuncId} {es : List EV} (hco : callOf σ [] o = some (f, es))
    (hent : ∀ args w, (callFunc f args).run P w = .ok (.enter f args) w) {R : Ending → World → Prop} (hc : Calls P f (es.map (EV.den ns)).toArray w R)
    (K : ∀ e w', R e w' → ∃ v, e = .returned v ∧ wpListIn F m P ops Q rest (a.put o.dst v) w') : wpListIn F m P ops Q (o :: rest) a w := by
  unfold wpListIn
  have hw : Region.wanted o (yielded ops a.tmps) = true := by unfold Region.wanted; rw [hg]
  rw [hw, if_pos rfl]
  obtain ⟨hnd, hrun⟩ := callOf_run hI rfl hco hent
  refine ⟨fun f _ => hF.fn f, ?_⟩
  rw [Oper.semAt_plain F _ _ hnd, hrun, Oper.uponIn_enter]
  refine ⟨fun hd => by rw [hF.depth] at hd; simp at hd, ?_⟩
  refine (hF.calls hc).mono ?_
  intro e w1 hR
  obtain ⟨v, rfl, h⟩ := K e w1 hR
  exact h

/-! ### entry and return -/
def entEnv : Nat → List Value → List Ent
  | _, [] => []
  | i, v :: r => ⟨i, [], .v v⟩ :: entEnv (i + 1) r
theorem entEnv_mem : ∀ {i : Nat} {l : List Value} {x : Ent}, x ∈ entEnv i l → x.p = [] ∧ ∃ v, x.e = .v v ∧ i ≤ x.t ∧ l[x.t - i]? = some v
  | i, v :: r, x, h => by
    simp only [entEnv, List.mem_cons] at h
    rcases h with rfl | h
    · exact ⟨rfl, v, rfl, Nat.le_refl _, by simp⟩
    · obtain ⟨h1, u, h2, h3, h4⟩ := entEnv_mem h
      refine ⟨h1, u, h2, by omega, ?_⟩
      rw [show x.t - i = (x.t - (i + 1)) + 1 by omega, List.getElem?_cons_succ]
      exact h4
/-- a function whose walk goes from its arguments on. -/
theorem enter {f : FuncId} {fn : Func} {c : Code} (hf : P.funcs[f]? = some fn) (hb : fn.body = some c) (args : List Value) {w : World} {R : Ending → World → Prop} (hn : fn.ntmps = n) (hle : args.length ≤ n)
    (h : ∀ a, St w [] n ⟨entEnv 0 args, [], [], []⟩ [] a w → c.wpIn Fence.wide 0 P (bodyPost P fn R) a w) : Calls P f args.toArray w R := by
  refine (callsIn_wide (n := 0)).1 (callsIn_of_wp hf hb trivial (h _ ⟨?_, rfl, ?_, ?_, ?_, ?_, ?_⟩))
  · simp [hn]; omega
  · intro x hx
    obtain ⟨h1, v, h2, h3, h4⟩ := entEnv_mem hx
    rw [h1, h2]
    have hl := (List.getElem?_eq_some_iff.1 h4).1
    simp only [Nat.sub_zero] at h4 hl
    rw [Array.getElem?_append_left (by simpa using hl)]
    simpa [gvv, pathB, EV.den] using h4
  · intro x hx
    obtain ⟨h1, v, h2, h3, h4⟩ := entEnv_mem hx
    rw [h1, h2]
    exact ⟨rfl, fun y hy => by simp at hy⟩
  · intro x hx; simp at hx
  · intro x hx; simp at hx
  · exact ⟨rfl, List.nodup_nil, Keeps.refl _ _, fun b hb => by simp at hb, fun k cs T hk => by simp at hk⟩
theorem Inv.at_ (hI : Inv w0 own n σ ns a w) {t : Nat} {e : EV} (h : oEnv σ.env [] (.tmp t) = some e) : a.tmps.getD t undef = e.den ns := by
  have := hI.opnd h rfl
  simpa [Act.eval] using this
theorem ret1 {fn : Func} {R : Ending → World → Prop} {t : Nat} {e : EV} (hI : St w0 own n σ ns a w) (hres : fn.results = #[.tmp t]) (h : oEnv σ.env [] (.tmp t) = some e) (hR : R (.returned (e.den ns)) w) : bodyPost P fn R .ret a w :=
  ⟨hI.defers, _, results_tmp hres a.tmps P w, by rw [hI.at_ h]; exact hR⟩
theorem ret2 {fn : Func} {R : Ending → World → Prop} {t u : Nat} {e f : EV} (hI : St w0 own n σ ns a w) (hres : fn.results = #[.tmp t, .tmp u]) (h : oEnv σ.env [] (.tmp t) = some e) (h2 : oEnv σ.env [] (.tmp u) = some f)
    (hR : R (.returned (.tuple #[e.den ns, f.den ns])) w) : bodyPost P fn R .ret a w :=
  ⟨hI.defers, _, results_tmp2 hres a.tmps P w, by rw [hI.at_ h, hI.at_ h2]; exact hR⟩
theorem Inv.eval (hI : Inv w0 own n σ ns a w) {x : Operand} {e : EV} (h : oEnv σ.env [] x = some e) : a.eval x = e.den ns := hI.opnd h rfl
/-- a test -/
theorem cond_ {c : Operand} {x y : Code} (hI : St w0 own n σ ns a w) (b : Bool) (h : oEnv σ.env [] c = some (.v (.bool b))) (ht : b = true → x.wpIn F m P Q a w) (hf : b = false → y.wpIn F m P Q a w) :
    (Code.cond c x y).wpIn F m P Q a w := wpIn_cond_split (hI.eval h) ht hf
end

/-! ### loops: a body that answers the next state, or how it leaves -/
inductive Stp (S O : Type) where
  | next (s : S)
  | out (o : O)
inductive Ex (S R : Type) where
  | brk (s : S)
  | ret (r : R)
def Ex.on {S R T : Type} (o : Ex S R) (f : S → T) (g : R → T) : T := match o with | .brk s => f s | .ret r => g r
@[simp] theorem Ex.on_brk {S R T : Type} (s : S) (f : S → T) (g : R → T) : (Ex.brk s : Ex S R).on f g = f s := rfl
@[simp] theorem Ex.on_ret {S R T : Type} (r : R) (f : S → T) (g : R → T) : (Ex.ret r : Ex S R).on f g = g r := rfl
def iter {S O : Type} (B : S → Option (Stp S O)) : Nat → S → Option O
  | 0, _ => none
  | k + 1, s => match B s with
    | some (.next s') => iter B k s'
    | some (.out o) => some o
    | none => none
theorem iter_mono {S O : Type} {B : S → Option (Stp S O)} : ∀ {k : Nat} {s : S} {o : O}, iter B k s = some o → ∀ j, k ≤ j → iter B j s = some o
  | 0, _, _, h, _, _ => by simp [iter] at h
  | k + 1, s, o, h, j, hj => by
    obtain ⟨j, rfl⟩ : ∃ i, j = i + 1 := ⟨j - 1, by omega⟩
    simp only [iter] at h ⊢
    split at h
    · exact iter_mono h j (by omega)
    · exact h
    · cases h
theorem iter_det {S O : Type} {B : S → Option (Stp S O)} {k j : Nat} {s : S} {o o' : O} (h : iter B k s = some o) (h' : iter B j s = some o') : o = o' := by
  have h1 := iter_mono h (max k j) (Nat.le_max_left _ _)
  have h2 := iter_mono h' (max k j) (Nat.le_max_right _ _)
  rw [h1] at h2; exact Option.some.inj h2
/-- what a loop comes to, if it ends. -/
noncomputable def loopω {S O : Type} (B : S → Option (Stp S O)) (s : S) : Option O :=
  open Classical in if h : ∃ o k, iter B k s = some o then some h.choose else none
theorem loopω_of {S O : Type} {B : S → Option (Stp S O)} {s : S} {o : O} {k : Nat} (h : iter B k s = some o) : loopω B s = some o := by
  unfold loopω
  have hex : ∃ o k, iter B k s = some o := ⟨o, k, h⟩
  rw [dif_pos hex]
  obtain ⟨j, hj⟩ := hex.choose_spec
  rw [iter_det hj h]
theorem loopω_some {S O : Type} {B : S → Option (Stp S O)} {s : S} {o : O} (h : loopω B s = some o) : ∃ k, iter B k s = some o := by
  unfold loopω at h
  split at h
  · rename_i hex
    simp only [Option.some.injEq] at h
    rw [← h]; exact hex.choose_spec
  · cases h
/-- one round -/
theorem loopω_eq {S O : Type} (B : S → Option (Stp S O)) (s : S) : loopω B s = (match B s with | some (.next s') => loopω B s' | some (.out o) => some o | none => none) := by
  cases hB : B s with
  | none =>
    cases h : loopω B s with
    | none => rfl
    | some o =>
      obtain ⟨k, hk⟩ := loopω_some h
      cases k with
      | zero => simp [iter] at hk
      | succ k => simp [iter, hB] at hk
  | some r =>
    cases r with
    | out o => exact loopω_of (k := 1) (by simp [iter, hB])
    | next s' =>
      simp only
      cases h : loopω B s' with
      | some o =>
        obtain ⟨k, hk⟩ := loopω_some h
        exact loopω_of (k := k + 1) (by simp [iter, hB, hk])
      | none =>
        cases h' : loopω B s with
        | none => rfl
        | some o =>
          obtain ⟨k, hk⟩ := loopω_some h'
          cases k with
          | zero => simp [iter] at hk
          | succ k =>
            simp only [iter, hB] at hk
            rw [loopω_of hk] at h; cases h

/-! ### pure text -/
def req {α : Type} (c : Bool) (k : Option α) : Option α := bif c then k else none
def imp (g c : Bool) : Bool := !g || c
def inb (i : Int) (n : Nat) : Bool := decide (0 ≤ i) && decide (i < (n : Int))
theorem req_some {α : Type} {c : Bool} {k : Option α} {r : α} (h : req c k = some r) : c = true ∧ k = some r := by
  unfold req at h; cases c
  · cases h
  · exact ⟨rfl, h⟩
theorem inb_spec {i : Int} {n : Nat} (h : inb i n = true) : 0 ≤ i ∧ i < (n : Int) := by
  unfold inb at h; simpa using h
theorem imp_spec {g c : Bool} (h : imp g c = true) (hg : g = true) : c = true := by
  unfold imp at h; subst hg; simpa using h
theorem bif_t {α : Type} {c : Bool} {x y : Option α} {r : α} (hc : c = true) (h : (bif c then x else y) = some r) : x = some r := by subst hc; exact h
theorem bif_f {α : Type} {c : Bool} {x y : Option α} {r : α} (hc : c = false) (h : (bif c then x else y) = some r) : y = some r := by subst hc; exact h
theorem bind_some {α β : Type} {x : Option α} {f : α → Option β} {r : β} (h : x.bind f = some r) : ∃ t, x = some t ∧ f t = some r := Option.bind_eq_some_iff.1 h

theorem exists_least {p : Nat → Prop} (h : ∃ n, p n) : ∃ n, p n ∧ ∀ j, p j → n ≤ j := by
  obtain ⟨n, hn⟩ := h
  induction n using Nat.strongRecOn with
  | _ n ih =>
    by_cases hex : ∃ j, j < n ∧ p j
    · obtain ⟨j, hj, hp⟩ := hex; exact ih j hj hp
    · exact ⟨n, hn, fun j hj => Nat.le_of_not_lt fun hlt => hex ⟨j, hlt, hj⟩⟩
noncomputable def least (p : Nat → Prop) : Nat := open Classical in if h : ∃ n, p n then (exists_least h).choose else 0
theorem least_spec {p : Nat → Prop} (h : ∃ n, p n) : p (least p) ∧ ∀ j, p j → least p ≤ j := by
  unfold least; rw [dif_pos h]; exact (exists_least h).choose_spec
section
variable {F : Fence} {m : Nat} {P : Program} {a : Act} {w : World} {Q : Exit → Act → World → Prop}
theorem loop_ {S O : Type} {B : S → Option (Stp S O)} {o : O} {c : Code} (I : S → Act → World → Prop) (s0 : S) (hL : loopω B s0 = some o) (h0 : I s0 a w)
    (round : ∀ s a w, I s a w → ∀ r, B s = some r → c.wpIn F m P (Exit.then (fun a w => ∃ s', r = .next s' ∧ I s' a w) (fun e a w => ∃ o', r = .out o' ∧ (o' = o → Q e a w))) a w) :
    (Code.loop c).wpIn F m P Q a w := by
  obtain ⟨k, hk⟩ := loopω_some hL
  refine wpIn_loop (fun a w => ∃ j s, I s a w ∧ iter B j s = some o) (fun a w => least fun j => ∃ s, I s a w ∧ iter B j s = some o) ⟨k, s0, h0, hk⟩ ?_
  intro a w hI
  obtain ⟨s, hIs, hit⟩ := (least_spec hI).1
  generalize hj : least (fun j => ∃ s, I s a w ∧ iter B j s = some o) = j at *
  cases j with
  | zero => simp [iter] at hit
  | succ j =>
    simp only [iter] at hit
    cases hB : B s with
    | none => rw [hB] at hit; cases hit
    | some r =>
      rw [hB] at hit
      refine wpIn_mono (round s a w hIs r hB) ?_
      intro e a' w' hq
      cases e with
      | normal =>
        obtain ⟨s', rfl, hI'⟩ := hq
        simp only at hit
        have hex : ∃ i, ∃ s, I s a' w' ∧ iter B i s = some o := ⟨j, s', hI', hit⟩
        exact ⟨hex, Nat.lt_of_le_of_lt ((least_spec hex).2 j ⟨s', hI', hit⟩) (Nat.lt_succ_self j)⟩
      | _ =>
        obtain ⟨o', rfl, hq⟩ := hq
        simp only [Option.some.injEq] at hit
        exact hq hit
/-- 'for ..'. -/
theorem block_loop {S R : Type} {B : S → Option (Stp S (Ex S R))} {o : Ex S R} {id : Nat} {c : Code} (I : S → Act → World → Prop) (s0 : S) (hL : loopω B s0 = some o) (h0 : I s0 a w)
    (round : ∀ s a w, I s a w → ∀ r, B s = some r → c.wpIn F m P (Exit.then (fun a w => ∃ s', r = .next s' ∧ I s' a w)
      (fun e a w => (∃ s', r = .out (.brk s') ∧ e = .exit id ∧ I s' a w) ∨ (∃ r1, r = .out (.ret r1) ∧ (o = .ret r1 → Exit.inBlock id Q e a w)))) a w)
    (rest : ∀ s a w, o = .brk s → I s a w → Q .normal a w) : (Code.block id (Code.loop c)).wpIn F m P Q a w := by
  refine wpIn_block (loop_ I s0 hL h0 fun s a w hI r hB => wpIn_mono (round s a w hI r hB) ?_)
  intro e a w hq
  cases e with
  | normal => exact hq
  | exit id' =>
    rcases hq with ⟨s', rfl, he, hI'⟩ | ⟨r1, rfl, hq⟩
    · refine ⟨_, rfl, fun ho => ?_⟩
      simp only [Exit.exit.injEq] at he
      subst he
      simp only [Exit.inBlock, if_true]
      exact rest s' a w ho.symm hI'
    · exact ⟨_, rfl, fun ho => hq ho.symm⟩
  | _ =>
    rcases hq with ⟨s', rfl, he, hI'⟩ | ⟨r1, rfl, hq⟩
    · cases he
    · exact ⟨_, rfl, fun ho => hq ho.symm⟩
end

/-! ### what values in memory read as -/
abbrev SV := Nat → Option Addr × Nat
def Low (w : World) : Nat → Prop := fun b => b < w.heap.size
structure Kd (α : Type) where
  sz : Nat
  cells : α → SV → List Value
  cont : (Nat → Prop) → World → α → SV → Prop
  len : ∀ x sv, (cells x sv).length = sz
  pos : 0 < sz
  keep : ∀ {S S' : Nat → Prop} {w w' : World} {x : α} {sv : SV}, cont S w x sv → (∀ b, S b → b < w.heap.size → S' b ∧ w'.heap[b]? = w.heap[b]?) → cont S' w' x sv
def Arr {α : Type} (d : Kd α) (S : Nat → Prop) (w : World) (A : Option Addr) (xs : List α) : Prop :=
  (0 < xs.length → A = some (adr A) ∧ S (adr A).block) ∧
    ∀ (i : Nat) (x : α), xs[i]? = some x → ∃ sv, d.cont S w x sv ∧ ∀ (j : Nat) (v : Value), (d.cells x sv)[j]? = some v → w.cell? ((adr A).add (i * d.sz + j)) = some v
theorem Arr.lt {α : Type} {d : Kd α} {S : Nat → Prop} {w : World} {A : Option Addr} {xs : List α} (h : Arr d S w A xs) (hl : 0 < xs.length) : (adr A).block < w.heap.size := by
  obtain ⟨sv, _, hc⟩ := h.2 0 _ (List.getElem?_eq_getElem hl)
  have hj : 0 < (d.cells xs[0] sv).length := by rw [d.len]; exact d.pos
  have := World.block_lt_of_cell? w _ (hc 0 _ (List.getElem?_eq_getElem hj))
  rwa [add_block] at this
theorem Arr.keep {α : Type} {d : Kd α} {S S' : Nat → Prop} {w w' : World} {A : Option Addr} {xs : List α} (h : Arr d S w A xs) (hk : ∀ b, S b → b < w.heap.size → S' b ∧ w'.heap[b]? = w.heap[b]?) : Arr d S' w' A xs :=
  ⟨fun hl => ⟨(h.1 hl).1, (hk _ (h.1 hl).2 (h.lt hl)).1⟩, fun i x hi => let ⟨sv, h1, h2⟩ := h.2 i x hi; ⟨sv, d.keep h1 hk, fun j v hj => by
    have hl : 0 < xs.length := Nat.lt_of_le_of_lt (Nat.zero_le i) (List.getElem?_eq_some_iff.1 hi).1
    rw [World.cell?_of_block (w := w) (by rw [add_block]; exact (hk _ (h.1 hl).2 (h.lt hl)).2)]; exact h2 j v hj⟩⟩
theorem Arr.low {α : Type} {d : Kd α} {S : Nat → Prop} {w : World} {A : Option Addr} {xs : List α} (h : Arr d S w A xs) : Arr d (Low w) w A xs := h.keep fun b _ hb => ⟨hb, rfl⟩
theorem Kd.low {α : Type} (d : Kd α) {S : Nat → Prop} {w : World} {x : α} {sv : SV} (h : d.cont S w x sv) : d.cont (Low w) w x sv := d.keep h fun b _ hb => ⟨hb, rfl⟩
theorem Arr.on {α : Type} {d : Kd α} {w w1 : World} {A : Option Addr} {xs : List α} (h : Arr d (Low w) w A xs) (hk : Keeps [] w w1) : Arr d (Low w) w1 A xs := h.keep fun b hS hb => ⟨hS, hk.block b hb List.not_mem_nil⟩
theorem Kd.on {α : Type} (d : Kd α) {w w1 : World} {x : α} {sv : SV} (h : d.cont (Low w) w x sv) (hk : Keeps [] w w1) : d.cont (Low w) w1 x sv := d.keep h fun b hS hb => ⟨hS, hk.block b hb List.not_mem_nil⟩
theorem add_add (p : Addr) (m j : Nat) : (p.add m).add j = p.add (m + j) := by
  unfold Addr.add
  by_cases hm : m = 0 <;> by_cases hj : j = 0 <;> simp [hm, hj, Nat.add_assoc]
def rd {α : Type} [Inhabited α] (xs : List α) (i : Int) : α := xs.getD i.toNat default
theorem Arr.get {α : Type} [Inhabited α] {d : Kd α} {S : Nat → Prop} {w : World} {A : Option Addr} {xs : List α} (h : Arr d S w A xs) (i : Int) (g : Bool) (hb : g = true → inb i xs.length = true) :
    ∃ sv, (g = true → d.cont S w (rd xs i) sv) ∧ (g = true → A = some (adr A)) ∧
      (g = true → ∀ (j : Nat) (v : Value), (d.cells (rd xs i) sv)[j]? = some v → w.cell? (((adr A).add (i.toNat * d.sz)).add j) = some v) := by
  cases g with
  | false => exact ⟨fun _ => (none, 0), (by intro h; cases h), (by intro h; cases h), (by intro h; cases h)⟩
  | true =>
    obtain ⟨h0, h1⟩ := inb_spec (hb rfl)
    have hl : i.toNat < xs.length := by omega
    obtain ⟨sv, hc, hcell⟩ := h.2 i.toNat _ (List.getElem?_eq_getElem hl)
    have hr : rd xs i = xs[i.toNat] := by simp [rd, List.getD_eq_getElem?_getD, List.getElem?_eq_getElem hl]
    refine ⟨sv, fun _ => by rw [hr]; exact hc, fun _ => (h.1 (by omega)).1, fun _ j v hj => ?_⟩
    rw [hr] at hj
    rw [add_add]; exact hcell j v hj
section
variable {P : Program}
theorem ob_cell {w : World} {B : Addr} {g : Bool} {cs : List Value} (hE : g = true → ∀ (j : Nat) (v : Value), cs[j]? = some v → w.cell? (B.add j) = some v) (off : Nat) (vs : List Value)
    (hs : (cs.drop off).take vs.length = vs) : (Ob.cell g (B.add off) vs).holds P w [] := by
  intro hg
  refine ⟨List.not_mem_nil, fun j x hj => ?_⟩
  rw [add_add]
  refine hE hg _ _ ?_
  rw [← hs, List.getElem?_take] at hj
  split at hj
  · rwa [List.getElem?_drop] at hj
  · cases hj
theorem ob_inb {w : World} {own : List Nat} {g : Bool} {i : Int} {n : Nat} (h : g = true → inb i n = true) : (Ob.need g (0 ≤ i ∧ i < (n : Int))).holds P w own := fun hg => inb_spec (h hg)
theorem ob_call {w : World} {own : List Nat} {g : Bool} {f : FuncId} {args : List Value} {v : Value} (hent : ∀ args w, (callFunc f args).run P w = .ok (.enter f args) w)
    (h : g = true → ∀ w1, Keeps own w w1 → Calls P f args.toArray w1 fun e w' => e = .returned v ∧ Below w1.heap.size w1 w') : (Ob.call g f args v).holds P w own := fun hg => ⟨hent, h hg⟩
end
def Kd.int (k : IntKind) : Kd Int := ⟨1, fun x _ => [.int k x], fun _ _ _ _ => True, fun _ _ => rfl, Nat.one_pos, fun _ _ => trivial⟩
def Kd.bool : Kd Bool := ⟨1, fun x _ => [.bool x], fun _ _ _ _ => True, fun _ _ => rfl, Nat.one_pos, fun _ _ => trivial⟩
def Kd.str : Kd ByteArray := ⟨1, fun x _ => [.string x], fun _ _ _ _ => True, fun _ _ => rfl, Nat.one_pos, fun _ _ => trivial⟩
def Kd.slice {α : Type} (d : Kd α) : Kd (List α) :=
  ⟨1, fun xs sv => [.slice (sv 0).1 xs.length (sv 0).2], fun S w xs sv => Arr d S w (sv 0).1 xs ∧ xs.length ≤ (sv 0).2, fun _ _ => rfl, Nat.one_pos, fun h hk => ⟨h.1.keep hk, h.2⟩⟩
/-- slice values, written out -/
def svL (l : List (Option Addr × Nat)) : SV := fun i => l.getD i (none, 0)

/-! ### cutting back what is known -/
def cut (live : List Nat) (kb : Nat) (σ : S) : Option S :=
  match pickE σ.env live with
  | some env => bif env.all (fun x => x.e.wf kb) && (σ.bs.take kb).all (fun x => x.1.all (EV.wf kb)) && Nat.ble kb σ.bs.length then some ⟨env, [], [], σ.bs.take kb⟩ else none
  | none => none
theorem den_take {ns : List Nat} {kb : Nat} {e : EV} (h : e.wf kb = true) : e.den (ns.take kb) = e.den ns := by
  have hk : ∀ k, Nat.blt k kb = true → (ns.take kb).getD k 0 = ns.getD k 0 := by
    intro k hk
    have : k < kb := by simpa using hk
    rw [List.getD_eq_getElem?_getD, List.getD_eq_getElem?_getD, List.getElem?_take, if_pos this]
  cases e with
  | v => rfl
  | p k off => simp only [EV.den]; rw [hk k h]
  | s k off n c => simp only [EV.den]; rw [hk k h]
  | f fn a b =>
    simp only [EV.wf, Bool.and_eq_true, List.all_eq_true] at h
    simp only [EV.den]
    have h1 : ∀ x : Sum Value (Nat × Nat), (match x with | .inl _ => true | .inr (k, _) => Nat.blt k kb) = true → den1 (ns.take kb) x = den1 ns x := by
      intro x hx
      cases x with
      | inl => rfl
      | inr q => simp only [den1]; rw [hk _ hx]
    rw [List.map_congr_left (fun x hx => h1 x (h.1 x hx)), List.map_congr_left (fun x hx => h1 x (h.2 x hx))]
section
variable {w0 : World} {own : List Nat} {n : Nat} {σ σ2 : S} {ns : List Nat} {a : Act} {w : World}
theorem Inv.pick (hI : Inv w0 own n σ ns a w) (live : List Nat) (kb : Nat) (σ2 : S) (h : cut live kb σ = some σ2) : Inv w0 own n σ2 (ns.take kb) a w := by
  unfold cut at h
  split at h
  case h_2 => cases h
  rename_i env henv
  have hme := pickE_mem henv
  simp only [Bool.cond_eq_ite] at h
  split at h
  case isFalse => cases h
  rename_i hb
  simp only [Option.some.injEq] at h
  subst h
  simp only [Bool.and_eq_true, List.all_eq_true] at hb
  obtain ⟨⟨he, hbs⟩, hle⟩ := hb
  have hle := Nat.le_of_ble_eq_true hle
  have hlen : (σ.bs.take kb).length = kb := by rw [List.length_take]; omega
  refine ⟨hI.size, hI.defers, fun x hx => ?_, fun x hx => ?_, fun x hx e hee => ?_, fun x hx => by simp at hx, ?_⟩
  · rw [den_take (he x hx)]
    have := hI.env x (hme x hx).1
    rw [(hme x hx).2] at this ⊢
    exact this
  · refine ⟨by rw [hlen]; exact he x hx, ?_⟩
    rw [(hme x hx).2]; intro y hy; simp at hy
  · rw [hlen]; exact hbs x hx e hee
  · have hL := hI.loc
    refine ⟨by rw [List.length_take, List.length_take, hL.len], List.Nodup.sublist (List.take_sublist _ _) hL.nodup, hL.base, fun b hb => hL.ge b (List.mem_of_mem_take hb), fun k cs T hk => ?_⟩
    rw [List.getElem?_take] at hk
    split at hk
    · rename_i hkk
      have hm : (cs, T) ∈ σ.bs.take kb := List.mem_of_getElem? (by rw [List.getElem?_take, if_pos hkk]; exact hk)
      rw [List.map_congr_left (fun e hee => den_take (hbs _ hm e hee))]
      have : (ns.take kb).getD k 0 = ns.getD k 0 := by
        rw [List.getD_eq_getElem?_getD, List.getD_eq_getElem?_getD, List.getElem?_take, if_pos hkk]
      rw [this]
      exact hL.blk k cs T hk
    · cases hk
theorem then_normal {K : Act → World → Prop} {Q : Exit → Act → World → Prop} (h : K a w) : Exit.then K Q .normal a w := h
theorem then_ret {K : Act → World → Prop} {Q : Exit → Act → World → Prop} (h : Q .ret a w) : Exit.then K Q .ret a w := h
theorem then_exit {id : Nat} {K : Act → World → Prop} {Q : Exit → Act → World → Prop} (h : Q (.exit id) a w) : Exit.then K Q (.exit id) a w := h
theorem inBlock_normal {id : Nat} {Q : Exit → Act → World → Prop} (h : Q .normal a w) : Exit.inBlock id Q .normal a w := h
theorem inBlock_ret {id : Nat} {Q : Exit → Act → World → Prop} (h : Q .ret a w) : Exit.inBlock id Q .ret a w := h
theorem inBlock_here {id : Nat} {Q : Exit → Act → World → Prop} (h : Q .normal a w) : Exit.inBlock id Q (.exit id) a w := by simp only [Exit.inBlock, if_true]; exact h
theorem inBlock_other {id id' : Nat} {Q : Exit → Act → World → Prop} (hne : id' ≠ id) (h : Q (.exit id') a w) : Exit.inBlock id Q (.exit id') a w := by simp only [Exit.inBlock, if_neg hne]; exact h
end

def cal {α : Type} (g : Bool) (x : Option α) (d : α) : Option α := bif g then x else some d
theorem cal_some {α : Type} {g : Bool} {x : Option α} {d t : α} (h : cal g x d = some t) (hg : g = true) : x = some t := by subst hg; exact h
theorem and1 {a b : Bool} (h : (a && b) = true) : a = true := (Bool.and_eq_true _ _ ▸ h).1
def mxI (x y : Int) : Int := if y > x then y else x
def mnI (x y : Int) : Int := if y < x then y else x
section
variable {F : Fence} {m : Nat} {P : Program} {w0 : World} {own : List Nat} {n : Nat} {σ : S} {ns : List Nat} {a : Act} {w : World} {Q : Exit → Act → World → Prop}
theorem cond_merge {c : Operand} {x y : Code} (hI : St w0 own n σ ns a w) (b : Bool) (h : oEnv σ.env [] c = some (.v (.bool b))) (σt σf : S) (σm : Bool → S) (hm : ∀ b, σm b = bif b then σt else σf)
    (ht : b = true → x.wpIn F m P (Exit.then (fun a w => ∃ ns, St w0 own n σt ns a w) (fun _ _ _ => False)) a w)
    (hf : b = false → y.wpIn F m P (Exit.then (fun a w => ∃ ns, St w0 own n σf ns a w) (fun _ _ _ => False)) a w)
    (K : ∀ ns a w, St w0 own n (σm b) ns a w → Q .normal a w) : (Code.cond c x y).wpIn F m P Q a w := by
  refine cond_ hI b h (fun hb => wpIn_mono (ht hb) ?_) (fun hb => wpIn_mono (hf hb) ?_)
  · intro e a w hq
    cases e with
    | normal => obtain ⟨ns, h⟩ := hq; exact K ns a w (by rw [hm, hb]; exact h)
    | _ => exact hq.elim
  · intro e a w hq
    cases e with
    | normal => obtain ⟨ns, h⟩ := hq; exact K ns a w (by rw [hm, hb]; exact h)
    | _ => exact hq.elim
theorem ret3 {fn : Func} {R : Ending → World → Prop} {t u v : Nat} {e f g : EV} (hI : St w0 own n σ ns a w) (hres : fn.results = #[.tmp t, .tmp u, .tmp v]) (h : oEnv σ.env [] (.tmp t) = some e) (h2 : oEnv σ.env [] (.tmp u) = some f)
    (h3 : oEnv σ.env [] (.tmp v) = some g) (hR : R (.returned (.tuple #[e.den ns, f.den ns, g.den ns])) w) : bodyPost P fn R .ret a w :=
  ⟨hI.defers, _, by
    have : (results fn a.tmps).run P w = .ok (.tuple #[a.tmps.getD t undef, a.tmps.getD u undef, a.tmps.getD v undef]) w := by simp [results, hres]
    exact this, by rw [hI.at_ h, hI.at_ h2, hI.at_ h3]; exact hR⟩
/-- one result, a struct that lies in a block of the call's own -/
theorem retCell {fn : Func} {R : Ending → World → Prop} {t k : Nat} {T U : TypeId} {cs : List EV} {vs : List Value} (hI : St w0 own n σ ns a w) (hres : fn.results = #[.cell t T]) (h : oEnv σ.env [] (.tmp t) = some (.p k 0))
    (hk : σ.bs[k]? = some (cs, U)) (hv : allVs cs = some vs) (h1 : isAggT P T = some true) (h2 : szT P T = some vs.length) (hR : R (.returned (.agg vs.toArray)) w) : bodyPost P fn R .ret a w := by
  refine ⟨hI.defers, _, ?_, hR⟩
  have ha := hI.at_ h
  have hl : (loadVar T ⟨ns.getD k 0, 0, none⟩).run P w = .ok (.agg vs.toArray) w := by
    refine run_loadVar_agg h1 h2 (fun j x hj => ?_)
    rw [add_at, Nat.zero_add]
    rw [← allVs_den (ns := ns) hv, List.getElem?_map] at hj
    obtain ⟨y, hy, rfl⟩ := Option.map_eq_some_iff.1 hj
    exact hI.loc.cell hk hy
  have ha2 : a.tmps[t]?.getD undef = .pointer (some ⟨ns.getD k 0, 0, none⟩) := by rw [← Array.getD_eq_getD_getElem?]; exact ha
  generalize ns.getD k 0 = bb at hl ha2
  simp [results, hres, ha2, asAddr, Sem.run_bind, hl]
end

/-! ### regions that draw their order: reads and calls alone -/
def stepQ (P : Program) (ops : Array Oper) (n : Nat) (σ : S) (orc : List (List Value)) (o : Oper) : Option (S × List Ob × List (List Value)) :=
  match guardOf ops σ o.guard with
  | none => none
  | some (σ1, g) =>
    match callOf σ1 g o with
    | some (f, es) => stepC σ1 g n orc o f es
    | none =>
    match evOp P σ1 g orc o with
    | some (.val e obs orc') => match put1 σ1 n o.dst g (some e) with | some σ2 => some (σ2, obs, orc') | none => none
    | _ => none
def stepsQ (P : Program) (ops : Array Oper) (n : Nat) : List Oper → S → List (List Value) → Option (S × List Ob × List (List Value))
  | [], σ, orc => some (σ, [], orc)
  | o :: l, σ, orc =>
    match stepQ P ops n σ orc o with
    | some (σ1, obs, orc1) => match stepsQ P ops n l σ1 orc1 with | some (σ2, obs2, orc2) => some (σ2, obs ++ obs2, orc2) | none => none
    | none => none
def regionQ (P : Program) (ops : List Oper) (n : Nat) (live : List Nat) (σ : S) (orc : List (List Value)) : Option (S × List Ob) :=
  match stepsQ P ops.toArray n ops σ orc with
  | some (σ1, obs, []) => match fin live σ1 with | some σ2 => some (σ2, obs) | none => none
  | _ => none
section
variable {F : Fence} {m : Nat} {P : Program} {w0 : World} {own : List Nat} {n : Nat} {σ σ2 : S} {ns : List Nat} {a : Act} {w : World} {o : Oper} {orc orc' : List (List Value)} {obs : List Ob} {ops : Array Oper}
  {Q : Exit → Act → World → Prop} {C : World → Prop}
theorem quiet_wp {K : Act → Prop} {K' : Act → World → Prop} {Q' : Exit → Act → World → Prop} (hw : C w) (h : ∀ a w', C w' → K a → K' a w') (ha : o.askedIn F P a C) (hh : o.quietIn F m P a C K) : o.wpIn F m P a w K' Q' := by
  obtain ⟨v, h1, h2⟩ := hh
  have h3 := h1 w hw
  unfold Oper.quietAtIn at h3
  have hnd : ∀ c, o.op ≠ .defer c := by
    intro c hc
    unfold execOp at h3
    rw [hc] at h3
    simp only [Sem.run_bind] at h3
    cases hr : (resolve a.eval c o.type).run P w with
    | ok d w' => rw [hr] at h3; exact h3
    | halt x w' => rw [hr] at h3; exact h3
  unfold Oper.wpIn
  refine ⟨ha w hw, ?_⟩
  rw [Oper.semAt_plain F _ _ hnd]
  generalize (execOp a.eval o).run P w = r at *
  cases r with
  | ok x w' =>
    cases x <;> simp only [Oper.quietUponIn] at h3 <;> simp only [Oper.uponIn]
    case value u => obtain ⟨e1, e2⟩ := h3; rw [e1, e2]; exact h _ _ hw h2
    case skip => obtain ⟨e1, e2⟩ := h3; rw [e1, ← e2]; exact h _ _ hw h2
    case enter f args => obtain ⟨e1, hd, hc⟩ := h3; rw [e1]; exact ⟨hd, hc.mono fun e w'' ⟨he, hw''⟩ => by subst he; exact h _ _ hw'' h2⟩
  | halt x w' => simp only [Oper.quietUponIn] at h3
theorem quiet_op {i : Nat} {K : Act → Prop} {K' : Act → World → Prop} {Q' : Exit → Act → World → Prop} (hC : C w) (h : ∀ a w', C w' → K a → K' a w') (hh : qOpIn F m P ops C i K a) : wpOpIn F m P ops Q' i K' a w := by
  unfold qOpIn at hh
  unfold wpOpIn
  split
  · rename_i ho; simp only [ho] at hh; exact h _ _ hC hh
  · rename_i o ho
    simp only [ho] at hh
    obtain ⟨ha, hh⟩ := hh
    split
    · rename_i hw; simp only [hw, if_true] at hh; exact quiet_wp hC h ha hh
    · rename_i hw; simp only [hw] at hh; exact ⟨ha w hC, h _ _ hC hh⟩
theorem quiet_any {md : Region.Mode} {Q : Act → Prop} {Q' : Exit → Act → World → Prop} (hQ : ∀ a w, C w → Q a → Q' .normal a w) : ∀ (fuel : Nat) (listed : Array Bool) (a : Act) (w : World), C w →
    wpAnyQIn F m P md ops C Q fuel listed a → wpAnyIn F m P md ops Q' fuel listed a w
  | 0, _, _, _, hw, h => ⟨h.1, hQ _ _ hw h.2⟩
  | fuel + 1, _, _, _, hw, h => ⟨fun h0 => hQ _ _ hw (h.1 h0), fun i hi => quiet_op hw (fun a' w' hw' => quiet_any hQ fuel _ a' w' hw') (h.2 i hi)⟩
theorem quiet_region {id : Nat} (hm : P.follows .mixedOrders = true) (hB : Region.lexB .any ops = true) (hC : C { w with drawn := w.drawn + 1 })
    (h : wpQuietIn F m P ops C (fun a' => ∀ w', C w' → Q .normal a' w') ops.toList a) : (Code.region id ops true).wpIn F m P Q a w := by
  simp only [Region.lexB, Bool.and_eq_true] at hB
  refine wpIn_region_any hm (quiet_any (Q := fun a' => ∀ w', C w' → Q .normal a' w') (fun _ w' hw' h => h w' hw') _ _ _ _ hC ?_)
  have := wpAnyQIn_lex (F := F) (n := m) (C := C) (md := .any) hB.1 ops.toList 0 (Array.replicate ops.size false) a (by simp) (by simpa using hB.2) h
  simpa using this
theorem Inv.on (hI : Inv w0 own n σ ns a w) {w' : World} (hL : Loc w0 own ns σ.bs w') : Inv w0 own n σ ns a w' := ⟨hI.size, hI.defers, hI.env, hI.ewf, hI.bwf, hI.gi, hL⟩
theorem guardOf_bs {σ1 : S} {g : Path} {gd : Option (Nat × Bool)} (h : guardOf ops σ gd = some (σ1, g)) : σ1.bs = σ.bs := by
  unfold guardOf at h
  repeat' (split at h)
  all_goals first | (simp only [Option.some.injEq, Prod.mk.injEq] at h; rw [← h.1]) | (cases h)
theorem put1_bs {dst : Option Tmp} {g : Path} {e : Option EV} (h : put1 σ n dst g e = some σ2) : σ2.bs = σ.bs := by
  unfold put1 at h
  simp only [Bool.cond_eq_ite] at h
  repeat' (split at h)
  all_goals first | (simp only [Option.some.injEq] at h; rw [← h]) | (cases h)
theorem stepQ_sound (hF : FOpen F) {l : List Oper} (bs : List (List EV × TypeId)) (hbs : σ.bs = bs) (hI : Inv w0 own n σ ns a w) (h : stepQ P ops n σ orc o = some (σ2, obs, orc')) (hob : Obs P w0 own obs) {K : Act → Prop}
    (next : ∀ a', σ2.bs = bs → Inv w0 own n σ2 ns a' w → wpQuietIn F m P ops (fun w' => Loc w0 own ns bs w') K l a') : wpQuietIn F m P ops (fun w' => Loc w0 own ns bs w') K (o :: l) a := by
  subst hbs
  unfold stepQ at h
  cases hgd : guardOf ops σ o.guard with
  | none => rw [hgd] at h; simp at h
  | some sg =>
    obtain ⟨σ1, g⟩ := sg
    rw [hgd] at h
    simp only at h
    obtain ⟨hI1, hgw, hwant⟩ := guardOf_sound hI hgd
    have hbs1 := guardOf_bs hgd
    have hw : Region.wanted o (yielded ops a.tmps) = pathB σ1.gv g := by
      rw [← hwant]; unfold Region.wanted gdB; cases o.guard <;> rfl
    refine ⟨fun w _ f _ => hF.fn f, ?_⟩
    rw [hw]
    cases hco : callOf σ1 g o with
    | some fe =>
      obtain ⟨f, es⟩ := fe
      rw [hco] at h
      simp only at h
      unfold stepC at h
      split at h
      · rename_i args v orc1 hargs
        cases hp : put1 σ1 n o.dst g (some (.v v)) with
        | none => rw [hp] at h; simp at h
        | some σ3 =>
          rw [hp] at h
          simp only [Option.some.injEq, Prod.mk.injEq] at h
          obtain ⟨rfl, rfl, rfl⟩ := h
          have hbs3 := (put1_bs hp).trans hbs1
          cases hb : pathB σ1.gv g with
          | true =>
            obtain ⟨hent, hcall⟩ := hob.1 hb
            simp only [if_true]
            refine ⟨v, fun w' hL => ?_, next _ hbs3 (put1_sound hI1 hgw hp (fun x hx => by simp only [Option.some.injEq] at hx; subst hx; rw [hb]; rfl))⟩
            have hI' := hI1.on (w' := w') (by rw [hbs1]; exact hL)
            obtain ⟨hnd, hrun⟩ := callOf_run hI' hb hco hent
            unfold Oper.quietAtIn
            rw [hrun]
            refine ⟨rfl, fun hd => by rw [hF.depth] at hd; simp at hd, ?_⟩
            rw [allVs_den hargs]
            exact (hF.calls (hcall w' hL.base)).mono fun e w2 ⟨he, hbl⟩ => ⟨he, hL.below hbl⟩
          | false =>
            simp only [Bool.false_eq_true, if_false]
            exact next _ hbs3 (put1_sound hI1 hgw hp (fun x hx => by rw [hb]; rfl))
      · simp at h
    | none =>
      rw [hco] at h
      simp only at h
      split at h
      · rename_i e obs1 orc1 he
        cases hp : put1 σ1 n o.dst g (some e) with
        | none => rw [hp] at h; simp at h
        | some σ3 =>
          rw [hp] at h
          simp only [Option.some.injEq, Prod.mk.injEq] at h
          obtain ⟨rfl, rfl, rfl⟩ := h
          have hbs3 := (put1_bs hp).trans hbs1
          cases hb : pathB σ1.gv g with
          | true =>
            simp only [if_true]
            refine ⟨e.den ns, fun w' hL => ?_, next _ hbs3 (put1_sound hI1 hgw hp (fun x hx => by simp only [Option.some.injEq] at hx; subst hx; rw [hb]; rfl))⟩
            have hI' := hI1.on (w' := w') (by rw [hbs1]; exact hL)
            unfold Oper.quietAtIn
            rw [evOp_val hI' hb he hob]
            exact ⟨rfl, rfl⟩
          | false =>
            simp only [Bool.false_eq_true, if_false]
            exact next _ hbs3 (put1_sound hI1 hgw hp (fun x hx => by rw [hb]; rfl))
      · simp at h
theorem stepsQ_sound (hF : FOpen F) (bs : List (List EV × TypeId)) {K : Act → Prop} : ∀ (l : List Oper) (σ σ2 : S) (orc orc' : List (List Value)) (obs : List Ob) (a : Act), σ.bs = bs → Inv w0 own n σ ns a w →
    stepsQ P ops n l σ orc = some (σ2, obs, orc') → Obs P w0 own obs → (∀ a', σ2.bs = bs → Inv w0 own n σ2 ns a' w → K a') → wpQuietIn F m P ops (fun w' => Loc w0 own ns bs w') K l a := by
  intro l
  induction l with
  | nil =>
    intro σ σ2 orc orc' obs a hbs hI h hob hK
    simp only [stepsQ, Option.some.injEq, Prod.mk.injEq] at h
    obtain ⟨rfl, rfl, rfl⟩ := h
    exact hK a hbs hI
  | cons o l ih =>
    intro σ σ2 orc orc' obs a hbs hI h hob hK
    simp only [stepsQ] at h
    cases h1 : stepQ P ops n σ orc o with
    | none => rw [h1] at h; simp at h
    | some r =>
      obtain ⟨σ1, obs1, orc1⟩ := r
      rw [h1] at h
      simp only at h
      cases h2 : stepsQ P ops n l σ1 orc1 with
      | none => rw [h2] at h; simp at h
      | some r2 =>
        obtain ⟨σ3, obs3, orc3⟩ := r2
        rw [h2] at h
        simp only [Option.some.injEq, Prod.mk.injEq] at h
        obtain ⟨rfl, rfl, rfl⟩ := h
        rw [Obs_append] at hob
        exact stepQ_sound hF bs hbs hI h1 hob.1 (fun a' hb' hI' => ih σ1 σ3 orc1 orc3 obs3 a' hb' hI' h2 hob.2 hK)
theorem drawn_ {id : Nat} {l : List Oper} {live : List Nat} (hF : FOpen F) (hI : St w0 own n σ ns a w) (σ2 : S) (obs : List Ob) (hm : P.follows .mixedOrders = true) (hB : Region.lexB .any l.toArray = true)
    (h : regionQ P l n live σ orc = some (σ2, obs)) (hob : Obs P w0 own obs) (K : ∀ a' w', St w0 own n σ2 ns a' w' → Q .normal a' w') : (Code.region id l.toArray true).wpIn F m P Q a w := by
  unfold regionQ at h
  split at h
  · rename_i σ1 obs1 hs
    cases hf : Eng.fin live σ1 with
    | none => rw [hf] at h; simp at h
    | some σ3 =>
      rw [hf] at h
      simp only [Option.some.injEq, Prod.mk.injEq] at h
      obtain ⟨rfl, rfl⟩ := h
      have hd : Loc w0 own ns σ.bs { w with drawn := w.drawn + 1 } := hI.loc.below ⟨rfl, rfl, rfl, Nat.le_refl _, fun _ _ => rfl⟩
      refine quiet_region (C := fun w' => Loc w0 own ns σ.bs w') hm hB hd ?_
      exact stepsQ_sound hF σ.bs l σ σ1 orc [] obs1 a rfl hI hs hob (fun a' hb hI' w' hL => K a' w' ((hI'.on (by rw [hb]; exact hL)).fin hf))
  · cases h
end
theorem enters {P : Program} {f : FuncId} {fn : Func} {c : Code} (hf : P.funcs[f]? = some fn) (hname : (fn.name == "runtime.NumGoroutine") = false) (hb : fn.body = some c) (args : Array Value) (w : World) :
    (callFunc f args).run P w = .ok (.enter f args) w := by
  unfold callFunc
  simp only [Sem.run_bind]
  have : (program).run P w = .ok P w := rfl
  rw [this]
  simp only [Result.andThen_ok, hf, hname, hb]
  rfl

/-! ### arguments, opened -/
structure Opn (P : Program) (t : TypeId) {α : Type} (d : Kd α) (wf : α → Prop) : Prop where
  size : P.cellsOf t = d.sz
  opn : ∀ {H : Type} {enc : TypeId × Value → H} {w : World} {spare : Nat → Bool} {held : Bool} {fuel : Nat} {cs : List Value} {x : DataW H × List MemPlace},
    DataW.trod enc P w 0 spare held fuel t cs = some x → ∃ v sv, cs = d.cells v sv ∧ d.cont (fun _ => True) w v sv ∧ wf v
section
variable {P : Program} {t : TypeId}
def InK (k : IntKind) (n : Int) : Prop := (Lit.int k n).wf = true
theorem Opn.int {k : IntKind} (ht : P.underlying t = some (.int k)) (hs : P.cellsOf t = 1) : Opn P t (Kd.int k) (InK k) :=
  ⟨hs, fun h => let ⟨n, h1, _, h3⟩ := DataW.trod_intV ht h; ⟨n, fun _ => (none, 0), h1, trivial, h3⟩⟩
where DataW.trod_intV {H : Type} {enc : TypeId × Value → H} {w : World} {spare : Nat → Bool} {held : Bool} {fuel : Nat} {cs : List Value} {x : DataW H × List MemPlace} {k : IntKind} (ht : P.underlying t = some (.int k)) (h : DataW.trod enc P w 0 spare held fuel t cs = some x) :
    ∃ n, cs = [.int k n] ∧ x = (.lit (.int k n), []) ∧ (Lit.int k n).wf = true := DataW.trod_int ht h
theorem Opn.bool (ht : P.underlying t = some .bool) (hs : P.cellsOf t = 1) : Opn P t Kd.bool (fun _ => True) :=
  ⟨hs, fun h => let ⟨n, h1, _⟩ := DataW.trod_bool ht h; ⟨n, fun _ => (none, 0), h1, trivial, trivial⟩⟩
theorem Opn.str (ht : P.underlying t = some .string) (hs : P.cellsOf t = 1) : Opn P t Kd.str (fun s => s.size ≤ maxLen) :=
  ⟨hs, fun h => let ⟨n, h1, _, h3⟩ := DataW.trod_string ht h; ⟨n, fun _ => (none, 0), h1, trivial, h3⟩⟩
theorem choose_list {α : Type} {n : Nat} {R : Nat → α → Prop} (h : ∀ i, i < n → ∃ v, R i v) : ∃ xs : List α, xs.length = n ∧ ∀ i x, xs[i]? = some x → R i x := by
  induction n with
  | zero => exact ⟨[], rfl, fun i x hx => by simp at hx⟩
  | succ n ih =>
    obtain ⟨xs, hl, hx⟩ := ih (fun i hi => h i (by omega))
    obtain ⟨v, hv⟩ := h n (by omega)
    refine ⟨xs ++ [v], by simp [hl], fun i x hix => ?_⟩
    rcases Nat.lt_or_ge i xs.length with hlt | hge
    · rw [List.getElem?_append_left hlt] at hix; exact hx i x hix
    · have hle := (List.getElem?_eq_some_iff.1 hix).1
      simp only [List.length_append, List.length_singleton] at hle
      have : i = xs.length := by omega
      subst this
      rw [List.getElem?_append_right (Nat.le_refl _)] at hix
      simp only [Nat.sub_self, List.getElem?_cons_zero, Option.some.injEq] at hix
      subst hix; rw [hl]; exact hv
theorem Opn.slice {e : TypeId} {α : Type} {d : Kd α} {wf : α → Prop} (o : Opn P e d wf) (ht : P.underlying t = some (.slice e)) (hs : P.cellsOf t = 1) : Opn P t (Kd.slice d) (fun xs => xs.length ≤ maxLen ∧ ∀ x ∈ xs, wf x) := by
  refine ⟨hs, fun {H enc w spare held fuel cs x} h => ?_⟩
  rcases DataW.trod_slice ht h with ⟨rfl, _⟩ | ⟨a, len, cap, elems, rest, n, _, rfl, _, _, hlc, hcm, hel, hE, _⟩
  · exact ⟨[], fun _ => (none, 0), rfl, ⟨⟨fun h => by simp at h, fun i x hi => by simp at hi⟩, Nat.le_refl _⟩, Nat.zero_le _, fun x hx => by simp at hx⟩
  · have h1 : ∀ i, i < len → ∃ v, ∃ sv, d.cont (fun _ => True) w v sv ∧ (∀ (j : Nat) (u : Value), (d.cells v sv)[j]? = some u → w.cell? (a.add (i * d.sz + j)) = some u) ∧ wf v := by
      intro i hi
      have hx := hE i hi
      rw [List.getElem?_eq_getElem (by omega), Option.bind_eq_some_iff] at hx
      obtain ⟨cs, hcs, hd⟩ := hx
      obtain ⟨_, hcl, hcell⟩ := World.cells?_some hcs
      obtain ⟨v, sv, hc, hcont, hw⟩ := o.opn hd
      refine ⟨v, sv, hcont, fun j u hj => ?_, hw⟩
      rw [← add_add, ← o.size]
      rw [← hc] at hj
      rw [hcell j (by rw [← hcl]; exact (List.getElem?_eq_some_iff.1 hj).1), hj]
    obtain ⟨xs, hl, hx⟩ := choose_list h1
    refine ⟨xs, fun _ => (some a, cap), by simp only [Kd.slice, hl], ⟨⟨fun _ => ⟨rfl, trivial⟩, fun i x hi => ?_⟩, by rw [hl]; exact hlc⟩, by omega, fun x hm => ?_⟩
    · obtain ⟨sv, q1, q2, _⟩ := hx i x hi
      exact ⟨sv, q1, q2⟩
    · obtain ⟨i, hi⟩ := List.getElem?_of_mem hm
      obtain ⟨sv, _, _, q3⟩ := hx i x hi
      exact q3
def pieces (cs : List Value) : Nat → List Nat → List Value
  | _, [] => []
  | off, s :: l => (cs.drop off).take s ++ pieces cs (off + s) l
theorem pieces_drop (cs : List Value) : ∀ (l : List Nat) (off : Nat), cs.length = off + l.sum → cs.drop off = pieces cs off l
  | [], off, h => by simp [pieces] at *; omega
  | s :: l, off, h => by
    rw [pieces, ← pieces_drop cs l (off + s) (by simp at h; omega), ← List.drop_drop, List.take_append_drop]
theorem pieces_eq {cs : List Value} (l : List Nat) {n : Nat} (h : cs.length = n) (hl : Nat.beq n l.sum = true) : cs = pieces cs 0 l := by
  have := pieces_drop cs l 0 (by rw [h, Nat.eq_of_beq_eq_true hl]; simp)
  simpa using this
theorem app2 {a b a' b' : List Value} (h : a = a') (k : b = b') : a ++ b = a' ++ b' := by rw [h, k]
theorem Opn.sized {e : TypeId} {α : Type} {d : Kd α} {wf : α → Prop} (o : Opn P e d wf) {cs cs' : List Value} {off : Nat} (h : (cs.drop off).take (P.cellsOf e) = cs') : (cs.drop off).take d.sz = cs' := by rw [← o.size]; exact h
theorem opn_field {H : Type} {enc : TypeId × Value → H} {w : World} {spare : Nat → Bool} {held : Bool} {fuel : Nat} {cs : List Value} {xs : List (DataW H × List MemPlace)} {fs : Array Field}
    (h : ∀ (i : Nat) (f : Field), fs[i]? = some f → DataW.trod enc P w 0 spare held fuel f.type ((cs.drop f.offset).take (P.cellsOf f.type)) = xs[i]?) (hl : xs.length = fs.size) (i : Nat) (f : Field) (hf : fs[i]? = some f)
    {α : Type} {d : Kd α} {wf : α → Prop} (o : Opn P f.type d wf) : ∃ v sv, (cs.drop f.offset).take d.sz = d.cells v sv ∧ d.cont (fun _ => True) w v sv ∧ wf v := by
  have hi : i < xs.length := by rw [hl]; exact (Array.getElem?_eq_some_iff.1 hf).1
  have := h i f hf
  rw [List.getElem?_eq_getElem hi] at this
  rw [← o.size]
  exact o.opn this
theorem opn_elem {H : Type} {enc : TypeId × Value → H} {w : World} {spare : Nat → Bool} {held : Bool} {fuel n : Nat} {cs : List Value} {xs : List (DataW H × List MemPlace)} {e : TypeId}
    (h : ∀ (i : Nat), i < n → DataW.trod enc P w 0 spare held fuel e ((cs.drop (i * P.cellsOf e)).take (P.cellsOf e)) = xs[i]?) (hl : xs.length = n) (i : Nat) (hi : i < n)
    {α : Type} {d : Kd α} {wf : α → Prop} (o : Opn P e d wf) : ∃ v sv, (cs.drop (i * d.sz)).take d.sz = d.cells v sv ∧ d.cont (fun _ => True) w v sv ∧ wf v := by
  have := h i hi
  rw [List.getElem?_eq_getElem (by omega)] at this
  rw [← o.size]
  exact o.opn this
/-- an argument's value, out of its cells -/
theorem Opn.arg {α : Type} {d : Kd α} {wf : α → Prop} (o : Opn P t d wf) {H : Type} {enc : TypeId × Value → H} {w : World} {spare : Nat → Bool} {held : Bool} {v : Value} {dd : DataW H} {ps : List MemPlace}
    (h : DataW.Trod enc P w 0 spare held t v dd ps) : ∃ x sv, v.cells.toList = d.cells x sv ∧ d.cont (fun _ => True) w x sv ∧ wf x := by
  obtain ⟨fuel, hf⟩ := h
  exact o.opn hf
theorem okWide_array {n : Nat} {e : TypeId} {w : World} {r : Reach} {base : Nat} {v : Value} (ht : P.underlying t = some (.array n e)) (h : Value.okWide P w r base t v) : ∃ cs, v = .agg cs := by
  simp only [Value.okWide, ht] at h
  obtain ⟨cs, h1, _⟩ := h
  exact ⟨cs, h1⟩
theorem agg_arg {v : Value} {cs : List Value} (h : ∃ c, v = .agg c) (hc : v.cells.toList = cs) : v = .agg cs.toArray := by
  obtain ⟨c, rfl⟩ := h
  subst hc
  simp [Value.cells]
theorem agg_arg2 {v : Value} {cs : List Value} {n : Nat} (h : ∃ c, v = .agg c ∧ c.size = n) (hc : v.cells.toList = cs) : v = .agg cs.toArray := agg_arg (let ⟨c, h, _⟩ := h; ⟨c, h⟩) hc
theorem one_arg {v u : Value} (h : ∀ c, v ≠ .agg c) (h2 : ∀ c, v ≠ .tuple c) (hc : v.cells.toList = [u]) : v = u := by
  cases v <;> simp_all [Value.cells]
end

/-! ### plain law: aids -/
theorem w64 {x : Int} (h1 : -9223372036854775808 ≤ x) (h2 : x ≤ 9223372036854775807) : IntKind.i64.wrap x = x := by
  simp [IntKind.wrap, IntKind.signed, IntKind.bits]; omega
theorem InK.u32 {x : Int} (h : InK .u32 x) : 0 ≤ x ∧ x ≤ 4294967295 := by
  simp [InK, Lit.wf, IntKind.min, IntKind.max, IntKind.signed, IntKind.bits] at h; omega
theorem InK.u16 {x : Int} (h : InK .u16 x) : 0 ≤ x ∧ x ≤ 65535 := by
  simp [InK, Lit.wf, IntKind.min, IntKind.max, IntKind.signed, IntKind.bits] at h; omega
theorem InK.u8 {x : Int} (h : InK .u8 x) : 0 ≤ x ∧ x ≤ 255 := by
  simp [InK, Lit.wf, IntKind.min, IntKind.max, IntKind.signed, IntKind.bits] at h; omega
theorem InK.i64 {x : Int} (h : InK .i64 x) : -9223372036854775808 ≤ x ∧ x ≤ 9223372036854775807 := by
  simp [InK, Lit.wf, IntKind.min, IntKind.max, IntKind.signed, IntKind.bits] at h; omega
theorem InK.u64 {x : Int} (h : InK .u64 x) : 0 ≤ x ∧ x ≤ 18446744073709551615 := by
  simp [InK, Lit.wf, IntKind.min, IntKind.max, IntKind.signed, IntKind.bits] at h; omega
theorem wrap_bounds (x : Int) : -9223372036854775808 ≤ IntKind.i64.wrap x ∧ IntKind.i64.wrap x ≤ 9223372036854775807 := by
  simp [IntKind.wrap, IntKind.signed, IntKind.bits]; omega
/-- a loop that keeps a fact and comes down by a measure, told by what it comes to. -/
theorem loopω_ok {S O : Type} {B : S → Option (Stp S O)} (I : S → Prop) (m : S → Nat) (Q : O → Prop) (h : ∀ s, I s → (∃ s', B s = some (.next s') ∧ I s' ∧ m s' < m s) ∨ (∃ o, B s = some (.out o) ∧ Q o)) :
    ∀ (s : S), I s → ∃ o, loopω B s = some o ∧ Q o := by
  intro s
  generalize hm : m s = k
  induction k using Nat.strongRecOn generalizing s with
  | _ k ih =>
    intro hI
    rcases h s hI with ⟨s', h1, h2, h3⟩ | ⟨o, h1, h2⟩
    · obtain ⟨o, q1, q2⟩ := ih (m s') (by omega) s' rfl h2
      exact ⟨o, by rw [loopω_eq, h1]; exact q1, q2⟩
    · exact ⟨o, by rw [loopω_eq, h1], h2⟩
theorem inb_of {i : Int} {n : Nat} (h : 0 ≤ i) (h' : i < n) : inb i n = true := by simp [inb, h, h']
@[simp] theorem req_t {α : Type} (k : Option α) : req true k = k := rfl
@[simp] theorem cal_t {α : Type} (x : Option α) (d : α) : cal true x d = x := rfl
@[simp] theorem cal_f {α : Type} (x : Option α) (d : α) : cal false x d = some d := rfl
theorem rd_mem {α : Type} [Inhabited α] {xs : List α} {i : Int} (h : 0 ≤ i) (h' : i < xs.length) : rd xs i ∈ xs := by
  have : i.toNat < xs.length := by omega
  simp [rd, List.getD_eq_getElem?_getD, List.getElem?_eq_getElem this]

/-! ### epochs: what is read lies still; variables ('own') and rows and maps of the call's own ('mine') turn -/
def Lo (S0 : Nat → Prop) (w00 w : World) (own : List Nat) (mine : List (Option Nat)) : Nat → Prop := fun b => b < w.heap.size ∧ b ∉ own ∧ some b ∉ mine ∧ (w00.heap.size ≤ b ∨ S0 b)
abbrev Mv (S : Nat → Prop) (w : World) (S' : Nat → Prop) (w' : World) : Prop := ∀ b, S b → b < w.heap.size → S' b ∧ w'.heap[b]? = w.heap[b]?
def rb (A : Option Addr) : Option Nat := A.map Addr.block
structure Ep (w00 w : World) (own : List Nat) (mine : List (Option Nat)) : Prop where
  k : Keeps [] w00 w
  ow : ∀ b ∈ own, w00.heap.size ≤ b ∧ b < w.heap.size
  mi : ∀ b, some b ∈ mine → w00.heap.size ≤ b ∧ b < w.heap.size ∧ b ∉ own
  dis : (mine.filterMap id).Nodup
theorem Ep.start (w : World) : Ep w w [] [] := ⟨Keeps.refl _ _, fun b hb => by simp at hb, fun b hb => by simp at hb, by simp⟩
theorem Arr.lo {α : Type} {d : Kd α} {S : Nat → Prop} {w : World} {A : Option Addr} {xs : List α} (h : Arr d S w A xs) : Arr d (Lo S w w [] []) w A xs := h.keep fun b hS hb => ⟨⟨hb, by simp, by simp, .inr hS⟩, rfl⟩
theorem Kd.lo {α : Type} (d : Kd α) {S : Nat → Prop} {w : World} {x : α} {sv : SV} (h : d.cont S w x sv) : d.cont (Lo S w w [] []) w x sv := d.keep h fun b hS hb => ⟨⟨hb, by simp, by simp, .inr hS⟩, rfl⟩
theorem Arr.any {α : Type} {d : Kd α} {S : Nat → Prop} {w : World} {A : Option Addr} {xs : List α} (h : Arr d S w A xs) : Arr d (fun _ => True) w A xs := h.keep fun b hS hb => ⟨trivial, rfl⟩
theorem Kd.any {α : Type} (d : Kd α) {S : Nat → Prop} {w : World} {x : α} {sv : SV} (h : d.cont S w x sv) : d.cont (fun _ => True) w x sv := d.keep h fun b hS hb => ⟨trivial, rfl⟩
section
variable {S0 : Nat → Prop} {P : Program} {w00 w0 w w1 : World} {own : List Nat} {mine mine' : List (Option Nat)} {n : Nat} {σ σ2 : S} {ns : List Nat} {a : Act} {row : Option Nat}
theorem Lo.on (hk : Keeps own w0 w) : Mv (Lo S0 w00 w0 own mine) w0 (Lo S0 w00 w0 own mine) w := fun b hb hlt => ⟨hb, hk.block b hlt hb.2.1⟩
theorem Keeps.comp (h : Keeps [] w0 w) (k : Keeps own w w1) (ho : ∀ b ∈ own, w0.heap.size ≤ b) : Keeps [] w0 w1 :=
  ⟨k.os.trans h.os, k.tape.trans h.tape, k.output.trans h.output, Nat.le_trans h.size k.size, fun b hb _ => (k.block b (Nat.lt_of_lt_of_le hb h.size) (fun hh => by have := ho b hh; omega)).trans (h.block b hb (by simp))⟩
theorem Ep.keeps (hE : Ep w00 w0 own mine) (hI : Inv w0 own n σ ns a w) : Keeps [] w00 w := hE.k.comp hI.loc.base fun b hb => (hE.ow b hb).1
theorem Ep.below (hE : Ep w00 w0 own mine) (hI : Inv w0 own n σ ns a w) : Below w00.heap.size w00 w := (hE.keeps hI).below
theorem Inv.rebase (hI : Inv w0 own n σ ns a w) : Inv w ns n σ ns a w :=
  ⟨hI.size, hI.defers, hI.env, hI.ewf, hI.bwf, hI.gi, ⟨hI.loc.len, hI.loc.nodup, Keeps.refl _ _, fun b hb => .inl hb, hI.loc.blk⟩⟩
theorem Ep.rebase (hE : Ep w00 w0 own mine) (hI : Inv w0 own n σ ns a w) : Ep w00 w ns mine ∧ Mv (Lo S0 w00 w0 own mine) w0 (Lo S0 w00 w ns mine) w ∧ (∀ b, some b ∈ mine → w.heap[b]? = w0.heap[b]?) := by
  have hn : ∀ b, b < w0.heap.size → b ∉ own → b ∉ ns := fun b h1 h2 h3 => by
    rcases hI.loc.ge b h3 with h | h
    · exact h2 h
    · omega
  refine ⟨⟨hE.keeps hI, fun b hb => ⟨?_, hI.loc.lt hb⟩, fun b hb => ?_, hE.dis⟩, fun b hb hlt => ⟨⟨Nat.lt_of_lt_of_le hlt hI.loc.base.size, hn b hlt hb.2.1, hb.2.2⟩, hI.loc.base.block b hlt hb.2.1⟩, fun b hb => ?_⟩
  · rcases hI.loc.ge b hb with h | h
    · exact (hE.ow b h).1
    · exact Nat.le_trans hE.k.size h
  · obtain ⟨h1, h2, h3⟩ := hE.mi b hb
    exact ⟨h1, Nat.lt_of_lt_of_le h2 hI.loc.base.size, hn b h2 h3⟩
  · obtain ⟨h1, h2, h3⟩ := hE.mi b hb
    exact hI.loc.base.block b h2 h3
theorem Ep.step (hE : Ep w00 w ns mine) (hI : Inv w ns n σ ns a w) (hg : w.grownBy w1 row) (hrow : ∀ b, row = some b → some b ∈ mine) (hm : ∀ b, some b ∈ mine' → some b ∈ mine ∨ (w.heap.size ≤ b ∧ b < w1.heap.size))
    (hd : (mine'.filterMap id).Nodup) : Ep w00 w1 ns mine' ∧ Inv w1 ns n σ ns a w1 ∧ Mv (Lo S0 w00 w ns mine) w (Lo S0 w00 w1 ns mine') w1 ∧ (∀ b, some b ∈ mine → some b ≠ row → w1.heap[b]? = w.heap[b]?) := by
  have hns : ∀ b ∈ ns, some b ≠ row := fun b hb he => (hE.mi b (hrow b he.symm)).2.2 hb
  refine ⟨⟨⟨hg.os.trans hE.k.os, hg.tape.trans hE.k.tape, hg.output.trans hE.k.output, Nat.le_trans hE.k.size hg.size, fun b hb _ => (hg.block b (Nat.lt_of_lt_of_le hb hE.k.size) (fun he => ?_)).trans (hE.k.block b hb (by simp))⟩,
    fun b hb => ⟨(hE.ow b hb).1, Nat.lt_of_lt_of_le (hE.ow b hb).2 hg.size⟩, fun b hb => ?_, hd⟩,
    ⟨hI.size, hI.defers, hI.env, hI.ewf, hI.bwf, hI.gi, ⟨hI.loc.len, hI.loc.nodup, Keeps.refl _ _, fun b hb => .inl hb, fun k cs T hk => ?_⟩⟩,
    fun b hb hlt => ⟨⟨Nat.lt_of_lt_of_le hlt hg.size, hb.2.1, fun hh => ?_, hb.2.2.2⟩, hg.block b hlt (fun he => hb.2.2.1 (hrow b he.symm))⟩, fun b hb he => hg.block b (hE.mi b hb).2.1 he⟩
  · have := (hE.mi b (hrow b he.symm)).1; omega
  · rcases hm b hb with h | ⟨h1, h2⟩
    · obtain ⟨g1, g2, g3⟩ := hE.mi b h; exact ⟨g1, Nat.lt_of_lt_of_le g2 hg.size, g3⟩
    · exact ⟨Nat.le_trans hE.k.size h1, h2, fun hh => by have := hI.loc.lt hh; omega⟩
  · have hmem := hI.loc.mem (List.getElem?_eq_some_iff.1 hk).1
    rw [hg.block _ (hI.loc.lt hmem) (hns _ hmem)]; exact hI.loc.blk k cs T hk
  · rcases hm b hh with h | ⟨h1, _⟩
    · exact hb.2.2.1 h
    · omega
theorem grownBy_below (h : Below w.heap.size w w1) : w.grownBy w1 none := ⟨h.os, h.tape, h.output, h.size, fun k hk _ => h.block k hk⟩
end

/-- an element, or a variable, that lies at B -/
structure El {α : Type} (d : Kd α) (S : Nat → Prop) (w : World) (B : Addr) (x : α) (sv : SV) : Prop where
  cont : d.cont S w x sv
  at_ : S B.block
  cells : ∀ (j : Nat) (v : Value), (d.cells x sv)[j]? = some v → w.cell? (B.add j) = some v
theorem El.keep {α : Type} {d : Kd α} {S S' : Nat → Prop} {w w' : World} {B : Addr} {x : α} {sv : SV} (h : El d S w B x sv) (hk : Mv S w S' w') : El d S' w' B x sv := by
  have hl : B.block < w.heap.size := by
    have hj : 0 < (d.cells x sv).length := by rw [d.len]; exact d.pos
    have := World.block_lt_of_cell? w _ (h.cells 0 _ (List.getElem?_eq_getElem hj))
    rwa [add_block] at this
  refine ⟨d.keep h.cont hk, (hk _ h.at_ hl).1, fun j v hj => ?_⟩
  rw [World.cell?_of_block (w := w) (by rw [add_block]; exact (hk _ h.at_ hl).2)]; exact h.cells j v hj
theorem Arr.el {α : Type} [Inhabited α] {d : Kd α} {S : Nat → Prop} {w : World} {A : Option Addr} {xs : List α} (h : Arr d S w A xs) (i : Int) (g : Bool) (hb : g = true → inb i xs.length = true) :
    ∃ sv, (g = true → El d S w ((adr A).add (i.toNat * d.sz)) (rd xs i) sv) ∧ (g = true → A = some (adr A)) := by
  obtain ⟨sv, h1, h2, h3⟩ := h.get i g hb
  refine ⟨sv, fun hg => ⟨h1 hg, ?_, h3 hg⟩, h2⟩
  rw [add_block]
  obtain ⟨i0, i1⟩ := inb_spec (hb hg)
  exact (h.1 (by omega)).2
theorem ob_el {P : Program} {S0 : Nat → Prop} {w00 : World} {α : Type} {d : Kd α} {w : World} {own : List Nat} {mine : List (Option Nat)} {B : Addr} {x : α} {sv : SV} {g : Bool} (hE : g = true → El d (Lo S0 w00 w own mine) w B x sv) (off : Nat) (vs : List Value)
    (hs : ((d.cells x sv).drop off).take vs.length = vs) : (Ob.cell g (B.add off) vs).holds P w own := by
  intro hg
  have h := hE hg
  refine ⟨by rw [add_block]; exact h.at_.2.1, fun j y hj => ?_⟩
  rw [add_add]
  refine h.cells _ _ ?_
  rw [← hs, List.getElem?_take] at hj
  split at hj
  · rwa [List.getElem?_drop] at hj
  · cases hj

/-! ### rows of the call's own -/
structure Row {α : Type} (d : Kd α) (e : TypeId) (S : Nat → Prop) (w : World) (base : Nat) (A : Option Addr) (c : Nat) (l : List α) : Prop where
  own : ∃ xs, w.ownsRow base e d.sz (.slice A l.length c) l.length xs ∧ ∀ i x, l[i]? = some x → ∃ sv, d.cont S w x sv ∧ ∀ (j : Nat) (u : Value), (d.cells x sv)[j]? = some u → xs[i * d.sz + j]? = some u
section
variable {α : Type} {d : Kd α} {e : TypeId} {S S' : Nat → Prop} {w w' : World} {base : Nat} {A : Option Addr} {c : Nat} {l : List α}
theorem Row.nil : Row d e S w base none 0 ([] : List α) := ⟨[], World.ownsRow_nil _ _ _ _, fun i x h => by simp at h⟩
theorem Row.keep (h : Row d e S w base A c l) (hk : Mv S w S' w') (hb : ∀ b, rb A = some b → w'.heap[b]? = w.heap[b]?) : Row d e S' w' base A c l := by
  obtain ⟨xs, ⟨h1, h2⟩, h3⟩ := h
  refine ⟨xs, ⟨h1, ?_⟩, fun i x hi => let ⟨sv, q1, q2⟩ := h3 i x hi; ⟨sv, d.keep q1 hk, q2⟩⟩
  rcases h2 with h2 | ⟨g, cap, cur, hv, h4, h5, h6⟩
  · exact .inl h2
  · refine .inr ⟨g, cap, cur, hv, h4, ?_, h6⟩
    simp only [Value.slice.injEq] at hv
    rw [hb g (by rw [hv.1]; rfl)]; exact h5
theorem Row.lt (h : Row d e S w base A c l) {b : Nat} (hb : rb A = some b) : base ≤ b ∧ b < w.heap.size := by
  obtain ⟨xs, h1, _⟩ := h
  refine h1.lt b ?_
  cases A with
  | none => simp [rb] at hb
  | some a => simpa [rb, Value.ownBlock] using hb
theorem Row.arr (h : Row d e S w base A c l) (hS : ∀ b, S b → S' b) (hA : ∀ b, rb A = some b → S' b) : Arr d S' w A l ∧ l.length ≤ c := by
  obtain ⟨xs, h1, h3⟩ := h
  have hcells := fun g (hg : (Value.slice A l.length c).ownBlock = some g) => h1.cells hg
  obtain ⟨hlen, h2⟩ := h1
  refine ⟨⟨fun hl => ?_, fun i x hi => ?_⟩, ?_⟩
  · rcases h2 with ⟨_, h2⟩ | ⟨g, cap, cur, hv, _⟩
    · omega
    · simp only [Value.slice.injEq] at hv
      obtain ⟨rfl, _, _⟩ := hv
      exact ⟨rfl, hA _ rfl⟩
  · obtain ⟨sv, q1, q2⟩ := h3 i x hi
    refine ⟨sv, d.keep q1 (fun b hb _ => ⟨hS b hb, rfl⟩), fun j v hj => ?_⟩
    rcases h2 with ⟨_, h2⟩ | ⟨g, cap, cur, hv, _⟩
    · have := List.eq_nil_of_length_eq_zero h2; subst this; simp at hi
    · simp only [Value.slice.injEq] at hv
      obtain ⟨rfl, _, _⟩ := hv
      exact hcells g rfl _ _ (q2 j v hj)
  · rcases h2 with ⟨hv, h2⟩ | ⟨g, cap, cur, hv, _, _, h6, _⟩
    · omega
    · simp only [Value.slice.injEq] at hv
      omega
theorem Row.some_ (h : Row d e S w base A c l) (hl : 0 < l.length) : A = some (adr A) := ((h.arr (S' := fun _ => True) (fun _ _ => trivial) (fun _ _ => trivial)).1.1 hl).1
end
theorem Ep.ne {w00 w : World} {own : List Nat} {mine : List (Option Nat)} (hE : Ep w00 w own mine) {i j : Nat} (hij : i ≠ j) {r r' : Option Nat} (hi : mine[i]? = some r) (hj : mine[j]? = some r') {b : Nat} (hb : r' = some b) : some b ≠ r := by
  intro he
  subst hb
  subst he
  have key : ∀ (l : List (Option Nat)) (i j : Nat), (l.filterMap id).Nodup → l[i]? = some (some b) → l[j]? = some (some b) → i = j := by
    intro l
    induction l with
    | nil => intro i j _ h; simp at h
    | cons x r ih =>
      intro i j hd h1 h2
      have mem : ∀ k, r[k]? = some (some b) → b ∈ r.filterMap id := fun k hk => List.mem_filterMap.2 ⟨_, List.mem_of_getElem? hk, rfl⟩
      have hd' : (r.filterMap id).Nodup := by
        cases x with
        | none => simpa using hd
        | some y => simp only [List.filterMap_cons, id] at hd; exact (List.nodup_cons.1 hd).2
      cases i with
      | zero =>
        cases j with
        | zero => rfl
        | succ j =>
          simp only [List.getElem?_cons_zero, Option.some.injEq] at h1
          subst h1
          simp only [List.filterMap_cons, id] at hd
          exact absurd (mem j (by simpa using h2)) (List.nodup_cons.1 hd).1
      | succ i =>
        cases j with
        | zero =>
          simp only [List.getElem?_cons_zero, Option.some.injEq] at h2
          subst h2
          simp only [List.filterMap_cons, id] at hd
          exact absurd (mem i (by simpa using h1)) (List.nodup_cons.1 hd).1
        | succ j => rw [ih i j hd' (by simpa using h1) (by simpa using h2)]
  exact hij (key mine i j hE.dis hi hj)
section
variable {S0 : Nat → Prop} {w00 w0 w w1 w' : World} {own ns : List Nat} {mine mine' : List (Option Nat)} {n : Nat} {σ : S} {a : Act}
/-- what a call brought back -/
theorem Ep.res (hE : Ep w00 w ns mine) : Mv (fun b => w.heap.size ≤ b ∨ Lo S0 w00 w ns mine b) w' (Lo S0 w00 w' ns mine) w' := by
  intro b hb hlt
  refine ⟨?_, rfl⟩
  rcases hb with hb | hb
  · exact ⟨hlt, fun hh => by have := (hE.ow b hh).2; omega, fun hh => by have := (hE.mi b hh).2.1; omega, .inl (Nat.le_trans hE.k.size hb)⟩
  · exact ⟨hlt, hb.2⟩
/-- what is handed back -/
theorem Ep.out (hE : Ep w00 w0 own mine) (hI : Inv w0 own n σ ns a w) : Mv (Lo S0 w00 w0 own mine) w0 (fun b => w00.heap.size ≤ b ∨ S0 b) w := fun b hb hlt => ⟨hb.2.2.2, hI.loc.base.block b hlt hb.2.1⟩
/-- rows that are grown no more -/
theorem Ep.sub (hE : Ep w00 w ns mine) (hs : mine'.Sublist mine) : Ep w00 w ns mine' ∧ Mv (Lo S0 w00 w ns mine) w (Lo S0 w00 w ns mine') w :=
  ⟨⟨hE.k, hE.ow, fun b hb => hE.mi b (hs.subset hb), hE.dis.sublist (hs.filterMap id)⟩, fun b hb _ => ⟨⟨hb.1, hb.2.1, fun hh => hb.2.2.1 (hs.subset hh), hb.2.2.2⟩, rfl⟩⟩
theorem Row.on {α : Type} {d : Kd α} {e : TypeId} {base : Nat} {A : Option Addr} {c : Nat} {l : List α} (h : Row d e (Lo S0 w00 w0 own mine) w0 base A c l) (hE : Ep w00 w0 own mine) (hm : rb A ∈ mine) (hk : Keeps own w0 w) :
    Row d e (Lo S0 w00 w0 own mine) w base A c l := h.keep (Lo.on hk) fun b hb => by
  rw [hb] at hm
  exact hk.block b (hE.mi b hm).2.1 (hE.mi b hm).2.2
/-- a row that is grown no more is read as others are -/
theorem Row.done {α : Type} {d : Kd α} {e : TypeId} {base : Nat} {A : Option Addr} {c : Nat} {l : List α} (h : Row d e (Lo S0 w00 w ns mine) w base A c l) (hE : Ep w00 w ns mine) (hm : rb A ∈ mine) (hs : mine'.Sublist mine) (hn : rb A ∉ mine' ∨ rb A = none) :
    Arr d (Lo S0 w00 w ns mine') w A l ∧ l.length ≤ c := by
  refine h.arr (fun b hb => ⟨hb.1, hb.2.1, fun hh => hb.2.2.1 (hs.subset hh), hb.2.2.2⟩) (fun b hb => ?_)
  rw [hb] at hm hn
  refine ⟨(hE.mi b hm).2.1, (hE.mi b hm).2.2, ?_, .inl (hE.mi b hm).1⟩
  rcases hn with hn | hn
  · exact hn
  · cases hn
end

/-! ### single operations, at the list -/
section
variable {F : Fence} {m : Nat} {P : Program} {w00 w0 w w1 : World} {own : List Nat} {n : Nat} {σ σ1 σ2 : S} {ns : List Nat} {a : Act} {o : Oper} {orc orc' : List (List Value)} {obs : List Ob} {ops : Array Oper}
  {Q : Exit → Act → World → Prop} {rest : List Oper} {g : Path}
theorem wanted_of (hI : Inv w0 own n σ ns a w) (h : guardOf ops σ o.guard = some (σ1, g)) : Region.wanted o (yielded ops a.tmps) = pathB σ1.gv g := by
  rw [← (guardOf_sound hI h).2.2]; unfold Region.wanted gdB; cases o.guard <;> rfl
theorem wanted_none (h : o.guard = none) : Region.wanted o (yielded ops a.tmps) = true := by unfold Region.wanted; rw [h]
theorem special (hF : FOpen F) (hw : Region.wanted o (yielded ops a.tmps) = true) (hnd : ∀ c, o.op ≠ .defer c) {v : Value} (hrun : (execOp a.eval o).run P w = .ok (.value v) w1)
    (K : wpListIn F m P ops Q rest (a.put o.dst v) w1) : wpListIn F m P ops Q (o :: rest) a w := by
  unfold wpListIn
  rw [hw, if_pos rfl]
  refine ⟨fun f _ => hF.fn f, ?_⟩
  rw [Oper.semAt_plain F _ _ hnd, hrun]
  exact K
theorem special_skip (hF : FOpen F) (hw : Region.wanted o (yielded ops a.tmps) = true) (hnd : ∀ c, o.op ≠ .defer c) (hrun : (execOp a.eval o).run P w = .ok .skip w1)
    (K : wpListIn F m P ops Q rest (a.put o.dst undef) w1) : wpListIn F m P ops Q (o :: rest) a w := by
  unfold wpListIn
  rw [hw, if_pos rfl]
  refine ⟨fun f _ => hF.fn f, ?_⟩
  rw [Oper.semAt_plain F _ _ hnd, hrun]
  exact K
theorem skip1 (hF : FOpen F) (hI : Inv w0 own n σ ns a w) (hw : Region.wanted o (yielded ops a.tmps) = false) (σ2 : S) (hp : put1 σ n o.dst [] none = some σ2)
    (K : ∀ a', Inv w0 own n σ2 ns a' w → wpListIn F m P ops Q rest a' w) : wpListIn F m P ops Q (o :: rest) a w := by
  unfold wpListIn
  rw [hw]
  exact ⟨fun f _ => hF.fn f, K _ (put1_sound hI (g := []) (fun x hx => by simp at hx) hp (fun x hx => by cases hx))⟩
theorem put_v (hI : Inv w0 own n σ ns a w) {dst : Option Tmp} {v : Value} (σ2 : S) (hp : put1 σ n dst [] (some (.v v)) = some σ2) : Inv w0 own n σ2 ns (a.put dst v) w :=
  put1_sound hI (g := []) (fun x hx => by simp at hx) hp (fun x hx => by simp only [Option.some.injEq] at hx; subst hx; rfl)
theorem put_none (hI : Inv w0 own n σ ns a w) {dst : Option Tmp} {v : Value} (σ2 : S) (hp : put1 σ n dst [] none = some σ2) : Inv w0 own n σ2 ns (a.put dst v) w :=
  put1_sound hI (g := []) (fun x hx => by simp at hx) hp (fun x hx => by cases hx)
theorem specV (hI : Inv w0 own n σ ns a w) (hall : (allV σ.env [] o.op.operands && notSel o.op) = true) {s : Sem Value} {x : Value}
    (ho : execOp (rhoV σ.env []) o = (do pure (.value (← s)))) (hs : s.run P w = .ok x w1) : (execOp a.eval o).run P w = .ok (.value x) w1 := by
  rw [execOp_congr (ρ := a.eval) (ρ' := rhoV σ.env []) o (by intro cs b hh; rw [hh] at hall; simp [notSel] at hall) ?_]
  · rw [ho]; simp [Sem.run_bind, hs, Sem.run_pure]
  · intro y hy
    rw [Bool.and_eq_true] at hall
    have hall := hall.1
    unfold allV at hall
    rw [List.all_eq_true] at hall
    have := hall y (by simpa using hy)
    unfold rhoV
    cases hoe : oEnv σ.env [] y with
    | none => rw [hoe] at this; simp at this
    | some z =>
      rw [hoe] at this
      cases z with
      | v u => simp only; rw [hI.opnd hoe rfl]; rfl
      | p => simp at this
      | s => simp at this
      | f => simp at this
theorem specU (hI : Inv w0 own n σ ns a w) (hall : (allV σ.env [] o.op.operands && notSel o.op) = true) {s : Sem Unit}
    (ho : execOp (rhoV σ.env []) o = (do s; pure .skip)) (hs : s.run P w = .ok () w1) : (execOp a.eval o).run P w = .ok .skip w1 := by
  rw [execOp_congr (ρ := a.eval) (ρ' := rhoV σ.env []) o (by intro cs b hh; rw [hh] at hall; simp [notSel] at hall) ?_]
  · rw [ho]; simp [Sem.run_bind, hs, Sem.run_pure]
  · intro y hy
    rw [Bool.and_eq_true] at hall
    have hall := hall.1
    unfold allV at hall
    rw [List.all_eq_true] at hall
    have := hall y (by simpa using hy)
    unfold rhoV
    cases hoe : oEnv σ.env [] y with
    | none => rw [hoe] at this; simp at this
    | some z =>
      rw [hoe] at this
      cases z with
      | v u => simp only; rw [hI.opnd hoe rfl]; rfl
      | p => simp at this
      | s => simp at this
      | f => simp at this
/-! ### a piece of a region, up to an operation that is told by itself -/
def promote (g : Path) (σ : S) : S := { σ with env := σ.env.map fun x => bif endOf x.p g then { x with p := [] } else x }
theorem look_map {f : Ent → Ent} (hf : ∀ x, (f x).t = x.t) : ∀ (l : List Ent) (t : Nat), look (l.map f) t = (look l t).map f
  | [], t => rfl
  | x :: r, t => by
    simp only [List.map_cons, look, hf]
    cases Nat.beq x.t t
    · simp only [cond_false]; exact look_map hf r t
    · rfl
theorem Inv.promote (hI : Inv w0 own n σ ns a w) (hb : pathB σ.gv g = true) : Inv w0 own n (promote g σ) ns a w := by
  have ht : ∀ x : Ent, (bif endOf x.p g then { x with p := [] } else x).t = x.t := fun x => by cases endOf x.p g <;> rfl
  have he : ∀ x : Ent, (bif endOf x.p g then { x with p := [] } else x).e = x.e := fun x => by cases endOf x.p g <;> rfl
  refine ⟨hI.size, hI.defers, fun x hx => ?_, fun x hx => ?_, hI.bwf, fun x hx => ?_, hI.loc⟩
  · obtain ⟨y, hy, rfl⟩ := List.mem_map.1 hx
    have := hI.env y hy
    cases hh : endOf y.p g
    · exact this
    · rw [pathB_endOf hh hb] at this; exact this
  · obtain ⟨y, hy, rfl⟩ := List.mem_map.1 hx
    have := hI.ewf y hy
    cases hh : endOf y.p g
    · exact this
    · exact ⟨this.1, fun z hz => by simp at hz⟩
  · obtain ⟨y, c, h1, h2, h3⟩ := hI.gi x hx
    refine ⟨(bif endOf y.p g then { y with p := [] } else y), c, ?_, ?_, h3⟩
    · show look (σ.env.map _) x.1 = _
      rw [look_map ht, h1]; rfl
    · rw [he]; exact h2
def chunkT (P : Program) (ops : Array Oper) (n k : Nat) (gd : Option (Nat × Bool)) (liveT liveF : List Nat) (l : List Oper) (σ : S) (orc : List (List Value)) : Option (Bool × S × S × List Ob) :=
  match steps P ops n k l σ orc with
  | some (σ1, obs, []) =>
    match guardOf ops σ1 gd with
    | some (σ2, g) => match fin liveT (promote g σ2), fin liveF σ2 with | some σT, some σF => some (pathB σ2.gv g, σT, σF, obs) | _, _ => none
    | none => none
  | _ => none
theorem chunkT_ (hF : FOpen F) (k : Nat) {liveT liveF : List Nat} (hI : Inv w0 own n σ ns a w) (b : Bool) (σT σF : S) (obs : List Ob) {l : List Oper} (hr : l.drop k = o :: rest) (h : chunkT P ops n k o.guard liveT liveF l σ orc = some (b, σT, σF, obs)) (hob : Obs P w0 own obs)
    (KT : b = true → ∀ ns' a' w', Inv w0 own n σT ns' a' w' → Region.wanted o (yielded ops a'.tmps) = true → wpListIn F m P ops Q (o :: rest) a' w')
    (KF : b = false → ∀ ns' a' w', Inv w0 own n σF ns' a' w' → Region.wanted o (yielded ops a'.tmps) = false → wpListIn F m P ops Q (o :: rest) a' w') : wpListIn F m P ops Q l a w := by
  unfold chunkT at h
  split at h
  · rename_i σ1 obs1 hs
    split at h
    · rename_i σ2 g hg
      split at h
      · rename_i σT' σF' hT hFF
        simp only [Option.some.injEq, Prod.mk.injEq] at h
        obtain ⟨rfl, rfl, rfl, rfl⟩ := h
        refine steps_sound hF k l σ σ1 orc [] obs1 ns a w hI hs hob (fun ns' a' w' hI' hp => ?_)
        rw [hr]
        have hw := wanted_of hI' hg
        have hI2 := (guardOf_sound hI' hg).1
        cases hb : pathB σ2.gv g with
        | true => exact KT hb ns' a' w' ((hI2.promote hb).fin hT) (hw.trans hb)
        | false => exact KF hb ns' a' w' (hI2.fin hFF) (hw.trans hb)
      · cases h
    · cases h
  · cases h
/-- .. the operation unguarded -/
def chunkL (P : Program) (ops : Array Oper) (n k : Nat) (live : List Nat) (l : List Oper) (σ : S) (orc : List (List Value)) : Option (S × List Ob) :=
  match steps P ops n k l σ orc with
  | some (σ1, obs, []) => match fin live σ1 with | some σ2 => some (σ2, obs) | none => none
  | _ => none
theorem chunkL_ (hF : FOpen F) (k : Nat) {live : List Nat} (hI : Inv w0 own n σ ns a w) (σ2 : S) (obs : List Ob) {l : List Oper} (hr : l.drop k = rest) (h : chunkL P ops n k live l σ orc = some (σ2, obs)) (hob : Obs P w0 own obs)
    (K : ∀ ns' a' w', Inv w0 own n σ2 ns' a' w' → wpListIn F m P ops Q rest a' w') : wpListIn F m P ops Q l a w := by
  unfold chunkL at h
  split at h
  · rename_i σ1 obs1 hs
    cases hf : Eng.fin live σ1 with
    | none => rw [hf] at h; simp at h
    | some σ3 =>
      rw [hf] at h
      simp only [Option.some.injEq, Prod.mk.injEq] at h
      obtain ⟨rfl, rfl⟩ := h
      exact steps_sound hF k l σ σ1 orc [] obs1 ns a w hI hs hob (fun ns' a' w' hI' hp => by rw [hr]; exact K ns' a' w' (hI'.fin hf))
  · cases h
/-- a pick whose test is known -/
theorem pick1 (hF : FOpen F) (hI : Inv w0 own n σ ns a w) (hg : o.guard = none) {c x y : Operand} (hop : o.op = .pick c x y) (cb want : Bool) (hc : oEnv σ.env [] c = some (.v (.bool cb))) (hcb : cb = want) {v : Value}
    (he : oEnv σ.env [] (bif want then x else y) = some (.v v)) (σ2 : S) (hp : put1 σ n o.dst [] (some (.v v)) = some σ2) (K : ∀ a', Inv w0 own n σ2 ns a' w → wpListIn F m P ops Q rest a' w) : wpListIn F m P ops Q (o :: rest) a w := by
  subst hcb
  refine special hF (wanted_none hg) (by rw [hop]; intro c hc; cases hc) (v := v) ?_ (K _ (put_v hI σ2 hp))
  have h1 := hI.opnd hc rfl
  have h2 := hI.opnd he rfl
  unfold execOp
  rw [hop]
  cases cb with
  | true => simp only [cond_true] at h2; simp [h1, h2, EV.den, asBool, Sem.run_bind, Sem.run]
  | false => simp only [cond_false] at h2; simp [h1, h2, EV.den, asBool, Sem.run_bind, Sem.run]
/-- a call whose results lie in the heap -/
theorem call_ep (hF : FOpen F) (hI : Inv w0 own n σ ns a w) (hw : Region.wanted o (yielded ops a.tmps) = true) {f : FuncId} {es : List EV} {args : List Value} (hco : callOf σ [] o = some (f, es)) (hv : allVs es = some args)
    (hent : ∀ args w, (callFunc f args).run P w = .ok (.enter f args) w) {X : Type} (val : X → Value) (Rf : X → World → Prop)
    (hc : Calls P f args.toArray w fun e w' => ∃ x, e = .returned (val x) ∧ Below w.heap.size w w' ∧ Rf x w')
    (K : ∀ x w', Below w.heap.size w w' → Rf x w' → wpListIn F m P ops Q rest (a.put o.dst (val x)) w') : wpListIn F m P ops Q (o :: rest) a w := by
  unfold wpListIn
  rw [hw, if_pos rfl]
  obtain ⟨hnd, hrun⟩ := callOf_run hI rfl hco hent
  refine ⟨fun f _ => hF.fn f, ?_⟩
  rw [Oper.semAt_plain F _ _ hnd, hrun, Oper.uponIn_enter]
  refine ⟨fun hd => by rw [hF.depth] at hd; simp at hd, ?_⟩
  rw [allVs_den hv]
  refine (hF.calls hc).mono ?_
  rintro e w1 ⟨x, rfl, hb, hr⟩
  exact K x w1 hb hr
end
/-! ### making rows -/
section
variable {P : Program} {w w1 : World}
theorem run_info {t : TypeId} {i : TypeInfo} (h : P.info? t = some i) (w : World) : (typeInfo t).run P w = .ok i w := by
  unfold typeInfo
  simp only [Sem.run_bind]
  have : (program).run P w = .ok P w := rfl
  rw [this]
  simp [h, Sem.run]
theorem run_zero {t : TypeId} {i : TypeInfo} {z : Value} (h : P.info? t = some i) (hz : i.zero = some z) (w : World) : (zeroValue t).run P w = .ok z w := by
  unfold zeroValue
  simp only [Sem.run_bind, run_info h w, Result.andThen_ok, hz]
  rfl
/-- what a slice's literal lays -/
def bsl (P : Program) (t : TypeId) (len : Nat) (parts : Array (Nat × Value)) : Option (TypeId × List Value) :=
  match P.underlying t with
  | some (.slice e) =>
    match P.info? e with
    | some i =>
      match i.zero with
      | some z =>
        bif Nat.ble (len * i.size) 16777216 && !Nat.beq (len * i.size) 0 then
          match Instr.fill (fun k => some (k * i.size, i.size)) ((Array.range (len * i.size)).map fun k => z.cells[k % z.cells.size]!) parts.toList with
          | some cs => some (e, cs.toList)
          | none => none
        else none
      | none => none
    | none => none
  | _ => none
theorem run_underl {t : TypeId} {d : TypeDesc} (hu : P.underlying t = some d) (w : World) : (underlying t).run P w = .ok d w := run_under hu w
theorem bsl_run {t : TypeId} {len : Nat} {parts : Array (Nat × Value)} {e : TypeId} {cs : List Value} (h : bsl P t len parts = some (e, cs)) (w : World) :
    (Instr.buildSlice t len parts).run P w = .ok (.slice (some ⟨w.heap.size, 0, none⟩) len len) (w.alloc (.cells cs.toArray e)) := by
  unfold bsl at h
  split at h
  · rename_i e' hu
    split at h
    · rename_i i hi
      split at h
      · rename_i z hz
        simp only [Bool.cond_eq_ite] at h
        split at h
        · rename_i hb
          simp only [Bool.and_eq_true, Bool.not_eq_true'] at hb
          obtain ⟨hb1, hb2⟩ := hb
          have h1 := Nat.le_of_ble_eq_true hb1
          have h2 : ¬ len * i.size = 0 := fun hh => by rw [hh] at hb2; cases hb2
          split at h
          · rename_i cs' hf
            simp only [Option.some.injEq, Prod.mk.injEq] at h
            obtain ⟨rfl, rfl⟩ := h
            unfold Instr.buildSlice
            have hsz : (sizeOf e').run P w = .ok i.size w := by unfold sizeOf; simp [Sem.run_bind, run_info hi w, Sem.run]
            have hno : ¬ len * i.size > 2 ^ 24 := by omega
            simp only [Sem.run_bind, run_underl hu w, Result.andThen_ok, hsz, hno, if_false, h2, run_zero hi hz w, Sem.run_pure, hf]
            simp [newRow, newObj, Sem.run_bind, Sem.run]
          · cases h
        · cases h
      · cases h
    · cases h
  · cases h
end

/-! ### rows: made, and grown -/
section
variable {P : Program} {w w1 : World} {α : Type} {d : Kd α} {e : TypeId} {S : Nat → Prop} {base : Nat} {A : Option Addr} {c : Nat} {l : List α}
theorem grownBy_alloc (w : World) (o : Obj) : w.grownBy (w.alloc o) none := World.grownBy_alloc w o none
/-- a row that a literal laid: its elements' cells, one behind the other -/
theorem Row.lit (w : World) (base : Nat) (hb : base ≤ w.heap.size) (xs : List α) (svs : List SV) (cs : List Value) (hl : cs.length = xs.length * d.sz) (hm : xs.length ≤ maxLen)
    (hc : ∀ i x, xs[i]? = some x → d.cont S w x (svs.getD i (fun _ => (none, 0))) ∧ (cs.drop (i * d.sz)).take d.sz = d.cells x (svs.getD i (fun _ => (none, 0)))) {S' : Nat → Prop} (hk : Mv S w S' (w.alloc (.cells cs.toArray e))) :
    Row d e S' (w.alloc (.cells cs.toArray e)) base (some ⟨w.heap.size, 0, none⟩) xs.length xs := by
  refine ⟨cs, ⟨hl, .inr ⟨w.heap.size, xs.length, cs.toArray, rfl, hb, heap_alloc_new w _, Nat.le_refl _, hm, by simpa using hl, ?_⟩⟩, fun i x hi => ?_⟩
  · rw [← hl]; simp
  · obtain ⟨h1, h2⟩ := hc i x hi
    refine ⟨_, d.keep h1 hk, fun j u hj => ?_⟩
    rw [← h2, List.getElem?_take] at hj
    split at hj
    · rwa [List.getElem?_drop] at hj
    · cases hj
theorem set_mem {l1 l2 : List (Option Nat)} {r r' : Option Nat} (h : r' = r ∨ (r' = some w.heap.size ∧ w.heap.size < w1.heap.size)) : ∀ b, some b ∈ l1 ++ r' :: l2 → some b ∈ l1 ++ r :: l2 ∨ (w.heap.size ≤ b ∧ b < w1.heap.size) := by
  intro b hb
  simp only [List.mem_append, List.mem_cons] at hb ⊢
  rcases h with rfl | ⟨rfl, h⟩
  · exact .inl hb
  · rcases hb with hb | hb | hb
    · exact .inl (.inl hb)
    · simp only [Option.some.injEq] at hb; exact .inr ⟨by omega, by omega⟩
    · exact .inl (.inr (.inr hb))
theorem filt_app (l1 l2 : List (Option Nat)) : (l1 ++ l2).filterMap id = l1.filterMap id ++ l2.filterMap id := List.filterMap_append
theorem set_dis {w00 : World} {own : List Nat} {l1 l2 : List (Option Nat)} {r r' : Option Nat} (hE : Ep w00 w own (l1 ++ r :: l2)) (h : r' = r ∨ (r' = some w.heap.size ∧ w.heap.size < w1.heap.size)) : ((l1 ++ r' :: l2).filterMap id).Nodup := by
  rcases h with rfl | ⟨rfl, h⟩
  · exact hE.dis
  · have hd := hE.dis
    have hlt : ∀ b, some b ∈ l1 ++ r :: l2 → b < w.heap.size := fun b hb => (hE.mi b hb).2.1
    rw [filt_app] at hd ⊢
    have hd1 : (l1.filterMap id ++ l2.filterMap id).Nodup := by
      cases r with
      | none => simpa using hd
      | some b =>
        simp only [List.filterMap_cons, id] at hd
        exact hd.sublist (List.Sublist.append_left (List.sublist_cons_self _ _) _)
    simp only [List.filterMap_cons, id]
    have hn : ∀ x ∈ l1.filterMap id ++ l2.filterMap id, x ≠ w.heap.size := by
      intro x hx
      have : some x ∈ l1 ++ r :: l2 := by
        simp only [List.mem_append, List.mem_filterMap, id] at hx
        simp only [List.mem_append, List.mem_cons]
        rcases hx with ⟨y, hy, rfl⟩ | ⟨y, hy, rfl⟩
        · exact .inl hy
        · exact .inr (.inr hy)
      have := hlt x this; omega
    rw [List.nodup_append] at hd1 ⊢
    obtain ⟨p1, p2, p3⟩ := hd1
    refine ⟨p1, List.nodup_cons.2 ⟨fun hh => hn _ (by simp only [List.mem_append]; exact .inr hh) rfl, p2⟩, fun x hx y hy => ?_⟩
    rcases List.mem_cons.1 hy with rfl | hy
    · exact hn x (by simp only [List.mem_append]; exact .inl hx)
    · exact p3 x hx y hy
/-- one more, at the end of a row -/
theorem append1_run {t ty : TypeId} {i : TypeInfo} {z : Value} (ht : P.underlying t = some (.slice e)) (hi : P.info? e = some i) (hz : i.zero = some z) (hs : i.size = d.sz) (hzs : z.cells.size = d.sz)
    (h : Row d e S w base A c l) (hbase : base ≤ w.heap.size) {ad : Addr} {c2 : Nat} {x : α} {sv : SV} {S2 : Nat → Prop} (hx : d.cont S w x sv) (hcx : ∀ (j : Nat) (v : Value), (d.cells x sv)[j]? = some v → w.cell? (ad.add j) = some v)
    (h1 : ∀ u ∈ d.cells x sv, u.oneCell' = true) (hb1 : l.length + 1 ≤ maxLen) (hb2 : (l.length + 1) * i.bytes ≤ 140737488355328) :
    ∃ A' c' w1, (Builtin.append_ #[t, t] ty #[.slice A l.length c, .slice (some ad) 1 c2]).run P w = .ok (.slice A' (l ++ [x]).length c') w1 ∧ w.grownBy w1 (rb A) ∧
      (rb A' = rb A ∨ (rb A' = some w.heap.size ∧ w.heap.size < w1.heap.size)) ∧ ∀ S', Mv S w S' w1 → Row d e S' w1 base A' c' (l ++ [x]) := by
  obtain ⟨xs, hown, h3⟩ := h
  obtain ⟨v', w1, hrun, q1, q2, q3, q4⟩ := run_append_own_at (P := P) w base t ty e i z d.sz i.bytes ht hi hz hs rfl hzs d.pos _ _ xs hown ad 1 c2 (d.cells x sv) (by rw [d.len]; simp) hcx h1 hb1 hb2 hbase
  have hlen : (l ++ [x]).length = l.length + 1 := by simp
  have hrb : (Value.slice A l.length c).ownBlock = rb A := by cases A <;> rfl
  rw [hrb] at q2 q4
  obtain ⟨A', c', rfl⟩ : ∃ A' c', v' = .slice A' (l.length + 1) c' := by
    rcases q1.2 with ⟨_, hh⟩ | ⟨g, cap, cur, rfl, _⟩
    · omega
    · exact ⟨_, _, rfl⟩
  have hrb' : (Value.slice A' (l.length + 1) c').ownBlock = rb A' := by cases A' <;> rfl
  rw [hrb'] at q4
  refine ⟨A', c', w1, by rw [hlen]; exact hrun, q2, ?_, fun S' hk => ⟨_, by rw [hlen]; exact q1, fun k y hy => ?_⟩⟩
  · rcases q4 with q4 | q4
    · exact .inl q4
    · exact .inr ⟨q4, (q1.lt _ (hrb'.trans q4)).2⟩
  · rcases Nat.lt_or_ge k l.length with hlt | hge
    · rw [List.getElem?_append_left hlt] at hy
      obtain ⟨sv', g1, g2⟩ := h3 k y hy
      refine ⟨sv', d.keep g1 hk, fun j u hj => ?_⟩
      have := g2 j u hj
      rw [List.getElem?_append_left (List.getElem?_eq_some_iff.1 this).1]
      exact this
    · have hk0 : k = l.length := by
        have := (List.getElem?_eq_some_iff.1 hy).1; simp at this; omega
      subst hk0
      rw [List.getElem?_append_right (Nat.le_refl _)] at hy
      simp only [Nat.sub_self, List.getElem?_cons_zero, Option.some.injEq] at hy
      subst hy
      refine ⟨sv, d.keep hx hk, fun j u hj => ?_⟩
      rw [List.getElem?_append_right (by rw [hown.1]; omega), hown.1, Nat.add_sub_cancel_left]
      exact hj
end
def zinf (P : Program) (e : TypeId) : Option (Value × Nat × Nat) := match P.info? e with | some i => (match i.zero with | some z => some (z, i.size, i.bytes) | none => none) | none => none
theorem zinf_spec {P : Program} {e : TypeId} {zi : Value × Nat × Nat} (h : zinf P e = some zi) : ∃ i, P.info? e = some i ∧ i.zero = some zi.1 ∧ i.size = zi.2.1 ∧ i.bytes = zi.2.2 := by
  unfold zinf at h
  split at h
  · rename_i i hi
    split at h
    · rename_i z hz; simp only [Option.some.injEq] at h; subst h; exact ⟨i, hi, hz, rfl, rfl⟩
    · cases h
  · cases h
/-! ### maps with keys of an integer kind -/
def mget {β : Type} : List (Int × β) → Int → Option β
  | [], _ => none
  | (k, v) :: r, q => if q = k then some v else mget r q
def mset {β : Type} : List (Int × β) → Int → β → List (Int × β)
  | [], q, x => [(q, x)]
  | (k, v) :: r, q, x => if q = k then (k, x) :: r else (k, v) :: mset r q x
structure MapIs {β : Type} (k : IntKind) (enc : β → Value) (w : World) (b : Nat) (m : List (Int × β)) : Prop where
  is : ∃ es clock, w.heap[b]? = some (.map es clock) ∧ es.toList.map (fun e => (e.key, e.val)) = m.map (fun p => (.int k p.1, enc p.2))
section
variable {P : Program} {w w1 : World} {β : Type} {kk : IntKind} {enc : β → Value} {b : Nat} {mm : List (Int × β)}
theorem MapIs.keep (h : MapIs kk enc w b mm) (hb : w1.heap[b]? = w.heap[b]?) : MapIs kk enc w1 b mm := by
  obtain ⟨es, cl, h1, h2⟩ := h
  exact ⟨es, cl, hb.trans h1, h2⟩
theorem findNow_int {k : Int} : ∀ (es : List MapEntry) (mm : List (Int × β)) (i : Nat), es.map (fun e => (e.key, e.val)) = mm.map (fun p => (.int kk p.1, enc p.2)) →
    ∃ r, Instr.findNow (.int kk) (.int kk k) es i = some r ∧ (mget mm k = none → r = none) ∧ (∀ v, mget mm k = some v → ∃ j e, r = some (i + j, enc v) ∧ es[j]? = some e ∧ e.key = .int kk k ∧
      ∀ x, (es.modify j fun e => { e with key := .int kk k, val := enc x }).map (fun e => (e.key, e.val)) = (mset mm k x).map (fun p => (.int kk p.1, enc p.2)))
  | [], mm, i, h => by
    have : mm = [] := by cases mm <;> simp_all
    subst this
    exact ⟨none, rfl, fun _ => rfl, fun v hv => by simp [mget] at hv⟩
  | e :: es, [], i, h => by simp at h
  | e :: es, (q, v) :: mm, i, h => by
    simp only [List.map_cons, List.cons.injEq, Prod.mk.injEq] at h
    obtain ⟨⟨hk, hv⟩, ht⟩ := h
    by_cases hq : k = q
    · subst hq
      refine ⟨some (i, e.val), ?_, fun hn => by simp [mget] at hn, fun v' hv' => ?_⟩
      · simp [Instr.findNow, hk, Instr.sameNow]
      · simp only [mget, if_true, Option.some.injEq] at hv'
        subst hv'
        refine ⟨0, e, by rw [hv]; rfl, rfl, hk, fun x => ?_⟩
        simp [mset, ht]
    · obtain ⟨r, h1, h2, h3⟩ := findNow_int es mm (i + 1) ht
      refine ⟨r, ?_, fun hn => h2 (by simpa [mget, hq] using hn), fun v' hv' => ?_⟩
      · have : (k == q) = false := by simpa using hq
        simp [Instr.findNow, hk, Instr.sameNow, this, h1]
      · obtain ⟨j, e', g1, g2, g3, g4⟩ := h3 v' (by simpa [mget, hq] using hv')
        refine ⟨j + 1, e', by rw [g1]; congr 2; omega, by simpa using g2, g3, fun x => ?_⟩
        have := g4 x
        simp [mset, hq, hk, hv, this]
theorem checkKey_int {t : TypeId} {b : Bool} {v : Value} (ht : P.underlying t = some (.int kk)) (w : World) : (Instr.checkKey b 10000 t v).run P w = .ok () w := by
  unfold Instr.checkKey
  simp only [Sem.run_bind, run_under ht w, Result.andThen_ok]
  cases v <;> rfl
theorem findKey_int {t : TypeId} {es : List MapEntry} {k : Int} {r : Option (Nat × Value)} (ht : P.underlying t = some (.int kk)) (h : Instr.findNow (.int kk) (.int kk k) es 0 = some r) (w : World) : (Instr.findKey t (.int kk k) es).run P w = .ok r w := by
  unfold Instr.findKey
  simp only [Sem.run_bind, run_under ht w, Result.andThen_ok, h]
  rfl
theorem lookup_run {t tk te : TypeId} {zi : Value × Nat × Nat} {z : β} (ht : P.underlying t = some (.map tk te)) (hk : P.underlying tk = some (.int kk)) (hzi : zinf P te = some zi) (hze : zi.1 = enc z) (h : MapIs kk enc w b mm) (k : Int) (ok : Bool) :
    (Instr.lookup t (.map (some b)) (.int kk k) ok).run P w = .ok (if ok then .tuple #[enc ((mget mm k).getD z), .bool (mget mm k).isSome] else enc ((mget mm k).getD z)) w := by
  obtain ⟨i, hi, hz, _, _⟩ := zinf_spec hzi
  rw [hze] at hz
  obtain ⟨es, cl, h1, h2⟩ := h
  obtain ⟨r, hr, hn, hs⟩ := findNow_int (k := k) es.toList mm 0 h2
  unfold Instr.lookup
  have hg : (getObj b).run P w = .ok (.map es cl) w := by unfold getObj; simp [Sem.run, h1]
  simp only [Sem.run_bind, run_under ht w, Result.andThen_ok, hg, Sem.run_pure, checkKey_int hk w, findKey_int hk hr w]
  cases hm : mget mm k with
  | none =>
    rw [hn hm]
    simp only [Sem.run_bind, run_zero hi hz w, Result.andThen_ok, Sem.run_pure]
    cases ok <;> simp [Sem.run_pure, Option.getD]
  | some v =>
    obtain ⟨j, e, g1, _⟩ := hs v hm
    rw [g1]
    simp only [Sem.run_pure, Result.andThen_ok]
    cases ok <;> simp [Sem.run_pure, Option.getD]
theorem mapUpdate_run {t tk te : TypeId} (ht : P.underlying t = some (.map tk te)) (hk : P.underlying tk = some (.int kk)) (h : MapIs kk enc w b mm) (k : Int) (x : β) :
    ∃ w1, (Instr.mapUpdate t (.map (some b)) (.int kk k) (enc x)).run P w = .ok () w1 ∧ w.grownBy w1 (some b) ∧ MapIs kk enc w1 b (mset mm k x) := by
  obtain ⟨es, cl, h1, h2⟩ := h
  obtain ⟨r, hr, hn, hs⟩ := findNow_int (k := k) es.toList mm 0 h2
  have hbl := (Array.getElem?_eq_some_iff.1 h1).1
  have hg : (getObj b).run P w = .ok (.map es cl) w := by unfold getObj; simp [Sem.run, h1]
  have hset : ∀ o, ∃ w1, (setObj b o).run P w = .ok () w1 ∧ w.grownBy w1 (some b) ∧ w1.heap[b]? = some o := by
    intro o
    refine ⟨{ w with heap := w.heap.setIfInBounds b o }, by unfold setObj; simp [Sem.run, h1], ⟨rfl, rfl, rfl, by simp, fun k hk hne => ?_⟩, by simp [hbl]⟩
    simp only [Array.getElem?_setIfInBounds]
    rw [if_neg (fun hh => hne (by rw [hh]))]
  unfold Instr.mapUpdate
  simp only [Sem.run_bind, run_under ht w, Result.andThen_ok, hg, checkKey_int hk w, findKey_int hk hr w]
  cases hm : mget mm k with
  | none =>
    rw [hn hm]
    obtain ⟨w1, g1, g2, g3⟩ := hset (.map (es.push { key := .int kk k, val := enc x, born := cl }) (cl + 1))
    refine ⟨w1, g1, g2, _, _, g3, ?_⟩
    have : mset mm k x = mm ++ [(k, x)] := by
      clear h2 hr hn hs hset g3
      induction mm with
      | nil => rfl
      | cons p r ih =>
        obtain ⟨q, v⟩ := p
        simp only [mget] at hm
        split at hm
        · cases hm
        · rename_i hq; simp [mset, hq, ih hm]
    rw [this]
    simp [h2]
  | some v =>
    obtain ⟨j, e, q1, q2, q3, q4⟩ := hs v hm
    rw [q1]
    have hkeep : (Instr.keyThatStays e.key (.int kk k)).run P w = .ok (.int kk k) w := by
      unfold Instr.keyThatStays
      rw [q3]
      have : Instr.sameBits 10000 (.int kk k) (.int kk k) = true := by simp [Instr.sameBits]
      simp [this, Sem.run_pure]
    have hj : es[0 + j]? = some e := by rw [Nat.zero_add]; simpa using q2
    obtain ⟨w1, g1, g2, g3⟩ := hset (.map (es.modify (0 + j) fun e => { e with key := .int kk k, val := enc x }) cl)
    simp only [hj, Option.map_some, Option.getD_some, Sem.run_bind, hkeep, Result.andThen_ok]
    refine ⟨w1, g1, g2, _, _, g3, ?_⟩
    have := q4 x
    rw [Nat.zero_add]
    rw [← this]
    simp
theorem Instr.makeMap_run (t : TypeId) (w : World) : (Instr.makeMap t none).run P w = .ok (.map (some w.heap.size)) (w.alloc (.map #[] 0)) := rfl
theorem MapIs.new (w : World) : MapIs kk enc (w.alloc (.map #[] 0)) w.heap.size ([] : List (Int × β)) := ⟨#[], 0, heap_alloc_new w _, rfl⟩
/-- one more of the call's own -/
theorem add_mem {mine : List (Option Nat)} (h : w.heap.size < w1.heap.size) : ∀ b, some b ∈ mine ++ [some w.heap.size] → some b ∈ mine ∨ (w.heap.size ≤ b ∧ b < w1.heap.size) := by
  intro b hb
  simp only [List.mem_append, List.mem_singleton, Option.some.injEq] at hb
  rcases hb with hb | rfl
  · exact .inl hb
  · exact .inr ⟨Nat.le_refl _, h⟩
theorem add_dis {w00 : World} {own : List Nat} {mine : List (Option Nat)} (hE : Ep w00 w own mine) : ((mine ++ [some w.heap.size]).filterMap id).Nodup := by
  rw [filt_app, List.nodup_append]
  refine ⟨hE.dis, by simp, fun x hx y hy => ?_⟩
  simp only [List.filterMap_cons, id, List.filterMap_nil, List.mem_singleton] at hy
  subst hy
  simp only [List.mem_filterMap, id] at hx
  obtain ⟨z, hz, rfl⟩ := hx
  have := (hE.mi x hz).2.1
  omega
theorem same_mem {mine : List (Option Nat)} : ∀ b, some b ∈ mine → some b ∈ mine ∨ (w.heap.size ≤ b ∧ b < w1.heap.size) := fun _ h => .inl h
end

/-! ### a variable that is written no more lies still -/
def addO (B : Addr) : Nat → Addr
  | 0 => B
  | o + 1 => B.add (o + 1)
def frI (k j : Nat) : Nat := bif Nat.blt k j then j - 1 else j
def frS (k : Nat) (B : Addr) : Sum Value (Nat × Nat) → Sum Value (Nat × Nat)
  | .inl v => .inl v
  | .inr (j, off) => bif Nat.beq j k then .inl (.pointer (some (addO B off))) else .inr (frI k j, off)
def frE (k : Nat) (B : Addr) : EV → EV
  | .v x => .v x
  | .p j off => bif Nat.beq j k then .v (.pointer (some (addO B off))) else .p (frI k j) off
  | .s j off n c => bif Nat.beq j k then .v (.slice (some (addO B off)) n c) else .s (frI k j) off n c
  | .f fn a b => .f fn (a.map (frS k B)) (b.map (frS k B))
def frz (k : Nat) (B : Addr) (σ : S) : S := ⟨σ.env.map fun x => { x with e := frE k B x.e }, σ.gv, σ.gi, (σ.bs.eraseIdx k).map fun x => (x.1.map (frE k B), x.2)⟩
theorem addO_at (b off : Nat) : addO ⟨b, 0, none⟩ off = ⟨b, off, none⟩ := by
  cases off with
  | zero => rfl
  | succ o => simp only [addO, add_at]; congr 1; omega
theorem frI_getD {ns : List Nat} {k j : Nat} (h : j ≠ k) : (ns.eraseIdx k).getD (frI k j) 0 = ns.getD j 0 := by
  unfold frI
  rw [List.getD_eq_getElem?_getD, List.getD_eq_getElem?_getD, List.getElem?_eraseIdx]
  cases hb : Nat.blt k j
  · have : ¬ k < j := fun hh => by rw [show Nat.blt k j = true by simpa using hh] at hb; cases hb
    simp only [cond_false]
    rw [if_pos (by omega)]
  · have : k < j := by simpa using hb
    simp only [cond_true]
    rw [if_neg (by omega), show j - 1 + 1 = j by omega]
theorem frS_den {ns : List Nat} {k : Nat} {B : Addr} (hB : B = ⟨ns.getD k 0, 0, none⟩) (x : Sum Value (Nat × Nat)) : den1 (ns.eraseIdx k) (frS k B x) = den1 ns x := by
  cases x with
  | inl => rfl
  | inr p =>
    obtain ⟨j, off⟩ := p
    simp only [frS]
    cases hb : Nat.beq j k
    · have : j ≠ k := fun hh => by subst hh; simp at hb
      simp only [cond_false, den1, frI_getD this]
    · have := Nat.eq_of_beq_eq_true hb
      subst this
      simp only [cond_true, den1, hB, addO_at]
theorem frE_den {ns : List Nat} {k : Nat} {B : Addr} (hB : B = ⟨ns.getD k 0, 0, none⟩) (e : EV) : (frE k B e).den (ns.eraseIdx k) = e.den ns := by
  cases e with
  | v => rfl
  | p j off =>
    simp only [frE]
    cases hb : Nat.beq j k
    · have : j ≠ k := fun hh => by subst hh; simp at hb
      simp only [cond_false, EV.den, frI_getD this]
    · have := Nat.eq_of_beq_eq_true hb
      subst this
      simp only [cond_true, EV.den, hB, addO_at]
  | s j off n c =>
    simp only [frE]
    cases hb : Nat.beq j k
    · have : j ≠ k := fun hh => by subst hh; simp at hb
      simp only [cond_false, EV.den, frI_getD this]
    · have := Nat.eq_of_beq_eq_true hb
      subst this
      simp only [cond_true, EV.den, hB, addO_at]
  | f fn a b =>
    simp only [frE, EV.den, List.map_map]
    rw [List.map_congr_left (fun x _ => show (den1 (ns.eraseIdx k) ∘ frS k B) x = den1 ns x from frS_den hB x), List.map_congr_left (l := b) (fun x _ => show (den1 (ns.eraseIdx k) ∘ frS k B) x = den1 ns x from frS_den hB x)]
theorem frI_lt {k j m : Nat} (hk : k < m) (h : j < m) (hne : j ≠ k) : frI k j < m - 1 := by
  unfold frI
  cases hb : Nat.blt k j
  · have : ¬ k < j := fun hh => by rw [show Nat.blt k j = true by simpa using hh] at hb; cases hb
    simp only [cond_false]; omega
  · have : k < j := by simpa using hb
    simp only [cond_true]; omega
theorem frS_wf {k m : Nat} (hk : k < m) {B : Addr} (x : Sum Value (Nat × Nat)) (h : (match x with | .inl _ => true | .inr (k, _) => Nat.blt k m) = true) : (match frS k B x with | .inl _ => true | .inr (k, _) => Nat.blt k (m - 1)) = true := by
  cases x with
  | inl => rfl
  | inr p =>
    obtain ⟨j, off⟩ := p
    simp only [frS]
    cases hb : Nat.beq j k
    · have hne : j ≠ k := fun hh => by subst hh; simp at hb
      have hj : j < m := by simpa using h
      simpa using frI_lt hk hj hne
    · rfl
theorem frE_wf {k m : Nat} (hk : k < m) {B : Addr} {e : EV} (h : e.wf m = true) : (frE k B e).wf (m - 1) = true := by
  cases e with
  | v => rfl
  | p j off =>
    simp only [frE]
    cases hb : Nat.beq j k
    · have hne : j ≠ k := fun hh => by subst hh; simp at hb
      have hj : j < m := by simpa [EV.wf] using h
      simpa [EV.wf] using frI_lt hk hj hne
    · rfl
  | s j off n c =>
    simp only [frE]
    cases hb : Nat.beq j k
    · have hne : j ≠ k := fun hh => by subst hh; simp at hb
      have hj : j < m := by simpa [EV.wf] using h
      simpa [EV.wf] using frI_lt hk hj hne
    · rfl
  | f fn a b =>
    simp only [EV.wf, Bool.and_eq_true, List.all_eq_true] at h
    simp only [frE, EV.wf, Bool.and_eq_true, List.all_eq_true, List.mem_map]
    exact ⟨fun x ⟨y, hy, e⟩ => e ▸ frS_wf hk y (h.1 y hy), fun x ⟨y, hy, e⟩ => e ▸ frS_wf hk y (h.2 y hy)⟩
section
variable {S0 : Nat → Prop} {w00 w : World} {ns : List Nat} {mine l1 l2 : List (Option Nat)} {n : Nat} {σ : S} {a : Act} {α : Type} {d : Kd α}
theorem freeze_ (hE : Ep w00 w ns mine) (hI : Inv w ns n σ ns a w) (k : Nat) (x : α) (sv : SV) (T : TypeId) (hk : σ.bs[k]? = some ((d.cells x sv).map EV.v, T)) :
    ∃ (B : Addr) (ns' : List Nat), Ep w00 w ns' mine ∧ Inv w ns' n (frz k B σ) ns' a w ∧ Mv (Lo S0 w00 w ns mine) w (Lo S0 w00 w ns' mine) w ∧ (d.cont (Lo S0 w00 w ns mine) w x sv → El d (Lo S0 w00 w ns' mine) w B x sv) := by
  have hkl : k < σ.bs.length := (List.getElem?_eq_some_iff.1 hk).1
  have hkn : k < ns.length := by rw [hI.loc.len]; exact hkl
  have hmem : ns.getD k 0 ∈ ns := hI.loc.mem hkl
  have hsub : ∀ b, b ∈ ns.eraseIdx k → b ∈ ns := fun b hb => (List.eraseIdx_sublist _ _).subset hb
  have hget : ns.getD k 0 = ns[k] := by rw [List.getD_eq_getElem?_getD, List.getElem?_eq_getElem hkn]; rfl
  have hnot : ns.getD k 0 ∉ ns.eraseIdx k := by
    rw [hget]
    intro hh
    obtain ⟨j, hj, he⟩ := List.getElem_of_mem hh
    rw [List.getElem_eraseIdx] at he
    have hp := List.pairwise_iff_getElem.1 hI.loc.nodup
    split at he
    · exact hp j k _ hkn (by omega) he
    · exact hp k (j + 1) hkn _ (by omega) he.symm
  have hden : ∀ e, (frE k ⟨ns.getD k 0, 0, none⟩ e).den (ns.eraseIdx k) = e.den ns := frE_den rfl
  have hlen : (frz k ⟨ns.getD k 0, 0, none⟩ σ).bs.length = σ.bs.length - 1 := by simp [frz, List.length_eraseIdx, hkl]
  have hMv : Mv (Lo S0 w00 w ns mine) w (Lo S0 w00 w (ns.eraseIdx k) mine) w := fun b hb _ => ⟨⟨hb.1, fun hh => hb.2.1 (hsub b hh), hb.2.2⟩, rfl⟩
  refine ⟨⟨ns.getD k 0, 0, none⟩, ns.eraseIdx k, ⟨hE.k, fun b hb => hE.ow b (hsub b hb), fun b hb => ⟨(hE.mi b hb).1, (hE.mi b hb).2.1, fun hh => (hE.mi b hb).2.2 (hsub b hh)⟩, hE.dis⟩, ⟨hI.size, hI.defers, ?_, ?_, ?_, ?_, ?_⟩, hMv, fun hc => ?_⟩
  · intro y hy
    obtain ⟨z, hz, rfl⟩ := List.mem_map.1 hy
    simp only [hden]
    exact hI.env z hz
  · intro y hy
    obtain ⟨z, hz, rfl⟩ := List.mem_map.1 hy
    rw [hlen]
    exact ⟨frE_wf hkl (hI.ewf z hz).1, (hI.ewf z hz).2⟩
  · intro y hy e he
    obtain ⟨z, hz, rfl⟩ := List.mem_map.1 hy
    obtain ⟨e', he', rfl⟩ := List.mem_map.1 he
    rw [hlen]
    exact frE_wf hkl (hI.bwf z ((List.eraseIdx_sublist _ _).subset hz) e' he')
  · intro y hy
    obtain ⟨z, c, h1, h2, h3⟩ := hI.gi y hy
    refine ⟨{ z with e := frE k ⟨ns.getD k 0, 0, none⟩ z.e }, c, ?_, by simp only [h2, frE], h3⟩
    show look (σ.env.map _) y.1 = _
    rw [look_map (f := fun x => { x with e := frE k ⟨ns.getD k 0, 0, none⟩ x.e }) (fun _ => rfl), h1]; rfl
  · refine ⟨by rw [hlen, List.length_eraseIdx, if_pos hkn, hI.loc.len], List.Nodup.sublist (List.eraseIdx_sublist _ _) hI.loc.nodup, Keeps.refl _ _, fun b hb => .inl hb, fun j cs T hj => ?_⟩
    simp only [frz, List.getElem?_map, Option.map_eq_some_iff, Prod.mk.injEq] at hj
    obtain ⟨⟨cs', T'⟩, hj, rfl, rfl⟩ := hj
    simp only [List.map_map]
    rw [List.map_congr_left (fun e _ => show (EV.den (ns.eraseIdx k) ∘ frE k ⟨ns.getD k 0, 0, none⟩) e = e.den ns from hden e)]
    rw [List.getElem?_eraseIdx] at hj
    rw [List.getD_eq_getElem?_getD, List.getElem?_eraseIdx]
    split at hj
    · rename_i hlt; rw [if_pos hlt, ← List.getD_eq_getElem?_getD]; exact hI.loc.blk _ _ _ hj
    · rename_i hlt; rw [if_neg hlt, ← List.getD_eq_getElem?_getD]; exact hI.loc.blk _ _ _ hj
  · refine ⟨d.keep hc hMv, ⟨hI.loc.lt hmem, hnot, fun hh => (hE.mi _ hh).2.2 hmem, .inl (hE.ow _ hmem).1⟩, fun j v hj => ?_⟩
    rw [add_at, Nat.zero_add]
    exact hI.loc.cell hk (e := .v v) (by rw [List.getElem?_map, hj]; rfl)
theorem Ep.gone {r : Option Nat} {own : List Nat} (hE : Ep w00 w own (l1 ++ r :: l2)) : r ∉ l1 ++ l2 ∨ r = none := by
  cases r with
  | none => exact .inr rfl
  | some b =>
    left
    intro hh
    have hd := hE.dis
    rw [filt_app, List.nodup_append] at hd
    obtain ⟨_, h2, h3⟩ := hd
    simp only [List.filterMap_cons, id] at h2 h3
    rcases List.mem_append.1 hh with h | h
    · exact h3 b (List.mem_filterMap.2 ⟨_, h, rfl⟩) b (by simp) rfl
    · exact (List.nodup_cons.1 h2).1 (List.mem_filterMap.2 ⟨_, h, rfl⟩)
theorem sub_one (l1 l2 : List (Option Nat)) (r : Option Nat) : (l1 ++ l2).Sublist (l1 ++ r :: l2) := List.Sublist.append_left (List.sublist_cons_self _ _) _
theorem Row.still {e : TypeId} {base c : Nat} {A : Option Addr} {l : List α} (h : Row d e (Lo S0 w00 w ns (l1 ++ rb A :: l2)) w base A c l) (hE : Ep w00 w ns (l1 ++ rb A :: l2)) :
    Ep w00 w ns (l1 ++ l2) ∧ Mv (Lo S0 w00 w ns (l1 ++ rb A :: l2)) w (Lo S0 w00 w ns (l1 ++ l2)) w ∧ Arr d (Lo S0 w00 w ns (l1 ++ l2)) w A l ∧ l.length ≤ c :=
  have h1 := hE.sub (S0 := S0) (sub_one l1 l2 (rb A))
  have h2 := h.done hE (by simp) (sub_one l1 l2 (rb A)) hE.gone
  ⟨h1.1, h1.2, h2.1, h2.2⟩
end

/-! ### operations that lay blocks, whole -/
section
variable {F : Fence} {m : Nat} {P : Program} {S0 : Nat → Prop} {w00 w : World} {mine l1 l2 : List (Option Nat)} {n : Nat} {σ : S} {ns : List Nat} {a : Act} {o : Oper} {ops : Array Oper}
  {Q : Exit → Act → World → Prop} {rest : List Oper} {α : Type} {d : Kd α} {e : TypeId}
theorem buildSlice_ (hF : FOpen F) (hE : Ep w00 w ns mine) (hI : Inv w ns n σ ns a w) (hw : Region.wanted o (yielded ops a.tmps) = true) {t : TypeId} {len : Nat} {ps : Array (Nat × Operand)} (hop : o.op = .buildSlice t len ps)
    (hall : (allV σ.env [] o.op.operands && notSel o.op) = true) {cs : List Value} (hb : bsl P t len (ps.map fun p => (p.1, rhoV σ.env [] p.2)) = some (e, cs)) (xs : List α) (svs : List SV) (hlen : len = xs.length) (hl : cs.length = xs.length * d.sz) (hm : xs.length ≤ maxLen)
    (hc : ∀ i x, xs[i]? = some x → d.cont (Lo S0 w00 w ns mine) w x (svs.getD i (fun _ => (none, 0))) ∧ (cs.drop (i * d.sz)).take d.sz = d.cells x (svs.getD i (fun _ => (none, 0))))
    (σ2 : Option Addr → S) (hput : ∀ A, put1 σ n o.dst [] (some (.v (.slice A xs.length xs.length))) = some (σ2 A))
    (K : ∀ A a' w', Ep w00 w' ns (mine ++ [rb A]) → Inv w' ns n (σ2 A) ns a' w' → Mv (Lo S0 w00 w ns mine) w (Lo S0 w00 w' ns (mine ++ [rb A])) w' → (∀ b, some b ∈ mine → some b ≠ none → w'.heap[b]? = w.heap[b]?) →
      Row d e (Lo S0 w00 w' ns (mine ++ [rb A])) w' w00.heap.size A xs.length xs → wpListIn F m P ops Q rest a' w') : wpListIn F m P ops Q (o :: rest) a w := by
  subst hlen
  have hrun : (execOp a.eval o).run P w = .ok (.value (.slice (some ⟨w.heap.size, 0, none⟩) xs.length xs.length)) (w.alloc (.cells cs.toArray e)) := by
    have h1 := bsl_run hb w
    generalize hs : Instr.buildSlice t xs.length (ps.map fun p => (p.1, rhoV σ.env [] p.2)) = s at h1
    have ho : execOp (rhoV σ.env []) o = (do pure (.value (← s))) := by
      rw [← hs]
      unfold execOp; rw [hop]
    exact specV hI hall ho h1
  refine special hF hw (by rw [hop]; intro c hc; cases hc) hrun ?_
  obtain ⟨q1, q2, q3, q4⟩ := hE.step (S0 := S0) hI (grownBy_alloc w (.cells cs.toArray e)) (mine' := mine ++ [some w.heap.size]) (by intro b hb; cases hb) (add_mem (by simp)) (add_dis hE)
  have K' := K (some ⟨w.heap.size, 0, none⟩) (a.put o.dst (.slice (some ⟨w.heap.size, 0, none⟩) xs.length xs.length)) (w.alloc (.cells cs.toArray e))
  rw [show rb (some ⟨w.heap.size, 0, none⟩) = some w.heap.size from rfl] at K'
  exact K' q1 (put_v q2 _ (hput _)) q3 q4 (Row.lit (S' := Lo S0 w00 (w.alloc (.cells cs.toArray e)) ns (mine ++ [some w.heap.size])) w w00.heap.size hE.k.size xs svs cs hl hm hc q3)
theorem append_ (hF : FOpen F) {A : Option Addr} (hE : Ep w00 w ns (l1 ++ rb A :: l2)) (hI : Inv w ns n σ ns a w) (hw : Region.wanted o (yielded ops a.tmps) = true) {s x : Operand} {t : TypeId} (hop : o.op = .call { callee := .builtin .append, args := #[s, x], argTypes := #[t, t] })
    {c : Nat} {l : List α} (hs : oEnv σ.env [] s = some (.v (.slice A l.length c))) {A2 : Option Addr} {c2 : Nat} (hx : oEnv σ.env [] x = some (.v (.slice A2 1 c2)))
    (hrow : Row d e (Lo S0 w00 w ns (l1 ++ rb A :: l2)) w w00.heap.size A c l) {y : α} (hy : Arr d (Lo S0 w00 w ns (l1 ++ rb A :: l2)) w A2 [y]) (hone : ∀ sv, ∀ u ∈ d.cells y sv, u.oneCell' = true)
    (ht : P.underlying t = some (.slice e)) {zi : Value × Nat × Nat} (hzi : zinf P e = some zi) (hsz : zi.2.1 = d.sz) (hzs : Nat.beq zi.1.cells.size d.sz = true) (hb1 : l.length + 1 ≤ maxLen) (hb2 : (l.length + 1) * zi.2.2 ≤ 140737488355328)
    (σ2 : Option Addr → Nat → S) (hput : ∀ A' c', put1 σ n o.dst [] (some (.v (.slice A' (l ++ [y]).length c'))) = some (σ2 A' c'))
    (K : ∀ A' c' a' w', Ep w00 w' ns (l1 ++ rb A' :: l2) → Inv w' ns n (σ2 A' c') ns a' w' → Mv (Lo S0 w00 w ns (l1 ++ rb A :: l2)) w (Lo S0 w00 w' ns (l1 ++ rb A' :: l2)) w' → (∀ b, some b ∈ l1 ++ rb A :: l2 → some b ≠ rb A → w'.heap[b]? = w.heap[b]?) →
      Row d e (Lo S0 w00 w' ns (l1 ++ rb A' :: l2)) w' w00.heap.size A' c' (l ++ [y]) → wpListIn F m P ops Q rest a' w') : wpListIn F m P ops Q (o :: rest) a w := by
  obtain ⟨i, hi, hz, hsz', hbb⟩ := zinf_spec hzi
  rw [← hbb] at hb2
  obtain ⟨hA2, _⟩ := hy.1 (by simp)
  obtain ⟨sv, hc, hcell⟩ := hy.2 0 y rfl
  rw [hA2] at hx
  obtain ⟨A', c', w1, hrun, hg, hA', hR⟩ := append1_run (P := P) (ty := o.type) ht hi hz (hsz'.trans hsz) (Nat.eq_of_beq_eq_true hzs) hrow hE.k.size (ad := adr A2) (c2 := c2) (S2 := fun _ => True) hc (fun j v hj => by have := hcell j v hj; simpa using this) (hone sv) hb1 hb2
  have hrun' : (execOp a.eval o).run P w = .ok (.value (.slice A' (l ++ [y]).length c')) w1 := by
    have e1 := hI.opnd hs rfl
    have e2 := hI.opnd hx rfl
    simp only [EV.den] at e1 e2
    simp [execOp, hop, resolve, invoke, builtin, e1, e2, hrun, Result.andThen]
  refine special hF hw (by rw [hop]; intro c hc; cases hc) hrun' ?_
  obtain ⟨q1, q2, q3, q4⟩ := hE.step (S0 := S0) hI hg (mine' := l1 ++ rb A' :: l2) (by intro b hb; simp [hb]) (set_mem hA') (set_dis hE hA')
  exact K A' c' _ _ q1 (put_v q2 _ (hput _ _)) q3 q4 (hR _ q3)
theorem makeMap_ (hF : FOpen F) (hE : Ep w00 w ns mine) (hI : Inv w ns n σ ns a w) (hw : Region.wanted o (yielded ops a.tmps) = true) {t : TypeId} (hop : o.op = .makeMap t none) (β : Type) (kk : IntKind) (enc : β → Value)
    (σ2 : Nat → S) (hput : ∀ b, put1 σ n o.dst [] (some (.v (.map (some b)))) = some (σ2 b))
    (K : ∀ b a' w', Ep w00 w' ns (mine ++ [some b]) → Inv w' ns n (σ2 b) ns a' w' → Mv (Lo S0 w00 w ns mine) w (Lo S0 w00 w' ns (mine ++ [some b])) w' → (∀ b', some b' ∈ mine → some b' ≠ none → w'.heap[b']? = w.heap[b']?) →
      MapIs kk enc w' b ([] : List (Int × β)) → wpListIn F m P ops Q rest a' w') : wpListIn F m P ops Q (o :: rest) a w := by
  have hrun : (execOp a.eval o).run P w = .ok (.value (.map (some w.heap.size))) (w.alloc (.map #[] 0)) := by
    simp [execOp, hop, Sem.run_bind, Instr.makeMap_run]
  refine special hF hw (by rw [hop]; intro c hc; cases hc) hrun ?_
  obtain ⟨q1, q2, q3, q4⟩ := hE.step (S0 := S0) hI (grownBy_alloc w (.map #[] 0)) (mine' := mine ++ [some w.heap.size]) (by intro b hb; cases hb) (add_mem (by simp)) (add_dis hE)
  exact K w.heap.size _ _ q1 (put_v q2 _ (hput _)) q3 q4 (MapIs.new w)
theorem mapUpdate_ (hF : FOpen F) (hE : Ep w00 w ns mine) (hI : Inv w ns n σ ns a w) (hw : Region.wanted o (yielded ops a.tmps) = true) {t tk te : TypeId} {mo x v : Operand} (hop : o.op = .mapUpdate t mo x v) {β : Type} {kk : IntKind} {enc : β → Value} {b : Nat} {mm : List (Int × β)}
    (hmem : some b ∈ mine) (ht : P.underlying t = some (.map tk te)) (hk : P.underlying tk = some (.int kk)) (hm : MapIs kk enc w b mm) (hmo : oEnv σ.env [] mo = some (.v (.map (some b)))) (k : Int) (hx : oEnv σ.env [] x = some (.v (.int kk k))) (y : β) (hv : oEnv σ.env [] v = some (.v (enc y)))
    (σ2 : S) (hput : put1 σ n o.dst [] none = some σ2)
    (K : ∀ a' w', Ep w00 w' ns mine → Inv w' ns n σ2 ns a' w' → Mv (Lo S0 w00 w ns mine) w (Lo S0 w00 w' ns mine) w' → (∀ b', some b' ∈ mine → some b' ≠ some b → w'.heap[b']? = w.heap[b']?) →
      MapIs kk enc w' b (mset mm k y) → wpListIn F m P ops Q rest a' w') : wpListIn F m P ops Q (o :: rest) a w := by
  obtain ⟨w1, hrun, hg, hM⟩ := mapUpdate_run (P := P) ht hk hm k y
  have hrun' : (execOp a.eval o).run P w = .ok .skip w1 := by
    have e1 := hI.opnd hmo rfl
    have e2 := hI.opnd hx rfl
    have e3 := hI.opnd hv rfl
    simp only [EV.den] at e1 e2 e3
    simp [execOp, hop, e1, e2, e3, hrun, Sem.run_bind, Result.andThen]
  refine special_skip hF hw (by rw [hop]; intro c hc; cases hc) hrun' ?_
  obtain ⟨q1, q2, q3, q4⟩ := hE.step (S0 := S0) hI hg (mine' := mine) (by intro b' hb; cases hb; exact hmem) same_mem hE.dis
  exact K _ _ q1 (put_none q2 _ hput) q3 q4 hM
theorem callH_ (hF : FOpen F) (hE : Ep w00 w ns mine) (hI : Inv w ns n σ ns a w) (hw : Region.wanted o (yielded ops a.tmps) = true) {f : FuncId} {es : List EV} {args : List Value} (hco : callOf σ [] o = some (f, es)) (hv : allVs es = some args)
    (hent : ∀ args w, (callFunc f args).run P w = .ok (.enter f args) w) (val : SV → Value) (Rf : SV → World → Prop)
    (hc : Calls P f args.toArray w fun e w' => ∃ sv, e = .returned (val sv) ∧ Below w.heap.size w w' ∧ Rf sv w')
    (σ2 : SV → S) (hput : ∀ sv, put1 σ n o.dst [] (some (.v (val sv))) = some (σ2 sv))
    (K : ∀ sv a' w', Ep w00 w' ns mine → Inv w' ns n (σ2 sv) ns a' w' → Mv (Lo S0 w00 w ns mine) w (Lo S0 w00 w' ns mine) w' → (∀ b, some b ∈ mine → some b ≠ none → w'.heap[b]? = w.heap[b]?) →
      Mv (fun b => w.heap.size ≤ b ∨ Lo S0 w00 w ns mine b) w' (Lo S0 w00 w' ns mine) w' → Rf sv w' → wpListIn F m P ops Q rest a' w') : wpListIn F m P ops Q (o :: rest) a w := by
  refine call_ep hF hI hw hco hv hent val Rf hc (fun sv w' hb hr => ?_)
  obtain ⟨q1, q2, q3, q4⟩ := hE.step (S0 := S0) hI (grownBy_below hb) (mine' := mine) (by intro b' hb; cases hb) same_mem hE.dis
  exact K sv _ _ q1 (put_v q2 _ (hput _)) q3 q4 (Ep.res hE) hr
theorem contI {w : World} {S : Nat → Prop} {x : α} {sv : SV} (h : d.cont S w x sv) : d.cont S w x sv := h
theorem Arr.elB [Inhabited α] {S : Nat → Prop} {w : World} {A : Option Addr} {xs : List α} (h : Arr d S w A xs) (i : Int) (g : Bool) (hb : g = true → inb i xs.length = true) :
    ∃ sv, (g = true → El d S w ((adr A).add (i.toNat * d.sz)) (rd xs i) sv) ∧ (g = true → A = some (adr A)) := h.el i g hb
def svO (sv : SV) (k : Nat) : SV := fun i => sv (k + i)
end

section
variable {P : Program} {w00 w : World} {S0 S : Nat → Prop} {ns : List Nat} {mine : List (Option Nat)} {α : Type} {d : Kd α}
theorem Arr.nil {α : Type} (d : Kd α) (S : Nat → Prop) (w : World) (A : Option Addr) : Arr d S w A ([] : List α) := ⟨fun h => by simp at h, fun i x h => by simp at h⟩
theorem Ep.addNil (hE : Ep w00 w ns mine) : Ep w00 w ns (mine ++ [none]) ∧ Mv (Lo S0 w00 w ns mine) w (Lo S0 w00 w ns (mine ++ [none])) w :=
  ⟨⟨hE.k, hE.ow, fun b hb => hE.mi b (by simpa using hb), by rw [filt_app]; simpa using hE.dis⟩, fun b hb _ => ⟨⟨hb.1, hb.2.1, by simpa using hb.2.2.1, hb.2.2.2⟩, rfl⟩⟩
theorem El.lo {B : Addr} {x : α} {sv : SV} (h : El d S w B x sv) : El d (Lo S w w [] []) w B x sv := h.keep fun b hS hb => ⟨⟨hb, by simp, by simp, .inr hS⟩, rfl⟩
theorem El.any {B : Addr} {x : α} {sv : SV} (h : El d S w B x sv) : El d (fun _ => True) w B x sv := h.keep fun b hS hb => ⟨trivial, rfl⟩
theorem len_max {n b : Nat} (hb : 0 < b) (h : (n + 1) * b ≤ 140737488355328) : n + 1 ≤ maxLen := by
  have : n + 1 ≤ (n + 1) * b := Nat.le_mul_of_pos_right _ hb
  simp only [maxLen]; omega
theorem kd_one_int {k : IntKind} (x : Int) (sv : SV) (u : Value) (hu : u ∈ (Kd.int k).cells x sv) : u.oneCell' = true := by simp only [Kd.int, List.mem_singleton] at hu; subst hu; rfl
theorem kd_one_bool (x : Bool) (sv : SV) (u : Value) (hu : u ∈ Kd.bool.cells x sv) : u.oneCell' = true := by simp only [Kd.bool, List.mem_singleton] at hu; subst hu; rfl
theorem kd_one_str (x : ByteArray) (sv : SV) (u : Value) (hu : u ∈ Kd.str.cells x sv) : u.oneCell' = true := by simp only [Kd.str, List.mem_singleton] at hu; subst hu; rfl
theorem kd_one_slice {β : Type} {e : Kd β} (x : List β) (sv : SV) (u : Value) (hu : u ∈ (Kd.slice e).cells x sv) : u.oneCell' = true := by simp only [Kd.slice, List.mem_singleton] at hu; subst hu; rfl
/-- a machine's word, wrapped as an operation's -/
def vS (s : Sem Value) : Sem Next := do pure (.value (← s))
theorem vS_run {s : Sem Value} {v : Value} {w1 : World} (h : s.run P w1 = .ok v w1) : (vS s).run P w1 = .ok (.value v) w1 := by unfold vS; simp [Sem.run_bind, h, Sem.run_pure]
theorem sliceBound_ok {k : IntKind} {i : Int} {y : Nat} {code : BoundsCode} (h0 : 0 ≤ i) (h1 : i ≤ y) (w : World) : (Instr.sliceBound (.int k i) y code).run P w = .ok i.toNat w := by
  unfold Instr.sliceBound
  simp [asIntOf, Sem.run_bind, Sem.run_pure, h0, h1]
theorem inb_le {i : Int} {n : Nat} (h : inb i (n + 1) = true) : 0 ≤ i ∧ i ≤ (n : Int) := by
  have := inb_spec h; omega
/-- l[:i] -/
theorem slice_hi {t e : TypeId} {sz : Nat} (ht : P.underlying t = some (.slice e)) (hs : szT P e = some sz) {A : Option Addr} {l : List α} {c : Nat} {k : IntKind} {i : Int} (h0 : 0 ≤ i) (h1 : i ≤ l.length) (hc : l.length ≤ c) (w : World) :
    (Instr.sliceAt t (.slice A l.length c) none (some (.int k i)) none).run P w = .ok (.slice A (l.take i.toNat).length c) w := by
  have hb := sliceBound_ok (P := P) (k := k) (code := .sliceAcap) h0 (show i ≤ (c : Int) by omega) w
  unfold Instr.sliceAt Instr.slice Instr.sliceBounds
  simp only [Sem.run_bind, run_under ht w, Result.andThen_ok, Sem.run_pure, if_true, hb, run_sizeOf hs w]
  have hl : (l.take i.toNat).length = i.toNat := by rw [List.length_take]; omega
  have ha : (if c = 0 then A else A.map (·.add (0 * sz))) = A := by
    split
    · rfl
    · cases A with
      | none => rfl
      | some a => simp [Addr.add]
  have ha2 : Option.map (fun x : Addr => x.add 0) A = A := by cases A <;> simp [Addr.add]
  simp [hl, ha, ha2, hb, run_sizeOf hs w, Sem.run_bind, Sem.run_pure]
theorem Arr.take {S : Nat → Prop} {A : Option Addr} {l : List α} (h : Arr d S w A l) (n : Nat) : Arr d S w A (l.take n) :=
  ⟨fun hl => h.1 (by rw [List.length_take] at hl; omega), fun i x hi => h.2 i x (by
    rw [List.getElem?_take] at hi
    split at hi
    · exact hi
    · cases hi)⟩
theorem take_cap {l : List α} {n c : Nat} (h : l.length ≤ c) : (l.take n).length ≤ c := by rw [List.length_take]; omega
end

/-! ### '==' of structs and arrays -/
section
variable {P : Program} {w : World} {d : Nat} {xs ys : Array Value} {f : Field} {fs : List Field} {a b : Value} {r s : Bool} {t : TypeId}
theorem part_one {cs : Array Value} {off : Nat} {v : Value} (h : isAggT P t = some false) (hc : cs[off]? = some v) (w : World) : (part t cs off).run P w = .ok v w := by
  unfold part; simp [Sem.run_bind, run_isAgg h w, hc, Sem.run_pure]
theorem part_agg {cs : Array Value} {off m : Nat} {l : Array Value} (h : isAggT P t = some true) (hs : szT P t = some m) (hc : cs.extract off (off + m) = l) (w : World) : (part t cs off).run P w = .ok (.agg l) w := by
  unfold part; simp [Sem.run_bind, run_isAgg h w, run_sizeOf hs w, hc, Sem.run_pure]
theorem eqf_cons (hn : (f.name == "_") = false) (ha : (part f.type xs f.offset).run P w = .ok a w) (hb : (part f.type ys f.offset).run P w = .ok b w) (he : (Op.equalIn d f.type a b).run P w = .ok r w) (hr : (Op.eqFields d xs ys fs).run P w = .ok s w) :
    (Op.eqFields d xs ys (f :: fs)).run P w = .ok (r && s) w := by
  have hn' : f.name ≠ "_" := by simpa using hn
  rw [Op.eqFields]
  simp only [if_pos hn', Sem.run_bind, ha, hb, he, Result.andThen_ok]
  cases r
  · simp
  · simpa using hr
theorem eqf_skip (hn : (f.name == "_") = true) (hr : (Op.eqFields d xs ys fs).run P w = .ok s w) : (Op.eqFields d xs ys (f :: fs)).run P w = .ok s w := by
  have hn' : ¬ (f.name ≠ "_") := by simpa using hn
  rw [Op.eqFields, if_neg hn']
  exact hr
theorem eqf_nil : (Op.eqFields d xs ys []).run P w = .ok true w := by simp [Op.eqFields]
theorem eqA_of {fs : Array Field} (hu : P.underlying t = some (.struct fs)) (hp : P.stoodInHeld t = false) (h : (Op.eqFields d xs ys fs.toList).run P w = .ok r w) : (Op.equalIn (d + 1) t (.agg xs) (.agg ys)).run P w = .ok r w := by
  have hf : P.fieldsOf t = fs := by simp [Program.fieldsOf, hu]
  rw [run_equalIn_struct (P := P) w d t xs ys (by rw [hf]; exact hu) hp, hf]
  exact h
theorem eqi_int {k k' : IntKind} (h : P.underlying t = some (.int k')) (x y : Int) (d : Nat) (w : World) : (Op.equalIn (d + 1) t (.int k x) (.int k y)).run P w = .ok (x == y) w := run_equalIn_int w d t k k' x y h
theorem eqi_bool (h : P.underlying t = some .bool) (x y : Bool) (d : Nat) (w : World) : (Op.equalIn (d + 1) t (.bool x) (.bool y)).run P w = .ok (x == y) w := run_equalIn_bool' w d t x y h
theorem eql_run {X Y : Operand} (hm : P.eqGuardType P.depth t = false) (h : (Op.equalIn 10000 t (.agg xs) (.agg ys)).run P w = .ok r w) : (do eqGuard .eql t X Y (.agg xs) (.agg ys); binOp .eql t (.agg xs) (.agg ys)).run P w = .ok (.bool r) w := by
  simp only [Sem.run_bind, run_eqGuard_agg w .eql t X Y xs ys hm, Result.andThen_ok, run_eql_struct w t xs ys, h]
theorem neq_run {X Y : Operand} (hm : P.eqGuardType P.depth t = false) (h : (Op.equalIn 10000 t (.agg xs) (.agg ys)).run P w = .ok r w) : (do eqGuard .neq t X Y (.agg xs) (.agg ys); binOp .neq t (.agg xs) (.agg ys)).run P w = .ok (.bool (!r)) w := by
  simp only [Sem.run_bind, run_eqGuard_agg w .neq t X Y xs ys hm, Result.andThen_ok, run_neq_struct w t xs ys, h]
end

/-! ### results, of whatever kinds -/
inductive RV where
  | one (e : EV)
  | agg (vs : List Value)
def RV.den (ns : List Nat) : RV → Value
  | .one e => e.den ns
  | .agg vs => .agg vs.toArray
def resE (P : Program) (σ : S) : ResultVar → Option RV
  | .tmp t => match oEnv σ.env [] (.tmp t) with | some e => some (.one e) | none => none
  | .cell t T =>
    match oEnv σ.env [] (.tmp t) with
    | some (.p k off) =>
      match σ.bs[k]? with
      | some (cs, _) =>
        match isAggT P T with
        | some true =>
          match szT P T with
          | some m => match allVs ((cs.drop off).take m) with | some vs => bif Nat.beq vs.length m then some (.agg vs) else none | none => none
          | none => none
        | some false => match cs[off]? with | some e => some (.one e) | none => none
        | none => none
      | none => none
    | _ => none

def resAll (P : Program) (σ : S) : List ResultVar → Option (List RV)
  | [] => some []
  | r :: rs => match resE P σ r, resAll P σ rs with | some x, some l => some (x :: l) | _, _ => none
def resVal : List Value → Value
  | [x] => x
  | l => .tuple l.toArray
section
variable {P : Program} {w0 : World} {own : List Nat} {n : Nat} {σ : S} {ns : List Nat} {a : Act} {w : World}
theorem resE_run (hI : St w0 own n σ ns a w) {r : ResultVar} {x : RV} (h : resE P σ r = some x) :
    (match r with | .tmp t => (pure (a.tmps.getD t undef) : Sem Value) | .cell b t => do loadVar t (← asAddr (a.tmps.getD b undef))).run P w = .ok (x.den ns) w := by
  cases r with
  | tmp t =>
    simp only [resE] at h
    cases ho : oEnv σ.env [] (.tmp t) with
    | none => rw [ho] at h; cases h
    | some e =>
      rw [ho] at h
      simp only [Option.some.injEq] at h
      subst h
      simp only [Sem.run_pure, hI.at_ ho]; rfl
  | cell t T =>
    simp only [resE] at h
    split at h
    · rename_i k off ho
      split at h
      · rename_i cs U hk
        have ha := hI.at_ ho
        simp only [Sem.run_bind, ha, EV.den, asAddr, Sem.run_pure, Result.andThen_ok]
        split at h
        · rename_i hg
          split at h
          · rename_i m hs
            split at h
            · rename_i vs hv
              simp only [Bool.cond_eq_ite] at h
              split at h
              · rename_i hm
                simp only [Option.some.injEq] at h
                subst h
                have hlen := Nat.eq_of_beq_eq_true hm
                refine run_loadVar_agg hg (by rw [hs, hlen]) (fun j x hj => ?_)
                rw [add_at]
                rw [← allVs_den (ns := ns) hv, List.getElem?_map] at hj
                obtain ⟨y, hy, rfl⟩ := Option.map_eq_some_iff.1 hj
                rw [List.getElem?_take] at hy
                split at hy
                · rw [List.getElem?_drop] at hy; exact hI.loc.cell hk hy
                · cases hy
              · cases h
            · cases h
          · cases h
        · rename_i hg
          split at h
          · rename_i e he
            simp only [Option.some.injEq] at h
            subst h
            exact run_loadVar_one hg (hI.loc.cell hk he)
          · cases h
        · cases h
      · cases h
    · cases h
theorem resAll_run (hI : St w0 own n σ ns a w) : ∀ {rs : List ResultVar} {xs : List RV}, resAll P σ rs = some xs →
    (rs.mapM fun (r : ResultVar) => match r with | .tmp t => (pure (a.tmps.getD t undef) : Sem Value) | .cell b t => do loadVar t (← asAddr (a.tmps.getD b undef))).run P w = .ok (xs.map (RV.den ns)) w
  | [], xs, h => by simp only [resAll, Option.some.injEq] at h; subst h; simp [Sem.run_pure]
  | r :: rs, xs, h => by
    simp only [resAll] at h
    split at h
    · rename_i x l hx hl
      simp only [Option.some.injEq] at h
      subst h
      rw [List.mapM_cons]
      simp only [Sem.run_bind, resE_run hI hx, Result.andThen_ok, resAll_run hI hl, Sem.run_pure, List.map_cons]
    · cases h
theorem retG {fn : Func} {R : Ending → World → Prop} {rs : List ResultVar} {xs : List RV} (hI : St w0 own n σ ns a w) (hres : fn.results = rs.toArray) (h : resAll P σ rs = some xs) (hR : R (.returned (resVal (xs.map (RV.den ns)))) w) : bodyPost P fn R .ret a w := by
  refine ⟨hI.defers, _, ?_, hR⟩
  have h1 := resAll_run hI h
  unfold results
  rw [hres]
  rw [List.mapM_toArray]
  simp only [Sem.run_bind, Functor.map]
  have h2 : (Sem.bind (rs.mapM fun (r : ResultVar) => match r with | .tmp t => (pure (a.tmps.getD t undef) : Sem Value) | .cell b t => do loadVar t (← asAddr (a.tmps.getD b undef))) (Sem.pure ∘ List.toArray)).run P w = .ok (xs.map (RV.den ns)).toArray w := by
    show ((rs.mapM fun (r : ResultVar) => match r with | .tmp t => (pure (a.tmps.getD t undef) : Sem Value) | .cell b t => do loadVar t (← asAddr (a.tmps.getD b undef))) >>= fun l => pure l.toArray).run P w = _
    rw [Sem.run_bind, h1]
    simp [Sem.run_pure]
  refine Eq.trans (congrArg (fun r => Result.andThen r _) h2) ?_
  simp only [Result.andThen_ok, Sem.run_pure]
  cases xs with
  | nil => rfl
  | cons x l =>
    cases l with
    | nil => rfl
    | cons y l => simp [resVal]
end

/-! ### regions that draw their order, and lay variables -/
inductive Ds where
  | q (prods : List Nat) (orc : List (List Value))
  | al
  | st (prod : Nat) (srcs : List Nat)
  deriving Inhabited
inductive Rs where
  | q (d : Tmp) (e : EV) (obs : List Ob)
  | al (d : Tmp) (T : TypeId) (zs : List Value)
  | st (i : Nat) (es : List Value)
def bindsTo (o : Oper) (k : Nat) : Bool := o.after.any fun e => Region.binds .any e && Nat.beq e.on k
def Rs.ent : Rs → Option Ent
  | .q d e _ => some ⟨d, [], e⟩
  | _ => none
def envOf (tb : List Rs) : List Nat → Option (List Ent)
  | [] => some []
  | k :: r => match tb[k]?, envOf tb r with | some x, some l => (match x.ent with | some y => some (y :: l) | none => none) | _, _ => none
def Rs.dst : Rs → Option Tmp
  | .q d _ _ => some d
  | .al d _ _ => some d
  | .st .. => none
def Rs.isSt (i : Nat) : Rs → Bool
  | .st j _ => Nat.beq j i
  | _ => false
/-- one quiet operation -/
def chkQ (P : Program) (σ : S) (o : Oper) (env : List Ent) (orc : List (List Value)) : Option (EV × List Ob) :=
  let σ1 : S := ⟨env ++ σ.env, [], [], σ.bs⟩
  match callOf σ1 [] o with
  | some (f, es) =>
    match allVs es, orc with
    | some args, [[v]] => some (.v v, [.call true f args v])
    | _, _ => none
  | none =>
    match evOp P σ1 [] orc o with
    | some (.val e obs []) => some (e, obs)
    | _ => none
def isNone {α : Type} : Option α → Bool
  | none => true
  | _ => false
def freshD (σ : S) (tb : List Rs) (d : Tmp) : Bool := σ.env.all (fun x => !Nat.beq x.t d) && tb.all (fun x => match x.dst with | some d' => !Nat.beq d' d | none => true)
def chk1 (P : Program) (σ : S) (n : Nat) (tb : List Rs) (o : Oper) : Ds → Option Rs
  | .q prods orc =>
    match o.dst with
    | some d =>
      bif isNone o.guard && Nat.blt d n && freshD σ tb d && prods.all (bindsTo o) then
        match envOf tb prods with
        | some env => match chkQ P σ o env orc with | some (e, obs) => bif e.wf σ.bs.length then some (.q d e obs) else none | none => none
        | none => none
      else none
    | none => none
  | .al =>
    match o.dst, o.op with
    | some d, .alloc T =>
      bif isNone o.guard && Nat.blt d n && freshD σ tb d then
        match P.info? T with | some i => (match i.zero with | some z => some (.al d T z.cells.toList) | none => none) | none => none
      else none
    | _, _ => none
  | .st prod srcs =>
    match o.op, tb[prod]? with
    | .store T (.tmp dx) y, some (.al d U zs) =>
      bif isNone o.guard && isNone o.dst && Nat.beq dx d && bindsTo o prod && srcs.all (bindsTo o) && tb.all (fun x => !x.isSt prod) then
        match envOf tb srcs with
        | some env =>
          match oEnv (env ++ σ.env) [] y with
          | some ey =>
            match cellsE ey with
            | some es =>
              match allVs es, szT P T with
              | some vs, some k => bif Nat.beq vs.length k && Nat.beq vs.length zs.length && vs.all one1 then some (.st prod vs) else none
              | _, _ => none
            | none => none
          | none => none
        | none => none
      else none
    | _, _ => none
def chkAll (P : Program) (σ : S) (n : Nat) : List Rs → List Oper → List Ds → Option (List Rs)
  | tb, [], [] => some tb
  | tb, o :: l, d :: ds => match chk1 P σ n tb o d with | some x => chkAll P σ n (tb ++ [x]) l ds | none => none
  | _, _, _ => none
theorem chkAll_at {P : Program} {σ : S} {n : Nat} : ∀ {l : List Oper} {ds : List Ds} {tb rs : List Rs}, chkAll P σ n tb l ds = some rs → tb <+: rs ∧ rs.length = tb.length + l.length ∧ ∀ i o, l[i]? = some o → ∃ d x, chk1 P σ n (rs.take (tb.length + i)) o d = some x ∧ rs[tb.length + i]? = some x
  | [], [], tb, rs, h => by
    simp only [chkAll, Option.some.injEq] at h
    subst h
    exact ⟨List.prefix_refl _, by simp, fun i o hi => by simp at hi⟩
  | o :: l, d :: ds, tb, rs, h => by
    simp only [chkAll] at h
    split at h
    · rename_i x hx
      obtain ⟨h1, h2, h3⟩ := chkAll_at h
      obtain ⟨t, ht⟩ := h1
      have hpre : tb <+: rs := ⟨x :: t, by rw [← ht]; simp⟩
      refine ⟨hpre, by rw [h2]; simp; omega, fun i o' hi => ?_⟩
      cases i with
      | zero =>
        simp only [List.getElem?_cons_zero, Option.some.injEq] at hi
        subst hi
        refine ⟨d, x, ?_, ?_⟩
        · rw [← ht]; simp [List.take_append_of_le_length, hx]
        · rw [← ht]; simp
      | succ i =>
        obtain ⟨d', x', g1, g2⟩ := h3 i o' (by simpa using hi)
        have : (tb ++ [x]).length + i = tb.length + (i + 1) := by simp; omega
        rw [this] at g1 g2
        exact ⟨d', x', g1, g2⟩
    · cases h
  | [], _ :: _, _, _, h => by simp [chkAll] at h
  | _ :: _, [], _, _, h => by simp [chkAll] at h
section
variable {F : Fence} {m : Nat} {P : Program} {w0 : World} {own : List Nat} {n : Nat} {σ : S} {ns : List Nat} {a : Act} {w : World} {o : Oper} {ops : Array Oper} {Q : Exit → Act → World → Prop}
theorem chkQ_sound (hF : FOpen F) {env : List Ent} {orc : List (List Value)} {e : EV} {obs : List Ob} (hI : Inv w0 own n ⟨env ++ σ.env, [], [], σ.bs⟩ ns a w) (hg : o.guard = none) (h : chkQ P σ o env orc = some (e, obs)) (hob : Obs P w0 own obs)
    {K : Act → World → Prop} (hK : ∀ w', Below w.heap.size w w' → K (a.put o.dst (e.den ns)) w') : (if Region.wanted o (yielded ops a.tmps) = true then o.wpIn F m P a w K Q else (∀ f, o.about P w a.eval = some f → F.fn f) ∧ K (a.put o.dst undef) w) := by
  have hw : Region.wanted o (yielded ops a.tmps) = true := wanted_none hg
  rw [if_pos hw]
  unfold chkQ at h
  simp only at h
  split at h
  · rename_i f es hco
    split at h
    · rename_i args v hargs
      simp only [Option.some.injEq, Prod.mk.injEq] at h
      obtain ⟨rfl, rfl⟩ := h
      obtain ⟨hent, hcall⟩ := hob.1 rfl
      obtain ⟨hnd, hrun⟩ := callOf_run hI rfl hco hent
      unfold Oper.wpIn
      refine ⟨fun f _ => hF.fn f, ?_⟩
      rw [Oper.semAt_plain F _ _ hnd, hrun, Oper.uponIn_enter]
      refine ⟨fun hd => by rw [hF.depth] at hd; simp at hd, ?_⟩
      rw [allVs_den hargs]
      refine (hF.calls (hcall w hI.loc.base)).mono ?_
      rintro e w1 ⟨rfl, hbl⟩
      exact hK _ hbl
    · cases h
  · split at h
    · rename_i e1 obs1 he
      simp only [Option.some.injEq, Prod.mk.injEq] at h
      obtain ⟨rfl, rfl⟩ := h
      have hnd : ∀ c, o.op ≠ .defer c := by
        intro c hc
        unfold evOp at he
        rw [hc] at he
        simp only at he
        unfold evD at he
        rw [hc] at he
        simp [notSel] at he
      unfold Oper.wpIn
      refine ⟨fun f _ => hF.fn f, ?_⟩
      rw [Oper.semAt_plain F _ _ hnd, evOp_val hI rfl he hob]
      exact hK w (Below.refl _ _)
    · cases h
end

def Lst (listed : Array Bool) (i : Nat) : Prop := listed[i]? = some true
structure Cont (rs : List Rs) (listed : Array Bool) (i : Nat) (zs c : List Value) : Prop where
  yes : ∀ s es, rs[s]? = some (.st i es) → Lst listed s → c = es
  no : (∀ s es, rs[s]? = some (.st i es) → ¬ Lst listed s) → c = zs
  len : c.length = zs.length
structure DJ (w0 : World) (own : List Nat) (n : Nat) (σ : S) (ns : List Nat) (rs : List Rs) (listed : Array Bool) (nm : Nat → Nat) (a : Act) (w : World) : Prop where
  base : Inv w0 own n σ ns a w
  q : ∀ i d e obs, rs[i]? = some (.q d e obs) → Lst listed i → a.tmps[d]? = some (e.den ns)
  al : ∀ i d T zs, rs[i]? = some (.al d T zs) → Lst listed i → a.tmps[d]? = some (.pointer (some ⟨nm i, 0, none⟩)) ∧ w0.heap.size ≤ nm i ∧ nm i ∉ ns ∧ nm i < w.heap.size ∧ ∃ c, w.heap[nm i]? = some (.cells c.toArray T (0, 0)) ∧ Cont rs listed i zs c
  inj : ∀ i j d T zs d' T' zs', rs[i]? = some (.al d T zs) → Lst listed i → rs[j]? = some (.al d' T' zs') → Lst listed j → i ≠ j → nm i ≠ nm j
  ord : ∀ s i es, rs[s]? = some (.st i es) → Lst listed s → Lst listed i
theorem Lst_set {listed : Array Bool} {i k : Nat} (hi : i < listed.size) : Lst (listed.setIfInBounds i true) k ↔ Lst listed k ∨ k = i := by
  unfold Lst
  rw [Array.getElem?_setIfInBounds]
  by_cases h : i = k
  · subst h; simp [hi]
  · rw [if_neg h]
    exact ⟨.inl, fun hh => hh.elim id fun e => absurd e.symm h⟩
section
variable {F : Fence} {m : Nat} {P : Program} {w0 : World} {own : List Nat} {n : Nat} {σ : S} {ns : List Nat} {a : Act} {w : World} {o : Oper} {Q : Exit → Act → World → Prop}
theorem Inv.put_other (hI : Inv w0 own n σ ns a w) {d : Tmp} {v : Value} (hd : ∀ x ∈ σ.env, x.t ≠ d) : Inv w0 own n σ ns (a.put (some d) v) w := by
  refine ⟨by simp [Act.put, hI.size], hI.defers, fun x hx => ?_, hI.ewf, hI.bwf, hI.gi, hI.loc⟩
  simp only [Act.put, Array.getElem?_setIfInBounds]
  rw [if_neg (fun h => hd x hx h.symm)]
  exact hI.env x hx
theorem put_at (hsz : a.tmps.size = n) {d k : Nat} {v : Value} (hd : d < n) : (a.put (some d) v).tmps[k]? = if k = d then some v else a.tmps[k]? := by
  simp only [Act.put, Array.getElem?_setIfInBounds]
  by_cases h : d = k
  · subst h; simp [hsz, hd]
  · rw [if_neg h, if_neg (Ne.symm h)]
variable {l : List Oper} {ds : List Ds} {rs : List Rs} {listed : Array Bool} {nm : Nat → Nat}
theorem freshD_spec {tb : List Rs} {d : Tmp} (h : freshD σ tb d = true) : (∀ x ∈ σ.env, x.t ≠ d) ∧ ∀ x ∈ tb, x.dst ≠ some d := by
  unfold freshD at h
  simp only [Bool.and_eq_true, List.all_eq_true] at h
  refine ⟨fun x hx he => ?_, fun x hx he => ?_⟩
  · have := h.1 x hx; rw [he] at this; simp at this
  · have := h.2 x hx; rw [he] at this; simp at this
theorem chk1_dst {tb : List Rs} {d : Ds} {x : Rs} (h : chk1 P σ n tb o d = some x) : o.guard = none ∧ o.dst = x.dst ∧ ∀ t, x.dst = some t → t < n ∧ freshD σ tb t = true := by
  have hn : ∀ {α : Type} {z : Option α}, isNone z = true → z = none := fun {α z} h => by cases z <;> simp_all [isNone]
  cases d with
  | q prods orc =>
    simp only [chk1, Bool.cond_eq_ite] at h
    repeat' (split at h)
    all_goals first | (cases h; done) | skip
    rename_i t ht hb _ env henv _ e obs hq hw
    simp only [Option.some.injEq] at h
    subst h
    simp only [Bool.and_eq_true] at hb
    exact ⟨hn hb.1.1.1, ht, fun t' ht' => by cases ht'; exact ⟨by simpa using hb.1.1.2, hb.1.2⟩⟩
  | al =>
    simp only [chk1, Bool.cond_eq_ite] at h
    repeat' (split at h)
    all_goals first | (cases h; done) | skip
    rename_i t T ht hop hb _ i hi _ z hz
    simp only [Option.some.injEq] at h
    subst h
    simp only [Bool.and_eq_true] at hb
    exact ⟨hn hb.1.1, ht, fun t' ht' => by cases ht'; exact ⟨by simpa using hb.1.2, hb.2⟩⟩
  | st prod srcs =>
    simp only [chk1, Bool.cond_eq_ite] at h
    repeat' (split at h)
    all_goals first | (cases h; done) | skip
    simp only [Option.some.injEq] at h
    subst h
    simp only [Bool.and_eq_true] at *
    rename_i hb hb2
    exact ⟨hn hb.1.1.1.1.1, hn hb.1.1.1.1.2, fun t' ht' => by cases ht'⟩
theorem dst_ne (h : chkAll P σ n [] l ds = some rs) {i k : Nat} {x y : Rs} {t : Tmp} (hi : rs[i]? = some x) (hk : rs[k]? = some y) (hx : x.dst = some t) (hy : y.dst = some t) : i = k := by
  obtain ⟨_, hlen, hat⟩ := chkAll_at h
  have key : ∀ (i k : Nat) (x y : Rs), rs[i]? = some x → rs[k]? = some y → x.dst = some t → y.dst = some t → i < k → False := by
    intro i k x y hi hk hx hy hlt
    have hkl : k < l.length := by
      have := (List.getElem?_eq_some_iff.1 hk).1; simp at hlen; omega
    obtain ⟨d, z, h1, h2⟩ := hat k _ (List.getElem?_eq_getElem hkl)
    simp only [List.length_nil, Nat.zero_add] at h1 h2
    rw [hk] at h2
    simp only [Option.some.injEq] at h2
    subst h2
    obtain ⟨_, _, hf⟩ := chk1_dst h1
    have := (freshD_spec (hf t hy).2).2 x (List.mem_of_getElem? (i := i) (by rw [List.getElem?_take, if_pos hlt]; exact hi))
    exact this hx
  rcases Nat.lt_trichotomy i k with hh | hh | hh
  · exact (key i k x y hi hk hx hy hh).elim
  · exact hh
  · exact (key k i y x hk hi hy hx hh).elim
theorem bindsTo_listed {i k : Nat} (hr : i ∈ Region.ready .any l.toArray listed) (ho : l[i]? = some o) (hb : bindsTo o k = true) : Lst listed k := by
  obtain ⟨_, o', ho', hall⟩ := mem_ready.1 hr
  have : o' = o := by simpa [ho] using ho'.symm
  subst this
  unfold bindsTo at hb
  rw [Array.any_eq_true'] at hb
  obtain ⟨e, he, hb⟩ := hb
  simp only [Bool.and_eq_true] at hb
  have hk := Nat.eq_of_beq_eq_true hb.2
  subst hk
  have := hall e he hb.1
  unfold Lst
  rw [Array.getD_eq_getD_getElem?] at this
  cases hh : listed[e.on]? with
  | none => rw [hh] at this; cases this
  | some b => rw [hh] at this; simp at this; rw [this]
theorem envOf_spec {tb : List Rs} : ∀ {ks : List Nat} {env : List Ent}, envOf tb ks = some env → ∀ x ∈ env, ∃ k d e obs, k ∈ ks ∧ tb[k]? = some (.q d e obs) ∧ x = ⟨d, [], e⟩
  | [], env, h, x, hx => by simp only [envOf, Option.some.injEq] at h; subst h; simp at hx
  | k :: r, env, h, x, hx => by
    simp only [envOf] at h
    split at h
    · rename_i y l hy hl
      split at h
      · rename_i z hz
        simp only [Option.some.injEq] at h
        subst h
        rcases List.mem_cons.1 hx with rfl | hx
        · cases y with
          | q d e obs => simp only [Rs.ent, Option.some.injEq] at hz; exact ⟨k, d, e, obs, by simp, hy, hz.symm⟩
          | _ => simp [Rs.ent] at hz
        · obtain ⟨k', d, e, obs, g1, g2, g3⟩ := envOf_spec hl x hx
          exact ⟨k', d, e, obs, List.mem_cons_of_mem _ g1, g2, g3⟩
      · cases h
    · cases h
end

section
variable {F : Fence} {m : Nat} {P : Program} {w0 : World} {own : List Nat} {n : Nat} {σ : S} {ns : List Nat} {a : Act} {w : World} {o : Oper} {Q : Exit → Act → World → Prop}
variable {l : List Oper} {ds : List Ds} {rs : List Rs} {listed : Array Bool} {nm : Nat → Nat}
theorem chk1_q {tb : List Rs} {d : Ds} {t : Tmp} {e : EV} {obs : List Ob} (h : chk1 P σ n tb o d = some (.q t e obs)) : ∃ prods orc env, prods.all (bindsTo o) = true ∧ envOf tb prods = some env ∧ chkQ P σ o env orc = some (e, obs) ∧ e.wf σ.bs.length = true := by
  cases d with
  | q prods orc =>
    simp only [chk1, Bool.cond_eq_ite] at h
    repeat' (split at h)
    all_goals first | (cases h; done) | skip
    rename_i t ht hb _ env henv _ e obs hq hw
    simp only [Option.some.injEq, Rs.q.injEq] at h
    obtain ⟨_, rfl, rfl⟩ := h
    simp only [Bool.and_eq_true] at hb
    exact ⟨prods, orc, env, hb.2, henv, hq, hw⟩
  | al =>
    simp only [chk1, Bool.cond_eq_ite] at h
    repeat' (split at h)
    all_goals first | (cases h; done) | simp at h
  | st prod srcs =>
    simp only [chk1, Bool.cond_eq_ite] at h
    repeat' (split at h)
    all_goals first | (cases h; done) | simp at h
theorem chk1_al {tb : List Rs} {d : Ds} {t : Tmp} {T : TypeId} {zs : List Value} (h : chk1 P σ n tb o d = some (.al t T zs)) : ∃ i z, o.op = .alloc T ∧ P.info? T = some i ∧ i.zero = some z ∧ zs = z.cells.toList := by
  cases d with
  | al =>
    simp only [chk1, Bool.cond_eq_ite] at h
    repeat' (split at h)
    all_goals first | (cases h; done) | skip
    rename_i t T ht hop hb _ i hi _ z hz
    simp only [Option.some.injEq, Rs.al.injEq] at h
    obtain ⟨_, rfl, rfl⟩ := h
    exact ⟨i, z, hop, hi, hz, rfl⟩
  | q prods orc =>
    simp only [chk1, Bool.cond_eq_ite] at h
    repeat' (split at h)
    all_goals first | (cases h; done) | simp at h
  | st prod srcs =>
    simp only [chk1, Bool.cond_eq_ite] at h
    repeat' (split at h)
    all_goals first | (cases h; done) | simp at h
theorem chk1_st {tb : List Rs} {d : Ds} {i : Nat} {vs : List Value} (h : chk1 P σ n tb o d = some (.st i vs)) : ∃ T y t U zs srcs env ey es, o.op = .store T (.tmp t) y ∧ tb[i]? = some (.al t U zs) ∧ bindsTo o i = true ∧ srcs.all (bindsTo o) = true ∧
    (tb.all fun x => !x.isSt i) = true ∧ envOf tb srcs = some env ∧ oEnv (env ++ σ.env) [] y = some ey ∧ cellsE ey = some es ∧ allVs es = some vs ∧ szT P T = some vs.length ∧ vs.length = zs.length ∧ vs.all one1 = true := by
  cases d with
  | st prod srcs =>
    simp only [chk1, Bool.cond_eq_ite] at h
    repeat' (split at h)
    all_goals first | (cases h; done) | skip
    rename_i T dx y t U zs hop htb hb _ env henv _ ey hey _ es hes _ _ vs k hvs hk hb2
    simp only [Option.some.injEq, Rs.st.injEq] at h
    obtain ⟨rfl, rfl⟩ := h
    simp only [Bool.and_eq_true] at hb hb2
    have h1 := Nat.eq_of_beq_eq_true hb.1.1.1.2
    have h2 := Nat.eq_of_beq_eq_true hb2.1.1
    have h3 := Nat.eq_of_beq_eq_true hb2.1.2
    subst h1
    subst h2
    exact ⟨T, y, dx, U, zs, srcs, env, ey, es, hop, htb, hb.1.1.2, hb.1.2, hb.2, henv, hey, hes, hvs, hk, h3, hb2.2⟩
  | q prods orc =>
    simp only [chk1, Bool.cond_eq_ite] at h
    repeat' (split at h)
    all_goals first | (cases h; done) | simp at h
  | al =>
    simp only [chk1, Bool.cond_eq_ite] at h
    repeat' (split at h)
    all_goals first | (cases h; done) | simp at h
end

theorem setMany_all (es : List EV) : ∀ (cs : List EV) (off : Nat), cs.length = off + es.length → setMany cs off es = cs.take off ++ es := by
  induction es with
  | nil => intro cs off h; simp only [setMany, List.append_nil]; rw [List.take_of_length_le (by simp at h; omega)]
  | cons e r ih =>
    intro cs off h
    simp only [List.length_cons] at h
    rw [setMany, ih (cs.set off e) (off + 1) (by simp; omega)]
    rw [List.take_add_one]
    simp only [List.append_assoc]
    congr 1
    · rw [List.take_set_of_le (Nat.le_refl _)]
    · rw [List.getElem?_set_self (by omega)]; rfl
section
variable {F : Fence} {m : Nat} {P : Program} {w0 : World} {own : List Nat} {n : Nat} {σ : S} {ns : List Nat} {a : Act} {w : World} {o : Oper} {Q : Exit → Act → World → Prop}
variable {l : List Oper} {ds : List Ds} {rs : List Rs} {listed : Array Bool} {nm : Nat → Nat}
/-- a whole block, written -/
theorem store_block {b : Nat} {c vs : List Value} {T : TypeId} (hb : w.heap[b]? = some (.cells c.toArray T (0, 0))) (hl : c.length = vs.length) (h1 : vs.all one1 = true) :
    ∃ w', (Go.storeCells ⟨b, 0, none⟩ vs.toArray.toList 0).run P w = .ok () w' ∧ Keeps [b] w w' ∧ w'.heap.size = w.heap.size ∧ w'.heap[b]? = some (.cells vs.toArray T (0, 0)) := by
  have hm : ∀ (x : List Value), (x.map EV.v).map (EV.den [b]) = x := map_den_v
  have hL : Loc w [b] [b] [(c.map EV.v, T)] w := by
    refine ⟨rfl, by simp, Keeps.refl _ _, fun x hx => .inl hx, fun k cs U hk => ?_⟩
    cases k with
    | zero =>
      simp only [List.getElem?_cons_zero, Option.some.injEq, Prod.mk.injEq] at hk
      obtain ⟨rfl, rfl⟩ := hk
      rw [hm]; exact hb
    | succ k => simp at hk
  obtain ⟨w', hrun, hL', hs⟩ := Loc.storeCells (P := P) (vs.map EV.v) (fun e he => by
    obtain ⟨x, hx, rfl⟩ := List.mem_map.1 he
    exact List.all_eq_true.1 h1 x hx) [(c.map EV.v, T)] w 0 (c.map EV.v) T 0 0 hL rfl (by simp; omega)
  rw [hm] at hrun
  refine ⟨w', by simpa using hrun, hL'.base, hs, ?_⟩
  have := hL'.blk 0 _ T rfl
  rw [setMany_all _ _ _ (by simp; omega)] at this
  simpa [hm] using this
theorem DJ.inv (hJ : DJ w0 own n σ ns rs listed nm a w) (hp : ∀ x ∈ σ.env, x.p = []) {env : List Ent} (henv : ∀ x ∈ env, ∃ k d e obs, rs[k]? = some (.q d e obs) ∧ Lst listed k ∧ x = ⟨d, [], e⟩ ∧ e.wf σ.bs.length = true) : Inv w0 own n ⟨env ++ σ.env, [], [], σ.bs⟩ ns a w := by
  refine ⟨hJ.base.size, hJ.base.defers, fun x hx => ?_, fun x hx => ?_, hJ.base.bwf, fun x hx => by simp at hx, hJ.base.loc⟩
  · rcases List.mem_append.1 hx with hx | hx
    · obtain ⟨k, d, e, obs, h1, h2, rfl, _⟩ := henv x hx
      simpa [pathB, gvv] using hJ.q k d e obs h1 h2
    · have := hJ.base.env x hx
      rw [hp x hx] at this ⊢
      simpa [pathB, gvv] using this
  · rcases List.mem_append.1 hx with hx | hx
    · obtain ⟨k, d, e, obs, h1, h2, rfl, h4⟩ := henv x hx
      exact ⟨h4, fun y hy => by simp at hy⟩
    · exact ⟨(hJ.base.ewf x hx).1, by rw [hp x hx]; intro y hy; simp at hy⟩
theorem rs_wf (h : chkAll P σ n [] l ds = some rs) {k : Nat} {d : Tmp} {e : EV} {obs : List Ob} (hk : rs[k]? = some (.q d e obs)) : e.wf σ.bs.length = true := by
  obtain ⟨_, hlen, hat⟩ := chkAll_at h
  have hkl : k < l.length := by have := (List.getElem?_eq_some_iff.1 hk).1; simp at hlen; omega
  obtain ⟨dd, z, h1, h2⟩ := hat k _ (List.getElem?_eq_getElem hkl)
  simp only [List.length_nil, Nat.zero_add] at h1 h2
  rw [hk] at h2
  simp only [Option.some.injEq] at h2
  subst h2
  obtain ⟨_, _, _, _, _, _, hw⟩ := chk1_q h1
  exact hw
theorem envOf_ready (h : chkAll P σ n [] l ds = some rs) {i : Nat} (hr : i ∈ Region.ready .any l.toArray listed) (ho : l[i]? = some o) {ks : List Nat} {env : List Ent} (hb : ks.all (bindsTo o) = true) (he : envOf (rs.take i) ks = some env) :
    ∀ x ∈ env, ∃ k d e obs, rs[k]? = some (.q d e obs) ∧ Lst listed k ∧ x = ⟨d, [], e⟩ ∧ e.wf σ.bs.length = true := by
  intro x hx
  obtain ⟨k, d, e, obs, g1, g2, g3⟩ := envOf_spec he x hx
  rw [List.getElem?_take] at g2
  split at g2
  · exact ⟨k, d, e, obs, g2, bindsTo_listed hr ho (List.all_eq_true.1 hb k g1), g3, rs_wf h g2⟩
  · cases g2
end

section
variable {F : Fence} {m : Nat} {P : Program} {w0 : World} {own : List Nat} {n : Nat} {σ : S} {ns : List Nat} {a : Act} {w : World} {o : Oper} {Q : Exit → Act → World → Prop}
variable {l : List Oper} {ds : List Ds} {rs : List Rs} {listed : Array Bool} {nm : Nat → Nat}
theorem Cont.same {i k : Nat} {zs c : List Value} (h : Cont rs listed k zs c) (hsz : i < listed.size) (hx : ∀ j es, rs[i]? ≠ some (.st j es)) : Cont rs (listed.setIfInBounds i true) k zs c := by
  refine ⟨fun s es hs hl => ?_, fun hn => h.no fun s es hs hl => hn s es hs ((Lst_set hsz).2 (.inl hl)), h.len⟩
  rcases (Lst_set hsz).1 hl with hl | rfl
  · exact h.yes s es hs hl
  · exact absurd hs (hx _ _)
theorem DJ.step (hF : FOpen F) (h : chkAll P σ n [] l ds = some rs) (hp : ∀ x ∈ σ.env, x.p = []) (hob : ∀ (i : Nat) d e obs, rs[i]? = some (.q d e obs) → Obs P w0 own obs) (hJ : DJ w0 own n σ ns rs listed nm a w) {i : Nat} (hr : i ∈ Region.ready .any l.toArray listed)
    {K : Act → World → Prop} (hK : ∀ nm' a' w', DJ w0 own n σ ns rs (listed.setIfInBounds i true) nm' a' w' → K a' w') : wpOpIn F m P l.toArray Q i K a w := by
  obtain ⟨hun, o, ho, hall⟩ := mem_ready.1 hr
  have ho' : l[i]? = some o := by simpa using ho
  have hsz : i < listed.size := by
    rw [Array.getD_eq_getD_getElem?] at hun
    cases hh : listed[i]? with
    | none => rw [hh] at hun; cases hun
    | some b => exact (Array.getElem?_eq_some_iff.1 hh).1
  have hnl : ¬ Lst listed i := by
    intro hl
    unfold Lst at hl
    rw [Array.getD_eq_getD_getElem?, hl] at hun
    cases hun
  obtain ⟨_, hlen, hat⟩ := chkAll_at h
  obtain ⟨dd, x, h1, h2⟩ := hat i o ho'
  simp only [List.length_nil, Nat.zero_add] at h1 h2
  obtain ⟨hg, hd, hfr⟩ := chk1_dst h1
  have hw : Region.wanted o (yielded l.toArray a.tmps) = true := wanted_none hg
  unfold wpOpIn
  simp only [ho]
  have hst : ∀ k, Lst (listed.setIfInBounds i true) k ↔ Lst listed k ∨ k = i := fun k => Lst_set hsz
  cases x with
  | q d e obs =>
    obtain ⟨prods, orc, env, g1, g2, g3, g4⟩ := chk1_q h1
    have hI := hJ.inv hp (envOf_ready h hr ho' g1 g2)
    obtain ⟨hdn, hdf⟩ := hfr d rfl
    have hdd : o.dst = some d := hd
    have hnst : ∀ j es, rs[i]? ≠ some (.st j es) := fun j es hh => by rw [h2] at hh; cases hh
    refine chkQ_sound hF hI hg g3 (hob i d e obs h2) (fun w' hb => hK nm _ _ ?_)
    rw [hdd]
    refine ⟨(hJ.base.below hb).put_other (freshD_spec hdf).1, fun k d' e' obs' hk hl => ?_, fun k d' T zs hk hl => ?_, fun k j d1 T1 z1 d2 T2 z2 hk hlk hj hlj hne => ?_, fun s k es hs hl => ?_⟩
    · rw [put_at hJ.base.size hdn]
      by_cases hki : k = i
      · subst hki
        rw [h2] at hk
        simp only [Option.some.injEq, Rs.q.injEq] at hk
        obtain ⟨rfl, rfl, _⟩ := hk
        rw [if_pos rfl]
      · have hne : d' ≠ d := fun hh => hki (dst_ne h hk h2 rfl (by rw [hh]; rfl))
        rw [if_neg hne]
        exact hJ.q k d' e' obs' hk (((hst k).1 hl).resolve_right hki)
    · have hki : k ≠ i := fun hh => by subst hh; rw [h2] at hk; cases hk
      have hne : d' ≠ d := fun hh => hki (dst_ne h hk h2 rfl (by rw [hh]; rfl))
      obtain ⟨q1, q2, q3, q4, c, q5, q6⟩ := hJ.al k d' T zs hk (((hst k).1 hl).resolve_right hki)
      exact ⟨by rw [put_at hJ.base.size hdn, if_neg hne]; exact q1, q2, q3, Nat.lt_of_lt_of_le q4 hb.size, c, by rw [hb.block _ q4]; exact q5, q6.same hsz hnst⟩
    · have e1 : k ≠ i := fun hh => by subst hh; rw [h2] at hk; cases hk
      have e2 : j ≠ i := fun hh => by subst hh; rw [h2] at hj; cases hj
      exact hJ.inj k j _ _ _ _ _ _ hk (((hst k).1 hlk).resolve_right e1) hj (((hst j).1 hlj).resolve_right e2) hne
    · have e1 : s ≠ i := fun hh => by subst hh; rw [h2] at hs; cases hs
      exact (hst k).2 (.inl (hJ.ord s k es hs (((hst s).1 hl).resolve_right e1)))
  | al d T zs =>
    obtain ⟨inf, z, hop, hi, hz, rfl⟩ := chk1_al h1
    obtain ⟨hdn, hdf⟩ := hfr d rfl
    have hdd : o.dst = some d := hd
    have hnst : ∀ j es, rs[i]? ≠ some (.st j es) := fun j es hh => by rw [h2] at hh; cases hh
    have he : evOp P σ [] [] o = some (.new (z.cells.toList.map .v) T none) := by
      unfold evOp; rw [hop]; simp [isNil, hi, hz]
    obtain ⟨_, _, hrun⟩ := evOp_new hJ.base he
    rw [map_den_v] at hrun
    rw [if_pos hw]
    unfold Oper.wpIn
    refine ⟨fun f _ => hF.fn f, ?_⟩
    rw [Oper.semAt_plain F _ _ (by rw [hop]; intro c hc; cases hc), hrun]
    show K (a.put o.dst (.pointer (some ⟨w.heap.size, 0, none⟩))) (w.alloc (.cells z.cells.toList.toArray T))
    rw [hdd]
    refine hK (fun k => if k = i then w.heap.size else nm k) _ _ ?_
    have hb : Below w.heap.size w (w.alloc (.cells z.cells.toList.toArray T)) := (Below.refl _ _).alloc (Nat.le_refl _) _
    refine ⟨(hJ.base.below hb).put_other (freshD_spec hdf).1, fun k d' e' obs' hk hl => ?_, fun k d' T' zs' hk hl => ?_, fun k j d1 T1 z1 d2 T2 z2 hk hlk hj hlj hne => ?_, fun s k es hs hl => ?_⟩
    · have hki : k ≠ i := fun hh => by subst hh; rw [h2] at hk; cases hk
      have hne : d' ≠ d := fun hh => hki (dst_ne h hk h2 rfl (by rw [hh]; rfl))
      rw [put_at hJ.base.size hdn, if_neg hne]
      exact hJ.q k d' e' obs' hk (((hst k).1 hl).resolve_right hki)
    · by_cases hki : k = i
      · subst hki
        rw [h2] at hk
        simp only [Option.some.injEq, Rs.al.injEq] at hk
        obtain ⟨rfl, rfl, rfl⟩ := hk
        simp only [if_true]
        refine ⟨by rw [put_at hJ.base.size hdn, if_pos rfl], hJ.base.loc.base.size, fun hh => by have := hJ.base.loc.lt hh; omega, by simp, z.cells.toList, heap_alloc_new w _, ?_⟩
        refine ⟨fun s es hs hl => ?_, fun _ => rfl, rfl⟩
        rcases (hst s).1 hl with hl | rfl
        · exact absurd (hJ.ord s k es hs hl) hnl
        · exact absurd hs (hnst _ _)
      · have hne : d' ≠ d := fun hh => hki (dst_ne h hk h2 rfl (by rw [hh]; rfl))
        obtain ⟨q1, q2, q3, q4, c, q5, q6⟩ := hJ.al k d' T' zs' hk (((hst k).1 hl).resolve_right hki)
        simp only [if_neg hki]
        exact ⟨by rw [put_at hJ.base.size hdn, if_neg hne]; exact q1, q2, q3, Nat.lt_of_lt_of_le q4 hb.size, c, by rw [hb.block _ q4]; exact q5, q6.same hsz hnst⟩
    · by_cases e1 : k = i
      · subst e1
        have e2 : j ≠ k := fun hh => hne hh.symm
        have := (hJ.al j _ _ _ hj (((hst j).1 hlj).resolve_right e2)).2.2.2.1
        simp only [if_true, if_neg e2]
        omega
      · by_cases e2 : j = i
        · subst e2
          have := (hJ.al k _ _ _ hk (((hst k).1 hlk).resolve_right e1)).2.2.2.1
          simp only [if_true, if_neg e1]
          omega
        · simp only [if_neg e1, if_neg e2]
          exact hJ.inj k j _ _ _ _ _ _ hk (((hst k).1 hlk).resolve_right e1) hj (((hst j).1 hlj).resolve_right e2) hne
    · have e1 : s ≠ i := fun hh => by subst hh; rw [h2] at hs; cases hs
      exact (hst k).2 (.inl (hJ.ord s k es hs (((hst s).1 hl).resolve_right e1)))
  | st b vs =>
    obtain ⟨T, y, t, U, zs, srcs, env, ey, es, hop, htb, hbt, hsr, hnoSt, henv, hey, hes, hvs, hk, hlz, hone⟩ := chk1_st h1
    have hdd : o.dst = none := hd
    have hrb : rs[b]? = some (.al t U zs) := by
      rw [List.getElem?_take] at htb
      split at htb
      · exact htb
      · cases htb
    have hlb := bindsTo_listed hr ho' hbt
    obtain ⟨q1, q2, q3, q4, c, q5, q6⟩ := hJ.al b t U zs hrb hlb
    have hI := hJ.inv hp (envOf_ready h hr ho' hsr henv)
    have hey' := hI.opnd hey rfl
    have hcd := cellsE_den (ns := ns) hes
    rw [allVs_den hvs] at hcd
    obtain ⟨w', hrun, hkp, hws, hbl⟩ := store_block (P := P) q5 (by rw [q6.len, hlz]) hone
    have hpt : a.eval (.tmp t) = .pointer (some ⟨nm b, 0, none⟩) := by simp [Act.eval, Array.getD_eq_getD_getElem?, q1]
    have hrun' : (execOp a.eval o).run P w = .ok .skip w' := by
      unfold execOp; rw [hop]
      have hsz : ¬ (vs.toArray.size ≠ vs.length) := by simp
      simp only [hpt, hey', Instr.storeAt, Instr.sureAddr, storeVar, Sem.run_bind, Sem.run_pure, Result.andThen_ok, run_sizeOf hk w, hcd, hsz, if_false]
      rw [hrun]
      rfl
    rw [if_pos hw]
    unfold Oper.wpIn
    refine ⟨fun f _ => hF.fn f, ?_⟩
    rw [Oper.semAt_plain F _ _ (by rw [hop]; intro c hc; cases hc), hrun']
    show K (a.put o.dst undef) w'
    rw [hdd]
    refine hK nm _ _ ?_
    have hblk : ∀ k, k < w.heap.size → k ≠ nm b → w'.heap[k]? = w.heap[k]? := fun k hk hne => hkp.block k hk (by simpa using hne)
    have hLoc : Loc w0 own ns σ.bs w' := by
      have hL := hJ.base.loc
      refine ⟨hL.len, hL.nodup, ⟨hkp.os.trans hL.base.os, hkp.tape.trans hL.base.tape, hkp.output.trans hL.base.output, by rw [hws]; exact hL.base.size, fun k hk hn => (hblk k (Nat.lt_of_lt_of_le hk hL.base.size) (by omega)).trans (hL.base.block k hk hn)⟩, hL.ge, fun k cs T hk => ?_⟩
      have hm := hL.mem (List.getElem?_eq_some_iff.1 hk).1
      rw [hblk _ (hL.lt hm) (fun hh => q3 (hh ▸ hm))]
      exact hL.blk k cs T hk
    refine ⟨hJ.base.on hLoc, fun k d' e' obs' hk hl => ?_, fun k d' T' zs' hk hl => ?_, fun k j d1 T1 z1 d2 T2 z2 hk hlk hj hlj hne => ?_, fun s k es hs hl => ?_⟩
    · have hki : k ≠ i := fun hh => by subst hh; rw [h2] at hk; cases hk
      exact hJ.q k d' e' obs' hk (((hst k).1 hl).resolve_right hki)
    · have hki : k ≠ i := fun hh => by subst hh; rw [h2] at hk; cases hk
      have hlk := ((hst k).1 hl).resolve_right hki
      obtain ⟨p1, p2, p3, p4, c', p5, p6⟩ := hJ.al k d' T' zs' hk hlk
      refine ⟨p1, p2, p3, by rw [hws]; exact p4, ?_⟩
      by_cases hkb : k = b
      · subst hkb
        rw [hrb] at hk
        simp only [Option.some.injEq, Rs.al.injEq] at hk
        obtain ⟨rfl, rfl, rfl⟩ := hk
        refine ⟨vs, hbl, fun s es' hs hl => ?_, fun hn => absurd ((hst i).2 (.inr rfl)) (hn i vs h2), hlz⟩
        rcases (hst s).1 hl with hl0 | rfl
        · -- an earlier store into the same block: there is none
          exfalso
          obtain ⟨hlt⟩ : Nonempty (s < l.length) := ⟨by have := (List.getElem?_eq_some_iff.1 hs).1; simp at hlen; omega⟩
          rcases Nat.lt_trichotomy s i with hh | hh | hh
          · have := List.all_eq_true.1 hnoSt (.st k es') (List.mem_of_getElem? (i := s) (by rw [List.getElem?_take, if_pos hh]; exact hs))
            simp [Rs.isSt] at this
          · subst hh; exact hnl hl0
          · obtain ⟨dd', x', g1, g2⟩ := hat s _ (List.getElem?_eq_getElem hlt)
            simp only [List.length_nil, Nat.zero_add] at g1 g2
            rw [hs] at g2
            simp only [Option.some.injEq] at g2
            subst g2
            obtain ⟨_, _, _, _, _, _, _, _, _, _, _, _, _, hno2, _⟩ := chk1_st g1
            have := List.all_eq_true.1 hno2 (.st k vs) (List.mem_of_getElem? (i := i) (by rw [List.getElem?_take, if_pos hh]; exact h2))
            simp [Rs.isSt] at this
        · rw [h2] at hs; simp only [Option.some.injEq, Rs.st.injEq] at hs; exact hs.2
      · refine ⟨c', by rw [hblk _ p4 (hJ.inj k b _ _ _ _ _ _ hk hlk hrb hlb hkb)]; exact p5, fun s es' hs hl => ?_, fun hn => p6.no fun s es' hs hl => hn s es' hs ((hst s).2 (.inl hl)), p6.len⟩
        rcases (hst s).1 hl with hl | rfl
        · exact p6.yes s es' hs hl
        · rw [h2] at hs; simp only [Option.some.injEq, Rs.st.injEq] at hs; exact absurd hs.1.symm hkb
    · have e1 : k ≠ i := fun hh => by subst hh; rw [h2] at hk; cases hk
      have e2 : j ≠ i := fun hh => by subst hh; rw [h2] at hj; cases hj
      exact hJ.inj k j _ _ _ _ _ _ hk (((hst k).1 hlk).resolve_right e1) hj (((hst j).1 hlj).resolve_right e2) hne
    · rcases (hst s).1 hl with hl | rfl
      · exact (hst k).2 (.inl (hJ.ord s k es hs hl))
      · rw [h2] at hs; simp only [Option.some.injEq, Rs.st.injEq] at hs
        rw [← hs.1]
        exact (hst b).2 (.inl hlb)
end

def finC (rs : List Rs) (i : Nat) (zs : List Value) : List Value := match rs.find? (fun x => x.isSt i) with | some (.st _ es) => es | _ => zs
/-- the variables that are laid: their operations' places -/
def alsFrom : Nat → List Rs → List (Nat × Tmp × TypeId × List Value)
  | _, [] => []
  | i, .al d T zs :: r => (i, d, T, zs) :: alsFrom (i + 1) r
  | i, _ :: r => alsFrom (i + 1) r
def qsOf : List Rs → List Ent
  | [] => []
  | .q d e _ :: r => ⟨d, [], e⟩ :: qsOf r
  | _ :: r => qsOf r
def ptrsFrom : Nat → List (Nat × Tmp × TypeId × List Value) → List Ent
  | _, [] => []
  | k, (_, d, _, _) :: r => ⟨d, [], .p k 0⟩ :: ptrsFrom (k + 1) r
def finW (σ : S) (rs : List Rs) : S :=
  ⟨qsOf rs ++ ptrsFrom σ.bs.length (alsFrom 0 rs) ++ σ.env, [], [], σ.bs ++ (alsFrom 0 rs).map fun x => ((finC rs x.1 x.2.2.2).map EV.v, x.2.2.1)⟩
def allObs : List Rs → List Ob
  | [] => []
  | .q _ _ obs :: r => obs ++ allObs r
  | _ :: r => allObs r
/-- edges lead back -/
def backFrom : Nat → List Oper → Bool
  | _, [] => true
  | i, o :: r => (o.after.all fun e => !Region.binds .any e || Nat.blt e.on i) && backFrom (i + 1) r
theorem alsFrom_mem : ∀ {rs : List Rs} {i : Nat} {x : Nat × Tmp × TypeId × List Value}, x ∈ alsFrom i rs → i ≤ x.1 ∧ rs[x.1 - i]? = some (.al x.2.1 x.2.2.1 x.2.2.2)
  | [], i, x, h => by simp [alsFrom] at h
  | r :: rs, i, x, h => by
    have rec_ : x ∈ alsFrom (i + 1) rs → i ≤ x.1 ∧ (r :: rs)[x.1 - i]? = some (.al x.2.1 x.2.2.1 x.2.2.2) := fun h => by
      obtain ⟨h1, h2⟩ := alsFrom_mem h
      refine ⟨by omega, ?_⟩
      rw [show x.1 - i = (x.1 - (i + 1)) + 1 by omega, List.getElem?_cons_succ]; exact h2
    cases r with
    | al d T zs =>
      simp only [alsFrom, List.mem_cons] at h
      rcases h with rfl | h
      · simp
      · exact rec_ h
    | q => exact rec_ h
    | st => exact rec_ h
theorem alsFrom_sorted : ∀ {rs : List Rs} {i : Nat}, (alsFrom i rs).Pairwise (fun x y => x.1 < y.1)
  | [], i => by simp [alsFrom]
  | r :: rs, i => by
    cases r with
    | al d T zs =>
      simp only [alsFrom, List.pairwise_cons]
      exact ⟨fun y hy => by have := (alsFrom_mem hy).1; omega, alsFrom_sorted (rs := rs) (i := i + 1)⟩
    | q => exact alsFrom_sorted (rs := rs) (i := i + 1)
    | st => exact alsFrom_sorted (rs := rs) (i := i + 1)
theorem qsOf_mem : ∀ {rs : List Rs} {x : Ent}, x ∈ qsOf rs → ∃ (i : Nat) (d : Tmp) (e : EV) (obs : List Ob), rs[i]? = some (Rs.q d e obs) ∧ x = ⟨d, [], e⟩
  | [], x, h => by simp [qsOf] at h
  | r :: rs, x, h => by
    have rec_ : x ∈ qsOf rs → ∃ (i : Nat) (d : Tmp) (e : EV) (obs : List Ob), (r :: rs)[i]? = some (Rs.q d e obs) ∧ x = ⟨d, [], e⟩ := fun h => by
      obtain ⟨i, d, e, obs, h1, h2⟩ := qsOf_mem h
      exact ⟨i + 1, d, e, obs, by simpa using h1, h2⟩
    cases r with
    | q d e obs =>
      simp only [qsOf, List.mem_cons] at h
      rcases h with rfl | h
      · exact ⟨0, d, e, obs, rfl, rfl⟩
      · exact rec_ h
    | al => exact rec_ h
    | st => exact rec_ h
theorem ptrsFrom_mem : ∀ {l : List (Nat × Tmp × TypeId × List Value)} {k : Nat} {x : Ent}, x ∈ ptrsFrom k l → ∃ j y, l[j]? = some y ∧ x = ⟨y.2.1, [], .p (k + j) 0⟩
  | [], k, x, h => by simp [ptrsFrom] at h
  | (i, d, T, zs) :: l, k, x, h => by
    simp only [ptrsFrom, List.mem_cons] at h
    rcases h with rfl | h
    · exact ⟨0, (i, d, T, zs), rfl, rfl⟩
    · obtain ⟨j, y, h1, h2⟩ := ptrsFrom_mem h
      exact ⟨j + 1, y, by simpa using h1, by rw [h2]; congr 2; omega⟩
theorem allObs_at {P : Program} {w0 : World} {own : List Nat} : ∀ {rs : List Rs}, Obs P w0 own (allObs rs) → ∀ (i : Nat) d e obs, rs[i]? = some (.q d e obs) → Obs P w0 own obs
  | [], h, i, d, e, obs, hi => by simp at hi
  | r :: rs, h, i, d, e, obs, hi => by
    cases i with
    | zero =>
      simp only [List.getElem?_cons_zero, Option.some.injEq] at hi
      subst hi
      simp only [allObs] at h
      rw [Obs_append] at h
      exact h.1
    | succ i =>
      simp only [List.getElem?_cons_succ] at hi
      cases r with
      | q d' e' obs' => simp only [allObs] at h; rw [Obs_append] at h; exact allObs_at h.2 i d e obs hi
      | al => exact allObs_at (rs := rs) h i d e obs hi
      | st => exact allObs_at (rs := rs) h i d e obs hi
theorem backFrom_spec : ∀ {l : List Oper} {i : Nat}, backFrom i l = true → ∀ j o, l[j]? = some o → ∀ e ∈ o.after, Region.binds .any e = true → e.on < i + j
  | [], i, h, j, o, hj, _, _, _ => by simp at hj
  | o' :: l, i, h, j, o, hj, e, he, hb => by
    simp only [backFrom, Bool.and_eq_true] at h
    cases j with
    | zero =>
      simp only [List.getElem?_cons_zero, Option.some.injEq] at hj
      subst hj
      have := h.1
      rw [Array.all_eq_true_iff_forall_mem] at this
      have := this e he
      rw [hb] at this
      simpa using this
    | succ j =>
      have := backFrom_spec h.2 j o (by simpa using hj) e he hb
      omega

section
variable {F : Fence} {m : Nat} {P : Program} {w0 : World} {own : List Nat} {n : Nat} {σ : S} {ns : List Nat} {a : Act} {w : World} {o : Oper} {Q : Exit → Act → World → Prop}
variable {l : List Oper} {ds : List Ds} {rs : List Rs} {listed : Array Bool} {nm : Nat → Nat}
theorem getD_app {ns ms : List Nat} {j : Nat} : (ns ++ ms).getD (ns.length + j) 0 = ms.getD j 0 := by
  rw [List.getD_eq_getElem?_getD, List.getD_eq_getElem?_getD, List.getElem?_append_right (by omega)]; congr 2; omega
theorem getD_appL {ns ms : List Nat} {k : Nat} (h : k < ns.length) : (ns ++ ms).getD k 0 = ns.getD k 0 := by
  rw [List.getD_eq_getElem?_getD, List.getD_eq_getElem?_getD, List.getElem?_append_left h]
theorem den1_app {ns ms : List Nat} (x : Sum Value (Nat × Nat)) (h : (match x with | .inl _ => true | .inr (k, _) => Nat.blt k ns.length) = true) : den1 (ns ++ ms) x = den1 ns x := by
  cases x with
  | inl => rfl
  | inr p => obtain ⟨k, off⟩ := p; simp only [den1]; rw [getD_appL (by simpa using h)]
theorem den_app {ns ms : List Nat} {e : EV} (h : e.wf ns.length = true) : e.den (ns ++ ms) = e.den ns := by
  cases e with
  | v => rfl
  | p k off => simp only [EV.den]; rw [getD_appL (by simpa [EV.wf] using h)]
  | s k off n c => simp only [EV.den]; rw [getD_appL (by simpa [EV.wf] using h)]
  | f fn a c =>
    simp only [EV.wf, Bool.and_eq_true, List.all_eq_true] at h
    simp only [EV.den]
    rw [List.map_congr_left (fun x hx => den1_app x (h.1 x hx)), List.map_congr_left (fun x hx => den1_app x (h.2 x hx))]
theorem wf_mono {e : EV} {i j : Nat} (h : e.wf i = true) (hij : i ≤ j) : e.wf j = true := by
  have hk : ∀ k, Nat.blt k i = true → Nat.blt k j = true := by
    intro k hk
    have : k < i := by simpa using hk
    simp; omega
  cases e with
  | v => rfl
  | p k off => exact hk _ h
  | s k off n c => exact hk _ h
  | f fn x y =>
    simp only [EV.wf, Bool.and_eq_true, List.all_eq_true] at h ⊢
    constructor
    · intro z hz; have := h.1 z hz; cases z with | inl => rfl | inr q => exact hk _ this
    · intro z hz; have := h.2 z hz; cases z with | inl => rfl | inr q => exact hk _ this
theorem finC_eq {i : Nat} {zs c : List Value} (hc : Cont rs listed i zs c) (hl : ∀ k, k < rs.length → Lst listed k) : c = finC rs i zs := by
  unfold finC
  cases hf : rs.find? (fun x => x.isSt i) with
  | none =>
    refine hc.no fun s es hs _ => ?_
    have := List.find?_eq_none.1 hf _ (List.mem_of_getElem? hs)
    simp [Rs.isSt] at this
  | some x =>
    have hx := List.find?_some hf
    have hm := List.mem_of_find?_eq_some hf
    cases x with
    | st j es =>
      have hj : j = i := by simpa [Rs.isSt] using hx
      subst hj
      obtain ⟨s, hs⟩ := List.getElem?_of_mem hm
      exact hc.yes s es hs (hl s (List.getElem?_eq_some_iff.1 hs).1)
    | q => simp [Rs.isSt] at hx
    | al => simp [Rs.isSt] at hx
theorem DJ.fin (h : chkAll P σ n [] l ds = some rs) (hp : ∀ x ∈ σ.env, x.p = []) (hJ : DJ w0 own n σ ns rs listed nm a w) (hl : ∀ k, k < rs.length → Lst listed k) : Inv w0 own n (finW σ rs) (ns ++ (alsFrom 0 rs).map fun x => nm x.1) a w := by
  have hn : ns.length = σ.bs.length := hJ.base.loc.len
  have hlst : ∀ {k : Nat} {x : Rs}, rs[k]? = some x → Lst listed k := fun {k x} hk => hl k (List.getElem?_eq_some_iff.1 hk).1
  have hal : ∀ x ∈ alsFrom 0 rs, rs[x.1]? = some (.al x.2.1 x.2.2.1 x.2.2.2) := fun x hx => by have := (alsFrom_mem hx).2; simpa using this
  have hbl : σ.bs.length ≤ (finW σ rs).bs.length := by simp [finW]
  refine ⟨hJ.base.size, hJ.base.defers, fun x hx => ?_, fun x hx => ?_, fun x hx e he => ?_, fun x hx => by simp [finW] at hx, ?_⟩
  · simp only [finW, List.mem_append] at hx
    rcases hx with (hx | hx) | hx
    · obtain ⟨i, d, e, obs, h1, rfl⟩ := qsOf_mem hx
      have := hJ.q i d e obs h1 (hlst h1)
      rw [den_app (by rw [hn]; exact rs_wf h h1)]
      simpa [pathB, gvv, finW] using this
    · obtain ⟨j, y, h1, rfl⟩ := ptrsFrom_mem hx
      have hy := hal y (List.mem_of_getElem? h1)
      have := (hJ.al y.1 _ _ _ hy (hlst hy)).1
      have e1 : (ns ++ (alsFrom 0 rs).map fun x => nm x.1).getD (σ.bs.length + j) 0 = nm y.1 := by
        rw [← hn, getD_app, List.getD_eq_getElem?_getD, List.getElem?_map, h1]; rfl
      simp only [pathB, gvv, cond_true, EV.den, finW, e1]
      exact this
    · have := hJ.base.env x hx
      rw [hp x hx] at this
      simp only [finW, hp x hx]
      rw [den_app (by rw [hn]; exact (hJ.base.ewf x hx).1)]
      simpa [pathB, gvv] using this
  · simp only [finW, List.mem_append] at hx
    rcases hx with (hx | hx) | hx
    · obtain ⟨i, d, e, obs, h1, rfl⟩ := qsOf_mem hx
      exact ⟨wf_mono (rs_wf h h1) hbl, fun y hy => by simp at hy⟩
    · obtain ⟨j, y, h1, rfl⟩ := ptrsFrom_mem hx
      refine ⟨?_, fun y hy => by simp at hy⟩
      have := (List.getElem?_eq_some_iff.1 h1).1
      simp [EV.wf, finW]; omega
    · exact ⟨wf_mono (hJ.base.ewf x hx).1 hbl, by rw [hp x hx]; intro y hy; simp at hy⟩
  · simp only [finW, List.mem_append, List.mem_map] at hx
    rcases hx with hx | ⟨y, hy, rfl⟩
    · exact wf_mono (hJ.base.bwf x hx e he) hbl
    · simp only [List.mem_map] at he
      obtain ⟨v, _, rfl⟩ := he
      rfl
  · have hL := hJ.base.loc
    refine ⟨by simp [finW, hn], ?_, hL.base, fun b hb => ?_, fun k cs T hk => ?_⟩
    · rw [List.nodup_append]
      refine ⟨hL.nodup, ?_, fun x hx y hy => ?_⟩
      · rw [List.nodup_iff_pairwise_ne, List.pairwise_map]
        have hs := alsFrom_sorted (rs := rs) (i := 0)
        have hs2 : (alsFrom 0 rs).Pairwise (fun x y => x ∈ alsFrom 0 rs ∧ y ∈ alsFrom 0 rs ∧ x.1 < y.1) := hs.imp_of_mem fun hx hy h => ⟨hx, hy, h⟩
        exact hs2.imp fun {x y} ⟨hx, hy, hlt⟩ => hJ.inj x.1 y.1 _ _ _ _ _ _ (hal x hx) (hlst (hal x hx)) (hal y hy) (hlst (hal y hy)) (by omega)
      · obtain ⟨z, hz, rfl⟩ := List.mem_map.1 hy
        intro hh
        exact (hJ.al z.1 _ _ _ (hal z hz) (hlst (hal z hz))).2.2.1 (hh ▸ hx)
    · rcases List.mem_append.1 hb with hb | hb
      · exact hL.ge b hb
      · obtain ⟨z, hz, rfl⟩ := List.mem_map.1 hb
        exact .inr (hJ.al z.1 _ _ _ (hal z hz) (hlst (hal z hz))).2.1
    · simp only [finW] at hk
      rcases Nat.lt_or_ge k σ.bs.length with hlt | hge
      · rw [List.getElem?_append_left hlt] at hk
        rw [getD_appL (by omega), List.map_congr_left (fun e he => den_app (by rw [hn]; exact hJ.base.bwf _ (List.mem_of_getElem? hk) e he))]
        exact hL.blk k cs T hk
      · rw [List.getElem?_append_right hge, List.getElem?_map, Option.map_eq_some_iff] at hk
        obtain ⟨y, hy, he⟩ := hk
        simp only [Prod.mk.injEq] at he
        obtain ⟨rfl, rfl⟩ := he
        have hyr := hal y (List.mem_of_getElem? hy)
        obtain ⟨_, _, _, _, c, q5, q6⟩ := hJ.al y.1 _ _ _ hyr (hlst hyr)
        have e1 : (ns ++ (alsFrom 0 rs).map fun x => nm x.1).getD k 0 = nm y.1 := by
          rw [show k = ns.length + (k - σ.bs.length) by omega, getD_app, List.getD_eq_getElem?_getD, List.getElem?_map, hy]; rfl
        rw [e1, map_den_v, q5, finC_eq q6 hl]
theorem not_done {i : Nat} (hback : backFrom 0 l = true) (hsz : listed.size = l.length) (hr : Region.ready .any l.toArray listed = []) : ∀ k, k < l.length → Lst listed k := by
  intro k
  induction k using Nat.strongRecOn with
  | _ k ih =>
    intro hk
    apply Classical.byContradiction
    intro hn
    have hmem : k ∈ Region.ready .any l.toArray listed := by
      refine mem_ready.2 ⟨?_, l[k], by simp [hk], fun e he hb => ?_⟩
      · rw [Array.getD_eq_getD_getElem?]
        have hks : k < listed.size := by omega
        unfold Lst at hn
        rw [Array.getElem?_eq_getElem hks] at hn ⊢
        simp only [Option.some.injEq, Bool.not_eq_true] at hn
        simp [hn]
      · have hlt := backFrom_spec hback k l[k] (List.getElem?_eq_getElem hk) e he hb
        have := ih e.on (by omega) (by omega)
        unfold Lst at this
        rw [Array.getD_eq_getD_getElem?, this]; rfl
    rw [hr] at hmem
    simp at hmem
end

section
variable {F : Fence} {m : Nat} {P : Program} {w0 : World} {own : List Nat} {n : Nat} {σ σ2 : S} {ns : List Nat} {a : Act} {w : World} {o : Oper} {Q : Exit → Act → World → Prop}
variable {l : List Oper} {ds : List Ds} {rs : List Rs} {listed : Array Bool} {nm : Nat → Nat}
def unl (listed : Array Bool) : Nat := ((List.range listed.size).filter fun k => listed.getD k false == false).length
theorem unl_set {i : Nat} (hi : i < listed.size) (hn : ¬ Lst listed i) : unl (listed.setIfInBounds i true) < unl listed := by
  unfold unl
  have hsz : (listed.setIfInBounds i true).size = listed.size := by simp
  rw [hsz]
  have hg : ∀ k, (listed.setIfInBounds i true).getD k false = if k = i then true else listed.getD k false := by
    intro k
    rw [Array.getD_eq_getD_getElem?, Array.getD_eq_getD_getElem?, Array.getElem?_setIfInBounds]
    by_cases h : i = k
    · subst h; simp [hi]
    · rw [if_neg h, if_neg (Ne.symm h)]
  have hf : listed.getD i false = false := by
    unfold Lst at hn
    rw [Array.getD_eq_getD_getElem?]
    rw [Array.getElem?_eq_getElem hi] at hn ⊢
    simpa using hn
  have h1 : ((List.range listed.size).filter fun k => (listed.setIfInBounds i true).getD k false == false) = ((List.range listed.size).filter fun k => listed.getD k false == false).filter fun k => !(k == i) := by
    rw [List.filter_filter]
    apply List.filter_congr
    intro k _
    rw [hg]
    by_cases h : k = i
    · simp [h]
    · simp [h]
  rw [h1]
  refine List.length_filter_lt_length_iff_exists.2 ⟨i, List.mem_filter.2 ⟨List.mem_range.2 hi, by simp [hf]⟩, by simp⟩
theorem DJ.any (hF : FOpen F) (h : chkAll P σ n [] l ds = some rs) (hp : ∀ x ∈ σ.env, x.p = []) (hback : backFrom 0 l = true) (hob : ∀ (i : Nat) d e obs, rs[i]? = some (.q d e obs) → Obs P w0 own obs)
    (K : ∀ ns' a' w', Inv w0 own n (finW σ rs) ns' a' w' → Q .normal a' w') : ∀ (fuel : Nat) (listed : Array Bool) (nm : Nat → Nat) (a : Act) (w : World), listed.size = l.length → unl listed ≤ fuel → DJ w0 own n σ ns rs listed nm a w → wpAnyIn F m P .any l.toArray Q fuel listed a w := by
  have hlen : rs.length = l.length := by have := (chkAll_at h).2.1; simpa using this
  have hend : ∀ (listed : Array Bool) (nm : Nat → Nat) (a : Act) (w : World), listed.size = l.length → DJ w0 own n σ ns rs listed nm a w → Region.ready .any l.toArray listed = [] → Q .normal a w := fun listed nm a w hsz hJ hr =>
    K _ a w (hJ.fin h hp (fun k hk => not_done (i := 0) hback hsz hr k (by omega)))
  have hnl : ∀ {listed : Array Bool} {i : Nat}, i ∈ Region.ready .any l.toArray listed → i < listed.size ∧ ¬ Lst listed i := by
    intro listed i hr
    obtain ⟨hun, _⟩ := mem_ready.1 hr
    rw [Array.getD_eq_getD_getElem?] at hun
    cases hh : listed[i]? with
    | none => rw [hh] at hun; cases hun
    | some b =>
      rw [hh] at hun
      refine ⟨(Array.getElem?_eq_some_iff.1 hh).1, fun hl => ?_⟩
      unfold Lst at hl
      rw [hh] at hl
      simp only [Option.some.injEq] at hl
      subst hl
      cases hun
  intro fuel
  induction fuel with
  | zero =>
    intro listed nm a w hsz hu hJ
    have hr : Region.ready .any l.toArray listed = [] := by
      cases hh : Region.ready .any l.toArray listed with
      | nil => rfl
      | cons i r =>
        obtain ⟨h1, h2⟩ := hnl (listed := listed) (i := i) (by rw [hh]; simp)
        have := unl_set h1 h2
        omega
    exact ⟨hr, hend listed nm a w hsz hJ hr⟩
  | succ fuel ih =>
    intro listed nm a w hsz hu hJ
    refine ⟨hend listed nm a w hsz hJ, fun i hi => ?_⟩
    obtain ⟨h1, h2⟩ := hnl hi
    refine hJ.step hF h hp hob hi (fun nm' a' w' hJ' => ih _ nm' a' w' (by simpa using hsz) ?_ hJ')
    have := unl_set h1 h2
    omega
/-- a region that draws its order: reads, calls, and variables that are laid and written once -/
theorem drawnW_ {id : Nat} {live : List Nat} (hF : FOpen F) (hI : St w0 own n σ ns a w) (ds : List Ds) (rs : List Rs) (σ2 : S) (hm : P.follows .mixedOrders = true) (hp : (σ.env.all fun x => isNil x.p) = true) (hback : backFrom 0 l = true)
    (h : chkAll P σ n [] l ds = some rs) (hf : fin live (finW σ rs) = some σ2) (hob : Obs P w0 own (allObs rs))
    (K : ∀ ns' a' w', St w0 own n σ2 ns' a' w' → Q .normal a' w') : (Code.region id l.toArray true).wpIn F m P Q a w := by
  have hp' : ∀ x ∈ σ.env, x.p = [] := fun x hx => by
    have := List.all_eq_true.1 hp x hx
    cases hh : x.p <;> simp_all [isNil]
  refine wpIn_region_any hm (DJ.any (w0 := w0) (own := own) (ns := ns) (σ := σ) (rs := rs) hF h hp' hback (allObs_at hob) (fun ns' a' w' hI' => K ns' a' w' (hI'.fin hf)) _ _ (fun _ => 0) _ _ (by simp) ?_ ?_)
  · unfold unl
    refine Nat.le_trans (List.length_filter_le _ _) ?_
    simp
  · have hno : ∀ k, ¬ Lst (Array.replicate l.toArray.size false) k := by
      intro k hk
      unfold Lst at hk
      rw [Array.getElem?_replicate] at hk
      split at hk <;> cases hk
    have hd : Loc w0 own ns σ.bs { w with drawn := w.drawn + 1 } := hI.loc.below ⟨rfl, rfl, rfl, Nat.le_refl _, fun _ _ => rfl⟩
    exact ⟨hI.on hd, fun i d e obs _ hl => absurd hl (hno i), fun i d T zs _ hl => absurd hl (hno i), fun i j _ _ _ _ _ _ _ hl => absurd hl (hno i), fun s i es _ hl => absurd hl (hno s)⟩
end
end Go.Eng
