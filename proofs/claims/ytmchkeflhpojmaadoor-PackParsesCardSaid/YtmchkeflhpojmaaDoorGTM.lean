/- Mirrors of the walks' pure functions that can be computed. No statement of the seat is proved here. Conditions: none. -/
import Derived.Test.YtmchkeflhpojmaaDoorGT
set_option linter.unusedVariables false
set_option linter.unusedSimpArgs false
namespace Go.Proofs.YtmchkeflhpojmaaDoor
open Go Go.RowKit Go.Eng Go.Proofs

def Ole {α : Type} (x y : Option α) : Prop := ∀ r, x = some r → y = some r
theorem Ole.refl {α : Type} (x : Option α) : Ole x x := fun _ h => h
theorem Ole.none {α : Type} (x : Option α) : Ole .none x := fun _ h => by cases h
theorem Ole.bind {α β : Type} {x y : Option α} {f g : α → Option β} (h1 : Ole x y) (h2 : ∀ a, Ole (f a) (g a)) : Ole (x.bind f) (y.bind g) := fun r h => by
  cases x with
  | none => cases h
  | some a => rw [h1 a rfl]; exact h2 a r h
theorem Ole.bif {α : Type} {c : Bool} {x y x' y' : Option α} (h1 : Ole x x') (h2 : Ole y y') : Ole (bif c then x else y) (bif c then x' else y') := by cases c; exact h2; exact h1
theorem Ole.req {α : Type} {c : Bool} {x y : Option α} (h : Ole x y) : Ole (Eng.req c x) (Eng.req c y) := Ole.bif h (Ole.refl _)
theorem Ole.cal {α : Type} {c : Bool} {x y : Option α} {d : α} (h : Ole x y) : Ole (Eng.cal c x d) (Eng.cal c y d) := Ole.bif h (Ole.refl _)
theorem Ole.opt {α ρ : Type} {t : Option α} {a a' : Option ρ} {f f' : α → Option ρ} (h1 : Ole a a') (h2 : ∀ y, Ole (f y) (f' y)) : Ole (Eng.opt t a f) (Eng.opt t a' f') := by
  cases t with
  | none => exact h1
  | some y => exact h2 y
theorem Ole.exon {S R T : Type} {o : Ex S R} {f f' : S → Option T} {g g' : R → Option T} (h1 : ∀ s, Ole (f s) (f' s)) (h2 : ∀ r, Ole (g r) (g' r)) : Ole (o.on f g) (o.on f' g') := by
  cases o with
  | brk s => exact h1 s
  | ret r => exact h2 r
theorem Ole.stpon {S R T : Type} {o : Stp S R} {f f' : S → Option T} {g g' : R → Option T} (h1 : ∀ s, Ole (f s) (f' s)) (h2 : ∀ r, Ole (g r) (g' r)) : Ole (o.on f g) (o.on f' g') := by
  cases o with
  | next s => exact h1 s
  | out r => exact h2 r
def loopC {S O : Type} (B : S → Option (Stp S O)) (s : S) : Option O := iter B 100000 s
theorem iter_le {S O : Type} {B B' : S → Option (Stp S O)} (h : ∀ s, Ole (B s) (B' s)) : ∀ (k : Nat) (s : S), Ole (iter B k s) (iter B' k s)
  | 0, s => Ole.refl _
  | k + 1, s => fun r hr => by
    unfold iter at hr ⊢
    cases hb : B s with
    | none => rw [hb] at hr; cases hr
    | some x =>
      rw [hb] at hr
      rw [h s x hb]
      cases x with
      | next s' => exact iter_le h k s' r hr
      | out o => exact hr
theorem Ole.loop {S O : Type} {B B' : S → Option (Stp S O)} {s : S} (h : ∀ s, Ole (B s) (B' s)) : Ole (loopC B s) (loopω B' s) := fun r hr => loopω_of (iter_le h 100000 s r hr)

theorem Fn46.on_le {ρ : Type} (x : Fn46) {a0 : Option ρ} {a0' : Option ρ} (ha0 : Ole a0 a0') : Ole (x.on a0) (x.on a0') := by
  cases x with
  | nil => exact ha0

def C_pack_Runs (l0 : (List Int)) : Option ((List Int)) := some l0
theorem C_pack_Runs.le (l0 : (List Int)) : Ole (C_pack_Runs l0) (G_pack_Runs l0) := by
  unfold C_pack_Runs G_pack_Runs
  with_reducible repeat' first
   | exact Ole.refl _
def C_pack_Runs_1.b2 {σt R : Type} (bd : σt → (Int × Int) → Option (Stp σt R)) (s0 : σt) (y1 : (List Int)) (s1 : Int × σt) (s2 : Int × σt) : Option (Stp (Int × σt) (Ex (Int × σt) (Stp σt R))) := (req (imp (decide (s2.1 < (y1.length : Int))) (inb s2.1 y1.length)) (req (imp (decide (s2.1 < (y1.length : Int))) (inb s1.1 y1.length)) (bif (decide (s2.1 < (y1.length : Int)) && ((rd y1 s2.1) == (rd y1 s1.1))) then some (.next ((IntKind.i64.wrap (s2.1 + 1)), s2.2)) else some (.out (.brk (s2.1, s2.2))))))
theorem C_pack_Runs_1.b2.le {σt R : Type} (bd bd' : σt → (Int × Int) → Option (Stp σt R)) (s0 : σt) (y1 : (List Int)) (s1 : Int × σt) (s2 : Int × σt) (hbd : ∀ s x, Ole (bd s x) (bd' s x)) : Ole (C_pack_Runs_1.b2 bd s0 y1 s1 s2) (G_pack_Runs_1.b2 bd' s0 y1 s1 s2) := by
  unfold C_pack_Runs_1.b2 G_pack_Runs_1.b2
  with_reducible repeat' first
   | exact hbd _ _
   | refine Ole.bif ?_ ?_
   | refine Ole.req ?_
   | exact Ole.refl _
def C_pack_Runs_1.b1 {σt R : Type} (bd : σt → (Int × Int) → Option (Stp σt R)) (s0 : σt) (y1 : (List Int)) (s1 : Int × σt) : Option (Stp (Int × σt) (Ex (Int × σt) (Stp σt R))) := (bif decide (s1.1 < (y1.length : Int)) then ((loopC (C_pack_Runs_1.b2 bd s0 y1 s1) (s1.1, s1.2)).bind fun o => o.on (fun s2 => (req (inb s1.1 y1.length) ((bd s2.2 ((rd y1 s1.1), (IntKind.i64.wrap (s2.1 - s1.1)))).bind fun z => z.on (fun s_30 => some (.next (s2.1, s_30))) (fun r_31 => some (.out (.ret (.out r_31))))))) (fun r => some (.out (.ret r)))) else some (.out (.brk (s1.1, s1.2))))
theorem C_pack_Runs_1.b1.le {σt R : Type} (bd bd' : σt → (Int × Int) → Option (Stp σt R)) (s0 : σt) (y1 : (List Int)) (s1 : Int × σt) (hbd : ∀ s x, Ole (bd s x) (bd' s x)) : Ole (C_pack_Runs_1.b1 bd s0 y1 s1) (G_pack_Runs_1.b1 bd' s0 y1 s1) := by
  unfold C_pack_Runs_1.b1 G_pack_Runs_1.b1
  with_reducible repeat' first
   | refine C_pack_Runs_1.b2.le _ _ _ _ _ _ (fun _ _ => ?_)
   | exact hbd _ _
   | refine Ole.bind ?_ (fun _ => ?_)
   | refine Ole.bif ?_ ?_
   | refine Ole.req ?_
   | refine Ole.loop (fun _ => ?_)
   | refine Ole.exon (fun _ => ?_) (fun _ => ?_)
   | refine Ole.stpon (fun _ => ?_) (fun _ => ?_)
   | exact Ole.refl _
def C_pack_Runs_1 {σt R : Type} (bd : σt → (Int × Int) → Option (Stp σt R)) (s0 : σt) (y1 : (List Int)) : Option (Stp σt R) := ((loopC (C_pack_Runs_1.b1 bd s0 y1) (0, s0)).bind fun o => o.on (fun s1 => some (.next s1.2)) (fun r => some r))
theorem C_pack_Runs_1.le {σt R : Type} (bd bd' : σt → (Int × Int) → Option (Stp σt R)) (s0 : σt) (y1 : (List Int)) (hbd : ∀ s x, Ole (bd s x) (bd' s x)) : Ole (C_pack_Runs_1 bd s0 y1) (G_pack_Runs_1 bd' s0 y1) := by
  unfold C_pack_Runs_1 G_pack_Runs_1
  with_reducible repeat' first
   | refine C_pack_Runs_1.b1.le _ _ _ _ _ (fun _ _ => ?_)
   | exact hbd _ _
   | refine Ole.bind ?_ (fun _ => ?_)
   | refine Ole.loop (fun _ => ?_)
   | refine Ole.exon (fun _ => ?_) (fun _ => ?_)
   | exact Ole.refl _
def C_strings_Builder_copyCheck (x0 : Strings_Builder) : Option (Strings_Builder) := some { x0 with addr := true }
theorem C_strings_Builder_copyCheck.le (x0 : Strings_Builder) : Ole (C_strings_Builder_copyCheck x0) (G_strings_Builder_copyCheck x0) := by
  unfold C_strings_Builder_copyCheck G_strings_Builder_copyCheck
  with_reducible repeat' first
   | exact Ole.refl _
def C_strings_Builder_WriteByte (x0 : Strings_Builder) (a1 : Int) : Option (Fn46 × Strings_Builder) := ((C_strings_Builder_copyCheck x0).bind fun t_5 => (req t_5.buf_on (req (decide ((t_5.buf.length + ([a1] : List Int).length) * 1 ≤ 140737488355328)) (some (Fn46.nil, (⟨t_5.addr, (t_5.buf ++ ([a1] : List Int)), true⟩ : Strings_Builder))))))
theorem C_strings_Builder_WriteByte.le (x0 : Strings_Builder) (a1 : Int) : Ole (C_strings_Builder_WriteByte x0 a1) (G_strings_Builder_WriteByte x0 a1) := by
  unfold C_strings_Builder_WriteByte G_strings_Builder_WriteByte
  with_reducible repeat' first
   | exact C_strings_Builder_copyCheck.le _
   | refine Fn46.on_le _ ?_
   | refine Ole.bind ?_ (fun _ => ?_)
   | refine Ole.req ?_
   | exact Ole.refl _
def C_strconv_Itoa_18 (a0 : Int) : Option (ByteArray) := if -9223372036854775808 ≤ a0 ∧ a0 ≤ 9223372036854775807 then some ⟨(Lib.itoa a0).toArray⟩ else none
theorem C_strconv_Itoa_18.le (a0 : Int) : Ole (C_strconv_Itoa_18 a0) (G_strconv_Itoa_18 a0) := by
  unfold C_strconv_Itoa_18 G_strconv_Itoa_18
  with_reducible repeat' first
   | exact Ole.none _
   | exact Ole.refl _
def C_strings_Builder_WriteString (x0 : Strings_Builder) (a1 : ByteArray) : Option (Int × Fn46 × Strings_Builder) := ((C_strings_Builder_copyCheck x0).bind fun t_5 => (req t_5.buf_on (req (decide (t_5.buf.length + (bytesI a1).length ≤ 140737488355328)) (some ((a1.size : Int), Fn46.nil, (⟨t_5.addr, (t_5.buf ++ bytesI a1), true⟩ : Strings_Builder))))))
theorem C_strings_Builder_WriteString.le (x0 : Strings_Builder) (a1 : ByteArray) : Ole (C_strings_Builder_WriteString x0 a1) (G_strings_Builder_WriteString x0 a1) := by
  unfold C_strings_Builder_WriteString G_strings_Builder_WriteString
  with_reducible repeat' first
   | exact C_strings_Builder_copyCheck.le _
   | refine Fn46.on_le _ ?_
   | refine Ole.bind ?_ (fun _ => ?_)
   | refine Ole.req ?_
   | exact Ole.refl _
def C_strings_Builder_String (x0 : Strings_Builder) : Option (ByteArray × Strings_Builder) := req x0.buf_on (some (bytesOf x0.buf, { x0 with buf_on := false }))
theorem C_strings_Builder_String.le (x0 : Strings_Builder) : Ole (C_strings_Builder_String x0) (G_strings_Builder_String x0) := by
  unfold C_strings_Builder_String G_strings_Builder_String
  with_reducible repeat' first
   | exact Ole.refl _
def C_pack_Print.r1 (l0 : (List Int)) (t_12 : (List Int)) (s1 : ByteArray × Bool × Strings_Builder) (y_40 : Int × Int) : Option (Stp (ByteArray × Bool × Strings_Builder) (Nat × (ByteArray × Bool × Strings_Builder))) := (bif (decide (y_40.1 < 0) || decide (y_40.1 ≥ 3)) then some (.out (0, ((⟨#[]⟩ : ByteArray), false, s1.2.2))) else (req (inb y_40.1 (⟨#[97, 98, 116]⟩ : ByteArray).size) ((C_strings_Builder_WriteByte s1.2.2 (rdB (⟨#[97, 98, 116]⟩ : ByteArray) y_40.1)).bind fun t_58 => (bif decide (y_40.2 > 1) then ((C_strconv_Itoa_18 y_40.2).bind fun t_69 => ((C_strings_Builder_WriteString t_58.2 t_69).bind fun t_73 => some (.next (s1.1, s1.2.1, t_73.2.2)))) else some (.next (s1.1, s1.2.1, t_58.2))))))
theorem C_pack_Print.r1.le (l0 : (List Int)) (t_12 : (List Int)) (s1 : ByteArray × Bool × Strings_Builder) (y_40 : Int × Int) : Ole (C_pack_Print.r1 l0 t_12 s1 y_40) (G_pack_Print.r1 l0 t_12 s1 y_40) := by
  unfold C_pack_Print.r1 G_pack_Print.r1
  with_reducible repeat' first
   | exact C_strings_Builder_WriteByte.le _ _
   | exact C_strings_Builder_WriteString.le _ _
   | exact C_strconv_Itoa_18.le _
   | refine Ole.bind ?_ (fun _ => ?_)
   | refine Ole.bif ?_ ?_
   | refine Ole.req ?_
   | exact Ole.refl _
def C_pack_Print (l0 : (List Int)) : Option (ByteArray × Bool) := (bif decide ((l0.length : Int) > 4096) then some ((⟨#[]⟩ : ByteArray), false) else ((C_pack_Runs l0).bind fun t_12 => ((C_pack_Runs_1 (C_pack_Print.r1 l0 t_12) (ByteArray.empty, false, (⟨false, ([] : List Int), true⟩ : Strings_Builder)) t_12).bind fun z => z.on (fun s1 => ((C_strings_Builder_String s1.2.2).bind fun t_82 => some (t_82.1, true))) (fun r1 => some (r1.2.1, r1.2.2.1)))))
theorem C_pack_Print.le (l0 : (List Int)) : Ole (C_pack_Print l0) (G_pack_Print l0) := by
  unfold C_pack_Print G_pack_Print
  with_reducible repeat' first
   | refine C_pack_Runs_1.le _ _ _ _ (fun _ _ => ?_)
   | exact C_pack_Runs.le _
   | exact C_pack_Print.r1.le _ _ _ _
   | exact C_strings_Builder_String.le _
   | refine Ole.bind ?_ (fun _ => ?_)
   | refine Ole.bif ?_ ?_
   | refine Ole.stpon (fun _ => ?_) (fun _ => ?_)
   | exact Ole.refl _
def C_strings_IndexByte (a0 : ByteArray) (a1 : Int) : Option (Int) := some (Lib.indexByte a0.data.toList a1.toNat.toUInt8)
theorem C_strings_IndexByte.le (a0 : ByteArray) (a1 : Int) : Ole (C_strings_IndexByte a0 a1) (G_strings_IndexByte a0 a1) := by
  unfold C_strings_IndexByte G_strings_IndexByte
  with_reducible repeat' first
   | exact Ole.refl _
def C_strconv_Atoi_27 (a0 : ByteArray) : Option (Int × Fn46) := if a0.size ≤ 18 then (Lib.atoi a0.data.toList).map fun n => (n, .nil) else none
theorem C_strconv_Atoi_27.le (a0 : ByteArray) : Ole (C_strconv_Atoi_27 a0) (G_strconv_Atoi_27 a0) := by
  unfold C_strconv_Atoi_27 G_strconv_Atoi_27
  with_reducible repeat' first
   | refine Fn46.on_le _ ?_
   | exact Ole.none _
   | exact Ole.refl _
def C_bits_Mul (a0 : Int) (a1 : Int) : Option (Int × Int) := if 0 ≤ a0 ∧ a0 < 18446744073709551616 ∧ 0 ≤ a1 ∧ a1 < 18446744073709551616 then some (((a0.toNat * a1.toNat / 18446744073709551616 : Nat) : Int), ((a0.toNat * a1.toNat % 18446744073709551616 : Nat) : Int)) else none
theorem C_bits_Mul.le (a0 : Int) (a1 : Int) : Ole (C_bits_Mul a0 a1) (G_bits_Mul a0 a1) := by
  unfold C_bits_Mul G_bits_Mul
  with_reducible repeat' first
   | exact Ole.none _
   | exact Ole.refl _
def C_slices_Repeat_int_int.b1 (l0 : (List Int)) (a1 : Int) (t_6 : Int × Int) (s1 : Int × (List Int)) : Option (Stp (Int × (List Int)) (Ex (Int × (List Int)) ((List Int)))) := (bif decide (s1.1 < ((List.replicate ((IntKind.i64.wrap t_6.2) : Int).toNat (0 : Int)).length : Int)) then (req (inb s1.1 ((List.replicate ((IntKind.i64.wrap t_6.2) : Int).toNat (0 : Int)).length + 1)) (req (inb s1.1 ((List.replicate ((IntKind.i64.wrap t_6.2) : Int).toNat (0 : Int)).length + 1)) (some (.next ((IntKind.i64.wrap (s1.1 + ((Nat.min ((s1.1 : Int).toNat) ((List.replicate ((IntKind.i64.wrap t_6.2) : Int).toNat (0 : Int)).length - (s1.1 : Int).toNat) : Nat) : Int))), (cpw s1.2 ((s1.1 : Int).toNat) ((s1.1 : Int).toNat))))))) else some (.out (.brk (s1.1, s1.2))))
theorem C_slices_Repeat_int_int.b1.le (l0 : (List Int)) (a1 : Int) (t_6 : Int × Int) (s1 : Int × (List Int)) : Ole (C_slices_Repeat_int_int.b1 l0 a1 t_6 s1) (G_slices_Repeat_int_int.b1 l0 a1 t_6 s1) := by
  unfold C_slices_Repeat_int_int.b1 G_slices_Repeat_int_int.b1
  with_reducible repeat' first
   | refine Ole.bif ?_ ?_
   | refine Ole.req ?_
   | exact Ole.refl _
def C_slices_Repeat_int_int (l0 : (List Int)) (a1 : Int) : Option ((List Int)) := (bif decide (a1 < 0) then none else ((C_bits_Mul (IntKind.u64.wrap (l0.length : Int)) (IntKind.u64.wrap a1)).bind fun t_6 => (bif (decide (t_6.1 > 0) || decide (t_6.2 > 9223372036854775807)) then none else (req (decide (0 ≤ (IntKind.i64.wrap t_6.2)) && decide (((IntKind.i64.wrap t_6.2) : Int).toNat * (1 + 8) ≤ 16777216)) ((loopC (C_slices_Repeat_int_int.b1 l0 a1 t_6) (((min l0.length (List.replicate ((IntKind.i64.wrap t_6.2) : Int).toNat (0 : Int)).length : Nat) : Int), (cpl (List.replicate ((IntKind.i64.wrap t_6.2) : Int).toNat (0 : Int)) l0))).bind fun o => o.on (fun s1 => some s1.2) (fun r => some r))))))
theorem C_slices_Repeat_int_int.le (l0 : (List Int)) (a1 : Int) : Ole (C_slices_Repeat_int_int l0 a1) (G_slices_Repeat_int_int l0 a1) := by
  unfold C_slices_Repeat_int_int G_slices_Repeat_int_int
  with_reducible repeat' first
   | exact C_bits_Mul.le _ _
   | exact C_slices_Repeat_int_int.b1.le _ _ _ _
   | exact Ole.none _
   | refine Ole.bind ?_ (fun _ => ?_)
   | refine Ole.bif ?_ ?_
   | refine Ole.req ?_
   | refine Ole.loop (fun _ => ?_)
   | refine Ole.exon (fun _ => ?_) (fun _ => ?_)
   | exact Ole.refl _
def C_pack_Parse.b1 (a0 : ByteArray) (s1 : Bool × (List Int) × Bool × (List Int) × Int × ByteArray × Nat) : Option (Stp (Bool × (List Int) × Bool × (List Int) × Int × ByteArray × Nat) (Ex (Bool × (List Int) × Bool × (List Int) × Int × ByteArray × Nat) ((List Int) × Bool))) := (bif decide (s1.2.2.2.2.2.2 < a0.size) then ((C_strings_IndexByte (⟨#[97, 98, 116]⟩ : ByteArray) (IntKind.u8.wrap ((Utf8.decode a0 s1.2.2.2.2.2.2).1 : Int))).bind fun t_31 => (bif (((decide (((Utf8.decode a0 s1.2.2.2.2.2.2).1 : Int) ≥ 48) && decide (((Utf8.decode a0 s1.2.2.2.2.2.2).1 : Int) ≤ 57)) && decide (s1.2.2.2.2.1 ≥ 0)) && decide ((s1.2.2.2.2.2.1.size : Int) < 5)) then (req (decide (s1.2.2.2.2.2.1.size + (Utf8.encode (IntKind.u8.wrap ((Utf8.decode a0 s1.2.2.2.2.2.2).1 : Int))).size ≤ 140737488355328)) (some (.next (s1.1, s1.2.1, s1.2.2.1, s1.2.2.2.1, s1.2.2.2.2.1, (s1.2.2.2.2.2.1 ++ (Utf8.encode (IntKind.u8.wrap ((Utf8.decode a0 s1.2.2.2.2.2.2).1 : Int)))), (s1.2.2.2.2.2.2 + (Utf8.decode a0 s1.2.2.2.2.2.2).2))))) else (bif ((decide (((Utf8.decode a0 s1.2.2.2.2.2.2).1 : Int) > 127) || decide (t_31 < 0)) || (t_31 == s1.2.2.2.2.1)) then some (.out (.ret ([], false))) else (bif decide (s1.2.2.2.2.1 ≥ 0) then (bif (!(s1.2.2.2.2.2.1.toList == (⟨#[]⟩ : ByteArray).toList)) then ((C_strconv_Atoi_27 s1.2.2.2.2.2.1).bind fun t_63 => (req (imp (!(decide (t_63.1 < 2) || decide (t_63.1 > 4096))) (inb 0 s1.2.2.2.2.2.1.size)) (bif ((decide (t_63.1 < 2) || decide (t_63.1 > 4096)) || ((rdB s1.2.2.2.2.2.1 0) == 48)) then some (.out (.ret ([], false))) else (bif decide (t_63.1 > (IntKind.i64.wrap (4096 - (s1.2.1.length : Int)))) then some (.out (.ret ([], false))) else ((C_slices_Repeat_int_int ([s1.2.2.2.2.1] : List Int) t_63.1).bind fun t_101 => (req (decide ((s1.2.1.length + t_101.length) * 8 ≤ 140737488355328)) (some (.next (true, (s1.2.1 ++ t_101), s1.2.2.1, s1.2.2.2.1, t_31, ByteArray.empty, (s1.2.2.2.2.2.2 + (Utf8.decode a0 s1.2.2.2.2.2.2).2)))))))))) else (bif decide (1 > (IntKind.i64.wrap (4096 - (s1.2.1.length : Int)))) then some (.out (.ret ([], false))) else ((C_slices_Repeat_int_int ([s1.2.2.2.2.1] : List Int) 1).bind fun t_137 => (req (decide ((s1.2.1.length + t_137.length) * 8 ≤ 140737488355328)) (some (.next (true, (s1.2.1 ++ t_137), s1.2.2.1, s1.2.2.2.1, t_31, ByteArray.empty, (s1.2.2.2.2.2.2 + (Utf8.decode a0 s1.2.2.2.2.2.2).2)))))))) else some (.next (s1.1, s1.2.1, s1.2.2.1, s1.2.2.2.1, t_31, ByteArray.empty, (s1.2.2.2.2.2.2 + (Utf8.decode a0 s1.2.2.2.2.2.2).2))))))) else some (.out (.brk (s1.1, s1.2.1, s1.2.2.1, s1.2.2.2.1, s1.2.2.2.2.1, s1.2.2.2.2.2.1, s1.2.2.2.2.2.2))))
theorem C_pack_Parse.b1.le (a0 : ByteArray) (s1 : Bool × (List Int) × Bool × (List Int) × Int × ByteArray × Nat) : Ole (C_pack_Parse.b1 a0 s1) (G_pack_Parse.b1 a0 s1) := by
  unfold C_pack_Parse.b1 G_pack_Parse.b1
  with_reducible repeat' first
   | exact C_strings_IndexByte.le _ _
   | exact C_slices_Repeat_int_int.le _ _
   | exact C_strconv_Atoi_27.le _
   | refine Ole.bind ?_ (fun _ => ?_)
   | refine Ole.bif ?_ ?_
   | refine Ole.req ?_
   | exact Ole.refl _
def C_pack_Parse (a0 : ByteArray) : Option ((List Int) × Bool) := ((loopC (C_pack_Parse.b1 a0) (true, ([] : List Int), false, ([] : List Int), (-1), ByteArray.empty, 0)).bind fun o => o.on (fun s1 => (bif decide (s1.2.2.2.2.1 ≥ 0) then (bif (!(s1.2.2.2.2.2.1.toList == (⟨#[]⟩ : ByteArray).toList)) then ((C_strconv_Atoi_27 s1.2.2.2.2.2.1).bind fun t_178 => (req (imp (!(decide (t_178.1 < 2) || decide (t_178.1 > 4096))) (inb 0 s1.2.2.2.2.2.1.size)) (bif ((decide (t_178.1 < 2) || decide (t_178.1 > 4096)) || ((rdB s1.2.2.2.2.2.1 0) == 48)) then some ([], false) else (bif decide (t_178.1 > (IntKind.i64.wrap (4096 - (s1.2.1.length : Int)))) then some ([], false) else ((C_slices_Repeat_int_int ([s1.2.2.2.2.1] : List Int) t_178.1).bind fun t_216 => (req (decide ((s1.2.1.length + t_216.length) * 8 ≤ 140737488355328)) (some ((s1.2.1 ++ t_216), true)))))))) else (bif decide (1 > (IntKind.i64.wrap (4096 - (s1.2.1.length : Int)))) then some ([], false) else ((C_slices_Repeat_int_int ([s1.2.2.2.2.1] : List Int) 1).bind fun t_253 => (req (decide ((s1.2.1.length + t_253.length) * 8 ≤ 140737488355328)) (some ((s1.2.1 ++ t_253), true)))))) else (bif (!s1.1) then some ([], false) else some (s1.2.1, true)))) (fun r => some r))
theorem C_pack_Parse.le (a0 : ByteArray) : Ole (C_pack_Parse a0) (G_pack_Parse a0) := by
  unfold C_pack_Parse G_pack_Parse
  with_reducible repeat' first
   | exact C_slices_Repeat_int_int.le _ _
   | exact C_strconv_Atoi_27.le _
   | exact C_pack_Parse.b1.le _ _
   | refine Ole.bind ?_ (fun _ => ?_)
   | refine Ole.bif ?_ ?_
   | refine Ole.req ?_
   | refine Ole.loop (fun _ => ?_)
   | refine Ole.exon (fun _ => ?_) (fun _ => ?_)
   | exact Ole.refl _
def C_law30_wakes  : Option (Bool) := ((C_pack_Print ([0, 0, 2, 1] : List Int)).bind fun t_6 => ((C_pack_Parse (⟨#[97, 49]⟩ : ByteArray)).bind fun t_10 => ((C_pack_Parse (⟨#[97, 97]⟩ : ByteArray)).bind fun t_17 => some (((t_6.2 && (t_6.1.toList == (⟨#[97, 50, 116, 98]⟩ : ByteArray).toList)) && (!t_10.2)) && (!t_17.2)))))
theorem C_law30_wakes.le  : Ole (C_law30_wakes) (G_law30_wakes) := by
  unfold C_law30_wakes G_law30_wakes
  with_reducible repeat' first
   | exact C_pack_Parse.le _
   | exact C_pack_Print.le _
   | refine Ole.bind ?_ (fun _ => ?_)
   | exact Ole.refl _
def C_pack_Size (a0 : ByteArray) : Option (Int) := ((C_pack_Parse a0).bind fun t_5 => some (t_5.1.length : Int))
theorem C_pack_Size.le (a0 : ByteArray) : Ole (C_pack_Size a0) (G_pack_Size a0) := by
  unfold C_pack_Size G_pack_Size
  with_reducible repeat' first
   | exact C_pack_Parse.le _
   | refine Ole.bind ?_ (fun _ => ?_)
   | exact Ole.refl _
end Go.Proofs.YtmchkeflhpojmaaDoor
