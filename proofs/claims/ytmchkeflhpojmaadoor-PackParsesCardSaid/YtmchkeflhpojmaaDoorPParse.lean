/- Plain law: what the program reads out of a text. No statement of the seat is proved here. Conditions: none. -/
import Derived.Test.YtmchkeflhpojmaaDoorPPack
set_option linter.unusedVariables false
set_option linter.unusedSimpArgs false
namespace Go.Proofs.YtmchkeflhpojmaaDoor
open Go Go.RowKit Go.Eng
/-! ### slices.Repeat of one number -/
theorem cpw_rep (a : Int) {k m : Nat} (h1 : k ≤ m) : cpw (List.replicate k a ++ List.replicate (m - k) 0) k k = List.replicate (k + Nat.min k (m - k)) a ++ List.replicate (m - (k + Nat.min k (m - k))) 0 := by
  have hm : Nat.min k (m - k) ≤ k := Nat.min_le_left k (m - k)
  have hm2 : Nat.min k (m - k) ≤ m - k := Nat.min_le_right k (m - k)
  have hl : (List.replicate k a ++ List.replicate (m - k) (0 : Int)).length = m := by simp; omega
  unfold cpw
  rw [hl]
  have e1 : (List.replicate k a ++ List.replicate (m - k) (0 : Int)).take k = List.replicate k a := by rw [List.take_append]; simp
  have e2 : (List.replicate k a ++ List.replicate (m - k) (0 : Int)).take (Nat.min k (m - k)) = List.replicate (Nat.min k (m - k)) a := by
    rw [List.take_append, List.take_replicate, List.length_replicate, show Nat.min k (m - k) - k = 0 by omega, List.take_zero, List.append_nil, Nat.min_eq_left hm]
  have e3 : (List.replicate k a ++ List.replicate (m - k) (0 : Int)).drop (k + Nat.min k (m - k)) = List.replicate (m - (k + Nat.min k (m - k))) 0 := by
    rw [List.drop_append, List.drop_replicate, List.length_replicate, List.drop_replicate, show k - (k + Nat.min k (m - k)) = 0 by omega]
    simp; omega
  rw [e1, e2, e3, List.replicate_append_replicate]
theorem repeat1 (a : Int) {n : Nat} (h1 : 1 ≤ n) (h2 : n ≤ 4096) : G_slices_Repeat_int_int [a] (n : Int) = some (List.replicate n a) := by
  unfold G_slices_Repeat_int_int
  have hw : IntKind.u64.wrap (n : Int) = (n : Int) := by simp [IntKind.wrap, IntKind.signed, IntKind.bits]; omega
  have hw1 : IntKind.u64.wrap ((([a] : List Int).length : Nat) : Int) = 1 := rfl
  have hmul : G_bits_Mul 1 (n : Int) = some (0, (n : Int)) := by
    unfold G_bits_Mul
    rw [if_pos (by omega)]
    have e : (1 : Int).toNat * (n : Int).toNat = n := by simp
    rw [e, Nat.div_eq_of_lt (by omega), Nat.mod_eq_of_lt (by omega)]; rfl
  have hw2 : IntKind.i64.wrap (n : Int) = (n : Int) := by rw [w64] <;> omega
  rw [show decide ((n : Int) < 0) = false by simp, cond_false, hw1, hw, hmul]
  simp only [Option.bind_some]
  rw [show (decide ((0 : Int) > 0) || decide ((n : Int) > 9223372036854775807)) = false by simp; omega, cond_false, hw2]
  rw [show (decide ((0 : Int) ≤ (n : Int)) && decide (((n : Int)).toNat * (1 + 8) ≤ 16777216)) = true by simp; omega, req_t, Int.toNat_natCast]
  have hinit : cpl (List.replicate n (0 : Int)) [a] = List.replicate 1 a ++ List.replicate (n - 1) 0 := by
    unfold cpl
    rw [List.length_replicate, List.drop_replicate]
    obtain ⟨q, rfl⟩ : ∃ q, n = q + 1 := ⟨n - 1, by omega⟩
    simp
  have hmin : (((min ([a] : List Int).length (List.replicate n (0 : Int)).length : Nat)) : Int) = ((1 : Nat) : Int) := by
    rw [List.length_replicate, show min ([a] : List Int).length n = 1 by simp; omega]
  rw [hinit, hmin]
  have key := loopω_ok (B := G_slices_Repeat_int_int.b1 [a] (n : Int) (0, (n : Int))) (fun s => ∃ k : Nat, 1 ≤ k ∧ k ≤ n ∧ s = ((k : Int), List.replicate k a ++ List.replicate (n - k) 0)) (fun s => n - s.1.toNat) (fun o => o = .brk ((n : Int), List.replicate n a)) (fun s hs => by
    obtain ⟨k, hk1, hk2, rfl⟩ := hs
    unfold G_slices_Repeat_int_int.b1
    dsimp only
    rw [hw2, Int.toNat_natCast, List.length_replicate, Int.toNat_natCast]
    by_cases hk : k < n
    · left
      rw [lt_t hk, cond_true, inb_n (show k < n + 1 by omega), req_t, req_t, cpw_rep a hk2]
      have hm : Nat.min k (n - k) ≤ k := Nat.min_le_left k (n - k)
      have hm2 : Nat.min k (n - k) ≤ n - k := Nat.min_le_right k (n - k)
      have hpos : 0 < Nat.min k (n - k) := Nat.lt_min.2 ⟨by omega, by omega⟩
      have e : IntKind.i64.wrap ((k : Int) + ((Nat.min k (n - k) : Nat) : Int)) = ((k + Nat.min k (n - k) : Nat) : Int) := by rw [w64] <;> omega
      rw [e]
      exact ⟨_, rfl, ⟨_, by omega, by omega, rfl⟩, by simp only [Int.toNat_natCast]; omega⟩
    · right
      have : k = n := by omega
      subst this
      rw [lt_f, cond_false]
      exact ⟨_, rfl, by simp⟩) (((1 : Nat) : Int), List.replicate 1 a ++ List.replicate (n - 1) 0) ⟨1, Nat.le_refl _, h1, rfl⟩
  obtain ⟨o, ho, rfl⟩ := key
  rw [ho]; rfl
/-! ### bytes -/
theorem size_mk (l : List UInt8) : (⟨l.toArray⟩ : ByteArray).size = l.length := by
  show l.toArray.size = _
  simp
theorem get_mk (l : List UInt8) (i : Nat) (b : UInt8) (h : l[i]? = some b) : (⟨l.toArray⟩ : ByteArray).get! i = b := by
  show l.toArray[i]! = b
  rw [getElem!_def]
  simp [h]
theorem dec_lo (l : List UInt8) (i : Nat) (b : UInt8) (h : l[i]? = some b) (hb : b.toNat < 128) : Utf8.decode ⟨l.toArray⟩ i = (b.toNat, 1) := by
  unfold Utf8.decode
  have := get_mk l i b h
  simp only [Nat.add_zero, this]
  rw [if_pos (by omega)]
theorem dec_hi (l : List UInt8) (i : Nat) (b : UInt8) (h : l[i]? = some b) (hb : ¬ b.toNat < 128) : 128 ≤ (Utf8.decode ⟨l.toArray⟩ i).1 := by
  unfold Utf8.decode
  have := get_mk l i b h
  simp only [Nat.add_zero, this]
  rw [if_neg (by omega)]
  have he : Utf8.runeError = 65533 := rfl
  repeat' split
  all_goals (try simp only [Bool.and_eq_true, decide_eq_true_iff] at *)
  all_goals (try simp only [he])
  all_goals omega
theorem enc_lo {n : Nat} (h : n < 128) : Utf8.encode (n : Int) = ⟨[UInt8.ofNat n].toArray⟩ := by
  unfold Utf8.encode
  have hv : Utf8.valid (n : Int) = true := by unfold Utf8.valid; simp; omega
  simp only [hv, if_true, Int.toNat_natCast]
  rw [if_pos (by omega)]
theorem u8n {n : Nat} (h : n < 256) : IntKind.u8.wrap (n : Int) = (n : Int) := by
  simp [IntKind.wrap, IntKind.signed, IntKind.bits]; omega
/-- the act of a letter -/
def idx (b : UInt8) : Int := if b = 97 then 0 else if b = 98 then 1 else if b = 116 then 2 else -1
theorem indexB (b : UInt8) : Lib.indexByte [97, 98, 116] b = idx b := by
  unfold idx
  by_cases h1 : b = 97
  · subst h1; rfl
  · by_cases h2 : b = 98
    · subst h2; rfl
    · by_cases h3 : b = 116
      · subst h3; rfl
      · have e1 : ((97 : UInt8) == b) = false := by rw [beq_eq_false_iff_ne]; exact fun e => h1 e.symm
        have e2 : ((98 : UInt8) == b) = false := by rw [beq_eq_false_iff_ne]; exact fun e => h2 e.symm
        have e3 : ((116 : UInt8) == b) = false := by rw [beq_eq_false_iff_ne]; exact fun e => h3 e.symm
        simp [Lib.indexByte, e1, e2, e3, h1, h2, h3]
theorem idx_ok {b : UInt8} (h : ¬ idx b < 0) : okA (idx b) = true ∧ letter (idx b) = b ∧ isD b = false := by
  unfold idx at *
  by_cases h1 : b = 97
  · subst h1; exact ⟨rfl, rfl, rfl⟩
  · by_cases h2 : b = 98
    · subst h2; exact ⟨rfl, rfl, rfl⟩
    · by_cases h3 : b = 116
      · subst h3; exact ⟨rfl, rfl, rfl⟩
      · simp [h1, h2, h3] at h
theorem idx_letter {a : Int} (h : okA a = true) : idx (letter a) = a ∧ isD (letter a) = false := by
  rcases okA_iff.1 h with rfl | rfl | rfl <;> exact ⟨rfl, rfl⟩
theorem idx_hi {b : UInt8} (h : ¬ b.toNat < 128) : idx b = -1 := by
  unfold idx
  rw [if_neg (by rintro rfl; exact h (by decide)), if_neg (by rintro rfl; exact h (by decide)), if_neg (by rintro rfl; exact h (by decide))]
/-! ### what is read -/
/-- a run that ends -/
def num (ds : List UInt8) : Nat := if ds = [] then 1 else val ds
def bad (ds : List UInt8) : Bool := !ds.isEmpty && (decide (val ds < 2) || decide (val ds > 4096) || (ds.head? == some 48))
def fin (acts : List Int) (a : Int) (ds : List UInt8) : List Int × Bool := bif bad ds || decide (acts.length + num ds > 4096) then ([], false) else (acts ++ List.replicate (num ds) a, true)
def pp (acts : List Int) (a : Int) (ds : List UInt8) : List UInt8 → List Int × Bool
  | [] => bif decide (a ≥ 0) then fin acts a ds else (acts, true)
  | b :: t => bif isD b && decide (a ≥ 0) && decide (ds.length < 5) then pp acts a (ds ++ [b]) t
    else bif decide (idx b < 0) || (idx b == a) then ([], false)
    else bif decide (a ≥ 0) then (bif (fin acts a ds).2 then pp (fin acts a ds).1 (idx b) [] t else ([], false))
    else pp acts (idx b) [] t
theorem fin_bad {acts : List Int} {a : Int} {ds : List UInt8} (h : bad ds = true) : fin acts a ds = ([], false) := by simp [fin, h]
theorem fin_over {acts : List Int} {a : Int} {ds : List UInt8} (h : 4096 < acts.length + num ds) : fin acts a ds = ([], false) := by simp [fin, h]
theorem fin_ok {acts : List Int} {a : Int} {ds : List UInt8} (hb : bad ds = false) (h : acts.length + num ds ≤ 4096) : fin acts a ds = (acts ++ List.replicate (num ds) a, true) := by
  unfold fin
  rw [hb, decide_eq_false (Nat.not_lt.2 h)]; rfl
theorem big_t {n m : Nat} (h : 4096 < m + n) (hm : m ≤ 4096) : decide ((n : Int) > ((4096 - m : Nat) : Int)) = true := by rw [decide_eq_true_iff]; omega
theorem big_f {n m : Nat} (h : m + n ≤ 4096) : decide ((n : Int) > ((4096 - m : Nat) : Int)) = false := by rw [decide_eq_false_iff_not]; omega
/-- the end of a run, as the walk has it, with what follows -/
theorem finG {ρ : Type} (acts : List Int) (a : Int) (ds : List UInt8) (hds : ds.all isD = true) (hdl : ds.length ≤ 5) (hal : acts.length ≤ 4096) (no : Option ρ) (yes : List Int → Option ρ) :
    (bif (!((⟨ds.toArray⟩ : ByteArray).toList == (⟨#[]⟩ : ByteArray).toList)) then ((G_strconv_Atoi_27 ⟨ds.toArray⟩).bind fun t_63 => (req (imp (!(decide (t_63.1 < 2) || decide (t_63.1 > 4096))) (inb 0 (⟨ds.toArray⟩ : ByteArray).size)) (bif ((decide (t_63.1 < 2) || decide (t_63.1 > 4096)) || ((rdB ⟨ds.toArray⟩ 0) == 48)) then no else (bif decide (t_63.1 > (IntKind.i64.wrap (4096 - (acts.length : Int)))) then no else ((G_slices_Repeat_int_int ([a] : List Int) t_63.1).bind fun t_101 => (req (decide ((acts.length + t_101.length) * 8 ≤ 140737488355328)) (yes (acts ++ t_101))))))))
      else (bif decide (1 > (IntKind.i64.wrap (4096 - (acts.length : Int)))) then no else ((G_slices_Repeat_int_int ([a] : List Int) 1).bind fun t_137 => (req (decide ((acts.length + t_137.length) * 8 ≤ 140737488355328)) (yes (acts ++ t_137)))))) = bif (fin acts a ds).2 then yes (fin acts a ds).1 else no := by
  have hw : IntKind.i64.wrap (4096 - (acts.length : Int)) = ((4096 - acts.length : Nat) : Int) := by rw [w64] <;> omega
  have hsz : ∀ n : Nat, n ≤ 4096 → decide ((acts.length + (List.replicate n a).length) * 8 ≤ 140737488355328) = true := fun n hn => by rw [decide_eq_true_iff, List.length_replicate]; omega
  have hemp : ((⟨ds.toArray⟩ : ByteArray).toList == (⟨#[]⟩ : ByteArray).toList) = ds.isEmpty := by
    rw [ByteArray.toList_eq, ByteArray.toList_eq]
    cases ds <;> rfl
  rw [hemp, hw]
  cases ds with
  | nil =>
    simp only [List.isEmpty_nil, Bool.not_true, cond_false]
    have hb0 : bad [] = false := rfl
    have hn0 : num [] = 1 := rfl
    rcases Nat.lt_or_ge 4096 (acts.length + 1) with h | h
    · have := big_t h hal
      rw [show ((1 : Nat) : Int) = 1 from rfl] at this
      rw [this, fin_over (by rw [hn0]; exact h)]; rfl
    · have h1 := big_f h
      have := repeat1 a (n := 1) (Nat.le_refl _) (by omega)
      rw [show ((1 : Nat) : Int) = 1 from rfl] at this h1
      rw [h1, this, fin_ok hb0 (by rw [hn0]; exact h), hn0]
      simp only [cond_false, cond_true, Option.bind_some]
      rw [hsz 1 (by omega), req_t]
  | cons b t =>
    simp only [List.isEmpty_cons, Bool.not_false, cond_true]
    have hat : G_strconv_Atoi_27 ⟨(b :: t).toArray⟩ = some ((val (b :: t) : Int), .nil) := by
      unfold G_strconv_Atoi_27
      rw [if_pos (by rw [size_mk]; omega)]
      rw [show (⟨(b :: t).toArray⟩ : ByteArray).data.toList = b :: t by simp, atoi_val hds (by simp)]; rfl
    have hrd : rdB ⟨(b :: t).toArray⟩ 0 = (b.toNat : Int) := rdB_at (b :: t) 0 b rfl
    have hin : inb 0 (⟨(b :: t).toArray⟩ : ByteArray).size = true := by rw [size_mk]; exact inb_n (i := 0) (by simp)
    rw [hat]
    simp only [Option.bind_some, hrd, hin, imp_tt, req_t]
    have h48 : (((b.toNat : Int)) == 48) = ((b :: t).head? == some 48) := by
      rw [Bool.eq_iff_iff]
      simp only [beq_iff_eq, List.head?_cons, Option.some.injEq]
      constructor
      · intro h; exact UInt8.toNat_inj.1 (show b.toNat = (48 : UInt8).toNat by have : (48 : UInt8).toNat = 48 := rfl; omega)
      · rintro rfl; rfl
    have hb1 : (decide ((val (b :: t) : Int) < 2) || decide ((val (b :: t) : Int) > 4096) || ((b.toNat : Int) == 48)) = bad (b :: t) := by
      unfold bad
      rw [List.isEmpty_cons, Bool.not_false, Bool.true_and, h48, show decide ((val (b :: t) : Int) < 2) = decide (val (b :: t) < 2) by rw [Bool.eq_iff_iff]; simp; omega, show decide ((val (b :: t) : Int) > 4096) = decide (val (b :: t) > 4096) by rw [Bool.eq_iff_iff]; simp; omega]
    rw [hb1]
    cases hbad : bad (b :: t) with
    | true => rw [fin_bad hbad]; rfl
    | false =>
      have hn : num (b :: t) = val (b :: t) := if_neg (by simp)
      have hv : 2 ≤ val (b :: t) ∧ val (b :: t) ≤ 4096 := by
        unfold bad at hbad
        simp only [List.isEmpty_cons, Bool.not_false, Bool.true_and, Bool.or_eq_false_iff, decide_eq_false_iff_not] at hbad
        omega
      rcases Nat.lt_or_ge 4096 (acts.length + val (b :: t)) with h | h
      · rw [big_t h hal, fin_over (by rw [hn]; exact h)]; rfl
      · rw [big_f h, fin_ok hbad (by rw [hn]; exact h), repeat1 a (by omega) hv.2, hn]
        simp only [cond_false, cond_true, Option.bind_some]
        rw [hsz _ hv.2, req_t]
theorem fin_len {acts : List Int} {a : Int} {ds : List UInt8} (h : (fin acts a ds).2 = true) : (fin acts a ds).1.length ≤ 4096 ∧ bad ds = false ∧ (fin acts a ds).1 = acts ++ List.replicate (num ds) a := by
  cases hb : bad ds with
  | true => rw [fin_bad hb] at h; cases h
  | false =>
    rcases Nat.lt_or_ge 4096 (acts.length + num ds) with h2 | h2
    · rw [fin_over h2] at h; cases h
    · rw [fin_ok hb h2]; simp; omega
theorem fin_no {acts : List Int} {a : Int} {ds : List UInt8} (h : (fin acts a ds).2 = false) : fin acts a ds = ([], false) := by
  cases hb : bad ds with
  | true => exact fin_bad hb
  | false =>
    rcases Nat.lt_or_ge 4096 (acts.length + num ds) with h2 | h2
    · exact fin_over h2
    · rw [fin_ok hb h2] at h; cases h
theorem all_snoc {ds : List UInt8} {b : UInt8} (h : ds.all isD = true) (hb : isD b = true) : (ds ++ [b]).all isD = true := by
  rw [List.all_append, h]; simp [hb]
/-- one step of the reading -/
def nextP (acts : List Int) (f : Bool) (g : List Int) (a : Int) (ds : List UInt8) (pos : Nat) (b : UInt8) : Stp (Bool × (List Int) × Bool × (List Int) × Int × ByteArray × Nat) (Ex (Bool × (List Int) × Bool × (List Int) × Int × ByteArray × Nat) ((List Int) × Bool)) :=
  bif isD b && decide (a ≥ 0) && decide (ds.length < 5) then .next (true, acts, f, g, a, ⟨(ds ++ [b]).toArray⟩, pos + 1)
  else bif decide (idx b < 0) || (idx b == a) then .out (.ret ([], false))
  else bif decide (a ≥ 0) then (bif (fin acts a ds).2 then .next (true, (fin acts a ds).1, f, g, idx b, ByteArray.empty, pos + 1) else .out (.ret ([], false)))
  else .next (true, acts, f, g, idx b, ByteArray.empty, pos + 1)
theorem stepP (l : List UInt8) (pos : Nat) (b : UInt8) (h : l[pos]? = some b) (acts : List Int) (a : Int) (ds : List UInt8) (f : Bool) (g : List Int) (hds : ds.all isD = true) (hdl : ds.length ≤ 5) (hal : acts.length ≤ 4096) :
    G_pack_Parse.b1 ⟨l.toArray⟩ (true, acts, f, g, a, ⟨ds.toArray⟩, pos) = some (nextP acts f g a ds pos b) := by
  have hp : pos < l.length := (List.getElem?_eq_some_iff.1 h).1
  have hb256 : b.toNat < 256 := b.toNat_lt
  unfold G_pack_Parse.b1
  dsimp only
  rw [size_mk, decide_eq_true hp, cond_true]
  by_cases hb : b.toNat < 128
  · rw [dec_lo l pos b h hb]
    dsimp only
    rw [u8n hb256, enc_lo hb]
    have hix : G_strings_IndexByte (⟨#[97, 98, 116]⟩ : ByteArray) (b.toNat : Int) = some (idx b) := by
      unfold G_strings_IndexByte
      rw [Int.toNat_natCast, show b.toNat.toUInt8 = b by simp]
      exact congrArg some (indexB b)
    rw [hix]
    simp only [Option.bind_some]
    have e1 : (decide ((b.toNat : Int) ≥ 48) && decide ((b.toNat : Int) ≤ 57)) = isD b := by
      unfold isD
      rw [show decide ((b.toNat : Int) ≥ 48) = decide (48 ≤ b.toNat) by rw [Bool.eq_iff_iff]; simp; omega, show decide ((b.toNat : Int) ≤ 57) = decide (b.toNat ≤ 57) by rw [Bool.eq_iff_iff]; simp; omega]
    have e2 : decide (((⟨ds.toArray⟩ : ByteArray).size : Int) < 5) = decide (ds.length < 5) := by rw [size_mk, Bool.eq_iff_iff]; simp; omega
    have e3 : decide ((b.toNat : Int) > 127) = false := by rw [decide_eq_false_iff_not]; omega
    rw [e1, size_mk, show decide ((ds.length : Int) < 5) = decide (ds.length < 5) by rw [Bool.eq_iff_iff]; simp; omega, e3, Bool.false_or]
    unfold nextP
    cases hc : (isD b && decide (a ≥ 0) && decide (ds.length < 5)) with
    | true =>
      simp only [cond_true]
      rw [size_mk, show decide (ds.length + ([UInt8.ofNat b.toNat] : List UInt8).length ≤ 140737488355328) = true by rw [decide_eq_true_iff]; simp; omega, req_t, ByteArray.mk_append_mk, show UInt8.ofNat b.toNat = b by simp]
    | false =>
      simp only [cond_false]
      cases hi : (decide (idx b < 0) || (idx b == a)) with
      | true => rfl
      | false =>
        simp only [cond_false]
        cases hag : decide (a ≥ 0) with
        | false => rfl
        | true =>
          simp only [cond_true]
          have := finG acts a ds hds hdl hal (some (Stp.out (Ex.ret (([] : List Int), false)))) (fun x => some (Stp.next (true, x, f, g, idx b, ByteArray.empty, pos + 1)) : List Int → Option (Stp (Bool × (List Int) × Bool × (List Int) × Int × ByteArray × Nat) (Ex (Bool × (List Int) × Bool × (List Int) × Int × ByteArray × Nat) ((List Int) × Bool))))
          rw [size_mk] at this
          rw [this]
          cases (fin acts a ds).2 <;> rfl
  · have hx := dec_hi l pos b h hb
    generalize Utf8.decode ⟨l.toArray⟩ pos = d at hx ⊢
    have hix : ∃ z, G_strings_IndexByte (⟨#[97, 98, 116]⟩ : ByteArray) (IntKind.u8.wrap (d.1 : Int)) = some z := ⟨_, rfl⟩
    obtain ⟨z, hz⟩ := hix
    rw [hz]
    simp only [Option.bind_some]
    rw [show decide ((d.1 : Int) ≤ 57) = false by rw [decide_eq_false_iff_not]; omega, show decide ((d.1 : Int) > 127) = true by rw [decide_eq_true_iff]; omega]
    simp only [Bool.and_false, Bool.false_and, cond_false, Bool.true_or, cond_true]
    unfold nextP
    have hd : isD b = false := by unfold isD; simp; omega
    rw [hd, idx_hi hb]
    rfl
/-- what is made of the state at the end -/
noncomputable def endP (s1 : Bool × (List Int) × Bool × (List Int) × Int × ByteArray × Nat) : Option ((List Int) × Bool) := (bif decide (s1.2.2.2.2.1 ≥ 0) then (bif (!(s1.2.2.2.2.2.1.toList == (⟨#[]⟩ : ByteArray).toList)) then ((G_strconv_Atoi_27 s1.2.2.2.2.2.1).bind fun t_178 => (req (imp (!(decide (t_178.1 < 2) || decide (t_178.1 > 4096))) (inb 0 s1.2.2.2.2.2.1.size)) (bif ((decide (t_178.1 < 2) || decide (t_178.1 > 4096)) || ((rdB s1.2.2.2.2.2.1 0) == 48)) then some ([], false) else (bif decide (t_178.1 > (IntKind.i64.wrap (4096 - (s1.2.1.length : Int)))) then some ([], false) else ((G_slices_Repeat_int_int ([s1.2.2.2.2.1] : List Int) t_178.1).bind fun t_216 => (req (decide ((s1.2.1.length + t_216.length) * 8 ≤ 140737488355328)) (some ((s1.2.1 ++ t_216), true)))))))) else (bif decide (1 > (IntKind.i64.wrap (4096 - (s1.2.1.length : Int)))) then some ([], false) else ((G_slices_Repeat_int_int ([s1.2.2.2.2.1] : List Int) 1).bind fun t_253 => (req (decide ((s1.2.1.length + t_253.length) * 8 ≤ 140737488355328)) (some ((s1.2.1 ++ t_253), true)))))) else (bif (!s1.1) then some ([], false) else some (s1.2.1, true)))
theorem endP_eq (acts : List Int) (a : Int) (ds : List UInt8) (f : Bool) (g : List Int) (pos : Nat) (hds : ds.all isD = true) (hdl : ds.length ≤ 5) (hal : acts.length ≤ 4096) :
    endP (true, acts, f, g, a, ⟨ds.toArray⟩, pos) = some (pp acts a ds []) := by
  unfold endP pp
  dsimp only
  cases hag : decide (a ≥ 0) with
  | false => rfl
  | true =>
    simp only [cond_true]
    rw [finG acts a ds hds hdl hal (some (([] : List Int), false)) (fun x => some (x, true))]
    cases h : (fin acts a ds).2 with
    | true => simp only [cond_true]; rw [← h]
    | false => rw [fin_no h]; rfl
theorem mainP (l : List UInt8) : ∀ (rest : List UInt8) (pos : Nat) (acts : List Int) (a : Int) (ds : List UInt8) (f : Bool) (g : List Int), l.drop pos = rest → ds.all isD = true → ds.length ≤ 5 → acts.length ≤ 4096 →
    ((loopω (G_pack_Parse.b1 ⟨l.toArray⟩) (true, acts, f, g, a, ⟨ds.toArray⟩, pos)).bind fun o => o.on endP (fun r => some r)) = some (pp acts a ds rest)
  | [], pos, acts, a, ds, f, g, hr, hds, hdl, hal => by
    have hp : ¬ pos < l.length := fun h => by rw [List.drop_eq_getElem_cons h] at hr; cases hr
    have hB : G_pack_Parse.b1 ⟨l.toArray⟩ (true, acts, f, g, a, ⟨ds.toArray⟩, pos) = some (.out (.brk (true, acts, f, g, a, ⟨ds.toArray⟩, pos))) := by
      unfold G_pack_Parse.b1
      dsimp only
      rw [size_mk, decide_eq_false hp]; rfl
    rw [loopω_eq, hB]
    exact endP_eq acts a ds f g pos hds hdl hal
  | b :: t, pos, acts, a, ds, f, g, hr, hds, hdl, hal => by
    have hb : l[pos]? = some b := by
      have : (l.drop pos)[0]? = some b := by rw [hr]; rfl
      rw [List.getElem?_drop] at this; simpa using this
    have hr2 : l.drop (pos + 1) = t := by rw [← List.drop_drop, hr]; rfl
    rw [loopω_eq, stepP l pos b hb acts a ds f g hds hdl hal]
    unfold nextP
    rw [pp]
    cases hc : (isD b && decide (a ≥ 0) && decide (ds.length < 5)) with
    | true =>
      simp only [cond_true]
      simp only [Bool.and_eq_true, decide_eq_true_iff] at hc
      exact mainP l t (pos + 1) acts a (ds ++ [b]) f g hr2 (all_snoc hds hc.1.1) (by simp; omega) hal
    | false =>
      simp only [cond_false]
      cases hi : (decide (idx b < 0) || (idx b == a)) with
      | true => rfl
      | false =>
        simp only [cond_false]
        cases hag : decide (a ≥ 0) with
        | false =>
          simp only [cond_false]
          exact mainP l t (pos + 1) acts (idx b) [] f g hr2 rfl (by simp) hal
        | true =>
          simp only [cond_true]
          cases hf : (fin acts a ds).2 with
          | false => rfl
          | true =>
            simp only [cond_true]
            exact mainP l t (pos + 1) (fin acts a ds).1 (idx b) [] f g hr2 rfl (by simp) (fin_len hf).1
theorem packParse (l : List UInt8) : G_pack_Parse ⟨l.toArray⟩ = some (pp [] (-1) [] l) := mainP l l 0 [] (-1) [] false [] rfl rfl (by simp) (by simp)
/-! ### a text that is one, and one that is read -/
def dsOf (n : Nat) : List UInt8 := if n > 1 then Lib.decDigits n else []
theorem seg_eq (a : Int) (n : Nat) : seg (a, n) = letter a :: dsOf n := rfl
theorem dsOf_isD (n : Nat) : (dsOf n).all isD = true := by
  unfold dsOf; split
  · exact dig_isD n
  · rfl
theorem okA_ge {a : Int} (h : okA a = true) : decide (a ≥ 0) = true := by rcases okA_iff.1 h with rfl | rfl | rfl <;> rfl
theorem fin_dig {acts : List Int} {a : Int} {n : Nat} (h1 : 1 ≤ n) (h2 : acts.length + n ≤ 4096) : fin acts a (dsOf n) = (acts ++ List.replicate n a, true) := by
  have key : bad (dsOf n) = false ∧ num (dsOf n) = n := by
    unfold dsOf
    split
    · rename_i h
      have hh := dig_head n (by omega)
      have hne := dig_ne n
      refine ⟨?_, by unfold num; rw [if_neg hne, dig_val]⟩
      unfold bad
      rw [dig_val, decide_eq_false (by omega : ¬ n < 2), decide_eq_false (by omega : ¬ n > 4096)]
      have : ((Lib.decDigits n).head? == some 48) = false := by simpa using hh
      rw [this]; simp
    · rename_i h
      exact ⟨rfl, by show (1 : Nat) = n; omega⟩
  rw [fin_ok key.1 (by rw [key.2]; exact h2), key.2]
theorem fwdD (acts : List Int) (a : Int) (ha : decide (a ≥ 0) = true) (rest : List UInt8) : ∀ (e ds : List UInt8), e.all isD = true → ds.length + e.length ≤ 5 → pp acts a ds (e ++ rest) = pp acts a (ds ++ e) rest
  | [], ds, _, _ => by simp
  | b :: e, ds, he, hl => by
    rw [List.all_cons, Bool.and_eq_true] at he
    simp only [List.length_cons] at hl
    rw [List.cons_append, pp, he.1, ha, decide_eq_true (by omega : ds.length < 5)]
    simp only [Bool.and_self, cond_true]
    rw [fwdD acts a ha rest e (ds ++ [b]) he.2 (by simp; omega)]
    simp
theorem fwd : ∀ (T : List (Int × Nat)) (acts : List Int) (a : Int) (n : Nat), okA a = true → okR ((a, n) :: T) → (∀ p ∈ T, okA p.1 = true) → acts.length + n + (ex T).length ≤ 4096 → pp acts a (dsOf n) (txt T) = (acts ++ List.replicate n a ++ ex T, true)
  | [], acts, a, n, ha, hR, hA, hl => by
    rw [show txt [] = [] from rfl, pp, okA_ge ha, cond_true, fin_dig hR.1 (by simp [ex] at hl; omega)]
    simp [ex]
  | (a2, n2) :: T, acts, a, n, ha, hR, hA, hl => by
    have ha2 : okA a2 = true := hA (a2, n2) (by simp)
    obtain ⟨e1, e2⟩ := idx_letter ha2
    rw [ex_cons, List.length_append, List.length_replicate] at hl
    simp only at hl
    have hne : a ≠ a2 := hR.2.1 (a2, n2) rfl
    have hne2 : (a2 == a) = false := by rw [beq_eq_false_iff_ne]; exact fun e => hne e.symm
    have hge := okA_ge ha2
    have hneg : decide (a2 < 0) = false := by rw [decide_eq_false_iff_not]; rw [decide_eq_true_iff] at hge; omega
    rw [txt_cons, seg_eq, List.cons_append, pp, e2, e1, hne2, hneg, okA_ge ha]
    simp only [Bool.false_and, cond_false, Bool.or_self, cond_true]
    rw [fin_dig hR.1 (by omega)]
    simp only [cond_true]
    have hdl : (dsOf n2).length ≤ 5 := by
      unfold dsOf; split
      · have := dig_len 3 n2 (by omega); omega
      · simp
    rw [fwdD _ a2 hge _ (dsOf n2) [] (dsOf_isD n2) (by simpa using hdl), List.nil_append]
    rw [fwd T (acts ++ List.replicate n a) a2 n2 ha2 hR.2.2 (fun p hp => hA p (by simp [hp])) (by simp; omega), ex_cons]
    simp
theorem fwd0 (R : List (Int × Nat)) (hR : okR R) (hA : ∀ p ∈ R, okA p.1 = true) (hl : (ex R).length ≤ 4096) : pp [] (-1) [] (txt R) = (ex R, true) := by
  cases R with
  | nil => rfl
  | cons p T =>
    obtain ⟨a, n⟩ := p
    have ha : okA a = true := hA (a, n) (by simp)
    obtain ⟨e1, e2⟩ := idx_letter ha
    have hge := okA_ge ha
    have hneg : decide (a < 0) = false := by rw [decide_eq_false_iff_not]; rw [decide_eq_true_iff] at hge; omega
    have hne : (a == -1) = false := by rw [beq_eq_false_iff_ne]; rw [decide_eq_true_iff] at hge; omega
    rw [ex_cons, List.length_append, List.length_replicate] at hl
    simp only at hl
    rw [txt_cons, seg_eq, List.cons_append, pp, e2, e1, hne, hneg, show decide ((-1 : Int) ≥ 0) = false from rfl]
    simp only [Bool.false_and, cond_false, Bool.or_self]
    have hdl : (dsOf n).length ≤ 5 := by
      unfold dsOf; split
      · have := dig_len 3 n (by omega); omega
      · simp
    rw [fwdD _ a hge _ (dsOf n) [] (dsOf_isD n) (by simpa using hdl), List.nil_append, fwd T [] a n ha hR (fun p hp => hA p (by simp [hp])) (by simp; omega), ex_cons]
    simp
theorem segOf {ds : List UInt8} (a : Int) (h : bad ds = false) (hd : ds.all isD = true) : seg (a, num ds) = letter a :: ds ∧ 1 ≤ num ds := by
  cases ds with
  | nil => exact ⟨rfl, Nat.le_refl _⟩
  | cons b t =>
    have hn : num (b :: t) = val (b :: t) := if_neg (by simp)
    unfold bad at h
    simp only [List.isEmpty_cons, Bool.not_false, Bool.true_and, Bool.or_eq_false_iff, decide_eq_false_iff_not] at h
    have hh : (b :: t).head? ≠ some 48 := by simpa using h.2
    obtain ⟨e, hv⟩ := dig_of _ (b :: t) rfl hd (by simp) hh
    rw [hn]
    refine ⟨?_, hv⟩
    rw [seg_eq]
    unfold dsOf
    rw [if_pos (by omega), e]
theorem snd_ : ∀ (rest : List UInt8) (acts : List Int) (a : Int) (ds : List UInt8) (l : List Int), okA a = true → ds.all isD = true → pp acts a ds rest = (l, true) →
    ∃ n T, letter a :: (ds ++ rest) = seg (a, n) ++ txt T ∧ okR ((a, n) :: T) ∧ (∀ p ∈ T, okA p.1 = true) ∧ l = acts ++ List.replicate n a ++ ex T ∧ l.length ≤ 4096
  | [], acts, a, ds, l, ha, hd, h => by
    rw [pp, okA_ge ha, cond_true] at h
    have hf : (fin acts a ds).2 = true := by rw [h]
    obtain ⟨h1, h2, h3⟩ := fin_len hf
    obtain ⟨e, hn⟩ := segOf a h2 hd
    rw [h] at h1 h3
    exact ⟨num ds, [], by rw [e]; simp [txt], ⟨hn, by simp, trivial⟩, by simp, by simpa [ex] using h3, h1⟩
  | b :: t, acts, a, ds, l, ha, hd, h => by
    rw [pp] at h
    cases hc : (isD b && decide (a ≥ 0) && decide (ds.length < 5)) with
    | true =>
      rw [hc, cond_true] at h
      simp only [Bool.and_eq_true, decide_eq_true_iff] at hc
      obtain ⟨n, T, e, q⟩ := snd_ t acts a (ds ++ [b]) l ha (all_snoc hd hc.1.1) h
      exact ⟨n, T, by rw [← e]; simp, q⟩
    | false =>
      rw [hc, cond_false] at h
      cases hi : (decide (idx b < 0) || (idx b == a)) with
      | true => rw [hi, cond_true] at h; cases h
      | false =>
        rw [hi, cond_false, okA_ge ha, cond_true] at h
        simp only [Bool.or_eq_false_iff, decide_eq_false_iff_not] at hi
        obtain ⟨k1, k2, _⟩ := idx_ok hi.1
        cases hf : (fin acts a ds).2 with
        | false => rw [hf, cond_false] at h; cases h
        | true =>
          rw [hf, cond_true] at h
          obtain ⟨_, h2, h3⟩ := fin_len hf
          obtain ⟨e, hn⟩ := segOf a h2 hd
          obtain ⟨n, T, e2, q1, q2, q3, q4⟩ := snd_ t _ (idx b) [] l k1 rfl h
          rw [k2, List.nil_append] at e2
          have hne : a ≠ idx b := by have := hi.2; rw [beq_eq_false_iff_ne] at this; exact fun e => this e.symm
          refine ⟨num ds, (idx b, n) :: T, ?_, ⟨hn, by intro q hq; simp at hq; subst hq; exact hne, q1⟩, ?_, ?_, q4⟩
          · rw [txt_cons, ← e2, e]; simp
          · intro p hp
            rcases List.mem_cons.1 hp with rfl | hp
            · exact k1
            · exact q2 p hp
          · rw [q3, h3, ex_cons]; simp
theorem snd0 (s : List UInt8) (l : List Int) (h : pp [] (-1) [] s = (l, true)) : ∃ R, okR R ∧ (∀ p ∈ R, okA p.1 = true) ∧ s = txt R ∧ l = ex R ∧ l.length ≤ 4096 := by
  cases s with
  | nil =>
    have : l = [] := by have := congrArg Prod.fst h; exact this.symm
    subst this
    exact ⟨[], trivial, by simp, rfl, rfl, by simp⟩
  | cons b t =>
    rw [pp, show decide ((-1 : Int) ≥ 0) = false from rfl] at h
    simp only [Bool.and_false, Bool.false_and, cond_false] at h
    cases hi : (decide (idx b < 0) || (idx b == -1)) with
    | true => rw [hi, cond_true] at h; cases h
    | false =>
      rw [hi, cond_false] at h
      simp only [Bool.or_eq_false_iff, decide_eq_false_iff_not] at hi
      obtain ⟨k1, k2, _⟩ := idx_ok hi.1
      obtain ⟨n, T, e2, q1, q2, q3, q4⟩ := snd_ t [] (idx b) [] l k1 rfl h
      rw [k2, List.nil_append] at e2
      refine ⟨(idx b, n) :: T, q1, ?_, by rw [txt_cons, ← e2], by rw [q3, ex_cons]; simp, q4⟩
      intro p hp
      rcases List.mem_cons.1 hp with rfl | hp
      · exact k1
      · exact q2 p hp
theorem pp_no : ∀ (s : List UInt8) (acts : List Int) (a : Int) (ds : List UInt8), (pp acts a ds s).2 = false → pp acts a ds s = ([], false)
  | [], acts, a, ds, h => by
    rw [pp] at h ⊢
    cases hag : decide (a ≥ 0) with
    | true => rw [hag, cond_true] at h; rw [cond_true]; exact fin_no h
    | false => rw [hag, cond_false] at h; cases h
  | b :: t, acts, a, ds, h => by
    rw [pp] at h ⊢
    cases hc : (isD b && decide (a ≥ 0) && decide (ds.length < 5)) with
    | true => rw [hc, cond_true] at h; rw [cond_true]; exact pp_no t _ _ _ h
    | false =>
      rw [hc, cond_false] at h
      rw [cond_false]
      cases hi : (decide (idx b < 0) || (idx b == a)) with
      | true => rfl
      | false =>
        rw [hi, cond_false] at h
        rw [cond_false]
        cases hag : decide (a ≥ 0) with
        | false => rw [hag, cond_false] at h; rw [cond_false]; exact pp_no t _ _ _ h
        | true =>
          rw [hag, cond_true] at h
          rw [cond_true]
          cases hf : (fin acts a ds).2 with
          | false => rfl
          | true => rw [hf, cond_true] at h; rw [cond_true]; exact pp_no t _ _ _ h
end Go.Proofs.YtmchkeflhpojmaaDoor
