/- Plain law: the text of acts, as the program writes it and as the document does. No statement of the seat is proved here. Conditions: none. -/
import Derived.Test.YtmchkeflhpojmaaDoorPRuns
import Derived.Lib.Strings
set_option linter.unusedVariables false
set_option linter.unusedSimpArgs false
namespace Go.Proofs.YtmchkeflhpojmaaDoor
open Go Go.RowKit Go.Eng
/-! ### digits -/
def isD (b : UInt8) : Bool := decide (48 ≤ b.toNat) && decide (b.toNat ≤ 57)
def val0 (a : Nat) (l : List UInt8) : Nat := l.foldl (fun a b => a * 10 + (b.toNat - 48)) a
def val (l : List UInt8) : Nat := val0 0 l
theorem isD_iff {b : UInt8} : isD b = true ↔ 48 ≤ b.toNat ∧ b.toNat ≤ 57 := by simp [isD]
theorem decFrom_val : ∀ (l : List UInt8) (a : Nat), l.all isD = true → Lib.decFrom a l = some (val0 a l)
  | [], a, _ => rfl
  | b :: t, a, h => by
    rw [List.all_cons, Bool.and_eq_true] at h
    have hb := isD_iff.1 h.1
    unfold Lib.decFrom Lib.digitVal
    rw [if_pos hb]
    exact decFrom_val t _ h.2
theorem atoi_val {l : List UInt8} (h : l.all isD = true) (hne : l ≠ []) : Lib.atoi l = some (val l : Int) := by
  cases l with
  | nil => exact absurd rfl hne
  | cons b t =>
    have hb := isD_iff.1 (Bool.and_eq_true_iff.1 (by rw [List.all_cons] at h; exact h)).1
    have h1 : (b == 45) = false := by rw [beq_eq_false_iff_ne]; rintro rfl; exact absurd hb.1 (by decide)
    have h2 : (b == 43) = false := by rw [beq_eq_false_iff_ne]; rintro rfl; exact absurd hb.1 (by decide)
    unfold Lib.atoi
    simp only [h1, h2, Bool.false_eq_true, if_false]
    unfold Lib.decNat
    rw [show (b :: t).isEmpty = false from rfl]
    simp only [Bool.false_eq_true, if_false, decFrom_val (b :: t) 0 h]
    rfl
theorem val_snoc (l : List UInt8) (b : UInt8) : val (l ++ [b]) = val l * 10 + (b.toNat - 48) := by simp [val, val0]
theorem dig_eq (n : Nat) : Lib.decDigits n = if n < 10 then [UInt8.ofNat (48 + n)] else Lib.decDigits (n / 10) ++ [UInt8.ofNat (48 + n % 10)] := by
  rw [Lib.decDigits]
  split <;> rfl
theorem ofN {d : Nat} (h : d < 10) : (UInt8.ofNat (48 + d)).toNat = 48 + d := by
  rw [UInt8.toNat_ofNat']; omega
theorem dig_ne (n : Nat) : Lib.decDigits n ≠ [] := by
  rw [dig_eq]; split <;> simp
theorem dig_isD (n : Nat) : (Lib.decDigits n).all isD = true := by
  induction n using Nat.strongRecOn with
  | _ n ih =>
    rw [dig_eq]
    split
    · rename_i h
      simp [isD_iff, ofN h]; omega
    · rename_i h
      rw [List.all_append, ih (n / 10) (by omega)]
      simp [isD_iff, ofN (Nat.mod_lt n (by decide : 0 < 10))]; omega
theorem dig_val (n : Nat) : val (Lib.decDigits n) = n := by
  induction n using Nat.strongRecOn with
  | _ n ih =>
    rw [dig_eq]
    split
    · rename_i h
      show 0 * 10 + ((UInt8.ofNat (48 + n)).toNat - 48) = n
      rw [ofN h]; omega
    · rename_i h
      rw [val_snoc, ih (n / 10) (by omega), ofN (Nat.mod_lt n (by decide))]
      omega
theorem dig_head (n : Nat) (h0 : 0 < n) : (Lib.decDigits n).head? ≠ some 48 := by
  induction n using Nat.strongRecOn with
  | _ n ih =>
    rw [dig_eq]
    split
    · rename_i h
      simp only [List.head?_cons, ne_eq, Option.some.injEq]
      intro e
      have := congrArg UInt8.toNat e
      rw [ofN h] at this
      have h48 : (48 : UInt8).toNat = 48 := rfl
      omega
    · rename_i h
      have := ih (n / 10) (by omega) (by omega)
      cases hd : Lib.decDigits (n / 10) with
      | nil => exact absurd hd (dig_ne _)
      | cons b t => rw [hd] at this; simpa using this
theorem dig_of (k : Nat) : ∀ l : List UInt8, l.length = k → l.all isD = true → l ≠ [] → l.head? ≠ some 48 → Lib.decDigits (val l) = l ∧ 0 < val l := by
  induction k with
  | zero => intro l h _ hne; exact absurd (List.length_eq_zero_iff.1 h) hne
  | succ k ih =>
    intro l hl hd hne hh
    obtain ⟨t, b, rfl⟩ : ∃ t b, l = t ++ [b] := ⟨l.dropLast, l.getLast hne, (List.dropLast_concat_getLast hne).symm⟩
    rw [List.all_append, Bool.and_eq_true] at hd
    have hb : 48 ≤ b.toNat ∧ b.toNat ≤ 57 := isD_iff.1 (by simpa using hd.2)
    have hbo : UInt8.ofNat (48 + (b.toNat - 48)) = b := by
      rw [show 48 + (b.toNat - 48) = b.toNat by omega]; simp
    rw [val_snoc]
    cases t with
    | nil =>
      have h48 : b.toNat ≠ 48 := fun e => hh (by
        simp only [List.nil_append, List.head?_cons, Option.some.injEq]
        exact UInt8.toNat_inj.1 e)
      rw [show val [] = 0 from rfl, Nat.zero_mul, Nat.zero_add, dig_eq, if_pos (by omega), hbo]
      exact ⟨rfl, by omega⟩
    | cons c r =>
      have hl2 : (c :: r).length = k := by simpa using hl
      obtain ⟨e, hv⟩ := ih (c :: r) hl2 hd.1 (by simp) (by simpa using hh)
      rw [dig_eq, if_neg (by omega), show (val (c :: r) * 10 + (b.toNat - 48)) / 10 = val (c :: r) by omega, show (val (c :: r) * 10 + (b.toNat - 48)) % 10 = b.toNat - 48 by omega, e, hbo]
      exact ⟨rfl, by omega⟩
theorem dig_len (k : Nat) : ∀ n, n < 10 ^ (k + 1) → (Lib.decDigits n).length ≤ k + 1 := by
  induction k with
  | zero => intro n h; rw [dig_eq, if_pos (by simpa using h)]; simp
  | succ k ih =>
    intro n h
    rw [dig_eq]
    split
    · simp
    · rw [List.length_append]
      have := ih (n / 10) (by rw [Nat.pow_succ] at h; omega)
      simp only [List.length_singleton]; omega
/-! ### runs and acts -/
def ex (R : List (Int × Nat)) : List Int := R.flatMap fun p => List.replicate p.2 p.1
theorem ex_cons (p : Int × Nat) (R : List (Int × Nat)) : ex (p :: R) = List.replicate p.2 p.1 ++ ex R := by simp [ex]
theorem ex_runs : ∀ l : List Int, ex (runs l) = l
  | [] => rfl
  | x :: t => by
    have ih := ex_runs t
    rw [runs_eq]
    cases h : runs t with
    | nil => rw [h] at ih; simp [ex] at ih ⊢; exact ih
    | cons p r =>
      rw [h, ex_cons] at ih
      dsimp only
      split
      · rename_i e
        subst e
        rw [ex_cons, List.replicate_succ, List.cons_append, ih]
      · rw [ex_cons, ex_cons, ih]; rfl
/-- runs that are told as they should be -/
def okR : List (Int × Nat) → Prop
  | [] => True
  | p :: r => 1 ≤ p.2 ∧ (∀ q, r.head? = some q → p.1 ≠ q.1) ∧ okR r
theorem okR_runs : ∀ l : List Int, okR (runs l)
  | [] => trivial
  | x :: t => by
    have ih := okR_runs t
    rw [runs_eq]
    cases h : runs t with
    | nil => exact ⟨Nat.le_refl _, by simp, trivial⟩
    | cons p r =>
      rw [h] at ih
      dsimp only
      split
      · exact ⟨by simp, ih.2.1, ih.2.2⟩
      · rename_i e
        exact ⟨Nat.le_refl _, by intro q hq; simp at hq; subst hq; exact e, ih⟩
theorem runs_rep (a : Int) (l : List Int) (R : List (Int × Nat)) (h : runs l = R) (hne : ∀ q, R.head? = some q → a ≠ q.1) : ∀ n, runs (List.replicate (n + 1) a ++ l) = (a, n + 1) :: R
  | 0 => by
    rw [List.replicate_one, List.singleton_append, runs_eq, h]
    cases R with
    | nil => rfl
    | cons p r => dsimp only; rw [if_neg (hne p rfl)]
  | n + 1 => by
    rw [List.replicate_succ, List.cons_append, runs_eq, runs_rep a l R h hne n]
    simp
theorem runs_ex : ∀ R, okR R → runs (ex R) = R
  | [], _ => rfl
  | p :: r, h => by
    rw [ex_cons]
    obtain ⟨n, hn⟩ : ∃ n, p.2 = n + 1 := ⟨p.2 - 1, by have := h.1; omega⟩
    rw [hn, runs_rep p.1 (ex r) r (runs_ex r h.2.2) h.2.1 n, ← hn]
/-! ### the text -/
def okA (a : Int) : Bool := !(decide (a < 0) || decide (a ≥ 3))
theorem okA_iff {a : Int} : okA a = true ↔ a = 0 ∨ a = 1 ∨ a = 2 := by
  simp [okA]; omega
def letter (a : Int) : UInt8 := if a = 0 then 97 else if a = 1 then 98 else 116
def seg (p : Int × Nat) : List UInt8 := letter p.1 :: (if p.2 > 1 then Lib.decDigits p.2 else [])
def txt (R : List (Int × Nat)) : List UInt8 := R.flatMap seg
theorem txt_cons (p : Int × Nat) (R : List (Int × Nat)) : txt (p :: R) = seg p ++ txt R := by simp [txt]
def ints (l : List UInt8) : List Int := l.map fun b => (b.toNat : Int)
theorem bytesOf_ints (l : List UInt8) : bytesOf (ints l) = ⟨l.toArray⟩ := by
  unfold bytesOf ints
  congr 2
  rw [List.map_map]
  conv => rhs; rw [← List.map_id l]
  apply List.map_congr_left
  intro b _
  simp
theorem ints_append (a b : List UInt8) : ints (a ++ b) = ints a ++ ints b := by simp [ints]
theorem rdB_at (l : List UInt8) (i : Nat) (b : UInt8) (h : l[i]? = some b) : rdB ⟨l.toArray⟩ (i : Int) = (b.toNat : Int) := by
  obtain ⟨hi, e⟩ := List.getElem?_eq_some_iff.1 h
  unfold rdB
  rw [dif_pos ⟨by omega, by show (i : Int).toNat < l.toArray.size; simpa using hi⟩]
  congr 1
  show (l.toArray[(i : Int).toNat]'_).toNat = _
  simp [e]
theorem abt {a : Int} (h : okA a = true) : inb a (⟨#[97, 98, 116]⟩ : ByteArray).size = true ∧ rdB (⟨#[97, 98, 116]⟩ : ByteArray) a = ((letter a).toNat : Int) := by
  rcases okA_iff.1 h with rfl | rfl | rfl <;> exact ⟨rfl, rfl⟩
/-- what is printed -/
def prt (l : List Int) : ByteArray × Bool := if l.length > 4096 then (⟨#[]⟩, false) else bif (runs l).all (fun p => okA p.1) then (⟨(txt (runs l)).toArray⟩, true) else (⟨#[]⟩, false)
theorem wbyte (x : Strings_Builder) (a : Int) (hon : x.buf_on = true) (hl : x.buf.length ≤ 1000000000) : ∃ y, G_strings_Builder_WriteByte x a = some (Fn46.nil, y) ∧ y.buf = x.buf ++ [a] ∧ y.buf_on = true := by
  refine ⟨⟨true, x.buf ++ [a], true⟩, ?_, rfl, rfl⟩
  unfold G_strings_Builder_WriteByte G_strings_Builder_copyCheck
  simp only [Option.bind_some, hon, req_t]
  rw [show decide ((x.buf.length + ([a] : List Int).length) * 1 ≤ 140737488355328) = true by rw [decide_eq_true_iff]; simp; omega, req_t]
theorem wstring (x : Strings_Builder) (s : ByteArray) (hon : x.buf_on = true) (hl : x.buf.length ≤ 1000000000) (hs : (bytesI s).length ≤ 1000000000) : ∃ y n, G_strings_Builder_WriteString x s = some (n, Fn46.nil, y) ∧ y.buf = x.buf ++ bytesI s ∧ y.buf_on = true := by
  refine ⟨⟨true, x.buf ++ bytesI s, true⟩, (s.size : Int), ?_, rfl, rfl⟩
  unfold G_strings_Builder_WriteString G_strings_Builder_copyCheck
  simp only [Option.bind_some, hon, req_t]
  rw [show decide (x.buf.length + (bytesI s).length ≤ 140737488355328) = true by rw [decide_eq_true_iff]; omega, req_t]
theorem seg_len (p : Int × Nat) (h : p.2 ≤ 4096) : (seg p).length ≤ 5 := by
  unfold seg
  rw [List.length_cons]
  split
  · have := dig_len 3 p.2 (by omega); omega
  · simp
theorem prFold (l0 t12 : List Int) (e : ByteArray) (f : Bool) : ∀ (R : List (Int × Nat)) (x : Strings_Builder), x.buf_on = true → x.buf.length + R.length * 5 ≤ 1000000 → (∀ p ∈ R, p.2 ≤ 4096) →
    ∃ y, foldY (G_pack_Print.r1 l0 t12) (e, f, x) (R.map fun p => (p.1, (p.2 : Int))) = some (bif R.all (fun p => okA p.1) then .next (e, f, y) else .out (0, (⟨#[]⟩, false, y))) ∧ (R.all (fun p => okA p.1) = true → y.buf = x.buf ++ ints (txt R) ∧ y.buf_on = true)
  | [], x, hon, hl, hp => ⟨x, rfl, fun _ => ⟨by simp [txt, ints], hon⟩⟩
  | p :: R, x, hon, hl, hp => by
    simp only [List.length_cons] at hl
    have hp0 := hp p (by simp)
    simp only [List.map_cons, foldY]
    by_cases hok : okA p.1 = true
    · obtain ⟨hi, hr⟩ := abt hok
      obtain ⟨y1, e1, b1, o1⟩ := wbyte x ((letter p.1).toNat : Int) hon (by omega)
      have hc : (decide (p.1 < 0) || decide (p.1 ≥ 3)) = false := by unfold okA at hok; simpa using hok
      have key : ∃ y2, G_pack_Print.r1 l0 t12 (e, f, x) (p.1, (p.2 : Int)) = some (.next (e, f, y2)) ∧ y2.buf = x.buf ++ ints (seg p) ∧ y2.buf_on = true := by
        unfold G_pack_Print.r1
        dsimp only
        rw [hc, hi, hr, cond_false, req_t, e1]
        simp only [Option.bind_some]
        by_cases h1 : p.2 > 1
        · rw [show decide ((p.2 : Int) > 1) = true by simp; omega, cond_true]
          have hit : G_strconv_Itoa_18 (p.2 : Int) = some ⟨(Lib.decDigits p.2).toArray⟩ := by
            unfold G_strconv_Itoa_18
            rw [if_pos (by omega)]
            unfold Lib.itoa
            rw [if_neg (by omega)]; rfl
          have hbi : bytesI ⟨(Lib.decDigits p.2).toArray⟩ = ints (Lib.decDigits p.2) := rfl
          have hdl := dig_len 3 p.2 (by omega)
          obtain ⟨y2, n, e2, b2, o2⟩ := wstring y1 ⟨(Lib.decDigits p.2).toArray⟩ o1 (by rw [b1]; simp; omega) (by rw [hbi]; simp [ints]; omega)
          rw [hit]
          simp only [Option.bind_some, e2]
          refine ⟨y2, rfl, ?_, o2⟩
          rw [b2, b1, hbi]
          unfold seg
          rw [if_pos h1]
          simp [ints]
        · rw [show decide ((p.2 : Int) > 1) = false by simp; omega, cond_false]
          refine ⟨y1, rfl, ?_, o1⟩
          rw [b1]
          unfold seg
          rw [if_neg h1]
          simp [ints]
      obtain ⟨y2, e2, b2, o2⟩ := key
      have hsl := seg_len p hp0
      obtain ⟨y, e3, b3⟩ := prFold l0 t12 e f R y2 o2 (by rw [b2]; simp [ints]; omega) (fun q hq => hp q (by simp [hq]))
      rw [e2]
      simp only [Option.bind_some, Stp.on]
      refine ⟨y, ?_, ?_⟩
      · rw [e3, List.all_cons, hok, Bool.true_and]
      · rw [List.all_cons, hok, Bool.true_and]
        intro h
        obtain ⟨h1, h2⟩ := b3 h
        exact ⟨by rw [h1, b2, txt_cons, ints_append, List.append_assoc], h2⟩
    · have hok2 : okA p.1 = false := by simpa using hok
      have hc : (decide (p.1 < 0) || decide (p.1 ≥ 3)) = true := by unfold okA at hok2; rw [Bool.not_eq_false'] at hok2; exact hok2
      have key : G_pack_Print.r1 l0 t12 (e, f, x) (p.1, (p.2 : Int)) = some (.out (0, (⟨#[]⟩, false, x))) := by
        unfold G_pack_Print.r1
        dsimp only
        rw [hc]; rfl
      rw [key]
      refine ⟨x, ?_, fun h => ?_⟩
      · simp only [Option.bind_some, Stp.on, List.all_cons, hok2, Bool.false_and, cond_false]
      · rw [List.all_cons, hok2] at h; cases h
theorem packPrint (l : List Int) (hl : l.length ≤ maxLen) : G_pack_Print l = some (prt l) := by
  unfold G_pack_Print prt
  by_cases h : l.length > 4096
  · rw [if_pos h, show decide ((l.length : Int) > 4096) = true by simp; omega]; rfl
  · rw [if_neg h, show decide ((l.length : Int) > 4096) = false by simp; omega, cond_false]
    simp only [G_pack_Runs, Option.bind_some]
    have hrl := runs_len l
    obtain ⟨y, e, hb⟩ := prFold l l ByteArray.empty false (runs l) (⟨false, [], true⟩ : Strings_Builder) rfl (by simp; omega) (fun p hp => by have := (runs_many l p hp).2; omega)
    rw [packRuns_it _ _ l hl e]
    cases ha : (runs l).all (fun p => okA p.1) with
    | true =>
      obtain ⟨h1, h2⟩ := hb ha
      simp only [cond_true, Option.bind_some, Stp.on]
      unfold G_strings_Builder_String
      rw [h2, req_t]
      simp only [Option.bind_some, h1, List.nil_append, bytesOf_ints]
    | false => rfl
/-! ### the document's -/
theorem wDig {n : Nat} (h : n < 10) : bytesOf [IntKind.u8.wrap (IntKind.i64.wrap (48 + (n : Int)))] = ⟨#[UInt8.ofNat (48 + n)]⟩ := by
  have : IntKind.u8.wrap (IntKind.i64.wrap (48 + (n : Int))) = ((48 + n : Nat) : Int) := by
    rw [w64 (by omega) (by omega)]
    simp [IntKind.wrap, IntKind.signed, IntKind.bits]; omega
  rw [this]; rfl
theorem step_lo (f : Int → Option ByteArray) {n : Nat} (h : n < 10) : G_ref30_digits.step f (n : Int) = some ⟨(Lib.decDigits n).toArray⟩ := by
  unfold G_ref30_digits.step
  rw [show decide ((n : Int) < 10) = true by simp; omega, cond_true, wDig h, dig_eq, if_pos h]
theorem step_hi (f : Int → Option ByteArray) {n : Nat} (h : ¬ n < 10) (hn : n ≤ 1000000000) : G_ref30_digits.step f (n : Int) = (f ((n / 10 : Nat) : Int)).bind fun t => req (decide (t.size + 1 ≤ 140737488355328)) (some (t ++ ⟨#[UInt8.ofNat (48 + n % 10)]⟩)) := by
  unfold G_ref30_digits.step
  have h1 : Int.tdiv (n : Int) 10 = ((n / 10 : Nat) : Int) := by rw [Int.tdiv_eq_ediv_of_nonneg (by omega)]; omega
  have h2 : Int.tmod (n : Int) 10 = ((n % 10 : Nat) : Int) := by rw [Int.tmod_eq_emod_of_nonneg (by omega)]; omega
  rw [show decide ((n : Int) < 10) = false by simp; omega, cond_false, h1, h2, w64 (by omega) (by omega), wDig (Nat.mod_lt n (by decide))]
  rfl
theorem refDigits (n : Nat) (hn : n ≤ 1000000000) : G_ref30_digits (n : Int) = some ⟨(Lib.decDigits n).toArray⟩ := by
  have h1 : ∀ n : Nat, n ≤ 1000000000 → ∃ m, G_ref30_digits.n m (n : Int) = some ⟨(Lib.decDigits n).toArray⟩ := by
    intro n
    induction n using Nat.strongRecOn with
    | _ n ih =>
      intro hn
      by_cases h : n < 10
      · exact ⟨1, step_lo _ h⟩
      · obtain ⟨m, hm⟩ := ih (n / 10) (by omega) (by omega)
        refine ⟨m + 1, ?_⟩
        show G_ref30_digits.step (G_ref30_digits.n m) (n : Int) = _
        have hl := dig_len 9 (n / 10) (by omega)
        rw [step_hi _ h hn, hm, dig_eq n, if_neg h]
        simp only [Option.bind_some]
        rw [show decide ((⟨(Lib.decDigits (n / 10)).toArray⟩ : ByteArray).size + 1 ≤ 140737488355328) = true by rw [decide_eq_true_iff]; show (Lib.decDigits (n / 10)).toArray.size + 1 ≤ _; rw [List.size_toArray]; omega, req_t]
        rw [show (⟨#[UInt8.ofNat (48 + n % 10)]⟩ : ByteArray) = ⟨[UInt8.ofNat (48 + n % 10)].toArray⟩ from rfl, ByteArray.mk_append_mk]
  have h2 : ∀ (m n : Nat) (r : ByteArray), n ≤ 1000000000 → G_ref30_digits.n m (n : Int) = some r → r = ⟨(Lib.decDigits n).toArray⟩ := by
    intro m
    induction m with
    | zero => intro n r _ h; cases h
    | succ m ih =>
      intro n r hn h
      replace h : G_ref30_digits.step (G_ref30_digits.n m) (n : Int) = some r := h
      by_cases h10 : n < 10
      · rw [step_lo _ h10] at h
        exact (Option.some.inj h).symm
      · rw [step_hi _ h10 hn] at h
        obtain ⟨t, ht, h⟩ := bind_some h
        obtain ⟨_, h⟩ := req_some h
        rw [← Option.some.inj h, ih _ _ (by omega) ht, dig_eq n, if_neg h10]
        rw [show (⟨#[UInt8.ofNat (48 + n % 10)]⟩ : ByteArray) = ⟨[UInt8.ofNat (48 + n % 10)].toArray⟩ from rfl, ByteArray.mk_append_mk]
  obtain ⟨m, hm⟩ := h1 n hn
  exact recω_of hm fun m r hr => h2 m n r hn hr
theorem txt_append (A B : List (Int × Nat)) : txt (A ++ B) = txt A ++ txt B := by simp [txt]
theorem txt_len : ∀ R : List (Int × Nat), (∀ p ∈ R, p.2 ≤ 4096) → (txt R).length ≤ R.length * 5
  | [], _ => by simp [txt]
  | p :: R, h => by
    have := txt_len R fun q hq => h q (by simp [hq])
    have := seg_len p (h p (by simp))
    rw [txt_cons, List.length_append, List.length_cons]; omega
theorem cat_sz (a b : List UInt8) (h : a.length + b.length ≤ 1000000) : decide ((⟨a.toArray⟩ : ByteArray).size + (⟨b.toArray⟩ : ByteArray).size ≤ 140737488355328) = true := by
  rw [decide_eq_true_iff]
  show a.toArray.size + b.toArray.size ≤ _
  rw [List.size_toArray, List.size_toArray]; omega
/-- one run, as the document writes it -/
theorem refB1 (l0 : List Int) (R : List (Int × Nat)) (i : Nat) (p : Int × Nat) (hp : R[i]? = some p) (hlen : R.length ≤ 4096) (hm : ∀ p ∈ R, p.2 ≤ 4096) (f : Bool) (g : ByteArray) :
    G_ref30_Print.b1 l0 (R.map toR) ((i : Int), ⟨(txt (R.take i)).toArray⟩, f, g) = some (bif okA p.1 then .next (((i + 1 : Nat) : Int), ⟨(txt (R.take (i + 1))).toArray⟩, f, g) else .out (.ret (⟨#[]⟩, false))) := by
  have hi := (List.getElem?_eq_some_iff.1 hp).1
  have hp4 := hm p (List.mem_of_getElem? hp)
  have hrd : rd (R.map toR) (i : Int) = toR p := by simp [rd, List.getD_eq_getElem?_getD, hp]
  have htk : txt (R.take (i + 1)) = txt (R.take i) ++ seg p := by
    rw [List.take_add_one, hp, txt_append]; simp [txt]
  have hl := txt_len (R.take i) fun q hq => hm q (List.mem_of_mem_take hq)
  rw [List.length_take] at hl
  have hw : IntKind.i64.wrap ((i : Int) + 1) = ((i + 1 : Nat) : Int) := wp1 hi (by simp only [maxLen]; omega)
  have hin : inb (i : Int) (R.map toR).length = true := inb_n (by simpa using hi)
  have hdl := dig_len 3 p.2 (by omega)
  have hdg := refDigits p.2 (by omega)
  unfold G_ref30_Print.b1
  dsimp only
  rw [show decide ((i : Int) < ((R.map toR).length : Int)) = true by simp; omega, cond_true, hin, req_t, hrd, hw]
  have hA : (toR p).Act = p.1 := rfl
  have hM : (toR p).Many = (p.2 : Int) := rfl
  rw [hA, hM, hdg]
  have hmany : ∀ (c : UInt8), c = letter p.1 → req (decide ((⟨(txt (R.take i)).toArray⟩ : ByteArray).size + (⟨#[c]⟩ : ByteArray).size ≤ 140737488355328)) (req true (bif decide ((p.2 : Int) > 1) then (req true ((some (⟨(Lib.decDigits p.2).toArray⟩ : ByteArray)).bind fun t_52 => (req (decide (((⟨(txt (R.take i)).toArray⟩ : ByteArray) ++ (⟨#[c]⟩ : ByteArray)).size + t_52.size ≤ 140737488355328)) (some (Stp.next (((i + 1 : Nat) : Int), (((⟨(txt (R.take i)).toArray⟩ : ByteArray) ++ (⟨#[c]⟩ : ByteArray)) ++ t_52), f, g)))))) else some (Stp.next (((i + 1 : Nat) : Int), ((⟨(txt (R.take i)).toArray⟩ : ByteArray) ++ (⟨#[c]⟩ : ByteArray)), f, g)))) = (some (.next (((i + 1 : Nat) : Int), ⟨(txt (R.take (i + 1))).toArray⟩, f, g)) : Option (Stp (Int × ByteArray × Bool × ByteArray) (Ex (Int × ByteArray × Bool × ByteArray) (ByteArray × Bool)))) := by
    intro c hc
    have e1 : (⟨#[c]⟩ : ByteArray) = ⟨[c].toArray⟩ := rfl
    rw [e1, cat_sz _ _ (by simp; omega), ByteArray.mk_append_mk, req_t, req_t, htk]
    unfold seg
    rw [← hc]
    by_cases h1 : p.2 > 1
    · rw [show decide ((p.2 : Int) > 1) = true by simp; omega, cond_true, req_t, if_pos h1]
      simp only [Option.bind_some]
      rw [cat_sz _ _ (by simp; omega), ByteArray.mk_append_mk, req_t]
      simp
    · rw [show decide ((p.2 : Int) > 1) = false by simp; omega, cond_false, if_neg h1]
  by_cases h0 : p.1 = 0
  · rw [h0]
    exact hmany 97 (by rw [h0]; rfl)
  · by_cases h1 : p.1 = 1
    · rw [h1]
      exact hmany 98 (by rw [h1]; rfl)
    · by_cases h2 : p.1 = 2
      · rw [h2]
        exact hmany 116 (by rw [h2]; rfl)
      · have hok : okA p.1 = false := by
          cases h : okA p.1 with
          | false => rfl
          | true => rcases okA_iff.1 h with h | h | h <;> contradiction
        rw [hok, show (p.1 == 0) = false by simpa using h0, show (p.1 == 1) = false by simpa using h1, show (p.1 == 2) = false by simpa using h2]
        rfl
theorem refPrint (l : List Int) (hl : l.length ≤ 1000000) : G_ref30_Print l = some (prt l) := by
  unfold G_ref30_Print prt
  by_cases h : l.length > 4096
  · rw [if_pos h, show decide ((l.length : Int) > 4096) = true by simp; omega]; rfl
  · rw [if_neg h, show decide ((l.length : Int) > 4096) = false by simp; omega, cond_false, refRuns l (by omega)]
    simp only [Option.bind_some]
    have hrl := runs_len l
    have hm : ∀ p ∈ runs l, p.2 ≤ 4096 := fun p hp => by have := (runs_many l p hp).2; omega
    have key : ∀ (k i : Nat) (f : Bool) (g : ByteArray), i + k = (runs l).length → ((loopω (G_ref30_Print.b1 l ((runs l).map toR)) ((i : Int), ⟨(txt ((runs l).take i)).toArray⟩, f, g)).bind fun o => o.on (fun s1 => some (s1.2.1, true)) (fun r => some r)) = some (bif ((runs l).drop i).all (fun p => okA p.1) then (⟨(txt (runs l)).toArray⟩, true) else (⟨#[]⟩, false)) := by
      intro k
      induction k with
      | zero =>
        intro i f g h
        have : i = (runs l).length := by omega
        subst this
        have hB : G_ref30_Print.b1 l ((runs l).map toR) (((runs l).length : Int), ⟨(txt ((runs l).take (runs l).length)).toArray⟩, f, g) = some (.out (.brk (((runs l).length : Int), ⟨(txt ((runs l).take (runs l).length)).toArray⟩, f, g))) := by
          unfold G_ref30_Print.b1
          rw [show decide ((((runs l).length : Int), (⟨(txt ((runs l).take (runs l).length)).toArray⟩ : ByteArray), f, g).1 < (((runs l).map toR).length : Int)) = false by simp]
          rfl
        rw [loopω_eq, hB, List.drop_length, List.take_length]
        rfl
      | succ k ih =>
        intro i f g h
        have hi : i < (runs l).length := by omega
        obtain ⟨p, hp⟩ : ∃ p, (runs l)[i]? = some p := ⟨_, List.getElem?_eq_getElem hi⟩
        have hd : (runs l).drop i = p :: (runs l).drop (i + 1) := by
          rw [List.drop_eq_getElem_cons hi]
          rw [List.getElem?_eq_getElem hi, Option.some.injEq] at hp
          rw [hp]
        rw [loopω_eq, refB1 l (runs l) i p hp (by omega) hm f g, hd, List.all_cons]
        cases hok : okA p.1 with
        | true =>
          simp only [cond_true, Bool.true_and]
          exact ih (i + 1) f g (by omega)
        | false => rfl
    have := key (runs l).length 0 false ⟨#[]⟩ (by omega)
    rw [List.drop_zero, List.take_zero] at this
    exact this
end Go.Proofs.YtmchkeflhpojmaaDoor
