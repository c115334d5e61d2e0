/- Own engine: walks of whole regions by evaluation in the kernel. No statement of the seat is proved here. Conditions: none. -/
import Derived.Test.YtmchkeflhpojmaaDoorEngB
set_option linter.unusedVariables false
set_option linter.unusedSimpArgs false
namespace Go.Eng
open Go Go.RowKit

/-! ### regions that draw their order, one turning operation at a time -/
inductive En where
  | q (d : Tmp) (e : EV) (obs : List Ob)
  | s (d : Option Tmp)
  | t (d : Option Tmp) (e : Option EV)
  | no
  | a (d : Tmp) (T : TypeId) (zs : List Value) (p : Option Nat)
  deriving Inhabited
inductive Sp where
  | q (ks : List Nat) (orc : List (List Value))
  | p (ks : List Nat) (orc : List (List Value))
  | s (ks : List Nat)
  | t (e : Option EV)
  | no
  | l (b : Bool) (sp : Sp)
  | a (p : Option Nat)
def En.ent : En → Option Ent
  | .q d e _ => some ⟨d, [], e⟩
  | .s (some d) => some ⟨d, [], .v (.tuple #[])⟩
  | .t (some d) (some e) => some ⟨d, [], e⟩
  | _ => none
def En.dst : En → Option Tmp
  | .q d _ _ => some d
  | .s d => d
  | .t d _ => d
  | .no => none
  | .a d _ _ _ => some d
def envT (tb : List En) : List Nat → Option (List Ent)
  | [] => some []
  | k :: r => match tb[k]?, envT tb r with | some x, some l => (match x.ent with | some y => some (y :: l) | none => none) | _, _ => none
def freshE (σ : S) (tb : List En) (d : Tmp) : Bool := σ.env.all (fun x => !Nat.beq x.t d) && tb.all (fun x => match x.dst with | some d' => !Nat.beq d' d | none => true)
def freshO (σ : S) (tb : List En) (n : Nat) : Option Tmp → Bool
  | some d => Nat.blt d n && freshE σ tb d
  | none => true
def S.wth (σ : S) (env : List Ent) : S := ⟨env ++ σ.env, [], [], σ.bs, σ.lo, σ.pin⟩
def optT : Option Bool → Bool
  | some true => true
  | _ => false
def optF : Option Bool → Bool
  | some false => true
  | _ => false
/-- a pick whose test is known -/
def pickOf (env : List Ent) (o : Oper) : Option Operand :=
  match o.op with
  | .pick c x y => match boolOf (oEnv env [] c) with | some true => some x | some false => some y | none => none
  | _ => none
def mkEn (P : Program) (σ : S) (n : Nat) (ops : Array Oper) (tb : List En) (o : Oper) : Sp → Option En
  | .q ks orc =>
    match o.dst, envT tb ks with
    | some d, some env =>
      bif freshO σ tb n o.dst && ks.all (bindsTo o) && optT (wantB ops (σ.wth env) o.guard) then
        match chkQ P σ { o with guard := none } env orc with | some (e, obs) => bif e.wf σ.bs.length then some (.q d e obs) else none | none => none
      else none
    | _, _ => none
  | .p ks orc =>
    match o.dst, envT tb ks with
    | some d, some env =>
      bif freshO σ tb n o.dst && ks.all (bindsTo o) && optT (wantB ops (σ.wth env) o.guard) then
        match pickOf (env ++ σ.env) o with
        | some x => match chkQ P σ { o with guard := none, op := .move x } env orc with | some (e, obs) => bif e.wf σ.bs.length then some (.q d e obs) else none | none => none
        | none => none
      else none
    | _, _ => none
  | .s ks =>
    match envT tb ks with
    | some env => bif freshO σ tb n o.dst && ks.all (bindsTo o) && (optF (wantB ops (σ.wth env) o.guard) || undB ops (σ.wth env) o.guard) then some (.s o.dst) else none
    | none => none
  | .t e => bif freshO σ tb n o.dst then some (.t o.dst e) else none
  | .no => some .no
  | .a p =>
    match o.op, o.dst with
    | .alloc T, some d => bif freshO σ tb n o.dst && isNone o.guard then (match P.info? T with | some i => (match i.zero with | some z => some (.a d T z.cells.toList p) | none => none) | none => none) else none
    | _, _ => none
  | .l b sp => match mkEn P σ n ops tb o sp with | some (.q d (.v (.bool c)) obs) => some (.q d (.v (.bool b)) (.need true (c = b) :: obs)) | _ => none
def mkAll (P : Program) (σ : S) (n : Nat) (ops : Array Oper) : List En → List Oper → List Sp → Option (List En)
  | tb, [], [] => some tb
  | tb, o :: l, d :: ds => match mkEn P σ n ops tb o d with | some x => mkAll P σ n ops (tb ++ [x]) l ds | none => none
  | _, _, _ => none
theorem mkAll_at {P : Program} {σ : S} {n : Nat} {ops : Array Oper} : ∀ {l : List Oper} {ds : List Sp} {tb rs : List En}, mkAll P σ n ops tb l ds = some rs → tb <+: rs ∧ rs.length = tb.length + l.length ∧ ∀ i o, l[i]? = some o → ∃ d x, mkEn P σ n ops (rs.take (tb.length + i)) o d = some x ∧ rs[tb.length + i]? = some x
  | [], [], tb, rs, h => by
    simp only [mkAll, Option.some.injEq] at h
    subst h
    exact ⟨List.prefix_refl _, by simp, fun i o hi => by simp at hi⟩
  | o :: l, d :: ds, tb, rs, h => by
    simp only [mkAll] at h
    split at h
    · rename_i x hx
      obtain ⟨h1, h2, h3⟩ := mkAll_at h
      obtain ⟨t, ht⟩ := h1
      refine ⟨⟨x :: t, by rw [← ht]; simp⟩, by rw [h2]; simp; omega, fun i o' hi => ?_⟩
      cases i with
      | zero =>
        simp only [List.getElem?_cons_zero, Option.some.injEq] at hi
        subst hi
        refine ⟨d, x, ?_, ?_⟩
        · rw [← ht]; simp [List.take_append_of_le_length, hx]
        · rw [← ht]; simp
      | succ i =>
        obtain ⟨d', x', g1, g2⟩ := h3 i o' (by simpa using hi)
        have : (tb ++ [x]).length + i = tb.length + (i + 1) := by simp; omega
        rw [this] at g1 g2
        exact ⟨d', x', g1, g2⟩
    · cases h
  | [], _ :: _, _, _, h => by simp [mkAll] at h
  | _ :: _, [], _, _, h => by simp [mkAll] at h
structure DS (w0 : World) (own : List Nat) (n : Nat) (σ : S) (ns : List Nat) (tb : List En) (listed : Array Bool) (a : Act) (w : World) : Prop where
  base : Inv w0 own n σ ns a w
  val : ∀ (i : Nat) (y : En) (x : Ent), tb[i]? = some y → y.ent = some x → Lst listed i → a.tmps[x.t]? = some (x.e.den ns)
  un : ∀ i : Nat, tb[i]? = some .no → ¬ Lst listed i
  dn : ∀ (i : Nat) d e, tb[i]? = some (.t d e) → Lst listed i
  al : ∀ (i : Nat) d T zs p, tb[i]? = some (.a d T zs p) → (∀ b, p = some b → Lst listed i) ∧ (Lst listed i → ∃ b, (p = some b ∨ (p = none ∧ w0.heap.size ≤ b)) ∧ b < w.heap.size ∧ b ∉ ns ∧ a.tmps[d]? = some (.pointer (some ⟨b, 0, none⟩)) ∧ w.heap[b]? = some (.cells zs.toArray T (0, 0)))
  ad : ∀ (i j : Nat) d T zs p d' T' zs' p', i ≠ j → tb[i]? = some (.a d T zs p) → tb[j]? = some (.a d' T' zs' p') → Lst listed i → Lst listed j → a.tmps[d]? ≠ a.tmps[d']?
def obsE (tb : List En) : List Ob := match tb with | [] => [] | .q _ _ obs :: r => obs ++ obsE r | _ :: r => obsE r
theorem obsE_at {P : Program} {w0 : World} {own : List Nat} : ∀ {tb : List En}, Obs P w0 own (obsE tb) → ∀ (i : Nat) d e obs, tb[i]? = some (.q d e obs) → Obs P w0 own obs
  | [], h, i, d, e, obs, hi => by simp at hi
  | r :: rs, h, i, d, e, obs, hi => by
    cases i with
    | zero =>
      simp only [List.getElem?_cons_zero, Option.some.injEq] at hi
      subst hi
      simp only [obsE] at h
      rw [Obs_append] at h
      exact h.1
    | succ i =>
      simp only [List.getElem?_cons_succ] at hi
      cases r with
      | q d' e' obs' => simp only [obsE] at h; rw [Obs_append] at h; exact obsE_at h.2 i d e obs hi
      | s => exact obsE_at (tb := rs) h i d e obs hi
      | t => exact obsE_at (tb := rs) h i d e obs hi
      | no => exact obsE_at (tb := rs) h i d e obs hi
      | a => exact obsE_at (tb := rs) h i d e obs hi
/-- nothing but the turning operation t may come next among what is not determined -/
def rdyFrom (tb : List En) (t : List Nat) : Nat → List Oper → Bool
  | _, [] => true
  | i, o :: l => (match tb[i]? with
    | some .no => t.any (Nat.beq i) || (List.range tb.length).any (fun k => (match tb[k]? with | some .no => true | _ => false) && bindsTo o k)
    | _ => true) && rdyFrom tb t (i + 1) l
theorem rdyFrom_spec {tb : List En} {t : List Nat} : ∀ {l : List Oper} {i : Nat}, rdyFrom tb t i l = true → ∀ (j : Nat) (o : Oper), l[j]? = some o → tb[i + j]? = some .no → (i + j) ∈ t ∨ ∃ k, tb[k]? = some .no ∧ bindsTo o k = true
  | [], i, h, j, o, hj, _ => by simp at hj
  | o' :: l, i, h, j, o, hj, hn => by
    simp only [rdyFrom, Bool.and_eq_true] at h
    cases j with
    | zero =>
      simp only [List.getElem?_cons_zero, Option.some.injEq] at hj
      subst hj
      have h1 := h.1
      rw [Nat.add_zero] at hn ⊢
      rw [hn] at h1
      simp only [Bool.or_eq_true] at h1
      rcases h1 with h1 | h1
      · left
        obtain ⟨q, hq, he⟩ := List.any_eq_true.1 h1
        rw [Nat.eq_of_beq_eq_true he]
        exact hq
      · right
        obtain ⟨k, _, hk⟩ := List.any_eq_true.1 h1
        simp only [Bool.and_eq_true] at hk
        refine ⟨k, ?_, hk.2⟩
        have := hk.1
        split at this
        · assumption
        · cases this
    | succ j =>
      have := rdyFrom_spec h.2 j o (by simpa using hj) (by rw [show i + 1 + j = i + (j + 1) by omega]; exact hn)
      rwa [show i + 1 + j = i + (j + 1) by omega] at this
section
variable {F : Fence} {m : Nat} {P : Program} {w0 w1 : World} {own own1 : List Nat} {n : Nat} {σ σ' : S} {ns : List Nat} {a a' : Act} {w w' : World} {o : Oper} {Q : Exit → Act → World → Prop}
variable {l : List Oper} {ds : List Sp} {tb tb' : List En} {listed : Array Bool}
theorem envT_mem : ∀ {ks : List Nat} {env : List Ent}, envT tb ks = some env → ∀ x ∈ env, ∃ k y, k ∈ ks ∧ tb[k]? = some y ∧ y.ent = some x
  | [], env, h, x, hx => by simp only [envT, Option.some.injEq] at h; subst h; simp at hx
  | k :: r, env, h, x, hx => by
    simp only [envT] at h
    split at h
    · rename_i y l hy hl
      split at h
      · rename_i z hz
        simp only [Option.some.injEq] at h
        subst h
        rcases List.mem_cons.1 hx with rfl | hx
        · exact ⟨k, y, by simp, hy, hz⟩
        · obtain ⟨k', y', h1, h2, h3⟩ := envT_mem hl x hx
          exact ⟨k', y', by simp [h1], h2, h3⟩
      · cases h
    · cases h
theorem En.wfE (h : mkAll P σ n l.toArray [] l ds = some tb) {i : Nat} {y : En} {x : Ent} (hi : tb[i]? = some y) (hx : y.ent = some x) (hw : ∀ d e, y = .t d (some e) → e.wf σ.bs.length = true) : x.e.wf σ.bs.length = true ∧ x.p = [] := by
  obtain ⟨_, hlen, hat⟩ := mkAll_at h
  have hil : i < l.length := by have := (List.getElem?_eq_some_iff.1 hi).1; simp at hlen; omega
  obtain ⟨d, z, h1, h2⟩ := hat i _ (List.getElem?_eq_getElem hil)
  simp only [List.length_nil, Nat.zero_add] at h1 h2
  rw [hi] at h2
  simp only [Option.some.injEq] at h2
  subst h2
  cases y with
  | q dd e obs =>
    simp only [En.ent, Option.some.injEq] at hx
    subst hx
    refine ⟨?_, rfl⟩
    cases d with
    | q ks orc =>
      simp only [mkEn, Bool.cond_eq_ite] at h1
      repeat' (split at h1)
      all_goals first | (cases h1; done) | skip
      simp only [Option.some.injEq, En.q.injEq] at h1
      obtain ⟨_, rfl, _⟩ := h1
      assumption
    | p ks orc =>
      simp only [mkEn, Bool.cond_eq_ite] at h1
      repeat' (split at h1)
      all_goals first | (cases h1; done) | skip
      simp only [Option.some.injEq, En.q.injEq] at h1
      obtain ⟨_, rfl, _⟩ := h1
      assumption
    | s ks => simp only [mkEn, Bool.cond_eq_ite] at h1; repeat' (split at h1); all_goals first | (cases h1; done) | skip
    | t e => simp only [mkEn, Bool.cond_eq_ite] at h1; split at h1 <;> cases h1
    | no => cases h1
    | a p => simp only [mkEn, Bool.cond_eq_ite] at h1; repeat' (split at h1); all_goals (first | (cases h1; done) | skip)
    | l b sp =>
      simp only [mkEn] at h1
      split at h1
      · simp only [Option.some.injEq, En.q.injEq] at h1
        obtain ⟨_, rfl, _⟩ := h1
        rfl
      · cases h1
  | s dd =>
    cases dd with
    | none => cases hx
    | some dd => simp only [En.ent, Option.some.injEq] at hx; subst hx; exact ⟨rfl, rfl⟩
  | t dd e =>
    cases dd with
    | none => cases hx
    | some dd =>
      cases e with
      | none => cases hx
      | some e => simp only [En.ent, Option.some.injEq] at hx; subst hx; exact ⟨hw _ _ rfl, rfl⟩
  | no => cases hx
  | a => cases hx
def wfT (σ : S) (tb : List En) : Bool := tb.all fun x => match x with | .t _ (some e) => e.wf σ.bs.length | _ => true
theorem wfT_spec (h : wfT σ tb = true) {i : Nat} {y : En} (hi : tb[i]? = some y) : ∀ d e, y = .t d (some e) → e.wf σ.bs.length = true := by
  intro d e he
  subst he
  exact List.all_eq_true.1 h _ (List.mem_of_getElem? hi)
theorem DS.inv (hJ : DS w0 own n σ ns tb listed a w) (hp : ∀ x ∈ σ.env, x.p = []) (hwf : ∀ (i : Nat) (y : En) (x : Ent), tb[i]? = some y → y.ent = some x → x.e.wf σ.bs.length = true ∧ x.p = []) {env : List Ent} (henv : ∀ x ∈ env, ∃ k y, Lst listed k ∧ tb[k]? = some y ∧ y.ent = some x) : Inv w0 own n (σ.wth env) ns a w := by
  refine ⟨hJ.base.size, hJ.base.defers, fun x hx => ?_, fun x hx => ?_, hJ.base.bwf, fun x hx => by simp [S.wth] at hx, hJ.base.loc, hJ.base.pin⟩
  · rcases List.mem_append.1 hx with hx | hx
    · obtain ⟨k, y, h1, h2, h3⟩ := henv x hx
      have := hJ.val k y x h2 h3 h1
      rw [(hwf k y x h2 h3).2]
      simpa [pathB, gvv, S.wth] using this
    · have := hJ.base.env x hx
      rw [hp x hx] at this ⊢
      simpa [pathB, gvv, S.wth] using this
  · rcases List.mem_append.1 hx with hx | hx
    · obtain ⟨k, y, h1, h2, h3⟩ := henv x hx
      obtain ⟨g1, g2⟩ := hwf k y x h2 h3
      exact ⟨g1, by rw [g2]; intro y hy; simp at hy⟩
    · exact ⟨(hJ.base.ewf x hx).1, by rw [hp x hx]; intro y hy; simp at hy⟩
theorem wpIn_of_run {o' : Oper} (hd : o'.dst = o.dst) {K : Act → World → Prop} (hrun : (o'.semAt F.round a.eval).run P w = (o.semAt F.round a.eval).run P w) (hF : FOpen F) (h : o'.wpIn F m P a w K Q) : o.wpIn F m P a w K Q := by
  unfold Oper.wpIn at h ⊢
  refine ⟨fun f _ => hF.fn f, ?_⟩
  have h2 := h.2
  rw [hrun] at h2
  generalize (o.semAt F.round a.eval).run P w = r at *
  cases r with
  | ok x w' => cases x <;> simp only [Oper.uponIn, hd] at h2 ⊢ <;> exact h2
  | halt x w' => cases x <;> simp only [Oper.uponIn] at h2 ⊢ <;> exact h2
theorem DS.upd (hJ : DS w0 own n σ ns tb listed a w) {i : Nat} {y : En} (hy : tb[i]? = some y) (hn : y ≠ .no) (hna : ∀ d T zs p, y ≠ .a d T zs p) (hbl : Below w.heap.size w w') (hsz : i < listed.size) {v : Value} (hI : Inv w0 own n σ ns (a.put o.dst v) w') (hd : ∀ d, o.dst = some d → d < n) (hv : ∀ x, y.ent = some x → o.dst = some x.t ∧ v = x.e.den ns)
    (hne : ∀ (k : Nat) (z : En), k ≠ i → tb[k]? = some z → ∀ d, z.dst = some d → o.dst ≠ some d) (hdst : ∀ (z : En) (x : Ent), z.ent = some x → z.dst = some x.t) : DS w0 own n σ ns tb (listed.setIfInBounds i true) (a.put o.dst v) w' := by
  have hst : ∀ k, Lst (listed.setIfInBounds i true) k ↔ Lst listed k ∨ k = i := fun k => Lst_set hsz
  have hki : ∀ {k : Nat} {d T zs p}, tb[k]? = some (.a d T zs p) → k ≠ i := fun {k d T zs p} hk hh => by subst hh; rw [hy] at hk; simp only [Option.some.injEq] at hk; exact hna _ _ _ _ hk
  have hp : ∀ {k : Nat} {d T zs p}, tb[k]? = some (.a d T zs p) → (a.put o.dst v).tmps[d]? = a.tmps[d]? := fun {k d T zs p} hk => by
    have hne' := hne k _ (hki hk) hk d rfl
    cases ho : o.dst with
    | none => rfl
    | some d' => rw [put_at hJ.base.size (hd d' ho), if_neg (fun e => hne' (by rw [ho, e]))]
  refine ⟨hI, fun k z x hz hx hl => ?_, fun k hk hl => ?_, fun k d e hk => (hst k).2 (.inl (hJ.dn k d e hk)), fun k d T zs p hk => ⟨fun b hb => (hst k).2 (.inl ((hJ.al k d T zs p hk).1 b hb)), fun hl => ?_⟩, fun k j d T zs p d' T' zs' p' hkj hk hj hlk hlj => ?_⟩
  rotate_left 2
  · obtain ⟨b, h1, h2, h3, h4, h5⟩ := (hJ.al k d T zs p hk).2 (((hst k).1 hl).resolve_right (hki hk))
    exact ⟨b, h1, Nat.lt_of_lt_of_le h2 hbl.size, h3, by rw [hp hk]; exact h4, by rw [hbl.block _ h2]; exact h5⟩
  · rw [hp hk, hp hj]; exact hJ.ad k j _ _ _ _ _ _ _ _ hkj hk hj (((hst k).1 hlk).resolve_right (hki hk)) (((hst j).1 hlj).resolve_right (hki hj))
  · by_cases hki : k = i
    · subst hki
      rw [hy] at hz
      simp only [Option.some.injEq] at hz
      subst hz
      obtain ⟨h1, h2⟩ := hv x hx
      rw [h1, put_at hJ.base.size (hd _ h1), if_pos rfl, h2]
    · have hlk : Lst listed k := ((hst k).1 hl).resolve_right hki
      have hne' := hne k z hki hz x.t (hdst z x hx)
      have h0 := hJ.val k z x hz hx hlk
      cases ho : o.dst with
      | none => exact h0
      | some d =>
        rw [put_at hJ.base.size (hd d ho), if_neg (fun e => hne' (by rw [ho, e]))]
        exact h0
  · rcases (hst k).1 hl with h | rfl
    · exact hJ.un k hk h
    · rw [hy] at hk; simp only [Option.some.injEq] at hk; exact hn hk
theorem ent_dst (z : En) (x : Ent) (h : z.ent = some x) : z.dst = some x.t := by
  cases z with
  | q d e obs => simp only [En.ent, Option.some.injEq] at h; subst h; rfl
  | s d => cases d <;> simp only [En.ent] at h <;> cases h; rfl
  | t d e => cases d <;> cases e <;> simp only [En.ent] at h <;> cases h; rfl
  | no => cases h
  | a => cases h
theorem freshE_spec {d : Tmp} (h : freshE σ tb d = true) : (∀ x ∈ σ.env, x.t ≠ d) ∧ ∀ x ∈ tb, x.dst ≠ some d := by
  unfold freshE at h
  simp only [Bool.and_eq_true, List.all_eq_true] at h
  refine ⟨fun x hx he => ?_, fun x hx he => ?_⟩
  · have := h.1 x hx; rw [he] at this; simp at this
  · have := h.2 x hx; rw [he] at this; simp at this
theorem mkEn_fresh {sp : Sp} {y : En} {ops : Array Oper} (h : mkEn P σ n ops tb o sp = some y) (hn : y ≠ .no) : freshO σ tb n o.dst = true ∧ y.dst = o.dst := by
  induction sp generalizing y with
  | q ks orc =>
    simp only [mkEn, Bool.cond_eq_ite] at h
    repeat' (split at h)
    all_goals first | (cases h; done) | skip
    rename_i d env hd _ hb _ e obs _ _
    simp only [Option.some.injEq] at h
    subst h
    simp only [Bool.and_eq_true] at hb
    exact ⟨hb.1.1, hd.symm⟩
  | p ks orc =>
    simp only [mkEn, Bool.cond_eq_ite] at h
    repeat' (split at h)
    all_goals first | (cases h; done) | skip
    rename_i d env hd _ hb _ _ _ _ e obs _ _
    simp only [Option.some.injEq] at h
    subst h
    simp only [Bool.and_eq_true] at hb
    exact ⟨hb.1.1, hd.symm⟩
  | s ks =>
    simp only [mkEn, Bool.cond_eq_ite] at h
    repeat' (split at h)
    all_goals first | (cases h; done) | skip
    rename_i hb
    simp only [Option.some.injEq] at h
    subst h
    simp only [Bool.and_eq_true] at hb
    exact ⟨hb.1.1, rfl⟩
  | t e =>
    simp only [mkEn, Bool.cond_eq_ite] at h
    split at h
    · rename_i hb
      simp only [Option.some.injEq] at h
      subst h
      exact ⟨hb, rfl⟩
    · cases h
  | no => simp only [mkEn, Option.some.injEq] at h; exact absurd h.symm hn
  | a p =>
    simp only [mkEn, Bool.cond_eq_ite] at h
    repeat' (split at h)
    all_goals first | (cases h; done) | skip
    rename_i d _ hd hb _ _ _ _ _ _
    simp only [Option.some.injEq] at h
    subst h
    simp only [Bool.and_eq_true] at hb
    exact ⟨hb.1, hd.symm⟩
  | l b sp ih =>
    simp only [mkEn] at h
    split at h
    · rename_i d c obs hq
      have h3 := @ih (.q d (.v (.bool c)) obs) hq (by intro hh; cases hh)
      simp only [Option.some.injEq] at h
      subst h
      exact h3
    · cases h
theorem mkAll_ne (h : mkAll P σ n l.toArray [] l ds = some tb) {i k : Nat} {o : Oper} {y z : En} (ho : l[i]? = some o) (hy : tb[i]? = some y) (hyn : y ≠ .no) (hki : k ≠ i) (hz : tb[k]? = some z) (d : Tmp) (hd : z.dst = some d) : o.dst ≠ some d := by
  obtain ⟨_, hlen, hat⟩ := mkAll_at h
  simp only [List.length_nil, Nat.zero_add] at hlen hat
  have hkl : k < l.length := by have := (List.getElem?_eq_some_iff.1 hz).1; omega
  have hzn : z ≠ .no := by rintro rfl; cases hd
  obtain ⟨dk, zk, g1, g2⟩ := hat k _ (List.getElem?_eq_getElem hkl)
  rw [hz] at g2; simp only [Option.some.injEq] at g2; subst g2
  obtain ⟨di, zi, e1, e2⟩ := hat i o ho
  rw [hy] at e2; simp only [Option.some.injEq] at e2; subst e2
  obtain ⟨f1, f2⟩ := mkEn_fresh g1 hzn
  obtain ⟨p1, p2⟩ := mkEn_fresh e1 hyn
  intro hoo
  rcases Nat.lt_or_gt_of_ne hki with hlt | hgt
  · rw [hoo] at p1
    simp only [freshO, Bool.and_eq_true] at p1
    exact (freshE_spec p1.2).2 z (List.mem_of_getElem? (i := k) (by rw [List.getElem?_take, if_pos hlt]; exact hz)) hd
  · rw [← f2, hd] at f1
    simp only [freshO, Bool.and_eq_true] at f1
    exact (freshE_spec f1.2).2 y (List.mem_of_getElem? (i := i) (by rw [List.getElem?_take, if_pos hgt]; exact hy)) (p2.trans hoo)
end

section
variable {F : Fence} {m : Nat} {P : Program} {w0 w1 : World} {own own1 : List Nat} {n : Nat} {σ σ' : S} {ns : List Nat} {a a' : Act} {w w' : World} {o : Oper} {Q : Exit → Act → World → Prop}
variable {l : List Oper} {ds : List Sp} {tb tb' : List En} {listed : Array Bool}
theorem optT_eq {x : Option Bool} (h : optT x = true) : x = some true := by
  unfold optT at h; split at h <;> simp_all
theorem optF_eq {x : Option Bool} (h : optF x = true) : x = some false := by
  unfold optF at h; split at h <;> simp_all
theorem pick_run {c x y z : Operand} (hI : Inv w0 own n σ ns a w) (hop : o.op = .pick c x y) (h : pickOf σ.env o = some z) : (execOp a.eval { o with guard := none, op := .move z }).run P w' = (execOp a.eval o).run P w' := by
  unfold pickOf at h
  rw [hop] at h
  simp only at h
  have e1 : (execOp a.eval { o with guard := none, op := .move z }).run P w' = .ok (.value (a.eval z)) w' := by simp [execOp, Sem.run_pure]
  rw [e1]
  split at h
  · rename_i hc
    simp only [Option.some.injEq] at h; subst h
    have := hI.opnd (boolOf_eq hc) rfl
    simp only [EV.den] at this
    unfold execOp; rw [hop]
    simp [this, asBool, Sem.run_bind, Sem.run]
  · rename_i hc
    simp only [Option.some.injEq] at h; subst h
    have := hI.opnd (boolOf_eq hc) rfl
    simp only [EV.den] at this
    unfold execOp; rw [hop]
    simp [this, asBool, Sem.run_bind, Sem.run]
  · cases h
theorem DS.one (hF : FOpen F) {ops : Array Oper} {tb0 : List En} (hinv : ∀ {ks : List Nat} {env : List Ent}, ks.all (bindsTo o) = true → envT tb0 ks = some env → Inv w0 own n (σ.wth env) ns a w) {K : Act → World → Prop} :
    ∀ (sp : Sp) (y : En), mkEn P σ n ops tb0 o sp = some y → (∀ d e obs, y = .q d e obs → Obs P w0 own obs ∧ ∀ w', Below w.heap.size w w' → K (a.put o.dst (e.den ns)) w') → (∀ d, y = .s d → K (a.put o.dst undef) w) → y ≠ .no → (∀ d e, y ≠ .t d e) → (∀ d T zs p, y ≠ .a d T zs p) →
    (if Region.wanted o (yielded ops a.tmps) = true then o.wpIn F m P a w K Q else (∀ f, o.about P w a.eval = some f → F.fn f) ∧ K (a.put o.dst undef) w) := by
  intro sp
  induction sp with
  | q ks orc =>
    intro y g1 hq hs hn ht hna
    simp only [mkEn, Bool.cond_eq_ite] at g1
    repeat' (split at g1)
    all_goals first | (cases g1; done) | skip
    rename_i d env hd henvT hb _ e obs hq' hw
    simp only [Option.some.injEq] at g1
    subst g1
    simp only [Bool.and_eq_true] at hb
    have hI' := hinv hb.1.2 henvT
    rw [wantB_spec hI' (optT_eq hb.2), if_pos rfl]
    obtain ⟨hob, hK⟩ := hq _ _ _ rfl
    have hq1 := chkQ_sound (ops := ops) (Q := Q) (m := m) hF (o := { o with guard := none }) hI' rfl hq' hob (K := K) hK
    rw [if_pos (wanted_none rfl)] at hq1
    exact wpIn_of_run (o := o) (o' := { o with guard := none }) rfl rfl hF hq1
  | p ks orc =>
    intro y g1 hq hs hn ht hna
    simp only [mkEn, Bool.cond_eq_ite] at g1
    repeat' (split at g1)
    all_goals first | (cases g1; done) | skip
    rename_i d env hd henvT hb _ z hz _ e obs hq' hw
    simp only [Option.some.injEq] at g1
    subst g1
    simp only [Bool.and_eq_true] at hb
    have hI' := hinv hb.1.2 henvT
    rw [wantB_spec hI' (optT_eq hb.2), if_pos rfl]
    obtain ⟨c, x, yy, hop⟩ : ∃ c x yy, o.op = .pick c x yy := by
      unfold pickOf at hz
      split at hz
      · exact ⟨_, _, _, by assumption⟩
      · cases hz
    obtain ⟨hob, hK⟩ := hq _ _ _ rfl
    have hq1 := chkQ_sound (ops := ops) (Q := Q) (m := m) hF (o := { o with guard := none, op := .move z }) hI' rfl hq' hob (K := K) hK
    rw [if_pos (wanted_none rfl)] at hq1
    refine wpIn_of_run (o := o) (o' := { o with guard := none, op := .move z }) rfl ?_ hF hq1
    rw [Oper.semAt_plain F _ _ (by intro c hc; cases hc), Oper.semAt_plain F _ _ (by intro c hc; rw [hop] at hc; cases hc)]
    exact pick_run hI' hop hz
  | s ks =>
    intro y g1 hq hs hn ht hna
    simp only [mkEn, Bool.cond_eq_ite] at g1
    repeat' (split at g1)
    all_goals first | (cases g1; done) | skip
    rename_i env henvT hb
    simp only [Option.some.injEq] at g1
    subst g1
    simp only [Bool.and_eq_true, Bool.or_eq_true] at hb
    have hI' := hinv hb.1.2 henvT
    have hw : Region.wanted o (yielded ops a.tmps) = false := by
      rcases hb.2 with hb | hb
      · exact wantB_spec hI' (optF_eq hb)
      · exact wantU_spec hI' hb
    rw [hw]
    exact ⟨fun f _ => hF.fn f, hs _ rfl⟩
  | t e =>
    intro y g1 hq hs hn ht hna
    simp only [mkEn] at g1
    cases hfr : freshO σ tb0 n o.dst
    · rw [hfr] at g1; cases g1
    · rw [hfr] at g1
      simp only [cond_true, Option.some.injEq] at g1
      exact absurd g1.symm (ht _ _)
  | no => intro y g1 hq hs hn ht hna; simp only [mkEn, Option.some.injEq] at g1; exact absurd g1.symm hn
  | a p =>
    intro y g1 hq hs hn ht hna
    simp only [mkEn, Bool.cond_eq_ite] at g1
    repeat' (split at g1)
    all_goals first | (cases g1; done) | skip
    simp only [Option.some.injEq] at g1
    exact absurd g1.symm (hna _ _ _ _)
  | l b sp ih =>
    intro y g1 hq hs hn ht hna
    simp only [mkEn] at g1
    split at g1
    · rename_i d c obs hsp
      simp only [Option.some.injEq] at g1
      subst g1
      obtain ⟨⟨hc, hob⟩, hK⟩ := hq _ _ _ rfl
      have hc := hc rfl
      subst hc
      exact ih _ hsp (fun d' e' obs' he => by simp only [En.q.injEq] at he; obtain ⟨rfl, rfl, rfl⟩ := he; exact ⟨hob, hK⟩) (fun d' he => by cases he) (by intro he; cases he) (by intro d' e' he; cases he) (by intro d' T' zs' p' he; cases he)
    · cases g1
theorem mkEn_alloc {ops : Array Oper} {tb0 : List En} {sp : Sp} {d : Tmp} {T : TypeId} {zs : List Value} {p : Option Nat} (h : mkEn P σ n ops tb0 o sp = some (.a d T zs p)) :
    ∃ inf z, o.op = .alloc T ∧ o.dst = some d ∧ o.guard = none ∧ P.info? T = some inf ∧ inf.zero = some z ∧ zs = z.cells.toList := by
  cases sp with
  | a p =>
    simp only [mkEn, Bool.cond_eq_ite] at h
    repeat' (split at h)
    all_goals first | (cases h; done) | skip
    rename_i T' d' hop hd hb _ inf hi _ z hz
    simp only [Option.some.injEq, En.a.injEq] at h
    obtain ⟨rfl, rfl, rfl, rfl⟩ := h
    simp only [Bool.and_eq_true] at hb
    exact ⟨inf, z, hop, hd, by cases hg : o.guard <;> simp_all [isNone], hi, hz, rfl⟩
  | q => simp only [mkEn, Bool.cond_eq_ite] at h; repeat' (split at h); all_goals (first | (cases h; done) | skip)
  | p => simp only [mkEn, Bool.cond_eq_ite] at h; repeat' (split at h); all_goals (first | (cases h; done) | skip)
  | s => simp only [mkEn, Bool.cond_eq_ite] at h; repeat' (split at h); all_goals (first | (cases h; done) | skip)
  | t => simp only [mkEn, Bool.cond_eq_ite] at h; repeat' (split at h); all_goals (first | (cases h; done) | skip)
  | no => cases h
  | l b sp =>
    simp only [mkEn] at h
    split at h
    · cases h
    · cases h
theorem DS.lay (hF : FOpen F) {ops : Array Oper} {tb0 : List En} {sp : Sp} {i : Nat} {d : Tmp} {T : TypeId} {zs : List Value} {p : Option Nat} (hJ : DS w0 own n σ ns tb listed a w) (g1 : mkEn P σ n ops tb0 o sp = some (.a d T zs p)) (g2 : tb[i]? = some (.a d T zs p))
    (hsz : i < listed.size) (hnl : ¬ Lst listed i) (hdn : d < n) (hfe : ∀ x ∈ σ.env, x.t ≠ d) (hne : ∀ (k : Nat) (z : En), k ≠ i → tb[k]? = some z → ∀ d', z.dst = some d' → d ≠ d') {K : Act → World → Prop}
    (hK : ∀ a' w', DS w0 own n σ ns tb (listed.setIfInBounds i true) a' w' → K a' w') :
    (if Region.wanted o (yielded ops a.tmps) = true then o.wpIn F m P a w K Q else (∀ f, o.about P w a.eval = some f → F.fn f) ∧ K (a.put o.dst undef) w) := by
  obtain ⟨inf, z, hop, hd, hg, hi, hz, rfl⟩ := mkEn_alloc g1
  rw [if_pos (wanted_none hg)]
  have he : evOp P σ [] [] o = some (.new (z.cells.toList.map .v) T none) := by
    unfold evOp; rw [hop]; simp [isNil, hi, hz]
  obtain ⟨_, _, hrun⟩ := evOp_new hJ.base he
  rw [map_den_v] at hrun
  unfold Oper.wpIn
  refine ⟨fun f _ => hF.fn f, ?_⟩
  rw [Oper.semAt_plain F _ _ (by rw [hop]; intro c hc; cases hc), hrun]
  show K (a.put o.dst (.pointer (some ⟨w.heap.size, 0, none⟩))) (w.alloc (.cells z.cells.toList.toArray T))
  rw [hd]
  refine hK _ _ ?_
  have hb : Below w.heap.size w (w.alloc (.cells z.cells.toList.toArray T)) := (Below.refl _ _).alloc (Nat.le_refl _) _
  have hst : ∀ k, Lst (listed.setIfInBounds i true) k ↔ Lst listed k ∨ k = i := fun k => Lst_set hsz
  have hput : ∀ {k : Nat} {z' : En} {d' : Tmp}, k ≠ i → tb[k]? = some z' → z'.dst = some d' → (a.put (some d) (Value.pointer (some ⟨w.heap.size, 0, none⟩))).tmps[d']? = a.tmps[d']? := fun {k z' d'} hki hk hd' => by
    rw [put_at hJ.base.size hdn, if_neg (fun hh => hne k z' hki hk d' hd' hh.symm)]
  have hself : (a.put (some d) (Value.pointer (some ⟨w.heap.size, 0, none⟩))).tmps[d]? = some (.pointer (some ⟨w.heap.size, 0, none⟩)) := by rw [put_at hJ.base.size hdn, if_pos rfl]
  refine ⟨(hJ.base.below hb).put_other hfe, fun k y x hk hx hl => ?_, fun k hk hl => ?_, fun k d' e hk => (hst k).2 (.inl (hJ.dn k d' e hk)), fun k d' T' zs' p' hk => ⟨fun b hb' => (hst k).2 (.inl ((hJ.al k d' T' zs' p' hk).1 b hb')), fun hl => ?_⟩, fun k j d1 T1 z1 p1 d2 T2 z2 p2 hkj hk hj hlk hlj => ?_⟩
  · have hki : k ≠ i := fun hh => by subst hh; rw [g2] at hk; simp only [Option.some.injEq] at hk; subst hk; cases hx
    rw [hput hki hk (ent_dst y x hx)]
    exact hJ.val k y x hk hx (((hst k).1 hl).resolve_right hki)
  · rcases (hst k).1 hl with h | rfl
    · exact hJ.un k hk h
    · rw [g2] at hk; cases hk
  · by_cases hki : k = i
    · subst hki
      rw [g2] at hk
      simp only [Option.some.injEq, En.a.injEq] at hk
      obtain ⟨rfl, rfl, rfl, rfl⟩ := hk
      refine ⟨w.heap.size, .inr ⟨?_, hJ.base.loc.base.size⟩, by simp, fun hh => by have := hJ.base.loc.lt hh; omega, hself, heap_alloc_new w _⟩
      cases hp : p with
      | none => rfl
      | some b => exact absurd ((hJ.al k _ _ _ _ g2).1 b hp) hnl
    · obtain ⟨b, h1, h2, h3, h4, h5⟩ := (hJ.al k d' T' zs' p' hk).2 (((hst k).1 hl).resolve_right hki)
      exact ⟨b, h1, Nat.lt_of_lt_of_le h2 hb.size, h3, by rw [hput hki hk rfl]; exact h4, by rw [hb.block _ h2]; exact h5⟩
  · have old : ∀ {k j : Nat} {d1 T1 z1 p1 d2 T2 z2 p2}, k = i → j ≠ i → tb[k]? = some (.a d1 T1 z1 p1) → tb[j]? = some (.a d2 T2 z2 p2) → Lst (listed.setIfInBounds i true) j → (a.put (some d) (Value.pointer (some ⟨w.heap.size, 0, none⟩))).tmps[d1]? ≠ (a.put (some d) (Value.pointer (some ⟨w.heap.size, 0, none⟩))).tmps[d2]? := fun {k j d1 T1 z1 p1 d2 T2 z2 p2} e1 e2 hk hj hlj => by
      subst e1
      rw [g2] at hk
      simp only [Option.some.injEq, En.a.injEq] at hk
      obtain ⟨rfl, rfl, rfl, rfl⟩ := hk
      obtain ⟨b, _, h2, _, h4, _⟩ := (hJ.al j _ _ _ _ hj).2 (((hst j).1 hlj).resolve_right e2)
      rw [hself, hput e2 hj rfl, h4]
      intro hh
      simp only [Option.some.injEq, Value.pointer.injEq, Addr.mk.injEq] at hh
      omega
    by_cases e1 : k = i
    · exact old e1 (fun hh => hkj (e1.trans hh.symm)) hk hj hlj
    · by_cases e2 : j = i
      · exact fun hh => old e2 e1 hj hk hlk hh.symm
      · rw [hput e1 hk rfl, hput e2 hj rfl]
        exact hJ.ad k j _ _ _ _ _ _ _ _ hkj hk hj (((hst k).1 hlk).resolve_right e1) (((hst j).1 hlj).resolve_right e2)
theorem DS.go (hF : FOpen F) (h : mkAll P σ n l.toArray [] l ds = some tb) (hp : ∀ x ∈ σ.env, x.p = []) (hwt : wfT σ tb = true) (hob : Obs P w0 own (obsE tb)) (hback : backFrom 0 l = true) (t : List Nat) (hrd : rdyFrom tb t 0 l = true)
    (htn : t = [] → ∀ i : Nat, tb[i]? ≠ some .no) (htt : ∀ i, i ∈ t → tb[i]? = some .no)
    (KT : ∀ i o fuel listed a w, i ∈ t → l[i]? = some o → DS w0 own n σ ns tb listed a w → i < listed.size → ¬ Lst listed i → (∀ k, bindsTo o k = true → Lst listed k) → listed.size = l.length → unl listed ≤ fuel + 1 →
      wpOpIn F m P l.toArray Q i (wpAnyIn F m P .any l.toArray Q fuel (listed.setIfInBounds i true)) a w)
    (KE : t = [] → ∀ listed a w, DS w0 own n σ ns tb listed a w → (∀ k, k < l.length → Lst listed k) → Q .normal a w) :
    ∀ (fuel : Nat) (listed : Array Bool) (a : Act) (w : World), listed.size = l.length → unl listed ≤ fuel → DS w0 own n σ ns tb listed a w → wpAnyIn F m P .any l.toArray Q fuel listed a w := by
  have hlen : tb.length = l.length := by have := (mkAll_at h).2.1; simpa using this
  have hwf : ∀ (i : Nat) (y : En) (x : Ent), tb[i]? = some y → y.ent = some x → x.e.wf σ.bs.length = true ∧ x.p = [] := fun i y x hi hx => En.wfE h hi hx (wfT_spec hwt hi)
  have hend : ∀ (listed : Array Bool) (a : Act) (w : World), listed.size = l.length → DS w0 own n σ ns tb listed a w → Region.ready .any l.toArray listed = [] → Q .normal a w := by
    intro listed a w hsz hJ hr
    have hall := not_done (i := 0) hback hsz hr
    cases ht : t with
    | nil => exact KE ht listed a w hJ hall
    | cons i r =>
      have h1 := htt i (by rw [ht]; simp)
      exact absurd (hall i (by rw [← hlen]; exact (List.getElem?_eq_some_iff.1 h1).1)) (hJ.un i h1)
  have hnl : ∀ {listed : Array Bool} {i : Nat}, i ∈ Region.ready .any l.toArray listed → i < listed.size ∧ ¬ Lst listed i := by
    intro listed i hr
    obtain ⟨hun, _⟩ := mem_ready.1 hr
    rw [Array.getD_eq_getD_getElem?] at hun
    cases hh : listed[i]? with
    | none => rw [hh] at hun; cases hun
    | some b =>
      rw [hh] at hun
      refine ⟨(Array.getElem?_eq_some_iff.1 hh).1, fun hl => ?_⟩
      unfold Lst at hl
      rw [hh] at hl
      simp only [Option.some.injEq] at hl
      subst hl
      cases hun
  intro fuel
  induction fuel with
  | zero =>
    intro listed a w hsz hu hJ
    have hr : Region.ready .any l.toArray listed = [] := by
      cases hh : Region.ready .any l.toArray listed with
      | nil => rfl
      | cons i r =>
        obtain ⟨h1, h2⟩ := hnl (listed := listed) (i := i) (by rw [hh]; simp)
        have := unl_set h1 h2
        omega
    exact ⟨hr, hend listed a w hsz hJ hr⟩
  | succ fuel ih =>
    intro listed a w hsz hu hJ
    refine ⟨hend listed a w hsz hJ, fun i hi => ?_⟩
    obtain ⟨h1, h2⟩ := hnl hi
    obtain ⟨_, o, ho, hall⟩ := mem_ready.1 hi
    have ho' : l[i]? = some o := by simpa using ho
    have hbind : ∀ k, bindsTo o k = true → Lst listed k := by
      intro k hk
      unfold bindsTo at hk
      rw [Array.any_eq_true'] at hk
      obtain ⟨e, he, hb⟩ := hk
      simp only [Bool.and_eq_true] at hb
      have hon := Nat.eq_of_beq_eq_true hb.2
      subst hon
      have := hall e he hb.1
      unfold Lst
      rw [Array.getD_eq_getD_getElem?] at this
      cases hh : listed[e.on]? with
      | none => rw [hh] at this; cases this
      | some b => rw [hh] at this; simp only [Option.getD_some] at this; rw [this]
    obtain ⟨sp, y, g1, g2⟩ := (mkAll_at h).2.2 i o ho'
    simp only [List.length_nil, Nat.zero_add] at g1 g2
    have hul := unl_set h1 h2
    have hnext : ∀ (a' : Act) (w' : World), DS w0 own n σ ns tb (listed.setIfInBounds i true) a' w' → wpAnyIn F m P .any l.toArray Q fuel (listed.setIfInBounds i true) a' w' := fun a' w' hJ' => ih _ a' w' (by simpa using hsz) (by omega) hJ'
    by_cases hyn : y = .no
    · subst hyn
      rcases rdyFrom_spec hrd i o ho' (by simpa using g2) with ht | ⟨k, hk, hkb⟩
      · rw [Nat.zero_add] at ht
        exact KT i o fuel listed a w ht ho' hJ h1 h2 hbind hsz hu
      · exact absurd (hbind k hkb) (hJ.un k hk)
    · obtain ⟨hfr, hdst⟩ := mkEn_fresh g1 hyn
      have hne : ∀ (k : Nat) (z : En), k ≠ i → tb[k]? = some z → ∀ d, z.dst = some d → o.dst ≠ some d := fun k z hk hz d hd => mkAll_ne h ho' g2 hyn hk hz d hd
      have hdn : ∀ d, o.dst = some d → d < n := fun d hd => by rw [hd] at hfr; simp only [freshO, Bool.and_eq_true] at hfr; simpa using hfr.1
      have hfe : ∀ d, o.dst = some d → ∀ x ∈ σ.env, x.t ≠ d := fun d hd => by rw [hd] at hfr; simp only [freshO, Bool.and_eq_true] at hfr; exact (freshE_spec hfr.2).1
      have hput : ∀ {v : Value} {w' : World}, Inv w0 own n σ ns a w' → Inv w0 own n σ ns (a.put o.dst v) w' := fun {v w'} hI => by
        cases hd : o.dst with
        | none => exact hI
        | some d => exact hI.put_other (hfe d hd)
      have henv : ∀ {ks : List Nat} {env : List Ent}, ks.all (bindsTo o) = true → envT (tb.take i) ks = some env → Inv w0 own n (σ.wth env) ns a w := fun {ks env} hks he => by
        refine hJ.inv hp hwf fun x hx => ?_
        obtain ⟨k, y, k1, k2, k3⟩ := envT_mem he x hx
        have hki : k < i := by have := (List.getElem?_eq_some_iff.1 k2).1; simp at this; omega
        rw [List.getElem?_take, if_pos hki] at k2
        exact ⟨k, y, hbind k (List.all_eq_true.1 hks k k1), k2, k3⟩
      unfold wpOpIn
      simp only [ho]
      by_cases hya : ∃ d T zs p, y = .a d T zs p
      · obtain ⟨d, T, zs, p, rfl⟩ := hya
        have hd0 : o.dst = some d := hdst.symm
        exact DS.lay hF hJ g1 g2 h1 h2 (hdn d hd0) (hfe d hd0) (fun k z hk hz d' hd' hh => hne k z hk hz d' hd' (by rw [hd0, hh])) hnext
      have hna : ∀ d T zs p, y ≠ .a d T zs p := fun d T zs p hh => hya ⟨d, T, zs, p, hh⟩
      refine DS.one hF henv sp y g1 (fun d e obs he => ?_) (fun d he => ?_) hyn (fun d e he => ?_) hna
      · subst he
        exact ⟨obsE_at hob i d e obs g2, fun w' hbl => hnext _ _ (hJ.upd g2 hyn hna hbl h1 (hput (hJ.base.below hbl)) hdn (fun x hx => by simp only [En.ent, Option.some.injEq] at hx; subst hx; exact ⟨hdst.symm, rfl⟩) hne ent_dst)⟩
      · subst he
        refine hnext _ _ (hJ.upd g2 hyn hna ⟨rfl, rfl, rfl, Nat.le_refl _, fun _ _ => rfl⟩ h1 (hput hJ.base) hdn (fun x hx => ?_) hne ent_dst)
        cases d with
        | none => cases hx
        | some d => simp only [En.ent, Option.some.injEq] at hx; subst hx; exact ⟨hdst.symm, rfl⟩
      · subst he
        exact absurd (hJ.dn i _ _ g2) h2
def QA (K : Act → World → Prop) (Q : Exit → Act → World → Prop) : Exit → Act → World → Prop
  | .normal, a, w => K a w
  | .exit id, a, w => Q (.exit id) a w
  | .goto t, a, w => Q (.goto t) a w
  | .ret, a, w => Q .ret a w
  | .panic c, a, w => Q (.panic c) a w
  | .outgrown, a, w => Q .outgrown a w
theorem opIn_of_list {ops : Array Oper} {K : Act → World → Prop} {i : Nat} (ho : ops[i]? = some o) (hF : FOpen F) (hw : Region.wanted o (yielded ops a.tmps) = true) (h : wpListIn F m P ops (QA K Q) [o] a w) : wpOpIn F m P ops Q i K a w := by
  unfold wpOpIn
  simp only [ho]
  unfold wpListIn at h
  rw [hw, if_pos rfl] at h ⊢
  unfold Oper.wpIn at h ⊢
  refine ⟨fun f _ => hF.fn f, ?_⟩
  have h2 := h.2
  have hn : ∀ a w, wpListIn F m P ops (QA K Q) [] a w → K a w := fun a w h => h
  generalize (o.semAt F.round a.eval).run P w = r at *
  cases r with
  | ok x w' =>
    cases x <;> simp only [Oper.uponIn] at h2 ⊢ <;>
      first
        | exact hn _ _ h2
        | exact ⟨h2.1, CallsIn.mono h2.2 (fun e w'' he => by cases e <;> first | exact hn _ _ he | exact he)⟩
        | exact ⟨h2.1, RowsIn.mono h2.2 (fun _ _ he => hn _ _ he)⟩
        | exact ⟨h2.1, RoundIn.mono h2.2 (fun e w'' he => by cases e <;> first | exact hn _ _ he | exact he)⟩
  | halt x w' => cases x <;> simp only [Oper.uponIn] at h2 ⊢ <;> exact h2
def isNoAt (tb : List En) (i : Nat) : Bool := match tb[i]? with | some .no => true | _ => false
theorem isNoAt_eq {i : Nat} (h : isNoAt tb i = true) : tb[i]? = some .no := by
  unfold isNoAt at h; split at h
  · assumption
  · cases h
def noneNo (tb : List En) : Bool := tb.all fun x => match x with | .no => false | _ => true
theorem isNil_all (hp : (σ.env.all fun x => isNil x.p) = true) : ∀ x ∈ σ.env, x.p = [] := fun x hx => by
  have := List.all_eq_true.1 hp x hx
  cases hh : x.p <;> simp_all [isNil]
/-- what is done stands as it came -/
def doneE (tb : List En) : List Nat → List En
  | [] => tb
  | k :: r => doneE (match tb[k]? with | some (.q d e _) => tb.set k (.t (some d) (some e)) | _ => tb) r
theorem DS.done : ∀ (dn : List Nat) {tb : List En}, DS w0 own n σ ns tb listed a w → (∀ k ∈ dn, Lst listed k) → DS w0 own n σ ns (doneE tb dn) listed a w
  | [], tb, hJ, _ => hJ
  | k :: r, tb, hJ, hk => by
    simp only [doneE]
    refine DS.done r ?_ (fun j hj => hk j (by simp [hj]))
    split
    · rename_i d e obs hq
      have hlt : k < tb.length := (List.getElem?_eq_some_iff.1 hq).1
      have hA : ∀ {i : Nat} {d' T' zs' p'}, (tb.set k (.t (some d) (some e)))[i]? = some (.a d' T' zs' p') → tb[i]? = some (.a d' T' zs' p') := fun {i d' T' zs' p'} hi => by
        by_cases hik : i = k
        · subst hik; rw [List.getElem?_set_self hlt] at hi; cases hi
        · rwa [List.getElem?_set_ne (Ne.symm hik)] at hi
      refine ⟨hJ.base, fun i y x hy hx hl => ?_, fun i hi => ?_, fun i d' e' hi => ?_, fun i d' T' zs' p' hi => hJ.al i d' T' zs' p' (hA hi), fun i j d1 T1 z1 p1 d2 T2 z2 p2 hij hi hj => hJ.ad i j _ _ _ _ _ _ _ _ hij (hA hi) (hA hj)⟩
      · by_cases hik : i = k
        · subst hik
          rw [List.getElem?_set_self hlt] at hy
          simp only [Option.some.injEq] at hy
          subst hy
          exact hJ.val i _ x hq hx hl
        · rw [List.getElem?_set_ne (Ne.symm hik)] at hy; exact hJ.val i y x hy hx hl
      · by_cases hik : i = k
        · subst hik; rw [List.getElem?_set_self hlt] at hi; cases hi
        · rw [List.getElem?_set_ne (Ne.symm hik)] at hi; exact hJ.un i hi
      · by_cases hik : i = k
        · subst hik; exact hk i (by simp)
        · rw [List.getElem?_set_ne (Ne.symm hik)] at hi; exact hJ.dn i d' e' hi
    · exact hJ
theorem stage_ {fuel : Nat} (hJ : DS w0 own n σ ns tb listed a w) (hF : FOpen F) (hsz : listed.size = l.length) (hu : unl listed ≤ fuel) (ds : List Sp) (h : mkAll P σ n l.toArray [] l ds = some tb) (hp : (σ.env.all fun x => isNil x.p) = true) (hwt : wfT σ tb = true) (hback : backFrom 0 l = true)
    (t : Nat) {o : Oper} (ho : l[t]? = some o) (hrd : rdyFrom tb [t] 0 l = true) (htt : isNoAt tb t = true) (ks : List Nat) {env : List Ent} (henv : envT tb ks = some env) (hks : ks.all (bindsTo o) = true) (hwn : optT (wantB l.toArray (σ.wth env) o.guard) = true) (hob : Obs P w0 own (obsE tb))
    (dn : List Nat) (hdn : dn.all (bindsTo o) = true) (tb2 : List En) (htb : doneE tb dn = tb2)
    (K : ∀ fuel listed a w, DS w0 own n σ ns tb2 listed a w → Inv w0 own n (σ.wth env) ns a w → Region.wanted o (yielded l.toArray a.tmps) = true → t < listed.size → ¬ Lst listed t → listed.size = l.length → unl listed ≤ fuel + 1 →
      wpListIn F m P l.toArray (QA (wpAnyIn F m P .any l.toArray Q fuel (listed.setIfInBounds t true)) Q) [o] a w) : wpAnyIn F m P .any l.toArray Q fuel listed a w := by
  refine DS.go hF h (isNil_all hp) hwt hob hback [t] hrd (by intro hh; cases hh) (fun i hi => by simp only [List.mem_singleton] at hi; subst hi; exact isNoAt_eq htt) ?_ (by intro hh; cases hh) fuel listed a w hsz hu hJ
  intro i o' fuel listed a w hi ho' hJ' h1 h2 hbind hsz' hu'
  simp only [List.mem_singleton] at hi
  subst hi
  rw [ho] at ho'
  simp only [Option.some.injEq] at ho'
  subst ho'
  have hI := hJ'.inv (isNil_all hp) (fun i y x hi hx => En.wfE h hi hx (wfT_spec hwt hi)) (env := env) (fun x hx => by
    obtain ⟨k, y, k1, k2, k3⟩ := envT_mem henv x hx
    exact ⟨k, y, hbind k (List.all_eq_true.1 hks k k1), k2, k3⟩)
  have hw := wantB_spec hI (optT_eq hwn)
  exact opIn_of_list (by simpa using ho) hF hw (K fuel listed a w (htb ▸ hJ'.done dn (fun k hk => hbind k (List.all_eq_true.1 hdn k hk))) hI hw h1 h2 hsz' hu')
theorem end_ {fuel : Nat} (hJ : DS w0 own n σ ns tb listed a w) (hF : FOpen F) (hsz : listed.size = l.length) (hu : unl listed ≤ fuel) (ds : List Sp) (h : mkAll P σ n l.toArray [] l ds = some tb) (hp : (σ.env.all fun x => isNil x.p) = true) (hwt : wfT σ tb = true) (hback : backFrom 0 l = true)
    (hrd : rdyFrom tb [] 0 l = true) (hnn : noneNo tb = true) {live : List Nat} (σ2 : S) (hfin : fin live (σ.wth (tb.filterMap En.ent)) = some σ2) (hob : Obs P w0 own (obsE tb)) (K : ∀ a w, St w0 own n σ2 ns a w → Q .normal a w) : wpAnyIn F m P .any l.toArray Q fuel listed a w := by
  have hlen : tb.length = l.length := by have := (mkAll_at h).2.1; simpa using this
  have hwf : ∀ (i : Nat) (y : En) (x : Ent), tb[i]? = some y → y.ent = some x → x.e.wf σ.bs.length = true ∧ x.p = [] := fun i y x hi hx => En.wfE h hi hx (wfT_spec hwt hi)
  refine DS.go hF h (isNil_all hp) hwt hob hback [] hrd (fun _ i hi => ?_) (by intro i hi; cases hi) (by intro i o f l a w hi; cases hi) (fun _ listed a w hJ' hall => ?_) fuel listed a w hsz hu hJ
  · have := List.all_eq_true.1 hnn _ (List.mem_of_getElem? hi)
    cases this
  · refine K a w ((hJ'.inv (isNil_all hp) hwf fun x hx => ?_).fin hfin)
    obtain ⟨y, hy, hyx⟩ := List.mem_filterMap.1 hx
    obtain ⟨k, hk⟩ := List.getElem?_of_mem hy
    exact ⟨k, y, hall k (by rw [← hlen]; exact (List.getElem?_eq_some_iff.1 hk).1), hk, hyx⟩
def fillE (tb : List En) : List (Nat × En) → List En
  | [] => tb
  | (i, e) :: r => fillE (match tb[i]? with | some .no => tb.set i e | _ => tb) r
def notT : En → Bool
  | .t .. => false
  | .a .. => false
  | _ => true
def notT0 : En → Bool
  | .t .. => false
  | .a _ _ _ (some _) => false
  | _ => true
theorem fillE_at : ∀ {news : List (Nat × En)} {tb : List En}, news.all (fun x => notT x.2) = true → ∀ (i : Nat) (y : En), (fillE tb news)[i]? = some y → (tb[i]? = some y) ∨ (tb[i]? = some .no ∧ notT y = true)
  | [], tb, _, i, y, h => .inl h
  | (j, e) :: r, tb, hn, i, y, h => by
    simp only [List.all_cons, Bool.and_eq_true] at hn
    simp only [fillE] at h
    rcases fillE_at hn.2 i y h with h1 | ⟨h1, h2⟩
    · split at h1
      · rename_i hj
        by_cases hij : i = j
        · subst hij
          rw [List.getElem?_set_self (List.getElem?_eq_some_iff.1 hj).1] at h1
          simp only [Option.some.injEq] at h1
          subst h1
          exact .inr ⟨hj, hn.1⟩
        · rw [List.getElem?_set_ne (Ne.symm hij)] at h1; exact .inl h1
      · exact .inl h1
    · split at h1
      · rename_i hj
        by_cases hij : i = j
        · subst hij; exact .inr ⟨hj, h2⟩
        · rw [List.getElem?_set_ne (Ne.symm hij)] at h1; exact .inr ⟨h1, h2⟩
      · exact .inr ⟨h1, h2⟩
theorem DS.more (hJ : DS w0 own n σ ns tb listed a w) (news : List (Nat × En)) (tb2 : List En) (hn : news.all (fun x => notT x.2) = true) (he : fillE tb news = tb2) : DS w0 own n σ ns tb2 listed a w := by
  subst he
  have hA : ∀ {i : Nat} {d' T' zs' p'}, (fillE tb news)[i]? = some (.a d' T' zs' p') → tb[i]? = some (.a d' T' zs' p') := fun {i d' T' zs' p'} hi => by
    rcases fillE_at hn i _ hi with h | ⟨_, h⟩
    · exact h
    · cases h
  refine ⟨hJ.base, fun i y x hy hx hl => ?_, fun i hi => ?_, fun i d e hi => ?_, fun i d' T' zs' p' hi => hJ.al i d' T' zs' p' (hA hi), fun i j d1 T1 z1 p1 d2 T2 z2 p2 hij hi hj => hJ.ad i j _ _ _ _ _ _ _ _ hij (hA hi) (hA hj)⟩
  · rcases fillE_at hn i y hy with h | ⟨h, _⟩
    · exact hJ.val i y x h hx hl
    · exact absurd hl (hJ.un i h)
  · rcases fillE_at hn i _ hi with h | ⟨h, _⟩ <;> exact hJ.un i h
  · rcases fillE_at hn i _ hi with h | ⟨_, h⟩
    · exact hJ.dn i d e h
    · cases h
theorem DS.cast (hJ : DS w0 own n σ ns tb listed a w) (tb2 : List En) (h : tb = tb2) : DS w0 own n σ ns tb2 listed a w := h ▸ hJ
theorem DS.lit (hJ : DS w0 own n σ ns tb listed a w) (j : Nat) {d : Tmp} {c b : Bool} {obs : List Ob} (hj : tb[j]? = some (.q d (.v (.bool c)) obs)) (hb : c = b) (tb2 : List En) (h : tb.set j (.q d (.v (.bool b)) (.need true (c = b) :: obs)) = tb2) : DS w0 own n σ ns tb2 listed a w := by
  subst hb
  subst h
  have hlt : j < tb.length := (List.getElem?_eq_some_iff.1 hj).1
  have hA : ∀ {i : Nat} {d' T' zs' p'}, (tb.set j (.q d (.v (.bool c)) (.need true (c = c) :: obs)))[i]? = some (.a d' T' zs' p') → tb[i]? = some (.a d' T' zs' p') := fun {i d' T' zs' p'} hi => by
    by_cases hij : i = j
    · subst hij; rw [List.getElem?_set_self hlt] at hi; cases hi
    · rwa [List.getElem?_set_ne (Ne.symm hij)] at hi
  refine ⟨hJ.base, fun i y x hy hx hl => ?_, fun i hi => ?_, fun i d' e hi => ?_, fun i d' T' zs' p' hi => hJ.al i d' T' zs' p' (hA hi), fun i j d1 T1 z1 p1 d2 T2 z2 p2 hij hi hj => hJ.ad i j _ _ _ _ _ _ _ _ hij (hA hi) (hA hj)⟩
  · by_cases hij : i = j
    · subst hij
      rw [List.getElem?_set_self hlt] at hy
      simp only [Option.some.injEq] at hy
      subst hy
      exact hJ.val i _ x hj hx hl
    · rw [List.getElem?_set_ne (Ne.symm hij)] at hy; exact hJ.val i y x hy hx hl
  · by_cases hij : i = j
    · subst hij; rw [List.getElem?_set_self hlt] at hi; cases hi
    · rw [List.getElem?_set_ne (Ne.symm hij)] at hi; exact hJ.un i hi
  · by_cases hij : i = j
    · subst hij; rw [List.getElem?_set_self hlt] at hi; cases hi
    · rw [List.getElem?_set_ne (Ne.symm hij)] at hi; exact hJ.dn i d' e hi
/-- variables that are laid, but not taken up yet -/
def PdOk (p : Option Nat) (T : TypeId) (zs : List Value) (w : World) : Prop := ∀ b, p = some b → w.heap[b]? = some (.cells zs.toArray T (0, 0))
def PdAll : List En → World → Prop
  | [], _ => True
  | .a _ T zs p :: r, w => PdOk p T zs w ∧ PdAll r w
  | _ :: r, w => PdAll r w
theorem PdAll.at_ : ∀ {tb : List En} {w : World}, PdAll tb w → ∀ (i : Nat) d T zs p, tb[i]? = some (.a d T zs p) → PdOk p T zs w
  | [], w, h, i, d, T, zs, p, hi => by simp at hi
  | x :: r, w, h, 0, d, T, zs, p, hi => by
    simp only [List.getElem?_cons_zero, Option.some.injEq] at hi
    subst hi
    exact h.1
  | x :: r, w, h, i + 1, d, T, zs, p, hi => by
    simp only [List.getElem?_cons_succ] at hi
    refine PdAll.at_ (tb := r) ?_ i d T zs p hi
    cases x <;> first | exact h | exact h.2
def AL (tb : List En) (listed : Array Bool) : Prop := ∀ (i : Nat) d T zs p, tb[i]? = some (.a d T zs p) → Lst listed i → ∃ b, p = some b
def noA (tb : List En) : Bool := tb.all fun x => match x with | .a .. => false | _ => true
theorem AL.none (h : noA tb = true) : AL tb listed := fun i d T zs p hi _ => by
  have := List.all_eq_true.1 h _ (List.mem_of_getElem? hi)
  cases this
def neqD : Option Tmp → Option Tmp → Bool
  | some d, some d' => !Nat.beq d d'
  | _, _ => true
theorem next_ {fuel t : Nat} (hJ : DS w0 own n σ ns tb listed a w) (h1 : t < listed.size) (hnl : ¬ Lst listed t) (hsz : listed.size = l.length) (hu : unl listed ≤ fuel + 1) (htt : isNoAt tb t = true) (hfr : (tb.all fun x => neqD x.dst o.dst) = true)
    (hput : ∃ v, a' = a.put o.dst v) {σ2 : S} (hI' : Inv w1 own1 n σ2 ns a' w') {live : List Nat} (σ' : S) (hfin : fin live σ2 = some σ') (e : Option EV) (hv : (match o.dst, e with | some d, some e => (d, some e) | _, _ => (0, none)) = (match o.dst, e with | some d, some _ => (d, oEnv σ2.env [] (.tmp d)) | _, _ => (0, none)))
    (news : List (Nat × En)) (tb2 : List En) (hn : news.all (fun x => notT x.2) = true) (he : fillE (tb.set t (.t o.dst e)) news = tb2) (hdn : (match o.dst with | some d => Nat.blt d n | none => true) = true) (hpd : PdAll tb w') (hAL : AL tb listed)
    (K : DS w1 own1 n σ' ns tb2 (listed.setIfInBounds t true) a' w' → (listed.setIfInBounds t true).size = l.length → unl (listed.setIfInBounds t true) ≤ fuel → wpAnyIn F m P .any l.toArray Q fuel (listed.setIfInBounds t true) a' w') :
    wpListIn F m P l.toArray (QA (wpAnyIn F m P .any l.toArray Q fuel (listed.setIfInBounds t true)) Q) [] a' w' := by
  have hst : ∀ k, Lst (listed.setIfInBounds t true) k ↔ Lst listed k ∨ k = t := fun k => Lst_set h1
  have hlt : t < tb.length := (List.getElem?_eq_some_iff.1 (isNoAt_eq htt)).1
  have hul := unl_set h1 hnl
  have hA : ∀ {i : Nat} {d' T' zs' p'}, (tb.set t (.t o.dst e))[i]? = some (.a d' T' zs' p') → tb[i]? = some (.a d' T' zs' p') ∧ i ≠ t := fun {i d' T' zs' p'} hi => by
    by_cases hit : i = t
    · subst hit; rw [List.getElem?_set_self hlt] at hi; cases hi
    · exact ⟨by rwa [List.getElem?_set_ne (Ne.symm hit)] at hi, hit⟩
  have hpt : ∀ {i : Nat} {d' T' zs' p'}, tb[i]? = some (.a d' T' zs' p') → a'.tmps[d']? = a.tmps[d']? := fun {i d' T' zs' p'} hi => by
    obtain ⟨v, rfl⟩ := hput
    have hne := List.all_eq_true.1 hfr _ (List.mem_of_getElem? hi)
    cases hd : o.dst with
    | none => rfl
    | some d =>
      rw [hd] at hne
      have hdl : d < n := by rw [hd] at hdn; simpa using hdn
      rw [put_at hJ.base.size hdl, if_neg (fun hh => by rw [hh] at hne; simp [En.dst, neqD] at hne)]
  refine wpListIn_nil (K (DS.more ⟨hI'.fin hfin, fun i y x hy hx hl => ?_, fun i hi hl => ?_, fun i d e' hi => ?_, fun i d T zs p hi => ⟨fun b hb => (hst i).2 (.inl ((hJ.al i d T zs p (hA hi).1).1 b hb)), fun hl => ?_⟩, fun i j d1 T1 z1 p1 d2 T2 z2 p2 hij hi hj hli hlj => ?_⟩ news tb2 hn he) (by simpa using hsz) (by omega))
  rotate_left 3
  · obtain ⟨h0, hit⟩ := hA hi
    have hl' : Lst listed i := ((hst i).1 hl).resolve_right hit
    obtain ⟨b, h3, h4, h5, h6, h7⟩ := (hJ.al i d T zs p h0).2 hl'
    obtain ⟨b', hb'⟩ := hAL i d T zs p h0 hl'
    have hbb : b = b' := by
      rcases h3 with h | ⟨h, _⟩
      · rw [hb'] at h; simpa using h.symm
      · rw [hb'] at h; cases h
    subst hbb
    have h8 := hpd.at_ i d T zs p h0 b hb'
    exact ⟨b, .inl hb', (Array.getElem?_eq_some_iff.1 h8).1, h5, by rw [hpt h0]; exact h6, h8⟩
  · obtain ⟨h0, hit⟩ := hA hi
    obtain ⟨g0, gjt⟩ := hA hj
    rw [hpt h0, hpt g0]
    exact hJ.ad i j _ _ _ _ _ _ _ _ hij h0 g0 (((hst i).1 hli).resolve_right hit) (((hst j).1 hlj).resolve_right gjt)
  · by_cases hit : i = t
    · subst hit
      rw [List.getElem?_set_self hlt] at hy
      simp only [Option.some.injEq] at hy
      subst hy
      cases hd : o.dst with
      | none => rw [hd] at hx; cases e <;> cases hx
      | some d =>
        cases e with
        | none => rw [hd] at hx; cases hx
        | some e =>
          rw [hd] at hx
          simp only [En.ent, Option.some.injEq] at hx
          subst hx
          rw [hd] at hv
          simp only [Prod.mk.injEq, true_and] at hv
          have := hI'.opnd hv.symm rfl
          have hdl : d < n := by rw [hd] at hdn; simpa using hdn
          have hdl' : d < a'.tmps.size := by rw [hI'.size]; exact hdl
          simp only [Act.eval] at this
          rw [Array.getD_eq_getD_getElem?, Array.getElem?_eq_getElem hdl'] at this
          rw [Array.getElem?_eq_getElem hdl']
          simpa using this
    · rw [List.getElem?_set_ne (Ne.symm hit)] at hy
      have hl' : Lst listed i := ((hst i).1 hl).resolve_right hit
      have h0 := hJ.val i y x hy hx hl'
      obtain ⟨v, rfl⟩ := hput
      have hne := List.all_eq_true.1 hfr y (List.mem_of_getElem? hy)
      rw [ent_dst y x hx] at hne
      cases hd : o.dst with
      | none => exact h0
      | some d =>
        rw [hd] at hne
        have hdl : d < n := by rw [hd] at hdn; simpa using hdn
        rw [put_at hJ.base.size hdl, if_neg (fun hh => by rw [hh] at hne; simp [neqD] at hne)]
        exact h0
  · by_cases hit : i = t
    · subst hit
      rw [List.getElem?_set_self hlt] at hi
      cases hi
    · rw [List.getElem?_set_ne (Ne.symm hit)] at hi
      exact hJ.un i hi (((hst i).1 hl).resolve_right hit)
  · by_cases hit : i = t
    · exact (hst i).2 (.inr hit)
    · rw [List.getElem?_set_ne (Ne.symm hit)] at hi
      exact (hst i).2 (.inl (hJ.dn i d e' hi))
theorem drawnS_ {id : Nat} (hI : St w0 own n σ ns a w) (hm : P.follows .mixedOrders = true) (tb : List En) (hn : tb.all notT0 = true)
    (K : ∀ fuel listed w', DS w0 own n σ ns tb listed a w' → listed.size = l.length → unl listed ≤ fuel → wpAnyIn F m P .any l.toArray Q fuel listed a w') : (Code.region id l.toArray true).wpIn F m P Q a w := by
  have hno : ∀ k, ¬ Lst (Array.replicate l.toArray.size false) k := by
    intro k hk
    unfold Lst at hk
    rw [Array.getElem?_replicate] at hk
    split at hk <;> cases hk
  refine wpIn_region_any hm (K _ _ _ ⟨hI.below ⟨rfl, rfl, rfl, Nat.le_refl _, fun _ _ => rfl⟩, fun i y x _ _ hl => absurd hl (hno i), fun i _ => hno i, fun i d e hi => ?_, fun i d T zs p hi => ⟨fun b hb => ?_, fun hl => absurd hl (hno i)⟩, fun i j d1 T1 z1 p1 d2 T2 z2 p2 hij hi hj hli => absurd hli (hno i)⟩ (by simp) ?_)
  · have := List.all_eq_true.1 hn _ (List.mem_of_getElem? hi); cases this
  · subst hb; have := List.all_eq_true.1 hn _ (List.mem_of_getElem? hi); cases this
  · unfold unl
    refine Nat.le_trans (List.length_filter_le _ _) ?_
    simp
/-- a store into a block of the call's own, told by itself -/
theorem store_ {ops : Array Oper} {rest : List Oper} (hF : FOpen F) (hI : Inv w0 own n σ ns a w) (hw : Region.wanted o (yielded ops a.tmps) = true) (hd : o.dst = none) (hnd : isNone o.dst = true) {k : Nat} {cs : List EV} {T : TypeId} (he : evOp P σ [] [] o = some (.upd k cs T)) (hwf : cs.all (EV.wf σ.bs.length) = true) (hop : (match o.op with | .store .. => true | _ => false) = true)
    (K : ∀ a' w', (∃ v, a' = a.put o.dst v) → Inv w0 own n { σ with bs := σ.bs.set k (cs, T) } ns a' w' → wpListIn F m P ops Q rest a' w') : wpListIn F m P ops Q (o :: rest) a w := by
  obtain ⟨_, w', hrun, hL⟩ := evOp_upd hI he
  refine special_skip hF hw (by intro c hc; rw [hc] at hop; cases hop) hrun (K _ _ ⟨_, rfl⟩ ?_)
  rw [hd]
  exact hI.upd (by simpa [List.all_eq_true] using hwf) hL
end

/-! ### plain law: iterators, told by the list of what they yield -/
def foldS {σt α R : Type} (bd : σt → α → Option (Stp σt R)) : σt → List α → Option (Stp σt R)
  | s, [] => some (.next s)
  | s, x :: r => (bd s x).bind fun z => z.on (fun s' => foldS bd s' r) (fun o => some (.out o))
@[simp] theorem foldS_nil {σt α R : Type} (bd : σt → α → Option (Stp σt R)) (s : σt) : foldS bd s [] = some (.next s) := rfl
theorem foldS_cons {σt α R : Type} (bd : σt → α → Option (Stp σt R)) (s : σt) (x : α) (r : List α) : foldS bd s (x :: r) = (bd s x).bind fun z => z.on (fun s' => foldS bd s' r) (fun o => some (.out o)) := rfl
theorem foldS_append {σt α R : Type} (bd : σt → α → Option (Stp σt R)) : ∀ (l : List α) (s : σt) (r : List α), foldS bd s (l ++ r) = (foldS bd s l).bind fun z => z.on (fun s' => foldS bd s' r) (fun o => some (.out o))
  | [], s, r => rfl
  | x :: l, s, r => by
    simp only [List.cons_append, foldS_cons]
    cases bd s x with
    | none => rfl
    | some z =>
      cases z with
      | next s' => simp only [Option.bind_some, Stp.on_next]; exact foldS_append bd l s' r
      | out o => rfl
/-- a list that is filled up to where it is full -/
theorem foldS_take {α : Type} {bd : List α → α → Option (Stp (List α) (Nat × List α))} {m : Nat} (h : ∀ s x, s.length ≤ m → bd s x = if m ≤ s.length then some (.out (0, s)) else some (.next (s ++ [x]))) : ∀ (l s : List α), s.length ≤ m →
    ∃ z, foldS bd s l = some z ∧ z.on (fun s => s) (fun r => r.2) = s ++ l.take (m - s.length)
  | [], s, hs => ⟨_, rfl, by simp⟩
  | x :: l, s, hs => by
    rw [foldS_cons, h s x hs]
    split
    · exact ⟨_, rfl, by have : m - s.length = 0 := by omega
                        simp [this]⟩
    · rename_i hlt
      obtain ⟨z, h1, h2⟩ := foldS_take h l (s ++ [x]) (by simp; omega)
      refine ⟨z, h1, ?_⟩
      rw [h2]
      obtain ⟨k, hk⟩ : ∃ k, m - s.length = k + 1 := ⟨m - s.length - 1, by omega⟩
      have : m - (s ++ [x]).length = k := by simp; omega
      rw [this, hk]; simp

/-! ### rows that are written, element by element -/
section
variable {α : Type} {d : Kd α} {e : TypeId} {S0 : Nat → Prop} {pm : List Nat} {w00 w w0 : World} {own ns : List Nat} {mine l1 l2 : List (List Nat)} {base c : Nat} {A : Option Addr} {l : List α}
theorem Row.elB [Inhabited α] (h : Row d e (Lo S0 w00 w own mine) w base A c l) (hE : Ep pm w00 w own mine) (hm : rb A ∈ mine) (i : Int) (g : Bool) (hb : g = true → inb i l.length = true) :
    ∃ sv, (g = true → El d (fun b => b ∉ own) w ((adr A).add (i.toNat * d.sz)) (rd l i) sv) ∧ (g = true → A = some (adr A)) :=
  ((h.arr (S' := fun b => b ∉ own) (fun b hb => hb.2.1) (fun b hb => (hE.mi b (flat_mem hm hb)).2.2)).1).elB i g hb
theorem ob_elR {P : Program} {w : World} {own : List Nat} {B : Addr} {x : α} {sv : SV} {g : Bool} (hE : g = true → El d (fun b => b ∉ own) w B x sv) (off : Nat) (vs : List Value)
    (hs : ((d.cells x sv).drop off).take vs.length = vs) : (Ob.cell g (B.add off) vs).holds P w own := by
  intro hg
  have h := hE hg
  refine ⟨by rw [add_block]; exact h.at_, fun j y hj => ?_⟩
  rw [add_add]
  refine h.cells _ _ ?_
  rw [← hs, List.getElem?_take] at hj
  split at hj
  · rwa [List.getElem?_drop] at hj
  · cases hj
theorem madeCells_at {z : Array Value} {n sz i j : Nat} (hz : z.size = sz) (hi : i < n) (hj : j < sz) : (madeCells z (n * sz)).toList[i * sz + j]? = z[j]? := by
  have hlt : i * sz + j < n * sz := by
    have := Nat.mul_le_mul_right sz (show i + 1 ≤ n from hi)
    rw [Nat.succ_mul] at this; omega
  have hm : (i * sz + j) % sz = j := by rw [Nat.mul_comm, Nat.mul_add_mod, Nat.mod_eq_of_lt hj]
  simp [madeCells, hlt, hz, hm]
  rw [Array.getElem?_eq_getElem (by omega)]
  simp [hz, hj]
variable {F : Fence} {m : Nat} {P : Program} {n : Nat} {σ : S} {a : Act} {o : Oper} {ops : Array Oper} {Q : Exit → Act → World → Prop} {rest : List Oper}
theorem makeSlice_ (hF : FOpen F) (hE : Ep pm w00 w ns mine) (hI : Inv w ns n σ ns a w) (hw : Region.wanted o (yielded ops a.tmps) = true) {t : TypeId} {x y : Operand} (hop : o.op = .makeSlice t x y)
    {kl kc : IntKind} {k : Int} (hx : oEnv σ.env [] x = some (.v (.int kl k))) (hy : oEnv σ.env [] y = some (.v (.int kc k))) (ht : P.underlying t = some (.slice e)) {zi : Value × Nat × Nat} (hzi : zinf P e = some zi) (hsz : zi.2.1 = d.sz)
    (z : α) (svz : SV) (hzc : zi.1.cells.toList = d.cells z svz) (hct : d.cont (Lo S0 w00 w ns mine) w z svz) (h0 : 0 ≤ k) (hk : k.toNat * (d.sz + zi.2.2) ≤ 16777216)
    (σ2 : Option Addr → S) (hput : ∀ A, put1 σ n o.dst [] (some (.v (.slice A (List.replicate k.toNat z).length (List.replicate k.toNat z).length))) = some (σ2 A))
    (K : ∀ A a' w', (∃ v, a' = a.put o.dst v) → Ep pm w00 w' ns (mine ++ [rb A]) → Inv w' ns n (σ2 A) ns a' w' → (∀ S0, Mv (Lo S0 w00 w ns mine) w (Lo S0 w00 w' ns (mine ++ [rb A])) w') → (∀ b, b ∈ mine.flatten → b ∉ ([] : List Nat) → w'.heap[b]? = w.heap[b]?) →
      Row d e (Lo S0 w00 w' ns (mine ++ [rb A])) w' w00.heap.size A (List.replicate k.toNat z).length (List.replicate k.toNat z) → wpListIn F m P ops Q rest a' w') : wpListIn F m P ops Q (o :: rest) a w := by
  obtain ⟨i, hi, hz, hsz', hbb⟩ := zinf_spec hzi
  have hkn : ((k.toNat : Nat) : Int) = k := by omega
  have hd := d.pos
  have hle1 : k.toNat * d.sz ≤ 16777216 := Nat.le_trans (Nat.mul_le_mul_left _ (by omega)) hk
  have hle2 : k.toNat * zi.2.2 ≤ 16777216 := Nat.le_trans (Nat.mul_le_mul_left _ (by omega)) hk
  have hle3 : k.toNat ≤ 16777216 := Nat.le_trans (Nat.le_mul_of_pos_right _ (by omega)) hle1
  obtain ⟨w1, hrun, hown, hg⟩ := run_makeSlice_full (P := P) (w := w) w00.heap.size t e i zi.1 d.sz ht hi hz (hsz'.trans hsz) kl kc k.toNat hle1 (by rw [hbb, Nat.mul_comm]; omega) (by simp only [maxLen]; omega) hE.k.size
  have hrun' : (execOp a.eval o).run P w = .ok (.value (.slice (some ⟨w.heap.size, 0, none⟩) (List.replicate k.toNat z).length (List.replicate k.toNat z).length)) w1 := by
    have e1 := hI.opnd hx rfl
    have e2 := hI.opnd hy rfl
    simp only [EV.den] at e1 e2
    rw [hkn] at hrun
    unfold execOp; rw [hop]
    simp only [e1, e2, Sem.run_bind, hrun, Result.andThen_ok, List.length_replicate]; rfl
  have hcs : zi.1.cells.size = d.sz := by rw [← Array.length_toList, hzc, d.len]
  refine special hF hw (by rw [hop]; intro c hc; cases hc) hrun' ?_
  obtain ⟨c0, cap, hlt⟩ : ∃ (u v : Nat), w.heap.size < w1.heap.size := ⟨0, 0, (hown.lt _ rfl).2⟩
  obtain ⟨q1, q2, q3, q4⟩ := hE.step hI (Keeps.of_grownBy hg) (mine' := mine ++ [[w.heap.size]]) (by intro b hb; cases hb) (add_mem hlt) (add_dis hE) (.inr (by intro b hb; cases hb))
  have K' := K (some ⟨w.heap.size, 0, none⟩) (a.put o.dst (.slice (some ⟨w.heap.size, 0, none⟩) (List.replicate k.toNat z).length (List.replicate k.toNat z).length)) w1
  rw [show rb (some ⟨w.heap.size, 0, none⟩) = [w.heap.size] from rfl] at K'
  refine K' ⟨_, rfl⟩ q1 (put_v q2 _ (hput _)) q3 q4 ⟨_, by simpa using hown, fun j y hy => ?_⟩
  rw [List.getElem?_replicate] at hy
  split at hy
  · rename_i hj
    simp only [Option.some.injEq] at hy
    subst hy
    refine ⟨svz, d.keep hct (q3 S0), fun r u hu => ?_⟩
    have hr : r < d.sz := by rw [← d.len z svz]; exact (List.getElem?_eq_some_iff.1 hu).1
    rw [madeCells_at hcs hj hr, ← Array.getElem?_toList, hzc]
    exact hu
  · cases hy
/-- one element of a row, of one cell, written -/
theorem storeRow_ (hF : FOpen F) (hE : Ep pm w00 w ns mine) (hI : Inv w ns n σ ns a w) (hw : Region.wanted o (yielded ops a.tmps) = true) {t : TypeId} {x y : Operand} (hop : o.op = .store t x y) (hd : o.dst = none)
    {i : Int} (hx : oEnv σ.env [] x = some (.v (.pointer (some ((adr A).add (i.toNat * d.sz)))))) {v : Value} (hy : oEnv σ.env [] y = some (.v v)) (hag : szT P t = some 1) (h1 : d.sz = 1) (hm : rb A ∈ mine) (hi : inb i l.length = true)
    (hrow : Row d e (Lo S0 w00 w ns mine) w base A c l) (z : α) (svz : SV) (hzc : d.cells z svz = [v]) (hone : one1 v = true) (hct : d.cont (Lo S0 w00 w ns mine) w z svz)
    (K : ∀ a' w', (∃ v, a' = a.put o.dst v) → Ep pm w00 w' ns mine → Inv w' ns n σ ns a' w' → (∀ S0, Mv (Lo S0 w00 w ns mine) w (Lo S0 w00 w' ns mine) w') → (∀ b, b ∈ mine.flatten → b ∉ rb A → w'.heap[b]? = w.heap[b]?) →
      Row d e (Lo S0 w00 w' ns mine) w' base A c (l.set i.toNat z) → wpListIn F m P ops Q rest a' w') : wpListIn F m P ops Q (o :: rest) a w := by
  obtain ⟨i0, i1⟩ := inb_spec hi
  obtain ⟨xs, ⟨hlen, h2⟩, h3⟩ := hrow
  rcases h2 with ⟨hv, h2⟩ | ⟨g, cap, cur, hv, hge, hblk, hnc, hcm, hcs, htk⟩
  · omega
  simp only [Value.slice.injEq] at hv
  obtain ⟨rfl, _, rfl⟩ := hv
  have hgm : g ∈ mine.flatten := flat_mem hm (by simp [rb])
  have hid : (List.map (EV.den [g]) (cur.toList.map EV.v)) = cur.toList := map_den_v _
  have hL : Loc w [g] [g] [(cur.toList.map EV.v, e)] w := by
    refine ⟨rfl, by simp, Keeps.refl _ _, fun x hx => .inl hx, fun k cs U hk => ?_⟩
    cases k with
    | zero =>
      simp only [List.getElem?_cons_zero, Option.some.injEq, Prod.mk.injEq] at hk
      obtain ⟨rfl, rfl⟩ := hk
      rw [hid]; simpa using hblk
    | succ k => simp at hk
  have hlt : i.toNat < cur.toList.length := by
    have : cur.size = c * d.sz := hcs
    rw [h1, Nat.mul_one] at this
    simp; omega
  have hk0 : [(cur.toList.map EV.v, e)][0]? = some (cur.toList.map EV.v, e) := rfl
  obtain ⟨w', hrunS, hL2, _⟩ := Loc.storeCells (P := P) [EV.v v] (by intro e he; simp only [List.mem_singleton] at he; subst he; exact hone) [(cur.toList.map EV.v, e)] w 0 (cur.toList.map EV.v) e i.toNat 0 hL hk0 (by simp at hlt ⊢; omega)
  have hL2 : Loc w [g] [g] [((cur.toList.map EV.v).set i.toNat (.v v), e)] w' := by simpa [setMany] using hL2
  have hadr : (adr (some (⟨g, 0, none⟩ : Addr))).add (i.toNat * d.sz) = ⟨[g].getD 0 0, i.toNat, none⟩ := by rw [h1, Nat.mul_one]; exact (add_at g 0 i.toNat).trans (by simp)
  have hcv : v.cells = #[v] := by cases v <;> first | rfl | (cases hone)
  have hrun' : (execOp a.eval o).run P w = .ok .skip w' := by
    have e1 := hI.opnd hx rfl
    have e2 := hI.opnd hy rfl
    simp only [EV.den, hadr] at e1 e2
    have hrunS' : (Go.storeCells ⟨[g].getD 0 0, i.toNat, none⟩ [v] 0).run P w = .ok () w' := hrunS
    unfold execOp; rw [hop]
    simp only [e1, e2, Instr.storeAt, Instr.sureAddr, storeVar, Sem.run_bind, Sem.run_pure, Result.andThen_ok, run_sizeOf hag w, hcv, List.size_toArray, List.length_cons, List.length_nil, ne_eq, Nat.zero_add, not_true, if_false]
    rw [hrunS']
    rfl
  have hg : w.grownBy w' (some g) :=
    ⟨hL2.base.os, hL2.base.tape, hL2.base.output, hL2.base.size, fun k hk hne => hL2.base.block k hk (by intro hh; simp only [List.mem_singleton] at hh; subst hh; exact hne rfl)⟩
  refine special_skip hF hw (by rw [hop]; intro c hc; cases hc) hrun' ?_
  obtain ⟨q1, q2, q3, q4⟩ := hE.step hI (Keeps.of_grownBy hg) (mine' := mine) (by intro b hb; simp at hb; subst hb; exact hgm) same_mem hE.dis (.inr (by intro b hb q hq; simp at hb; subst hb; rw [hblk] at hq; cases hq))
  have hput : a.put o.dst undef = a := by rw [hd]; rfl
  refine K _ _ ⟨_, rfl⟩ q1 (by rw [hput]; exact q2) q3 q4 ?_
  have hb2 := hL2.blk 0 _ _ rfl
  refine ⟨xs.set i.toNat v, ⟨by rw [List.length_set, hlen, List.length_set], .inr ⟨g, c, (cur.toList.set i.toNat v).toArray, by rw [List.length_set], hge, ?_, by rw [List.length_set]; exact hnc, hcm, by simpa using hcs, ?_⟩⟩, fun j y hy => ?_⟩
  · have hmap : (List.map (EV.den [g]) ((cur.toList.map EV.v).set i.toNat (.v v))) = cur.toList.set i.toNat v := by rw [List.map_set, hid]; rfl
    rw [hmap] at hb2
    simpa using hb2
  · rw [List.length_set, ← htk]
    simp [List.take_set]
  · by_cases hji : j = i.toNat
    · subst hji
      have hjl : i.toNat < l.length := by omega
      rw [List.getElem?_set_self hjl] at hy
      simp only [Option.some.injEq] at hy
      subst hy
      refine ⟨svz, d.keep hct (q3 S0), fun r u hu => ?_⟩
      rw [hzc] at hu
      cases r with
      | zero =>
        simp only [List.getElem?_cons_zero, Option.some.injEq] at hu
        subst hu
        rw [h1, Nat.mul_one, Nat.add_zero, List.getElem?_set_self (by rw [hlen, h1]; omega)]
      | succ r => simp at hu
    · rw [List.getElem?_set_ne (Ne.symm hji)] at hy
      obtain ⟨sv, g1, g2⟩ := h3 j y hy
      refine ⟨sv, d.keep g1 (q3 S0), fun r u hu => ?_⟩
      have hr : r = 0 := by have := (List.getElem?_eq_some_iff.1 hu).1; rw [d.len, h1] at this; omega
      subst hr
      have := g2 0 u hu
      rw [h1, Nat.mul_one, Nat.add_zero] at this ⊢
      rw [List.getElem?_set_ne (Ne.symm hji)]; exact this
end

/-! ### functions that call themselves -/
noncomputable def recω {R : Type} (f : Nat → Option R) : Option R := open Classical in if h : ∃ n r, f n = some r then f h.choose else none
theorem recω_some {R : Type} {f : Nat → Option R} {r : R} (h : recω f = some r) : ∃ n, f n = some r := by
  unfold recω at h
  split at h
  · exact ⟨_, h⟩
  · cases h
theorem recω_of {R : Type} {f : Nat → Option R} {r : R} {n : Nat} (h : f n = some r) (hd : ∀ m r', f m = some r' → r' = r) : recω f = some r := by
  unfold recω
  have hex : ∃ n r, f n = some r := ⟨n, r, h⟩
  rw [dif_pos hex]
  obtain ⟨r', hr'⟩ := hex.choose_spec
  rw [hr', hd _ _ hr']

/-! ### a call that is walked within the caller: the callee sees the caller's variables by pointers -/
def entEnvE : Nat → List EV → List Ent
  | _, [] => []
  | i, e :: r => ⟨i, [], e⟩ :: entEnvE (i + 1) r
theorem entEnvE_mem : ∀ {i : Nat} {l : List EV} {x : Ent}, x ∈ entEnvE i l → x.p = [] ∧ i ≤ x.t ∧ l[x.t - i]? = some x.e
  | i, v :: r, x, h => by
    simp only [entEnvE, List.mem_cons] at h
    rcases h with rfl | h
    · exact ⟨rfl, Nat.le_refl _, by simp⟩
    · obtain ⟨h1, h3, h4⟩ := entEnvE_mem h
      refine ⟨h1, by omega, ?_⟩
      rw [show x.t - i = (x.t - (i + 1)) + 1 by omega, List.getElem?_cons_succ]
      exact h4
section
variable {S0 : Nat → Prop} {F : Fence} {m : Nat} {P : Program} {pm : List Nat} {w00 w : World} {mine : List (List Nat)} {n : Nat} {σ : S} {ns : List Nat} {a : Act} {o : Oper} {ops : Array Oper} {Q : Exit → Act → World → Prop} {rest : List Oper}
theorem callI_ (hF : FOpen F) (hI : Inv w ns n σ ns a w) (hw : Region.wanted o (yielded ops a.tmps) = true) {f : FuncId} {es : List EV} {cs : List Value} (hco : callOf σ [] o = some (f, es, cs)) {fn : Func} {c : Code} (hf : P.funcs[f]? = some fn)
    (hname : (fn.name == "runtime.NumGoroutine") = false) (hb : fn.body = some c) {n' : Nat} (hn : fn.ntmps = n') (hle : Nat.ble (es ++ cs.map EV.v).length n' = true) (hwf : es.all (EV.wf σ.bs.length) = true)
    (K : ∀ a', Inv w ns n' ⟨entEnvE 0 (es ++ cs.map EV.v), [], [], σ.bs, none, some (σ.bs.length, ns)⟩ ns a' w → c.wpIn Fence.wide 0 P (bodyPost P fn (fun e w' => ∃ v, e = .returned v ∧ wpListIn F m P ops Q rest (a.put o.dst v) w')) a' w) :
    wpListIn F m P ops Q (o :: rest) a w := by
  unfold wpListIn
  rw [hw, if_pos rfl]
  obtain ⟨hnd, hrun⟩ := callOf_run hI rfl hco (enters hf hname hb)
  refine ⟨fun f _ => hF.fn f, ?_⟩
  rw [Oper.semAt_plain F _ _ hnd, hrun, Oper.uponIn_enter]
  refine ⟨fun hd => by rw [hF.depth] at hd; simp at hd, ?_⟩
  have hle := Nat.le_of_ble_eq_true hle
  simp only [List.length_append, List.length_map] at hle
  have hc : Calls P f (es.map (EV.den ns) ++ cs).toArray w (fun e w' => ∃ v, e = .returned v ∧ wpListIn F m P ops Q rest (a.put o.dst v) w') := by
    refine (callsIn_wide (n := 0)).1 (callsIn_of_wp hf hb trivial (K _ ⟨?_, rfl, ?_, ?_, hI.bwf, ?_, hI.loc, ?_⟩))
    · simp [hn]; omega
    · intro x hx
      obtain ⟨h1, h3, h4⟩ := entEnvE_mem hx
      rw [h1]
      simp only [Nat.sub_zero] at h4
      have h5 : (es.map (EV.den ns) ++ cs)[x.t]? = some (x.e.den ns) := by
        have := congrArg (Option.map (EV.den ns)) h4
        rw [← List.getElem?_map, List.map_append, List.map_map] at this
        rw [show (EV.den ns ∘ EV.v) = id from rfl, List.map_id] at this
        exact this
      have hl := (List.getElem?_eq_some_iff.1 h5).1
      rw [Array.getElem?_append_left (by simpa using hl)]
      simpa [gvv, pathB, EV.den] using h5
    · intro x hx
      obtain ⟨h1, h3, h4⟩ := entEnvE_mem hx
      rw [h1]
      refine ⟨?_, fun y hy => by simp at hy⟩
      have := List.mem_of_getElem? h4
      rw [List.mem_append] at this
      rcases this with h | h
      · exact List.all_eq_true.1 hwf _ h
      · obtain ⟨u, _, hu⟩ := List.mem_map.1 h
        rw [← hu]; rfl
    · intro x hx; simp at hx
    · exact ⟨by rw [← hI.loc.len]; simp, Nat.le_of_eq hI.loc.len.symm⟩
  refine (hF.calls hc).mono ?_
  rintro e w1 ⟨v, rfl, h⟩
  exact h
/-- back at the caller: the callee's own blocks are let go -/
theorem Ep.uncall {n' kb : Nat} {A B : World} {ns' : List Nat} {aO a' : Act} {σo : S} {bs : List (List EV × TypeId)} (hO : Inv A ns n σo ns aO A) (hE : Ep pm w00 B ns' mine) (hI : Inv B ns' n' σ ns' a' B) (hlo : σo.lo = none) (hpin : σ.pin = some (kb, ns))
    (hgi : σo.gi = []) (hk : σo.bs.length = kb) (hb : (Nat.ble kb σ.bs.length && (σ.bs.take kb).all (fun x => x.1.all (EV.wf kb))) = true) (hbs : σ.bs.take kb = bs) :
    Ep pm w00 B ns mine ∧ Inv B ns n { σo with bs := bs } ns aO B ∧ ∀ S0, Mv (Lo S0 w00 B ns' mine) B (Lo S0 w00 B ns mine) B := by
  have hpn := hI.pin
  rw [hpin] at hpn
  obtain ⟨hns, _⟩ := hpn
  have hlen : ns.length = kb := by rw [hO.loc.len, hk]
  have hss : ∀ b, b ∈ ns → b ∈ ns' := fun b hb => by rw [← hns] at hb; exact List.mem_of_mem_take hb
  subst hbs
  simp only [Bool.and_eq_true, List.all_eq_true] at hb
  obtain ⟨hle, hbs⟩ := hb
  have hle := Nat.le_of_ble_eq_true hle
  have hbl : (σ.bs.take kb).length = kb := by rw [List.length_take]; omega
  have hL := hI.loc
  have hd := hO.defers
  rw [hlo] at hd
  refine ⟨⟨hE.k, fun b hb => hE.ow b (hss b hb), fun b hb => ⟨(hE.mi b hb).1, (hE.mi b hb).2.1, fun hh => (hE.mi b hb).2.2 (hss b hh)⟩, hE.dis⟩, ⟨hO.size, by simp only [hlo]; exact hd, hO.env, fun x hx => ?_, fun x hx e hee => ?_, fun x hx => by simp [hgi] at hx, ?_, ?_⟩, fun S0 b hb _ => ⟨⟨hb.1, fun hh => hb.2.1 (hss b hh), hb.2.2⟩, rfl⟩⟩
  · have := hO.ewf x hx
    rw [hk] at this
    simp only [hbl]
    exact this
  · simp only [hbl]; exact hbs x hx e hee
  · refine ⟨by simp only [hbl, hlen], hO.loc.nodup, Keeps.refl _ _, fun b hb => .inl hb, fun k cs T hkk => ?_⟩
    simp only at hkk
    rw [List.getElem?_take] at hkk
    split at hkk
    · rename_i hlt
      have hm : (cs, T) ∈ σ.bs.take kb := List.mem_of_getElem? (by rw [List.getElem?_take, if_pos hlt]; exact hkk)
      rw [← hns, List.map_congr_left (fun e hee => den_take (hbs _ hm e hee))]
      have : (ns'.take kb).getD k 0 = ns'.getD k 0 := by
        rw [List.getD_eq_getElem?_getD, List.getD_eq_getElem?_getD, List.getElem?_take, if_pos hlt]
      rw [this]
      exact hL.blk k cs T hkk
    · cases hkk
  · have := hO.pin
    revert this
    cases σo.pin with
    | none => exact id
    | some p =>
      exact id
theorem putI_ {w0 : World} {own : List Nat} {dst : Option Tmp} {v : Value} (hI : Inv w0 own n σ ns a w) (σ2 : S) (hp : put1 σ n dst [] (some (.v v)) = some σ2) (K : ∀ a', Inv w0 own n σ2 ns a' w → wpListIn F m P ops Q rest a' w) : wpListIn F m P ops Q rest (a.put dst v) w := K _ (put_v hI σ2 hp)
/-- a method's value: a function with pointers to own variables ahead -/
def sumsE : List EV → Option (List (Sum Value (Nat × Nat)))
  | [] => some []
  | .v u :: r => match sumsE r with | some l => some (.inl u :: l) | none => none
  | .p k off :: r => match sumsE r with | some l => some (.inr (k, off) :: l) | none => none
  | _ :: _ => none
theorem sumsE_den : ∀ {es : List EV} {l : List (Sum Value (Nat × Nat))}, sumsE es = some l → l.map (den1 ns) = es.map (EV.den ns)
  | [], l, h => by simp only [sumsE, Option.some.injEq] at h; subst h; rfl
  | x :: r, l, h => by
    cases x with
    | v u =>
      simp only [sumsE] at h
      cases hr : sumsE r with
      | none => rw [hr] at h; simp at h
      | some q => rw [hr] at h; simp only [Option.some.injEq] at h; subst h; simp [sumsE_den hr, EV.den, den1]
    | p k off =>
      simp only [sumsE] at h
      cases hr : sumsE r with
      | none => rw [hr] at h; simp at h
      | some q => rw [hr] at h; simp only [Option.some.injEq] at h; subst h; simp [sumsE_den hr, EV.den, den1]
    | _ => simp [sumsE] at h
theorem makeFuncP_ {w0 : World} {own : List Nat} (hF : FOpen F) (hI : Inv w0 own n σ ns a w) (hw : Region.wanted o (yielded ops a.tmps) = true) {fn : Fn} {first caps : Array Operand} (hop : o.op = .makeFunc fn first caps) {es1 es2 : List EV}
    (h1 : evArgs σ.env [] first.toList = some es1) (h2 : evArgs σ.env [] caps.toList = some es2) {l1 l2 : List (Sum Value (Nat × Nat))} (g1 : sumsE es1 = some l1) (g2 : sumsE es2 = some l2) (σ2 : S) (hput : put1 σ n o.dst [] (some (.f fn l1 l2)) = some σ2)
    (K : ∀ a', Inv w0 own n σ2 ns a' w → wpListIn F m P ops Q rest a' w) : wpListIn F m P ops Q (o :: rest) a w := by
  have e1 := evArgs_eval hI (g := []) rfl h1
  have e2 := evArgs_eval hI (g := []) rfl h2
  have hrun : (execOp a.eval o).run P w = .ok (.value ((EV.f fn l1 l2).den ns)) w := by
    unfold execOp; rw [hop]
    simp only [EV.den, sumsE_den g1, sumsE_den g2]
    have f1 : first.map a.eval = (es1.map (EV.den ns)).toArray := by rw [← e1]; apply Array.ext'; simp
    have f2 : caps.map a.eval = (es2.map (EV.den ns)).toArray := by rw [← e2]; apply Array.ext'; simp
    rw [← f1, ← f2]; rfl
  refine special hF hw (by rw [hop]; intro c hc; cases hc) hrun ?_
  exact K _ (put1_sound hI (g := []) (fun x hx => by simp at hx) hput (fun x hx => by simp only [Option.some.injEq] at hx; subst hx; rfl))
end

/-! ### variables laid in a region that draws its order, among turning operations -/
def setP (θ : Nat → Option Nat) : Nat → List En → List En
  | _, [] => []
  | i, x :: r => (match x with | .a d T zs _ => .a d T zs (θ i) | y => y) :: setP θ (i + 1) r
theorem setP_at {θ : Nat → Option Nat} : ∀ {tb : List En} {i k : Nat}, (setP θ i tb)[k]? = (tb[k]?).map (fun x => match x with | .a d T zs _ => .a d T zs (θ (i + k)) | y => y)
  | [], i, k => by simp [setP]
  | x :: r, i, 0 => by simp [setP]
  | x :: r, i, k + 1 => by
    simp only [setP, List.getElem?_cons_succ]
    rw [setP_at, show i + 1 + k = i + (k + 1) by omega]
theorem setP_a {θ : Nat → Option Nat} {tb : List En} {k : Nat} {d T zs p} (h : (setP θ 0 tb)[k]? = some (.a d T zs p)) : p = θ k ∧ ∃ q, tb[k]? = some (.a d T zs q) := by
  rw [setP_at] at h
  cases hk : tb[k]? with
  | none => rw [hk] at h; cases h
  | some y =>
    rw [hk] at h
    cases y with
    | a d' T' zs' q => simp only [Option.map_some, Option.some.injEq, En.a.injEq, Nat.zero_add] at h; obtain ⟨rfl, rfl, rfl, rfl⟩ := h; exact ⟨rfl, q, rfl⟩
    | _ => simp at h
theorem setP_o {θ : Nat → Option Nat} {tb : List En} {k : Nat} {y : En} (h : (setP θ 0 tb)[k]? = some y) (hy : ∀ d T zs p, y ≠ .a d T zs p) : tb[k]? = some y := by
  rw [setP_at] at h
  cases hk : tb[k]? with
  | none => rw [hk] at h; cases h
  | some z =>
    rw [hk] at h
    cases z with
    | a d' T' zs' q => simp only [Option.map_some, Option.some.injEq] at h; exact absurd h.symm (hy _ _ _ _)
    | _ => simpa using h
def NewP (w0 w : World) (ns : List Nat) (ps ps' : List (Option Nat)) : Prop := (∀ b, some b ∈ ps' → some b ∈ ps ∨ (w0.heap.size ≤ b ∧ b < w.heap.size ∧ b ∉ ns)) ∧ (ps'.filterMap id).Nodup
def pAt (tb : List En) (i : Nat) : Option Nat := match tb[i]? with | some (.a _ _ _ p) => p | _ => none
section
variable {F : Fence} {m : Nat} {P : Program} {w00 w0 w1 : World} {own own1 : List Nat} {n : Nat} {σ σ' : S} {ns : List Nat} {a a' : Act} {w w' : World} {o : Oper} {Q : Exit → Act → World → Prop}
variable {l : List Oper} {ds : List Sp} {tb tb' : List En} {listed : Array Bool} {S0 : Nat → Prop} {pm : List Nat} {mine l1 l2 : List (List Nat)}
theorem PdAll.of : ∀ {tb : List En} {w : World}, (∀ (i : Nat) d T zs p, tb[i]? = some (.a d T zs p) → PdOk p T zs w) → PdAll tb w
  | [], w, h => trivial
  | x :: r, w, h => by
    have h' : PdAll r w := PdAll.of fun i d T zs p hi => h (i + 1) d T zs p (by simpa using hi)
    cases x <;> first | exact h' | exact ⟨h 0 _ _ _ _ rfl, h'⟩
theorem DS.pend (hJ : DS w0 own n σ ns tb listed a w) (ix : List Nat) (hix : ix.Nodup) : ∃ θ : Nat → Option Nat, DS w0 own n σ ns (setP θ 0 tb) listed a w ∧ NewP w0 w ns (ix.map (pAt tb)) (ix.map θ) ∧ PdAll (setP θ 0 tb) w ∧ AL (setP θ 0 tb) listed := by
  have key : ∀ i : Nat, ∃ q : Option Nat, (∀ b, q = some b → ∃ d T zs p, tb[i]? = some (.a d T zs p) ∧ Lst listed i ∧ (p = some b ∨ (p = none ∧ w0.heap.size ≤ b)) ∧ b < w.heap.size ∧ b ∉ ns ∧ a.tmps[d]? = some (.pointer (some ⟨b, 0, none⟩)) ∧ w.heap[b]? = some (.cells zs.toArray T (0, 0))) ∧
      (∀ d T zs p, tb[i]? = some (.a d T zs p) → Lst listed i → ∃ b, q = some b) := by
    intro i
    by_cases h : ∃ d T zs p, tb[i]? = some (.a d T zs p) ∧ Lst listed i
    · obtain ⟨d, T, zs, p, h1, h2⟩ := h
      obtain ⟨b, h3, h4, h5, h6, h7⟩ := (hJ.al i d T zs p h1).2 h2
      exact ⟨some b, fun b' hb => by simp only [Option.some.injEq] at hb; subst hb; exact ⟨d, T, zs, p, h1, h2, h3, h4, h5, h6, h7⟩, fun _ _ _ _ _ _ => ⟨b, rfl⟩⟩
    · exact ⟨none, (fun b hb => nomatch hb), (fun d T zs p h1 h2 => absurd ⟨d, T, zs, p, h1, h2⟩ h)⟩
  let θ : Nat → Option Nat := fun i => Classical.choose (key i)
  have hθ : ∀ i b, θ i = some b → ∃ d T zs p, tb[i]? = some (.a d T zs p) ∧ Lst listed i ∧ (p = some b ∨ (p = none ∧ w0.heap.size ≤ b)) ∧ b < w.heap.size ∧ b ∉ ns ∧ a.tmps[d]? = some (.pointer (some ⟨b, 0, none⟩)) ∧ w.heap[b]? = some (.cells zs.toArray T (0, 0)) := fun i => (Classical.choose_spec (key i)).1
  have hθ' : ∀ i d T zs p, tb[i]? = some (.a d T zs p) → Lst listed i → ∃ b, θ i = some b := fun i => (Classical.choose_spec (key i)).2
  refine ⟨θ, ⟨hJ.base, fun i y x hy hx hl => ?_, fun i hi => ?_, fun i d e hi => ?_, fun i d T zs p hi => ?_, fun i j d T zs p d' T' zs' p' hij hi hj hli hlj => ?_⟩, ⟨fun b hb => ?_, ?_⟩, PdAll.of fun i d T zs p hi => ?_, fun i d T zs p hi hl => ?_⟩
  · exact hJ.val i y x (setP_o hy (fun d T zs p hh => by subst hh; cases hx)) hx hl
  · exact hJ.un i (setP_o hi (fun d T zs p hh => by cases hh))
  · exact hJ.dn i d e (setP_o hi (fun d T zs p hh => by cases hh))
  · obtain ⟨rfl, q, hq⟩ := setP_a hi
    refine ⟨fun b hb => ?_, fun hl => ?_⟩
    · obtain ⟨_, _, _, _, _, h2, _⟩ := hθ i b hb; exact h2
    · obtain ⟨b, hb⟩ := hθ' i d T zs q hq hl
      obtain ⟨d', T', zs', p', h1, h2, h3, h4, h5, h6, h7⟩ := hθ i b hb
      rw [hq] at h1
      simp only [Option.some.injEq, En.a.injEq] at h1
      obtain ⟨rfl, rfl, rfl, rfl⟩ := h1
      exact ⟨b, .inl hb, h4, h5, h6, h7⟩
  · obtain ⟨_, q, hq⟩ := setP_a hi
    obtain ⟨_, q', hq'⟩ := setP_a hj
    exact hJ.ad i j _ _ _ _ _ _ _ _ hij hq hq' hli hlj
  · obtain ⟨i, hi, hib⟩ := List.mem_map.1 hb
    obtain ⟨d, T, zs, p, h1, h2, h3, h4, h5, h6, h7⟩ := hθ i b hib
    rcases h3 with h3 | ⟨_, h3⟩
    · left
      refine List.mem_map.2 ⟨i, hi, ?_⟩
      simp only [pAt, h1, h3]
    · exact .inr ⟨h3, h4, h5⟩
  · clear_value θ
    clear key
    induction ix with
    | nil => simp
    | cons i r ih =>
      rw [List.nodup_cons] at hix
      have ih := ih hix.2
      simp only [List.map_cons]
      cases hq : θ i with
      | none => simpa using ih
      | some b =>
        simp only [List.filterMap_cons, id]
        refine List.nodup_cons.2 ⟨fun hm => ?_, ih⟩
        obtain ⟨z, hz, hzb⟩ := List.mem_filterMap.1 hm
        obtain ⟨j, hj, hjz⟩ := List.mem_map.1 hz
        simp only [id] at hzb
        subst hzb
        obtain ⟨d, T, zs, p, h1, h2, _, _, _, h6, _⟩ := hθ i b hq
        obtain ⟨d', T', zs', p', g1, g2, _, _, _, g6, _⟩ := hθ j b hjz
        exact hJ.ad i j _ _ _ _ _ _ _ _ (fun hh => by subst hh; exact hix.1 hj) h1 g1 h2 g2 (h6.trans g6.symm)
  · obtain ⟨rfl, q, hq⟩ := setP_a hi
    intro b hb
    obtain ⟨d', T', zs', p', h1, h2, h3, h4, h5, h6, h7⟩ := hθ i b hb
    rw [hq] at h1
    simp only [Option.some.injEq, En.a.injEq] at h1
    obtain ⟨rfl, rfl, rfl, rfl⟩ := h1
    exact h7
  · obtain ⟨rfl, q, hq⟩ := setP_a hi
    exact hθ' i d T zs q hq hl
theorem stageB_ {fuel : Nat} (hJ : DS w0 own n σ ns tb listed a w) (hF : FOpen F) (hsz : listed.size = l.length) (hu : unl listed ≤ fuel) (ds : List Sp) (h : mkAll P σ n l.toArray [] l ds = some tb) (hp : (σ.env.all fun x => isNil x.p) = true) (hwt : wfT σ tb = true) (hback : backFrom 0 l = true)
    (t : Nat) {o : Oper} (ho : l[t]? = some o) (hrd : rdyFrom tb [t] 0 l = true) (htt : isNoAt tb t = true) (ks : List Nat) {env : List Ent} (henv : envT tb ks = some env) (hks : ks.all (bindsTo o) = true) (hwn : optT (wantB l.toArray (σ.wth env) o.guard) = true) (hob : Obs P w0 own (obsE tb))
    (dn : List Nat) (hdn : dn.all (bindsTo o) = true) (tb2 : List En) (htb : doneE tb dn = tb2)
    (K : ∀ fuel listed a w, DS w0 own n σ ns tb2 listed a w → Inv w0 own n (σ.wth env) ns a w → Region.wanted o (yielded l.toArray a.tmps) = true → t < listed.size → ¬ Lst listed t → listed.size = l.length → unl listed ≤ fuel + 1 → (∀ k, bindsTo o k = true → Lst listed k) →
      wpListIn F m P l.toArray (QA (wpAnyIn F m P .any l.toArray Q fuel (listed.setIfInBounds t true)) Q) [o] a w) : wpAnyIn F m P .any l.toArray Q fuel listed a w := by
  refine DS.go hF h (isNil_all hp) hwt hob hback [t] hrd (by intro hh; cases hh) (fun i hi => by simp only [List.mem_singleton] at hi; subst hi; exact isNoAt_eq htt) ?_ (by intro hh; cases hh) fuel listed a w hsz hu hJ
  intro i o' fuel listed a w hi ho' hJ' h1 h2 hbind hsz' hu'
  simp only [List.mem_singleton] at hi
  subst hi
  rw [ho] at ho'
  simp only [Option.some.injEq] at ho'
  subst ho'
  have hI := hJ'.inv (isNil_all hp) (fun i y x hi hx => En.wfE h hi hx (wfT_spec hwt hi)) (env := env) (fun x hx => by
    obtain ⟨k, y, k1, k2, k3⟩ := envT_mem henv x hx
    exact ⟨k, y, hbind k (List.all_eq_true.1 hks k k1), k2, k3⟩)
  have hw := wantB_spec hI (optT_eq hwn)
  exact opIn_of_list (by simpa using ho) hF hw (K fuel listed a w (htb ▸ hJ'.done dn (fun k hk => hbind k (List.all_eq_true.1 hdn k hk))) hI hw h1 h2 hsz' hu' hbind)
/-- of some turning operations any one may come next -/
theorem stageM_ {fuel : Nat} (hJ : DS w0 own n σ ns tb listed a w) (hF : FOpen F) (hsz : listed.size = l.length) (hu : unl listed ≤ fuel) (ds : List Sp) (h : mkAll P σ n l.toArray [] l ds = some tb) (hp : (σ.env.all fun x => isNil x.p) = true) (hwt : wfT σ tb = true) (hback : backFrom 0 l = true)
    (ts : List Nat) (hrd : rdyFrom tb ts 0 l = true) (hne : ts ≠ []) (htt : ts.all (isNoAt tb) = true) (hob : Obs P w0 own (obsE tb))
    (KT : ∀ i o fuel listed a w, i ∈ ts → l[i]? = some o → DS w0 own n σ ns tb listed a w → i < listed.size → ¬ Lst listed i → (∀ k, bindsTo o k = true → Lst listed k) → listed.size = l.length → unl listed ≤ fuel + 1 →
      wpOpIn F m P l.toArray Q i (wpAnyIn F m P .any l.toArray Q fuel (listed.setIfInBounds i true)) a w) : wpAnyIn F m P .any l.toArray Q fuel listed a w :=
  DS.go hF h (isNil_all hp) hwt hob hback ts hrd (fun hh => absurd hh hne) (fun i hi => isNoAt_eq (List.all_eq_true.1 htt i hi)) KT (fun hh => absurd hh hne) fuel listed a w hsz hu hJ
theorem stageT_ {fuel : Nat} (t : Nat) {o o' : Oper} (ho : l[t]? = some o) (ho' : l[t]? = some o') (hJ : DS w0 own n σ ns tb listed a w) (hF : FOpen F) (hbind : ∀ k, bindsTo o' k = true → Lst listed k) (ds : List Sp) (h : mkAll P σ n l.toArray [] l ds = some tb) (hp : (σ.env.all fun x => isNil x.p) = true) (hwt : wfT σ tb = true)
    (ks : List Nat) {env : List Ent} (henv : envT tb ks = some env) (hks : ks.all (bindsTo o) = true) (hwn : optT (wantB l.toArray (σ.wth env) o.guard) = true) (dn : List Nat) (hdn : dn.all (bindsTo o) = true) (tb2 : List En) (htb : doneE tb dn = tb2)
    (K : DS w0 own n σ ns tb2 listed a w → Inv w0 own n (σ.wth env) ns a w → Region.wanted o (yielded l.toArray a.tmps) = true → (∀ k, bindsTo o k = true → Lst listed k) →
      wpListIn F m P l.toArray (QA (wpAnyIn F m P .any l.toArray Q fuel (listed.setIfInBounds t true)) Q) [o] a w) : wpOpIn F m P l.toArray Q t (wpAnyIn F m P .any l.toArray Q fuel (listed.setIfInBounds t true)) a w := by
  rw [ho] at ho'
  simp only [Option.some.injEq] at ho'
  subst ho'
  have hI := hJ.inv (isNil_all hp) (fun i y x hi hx => En.wfE h hi hx (wfT_spec hwt hi)) (env := env) (fun x hx => by
    obtain ⟨k, y, k1, k2, k3⟩ := envT_mem henv x hx
    exact ⟨k, y, hbind k (List.all_eq_true.1 hks k k1), k2, k3⟩)
  have hw := wantB_spec hI (optT_eq hwn)
  exact opIn_of_list (by simpa using ho) hF hw (K (htb ▸ hJ.done dn (fun k hk => hbind k (List.all_eq_true.1 hdn k hk))) hI hw hbind)
theorem mem_fm {b : Nat} {x : List (Option Nat)} : b ∈ x.filterMap id ↔ some b ∈ x := by simp [List.mem_filterMap]
theorem fm_flat (x : List (Option Nat)) : (x.map Option.toList).flatten = x.filterMap id := by
  induction x with
  | nil => rfl
  | cons y r ih => cases y <;> simp [ih]
theorem Ep.rebaseA {ps ps' : List (Option Nat)} (hE : Ep pm w00 w0 own (l1 ++ ps.map Option.toList ++ l2)) (hI : Inv w0 own n σ ns a w) (hN : NewP w0 w ns ps ps') :
    Ep pm w00 w ns (l1 ++ ps'.map Option.toList ++ l2) ∧ (∀ S0, Mv (Lo S0 w00 w0 own (l1 ++ ps.map Option.toList ++ l2)) w0 (Lo S0 w00 w ns (l1 ++ ps'.map Option.toList ++ l2)) w) ∧ (∀ b ∈ (l1 ++ ps.map Option.toList ++ l2).flatten, w.heap[b]? = w0.heap[b]?) := by
  obtain ⟨q1, q2, q3⟩ := hE.rebase hI
  have ef : ∀ x : List (Option Nat), (l1 ++ x.map Option.toList ++ l2).flatten = l1.flatten ++ x.filterMap id ++ l2.flatten := fun x => by simp [fm_flat]
  have hnew : ∀ b ∈ (l1 ++ ps'.map Option.toList ++ l2).flatten, b ∈ (l1 ++ ps.map Option.toList ++ l2).flatten ∨ (w0.heap.size ≤ b ∧ b < w.heap.size ∧ b ∉ ns) := fun b hb => by
    rw [ef] at hb ⊢
    simp only [List.mem_append] at hb ⊢
    rcases hb with (hb | hb) | hb
    · exact .inl (.inl (.inl hb))
    · rcases hN.1 b (mem_fm.1 hb) with h | h
      · exact .inl (.inl (.inr (mem_fm.2 h)))
      · exact .inr h
    · exact .inl (.inr hb)
  refine ⟨⟨q1.k, q1.ow, fun b hb => ?_, ?_⟩, fun S0 b hb hlt => ?_, q3⟩
  · rcases hnew b hb with h | ⟨h1, h2, h3⟩
    · exact q1.mi b h
    · exact ⟨.inl (Nat.le_trans hE.k.size h1), h2, h3⟩
  · have hd := hE.dis
    have hlt : ∀ b ∈ (l1 ++ ps.map Option.toList ++ l2).flatten, b < w0.heap.size := fun b hb => (hE.mi b hb).2.1
    rw [ef] at hd hlt ⊢
    rw [List.nodup_append, List.nodup_append] at hd ⊢
    obtain ⟨⟨d1, d2, d3⟩, d4, d5⟩ := hd
    refine ⟨⟨d1, hN.2, fun x hx y hy => ?_⟩, d4, fun x hx y hy => ?_⟩
    · rintro rfl
      rcases hN.1 x (mem_fm.1 hy) with h | ⟨h, _⟩
      · exact d3 x hx x (mem_fm.2 h) rfl
      · have := hlt x (by simp [hx]); omega
    · rintro rfl
      rw [List.mem_append] at hx
      rcases hx with hx | hx
      · exact d5 x (by simp only [List.mem_append]; exact .inl hx) x hy rfl
      · rcases hN.1 x (mem_fm.1 hx) with h | ⟨h, _⟩
        · exact d5 x (by simp only [List.mem_append]; exact .inr (mem_fm.2 h)) x hy rfl
        · have := hlt x (by rw [List.mem_append]; exact .inr hy); omega
  · obtain ⟨r1, r2⟩ := q2 S0 b hb hlt
    refine ⟨⟨r1.1, r1.2.1, fun hh => ?_, r1.2.2.2⟩, r2⟩
    rcases hnew b hh with h | ⟨h, _⟩
    · exact hb.2.2.1 h
    · have := hlt.1; omega
def S.lay (σ : S) (zs : List Value) (T : TypeId) : S := { σ with bs := σ.bs ++ [(zs.map EV.v, T)] }
theorem Inv.adopt {b : Nat} {zs : List Value} {T : TypeId} (hI : Inv w ns n σ ns a w) (hlo : σ.lo = none) (hb : b ∉ ns) (hh : w.heap[b]? = some (.cells zs.toArray T (0, 0))) : Inv w (ns ++ [b]) n (σ.lay zs T) (ns ++ [b]) a w := by
  have hl : ns.length = σ.bs.length := hI.loc.len
  have hle : σ.bs.length ≤ (σ.bs ++ [(zs.map EV.v, T)]).length := by simp
  have hd := hI.defers
  rw [hlo] at hd
  refine ⟨hI.size, by simp only [S.lay, hlo]; exact hd, fun x hx => ?_, fun x hx => ⟨wf_mono (hI.ewf x hx).1 hle, (hI.ewf x hx).2⟩, fun x hx e he => ?_, hI.gi, ⟨?_, ?_, Keeps.refl _ _, fun b hb => .inl hb, fun k cs T' hk => ?_⟩, hI.pin.app _⟩
  · rw [EV.den_append (by rw [hl]; exact (hI.ewf x hx).1)]; exact hI.env x hx
  · simp only [S.lay, List.mem_append, List.mem_singleton] at hx
    rcases hx with hx | rfl
    · exact wf_mono (hI.bwf x hx e he) hle
    · obtain ⟨u, _, rfl⟩ := List.mem_map.1 he; rfl
  · simp [S.lay, hl]
  · rw [List.nodup_append]
    refine ⟨hI.loc.nodup, by simp, fun x hx y hy => ?_⟩
    rw [List.mem_singleton] at hy
    subst hy
    exact fun hxy => hb (hxy ▸ hx)
  · simp only [S.lay] at hk
    rcases Nat.lt_or_ge k σ.bs.length with hlt | hge
    · rw [List.getElem?_append_left hlt] at hk
      rw [getD_append_left (by omega)]
      have hm := List.mem_of_getElem? hk
      rw [List.map_congr_left (fun e he => EV.den_append (by rw [hl]; exact hI.bwf _ hm e he))]
      exact hI.loc.blk k cs T' hk
    · rw [List.getElem?_append_right hge] at hk
      have hk0 : k - σ.bs.length = 0 := by
        have := (List.getElem?_eq_some_iff.1 hk).1; simp at this; omega
      rw [hk0] at hk
      simp only [List.getElem?_cons_zero, Option.some.injEq, Prod.mk.injEq] at hk
      obtain ⟨rfl, rfl⟩ := hk
      have : (ns ++ [b]).getD k 0 = b := by
        rw [List.getD_eq_getElem?_getD, List.getElem?_append_right (by omega), show k - ns.length = 0 by omega]; rfl
      rw [this, hh, List.map_map]
      rw [show (EV.den (ns ++ [b]) ∘ EV.v) = id from rfl, List.map_id]
def wfAll (m : Nat) (tb : List En) : Bool := tb.all fun x => match x.ent with | some y => y.e.wf m | none => true
theorem adopt_ {env : List Ent} {i kb : Nat} {d : Tmp} {T : TypeId} {zs : List Value} {p : Option Nat} {b : Nat} (hE : Ep [] w00 w ns (l1 ++ p.toList :: l2)) (hI : Inv w ns n (σ.wth env) ns a w) (hJ : DS w0 own n σ ns tb listed a w) (hi : tb[i]? = some (.a d T zs p)) (hb : p = some b) (hl : Lst listed i) (hAL : AL tb listed)
    (hlo : σ.lo = none) (hkb : σ.bs.length = kb) (hwf : wfAll kb tb = true) (hn : Nat.blt d n = true) :
    Ep [] w00 w (ns ++ [b]) (l1 ++ l2) ∧ Inv w (ns ++ [b]) n ((σ.lay zs T).wth (⟨d, [], .p kb 0⟩ :: env)) (ns ++ [b]) a w ∧ DS w (ns ++ [b]) n (σ.lay zs T) (ns ++ [b]) (tb.set i (.t (some d) (some (.p kb 0)))) listed a w ∧
      (∀ S0, Mv (Lo S0 w00 w ns (l1 ++ p.toList :: l2)) w (Lo S0 w00 w (ns ++ [b]) (l1 ++ l2)) w) ∧ AL (tb.set i (.t (some d) (some (.p kb 0)))) listed := by
  subst hb
  have hmi := hE.mi b (by simp)
  obtain ⟨b', h1, h2, h3, h4, h5⟩ := (hJ.al i d T zs _ hi).2 hl
  have hbb : b' = b := by
    rcases h1 with h | ⟨h, _⟩
    · simpa using h.symm
    · cases h
  subst hbb
  have hlen : ns.length = kb := by rw [hJ.base.loc.len, hkb]
  have hden : ∀ {e : EV}, e.wf kb = true → e.den (ns ++ [b']) = e.den ns := fun {e} h => EV.den_append (by rw [hlen]; exact h)
  have hgb : (ns ++ [b']).getD kb 0 = b' := by
    rw [List.getD_eq_getElem?_getD, List.getElem?_append_right (by omega), show kb - ns.length = 0 by omega]; rfl
  have hA : ∀ {k : Nat} {d' T' zs' p'}, (tb.set i (.t (some d) (some (.p kb 0))))[k]? = some (.a d' T' zs' p') → tb[k]? = some (.a d' T' zs' p') ∧ k ≠ i := fun {k d' T' zs' p'} hk => by
    have hlt : i < tb.length := (List.getElem?_eq_some_iff.1 hi).1
    by_cases hik : k = i
    · subst hik; rw [List.getElem?_set_self hlt] at hk; cases hk
    · exact ⟨by rwa [List.getElem?_set_ne (Ne.symm hik)] at hk, hik⟩
  have hlt : i < tb.length := (List.getElem?_eq_some_iff.1 hi).1
  refine ⟨⟨hE.k, fun x hx => ?_, fun x hx => ?_, ?_⟩, ?_, ⟨(hJ.base.rebase).adopt hlo h3 h5, fun k y x hy hx hk => ?_, fun k hk => ?_, fun k d' e hk => ?_, fun k d' T' zs' p' hk => ?_, fun k j d1 T1 z1 p1 d2 T2 z2 p2 hkj hk hj => hJ.ad k j _ _ _ _ _ _ _ _ hkj (hA hk).1 (hA hj).1⟩, fun S0 x hx hlt' => ⟨⟨hx.1, fun hh => ?_, fun hh => hx.2.2.1 ?_, hx.2.2.2⟩, rfl⟩, fun k d' T' zs' p' hk hl' => hAL k d' T' zs' p' (hA hk).1 hl'⟩
  · simp only [List.mem_append, List.mem_singleton] at hx
    rcases hx with hx | rfl
    · exact hE.ow x hx
    · exact ⟨hmi.1.resolve_right (by simp), hmi.2.1⟩
  · have hx' : x ∈ (l1 ++ [b'] :: l2).flatten := by simp only [List.flatten_append, List.flatten_cons, List.mem_append] at hx ⊢; exact hx.elim .inl fun h => .inr (.inr h)
    obtain ⟨g1, g2, g3⟩ := hE.mi x hx'
    refine ⟨g1, g2, fun hh => ?_⟩
    simp only [List.mem_append, List.mem_singleton] at hh
    rcases hh with hh | rfl
    · exact g3 hh
    · exact hE.gone x (by simp) hx
  · exact hE.dis.sublist (flat_sub (sub_one l1 l2 _))
  · have h6 := (hI.adopt (b := b') (zs := zs) (T := T) hlo h3 h5)
    refine ⟨h6.size, h6.defers, fun x hx => ?_, fun x hx => ?_, h6.bwf, fun x hx => by simp [S.wth] at hx, h6.loc, h6.pin⟩
    · simp only [S.wth, S.lay, List.cons_append, List.mem_cons] at hx
      rcases hx with rfl | hx
      · simp only [S.wth, gvv, pathB, EV.den, cond_true]; rw [hgb, h4]
      · exact h6.env x hx
    · simp only [S.wth, S.lay, List.cons_append, List.mem_cons] at hx
      rcases hx with rfl | hx
      · exact ⟨by simp [S.wth, S.lay, EV.wf, hkb], fun y hy => by simp at hy⟩
      · exact h6.ewf x hx
  · by_cases hik : k = i
    · subst hik
      rw [List.getElem?_set_self hlt] at hy
      simp only [Option.some.injEq] at hy
      subst hy
      simp only [En.ent, Option.some.injEq] at hx
      subst hx
      simp only [EV.den]
      rw [hgb]; exact h4
    · rw [List.getElem?_set_ne (Ne.symm hik)] at hy
      have hw := List.all_eq_true.1 hwf y (List.mem_of_getElem? hy)
      simp only [hx] at hw
      rw [hden hw]
      exact hJ.val k y x hy hx hk
  · by_cases hik : k = i
    · subst hik; rw [List.getElem?_set_self hlt] at hk; cases hk
    · rw [List.getElem?_set_ne (Ne.symm hik)] at hk; exact hJ.un k hk
  · by_cases hik : k = i
    · subst hik; exact hl
    · rw [List.getElem?_set_ne (Ne.symm hik)] at hk; exact hJ.dn k d' e hk
  · obtain ⟨hk', hki⟩ := hA hk
    refine ⟨(hJ.al k _ _ _ _ hk').1, fun hlk => ?_⟩
    obtain ⟨c, g1, g2, g3, g4, g5⟩ := (hJ.al k _ _ _ _ hk').2 hlk
    obtain ⟨c', hc'⟩ := hAL k _ _ _ _ hk' hlk
    refine ⟨c, .inl ?_, g2, fun hh => ?_, g4, g5⟩
    · rcases g1 with g | ⟨g, _⟩
      · exact g
      · rw [hc'] at g; cases g
    · simp only [List.mem_append, List.mem_singleton] at hh
      rcases hh with hh | rfl
      · exact g3 hh
      · exact hJ.ad k i _ _ _ _ _ _ _ _ hki hk' hi hlk hl (g4.trans h4.symm)
  · simp only [List.mem_append, List.mem_singleton] at hh
    rcases hh with hh | rfl
    · exact hx.2.1 hh
    · exact hx.2.2.1 (by simp)
  · exact (flat_sub (sub_one l1 l2 _)).subset hh
theorem PdOk.keep {p : Option Nat} {T : TypeId} {zs : List Value} (h : PdOk p T zs w) (hb : ∀ b, p = some b → w'.heap[b]? = w.heap[b]?) : PdOk p T zs w' := fun b hp => (hb b hp).trans (h b hp)
end

/-! ### elements of rows, whole or in part; rows that are handed in, and turned -/
def setV : List Value → Nat → List Value → List Value
  | cs, _, [] => cs
  | cs, k, v :: r => setV (cs.set k v) (k + 1) r
theorem setV_length : ∀ (vs cs : List Value) (k : Nat), (setV cs k vs).length = cs.length
  | [], cs, k => rfl
  | v :: r, cs, k => by simp [setV, setV_length r]
theorem setV_get : ∀ (vs cs : List Value) (k j : Nat), k + vs.length ≤ cs.length → (setV cs k vs)[j]? = if k ≤ j ∧ j < k + vs.length then vs[j - k]? else cs[j]?
  | [], cs, k, j, h => by
    simp only [setV, List.length_nil, Nat.add_zero]
    rw [if_neg (by omega)]
  | v :: r, cs, k, j, h => by
    simp only [List.length_cons] at h ⊢
    rw [setV, setV_get r _ _ _ (by simp; omega)]
    by_cases hj : j = k
    · subst hj
      rw [if_neg (by omega), if_pos (by omega), List.getElem?_set_self (by omega)]
      simp
    · rw [List.getElem?_set_ne (Ne.symm hj)]
      by_cases hk : k ≤ j ∧ j < k + (r.length + 1)
      · rw [if_pos (by omega), if_pos hk, show j - k = (j - (k + 1)) + 1 by omega, List.getElem?_cons_succ]
      · rw [if_neg (by omega), if_neg hk]
theorem setMany_v : ∀ (vs cs : List Value) (k : Nat), setMany (cs.map EV.v) k (vs.map EV.v) = (setV cs k vs).map EV.v
  | [], cs, k => rfl
  | v :: r, cs, k => by
    simp only [List.map_cons, setMany, setV]
    rw [show (cs.map EV.v).set k (EV.v v) = (cs.set k v).map EV.v by rw [List.map_set], setMany_v r]
/-- one place of an SV, anew -/
def svU (sv : SV) (j : Nat) (e : Option Addr × Nat) : SV := fun k => if k = j then e else sv k
section
variable {α : Type} {d : Kd α} {e : TypeId} {S0 X X' : Nat → Prop} {pm : List Nat} {w00 w w0 w' : World} {own ns : List Nat} {mine l1 l2 : List (List Nat)} {base base' c : Nat} {A : Option Addr} {l : List α}
  {F : Fence} {m : Nat} {P : Program} {n : Nat} {σ : S} {a : Act} {o : Oper} {ops : Array Oper} {Q : Exit → Act → World → Prop} {rest : List Oper}
theorem Row.raise (h : Row d e X w base' A c l) (hb : ∀ b ∈ rb A, base ≤ b) : Row d e X w base A c l := by
  obtain ⟨xs, ⟨h1, h2⟩, h3⟩ := h
  refine ⟨xs, ⟨h1, ?_⟩, h3⟩
  rcases h2 with h2 | ⟨g, cap, cur, hv, hge, h5⟩
  · exact .inl h2
  · refine .inr ⟨g, cap, cur, hv, hb g ?_, h5⟩
    simp only [Value.slice.injEq] at hv
    rw [hv.1]; simp [rb]
theorem Row.ge (h : Row d e X w base A c l) : ∀ b ∈ rb A, base ≤ b := fun b hb => (h.lt hb).1
theorem storeSeg_ [Inhabited α] (hF : FOpen F) (hE : Ep pm w00 w ns mine) (hI : Inv w ns n σ ns a w) (hw : Region.wanted o (yielded ops a.tmps) = true) {t : TypeId} {x y : Operand} (hop : o.op = .store t x y) (hd : o.dst = none)
    {i : Int} {off : Nat} {ad : Addr} (hx : oEnv σ.env [] x = some (.v (.pointer (some ad)))) (had : ad = (adr A).add (i.toNat * d.sz + off)) {v : Value} (hy : oEnv σ.env [] y = some (.v v)) {vs : List Value} (hvs : v.cells = vs.toArray) (hag : szT P t = some vs.length) (h1 : Nat.ble (off + vs.length) d.sz = true)
    (hone : vs.all one1 = true) (hm : rb A ∈ mine) (hi : inb i l.length = true) (hrow : Row d e (Lo S0 w00 w ns mine) w base A c l) (z : α) (f : SV → SV) (hzc : ∀ sv, d.cells z (f sv) = setV (d.cells (rd l i) sv) off vs)
    (hct : ∀ sv, d.cont (Lo S0 w00 w ns mine) w (rd l i) sv → d.cont (Lo S0 w00 w ns mine) w z (f sv))
    (K : ∀ a' w', (∃ v, a' = a.put o.dst v) → Ep pm w00 w' ns mine → Inv w' ns n σ ns a' w' → (∀ S0, Mv (Lo S0 w00 w ns mine) w (Lo S0 w00 w' ns mine) w') → (∀ b ∈ mine.flatten, b ∉ rb A → w'.heap[b]? = w.heap[b]?) →
      Row d e (Lo S0 w00 w' ns mine) w' base A c (l.set i.toNat z) → wpListIn F m P ops Q rest a' w') : wpListIn F m P ops Q (o :: rest) a w := by
  obtain ⟨i0, i1⟩ := inb_spec hi
  have h1 := Nat.le_of_ble_eq_true h1
  obtain ⟨xs, ⟨hlen, h2⟩, h3⟩ := hrow
  rcases h2 with ⟨hv, h2⟩ | ⟨g, cap, cur, hv, hge, hblk, hnc, hcm, hcs, htk⟩
  · omega
  simp only [Value.slice.injEq] at hv
  obtain ⟨rfl, _, rfl⟩ := hv
  have hgm : g ∈ mine.flatten := flat_mem hm (by simp [rb])
  have hid : (List.map (EV.den [g]) (cur.toList.map EV.v)) = cur.toList := map_den_v _
  have hL : Loc w [g] [g] [(cur.toList.map EV.v, e)] w := by
    refine ⟨rfl, by simp, Keeps.refl _ _, fun x hx => .inl hx, fun k cs U hk => ?_⟩
    cases k with
    | zero =>
      simp only [List.getElem?_cons_zero, Option.some.injEq, Prod.mk.injEq] at hk
      obtain ⟨rfl, rfl⟩ := hk
      rw [hid]; simpa using hblk
    | succ k => simp at hk
  have hil : i.toNat < l.length := by omega
  have hmul : i.toNat * d.sz + d.sz ≤ l.length * d.sz := by
    have := Nat.mul_le_mul_right d.sz (show i.toNat + 1 ≤ l.length by omega)
    rw [Nat.succ_mul] at this; exact this
  have hmul2 : l.length * d.sz ≤ c * d.sz := Nat.mul_le_mul_right _ hnc
  have hcl : cur.toList.length = c * d.sz := by simpa using hcs
  have hk0 : [(cur.toList.map EV.v, e)][0]? = some (cur.toList.map EV.v, e) := rfl
  obtain ⟨w', hrunS, hL2, _⟩ := Loc.storeCells (P := P) (vs.map EV.v) (by
      intro e he
      obtain ⟨u, hu, rfl⟩ := List.mem_map.1 he
      exact List.all_eq_true.1 hone u hu) [(cur.toList.map EV.v, e)] w 0 (cur.toList.map EV.v) e (i.toNat * d.sz + off) 0 hL hk0 (by simp at hcl ⊢; omega)
  have hL2 : Loc w [g] [g] [((setV cur.toList (i.toNat * d.sz + off) vs).map EV.v, e)] w' := by
    have := hL2
    rw [setMany_v] at this
    simpa using this
  have hadr : ad = ⟨[g].getD 0 0, i.toNat * d.sz + off, none⟩ := by rw [had]; exact (add_at g 0 _).trans (by simp)
  have hrun' : (execOp a.eval o).run P w = .ok .skip w' := by
    have e1 := hI.opnd hx rfl
    have e2 := hI.opnd hy rfl
    simp only [EV.den, hadr] at e1 e2
    have hrunS' : (Go.storeCells ⟨[g].getD 0 0, i.toNat * d.sz + off, none⟩ vs 0).run P w = .ok () w' := by
      rw [← hrunS, map_den_v]
    unfold execOp; rw [hop]
    simp only [e1, e2, Instr.storeAt, Instr.sureAddr, storeVar, Sem.run_bind, Sem.run_pure, Result.andThen_ok, run_sizeOf hag w, hvs, List.size_toArray, ne_eq, not_true, if_false]
    rw [hrunS']
    rfl
  have hg : Keeps [g] w w' := ⟨hL2.base.os, hL2.base.tape, hL2.base.output, hL2.base.size, fun k hk hne => hL2.base.block k hk hne⟩
  refine special_skip hF hw (by rw [hop]; intro c hc; cases hc) hrun' ?_
  obtain ⟨q1, q2, q3, q4⟩ := hE.step hI hg (mine' := mine) (by intro b hb; simp at hb; subst hb; exact hgm) same_mem hE.dis (.inr (by intro b hb q hq; simp at hb; subst hb; rw [hblk] at hq; cases hq))
  have hput : a.put o.dst undef = a := by rw [hd]; rfl
  refine K _ _ ⟨_, rfl⟩ q1 (by rw [hput]; exact q2) q3 q4 ?_
  have hb2 := hL2.blk 0 _ _ rfl
  have hb2' : w'.heap[g]? = some (.cells (setV cur.toList (i.toNat * d.sz + off) vs).toArray e (0, 0)) := by
    rw [map_den_v] at hb2
    simpa using hb2
  have htl : i.toNat * d.sz + off + vs.length ≤ cur.toList.length := by omega
  have hxl : i.toNat * d.sz + off + vs.length ≤ xs.length := by rw [hlen]; omega
  refine ⟨setV xs (i.toNat * d.sz + off) vs, ⟨by rw [setV_length, hlen, List.length_set], .inr ⟨g, c, (setV cur.toList (i.toNat * d.sz + off) vs).toArray, by rw [List.length_set], hge, hb2', by rw [List.length_set]; exact hnc, hcm, by simp [setV_length]; simpa using hcs, ?_⟩⟩, fun j y hy => ?_⟩
  · rw [List.length_set]
    apply List.ext_getElem?
    intro k
    have htk' := congrArg (fun q => q[k]?) htk
    simp only [List.getElem?_take] at htk' ⊢
    rw [setV_get _ _ _ _ hxl, setV_get _ _ _ _ (by simpa using htl)]
    by_cases hk : i.toNat * d.sz + off ≤ k ∧ k < i.toNat * d.sz + off + vs.length
    · rw [if_pos hk, if_pos hk]
      rw [if_pos (by omega)]
    · rw [if_neg hk, if_neg hk]
      exact htk'
  · by_cases hji : j = i.toNat
    · subst hji
      rw [List.getElem?_set_self hil] at hy
      simp only [Option.some.injEq] at hy
      subst hy
      have hrd : l[i.toNat]? = some (rd l i) := by
        simp [rd, List.getD_eq_getElem?_getD, List.getElem?_eq_getElem hil]
      obtain ⟨sv, g1, g2⟩ := h3 i.toNat (rd l i) hrd
      refine ⟨f sv, d.keep (hct sv g1) (q3 S0), fun r u hu => ?_⟩
      rw [hzc sv] at hu
      have hdl := d.len (rd l i) sv
      rw [setV_get _ _ _ _ (by rw [hdl]; omega)] at hu
      rw [setV_get _ _ _ _ hxl]
      by_cases hr : off ≤ r ∧ r < off + vs.length
      · rw [if_pos hr] at hu
        rw [if_pos (by omega), show i.toNat * d.sz + r - (i.toNat * d.sz + off) = r - off by omega]
        exact hu
      · rw [if_neg hr] at hu
        rw [if_neg (by omega)]
        exact g2 r u hu
    · rw [List.getElem?_set_ne (Ne.symm hji)] at hy
      obtain ⟨sv, g1, g2⟩ := h3 j y hy
      refine ⟨sv, d.keep g1 (q3 S0), fun r u hu => ?_⟩
      have hrr : r < d.sz := by rw [← d.len y sv]; exact (List.getElem?_eq_some_iff.1 hu).1
      rw [setV_get _ _ _ _ hxl, if_neg ?_]
      · exact g2 r u hu
      · intro hh
        rcases Nat.lt_or_gt_of_ne hji with hlt | hgt
        · have := Nat.mul_le_mul_right d.sz (show j + 1 ≤ i.toNat by omega)
          rw [Nat.succ_mul] at this; omega
        · have := Nat.mul_le_mul_right d.sz (show i.toNat + 1 ≤ j by omega)
          rw [Nat.succ_mul] at this; omega
/-- a pick of what is turned -/
theorem flat_pick {mine : List (List Nat)} (ix : List Nat) {b : Nat} (hb : b ∈ (ix.map fun i => mine.getD i []).flatten) : b ∈ mine.flatten := by
  obtain ⟨q, hq, hbq⟩ := List.mem_flatten.1 hb
  obtain ⟨i, _, rfl⟩ := List.mem_map.1 hq
  rw [List.getD_eq_getElem?_getD] at hbq
  cases h : mine[i]? with
  | none => rw [h] at hbq; simp at hbq
  | some r => rw [h] at hbq; exact flat_mem (List.mem_of_getElem? h) hbq
theorem flat_nes {mine : List (List Nat)} (hd : mine.flatten.Nodup) {j : Nat} {r' : List Nat} (hj : mine[j]? = some r') {b : Nat} (hb : b ∈ r') : ∀ (ix : List Nat), j ∉ ix → b ∉ (ix.map fun i => mine.getD i []).flatten
  | [], _ => by simp
  | i :: ix, hn => by
    simp only [List.map_cons, List.flatten_cons, List.mem_append, not_or]
    refine ⟨?_, flat_nes hd hj hb ix (fun h => hn (List.mem_cons_of_mem _ h))⟩
    rw [List.getD_eq_getElem?_getD]
    cases h : mine[i]? with
    | none => simp
    | some r => exact flat_ne mine i j r r' hd (fun h => hn (by simp [h])) h hj b hb
theorem Ep.nes (hE : Ep pm w00 w own mine) (ix : List Nat) {j : Nat} (hn : (ix.contains j) = false) {r' : List Nat} (hj : mine[j]? = some r') {b : Nat} (hb : b ∈ r') : b ∉ (ix.map fun i => mine.getD i []).flatten :=
  flat_nes hE.dis hj hb ix (by simpa using hn)
theorem flat_pick_nodup {mine : List (List Nat)} (hd : mine.flatten.Nodup) : ∀ (ix : List Nat), ix.Nodup → (ix.map fun i => mine.getD i []).flatten.Nodup
  | [], _ => by simp
  | i :: ix, hn => by
    obtain ⟨h1, h2⟩ := List.nodup_cons.1 hn
    rw [List.map_cons, List.flatten_cons, List.nodup_append]
    refine ⟨?_, flat_pick_nodup hd ix h2, fun x hx y hy => ?_⟩
    · rw [List.getD_eq_getElem?_getD]
      cases h : mine[i]? with
      | none => simp
      | some r => exact hd.sublist (List.sublist_flatten_of_mem (List.mem_of_getElem? h))
    · rintro rfl
      rw [List.getD_eq_getElem?_getD] at hx
      cases h : mine[i]? with
      | none => rw [h] at hx; simp at hx
      | some r => rw [h] at hx; exact flat_nes hd h hx ix h1 hy
theorem Ep.pick (hE : Ep pm w00 w own mine) (ix : List Nat) (hn : ix.Nodup) : (ix.map fun i => mine.getD i []).flatten.Nodup := flat_pick_nodup hE.dis ix hn
theorem Ep.pickLt (hE : Ep pm w00 w own mine) (ix : List Nat) : ∀ b ∈ (ix.map fun i => mine.getD i []).flatten, b < w.heap.size := fun b hb => (hE.mi b (flat_pick ix hb)).2.1
theorem Lo.pick {S0 : Nat → Prop} (ix : List Nat) : ∀ b, Lo S0 w00 w own mine b → b ∉ (ix.map fun i => mine.getD i []).flatten := fun b hb hh => hb.2.2.1 (flat_pick ix hh)
/-- a call that turns some of what is the caller's own -/
theorem callM_ (hF : FOpen F) (hE : Ep pm w00 w ns mine) (hI : Inv w ns n σ ns a w) (hw : Region.wanted o (yielded ops a.tmps) = true) {f : FuncId} {es : List EV} {cs args : List Value} (hco : callOf σ [] o = some (f, es, cs)) (hv : argsOf es cs = some args)
    (hent : ∀ args w, (callFunc f args).run P w = .ok (.enter f args) w) (val : SV → Value) (ix : List Nat) (Rf : SV → World → Prop)
    (hc : Calls P f args.toArray w fun e w' => ∃ sv, e = .returned (val sv) ∧ Keeps (ix.map fun i => mine.getD i []).flatten w w' ∧ Rf sv w') (hnd : σ.lo = none ∨ ∀ b ∈ (ix.map fun i => mine.getD i []).flatten, ∀ q, w.heap[b]? ≠ some (.deferred q))
    (σ2 : SV → S) (hput : ∀ sv, put1 σ n o.dst [] (some (.v (val sv))) = some (σ2 sv))
    (K : ∀ sv a' w', (∃ v, a' = a.put o.dst v) → Ep pm w00 w' ns mine → Inv w' ns n (σ2 sv) ns a' w' → (∀ S0, Mv (Lo S0 w00 w ns mine) w (Lo S0 w00 w' ns mine) w') → (∀ b ∈ mine.flatten, b ∉ (ix.map fun i => mine.getD i []).flatten → w'.heap[b]? = w.heap[b]?) →
      (∀ S0, Mv (fun b => w.heap.size ≤ b ∨ Lo S0 w00 w ns mine b) w' (Lo S0 w00 w' ns mine) w') → Rf sv w' → wpListIn F m P ops Q rest a' w') : wpListIn F m P ops Q (o :: rest) a w := by
  refine call_epK hF hI hw hco hv hent val _ Rf hc (fun sv w' hb hr => ?_)
  obtain ⟨q1, q2, q3, q4⟩ := hE.step hI hb (mine' := mine) (fun b hb => flat_pick ix hb) same_mem hE.dis hnd
  exact K sv _ _ ⟨_, rfl⟩ q1 (put_v q2 _ (hput _)) q3 q4 (fun S0 => Ep.res hE) hr
theorem Inv.len {σf : Nat → S} {p q : Nat} (h : p = q) (hI : Inv w0 own n (σf q) ns a w) : Inv w0 own n (σf p) ns a w := h ▸ hI
end

/-! ### objects: what pointers lead to, with all that belongs to it -/
structure Ob1 {α : Type} (d : Kd α) (e : TypeId) (S : Nat → Prop) (w : World) (b : Nat) (x : α) (sv : SV) : Prop where
  cont : d.cont S w x sv
  blk : w.heap[b]? = some (.cells (d.cells x sv).toArray e (0, 0))
structure Lk (α : Type) where
  d : Kd α
  e : TypeId
  live : (Nat → Prop) → World → Nat → α → SV → List Nat → Prop
  keep : ∀ {S S' : Nat → Prop} {w w' : World} {b : Nat} {x : α} {sv : SV} {F : List Nat}, live S w b x sv F → Mv S w S' w' → (∀ b ∈ F, w'.heap[b]? = w.heap[b]?) → live S' w' b x sv F
  nd : ∀ {S : Nat → Prop} {w : World} {b : Nat} {x : α} {sv : SV} {F : List Nat}, live S w b x sv F → ∀ b ∈ F, b < w.heap.size ∧ ∀ q, w.heap[b]? ≠ some (.deferred q)
structure Ojt {α : Type} (k : Lk α) (S : Nat → Prop) (w : World) (b : Nat) (x : α) (F : List Nat) : Prop where
  ex : ∃ sv F', F = b :: F' ∧ Ob1 k.d k.e S w b x sv ∧ k.live S w b x sv F'
/-- what may be nil -/
def OjtN {α : Type} (k : Lk α) (S : Nat → Prop) (w : World) (A : Option Addr) (x : Option α) (F : List Nat) : Prop := match x with
  | none => A = none ∧ F = []
  | some y => ∃ b, A = some ⟨b, 0, none⟩ ∧ Ojt k S w b y F
section
variable {α : Type} {d : Kd α} {e : TypeId} {S S' : Nat → Prop} {w w' : World} {b : Nat} {x y : α} {sv : SV} {k : Lk α} {F : List Nat}
theorem Ob1.keep (h : Ob1 d e S w b x sv) (hk : Mv S w S' w') (hb : w'.heap[b]? = w.heap[b]?) : Ob1 d e S' w' b x sv := ⟨d.keep h.cont hk, hb.trans h.blk⟩
theorem Ob1.cell (h : Ob1 d e S w b x sv) {j : Nat} {v : Value} (hj : (d.cells x sv)[j]? = some v) : w.cell? ⟨b, j, none⟩ = some v := by
  unfold World.cell?
  simp only [h.blk]
  simp [hj]
theorem Ob1.as (h : Ob1 d e S w b x sv) (hc : d.cells x sv = d.cells y sv) (hk : d.cont S w x sv → d.cont S w y sv) : Ob1 d e S w b y sv := ⟨hk h.cont, hc ▸ h.blk⟩
theorem Ob1.resv {sv' : SV} (h : Ob1 d e S w b x sv) (hc : d.cells x sv = d.cells x sv') (hk : d.cont S w x sv → d.cont S w x sv') : Ob1 d e S w b x sv' := ⟨hk h.cont, hc ▸ h.blk⟩
theorem Ojt.keep (h : Ojt k S w b x F) (hk : Mv S w S' w') (hb : ∀ b ∈ F, w'.heap[b]? = w.heap[b]?) : Ojt k S' w' b x F := by
  obtain ⟨sv, F', rfl, h1, h2⟩ := h.ex
  exact ⟨sv, F', rfl, h1.keep hk (hb _ (by simp)), k.keep h2 hk fun b hh => hb b (List.mem_cons_of_mem _ hh)⟩
theorem Ob1.lt (h : Ob1 d e S w b x sv) : b < w.heap.size := (Array.getElem?_eq_some_iff.1 h.blk).1
theorem Ojt.nd (h : Ojt k S w b x F) : ∀ b ∈ F, b < w.heap.size ∧ ∀ q, w.heap[b]? ≠ some (.deferred q) := by
  obtain ⟨sv, F', rfl, h1, h2⟩ := h.ex
  intro b' hb
  rcases List.mem_cons.1 hb with rfl | hb
  · exact ⟨h1.lt, fun q => by rw [h1.blk]; intro h; cases h⟩
  · exact k.nd h2 b' hb
theorem Ojt.any (h : Ojt k S w b x F) : Ojt k (fun _ => True) w b x F := h.keep (fun b hb _ => ⟨trivial, rfl⟩) (fun _ _ => rfl)
theorem Row.ndl {base c : Nat} {A : Option Addr} {l : List α} (h : Row d e S w base A c l) : ∀ b ∈ rb A, b < w.heap.size ∧ ∀ q, w.heap[b]? ≠ some (.deferred q) := fun b hb => ⟨(h.lt hb).2, h.nd b hb⟩
theorem Ojt.mk' (sv : SV) {F' : List Nat} (h1 : Ob1 k.d k.e S w b x sv) (h2 : k.live S w b x sv F') : Ojt k S w b x (b :: F') := ⟨sv, F', rfl, h1, h2⟩
theorem OjtN.keep {A : Option Addr} {x : Option α} (h : OjtN k S w A x F) (hk : Mv S w S' w') (hb : ∀ b ∈ F, w'.heap[b]? = w.heap[b]?) : OjtN k S' w' A x F := by
  cases x with
  | none => exact h
  | some y =>
    obtain ⟨b, h1, h2⟩ := h
    exact ⟨b, h1, h2.keep hk hb⟩
theorem OjtN.nd {A : Option Addr} {x : Option α} (h : OjtN k S w A x F) : ∀ b ∈ F, b < w.heap.size ∧ ∀ q, w.heap[b]? ≠ some (.deferred q) := by
  cases x with
  | none => obtain ⟨_, rfl⟩ := h; simp
  | some y =>
    obtain ⟨b, h1, h2⟩ := h
    exact h2.nd
theorem Row.down {base c : Nat} {A : Option Addr} {l : List α} (h : Row d e S w base A c l) : Row d e S w 0 A c l := h.raise fun _ _ => Nat.zero_le _
/-- an object that is only read: as what lies still -/
theorem Ob1.el (h : Ob1 d e S w b x sv) (hb : S b) : El d S w ⟨b, 0, none⟩ x sv := ⟨h.cont, hb, fun j v hj => by rw [add_at, Nat.zero_add]; exact h.cell hj⟩
end
section
variable {α : Type} {d : Kd α} {e : TypeId} {S0 X : Nat → Prop} {pm : List Nat} {w00 w w0 w' : World} {own ns : List Nat} {mine mine' l1 l2 : List (List Nat)} {b : Nat} {x : α} {sv : SV} {k : Lk α} {F0 : List Nat}
  {F : Fence} {m : Nat} {P : Program} {n : Nat} {σ : S} {a : Act} {o : Oper} {ops : Array Oper} {Q : Exit → Act → World → Prop} {rest : List Oper}
/-- 'mine' told in other pieces -/
theorem Ep.perm (hE : Ep pm w00 w ns mine) (hp : mine.flatten.Perm mine'.flatten) : Ep pm w00 w ns mine' ∧ ∀ S0, Mv (Lo S0 w00 w ns mine) w (Lo S0 w00 w ns mine') w :=
  ⟨⟨hE.k, hE.ow, fun b hb => hE.mi b (hp.mem_iff.2 hb), hp.nodup_iff.1 hE.dis⟩, fun S0 b hb _ => ⟨⟨hb.1, hb.2.1, fun hh => hb.2.2.1 (hp.mem_iff.2 hh), hb.2.2.2⟩, rfl⟩⟩
theorem Ep.eqv (hE : Ep pm w00 w ns mine) (hp : mine.flatten = mine'.flatten) : Ep pm w00 w ns mine' ∧ ∀ S0, Mv (Lo S0 w00 w ns mine) w (Lo S0 w00 w ns mine') w := hE.perm (hp ▸ .refl _)
/-- a field of an object, read -/
theorem ob_o1 (h : Ob1 d e X w b x sv) (hE : Ep pm w00 w own mine) (hm : b ∈ mine.flatten) (g : Bool) (off : Nat) (vs : List Value) (hs : ((d.cells x sv).drop off).take vs.length = vs) : (Ob.cell g ((⟨b, 0, none⟩ : Addr).add off) vs).holds P w own := by
  intro _
  refine ⟨by rw [add_block]; exact (hE.mi b hm).2.2, fun j y hj => ?_⟩
  rw [add_add, add_at, Nat.zero_add]
  refine h.cell ?_
  rw [← hs, List.getElem?_take] at hj
  split at hj
  · rwa [List.getElem?_drop] at hj
  · cases hj
/-- a field of an object, written -/
theorem storeO_ (hF : FOpen F) (hE : Ep pm w00 w ns mine) (hI : Inv w ns n σ ns a w) (hw : Region.wanted o (yielded ops a.tmps) = true) {t : TypeId} {xo y : Operand} (hop : o.op = .store t xo y) (hd : o.dst = none)
    {off : Nat} {ad : Addr} (hx : oEnv σ.env [] xo = some (.v (.pointer (some ad)))) (had : ad = (⟨b, 0, none⟩ : Addr).add off) {v : Value} (hy : oEnv σ.env [] y = some (.v v)) {vs : List Value} (hvs : v.cells = vs.toArray) (hag : szT P t = some vs.length) (h1 : Nat.ble (off + vs.length) d.sz = true)
    (hone : vs.all one1 = true) (hm : [b] ∈ mine) (h : Ob1 d e (Lo S0 w00 w ns mine) w b x sv) (z : α) (sv' : SV) (hzc : d.cells z sv' = setV (d.cells x sv) off vs)
    (hct : d.cont (Lo S0 w00 w ns mine) w x sv → d.cont (Lo S0 w00 w ns mine) w z sv')
    (K : ∀ a' w', (∃ v, a' = a.put o.dst v) → Ep pm w00 w' ns mine → Inv w' ns n σ ns a' w' → (∀ S0, Mv (Lo S0 w00 w ns mine) w (Lo S0 w00 w' ns mine) w') → (∀ b' ∈ mine.flatten, b' ∉ [b] → w'.heap[b']? = w.heap[b']?) →
      Ob1 d e (Lo S0 w00 w' ns mine) w' b z sv' → wpListIn F m P ops Q rest a' w') : wpListIn F m P ops Q (o :: rest) a w := by
  have h1 := Nat.le_of_ble_eq_true h1
  have hgm : b ∈ mine.flatten := flat_mem hm (by simp)
  have hid : (List.map (EV.den [b]) ((d.cells x sv).map EV.v)) = d.cells x sv := map_den_v _
  have hL : Loc w [b] [b] [((d.cells x sv).map EV.v, e)] w := by
    refine ⟨rfl, by simp, Keeps.refl _ _, fun x hx => .inl hx, fun k cs U hk => ?_⟩
    cases k with
    | zero =>
      simp only [List.getElem?_cons_zero, Option.some.injEq, Prod.mk.injEq] at hk
      obtain ⟨rfl, rfl⟩ := hk
      rw [hid]; simpa using h.blk
    | succ k => simp at hk
  have hdl := d.len x sv
  have hk0 : [((d.cells x sv).map EV.v, e)][0]? = some ((d.cells x sv).map EV.v, e) := rfl
  obtain ⟨w', hrunS, hL2, _⟩ := Loc.storeCells (P := P) (vs.map EV.v) (by
      intro e he
      obtain ⟨u, hu, rfl⟩ := List.mem_map.1 he
      exact List.all_eq_true.1 hone u hu) [((d.cells x sv).map EV.v, e)] w 0 ((d.cells x sv).map EV.v) e off 0 hL hk0 (by simp [hdl]; omega)
  have hL2 : Loc w [b] [b] [((setV (d.cells x sv) off vs).map EV.v, e)] w' := by
    have := hL2
    rw [setMany_v] at this
    simpa using this
  have hadr : ad = ⟨[b].getD 0 0, off, none⟩ := by rw [had, add_at, Nat.zero_add]; rfl
  have hrun' : (execOp a.eval o).run P w = .ok .skip w' := by
    have e1 := hI.opnd hx rfl
    have e2 := hI.opnd hy rfl
    simp only [EV.den, hadr] at e1 e2
    have hrunS' : (Go.storeCells ⟨[b].getD 0 0, off, none⟩ vs 0).run P w = .ok () w' := by
      rw [← hrunS, map_den_v]
    unfold execOp; rw [hop]
    simp only [e1, e2, Instr.storeAt, Instr.sureAddr, storeVar, Sem.run_bind, Sem.run_pure, Result.andThen_ok, run_sizeOf hag w, hvs, List.size_toArray, ne_eq, not_true, if_false]
    rw [hrunS']
    rfl
  have hg : Keeps [b] w w' := ⟨hL2.base.os, hL2.base.tape, hL2.base.output, hL2.base.size, fun k hk hne => hL2.base.block k hk hne⟩
  refine special_skip hF hw (by rw [hop]; intro c hc; cases hc) hrun' ?_
  obtain ⟨q1, q2, q3, q4⟩ := hE.step hI hg (mine' := mine) (by intro b' hb; simp at hb; subst hb; exact hgm) same_mem hE.dis (.inr (by intro b' hb q hq; simp at hb; subst hb; rw [h.blk] at hq; cases hq))
  have hput : a.put o.dst undef = a := by rw [hd]; rfl
  have hb2 := hL2.blk 0 _ _ rfl
  rw [map_den_v] at hb2
  refine K _ _ ⟨_, rfl⟩ q1 (by rw [hput]; exact q2) q3 q4 ⟨d.keep (hct h.cont) (q3 S0), ?_⟩
  rw [hzc]
  simpa using hb2
/-- a variable of the call's own goes out of its hands: an object -/
theorem publish_ (hE : Ep pm w00 w ns mine) (hI : Inv w ns n σ ns a w) (kb : Nat) (x : α) (sv : SV) (T : TypeId) (hk : σ.bs[kb]? = some ((d.cells x sv).map EV.v, T)) :
    ∃ (b : Nat) (ns' : List Nat), Ep pm w00 w ns' (mine ++ [[b]]) ∧ Inv w ns' n (frz kb ⟨b, 0, none⟩ σ) ns' a w ∧ (∀ S0, Mv (Lo S0 w00 w ns mine) w (Lo S0 w00 w ns' (mine ++ [[b]])) w) ∧ w00.heap.size ≤ b ∧ (∀ S0, d.cont (Lo S0 w00 w ns mine) w x sv → Ob1 d T (Lo S0 w00 w ns' (mine ++ [[b]])) w b x sv) := by
  obtain ⟨b, ns', h1, h2, h3, h4, h5, h6, h7, h8, h9, h10⟩ := freezeB_ hE hI kb x sv T hk
  have hfl : (mine ++ [[b]]).flatten = mine.flatten ++ [b] := by simp
  have hMv : ∀ S0, Mv (Lo S0 w00 w ns mine) w (Lo S0 w00 w ns' (mine ++ [[b]])) w := fun S0 c hc hi => by
    refine ⟨⟨hc.1, (h3 S0 c hc hi).1.2.1, fun hh => ?_, hc.2.2.2⟩, rfl⟩
    rw [hfl] at hh
    rcases List.mem_append.1 hh with hh | hh
    · exact hc.2.2.1 hh
    · simp only [List.mem_singleton] at hh
      subst hh; exact hc.2.1 h5
  refine ⟨b, ns', ⟨h1.k, h1.ow, fun c hc => ?_, ?_⟩, h2, hMv, h6, fun S0 hc => ⟨d.keep hc (hMv S0), h10⟩⟩
  · rw [hfl] at hc
    rcases List.mem_append.1 hc with hc | hc
    · exact h1.mi c hc
    · simp only [List.mem_singleton] at hc
      subst hc; exact ⟨.inl h6, h7, h8⟩
  · rw [hfl, List.nodup_append]
    exact ⟨h1.dis, by simp, fun c hc c' hc' he => by
      simp only [List.mem_singleton] at hc'
      subst hc'; subst he; exact h9 hc⟩
/-- what is left of 'mine' behind a call that was handed some of it -/
def restAt (mine : List (List Nat)) (ix : List Nat) : List (List Nat) := (mine.zipIdx.filter fun p => !ix.contains p.2).map Prod.fst
theorem restAt_mem {mine : List (List Nat)} {ix : List Nat} {b : Nat} (h : b ∈ (restAt mine ix).flatten) : ∃ j r, mine[j]? = some r ∧ ix.contains j = false ∧ b ∈ r := by
  obtain ⟨r, hr, hb⟩ := List.mem_flatten.1 h
  obtain ⟨⟨r', j⟩, hp, rfl⟩ := List.mem_map.1 hr
  obtain ⟨h1, h2⟩ := List.mem_filter.1 hp
  refine ⟨j, r', ?_, by simpa using h2, hb⟩
  have := List.mem_zipIdx_iff_getElem?.1 h1
  simpa using this
/-- an object that is only read, in a call that turns nothing that came in -/
theorem Ep.ro (hE : Ep [] w00 w own mine) (h : Ojt k (fun _ => True) w00 b x F0) : Ojt k (fun _ => True) w b x F0 :=
  h.keep (fun c _ hc => ⟨trivial, hE.k.block c hc.1 (by simp)⟩) (fun c hc => hE.k.block c (h.nd c hc).1 (by simp))
theorem Ep.roOn (hE : Ep [] w00 w0 own mine) (hk : Keeps own w0 w) (h : Ojt k (fun _ => True) w00 b x F0) : Ojt k (fun _ => True) w b x F0 := by
  have h1 := hE.ro h
  have hb : ∀ c, c < w00.heap.size → w.heap[c]? = w0.heap[c]? := fun c hc => hk.block c (Nat.lt_of_lt_of_le hc hE.k.size) (fun hh => by have := (hE.ow c hh).1; omega)
  refine h.keep (fun c _ hc => ⟨trivial, (hb c hc.1).trans (hE.k.block c hc.1 (by simp))⟩) (fun c hc => (hb c (h.nd c hc).1).trans (hE.k.block c (h.nd c hc).1 (by simp)))
/-- some of 'mine' put together, and taken apart -/
theorem Ep.group (hE : Ep pm w00 w ns mine) (ix : List Nat) (hn : ix.Nodup) (G : List Nat) (hG : (ix.map fun i => mine.getD i []).flatten = G) : Ep pm w00 w ns (restAt mine ix ++ [G]) ∧ ∀ S0, Mv (Lo S0 w00 w ns mine) w (Lo S0 w00 w ns (restAt mine ix ++ [G])) w := by
  subst hG
  have hsub : ∀ c, c ∈ (restAt mine ix).flatten → c ∈ mine.flatten := fun c hc => by
    obtain ⟨j, r, h1, _, h3⟩ := restAt_mem hc
    exact List.mem_flatten.2 ⟨r, List.mem_of_getElem? h1, h3⟩
  have hall : ∀ c, c ∈ (restAt mine ix ++ [(ix.map fun i => mine.getD i []).flatten]).flatten → c ∈ mine.flatten := fun c hc => by
    simp only [List.flatten_append, List.flatten_cons, List.flatten_nil, List.append_nil] at hc
    rcases List.mem_append.1 hc with hc | hc
    · exact hsub c hc
    · exact flat_pick ix hc
  have hsl : (restAt mine ix).Sublist mine := by
    have h : (mine.zipIdx.map Prod.fst) = mine := by simp
    unfold restAt
    exact (List.Sublist.map Prod.fst List.filter_sublist).trans (by rw [h]; exact List.Sublist.refl _)
  refine ⟨⟨hE.k, hE.ow, fun b hb => hE.mi b (hall b hb), ?_⟩, fun S0 b hb _ => ⟨⟨hb.1, hb.2.1, fun hh => hb.2.2.1 (hall b hh), hb.2.2.2⟩, rfl⟩⟩
  simp only [List.flatten_append, List.flatten_cons, List.flatten_nil, List.append_nil]
  rw [List.nodup_append]
  refine ⟨hE.dis.sublist (flat_sub hsl), hE.pick ix hn, fun c hc c' hc' he => ?_⟩
  subst he
  obtain ⟨j, r, h1, h2, h3⟩ := restAt_mem hc
  exact hE.nes ix h2 h1 h3 hc'
theorem Ep.parts (hE : Ep pm w00 w ns mine) (i : Nat) (Gs : List (List Nat)) (hG : mine.getD i [] = Gs.flatten) : Ep pm w00 w ns (restAt mine [i] ++ Gs) ∧ ∀ S0, Mv (Lo S0 w00 w ns mine) w (Lo S0 w00 w ns (restAt mine [i] ++ Gs)) w := by
  obtain ⟨h1, h2⟩ := hE.group [i] (by simp) (mine.getD i []) (by simp)
  have hf : (restAt mine [i] ++ [mine.getD i []]).flatten = (restAt mine [i] ++ Gs).flatten := by
    rw [hG]; simp
  obtain ⟨h3, h4⟩ := h1.eqv hf
  exact ⟨h3, fun S0 b hb hc => ⟨(h4 S0 b (h2 S0 b hb hc).1 hc).1, rfl⟩⟩
theorem restAt_sub (mine : List (List Nat)) (ix : List Nat) : (restAt mine ix).Sublist mine := by
  have h : (mine.zipIdx.map Prod.fst) = mine := by simp
  unfold restAt
  exact (List.Sublist.map Prod.fst List.filter_sublist).trans (by rw [h]; exact List.Sublist.refl _)
/-- what a call may hand back of what it was handed, and of its own -/
structure Handed (w w' : World) (pmc : List Nat) (Fs : List (List Nat)) : Prop where
  mi : ∀ b ∈ Fs.flatten, (w.heap.size ≤ b ∨ b ∈ pmc) ∧ b < w'.heap.size
  dis : Fs.flatten.Nodup
theorem Ep.handed (hE : Ep pm w00 w own mine) (ix : List Nat) (hn : ix.Nodup) : Handed w00 w pm (ix.map fun i => mine.getD i []) :=
  ⟨fun b hb => let ⟨h1, h2, _⟩ := hE.mi b (flat_pick ix hb); ⟨h1, h2⟩, hE.pick ix hn⟩
/-- a call that turns objects and rows of the caller's, and lays new ones -/
theorem callO_ (hF : FOpen F) (hE : Ep pm w00 w ns mine) (hI : Inv w ns n σ ns a w) (hw : Region.wanted o (yielded ops a.tmps) = true) {f : FuncId} {es : List EV} {cs args : List Value} (hco : callOf σ [] o = some (f, es, cs)) (hv : argsOf es cs = some args)
    (hent : ∀ args w, (callFunc f args).run P w = .ok (.enter f args) w) {X : Type} (val : X → Value) (ix : List Nat) (Fs : X → List (List Nat)) (Rf : X → World → Prop)
    (hc : Calls P f args.toArray w fun e w' => ∃ x, e = .returned (val x) ∧ Keeps (ix.map fun i => mine.getD i []).flatten w w' ∧ Handed w w' (ix.map fun i => mine.getD i []).flatten (Fs x) ∧ Rf x w') (hnd : σ.lo = none ∨ ∀ b ∈ (ix.map fun i => mine.getD i []).flatten, ∀ q, w.heap[b]? ≠ some (.deferred q))
    (σ2 : X → S) (hput : ∀ x, put1 σ n o.dst [] (some (.v (val x))) = some (σ2 x))
    (K : ∀ x a' w', (∃ v, a' = a.put o.dst v) → Ep pm w00 w' ns (restAt mine ix ++ Fs x) → Inv w' ns n (σ2 x) ns a' w' → (∀ S0, Mv (Lo S0 w00 w ns mine) w (Lo S0 w00 w' ns (restAt mine ix ++ Fs x)) w') → (∀ b ∈ (restAt mine ix).flatten, w'.heap[b]? = w.heap[b]?) →
      (∀ S0, (∀ b ∈ pm, S0 b) → Mv (fun b => b ∉ (Fs x).flatten ∧ (w.heap.size ≤ b ∨ Lo S0 w00 w ns mine b ∨ b ∈ (ix.map fun i => mine.getD i []).flatten)) w' (Lo S0 w00 w' ns (restAt mine ix ++ Fs x)) w') → Rf x w' → wpListIn F m P ops Q rest a' w') : wpListIn F m P ops Q (o :: rest) a w := by
  refine call_epK hF hI hw hco hv hent val _ (fun x w' => Handed w w' (ix.map fun i => mine.getD i []).flatten (Fs x) ∧ Rf x w') hc (fun x w' hb ⟨hh, hr⟩ => ?_)
  have hfl : (restAt mine ix ++ Fs x).flatten = (restAt mine ix).flatten ++ (Fs x).flatten := by simp
  have hsub : ∀ c, c ∈ (restAt mine ix).flatten → c ∈ mine.flatten := fun c hc => (flat_sub (restAt_sub mine ix)).subset hc
  have hmn : ∀ c ∈ (restAt mine ix ++ Fs x).flatten, c ∈ mine.flatten ∨ (w.heap.size ≤ c ∧ c < w'.heap.size) := fun c hc => by
    rw [hfl] at hc
    rcases List.mem_append.1 hc with hc | hc
    · exact .inl (hsub c hc)
    · rcases (hh.mi c hc).1 with h | h
      · exact .inr ⟨h, (hh.mi c hc).2⟩
      · exact .inl (flat_pick ix h)
  have hnotin : ∀ c ∈ (restAt mine ix).flatten, c ∉ (ix.map fun i => mine.getD i []).flatten := fun c hc => by
    obtain ⟨j, r, h1, h2, h3⟩ := restAt_mem hc
    exact hE.nes ix h2 h1 h3
  have hdis : (restAt mine ix ++ Fs x).flatten.Nodup := by
    rw [hfl, List.nodup_append]
    refine ⟨hE.dis.sublist (flat_sub (restAt_sub mine ix)), hh.dis, fun c hc c' hc' he => ?_⟩
    subst he
    rcases (hh.mi c hc').1 with h | h
    · have := (hE.mi c (hsub c hc)).2.1; omega
    · exact hnotin c hc h
  obtain ⟨q1, q2, q3, q4⟩ := hE.step hI hb (mine' := restAt mine ix ++ Fs x) (fun b hb => flat_pick ix hb) hmn hdis hnd
  refine K x _ _ ⟨_, rfl⟩ q1 (put_v q2 _ (hput _)) q3 (fun c hc => q4 c (hsub c hc) (hnotin c hc)) (fun S0 hp c hc hi => ⟨?_, rfl⟩) hr
  obtain ⟨hc1, hc2⟩ := hc
  have hnr : c ∉ (restAt mine ix ++ Fs x).flatten := fun hh' => by
    rw [hfl] at hh'
    rcases List.mem_append.1 hh' with hh' | hh'
    · rcases hc2 with h | h | h
      · have := (hE.mi c (hsub c hh')).2.1; omega
      · exact h.2.2.1 (hsub c hh')
      · exact hnotin c hh' h
    · exact hc1 hh'
  rcases hc2 with h | h | h
  · exact ⟨hi.1, fun hh' => by have := (hE.ow c hh').2; omega, hnr, .inl (Nat.le_trans hE.k.size h)⟩
  · exact ⟨hi.1, h.2.1, hnr, h.2.2.2⟩
  · obtain ⟨h1, _, h3⟩ := hE.mi c (flat_pick ix h)
    exact ⟨hi.1, h3, hnr, h1.imp id (hp c)⟩
end

/-! ### append of a whole slice; a string's bytes; what a call laid for its caller -/
def newsOf {α : Type} (d : Kd α) (svs : Nat → SV) : Nat → List α → List Value
  | _, [] => []
  | k, y :: r => d.cells y (svs k) ++ newsOf d svs (k + 1) r
section
variable {α : Type} {d : Kd α} {svs : Nat → SV}
theorem newsOf_len : ∀ (k : Nat) (ys : List α), (newsOf d svs k ys).length = ys.length * d.sz
  | _, [] => by simp [newsOf]
  | k, y :: r => by rw [newsOf, List.length_append, d.len, newsOf_len (k + 1) r, List.length_cons, Nat.succ_mul, Nat.add_comm]
theorem newsOf_get : ∀ (k : Nat) (ys : List α) (q : Nat) (u : Value), (newsOf d svs k ys)[q]? = some u → ∃ i j y, ys[i]? = some y ∧ (d.cells y (svs (k + i)))[j]? = some u ∧ q = i * d.sz + j
  | _, [], q, u, h => by simp [newsOf] at h
  | k, y :: r, q, u, h => by
    rw [newsOf] at h
    by_cases hq : q < d.sz
    · rw [List.getElem?_append_left (by rw [d.len]; exact hq)] at h
      exact ⟨0, q, y, rfl, h, by simp⟩
    · rw [List.getElem?_append_right (by rw [d.len]; omega), d.len] at h
      obtain ⟨i, j, z, h1, h2, h3⟩ := newsOf_get (k + 1) r _ u h
      refine ⟨i + 1, j, z, h1, by rw [show k + (i + 1) = k + 1 + i by omega]; exact h2, ?_⟩
      rw [Nat.succ_mul]; omega
theorem newsOf_at : ∀ (k : Nat) (ys : List α) (i j : Nat) (y : α) (u : Value), ys[i]? = some y → (d.cells y (svs (k + i)))[j]? = some u → (newsOf d svs k ys)[i * d.sz + j]? = some u
  | _, [], i, j, y, u, h, _ => by simp at h
  | k, z :: r, 0, j, y, u, h, h2 => by
    simp only [List.getElem?_cons_zero, Option.some.injEq] at h
    subst h
    have hj : j < d.sz := by rw [← d.len z (svs (k + 0))]; exact (List.getElem?_eq_some_iff.1 h2).1
    rw [newsOf, Nat.zero_mul, Nat.zero_add, List.getElem?_append_left (by rw [d.len]; exact hj)]
    exact h2
  | k, z :: r, i + 1, j, y, u, h, h2 => by
    rw [newsOf, List.getElem?_append_right (by rw [d.len, Nat.succ_mul]; omega), d.len, Nat.succ_mul, show i * d.sz + d.sz + j - d.sz = i * d.sz + j by omega]
    exact newsOf_at (k + 1) r i j y u (by simpa using h) (by rw [show k + 1 + i = k + (i + 1) by omega]; exact h2)
end
section
variable {α : Type} {d : Kd α}
theorem Arr.svsOf {S : Nat → Prop} {w : World} {A : Option Addr} {ys : List α} (h : Arr d S w A ys) : ∃ svs : Nat → SV, ∀ i x, ys[i]? = some x → d.cont S w x (svs i) ∧ ∀ (j : Nat) (v : Value), (d.cells x (svs i))[j]? = some v → w.cell? ((adr A).add (i * d.sz + j)) = some v := by
  have : ∀ i, ∃ sv, ∀ x, ys[i]? = some x → d.cont S w x sv ∧ ∀ (j : Nat) (v : Value), (d.cells x sv)[j]? = some v → w.cell? ((adr A).add (i * d.sz + j)) = some v := fun i => by
    cases hx : ys[i]? with
    | none => exact ⟨svL [], fun x hh => by cases hh⟩
    | some y =>
      obtain ⟨sv, h1, h2⟩ := h.2 i y hx
      exact ⟨sv, fun x hh => by cases hh; exact ⟨h1, h2⟩⟩
  exact ⟨fun i => Classical.choose (this i), fun i x hx => Classical.choose_spec (this i) x hx⟩
theorem Arr.nil_of {S : Nat → Prop} {w : World} {ys : List α} (h : Arr d S w none ys) : ys = [] := by
  cases ys with
  | nil => rfl
  | cons y r => have := (h.1 (by simp)).1; cases this
end
section
variable {P : Program} {α : Type} {d : Kd α} {e : TypeId} {S : Nat → Prop} {w : World} {base c : Nat} {A : Option Addr} {l : List α}
theorem append_none_run {t ty : TypeId} {i : TypeInfo} (ht : P.underlying t = some (.slice e)) (hi : P.info? e = some i) (v : Value) (n : Nat) (xs : List Value) {size : Nat} (hown : w.ownsRow base e size v n xs) (c2 : Nat) :
    (Builtin.append_ #[t, t] ty #[v, .slice none 0 c2]).run P w = .ok v w := by
  rcases hown.2 with ⟨rfl, rfl⟩ | ⟨g, cap, cur, rfl, _, _, hnc, _⟩
  · simp [Builtin.append_, run_underlying ht, sizeOf, typeInfo, hi, Builtin.lenOf, Builtin.firstCells]
  · simp [Builtin.append_, run_underlying ht, sizeOf, typeInfo, hi, Builtin.lenOf, Builtin.firstCells, hnc, storeCells]
theorem appendN_run {t ty : TypeId} {i : TypeInfo} {z : Value} (ht : P.underlying t = some (.slice e)) (hi : P.info? e = some i) (hz : i.zero = some z) (hs : i.size = d.sz) (hzs : z.cells.size = d.sz)
    (h : Row d e S w base A c l) (hbase : base ≤ w.heap.size) {A2 : Option Addr} {c2 : Nat} {ys : List α} (hy : Arr d S w A2 ys)
    (h1 : ∀ y sv, ∀ u ∈ d.cells y sv, u.oneCell' = true) (hb1 : l.length + ys.length ≤ maxLen) (hb2 : (l.length + ys.length) * i.bytes ≤ 140737488355328) :
    ∃ A' c' w1, (Builtin.append_ #[t, t] ty #[.slice A l.length c, .slice A2 ys.length c2]).run P w = .ok (.slice A' (l ++ ys).length c') w1 ∧ Keeps (rb A) w w1 ∧
      (rb A' = rb A ∨ (rb A' = [w.heap.size] ∧ w.heap.size < w1.heap.size)) ∧ ∀ S', Mv S w S' w1 → Row d e S' w1 base A' c' (l ++ ys) := by
  cases A2 with
  | none =>
    have := hy.nil_of
    subst this
    obtain ⟨xs, hown, h3⟩ := h
    have hr : (Builtin.append_ #[t, t] ty #[.slice A l.length c, .slice none 0 c2]).run P w = .ok (.slice A l.length c) w := append_none_run ht hi _ _ xs hown c2
    refine ⟨A, c, w, by simpa using hr, Keeps.refl _ _, .inl rfl, fun S' hk => ?_⟩
    rw [List.append_nil]
    exact Row.keep ⟨xs, hown, h3⟩ hk (fun _ _ => rfl)
  | some ad =>
    obtain ⟨svs, hsv⟩ := hy.svsOf
    obtain ⟨xs, hown, h3⟩ := h
    obtain ⟨v', w1, hrun, q1, q2, q3, q4⟩ := run_append_own_at (P := P) w base t ty e i z d.sz i.bytes ht hi hz hs rfl hzs d.pos _ _ xs hown ad ys.length c2 (newsOf d svs 0 ys) (newsOf_len 0 ys) (fun q u hu => by
      obtain ⟨i, j, y, e1, e2, rfl⟩ := newsOf_get 0 ys q u hu
      rw [Nat.zero_add] at e2
      exact (hsv i y e1).2 j u e2) (fun u hu => by
      obtain ⟨q, hq⟩ := List.getElem?_of_mem hu
      obtain ⟨i, j, y, e1, e2, rfl⟩ := newsOf_get 0 ys q u hq
      exact h1 y _ u (List.mem_of_getElem? e2)) hb1 hb2 hbase
    have hlen : (l ++ ys).length = l.length + ys.length := by simp
    have hrb : (Value.slice A l.length c).ownBlock.toList = rb A := by cases A <;> rfl
    have q2 := Keeps.of_grownBy q2
    rw [hrb] at q2
    obtain ⟨A', c', rfl⟩ : ∃ A' c', v' = .slice A' (l.length + ys.length) c' := by
      rcases q1.2 with ⟨hv, hh⟩ | ⟨g, cap, cur, rfl, _⟩
      · exact ⟨none, 0, by rw [hv, hh]⟩
      · exact ⟨_, _, rfl⟩
    have hrb' : (Value.slice A' (l.length + ys.length) c').ownBlock.toList = rb A' := by cases A' <;> rfl
    refine ⟨A', c', w1, by rw [hlen]; exact hrun, q2, ?_, fun S' hk => ⟨_, by rw [hlen]; exact q1, fun k y hy => ?_⟩⟩
    · rcases q4 with q4 | q4
      · exact .inl (by rw [← hrb, ← hrb', q4])
      · exact .inr ⟨by rw [← hrb', q4]; rfl, (q1.lt _ q4).2⟩
    · rcases Nat.lt_or_ge k l.length with hlt | hge
      · rw [List.getElem?_append_left hlt] at hy
        obtain ⟨sv', g1, g2⟩ := h3 k y hy
        refine ⟨sv', d.keep g1 hk, fun j u hj => ?_⟩
        have := g2 j u hj
        rw [List.getElem?_append_left (List.getElem?_eq_some_iff.1 this).1]
        exact this
      · rw [List.getElem?_append_right hge] at hy
        refine ⟨svs (k - l.length), d.keep (hsv _ y hy).1 hk, fun j u hj => ?_⟩
        have hxl := hown.1
        have hm : k * d.sz = l.length * d.sz + (k - l.length) * d.sz := by rw [← Nat.add_mul]; congr 1; omega
        rw [List.getElem?_append_right (by rw [hxl, hm]; omega), hxl, show k * d.sz + j - l.length * d.sz = (k - l.length) * d.sz + j by omega]
        exact newsOf_at 0 ys _ j y u hy (by rw [Nat.zero_add]; exact hj)
end
section
variable {F : Fence} {m : Nat} {P : Program} {S0 : Nat → Prop} {pm : List Nat} {w00 w : World} {mine l1 l2 : List (List Nat)} {n : Nat} {σ : S} {ns : List Nat} {a : Act} {o : Oper} {ops : Array Oper}
  {Q : Exit → Act → World → Prop} {rest : List Oper} {α : Type} {d : Kd α} {e : TypeId} {base : Nat}
theorem appendN_ (hF : FOpen F) {A : Option Addr} (hE : Ep pm w00 w ns (l1 ++ rb A :: l2)) (hI : Inv w ns n σ ns a w) (hw : Region.wanted o (yielded ops a.tmps) = true) {s x : Operand} {t : TypeId} (hop : o.op = .call { callee := .builtin .append, args := #[s, x], argTypes := #[t, t] })
    {c : Nat} {l : List α} (hs : oEnv σ.env [] s = some (.v (.slice A l.length c))) {A2 : Option Addr} {c2 : Nat} {ys : List α} (hx : oEnv σ.env [] x = some (.v (.slice A2 ys.length c2)))
    (hrow : Row d e (Lo S0 w00 w ns (l1 ++ rb A :: l2)) w base A c l) (hbase : base ≤ w.heap.size) (hy : Arr d (Lo S0 w00 w ns (l1 ++ rb A :: l2)) w A2 ys) (hone : ∀ y sv, ∀ u ∈ d.cells y sv, u.oneCell' = true)
    (ht : P.underlying t = some (.slice e)) {zi : Value × Nat × Nat} (hzi : zinf P e = some zi) (hsz : zi.2.1 = d.sz) (hzs : Nat.beq zi.1.cells.size d.sz = true) (hb1 : l.length + ys.length ≤ maxLen) (hb2 : (l.length + ys.length) * zi.2.2 ≤ 140737488355328)
    (σ2 : Option Addr → Nat → S) (hput : ∀ A' c', put1 σ n o.dst [] (some (.v (.slice A' (l ++ ys).length c'))) = some (σ2 A' c'))
    (K : ∀ A' c' a' w', (∃ v, a' = a.put o.dst v) → Ep pm w00 w' ns (l1 ++ rb A' :: l2) → Inv w' ns n (σ2 A' c') ns a' w' → (∀ S0, Mv (Lo S0 w00 w ns (l1 ++ rb A :: l2)) w (Lo S0 w00 w' ns (l1 ++ rb A' :: l2)) w') → (∀ b, b ∈ (l1 ++ rb A :: l2).flatten → b ∉ rb A → w'.heap[b]? = w.heap[b]?) →
      Row d e (Lo S0 w00 w' ns (l1 ++ rb A' :: l2)) w' base A' c' (l ++ ys) → wpListIn F m P ops Q rest a' w') : wpListIn F m P ops Q (o :: rest) a w := by
  obtain ⟨i, hi, hz, hsz', hbb⟩ := zinf_spec hzi
  rw [← hbb] at hb2
  obtain ⟨A', c', w1, hrun, hg, hA', hR⟩ := appendN_run (P := P) (ty := o.type) (c2 := c2) ht hi hz (hsz'.trans hsz) (Nat.eq_of_beq_eq_true hzs) hrow hbase hy hone hb1 hb2
  have hrun' : (execOp a.eval o).run P w = .ok (.value (.slice A' (l ++ ys).length c')) w1 := by
    have e1 := hI.opnd hs rfl
    have e2 := hI.opnd hx rfl
    simp only [EV.den] at e1 e2
    generalize (l ++ ys).length = q at hrun ⊢
    generalize ys.length = q2 at hrun e2
    simp [execOp, hop, resolve, invoke, builtin, e1, e2, Result.andThen]
    rw [hrun]
  refine special hF hw (by rw [hop]; intro c hc; cases hc) hrun' ?_
  obtain ⟨q1, q2, q3, q4⟩ := hE.step hI hg (mine' := l1 ++ rb A' :: l2) (by intro b hb; simp [hb]) (set_mem hA') (set_dis hE hA') (.inr hrow.nd)
  exact K A' c' _ _ ⟨_, rfl⟩ q1 (put_v q2 _ (hput _ _)) q3 q4 (hR _ (q3 S0))
def bytesI (s : ByteArray) : List Int := s.data.toList.map fun b => (b.toNat : Int)
theorem bytesI_len (s : ByteArray) : (bytesI s).length = s.size := by
  unfold bytesI
  rw [List.length_map, Array.length_toList]
  rfl
/-- '[]byte(s)' -/
theorem bytes_ (hF : FOpen F) (hE : Ep pm w00 w ns mine) (hI : Inv w ns n σ ns a w) (hw : Region.wanted o (yielded ops a.tmps) = true) {src dst eT : TypeId} {x : Operand} (hop : o.op = .convert src dst x) {u : TypeDesc} (hs : P.underlying src = some u) (hd : P.underlying dst = some (.slice eT)) (he : P.underlying eT = some (.int .u8))
    {s : ByteArray} (hx : oEnv σ.env [] x = some (.v (.string s))) (σ2 : Option Addr → Nat → S) (hput : ∀ A c, put1 σ n o.dst [] (some (.v (.slice A (bytesI s).length c))) = some (σ2 A c))
    (K : ∀ A c a' w', (∃ v, a' = a.put o.dst v) → Ep pm w00 w' ns mine → Inv w' ns n (σ2 A c) ns a' w' → (∀ S0, Mv (Lo S0 w00 w ns mine) w (Lo S0 w00 w' ns mine) w') → (∀ b, b ∈ mine.flatten → b ∉ ([] : List Nat) → w'.heap[b]? = w.heap[b]?) →
      Arr (Kd.int .u8) (Lo S0 w00 w' ns mine) w' A (bytesI s) → (bytesI s).length ≤ c → wpListIn F m P ops Q rest a' w') : wpListIn F m P ops Q (o :: rest) a w := by
  have hr := Lib.run_convert_string_bytes (P := P) w src dst eT s hs hd he
  have hrun' : (execOp a.eval o).run P w = .ok (.value (.slice (some ⟨w.heap.size, 0, none⟩) (bytesI s).length (grownCap w s.size 0 eT))) (Lib.bytesWorld w eT s) := by
    have e1 := hI.opnd hx rfl
    simp only [EV.den] at e1
    rw [bytesI_len]
    simp [execOp, hop, e1, hr, Sem.run_bind, Result.andThen]
  have hk : Keeps [] w (Lib.bytesWorld w eT s) := ⟨by simp [Lib.bytesWorld, World.freeze, World.alloc, World.drew, -World.alloc_eq, -World.drew_eq], by simp [Lib.bytesWorld, World.freeze, World.alloc, World.drew, -World.alloc_eq, -World.drew_eq], by simp [Lib.bytesWorld, World.freeze, World.alloc, World.drew, -World.alloc_eq, -World.drew_eq], by rw [Lib.bytesWorld_size]; omega, fun k hk _ => Lib.bytesWorld_at_old w eT s k hk⟩
  refine special hF hw (by rw [hop]; intro c hc; cases hc) hrun' ?_
  obtain ⟨q1, q2, q3, q4⟩ := hE.step hI hk (mine' := mine) (by intro b hb; cases hb) same_mem hE.dis (.inr (by intro b hb; cases hb))
  refine K _ _ _ _ ⟨_, rfl⟩ q1 (put_v q2 _ (hput _ _)) q3 q4 ⟨fun _ => ⟨rfl, ?_⟩, fun i x hx => ⟨svL [], trivial, fun j v hj => ?_⟩⟩ ?_
  · refine ⟨by rw [Lib.bytesWorld_size]; exact Nat.lt_succ_self _, fun hh => ?_, fun hh => ?_, .inl hE.k.size⟩
    · have := (hE.ow _ hh).2; simp [adr] at this
    · have := (hE.mi _ hh).2.1; simp [adr] at this
  · have hj0 : j = 0 := by
      have := (List.getElem?_eq_some_iff.1 hj).1
      simp [Kd.int] at this; omega
    subst hj0
    simp only [Kd.int, List.getElem?_cons_zero, Option.some.injEq] at hj
    subst hj
    have hi : i < s.size := by rw [← bytesI_len]; exact (List.getElem?_eq_some_iff.1 hx).1
    have := Lib.bytesWorld_cell w eT s i hi
    simp only [adr, Option.getD_some]
    rw [add_at]
    have hz : 0 + (i * (Kd.int .u8).sz + 0) = i := by simp [Kd.int]
    rw [hz, this]
    congr 2
    simp only [bytesI, List.getElem?_map, Option.map_eq_some_iff] at hx
    obtain ⟨b, hb, rfl⟩ := hx
    rw [List.getD_eq_getElem?_getD, hb]; rfl
  · rw [bytesI_len]
    exact grownCap_ge _ _ _ _
end

/-! ### pieces of slices that begin behind their beginning -/
def bitI_and (k : IntKind) (x y : Int) : Int := k.wrap ((BitVec.ofInt k.bits x &&& BitVec.ofInt k.bits y).toNat : Int)
def bitI_or (k : IntKind) (x y : Int) : Int := k.wrap ((BitVec.ofInt k.bits x ||| BitVec.ofInt k.bits y).toNat : Int)
def bitI_xor (k : IntKind) (x y : Int) : Int := k.wrap ((BitVec.ofInt k.bits x ^^^ BitVec.ofInt k.bits y).toNat : Int)
def bitI_andNot (k : IntKind) (x y : Int) : Int := k.wrap ((BitVec.ofInt k.bits x &&& ~~~ BitVec.ofInt k.bits y).toNat : Int)
def sh_shl (k : IntKind) (x y : Int) : Int := k.wrap (x * 2 ^ min y.toNat k.bits)
def sh_shr (k : IntKind) (x y : Int) : Int := x.fdiv (2 ^ min y.toNat k.bits)
theorem shl_run {P : Program} {k yk : IntKind} {x y : Int} (h : 0 ≤ y) (t : TypeId) (X Y : Operand) (w : World) : (do eqGuard .shl t X Y (.int k x) (.int yk y); binOp .shl t (.int k x) (.int yk y)).run P w = .ok (.int k (sh_shl k x y)) w := by
  have hg : (eqGuard .shl t X Y (.int k x) (.int yk y)).run P w = .ok () w := rfl
  rw [Sem.run_bind, hg, Result.andThen_ok]
  simp only [binOp, Op.shift]
  rw [if_neg (by omega)]
  rfl
theorem shr_run {P : Program} {k yk : IntKind} {x y : Int} (h : 0 ≤ y) (t : TypeId) (X Y : Operand) (w : World) : (do eqGuard .shr t X Y (.int k x) (.int yk y); binOp .shr t (.int k x) (.int yk y)).run P w = .ok (.int k (sh_shr k x y)) w := by
  have hg : (eqGuard .shr t X Y (.int k x) (.int yk y)).run P w = .ok () w := rfl
  rw [Sem.run_bind, hg, Result.andThen_ok]
  simp only [binOp, Op.shift]
  rw [if_neg (by omega)]
  rfl
def sdrop (A : Option Addr) (c lo sz : Nat) : Option Addr := if c = lo then A else A.map (·.add (lo * sz))
section
variable {P : Program} {w : World} {S : Nat → Prop} {α : Type} {d : Kd α}
theorem Arr.drop {A : Option Addr} {l : List α} (h : Arr d S w A l) (lo c : Nat) (hc : l.length ≤ c) : Arr d S w (sdrop A c lo d.sz) (l.drop lo) := by
  refine ⟨fun hl => ?_, fun i x hi => ?_⟩
  · rw [List.length_drop] at hl
    obtain ⟨h1, h2⟩ := h.1 (by omega)
    unfold sdrop
    rw [if_neg (by omega), h1]
    exact ⟨rfl, by simp only [Option.map_some, adr, Option.getD_some]; rw [add_block]; exact h2⟩
  · rw [List.getElem?_drop] at hi
    obtain ⟨sv, q1, q2⟩ := h.2 (lo + i) x hi
    have hlt := (List.getElem?_eq_some_iff.1 hi).1
    refine ⟨sv, q1, fun j v hj => ?_⟩
    have := q2 j v hj
    obtain ⟨h1, _⟩ := h.1 (by omega)
    unfold sdrop
    rw [if_neg (by omega), h1]
    simp only [Option.map_some, adr, Option.getD_some]
    rw [add_add]
    have e : lo * d.sz + (i * d.sz + j) = (lo + i) * d.sz + j := by rw [Nat.add_mul]; omega
    rw [e]; exact this
theorem slice_lh {t e : TypeId} {sz : Nat} (ht : P.underlying t = some (.slice e)) (hs : szT P e = some sz) {A : Option Addr} {l : List α} {c : Nat} {k k2 : IntKind} {i j : Int} (h0 : 0 ≤ i) (h1 : i ≤ j) (h2 : j ≤ l.length) (hc : l.length ≤ c) (w : World) :
    (Instr.sliceAt t (.slice A l.length c) (some (.int k i)) (some (.int k2 j)) none).run P w = .ok (.slice (sdrop A c i.toNat sz) ((l.take j.toNat).drop i.toNat).length (c - i.toNat)) w := by
  have hb := sliceBound_ok (P := P) (k := k2) (code := .sliceAcap) (show 0 ≤ j by omega) (show j ≤ (c : Int) by omega) w
  have hb2 := sliceBound_ok (P := P) (k := k) (y := j.toNat) (code := .sliceB) h0 (show i ≤ (j.toNat : Int) by omega) w
  have hl : ((l.take j.toNat).drop i.toNat).length = j.toNat - i.toNat := by rw [List.length_drop, List.length_take]; omega
  unfold Instr.sliceAt Instr.slice Instr.sliceBounds
  simp only [Sem.run_bind, run_under ht w, Result.andThen_ok, Sem.run_pure, if_true, hb, hb2, run_sizeOf hs w, hl, sdrop]
  rw [show (if (none : Option Value).isSome = true then BoundsCode.slice3C else BoundsCode.sliceB) = BoundsCode.sliceB from rfl, hb2]
  simp only [Result.andThen_ok, run_sizeOf hs w]
theorem slice_lo {t e : TypeId} {sz : Nat} (ht : P.underlying t = some (.slice e)) (hs : szT P e = some sz) {A : Option Addr} {l : List α} {c : Nat} {k : IntKind} {i : Int} (h0 : 0 ≤ i) (h1 : i ≤ l.length) (w : World) :
    (Instr.sliceAt t (.slice A l.length c) (some (.int k i)) none none).run P w = .ok (.slice (sdrop A c i.toNat sz) (l.drop i.toNat).length (c - i.toNat)) w := by
  have hb2 := sliceBound_ok (P := P) (k := k) (y := l.length) (code := .sliceB) h0 h1 w
  unfold Instr.sliceAt Instr.slice Instr.sliceBounds
  simp only [Sem.run_bind, run_under ht w, Result.andThen_ok, Sem.run_pure, if_true, hb2, run_sizeOf hs w, List.length_drop, sdrop]
  rw [show (if (none : Option Value).isSome = true then BoundsCode.slice3C else BoundsCode.sliceB) = BoundsCode.sliceB from rfl, hb2]
  simp only [Result.andThen_ok, run_sizeOf hs w]
theorem drop_cap {l : List α} {n c : Nat} (h : l.length ≤ c) : (l.drop n).length ≤ c - n := by rw [List.length_drop]; omega
theorem inb_lh {i j : Int} {n : Nat} (h : (decide (i ≤ j) && inb j (n + 1)) = true) (h0 : 0 ≤ i) : i ≤ j ∧ j ≤ (n : Int) := by
  rw [Bool.and_eq_true, decide_eq_true_iff] at h
  exact ⟨h.1, (inb_le h.2).2⟩
def inlh (i j : Int) (n : Nat) : Bool := decide (0 ≤ i) && (decide (i ≤ j) && decide (j ≤ (n : Int)))
theorem inlh_spec {i j : Int} {n : Nat} (h : inlh i j n = true) : 0 ≤ i ∧ i ≤ j ∧ j ≤ (n : Int) := by
  simpa [inlh] using h
theorem len_maxN {n b : Nat} (hb : 0 < b) (h : n * b ≤ 140737488355328) : n ≤ maxLen := by
  have : n ≤ n * b := Nat.le_mul_of_pos_right _ hb
  simp only [maxLen]; omega
theorem eql_nil_run {t e : TypeId} (ht : P.underlying t = some (.slice e)) (A : Option Addr) (n c : Nat) (X Y : Operand) (w : World) : (do eqGuard .eql t X Y (.slice A n c) (.slice none 0 0); binOp .eql t (.slice A n c) (.slice none 0 0)).run P w = .ok (.bool A.isNone) w := by
  have h : (eqGuard .eql t X Y (.slice A n c) (.slice none 0 0)).run P w = .ok () w := rfl
  rw [Sem.run_bind, h, Result.andThen_ok]
  exact Lib.run_eql_slice_nil w t e A n c 0 0 ht
theorem neq_nil_run {t e : TypeId} (ht : P.underlying t = some (.slice e)) (A : Option Addr) (n c : Nat) (X Y : Operand) (w : World) : (do eqGuard .neq t X Y (.slice A n c) (.slice none 0 0); binOp .neq t (.slice A n c) (.slice none 0 0)).run P w = .ok (.bool (!A.isNone)) w := by
  have h : (eqGuard .neq t X Y (.slice A n c) (.slice none 0 0)).run P w = .ok () w := rfl
  rw [Sem.run_bind, h, Result.andThen_ok]
  have h2 := Lib.run_eql_slice_nil (P := P) w t e A n c 0 0 ht
  simp only [binOp] at h2 ⊢
  cases he : (Op.equal t (.slice A n c) (.slice none 0 0)).run P w with
  | ok b w1 =>
    simp [he, Sem.run_bind, Result.andThen] at h2 ⊢
    obtain ⟨h3, h4⟩ := h2
    exact ⟨by rw [h3], h4⟩
  | halt x w1 => simp [he, Sem.run_bind, Result.andThen] at h2
theorem Ep.outO {pm : List Nat} {w00 : World} {own : List Nat} {mine : List (List Nat)} (hE : Ep pm w00 w own mine) (ix : List Nat) : ∀ S0, Mv (Lo S0 w00 w own mine) w (fun b => b ∉ (ix.map fun i => mine.getD i []).flatten ∧ (w00.heap.size ≤ b ∨ S0 b)) w :=
  fun S0 b hb _ => ⟨⟨fun hh => hb.2.2.1 (flat_pick ix hh), hb.2.2.2⟩, rfl⟩
theorem Mv.startP {S0 : Nat → Prop} {pm : List Nat} (w : World) {mine : List (List Nat)} (hd : S = fun b => S0 b ∨ b ∈ pm) (hS : ∀ b, S0 b → b ∉ mine.flatten) : Mv S0 w (Lo S w w [] mine) w := fun b hb hc => ⟨⟨hc.1, by simp, hS b hb, .inr (by rw [hd]; exact .inl hb)⟩, rfl⟩
/-- a row that is grown no more, wherever it lay -/
theorem Row.stillP {pm : List Nat} {w00 : World} {ns : List Nat} {l1 l2 : List (List Nat)} {e : TypeId} {base c : Nat} {A : Option Addr} {l : List α} {S0 : Nat → Prop} (h : Row d e (Lo S0 w00 w ns (l1 ++ rb A :: l2)) w base A c l) (hp : ∀ b ∈ pm, S0 b) (hE : Ep pm w00 w ns (l1 ++ rb A :: l2)) :
    Ep pm w00 w ns (l1 ++ l2) ∧ (∀ S0, Mv (Lo S0 w00 w ns (l1 ++ rb A :: l2)) w (Lo S0 w00 w ns (l1 ++ l2)) w) ∧ Arr d (Lo S0 w00 w ns (l1 ++ l2)) w A l ∧ l.length ≤ c := by
  have h1 := hE.sub (sub_one l1 l2 (rb A))
  have h2 := h.arr (S' := Lo S0 w00 w ns (l1 ++ l2)) (fun b hb => ⟨hb.1, hb.2.1, fun hh => hb.2.2.1 ((flat_sub (sub_one l1 l2 (rb A))).subset hh), hb.2.2.2⟩) (fun b hb => by
    obtain ⟨q1, q2, q3⟩ := hE.mi b (flat_mem (by simp) hb)
    exact ⟨q2, q3, hE.gone b hb, q1.imp id (hp b)⟩)
  exact ⟨h1.1, h1.2, h2.1, h2.2⟩
theorem Row.low {e : TypeId} {base base' c : Nat} {A : Option Addr} {l : List α} (h : Row d e S w base A c l) (hb : base' ≤ base) : Row d e S w base' A c l := h.raise fun b hh => Nat.le_trans hb (h.ge b hh)
end

/-! ### what may be nil -/
def opt {α β : Type} (x : Option α) (a : β) (f : α → β) : β := match x with
  | none => a
  | some y => f y
theorem opt_split {α β : Type} {x : Option α} {a b : β} {f : α → β} (h : opt x a f = b) : (x = none ∧ a = b) ∨ ∃ y, x = some y ∧ f y = b := by
  cases x with
  | none => exact .inl ⟨rfl, h⟩
  | some y => exact .inr ⟨y, rfl, h⟩
theorem Inv.cast {w0 w : World} {own : List Nat} {n : Nat} {ns : List Nat} {a : Act} {β : Type} {σf : β → S} {p q : β} (h : p = q) (hI : Inv w0 own n (σf p) ns a w) : Inv w0 own n (σf q) ns a w := h ▸ hI
theorem OjtN.none_of {α : Type} {k : Lk α} {S : Nat → Prop} {w : World} {A : Option Addr} {x : Option α} {F : List Nat} (h : OjtN k S w A x F) (hx : x = none) : A = none ∧ F = [] := by subst hx; exact h
theorem OjtN.some_of {α : Type} {k : Lk α} {S : Nat → Prop} {w : World} {A : Option Addr} {x : Option α} {F : List Nat} (h : OjtN k S w A x F) {y : α} (hx : x = some y) : ∃ b, A = some ⟨b, 0, none⟩ ∧ Ojt k S w b y F := by subst hx; exact h
theorem OjtN.of {α : Type} {k : Lk α} {S : Nat → Prop} {w : World} {b : Nat} {x : α} {F : List Nat} (h : Ojt k S w b x F) : OjtN k S w (some ⟨b, 0, none⟩) (some x) F := ⟨b, rfl, h⟩
theorem OjtN.nil {α : Type} (k : Lk α) (S : Nat → Prop) (w : World) : OjtN k S w none none [] := ⟨rfl, rfl⟩
/-! ### copy -/
section
variable {P : Program} {α : Type} {d : Kd α} {e : TypeId} {S : Nat → Prop} {w : World} {base c : Nat} {A : Option Addr} {l : List α}
def cpl {α : Type} (l ys : List α) : List α := ys.take l.length ++ l.drop ys.length
theorem cpl_len {α : Type} (l ys : List α) : (cpl l ys).length = l.length := by simp [cpl]; omega
theorem copy_run {t t2 ty : TypeId} (ht : P.underlying t = some (.slice e)) (hs1 : (P.info? e).map (·.size) = some 1) (hd1 : d.sz = 1)
    (h : Row d e S w base A c l) {A2 : Option Addr} {c2 : Nat} {ys : List α} {X : Nat → Prop} (hy : Arr d X w A2 ys) (hcz : ∀ S w x sv, d.cont S w x sv) (h1 : ∀ y sv, ∀ u ∈ d.cells y sv, u.oneCell' = true) :
    ∃ w1, (Builtin.copy_ #[t, t2] ty #[.slice A l.length c, .slice A2 ys.length c2]).run P w = .ok (goInt ((min ys.length l.length : Nat) : Int)) w1 ∧ Keeps (rb A) w w1 ∧
      ∀ S', Mv S w S' w1 → Row d e S' w1 base A c (cpl l ys) := by
  by_cases h0 : min ys.length l.length = 0
  · refine ⟨w, by rw [h0]; exact run_copy_none w t t2 ty e A A2 l.length c ys.length c2 ht hs1 h0, Keeps.refl _ _, fun S' hk => ?_⟩
    have : cpl l ys = l := by
      unfold cpl
      rcases Nat.min_eq_zero_iff.1 h0 with h | h
      · have := List.eq_nil_of_length_eq_zero h; subst this; simp
      · have := List.eq_nil_of_length_eq_zero h; subst this; simp
    rw [this]
    exact Row.keep h hk (fun _ _ => rfl)
  · have hl : 0 < l.length := by omega
    have hyl : 0 < ys.length := by omega
    obtain ⟨hA2, _⟩ := hy.1 hyl
    obtain ⟨svs, hsv⟩ := hy.svsOf
    obtain ⟨xs, ⟨hlen, h2⟩, h3⟩ := h
    rcases h2 with ⟨hv, h2⟩ | ⟨g, cap, cur, hv, hge, hblk, hnc, hcm, hcs, htk⟩
    · omega
    simp only [Value.slice.injEq] at hv
    obtain ⟨rfl, _, rfl⟩ := hv
    rw [hd1, Nat.mul_one] at hlen hcs htk
    have hmin : (min ys.length l.length) = Nat.min ys.length l.length := rfl
    generalize hm : Nat.min ys.length l.length = m at *
    have hmy : m ≤ ys.length := by rw [← hm]; exact Nat.min_le_left _ _
    have hml : m ≤ l.length := by rw [← hm]; exact Nat.min_le_right _ _
    have hcl : ((newsOf d svs 0 ys).take m).length = m := by rw [List.length_take, newsOf_len, hd1]; omega
    have hget : ∀ j v, ((newsOf d svs 0 ys).take m)[j]? = some v → ∃ y, ys[j]? = some y ∧ (d.cells y (svs j))[0]? = some v := fun j v hj => by
      rw [List.getElem?_take] at hj
      split at hj
      · obtain ⟨i, q, y, e1, e2, e3⟩ := newsOf_get 0 ys j v hj
        have hq : q < 1 := by rw [← hd1, ← d.len y (svs (0 + i))]; exact (List.getElem?_eq_some_iff.1 e2).1
        obtain rfl : q = 0 := by omega
        rw [hd1, Nat.mul_one, Nat.add_zero] at e3
        subst e3
        rw [Nat.zero_add] at e2
        exact ⟨y, e1, e2⟩
      · cases hj
    have hrun := run_copy_row P w t t2 ty e g 0 l.length c (adr A2) ys.length c2 cur e ((newsOf d svs 0 ys).take m) ht hs1 hblk (by rw [hcl, hm]) (fun j v hj => by
      obtain ⟨y, e1, e2⟩ := hget j v hj
      have := (hsv j y e1).2 0 v e2
      rw [hd1, Nat.mul_one, Nat.add_zero] at this
      exact this) (by rw [hcl]; omega) (fun u hu => by
      obtain ⟨q, hq⟩ := List.getElem?_of_mem hu
      obtain ⟨y, e1, e2⟩ := hget q u hq
      exact h1 y _ u (List.mem_of_getElem? e2))
    rw [hcl, ← hA2, List.take_zero, List.nil_append, Nat.zero_add] at hrun
    refine ⟨w.setRow g ((newsOf d svs 0 ys).take m ++ cur.toList.drop m).toArray, by rw [hmin]; exact hrun, ⟨rfl, rfl, rfl, by rw [size_setRow]; exact Nat.le_refl _, fun k hk hne => setRow_other w g k _ (by simpa [rb] using hne)⟩, fun S' hk => ?_⟩
    have hcur : cur.toList.length = c := by simpa using hcs
    refine ⟨(newsOf d svs 0 ys).take m ++ xs.drop m, ⟨by rw [cpl_len, hd1, Nat.mul_one, List.length_append, hcl, List.length_drop]; omega, .inr ⟨g, c, ((newsOf d svs 0 ys).take m ++ cur.toList.drop m).toArray, by rw [cpl_len], hge, setRow_heap w g cur _ e (0, 0) hblk, by rw [cpl_len]; exact hnc, hcm, ?_, ?_⟩⟩, fun i x hx => ?_⟩
    · simp only [List.size_toArray, List.length_append, hcl, List.length_drop]; rw [hd1]; omega
    · rw [cpl_len, hd1, Nat.mul_one]
      have hxl : xs.length = l.length := hlen
      apply List.ext_getElem?
      intro q
      have hq := congrArg (fun z => z[q]?) htk
      simp only [List.getElem?_take] at hq
      rw [List.getElem?_take]
      by_cases hql : q < l.length
      · rw [if_pos hql] at hq ⊢
        show ((newsOf d svs 0 ys).take m ++ cur.toList.drop m)[q]? = _
        by_cases hqm : q < m
        · rw [List.getElem?_append_left (by rw [hcl]; exact hqm), List.getElem?_append_left (by rw [hcl]; exact hqm)]
        · rw [List.getElem?_append_right (by rw [hcl]; omega), List.getElem?_append_right (by rw [hcl]; omega), List.getElem?_drop, List.getElem?_drop, hcl, show m + (q - m) = q by omega]
          exact hq
      · rw [if_neg hql]
        symm
        rw [List.getElem?_eq_none_iff, List.length_append, hcl, List.length_drop]; omega
    · unfold cpl at hx
      have htl : (ys.take l.length).length = m := by rw [List.length_take]; have : Nat.min l.length ys.length = Nat.min ys.length l.length := Nat.min_comm _ _; show Nat.min l.length ys.length = m; rw [this, hm]
      by_cases him : i < m
      · rw [List.getElem?_append_left (by rw [htl]; exact him), List.getElem?_take, if_pos (by omega)] at hx
        refine ⟨svs i, hcz _ _ _ _, fun j u hj => ?_⟩
        have hj1 : j < d.sz := by rw [← d.len x (svs i)]; exact (List.getElem?_eq_some_iff.1 hj).1
        rw [List.getElem?_append_left (by rw [hcl, hd1]; omega), List.getElem?_take, if_pos (by rw [hd1]; omega)]
        exact newsOf_at 0 ys i j x u hx (by rw [Nat.zero_add]; exact hj)
      · rw [List.getElem?_append_right (by rw [htl]; omega), List.getElem?_drop, htl] at hx
        have hmy2 : ys.length = m := by
          by_cases hne : ys.length = m
          · exact hne
          exfalso
          have hge2 : l.length ≤ ys.length := by
            rcases Nat.le_total ys.length l.length with h | h
            · exact absurd ((Nat.min_eq_left h).symm.trans hm) hne
            · exact h
          have : i < l.length := by
            have := (List.getElem?_eq_some_iff.1 hx).1
            omega
          have : m = l.length := by rw [← hm]; exact Nat.min_eq_right hge2
          omega
        rw [hmy2, show m + (i - m) = i by omega] at hx
        obtain ⟨sv, g1, g2⟩ := h3 i x hx
        refine ⟨sv, d.keep g1 hk, fun j u hj => ?_⟩
        rw [List.getElem?_append_right (by rw [hcl, hd1]; omega), List.getElem?_drop, hcl, hd1, show m + (i * 1 + j - m) = i * 1 + j by omega]
        have := g2 j u hj
        rwa [hd1] at this
end
section
variable {F : Fence} {m : Nat} {P : Program} {S0 : Nat → Prop} {pm : List Nat} {w00 w : World} {mine l1 l2 : List (List Nat)} {n : Nat} {σ : S} {ns : List Nat} {a : Act} {o : Oper} {ops : Array Oper}
  {Q : Exit → Act → World → Prop} {rest : List Oper} {α : Type} {d : Kd α} {e : TypeId} {base : Nat}
theorem copy_ (hF : FOpen F) {A : Option Addr} (hE : Ep pm w00 w ns (l1 ++ rb A :: l2)) (hI : Inv w ns n σ ns a w) (hw : Region.wanted o (yielded ops a.tmps) = true) {s x : Operand} {t t2 : TypeId} (hop : o.op = .call { callee := .builtin .copy, args := #[s, x], argTypes := #[t, t2] })
    {c : Nat} {l : List α} (hs : oEnv σ.env [] s = some (.v (.slice A l.length c))) {A2 : Option Addr} {c2 : Nat} {ys : List α} (hx : oEnv σ.env [] x = some (.v (.slice A2 ys.length c2)))
    (hrow : Row d e (Lo S0 w00 w ns (l1 ++ rb A :: l2)) w base A c l) {X : Nat → Prop} (hy : Arr d X w A2 ys) (hcz : ∀ S w x sv, d.cont S w x sv) (hone : ∀ y sv, ∀ u ∈ d.cells y sv, u.oneCell' = true)
    (ht : P.underlying t = some (.slice e)) (hs1 : (P.info? e).map (·.size) = some 1) (hd1 : d.sz = 1)
    (σ2 : S) (hput : put1 σ n o.dst [] (some (.v (goInt ((min ys.length l.length : Nat) : Int)))) = some σ2)
    (K : ∀ a' w', (∃ v, a' = a.put o.dst v) → Ep pm w00 w' ns (l1 ++ rb A :: l2) → Inv w' ns n σ2 ns a' w' → (∀ S0, Mv (Lo S0 w00 w ns (l1 ++ rb A :: l2)) w (Lo S0 w00 w' ns (l1 ++ rb A :: l2)) w') → (∀ b, b ∈ (l1 ++ rb A :: l2).flatten → b ∉ rb A → w'.heap[b]? = w.heap[b]?) →
      Row d e (Lo S0 w00 w' ns (l1 ++ rb A :: l2)) w' base A c (cpl l ys) → wpListIn F m P ops Q rest a' w') : wpListIn F m P ops Q (o :: rest) a w := by
  obtain ⟨w1, hrun, hg, hR⟩ := copy_run (P := P) (t2 := t2) (ty := o.type) (c2 := c2) ht hs1 hd1 hrow hy hcz hone
  have hrun' : (execOp a.eval o).run P w = .ok (.value (goInt ((min ys.length l.length : Nat) : Int))) w1 := by
    have e1 := hI.opnd hs rfl
    have e2 := hI.opnd hx rfl
    simp only [EV.den] at e1 e2
    generalize (min ys.length l.length : Nat) = q1 at hrun ⊢
    generalize l.length = q at hrun e1
    generalize ys.length = q2 at hrun e2
    simp [execOp, hop, resolve, invoke, builtin, e1, e2, Result.andThen]
    rw [hrun]
  refine special hF hw (by rw [hop]; intro c hc; cases hc) hrun' ?_
  obtain ⟨q1, q2, q3, q4⟩ := hE.step hI hg (mine' := l1 ++ rb A :: l2) (by intro b hb; simp [hb]) (same_mem) hE.dis (.inr hrow.nd)
  exact K _ _ ⟨_, rfl⟩ q1 (put_v q2 _ hput) q3 q4 (hR _ (q3 S0))
end
theorem bif_split {ρ : Type} {b : Bool} {x y : Option ρ} {r : ρ} (h : (bif b then x else y) = some r) : (b = true ∧ x = some r) ∨ (b = false ∧ y = some r) := by
  cases b with
  | true => exact .inl ⟨rfl, h⟩
  | false => exact .inr ⟨rfl, h⟩
theorem Ep.reord {pm : List Nat} {w00 w : World} {ns : List Nat} {mine : List (List Nat)} (hE : Ep pm w00 w ns mine) (ix : List Nat) (hp : ix.isPerm (List.range mine.length) = true) :
    Ep pm w00 w ns (ix.map fun i => mine.getD i []) ∧ ∀ S0, Mv (Lo S0 w00 w ns mine) w (Lo S0 w00 w ns (ix.map fun i => mine.getD i [])) w := by
  have h : (ix.map fun i => mine.getD i []).Perm ((List.range mine.length).map fun i => mine.getD i []) := (List.isPerm_iff.1 hp).map _
  have e : ((List.range mine.length).map fun i => mine.getD i []) = mine := by
    apply List.ext_getElem
    · simp
    · intro i h1 h2
      simp [List.getD_eq_getElem?_getD, h2]
  rw [e] at h
  exact hE.perm h.symm.flatten
/-! ### calls of methods of interface values, walked within their caller -/
def callOfM (P : Program) (σ : S) (o : Oper) : Option (FuncId × List EV × List Value) :=
  match o.op with
  | .call { callee := .invoke x name, args := xs, .. } =>
    match oEnv σ.env [] x, evArgs σ.env [] xs.toList with
    | some (.v (.iface t v)), some es => match Sem.val P (Go.method (P.types.size + Made.depth) t v name) with | some r => some (r.1, .v r.2 :: es, []) | none => none
    | _, _ => none
  | _ => none
theorem callOfM_run {P : Program} {w0 w : World} {own : List Nat} {n : Nat} {σ : S} {ns : List Nat} {a : Act} {o : Oper} {f : FuncId} {es : List EV} {cs : List Value} (hI : Inv w0 own n σ ns a w) (h : callOfM P σ o = some (f, es, cs))
    (hent : ∀ args w, (callFunc f args).run P w = .ok (.enter f args) w) :
    (∀ c, o.op ≠ .defer c) ∧ (execOp a.eval o).run P w = .ok (.enter f (es.map (EV.den ns) ++ cs).toArray) w := by
  unfold callOfM at h
  split at h
  · rename_i x name xs ats hop
    refine ⟨(fun c hc => by rw [hop] at hc; cases hc), ?_⟩
    split at h
    · rename_i t v es' hx hes
      split at h
      · rename_i r hr
        simp only [Option.some.injEq, Prod.mk.injEq] at h
        obtain ⟨rfl, rfl, rfl⟩ := h
        have hx' := hI.opnd hx rfl
        simp only [EV.den] at hx'
        have hm := Sem.run_val (P := P) hr w
        unfold execOp; rw [hop]
        simp only [resolve, hx', Sem.run_bind, Sem.run_pure, Result.andThen_ok, invoke]
        have e0 : (#[Value.iface t v] ++ Array.map a.eval xs)[0]? = some (.iface t v) := by rw [Array.getElem?_append_left (by simp)]; rfl
        have e1 : (#[Value.iface t v] ++ Array.map a.eval xs).extract 1 (#[Value.iface t v] ++ Array.map a.eval xs).size = Array.map a.eval xs := by
          apply Array.ext'
          simp
          exact List.take_of_length_le (by simp)
        simp only [e0, e1, callMethod, Sem.run_bind]
        show ((Go.method (P.types.size + Made.depth) t v name).run P w).andThen _ = _
        rw [hm]
        simp only [Result.andThen_ok]
        rw [hent]
        have := evArgs_eval hI rfl hes
        congr 2
        apply Array.ext'
        simp [← this, EV.den]
      · simp at h
    · simp at h
  · simp at h
section
variable {S0 : Nat → Prop} {F : Fence} {m : Nat} {P : Program} {pm : List Nat} {w00 w : World} {mine : List (List Nat)} {n : Nat} {σ : S} {ns : List Nat} {a : Act} {o : Oper} {ops : Array Oper} {Q : Exit → Act → World → Prop} {rest : List Oper}
theorem callIm_ (hF : FOpen F) (hI : Inv w ns n σ ns a w) (hw : Region.wanted o (yielded ops a.tmps) = true) {f : FuncId} {es : List EV} {cs : List Value} (hco : callOfM P σ o = some (f, es, cs)) {fn : Func} {c : Code} (hf : P.funcs[f]? = some fn)
    (hname : (fn.name == "runtime.NumGoroutine") = false) (hb : fn.body = some c) {n' : Nat} (hn : fn.ntmps = n') (hle : Nat.ble (es ++ cs.map EV.v).length n' = true) (hwf : es.all (EV.wf σ.bs.length) = true)
    (K : ∀ a', Inv w ns n' ⟨entEnvE 0 (es ++ cs.map EV.v), [], [], σ.bs, none, some (σ.bs.length, ns)⟩ ns a' w → c.wpIn Fence.wide 0 P (bodyPost P fn (fun e w' => ∃ v, e = .returned v ∧ wpListIn F m P ops Q rest (a.put o.dst v) w')) a' w) :
    wpListIn F m P ops Q (o :: rest) a w := by
  unfold wpListIn
  rw [hw, if_pos rfl]
  obtain ⟨hnd, hrun⟩ := callOfM_run hI hco (enters hf hname hb)
  refine ⟨fun f _ => hF.fn f, ?_⟩
  rw [Oper.semAt_plain F _ _ hnd, hrun, Oper.uponIn_enter]
  refine ⟨fun hd => by rw [hF.depth] at hd; simp at hd, ?_⟩
  have hle := Nat.le_of_ble_eq_true hle
  simp only [List.length_append, List.length_map] at hle
  have hc : Calls P f (es.map (EV.den ns) ++ cs).toArray w (fun e w' => ∃ v, e = .returned v ∧ wpListIn F m P ops Q rest (a.put o.dst v) w') := by
    refine (callsIn_wide (n := 0)).1 (callsIn_of_wp hf hb trivial (K _ ⟨?_, rfl, ?_, ?_, hI.bwf, ?_, hI.loc, ?_⟩))
    · simp [hn]; omega
    · intro x hx
      obtain ⟨h1, h3, h4⟩ := entEnvE_mem hx
      rw [h1]
      simp only [Nat.sub_zero] at h4
      have h5 : (es.map (EV.den ns) ++ cs)[x.t]? = some (x.e.den ns) := by
        have := congrArg (Option.map (EV.den ns)) h4
        rw [← List.getElem?_map, List.map_append, List.map_map] at this
        rw [show (EV.den ns ∘ EV.v) = id from rfl, List.map_id] at this
        exact this
      have hl := (List.getElem?_eq_some_iff.1 h5).1
      rw [Array.getElem?_append_left (by simpa using hl)]
      simpa [gvv, pathB, EV.den] using h5
    · intro x hx
      obtain ⟨h1, h3, h4⟩ := entEnvE_mem hx
      rw [h1]
      refine ⟨?_, fun y hy => by simp at hy⟩
      have := List.mem_of_getElem? h4
      rw [List.mem_append] at this
      rcases this with h | h
      · exact List.all_eq_true.1 hwf _ h
      · obtain ⟨u, _, hu⟩ := List.mem_map.1 h
        rw [← hu]; rfl
    · intro x hx; simp at hx
    · exact ⟨by rw [← hI.loc.len]; simp, Nat.le_of_eq hI.loc.len.symm⟩
  refine (hF.calls hc).mono ?_
  rintro e w1 ⟨v, rfl, h⟩
  exact h
end
/-! ### laid package variables -/
theorem strs_of {P : Program} {n : Nat} {t e : TypeId} (ht : P.underlying t = some (.array n e)) (he : P.underlying e = some .string) (hs : P.cellsOf e = 1 ∧ P.cellsOf t = n) {w : World} {held : Bool} {fuel : Nat} {cs : List Value} {p : List MemPlace} (l : List (List UInt8)) (hl : l.length = n)
    (h : DataW.trod (fun _ => ()) P w 0 (fun _ => true) held fuel t cs = some (.agg (l.map fun s => .lit (.string s)), p)) : cs = l.map fun s => Value.string ⟨s.toArray⟩ := by
  obtain ⟨xs, m, _, hx, hlen, hn, hel⟩ := DataW.trod_array ht h
  rw [hs.2] at hlen
  have hx1 : l.map (fun s => (DataW.lit (.string s) : DataW Unit)) = xs.map (·.1) := by
    have := congrArg Prod.fst hx
    simpa using this
  apply List.ext_getElem?
  intro i
  by_cases hi : i < n
  · have h1 := hel i hi
    rw [hs.1, Nat.mul_one, List.getElem?_eq_getElem (by omega)] at h1
    obtain ⟨s, e1, e2, _⟩ := DataW.trod_string he h1
    have h2 : cs[i]? = some (.string s) := by
      have := congrArg (fun q => q[0]?) e1
      simp only [List.getElem?_take, List.getElem?_drop] at this
      simpa using this
    have h3 : (l.map (fun s => (DataW.lit (.string s) : DataW Unit)))[i]? = some (.lit (.string s.data.toList)) := by
      rw [hx1, List.getElem?_map, List.getElem?_eq_getElem (by omega), e2]; rfl
    rw [List.getElem?_map, List.getElem?_eq_getElem (by omega)] at h3
    simp only [Option.map_some, Option.some.injEq, DataW.lit.injEq, Lit.string.injEq] at h3
    rw [h2, List.getElem?_map, List.getElem?_eq_getElem (by omega), h3]
    simp
  · rw [List.getElem?_eq_none (by omega), List.getElem?_eq_none (by simp; omega)]
theorem b_nf {c : Bool} (h : (!c) = false) : c = true := by cases c; cases h; rfl
theorem b_nt {c : Bool} (h : (!c) = true) : c = false := by cases c; rfl; cases h
theorem b_fn {c : Bool} (h : c = false) : (!c) = true := by subst h; rfl
theorem b_tn {c : Bool} (h : c = true) : (!c) = false := by subst h; rfl
/-! ### shorter spellings -/
abbrev e_ (t : Nat) (v : Value) : Ent := ⟨t, [], .v v⟩
abbrev p_ (t k off : Nat) : Ent := ⟨t, [], .p k off⟩
abbrev s_ (env : List Ent) (bs : List (List EV × TypeId)) : S := ⟨env, [], [], bs, none, none⟩
theorem hmr_ (l : List (List Nat)) (w : World) : ∀ b ∈ l.flatten, w.heap[b]? = w.heap[b]? := fun _ _ => rfl
section
variable {F : Fence} {m : Nat} {P : Program} {w0 : World} {own : List Nat} {n : Nat} {σ : S} {ns : List Nat} {a : Act} {w : World} {Q : Exit → Act → World → Prop} {ops : Array Oper} {rest : List Oper} {orc : List (List Value)}
theorem sr_ {id : Nat} {l : List Oper} {y : Code} (hF : FOpen F) (hI : St w0 own n σ ns a w) (σ2 : S) (obs : List Ob) (h : region P l n (σ2.env.map Ent.t) σ orc = some (σ2, obs)) (hob : Obs P w0 own obs)
    (K : ∀ ns' a' w', St w0 own n σ2 ns' a' w' → y.wpIn F m P Q a' w') : (Code.seq (Code.region id l.toArray false) y).wpIn F m P Q a w :=
  seq_region hF hI σ2 obs h hob (fun ns' a' w' h _ => K ns' a' w' h)
theorem sr0_ {id : Nat} {l : List Oper} {y : Code} (hF : FOpen F) (hI : St w0 own n σ ns a w) (σ2 : S) (h : region P l n (σ2.env.map Ent.t) σ [] = some (σ2, []))
    (K : ∀ ns' a' w', St w0 own n σ2 ns' a' w' → y.wpIn F m P Q a' w') : (Code.seq (Code.region id l.toArray false) y).wpIn F m P Q a w :=
  seq_region hF hI σ2 [] h trivial (fun ns' a' w' h _ => K ns' a' w' h)
theorem rg_ {id : Nat} {l : List Oper} (hF : FOpen F) (hI : St w0 own n σ ns a w) (σ2 : S) (obs : List Ob) (h : region P l n (σ2.env.map Ent.t) σ orc = some (σ2, obs)) (hob : Obs P w0 own obs)
    (K : ∀ ns' a' w', St w0 own n σ2 ns' a' w' → Q .normal a' w') : (Code.region id l.toArray false).wpIn F m P Q a w :=
  region_ hF hI σ2 obs h hob (fun ns' a' w' h _ => K ns' a' w' h)
theorem rg0_ {id : Nat} {l : List Oper} (hF : FOpen F) (hI : St w0 own n σ ns a w) (σ2 : S) (h : region P l n (σ2.env.map Ent.t) σ [] = some (σ2, []))
    (K : ∀ ns' a' w', St w0 own n σ2 ns' a' w' → Q .normal a' w') : (Code.region id l.toArray false).wpIn F m P Q a w :=
  region_ hF hI σ2 [] h trivial (fun ns' a' w' h _ => K ns' a' w' h)
theorem ck_ (hF : FOpen F) (k : Nat) (hI : Inv w0 own n σ ns a w) (σ2 : S) (obs : List Ob) {l : List Oper} (hr : l.drop k = rest) (h : chunkL P ops n k (σ2.env.map Ent.t) l σ orc = some (σ2, obs)) (hob : Obs P w0 own obs)
    (K : ∀ ns' a' w', Inv w0 own n σ2 ns' a' w' → wpListIn F m P ops Q rest a' w') : wpListIn F m P ops Q l a w := chunkL_ hF k hI σ2 obs hr h hob K
theorem ck0_ (hF : FOpen F) (k : Nat) (hI : Inv w0 own n σ ns a w) (σ2 : S) {l : List Oper} (hr : l.drop k = rest) (h : chunkL P ops n k (σ2.env.map Ent.t) l σ [] = some (σ2, []))
    (K : ∀ ns' a' w', Inv w0 own n σ2 ns' a' w' → wpListIn F m P ops Q rest a' w') : wpListIn F m P ops Q l a w := chunkL_ hF k hI σ2 [] hr h trivial K
end
def lk_ (l : List Ent) (t : Nat) : Option Ent := l.find? fun x => Nat.beq x.t t
def nx (σ : S) (live : List Nat) (new : List Ent) (ch : List (Nat × (List EV × TypeId))) : S :=
  { σ with env := live.map fun t => match lk_ new t with | some x => x | none => match lk_ σ.env t with | some x => x | none => ⟨t, [], .v (.tuple #[])⟩, bs := ch.foldl (fun bs p => bif Nat.ble bs.length p.1 then bs ++ [p.2] else bs.set p.1 p.2) σ.bs }
section
variable {F : Fence} {m : Nat} {P : Program} {w0 : World} {own : List Nat} {n : Nat} {σ : S} {ns : List Nat} {a : Act} {w : World} {Q : Exit → Act → World → Prop} {ops : Array Oper} {rest : List Oper} {orc : List (List Value)}
theorem srn_ {id : Nat} {l : List Oper} {y : Code} (hF : FOpen F) (hI : St w0 own n σ ns a w) (live : List Nat) (new : List Ent) (ch : List (Nat × (List EV × TypeId))) (obs : List Ob) (h : region P l n live σ orc = some (nx σ live new ch, obs)) (hob : Obs P w0 own obs)
    (K : ∀ ns' a' w', St w0 own n (nx σ live new ch) ns' a' w' → y.wpIn F m P Q a' w') : (Code.seq (Code.region id l.toArray false) y).wpIn F m P Q a w :=
  seq_region hF hI _ obs h hob (fun ns' a' w' h _ => K ns' a' w' h)
theorem srn0_ {id : Nat} {l : List Oper} {y : Code} (hF : FOpen F) (hI : St w0 own n σ ns a w) (live : List Nat) (new : List Ent) (ch : List (Nat × (List EV × TypeId))) (h : region P l n live σ [] = some (nx σ live new ch, []))
    (K : ∀ ns' a' w', St w0 own n (nx σ live new ch) ns' a' w' → y.wpIn F m P Q a' w') : (Code.seq (Code.region id l.toArray false) y).wpIn F m P Q a w :=
  seq_region hF hI _ [] h trivial (fun ns' a' w' h _ => K ns' a' w' h)
theorem rgn_ {id : Nat} {l : List Oper} (hF : FOpen F) (hI : St w0 own n σ ns a w) (live : List Nat) (new : List Ent) (ch : List (Nat × (List EV × TypeId))) (obs : List Ob) (h : region P l n live σ orc = some (nx σ live new ch, obs)) (hob : Obs P w0 own obs)
    (K : ∀ ns' a' w', St w0 own n (nx σ live new ch) ns' a' w' → Q .normal a' w') : (Code.region id l.toArray false).wpIn F m P Q a w :=
  region_ hF hI _ obs h hob (fun ns' a' w' h _ => K ns' a' w' h)
theorem rgn0_ {id : Nat} {l : List Oper} (hF : FOpen F) (hI : St w0 own n σ ns a w) (live : List Nat) (new : List Ent) (ch : List (Nat × (List EV × TypeId))) (h : region P l n live σ [] = some (nx σ live new ch, []))
    (K : ∀ ns' a' w', St w0 own n (nx σ live new ch) ns' a' w' → Q .normal a' w') : (Code.region id l.toArray false).wpIn F m P Q a w :=
  region_ hF hI _ [] h trivial (fun ns' a' w' h _ => K ns' a' w' h)
theorem ckn_ (hF : FOpen F) (k : Nat) (hI : Inv w0 own n σ ns a w) (live : List Nat) (new : List Ent) (ch : List (Nat × (List EV × TypeId))) (obs : List Ob) {l : List Oper} (hr : l.drop k = rest) (h : chunkL P ops n k live l σ orc = some (nx σ live new ch, obs)) (hob : Obs P w0 own obs)
    (K : ∀ ns' a' w', Inv w0 own n (nx σ live new ch) ns' a' w' → wpListIn F m P ops Q rest a' w') : wpListIn F m P ops Q l a w := chunkL_ hF k hI _ obs hr h hob K
theorem ckn0_ (hF : FOpen F) (k : Nat) (hI : Inv w0 own n σ ns a w) (live : List Nat) (new : List Ent) (ch : List (Nat × (List EV × TypeId))) {l : List Oper} (hr : l.drop k = rest) (h : chunkL P ops n k live l σ [] = some (nx σ live new ch, []))
    (K : ∀ ns' a' w', Inv w0 own n (nx σ live new ch) ns' a' w' → wpListIn F m P ops Q rest a' w') : wpListIn F m P ops Q l a w := chunkL_ hF k hI _ [] hr h trivial K
end

/-! ### strings: append of a string's bytes, an index, a sum, a number's text, a range -/
/-- the bytes that whole numbers stand for -/
def bytesOf (l : List Int) : ByteArray := ⟨(l.map fun i => i.toNat.toUInt8).toArray⟩
/-- a byte of a string -/
def rdB (s : ByteArray) (i : Int) : Int := if h : 0 ≤ i ∧ i.toNat < s.size then ((s[i.toNat]'h.2).toNat : Int) else 0
section
variable {P : Program} {e : TypeId} {S : Nat → Prop} {w : World} {base c : Nat} {A : Option Addr} {l : List Int}
theorem appendS_run {t u ty : TypeId} {i : TypeInfo} (ht : P.underlying t = some (.slice e)) (hu : P.underlying u = some .string) (hi : P.info? e = some i) (hz : i.zero = some (.int .u8 0)) (hs : i.size = 1) (hb : i.bytes = 1)
    (h : Row (Kd.int .u8) e S w base A c l) (hbase : base ≤ w.heap.size) (s : ByteArray) (hb2 : l.length + (bytesI s).length ≤ 140737488355328) :
    ∃ A' c' w1, (Builtin.append_ #[t, u] ty #[.slice A l.length c, .string s]).run P w = .ok (.slice A' (l ++ bytesI s).length c') w1 ∧ Keeps (rb A) w w1 ∧
      (rb A' = rb A ∨ (rb A' = [w.heap.size] ∧ w.heap.size < w1.heap.size)) ∧ ∀ S', Row (Kd.int .u8) e S' w1 base A' c' (l ++ bytesI s) := by
  have hlen : (l ++ bytesI s).length = l.length + s.size := by rw [List.length_append, bytesI_len]
  rw [bytesI_len] at hb2
  obtain ⟨xs, hown, h3⟩ := h
  have hxl : xs.length = l.length := by simpa [Kd.int] using hown.1
  have hown : w.ownsRow base e 1 (.slice A l.length c) l.length xs := hown
  have hrow : ∀ (w1 : World) (A' : Option Addr) (c' : Nat), w1.ownsRow base e 1 (.slice A' (l.length + s.size) c') (l.length + s.size) (xs ++ Lib.strCells s) → ∀ S', Row (Kd.int .u8) e S' w1 base A' c' (l ++ bytesI s) := fun w1 A' c' ho S' => by
    refine ⟨_, by rw [hlen]; exact ho, fun k y hy => ⟨svL [], trivial, fun j v hj => ?_⟩⟩
    have hj0 : j = 0 := by
      have := (List.getElem?_eq_some_iff.1 hj).1
      simp [Kd.int] at this; omega
    subst hj0
    simp only [Kd.int, List.getElem?_cons_zero, Option.some.injEq] at hj
    subst hj
    show (xs ++ Lib.strCells s)[k * 1 + 0]? = _
    rw [Nat.mul_one, Nat.add_zero]
    rcases Nat.lt_or_ge k l.length with hlt | hge
    · rw [List.getElem?_append_left hlt] at hy
      obtain ⟨sv', _, g2⟩ := h3 k y hy
      have := g2 0 (.int .u8 y) rfl
      rw [show k * (Kd.int .u8).sz + 0 = k by simp [Kd.int]] at this
      rw [List.getElem?_append_left (by omega)]
      exact this
    · rw [List.getElem?_append_right hge] at hy
      rw [List.getElem?_append_right (by omega), hxl]
      simp only [bytesI, List.getElem?_map, Option.map_eq_some_iff] at hy
      obtain ⟨b, hb, rfl⟩ := hy
      simp [Lib.strCells, hb]
  have hrb : (Value.slice A l.length c).ownBlock.toList = rb A := by cases A <;> rfl
  obtain ⟨v', w1, hrun, q1, q2, hiff⟩ := Lib.run_append_own_string (P := P) w base t u ty e i ht hu hi hz hs hb _ _ xs hown s (by unfold maxLen; omega) hb2 hbase
  have q2 := Keeps.of_grownBy q2
  rw [hrb] at q2
  obtain ⟨A', c', rfl⟩ : ∃ A' c', v' = .slice A' (l.length + s.size) c' := by
    rcases q1.2 with ⟨hv, hh⟩ | ⟨g, cap, cur, rfl, _⟩
    · exact ⟨none, 0, by rw [hv, hh]⟩
    · exact ⟨_, _, rfl⟩
  refine ⟨A', c', w1, by rw [hlen]; exact hrun, q2, ?_, hrow w1 A' c' q1⟩
  have new : ∀ (n c2 : Nat) (o : Obj), (Builtin.append_ #[t, u] ty #[.slice A l.length c, .string s]).run P w = .ok (.slice (some ⟨w.heap.size, 0, none⟩) n c2) (w.drew.alloc o) → rb A' = [w.heap.size] ∧ w.heap.size < w1.heap.size := fun n c2 o hr => by
    rw [hrun] at hr
    simp only [Result.ok.injEq, Value.slice.injEq] at hr
    obtain ⟨⟨rfl, _, _⟩, rfl⟩ := hr
    exact ⟨rfl, by simp⟩
  rcases hown.2 with ⟨hv, hh⟩ | ⟨g, cap, cur, hv, _, hg, hnc, hcm, hcs, htake⟩
  · simp only [Value.slice.injEq] at hv
    obtain ⟨rfl, h0, rfl⟩ := hv
    by_cases hm : s.size = 0
    · have := hiff.2 ⟨by rw [h0], hm⟩
      simp only [Value.slice.injEq] at this
      rw [this.1]; exact .inl rfl
    · have hr := run_append_nil_string (P := P) w t u ty e i (.int .u8 0) ht hu hi hz s (by omega) (by omega) (by rw [hb]; omega)
      rw [h0] at new
      exact .inr (new _ _ _ hr)
  · simp only [Value.slice.injEq] at hv
    obtain ⟨rfl, _, rfl⟩ := hv
    by_cases hroom : l.length + s.size ≤ c
    · have hcs' : cur.size = c := by simpa using hcs
      have hr := Lib.run_append_room_string (P := P) w t u ty e i ht hu hi hs g l.length c cur hg s hroom (by omega)
      rw [hrun] at hr
      simp only [Result.ok.injEq, Value.slice.injEq] at hr
      rw [hr.1.1]; exact .inl rfl
    · have holds : ∀ j u, xs[j]? = some u → w.cell? ((⟨g, 0, none⟩ : Addr).add j) = some u := hown.cells (g := g) rfl
      have hr := Lib.run_append_grow_string (P := P) w t u ty e i (.int .u8 0) ht hu hi hz ⟨g, 0, none⟩ l.length c xs (by rw [hs]; simpa using hxl) holds s (by omega) (by omega) (by rw [hb]; exact growslice_fits (by omega) (by omega))
      exact .inr (new _ _ _ hr)
theorem index_run {t : TypeId} (ht : P.underlying t = some .string) (s : ByteArray) (k : IntKind) {i : Int} (h : inb i s.size = true) (w : World) : (Instr.index t (.string s) (.int k i)).run P w = .ok (.int .u8 (rdB s i)) w := by
  have h2 := inb_spec h
  rw [run_index_string w t s k i ht, dif_pos h2]
  simp [rdB, h2.1, h2.2, show i.toNat < s.size by omega]
end
section
variable {F : Fence} {m : Nat} {P : Program} {S0 : Nat → Prop} {pm : List Nat} {w00 w w0 : World} {own : List Nat} {mine l1 l2 : List (List Nat)} {n : Nat} {σ : S} {ns : List Nat} {a : Act} {o : Oper} {ops : Array Oper}
  {Q : Exit → Act → World → Prop} {rest : List Oper} {e : TypeId} {base : Nat}
theorem appendS_ (hF : FOpen F) {A : Option Addr} (hE : Ep pm w00 w ns (l1 ++ rb A :: l2)) (hI : Inv w ns n σ ns a w) (hw : Region.wanted o (yielded ops a.tmps) = true) {s x : Operand} {t u : TypeId} (hop : o.op = .call { callee := .builtin .append, args := #[s, x], argTypes := #[t, u] })
    {c : Nat} {l : List Int} (hs : oEnv σ.env [] s = some (.v (.slice A l.length c))) {y : ByteArray} (hx : oEnv σ.env [] x = some (.v (.string y)))
    (hrow : Row (Kd.int .u8) e (Lo S0 w00 w ns (l1 ++ rb A :: l2)) w base A c l) (hbase : base ≤ w.heap.size)
    (ht : P.underlying t = some (.slice e)) (hu : P.underlying u = some .string) (hzi : zinf P e = some (.int .u8 0, 1, 1)) (hb2 : l.length + (bytesI y).length ≤ 140737488355328)
    (σ2 : Option Addr → Nat → S) (hput : ∀ A' c', put1 σ n o.dst [] (some (.v (.slice A' (l ++ bytesI y).length c'))) = some (σ2 A' c'))
    (K : ∀ A' c' a' w', (∃ v, a' = a.put o.dst v) → Ep pm w00 w' ns (l1 ++ rb A' :: l2) → Inv w' ns n (σ2 A' c') ns a' w' → (∀ S0, Mv (Lo S0 w00 w ns (l1 ++ rb A :: l2)) w (Lo S0 w00 w' ns (l1 ++ rb A' :: l2)) w') → (∀ b, b ∈ (l1 ++ rb A :: l2).flatten → b ∉ rb A → w'.heap[b]? = w.heap[b]?) →
      Row (Kd.int .u8) e (Lo S0 w00 w' ns (l1 ++ rb A' :: l2)) w' base A' c' (l ++ bytesI y) → wpListIn F m P ops Q rest a' w') : wpListIn F m P ops Q (o :: rest) a w := by
  obtain ⟨i, hi, hz, hsz', hbb⟩ := zinf_spec hzi
  obtain ⟨A', c', w1, hrun, hg, hA', hR⟩ := appendS_run (P := P) (ty := o.type) ht hu hi hz hsz' hbb hrow hbase y hb2
  have hrun' : (execOp a.eval o).run P w = .ok (.value (.slice A' (l ++ bytesI y).length c')) w1 := by
    have e1 := hI.opnd hs rfl
    have e2 := hI.opnd hx rfl
    simp only [EV.den] at e1 e2
    generalize (l ++ bytesI y).length = q at hrun ⊢
    simp [execOp, hop, resolve, invoke, builtin, e1, e2, Result.andThen]
    rw [hrun]
  refine special hF hw (by rw [hop]; intro c hc; cases hc) hrun' ?_
  obtain ⟨q1, q2, q3, q4⟩ := hE.step hI hg (mine' := l1 ++ rb A' :: l2) (by intro b hb; simp [hb]) (set_mem hA') (set_dis hE hA') (.inr hrow.nd)
  exact K A' c' _ _ ⟨_, rfl⟩ q1 (put_v q2 _ (hput _ _)) q3 q4 (hR _)
/-- the sum of two strings -/
theorem cat_ (hF : FOpen F) (hI : Inv w0 own n σ ns a w) (hw : Region.wanted o (yielded ops a.tmps) = true) {T U : TypeId} {x y : Operand} (hop : o.op = .binOp .add T x y U) {s t : ByteArray} (hx : oEnv σ.env [] x = some (.v (.string s))) (hy : oEnv σ.env [] y = some (.v (.string t)))
    (hb : s.size + t.size ≤ 140737488355328) (σ2 : S) (hput : put1 σ n o.dst [] (some (.v (.string (s ++ t)))) = some σ2) (K : ∀ a', (∃ v, a' = a.put o.dst v) → Inv w0 own n σ2 ns a' w → wpListIn F m P ops Q rest a' w) : wpListIn F m P ops Q (o :: rest) a w := by
  refine special hF hw (by rw [hop]; intro c hc; cases hc) (v := .string (s ++ t)) ?_ (K _ ⟨_, rfl⟩ (put_v hI σ2 hput))
  have e1 := hI.opnd hx rfl
  have e2 := hI.opnd hy rfl
  simp only [EV.den] at e1 e2
  have h := run_string_add_sum (P := P) w s t (by omega)
  simp [execOp, hop, e1, e2, Sem.run_bind, eqGuard, binOp, h, Result.andThen]
/-- 'string(n)' -/
theorem enc_ (hF : FOpen F) (hI : Inv w0 own n σ ns a w) (hw : Region.wanted o (yielded ops a.tmps) = true) {src dst : TypeId} {x : Operand} (hop : o.op = .convert src dst x) (hs : (P.underlying src).isSome = true) (hd : P.underlying dst = some .string) {k : IntKind} {i : Int} (hx : oEnv σ.env [] x = some (.v (.int k i)))
    (σ2 : S) (hput : put1 σ n o.dst [] (some (.v (.string (Utf8.encode i)))) = some σ2) (K : ∀ a', (∃ v, a' = a.put o.dst v) → Inv w0 own n σ2 ns a' w → wpListIn F m P ops Q rest a' w) : wpListIn F m P ops Q (o :: rest) a w := by
  refine special hF hw (by rw [hop]; intro c hc; cases hc) (v := .string (Utf8.encode i)) ?_ (K _ ⟨_, rfl⟩ (put_v hI σ2 hput))
  have e1 := hI.opnd hx rfl
  simp only [EV.den] at e1
  have h := run_convert_int_string (P := P) w src dst k i hs hd
  simp [execOp, hop, e1, Sem.run_bind, h, Result.andThen]
/-- a string that is ranged over: where it stands -/
structure ItIs (w : World) (b : Nat) (s : ByteArray) (p : Nat) : Prop where
  is : w.heap[b]? = some (.stringIter s p)
theorem ItIs.keep {w1 : World} {b : Nat} {s : ByteArray} {p : Nat} (h : ItIs w b s p) (hb : w1.heap[b]? = w.heap[b]?) : ItIs w1 b s p := ⟨hb.trans h.is⟩
theorem rangeS_ (hF : FOpen F) (hE : Ep pm w00 w ns mine) (hI : Inv w ns n σ ns a w) (hw : Region.wanted o (yielded ops a.tmps) = true) {t : TypeId} {x : Operand} (hop : o.op = .range t x) (ht : P.underlying t = some .string) {s : ByteArray} (hx : oEnv σ.env [] x = some (.v (.string s)))
    (σ2 : Nat → S) (hput : ∀ b, put1 σ n o.dst [] (some (.v (.pointer (some ⟨b, 0, none⟩)))) = some (σ2 b))
    (K : ∀ b a' w', (∃ v, a' = a.put o.dst v) → Ep pm w00 w' ns (mine ++ [[b]]) → Inv w' ns n (σ2 b) ns a' w' → (∀ S0, Mv (Lo S0 w00 w ns mine) w (Lo S0 w00 w' ns (mine ++ [[b]])) w') → (∀ b', b' ∈ mine.flatten → b' ∉ ([] : List Nat) → w'.heap[b']? = w.heap[b']?) →
      ItIs w' b s 0 → wpListIn F m P ops Q rest a' w') : wpListIn F m P ops Q (o :: rest) a w := by
  have e1 := hI.opnd hx rfl
  simp only [EV.den] at e1
  have h := run_range_string (P := P) w t s ht
  have hrun : (execOp a.eval o).run P w = .ok (.value (.pointer (some ⟨w.heap.size, 0, none⟩))) (w.alloc (.stringIter s 0)) := by
    simp [execOp, hop, e1, Sem.run_bind, h, Result.andThen]
    rfl
  refine special hF hw (by rw [hop]; intro c hc; cases hc) hrun ?_
  obtain ⟨q1, q2, q3, q4⟩ := hE.step hI (grownBy_alloc w (.stringIter s 0)) (mine' := mine ++ [[w.heap.size]]) (by intro b hb; cases hb) (add_mem (by simp)) (add_dis hE) (.inr (by intro b hb; cases hb))
  exact K w.heap.size _ _ ⟨_, rfl⟩ q1 (put_v q2 _ (hput _)) q3 q4 ⟨heap_alloc_new w _⟩
/-- the world with the string's range moved on -/
def itAt (w : World) (k : Nat) (s : ByteArray) (pos : Nat) : World := { w with heap := w.heap.setIfInBounds k (.stringIter s pos) }
theorem nextS_run (w : World) (k : Nat) (s : ByteArray) (pos : Nat) (ty : TypeId) (hk : w.heap[k]? = some (.stringIter s pos)) (h : pos < s.size) :
    (Instr.next (.pointer (some ⟨k, 0, none⟩)) true ty).run P w = .ok (.tuple #[.bool true, .int .i64 pos, .int .i32 (Utf8.decode s pos).1]) (itAt w k s (pos + (Utf8.decode s pos).2)) := by
  simp only [Instr.next, getObj, setObj, Sem.run_bind, Sem.run, hk, Result.andThen, h, if_true]
  simp [goInt, itAt]
theorem nextS_end (w : World) (k : Nat) (s : ByteArray) (pos : Nat) (ty : TypeId) (hk : w.heap[k]? = some (.stringIter s pos)) (h : ¬ pos < s.size) :
    (Instr.next (.pointer (some ⟨k, 0, none⟩)) true ty).run P w = .ok (.tuple #[.bool false]) w := by
  simp [Instr.next, getObj, Sem.run, hk, h]
theorem itAt_heap (w : World) (k : Nat) (s : ByteArray) (pos pos' : Nat) (hk : w.heap[k]? = some (.stringIter s pos)) : (itAt w k s pos').heap[k]? = some (.stringIter s pos') := by
  have hlt : k < w.heap.size := (Array.getElem?_eq_some_iff.1 hk).1
  simp [itAt, hlt]
theorem itAt_other (w : World) (k j : Nat) (s : ByteArray) (pos : Nat) (h : j ≠ k) : (itAt w k s pos).heap[j]? = w.heap[j]? := by
  simp [itAt, Ne.symm h]
theorem nextS_ (hF : FOpen F) (hE : Ep pm w00 w ns mine) (hI : Inv w ns n σ ns a w) (hw : Region.wanted o (yielded ops a.tmps) = true) {x : Operand} (hop : o.op = .next x true) {b : Nat} (hmem : b ∈ mine.flatten) {s : ByteArray} {p : Nat} (hm : ItIs w b s p) (hx : oEnv σ.env [] x = some (.v (.pointer (some ⟨b, 0, none⟩))))
    (σT σF : S) (hT : put1 σ n o.dst [] (some (.v (.tuple #[.bool true, .int .i64 p, .int .i32 (Utf8.decode s p).1]))) = some σT) (hFa : put1 σ n o.dst [] (some (.v (.tuple #[.bool false]))) = some σF)
    (KT : ∀ a' w', decide (p < s.size) = true → (∃ v, a' = a.put o.dst v) → Ep pm w00 w' ns mine → Inv w' ns n σT ns a' w' → (∀ S0, Mv (Lo S0 w00 w ns mine) w (Lo S0 w00 w' ns mine) w') → (∀ b', b' ∈ mine.flatten → b' ∉ [b] → w'.heap[b']? = w.heap[b']?) →
      ItIs w' b s (p + (Utf8.decode s p).2) → wpListIn F m P ops Q rest a' w')
    (KF : ∀ a', decide (p < s.size) = false → Inv w ns n σF ns a' w → wpListIn F m P ops Q rest a' w) : wpListIn F m P ops Q (o :: rest) a w := by
  have e1 := hI.opnd hx rfl
  simp only [EV.den] at e1
  by_cases hp : p < s.size
  · have h := nextS_run (P := P) w b s p o.type hm.is hp
    have hrun : (execOp a.eval o).run P w = .ok (.value (.tuple #[.bool true, .int .i64 p, .int .i32 (Utf8.decode s p).1])) (itAt w b s (p + (Utf8.decode s p).2)) := by
      simp [execOp, hop, e1, Sem.run_bind, h, Result.andThen]
    refine special hF hw (by rw [hop]; intro c hc; cases hc) hrun ?_
    obtain ⟨q1, q2, q3, q4⟩ := hE.step hI (w1 := itAt w b s (p + (Utf8.decode s p).2)) (row := [b]) ⟨rfl, rfl, rfl, by simp [itAt], fun k hk hne => itAt_other w b k s _ (by simpa using hne)⟩ (mine' := mine) (by intro b' hb; simp at hb; subst hb; exact hmem) same_mem hE.dis (.inr (by intro b' hb q hq; simp at hb; subst hb; rw [hm.is] at hq; cases hq))
    exact KT _ _ (decide_eq_true hp) ⟨_, rfl⟩ q1 (put_v q2 _ hT) q3 q4 ⟨itAt_heap w b s p _ hm.is⟩
  · have h := nextS_end (P := P) w b s p o.type hm.is hp
    have hrun : (execOp a.eval o).run P w = .ok (.value (.tuple #[.bool false])) w := by
      simp [execOp, hop, e1, Sem.run_bind, h, Result.andThen]
    exact special hF hw (by rw [hop]; intro c hc; cases hc) hrun (KF _ (decide_eq_false hp) (put_v hI _ hFa))
end

/-! ### a row's bytes as a string; a row that is copied onto itself -/
section
variable {P : Program} {e : TypeId} {S : Nat → Prop} {w : World} {base c : Nat} {A : Option Addr} {l : List Int} {kk : IntKind}
theorem strof_run {src dst : TypeId} (hs : P.underlying src = some (.slice e)) (he : P.underlying e = some (.int .u8)) (hd : P.underlying dst = some .string) (h : Arr (Kd.int .u8) S w A l) (n : Nat) (hn : n = l.length) :
    (convert src dst (.slice A n c)).run P w = .ok (.string (bytesOf l)) w := by
  subst hn
  rw [run_convert_bytes_string _ src dst e _ _ _ hs he hd]
  cases A with
  | none =>
    have := h.nil_of
    subst this
    rfl
  | some ad =>
    have hl := run_loadCells_list (P := P) w ad (l.map (Value.int .u8)) (fun j v hj => by
      simp only [List.getElem?_map, Option.map_eq_some_iff] at hj
      obtain ⟨x, hx, rfl⟩ := hj
      obtain ⟨sv, _, h2⟩ := h.2 j x hx
      have := h2 0 (.int .u8 x) rfl
      rwa [show j * (Kd.int .u8).sz + 0 = j by simp [Kd.int]] at this)
    rw [List.length_map] at hl
    rw [run_bytesToString w ad l.length c l hl]
    congr 2
    have key : ∀ (l : List Int) (r : ByteArray), l.foldl (fun r n => r.push (UInt8.ofNat n.toNat)) r = ⟨r.data ++ (l.map fun i => i.toNat.toUInt8).toArray⟩ := fun l => by
      induction l with
      | nil => intro r; simp
      | cons x t ih =>
        intro r
        rw [List.foldl_cons, ih]
        apply ByteArray.ext
        simp [ByteArray.push]
    rw [key]
    apply ByteArray.ext
    simp [bytesOf]
theorem sliceN_lo {t : TypeId} {sz : Nat} (ht : P.underlying t = some (.slice e)) (hs : szT P e = some sz) {n : Nat} {k : IntKind} {i : Int} (h0 : 0 ≤ i) (h1 : i ≤ (n : Int)) (w : World) :
    (Instr.sliceAt t (.slice A n c) (some (.int k i)) none none).run P w = .ok (.slice (sdrop A c i.toNat sz) (n - i.toNat) (c - i.toNat)) w := by
  have := slice_lo (P := P) ht hs (A := A) (l := List.replicate n ()) (c := c) (k := k) h0 (by simpa using h1) w
  simpa using this
theorem sliceN_hi {t : TypeId} {sz : Nat} (ht : P.underlying t = some (.slice e)) (hs : szT P e = some sz) {n : Nat} {k : IntKind} {i : Int} (h0 : 0 ≤ i) (h1 : i ≤ (n : Int)) (hc : n ≤ c) (w : World) :
    (Instr.sliceAt t (.slice A n c) none (some (.int k i)) none).run P w = .ok (.slice A i.toNat c) w := by
  have := slice_hi (P := P) ht hs (A := A) (l := List.replicate n ()) (c := c) (k := k) h0 (by simpa using h1) (by simpa using hc) w
  rw [List.length_replicate, List.take_replicate, List.length_replicate, Nat.min_eq_left (by omega)] at this
  exact this
theorem Row.ints : Row (Kd.int kk) e S w base A c l ↔ w.ownsRow base e 1 (.slice A l.length c) l.length (l.map (Value.int kk)) := by
  constructor
  · rintro ⟨xs, h1, h3⟩
    have hxl : xs.length = l.length := by simpa [Kd.int] using h1.1
    have : xs = l.map (Value.int kk) := by
      apply List.ext_getElem?
      intro q
      rw [List.getElem?_map]
      cases hq : l[q]? with
      | none => rw [List.getElem?_eq_none_iff] at hq; rw [Option.map_none, List.getElem?_eq_none_iff]; omega
      | some x =>
        obtain ⟨sv, _, h2⟩ := h3 q x hq
        have := h2 0 (.int kk x) rfl
        rwa [show q * (Kd.int kk).sz + 0 = q by simp [Kd.int]] at this
    rw [this] at h1
    exact h1
  · intro h
    refine ⟨l.map (Value.int kk), h, fun q x hq => ⟨svL [], trivial, fun j u hj => ?_⟩⟩
    have hj0 : j = 0 := by
      have := (List.getElem?_eq_some_iff.1 hj).1
      simp [Kd.int] at this; omega
    subst hj0
    simp only [Kd.int, List.getElem?_cons_zero, Option.some.injEq] at hj
    subst hj
    rw [show q * (Kd.int kk).sz + 0 = q by simp [Kd.int], List.getElem?_map, hq]; rfl
/-- a row's first elements, laid over it from a place on -/
def cpw (l : List Int) (i j : Nat) : List Int := l.take i ++ l.take (Nat.min j (l.length - i)) ++ l.drop (i + Nat.min j (l.length - i))
theorem cpw_len (l : List Int) {i j : Nat} (hi : i ≤ l.length) (hj : j ≤ l.length) : (cpw l i j).length = l.length := by
  have h1 : Nat.min j (l.length - i) ≤ l.length - i := Nat.min_le_right _ _
  simp only [cpw, List.length_append, List.length_take, List.length_drop]
  omega
theorem copyP_run {t t2 ty : TypeId} (ht : P.underlying t = some (.slice e)) (hs1 : (P.info? e).map (·.size) = some 1) (h : Row (Kd.int kk) e S w base A c l) {i j : Nat} (hi : i ≤ l.length) (hj : j ≤ l.length) :
    ∃ w1, (Builtin.copy_ #[t, t2] ty #[.slice (sdrop A c i 1) (l.length - i) (c - i), .slice A j c]).run P w = .ok (goInt ((Nat.min j (l.length - i) : Nat) : Int)) w1 ∧ Keeps (rb A) w w1 ∧
      ∀ S', Row (Kd.int kk) e S' w1 base A c (cpw l i j) := by
  have hR := Row.ints.1 h
  by_cases h0 : Nat.min j (l.length - i) = 0
  · refine ⟨w, by rw [h0]; exact run_copy_none w t t2 ty e _ A _ _ j c ht hs1 h0, Keeps.refl _ _, fun S' => Row.ints.2 ?_⟩
    have : cpw l i j = l := by unfold cpw; rw [h0]; simp
    rw [this]; exact hR
  · obtain ⟨hlen, h2⟩ := hR
    have hown := Row.ints.1 h
    rcases h2 with ⟨hv, h2⟩ | ⟨g, cap, cur, hv, hge, hblk, hnc, hcm, hcs, htk⟩
    · exfalso
      rw [h2] at hj h0
      have : j = 0 := by omega
      subst this
      exact h0 (Nat.zero_min _)
    simp only [Value.slice.injEq] at hv
    obtain ⟨rfl, _, rfl⟩ := hv
    rw [Nat.mul_one] at hcs htk
    have hm1 : Nat.min j (l.length - i) ≤ j := Nat.min_le_left _ _
    have hm2 : Nat.min j (l.length - i) ≤ l.length - i := Nat.min_le_right _ _
    have hci : c ≠ i := by omega
    have hsd : sdrop (some ⟨g, 0, none⟩) c i 1 = some ⟨g, i, none⟩ := by
      unfold sdrop; rw [if_neg hci]
      simp [add_at]
    generalize hm : Nat.min j (l.length - i) = m at *
    have hcl : ((l.take m).map (Value.int kk)).length = m := by rw [List.length_map, List.length_take]; omega
    have hrun := run_copy_row P w t t2 ty e g i (l.length - i) (c - i) ⟨g, 0, none⟩ j c cur e ((l.take m).map (Value.int kk)) ht hs1 hblk (by rw [hcl, hm]) (fun q v hq => by
      refine hown.cells (g := g) rfl q v ?_
      rw [List.getElem?_map, List.getElem?_take] at hq
      rw [List.getElem?_map]
      split at hq
      · exact hq
      · cases hq) (by rw [hcl]; omega) (fun u hu => by
      obtain ⟨x, _, rfl⟩ := List.mem_map.1 hu
      rfl)
    rw [hcl] at hrun
    refine ⟨w.setRow g (cur.toList.take i ++ (l.take m).map (Value.int kk) ++ cur.toList.drop (i + m)).toArray, by rw [hsd]; exact hrun, ⟨rfl, rfl, rfl, by rw [size_setRow]; exact Nat.le_refl _, fun k hk hne => setRow_other w g k _ (by simpa [rb] using hne)⟩, fun S' => Row.ints.2 ?_⟩
    have hcw : cpw l i j = l.take i ++ l.take m ++ l.drop (i + m) := by unfold cpw; rw [hm]
    have hcwl := cpw_len l hi hj
    refine ⟨by simp [hcwl], .inr ⟨g, c, _, by rw [hcwl], hge, setRow_heap w g cur _ e (0, 0) hblk, by rw [hcwl]; exact hnc, hcm, ?_, ?_⟩⟩
    · have hct : cur.toList.length = c := by simpa using hcs
      simp only [List.size_toArray, List.length_append, hcl, List.length_drop, List.length_take, hct]; omega
    · rw [hcwl, Nat.mul_one, hcw]
      have hct : cur.toList.length = c := by simpa using hcs
      have e1 : cur.toList.take i = (l.take i).map (Value.int kk) := by rw [List.map_take, ← htk, List.take_take, Nat.min_eq_left hi]
      have e2 : (cur.toList.drop (i + m)).take (l.length - (i + m)) = (l.drop (i + m)).map (Value.int kk) := by rw [List.map_drop, ← htk, List.drop_take]
      have hti : (cur.toList.take i ++ (l.take m).map (Value.int kk)).length = i + m := by rw [List.length_append, hcl, List.length_take, hct]; omega
      show (cur.toList.take i ++ (l.take m).map (Value.int kk) ++ cur.toList.drop (i + m)).take l.length = _
      rw [List.take_append, hti, e2, List.take_of_length_le (by rw [hti]; omega), e1]
      simp
end
section
variable {F : Fence} {m : Nat} {P : Program} {S0 : Nat → Prop} {pm : List Nat} {w00 w w0 : World} {own : List Nat} {mine l1 l2 : List (List Nat)} {n : Nat} {σ : S} {ns : List Nat} {a : Act} {o : Oper} {ops : Array Oper}
  {Q : Exit → Act → World → Prop} {rest : List Oper} {e : TypeId} {base : Nat} {kk : IntKind}
/-- 'string(b)' -/
theorem strof_ (hF : FOpen F) (hI : Inv w0 own n σ ns a w) (hw : Region.wanted o (yielded ops a.tmps) = true) {src dst : TypeId} {x : Operand} (hop : o.op = .convert src dst x) (hs : P.underlying src = some (.slice e)) (he : P.underlying e = some (.int .u8)) (hd : P.underlying dst = some .string)
    {A : Option Addr} {q c : Nat} {l : List Int} {X : Nat → Prop} (hx : oEnv σ.env [] x = some (.v (.slice A q c))) (h : Arr (Kd.int .u8) X w A l) (hq : q = l.length)
    (σ2 : S) (hput : put1 σ n o.dst [] (some (.v (.string (bytesOf l)))) = some σ2) (K : ∀ a', (∃ v, a' = a.put o.dst v) → Inv w0 own n σ2 ns a' w → wpListIn F m P ops Q rest a' w) : wpListIn F m P ops Q (o :: rest) a w := by
  refine special hF hw (by rw [hop]; intro c hc; cases hc) (v := .string (bytesOf l)) ?_ (K _ ⟨_, rfl⟩ (put_v hI σ2 hput))
  have e1 := hI.opnd hx rfl
  simp only [EV.den] at e1
  have h := strof_run (P := P) (c := c) hs he hd h q hq
  simp [execOp, hop, e1, Sem.run_bind, h, Result.andThen]
/-- 'copy(r[i:], r[:j])' of a row of numbers -/
theorem copyP_ (hF : FOpen F) {A : Option Addr} (hE : Ep pm w00 w ns (l1 ++ rb A :: l2)) (hI : Inv w ns n σ ns a w) (hw : Region.wanted o (yielded ops a.tmps) = true) {s x : Operand} {t t2 : TypeId} (hop : o.op = .call { callee := .builtin .copy, args := #[s, x], argTypes := #[t, t2] })
    {c L : Nat} {l : List Int} {i j : Nat} (hs : oEnv σ.env [] s = some (.v (.slice (sdrop A c i 1) (L - i) (c - i)))) (hx : oEnv σ.env [] x = some (.v (.slice A j c))) (hL : l.length = L)
    (hrow : Row (Kd.int kk) e (Lo S0 w00 w ns (l1 ++ rb A :: l2)) w base A c l) (hi : i ≤ L) (hj : j ≤ L)
    (ht : P.underlying t = some (.slice e)) (hs1 : (P.info? e).map (·.size) = some 1)
    (σ2 : S) (hput : put1 σ n o.dst [] (some (.v (goInt ((Nat.min j (L - i) : Nat) : Int)))) = some σ2)
    (K : ∀ a' w', (∃ v, a' = a.put o.dst v) → Ep pm w00 w' ns (l1 ++ rb A :: l2) → Inv w' ns n σ2 ns a' w' → (∀ S0, Mv (Lo S0 w00 w ns (l1 ++ rb A :: l2)) w (Lo S0 w00 w' ns (l1 ++ rb A :: l2)) w') → (∀ b, b ∈ (l1 ++ rb A :: l2).flatten → b ∉ rb A → w'.heap[b]? = w.heap[b]?) →
      Row (Kd.int kk) e (Lo S0 w00 w' ns (l1 ++ rb A :: l2)) w' base A c (cpw l i j) → wpListIn F m P ops Q rest a' w') : wpListIn F m P ops Q (o :: rest) a w := by
  subst hL
  obtain ⟨w1, hrun, hg, hR⟩ := copyP_run (P := P) (t2 := t2) (ty := o.type) ht hs1 hrow hi hj
  have hrun' : (execOp a.eval o).run P w = .ok (.value (goInt ((Nat.min j (l.length - i) : Nat) : Int))) w1 := by
    have e1 := hI.opnd hs rfl
    have e2 := hI.opnd hx rfl
    simp only [EV.den] at e1 e2
    generalize (Nat.min j (l.length - i) : Nat) = q1 at hrun ⊢
    generalize l.length - i = q at hrun e1
    simp [execOp, hop, resolve, invoke, builtin, e1, e2, Result.andThen]
    rw [hrun]
  refine special hF hw (by rw [hop]; intro c hc; cases hc) hrun' ?_
  obtain ⟨q1, q2, q3, q4⟩ := hE.step hI hg (mine' := l1 ++ rb A :: l2) (by intro b hb; simp [hb]) (same_mem) hE.dis (.inr hrow.nd)
  exact K _ _ ⟨_, rfl⟩ q1 (put_v q2 _ hput) q3 q4 (hR _)
end
/-! ### a package variable, told as a whole block -/
def kdG (i : Nat) (cs : Array Value) : Kd Unit := ⟨1, fun _ _ => [cs.getD 0 undef], fun S w _ _ => S i ∧ ∃ T fz, w.heap[i]? = some (.cells cs T fz), fun _ _ => rfl, Nat.one_pos, fun h hk => by
  obtain ⟨hs, T, fz, hh⟩ := h
  obtain ⟨h1, h2⟩ := hk i hs ⟨(Array.getElem?_eq_some_iff.1 hh).1, cs, T, fz, hh⟩
  exact ⟨h1, T, fz, h2.trans hh⟩⟩
theorem kdG_of {P : Program} {n : String} {g : Nat} {cs gv : Array Value} {w : World} (hg : P.globalNamed n = some g) (hv : w.var? P n = some cs) (he : cs = gv) (h0 : 0 < gv.size) : El (kdG g gv) (fun _ => True) w ⟨g, 0, none⟩ () (svL []) := by
  subst he
  have hc := World.var?_cell hg hv 0
  have hb : ∃ T fz, w.heap[g]? = some (.cells cs T fz) := by
    simp only [World.var?, hg, Option.bind_some] at hv
    split at hv
    · rename_i c T fz hh
      simp only [Option.some.injEq] at hv
      subst hv
      exact ⟨T, fz, hh⟩
    · cases hv
  refine ⟨⟨trivial, hb⟩, trivial, fun j v hj => ?_⟩
  cases j with
  | zero =>
    simp only [kdG, List.getElem?_cons_zero, Option.some.injEq] at hj
    subst hj
    rw [show ((⟨g, 0, none⟩ : Addr).add 0) = ⟨g, 0, none⟩ by simp [add_at], hc]
    simp [Array.getD, h0]
  | succ j => simp [kdG] at hj
theorem kdG_var {P : Program} {n : String} {g : Nat} {cs : Array Value} {w : World} {S : Nat → Prop} {B : Addr} {sv : SV} (h : El (kdG g cs) S w B () sv) (hg : P.globalNamed n = some g) : w.var? P n = some cs := by
  obtain ⟨_, T, fz, hh⟩ := h.cont
  simp [World.var?, hg, hh]
section
variable {F : Fence} {m : Nat} {P : Program} {w w0 : World} {own : List Nat} {n : Nat} {σ : S} {ns : List Nat} {a : Act} {o : Oper} {ops : Array Oper} {Q : Exit → Act → World → Prop} {rest : List Oper}
theorem move_ (hF : FOpen F) (hI : Inv w0 own n σ ns a w) (hw : Region.wanted o (yielded ops a.tmps) = true) {x : Operand} (hop : o.op = .assign x ∨ o.op = .move x) {v : Value} (hx : oEnv σ.env [] x = some (.v v)) (σ2 : S) (hput : put1 σ n o.dst [] (some (.v v)) = some σ2)
    (K : ∀ a', (∃ v, a' = a.put o.dst v) → Inv w0 own n σ2 ns a' w → wpListIn F m P ops Q rest a' w) : wpListIn F m P ops Q (o :: rest) a w := by
  have e1 := hI.opnd hx rfl
  simp only [EV.den] at e1
  refine special hF hw (by rcases hop with h | h <;> (rw [h]; intro c hc; cases hc)) (v := v) ?_ (K _ ⟨_, rfl⟩ (put_v hI σ2 hput))
  rcases hop with h | h <;> simp [execOp, h, e1, Sem.run_pure]
end
end Go.Eng
