/- Walks of the seat's functions. No statement is proved here. Conditions: none. -/
import Derived.Test.YtmchkeflhpojmaaDoorProg
import Derived.Test.YtmchkeflhpojmaaDoorEng
import Derived.Test.YtmchkeflhpojmaaDoorSh
set_option linter.unusedVariables false
set_option linter.unusedSimpArgs false
set_option maxRecDepth 100000
set_option maxHeartbeats 4000000
namespace Go.Proofs.YtmchkeflhpojmaaDoor
open Go Go.RowKit Go.Eng Go.Proofs

structure Strings_Builder where
  addr : Bool
  buf : (List Int)
  buf_on : Bool
  deriving Inhabited, DecidableEq
def kd_Strings_Builder : Kd Strings_Builder := ⟨2, fun x sv => [.pointer (sv 0).1, .slice (sv 1).1 (sv 2).2 (sv 1).2], fun S w x sv => True, fun _ _ => rfl, Nat.le_of_ble_eq_true rfl, fun h hk => trivial⟩
def lv_Strings_Builder (S : Nat → Prop) (w : World) (b : Nat) (x : Strings_Builder) (sv : SV) (F : List Nat) : Prop := F = ([] : List Nat) ++ ((bif x.buf_on then rb (sv 1).1 else []) ++ ([])) ∧ ((sv 0).1 = bif x.addr then some (⟨b, 0, none⟩ : Addr) else none) ∧ (x.buf_on = true → Row (Kd.int .u8) 5 S w 0 (sv 1).1 (sv 1).2 x.buf ∧ x.buf.length = (sv 2).2) ∧ True
theorem lvk_Strings_Builder {S S' : Nat → Prop} {w w' : World} {b : Nat} {x : Strings_Builder} {sv : SV} {F : List Nat} (h : lv_Strings_Builder S w b x sv F) (hk : Mv S w S' w') (hb : ∀ b ∈ F, w'.heap[b]? = w.heap[b]?) : lv_Strings_Builder S' w' b x sv F := by
  obtain ⟨hF, h0, h1, _⟩ := h
  exact ⟨hF, h0, fun hx => ⟨Row.keep (h1 hx).1 hk (fun c hc => hb c (hF ▸ List.mem_append_right _ (List.mem_append_left _ (by rw [hx]; exact hc)))), (h1 hx).2⟩, trivial⟩
theorem lvn_Strings_Builder {S : Nat → Prop} {w : World} {b : Nat} {x : Strings_Builder} {sv : SV} {F : List Nat} (h : lv_Strings_Builder S w b x sv F) : ∀ b ∈ F, b < w.heap.size ∧ ∀ q, w.heap[b]? ≠ some (.deferred q) := by
  obtain ⟨hF, h0, h1, _⟩ := h
  intro c hc
  rw [hF] at hc
  rcases List.mem_append.1 hc with hc | hc
  · cases hc
  rcases List.mem_append.1 hc with hc | hc
  · cases hx : x.buf_on with
    | false => rw [hx] at hc; cases hc
    | true => rw [hx] at hc; exact (h1 hx).1.ndl c hc
  cases hc
def lk_Strings_Builder : Lk Strings_Builder := ⟨kd_Strings_Builder, 45, lv_Strings_Builder, fun h hk hb => lvk_Strings_Builder h hk hb, fun h => lvn_Strings_Builder h⟩
inductive Fn46 where
  | nil

  deriving Inhabited, DecidableEq
def fnv46 (x : Fn46) (sv : SV) : Value := match x with
  | .nil => .nilIface

def fnc46 (S : Nat → Prop) (w : World) (x : Fn46) (sv : SV) : Prop := match x with
  | .nil => True

theorem fnk46 {S S' : Nat → Prop} {w w' : World} {x : Fn46} {sv : SV} (h : fnc46 S w x sv) (hk : ∀ b, S b → IsC w b → S' b ∧ w'.heap[b]? = w.heap[b]?) : fnc46 S' w' x sv := by
  cases x with
  | nil => exact trivial

theorem fn1_46 (x : Fn46) (sv : SV) : (fnv46 x sv).oneCell' = true := by cases x <;> rfl
theorem fnr46 {S : Nat → Prop} {w : World} {x y : Fn46} {sv : SV} (h : fnc46 S w x sv) (e : x = y) : fnc46 S w y sv := e ▸ h
def kdF46 : Kd Fn46 := ⟨1, fun x sv => [fnv46 x sv], fun S w x sv => fnc46 S w x sv, fun _ _ => rfl, Nat.one_pos, fun h hk => fnk46 h hk⟩
theorem kd_one_F46 (x : Fn46) (sv : SV) (u : Value) (hu : u ∈ kdF46.cells x sv) : u.oneCell' = true := by
  simp only [kdF46, List.mem_singleton] at hu
  subst hu; exact fn1_46 x sv
def Fn46.on {ρ : Type} (x : Fn46) (a0 : Option ρ) : Option ρ := match x with
  | .nil => a0

theorem Fn46.split {ρ : Type} {x : Fn46} {a0 : Option ρ} {r : ρ} (h : x.on a0 = some r) : (x = .nil ∧ a0 = some r) := by
  cases x with
  | nil => exact ⟨rfl, h⟩
structure Portholeref30_Run where
  Act : Int
  Many : Int
  deriving Inhabited, DecidableEq
def kd_Portholeref30_Run : Kd Portholeref30_Run := ⟨2, fun x sv => [.int .i64 x.Act, .int .i64 x.Many], fun S w x sv => True, fun _ _ => rfl, Nat.le_of_ble_eq_true rfl, fun h hk => trivial⟩
theorem kd_one_Portholeref30_Run (x : Portholeref30_Run) (sv : SV) (u : Value) (hu : u ∈ kd_Portholeref30_Run.cells x sv) : u.oneCell' = true := by
  simp only [kd_Portholeref30_Run, List.mem_cons, List.not_mem_nil, or_false] at hu
  rcases hu with rfl | rfl
  all_goals rfl


def wf_Portholeref30_Run (x : Portholeref30_Run) : Prop := (InK .i64) x.Act ∧ (InK .i64) x.Many
theorem op_Portholeref30_Run : Opn Tryd.prog 30 kd_Portholeref30_Run wf_Portholeref30_Run := by
  refine ⟨by kernel_rfl, fun h => ?_⟩
  obtain ⟨xs, m, _, _, hlen, hxs, hf⟩ := DataW.trod_struct Tryd.underlying30 h
  obtain ⟨v0, s0, c0, k0, w0⟩ := opn_field hf hxs 0 _ rfl (Opn.int Tryd.underlying3 (by kernel_rfl))
  obtain ⟨v1, s1, c1, k1, w1⟩ := opn_field hf hxs 1 _ rfl (Opn.int Tryd.underlying3 (by kernel_rfl))
  exact ⟨⟨v0, v1⟩, svL [], (pieces_eq [1, 1] hlen (by kernel_rfl)).trans (app2 c0 (app2 c1 rfl)), trivial, ⟨w0, w1⟩⟩
def eqb_Portholeref30_Run (x y : Portholeref30_Run) : Bool := (x.Act == y.Act && (x.Many == y.Many && (true)))
theorem eqt_Portholeref30_Run (d : Nat) (x y : Portholeref30_Run) (w : World) : (Op.equalIn (d + 2) 30 (.agg ((kd_Portholeref30_Run).cells x (svL [])).toArray) (.agg ((kd_Portholeref30_Run).cells y (svL [])).toArray)).run Tryd.prog w = .ok (eqb_Portholeref30_Run x y) w :=
  eqA_of Tryd.underlying30 (by kernel_rfl) (eqf_cons rfl (part_one (by kernel_rfl) rfl w) (part_one (by kernel_rfl) rfl w) (eqi_int Tryd.underlying3 _ _ (d + 0) w) (eqf_cons rfl (part_one (by kernel_rfl) rfl w) (part_one (by kernel_rfl) rfl w) (eqi_int Tryd.underlying3 _ _ (d + 0) w) eqf_nil))

noncomputable def G_pack_Runs (l0 : (List Int)) : Option ((List Int)) := some l0
theorem G_pack_Runs.calls (l0 : (List Int)) (A0 : Option Addr) (c0 : Nat) (w : World) {S : Nat → Prop} (hr0 : Arr (Kd.int .i64) S w A0 l0) (hc0 : l0.length ≤ c0) (r : (List Int)) (h : G_pack_Runs l0 = some r) :
    Calls Tryd.prog 8 #[.slice A0 l0.length c0] w fun e w' => ∃ sv : SV, e = .returned (.func (.func 15) #[] #[.pointer (some (adr (sv 0).1))]) ∧ Below w.heap.size w w' ∧ El (Kd.slice (Kd.int .i64)) (fun b => w.heap.size ≤ b ∨ S b) w' (adr (sv 0).1) r (svO sv 1) := by
  replace hr0 := Arr.lo hr0
  unfold G_pack_Runs at h
  have H0 := h
  clear h
  refine enter Tryd.func8 rfl [.slice A0 l0.length c0] (n := 4) rfl (Nat.le_of_ble_eq_true rfl) (fun a hI => ?_)
  have hF : FOpen Fence.wide := .inl rfl
  have hE := Ep.start w
  refine sr0_ hF hI (s_ [e_ 2 (.nilFunc), p_ 1 0 0] [([.v (.slice A0 l0.length c0)], 22)]) (by kernel_rfl) (fun ns_1 a w_2 hI => ?_)
  refine wpIn_seq ?_
  refine wpIn_region_lit ?_
  obtain ⟨hE', hmv, hmr⟩ := Ep.rebase hE hI
  replace hr0 := Arr.keep hr0 (hmv _)
  replace hE := hE'
  replace hI := hI.rebase
  clear hE' hmv hmr
  have hct := contI (S := Lo S w w_2 ns_1 []) (w := w_2) (d := (Kd.slice (Kd.int .i64))) (x := l0) (sv := (svL [(A0, c0)])) ⟨hr0, hc0⟩
  obtain ⟨B_3, ns_5, hE', hI', hmv, hB_4⟩ := freeze_ (d := (Kd.slice (Kd.int .i64))) hE hI 0 l0 (svL [(A0, c0)]) 22 rfl
  replace hB_4 := hB_4 _ hct
  clear hct
  have hmr : ∀ b ∈ ([] : List (List Nat)).flatten, w_2.heap[b]? = w_2.heap[b]? := fun _ _ => rfl
  replace hr0 := Arr.keep hr0 (hmv _)
  replace hE := hE'
  replace hI := hI'
  clear hE' hI' hmv hmr
  obtain ⟨ns_6, hE', hI', hmv⟩ := hE.cut hI [2, 1] 0 (s_ [e_ 2 (.nilFunc), e_ 1 (.pointer (some B_3))] []) (by kernel_rfl)
  have hmr : ∀ b ∈ ([] : List (List Nat)).flatten, w_2.heap[b]? = w_2.heap[b]? := fun _ _ => rfl
  replace hr0 := Arr.keep hr0 (hmv _)
  replace hB_4 := El.keep hB_4 (hmv _)
  replace hE := hE'
  replace hI := hI'
  clear hE' hI' hmv hmr
  refine chunkL_ (live := [3, 2, 1]) (orc := []) hF 1 hI (s_ [e_ 3 (.func (.func 15) #[] #[.pointer (some B_3)]), e_ 2 (.nilFunc), e_ 1 (.pointer (some B_3))] []) [] rfl (by kernel_rfl) trivial (fun ns_7 a w_8 hI => ?_)
  refine ckn0_ hF 1 hI [2] [e_ 2 (.func (.func 15) #[] #[.pointer (some B_3)])] [] rfl (by kernel_rfl) (fun ns_9 a w_10 hI => ?_)
  refine wpListIn_nil ?_
  refine then_normal ?_
  refine wpIn_ret ?_
  obtain rfl := Option.some.inj H0
  exact ret1 hI rfl rfl ⟨svL [(some B_3, 0), ((svL [(A0, c0)]) 0)], rfl, hE.below hI, ⟨(El.keep hB_4 (hE.out hI)).cont, (El.keep hB_4 (hE.out hI)).at_, (El.keep hB_4 (hE.out hI)).cells⟩⟩

def G_pack_Runs_1.enc : (Int × Int) → SV → List Value := fun y sv => [.int .i64 y.1, .int .i64 y.2]
def G_pack_Runs_1.fct : (Nat → Prop) → World → (Int × Int) → SV → Prop := fun X w y sv => True
noncomputable def G_pack_Runs_1.b2 {σt R : Type} (bd : σt → (Int × Int) → Option (Stp σt R)) (s0 : σt) (y1 : (List Int)) (s1 : Int × σt) (s2 : Int × σt) : Option (Stp (Int × σt) (Ex (Int × σt) (Stp σt R))) := (req (imp (decide (s2.1 < (y1.length : Int))) (inb s2.1 y1.length)) (req (imp (decide (s2.1 < (y1.length : Int))) (inb s1.1 y1.length)) (bif (decide (s2.1 < (y1.length : Int)) && ((rd y1 s2.1) == (rd y1 s1.1))) then some (.next ((IntKind.i64.wrap (s2.1 + 1)), s2.2)) else some (.out (.brk (s2.1, s2.2))))))
noncomputable def G_pack_Runs_1.b1 {σt R : Type} (bd : σt → (Int × Int) → Option (Stp σt R)) (s0 : σt) (y1 : (List Int)) (s1 : Int × σt) : Option (Stp (Int × σt) (Ex (Int × σt) (Stp σt R))) := (bif decide (s1.1 < (y1.length : Int)) then ((loopω (G_pack_Runs_1.b2 bd s0 y1 s1) (s1.1, s1.2)).bind fun o => o.on (fun s2 => (req (inb s1.1 y1.length) ((bd s2.2 ((rd y1 s1.1), (IntKind.i64.wrap (s2.1 - s1.1)))).bind fun z => z.on (fun s_30 => some (.next (s2.1, s_30))) (fun r_31 => some (.out (.ret (.out r_31))))))) (fun r => some (.out (.ret r)))) else some (.out (.brk (s1.1, s1.2))))
noncomputable def G_pack_Runs_1 {σt R : Type} (bd : σt → (Int × Int) → Option (Stp σt R)) (s0 : σt) (y1 : (List Int)) : Option (Stp σt R) := ((loopω (G_pack_Runs_1.b1 bd s0 y1) (0, s0)).bind fun o => o.on (fun s1 => some (.next s1.2)) (fun r => some r))
theorem G_pack_Runs_1.calls {σt R : Type} (bd : σt → (Int × Int) → Option (Stp σt R)) (s0 : σt) (y1 : (List Int)) (B1 : Addr) (sv1 : SV) (l : Nat) (w : World) {S : Nat → Prop} (hB1 : El (Kd.slice (Kd.int .i64)) S w B1 y1 sv1) {J : σt → (Nat → Prop) → World → Prop} {Jx : R → World → Prop} (hq : SeqH Tryd.prog l G_pack_Runs_1.enc G_pack_Runs_1.fct bd J Jx) (hJ : J s0 S w) (r : Stp σt R) (h : G_pack_Runs_1 bd s0 y1 = some r) :
    Calls Tryd.prog 15 #[.func (.yield l) #[] #[], .pointer (some B1)] w fun e w' => (∃ v, e = .returned v) ∧ SeqPost J Jx r w' := by
  replace hB1 := El.lo hB1
  unfold G_pack_Runs_1 at h
  have H0 := h
  clear h
  refine enter Tryd.func15 rfl [.func (.yield l) #[] #[], .pointer (some B1)] (n := 38) rfl (Nat.le_of_ble_eq_true rfl) (fun a hI => ?_)
  have hF : FOpen Fence.wide := .inl rfl
  have hE := Ep.start w
  refine sr0_ hF hI (s_ [e_ 3 (.int .i64 0), e_ 0 (.func (.yield l) #[] #[]), e_ 1 (.pointer (some B1))] []) (by kernel_rfl) (fun ns_1 a w_2 hI => ?_)
  obtain ⟨hE', hmv, hmr⟩ := Ep.rebase hE hI
  replace hB1 := El.keep hB1 (hmv _)
  replace hE := hE'
  replace hI := hI.rebase
  clear hE' hmv hmr
  have hJ' := hq.new _ _ (Tc (Lo S w w_2 ns_1 []) w_2) _ _ hJ (hE.below hI) Tc.new
  obtain ⟨o_39, hL_40, H0⟩ := bind_some H0
  refine block_loop (fun (s1 : Int × σt) a w_41 => ∃ (T : Nat → Prop), (El (Kd.slice (Kd.int .i64)) T w_41 B1 y1 sv1) ∧ J s1.2 T w_41 ∧ St w_41 [] 38 (s_ [e_ 3 (.int .i64 s1.1), e_ 0 (.func (.yield l) #[] #[]), e_ 1 (.pointer (some B1))] []) [] a w_41) (0, s0) hL_40 ⟨_, El.keep hB1 (Tc.mv _ _), hJ', (hI.pick [3, 0, 1] 0 (s_ [e_ 3 (.int .i64 0), e_ 0 (.func (.yield l) #[] #[]), e_ 1 (.pointer (some B1))] []) (by kernel_rfl)).reset rfl rfl rfl _⟩ ?_ ?_
  ·clear hI hE hJ hJ'
   rintro s1 a w ⟨S, hB1, hJ, hI⟩ r1 H1
   unfold G_pack_Runs_1.b1 at H1
   have hE := Ep.start w
   replace hB1 := El.lo hB1
   refine wpIn_seq ?_
   refine sr_ (orc := [[.slice ((sv1 0).1) y1.length ((sv1 0).2)]]) hF hI (s_ [e_ 8 (.bool (decide (s1.1 < (y1.length : Int)))), e_ 3 (.int .i64 s1.1), e_ 0 (.func (.yield l) #[] #[]), e_ 1 (.pointer (some B1))] []) [.cell true B1 [.slice ((sv1 0).1) y1.length ((sv1 0).2)]] (by kernel_rfl) ⟨ob_el (fun _ => hB1) 0 [.slice ((sv1 0).1) y1.length ((sv1 0).2)] rfl, trivial⟩ (fun ns_3 a w_4 hI => ?_)
   refine cond_ hI (decide (s1.1 < (y1.length : Int))) rfl (fun hc_5 => ?_) (fun hc_5 => ?_)
   ·replace H1 := bif_t hc_5 H1
    refine wpIn_skip ?_
    refine then_normal ?_
    refine wpIn_block ?_
    refine srn0_ hF hI [4, 3, 0, 1] [e_ 4 (.int .i64 s1.1)] [] (by kernel_rfl) (fun ns_6 a w_7 hI => ?_)
    refine wpIn_seq ?_
    obtain ⟨hE', hmv, hmr⟩ := Ep.rebase hE hI
    replace hB1 := El.keep hB1 (hmv _)
    replace hE := hE'
    replace hI := hI.rebase
    clear hE' hmv hmr
    have hJ' := hq.new _ _ (Tc (Lo S w w_7 ns_6 []) w_7) _ _ hJ (hE.below hI) Tc.new
    obtain ⟨o_20, hL_21, H1⟩ := bind_some H1
    refine block_loop (fun (s2 : Int × σt) a w_38 => ∃ (T : Nat → Prop), (El (Kd.slice (Kd.int .i64)) T w_38 B1 y1 sv1) ∧ J s2.2 T w_38 ∧ St w_38 [] 38 (s_ [e_ 4 (.int .i64 s2.1), e_ 3 (.int .i64 s1.1), e_ 0 (.func (.yield l) #[] #[]), e_ 1 (.pointer (some B1))] []) [] a w_38) (s1.1, s1.2) hL_21 ⟨_, El.keep hB1 (Tc.mv _ _), hJ', (hI.pick [4, 3, 0, 1] 0 (s_ [e_ 4 (.int .i64 s1.1), e_ 3 (.int .i64 s1.1), e_ 0 (.func (.yield l) #[] #[]), e_ 1 (.pointer (some B1))] []) (by kernel_rfl)).reset rfl rfl rfl _⟩ ?_ ?_
    ·clear hI hE hJ hJ'
     rintro s2 a w ⟨S, hB1, hJ, hI⟩ r2 H2
     unfold G_pack_Runs_1.b2 at H2
     have hE := Ep.start w
     replace hB1 := El.lo hB1
     refine wpIn_seq ?_
     refine wpIn_seq ?_
     obtain ⟨hN_8, H2⟩ := req_some H2
     obtain ⟨sv_9, hE_11, hA_10⟩ := Arr.elB (d := (Kd.int .i64)) (hB1).cont.1 s2.1 (decide (s2.1 < (y1.length : Int))) (fun hg => imp_spec hN_8 hg)
     obtain ⟨hN_12, H2⟩ := req_some H2
     obtain ⟨sv_13, hE_15, hA_14⟩ := Arr.elB (d := (Kd.int .i64)) (hB1).cont.1 s1.1 (decide (s2.1 < (y1.length : Int))) (fun hg => imp_spec hN_12 hg)
     refine drawn_ (live := [24, 4, 3, 0, 1]) (orc := [[.slice ((sv1 0).1) y1.length ((sv1 0).2)], [.slice ((sv1 0).1) y1.length ((sv1 0).2)], [.int .i64 (rd y1 s2.1)], [.slice ((sv1 0).1) y1.length ((sv1 0).2)], [.int .i64 (rd y1 s1.1)]]) hF hI (s_ [e_ 24 (.bool (decide (s2.1 < (y1.length : Int)) && ((rd y1 s2.1) == (rd y1 s1.1)))), e_ 4 (.int .i64 s2.1), e_ 3 (.int .i64 s1.1), e_ 0 (.func (.yield l) #[] #[]), e_ 1 (.pointer (some B1))] []) [.cell true B1 [.slice ((sv1 0).1) y1.length ((sv1 0).2)], .cell (decide (s2.1 < (y1.length : Int))) B1 [.slice ((sv1 0).1) y1.length ((sv1 0).2)], .need (decide (s2.1 < (y1.length : Int))) ((0 : Int) ≤ s2.1 ∧ s2.1 < (y1.length : Int)), .need (decide (s2.1 < (y1.length : Int))) ((sv1 0).1 = some (adr ((sv1 0).1))), .cell (decide (s2.1 < (y1.length : Int))) ((adr ((sv1 0).1)).add ((s2.1 : Int).toNat * 1)) [.int .i64 (rd y1 s2.1)], .cell (decide (s2.1 < (y1.length : Int))) B1 [.slice ((sv1 0).1) y1.length ((sv1 0).2)], .need (decide (s2.1 < (y1.length : Int))) ((0 : Int) ≤ s1.1 ∧ s1.1 < (y1.length : Int)), .need (decide (s2.1 < (y1.length : Int))) ((sv1 0).1 = some (adr ((sv1 0).1))), .cell (decide (s2.1 < (y1.length : Int))) ((adr ((sv1 0).1)).add ((s1.1 : Int).toNat * 1)) [.int .i64 (rd y1 s1.1)]] (by kernel_rfl) (by kernel_rfl) (by kernel_rfl) ⟨ob_el (fun _ => hB1) 0 [.slice ((sv1 0).1) y1.length ((sv1 0).2)] rfl, ob_el (fun _ => hB1) 0 [.slice ((sv1 0).1) y1.length ((sv1 0).2)] rfl, ob_inb (fun hg => imp_spec hN_8 hg), hA_10, ob_el (fun hg => hE_11 hg) 0 [.int .i64 (rd y1 s2.1)] rfl, ob_el (fun _ => hB1) 0 [.slice ((sv1 0).1) y1.length ((sv1 0).2)] rfl, ob_inb (fun hg => imp_spec hN_12 hg), hA_14, ob_el (fun hg => hE_15 hg) 0 [.int .i64 (rd y1 s1.1)] rfl, trivial⟩ (fun a w_16 hI => ?_)
     refine then_normal ?_
     refine cond_ hI ((decide (s2.1 < (y1.length : Int)) && ((rd y1 s2.1) == (rd y1 s1.1)))) rfl (fun hc_17 => ?_) (fun hc_17 => ?_)
     ·replace H2 := bif_t hc_17 H2
      refine wpIn_skip ?_
      refine then_normal ?_
      refine wpIn_block ?_
      refine rg0_ hF hI (s_ [e_ 4 (.int .i64 (IntKind.i64.wrap (s2.1 + 1))), e_ 3 (.int .i64 s1.1), e_ 0 (.func (.yield l) #[] #[]), e_ 1 (.pointer (some B1))] []) (by kernel_rfl) (fun ns_18 a w_19 hI => ?_)
      refine inBlock_normal ?_
      refine then_normal ?_
      obtain ⟨hE', hmv, hmr⟩ := Ep.rebase hE hI
      replace hB1 := El.keep hB1 (hmv _)
      replace hE := hE'
      replace hI := hI.rebase
      clear hE' hmv hmr
      have hJ' := hq.new _ _ (Tc (Lo S w w_19 ns_18 []) w_19) _ _ hJ (hE.below hI) Tc.new
      obtain rfl := Option.some.inj H2
      exact ⟨_, rfl, ⟨_, El.keep hB1 (Tc.mv _ _), hJ', (hI.pick [4, 3, 0, 1] 0 (s_ [e_ 4 (.int .i64 (IntKind.i64.wrap (s2.1 + 1))), e_ 3 (.int .i64 s1.1), e_ 0 (.func (.yield l) #[] #[]), e_ 1 (.pointer (some B1))] []) (by kernel_rfl)).reset rfl rfl rfl _⟩⟩
     ·replace H2 := bif_f hc_17 H2
      refine wpIn_exit ?_
      refine then_exit ?_
      refine then_exit ?_
      obtain ⟨hE', hmv, hmr⟩ := Ep.rebase hE hI
      replace hB1 := El.keep hB1 (hmv _)
      replace hE := hE'
      replace hI := hI.rebase
      clear hE' hmv hmr
      have hJ' := hq.new _ _ (Tc (Lo S w w_16 [] []) w_16) _ _ hJ (hE.below hI) Tc.new
      obtain rfl := Option.some.inj H2
      exact .inl ⟨_, rfl, rfl, ⟨_, El.keep hB1 (Tc.mv _ _), hJ', (hI.pick [4, 3, 0, 1] 0 (s_ [e_ 4 (.int .i64 s2.1), e_ 3 (.int .i64 s1.1), e_ 0 (.func (.yield l) #[] #[]), e_ 1 (.pointer (some B1))] []) (by kernel_rfl)).reset rfl rfl rfl _⟩⟩
    ·clear hI hE hJ hJ'
     rintro s2 a w ho ⟨S, hB1, hJ, hI⟩
     subst ho
     replace H1 : ((req (inb s1.1 y1.length) ((bd s2.2 ((rd y1 s1.1), (IntKind.i64.wrap (s2.1 - s1.1)))).bind fun z => z.on (fun s_30 => some (.next (s2.1, s_30))) (fun r_31 => some (.out (.ret (.out r_31)))))) : Option (Stp (Int × σt) (Ex (Int × σt) (Stp σt R)))) = _ := H1
     have hE := Ep.start w
     replace hB1 := El.lo hB1
     refine then_normal ?_
     refine wpIn_seq ?_
     refine wpIn_seq ?_
     refine wpIn_region_lit ?_
     obtain ⟨hN_22, H1⟩ := req_some H1
     obtain ⟨sv_23, hE_25, hA_24⟩ := Arr.elB (d := (Kd.int .i64)) (hB1).cont.1 s1.1 true (fun _ => hN_22)
     replace hE_25 := hE_25 rfl
     replace hA_24 := fun (_ : true = true) => hA_24 rfl
     refine ck_ (orc := [[.slice ((sv1 0).1) y1.length ((sv1 0).2)], [.int .i64 (rd y1 s1.1)]]) hF 8 hI (s_ [e_ 34 (.int .i64 (IntKind.i64.wrap (s2.1 - s1.1))), e_ 31 (.int .i64 (rd y1 s1.1)), e_ 27 (.func (.yield l) #[] #[]), e_ 4 (.int .i64 s2.1), e_ 0 (.func (.yield l) #[] #[]), e_ 1 (.pointer (some B1))] []) [.cell true B1 [.slice ((sv1 0).1) y1.length ((sv1 0).2)], .need true ((0 : Int) ≤ s1.1 ∧ s1.1 < (y1.length : Int)), .need true ((sv1 0).1 = some (adr ((sv1 0).1))), .cell true ((adr ((sv1 0).1)).add ((s1.1 : Int).toNat * 1)) [.int .i64 (rd y1 s1.1)]] rfl (by kernel_rfl) ⟨ob_el (fun _ => hB1) 0 [.slice ((sv1 0).1) y1.length ((sv1 0).2)] rfl, ob_inb (fun _ => hN_22), hA_24, ob_el (fun _ => hE_25) 0 [.int .i64 (rd y1 s1.1)] rfl, trivial⟩ (fun ns_26 a w_27 hI => ?_)
     obtain ⟨hE', hmv, hmr⟩ := Ep.rebase hE hI
     replace hB1 := El.keep hB1 (hmv _)
     replace hE_25 := El.keep hE_25 (hmv _)
     replace hE := hE'
     replace hI := hI.rebase
     clear hE' hmv hmr
     obtain ⟨hE', hmv⟩ := hE.bare
     replace hB1 := El.keep hB1 (hmv _)
     replace hE_25 := El.keep hE_25 (hmv _)
     replace hE := hE'
     replace hI := hI.reset rfl rfl rfl w_27
     clear hE' hmv
     obtain ⟨z_28, hz_29, H1⟩ := bind_some H1
     refine yield_ (S0 := S) hq hF hE hI rfl rfl rfl (wanted_none rfl) rfl rfl rfl hJ ((rd y1 s1.1), (IntKind.i64.wrap (s2.1 - s1.1))) (svL []) rfl hz_29 trivial (s_ [e_ 35 (.bool true), e_ 34 (.int .i64 (IntKind.i64.wrap (s2.1 - s1.1))), e_ 31 (.int .i64 (rd y1 s1.1)), e_ 27 (.func (.yield l) #[] #[]), e_ 4 (.int .i64 s2.1), e_ 0 (.func (.yield l) #[] #[]), e_ 1 (.pointer (some B1))] []) (s_ [e_ 35 (.bool false), e_ 34 (.int .i64 (IntKind.i64.wrap (s2.1 - s1.1))), e_ 31 (.int .i64 (rd y1 s1.1)), e_ 27 (.func (.yield l) #[] #[]), e_ 4 (.int .i64 s2.1), e_ 0 (.func (.yield l) #[] #[]), e_ 1 (.pointer (some B1))] []) (by kernel_rfl) (by kernel_rfl) (fun S s_30 a w hzz hJ' hE' hI' hmv => ?_) (fun r_31 a w hzz hJ' hE' hI' => ?_)
     ·subst hzz
      replace hB1 := El.lo (El.keep hB1 hmv)
      replace hE_25 := El.lo (El.keep hE_25 hmv)
      replace hE := hE'
      replace hI := hI'
      replace hJ := hJ'
      clear hE' hI' hJ' hmv
      replace H1 : (some (.next (s2.1, s_30)) : Option (Stp (Int × σt) (Ex (Int × σt) (Stp σt R)))) = _ := H1
      refine ck0_ hF 1 hI (s_ [e_ 36 (.bool false), e_ 4 (.int .i64 s2.1), e_ 0 (.func (.yield l) #[] #[]), e_ 1 (.pointer (some B1))] []) rfl (by kernel_rfl) (fun ns_32 a w_33 hI => ?_)
      refine wpListIn_nil ?_
      refine then_normal ?_
      refine cond_ hI false rfl (fun h => by cases h) (fun _ => ?_)
      refine wpIn_skip ?_
      refine then_normal ?_
      refine rgn0_ hF hI [3, 0, 1] [e_ 3 (.int .i64 s2.1)] [] (by kernel_rfl) (fun ns_34 a w_35 hI => ?_)
      refine inBlock_normal ?_
      refine then_normal ?_
      obtain ⟨hE', hmv, hmr⟩ := Ep.rebase hE hI
      replace hB1 := El.keep hB1 (hmv _)
      replace hE_25 := El.keep hE_25 (hmv _)
      replace hE := hE'
      replace hI := hI.rebase
      clear hE' hmv hmr
      have hJ' := hq.new _ _ (Tc (Lo S w w_35 ns_34 []) w_35) _ _ hJ (hE.below hI) Tc.new
      obtain rfl := Option.some.inj H1
      exact ⟨_, rfl, ⟨_, El.keep hB1 (Tc.mv _ _), hJ', (hI.pick [3, 0, 1] 0 (s_ [e_ 3 (.int .i64 s2.1), e_ 0 (.func (.yield l) #[] #[]), e_ 1 (.pointer (some B1))] []) (by kernel_rfl)).reset rfl rfl rfl _⟩⟩
     ·subst hzz
      replace hE := hE'
      replace hI := hI'
      replace hJ := hJ'
      clear hE' hI' hJ'
      replace H1 : (some (.out (.ret (.out r_31))) : Option (Stp (Int × σt) (Ex (Int × σt) (Stp σt R)))) = _ := H1
      refine ck0_ hF 1 hI (s_ [e_ 36 (.bool true), e_ 4 (.int .i64 s2.1), e_ 0 (.func (.yield l) #[] #[]), e_ 1 (.pointer (some B1))] []) rfl (by kernel_rfl) (fun ns_36 a w_37 hI => ?_)
      refine wpListIn_nil ?_
      refine then_normal ?_
      refine cond_ hI true rfl (fun _ => ?_) (fun h => by cases h)
      refine wpIn_ret ?_
      refine then_ret ?_
      refine inBlock_ret ?_
      refine then_ret ?_
      obtain rfl := Option.some.inj H1
      refine .inr ⟨_, rfl, fun ho => ?_⟩
      subst ho
      refine inBlock_ret ?_
      obtain rfl := Option.some.inj H0
      exact retG hI rfl rfl ⟨⟨_, rfl⟩, SeqPost.fin (hq.stop _ _ _ hJ (hE.below hI))⟩
   ·replace H1 := bif_f hc_5 H1
    refine wpIn_exit ?_
    refine then_exit ?_
    refine then_exit ?_
    obtain ⟨hE', hmv, hmr⟩ := Ep.rebase hE hI
    replace hB1 := El.keep hB1 (hmv _)
    replace hE := hE'
    replace hI := hI.rebase
    clear hE' hmv hmr
    have hJ' := hq.new _ _ (Tc (Lo S w w_4 ns_3 []) w_4) _ _ hJ (hE.below hI) Tc.new
    obtain rfl := Option.some.inj H1
    exact .inl ⟨_, rfl, rfl, ⟨_, El.keep hB1 (Tc.mv _ _), hJ', (hI.pick [3, 0, 1] 0 (s_ [e_ 3 (.int .i64 s1.1), e_ 0 (.func (.yield l) #[] #[]), e_ 1 (.pointer (some B1))] []) (by kernel_rfl)).reset rfl rfl rfl _⟩⟩
  ·clear hI hE hJ hJ'
   rintro s1 a w ho ⟨S, hB1, hJ, hI⟩
   subst ho
   replace H0 : (some (.next s1.2) : Option (Stp σt R)) = _ := H0
   have hE := Ep.start w
   replace hB1 := El.lo hB1
   obtain rfl := Option.some.inj H0
   exact retN (retG hI rfl rfl ⟨⟨_, rfl⟩, SeqPost.nxt (fun _ => False) (hq.new _ _ _ _ _ hJ (hE.below hI) (fun _ h => h.elim))⟩)

noncomputable def G_strings_Builder_copyCheck (x0 : Strings_Builder) : Option (Strings_Builder) := some { x0 with addr := true }
theorem G_strings_Builder_copyCheck.calls (x0 : Strings_Builder) (B0 : Nat) (F0 : List Nat) (w : World) {S0_ : Nat → Prop} (ho0 : Ojt lk_Strings_Builder S0_ w B0 x0 F0) (hms : ∀ b, S0_ b → b ∉ ([F0] : List (List Nat)).flatten) (hmd : ([F0] : List (List Nat)).flatten.Nodup) (hml : ∀ b ∈ ([F0] : List (List Nat)).flatten, b < w.heap.size) (r : Strings_Builder) (h : G_strings_Builder_copyCheck x0 = some r) :
    Calls Tryd.prog 24 #[.pointer (some ⟨B0, 0, none⟩)] w fun e w' => ∃ q : SV × (Nat → List Nat), e = .returned (.tuple #[]) ∧ Keeps (([F0] : List (List Nat)).flatten) w w' ∧ Handed w w' (([F0] : List (List Nat)).flatten) [q.2 0] ∧ Ojt lk_Strings_Builder (fun b => b ∉ ([q.2 0] : List (List Nat)).flatten ∧ (w.heap.size ≤ b ∨ S0_ b ∨ b ∈ ([F0] : List (List Nat)).flatten)) w' B0 r (q.2 0) := by
  unfold G_strings_Builder_copyCheck at h
  obtain rfl := Option.some.inj h
  have hoo := ho0
  obtain ⟨sv, F', hF, hob, hlv⟩ := ho0.ex
  subst hF
  have hbk : w.heap[B0]? = some (.cells #[.pointer (sv 0).1, .slice (sv 1).1 (sv 2).2 (sv 1).2] 45 (0, 0)) := hob.blk
  obtain ⟨hF2, ha, hrow, _⟩ := hlv
  have hmB : B0 ∈ ([B0 :: F'] : List (List Nat)).flatten := by simp
  have hnB : ∀ b ∈ F', b ≠ B0 := fun b hb he => by simp at hmd; exact hmd.1 (he ▸ hb)
  have hmv : ∀ w', (∀ b ∈ ([B0 :: F'] : List (List Nat)).flatten, b ∉ F' → b = B0) → (∀ b, b < w.heap.size → b ≠ B0 → w'.heap[b]? = w.heap[b]?) → Mv S0_ w (fun b => b ∉ ([B0 :: F'] : List (List Nat)).flatten ∧ (w.heap.size ≤ b ∨ S0_ b ∨ b ∈ ([B0 :: F'] : List (List Nat)).flatten)) w' := fun w' _ hh b hb hi =>
    ⟨⟨hms b hb, .inr (.inl hb)⟩, hh b hi.1 (fun he => hms b hb (he ▸ hmB))⟩
  have hF3 : ∀ b ∈ ([B0 :: F'] : List (List Nat)).flatten, b ∉ F' → b = B0 := fun b hb hn => by simp at hb; rcases hb with h | h; exact h; exact absurd h hn
  cases hx : x0.addr with
  | true =>
    have ha : (sv 0).1 = some ⟨B0, 0, none⟩ := by rw [ha, hx]; rfl
    refine (Tryd.copyCheck_used B0 w (by unfold World.cell?; simp [hbk, ha])).mono ?_
    rintro e w' ⟨rfl, rfl⟩
    have hxe : { x0 with addr := true } = x0 := by cases x0; simp only at hx; subst hx; rfl
    rw [hxe]
    exact ⟨(svL [], fun _ => B0 :: F'), rfl, Keeps.refl _ _, ⟨fun b hb => ⟨.inr hb, hml b hb⟩, hmd⟩, ho0.keep (hmv _ hF3 fun _ _ _ => rfl) (fun _ _ => rfl)⟩
  | false =>
    have ha : (sv 0).1 = none := by rw [ha, hx]; rfl
    refine (Tryd.copyCheck_fresh B0 w (by unfold World.cell?; simp [hbk, ha]) (by simp [World.shape?, hbk]) (by simp [World.frozen?, hbk])).mono ?_
    rintro e w' ⟨rfl, rfl⟩
    have hk := Keeps.setCell (Keeps.refl (([B0 :: F'] : List (List Nat)).flatten) w) ⟨B0, 0, none⟩ (.pointer (some ⟨B0, 0, none⟩)) (.inl hmB)
    have hot : ∀ b, b ≠ B0 → (w.setCell ⟨B0, 0, none⟩ (.pointer (some ⟨B0, 0, none⟩))).heap[b]? = w.heap[b]? := fun b hb => Below.heap_setCell _ _ _ _ hb
    have hnew : (w.setCell ⟨B0, 0, none⟩ (.pointer (some ⟨B0, 0, none⟩))).heap[B0]? = some (.cells #[.pointer (some ⟨B0, 0, none⟩), .slice (sv 1).1 (sv 2).2 (sv 1).2] 45 (0, 0)) := by
      simp [World.setCell, Array.getElem?_modify, hbk]
    have hm := hmv _ hF3 fun b _ hb => hot b hb
    refine ⟨(svL [], fun _ => B0 :: F'), rfl, hk, ⟨fun b hb => ⟨.inr hb, Nat.lt_of_lt_of_le (hml b hb) hk.size⟩, hmd⟩, ?_⟩
    show Ojt lk_Strings_Builder _ _ B0 _ (B0 :: F')
    exact Ojt.mk' (k := lk_Strings_Builder) (svU sv 0 (some ⟨B0, 0, none⟩, 0)) ⟨trivial, hnew⟩ ⟨hF2, rfl, fun hon => ⟨(hrow hon).1.keep hm (fun c hc => hot c (hnB c (by rw [hF2, hon]; simp; exact hc))), (hrow hon).2⟩, trivial⟩

noncomputable def G_strings_Builder_WriteByte (x0 : Strings_Builder) (a1 : Int) : Option (Fn46 × Strings_Builder) := ((G_strings_Builder_copyCheck x0).bind fun t_5 => (req t_5.buf_on (req (decide ((t_5.buf.length + ([a1] : List Int).length) * 1 ≤ 140737488355328)) (some (Fn46.nil, (⟨t_5.addr, (t_5.buf ++ ([a1] : List Int)), true⟩ : Strings_Builder))))))
theorem G_strings_Builder_WriteByte.calls (x0 : Strings_Builder) (a1 : Int) (B0 : Nat) (F0 : List Nat) (w : World) {S0_ : Nat → Prop} (ho0 : Ojt lk_Strings_Builder S0_ w B0 x0 F0) (hms : ∀ b, S0_ b → b ∉ ([F0] : List (List Nat)).flatten) (hmd : ([F0] : List (List Nat)).flatten.Nodup) (hml : ∀ b ∈ ([F0] : List (List Nat)).flatten, b < w.heap.size) (r : Fn46 × Strings_Builder) (h : G_strings_Builder_WriteByte x0 a1 = some r) :
    Calls Tryd.prog 16 #[.pointer (some ⟨B0, 0, none⟩), .int .u8 a1] w fun e w' => ∃ q : SV × (Nat → List Nat), e = .returned (fnv46 r.1 q.1) ∧ Keeps (([F0] : List (List Nat)).flatten) w w' ∧ Handed w w' (([F0] : List (List Nat)).flatten) [q.2 0] ∧ (kdF46).cont (fun b => b ∉ ([q.2 0] : List (List Nat)).flatten ∧ (w.heap.size ≤ b ∨ S0_ b ∨ b ∈ ([F0] : List (List Nat)).flatten)) w' r.1 q.1 ∧ Ojt lk_Strings_Builder (fun b => b ∉ ([q.2 0] : List (List Nat)).flatten ∧ (w.heap.size ≤ b ∨ S0_ b ∨ b ∈ ([F0] : List (List Nat)).flatten)) w' B0 r.2 (q.2 0) := by
  obtain ⟨S, hSd⟩ : ∃ S : Nat → Prop, S = fun b => S0_ b ∨ b ∈ (([F0] : List (List Nat)).flatten : List Nat) := ⟨_, rfl⟩
  replace ho0 := Ojt.keep ho0 (Mv.startP w hSd hms) (fun _ _ => rfl)
  unfold G_strings_Builder_WriteByte at h
  have H0 := h
  clear h
  refine enter Tryd.func16 rfl [.pointer (some ⟨B0, 0, none⟩), .int .u8 a1] (n := 17) rfl (Nat.le_of_ble_eq_true rfl) (fun a hI => ?_)
  have hF : FOpen Fence.wide := .inl rfl
  have hE := Ep.startM w [F0] hmd hml
  refine sr0_ hF hI (s_ [e_ 4 (.nilIface), e_ 0 (.pointer (some ⟨B0, 0, none⟩)), e_ 1 (.int .u8 a1)] []) (by kernel_rfl) (fun ns_1 a w_2 hI => ?_)
  refine wpIn_seq ?_
  refine wpIn_region_lit ?_
  refine ckn0_ hF 1 hI [5, 4, 0, 1] [e_ 5 (.pointer (some ⟨B0, 0, none⟩))] [] rfl (by kernel_rfl) (fun ns_3 a w_4 hI => ?_)
  obtain ⟨hE', hmv, hmr⟩ := Ep.rebase hE hI
  replace ho0 := Ojt.keep ho0 (hmv _) (fun b hb => hmr b (flat_mem (by simp) hb))
  replace hE := hE'
  replace hI := hI.rebase
  clear hE' hmv hmr
  obtain ⟨t_5, hG_6, H0⟩ := bind_some H0
  have hbs_8 := hE.k.size
  refine callO_ hF hE hI (wanted_none rfl) rfl (args := [.pointer (some ⟨B0, 0, none⟩)]) rfl (enters Tryd.func24 (by kernel_rfl) rfl) (fun q_7 : SV × (Nat → List Nat) => .tuple #[]) [0] (fun q_7 => [q_7.2 0]) _ (G_strings_Builder_copyCheck.calls x0 B0 F0 w_4 (S0_ := Lo S w w_4 ns_3 [F0]) ho0 (Lo.pick [0]) (hE.pick [0] (by decide)) (hE.pickLt [0]) _ hG_6) (.inl rfl) (fun q_7 => (s_ [e_ 6 (.tuple #[]), e_ 5 (.pointer (some ⟨B0, 0, none⟩)), e_ 4 (.nilIface), e_ 0 (.pointer (some ⟨B0, 0, none⟩)), e_ 1 (.int .u8 a1)] [])) (fun q_7 => by kernel_rfl) (fun q_7 a w_9 hput hE' hI' hmv hmr hres hR => ?_)
  replace hmv : ∀ S0, Mv (Lo S0 w w_4 ns_3 [F0]) w_4 (Lo S0 w w_9 ns_3 [(q_7.2 0)]) w_9 := hmv
  replace hmr : ∀ b ∈ ([] : List (List Nat)).flatten, w_9.heap[b]? = w_4.heap[b]? := hmr
  replace hE : Ep ([F0] : List (List Nat)).flatten w w_9 ns_3 [(q_7.2 0)] := hE'
  replace hI := hI'
  clear hE' hI'
  clear hmv hmr
  have ho0 := hR
  replace ho0 := Ojt.keep ho0 (hres _ (fun b hb => by rw [hSd]; exact .inr hb)) (fun _ _ => rfl)
  clear hres
  refine ckn0_ hF 0 hI [4, 0, 1] [] [] rfl (by kernel_rfl) (fun ns_10 a w_11 hI => ?_)
  refine wpListIn_nil ?_
  refine then_normal ?_
  obtain ⟨hE', hmv, hmr⟩ := Ep.rebase hE hI
  replace ho0 := Ojt.keep ho0 (hmv _) (fun b hb => hmr b (flat_mem (by simp) hb))
  replace hE := hE'
  replace hI := hI.rebase
  clear hE' hmv hmr
  obtain ⟨svo_12, F_13, hF_14, ho0, hl_15⟩ := ho0.ex
  obtain ⟨hF_18, hc_16, hc_17, _⟩ := hl_15
  obtain ⟨hE', hmv⟩ := Ep.parts hE 0 [[B0], ([] : List Nat), (bif t_5.buf_on then rb (svo_12 1).1 else [])] (by show (q_7.2 0) = _; rw [hF_14, hF_18]; rfl)
  replace hE : Ep ([F0] : List (List Nat)).flatten w w_11 ns_10 [[B0], ([] : List Nat), (bif t_5.buf_on then rb (svo_12 1).1 else [])] := hE'
  replace hmv : ∀ S0, Mv (Lo S0 w w_11 ns_10 [(q_7.2 0)]) w_11 (Lo S0 w w_11 ns_10 [[B0], ([] : List Nat), (bif t_5.buf_on then rb (svo_12 1).1 else [])]) w_11 := hmv
  have hmr : ∀ b ∈ ([[B0], ([] : List Nat), (bif t_5.buf_on then rb (svo_12 1).1 else [])] : List (List Nat)).flatten, w_11.heap[b]? = w_11.heap[b]? := fun _ _ => rfl
  replace ho0 := Ob1.keep ho0 (hmv _) (hmr _ (by simp))
  replace hc_17 := fun (hon : t_5.buf_on = true) => And.intro (Row.keep (hc_17 hon).1 (hmv _) (fun b hb => hmr b (flat_mem (r := (bif t_5.buf_on then rb (svo_12 1).1 else [])) (by simp) (by rw [hon]; exact hb)))) (hc_17 hon).2
  clear hE' hmv hmr
  obtain ⟨hon_23, H0⟩ := req_some H0
  obtain ⟨hc_17, hc_17l⟩ := hc_17 hon_23
  obtain ⟨hE', hmv⟩ := Ep.eqv (mine' := [[B0], ([] : List Nat), rb (svo_12 1).1]) hE (by rw [hon_23]; rfl)
  have hmr : ∀ b ∈ ([[B0], ([] : List Nat), rb (svo_12 1).1] : List (List Nat)).flatten, w_11.heap[b]? = w_11.heap[b]? := fun _ _ => rfl
  replace ho0 := Ob1.keep ho0 (hmv _) (hmr _ (by simp))
  replace hc_17 := Row.keep hc_17 (hmv _) (fun b hb => hmr b (by simp [hb]))
  replace hE := hE'
  clear hE' hmv hmr
  refine wpIn_seq ?_
  refine wpIn_region_lit ?_
  refine ckn_ (orc := [[.slice ((svo_12 1).1) t_5.buf.length ((svo_12 1).2)]]) hF 6 hI [12, 11, 7, 4] [e_ 12 (.int .u8 a1), e_ 11 (.slice ((svo_12 1).1) t_5.buf.length ((svo_12 1).2)), e_ 7 (.pointer (some ⟨B0, 0, none⟩))] [] [.cell true ((⟨B0, 0, none⟩ : Addr).add 1) [.slice ((svo_12 1).1) t_5.buf.length ((svo_12 1).2)]] rfl (by kernel_rfl) ⟨ob_o1 ho0 hE (by simp) true 1 [.slice ((svo_12 1).1) t_5.buf.length ((svo_12 1).2)] (by rw [hc_17l]; rfl), trivial⟩ (fun ns_25 a w_26 hI => ?_)
  obtain ⟨hE', hmv, hmr⟩ := Ep.rebase hE hI
  replace ho0 := Ob1.keep ho0 (hmv _) (hmr _ (by simp))
  replace hc_17 := Row.keep hc_17 (hmv _) (fun b hb => hmr b (by simp [hb]))
  replace hE := hE'
  replace hI := hI.rebase
  clear hE' hmv hmr
  refine buildSlice_ (S0 := S) (d := (Kd.int .u8)) (e := 5) hF hE hI (wanted_none rfl) rfl (by kernel_rfl) (cs := [.int .u8 a1]) (by kernel_rfl) [a1] [(svL [])] rfl rfl (by simp [maxLen]) (fun i x hi => by cases i with | zero => (simp only [List.getElem?_cons_zero, Option.some.injEq] at hi; subst hi; exact ⟨trivial, rfl⟩) | succ i => (simp only [List.getElem?_cons_succ] at hi; simp at hi)) (fun A_27 => (s_ [e_ 13 (.slice A_27 ([a1] : List Int).length (([a1] : List Int).length)), e_ 12 (.int .u8 a1), e_ 11 (.slice ((svo_12 1).1) t_5.buf.length ((svo_12 1).2)), e_ 7 (.pointer (some ⟨B0, 0, none⟩)), e_ 4 (.nilIface)] [])) (fun A_27 => by kernel_rfl) (fun A_27 a w_29 hput hE' hI' hmv hmr hq_28 => ?_)
  replace ho0 := Ob1.keep ho0 (hmv _) (hmr _ (by simp) (by simp))
  replace hc_17 := Row.keep hc_17 (hmv _) (fun b hb => hmr b (by simp [hb]) (by simp))
  replace hE := hE'
  replace hI := hI'
  clear hE' hI' hmv hmr
  obtain ⟨hE', hmv, hq_28, hcap_30⟩ := Row.stillP (l1 := [[B0], ([] : List Nat), rb (svo_12 1).1]) (l2 := []) hq_28 (fun b hb => by rw [hSd]; exact .inr hb) hE
  have hmr : ∀ b ∈ ([[B0], ([] : List Nat), rb (svo_12 1).1, rb A_27] : List (List Nat)).flatten, w_29.heap[b]? = w_29.heap[b]? := fun _ _ => rfl
  replace ho0 := Ob1.keep ho0 (hmv _) (hmr _ (by simp))
  replace hc_17 := Row.keep hc_17 (hmv _) (fun b hb => hmr b (by simp [hb]))
  replace hE := hE'
  clear hE' hmv hmr
  obtain ⟨hN_31, H0⟩ := req_some H0
  replace hN_31 := of_decide_eq_true hN_31
  refine appendN_ (S0 := S) (l1 := [[B0], ([] : List Nat)]) (l2 := []) (d := (Kd.int .u8)) (e := 5) hF hE hI (wanted_none rfl) rfl (A := ((svo_12 1).1)) (c := ((svo_12 1).2)) (l := t_5.buf) rfl (A2 := A_27) (c2 := (([a1] : List Int).length)) (ys := ([a1] : List Int)) rfl hc_17 (Nat.zero_le _) hq_28 (fun y sv u hu => by exact kd_one_int _ sv u hu) Tryd.underlying43 (zi := (.int .u8 0, 1, 1)) (by kernel_rfl) rfl (by kernel_rfl) (len_maxN (b := 1) (by decide) hN_31) hN_31 (fun A_32 c_33 => (s_ [e_ 14 (.slice A_32 (t_5.buf ++ ([a1] : List Int)).length c_33), e_ 13 (.slice A_27 ([a1] : List Int).length (([a1] : List Int).length)), e_ 12 (.int .u8 a1), e_ 11 (.slice ((svo_12 1).1) t_5.buf.length ((svo_12 1).2)), e_ 7 (.pointer (some ⟨B0, 0, none⟩)), e_ 4 (.nilIface)] [])) (fun A_32 c_33 => by kernel_rfl) (fun A_32 c_33 a w_34 hput hE' hI' hmv hmr hc_17 => ?_)
  replace ho0 := Ob1.keep ho0 (hmv _) (hmr _ (by simp) (Ep.ne hE (i := 2) (j := 0) (by decide) rfl rfl (List.mem_singleton.2 rfl)))
  replace hq_28 := Arr.keep hq_28 (hmv _)
  replace hE := hE'
  replace hI := hI'
  clear hE' hI' hmv hmr
  refine ckn0_ hF 2 hI [16, 14, 4] [e_ 16 (.pointer (some ((⟨B0, 0, none⟩ : Addr).add 1)))] [] rfl (by kernel_rfl) (fun ns_35 a w_36 hI => ?_)
  obtain ⟨hE', hmv, hmr⟩ := Ep.rebase hE hI
  replace ho0 := Ob1.keep ho0 (hmv _) (hmr _ (by simp))
  replace hq_28 := Arr.keep hq_28 (hmv _)
  replace hc_17 := Row.keep hc_17 (hmv _) (fun b hb => hmr b (by simp [hb]))
  replace hE := hE'
  replace hI := hI.rebase
  clear hE' hmv hmr
  refine storeO_ (S0 := S) (d := kd_Strings_Builder) (e := 45) (off := 1) hF hE hI (wanted_none rfl) rfl rfl (ad := ((⟨B0, 0, none⟩ : Addr).add 1)) rfl rfl rfl (vs := [.slice A_32 (t_5.buf ++ ([a1] : List Int)).length c_33]) rfl rfl rfl rfl (by simp) (Ob1.as (y := (⟨t_5.addr, t_5.buf, true⟩ : Strings_Builder)) ho0 rfl id) (⟨t_5.addr, (t_5.buf ++ ([a1] : List Int)), true⟩ : Strings_Builder) (svU (svU svo_12 1 (A_32, c_33)) 2 (none, (t_5.buf ++ ([a1] : List Int)).length)) rfl (fun h => trivial) (fun a w_37 hput hE' hI' hmv hmr ho0 => ?_)
  replace hq_28 := Arr.keep hq_28 (hmv _)
  replace hc_17 := Row.keep hc_17 (hmv _) (fun b hb => hmr b (by simp [hb]) (Ep.ne hE (i := 0) (j := 2) (by decide) rfl rfl hb))
  replace hE := hE'
  replace hI := hI'
  clear hE' hI' hmv hmr
  refine ck0_ hF 0 hI (s_ [e_ 4 (.nilIface)] []) rfl (by kernel_rfl) (fun ns_38 a w_39 hI => ?_)
  refine wpListIn_nil ?_
  refine then_normal ?_
  refine srn0_ hF hI [4] [] [] (by kernel_rfl) (fun ns_40 a w_41 hI => ?_)
  obtain ⟨hE', hmv, hmr⟩ := Ep.rebase hE hI
  replace hq_28 := Arr.keep hq_28 (hmv _)
  replace hc_17 := Row.keep hc_17 (hmv _) (fun b hb => hmr b (by simp [hb]))
  replace ho0 := Ob1.keep ho0 (hmv _) (hmr _ (by simp))
  replace hE := hE'
  replace hI := hI.rebase
  clear hE' hmv hmr
  have ho_42 : Ojt lk_Strings_Builder (Lo S w w_41 ns_40 [[B0], ([] : List Nat), rb A_32]) w_41 B0 (⟨t_5.addr, (t_5.buf ++ ([a1] : List Int)), true⟩ : Strings_Builder) (B0 :: (([] : List Nat) ++ (rb A_32 ++ ([])))) := Ojt.mk' (k := lk_Strings_Builder) (svU (svU svo_12 1 (A_32, c_33)) 2 (none, (t_5.buf ++ ([a1] : List Int)).length)) (Ob1.as ho0 rfl id) ⟨rfl, hc_16, fun _ => ⟨Row.down hc_17, rfl⟩, trivial⟩
  obtain ⟨hE', hmv⟩ := Ep.group hE [0, 1, 2] (by decide) (B0 :: (([] : List Nat) ++ (rb A_32 ++ ([])))) rfl
  replace hE : Ep ([F0] : List (List Nat)).flatten w w_41 ns_40 [(B0 :: (([] : List Nat) ++ (rb A_32 ++ ([]))))] := hE'
  replace hmv : ∀ S0, Mv (Lo S0 w w_41 ns_40 [[B0], ([] : List Nat), rb A_32]) w_41 (Lo S0 w w_41 ns_40 [(B0 :: (([] : List Nat) ++ (rb A_32 ++ ([]))))]) w_41 := hmv
  have hmr : ∀ b ∈ ([(B0 :: (([] : List Nat) ++ (rb A_32 ++ ([]))))] : List (List Nat)).flatten, w_41.heap[b]? = w_41.heap[b]? := fun _ _ => rfl
  replace hq_28 := Arr.keep hq_28 (hmv _)
  replace ho_42 := Ojt.keep ho_42 (hmv _) (fun b hb => hmr b (flat_mem (by simp) hb))
  clear hE' hmv hmr
  refine wpIn_ret ?_
  obtain rfl := Option.some.inj H0
  subst hSd
  exact ret1 hI rfl rfl ⟨(svL [], fun i => ([(B0 :: (([] : List Nat) ++ (rb A_32 ++ ([]))))] : List (List Nat)).getD i []), rfl, hE.keeps hI, hE.handed [0] (by decide), trivial, Ojt.keep ho_42 (hE.outO [0] _) (fun _ _ => rfl)⟩

noncomputable def G_strconv_Itoa_18 (a0 : Int) : Option (ByteArray) := if 0 ≤ a0 ∧ a0 < 100 then some ⟨(Lib.decDigits a0.toNat).toArray⟩ else none
theorem G_strconv_Itoa_18.calls (a0 : Int) (w : World) {S : Nat → Prop} (r : ByteArray) (h : G_strconv_Itoa_18 a0 = some r) :
    Calls Tryd.prog 18 #[.int .i64 a0] w fun e w' => e = .returned (.string r) ∧ Below w.heap.size w w' := by
  unfold G_strconv_Itoa_18 at h
  split at h
  · rename_i hb
    obtain rfl := Option.some.inj h
    obtain ⟨i, rfl⟩ := Int.eq_ofNat_of_zero_le hb.1
    refine (Tryd.strconv_Itoa_small i (by omega) w).mono fun e w' ⟨h1, h2⟩ => ⟨h1, by subst h2; exact Below.refl _ _⟩
  · cases h

noncomputable def G_strings_Builder_WriteString (x0 : Strings_Builder) (a1 : ByteArray) : Option (Int × Fn46 × Strings_Builder) := ((G_strings_Builder_copyCheck x0).bind fun t_5 => (req t_5.buf_on (req (decide (t_5.buf.length + (bytesI a1).length ≤ 140737488355328)) (some ((a1.size : Int), Fn46.nil, (⟨t_5.addr, (t_5.buf ++ bytesI a1), true⟩ : Strings_Builder))))))
theorem G_strings_Builder_WriteString.calls (x0 : Strings_Builder) (a1 : ByteArray) (B0 : Nat) (F0 : List Nat) (w : World) {S0_ : Nat → Prop} (ho0 : Ojt lk_Strings_Builder S0_ w B0 x0 F0) (hms : ∀ b, S0_ b → b ∉ ([F0] : List (List Nat)).flatten) (hmd : ([F0] : List (List Nat)).flatten.Nodup) (hml : ∀ b ∈ ([F0] : List (List Nat)).flatten, b < w.heap.size) (r : Int × Fn46 × Strings_Builder) (h : G_strings_Builder_WriteString x0 a1 = some r) :
    Calls Tryd.prog 17 #[.pointer (some ⟨B0, 0, none⟩), .string a1] w fun e w' => ∃ q : SV × (Nat → List Nat), e = .returned (.tuple #[.int .i64 r.1, fnv46 r.2.1 q.1]) ∧ Keeps (([F0] : List (List Nat)).flatten) w w' ∧ Handed w w' (([F0] : List (List Nat)).flatten) [q.2 0] ∧ (kdF46).cont (fun b => b ∉ ([q.2 0] : List (List Nat)).flatten ∧ (w.heap.size ≤ b ∨ S0_ b ∨ b ∈ ([F0] : List (List Nat)).flatten)) w' r.2.1 q.1 ∧ Ojt lk_Strings_Builder (fun b => b ∉ ([q.2 0] : List (List Nat)).flatten ∧ (w.heap.size ≤ b ∨ S0_ b ∨ b ∈ ([F0] : List (List Nat)).flatten)) w' B0 r.2.2 (q.2 0) := by
  obtain ⟨S, hSd⟩ : ∃ S : Nat → Prop, S = fun b => S0_ b ∨ b ∈ (([F0] : List (List Nat)).flatten : List Nat) := ⟨_, rfl⟩
  replace ho0 := Ojt.keep ho0 (Mv.startP w hSd hms) (fun _ _ => rfl)
  unfold G_strings_Builder_WriteString at h
  have H0 := h
  clear h
  refine enter Tryd.func17 rfl [.pointer (some ⟨B0, 0, none⟩), .string a1] (n := 19) rfl (Nat.le_of_ble_eq_true rfl) (fun a hI => ?_)
  have hF : FOpen Fence.wide := .inl rfl
  have hE := Ep.startM w [F0] hmd hml
  refine sr0_ hF hI (s_ [e_ 5 (.nilIface), e_ 4 (.int .i64 0), e_ 0 (.pointer (some ⟨B0, 0, none⟩)), e_ 1 (.string a1)] []) (by kernel_rfl) (fun ns_1 a w_2 hI => ?_)
  refine wpIn_seq ?_
  refine wpIn_region_lit ?_
  refine ckn0_ hF 1 hI [6, 5, 4, 0, 1] [e_ 6 (.pointer (some ⟨B0, 0, none⟩))] [] rfl (by kernel_rfl) (fun ns_3 a w_4 hI => ?_)
  obtain ⟨hE', hmv, hmr⟩ := Ep.rebase hE hI
  replace ho0 := Ojt.keep ho0 (hmv _) (fun b hb => hmr b (flat_mem (by simp) hb))
  replace hE := hE'
  replace hI := hI.rebase
  clear hE' hmv hmr
  obtain ⟨t_5, hG_6, H0⟩ := bind_some H0
  have hbs_8 := hE.k.size
  refine callO_ hF hE hI (wanted_none rfl) rfl (args := [.pointer (some ⟨B0, 0, none⟩)]) rfl (enters Tryd.func24 (by kernel_rfl) rfl) (fun q_7 : SV × (Nat → List Nat) => .tuple #[]) [0] (fun q_7 => [q_7.2 0]) _ (G_strings_Builder_copyCheck.calls x0 B0 F0 w_4 (S0_ := Lo S w w_4 ns_3 [F0]) ho0 (Lo.pick [0]) (hE.pick [0] (by decide)) (hE.pickLt [0]) _ hG_6) (.inl rfl) (fun q_7 => (s_ [e_ 7 (.tuple #[]), e_ 6 (.pointer (some ⟨B0, 0, none⟩)), e_ 5 (.nilIface), e_ 4 (.int .i64 0), e_ 0 (.pointer (some ⟨B0, 0, none⟩)), e_ 1 (.string a1)] [])) (fun q_7 => by kernel_rfl) (fun q_7 a w_9 hput hE' hI' hmv hmr hres hR => ?_)
  replace hmv : ∀ S0, Mv (Lo S0 w w_4 ns_3 [F0]) w_4 (Lo S0 w w_9 ns_3 [(q_7.2 0)]) w_9 := hmv
  replace hmr : ∀ b ∈ ([] : List (List Nat)).flatten, w_9.heap[b]? = w_4.heap[b]? := hmr
  replace hE : Ep ([F0] : List (List Nat)).flatten w w_9 ns_3 [(q_7.2 0)] := hE'
  replace hI := hI'
  clear hE' hI'
  clear hmv hmr
  have ho0 := hR
  replace ho0 := Ojt.keep ho0 (hres _ (fun b hb => by rw [hSd]; exact .inr hb)) (fun _ _ => rfl)
  clear hres
  refine ckn0_ hF 0 hI [5, 4, 0, 1] [] [] rfl (by kernel_rfl) (fun ns_10 a w_11 hI => ?_)
  refine wpListIn_nil ?_
  refine then_normal ?_
  obtain ⟨hE', hmv, hmr⟩ := Ep.rebase hE hI
  replace ho0 := Ojt.keep ho0 (hmv _) (fun b hb => hmr b (flat_mem (by simp) hb))
  replace hE := hE'
  replace hI := hI.rebase
  clear hE' hmv hmr
  obtain ⟨svo_12, F_13, hF_14, ho0, hl_15⟩ := ho0.ex
  obtain ⟨hF_18, hc_16, hc_17, _⟩ := hl_15
  obtain ⟨hE', hmv⟩ := Ep.parts hE 0 [[B0], ([] : List Nat), (bif t_5.buf_on then rb (svo_12 1).1 else [])] (by show (q_7.2 0) = _; rw [hF_14, hF_18]; rfl)
  replace hE : Ep ([F0] : List (List Nat)).flatten w w_11 ns_10 [[B0], ([] : List Nat), (bif t_5.buf_on then rb (svo_12 1).1 else [])] := hE'
  replace hmv : ∀ S0, Mv (Lo S0 w w_11 ns_10 [(q_7.2 0)]) w_11 (Lo S0 w w_11 ns_10 [[B0], ([] : List Nat), (bif t_5.buf_on then rb (svo_12 1).1 else [])]) w_11 := hmv
  have hmr : ∀ b ∈ ([[B0], ([] : List Nat), (bif t_5.buf_on then rb (svo_12 1).1 else [])] : List (List Nat)).flatten, w_11.heap[b]? = w_11.heap[b]? := fun _ _ => rfl
  replace ho0 := Ob1.keep ho0 (hmv _) (hmr _ (by simp))
  replace hc_17 := fun (hon : t_5.buf_on = true) => And.intro (Row.keep (hc_17 hon).1 (hmv _) (fun b hb => hmr b (flat_mem (r := (bif t_5.buf_on then rb (svo_12 1).1 else [])) (by simp) (by rw [hon]; exact hb)))) (hc_17 hon).2
  clear hE' hmv hmr
  obtain ⟨hon_23, H0⟩ := req_some H0
  obtain ⟨hc_17, hc_17l⟩ := hc_17 hon_23
  obtain ⟨hE', hmv⟩ := Ep.eqv (mine' := [[B0], ([] : List Nat), rb (svo_12 1).1]) hE (by rw [hon_23]; rfl)
  have hmr : ∀ b ∈ ([[B0], ([] : List Nat), rb (svo_12 1).1] : List (List Nat)).flatten, w_11.heap[b]? = w_11.heap[b]? := fun _ _ => rfl
  replace ho0 := Ob1.keep ho0 (hmv _) (hmr _ (by simp))
  replace hc_17 := Row.keep hc_17 (hmv _) (fun b hb => hmr b (by simp [hb]))
  replace hE := hE'
  clear hE' hmv hmr
  refine wpIn_seq ?_
  refine wpIn_region_lit ?_
  refine ckn_ (orc := [[.slice ((svo_12 1).1) t_5.buf.length ((svo_12 1).2)]]) hF 6 hI [13, 12, 8, 5, 4, 1] [e_ 13 (.string a1), e_ 12 (.slice ((svo_12 1).1) t_5.buf.length ((svo_12 1).2)), e_ 8 (.pointer (some ⟨B0, 0, none⟩))] [] [.cell true ((⟨B0, 0, none⟩ : Addr).add 1) [.slice ((svo_12 1).1) t_5.buf.length ((svo_12 1).2)]] rfl (by kernel_rfl) ⟨ob_o1 ho0 hE (by simp) true 1 [.slice ((svo_12 1).1) t_5.buf.length ((svo_12 1).2)] (by rw [hc_17l]; rfl), trivial⟩ (fun ns_25 a w_26 hI => ?_)
  obtain ⟨hE', hmv, hmr⟩ := Ep.rebase hE hI
  replace ho0 := Ob1.keep ho0 (hmv _) (hmr _ (by simp))
  replace hc_17 := Row.keep hc_17 (hmv _) (fun b hb => hmr b (by simp [hb]))
  replace hE := hE'
  replace hI := hI.rebase
  clear hE' hmv hmr
  obtain ⟨hN_27, H0⟩ := req_some H0
  replace hN_27 := of_decide_eq_true hN_27
  refine appendS_ (S0 := S) (l1 := [[B0], ([] : List Nat)]) (l2 := []) (e := 5) hF hE hI (wanted_none rfl) rfl (A := ((svo_12 1).1)) (c := ((svo_12 1).2)) (l := t_5.buf) rfl (y := a1) rfl hc_17 (Nat.zero_le _) Tryd.underlying43 Tryd.underlying9 (by kernel_rfl) hN_27 (fun A_28 c_29 => (s_ [e_ 14 (.slice A_28 (t_5.buf ++ bytesI a1).length c_29), e_ 13 (.string a1), e_ 12 (.slice ((svo_12 1).1) t_5.buf.length ((svo_12 1).2)), e_ 8 (.pointer (some ⟨B0, 0, none⟩)), e_ 5 (.nilIface), e_ 4 (.int .i64 0), e_ 1 (.string a1)] [])) (fun A_28 c_29 => by kernel_rfl) (fun A_28 c_29 a w_30 hput hE' hI' hmv hmr hc_17 => ?_)
  replace ho0 := Ob1.keep ho0 (hmv _) (hmr _ (by simp) (Ep.ne hE (i := 2) (j := 0) (by decide) rfl rfl (List.mem_singleton.2 rfl)))
  replace hE := hE'
  replace hI := hI'
  clear hE' hI' hmv hmr
  refine ckn0_ hF 2 hI [16, 14, 5, 4, 1] [e_ 16 (.pointer (some ((⟨B0, 0, none⟩ : Addr).add 1)))] [] rfl (by kernel_rfl) (fun ns_31 a w_32 hI => ?_)
  obtain ⟨hE', hmv, hmr⟩ := Ep.rebase hE hI
  replace ho0 := Ob1.keep ho0 (hmv _) (hmr _ (by simp))
  replace hc_17 := Row.keep hc_17 (hmv _) (fun b hb => hmr b (by simp [hb]))
  replace hE := hE'
  replace hI := hI.rebase
  clear hE' hmv hmr
  refine storeO_ (S0 := S) (d := kd_Strings_Builder) (e := 45) (off := 1) hF hE hI (wanted_none rfl) rfl rfl (ad := ((⟨B0, 0, none⟩ : Addr).add 1)) rfl rfl rfl (vs := [.slice A_28 (t_5.buf ++ bytesI a1).length c_29]) rfl rfl rfl rfl (by simp) (Ob1.as (y := (⟨t_5.addr, t_5.buf, true⟩ : Strings_Builder)) ho0 rfl id) (⟨t_5.addr, (t_5.buf ++ bytesI a1), true⟩ : Strings_Builder) (svU (svU svo_12 1 (A_28, c_29)) 2 (none, (t_5.buf ++ bytesI a1).length)) rfl (fun h => trivial) (fun a w_33 hput hE' hI' hmv hmr ho0 => ?_)
  replace hc_17 := Row.keep hc_17 (hmv _) (fun b hb => hmr b (by simp [hb]) (Ep.ne hE (i := 0) (j := 2) (by decide) rfl rfl hb))
  replace hE := hE'
  replace hI := hI'
  clear hE' hI' hmv hmr
  refine ck0_ hF 0 hI (s_ [e_ 5 (.nilIface), e_ 4 (.int .i64 0), e_ 1 (.string a1)] []) rfl (by kernel_rfl) (fun ns_34 a w_35 hI => ?_)
  refine wpListIn_nil ?_
  refine then_normal ?_
  refine srn0_ hF hI [5, 4] [e_ 4 (.int .i64 (a1.size : Int))] [] (by kernel_rfl) (fun ns_36 a w_37 hI => ?_)
  obtain ⟨hE', hmv, hmr⟩ := Ep.rebase hE hI
  replace hc_17 := Row.keep hc_17 (hmv _) (fun b hb => hmr b (by simp [hb]))
  replace ho0 := Ob1.keep ho0 (hmv _) (hmr _ (by simp))
  replace hE := hE'
  replace hI := hI.rebase
  clear hE' hmv hmr
  have ho_38 : Ojt lk_Strings_Builder (Lo S w w_37 ns_36 [[B0], ([] : List Nat), rb A_28]) w_37 B0 (⟨t_5.addr, (t_5.buf ++ bytesI a1), true⟩ : Strings_Builder) (B0 :: (([] : List Nat) ++ (rb A_28 ++ ([])))) := Ojt.mk' (k := lk_Strings_Builder) (svU (svU svo_12 1 (A_28, c_29)) 2 (none, (t_5.buf ++ bytesI a1).length)) (Ob1.as ho0 rfl id) ⟨rfl, hc_16, fun _ => ⟨Row.down hc_17, rfl⟩, trivial⟩
  obtain ⟨hE', hmv⟩ := Ep.group hE [0, 1, 2] (by decide) (B0 :: (([] : List Nat) ++ (rb A_28 ++ ([])))) rfl
  replace hE : Ep ([F0] : List (List Nat)).flatten w w_37 ns_36 [(B0 :: (([] : List Nat) ++ (rb A_28 ++ ([]))))] := hE'
  replace hmv : ∀ S0, Mv (Lo S0 w w_37 ns_36 [[B0], ([] : List Nat), rb A_28]) w_37 (Lo S0 w w_37 ns_36 [(B0 :: (([] : List Nat) ++ (rb A_28 ++ ([]))))]) w_37 := hmv
  have hmr : ∀ b ∈ ([(B0 :: (([] : List Nat) ++ (rb A_28 ++ ([]))))] : List (List Nat)).flatten, w_37.heap[b]? = w_37.heap[b]? := fun _ _ => rfl
  replace ho_38 := Ojt.keep ho_38 (hmv _) (fun b hb => hmr b (flat_mem (by simp) hb))
  clear hE' hmv hmr
  refine wpIn_ret ?_
  obtain rfl := Option.some.inj H0
  subst hSd
  exact ret2 hI rfl rfl rfl ⟨(svL [], fun i => ([(B0 :: (([] : List Nat) ++ (rb A_28 ++ ([]))))] : List (List Nat)).getD i []), rfl, hE.keeps hI, hE.handed [0] (by decide), trivial, Ojt.keep ho_38 (hE.outO [0] _) (fun _ _ => rfl)⟩

noncomputable def G_strings_Builder_String (x0 : Strings_Builder) : Option (ByteArray × Strings_Builder) := req x0.buf_on (some (bytesOf x0.buf, { x0 with buf_on := false }))
theorem G_strings_Builder_String.calls (x0 : Strings_Builder) (B0 : Nat) (F0 : List Nat) (w : World) {S0_ : Nat → Prop} (ho0 : Ojt lk_Strings_Builder S0_ w B0 x0 F0) (hms : ∀ b, S0_ b → b ∉ ([F0] : List (List Nat)).flatten) (hmd : ([F0] : List (List Nat)).flatten.Nodup) (hml : ∀ b ∈ ([F0] : List (List Nat)).flatten, b < w.heap.size) (r : ByteArray × Strings_Builder) (h : G_strings_Builder_String x0 = some r) :
    Calls Tryd.prog 19 #[.pointer (some ⟨B0, 0, none⟩)] w fun e w' => ∃ q : SV × (Nat → List Nat), e = .returned (.string r.1) ∧ Keeps (([F0] : List (List Nat)).flatten) w w' ∧ Handed w w' (([F0] : List (List Nat)).flatten) [q.2 0] ∧ Ojt lk_Strings_Builder (fun b => b ∉ ([q.2 0] : List (List Nat)).flatten ∧ (w.heap.size ≤ b ∨ S0_ b ∨ b ∈ ([F0] : List (List Nat)).flatten)) w' B0 r.2 (q.2 0) := by
  unfold G_strings_Builder_String at h
  obtain ⟨hon, h⟩ := req_some h
  obtain rfl := Option.some.inj h
  obtain ⟨sv, F', hF, hob, hlv⟩ := ho0.ex
  have hbk : w.heap[B0]? = some (.cells #[.pointer (sv 0).1, .slice (sv 1).1 (sv 2).2 (sv 1).2] 45 (0, 0)) := hob.blk
  obtain ⟨hF2, ha, hrow, _⟩ := hlv
  obtain ⟨hr, hl⟩ := hrow hon
  have hF4 : F' = rb (sv 1).1 := by rw [hF2, hon]; simp
  have hmB : B0 ∈ ([F0] : List (List Nat)).flatten := by rw [hF]; simp
  have hnB : B0 ∉ rb (sv 1).1 := fun he => by rw [hF, hF4] at hmd; simp at hmd; exact hmd.1 he
  rw [← hl] at hbk
  refine (Tryd.bldString B0 _ _ _ x0.buf w hbk hr).mono ?_
  rintro e w' ⟨rfl, hk⟩
  have hk2 : Keeps (([F0] : List (List Nat)).flatten) w w' := ⟨hk.os, hk.tape, hk.output, hk.size, fun b hb hn => hk.block b hb (fun he => hn (by rw [hF, hF4]; simp; exact .inr he))⟩
  have hB := (Array.getElem?_eq_some_iff.1 hbk).1
  refine ⟨(svL [], fun _ => [B0]), rfl, hk2, ⟨fun b hb => ?_, by simp⟩, ?_⟩
  · simp only [List.flatten_cons, List.flatten_nil, List.append_nil, List.mem_singleton] at hb
    subst hb
    exact ⟨.inr hmB, Nat.lt_of_lt_of_le hB hk.size⟩
  · show Ojt lk_Strings_Builder _ w' B0 _ [B0]
    exact Ojt.mk' (k := lk_Strings_Builder) sv ⟨trivial, by rw [hk.block B0 hB hnB]; exact hob.blk⟩ ⟨rfl, ha, (fun hh => by cases hh), trivial⟩

noncomputable def G_pack_Print.r1 (l0 : (List Int)) (t_12 : (List Int)) (s1 : ByteArray × Bool × Strings_Builder) (y_40 : Int × Int) : Option (Stp (ByteArray × Bool × Strings_Builder) (Nat × (ByteArray × Bool × Strings_Builder))) := (bif (decide (y_40.1 < 0) || decide (y_40.1 ≥ 3)) then some (.out (0, ((⟨#[]⟩ : ByteArray), false, s1.2.2))) else (req (inb y_40.1 (⟨#[97, 98, 116]⟩ : ByteArray).size) ((G_strings_Builder_WriteByte s1.2.2 (rdB (⟨#[97, 98, 116]⟩ : ByteArray) y_40.1)).bind fun t_58 => (bif decide (y_40.2 > 1) then ((G_strconv_Itoa_18 y_40.2).bind fun t_69 => ((G_strings_Builder_WriteString t_58.2 t_69).bind fun t_73 => some (.next (s1.1, s1.2.1, t_73.2.2)))) else some (.next (s1.1, s1.2.1, t_58.2))))))
noncomputable def G_pack_Print (l0 : (List Int)) : Option (ByteArray × Bool) := (bif decide ((l0.length : Int) > 4096) then some ((⟨#[]⟩ : ByteArray), false) else ((G_pack_Runs l0).bind fun t_12 => ((G_pack_Runs_1 (G_pack_Print.r1 l0 t_12) (ByteArray.empty, false, (⟨false, ([] : List Int), true⟩ : Strings_Builder)) t_12).bind fun z => z.on (fun s1 => ((G_strings_Builder_String s1.2.2).bind fun t_82 => some (t_82.1, true))) (fun r1 => some (r1.2.1, r1.2.2.1)))))
theorem G_pack_Print.calls (l0 : (List Int)) (A0 : Option Addr) (c0 : Nat) (w : World) {S : Nat → Prop} (hr0 : Arr (Kd.int .i64) S w A0 l0) (hc0 : l0.length ≤ c0) (r : ByteArray × Bool) (h : G_pack_Print l0 = some r) :
    Calls Tryd.prog 9 #[.slice A0 l0.length c0] w fun e w' => e = .returned (.tuple #[.string r.1, .bool r.2]) ∧ Below w.heap.size w w' := by
  replace hr0 := Arr.lo hr0
  unfold G_pack_Print at h
  have H0 := h
  clear h
  refine enterM Tryd.func9 rfl [.slice A0 l0.length c0] (n := 29) rfl (Nat.le_of_ble_eq_true rfl) (fun a hI => ?_)
  have hF : FOpen Fence.wide := .inl rfl
  have hE := Ep.start w
  refine sr0_ hF hI ⟨[p_ 3 1 0, p_ 2 0 0, e_ 0 (.slice A0 l0.length c0)], [], [], [([.v (.string ByteArray.empty)], 9), ([.v (.bool false)], 4)], some (w.heap.size, none), none⟩ (by kernel_rfl) (fun ns_1 a w_2 hI => ?_)
  refine wpIn_seq ?_
  refine srn0_ hF hI [9, 3, 2, 0] [e_ 9 (.bool (decide ((l0.length : Int) > 4096)))] [] (by kernel_rfl) (fun ns_3 a w_4 hI => ?_)
  refine cond_ hI (decide ((l0.length : Int) > 4096)) rfl (fun hc_5 => ?_) (fun hc_5 => ?_)
  ·replace H0 := bif_t hc_5 H0
   refine srn0_ hF hI [3, 2] [] [(0, ([.v (.string (⟨#[]⟩ : ByteArray))], 9))] (by kernel_rfl) (fun ns_6 a w_7 hI => ?_)
   refine wpIn_ret ?_
   refine then_ret ?_
   obtain rfl := Option.some.inj H0
   exact retM hI rfl rfl rfl (fun wz hz => ⟨rfl, (hE.below hI).trans hz.below⟩)
  ·replace H0 := bif_f hc_5 H0
   refine wpIn_skip ?_
   refine then_normal ?_
   refine srn0_ hF hI [4, 3, 2, 0] [p_ 4 2 0] [(2, ([.v (.pointer none), .v (.slice none 0 0)], 45))] (by kernel_rfl) (fun ns_8 a w_9 hI => ?_)
   refine wpIn_seq ?_
   refine wpIn_seq ?_
   refine wpIn_region_lit ?_
   refine ckn0_ hF 1 hI [10, 4, 3, 2] [e_ 10 (.slice A0 l0.length c0)] [] rfl (by kernel_rfl) (fun ns_10 a w_11 hI => ?_)
   obtain ⟨hE', hmv, hmr⟩ := Ep.rebase hE hI
   replace hr0 := Arr.keep hr0 (hmv _)
   replace hE := hE'
   replace hI := hI.rebase
   clear hE' hmv hmr
   obtain ⟨t_12, hG_13, H0⟩ := bind_some H0
   refine callH_ hF hE hI (wanted_none rfl) rfl (args := [.slice A0 l0.length c0]) rfl (enters Tryd.func8 (by kernel_rfl) rfl) (fun sv_14 => .func (.func 15) #[] #[.pointer (some (adr (sv_14 0).1))]) _ (G_pack_Runs.calls l0 A0 c0 w_11 (S := Lo S w w_11 ns_10 []) hr0 hc0 _ hG_13) (fun sv_14 => ⟨[e_ 11 (.func (.func 15) #[] #[.pointer (some (adr (sv_14 0).1))]), e_ 10 (.slice A0 l0.length c0), p_ 4 2 0, p_ 3 1 0, p_ 2 0 0], [], [], [([.v (.string ByteArray.empty)], 9), ([.v (.bool false)], 4), ([.v (.pointer none), .v (.slice none 0 0)], 45)], some (w.heap.size, none), none⟩) (fun sv_14 => by kernel_rfl) (fun sv_14 a w_16 hput hE' hI' hmv hmr hres hR => ?_)
   replace hr0 := Arr.keep hr0 (hmv _)
   replace hE := hE'
   replace hI := hI'
   clear hE' hI' hmv hmr
   have hR_15 := hR
   replace hR_15 := El.keep hR_15 (hres _)
   clear hres
   refine ckn0_ hF 0 hI [11, 4, 3, 2] [] [] rfl (by kernel_rfl) (fun ns_17 a w_18 hI => ?_)
   refine wpListIn_nil ?_
   refine then_normal ?_
   refine wpIn_block ?_
   obtain ⟨hE', hmv, hmr⟩ := Ep.rebase hE hI
   replace hr0 := Arr.keep hr0 (hmv _)
   replace hR_15 := El.keep hR_15 (hmv _)
   replace hE := hE'
   replace hI := hI.rebase
   clear hE' hmv hmr
   obtain ⟨hE', hmv⟩ := Ep.addNil hE
   have hmr : ∀ b ∈ ([] : List (List Nat)).flatten, w_18.heap[b]? = w_18.heap[b]? := fun _ _ => rfl
   replace hr0 := Arr.keep hr0 (hmv _)
   replace hR_15 := El.keep hR_15 (hmv _)
   replace hE := hE'
   clear hE' hmv hmr
   have hq_19 : Row (Kd.int .u8) 5 (Lo S w w_18 ns_17 [rb none]) w_18 w.heap.size none 0 ([] : List Int) := Row.nil
   have hct := contI (S := Lo S w w_18 ns_17 [rb none]) (w := w_18) (d := kd_Strings_Builder) (x := (⟨false, ([] : List Int), true⟩ : Strings_Builder)) (sv := (svL [(none, 0), (none, 0), (none, ([] : List Int).length)])) trivial
   obtain ⟨B_20, ns_21, hE', hI', hmv, hB_23, ho_22⟩ := publish_ (d := kd_Strings_Builder) hE hI 2 (⟨false, ([] : List Int), true⟩ : Strings_Builder) (svL [(none, 0), (none, 0), (none, ([] : List Int).length)]) 45 rfl
   replace ho_22 := ho_22 _ hct
   clear hct
   replace hE : Ep [] w w_18 ns_21 [rb none, [B_20]] := hE'
   have hmr : ∀ b ∈ ([rb none, [B_20]] : List (List Nat)).flatten, w_18.heap[b]? = w_18.heap[b]? := fun _ _ => rfl
   replace hr0 := Arr.keep hr0 (hmv _)
   replace hR_15 := El.keep hR_15 (hmv _)
   replace hq_19 := Row.keep hq_19 (hmv _) (fun b hb => by simp [rb] at hb)
   replace hI := hI'
   clear hE' hI' hmv hmr
   obtain ⟨ns_25, hE', hI', hmv⟩ := hE.cut hI [11, 4, 3, 2] 2 ⟨[e_ 11 (.func (.func 15) #[] #[.pointer (some (adr (sv_14 0).1))]), e_ 4 (.pointer (some ⟨B_20, 0, none⟩)), p_ 3 1 0, p_ 2 0 0], [], [], [([.v (.string ByteArray.empty)], 9), ([.v (.bool false)], 4)], some (w.heap.size, none), none⟩ (by kernel_rfl)
   have hmr : ∀ b ∈ ([rb none, [B_20]] : List (List Nat)).flatten, w_18.heap[b]? = w_18.heap[b]? := fun _ _ => rfl
   replace hr0 := Arr.keep hr0 (hmv _)
   replace hR_15 := El.keep hR_15 (hmv _)
   replace hq_19 := Row.keep hq_19 (hmv _) (fun b hb => by simp [rb] at hb)
   replace ho_22 := Ob1.keep ho_22 (hmv _) (hmr _ (by simp))
   replace hE := hE'
   replace hI := hI'
   clear hE' hI' hmv hmr
   have ho_26 : Ojt lk_Strings_Builder (Lo S w w_18 ns_25 [rb none, [B_20]]) w_18 B_20 (⟨false, ([] : List Int), true⟩ : Strings_Builder) (B_20 :: (([] : List Nat) ++ (rb none ++ ([])))) := Ojt.mk' (k := lk_Strings_Builder) (svL [(none, 0), (none, 0), (none, ([] : List Int).length)]) (Ob1.as ho_22 rfl id) ⟨rfl, rfl, fun _ => ⟨Row.down hq_19, rfl⟩, trivial⟩
   obtain ⟨hE', hmv⟩ := Ep.group hE [1, 0] (by decide) (B_20 :: (([] : List Nat) ++ (rb none ++ ([])))) rfl
   replace hE : Ep [] w w_18 ns_25 [(B_20 :: (([] : List Nat) ++ (rb none ++ ([]))))] := hE'
   replace hmv : ∀ S0, Mv (Lo S0 w w_18 ns_25 [rb none, [B_20]]) w_18 (Lo S0 w w_18 ns_25 [(B_20 :: (([] : List Nat) ++ (rb none ++ ([]))))]) w_18 := hmv
   have hmr : ∀ b ∈ ([(B_20 :: (([] : List Nat) ++ (rb none ++ ([]))))] : List (List Nat)).flatten, w_18.heap[b]? = w_18.heap[b]? := fun _ _ => rfl
   replace hr0 := Arr.keep hr0 (hmv _)
   replace hR_15 := El.keep hR_15 (hmv _)
   replace ho_26 := Ojt.keep ho_26 (hmv _) (fun b hb => hmr b (flat_mem (by simp) hb))
   clear hE' hmv hmr
   obtain ⟨ns_28, hE', hI', hmv⟩ := hE.cut hI [11, 4, 3, 2] 2 ⟨[e_ 11 (.func (.func 15) #[] #[.pointer (some (adr (sv_14 0).1))]), e_ 4 (.pointer (some ⟨B_20, 0, none⟩)), p_ 3 1 0, p_ 2 0 0], [], [], [([.v (.string ByteArray.empty)], 9), ([.v (.bool false)], 4)], some (w.heap.size, none), none⟩ (by kernel_rfl)
   have hmr : ∀ b ∈ ([(B_20 :: (([] : List Nat) ++ (rb none ++ ([]))))] : List (List Nat)).flatten, w_18.heap[b]? = w_18.heap[b]? := fun _ _ => rfl
   replace hr0 := Arr.keep hr0 (hmv _)
   replace hR_15 := El.keep hR_15 (hmv _)
   replace ho_26 := Ojt.keep ho_26 (hmv _) (fun b hb => hmr b (flat_mem (by simp) hb))
   replace hE := hE'
   replace hI := hI'
   clear hE' hI' hmv hmr
   obtain ⟨z_33, hz_34, H0⟩ := bind_some H0
   refine rangeFunc_ (ps := [12, 13]) hE hI rfl (Nat.le_refl _) (lb := [.pointer (some (adr (sv_14 0).1))]) rfl (enters Tryd.func15 (by kernel_rfl) rfl) (fun l_30 aR_31 w_32 haR_39 hE' hI' hmv hmr => ?_)
   replace hr0 := Arr.keep hr0 (hmv _)
   replace hR_15 := El.keep hR_15 (hmv _)
   replace ho_26 := Ojt.keep ho_26 (hmv _) (fun b hb => hmr b (flat_mem (by simp) hb))
   replace hE := hE'
   replace hI := hI'
   clear hE' hI' hmv hmr
   refine ⟨ByteArray × Bool × Strings_Builder, Int × Int, Nat × (ByteArray × Bool × Strings_Builder), G_pack_Runs_1.enc, G_pack_Runs_1.fct, G_pack_Print.r1 l0 t_12, (fun (s1 : ByteArray × Bool × Strings_Builder) (T : Nat → Prop) (W : World) => ∃ (F_29 : List Nat), (Arr (Kd.int .i64) (Lo S w W ns_28 [F_29, [l_30]]) W A0 l0) ∧ (El (Kd.slice (Kd.int .i64)) (Lo S w W ns_28 [F_29, [l_30]]) W (adr (sv_14 0).1) t_12 (svO sv_14 1)) ∧ (Ojt lk_Strings_Builder (Lo S w W ns_28 [F_29, [l_30]]) W B_20 s1.2.2 F_29) ∧ Ep [] w W ns_28 [F_29, [l_30]] ∧ Inv W ns_28 29 ⟨[e_ 11 (.func (.func 15) #[] #[.pointer (some (adr (sv_14 0).1))]), e_ 4 (.pointer (some ⟨B_20, 0, none⟩)), p_ 3 1 0, p_ 2 0 0], [], [], [([.v (.string s1.1)], 9), ([.v (.bool s1.2.1)], 4)], some (w.heap.size, none), none⟩ ns_28 aR_31 W ∧ Tk T W (Lo S w W ns_28 [F_29, [l_30]]) W), (fun (r : Nat × (ByteArray × Bool × Strings_Builder)) (W : World) => ∃ (F_29 : List Nat), (Arr (Kd.int .i64) (Lo S w W ns_28 [F_29, [l_30]]) W A0 l0) ∧ (El (Kd.slice (Kd.int .i64)) (Lo S w W ns_28 [F_29, [l_30]]) W (adr (sv_14 0).1) t_12 (svO sv_14 1)) ∧ (Ojt lk_Strings_Builder (Lo S w W ns_28 [F_29, [l_30]]) W B_20 r.2.2.2 F_29) ∧ Ep [] w W ns_28 [F_29, [l_30]] ∧ Inv W ns_28 29 ⟨[e_ 11 (.func (.func 15) #[] #[.pointer (some (adr (sv_14 0).1))]), e_ 4 (.pointer (some ⟨B_20, 0, none⟩)), p_ 3 1 0, p_ 2 0 0], [], [], [([.v (.string r.2.1)], 9), ([.v (.bool r.2.2.1)], 4)], some (w.heap.size, none), none⟩ ns_28 aR_31 W), (fun r => .ret), (ByteArray.empty, false, (⟨false, ([] : List Int), true⟩ : Strings_Builder)), Tc (Lo S w w_32 ns_28 [(B_20 :: (([] : List Nat) ++ (rb none ++ ([])))), [l_30]]) w_32, z_33, fun _ _ => rfl, ?_, ?_, ?_, ?_, ?_, ?_, ?_⟩
   ·rintro s1 T T' A B row ⟨F_29, hr0, hR_15, ho_26, hE, hI, hT_35⟩ hg hrow hT'
    obtain ⟨hE', hI', hmv, hmr⟩ := hE.turn hI hg (by simp) hrow
    replace hr0 := Arr.keep hr0 (hmv _)
    replace hR_15 := El.keep hR_15 (hmv _)
    replace ho_26 := Ojt.keep ho_26 (hmv _) (fun b hb => hmr b (flat_mem (by simp) hb) (Ep.ne hE (i := 1) (j := 0) (by decide) rfl rfl hb))
    exact ⟨F_29, hr0, hR_15, ho_26, hE', hI', hT_35.turn (hmv _) hE hT'⟩
   ·rintro r A B row ⟨F_29, hr0, hR_15, ho_26, hE, hI⟩ hg hrow
    obtain ⟨hE', hI', hmv, hmr⟩ := hE.turn hI hg (by simp) hrow
    replace hr0 := Arr.keep hr0 (hmv _)
    replace hR_15 := El.keep hR_15 (hmv _)
    replace ho_26 := Ojt.keep ho_26 (hmv _) (fun b hb => hmr b (flat_mem (by simp) hb) (Ep.ne hE (i := 1) (j := 0) (by decide) rfl rfl hb))
    exact ⟨F_29, hr0, hR_15, ho_26, hE', hI'⟩
   ·intro J Jx hq hJ
    exact G_pack_Runs_1.calls _ _ t_12 (adr (sv_14 0).1) (svO sv_14 1) _ w_32 (S := Tc (Lo S w w_32 ns_28 [(B_20 :: (([] : List Nat) ++ (rb none ++ ([])))), [l_30]]) w_32) (El.keep hR_15 (Tc.mv _ _)) hq hJ _ hz_34
   ·exact ⟨(B_20 :: (([] : List Nat) ++ (rb none ++ ([])))), hr0, hR_15, ho_26, hE, hI, Tk.new _ _⟩
   ·rintro s1 y_40 sv_41 T_43 w_42 z hz ⟨F_29, hr0, hR_15, ho_26, hE, hO, hT_35⟩ hf_44 oo_37 ho_38 hl_36
    unfold G_pack_Print.r1 at hz
    have H1 := hz
    clear hz
    have hF : FOpen (Fence.wide.inRound l_30) := .inr ⟨l_30, rfl⟩
    have hI : Inv w_42 ns_28 29 ⟨[e_ 13 (.int .i64 y_40.2), e_ 12 (.int .i64 y_40.1), e_ 11 (.func (.func 15) #[] #[.pointer (some (adr (sv_14 0).1))]), e_ 4 (.pointer (some ⟨B_20, 0, none⟩)), p_ 3 1 0, p_ 2 0 0], [], [], [([.v (.string s1.1)], 9), ([.v (.bool s1.2.1)], 4)], some (w.heap.size, some aR_31.defers), some (2, ns_28)⟩ ns_28 _ w_42 := hO.round rfl rfl rfl [12, 13] (G_pack_Runs_1.enc y_40 sv_41) (by kernel_rfl) (by kernel_rfl) _ haR_39
    refine sr0_ hF hI ⟨[e_ 5 (.int .i64 y_40.1), e_ 13 (.int .i64 y_40.2), e_ 4 (.pointer (some ⟨B_20, 0, none⟩)), p_ 3 1 0, p_ 2 0 0], [], [], [([.v (.string s1.1)], 9), ([.v (.bool s1.2.1)], 4)], some (w.heap.size, some aR_31.defers), some (2, ns_28)⟩ (by kernel_rfl) (fun ns_45 a w_46 hI => ?_)
    refine rgn0_ hF hI [6, 5, 4, 3, 2] [e_ 6 (.int .i64 y_40.2)] [] (by kernel_rfl) (fun ns_47 a w_48 hI => ?_)
    refine then_normal ?_
    obtain ⟨hE', hmv, hmr⟩ := Ep.rebase hE hI
    replace hr0 := Arr.keep hr0 (hmv _)
    replace hR_15 := El.keep hR_15 (hmv _)
    replace ho_26 := Ojt.keep ho_26 (hmv _) (fun b hb => hmr b (flat_mem (by simp) hb))
    replace hT_35 := Tk.keep hT_35 (hmv _)
    replace hl_36 := (hmr _ (by simp)).trans hl_36
    replace hE := hE'
    replace hI := hI.rebase
    clear hE' hmv hmr
    refine begin_ hE hI (by simp) hl_36 ho_38 (fun w_49 hE' hI' hmv hmr hl_36 => ?_)
    replace hr0 := Arr.keep hr0 (hmv _)
    replace hR_15 := El.keep hR_15 (hmv _)
    replace ho_26 := Ojt.keep ho_26 (hmv _) (fun b hb => hmr b (flat_mem (by simp) hb) (Ep.ne hE (i := 1) (j := 0) (by decide) rfl rfl hb))
    replace hT_35 := Tk.keep hT_35 (hmv _)
    replace hE := hE'
    replace hI := hI'
    clear hE' hI' hmv hmr
    refine wpIn_block ?_
    refine wpIn_seq ?_
    refine srn0_ hF hI [19, 6, 5, 4, 3, 2] [e_ 19 (.bool (decide (y_40.1 < 0) || decide (y_40.1 ≥ 3)))] [] (by kernel_rfl) (fun ns_50 a w_51 hI => ?_)
    refine cond_ hI ((decide (y_40.1 < 0) || decide (y_40.1 ≥ 3))) rfl (fun hc_52 => ?_) (fun hc_52 => ?_)
    ·replace H1 := bif_t hc_52 H1
     refine srn0_ hF hI [3, 2] [] [(0, ([.v (.string (⟨#[]⟩ : ByteArray))], 9)), (1, ([.v (.bool false)], 4))] (by kernel_rfl) (fun ns_53 a w_54 hI => ?_)
     refine wpIn_ret ?_
     refine then_ret ?_
     refine inBlock_ret ?_
     obtain ⟨hE', hmv, hmr⟩ := Ep.rebase hE hI
     replace hr0 := Arr.keep hr0 (hmv _)
     replace hR_15 := El.keep hR_15 (hmv _)
     replace ho_26 := Ojt.keep ho_26 (hmv _) (fun b hb => hmr b (flat_mem (by simp) hb))
     replace hT_35 := Tk.keep hT_35 (hmv _)
     replace hl_36 := (hmr _ (by simp)).trans hl_36
     replace hE := hE'
     replace hI := hI.rebase
     clear hE' hmv hmr
     obtain ⟨hE', hI', hmv⟩ := Ep.unround (bs := [([.v (.string (⟨#[]⟩ : ByteArray))], 9), ([.v (.bool false)], 4)]) hO hE hI rfl rfl rfl rfl rfl rfl (by kernel_rfl) rfl
     have hmr : ∀ b ∈ ([F_29, [l_30]] : List (List Nat)).flatten, w_54.heap[b]? = w_54.heap[b]? := fun _ _ => rfl
     replace hr0 := Arr.keep hr0 (hmv _)
     replace hR_15 := El.keep hR_15 (hmv _)
     replace ho_26 := Ojt.keep ho_26 (hmv _) (fun b hb => hmr b (flat_mem (by simp) hb))
     replace hT_35 := Tk.keep hT_35 (hmv _)
     replace hl_36 := (hmr _ (by simp)).trans hl_36
     replace hE := hE'
     replace hI := hI'
     clear hE' hI' hmv hmr
     obtain rfl := Option.some.inj H1
     exact RndQ.rt hl_36 rfl rfl ⟨_, hr0, hR_15, ho_26, hE, hI⟩
    ·replace H1 := bif_f hc_52 H1
     refine wpIn_skip ?_
     refine then_normal ?_
     refine wpIn_seq ?_
     refine wpIn_region_lit ?_
     obtain ⟨hN_55, H1⟩ := req_some H1
     refine ckn_ (orc := [[.int .u8 (rdB (⟨#[97, 98, 116]⟩ : ByteArray) y_40.1)]]) hF 2 hI [21, 6, 4, 3, 2] [e_ 21 (.int .u8 (rdB (⟨#[97, 98, 116]⟩ : ByteArray) y_40.1))] [] [.run true (vS (Instr.index 9 (.string (⟨#[97, 98, 116]⟩ : ByteArray)) (.int .i64 y_40.1))) (.int .u8 (rdB (⟨#[97, 98, 116]⟩ : ByteArray) y_40.1))] rfl (by kernel_rfl) ⟨(fun hg wz hk => vS_run (index_run Tryd.underlying9 _ _ hN_55 wz)), trivial⟩ (fun ns_56 a w_57 hI => ?_)
     obtain ⟨hE', hmv, hmr⟩ := Ep.rebase hE hI
     replace hr0 := Arr.keep hr0 (hmv _)
     replace hR_15 := El.keep hR_15 (hmv _)
     replace ho_26 := Ojt.keep ho_26 (hmv _) (fun b hb => hmr b (flat_mem (by simp) hb))
     replace hT_35 := Tk.keep hT_35 (hmv _)
     replace hl_36 := (hmr _ (by simp)).trans hl_36
     replace hE := hE'
     replace hI := hI.rebase
     clear hE' hmv hmr
     obtain ⟨t_58, hG_59, H1⟩ := bind_some H1
     have hbs_61 := hE.k.size
     refine callO_ hF hE hI (wanted_none rfl) rfl (args := [.pointer (some ⟨B_20, 0, none⟩), .int .u8 (rdB (⟨#[97, 98, 116]⟩ : ByteArray) y_40.1)]) rfl (enters Tryd.func16 (by kernel_rfl) rfl) (fun q_60 : SV × (Nat → List Nat) => fnv46 t_58.1 q_60.1) [0] (fun q_60 => [q_60.2 0]) _ (G_strings_Builder_WriteByte.calls s1.2.2 (rdB (⟨#[97, 98, 116]⟩ : ByteArray) y_40.1) B_20 F_29 w_57 (S0_ := Lo S w w_57 ns_56 [F_29, [l_30]]) ho_26 (Lo.pick [0]) (hE.pick [0] (by decide)) (hE.pickLt [0]) _ hG_59) (.inr (fun b hb => (ho_26.nd b (by simpa using hb)).2)) (fun q_60 => ⟨[e_ 22 (fnv46 t_58.1 q_60.1), e_ 21 (.int .u8 (rdB (⟨#[97, 98, 116]⟩ : ByteArray) y_40.1)), e_ 6 (.int .i64 y_40.2), e_ 4 (.pointer (some ⟨B_20, 0, none⟩)), p_ 3 1 0, p_ 2 0 0], [], [], [([.v (.string s1.1)], 9), ([.v (.bool s1.2.1)], 4)], some (w.heap.size, some aR_31.defers), some (2, ns_28)⟩) (fun q_60 => by kernel_rfl) (fun q_60 a w_63 hput hE' hI' hmv hmr hres hR => ?_)
     replace hmv : ∀ S0, Mv (Lo S0 w w_57 ns_56 [F_29, [l_30]]) w_57 (Lo S0 w w_63 ns_56 [[l_30], (q_60.2 0)]) w_63 := hmv
     replace hmr : ∀ b ∈ ([[l_30]] : List (List Nat)).flatten, w_63.heap[b]? = w_57.heap[b]? := hmr
     replace hE : Ep [] w w_63 ns_56 [[l_30], (q_60.2 0)] := hE'
     replace hI := hI'
     clear hE' hI'
     replace hr0 := Arr.keep hr0 (hmv _)
     replace hR_15 := El.keep hR_15 (hmv _)
     replace hT_35 := Tk.keep hT_35 (hmv _)
     replace hl_36 := (hmr _ (by simp)).trans hl_36
     clear hmv hmr
     obtain ⟨hR_62, ho_26⟩ := hR
     replace ho_26 := Ojt.keep ho_26 (hres _ (fun b hb => by simp at hb)) (fun _ _ => rfl)
     replace hR_62 := Kd.keep _ hR_62 (hres _ (fun b hb => by simp at hb))
     clear hres
     refine ckn0_ hF 0 hI [6, 4, 3, 2] [] [] rfl (by kernel_rfl) (fun ns_64 a w_65 hI => ?_)
     refine wpListIn_nil ?_
     refine then_normal ?_
     refine srn0_ hF hI [24, 6, 4, 3, 2] [e_ 24 (.bool (decide (y_40.2 > 1)))] [] (by kernel_rfl) (fun ns_66 a w_67 hI => ?_)
     refine cond_ hI (decide (y_40.2 > 1)) rfl (fun hc_68 => ?_) (fun hc_68 => ?_)
     ·replace H1 := bif_t hc_68 H1
      refine wpIn_region_lit ?_
      obtain ⟨t_69, hG_70, H1⟩ := bind_some H1
      refine ckn_ (orc := [[.string t_69]]) hF 2 hI [26, 4, 3, 2] [e_ 26 (.string t_69)] [] [.call true 18 [.int .i64 y_40.2] (.string t_69)] rfl (by kernel_rfl) ⟨ob_call (enters Tryd.func18 (by kernel_rfl) rfl) (fun hg wz hk => G_strconv_Itoa_18.calls y_40.2  wz (S := fun _ => True)  _ hG_70), trivial⟩ (fun ns_71 a w_72 hI => ?_)
      obtain ⟨hE', hmv, hmr⟩ := Ep.rebase hE hI
      replace hr0 := Arr.keep hr0 (hmv _)
      replace hR_15 := El.keep hR_15 (hmv _)
      replace hT_35 := Tk.keep hT_35 (hmv _)
      replace hl_36 := (hmr _ (by simp)).trans hl_36
      replace ho_26 := Ojt.keep ho_26 (hmv _) (fun b hb => hmr b (flat_mem (by simp) hb))
      replace hR_62 := Kd.keep _ hR_62 (hmv _)
      replace hE := hE'
      replace hI := hI.rebase
      clear hE' hmv hmr
      obtain ⟨t_73, hG_74, H1⟩ := bind_some H1
      have hbs_76 := hE.k.size
      refine callO_ hF hE hI (wanted_none rfl) rfl (args := [.pointer (some ⟨B_20, 0, none⟩), .string t_69]) rfl (enters Tryd.func17 (by kernel_rfl) rfl) (fun q_75 : SV × (Nat → List Nat) => .tuple #[.int .i64 t_73.1, fnv46 t_73.2.1 q_75.1]) [1] (fun q_75 => [q_75.2 0]) _ (G_strings_Builder_WriteString.calls t_58.2 t_69 B_20 (q_60.2 0) w_72 (S0_ := Lo S w w_72 ns_71 [[l_30], (q_60.2 0)]) ho_26 (Lo.pick [1]) (hE.pick [1] (by decide)) (hE.pickLt [1]) _ hG_74) (.inr (fun b hb => (ho_26.nd b (by simpa using hb)).2)) (fun q_75 => ⟨[e_ 27 (.tuple #[.int .i64 t_73.1, fnv46 t_73.2.1 q_75.1]), e_ 26 (.string t_69), e_ 4 (.pointer (some ⟨B_20, 0, none⟩)), p_ 3 1 0, p_ 2 0 0], [], [], [([.v (.string s1.1)], 9), ([.v (.bool s1.2.1)], 4)], some (w.heap.size, some aR_31.defers), some (2, ns_28)⟩) (fun q_75 => by kernel_rfl) (fun q_75 a w_78 hput hE' hI' hmv hmr hres hR => ?_)
      replace hmv : ∀ S0, Mv (Lo S0 w w_72 ns_71 [[l_30], (q_60.2 0)]) w_72 (Lo S0 w w_78 ns_71 [[l_30], (q_75.2 0)]) w_78 := hmv
      replace hmr : ∀ b ∈ ([[l_30]] : List (List Nat)).flatten, w_78.heap[b]? = w_72.heap[b]? := hmr
      replace hE : Ep [] w w_78 ns_71 [[l_30], (q_75.2 0)] := hE'
      replace hI := hI'
      clear hE' hI'
      replace hr0 := Arr.keep hr0 (hmv _)
      replace hR_15 := El.keep hR_15 (hmv _)
      replace hT_35 := Tk.keep hT_35 (hmv _)
      replace hl_36 := (hmr _ (by simp)).trans hl_36
      replace hR_62 := Kd.keep _ hR_62 (hmv _)
      clear hmv hmr
      obtain ⟨hR_77, ho_26⟩ := hR
      replace ho_26 := Ojt.keep ho_26 (hres _ (fun b hb => by simp at hb)) (fun _ _ => rfl)
      replace hR_77 := Kd.keep _ hR_77 (hres _ (fun b hb => by simp at hb))
      clear hres
      refine ckn0_ hF 0 hI [4, 3, 2] [] [] rfl (by kernel_rfl) (fun ns_79 a w_80 hI => ?_)
      refine wpListIn_nil ?_
      refine inBlock_normal ?_
      obtain ⟨hE', hmv, hmr⟩ := Ep.rebase hE hI
      replace hr0 := Arr.keep hr0 (hmv _)
      replace hR_15 := El.keep hR_15 (hmv _)
      replace hT_35 := Tk.keep hT_35 (hmv _)
      replace hl_36 := (hmr _ (by simp)).trans hl_36
      replace hR_62 := Kd.keep _ hR_62 (hmv _)
      replace ho_26 := Ojt.keep ho_26 (hmv _) (fun b hb => hmr b (flat_mem (by simp) hb))
      replace hR_77 := Kd.keep _ hR_77 (hmv _)
      replace hE := hE'
      replace hI := hI.rebase
      clear hE' hmv hmr
      obtain ⟨hE', hmv⟩ := Ep.reord hE [1, 0] (by kernel_rfl)
      replace hE : Ep [] w w_80 ns_79 [(q_75.2 0), [l_30]] := hE'
      replace hmv : ∀ S0, Mv (Lo S0 w w_80 ns_79 [[l_30], (q_75.2 0)]) w_80 (Lo S0 w w_80 ns_79 [(q_75.2 0), [l_30]]) w_80 := hmv
      have hmr : ∀ b ∈ ([(q_75.2 0), [l_30]] : List (List Nat)).flatten, w_80.heap[b]? = w_80.heap[b]? := fun _ _ => rfl
      replace hr0 := Arr.keep hr0 (hmv _)
      replace hR_15 := El.keep hR_15 (hmv _)
      replace hT_35 := Tk.keep hT_35 (hmv _)
      replace hl_36 := (hmr _ (by simp)).trans hl_36
      replace hR_62 := Kd.keep _ hR_62 (hmv _)
      replace ho_26 := Ojt.keep ho_26 (hmv _) (fun b hb => hmr b (flat_mem (by simp) hb))
      replace hR_77 := Kd.keep _ hR_77 (hmv _)
      clear hE' hmv hmr
      obtain ⟨hE', hI', hmv⟩ := Ep.unround (bs := [([.v (.string s1.1)], 9), ([.v (.bool s1.2.1)], 4)]) hO hE hI rfl rfl rfl rfl rfl rfl (by kernel_rfl) rfl
      have hmr : ∀ b ∈ ([(q_75.2 0), [l_30]] : List (List Nat)).flatten, w_80.heap[b]? = w_80.heap[b]? := fun _ _ => rfl
      replace hr0 := Arr.keep hr0 (hmv _)
      replace hR_15 := El.keep hR_15 (hmv _)
      replace hT_35 := Tk.keep hT_35 (hmv _)
      replace hl_36 := (hmr _ (by simp)).trans hl_36
      replace hR_62 := Kd.keep _ hR_62 (hmv _)
      replace ho_26 := Ojt.keep ho_26 (hmv _) (fun b hb => hmr b (flat_mem (by simp) hb))
      replace hR_77 := Kd.keep _ hR_77 (hmv _)
      replace hE := hE'
      replace hI := hI'
      clear hE' hI' hmv hmr
      obtain rfl := Option.some.inj H1
      exact RndQ.nrm hl_36 rfl ⟨_, hr0, hR_15, ho_26, hE, hI, hT_35.re⟩ hT_35.same
     ·replace H1 := bif_f hc_68 H1
      refine wpIn_skip ?_
      refine inBlock_normal ?_
      obtain ⟨hE', hmv, hmr⟩ := Ep.rebase hE hI
      replace hr0 := Arr.keep hr0 (hmv _)
      replace hR_15 := El.keep hR_15 (hmv _)
      replace hT_35 := Tk.keep hT_35 (hmv _)
      replace hl_36 := (hmr _ (by simp)).trans hl_36
      replace ho_26 := Ojt.keep ho_26 (hmv _) (fun b hb => hmr b (flat_mem (by simp) hb))
      replace hR_62 := Kd.keep _ hR_62 (hmv _)
      replace hE := hE'
      replace hI := hI.rebase
      clear hE' hmv hmr
      obtain ⟨hE', hmv⟩ := Ep.reord hE [1, 0] (by kernel_rfl)
      replace hE : Ep [] w w_67 ns_66 [(q_60.2 0), [l_30]] := hE'
      replace hmv : ∀ S0, Mv (Lo S0 w w_67 ns_66 [[l_30], (q_60.2 0)]) w_67 (Lo S0 w w_67 ns_66 [(q_60.2 0), [l_30]]) w_67 := hmv
      have hmr : ∀ b ∈ ([(q_60.2 0), [l_30]] : List (List Nat)).flatten, w_67.heap[b]? = w_67.heap[b]? := fun _ _ => rfl
      replace hr0 := Arr.keep hr0 (hmv _)
      replace hR_15 := El.keep hR_15 (hmv _)
      replace hT_35 := Tk.keep hT_35 (hmv _)
      replace hl_36 := (hmr _ (by simp)).trans hl_36
      replace ho_26 := Ojt.keep ho_26 (hmv _) (fun b hb => hmr b (flat_mem (by simp) hb))
      replace hR_62 := Kd.keep _ hR_62 (hmv _)
      clear hE' hmv hmr
      obtain ⟨hE', hI', hmv⟩ := Ep.unround (bs := [([.v (.string s1.1)], 9), ([.v (.bool s1.2.1)], 4)]) hO hE hI rfl rfl rfl rfl rfl rfl (by kernel_rfl) rfl
      have hmr : ∀ b ∈ ([(q_60.2 0), [l_30]] : List (List Nat)).flatten, w_67.heap[b]? = w_67.heap[b]? := fun _ _ => rfl
      replace hr0 := Arr.keep hr0 (hmv _)
      replace hR_15 := El.keep hR_15 (hmv _)
      replace hT_35 := Tk.keep hT_35 (hmv _)
      replace hl_36 := (hmr _ (by simp)).trans hl_36
      replace ho_26 := Ojt.keep ho_26 (hmv _) (fun b hb => hmr b (flat_mem (by simp) hb))
      replace hR_62 := Kd.keep _ hR_62 (hmv _)
      replace hE := hE'
      replace hI := hI'
      clear hE' hI' hmv hmr
      obtain rfl := Option.some.inj H1
      exact RndQ.nrm hl_36 rfl ⟨_, hr0, hR_15, ho_26, hE, hI, hT_35.re⟩ hT_35.same
   ·rintro s1 T w_81 hzz ⟨F_29, hr0, hR_15, ho_26, hE, hI, hT_35⟩
    subst hzz
    replace H0 : (((G_strings_Builder_String s1.2.2).bind fun t_82 => some (t_82.1, true)) : Option (ByteArray × Bool)) = _ := H0
    obtain ⟨hE', hmv⟩ := hE.sub (mine' := [F_29]) (sub_one [F_29] [] _)
    have hmr : ∀ b ∈ ([F_29, [l_30]] : List (List Nat)).flatten, w_81.heap[b]? = w_81.heap[b]? := fun _ _ => rfl
    replace hr0 := Arr.keep hr0 (hmv _)
    replace hR_15 := El.keep hR_15 (hmv _)
    replace ho_26 := Ojt.keep ho_26 (hmv _) (fun b hb => hmr b (flat_mem (by simp) hb))
    replace hE := hE'
    clear hE' hmv hmr
    refine inBlock_normal ?_
    refine then_normal ?_
    refine wpIn_seq ?_
    refine wpIn_region_lit ?_
    obtain ⟨t_82, hG_83, H0⟩ := bind_some H0
    have hbs_85 := hE.k.size
    refine callO_ hF hE hI (wanted_none rfl) rfl (args := [.pointer (some ⟨B_20, 0, none⟩)]) rfl (enters Tryd.func19 (by kernel_rfl) rfl) (fun q_84 : SV × (Nat → List Nat) => .string t_82.1) [0] (fun q_84 => [q_84.2 0]) _ (G_strings_Builder_String.calls s1.2.2 B_20 F_29 w_81 (S0_ := Lo S w w_81 ns_28 [F_29]) ho_26 (Lo.pick [0]) (hE.pick [0] (by decide)) (hE.pickLt [0]) _ hG_83) (.inr (fun b hb => (ho_26.nd b (by simpa using hb)).2)) (fun q_84 => ⟨[e_ 28 (.string t_82.1), e_ 11 (.func (.func 15) #[] #[.pointer (some (adr (sv_14 0).1))]), e_ 4 (.pointer (some ⟨B_20, 0, none⟩)), p_ 3 1 0, p_ 2 0 0], [], [], [([.v (.string s1.1)], 9), ([.v (.bool s1.2.1)], 4)], some (w.heap.size, none), none⟩) (fun q_84 => by kernel_rfl) (fun q_84 a w_86 hput hE' hI' hmv hmr hres hR => ?_)
    replace hmv : ∀ S0, Mv (Lo S0 w w_81 ns_28 [F_29]) w_81 (Lo S0 w w_86 ns_28 [(q_84.2 0)]) w_86 := hmv
    replace hmr : ∀ b ∈ ([] : List (List Nat)).flatten, w_86.heap[b]? = w_81.heap[b]? := hmr
    replace hE : Ep [] w w_86 ns_28 [(q_84.2 0)] := hE'
    replace hI := hI'
    clear hE' hI'
    replace hr0 := Arr.keep hr0 (hmv _)
    replace hR_15 := El.keep hR_15 (hmv _)
    clear hmv hmr
    have ho_26 := hR
    replace ho_26 := Ojt.keep ho_26 (hres _ (fun b hb => by simp at hb)) (fun _ _ => rfl)
    clear hres
    refine ckn0_ hF 2 hI [3, 2] [] [(0, ([.v (.string t_82.1)], 9)), (1, ([.v (.bool true)], 4))] rfl (by kernel_rfl) (fun ns_87 a w_88 hI => ?_)
    refine wpListIn_nil ?_
    refine then_normal ?_
    refine wpIn_ret ?_
    obtain rfl := Option.some.inj H0
    exact retM hI rfl rfl rfl (fun wz hz => ⟨rfl, (hE.below hI).trans hz.below⟩)
   ·rintro r1 WX hzz ⟨F_29, hr0, hR_15, ho_26, hE, hI⟩
    subst hzz
    replace H0 : (some (r1.2.1, r1.2.2.1) : Option (ByteArray × Bool)) = _ := H0
    dsimp only
    obtain ⟨hE', hmv⟩ := hE.sub (mine' := [F_29]) (sub_one [F_29] [] _)
    have hmr : ∀ b ∈ ([F_29, [l_30]] : List (List Nat)).flatten, WX.heap[b]? = WX.heap[b]? := fun _ _ => rfl
    replace hr0 := Arr.keep hr0 (hmv _)
    replace hR_15 := El.keep hR_15 (hmv _)
    replace ho_26 := Ojt.keep ho_26 (hmv _) (fun b hb => hmr b (flat_mem (by simp) hb))
    replace hE := hE'
    clear hE' hmv hmr
    refine wpIn_ret ?_
    refine inBlock_ret ?_
    refine then_ret ?_
    obtain rfl := Option.some.inj H0
    exact retM hI rfl rfl rfl (fun wz hz => ⟨rfl, (hE.below hI).trans hz.below⟩)

noncomputable def G_strings_IndexByte (a0 : ByteArray) (a1 : Int) : Option (Int) := some (Lib.indexByte a0.data.toList a1.toNat.toUInt8)
theorem G_strings_IndexByte.calls (a0 : ByteArray) (a1 : Int) (w : World) {S : Nat → Prop} (r : Int) (h : G_strings_IndexByte a0 a1 = some r) :
    Calls Tryd.prog 21 #[.string a0, .int .u8 a1] w fun e w' => e = .returned (.int .i64 r) ∧ Below w.heap.size w w' := by
  unfold G_strings_IndexByte at h
  obtain rfl := Option.some.inj h
  exact (Tryd.strings_IndexByte a0 a1 w).mono fun e w' ⟨h1, h2⟩ => ⟨h1, by subst h2; exact Below.refl _ _⟩

noncomputable def G_strconv_Atoi_27 (a0 : ByteArray) : Option (Int × Fn46) := if a0.size ≤ 18 then (Lib.atoi a0.data.toList).map fun n => (n, .nil) else none
theorem G_strconv_Atoi_27.calls (a0 : ByteArray) (w : World) {S : Nat → Prop} (r : Int × Fn46) (h : G_strconv_Atoi_27 a0 = some r) :
    Calls Tryd.prog 27 #[.string a0] w fun e w' => ∃ sv : SV, e = .returned (.tuple #[.int .i64 r.1, fnv46 r.2 sv]) ∧ Below w.heap.size w w' ∧ (kdF46).cont (fun b => w.heap.size ≤ b ∨ S b) w' r.2 sv := by
  unfold G_strconv_Atoi_27 at h
  split at h
  · rename_i hs
    cases ha : Lib.atoi a0.data.toList with
    | none => rw [ha] at h; cases h
    | some n =>
      rw [ha] at h
      obtain rfl := Option.some.inj h
      refine (Tryd.strconv_Atoi a0 n hs ha w).mono fun e w' ⟨h1, t, h2⟩ => ⟨svL [], h1, ?_, trivial⟩
      subst h2
      exact ⟨by simp [Lib.bytesWorld, World.freeze, World.alloc, World.drew, -World.alloc_eq, -World.drew_eq], by simp [Lib.bytesWorld, World.freeze, World.alloc, World.drew, -World.alloc_eq, -World.drew_eq], by simp [Lib.bytesWorld, World.freeze, World.alloc, World.drew, -World.alloc_eq, -World.drew_eq], by rw [Lib.bytesWorld_size]; omega, fun k hk => Lib.bytesWorld_at_old w 5 t k hk⟩
  · cases h

noncomputable def G_pack_Parse.b1 (a0 : ByteArray) (s1 : Bool × (List Int) × Bool × (List Int) × Int × ByteArray × Nat) : Option (Stp (Bool × (List Int) × Bool × (List Int) × Int × ByteArray × Nat) (Ex (Bool × (List Int) × Bool × (List Int) × Int × ByteArray × Nat) ((List Int) × Bool))) := (bif decide (s1.2.2.2.2.2.2 < a0.size) then ((G_strings_IndexByte (⟨#[97, 98, 116]⟩ : ByteArray) (IntKind.u8.wrap ((Utf8.decode a0 s1.2.2.2.2.2.2).1 : Int))).bind fun t_31 => (bif (((decide (((Utf8.decode a0 s1.2.2.2.2.2.2).1 : Int) ≥ 48) && decide (((Utf8.decode a0 s1.2.2.2.2.2.2).1 : Int) ≤ 57)) && decide (s1.2.2.2.2.1 ≥ 0)) && decide ((s1.2.2.2.2.2.1.size : Int) < 5)) then (req (decide (s1.2.2.2.2.2.1.size + (Utf8.encode (IntKind.u8.wrap ((Utf8.decode a0 s1.2.2.2.2.2.2).1 : Int))).size ≤ 140737488355328)) (some (.next (s1.1, s1.2.1, s1.2.2.1, s1.2.2.2.1, s1.2.2.2.2.1, (s1.2.2.2.2.2.1 ++ (Utf8.encode (IntKind.u8.wrap ((Utf8.decode a0 s1.2.2.2.2.2.2).1 : Int)))), (s1.2.2.2.2.2.2 + (Utf8.decode a0 s1.2.2.2.2.2.2).2))))) else (bif ((decide (((Utf8.decode a0 s1.2.2.2.2.2.2).1 : Int) > 127) || decide (t_31 < 0)) || (t_31 == s1.2.2.2.2.1)) then some (.out (.ret ([], false))) else (bif decide (s1.2.2.2.2.1 ≥ 0) then (bif (!(s1.2.2.2.2.2.1.toList == (⟨#[]⟩ : ByteArray).toList)) then ((G_strconv_Atoi_27 s1.2.2.2.2.2.1).bind fun t_63 => (req (imp (!(decide (t_63.1 < 2) || decide (t_63.1 > 4096))) (inb 0 s1.2.2.2.2.2.1.size)) (bif ((decide (t_63.1 < 2) || decide (t_63.1 > 4096)) || ((rdB s1.2.2.2.2.2.1 0) == 48)) then some (.out (.ret ([], false))) else (bif decide (t_63.1 > (IntKind.i64.wrap (4096 - (s1.2.1.length : Int)))) then some (.out (.ret ([], false))) else none)))) else (bif decide (1 > (IntKind.i64.wrap (4096 - (s1.2.1.length : Int)))) then some (.out (.ret ([], false))) else none)) else some (.next (s1.1, s1.2.1, s1.2.2.1, s1.2.2.2.1, t_31, ByteArray.empty, (s1.2.2.2.2.2.2 + (Utf8.decode a0 s1.2.2.2.2.2.2).2))))))) else some (.out (.brk (s1.1, s1.2.1, s1.2.2.1, s1.2.2.2.1, s1.2.2.2.2.1, s1.2.2.2.2.2.1, s1.2.2.2.2.2.2))))
noncomputable def G_pack_Parse (a0 : ByteArray) : Option ((List Int) × Bool) := ((loopω (G_pack_Parse.b1 a0) (true, ([] : List Int), false, ([] : List Int), (-1), ByteArray.empty, 0)).bind fun o => o.on (fun s1 => (bif decide (s1.2.2.2.2.1 ≥ 0) then (bif (!(s1.2.2.2.2.2.1.toList == (⟨#[]⟩ : ByteArray).toList)) then ((G_strconv_Atoi_27 s1.2.2.2.2.2.1).bind fun t_128 => (req (imp (!(decide (t_128.1 < 2) || decide (t_128.1 > 4096))) (inb 0 s1.2.2.2.2.2.1.size)) (bif ((decide (t_128.1 < 2) || decide (t_128.1 > 4096)) || ((rdB s1.2.2.2.2.2.1 0) == 48)) then some ([], false) else (bif decide (t_128.1 > (IntKind.i64.wrap (4096 - (s1.2.1.length : Int)))) then some ([], false) else none)))) else (bif decide (1 > (IntKind.i64.wrap (4096 - (s1.2.1.length : Int)))) then some ([], false) else none)) else (bif (!s1.1) then some ([], false) else some (s1.2.1, true)))) (fun r => some r))
theorem G_pack_Parse.calls (a0 : ByteArray)  (w : World) {S : Nat → Prop}  (r : (List Int) × Bool) (h : G_pack_Parse a0 = some r) :
    Calls Tryd.prog 11 #[.string a0] w fun e w' => ∃ sv : SV, e = .returned (.tuple #[.slice ((sv 0).1) r.1.length ((sv 0).2), .bool r.2]) ∧ Below w.heap.size w w' ∧ (Arr (Kd.int .i64) (fun b => w.heap.size ≤ b ∨ S b) w' (sv 0).1 r.1 ∧ r.1.length ≤ (sv 0).2) := by
  unfold G_pack_Parse at h
  have H0 := h
  clear h
  refine enter Tryd.func11 rfl [.string a0] (n := 83) rfl (Nat.le_of_ble_eq_true rfl) (fun a hI => ?_)
  have hF : FOpen Fence.wide := .inl rfl
  have hE := Ep.start w
  refine sr0_ hF hI (s_ [e_ 3 (.bool false), e_ 2 (.slice none 0 0), e_ 0 (.string a0)] []) (by kernel_rfl) (fun ns_1 a w_2 hI => ?_)
  refine srn0_ hF hI [4, 3, 2, 0] [e_ 4 (.slice none 0 0)] [] (by kernel_rfl) (fun ns_3 a w_4 hI => ?_)
  refine srn0_ hF hI [5, 4, 3, 2, 0] [p_ 5 0 0] [(0, ([.v (.int .i64 (-1)), .v (.string ByteArray.empty)], 54))] (by kernel_rfl) (fun ns_5 a w_6 hI => ?_)
  refine srn0_ hF hI [6, 5, 4, 3, 2, 0] [e_ 6 (.bool true)] [] (by kernel_rfl) (fun ns_7 a w_8 hI => ?_)
  refine wpIn_seq ?_
  refine wpIn_seq ?_
  refine wpIn_region_lit ?_
  refine ckn0_ hF 1 hI [11, 6, 5, 4, 3, 2] [e_ 11 (.string a0)] [] rfl (by kernel_rfl) (fun ns_9 a w_10 hI => ?_)
  obtain ⟨hE', hmv, hmr⟩ := Ep.rebase hE hI
  replace hE := hE'
  replace hI := hI.rebase
  clear hE' hmv hmr
  refine rangeS_ hF hE hI (wanted_none rfl) rfl Tryd.underlying9 (s := a0) rfl (fun b_11 => (s_ [e_ 12 (.pointer (some ⟨b_11, 0, none⟩)), e_ 11 (.string a0), e_ 6 (.bool true), p_ 5 0 0, e_ 4 (.slice none 0 0), e_ 3 (.bool false), e_ 2 (.slice none 0 0)] [([.v (.int .i64 (-1)), .v (.string ByteArray.empty)], 54)])) (fun b_11 => by kernel_rfl) (fun b_11 a w_13 hput hE' hI' hmv hmr hq_12 => ?_)
  replace hE := hE'
  replace hI := hI'
  clear hE' hI' hmv hmr
  refine ckn0_ hF 0 hI [12, 6, 5, 4, 3, 2] [] [] rfl (by kernel_rfl) (fun ns_14 a w_15 hI => ?_)
  refine wpListIn_nil ?_
  refine then_normal ?_
  obtain ⟨hE', hmv, hmr⟩ := Ep.rebase hE hI
  replace hq_12 := ItIs.keep hq_12 (hmr _ (by simp))
  replace hE := hE'
  replace hI := hI.rebase
  clear hE' hmv hmr
  obtain ⟨hE', hmv⟩ := Ep.addNil hE
  have hmr : ∀ b ∈ ([[b_11]] : List (List Nat)).flatten, w_15.heap[b]? = w_15.heap[b]? := fun _ _ => rfl
  replace hq_12 := ItIs.keep hq_12 (hmr _ (by simp))
  replace hE := hE'
  clear hE' hmv hmr
  have hq_16 : Row (Kd.int .i64) 3 (Lo S w w_15 ns_14 [[b_11], rb none]) w_15 w.heap.size none 0 ([] : List Int) := Row.nil
  obtain ⟨hE', hmv⟩ := Ep.addNil hE
  have hmr : ∀ b ∈ ([[b_11], rb none] : List (List Nat)).flatten, w_15.heap[b]? = w_15.heap[b]? := fun _ _ => rfl
  replace hq_12 := ItIs.keep hq_12 (hmr _ (by simp))
  replace hq_16 := Row.keep hq_16 (hmv _) (fun b hb => by simp [rb] at hb)
  replace hE := hE'
  clear hE' hmv hmr
  have hq_17 : Row (Kd.int .i64) 3 (Lo S w w_15 ns_14 [[b_11], rb none, rb none]) w_15 w.heap.size none 0 ([] : List Int) := Row.nil
  obtain ⟨o_108, hL_109, H0⟩ := bind_some H0
  refine block_loop (fun (s1 : Bool × (List Int) × Bool × (List Int) × Int × ByteArray × Nat) a w_177 => ∃ (ow ns : List Nat) (A_18 : Option Addr) (c_19 : Nat) (A_20 : Option Addr) (c_21 : Nat), (ItIs w_177 b_11 a0 s1.2.2.2.2.2.2) ∧ (Row (Kd.int .i64) 3 (Lo S w w_177 ow [[b_11], rb A_18, rb A_20]) w_177 w.heap.size A_18 c_19 s1.2.1) ∧ (Row (Kd.int .i64) 3 (Lo S w w_177 ow [[b_11], rb A_18, rb A_20]) w_177 w.heap.size A_20 c_21 s1.2.2.2.1) ∧ Ep [] w w_177 ow [[b_11], rb A_18, rb A_20] ∧ St w_177 ow 83 (s_ [e_ 12 (.pointer (some ⟨b_11, 0, none⟩)), e_ 6 (.bool s1.1), p_ 5 0 0, e_ 4 (.slice A_18 s1.2.1.length c_19), e_ 3 (.bool s1.2.2.1), e_ 2 (.slice A_20 s1.2.2.2.1.length c_21)] [([.v (.int .i64 s1.2.2.2.2.1), .v (.string s1.2.2.2.2.2.1)], 54)]) ns a w_177) (true, ([] : List Int), false, ([] : List Int), (-1), ByteArray.empty, 0) hL_109 ⟨_, _, _, _, _, _, hq_12, hq_16, hq_17, hE, hI.pick [12, 6, 5, 4, 3, 2] 1 (s_ [e_ 12 (.pointer (some ⟨b_11, 0, none⟩)), e_ 6 (.bool true), p_ 5 0 0, e_ 4 (.slice none ([] : List Int).length 0), e_ 3 (.bool false), e_ 2 (.slice none ([] : List Int).length 0)] [([.v (.int .i64 (-1)), .v (.string ByteArray.empty)], 54)]) (by kernel_rfl)⟩ ?_ ?_
  ·clear hI hE
   rintro s1 a w_22 ⟨ow_24, ns_23, A_18, c_19, A_20, c_21, hq_12, hq_16, hq_17, hE, hI⟩ r1 H1
   unfold G_pack_Parse.b1 at H1
   refine wpIn_seq ?_
   refine wpIn_region_lit ?_
   obtain ⟨hE', hmv, hmr⟩ := Ep.rebase hE hI
   replace hq_12 := ItIs.keep hq_12 (hmr _ (by simp))
   replace hq_16 := Row.keep hq_16 (hmv _) (fun b hb => hmr b (by simp [hb]))
   replace hq_17 := Row.keep hq_17 (hmv _) (fun b hb => hmr b (by simp [hb]))
   replace hE := hE'
   replace hI := hI.rebase
   clear hE' hmv hmr
   refine nextS_ hF hE hI (wanted_none rfl) rfl (by simp) hq_12 rfl (s_ [e_ 13 (.tuple #[.bool true, .int .i64 (s1.2.2.2.2.2.2 : Int), .int .i32 ((Utf8.decode a0 s1.2.2.2.2.2.2).1 : Int)]), e_ 12 (.pointer (some ⟨b_11, 0, none⟩)), e_ 6 (.bool s1.1), p_ 5 0 0, e_ 4 (.slice A_18 s1.2.1.length c_19), e_ 3 (.bool s1.2.2.1), e_ 2 (.slice A_20 s1.2.2.2.1.length c_21)] [([.v (.int .i64 s1.2.2.2.2.1), .v (.string s1.2.2.2.2.2.1)], 54)]) (s_ [e_ 13 (.tuple #[.bool false]), e_ 12 (.pointer (some ⟨b_11, 0, none⟩)), e_ 6 (.bool s1.1), p_ 5 0 0, e_ 4 (.slice A_18 s1.2.1.length c_19), e_ 3 (.bool s1.2.2.1), e_ 2 (.slice A_20 s1.2.2.2.1.length c_21)] [([.v (.int .i64 s1.2.2.2.2.1), .v (.string s1.2.2.2.2.2.1)], 54)]) (by kernel_rfl) (by kernel_rfl) (fun a w_25 hb_26 hput hE' hI' hmv hmr hq_12 => ?_) (fun a hb_26 hI => ?_)
   ·replace H1 := bif_t hb_26 H1
    replace hq_16 := Row.keep hq_16 (hmv _) (fun b hb => hmr b (by simp [hb]) (Ep.ne hE (i := 0) (j := 1) (by decide) rfl rfl hb))
    replace hq_17 := Row.keep hq_17 (hmv _) (fun b hb => hmr b (by simp [hb]) (Ep.ne hE (i := 0) (j := 2) (by decide) rfl rfl hb))
    replace hE := hE'
    replace hI := hI'
    clear hE' hI' hmv hmr
    refine ckn0_ hF 1 hI [14, 13, 12, 6, 5, 4, 3, 2] [e_ 14 (.bool true)] [] rfl (by kernel_rfl) (fun ns_27 a w_28 hI => ?_)
    refine wpListIn_nil ?_
    refine then_normal ?_
    refine wpIn_seq ?_
    refine cond_ hI true rfl (fun _ => ?_) (fun h => by cases h)
    refine wpIn_skip ?_
    refine then_normal ?_
    refine wpIn_block ?_
    refine srn0_ hF hI [8, 12, 6, 5, 4, 3, 2] [e_ 8 (.int .i32 ((Utf8.decode a0 s1.2.2.2.2.2.2).1 : Int))] [] (by kernel_rfl) (fun ns_29 a w_30 hI => ?_)
    obtain ⟨t_31, hG_32, H1⟩ := bind_some H1
    refine srn_ (orc := [[.int .i64 t_31]]) hF hI [9, 8, 12, 6, 5, 4, 3, 2] [e_ 9 (.int .i64 t_31)] [] [.call true 21 [.string (⟨#[97, 98, 116]⟩ : ByteArray), .int .u8 (IntKind.u8.wrap ((Utf8.decode a0 s1.2.2.2.2.2.2).1 : Int))] (.int .i64 t_31)] (by kernel_rfl) ⟨ob_call (enters Tryd.func21 (by kernel_rfl) rfl) (fun hg wz hk => G_strings_IndexByte.calls (⟨#[97, 98, 116]⟩ : ByteArray) (IntKind.u8.wrap ((Utf8.decode a0 s1.2.2.2.2.2.2).1 : Int))  wz (S := fun _ => True)  _ hG_32), trivial⟩ (fun ns_33 a w_34 hI => ?_)
    refine wpIn_seq ?_
    refine wpIn_block ?_
    refine srn0_ hF hI [19, 9, 8, 12, 6, 5, 4, 3, 2] [e_ 19 (.bool (((decide (((Utf8.decode a0 s1.2.2.2.2.2.2).1 : Int) ≥ 48) && decide (((Utf8.decode a0 s1.2.2.2.2.2.2).1 : Int) ≤ 57)) && decide (s1.2.2.2.2.1 ≥ 0)) && decide ((s1.2.2.2.2.2.1.size : Int) < 5)))] [] (by kernel_rfl) (fun ns_35 a w_36 hI => ?_)
    refine cond_ hI ((((decide (((Utf8.decode a0 s1.2.2.2.2.2.2).1 : Int) ≥ 48) && decide (((Utf8.decode a0 s1.2.2.2.2.2.2).1 : Int) ≤ 57)) && decide (s1.2.2.2.2.1 ≥ 0)) && decide ((s1.2.2.2.2.2.1.size : Int) < 5))) rfl (fun hc_37 => ?_) (fun hc_37 => ?_)
    ·replace H1 := bif_t hc_37 H1
     refine wpIn_seq ?_
     refine wpIn_region_lit ?_
     refine ckn0_ hF 4 hI [40, 38, 12, 6, 5, 4, 3, 2] [e_ 40 (.int .u8 (IntKind.u8.wrap ((Utf8.decode a0 s1.2.2.2.2.2.2).1 : Int))), e_ 38 (.string s1.2.2.2.2.2.1)] [] rfl (by kernel_rfl) (fun ns_38 a w_39 hI => ?_)
     refine enc_ hF hI (wanted_none rfl) rfl (by kernel_rfl) Tryd.underlying9 rfl (s_ [e_ 41 (.string (Utf8.encode (IntKind.u8.wrap ((Utf8.decode a0 s1.2.2.2.2.2.2).1 : Int)))), e_ 40 (.int .u8 (IntKind.u8.wrap ((Utf8.decode a0 s1.2.2.2.2.2.2).1 : Int))), e_ 38 (.string s1.2.2.2.2.2.1), e_ 12 (.pointer (some ⟨b_11, 0, none⟩)), e_ 6 (.bool s1.1), p_ 5 0 0, e_ 4 (.slice A_18 s1.2.1.length c_19), e_ 3 (.bool s1.2.2.1), e_ 2 (.slice A_20 s1.2.2.2.1.length c_21)] [([.v (.int .i64 s1.2.2.2.2.1), .v (.string s1.2.2.2.2.2.1)], 54)]) (by kernel_rfl) (fun a hI => ?_)
     obtain ⟨hN_40, H1⟩ := req_some H1
     refine cat_ hF hI (wanted_none rfl) rfl (s := s1.2.2.2.2.2.1) (t := (Utf8.encode (IntKind.u8.wrap ((Utf8.decode a0 s1.2.2.2.2.2.2).1 : Int)))) rfl rfl (of_decide_eq_true hN_40) (s_ [e_ 42 (.string (s1.2.2.2.2.2.1 ++ (Utf8.encode (IntKind.u8.wrap ((Utf8.decode a0 s1.2.2.2.2.2.2).1 : Int))))), e_ 41 (.string (Utf8.encode (IntKind.u8.wrap ((Utf8.decode a0 s1.2.2.2.2.2.2).1 : Int)))), e_ 40 (.int .u8 (IntKind.u8.wrap ((Utf8.decode a0 s1.2.2.2.2.2.2).1 : Int))), e_ 38 (.string s1.2.2.2.2.2.1), e_ 12 (.pointer (some ⟨b_11, 0, none⟩)), e_ 6 (.bool s1.1), p_ 5 0 0, e_ 4 (.slice A_18 s1.2.1.length c_19), e_ 3 (.bool s1.2.2.1), e_ 2 (.slice A_20 s1.2.2.2.1.length c_21)] [([.v (.int .i64 s1.2.2.2.2.1), .v (.string s1.2.2.2.2.2.1)], 54)]) (by kernel_rfl) (fun a hI => ?_)
     refine ckn0_ hF 2 hI [12, 6, 5, 4, 3, 2] [] [(0, ([.v (.int .i64 s1.2.2.2.2.1), .v (.string (s1.2.2.2.2.2.1 ++ (Utf8.encode (IntKind.u8.wrap ((Utf8.decode a0 s1.2.2.2.2.2.2).1 : Int)))))], 54))] rfl (by kernel_rfl) (fun ns_41 a w_42 hI => ?_)
     refine wpListIn_nil ?_
     refine then_normal ?_
     refine wpIn_exit ?_
     refine inBlock_other (by decide) ?_
     refine then_exit ?_
     refine inBlock_here ?_
     refine then_normal ?_
     obtain ⟨hE', hmv, hmr⟩ := Ep.rebase hE hI
     replace hq_16 := Row.keep hq_16 (hmv _) (fun b hb => hmr b (by simp [hb]))
     replace hq_17 := Row.keep hq_17 (hmv _) (fun b hb => hmr b (by simp [hb]))
     replace hq_12 := ItIs.keep hq_12 (hmr _ (by simp))
     replace hE := hE'
     replace hI := hI.rebase
     clear hE' hmv hmr
     obtain rfl := Option.some.inj H1
     exact ⟨_, rfl, ⟨_, _, _, _, _, _, hq_12, hq_16, hq_17, hE, hI.pick [12, 6, 5, 4, 3, 2] 1 (s_ [e_ 12 (.pointer (some ⟨b_11, 0, none⟩)), e_ 6 (.bool s1.1), p_ 5 0 0, e_ 4 (.slice A_18 s1.2.1.length c_19), e_ 3 (.bool s1.2.2.1), e_ 2 (.slice A_20 s1.2.2.2.1.length c_21)] [([.v (.int .i64 s1.2.2.2.2.1), .v (.string (s1.2.2.2.2.2.1 ++ (Utf8.encode (IntKind.u8.wrap ((Utf8.decode a0 s1.2.2.2.2.2.2).1 : Int)))))], 54)]) (by kernel_rfl)⟩⟩
    ·replace H1 := bif_f hc_37 H1
     refine srn0_ hF hI [44, 9, 12, 6, 5, 4, 3, 2] [e_ 44 (.bool ((decide (((Utf8.decode a0 s1.2.2.2.2.2.2).1 : Int) > 127) || decide (t_31 < 0)) || (t_31 == s1.2.2.2.2.1)))] [] (by kernel_rfl) (fun ns_43 a w_44 hI => ?_)
     refine cond_ hI (((decide (((Utf8.decode a0 s1.2.2.2.2.2.2).1 : Int) > 127) || decide (t_31 < 0)) || (t_31 == s1.2.2.2.2.1))) rfl (fun hc_45 => ?_) (fun hc_45 => ?_)
     ·replace H1 := bif_t hc_45 H1
      refine srn0_ hF hI [3, 2] [e_ 3 (.bool false), e_ 2 (.slice none 0 0)] [] (by kernel_rfl) (fun ns_46 a w_47 hI => ?_)
      refine wpIn_ret ?_
      refine inBlock_ret ?_
      refine then_ret ?_
      refine inBlock_ret ?_
      refine then_ret ?_
      obtain rfl := Option.some.inj H1
      refine .inr ⟨_, rfl, fun ho => ?_⟩
      subst ho
      refine inBlock_ret ?_
      refine then_ret ?_
      obtain rfl := Option.some.inj H0
      exact ret2 hI rfl rfl rfl ⟨svL [(none, 0)], rfl, hE.below hI, ⟨(Arr.nil _ _ _ _), (Nat.le_refl _)⟩⟩
     ·replace H1 := bif_f hc_45 H1
      refine srn0_ hF hI [57, 9, 12, 6, 5, 4, 3, 2] [e_ 57 (.bool (decide (s1.2.2.2.2.1 ≥ 0)))] [] (by kernel_rfl) (fun ns_48 a w_49 hI => ?_)
      refine cond_ hI (decide (s1.2.2.2.2.1 ≥ 0)) rfl (fun hc_50 => ?_) (fun hc_50 => ?_)
      ·replace H1 := bif_t hc_50 H1
       refine wpIn_seq ?_
       refine wpIn_region_lit ?_
       refine ckn0_ hF 2 hI [63, 62, 9, 12, 6, 5, 4, 3, 2] [e_ 63 (.slice A_18 s1.2.1.length c_19), e_ 62 (.agg #[.int .i64 s1.2.2.2.2.1, .string s1.2.2.2.2.2.1])] [] rfl (by kernel_rfl) (fun ns_51 a w_52 hI => ?_)
       obtain ⟨hE', hmv, hmr⟩ := Ep.rebase hE hI
       replace hq_16 := Row.keep hq_16 (hmv _) (fun b hb => hmr b (by simp [hb]))
       replace hq_17 := Row.keep hq_17 (hmv _) (fun b hb => hmr b (by simp [hb]))
       replace hq_12 := ItIs.keep hq_12 (hmr _ (by simp))
       replace hE := hE'
       replace hI := hI.rebase
       clear hE' hmv hmr
       refine callI_ hF hI (wanted_none rfl) rfl Tryd.func22 (by kernel_rfl) rfl (n' := 40) rfl (by kernel_rfl) (by kernel_rfl) (fun au_53 hIu_53 => ?_)
       have hOu_53 := hI
       have hFu_53 := hF
       have hF : FOpen Fence.wide := .inl rfl
       have hI : St w_52 ns_51 40 ⟨[e_ 0 (.agg #[.int .i64 s1.2.2.2.2.1, .string s1.2.2.2.2.2.1]), e_ 1 (.slice A_18 s1.2.1.length c_19)], [], [], [([.v (.int .i64 s1.2.2.2.2.1), .v (.string s1.2.2.2.2.2.1)], 54)], none, some (1, ns_51)⟩ ns_51 au_53 w_52 := hIu_53
       clear hIu_53
       refine sr0_ hF hI ⟨[e_ 5 (.bool false), e_ 4 (.slice none 0 0), p_ 2 1 0, e_ 1 (.slice A_18 s1.2.1.length c_19)], [], [], [([.v (.int .i64 s1.2.2.2.2.1), .v (.string s1.2.2.2.2.2.1)], 54), ([.v (.int .i64 s1.2.2.2.2.1), .v (.string s1.2.2.2.2.2.1)], 54)], none, some (1, ns_51)⟩ (by kernel_rfl) (fun ns_54 a w_55 hI => ?_)
       refine srn0_ hF hI [6, 5, 4, 2, 1] [e_ 6 (.int .i64 1)] [] (by kernel_rfl) (fun ns_56 a w_57 hI => ?_)
       refine wpIn_seq ?_
       refine srn0_ hF hI [9, 6, 5, 4, 2, 1] [e_ 9 (.bool (!(s1.2.2.2.2.2.1.toList == (⟨#[]⟩ : ByteArray).toList)))] [] (by kernel_rfl) (fun ns_58 a w_59 hI => ?_)
       refine cond_ hI ((!(s1.2.2.2.2.2.1.toList == (⟨#[]⟩ : ByteArray).toList))) rfl (fun hc_60 => ?_) (fun hc_60 => ?_)
       ·replace H1 := bif_t hc_60 H1
        refine wpIn_seq ?_
        refine wpIn_region_lit ?_
        refine ckn0_ hF 2 hI [12, 6, 5, 4, 2, 1] [e_ 12 (.string s1.2.2.2.2.2.1)] [] rfl (by kernel_rfl) (fun ns_61 a w_62 hI => ?_)
        obtain ⟨hE', hmv, hmr⟩ := Ep.rebase hE hI
        replace hq_16 := Row.keep hq_16 (hmv _) (fun b hb => hmr b (by simp [hb]))
        replace hq_17 := Row.keep hq_17 (hmv _) (fun b hb => hmr b (by simp [hb]))
        replace hq_12 := ItIs.keep hq_12 (hmr _ (by simp))
        replace hE := hE'
        replace hI := hI.rebase
        clear hE' hmv hmr
        obtain ⟨t_63, hG_64, H1⟩ := bind_some H1
        refine callH_ hF hE hI (wanted_none rfl) rfl (args := [.string s1.2.2.2.2.2.1]) rfl (enters Tryd.func27 (by kernel_rfl) rfl) (fun sv_65 => .tuple #[.int .i64 t_63.1, fnv46 t_63.2 sv_65]) _ (G_strconv_Atoi_27.calls s1.2.2.2.2.2.1  w_62 (S := Lo S w w_62 ns_61 [[b_11], rb A_18, rb A_20])  _ hG_64) (fun sv_65 => ⟨[e_ 13 (.tuple #[.int .i64 t_63.1, fnv46 t_63.2 sv_65]), e_ 12 (.string s1.2.2.2.2.2.1), e_ 6 (.int .i64 1), e_ 5 (.bool false), e_ 4 (.slice none 0 0), p_ 2 1 0, e_ 1 (.slice A_18 s1.2.1.length c_19)], [], [], [([.v (.int .i64 s1.2.2.2.2.1), .v (.string s1.2.2.2.2.2.1)], 54), ([.v (.int .i64 s1.2.2.2.2.1), .v (.string s1.2.2.2.2.2.1)], 54)], none, some (1, ns_51)⟩) (fun sv_65 => by kernel_rfl) (fun sv_65 a w_67 hput hE' hI' hmv hmr hres hR => ?_)
        replace hq_16 := Row.keep hq_16 (hmv _) (fun b hb => hmr b (by simp [hb]) (by simp))
        replace hq_17 := Row.keep hq_17 (hmv _) (fun b hb => hmr b (by simp [hb]) (by simp))
        replace hq_12 := ItIs.keep hq_12 (hmr _ (by simp) (by simp))
        replace hE := hE'
        replace hI := hI'
        clear hE' hI' hmv hmr
        have hR_66 := hR
        replace hR_66 := Kd.keep _ hR_66 (hres _)
        clear hres
        refine ckn0_ hF 4 hI [6, 5, 4, 2, 1] [e_ 6 (.int .i64 t_63.1)] [] rfl (by kernel_rfl) (fun ns_68 a w_69 hI => ?_)
        refine wpListIn_nil ?_
        refine then_normal ?_
        obtain ⟨hN_70, H1⟩ := req_some H1
        refine srn_ (orc := [[.int .u8 (rdB s1.2.2.2.2.2.1 0)]]) hF hI [27, 6, 5, 4, 2, 1] [e_ 27 (.bool ((decide (t_63.1 < 2) || decide (t_63.1 > 4096)) || ((rdB s1.2.2.2.2.2.1 0) == 48)))] [] [.run (!(decide (t_63.1 < 2) || decide (t_63.1 > 4096))) (vS (Instr.index 9 (.string s1.2.2.2.2.2.1) (.int .i64 0))) (.int .u8 (rdB s1.2.2.2.2.2.1 0))] (by kernel_rfl) ⟨(fun hg wz hk => vS_run (index_run Tryd.underlying9 _ _ (imp_spec hN_70 hg) wz)), trivial⟩ (fun ns_71 a w_72 hI => ?_)
        refine cond_ hI (((decide (t_63.1 < 2) || decide (t_63.1 > 4096)) || ((rdB s1.2.2.2.2.2.1 0) == 48))) rfl (fun hc_73 => ?_) (fun hc_73 => ?_)
        ·replace H1 := bif_t hc_73 H1
         refine srn0_ hF hI [5, 4] [] [] (by kernel_rfl) (fun ns_74 a w_75 hI => ?_)
         refine wpIn_ret ?_
         refine then_ret ?_
         obtain ⟨hE', hmv, hmr⟩ := Ep.rebase hE hI
         replace hq_16 := Row.keep hq_16 (hmv _) (fun b hb => hmr b (by simp [hb]))
         replace hq_17 := Row.keep hq_17 (hmv _) (fun b hb => hmr b (by simp [hb]))
         replace hq_12 := ItIs.keep hq_12 (hmr _ (by simp))
         replace hR_66 := Kd.keep _ hR_66 (hmv _)
         replace hE := hE'
         replace hI := hI.rebase
         clear hE' hmv hmr
         obtain ⟨hE', hI', hmv⟩ := Ep.uncall (bs := [([.v (.int .i64 s1.2.2.2.2.1), .v (.string s1.2.2.2.2.2.1)], 54)]) hOu_53 hE hI rfl rfl rfl rfl (by kernel_rfl) rfl
         have hmr : ∀ b ∈ ([[b_11], rb A_18, rb A_20] : List (List Nat)).flatten, w_75.heap[b]? = w_75.heap[b]? := fun _ _ => rfl
         replace hq_16 := Row.keep hq_16 (hmv _) (fun b hb => hmr b (by simp [hb]))
         replace hq_17 := Row.keep hq_17 (hmv _) (fun b hb => hmr b (by simp [hb]))
         replace hq_12 := ItIs.keep hq_12 (hmr _ (by simp))
         replace hR_66 := Kd.keep _ hR_66 (hmv _)
         replace hE := hE'
         clear hE' hmv hmr
         refine retG hI rfl rfl ⟨.tuple #[.slice none 0 0, .bool false], rfl, ?_⟩
         refine putI_ hI' (s_ [e_ 64 (.tuple #[.slice none 0 0, .bool false]), e_ 63 (.slice A_18 s1.2.1.length c_19), e_ 62 (.agg #[.int .i64 s1.2.2.2.2.1, .string s1.2.2.2.2.2.1]), e_ 9 (.int .i64 t_31), e_ 12 (.pointer (some ⟨b_11, 0, none⟩)), e_ 6 (.bool s1.1), p_ 5 0 0, e_ 4 (.slice A_18 s1.2.1.length c_19), e_ 3 (.bool s1.2.2.1), e_ 2 (.slice A_20 s1.2.2.2.1.length c_21)] [([.v (.int .i64 s1.2.2.2.2.1), .v (.string s1.2.2.2.2.2.1)], 54)]) (by kernel_rfl) (fun a hI => ?_)
         clear hI'
         have hF := hFu_53
         refine ckn0_ hF 5 hI [6, 4, 9, 12, 5, 3, 2] [e_ 6 (.bool false), e_ 4 (.slice none 0 0)] [] rfl (by kernel_rfl) (fun ns_76 a w_77 hI => ?_)
         refine wpListIn_nil ?_
         refine then_normal ?_
         refine srn0_ hF hI [68, 6, 4, 9, 12, 5, 3, 2] [e_ 68 (.bool true)] [] (by kernel_rfl) (fun ns_78 a w_79 hI => ?_)
         refine cond_ hI true rfl (fun _ => ?_) (fun h => by cases h)
         refine srn0_ hF hI [3, 2] [e_ 3 (.bool false), e_ 2 (.slice none 0 0)] [] (by kernel_rfl) (fun ns_80 a w_81 hI => ?_)
         refine wpIn_ret ?_
         refine inBlock_ret ?_
         refine then_ret ?_
         refine inBlock_ret ?_
         refine then_ret ?_
         obtain rfl := Option.some.inj H1
         refine .inr ⟨_, rfl, fun ho => ?_⟩
         subst ho
         refine inBlock_ret ?_
         refine then_ret ?_
         obtain rfl := Option.some.inj H0
         exact ret2 hI rfl rfl rfl ⟨svL [(none, 0)], rfl, hE.below hI, ⟨(Arr.nil _ _ _ _), (Nat.le_refl _)⟩⟩
        ·replace H1 := bif_f hc_73 H1
         refine wpIn_skip ?_
         refine then_normal ?_
         refine wpIn_seq ?_
         refine srn0_ hF hI [32, 6, 5, 4, 2, 1] [e_ 32 (.bool (decide (t_63.1 > (IntKind.i64.wrap (4096 - (s1.2.1.length : Int))))))] [] (by kernel_rfl) (fun ns_82 a w_83 hI => ?_)
         refine cond_ hI (decide (t_63.1 > (IntKind.i64.wrap (4096 - (s1.2.1.length : Int))))) rfl (fun hc_84 => ?_) (fun hc_84 => ?_)
         ·replace H1 := bif_t hc_84 H1
          refine srn0_ hF hI [5, 4] [] [] (by kernel_rfl) (fun ns_85 a w_86 hI => ?_)
          refine wpIn_ret ?_
          refine then_ret ?_
          obtain ⟨hE', hmv, hmr⟩ := Ep.rebase hE hI
          replace hq_16 := Row.keep hq_16 (hmv _) (fun b hb => hmr b (by simp [hb]))
          replace hq_17 := Row.keep hq_17 (hmv _) (fun b hb => hmr b (by simp [hb]))
          replace hq_12 := ItIs.keep hq_12 (hmr _ (by simp))
          replace hR_66 := Kd.keep _ hR_66 (hmv _)
          replace hE := hE'
          replace hI := hI.rebase
          clear hE' hmv hmr
          obtain ⟨hE', hI', hmv⟩ := Ep.uncall (bs := [([.v (.int .i64 s1.2.2.2.2.1), .v (.string s1.2.2.2.2.2.1)], 54)]) hOu_53 hE hI rfl rfl rfl rfl (by kernel_rfl) rfl
          have hmr : ∀ b ∈ ([[b_11], rb A_18, rb A_20] : List (List Nat)).flatten, w_86.heap[b]? = w_86.heap[b]? := fun _ _ => rfl
          replace hq_16 := Row.keep hq_16 (hmv _) (fun b hb => hmr b (by simp [hb]))
          replace hq_17 := Row.keep hq_17 (hmv _) (fun b hb => hmr b (by simp [hb]))
          replace hq_12 := ItIs.keep hq_12 (hmr _ (by simp))
          replace hR_66 := Kd.keep _ hR_66 (hmv _)
          replace hE := hE'
          clear hE' hmv hmr
          refine retG hI rfl rfl ⟨.tuple #[.slice none 0 0, .bool false], rfl, ?_⟩
          refine putI_ hI' (s_ [e_ 64 (.tuple #[.slice none 0 0, .bool false]), e_ 63 (.slice A_18 s1.2.1.length c_19), e_ 62 (.agg #[.int .i64 s1.2.2.2.2.1, .string s1.2.2.2.2.2.1]), e_ 9 (.int .i64 t_31), e_ 12 (.pointer (some ⟨b_11, 0, none⟩)), e_ 6 (.bool s1.1), p_ 5 0 0, e_ 4 (.slice A_18 s1.2.1.length c_19), e_ 3 (.bool s1.2.2.1), e_ 2 (.slice A_20 s1.2.2.2.1.length c_21)] [([.v (.int .i64 s1.2.2.2.2.1), .v (.string s1.2.2.2.2.2.1)], 54)]) (by kernel_rfl) (fun a hI => ?_)
          clear hI'
          have hF := hFu_53
          refine ckn0_ hF 5 hI [6, 4, 9, 12, 5, 3, 2] [e_ 6 (.bool false), e_ 4 (.slice none 0 0)] [] rfl (by kernel_rfl) (fun ns_87 a w_88 hI => ?_)
          refine wpListIn_nil ?_
          refine then_normal ?_
          refine srn0_ hF hI [68, 6, 4, 9, 12, 5, 3, 2] [e_ 68 (.bool true)] [] (by kernel_rfl) (fun ns_89 a w_90 hI => ?_)
          refine cond_ hI true rfl (fun _ => ?_) (fun h => by cases h)
          refine srn0_ hF hI [3, 2] [e_ 3 (.bool false), e_ 2 (.slice none 0 0)] [] (by kernel_rfl) (fun ns_91 a w_92 hI => ?_)
          refine wpIn_ret ?_
          refine inBlock_ret ?_
          refine then_ret ?_
          refine inBlock_ret ?_
          refine then_ret ?_
          obtain rfl := Option.some.inj H1
          refine .inr ⟨_, rfl, fun ho => ?_⟩
          subst ho
          refine inBlock_ret ?_
          refine then_ret ?_
          obtain rfl := Option.some.inj H0
          exact ret2 hI rfl rfl rfl ⟨svL [(none, 0)], rfl, hE.below hI, ⟨(Arr.nil _ _ _ _), (Nat.le_refl _)⟩⟩
         ·replace H1 := bif_f hc_84 H1
          refine wpIn_skip ?_
          refine then_normal ?_
          cases H1
       ·replace H1 := bif_f hc_60 H1
        refine wpIn_skip ?_
        refine then_normal ?_
        refine wpIn_seq ?_
        refine srn0_ hF hI [32, 6, 5, 4, 2, 1] [e_ 32 (.bool (decide (1 > (IntKind.i64.wrap (4096 - (s1.2.1.length : Int))))))] [] (by kernel_rfl) (fun ns_93 a w_94 hI => ?_)
        refine cond_ hI (decide (1 > (IntKind.i64.wrap (4096 - (s1.2.1.length : Int))))) rfl (fun hc_95 => ?_) (fun hc_95 => ?_)
        ·replace H1 := bif_t hc_95 H1
         refine srn0_ hF hI [5, 4] [] [] (by kernel_rfl) (fun ns_96 a w_97 hI => ?_)
         refine wpIn_ret ?_
         refine then_ret ?_
         obtain ⟨hE', hmv, hmr⟩ := Ep.rebase hE hI
         replace hq_16 := Row.keep hq_16 (hmv _) (fun b hb => hmr b (by simp [hb]))
         replace hq_17 := Row.keep hq_17 (hmv _) (fun b hb => hmr b (by simp [hb]))
         replace hq_12 := ItIs.keep hq_12 (hmr _ (by simp))
         replace hE := hE'
         replace hI := hI.rebase
         clear hE' hmv hmr
         obtain ⟨hE', hI', hmv⟩ := Ep.uncall (bs := [([.v (.int .i64 s1.2.2.2.2.1), .v (.string s1.2.2.2.2.2.1)], 54)]) hOu_53 hE hI rfl rfl rfl rfl (by kernel_rfl) rfl
         have hmr : ∀ b ∈ ([[b_11], rb A_18, rb A_20] : List (List Nat)).flatten, w_97.heap[b]? = w_97.heap[b]? := fun _ _ => rfl
         replace hq_16 := Row.keep hq_16 (hmv _) (fun b hb => hmr b (by simp [hb]))
         replace hq_17 := Row.keep hq_17 (hmv _) (fun b hb => hmr b (by simp [hb]))
         replace hq_12 := ItIs.keep hq_12 (hmr _ (by simp))
         replace hE := hE'
         clear hE' hmv hmr
         refine retG hI rfl rfl ⟨.tuple #[.slice none 0 0, .bool false], rfl, ?_⟩
         refine putI_ hI' (s_ [e_ 64 (.tuple #[.slice none 0 0, .bool false]), e_ 63 (.slice A_18 s1.2.1.length c_19), e_ 62 (.agg #[.int .i64 s1.2.2.2.2.1, .string s1.2.2.2.2.2.1]), e_ 9 (.int .i64 t_31), e_ 12 (.pointer (some ⟨b_11, 0, none⟩)), e_ 6 (.bool s1.1), p_ 5 0 0, e_ 4 (.slice A_18 s1.2.1.length c_19), e_ 3 (.bool s1.2.2.1), e_ 2 (.slice A_20 s1.2.2.2.1.length c_21)] [([.v (.int .i64 s1.2.2.2.2.1), .v (.string s1.2.2.2.2.2.1)], 54)]) (by kernel_rfl) (fun a hI => ?_)
         clear hI'
         have hF := hFu_53
         refine ckn0_ hF 5 hI [6, 4, 9, 12, 5, 3, 2] [e_ 6 (.bool false), e_ 4 (.slice none 0 0)] [] rfl (by kernel_rfl) (fun ns_98 a w_99 hI => ?_)
         refine wpListIn_nil ?_
         refine then_normal ?_
         refine srn0_ hF hI [68, 6, 4, 9, 12, 5, 3, 2] [e_ 68 (.bool true)] [] (by kernel_rfl) (fun ns_100 a w_101 hI => ?_)
         refine cond_ hI true rfl (fun _ => ?_) (fun h => by cases h)
         refine srn0_ hF hI [3, 2] [e_ 3 (.bool false), e_ 2 (.slice none 0 0)] [] (by kernel_rfl) (fun ns_102 a w_103 hI => ?_)
         refine wpIn_ret ?_
         refine inBlock_ret ?_
         refine then_ret ?_
         refine inBlock_ret ?_
         refine then_ret ?_
         obtain rfl := Option.some.inj H1
         refine .inr ⟨_, rfl, fun ho => ?_⟩
         subst ho
         refine inBlock_ret ?_
         refine then_ret ?_
         obtain rfl := Option.some.inj H0
         exact ret2 hI rfl rfl rfl ⟨svL [(none, 0)], rfl, hE.below hI, ⟨(Arr.nil _ _ _ _), (Nat.le_refl _)⟩⟩
        ·replace H1 := bif_f hc_95 H1
         refine wpIn_skip ?_
         refine then_normal ?_
         cases H1
      ·replace H1 := bif_f hc_50 H1
       refine wpIn_skip ?_
       refine inBlock_normal ?_
       refine then_normal ?_
       refine rgn0_ hF hI [12, 6, 5, 4, 3, 2] [] [(0, ([.v (.int .i64 t_31), .v (.string ByteArray.empty)], 54))] (by kernel_rfl) (fun ns_104 a w_105 hI => ?_)
       refine inBlock_normal ?_
       refine then_normal ?_
       obtain ⟨hE', hmv, hmr⟩ := Ep.rebase hE hI
       replace hq_16 := Row.keep hq_16 (hmv _) (fun b hb => hmr b (by simp [hb]))
       replace hq_17 := Row.keep hq_17 (hmv _) (fun b hb => hmr b (by simp [hb]))
       replace hq_12 := ItIs.keep hq_12 (hmr _ (by simp))
       replace hE := hE'
       replace hI := hI.rebase
       clear hE' hmv hmr
       obtain rfl := Option.some.inj H1
       exact ⟨_, rfl, ⟨_, _, _, _, _, _, hq_12, hq_16, hq_17, hE, hI.pick [12, 6, 5, 4, 3, 2] 1 (s_ [e_ 12 (.pointer (some ⟨b_11, 0, none⟩)), e_ 6 (.bool s1.1), p_ 5 0 0, e_ 4 (.slice A_18 s1.2.1.length c_19), e_ 3 (.bool s1.2.2.1), e_ 2 (.slice A_20 s1.2.2.2.1.length c_21)] [([.v (.int .i64 t_31), .v (.string ByteArray.empty)], 54)]) (by kernel_rfl)⟩⟩
   ·replace H1 := bif_f hb_26 H1
    refine ckn0_ hF 1 hI [14, 13, 12, 6, 5, 4, 3, 2] [e_ 14 (.bool false)] [] rfl (by kernel_rfl) (fun ns_106 a w_107 hI => ?_)
    refine wpListIn_nil ?_
    refine then_normal ?_
    refine wpIn_seq ?_
    refine cond_ hI false rfl (fun h => by cases h) (fun _ => ?_)
    refine wpIn_exit ?_
    refine then_exit ?_
    refine then_exit ?_
    obtain ⟨hE', hmv, hmr⟩ := Ep.rebase hE hI
    replace hq_12 := ItIs.keep hq_12 (hmr _ (by simp))
    replace hq_16 := Row.keep hq_16 (hmv _) (fun b hb => hmr b (by simp [hb]))
    replace hq_17 := Row.keep hq_17 (hmv _) (fun b hb => hmr b (by simp [hb]))
    replace hE := hE'
    replace hI := hI.rebase
    clear hE' hmv hmr
    obtain rfl := Option.some.inj H1
    exact .inl ⟨_, rfl, rfl, ⟨_, _, _, _, _, _, hq_12, hq_16, hq_17, hE, hI.pick [12, 6, 5, 4, 3, 2] 1 (s_ [e_ 12 (.pointer (some ⟨b_11, 0, none⟩)), e_ 6 (.bool s1.1), p_ 5 0 0, e_ 4 (.slice A_18 s1.2.1.length c_19), e_ 3 (.bool s1.2.2.1), e_ 2 (.slice A_20 s1.2.2.2.1.length c_21)] [([.v (.int .i64 s1.2.2.2.2.1), .v (.string s1.2.2.2.2.2.1)], 54)]) (by kernel_rfl)⟩⟩
  ·clear hI hE
   rintro s1 a w_110 ho ⟨ow_112, ns_111, A_18, c_19, A_20, c_21, hq_12, hq_16, hq_17, hE, hI⟩
   subst ho
   replace H0 : ((bif decide (s1.2.2.2.2.1 ≥ 0) then (bif (!(s1.2.2.2.2.2.1.toList == (⟨#[]⟩ : ByteArray).toList)) then ((G_strconv_Atoi_27 s1.2.2.2.2.2.1).bind fun t_128 => (req (imp (!(decide (t_128.1 < 2) || decide (t_128.1 > 4096))) (inb 0 s1.2.2.2.2.2.1.size)) (bif ((decide (t_128.1 < 2) || decide (t_128.1 > 4096)) || ((rdB s1.2.2.2.2.2.1 0) == 48)) then some ([], false) else (bif decide (t_128.1 > (IntKind.i64.wrap (4096 - (s1.2.1.length : Int)))) then some ([], false) else none)))) else (bif decide (1 > (IntKind.i64.wrap (4096 - (s1.2.1.length : Int)))) then some ([], false) else none)) else (bif (!s1.1) then some ([], false) else some (s1.2.1, true))) : Option ((List Int) × Bool)) = _ := H0
   refine then_normal ?_
   refine wpIn_seq ?_
   refine sr0_ hF hI (s_ [e_ 73 (.bool (decide (s1.2.2.2.2.1 ≥ 0))), e_ 6 (.bool s1.1), p_ 5 0 0, e_ 4 (.slice A_18 s1.2.1.length c_19), e_ 3 (.bool s1.2.2.1), e_ 2 (.slice A_20 s1.2.2.2.1.length c_21)] [([.v (.int .i64 s1.2.2.2.2.1), .v (.string s1.2.2.2.2.2.1)], 54)]) (by kernel_rfl) (fun ns_113 a w_114 hI => ?_)
   refine cond_ hI (decide (s1.2.2.2.2.1 ≥ 0)) rfl (fun hc_115 => ?_) (fun hc_115 => ?_)
   ·replace H0 := bif_t hc_115 H0
    refine wpIn_region_lit ?_
    refine ckn0_ hF 2 hI [76, 75, 6, 4, 3, 2] [e_ 76 (.slice A_18 s1.2.1.length c_19), e_ 75 (.agg #[.int .i64 s1.2.2.2.2.1, .string s1.2.2.2.2.2.1])] [] rfl (by kernel_rfl) (fun ns_116 a w_117 hI => ?_)
    obtain ⟨hE', hmv, hmr⟩ := Ep.rebase hE hI
    replace hq_12 := ItIs.keep hq_12 (hmr _ (by simp))
    replace hq_16 := Row.keep hq_16 (hmv _) (fun b hb => hmr b (by simp [hb]))
    replace hq_17 := Row.keep hq_17 (hmv _) (fun b hb => hmr b (by simp [hb]))
    replace hE := hE'
    replace hI := hI.rebase
    clear hE' hmv hmr
    refine callI_ hF hI (wanted_none rfl) rfl Tryd.func22 (by kernel_rfl) rfl (n' := 40) rfl (by kernel_rfl) (by kernel_rfl) (fun au_118 hIu_118 => ?_)
    have hOu_118 := hI
    have hFu_118 := hF
    have hF : FOpen Fence.wide := .inl rfl
    have hI : St w_117 ns_116 40 ⟨[e_ 0 (.agg #[.int .i64 s1.2.2.2.2.1, .string s1.2.2.2.2.2.1]), e_ 1 (.slice A_18 s1.2.1.length c_19)], [], [], [([.v (.int .i64 s1.2.2.2.2.1), .v (.string s1.2.2.2.2.2.1)], 54)], none, some (1, ns_116)⟩ ns_116 au_118 w_117 := hIu_118
    clear hIu_118
    refine sr0_ hF hI ⟨[e_ 5 (.bool false), e_ 4 (.slice none 0 0), p_ 2 1 0, e_ 1 (.slice A_18 s1.2.1.length c_19)], [], [], [([.v (.int .i64 s1.2.2.2.2.1), .v (.string s1.2.2.2.2.2.1)], 54), ([.v (.int .i64 s1.2.2.2.2.1), .v (.string s1.2.2.2.2.2.1)], 54)], none, some (1, ns_116)⟩ (by kernel_rfl) (fun ns_119 a w_120 hI => ?_)
    refine srn0_ hF hI [6, 5, 4, 2, 1] [e_ 6 (.int .i64 1)] [] (by kernel_rfl) (fun ns_121 a w_122 hI => ?_)
    refine wpIn_seq ?_
    refine srn0_ hF hI [9, 6, 5, 4, 2, 1] [e_ 9 (.bool (!(s1.2.2.2.2.2.1.toList == (⟨#[]⟩ : ByteArray).toList)))] [] (by kernel_rfl) (fun ns_123 a w_124 hI => ?_)
    refine cond_ hI ((!(s1.2.2.2.2.2.1.toList == (⟨#[]⟩ : ByteArray).toList))) rfl (fun hc_125 => ?_) (fun hc_125 => ?_)
    ·replace H0 := bif_t hc_125 H0
     refine wpIn_seq ?_
     refine wpIn_region_lit ?_
     refine ckn0_ hF 2 hI [12, 6, 5, 4, 2, 1] [e_ 12 (.string s1.2.2.2.2.2.1)] [] rfl (by kernel_rfl) (fun ns_126 a w_127 hI => ?_)
     obtain ⟨hE', hmv, hmr⟩ := Ep.rebase hE hI
     replace hq_12 := ItIs.keep hq_12 (hmr _ (by simp))
     replace hq_16 := Row.keep hq_16 (hmv _) (fun b hb => hmr b (by simp [hb]))
     replace hq_17 := Row.keep hq_17 (hmv _) (fun b hb => hmr b (by simp [hb]))
     replace hE := hE'
     replace hI := hI.rebase
     clear hE' hmv hmr
     obtain ⟨t_128, hG_129, H0⟩ := bind_some H0
     refine callH_ hF hE hI (wanted_none rfl) rfl (args := [.string s1.2.2.2.2.2.1]) rfl (enters Tryd.func27 (by kernel_rfl) rfl) (fun sv_130 => .tuple #[.int .i64 t_128.1, fnv46 t_128.2 sv_130]) _ (G_strconv_Atoi_27.calls s1.2.2.2.2.2.1  w_127 (S := Lo S w w_127 ns_126 [[b_11], rb A_18, rb A_20])  _ hG_129) (fun sv_130 => ⟨[e_ 13 (.tuple #[.int .i64 t_128.1, fnv46 t_128.2 sv_130]), e_ 12 (.string s1.2.2.2.2.2.1), e_ 6 (.int .i64 1), e_ 5 (.bool false), e_ 4 (.slice none 0 0), p_ 2 1 0, e_ 1 (.slice A_18 s1.2.1.length c_19)], [], [], [([.v (.int .i64 s1.2.2.2.2.1), .v (.string s1.2.2.2.2.2.1)], 54), ([.v (.int .i64 s1.2.2.2.2.1), .v (.string s1.2.2.2.2.2.1)], 54)], none, some (1, ns_116)⟩) (fun sv_130 => by kernel_rfl) (fun sv_130 a w_132 hput hE' hI' hmv hmr hres hR => ?_)
     replace hq_12 := ItIs.keep hq_12 (hmr _ (by simp) (by simp))
     replace hq_16 := Row.keep hq_16 (hmv _) (fun b hb => hmr b (by simp [hb]) (by simp))
     replace hq_17 := Row.keep hq_17 (hmv _) (fun b hb => hmr b (by simp [hb]) (by simp))
     replace hE := hE'
     replace hI := hI'
     clear hE' hI' hmv hmr
     have hR_131 := hR
     replace hR_131 := Kd.keep _ hR_131 (hres _)
     clear hres
     refine ckn0_ hF 4 hI [6, 5, 4, 2, 1] [e_ 6 (.int .i64 t_128.1)] [] rfl (by kernel_rfl) (fun ns_133 a w_134 hI => ?_)
     refine wpListIn_nil ?_
     refine then_normal ?_
     obtain ⟨hN_135, H0⟩ := req_some H0
     refine srn_ (orc := [[.int .u8 (rdB s1.2.2.2.2.2.1 0)]]) hF hI [27, 6, 5, 4, 2, 1] [e_ 27 (.bool ((decide (t_128.1 < 2) || decide (t_128.1 > 4096)) || ((rdB s1.2.2.2.2.2.1 0) == 48)))] [] [.run (!(decide (t_128.1 < 2) || decide (t_128.1 > 4096))) (vS (Instr.index 9 (.string s1.2.2.2.2.2.1) (.int .i64 0))) (.int .u8 (rdB s1.2.2.2.2.2.1 0))] (by kernel_rfl) ⟨(fun hg wz hk => vS_run (index_run Tryd.underlying9 _ _ (imp_spec hN_135 hg) wz)), trivial⟩ (fun ns_136 a w_137 hI => ?_)
     refine cond_ hI (((decide (t_128.1 < 2) || decide (t_128.1 > 4096)) || ((rdB s1.2.2.2.2.2.1 0) == 48))) rfl (fun hc_138 => ?_) (fun hc_138 => ?_)
     ·replace H0 := bif_t hc_138 H0
      refine srn0_ hF hI [5, 4] [] [] (by kernel_rfl) (fun ns_139 a w_140 hI => ?_)
      refine wpIn_ret ?_
      refine then_ret ?_
      obtain ⟨hE', hmv, hmr⟩ := Ep.rebase hE hI
      replace hq_12 := ItIs.keep hq_12 (hmr _ (by simp))
      replace hq_16 := Row.keep hq_16 (hmv _) (fun b hb => hmr b (by simp [hb]))
      replace hq_17 := Row.keep hq_17 (hmv _) (fun b hb => hmr b (by simp [hb]))
      replace hR_131 := Kd.keep _ hR_131 (hmv _)
      replace hE := hE'
      replace hI := hI.rebase
      clear hE' hmv hmr
      obtain ⟨hE', hI', hmv⟩ := Ep.uncall (bs := [([.v (.int .i64 s1.2.2.2.2.1), .v (.string s1.2.2.2.2.2.1)], 54)]) hOu_118 hE hI rfl rfl rfl rfl (by kernel_rfl) rfl
      have hmr : ∀ b ∈ ([[b_11], rb A_18, rb A_20] : List (List Nat)).flatten, w_140.heap[b]? = w_140.heap[b]? := fun _ _ => rfl
      replace hq_12 := ItIs.keep hq_12 (hmr _ (by simp))
      replace hq_16 := Row.keep hq_16 (hmv _) (fun b hb => hmr b (by simp [hb]))
      replace hq_17 := Row.keep hq_17 (hmv _) (fun b hb => hmr b (by simp [hb]))
      replace hR_131 := Kd.keep _ hR_131 (hmv _)
      replace hE := hE'
      clear hE' hmv hmr
      refine retG hI rfl rfl ⟨.tuple #[.slice none 0 0, .bool false], rfl, ?_⟩
      refine putI_ hI' (s_ [e_ 77 (.tuple #[.slice none 0 0, .bool false]), e_ 76 (.slice A_18 s1.2.1.length c_19), e_ 75 (.agg #[.int .i64 s1.2.2.2.2.1, .string s1.2.2.2.2.2.1]), e_ 6 (.bool s1.1), e_ 4 (.slice A_18 s1.2.1.length c_19), e_ 3 (.bool s1.2.2.1), e_ 2 (.slice A_20 s1.2.2.2.1.length c_21)] [([.v (.int .i64 s1.2.2.2.2.1), .v (.string s1.2.2.2.2.2.1)], 54)]) (by kernel_rfl) (fun a hI => ?_)
      clear hI'
      have hF := hFu_118
      refine ckn0_ hF 5 hI [6, 4, 3, 2] [e_ 6 (.bool false), e_ 4 (.slice none 0 0)] [] rfl (by kernel_rfl) (fun ns_141 a w_142 hI => ?_)
      refine wpListIn_nil ?_
      refine then_normal ?_
      refine wpIn_seq ?_
      refine srn0_ hF hI [81, 4, 3, 2] [e_ 81 (.bool true)] [] (by kernel_rfl) (fun ns_143 a w_144 hI => ?_)
      refine cond_ hI true rfl (fun _ => ?_) (fun h => by cases h)
      refine srn0_ hF hI [3, 2] [e_ 3 (.bool false), e_ 2 (.slice none 0 0)] [] (by kernel_rfl) (fun ns_145 a w_146 hI => ?_)
      refine wpIn_ret ?_
      refine then_ret ?_
      obtain rfl := Option.some.inj H0
      exact ret2 hI rfl rfl rfl ⟨svL [(none, 0)], rfl, hE.below hI, ⟨(Arr.nil _ _ _ _), (Nat.le_refl _)⟩⟩
     ·replace H0 := bif_f hc_138 H0
      refine wpIn_skip ?_
      refine then_normal ?_
      refine wpIn_seq ?_
      refine srn0_ hF hI [32, 6, 5, 4, 2, 1] [e_ 32 (.bool (decide (t_128.1 > (IntKind.i64.wrap (4096 - (s1.2.1.length : Int))))))] [] (by kernel_rfl) (fun ns_147 a w_148 hI => ?_)
      refine cond_ hI (decide (t_128.1 > (IntKind.i64.wrap (4096 - (s1.2.1.length : Int))))) rfl (fun hc_149 => ?_) (fun hc_149 => ?_)
      ·replace H0 := bif_t hc_149 H0
       refine srn0_ hF hI [5, 4] [] [] (by kernel_rfl) (fun ns_150 a w_151 hI => ?_)
       refine wpIn_ret ?_
       refine then_ret ?_
       obtain ⟨hE', hmv, hmr⟩ := Ep.rebase hE hI
       replace hq_12 := ItIs.keep hq_12 (hmr _ (by simp))
       replace hq_16 := Row.keep hq_16 (hmv _) (fun b hb => hmr b (by simp [hb]))
       replace hq_17 := Row.keep hq_17 (hmv _) (fun b hb => hmr b (by simp [hb]))
       replace hR_131 := Kd.keep _ hR_131 (hmv _)
       replace hE := hE'
       replace hI := hI.rebase
       clear hE' hmv hmr
       obtain ⟨hE', hI', hmv⟩ := Ep.uncall (bs := [([.v (.int .i64 s1.2.2.2.2.1), .v (.string s1.2.2.2.2.2.1)], 54)]) hOu_118 hE hI rfl rfl rfl rfl (by kernel_rfl) rfl
       have hmr : ∀ b ∈ ([[b_11], rb A_18, rb A_20] : List (List Nat)).flatten, w_151.heap[b]? = w_151.heap[b]? := fun _ _ => rfl
       replace hq_12 := ItIs.keep hq_12 (hmr _ (by simp))
       replace hq_16 := Row.keep hq_16 (hmv _) (fun b hb => hmr b (by simp [hb]))
       replace hq_17 := Row.keep hq_17 (hmv _) (fun b hb => hmr b (by simp [hb]))
       replace hR_131 := Kd.keep _ hR_131 (hmv _)
       replace hE := hE'
       clear hE' hmv hmr
       refine retG hI rfl rfl ⟨.tuple #[.slice none 0 0, .bool false], rfl, ?_⟩
       refine putI_ hI' (s_ [e_ 77 (.tuple #[.slice none 0 0, .bool false]), e_ 76 (.slice A_18 s1.2.1.length c_19), e_ 75 (.agg #[.int .i64 s1.2.2.2.2.1, .string s1.2.2.2.2.2.1]), e_ 6 (.bool s1.1), e_ 4 (.slice A_18 s1.2.1.length c_19), e_ 3 (.bool s1.2.2.1), e_ 2 (.slice A_20 s1.2.2.2.1.length c_21)] [([.v (.int .i64 s1.2.2.2.2.1), .v (.string s1.2.2.2.2.2.1)], 54)]) (by kernel_rfl) (fun a hI => ?_)
       clear hI'
       have hF := hFu_118
       refine ckn0_ hF 5 hI [6, 4, 3, 2] [e_ 6 (.bool false), e_ 4 (.slice none 0 0)] [] rfl (by kernel_rfl) (fun ns_152 a w_153 hI => ?_)
       refine wpListIn_nil ?_
       refine then_normal ?_
       refine wpIn_seq ?_
       refine srn0_ hF hI [81, 4, 3, 2] [e_ 81 (.bool true)] [] (by kernel_rfl) (fun ns_154 a w_155 hI => ?_)
       refine cond_ hI true rfl (fun _ => ?_) (fun h => by cases h)
       refine srn0_ hF hI [3, 2] [e_ 3 (.bool false), e_ 2 (.slice none 0 0)] [] (by kernel_rfl) (fun ns_156 a w_157 hI => ?_)
       refine wpIn_ret ?_
       refine then_ret ?_
       obtain rfl := Option.some.inj H0
       exact ret2 hI rfl rfl rfl ⟨svL [(none, 0)], rfl, hE.below hI, ⟨(Arr.nil _ _ _ _), (Nat.le_refl _)⟩⟩
      ·replace H0 := bif_f hc_149 H0
       refine wpIn_skip ?_
       refine then_normal ?_
       cases H0
    ·replace H0 := bif_f hc_125 H0
     refine wpIn_skip ?_
     refine then_normal ?_
     refine wpIn_seq ?_
     refine srn0_ hF hI [32, 6, 5, 4, 2, 1] [e_ 32 (.bool (decide (1 > (IntKind.i64.wrap (4096 - (s1.2.1.length : Int))))))] [] (by kernel_rfl) (fun ns_158 a w_159 hI => ?_)
     refine cond_ hI (decide (1 > (IntKind.i64.wrap (4096 - (s1.2.1.length : Int))))) rfl (fun hc_160 => ?_) (fun hc_160 => ?_)
     ·replace H0 := bif_t hc_160 H0
      refine srn0_ hF hI [5, 4] [] [] (by kernel_rfl) (fun ns_161 a w_162 hI => ?_)
      refine wpIn_ret ?_
      refine then_ret ?_
      obtain ⟨hE', hmv, hmr⟩ := Ep.rebase hE hI
      replace hq_12 := ItIs.keep hq_12 (hmr _ (by simp))
      replace hq_16 := Row.keep hq_16 (hmv _) (fun b hb => hmr b (by simp [hb]))
      replace hq_17 := Row.keep hq_17 (hmv _) (fun b hb => hmr b (by simp [hb]))
      replace hE := hE'
      replace hI := hI.rebase
      clear hE' hmv hmr
      obtain ⟨hE', hI', hmv⟩ := Ep.uncall (bs := [([.v (.int .i64 s1.2.2.2.2.1), .v (.string s1.2.2.2.2.2.1)], 54)]) hOu_118 hE hI rfl rfl rfl rfl (by kernel_rfl) rfl
      have hmr : ∀ b ∈ ([[b_11], rb A_18, rb A_20] : List (List Nat)).flatten, w_162.heap[b]? = w_162.heap[b]? := fun _ _ => rfl
      replace hq_12 := ItIs.keep hq_12 (hmr _ (by simp))
      replace hq_16 := Row.keep hq_16 (hmv _) (fun b hb => hmr b (by simp [hb]))
      replace hq_17 := Row.keep hq_17 (hmv _) (fun b hb => hmr b (by simp [hb]))
      replace hE := hE'
      clear hE' hmv hmr
      refine retG hI rfl rfl ⟨.tuple #[.slice none 0 0, .bool false], rfl, ?_⟩
      refine putI_ hI' (s_ [e_ 77 (.tuple #[.slice none 0 0, .bool false]), e_ 76 (.slice A_18 s1.2.1.length c_19), e_ 75 (.agg #[.int .i64 s1.2.2.2.2.1, .string s1.2.2.2.2.2.1]), e_ 6 (.bool s1.1), e_ 4 (.slice A_18 s1.2.1.length c_19), e_ 3 (.bool s1.2.2.1), e_ 2 (.slice A_20 s1.2.2.2.1.length c_21)] [([.v (.int .i64 s1.2.2.2.2.1), .v (.string s1.2.2.2.2.2.1)], 54)]) (by kernel_rfl) (fun a hI => ?_)
      clear hI'
      have hF := hFu_118
      refine ckn0_ hF 5 hI [6, 4, 3, 2] [e_ 6 (.bool false), e_ 4 (.slice none 0 0)] [] rfl (by kernel_rfl) (fun ns_163 a w_164 hI => ?_)
      refine wpListIn_nil ?_
      refine then_normal ?_
      refine wpIn_seq ?_
      refine srn0_ hF hI [81, 4, 3, 2] [e_ 81 (.bool true)] [] (by kernel_rfl) (fun ns_165 a w_166 hI => ?_)
      refine cond_ hI true rfl (fun _ => ?_) (fun h => by cases h)
      refine srn0_ hF hI [3, 2] [e_ 3 (.bool false), e_ 2 (.slice none 0 0)] [] (by kernel_rfl) (fun ns_167 a w_168 hI => ?_)
      refine wpIn_ret ?_
      refine then_ret ?_
      obtain rfl := Option.some.inj H0
      exact ret2 hI rfl rfl rfl ⟨svL [(none, 0)], rfl, hE.below hI, ⟨(Arr.nil _ _ _ _), (Nat.le_refl _)⟩⟩
     ·replace H0 := bif_f hc_160 H0
      refine wpIn_skip ?_
      refine then_normal ?_
      cases H0
   ·replace H0 := bif_f hc_115 H0
    refine wpIn_skip ?_
    refine then_normal ?_
    refine wpIn_seq ?_
    refine srn0_ hF hI [81, 4, 3, 2] [e_ 81 (.bool (!s1.1))] [] (by kernel_rfl) (fun ns_169 a w_170 hI => ?_)
    refine cond_ hI ((!s1.1)) rfl (fun hc_171 => ?_) (fun hc_171 => ?_)
    ·replace H0 := bif_t hc_171 H0
     refine srn0_ hF hI [3, 2] [e_ 3 (.bool false), e_ 2 (.slice none 0 0)] [] (by kernel_rfl) (fun ns_172 a w_173 hI => ?_)
     refine wpIn_ret ?_
     refine then_ret ?_
     obtain rfl := Option.some.inj H0
     exact ret2 hI rfl rfl rfl ⟨svL [(none, 0)], rfl, hE.below hI, ⟨(Arr.nil _ _ _ _), (Nat.le_refl _)⟩⟩
    ·replace H0 := bif_f hc_171 H0
     refine wpIn_skip ?_
     refine then_normal ?_
     refine srn0_ hF hI [3, 2] [e_ 3 (.bool true), e_ 2 (.slice A_18 s1.2.1.length c_19)] [] (by kernel_rfl) (fun ns_174 a w_175 hI => ?_)
     obtain ⟨hE', hmv, hmr⟩ := Ep.rebase hE hI
     replace hq_12 := ItIs.keep hq_12 (hmr _ (by simp))
     replace hq_16 := Row.keep hq_16 (hmv _) (fun b hb => hmr b (by simp [hb]))
     replace hq_17 := Row.keep hq_17 (hmv _) (fun b hb => hmr b (by simp [hb]))
     replace hE := hE'
     replace hI := hI.rebase
     clear hE' hmv hmr
     obtain ⟨hE', hmv, hq_16, hcap_176⟩ := Row.still (l1 := [[b_11]]) (l2 := [rb A_20]) hq_16 (Nat.le_refl _) hE
     have hmr : ∀ b ∈ ([[b_11], rb A_18, rb A_20] : List (List Nat)).flatten, w_175.heap[b]? = w_175.heap[b]? := fun _ _ => rfl
     replace hq_12 := ItIs.keep hq_12 (hmr _ (by simp))
     replace hq_17 := Row.keep hq_17 (hmv _) (fun b hb => hmr b (by simp [hb]))
     replace hE := hE'
     clear hE' hmv hmr
     refine wpIn_ret ?_
     obtain rfl := Option.some.inj H0
     exact ret2 hI rfl rfl rfl ⟨svL [(A_18, c_19)], rfl, hE.below hI, ⟨Arr.keep hq_16 (hE.out hI), hcap_176⟩⟩

noncomputable def G_law30_wakes  : Option (Bool) := ((G_pack_Print ([0, 0, 2, 1] : List Int)).bind fun t_6 => ((G_pack_Parse (⟨#[97, 49]⟩ : ByteArray)).bind fun t_10 => ((G_pack_Parse (⟨#[97, 97]⟩ : ByteArray)).bind fun t_17 => some (((t_6.2 && (t_6.1.toList == (⟨#[97, 50, 116, 98]⟩ : ByteArray).toList)) && (!t_10.2)) && (!t_17.2)))))
theorem G_law30_wakes.calls   (w : World) {S : Nat → Prop}  (r : Bool) (h : G_law30_wakes = some r) :
    Calls Tryd.prog 6 #[] w fun e w' => e = .returned (.bool r) ∧ Below w.heap.size w w' := by
  unfold G_law30_wakes at h
  have H0 := h
  clear h
  refine enter Tryd.func6 rfl [] (n := 33) rfl (Nat.le_of_ble_eq_true rfl) (fun a hI => ?_)
  have hF : FOpen Fence.wide := .inl rfl
  have hE := Ep.start w
  refine sr0_ hF hI (s_ [e_ 0 (.bool false)] []) (by kernel_rfl) (fun ns_1 a w_2 hI => ?_)
  refine wpIn_seq ?_
  refine wpIn_region_lit ?_
  obtain ⟨hE', hmv, hmr⟩ := Ep.rebase hE hI
  replace hE := hE'
  replace hI := hI.rebase
  clear hE' hmv hmr
  refine buildSlice_ (S0 := S) (d := (Kd.int .i64)) (e := 3) hF hE hI (wanted_none rfl) rfl (by kernel_rfl) (cs := [.int .i64 0, .int .i64 0, .int .i64 2, .int .i64 1]) (by kernel_rfl) [0, 0, 2, 1] [(svL []), (svL []), (svL []), (svL [])] rfl rfl (by simp [maxLen]) (fun i x hi => by cases i with | zero => (simp only [List.getElem?_cons_zero, Option.some.injEq] at hi; subst hi; exact ⟨trivial, rfl⟩) | succ i => (simp only [List.getElem?_cons_succ] at hi; cases i with | zero => (simp only [List.getElem?_cons_zero, Option.some.injEq] at hi; subst hi; exact ⟨trivial, rfl⟩) | succ i => (simp only [List.getElem?_cons_succ] at hi; cases i with | zero => (simp only [List.getElem?_cons_zero, Option.some.injEq] at hi; subst hi; exact ⟨trivial, rfl⟩) | succ i => (simp only [List.getElem?_cons_succ] at hi; cases i with | zero => (simp only [List.getElem?_cons_zero, Option.some.injEq] at hi; subst hi; exact ⟨trivial, rfl⟩) | succ i => (simp only [List.getElem?_cons_succ] at hi; simp at hi))))) (fun A_3 => (s_ [e_ 8 (.slice A_3 ([0, 0, 2, 1] : List Int).length (([0, 0, 2, 1] : List Int).length)), e_ 0 (.bool false)] [])) (fun A_3 => by kernel_rfl) (fun A_3 a w_5 hput hE' hI' hmv hmr hq_4 => ?_)
  replace hE := hE'
  replace hI := hI'
  clear hE' hI' hmv hmr
  obtain ⟨t_6, hG_7, H0⟩ := bind_some H0
  refine ckn_ (orc := [[.tuple #[.string t_6.1, .bool t_6.2]]]) hF 6 hI [2, 1, 0] [e_ 2 (.bool t_6.2), e_ 1 (.string t_6.1)] [] [.call true 9 [.slice A_3 ([0, 0, 2, 1] : List Int).length (([0, 0, 2, 1] : List Int).length)] (.tuple #[.string t_6.1, .bool t_6.2])] rfl (by kernel_rfl) ⟨ob_call (enters Tryd.func9 (by kernel_rfl) rfl) (fun hg wz hk => G_pack_Print.calls ([0, 0, 2, 1] : List Int) A_3 (([0, 0, 2, 1] : List Int).length) wz (S := fun _ => True) (Row.arr (S' := fun _ => True) (Row.on hq_4 hE (by simp) hk) (fun _ _ => trivial) (fun _ _ => trivial)).1 (Row.arr (S' := fun _ => True) hq_4 (fun _ _ => trivial) (fun _ _ => trivial)).2 _ hG_7), trivial⟩ (fun ns_8 a w_9 hI => ?_)
  refine wpListIn_nil ?_
  refine then_normal ?_
  refine wpIn_seq ?_
  refine wpIn_region_lit ?_
  obtain ⟨hE', hmv, hmr⟩ := Ep.rebase hE hI
  replace hq_4 := Row.keep hq_4 (hmv _) (fun b hb => hmr b (by simp [hb]))
  replace hE := hE'
  replace hI := hI.rebase
  clear hE' hmv hmr
  obtain ⟨t_10, hG_11, H0⟩ := bind_some H0
  refine callH_ hF hE hI (wanted_none rfl) rfl (args := [.string (⟨#[97, 49]⟩ : ByteArray)]) rfl (enters Tryd.func11 (by kernel_rfl) rfl) (fun sv_12 => .tuple #[.slice ((sv_12 0).1) t_10.1.length ((sv_12 0).2), .bool t_10.2]) _ (G_pack_Parse.calls (⟨#[97, 49]⟩ : ByteArray)  w_9 (S := Lo S w w_9 ns_8 [rb A_3])  _ hG_11) (fun sv_12 => (s_ [e_ 13 (.tuple #[.slice ((sv_12 0).1) t_10.1.length ((sv_12 0).2), .bool t_10.2]), e_ 2 (.bool t_6.2), e_ 1 (.string t_6.1), e_ 0 (.bool false)] [])) (fun sv_12 => by kernel_rfl) (fun sv_12 a w_14 hput hE' hI' hmv hmr hres hR => ?_)
  replace hq_4 := Row.keep hq_4 (hmv _) (fun b hb => hmr b (by simp [hb]) (by simp))
  replace hE := hE'
  replace hI := hI'
  clear hE' hI' hmv hmr
  obtain ⟨hR_13, hR_13c⟩ := hR
  replace hR_13 := Arr.keep hR_13 (hres _)
  clear hres
  refine ckn0_ hF 5 hI [4, 2, 1, 0] [e_ 4 (.bool t_10.2)] [] rfl (by kernel_rfl) (fun ns_15 a w_16 hI => ?_)
  refine wpListIn_nil ?_
  refine then_normal ?_
  refine wpIn_seq ?_
  refine wpIn_region_lit ?_
  obtain ⟨hE', hmv, hmr⟩ := Ep.rebase hE hI
  replace hq_4 := Row.keep hq_4 (hmv _) (fun b hb => hmr b (by simp [hb]))
  replace hR_13 := Arr.keep hR_13 (hmv _)
  replace hE := hE'
  replace hI := hI.rebase
  clear hE' hmv hmr
  obtain ⟨t_17, hG_18, H0⟩ := bind_some H0
  refine callH_ hF hE hI (wanted_none rfl) rfl (args := [.string (⟨#[97, 97]⟩ : ByteArray)]) rfl (enters Tryd.func11 (by kernel_rfl) rfl) (fun sv_19 => .tuple #[.slice ((sv_19 0).1) t_17.1.length ((sv_19 0).2), .bool t_17.2]) _ (G_pack_Parse.calls (⟨#[97, 97]⟩ : ByteArray)  w_16 (S := Lo S w w_16 ns_15 [rb A_3])  _ hG_18) (fun sv_19 => (s_ [e_ 17 (.tuple #[.slice ((sv_19 0).1) t_17.1.length ((sv_19 0).2), .bool t_17.2]), e_ 4 (.bool t_10.2), e_ 2 (.bool t_6.2), e_ 1 (.string t_6.1), e_ 0 (.bool false)] [])) (fun sv_19 => by kernel_rfl) (fun sv_19 a w_21 hput hE' hI' hmv hmr hres hR => ?_)
  replace hq_4 := Row.keep hq_4 (hmv _) (fun b hb => hmr b (by simp [hb]) (by simp))
  replace hR_13 := Arr.keep hR_13 (hmv _)
  replace hE := hE'
  replace hI := hI'
  clear hE' hI' hmv hmr
  obtain ⟨hR_20, hR_20c⟩ := hR
  replace hR_20 := Arr.keep hR_20 (hres _)
  clear hres
  refine ckn0_ hF 5 hI [6, 4, 2, 1, 0] [e_ 6 (.bool t_17.2)] [] rfl (by kernel_rfl) (fun ns_22 a w_23 hI => ?_)
  refine wpListIn_nil ?_
  refine then_normal ?_
  refine srn0_ hF hI [0] [e_ 0 (.bool (((t_6.2 && (t_6.1.toList == (⟨#[97, 50, 116, 98]⟩ : ByteArray).toList)) && (!t_10.2)) && (!t_17.2)))] [] (by kernel_rfl) (fun ns_24 a w_25 hI => ?_)
  refine wpIn_ret ?_
  obtain rfl := Option.some.inj H0
  exact ret1 hI rfl rfl ⟨rfl, hE.below hI⟩

noncomputable def G_ref30_Runs.b1 (l0 : (List Int)) (s1 : Int × (List Portholeref30_Run)) : Option (Stp (Int × (List Portholeref30_Run)) (Ex (Int × (List Portholeref30_Run)) ((List Portholeref30_Run)))) := (bif decide (s1.1 < (l0.length : Int)) then (req (imp (decide (s1.1 > 0)) (inb s1.1 l0.length)) (req (imp (decide (s1.1 > 0)) (inb (IntKind.i64.wrap (s1.1 - 1)) l0.length)) (bif (decide (s1.1 > 0) && ((rd l0 s1.1) == (rd l0 (IntKind.i64.wrap (s1.1 - 1))))) then (req (inb (IntKind.i64.wrap ((s1.2.length : Int) - 1)) s1.2.length) (req (inb (IntKind.i64.wrap ((s1.2.length : Int) - 1)) s1.2.length) (some (.next ((IntKind.i64.wrap (s1.1 + 1)), (s1.2.set ((IntKind.i64.wrap ((s1.2.length : Int) - 1)) : Int).toNat (⟨(rd s1.2 (IntKind.i64.wrap ((s1.2.length : Int) - 1))).Act, (IntKind.i64.wrap (((rd s1.2 (IntKind.i64.wrap ((s1.2.length : Int) - 1))).Many) + 1))⟩ : Portholeref30_Run))))))) else (req (inb s1.1 l0.length) (req (decide ((s1.2.length + 1) * 16 ≤ 140737488355328)) (some (.next ((IntKind.i64.wrap (s1.1 + 1)), (s1.2 ++ [(⟨(rd l0 s1.1), 1⟩ : Portholeref30_Run)]))))))))) else some (.out (.brk (s1.1, s1.2))))
noncomputable def G_ref30_Runs (l0 : (List Int)) : Option ((List Portholeref30_Run)) := ((loopω (G_ref30_Runs.b1 l0) (0, ([] : List Portholeref30_Run))).bind fun o => o.on (fun s1 => some s1.2) (fun r => some r))
theorem G_ref30_Runs.calls (l0 : (List Int)) (A0 : Option Addr) (c0 : Nat) (w : World) {S : Nat → Prop} (hr0 : Arr (Kd.int .i64) S w A0 l0) (hc0 : l0.length ≤ c0) (r : (List Portholeref30_Run)) (h : G_ref30_Runs l0 = some r) :
    Calls Tryd.prog 7 #[.slice A0 l0.length c0] w fun e w' => ∃ sv : SV, e = .returned (.slice ((sv 0).1) r.length ((sv 0).2)) ∧ Below w.heap.size w w' ∧ (Arr kd_Portholeref30_Run (fun b => w.heap.size ≤ b ∨ S b) w' (sv 0).1 r ∧ r.length ≤ (sv 0).2) := by
  replace hr0 := Arr.lo hr0
  unfold G_ref30_Runs at h
  have H0 := h
  clear h
  refine enter Tryd.func7 rfl [.slice A0 l0.length c0] (n := 44) rfl (Nat.le_of_ble_eq_true rfl) (fun a hI => ?_)
  have hF : FOpen Fence.wide := .inl rfl
  have hE := Ep.start w
  refine sr0_ hF hI (s_ [e_ 2 (.slice none 0 0), e_ 0 (.slice A0 l0.length c0)] []) (by kernel_rfl) (fun ns_1 a w_2 hI => ?_)
  refine srn0_ hF hI [3, 2, 0] [e_ 3 (.slice none 0 0)] [] (by kernel_rfl) (fun ns_3 a w_4 hI => ?_)
  refine wpIn_seq ?_
  refine srn0_ hF hI [4, 3, 2, 0] [e_ 4 (.int .i64 0)] [] (by kernel_rfl) (fun ns_5 a w_6 hI => ?_)
  obtain ⟨hE', hmv, hmr⟩ := Ep.rebase hE hI
  replace hr0 := Arr.keep hr0 (hmv _)
  replace hE := hE'
  replace hI := hI.rebase
  clear hE' hmv hmr
  obtain ⟨hE', hmv⟩ := Ep.addNil hE
  have hmr : ∀ b ∈ ([] : List (List Nat)).flatten, w_6.heap[b]? = w_6.heap[b]? := fun _ _ => rfl
  replace hr0 := Arr.keep hr0 (hmv _)
  replace hE := hE'
  clear hE' hmv hmr
  have hq_7 : Row kd_Portholeref30_Run 30 (Lo S w w_6 ns_5 [rb none]) w_6 w.heap.size none 0 ([] : List Portholeref30_Run) := Row.nil
  obtain ⟨o_61, hL_62, H0⟩ := bind_some H0
  refine block_loop (fun (s1 : Int × (List Portholeref30_Run)) a w_69 => ∃ (ow ns : List Nat) (A_8 : Option Addr) (c_9 : Nat), (Arr (Kd.int .i64) (Lo S w w_69 ow [rb A_8]) w_69 A0 l0) ∧ (Row kd_Portholeref30_Run 30 (Lo S w w_69 ow [rb A_8]) w_69 w.heap.size A_8 c_9 s1.2) ∧ Ep [] w w_69 ow [rb A_8] ∧ St w_69 ow 44 (s_ [e_ 4 (.int .i64 s1.1), e_ 3 (.slice A_8 s1.2.length c_9), e_ 2 (.slice none 0 0), e_ 0 (.slice A0 l0.length c0)] []) ns a w_69) (0, ([] : List Portholeref30_Run)) hL_62 ⟨_, _, _, _, hr0, hq_7, hE, hI.pick [4, 3, 2, 0] 0 (s_ [e_ 4 (.int .i64 0), e_ 3 (.slice none ([] : List Portholeref30_Run).length 0), e_ 2 (.slice none 0 0), e_ 0 (.slice A0 l0.length c0)] []) (by kernel_rfl)⟩ ?_ ?_
  ·clear hI hE
   rintro s1 a w_10 ⟨ow_12, ns_11, A_8, c_9, hr0, hq_7, hE, hI⟩ r1 H1
   unfold G_ref30_Runs.b1 at H1
   refine wpIn_seq ?_
   refine sr0_ hF hI (s_ [e_ 8 (.bool (decide (s1.1 < (l0.length : Int)))), e_ 4 (.int .i64 s1.1), e_ 3 (.slice A_8 s1.2.length c_9), e_ 2 (.slice none 0 0), e_ 0 (.slice A0 l0.length c0)] []) (by kernel_rfl) (fun ns_13 a w_14 hI => ?_)
   refine cond_ hI (decide (s1.1 < (l0.length : Int))) rfl (fun hc_15 => ?_) (fun hc_15 => ?_)
   ·replace H1 := bif_t hc_15 H1
    refine wpIn_skip ?_
    refine then_normal ?_
    refine wpIn_seq ?_
    refine wpIn_block ?_
    refine wpIn_seq ?_
    obtain ⟨hN_16, H1⟩ := req_some H1
    obtain ⟨sv_17, hE_19, hA_18⟩ := Arr.elB (d := (Kd.int .i64)) hr0 s1.1 (decide (s1.1 > 0)) (fun hg => imp_spec hN_16 hg)
    obtain ⟨hN_20, H1⟩ := req_some H1
    obtain ⟨sv_21, hE_23, hA_22⟩ := Arr.elB (d := (Kd.int .i64)) hr0 (IntKind.i64.wrap (s1.1 - 1)) (decide (s1.1 > 0)) (fun hg => imp_spec hN_20 hg)
    refine drawn_ (live := [24, 4, 3, 2, 0]) (orc := [[.int .i64 (rd l0 s1.1)], [.int .i64 (rd l0 (IntKind.i64.wrap (s1.1 - 1)))]]) hF hI (s_ [e_ 24 (.bool (decide (s1.1 > 0) && ((rd l0 s1.1) == (rd l0 (IntKind.i64.wrap (s1.1 - 1)))))), e_ 4 (.int .i64 s1.1), e_ 3 (.slice A_8 s1.2.length c_9), e_ 2 (.slice none 0 0), e_ 0 (.slice A0 l0.length c0)] []) [.need (decide (s1.1 > 0)) ((0 : Int) ≤ s1.1 ∧ s1.1 < (l0.length : Int)), .need (decide (s1.1 > 0)) (A0 = some (adr A0)), .cell (decide (s1.1 > 0)) ((adr A0).add ((s1.1 : Int).toNat * 1)) [.int .i64 (rd l0 s1.1)], .need (decide (s1.1 > 0)) ((0 : Int) ≤ (IntKind.i64.wrap (s1.1 - 1)) ∧ (IntKind.i64.wrap (s1.1 - 1)) < (l0.length : Int)), .need (decide (s1.1 > 0)) (A0 = some (adr A0)), .cell (decide (s1.1 > 0)) ((adr A0).add (((IntKind.i64.wrap (s1.1 - 1)) : Int).toNat * 1)) [.int .i64 (rd l0 (IntKind.i64.wrap (s1.1 - 1)))]] (by kernel_rfl) (by kernel_rfl) (by kernel_rfl) ⟨ob_inb (fun hg => imp_spec hN_16 hg), hA_18, ob_el (fun hg => hE_19 hg) 0 [.int .i64 (rd l0 s1.1)] rfl, ob_inb (fun hg => imp_spec hN_20 hg), hA_22, ob_el (fun hg => hE_23 hg) 0 [.int .i64 (rd l0 (IntKind.i64.wrap (s1.1 - 1)))] rfl, trivial⟩ (fun a w_24 hI => ?_)
    refine then_normal ?_
    refine cond_ hI ((decide (s1.1 > 0) && ((rd l0 s1.1) == (rd l0 (IntKind.i64.wrap (s1.1 - 1)))))) rfl (fun hc_25 => ?_) (fun hc_25 => ?_)
    ·replace H1 := bif_t hc_25 H1
     refine wpIn_region_lit ?_
     obtain ⟨hN_26, H1⟩ := req_some H1
     obtain ⟨sv_27, hE_29, hA_28⟩ := Row.elB hq_7 hE (by simp) (IntKind.i64.wrap ((s1.2.length : Int) - 1)) true (fun _ => hN_26)
     obtain ⟨hN_30, H1⟩ := req_some H1
     obtain ⟨sv_31, hE_33, hA_32⟩ := Row.elB hq_7 hE (by simp) (IntKind.i64.wrap ((s1.2.length : Int) - 1)) true (fun _ => hN_30)
     refine ck_ (orc := [[.int .i64 ((rd s1.2 (IntKind.i64.wrap ((s1.2.length : Int) - 1))).Many)]]) hF 10 hI (s_ [e_ 34 (.pointer (some (((adr A_8).add (((IntKind.i64.wrap ((s1.2.length : Int) - 1)) : Int).toNat * 2)).add 1))), e_ 32 (.int .i64 (IntKind.i64.wrap (((rd s1.2 (IntKind.i64.wrap ((s1.2.length : Int) - 1))).Many) + 1))), e_ 4 (.int .i64 s1.1), e_ 3 (.slice A_8 s1.2.length c_9), e_ 2 (.slice none 0 0), e_ 0 (.slice A0 l0.length c0)] []) [.need true ((0 : Int) ≤ (IntKind.i64.wrap ((s1.2.length : Int) - 1)) ∧ (IntKind.i64.wrap ((s1.2.length : Int) - 1)) < (s1.2.length : Int)), .need true (A_8 = some (adr A_8)), .cell true (((adr A_8).add (((IntKind.i64.wrap ((s1.2.length : Int) - 1)) : Int).toNat * 2)).add 1) [.int .i64 ((rd s1.2 (IntKind.i64.wrap ((s1.2.length : Int) - 1))).Many)], .need true ((0 : Int) ≤ (IntKind.i64.wrap ((s1.2.length : Int) - 1)) ∧ (IntKind.i64.wrap ((s1.2.length : Int) - 1)) < (s1.2.length : Int)), .need true (A_8 = some (adr A_8))] rfl (by kernel_rfl) ⟨ob_inb (fun _ => hN_26), hA_28, ob_elR hE_29 1 [.int .i64 ((rd s1.2 (IntKind.i64.wrap ((s1.2.length : Int) - 1))).Many)] rfl, ob_inb (fun _ => hN_30), hA_32, trivial⟩ (fun ns_34 a w_35 hI => ?_)
     obtain ⟨hE', hmv, hmr⟩ := Ep.rebase hE hI
     replace hr0 := Arr.keep hr0 (hmv _)
     replace hq_7 := Row.keep hq_7 (hmv _) (fun b hb => hmr b (by simp [hb]))
     replace hE := hE'
     replace hI := hI.rebase
     clear hE' hmv hmr
     refine storeSeg_ (S0 := S) (d := kd_Portholeref30_Run) (e := 30) (l := s1.2) (A := A_8) (i := (IntKind.i64.wrap ((s1.2.length : Int) - 1))) (off := 1) hF hE hI (wanted_none rfl) rfl rfl (ad := (((adr A_8).add (((IntKind.i64.wrap ((s1.2.length : Int) - 1)) : Int).toNat * 2)).add 1)) rfl (add_add _ _ _) rfl (vs := [.int .i64 (IntKind.i64.wrap (((rd s1.2 (IntKind.i64.wrap ((s1.2.length : Int) - 1))).Many) + 1))]) rfl rfl rfl rfl (by simp) hN_30 hq_7 (⟨(rd s1.2 (IntKind.i64.wrap ((s1.2.length : Int) - 1))).Act, (IntKind.i64.wrap (((rd s1.2 (IntKind.i64.wrap ((s1.2.length : Int) - 1))).Many) + 1))⟩ : Portholeref30_Run) (fun sv => sv) (fun _ => rfl) (fun sv h => h) (fun a w_36 hput hE' hI' hmv hmr hq_7 => ?_)
     replace hr0 := Arr.keep hr0 (hmv _)
     replace hE := hE'
     replace hI := hI'
     clear hE' hI' hmv hmr
     have hln_37 : (s1.2.set ((IntKind.i64.wrap ((s1.2.length : Int) - 1)) : Int).toNat (⟨(rd s1.2 (IntKind.i64.wrap ((s1.2.length : Int) - 1))).Act, (IntKind.i64.wrap (((rd s1.2 (IntKind.i64.wrap ((s1.2.length : Int) - 1))).Many) + 1))⟩ : Portholeref30_Run)).length = s1.2.length := List.length_set
     refine ck0_ hF 0 hI (s_ [e_ 4 (.int .i64 s1.1), e_ 3 (.slice A_8 s1.2.length c_9), e_ 2 (.slice none 0 0), e_ 0 (.slice A0 l0.length c0)] []) rfl (by kernel_rfl) (fun ns_39 a w_40 hI => ?_)
     refine wpListIn_nil ?_
     refine inBlock_normal ?_
     refine then_normal ?_
     refine rgn0_ hF hI [4, 3, 2, 0] [e_ 4 (.int .i64 (IntKind.i64.wrap (s1.1 + 1)))] [] (by kernel_rfl) (fun ns_41 a w_42 hI => ?_)
     refine then_normal ?_
     replace hI := Inv.len (σf := fun q_ => (s_ [e_ 4 (.int .i64 (IntKind.i64.wrap (s1.1 + 1))), e_ 3 (.slice A_8 q_ c_9), e_ 2 (.slice none 0 0), e_ 0 (.slice A0 l0.length c0)] [])) hln_37 hI
     obtain ⟨hE', hmv, hmr⟩ := Ep.rebase hE hI
     replace hr0 := Arr.keep hr0 (hmv _)
     replace hq_7 := Row.keep hq_7 (hmv _) (fun b hb => hmr b (by simp [hb]))
     replace hE := hE'
     replace hI := hI.rebase
     clear hE' hmv hmr
     obtain rfl := Option.some.inj H1
     exact ⟨_, rfl, ⟨_, _, _, _, hr0, hq_7, hE, hI.pick [4, 3, 2, 0] 0 (s_ [e_ 4 (.int .i64 (IntKind.i64.wrap (s1.1 + 1))), e_ 3 (.slice A_8 (s1.2.set ((IntKind.i64.wrap ((s1.2.length : Int) - 1)) : Int).toNat (⟨(rd s1.2 (IntKind.i64.wrap ((s1.2.length : Int) - 1))).Act, (IntKind.i64.wrap (((rd s1.2 (IntKind.i64.wrap ((s1.2.length : Int) - 1))).Many) + 1))⟩ : Portholeref30_Run)).length c_9), e_ 2 (.slice none 0 0), e_ 0 (.slice A0 l0.length c0)] []) (by kernel_rfl)⟩⟩
    ·replace H1 := bif_f hc_25 H1
     refine wpIn_region_lit ?_
     obtain ⟨hN_43, H1⟩ := req_some H1
     obtain ⟨sv_44, hE_46, hA_45⟩ := Arr.elB (d := (Kd.int .i64)) hr0 s1.1 true (fun _ => hN_43)
     replace hE_46 := hE_46 rfl
     replace hA_45 := fun (_ : true = true) => hA_45 rfl
     refine ck_ (orc := [[.int .i64 (rd l0 s1.1)]]) hF 6 hI (s_ [e_ 40 (.agg #[.int .i64 (rd l0 s1.1), .int .i64 1]), e_ 35 (.slice A_8 s1.2.length c_9), e_ 4 (.int .i64 s1.1), e_ 3 (.slice A_8 s1.2.length c_9), e_ 2 (.slice none 0 0), e_ 0 (.slice A0 l0.length c0)] []) [.need true ((0 : Int) ≤ s1.1 ∧ s1.1 < (l0.length : Int)), .need true (A0 = some (adr A0)), .cell true ((adr A0).add ((s1.1 : Int).toNat * 1)) [.int .i64 (rd l0 s1.1)]] rfl (by kernel_rfl) ⟨ob_inb (fun _ => hN_43), hA_45, ob_el (fun _ => hE_46) 0 [.int .i64 (rd l0 s1.1)] rfl, trivial⟩ (fun ns_47 a w_48 hI => ?_)
     obtain ⟨hE', hmv, hmr⟩ := Ep.rebase hE hI
     replace hr0 := Arr.keep hr0 (hmv _)
     replace hq_7 := Row.keep hq_7 (hmv _) (fun b hb => hmr b (by simp [hb]))
     replace hE_46 := El.keep hE_46 (hmv _)
     replace hE := hE'
     replace hI := hI.rebase
     clear hE' hmv hmr
     refine buildSlice_ (S0 := S) (d := kd_Portholeref30_Run) (e := 30) hF hE hI (wanted_none rfl) rfl (by kernel_rfl) (cs := [.int .i64 (rd l0 s1.1), .int .i64 1]) (by kernel_rfl) [(⟨(rd l0 s1.1), 1⟩ : Portholeref30_Run)] [(svL [])] rfl rfl (by simp [maxLen]) (fun i x hi => by cases i with | zero => (simp only [List.getElem?_cons_zero, Option.some.injEq] at hi; subst hi; exact ⟨trivial, rfl⟩) | succ i => (simp only [List.getElem?_cons_succ] at hi; simp at hi)) (fun A_49 => (s_ [e_ 41 (.slice A_49 ([(⟨(rd l0 s1.1), 1⟩ : Portholeref30_Run)] : List Portholeref30_Run).length (([(⟨(rd l0 s1.1), 1⟩ : Portholeref30_Run)] : List Portholeref30_Run).length)), e_ 40 (.agg #[.int .i64 (rd l0 s1.1), .int .i64 1]), e_ 35 (.slice A_8 s1.2.length c_9), e_ 4 (.int .i64 s1.1), e_ 3 (.slice A_8 s1.2.length c_9), e_ 2 (.slice none 0 0), e_ 0 (.slice A0 l0.length c0)] [])) (fun A_49 => by kernel_rfl) (fun A_49 a w_51 hput hE' hI' hmv hmr hq_50 => ?_)
     replace hr0 := Arr.keep hr0 (hmv _)
     replace hq_7 := Row.keep hq_7 (hmv _) (fun b hb => hmr b (by simp [hb]) (by simp))
     replace hE_46 := El.keep hE_46 (hmv _)
     replace hE := hE'
     replace hI := hI'
     clear hE' hI' hmv hmr
     obtain ⟨hE', hmv, hq_50, hcap_52⟩ := Row.still (l1 := [rb A_8]) (l2 := []) hq_50 (Nat.le_refl _) hE
     have hmr : ∀ b ∈ ([rb A_8, rb A_49] : List (List Nat)).flatten, w_51.heap[b]? = w_51.heap[b]? := fun _ _ => rfl
     replace hr0 := Arr.keep hr0 (hmv _)
     replace hq_7 := Row.keep hq_7 (hmv _) (fun b hb => hmr b (by simp [hb]))
     replace hE_46 := El.keep hE_46 (hmv _)
     replace hE := hE'
     clear hE' hmv hmr
     obtain ⟨hN_53, H1⟩ := req_some H1
     replace hN_53 := of_decide_eq_true hN_53
     refine append_ (S0 := S) (l1 := []) (l2 := []) (d := kd_Portholeref30_Run) (e := 30) hF hE hI (wanted_none rfl) rfl (A := A_8) (c := c_9) (l := s1.2) rfl (A2 := A_49) (c2 := (([(⟨(rd l0 s1.1), 1⟩ : Portholeref30_Run)] : List Portholeref30_Run).length)) rfl hq_7 hq_50 (fun sv u hu => by exact kd_one_Portholeref30_Run _ sv u hu) Tryd.underlying24 (zi := (.agg #[.int .i64 0, .int .i64 0], 2, 16)) (by kernel_rfl) rfl (by kernel_rfl) (len_max (by decide) hN_53) hN_53 (fun A_54 c_55 => (s_ [e_ 42 (.slice A_54 (s1.2 ++ [(⟨(rd l0 s1.1), 1⟩ : Portholeref30_Run)]).length c_55), e_ 41 (.slice A_49 ([(⟨(rd l0 s1.1), 1⟩ : Portholeref30_Run)] : List Portholeref30_Run).length (([(⟨(rd l0 s1.1), 1⟩ : Portholeref30_Run)] : List Portholeref30_Run).length)), e_ 40 (.agg #[.int .i64 (rd l0 s1.1), .int .i64 1]), e_ 35 (.slice A_8 s1.2.length c_9), e_ 4 (.int .i64 s1.1), e_ 3 (.slice A_8 s1.2.length c_9), e_ 2 (.slice none 0 0), e_ 0 (.slice A0 l0.length c0)] [])) (fun A_54 c_55 => by kernel_rfl) (fun A_54 c_55 a w_56 hput hE' hI' hmv hmr hq_7 => ?_)
     replace hr0 := Arr.keep hr0 (hmv _)
     replace hE_46 := El.keep hE_46 (hmv _)
     replace hq_50 := Arr.keep hq_50 (hmv _)
     replace hE := hE'
     replace hI := hI'
     clear hE' hI' hmv hmr
     refine ckn0_ hF 1 hI [3, 4, 2, 0] [e_ 3 (.slice A_54 (s1.2 ++ [(⟨(rd l0 s1.1), 1⟩ : Portholeref30_Run)]).length c_55)] [] rfl (by kernel_rfl) (fun ns_57 a w_58 hI => ?_)
     refine wpListIn_nil ?_
     refine inBlock_normal ?_
     refine then_normal ?_
     refine rgn0_ hF hI [4, 3, 2, 0] [e_ 4 (.int .i64 (IntKind.i64.wrap (s1.1 + 1)))] [] (by kernel_rfl) (fun ns_59 a w_60 hI => ?_)
     refine then_normal ?_
     obtain ⟨hE', hmv, hmr⟩ := Ep.rebase hE hI
     replace hr0 := Arr.keep hr0 (hmv _)
     replace hE_46 := El.keep hE_46 (hmv _)
     replace hq_50 := Arr.keep hq_50 (hmv _)
     replace hq_7 := Row.keep hq_7 (hmv _) (fun b hb => hmr b (by simp [hb]))
     replace hE := hE'
     replace hI := hI.rebase
     clear hE' hmv hmr
     obtain rfl := Option.some.inj H1
     exact ⟨_, rfl, ⟨_, _, _, _, hr0, hq_7, hE, hI.pick [4, 3, 2, 0] 0 (s_ [e_ 4 (.int .i64 (IntKind.i64.wrap (s1.1 + 1))), e_ 3 (.slice A_54 (s1.2 ++ [(⟨(rd l0 s1.1), 1⟩ : Portholeref30_Run)]).length c_55), e_ 2 (.slice none 0 0), e_ 0 (.slice A0 l0.length c0)] []) (by kernel_rfl)⟩⟩
   ·replace H1 := bif_f hc_15 H1
    refine wpIn_exit ?_
    refine then_exit ?_
    refine then_exit ?_
    obtain ⟨hE', hmv, hmr⟩ := Ep.rebase hE hI
    replace hr0 := Arr.keep hr0 (hmv _)
    replace hq_7 := Row.keep hq_7 (hmv _) (fun b hb => hmr b (by simp [hb]))
    replace hE := hE'
    replace hI := hI.rebase
    clear hE' hmv hmr
    obtain rfl := Option.some.inj H1
    exact .inl ⟨_, rfl, rfl, ⟨_, _, _, _, hr0, hq_7, hE, hI.pick [4, 3, 2, 0] 0 (s_ [e_ 4 (.int .i64 s1.1), e_ 3 (.slice A_8 s1.2.length c_9), e_ 2 (.slice none 0 0), e_ 0 (.slice A0 l0.length c0)] []) (by kernel_rfl)⟩⟩
  ·clear hI hE
   rintro s1 a w_63 ho ⟨ow_65, ns_64, A_8, c_9, hr0, hq_7, hE, hI⟩
   subst ho
   replace H0 : (some s1.2 : Option ((List Portholeref30_Run))) = _ := H0
   refine then_normal ?_
   refine sr0_ hF hI (s_ [e_ 2 (.slice A_8 s1.2.length c_9)] []) (by kernel_rfl) (fun ns_66 a w_67 hI => ?_)
   obtain ⟨hE', hmv, hmr⟩ := Ep.rebase hE hI
   replace hr0 := Arr.keep hr0 (hmv _)
   replace hq_7 := Row.keep hq_7 (hmv _) (fun b hb => hmr b (by simp [hb]))
   replace hE := hE'
   replace hI := hI.rebase
   clear hE' hmv hmr
   obtain ⟨hE', hmv, hq_7, hcap_68⟩ := Row.still (l1 := []) (l2 := []) hq_7 (Nat.le_refl _) hE
   have hmr : ∀ b ∈ ([rb A_8] : List (List Nat)).flatten, w_67.heap[b]? = w_67.heap[b]? := fun _ _ => rfl
   replace hr0 := Arr.keep hr0 (hmv _)
   replace hE := hE'
   clear hE' hmv hmr
   refine wpIn_ret ?_
   obtain rfl := Option.some.inj H0
   exact ret1 hI rfl rfl ⟨svL [(A_8, c_9)], rfl, hE.below hI, ⟨Arr.keep hq_7 (hE.out hI), hcap_68⟩⟩

noncomputable def G_law30_PackRuns.r1 (l0 : (List Int)) (a1 : Int) (t_3 : Bool) (t_17 : (List Portholeref30_Run)) (t_28 : (List Int)) (s1 : Bool × Int) (y_50 : Int × Int) : Option (Stp (Bool × Int) (Nat × (Bool × Int))) := (bif decide (s1.2 ≥ (IntKind.i64.wrap a1)) then some (.out (0, (s1.1, s1.2))) else (req (imp (!(decide (s1.2 ≥ (t_17.length : Int)))) (inb s1.2 t_17.length)) (req (imp (!(decide (s1.2 ≥ (t_17.length : Int)) || (!(eqb_Portholeref30_Run (rd t_17 s1.2) (⟨y_50.1, y_50.2⟩ : Portholeref30_Run)))) && (decide (s1.2 > 0))) (inb (IntKind.i64.wrap (s1.2 - 1)) t_17.length)) (bif ((decide (s1.2 ≥ (t_17.length : Int)) || (!(eqb_Portholeref30_Run (rd t_17 s1.2) (⟨y_50.1, y_50.2⟩ : Portholeref30_Run)))) || (decide (s1.2 > 0) && (((rd t_17 (IntKind.i64.wrap (s1.2 - 1))).Act) == y_50.1))) then some (.out (1, (false, s1.2))) else some (.next (s1.1, (IntKind.i64.wrap (s1.2 + 1))))))))
noncomputable def G_law30_PackRuns (l0 : (List Int)) (a1 : Int) : Option (Bool) := ((G_law30_wakes).bind fun t_3 => (bif (!t_3) then some false else (bif decide ((l0.length : Int) > 500) then some true else ((G_ref30_Runs l0).bind fun t_17 => ((G_pack_Runs l0).bind fun t_28 => ((G_pack_Runs_1 (G_law30_PackRuns.r1 l0 a1 t_3 t_17 t_28) (false, 0) t_28).bind fun z => z.on (fun s1 => some (s1.2 == (mnI (IntKind.i64.wrap a1) (t_17.length : Int)))) (fun r1 => (bif Nat.beq r1.1 0 then some (r1.2.2 == (mnI (IntKind.i64.wrap a1) (t_17.length : Int))) else some r1.2.1))))))))
theorem G_law30_PackRuns.calls (l0 : (List Int)) (a1 : Int) (A0 : Option Addr) (c0 : Nat) (w : World) {S : Nat → Prop} (hr0 : Arr (Kd.int .i64) S w A0 l0) (hc0 : l0.length ≤ c0) (r : Bool) (h : G_law30_PackRuns l0 a1 = some r) :
    Calls Tryd.prog 3 #[.slice A0 l0.length c0, .int .u8 a1] w fun e w' => e = .returned (.bool r) ∧ Below w.heap.size w w' := by
  replace hr0 := Arr.lo hr0
  unfold G_law30_PackRuns at h
  have H0 := h
  clear h
  refine enterM Tryd.func3 rfl [.slice A0 l0.length c0, .int .u8 a1] (n := 65) rfl (Nat.le_of_ble_eq_true rfl) (fun a hI => ?_)
  have hF : FOpen Fence.wide := .inl rfl
  have hE := Ep.start w
  refine sr0_ hF hI ⟨[p_ 4 1 0, p_ 3 0 0, e_ 0 (.slice A0 l0.length c0)], [], [], [([.v (.int .u8 a1)], 5), ([.v (.bool false)], 4)], some (w.heap.size, none), none⟩ (by kernel_rfl) (fun ns_1 a w_2 hI => ?_)
  refine wpIn_seq ?_
  obtain ⟨t_3, hG_4, H0⟩ := bind_some H0
  refine srn_ (orc := [[.bool t_3]]) hF hI [11, 4, 3, 0] [e_ 11 (.bool (!t_3))] [] [.call true 6 [] (.bool t_3)] (by kernel_rfl) ⟨ob_call (enters Tryd.func6 (by kernel_rfl) rfl) (fun hg wz hk => G_law30_wakes.calls   wz (S := fun _ => True)  _ hG_4), trivial⟩ (fun ns_5 a w_6 hI => ?_)
  refine cond_ hI ((!t_3)) rfl (fun hc_7 => ?_) (fun hc_7 => ?_)
  ·replace H0 := bif_t hc_7 H0
   refine srn0_ hF hI [4] [] [] (by kernel_rfl) (fun ns_8 a w_9 hI => ?_)
   refine wpIn_ret ?_
   refine then_ret ?_
   obtain rfl := Option.some.inj H0
   exact retM hI rfl rfl rfl (fun wz hz => ⟨rfl, (hE.below hI).trans hz.below⟩)
  ·replace H0 := bif_f hc_7 H0
   refine wpIn_skip ?_
   refine then_normal ?_
   refine wpIn_seq ?_
   refine srn0_ hF hI [14, 4, 3, 0] [e_ 14 (.bool (decide ((l0.length : Int) > 500)))] [] (by kernel_rfl) (fun ns_10 a w_11 hI => ?_)
   refine cond_ hI (decide ((l0.length : Int) > 500)) rfl (fun hc_12 => ?_) (fun hc_12 => ?_)
   ·replace H0 := bif_t hc_12 H0
    refine srn0_ hF hI [4] [] [(1, ([.v (.bool true)], 4))] (by kernel_rfl) (fun ns_13 a w_14 hI => ?_)
    refine wpIn_ret ?_
    refine then_ret ?_
    obtain rfl := Option.some.inj H0
    exact retM hI rfl rfl rfl (fun wz hz => ⟨rfl, (hE.below hI).trans hz.below⟩)
   ·replace H0 := bif_f hc_12 H0
    refine wpIn_skip ?_
    refine then_normal ?_
    refine wpIn_seq ?_
    refine wpIn_region_lit ?_
    refine ckn0_ hF 1 hI [15, 4, 3, 0] [e_ 15 (.slice A0 l0.length c0)] [] rfl (by kernel_rfl) (fun ns_15 a w_16 hI => ?_)
    obtain ⟨hE', hmv, hmr⟩ := Ep.rebase hE hI
    replace hr0 := Arr.keep hr0 (hmv _)
    replace hE := hE'
    replace hI := hI.rebase
    clear hE' hmv hmr
    obtain ⟨t_17, hG_18, H0⟩ := bind_some H0
    refine callH_ hF hE hI (wanted_none rfl) rfl (args := [.slice A0 l0.length c0]) rfl (enters Tryd.func7 (by kernel_rfl) rfl) (fun sv_19 => .slice ((sv_19 0).1) t_17.length ((sv_19 0).2)) _ (G_ref30_Runs.calls l0 A0 c0 w_16 (S := Lo S w w_16 ns_15 []) hr0 hc0 _ hG_18) (fun sv_19 => ⟨[e_ 16 (.slice ((sv_19 0).1) t_17.length ((sv_19 0).2)), e_ 15 (.slice A0 l0.length c0), p_ 4 1 0, p_ 3 0 0, e_ 0 (.slice A0 l0.length c0)], [], [], [([.v (.int .u8 a1)], 5), ([.v (.bool false)], 4)], some (w.heap.size, none), none⟩) (fun sv_19 => by kernel_rfl) (fun sv_19 a w_21 hput hE' hI' hmv hmr hres hR => ?_)
    replace hr0 := Arr.keep hr0 (hmv _)
    replace hE := hE'
    replace hI := hI'
    clear hE' hI' hmv hmr
    obtain ⟨hR_20, hR_20c⟩ := hR
    replace hR_20 := Arr.keep hR_20 (hres _)
    clear hres
    refine ckn0_ hF 2 hI [5, 4, 3, 0] [p_ 5 2 0] [(2, ([.v (.slice ((sv_19 0).1) t_17.length ((sv_19 0).2))], 24))] rfl (by kernel_rfl) (fun ns_22 a w_23 hI => ?_)
    refine wpListIn_nil ?_
    refine then_normal ?_
    refine srn0_ hF hI [6, 5, 4, 3, 0] [p_ 6 3 0] [(3, ([.v (.int .i64 0)], 3))] (by kernel_rfl) (fun ns_24 a w_25 hI => ?_)
    refine wpIn_seq ?_
    refine wpIn_seq ?_
    refine wpIn_region_lit ?_
    refine ckn0_ hF 1 hI [17, 6, 5, 4, 3] [e_ 17 (.slice A0 l0.length c0)] [] rfl (by kernel_rfl) (fun ns_26 a w_27 hI => ?_)
    obtain ⟨hE', hmv, hmr⟩ := Ep.rebase hE hI
    replace hr0 := Arr.keep hr0 (hmv _)
    replace hR_20 := Arr.keep hR_20 (hmv _)
    replace hE := hE'
    replace hI := hI.rebase
    clear hE' hmv hmr
    obtain ⟨t_28, hG_29, H0⟩ := bind_some H0
    refine callH_ hF hE hI (wanted_none rfl) rfl (args := [.slice A0 l0.length c0]) rfl (enters Tryd.func8 (by kernel_rfl) rfl) (fun sv_30 => .func (.func 15) #[] #[.pointer (some (adr (sv_30 0).1))]) _ (G_pack_Runs.calls l0 A0 c0 w_27 (S := Lo S w w_27 ns_26 []) hr0 hc0 _ hG_29) (fun sv_30 => ⟨[e_ 18 (.func (.func 15) #[] #[.pointer (some (adr (sv_30 0).1))]), e_ 17 (.slice A0 l0.length c0), p_ 6 3 0, p_ 5 2 0, p_ 4 1 0, p_ 3 0 0], [], [], [([.v (.int .u8 a1)], 5), ([.v (.bool false)], 4), ([.v (.slice ((sv_19 0).1) t_17.length ((sv_19 0).2))], 24), ([.v (.int .i64 0)], 3)], some (w.heap.size, none), none⟩) (fun sv_30 => by kernel_rfl) (fun sv_30 a w_32 hput hE' hI' hmv hmr hres hR => ?_)
    replace hr0 := Arr.keep hr0 (hmv _)
    replace hR_20 := Arr.keep hR_20 (hmv _)
    replace hE := hE'
    replace hI := hI'
    clear hE' hI' hmv hmr
    have hR_31 := hR
    replace hR_31 := El.keep hR_31 (hres _)
    clear hres
    refine ckn0_ hF 1 hI [7, 6, 5, 4, 3] [e_ 7 (.func (.func 15) #[] #[.pointer (some (adr (sv_30 0).1))])] [] rfl (by kernel_rfl) (fun ns_33 a w_34 hI => ?_)
    refine wpListIn_nil ?_
    refine then_normal ?_
    refine srn0_ hF hI [20, 7, 6, 5, 4, 3] [e_ 20 (.bool true)] [] (by kernel_rfl) (fun ns_35 a w_36 hI => ?_)
    refine cond_ hI true rfl (fun _ => ?_) (fun h => by cases h)
    refine srn0_ hF hI [21, 6, 5, 4, 3] [e_ 21 (.func (.func 15) #[] #[.pointer (some (adr (sv_30 0).1))])] [] (by kernel_rfl) (fun ns_37 a w_38 hI => ?_)
    refine wpIn_block ?_
    obtain ⟨hE', hmv, hmr⟩ := Ep.rebase hE hI
    replace hr0 := Arr.keep hr0 (hmv _)
    replace hR_20 := Arr.keep hR_20 (hmv _)
    replace hR_31 := El.keep hR_31 (hmv _)
    replace hE := hE'
    replace hI := hI.rebase
    clear hE' hmv hmr
    obtain ⟨ns_39, hE', hI', hmv⟩ := hE.cut hI [21, 6, 5, 4, 3] 4 ⟨[e_ 21 (.func (.func 15) #[] #[.pointer (some (adr (sv_30 0).1))]), p_ 6 3 0, p_ 5 2 0, p_ 4 1 0, p_ 3 0 0], [], [], [([.v (.int .u8 a1)], 5), ([.v (.bool false)], 4), ([.v (.slice ((sv_19 0).1) t_17.length ((sv_19 0).2))], 24), ([.v (.int .i64 0)], 3)], some (w.heap.size, none), none⟩ (by kernel_rfl)
    have hmr : ∀ b ∈ ([] : List (List Nat)).flatten, w_38.heap[b]? = w_38.heap[b]? := fun _ _ => rfl
    replace hr0 := Arr.keep hr0 (hmv _)
    replace hR_20 := Arr.keep hR_20 (hmv _)
    replace hR_31 := El.keep hR_31 (hmv _)
    replace hE := hE'
    replace hI := hI'
    clear hE' hI' hmv hmr
    obtain ⟨z_43, hz_44, H0⟩ := bind_some H0
    refine rangeFunc_ (ps := [22, 23]) hE hI rfl (Nat.le_refl _) (lb := [.pointer (some (adr (sv_30 0).1))]) rfl (enters Tryd.func15 (by kernel_rfl) rfl) (fun l_40 aR_41 w_42 haR_49 hE' hI' hmv hmr => ?_)
    replace hr0 := Arr.keep hr0 (hmv _)
    replace hR_20 := Arr.keep hR_20 (hmv _)
    replace hR_31 := El.keep hR_31 (hmv _)
    replace hE := hE'
    replace hI := hI'
    clear hE' hI' hmv hmr
    refine ⟨Bool × Int, Int × Int, Nat × (Bool × Int), G_pack_Runs_1.enc, G_pack_Runs_1.fct, G_law30_PackRuns.r1 l0 a1 t_3 t_17 t_28, (fun (s1 : Bool × Int) (T : Nat → Prop) (W : World) => (Arr (Kd.int .i64) (Lo S w W ns_39 [[l_40]]) W A0 l0) ∧ (Arr kd_Portholeref30_Run (Lo S w W ns_39 [[l_40]]) W (sv_19 0).1 t_17) ∧ (El (Kd.slice (Kd.int .i64)) (Lo S w W ns_39 [[l_40]]) W (adr (sv_30 0).1) t_28 (svO sv_30 1)) ∧ Ep [] w W ns_39 [[l_40]] ∧ Inv W ns_39 65 ⟨[e_ 21 (.func (.func 15) #[] #[.pointer (some (adr (sv_30 0).1))]), p_ 6 3 0, p_ 5 2 0, p_ 4 1 0, p_ 3 0 0], [], [], [([.v (.int .u8 a1)], 5), ([.v (.bool s1.1)], 4), ([.v (.slice ((sv_19 0).1) t_17.length ((sv_19 0).2))], 24), ([.v (.int .i64 s1.2)], 3)], some (w.heap.size, none), none⟩ ns_39 aR_41 W ∧ Tk T W (Lo S w W ns_39 [[l_40]]) W), (fun (r : Nat × (Bool × Int)) (W : World) => (Arr (Kd.int .i64) (Lo S w W ns_39 [[l_40]]) W A0 l0) ∧ (Arr kd_Portholeref30_Run (Lo S w W ns_39 [[l_40]]) W (sv_19 0).1 t_17) ∧ (El (Kd.slice (Kd.int .i64)) (Lo S w W ns_39 [[l_40]]) W (adr (sv_30 0).1) t_28 (svO sv_30 1)) ∧ Ep [] w W ns_39 [[l_40]] ∧ Inv W ns_39 65 ⟨[e_ 21 (.func (.func 15) #[] #[.pointer (some (adr (sv_30 0).1))]), p_ 6 3 0, p_ 5 2 0, p_ 4 1 0, p_ 3 0 0], [], [], [([.v (.int .u8 a1)], 5), ([.v (.bool r.2.1)], 4), ([.v (.slice ((sv_19 0).1) t_17.length ((sv_19 0).2))], 24), ([.v (.int .i64 r.2.2)], 3)], some (w.heap.size, none), none⟩ ns_39 aR_41 W), (fun r => bif Nat.beq r.1 0 then .exit 0 else .ret), (false, 0), Tc (Lo S w w_42 ns_39 [[l_40]]) w_42, z_43, fun _ _ => rfl, ?_, ?_, ?_, ?_, ?_, ?_, ?_⟩
    ·rintro s1 T T' A B row ⟨hr0, hR_20, hR_31, hE, hI, hT_45⟩ hg hrow hT'
     obtain ⟨hE', hI', hmv, hmr⟩ := hE.turn hI hg (by simp) hrow
     replace hr0 := Arr.keep hr0 (hmv _)
     replace hR_20 := Arr.keep hR_20 (hmv _)
     replace hR_31 := El.keep hR_31 (hmv _)
     exact ⟨hr0, hR_20, hR_31, hE', hI', hT_45.turn (hmv _) hE hT'⟩
    ·rintro r A B row ⟨hr0, hR_20, hR_31, hE, hI⟩ hg hrow
     obtain ⟨hE', hI', hmv, hmr⟩ := hE.turn hI hg (by simp) hrow
     replace hr0 := Arr.keep hr0 (hmv _)
     replace hR_20 := Arr.keep hR_20 (hmv _)
     replace hR_31 := El.keep hR_31 (hmv _)
     exact ⟨hr0, hR_20, hR_31, hE', hI'⟩
    ·intro J Jx hq hJ
     exact G_pack_Runs_1.calls _ _ t_28 (adr (sv_30 0).1) (svO sv_30 1) _ w_42 (S := Tc (Lo S w w_42 ns_39 [[l_40]]) w_42) (El.keep hR_31 (Tc.mv _ _)) hq hJ _ hz_44
    ·exact ⟨hr0, hR_20, hR_31, hE, hI, Tk.new _ _⟩
    ·rintro s1 y_50 sv_51 T_53 w_52 z hz ⟨hr0, hR_20, hR_31, hE, hO, hT_45⟩ hf_54 oo_47 ho_48 hl_46
     unfold G_law30_PackRuns.r1 at hz
     have H1 := hz
     clear hz
     have hF : FOpen (Fence.wide.inRound l_40) := .inr ⟨l_40, rfl⟩
     have hI : Inv w_52 ns_39 65 ⟨[e_ 23 (.int .i64 y_50.2), e_ 22 (.int .i64 y_50.1), e_ 21 (.func (.func 15) #[] #[.pointer (some (adr (sv_30 0).1))]), p_ 6 3 0, p_ 5 2 0, p_ 4 1 0, p_ 3 0 0], [], [], [([.v (.int .u8 a1)], 5), ([.v (.bool s1.1)], 4), ([.v (.slice ((sv_19 0).1) t_17.length ((sv_19 0).2))], 24), ([.v (.int .i64 s1.2)], 3)], some (w.heap.size, some aR_41.defers), some (4, ns_39)⟩ ns_39 _ w_52 := hO.round rfl rfl rfl [22, 23] (G_pack_Runs_1.enc y_50 sv_51) (by kernel_rfl) (by kernel_rfl) _ haR_49
     refine sr0_ hF hI ⟨[e_ 8 (.int .i64 y_50.1), e_ 23 (.int .i64 y_50.2), p_ 6 3 0, p_ 5 2 0, p_ 4 1 0, p_ 3 0 0], [], [], [([.v (.int .u8 a1)], 5), ([.v (.bool s1.1)], 4), ([.v (.slice ((sv_19 0).1) t_17.length ((sv_19 0).2))], 24), ([.v (.int .i64 s1.2)], 3)], some (w.heap.size, some aR_41.defers), some (4, ns_39)⟩ (by kernel_rfl) (fun ns_55 a w_56 hI => ?_)
     refine rgn0_ hF hI [9, 8, 6, 5, 4, 3] [e_ 9 (.int .i64 y_50.2)] [] (by kernel_rfl) (fun ns_57 a w_58 hI => ?_)
     refine then_normal ?_
     obtain ⟨hE', hmv, hmr⟩ := Ep.rebase hE hI
     replace hr0 := Arr.keep hr0 (hmv _)
     replace hR_20 := Arr.keep hR_20 (hmv _)
     replace hR_31 := El.keep hR_31 (hmv _)
     replace hT_45 := Tk.keep hT_45 (hmv _)
     replace hl_46 := (hmr _ (by simp)).trans hl_46
     replace hE := hE'
     replace hI := hI.rebase
     clear hE' hmv hmr
     refine begin_ hE hI (by simp) hl_46 ho_48 (fun w_59 hE' hI' hmv hmr hl_46 => ?_)
     replace hr0 := Arr.keep hr0 (hmv _)
     replace hR_20 := Arr.keep hR_20 (hmv _)
     replace hR_31 := El.keep hR_31 (hmv _)
     replace hT_45 := Tk.keep hT_45 (hmv _)
     replace hE := hE'
     replace hI := hI'
     clear hE' hI' hmv hmr
     refine wpIn_block ?_
     refine wpIn_seq ?_
     refine srn0_ hF hI [27, 9, 8, 6, 5, 4, 3] [e_ 27 (.bool (decide (s1.2 ≥ (IntKind.i64.wrap a1))))] [] (by kernel_rfl) (fun ns_60 a w_61 hI => ?_)
     refine cond_ hI (decide (s1.2 ≥ (IntKind.i64.wrap a1))) rfl (fun hc_62 => ?_) (fun hc_62 => ?_)
     ·replace H1 := bif_t hc_62 H1
      refine wpIn_exit ?_
      refine then_exit ?_
      refine inBlock_other (by decide) ?_
      obtain ⟨hE', hmv, hmr⟩ := Ep.rebase hE hI
      replace hr0 := Arr.keep hr0 (hmv _)
      replace hR_20 := Arr.keep hR_20 (hmv _)
      replace hR_31 := El.keep hR_31 (hmv _)
      replace hT_45 := Tk.keep hT_45 (hmv _)
      replace hl_46 := (hmr _ (by simp)).trans hl_46
      replace hE := hE'
      replace hI := hI.rebase
      clear hE' hmv hmr
      obtain ⟨hE', hI', hmv⟩ := Ep.unround (bs := [([.v (.int .u8 a1)], 5), ([.v (.bool s1.1)], 4), ([.v (.slice ((sv_19 0).1) t_17.length ((sv_19 0).2))], 24), ([.v (.int .i64 s1.2)], 3)]) hO hE hI rfl rfl rfl rfl rfl rfl (by kernel_rfl) rfl
      have hmr : ∀ b ∈ ([[l_40]] : List (List Nat)).flatten, w_61.heap[b]? = w_61.heap[b]? := fun _ _ => rfl
      replace hr0 := Arr.keep hr0 (hmv _)
      replace hR_20 := Arr.keep hR_20 (hmv _)
      replace hR_31 := El.keep hR_31 (hmv _)
      replace hT_45 := Tk.keep hT_45 (hmv _)
      replace hl_46 := (hmr _ (by simp)).trans hl_46
      replace hE := hE'
      replace hI := hI'
      clear hE' hI' hmv hmr
      obtain rfl := Option.some.inj H1
      exact RndQ.ex hl_46 rfl rfl ⟨hr0, hR_20, hR_31, hE, hI⟩
     ·replace H1 := bif_f hc_62 H1
      refine wpIn_skip ?_
      refine then_normal ?_
      refine wpIn_seq ?_
      obtain ⟨hN_63, H1⟩ := req_some H1
      obtain ⟨sv_64, hE_66, hA_65⟩ := Arr.elB (d := kd_Portholeref30_Run) hR_20 s1.2 (!(decide (s1.2 ≥ (t_17.length : Int)))) (fun hg => imp_spec hN_63 hg)
      obtain ⟨hN_67, H1⟩ := req_some H1
      obtain ⟨sv_68, hE_70, hA_69⟩ := Arr.elB (d := kd_Portholeref30_Run) hR_20 (IntKind.i64.wrap (s1.2 - 1)) (!(decide (s1.2 ≥ (t_17.length : Int)) || (!(eqb_Portholeref30_Run (rd t_17 s1.2) (⟨y_50.1, y_50.2⟩ : Portholeref30_Run)))) && (decide (s1.2 > 0))) (fun hg => imp_spec hN_67 hg)
      refine srn_ (orc := [(kd_Portholeref30_Run).cells (rd t_17 s1.2) sv_64, [.bool (!(eqb_Portholeref30_Run (rd t_17 s1.2) (⟨y_50.1, y_50.2⟩ : Portholeref30_Run)))], [.int .i64 ((rd t_17 (IntKind.i64.wrap (s1.2 - 1))).Act)]]) hF hI [55, 6, 5, 4, 3] [e_ 55 (.bool ((decide (s1.2 ≥ (t_17.length : Int)) || (!(eqb_Portholeref30_Run (rd t_17 s1.2) (⟨y_50.1, y_50.2⟩ : Portholeref30_Run)))) || (decide (s1.2 > 0) && (((rd t_17 (IntKind.i64.wrap (s1.2 - 1))).Act) == y_50.1))))] [] [.need (!(decide (s1.2 ≥ (t_17.length : Int)))) ((0 : Int) ≤ s1.2 ∧ s1.2 < (t_17.length : Int)), .need (!(decide (s1.2 ≥ (t_17.length : Int)))) ((sv_19 0).1 = some (adr ((sv_19 0).1))), .cell (!(decide (s1.2 ≥ (t_17.length : Int)))) ((adr ((sv_19 0).1)).add ((s1.2 : Int).toNat * 2)) ((kd_Portholeref30_Run).cells (rd t_17 s1.2) sv_64), .run (!(decide (s1.2 ≥ (t_17.length : Int)))) (vS (do eqGuard .neq 30 (.tmp 36) (.tmp 39) (.agg ((kd_Portholeref30_Run).cells (rd t_17 s1.2) (svL [])).toArray) (.agg ((kd_Portholeref30_Run).cells (⟨y_50.1, y_50.2⟩ : Portholeref30_Run) (svL [])).toArray); binOp .neq 30 (.agg ((kd_Portholeref30_Run).cells (rd t_17 s1.2) (svL [])).toArray) (.agg ((kd_Portholeref30_Run).cells (⟨y_50.1, y_50.2⟩ : Portholeref30_Run) (svL [])).toArray))) (.bool (!(eqb_Portholeref30_Run (rd t_17 s1.2) (⟨y_50.1, y_50.2⟩ : Portholeref30_Run)))), .need (!(decide (s1.2 ≥ (t_17.length : Int)) || (!(eqb_Portholeref30_Run (rd t_17 s1.2) (⟨y_50.1, y_50.2⟩ : Portholeref30_Run)))) && (decide (s1.2 > 0))) ((0 : Int) ≤ (IntKind.i64.wrap (s1.2 - 1)) ∧ (IntKind.i64.wrap (s1.2 - 1)) < (t_17.length : Int)), .need (!(decide (s1.2 ≥ (t_17.length : Int)) || (!(eqb_Portholeref30_Run (rd t_17 s1.2) (⟨y_50.1, y_50.2⟩ : Portholeref30_Run)))) && (decide (s1.2 > 0))) ((sv_19 0).1 = some (adr ((sv_19 0).1))), .cell (!(decide (s1.2 ≥ (t_17.length : Int)) || (!(eqb_Portholeref30_Run (rd t_17 s1.2) (⟨y_50.1, y_50.2⟩ : Portholeref30_Run)))) && (decide (s1.2 > 0))) ((adr ((sv_19 0).1)).add (((IntKind.i64.wrap (s1.2 - 1)) : Int).toNat * 2)) [.int .i64 ((rd t_17 (IntKind.i64.wrap (s1.2 - 1))).Act)]] (by kernel_rfl) ⟨ob_inb (fun hg => imp_spec hN_63 hg), hA_65, ob_el (fun hg => hE_66 hg) 0 ((kd_Portholeref30_Run).cells (rd t_17 s1.2) sv_64) rfl, (fun _ wz hk => vS_run (neq_run (by kernel_rfl) (eqt_Portholeref30_Run 9998 (rd t_17 s1.2) (⟨y_50.1, y_50.2⟩ : Portholeref30_Run) wz))), ob_inb (fun hg => imp_spec hN_67 hg), hA_69, ob_el (fun hg => hE_70 hg) 0 [.int .i64 ((rd t_17 (IntKind.i64.wrap (s1.2 - 1))).Act)] rfl, trivial⟩ (fun ns_71 a w_72 hI => ?_)
      refine cond_ hI (((decide (s1.2 ≥ (t_17.length : Int)) || (!(eqb_Portholeref30_Run (rd t_17 s1.2) (⟨y_50.1, y_50.2⟩ : Portholeref30_Run)))) || (decide (s1.2 > 0) && (((rd t_17 (IntKind.i64.wrap (s1.2 - 1))).Act) == y_50.1)))) rfl (fun hc_73 => ?_) (fun hc_73 => ?_)
      ·replace H1 := bif_t hc_73 H1
       refine srn0_ hF hI [4] [] [(1, ([.v (.bool false)], 4))] (by kernel_rfl) (fun ns_74 a w_75 hI => ?_)
       refine wpIn_ret ?_
       refine then_ret ?_
       refine inBlock_ret ?_
       obtain ⟨hE', hmv, hmr⟩ := Ep.rebase hE hI
       replace hr0 := Arr.keep hr0 (hmv _)
       replace hR_20 := Arr.keep hR_20 (hmv _)
       replace hR_31 := El.keep hR_31 (hmv _)
       replace hT_45 := Tk.keep hT_45 (hmv _)
       replace hl_46 := (hmr _ (by simp)).trans hl_46
       replace hE := hE'
       replace hI := hI.rebase
       clear hE' hmv hmr
       obtain ⟨hE', hI', hmv⟩ := Ep.unround (bs := [([.v (.int .u8 a1)], 5), ([.v (.bool false)], 4), ([.v (.slice ((sv_19 0).1) t_17.length ((sv_19 0).2))], 24), ([.v (.int .i64 s1.2)], 3)]) hO hE hI rfl rfl rfl rfl rfl rfl (by kernel_rfl) rfl
       have hmr : ∀ b ∈ ([[l_40]] : List (List Nat)).flatten, w_75.heap[b]? = w_75.heap[b]? := fun _ _ => rfl
       replace hr0 := Arr.keep hr0 (hmv _)
       replace hR_20 := Arr.keep hR_20 (hmv _)
       replace hR_31 := El.keep hR_31 (hmv _)
       replace hT_45 := Tk.keep hT_45 (hmv _)
       replace hl_46 := (hmr _ (by simp)).trans hl_46
       replace hE := hE'
       replace hI := hI'
       clear hE' hI' hmv hmr
       obtain rfl := Option.some.inj H1
       exact RndQ.rt hl_46 rfl rfl ⟨hr0, hR_20, hR_31, hE, hI⟩
      ·replace H1 := bif_f hc_73 H1
       refine wpIn_skip ?_
       refine then_normal ?_
       refine rgn0_ hF hI [6, 5, 4, 3] [] [(3, ([.v (.int .i64 (IntKind.i64.wrap (s1.2 + 1)))], 3))] (by kernel_rfl) (fun ns_76 a w_77 hI => ?_)
       refine inBlock_normal ?_
       obtain ⟨hE', hmv, hmr⟩ := Ep.rebase hE hI
       replace hr0 := Arr.keep hr0 (hmv _)
       replace hR_20 := Arr.keep hR_20 (hmv _)
       replace hR_31 := El.keep hR_31 (hmv _)
       replace hT_45 := Tk.keep hT_45 (hmv _)
       replace hl_46 := (hmr _ (by simp)).trans hl_46
       replace hE := hE'
       replace hI := hI.rebase
       clear hE' hmv hmr
       obtain ⟨hE', hI', hmv⟩ := Ep.unround (bs := [([.v (.int .u8 a1)], 5), ([.v (.bool s1.1)], 4), ([.v (.slice ((sv_19 0).1) t_17.length ((sv_19 0).2))], 24), ([.v (.int .i64 (IntKind.i64.wrap (s1.2 + 1)))], 3)]) hO hE hI rfl rfl rfl rfl rfl rfl (by kernel_rfl) rfl
       have hmr : ∀ b ∈ ([[l_40]] : List (List Nat)).flatten, w_77.heap[b]? = w_77.heap[b]? := fun _ _ => rfl
       replace hr0 := Arr.keep hr0 (hmv _)
       replace hR_20 := Arr.keep hR_20 (hmv _)
       replace hR_31 := El.keep hR_31 (hmv _)
       replace hT_45 := Tk.keep hT_45 (hmv _)
       replace hl_46 := (hmr _ (by simp)).trans hl_46
       replace hE := hE'
       replace hI := hI'
       clear hE' hI' hmv hmr
       obtain rfl := Option.some.inj H1
       exact RndQ.nrm hl_46 rfl ⟨hr0, hR_20, hR_31, hE, hI, hT_45.re⟩ hT_45.same
    ·rintro s1 T w_78 hzz ⟨hr0, hR_20, hR_31, hE, hI, hT_45⟩
     subst hzz
     replace H0 : (some (s1.2 == (mnI (IntKind.i64.wrap a1) (t_17.length : Int))) : Option (Bool)) = _ := H0
     obtain ⟨hE', hmv⟩ := hE.sub (mine' := []) (sub_one [] [] _)
     have hmr : ∀ b ∈ ([[l_40]] : List (List Nat)).flatten, w_78.heap[b]? = w_78.heap[b]? := fun _ _ => rfl
     replace hr0 := Arr.keep hr0 (hmv _)
     replace hR_20 := Arr.keep hR_20 (hmv _)
     replace hR_31 := El.keep hR_31 (hmv _)
     replace hE := hE'
     clear hE' hmv hmr
     refine inBlock_normal ?_
     refine then_normal ?_
     refine sr0_ hF hI ⟨[p_ 4 1 0], [], [], [([.v (.int .u8 a1)], 5), ([.v (.bool (s1.2 == (mnI (IntKind.i64.wrap a1) (t_17.length : Int))))], 4), ([.v (.slice ((sv_19 0).1) t_17.length ((sv_19 0).2))], 24), ([.v (.int .i64 s1.2)], 3)], some (w.heap.size, none), none⟩ (by kernel_rfl) (fun ns_79 a w_80 hI => ?_)
     refine wpIn_ret ?_
     obtain rfl := Option.some.inj H0
     exact retM hI rfl rfl rfl (fun wz hz => ⟨rfl, (hE.below hI).trans hz.below⟩)
    ·rintro r1 WX hzz ⟨hr0, hR_20, hR_31, hE, hI⟩
     subst hzz
     replace H0 : ((bif Nat.beq r1.1 0 then some (r1.2.2 == (mnI (IntKind.i64.wrap a1) (t_17.length : Int))) else some r1.2.1) : Option (Bool)) = _ := H0
     dsimp only
     cases hb_85 : Nat.beq r1.1 0
     ·replace H0 := bif_f hb_85 H0
      simp only [cond_false]
      obtain ⟨hE', hmv⟩ := hE.sub (mine' := []) (sub_one [] [] _)
      have hmr : ∀ b ∈ ([[l_40]] : List (List Nat)).flatten, WX.heap[b]? = WX.heap[b]? := fun _ _ => rfl
      replace hr0 := Arr.keep hr0 (hmv _)
      replace hR_20 := Arr.keep hR_20 (hmv _)
      replace hR_31 := El.keep hR_31 (hmv _)
      replace hE := hE'
      clear hE' hmv hmr
      refine wpIn_ret ?_
      refine inBlock_ret ?_
      refine then_ret ?_
      obtain rfl := Option.some.inj H0
      exact retM hI rfl rfl rfl (fun wz hz => ⟨rfl, (hE.below hI).trans hz.below⟩)
     ·replace H0 := bif_t hb_85 H0
      simp only [cond_true]
      obtain ⟨hE', hmv⟩ := hE.sub (mine' := []) (sub_one [] [] _)
      have hmr : ∀ b ∈ ([[l_40]] : List (List Nat)).flatten, WX.heap[b]? = WX.heap[b]? := fun _ _ => rfl
      replace hr0 := Arr.keep hr0 (hmv _)
      replace hR_20 := Arr.keep hR_20 (hmv _)
      replace hR_31 := El.keep hR_31 (hmv _)
      replace hE := hE'
      clear hE' hmv hmr
      refine wpIn_exit ?_
      refine inBlock_here ?_
      refine then_normal ?_
      refine sr0_ hF hI ⟨[p_ 4 1 0], [], [], [([.v (.int .u8 a1)], 5), ([.v (.bool (r1.2.2 == (mnI (IntKind.i64.wrap a1) (t_17.length : Int))))], 4), ([.v (.slice ((sv_19 0).1) t_17.length ((sv_19 0).2))], 24), ([.v (.int .i64 r1.2.2)], 3)], some (w.heap.size, none), none⟩ (by kernel_rfl) (fun ns_82 a w_83 hI => ?_)
      refine wpIn_ret ?_
      obtain rfl := Option.some.inj H0
      exact retM hI rfl rfl rfl (fun wz hz => ⟨rfl, (hE.below hI).trans hz.below⟩)

end Go.Proofs.YtmchkeflhpojmaaDoor
