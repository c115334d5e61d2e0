/- Walks of the seat's functions. No statement is proved here. Conditions: none. -/
import Derived.Test.YtmchkeflhpojmaaDoorProg
import Derived.Test.YtmchkeflhpojmaaDoorEng
import Derived.Test.YtmchkeflhpojmaaDoorSh
set_option linter.unusedVariables false
set_option linter.unusedSimpArgs false
set_option maxRecDepth 100000
set_option maxHeartbeats 4000000
namespace Go.Proofs.YtmchkeflhpojmaaDoor
open Go Go.RowKit Go.Eng Go.Proofs

structure Strings_Builder where
  addr : Bool
  buf : (List Int)
  buf_on : Bool
  deriving Inhabited, DecidableEq
def kd_Strings_Builder : Kd Strings_Builder := ⟨2, fun x sv => [.pointer (sv 0).1, .slice (sv 1).1 (sv 2).2 (sv 1).2], fun S w x sv => True, fun _ _ => rfl, Nat.le_of_ble_eq_true rfl, fun h hk => trivial⟩
def lv_Strings_Builder (S : Nat → Prop) (w : World) (b : Nat) (x : Strings_Builder) (sv : SV) (F : List Nat) : Prop := F = ([] : List Nat) ++ ((bif x.buf_on then rb (sv 1).1 else []) ++ ([])) ∧ ((sv 0).1 = bif x.addr then some (⟨b, 0, none⟩ : Addr) else none) ∧ (x.buf_on = true → Row (Kd.int .u8) 5 S w 0 (sv 1).1 (sv 1).2 x.buf ∧ x.buf.length = (sv 2).2) ∧ True
theorem lvk_Strings_Builder {S S' : Nat → Prop} {w w' : World} {b : Nat} {x : Strings_Builder} {sv : SV} {F : List Nat} (h : lv_Strings_Builder S w b x sv F) (hk : Mv S w S' w') (hb : ∀ b ∈ F, w'.heap[b]? = w.heap[b]?) : lv_Strings_Builder S' w' b x sv F := by
  obtain ⟨hF, h0, h1, _⟩ := h
  exact ⟨hF, h0, fun hx => ⟨Row.keep (h1 hx).1 hk (fun c hc => hb c (hF ▸ List.mem_append_right _ (List.mem_append_left _ (by rw [hx]; exact hc)))), (h1 hx).2⟩, trivial⟩
theorem lvn_Strings_Builder {S : Nat → Prop} {w : World} {b : Nat} {x : Strings_Builder} {sv : SV} {F : List Nat} (h : lv_Strings_Builder S w b x sv F) : ∀ b ∈ F, b < w.heap.size ∧ ∀ q, w.heap[b]? ≠ some (.deferred q) := by
  obtain ⟨hF, h0, h1, _⟩ := h
  intro c hc
  rw [hF] at hc
  rcases List.mem_append.1 hc with hc | hc
  · cases hc
  rcases List.mem_append.1 hc with hc | hc
  · cases hx : x.buf_on with
    | false => rw [hx] at hc; cases hc
    | true => rw [hx] at hc; exact (h1 hx).1.ndl c hc
  cases hc
def lk_Strings_Builder : Lk Strings_Builder := ⟨kd_Strings_Builder, 45, lv_Strings_Builder, fun h hk hb => lvk_Strings_Builder h hk hb, fun h => lvn_Strings_Builder h⟩
inductive Fn46 where
  | nil

  deriving Inhabited, DecidableEq
def fnv46 (x : Fn46) (sv : SV) : Value := match x with
  | .nil => .nilIface

def fnc46 (S : Nat → Prop) (w : World) (x : Fn46) (sv : SV) : Prop := match x with
  | .nil => True

theorem fnk46 {S S' : Nat → Prop} {w w' : World} {x : Fn46} {sv : SV} (h : fnc46 S w x sv) (hk : ∀ b, S b → IsC w b → S' b ∧ w'.heap[b]? = w.heap[b]?) : fnc46 S' w' x sv := by
  cases x with
  | nil => exact trivial

theorem fn1_46 (x : Fn46) (sv : SV) : (fnv46 x sv).oneCell' = true := by cases x <;> rfl
theorem fnr46 {S : Nat → Prop} {w : World} {x y : Fn46} {sv : SV} (h : fnc46 S w x sv) (e : x = y) : fnc46 S w y sv := e ▸ h
def kdF46 : Kd Fn46 := ⟨1, fun x sv => [fnv46 x sv], fun S w x sv => fnc46 S w x sv, fun _ _ => rfl, Nat.one_pos, fun h hk => fnk46 h hk⟩
theorem kd_one_F46 (x : Fn46) (sv : SV) (u : Value) (hu : u ∈ kdF46.cells x sv) : u.oneCell' = true := by
  simp only [kdF46, List.mem_singleton] at hu
  subst hu; exact fn1_46 x sv
def Fn46.on {ρ : Type} (x : Fn46) (a0 : Option ρ) : Option ρ := match x with
  | .nil => a0

theorem Fn46.split {ρ : Type} {x : Fn46} {a0 : Option ρ} {r : ρ} (h : x.on a0 = some r) : (x = .nil ∧ a0 = some r) := by
  cases x with
  | nil => exact ⟨rfl, h⟩
structure Portholeref30_Run where
  Act : Int
  Many : Int
  deriving Inhabited, DecidableEq
def kd_Portholeref30_Run : Kd Portholeref30_Run := ⟨2, fun x sv => [.int .i64 x.Act, .int .i64 x.Many], fun S w x sv => True, fun _ _ => rfl, Nat.le_of_ble_eq_true rfl, fun h hk => trivial⟩
theorem kd_one_Portholeref30_Run (x : Portholeref30_Run) (sv : SV) (u : Value) (hu : u ∈ kd_Portholeref30_Run.cells x sv) : u.oneCell' = true := by
  simp only [kd_Portholeref30_Run, List.mem_cons, List.not_mem_nil, or_false] at hu
  rcases hu with rfl | rfl
  all_goals rfl

def gv1 : Array Value := #[.int .u64 1, .int .u64 10, .int .u64 100, .int .u64 1000, .int .u64 10000, .int .u64 100000, .int .u64 1000000, .int .u64 10000000, .int .u64 100000000, .int .u64 1000000000, .int .u64 10000000000, .int .u64 100000000000, .int .u64 1000000000000, .int .u64 10000000000000, .int .u64 100000000000000, .int .u64 1000000000000000, .int .u64 10000000000000000, .int .u64 100000000000000000, .int .u64 1000000000000000000, .int .u64 10000000000000000000]
def wf_Portholeref30_Run (x : Portholeref30_Run) : Prop := (InK .i64) x.Act ∧ (InK .i64) x.Many
theorem op_Portholeref30_Run : Opn Tryd.prog 30 kd_Portholeref30_Run wf_Portholeref30_Run := by
  refine ⟨by kernel_rfl, fun h => ?_⟩
  obtain ⟨xs, m, _, _, hlen, hxs, hf⟩ := DataW.trod_struct Tryd.underlying30 h
  obtain ⟨v0, s0, c0, k0, w0⟩ := opn_field hf hxs 0 _ rfl (Opn.int Tryd.underlying3 (by kernel_rfl))
  obtain ⟨v1, s1, c1, k1, w1⟩ := opn_field hf hxs 1 _ rfl (Opn.int Tryd.underlying3 (by kernel_rfl))
  exact ⟨⟨v0, v1⟩, svL [], (pieces_eq [1, 1] hlen (by kernel_rfl)).trans (app2 c0 (app2 c1 rfl)), trivial, ⟨w0, w1⟩⟩


noncomputable def G_pack_Runs (l0 : (List Int)) : Option ((List Int)) := some l0
theorem G_pack_Runs.calls (l0 : (List Int)) (A0 : Option Addr) (c0 : Nat) (w : World) {S : Nat → Prop} (hr0 : Arr (Kd.int .i64) S w A0 l0) (hc0 : l0.length ≤ c0) (r : (List Int)) (h : G_pack_Runs l0 = some r) :
    Calls Tryd.prog 8 #[.slice A0 l0.length c0] w fun e w' => ∃ sv : SV, e = .returned (.func (.func 15) #[] #[.pointer (some (adr (sv 0).1))]) ∧ Below w.heap.size w w' ∧ El (Kd.slice (Kd.int .i64)) (fun b => w.heap.size ≤ b ∨ S b) w' (adr (sv 0).1) r (svO sv 1) := by
  replace hr0 := Arr.lo hr0
  unfold G_pack_Runs at h
  have H0 := h
  clear h
  refine enter Tryd.func8 rfl [.slice A0 l0.length c0] (n := 4) rfl (Nat.le_of_ble_eq_true rfl) (fun a hI => ?_)
  have hF : FOpen Fence.wide := .inl rfl
  have hE := Ep.start w
  refine sr0_ hF hI (s_ [e_ 2 (.nilFunc), p_ 1 0 0] [([.v (.slice A0 l0.length c0)], 22)]) (by kernel_rfl) (fun ns_1 a w_2 hI => ?_)
  refine wpIn_seq ?_
  refine wpIn_region_lit ?_
  obtain ⟨hE', hmv, hmr⟩ := Ep.rebase hE hI
  replace hr0 := Arr.keep hr0 (hmv _)
  replace hE := hE'
  replace hI := hI.rebase
  clear hE' hmv hmr
  have hct := contI (S := Lo S w w_2 ns_1 []) (w := w_2) (d := (Kd.slice (Kd.int .i64))) (x := l0) (sv := (svL [(A0, c0)])) ⟨hr0, hc0⟩
  obtain ⟨B_3, ns_5, hE', hI', hmv, hB_4⟩ := freeze_ (d := (Kd.slice (Kd.int .i64))) hE hI 0 l0 (svL [(A0, c0)]) 22 rfl
  replace hB_4 := hB_4 _ hct
  clear hct
  have hmr : ∀ b ∈ ([] : List (List Nat)).flatten, w_2.heap[b]? = w_2.heap[b]? := fun _ _ => rfl
  replace hr0 := Arr.keep hr0 (hmv _)
  replace hE := hE'
  replace hI := hI'
  clear hE' hI' hmv hmr
  obtain ⟨ns_6, hE', hI', hmv⟩ := hE.cut hI [2, 1] 0 (s_ [e_ 2 (.nilFunc), e_ 1 (.pointer (some B_3))] []) (by kernel_rfl)
  have hmr : ∀ b ∈ ([] : List (List Nat)).flatten, w_2.heap[b]? = w_2.heap[b]? := fun _ _ => rfl
  replace hr0 := Arr.keep hr0 (hmv _)
  replace hB_4 := El.keep hB_4 (hmv _)
  replace hE := hE'
  replace hI := hI'
  clear hE' hI' hmv hmr
  refine chunkL_ (live := [3, 2, 1]) (orc := []) hF 1 hI (s_ [e_ 3 (.func (.func 15) #[] #[.pointer (some B_3)]), e_ 2 (.nilFunc), e_ 1 (.pointer (some B_3))] []) [] rfl (by kernel_rfl) trivial (fun ns_7 a w_8 hI => ?_)
  refine ckn0_ hF 1 hI [2] [e_ 2 (.func (.func 15) #[] #[.pointer (some B_3)])] [] rfl (by kernel_rfl) (fun ns_9 a w_10 hI => ?_)
  refine wpListIn_nil ?_
  refine then_normal ?_
  refine wpIn_ret ?_
  obtain rfl := Option.some.inj H0
  exact ret1 hI rfl rfl ⟨svL [(some B_3, 0), ((svL [(A0, c0)]) 0)], rfl, hE.below hI, ⟨(El.keep hB_4 (hE.out hI)).cont, (El.keep hB_4 (hE.out hI)).at_, (El.keep hB_4 (hE.out hI)).cells⟩⟩

def G_pack_Runs_1.enc : (Int × Int) → SV → List Value := fun y sv => [.int .i64 y.1, .int .i64 y.2]
def G_pack_Runs_1.fct : (Nat → Prop) → World → (Int × Int) → SV → Prop := fun X w y sv => True
noncomputable def G_pack_Runs_1.b2 {σt R : Type} (bd : σt → (Int × Int) → Option (Stp σt R)) (s0 : σt) (y1 : (List Int)) (s1 : Int × σt) (s2 : Int × σt) : Option (Stp (Int × σt) (Ex (Int × σt) (Stp σt R))) := (req (imp (decide (s2.1 < (y1.length : Int))) (inb s2.1 y1.length)) (req (imp (decide (s2.1 < (y1.length : Int))) (inb s1.1 y1.length)) (bif (decide (s2.1 < (y1.length : Int)) && ((rd y1 s2.1) == (rd y1 s1.1))) then some (.next ((IntKind.i64.wrap (s2.1 + 1)), s2.2)) else some (.out (.brk (s2.1, s2.2))))))
noncomputable def G_pack_Runs_1.b1 {σt R : Type} (bd : σt → (Int × Int) → Option (Stp σt R)) (s0 : σt) (y1 : (List Int)) (s1 : Int × σt) : Option (Stp (Int × σt) (Ex (Int × σt) (Stp σt R))) := (bif decide (s1.1 < (y1.length : Int)) then ((loopω (G_pack_Runs_1.b2 bd s0 y1 s1) (s1.1, s1.2)).bind fun o => o.on (fun s2 => (req (inb s1.1 y1.length) ((bd s2.2 ((rd y1 s1.1), (IntKind.i64.wrap (s2.1 - s1.1)))).bind fun z => z.on (fun s_30 => some (.next (s2.1, s_30))) (fun r_31 => some (.out (.ret (.out r_31))))))) (fun r => some (.out (.ret r)))) else some (.out (.brk (s1.1, s1.2))))
noncomputable def G_pack_Runs_1 {σt R : Type} (bd : σt → (Int × Int) → Option (Stp σt R)) (s0 : σt) (y1 : (List Int)) : Option (Stp σt R) := ((loopω (G_pack_Runs_1.b1 bd s0 y1) (0, s0)).bind fun o => o.on (fun s1 => some (.next s1.2)) (fun r => some r))
theorem G_pack_Runs_1.calls {σt R : Type} (bd : σt → (Int × Int) → Option (Stp σt R)) (s0 : σt) (y1 : (List Int)) (B1 : Addr) (sv1 : SV) (l : Nat) (w : World) {S : Nat → Prop} (hB1 : El (Kd.slice (Kd.int .i64)) S w B1 y1 sv1) {J : σt → (Nat → Prop) → World → Prop} {Jx : R → World → Prop} (hq : SeqH Tryd.prog l G_pack_Runs_1.enc G_pack_Runs_1.fct bd J Jx) (hJ : J s0 S w) (r : Stp σt R) (h : G_pack_Runs_1 bd s0 y1 = some r) :
    Calls Tryd.prog 15 #[.func (.yield l) #[] #[], .pointer (some B1)] w fun e w' => (∃ v, e = .returned v) ∧ SeqPost J Jx r w' := by
  replace hB1 := El.lo hB1
  unfold G_pack_Runs_1 at h
  have H0 := h
  clear h
  refine enter Tryd.func15 rfl [.func (.yield l) #[] #[], .pointer (some B1)] (n := 38) rfl (Nat.le_of_ble_eq_true rfl) (fun a hI => ?_)
  have hF : FOpen Fence.wide := .inl rfl
  have hE := Ep.start w
  refine sr0_ hF hI (s_ [e_ 3 (.int .i64 0), e_ 0 (.func (.yield l) #[] #[]), e_ 1 (.pointer (some B1))] []) (by kernel_rfl) (fun ns_1 a w_2 hI => ?_)
  obtain ⟨hE', hmv, hmr⟩ := Ep.rebase hE hI
  replace hB1 := El.keep hB1 (hmv _)
  replace hE := hE'
  replace hI := hI.rebase
  clear hE' hmv hmr
  have hJ' := hq.new _ _ (Tc (Lo S w w_2 ns_1 []) w_2) _ _ hJ (hE.below hI) Tc.new
  obtain ⟨o_39, hL_40, H0⟩ := bind_some H0
  refine block_loop (fun (s1 : Int × σt) a w_41 => ∃ (T : Nat → Prop), (El (Kd.slice (Kd.int .i64)) T w_41 B1 y1 sv1) ∧ J s1.2 T w_41 ∧ St w_41 [] 38 (s_ [e_ 3 (.int .i64 s1.1), e_ 0 (.func (.yield l) #[] #[]), e_ 1 (.pointer (some B1))] []) [] a w_41) (0, s0) hL_40 ⟨_, El.keep hB1 (Tc.mv _ _), hJ', (hI.pick [3, 0, 1] 0 (s_ [e_ 3 (.int .i64 0), e_ 0 (.func (.yield l) #[] #[]), e_ 1 (.pointer (some B1))] []) (by kernel_rfl)).reset rfl rfl rfl _⟩ ?_ ?_
  ·clear hI hE hJ hJ'
   rintro s1 a w ⟨S, hB1, hJ, hI⟩ r1 H1
   unfold G_pack_Runs_1.b1 at H1
   have hE := Ep.start w
   replace hB1 := El.lo hB1
   refine wpIn_seq ?_
   refine sr_ (orc := [[.slice ((sv1 0).1) y1.length ((sv1 0).2)]]) hF hI (s_ [e_ 8 (.bool (decide (s1.1 < (y1.length : Int)))), e_ 3 (.int .i64 s1.1), e_ 0 (.func (.yield l) #[] #[]), e_ 1 (.pointer (some B1))] []) [.cell true B1 [.slice ((sv1 0).1) y1.length ((sv1 0).2)]] (by kernel_rfl) ⟨ob_el (fun _ => hB1) 0 [.slice ((sv1 0).1) y1.length ((sv1 0).2)] rfl, trivial⟩ (fun ns_3 a w_4 hI => ?_)
   refine cond_ hI (decide (s1.1 < (y1.length : Int))) rfl (fun hc_5 => ?_) (fun hc_5 => ?_)
   ·replace H1 := bif_t hc_5 H1
    refine wpIn_skip ?_
    refine then_normal ?_
    refine wpIn_block ?_
    refine srn0_ hF hI [4, 3, 0, 1] [e_ 4 (.int .i64 s1.1)] [] (by kernel_rfl) (fun ns_6 a w_7 hI => ?_)
    refine wpIn_seq ?_
    obtain ⟨hE', hmv, hmr⟩ := Ep.rebase hE hI
    replace hB1 := El.keep hB1 (hmv _)
    replace hE := hE'
    replace hI := hI.rebase
    clear hE' hmv hmr
    have hJ' := hq.new _ _ (Tc (Lo S w w_7 ns_6 []) w_7) _ _ hJ (hE.below hI) Tc.new
    obtain ⟨o_20, hL_21, H1⟩ := bind_some H1
    refine block_loop (fun (s2 : Int × σt) a w_38 => ∃ (T : Nat → Prop), (El (Kd.slice (Kd.int .i64)) T w_38 B1 y1 sv1) ∧ J s2.2 T w_38 ∧ St w_38 [] 38 (s_ [e_ 4 (.int .i64 s2.1), e_ 3 (.int .i64 s1.1), e_ 0 (.func (.yield l) #[] #[]), e_ 1 (.pointer (some B1))] []) [] a w_38) (s1.1, s1.2) hL_21 ⟨_, El.keep hB1 (Tc.mv _ _), hJ', (hI.pick [4, 3, 0, 1] 0 (s_ [e_ 4 (.int .i64 s1.1), e_ 3 (.int .i64 s1.1), e_ 0 (.func (.yield l) #[] #[]), e_ 1 (.pointer (some B1))] []) (by kernel_rfl)).reset rfl rfl rfl _⟩ ?_ ?_
    ·clear hI hE hJ hJ'
     rintro s2 a w ⟨S, hB1, hJ, hI⟩ r2 H2
     unfold G_pack_Runs_1.b2 at H2
     have hE := Ep.start w
     replace hB1 := El.lo hB1
     refine wpIn_seq ?_
     refine wpIn_seq ?_
     obtain ⟨hN_8, H2⟩ := req_some H2
     obtain ⟨sv_9, hE_11, hA_10⟩ := Arr.elB (d := (Kd.int .i64)) (hB1).cont.1 s2.1 (decide (s2.1 < (y1.length : Int))) (fun hg => imp_spec hN_8 hg)
     obtain ⟨hN_12, H2⟩ := req_some H2
     obtain ⟨sv_13, hE_15, hA_14⟩ := Arr.elB (d := (Kd.int .i64)) (hB1).cont.1 s1.1 (decide (s2.1 < (y1.length : Int))) (fun hg => imp_spec hN_12 hg)
     refine drawn_ (live := [24, 4, 3, 0, 1]) (orc := [[.slice ((sv1 0).1) y1.length ((sv1 0).2)], [.slice ((sv1 0).1) y1.length ((sv1 0).2)], [.int .i64 (rd y1 s2.1)], [.slice ((sv1 0).1) y1.length ((sv1 0).2)], [.int .i64 (rd y1 s1.1)]]) hF hI (s_ [e_ 24 (.bool (decide (s2.1 < (y1.length : Int)) && ((rd y1 s2.1) == (rd y1 s1.1)))), e_ 4 (.int .i64 s2.1), e_ 3 (.int .i64 s1.1), e_ 0 (.func (.yield l) #[] #[]), e_ 1 (.pointer (some B1))] []) [.cell true B1 [.slice ((sv1 0).1) y1.length ((sv1 0).2)], .cell (decide (s2.1 < (y1.length : Int))) B1 [.slice ((sv1 0).1) y1.length ((sv1 0).2)], .need (decide (s2.1 < (y1.length : Int))) ((0 : Int) ≤ s2.1 ∧ s2.1 < (y1.length : Int)), .need (decide (s2.1 < (y1.length : Int))) ((sv1 0).1 = some (adr ((sv1 0).1))), .cell (decide (s2.1 < (y1.length : Int))) ((adr ((sv1 0).1)).add ((s2.1 : Int).toNat * 1)) [.int .i64 (rd y1 s2.1)], .cell (decide (s2.1 < (y1.length : Int))) B1 [.slice ((sv1 0).1) y1.length ((sv1 0).2)], .need (decide (s2.1 < (y1.length : Int))) ((0 : Int) ≤ s1.1 ∧ s1.1 < (y1.length : Int)), .need (decide (s2.1 < (y1.length : Int))) ((sv1 0).1 = some (adr ((sv1 0).1))), .cell (decide (s2.1 < (y1.length : Int))) ((adr ((sv1 0).1)).add ((s1.1 : Int).toNat * 1)) [.int .i64 (rd y1 s1.1)]] (by kernel_rfl) (by kernel_rfl) (by kernel_rfl) ⟨ob_el (fun _ => hB1) 0 [.slice ((sv1 0).1) y1.length ((sv1 0).2)] rfl, ob_el (fun _ => hB1) 0 [.slice ((sv1 0).1) y1.length ((sv1 0).2)] rfl, ob_inb (fun hg => imp_spec hN_8 hg), hA_10, ob_el (fun hg => hE_11 hg) 0 [.int .i64 (rd y1 s2.1)] rfl, ob_el (fun _ => hB1) 0 [.slice ((sv1 0).1) y1.length ((sv1 0).2)] rfl, ob_inb (fun hg => imp_spec hN_12 hg), hA_14, ob_el (fun hg => hE_15 hg) 0 [.int .i64 (rd y1 s1.1)] rfl, trivial⟩ (fun a w_16 hI => ?_)
     refine then_normal ?_
     refine cond_ hI ((decide (s2.1 < (y1.length : Int)) && ((rd y1 s2.1) == (rd y1 s1.1)))) rfl (fun hc_17 => ?_) (fun hc_17 => ?_)
     ·replace H2 := bif_t hc_17 H2
      refine wpIn_skip ?_
      refine then_normal ?_
      refine wpIn_block ?_
      refine rg0_ hF hI (s_ [e_ 4 (.int .i64 (IntKind.i64.wrap (s2.1 + 1))), e_ 3 (.int .i64 s1.1), e_ 0 (.func (.yield l) #[] #[]), e_ 1 (.pointer (some B1))] []) (by kernel_rfl) (fun ns_18 a w_19 hI => ?_)
      refine inBlock_normal ?_
      refine then_normal ?_
      obtain ⟨hE', hmv, hmr⟩ := Ep.rebase hE hI
      replace hB1 := El.keep hB1 (hmv _)
      replace hE := hE'
      replace hI := hI.rebase
      clear hE' hmv hmr
      have hJ' := hq.new _ _ (Tc (Lo S w w_19 ns_18 []) w_19) _ _ hJ (hE.below hI) Tc.new
      obtain rfl := Option.some.inj H2
      exact ⟨_, rfl, ⟨_, El.keep hB1 (Tc.mv _ _), hJ', (hI.pick [4, 3, 0, 1] 0 (s_ [e_ 4 (.int .i64 (IntKind.i64.wrap (s2.1 + 1))), e_ 3 (.int .i64 s1.1), e_ 0 (.func (.yield l) #[] #[]), e_ 1 (.pointer (some B1))] []) (by kernel_rfl)).reset rfl rfl rfl _⟩⟩
     ·replace H2 := bif_f hc_17 H2
      refine wpIn_exit ?_
      refine then_exit ?_
      refine then_exit ?_
      obtain ⟨hE', hmv, hmr⟩ := Ep.rebase hE hI
      replace hB1 := El.keep hB1 (hmv _)
      replace hE := hE'
      replace hI := hI.rebase
      clear hE' hmv hmr
      have hJ' := hq.new _ _ (Tc (Lo S w w_16 [] []) w_16) _ _ hJ (hE.below hI) Tc.new
      obtain rfl := Option.some.inj H2
      exact .inl ⟨_, rfl, rfl, ⟨_, El.keep hB1 (Tc.mv _ _), hJ', (hI.pick [4, 3, 0, 1] 0 (s_ [e_ 4 (.int .i64 s2.1), e_ 3 (.int .i64 s1.1), e_ 0 (.func (.yield l) #[] #[]), e_ 1 (.pointer (some B1))] []) (by kernel_rfl)).reset rfl rfl rfl _⟩⟩
    ·clear hI hE hJ hJ'
     rintro s2 a w ho ⟨S, hB1, hJ, hI⟩
     subst ho
     replace H1 : ((req (inb s1.1 y1.length) ((bd s2.2 ((rd y1 s1.1), (IntKind.i64.wrap (s2.1 - s1.1)))).bind fun z => z.on (fun s_30 => some (.next (s2.1, s_30))) (fun r_31 => some (.out (.ret (.out r_31)))))) : Option (Stp (Int × σt) (Ex (Int × σt) (Stp σt R)))) = _ := H1
     have hE := Ep.start w
     replace hB1 := El.lo hB1
     refine then_normal ?_
     refine wpIn_seq ?_
     refine wpIn_seq ?_
     refine wpIn_region_lit ?_
     obtain ⟨hN_22, H1⟩ := req_some H1
     obtain ⟨sv_23, hE_25, hA_24⟩ := Arr.elB (d := (Kd.int .i64)) (hB1).cont.1 s1.1 true (fun _ => hN_22)
     replace hE_25 := hE_25 rfl
     replace hA_24 := fun (_ : true = true) => hA_24 rfl
     refine ck_ (orc := [[.slice ((sv1 0).1) y1.length ((sv1 0).2)], [.int .i64 (rd y1 s1.1)]]) hF 8 hI (s_ [e_ 34 (.int .i64 (IntKind.i64.wrap (s2.1 - s1.1))), e_ 31 (.int .i64 (rd y1 s1.1)), e_ 27 (.func (.yield l) #[] #[]), e_ 4 (.int .i64 s2.1), e_ 0 (.func (.yield l) #[] #[]), e_ 1 (.pointer (some B1))] []) [.cell true B1 [.slice ((sv1 0).1) y1.length ((sv1 0).2)], .need true ((0 : Int) ≤ s1.1 ∧ s1.1 < (y1.length : Int)), .need true ((sv1 0).1 = some (adr ((sv1 0).1))), .cell true ((adr ((sv1 0).1)).add ((s1.1 : Int).toNat * 1)) [.int .i64 (rd y1 s1.1)]] rfl (by kernel_rfl) ⟨ob_el (fun _ => hB1) 0 [.slice ((sv1 0).1) y1.length ((sv1 0).2)] rfl, ob_inb (fun _ => hN_22), hA_24, ob_el (fun _ => hE_25) 0 [.int .i64 (rd y1 s1.1)] rfl, trivial⟩ (fun ns_26 a w_27 hI => ?_)
     obtain ⟨hE', hmv, hmr⟩ := Ep.rebase hE hI
     replace hB1 := El.keep hB1 (hmv _)
     replace hE_25 := El.keep hE_25 (hmv _)
     replace hE := hE'
     replace hI := hI.rebase
     clear hE' hmv hmr
     obtain ⟨hE', hmv⟩ := hE.bare
     replace hB1 := El.keep hB1 (hmv _)
     replace hE_25 := El.keep hE_25 (hmv _)
     replace hE := hE'
     replace hI := hI.reset rfl rfl rfl w_27
     clear hE' hmv
     obtain ⟨z_28, hz_29, H1⟩ := bind_some H1
     refine yield_ (S0 := S) hq hF hE hI rfl rfl rfl (wanted_none rfl) rfl rfl rfl hJ ((rd y1 s1.1), (IntKind.i64.wrap (s2.1 - s1.1))) (svL []) rfl hz_29 trivial (s_ [e_ 35 (.bool true), e_ 34 (.int .i64 (IntKind.i64.wrap (s2.1 - s1.1))), e_ 31 (.int .i64 (rd y1 s1.1)), e_ 27 (.func (.yield l) #[] #[]), e_ 4 (.int .i64 s2.1), e_ 0 (.func (.yield l) #[] #[]), e_ 1 (.pointer (some B1))] []) (s_ [e_ 35 (.bool false), e_ 34 (.int .i64 (IntKind.i64.wrap (s2.1 - s1.1))), e_ 31 (.int .i64 (rd y1 s1.1)), e_ 27 (.func (.yield l) #[] #[]), e_ 4 (.int .i64 s2.1), e_ 0 (.func (.yield l) #[] #[]), e_ 1 (.pointer (some B1))] []) (by kernel_rfl) (by kernel_rfl) (fun S s_30 a w hzz hJ' hE' hI' hmv => ?_) (fun r_31 a w hzz hJ' hE' hI' => ?_)
     ·subst hzz
      replace hB1 := El.lo (El.keep hB1 hmv)
      replace hE_25 := El.lo (El.keep hE_25 hmv)
      replace hE := hE'
      replace hI := hI'
      replace hJ := hJ'
      clear hE' hI' hJ' hmv
      replace H1 : (some (.next (s2.1, s_30)) : Option (Stp (Int × σt) (Ex (Int × σt) (Stp σt R)))) = _ := H1
      refine ck0_ hF 1 hI (s_ [e_ 36 (.bool false), e_ 4 (.int .i64 s2.1), e_ 0 (.func (.yield l) #[] #[]), e_ 1 (.pointer (some B1))] []) rfl (by kernel_rfl) (fun ns_32 a w_33 hI => ?_)
      refine wpListIn_nil ?_
      refine then_normal ?_
      refine cond_ hI false rfl (fun h => by cases h) (fun _ => ?_)
      refine wpIn_skip ?_
      refine then_normal ?_
      refine rgn0_ hF hI [3, 0, 1] [e_ 3 (.int .i64 s2.1)] [] (by kernel_rfl) (fun ns_34 a w_35 hI => ?_)
      refine inBlock_normal ?_
      refine then_normal ?_
      obtain ⟨hE', hmv, hmr⟩ := Ep.rebase hE hI
      replace hB1 := El.keep hB1 (hmv _)
      replace hE_25 := El.keep hE_25 (hmv _)
      replace hE := hE'
      replace hI := hI.rebase
      clear hE' hmv hmr
      have hJ' := hq.new _ _ (Tc (Lo S w w_35 ns_34 []) w_35) _ _ hJ (hE.below hI) Tc.new
      obtain rfl := Option.some.inj H1
      exact ⟨_, rfl, ⟨_, El.keep hB1 (Tc.mv _ _), hJ', (hI.pick [3, 0, 1] 0 (s_ [e_ 3 (.int .i64 s2.1), e_ 0 (.func (.yield l) #[] #[]), e_ 1 (.pointer (some B1))] []) (by kernel_rfl)).reset rfl rfl rfl _⟩⟩
     ·subst hzz
      replace hE := hE'
      replace hI := hI'
      replace hJ := hJ'
      clear hE' hI' hJ'
      replace H1 : (some (.out (.ret (.out r_31))) : Option (Stp (Int × σt) (Ex (Int × σt) (Stp σt R)))) = _ := H1
      refine ck0_ hF 1 hI (s_ [e_ 36 (.bool true), e_ 4 (.int .i64 s2.1), e_ 0 (.func (.yield l) #[] #[]), e_ 1 (.pointer (some B1))] []) rfl (by kernel_rfl) (fun ns_36 a w_37 hI => ?_)
      refine wpListIn_nil ?_
      refine then_normal ?_
      refine cond_ hI true rfl (fun _ => ?_) (fun h => by cases h)
      refine wpIn_ret ?_
      refine then_ret ?_
      refine inBlock_ret ?_
      refine then_ret ?_
      obtain rfl := Option.some.inj H1
      refine .inr ⟨_, rfl, fun ho => ?_⟩
      subst ho
      refine inBlock_ret ?_
      obtain rfl := Option.some.inj H0
      exact retG hI rfl rfl ⟨⟨_, rfl⟩, SeqPost.fin (hq.stop _ _ _ hJ (hE.below hI))⟩
   ·replace H1 := bif_f hc_5 H1
    refine wpIn_exit ?_
    refine then_exit ?_
    refine then_exit ?_
    obtain ⟨hE', hmv, hmr⟩ := Ep.rebase hE hI
    replace hB1 := El.keep hB1 (hmv _)
    replace hE := hE'
    replace hI := hI.rebase
    clear hE' hmv hmr
    have hJ' := hq.new _ _ (Tc (Lo S w w_4 ns_3 []) w_4) _ _ hJ (hE.below hI) Tc.new
    obtain rfl := Option.some.inj H1
    exact .inl ⟨_, rfl, rfl, ⟨_, El.keep hB1 (Tc.mv _ _), hJ', (hI.pick [3, 0, 1] 0 (s_ [e_ 3 (.int .i64 s1.1), e_ 0 (.func (.yield l) #[] #[]), e_ 1 (.pointer (some B1))] []) (by kernel_rfl)).reset rfl rfl rfl _⟩⟩
  ·clear hI hE hJ hJ'
   rintro s1 a w ho ⟨S, hB1, hJ, hI⟩
   subst ho
   replace H0 : (some (.next s1.2) : Option (Stp σt R)) = _ := H0
   have hE := Ep.start w
   replace hB1 := El.lo hB1
   obtain rfl := Option.some.inj H0
   exact retN (retG hI rfl rfl ⟨⟨_, rfl⟩, SeqPost.nxt (fun _ => False) (hq.new _ _ _ _ _ hJ (hE.below hI) (fun _ h => h.elim))⟩)

noncomputable def G_strings_Builder_copyCheck (x0 : Strings_Builder) : Option (Strings_Builder) := some { x0 with addr := true }
theorem G_strings_Builder_copyCheck.calls (x0 : Strings_Builder) (B0 : Nat) (F0 : List Nat) (w : World) {S0_ : Nat → Prop} (ho0 : Ojt lk_Strings_Builder S0_ w B0 x0 F0) (hms : ∀ b, S0_ b → b ∉ ([F0] : List (List Nat)).flatten) (hmd : ([F0] : List (List Nat)).flatten.Nodup) (hml : ∀ b ∈ ([F0] : List (List Nat)).flatten, b < w.heap.size) (r : Strings_Builder) (h : G_strings_Builder_copyCheck x0 = some r) :
    Calls Tryd.prog 24 #[.pointer (some ⟨B0, 0, none⟩)] w fun e w' => ∃ q : SV × (Nat → List Nat), e = .returned (.tuple #[]) ∧ Keeps (([F0] : List (List Nat)).flatten) w w' ∧ Handed w w' (([F0] : List (List Nat)).flatten) [q.2 0] ∧ Ojt lk_Strings_Builder (fun b => b ∉ ([q.2 0] : List (List Nat)).flatten ∧ (w.heap.size ≤ b ∨ S0_ b ∨ b ∈ ([F0] : List (List Nat)).flatten)) w' B0 r (q.2 0) := by
  unfold G_strings_Builder_copyCheck at h
  obtain rfl := Option.some.inj h
  have hoo := ho0
  obtain ⟨sv, F', hF, hob, hlv⟩ := ho0.ex
  subst hF
  have hbk : w.heap[B0]? = some (.cells #[.pointer (sv 0).1, .slice (sv 1).1 (sv 2).2 (sv 1).2] 45 (0, 0)) := hob.blk
  obtain ⟨hF2, ha, hrow, _⟩ := hlv
  have hmB : B0 ∈ ([B0 :: F'] : List (List Nat)).flatten := by simp
  have hnB : ∀ b ∈ F', b ≠ B0 := fun b hb he => by simp at hmd; exact hmd.1 (he ▸ hb)
  have hmv : ∀ w', (∀ b ∈ ([B0 :: F'] : List (List Nat)).flatten, b ∉ F' → b = B0) → (∀ b, b < w.heap.size → b ≠ B0 → w'.heap[b]? = w.heap[b]?) → Mv S0_ w (fun b => b ∉ ([B0 :: F'] : List (List Nat)).flatten ∧ (w.heap.size ≤ b ∨ S0_ b ∨ b ∈ ([B0 :: F'] : List (List Nat)).flatten)) w' := fun w' _ hh b hb hi =>
    ⟨⟨hms b hb, .inr (.inl hb)⟩, hh b hi.1 (fun he => hms b hb (he ▸ hmB))⟩
  have hF3 : ∀ b ∈ ([B0 :: F'] : List (List Nat)).flatten, b ∉ F' → b = B0 := fun b hb hn => by simp at hb; rcases hb with h | h; exact h; exact absurd h hn
  cases hx : x0.addr with
  | true =>
    have ha : (sv 0).1 = some ⟨B0, 0, none⟩ := by rw [ha, hx]; rfl
    refine (Tryd.copyCheck_used B0 w (by unfold World.cell?; simp [hbk, ha])).mono ?_
    rintro e w' ⟨rfl, rfl⟩
    have hxe : { x0 with addr := true } = x0 := by cases x0; simp only at hx; subst hx; rfl
    rw [hxe]
    exact ⟨(svL [], fun _ => B0 :: F'), rfl, Keeps.refl _ _, ⟨fun b hb => ⟨.inr hb, hml b hb⟩, hmd⟩, ho0.keep (hmv _ hF3 fun _ _ _ => rfl) (fun _ _ => rfl)⟩
  | false =>
    have ha : (sv 0).1 = none := by rw [ha, hx]; rfl
    refine (Tryd.copyCheck_fresh B0 w (by unfold World.cell?; simp [hbk, ha]) (by simp [World.shape?, hbk]) (by simp [World.frozen?, hbk])).mono ?_
    rintro e w' ⟨rfl, rfl⟩
    have hk := Keeps.setCell (Keeps.refl (([B0 :: F'] : List (List Nat)).flatten) w) ⟨B0, 0, none⟩ (.pointer (some ⟨B0, 0, none⟩)) (.inl hmB)
    have hot : ∀ b, b ≠ B0 → (w.setCell ⟨B0, 0, none⟩ (.pointer (some ⟨B0, 0, none⟩))).heap[b]? = w.heap[b]? := fun b hb => Below.heap_setCell _ _ _ _ hb
    have hnew : (w.setCell ⟨B0, 0, none⟩ (.pointer (some ⟨B0, 0, none⟩))).heap[B0]? = some (.cells #[.pointer (some ⟨B0, 0, none⟩), .slice (sv 1).1 (sv 2).2 (sv 1).2] 45 (0, 0)) := by
      simp [World.setCell, Array.getElem?_modify, hbk]
    have hm := hmv _ hF3 fun b _ hb => hot b hb
    refine ⟨(svL [], fun _ => B0 :: F'), rfl, hk, ⟨fun b hb => ⟨.inr hb, Nat.lt_of_lt_of_le (hml b hb) hk.size⟩, hmd⟩, ?_⟩
    show Ojt lk_Strings_Builder _ _ B0 _ (B0 :: F')
    exact Ojt.mk' (k := lk_Strings_Builder) (svU sv 0 (some ⟨B0, 0, none⟩, 0)) ⟨trivial, hnew⟩ ⟨hF2, rfl, fun hon => ⟨(hrow hon).1.keep hm (fun c hc => hot c (hnB c (by rw [hF2, hon]; simp; exact hc))), (hrow hon).2⟩, trivial⟩

noncomputable def G_strings_Builder_WriteByte (x0 : Strings_Builder) (a1 : Int) : Option (Fn46 × Strings_Builder) := ((G_strings_Builder_copyCheck x0).bind fun t_5 => (req t_5.buf_on (req (decide ((t_5.buf.length + ([a1] : List Int).length) * 1 ≤ 140737488355328)) (some (Fn46.nil, (⟨t_5.addr, (t_5.buf ++ ([a1] : List Int)), true⟩ : Strings_Builder))))))
theorem G_strings_Builder_WriteByte.calls (x0 : Strings_Builder) (a1 : Int) (B0 : Nat) (F0 : List Nat) (w : World) {S0_ : Nat → Prop} (ho0 : Ojt lk_Strings_Builder S0_ w B0 x0 F0) (hms : ∀ b, S0_ b → b ∉ ([F0] : List (List Nat)).flatten) (hmd : ([F0] : List (List Nat)).flatten.Nodup) (hml : ∀ b ∈ ([F0] : List (List Nat)).flatten, b < w.heap.size) (r : Fn46 × Strings_Builder) (h : G_strings_Builder_WriteByte x0 a1 = some r) :
    Calls Tryd.prog 16 #[.pointer (some ⟨B0, 0, none⟩), .int .u8 a1] w fun e w' => ∃ q : SV × (Nat → List Nat), e = .returned (fnv46 r.1 q.1) ∧ Keeps (([F0] : List (List Nat)).flatten) w w' ∧ Handed w w' (([F0] : List (List Nat)).flatten) [q.2 0] ∧ (kdF46).cont (fun b => b ∉ ([q.2 0] : List (List Nat)).flatten ∧ (w.heap.size ≤ b ∨ S0_ b ∨ b ∈ ([F0] : List (List Nat)).flatten)) w' r.1 q.1 ∧ Ojt lk_Strings_Builder (fun b => b ∉ ([q.2 0] : List (List Nat)).flatten ∧ (w.heap.size ≤ b ∨ S0_ b ∨ b ∈ ([F0] : List (List Nat)).flatten)) w' B0 r.2 (q.2 0) := by
  obtain ⟨S, hSd⟩ : ∃ S : Nat → Prop, S = fun b => S0_ b ∨ b ∈ (([F0] : List (List Nat)).flatten : List Nat) := ⟨_, rfl⟩
  replace ho0 := Ojt.keep ho0 (Mv.startP w hSd hms) (fun _ _ => rfl)
  unfold G_strings_Builder_WriteByte at h
  have H0 := h
  clear h
  refine enter Tryd.func16 rfl [.pointer (some ⟨B0, 0, none⟩), .int .u8 a1] (n := 17) rfl (Nat.le_of_ble_eq_true rfl) (fun a hI => ?_)
  have hF : FOpen Fence.wide := .inl rfl
  have hE := Ep.startM w [F0] hmd hml
  refine sr0_ hF hI (s_ [e_ 4 (.nilIface), e_ 0 (.pointer (some ⟨B0, 0, none⟩)), e_ 1 (.int .u8 a1)] []) (by kernel_rfl) (fun ns_1 a w_2 hI => ?_)
  refine wpIn_seq ?_
  refine wpIn_region_lit ?_
  refine ckn0_ hF 1 hI [5, 4, 0, 1] [e_ 5 (.pointer (some ⟨B0, 0, none⟩))] [] rfl (by kernel_rfl) (fun ns_3 a w_4 hI => ?_)
  obtain ⟨hE', hmv, hmr⟩ := Ep.rebase hE hI
  replace ho0 := Ojt.keep ho0 (hmv _) (fun b hb => hmr b (flat_mem (by simp) hb))
  replace hE := hE'
  replace hI := hI.rebase
  clear hE' hmv hmr
  obtain ⟨t_5, hG_6, H0⟩ := bind_some H0
  have hbs_8 := hE.k.size
  refine callO_ hF hE hI (wanted_none rfl) rfl (args := [.pointer (some ⟨B0, 0, none⟩)]) rfl (enters Tryd.func24 (by kernel_rfl) rfl) (fun q_7 : SV × (Nat → List Nat) => .tuple #[]) [0] (fun q_7 => [q_7.2 0]) _ (G_strings_Builder_copyCheck.calls x0 B0 F0 w_4 (S0_ := Lo S w w_4 ns_3 [F0]) ho0 (Lo.pick [0]) (hE.pick [0] (by decide)) (hE.pickLt [0]) _ hG_6) (.inl rfl) (fun q_7 => (s_ [e_ 6 (.tuple #[]), e_ 5 (.pointer (some ⟨B0, 0, none⟩)), e_ 4 (.nilIface), e_ 0 (.pointer (some ⟨B0, 0, none⟩)), e_ 1 (.int .u8 a1)] [])) (fun q_7 => by kernel_rfl) (fun q_7 a w_9 hput hE' hI' hmv hmr hres hR => ?_)
  replace hmv : ∀ S0, Mv (Lo S0 w w_4 ns_3 [F0]) w_4 (Lo S0 w w_9 ns_3 [(q_7.2 0)]) w_9 := hmv
  replace hmr : ∀ b ∈ ([] : List (List Nat)).flatten, w_9.heap[b]? = w_4.heap[b]? := hmr
  replace hE : Ep ([F0] : List (List Nat)).flatten w w_9 ns_3 [(q_7.2 0)] := hE'
  replace hI := hI'
  clear hE' hI'
  clear hmv hmr
  have ho0 := hR
  replace ho0 := Ojt.keep ho0 (hres _ (fun b hb => by rw [hSd]; exact .inr hb)) (fun _ _ => rfl)
  clear hres
  refine ckn0_ hF 0 hI [4, 0, 1] [] [] rfl (by kernel_rfl) (fun ns_10 a w_11 hI => ?_)
  refine wpListIn_nil ?_
  refine then_normal ?_
  obtain ⟨hE', hmv, hmr⟩ := Ep.rebase hE hI
  replace ho0 := Ojt.keep ho0 (hmv _) (fun b hb => hmr b (flat_mem (by simp) hb))
  replace hE := hE'
  replace hI := hI.rebase
  clear hE' hmv hmr
  obtain ⟨svo_12, F_13, hF_14, ho0, hl_15⟩ := ho0.ex
  obtain ⟨hF_18, hc_16, hc_17, _⟩ := hl_15
  obtain ⟨hE', hmv⟩ := Ep.parts hE 0 [[B0], ([] : List Nat), (bif t_5.buf_on then rb (svo_12 1).1 else [])] (by show (q_7.2 0) = _; rw [hF_14, hF_18]; rfl)
  replace hE : Ep ([F0] : List (List Nat)).flatten w w_11 ns_10 [[B0], ([] : List Nat), (bif t_5.buf_on then rb (svo_12 1).1 else [])] := hE'
  replace hmv : ∀ S0, Mv (Lo S0 w w_11 ns_10 [(q_7.2 0)]) w_11 (Lo S0 w w_11 ns_10 [[B0], ([] : List Nat), (bif t_5.buf_on then rb (svo_12 1).1 else [])]) w_11 := hmv
  have hmr : ∀ b ∈ ([[B0], ([] : List Nat), (bif t_5.buf_on then rb (svo_12 1).1 else [])] : List (List Nat)).flatten, w_11.heap[b]? = w_11.heap[b]? := fun _ _ => rfl
  replace ho0 := Ob1.keep ho0 (hmv _) (hmr _ (by simp))
  replace hc_17 := fun (hon : t_5.buf_on = true) => And.intro (Row.keep (hc_17 hon).1 (hmv _) (fun b hb => hmr b (flat_mem (r := (bif t_5.buf_on then rb (svo_12 1).1 else [])) (by simp) (by rw [hon]; exact hb)))) (hc_17 hon).2
  clear hE' hmv hmr
  obtain ⟨hon_23, H0⟩ := req_some H0
  obtain ⟨hc_17, hc_17l⟩ := hc_17 hon_23
  obtain ⟨hE', hmv⟩ := Ep.eqv (mine' := [[B0], ([] : List Nat), rb (svo_12 1).1]) hE (by rw [hon_23]; rfl)
  have hmr : ∀ b ∈ ([[B0], ([] : List Nat), rb (svo_12 1).1] : List (List Nat)).flatten, w_11.heap[b]? = w_11.heap[b]? := fun _ _ => rfl
  replace ho0 := Ob1.keep ho0 (hmv _) (hmr _ (by simp))
  replace hc_17 := Row.keep hc_17 (hmv _) (fun b hb => hmr b (by simp [hb]))
  replace hE := hE'
  clear hE' hmv hmr
  refine wpIn_seq ?_
  refine wpIn_region_lit ?_
  refine ckn_ (orc := [[.slice ((svo_12 1).1) t_5.buf.length ((svo_12 1).2)]]) hF 6 hI [12, 11, 7, 4] [e_ 12 (.int .u8 a1), e_ 11 (.slice ((svo_12 1).1) t_5.buf.length ((svo_12 1).2)), e_ 7 (.pointer (some ⟨B0, 0, none⟩))] [] [.cell true ((⟨B0, 0, none⟩ : Addr).add 1) [.slice ((svo_12 1).1) t_5.buf.length ((svo_12 1).2)]] rfl (by kernel_rfl) ⟨ob_o1 ho0 hE (by simp) true 1 [.slice ((svo_12 1).1) t_5.buf.length ((svo_12 1).2)] (by rw [hc_17l]; rfl), trivial⟩ (fun ns_25 a w_26 hI => ?_)
  obtain ⟨hE', hmv, hmr⟩ := Ep.rebase hE hI
  replace ho0 := Ob1.keep ho0 (hmv _) (hmr _ (by simp))
  replace hc_17 := Row.keep hc_17 (hmv _) (fun b hb => hmr b (by simp [hb]))
  replace hE := hE'
  replace hI := hI.rebase
  clear hE' hmv hmr
  refine buildSlice_ (S0 := S) (d := (Kd.int .u8)) (e := 5) hF hE hI (wanted_none rfl) rfl (by kernel_rfl) (cs := [.int .u8 a1]) (by kernel_rfl) [a1] [(svL [])] rfl rfl (by simp [maxLen]) (fun i x hi => by cases i with | zero => (simp only [List.getElem?_cons_zero, Option.some.injEq] at hi; subst hi; exact ⟨trivial, rfl⟩) | succ i => (simp only [List.getElem?_cons_succ] at hi; simp at hi)) (fun A_27 => (s_ [e_ 13 (.slice A_27 ([a1] : List Int).length (([a1] : List Int).length)), e_ 12 (.int .u8 a1), e_ 11 (.slice ((svo_12 1).1) t_5.buf.length ((svo_12 1).2)), e_ 7 (.pointer (some ⟨B0, 0, none⟩)), e_ 4 (.nilIface)] [])) (fun A_27 => by kernel_rfl) (fun A_27 a w_29 hput hE' hI' hmv hmr hq_28 => ?_)
  replace ho0 := Ob1.keep ho0 (hmv _) (hmr _ (by simp) (by simp))
  replace hc_17 := Row.keep hc_17 (hmv _) (fun b hb => hmr b (by simp [hb]) (by simp))
  replace hE := hE'
  replace hI := hI'
  clear hE' hI' hmv hmr
  obtain ⟨hE', hmv, hq_28, hcap_30⟩ := Row.stillP (l1 := [[B0], ([] : List Nat), rb (svo_12 1).1]) (l2 := []) hq_28 (fun b hb => by rw [hSd]; exact .inr hb) hE
  have hmr : ∀ b ∈ ([[B0], ([] : List Nat), rb (svo_12 1).1, rb A_27] : List (List Nat)).flatten, w_29.heap[b]? = w_29.heap[b]? := fun _ _ => rfl
  replace ho0 := Ob1.keep ho0 (hmv _) (hmr _ (by simp))
  replace hc_17 := Row.keep hc_17 (hmv _) (fun b hb => hmr b (by simp [hb]))
  replace hE := hE'
  clear hE' hmv hmr
  obtain ⟨hN_31, H0⟩ := req_some H0
  replace hN_31 := of_decide_eq_true hN_31
  refine appendN_ (S0 := S) (l1 := [[B0], ([] : List Nat)]) (l2 := []) (d := (Kd.int .u8)) (e := 5) hF hE hI (wanted_none rfl) rfl (A := ((svo_12 1).1)) (c := ((svo_12 1).2)) (l := t_5.buf) rfl (A2 := A_27) (c2 := (([a1] : List Int).length)) (ys := ([a1] : List Int)) rfl hc_17 (Nat.zero_le _) hq_28 (fun y sv u hu => by exact kd_one_int _ sv u hu) Tryd.underlying43 (zi := (.int .u8 0, 1, 1)) (by kernel_rfl) rfl (by kernel_rfl) (len_maxN (b := 1) (by decide) hN_31) hN_31 (fun A_32 c_33 => (s_ [e_ 14 (.slice A_32 (t_5.buf ++ ([a1] : List Int)).length c_33), e_ 13 (.slice A_27 ([a1] : List Int).length (([a1] : List Int).length)), e_ 12 (.int .u8 a1), e_ 11 (.slice ((svo_12 1).1) t_5.buf.length ((svo_12 1).2)), e_ 7 (.pointer (some ⟨B0, 0, none⟩)), e_ 4 (.nilIface)] [])) (fun A_32 c_33 => by kernel_rfl) (fun A_32 c_33 a w_34 hput hE' hI' hmv hmr hc_17 => ?_)
  replace ho0 := Ob1.keep ho0 (hmv _) (hmr _ (by simp) (Ep.ne hE (i := 2) (j := 0) (by decide) rfl rfl (List.mem_singleton.2 rfl)))
  replace hq_28 := Arr.keep hq_28 (hmv _)
  replace hE := hE'
  replace hI := hI'
  clear hE' hI' hmv hmr
  refine ckn0_ hF 2 hI [16, 14, 4] [e_ 16 (.pointer (some ((⟨B0, 0, none⟩ : Addr).add 1)))] [] rfl (by kernel_rfl) (fun ns_35 a w_36 hI => ?_)
  obtain ⟨hE', hmv, hmr⟩ := Ep.rebase hE hI
  replace ho0 := Ob1.keep ho0 (hmv _) (hmr _ (by simp))
  replace hq_28 := Arr.keep hq_28 (hmv _)
  replace hc_17 := Row.keep hc_17 (hmv _) (fun b hb => hmr b (by simp [hb]))
  replace hE := hE'
  replace hI := hI.rebase
  clear hE' hmv hmr
  refine storeO_ (S0 := S) (d := kd_Strings_Builder) (e := 45) (off := 1) hF hE hI (wanted_none rfl) rfl rfl (ad := ((⟨B0, 0, none⟩ : Addr).add 1)) rfl rfl rfl (vs := [.slice A_32 (t_5.buf ++ ([a1] : List Int)).length c_33]) rfl rfl rfl rfl (by simp) (Ob1.as (y := (⟨t_5.addr, t_5.buf, true⟩ : Strings_Builder)) ho0 rfl id) (⟨t_5.addr, (t_5.buf ++ ([a1] : List Int)), true⟩ : Strings_Builder) (svU (svU svo_12 1 (A_32, c_33)) 2 (none, (t_5.buf ++ ([a1] : List Int)).length)) rfl (fun h => trivial) (fun a w_37 hput hE' hI' hmv hmr ho0 => ?_)
  replace hq_28 := Arr.keep hq_28 (hmv _)
  replace hc_17 := Row.keep hc_17 (hmv _) (fun b hb => hmr b (by simp [hb]) (Ep.ne hE (i := 0) (j := 2) (by decide) rfl rfl hb))
  replace hE := hE'
  replace hI := hI'
  clear hE' hI' hmv hmr
  refine ck0_ hF 0 hI (s_ [e_ 4 (.nilIface)] []) rfl (by kernel_rfl) (fun ns_38 a w_39 hI => ?_)
  refine wpListIn_nil ?_
  refine then_normal ?_
  refine srn0_ hF hI [4] [] [] (by kernel_rfl) (fun ns_40 a w_41 hI => ?_)
  obtain ⟨hE', hmv, hmr⟩ := Ep.rebase hE hI
  replace hq_28 := Arr.keep hq_28 (hmv _)
  replace hc_17 := Row.keep hc_17 (hmv _) (fun b hb => hmr b (by simp [hb]))
  replace ho0 := Ob1.keep ho0 (hmv _) (hmr _ (by simp))
  replace hE := hE'
  replace hI := hI.rebase
  clear hE' hmv hmr
  have ho_42 : Ojt lk_Strings_Builder (Lo S w w_41 ns_40 [[B0], ([] : List Nat), rb A_32]) w_41 B0 (⟨t_5.addr, (t_5.buf ++ ([a1] : List Int)), true⟩ : Strings_Builder) (B0 :: (([] : List Nat) ++ (rb A_32 ++ ([])))) := Ojt.mk' (k := lk_Strings_Builder) (svU (svU svo_12 1 (A_32, c_33)) 2 (none, (t_5.buf ++ ([a1] : List Int)).length)) (Ob1.as ho0 rfl id) ⟨rfl, hc_16, fun _ => ⟨Row.down hc_17, rfl⟩, trivial⟩
  obtain ⟨hE', hmv⟩ := Ep.group hE [0, 1, 2] (by decide) (B0 :: (([] : List Nat) ++ (rb A_32 ++ ([])))) rfl
  replace hE : Ep ([F0] : List (List Nat)).flatten w w_41 ns_40 [(B0 :: (([] : List Nat) ++ (rb A_32 ++ ([]))))] := hE'
  replace hmv : ∀ S0, Mv (Lo S0 w w_41 ns_40 [[B0], ([] : List Nat), rb A_32]) w_41 (Lo S0 w w_41 ns_40 [(B0 :: (([] : List Nat) ++ (rb A_32 ++ ([]))))]) w_41 := hmv
  have hmr : ∀ b ∈ ([(B0 :: (([] : List Nat) ++ (rb A_32 ++ ([]))))] : List (List Nat)).flatten, w_41.heap[b]? = w_41.heap[b]? := fun _ _ => rfl
  replace hq_28 := Arr.keep hq_28 (hmv _)
  replace ho_42 := Ojt.keep ho_42 (hmv _) (fun b hb => hmr b (flat_mem (by simp) hb))
  clear hE' hmv hmr
  refine wpIn_ret ?_
  obtain rfl := Option.some.inj H0
  subst hSd
  exact ret1 hI rfl rfl ⟨(svL [], fun i => ([(B0 :: (([] : List Nat) ++ (rb A_32 ++ ([]))))] : List (List Nat)).getD i []), rfl, hE.keeps hI, hE.handed [0] (by decide), trivial, Ojt.keep ho_42 (hE.outO [0] _) (fun _ _ => rfl)⟩

noncomputable def G_strconv_Itoa_18 (a0 : Int) : Option (ByteArray) := if -9223372036854775808 ≤ a0 ∧ a0 ≤ 9223372036854775807 then some ⟨(Lib.itoa a0).toArray⟩ else none
theorem G_strconv_Itoa_18.calls (a0 : Int) (w : World) {S : Nat → Prop} (hg1 : El (kdG 1 gv1) S w ⟨1, 0, none⟩ () (svL [])) (r : ByteArray) (h : G_strconv_Itoa_18 a0 = some r) :
    Calls Tryd.prog 18 #[.int .i64 a0] w fun e w' => e = .returned (.string r) ∧ Below w.heap.size w w' := by
  unfold G_strconv_Itoa_18 at h
  split at h
  · rename_i hb
    obtain rfl := Option.some.inj h
    have htab : Lib.TabIs Tryd.prog w "internal/strconv.uint64pow10" .u64 Lib.pow10Tab := (kdG_var hg1 (by kernel_rfl)).trans (by kernel_rfl)
    refine (Tryd.strconv_Itoa a0 hb.1 hb.2 w htab).mono fun e w' ⟨h1, k, os, h2⟩ => ⟨h1, ?_⟩
    subst h2
    exact Lib.below_grow _ w (Nat.le_refl _) k os
  · cases h

noncomputable def G_strings_Builder_WriteString (x0 : Strings_Builder) (a1 : ByteArray) : Option (Int × Fn46 × Strings_Builder) := ((G_strings_Builder_copyCheck x0).bind fun t_5 => (req t_5.buf_on (req (decide (t_5.buf.length + (bytesI a1).length ≤ 140737488355328)) (some ((a1.size : Int), Fn46.nil, (⟨t_5.addr, (t_5.buf ++ bytesI a1), true⟩ : Strings_Builder))))))
theorem G_strings_Builder_WriteString.calls (x0 : Strings_Builder) (a1 : ByteArray) (B0 : Nat) (F0 : List Nat) (w : World) {S0_ : Nat → Prop} (ho0 : Ojt lk_Strings_Builder S0_ w B0 x0 F0) (hms : ∀ b, S0_ b → b ∉ ([F0] : List (List Nat)).flatten) (hmd : ([F0] : List (List Nat)).flatten.Nodup) (hml : ∀ b ∈ ([F0] : List (List Nat)).flatten, b < w.heap.size) (r : Int × Fn46 × Strings_Builder) (h : G_strings_Builder_WriteString x0 a1 = some r) :
    Calls Tryd.prog 17 #[.pointer (some ⟨B0, 0, none⟩), .string a1] w fun e w' => ∃ q : SV × (Nat → List Nat), e = .returned (.tuple #[.int .i64 r.1, fnv46 r.2.1 q.1]) ∧ Keeps (([F0] : List (List Nat)).flatten) w w' ∧ Handed w w' (([F0] : List (List Nat)).flatten) [q.2 0] ∧ (kdF46).cont (fun b => b ∉ ([q.2 0] : List (List Nat)).flatten ∧ (w.heap.size ≤ b ∨ S0_ b ∨ b ∈ ([F0] : List (List Nat)).flatten)) w' r.2.1 q.1 ∧ Ojt lk_Strings_Builder (fun b => b ∉ ([q.2 0] : List (List Nat)).flatten ∧ (w.heap.size ≤ b ∨ S0_ b ∨ b ∈ ([F0] : List (List Nat)).flatten)) w' B0 r.2.2 (q.2 0) := by
  obtain ⟨S, hSd⟩ : ∃ S : Nat → Prop, S = fun b => S0_ b ∨ b ∈ (([F0] : List (List Nat)).flatten : List Nat) := ⟨_, rfl⟩
  replace ho0 := Ojt.keep ho0 (Mv.startP w hSd hms) (fun _ _ => rfl)
  unfold G_strings_Builder_WriteString at h
  have H0 := h
  clear h
  refine enter Tryd.func17 rfl [.pointer (some ⟨B0, 0, none⟩), .string a1] (n := 19) rfl (Nat.le_of_ble_eq_true rfl) (fun a hI => ?_)
  have hF : FOpen Fence.wide := .inl rfl
  have hE := Ep.startM w [F0] hmd hml
  refine sr0_ hF hI (s_ [e_ 5 (.nilIface), e_ 4 (.int .i64 0), e_ 0 (.pointer (some ⟨B0, 0, none⟩)), e_ 1 (.string a1)] []) (by kernel_rfl) (fun ns_1 a w_2 hI => ?_)
  refine wpIn_seq ?_
  refine wpIn_region_lit ?_
  refine ckn0_ hF 1 hI [6, 5, 4, 0, 1] [e_ 6 (.pointer (some ⟨B0, 0, none⟩))] [] rfl (by kernel_rfl) (fun ns_3 a w_4 hI => ?_)
  obtain ⟨hE', hmv, hmr⟩ := Ep.rebase hE hI
  replace ho0 := Ojt.keep ho0 (hmv _) (fun b hb => hmr b (flat_mem (by simp) hb))
  replace hE := hE'
  replace hI := hI.rebase
  clear hE' hmv hmr
  obtain ⟨t_5, hG_6, H0⟩ := bind_some H0
  have hbs_8 := hE.k.size
  refine callO_ hF hE hI (wanted_none rfl) rfl (args := [.pointer (some ⟨B0, 0, none⟩)]) rfl (enters Tryd.func24 (by kernel_rfl) rfl) (fun q_7 : SV × (Nat → List Nat) => .tuple #[]) [0] (fun q_7 => [q_7.2 0]) _ (G_strings_Builder_copyCheck.calls x0 B0 F0 w_4 (S0_ := Lo S w w_4 ns_3 [F0]) ho0 (Lo.pick [0]) (hE.pick [0] (by decide)) (hE.pickLt [0]) _ hG_6) (.inl rfl) (fun q_7 => (s_ [e_ 7 (.tuple #[]), e_ 6 (.pointer (some ⟨B0, 0, none⟩)), e_ 5 (.nilIface), e_ 4 (.int .i64 0), e_ 0 (.pointer (some ⟨B0, 0, none⟩)), e_ 1 (.string a1)] [])) (fun q_7 => by kernel_rfl) (fun q_7 a w_9 hput hE' hI' hmv hmr hres hR => ?_)
  replace hmv : ∀ S0, Mv (Lo S0 w w_4 ns_3 [F0]) w_4 (Lo S0 w w_9 ns_3 [(q_7.2 0)]) w_9 := hmv
  replace hmr : ∀ b ∈ ([] : List (List Nat)).flatten, w_9.heap[b]? = w_4.heap[b]? := hmr
  replace hE : Ep ([F0] : List (List Nat)).flatten w w_9 ns_3 [(q_7.2 0)] := hE'
  replace hI := hI'
  clear hE' hI'
  clear hmv hmr
  have ho0 := hR
  replace ho0 := Ojt.keep ho0 (hres _ (fun b hb => by rw [hSd]; exact .inr hb)) (fun _ _ => rfl)
  clear hres
  refine ckn0_ hF 0 hI [5, 4, 0, 1] [] [] rfl (by kernel_rfl) (fun ns_10 a w_11 hI => ?_)
  refine wpListIn_nil ?_
  refine then_normal ?_
  obtain ⟨hE', hmv, hmr⟩ := Ep.rebase hE hI
  replace ho0 := Ojt.keep ho0 (hmv _) (fun b hb => hmr b (flat_mem (by simp) hb))
  replace hE := hE'
  replace hI := hI.rebase
  clear hE' hmv hmr
  obtain ⟨svo_12, F_13, hF_14, ho0, hl_15⟩ := ho0.ex
  obtain ⟨hF_18, hc_16, hc_17, _⟩ := hl_15
  obtain ⟨hE', hmv⟩ := Ep.parts hE 0 [[B0], ([] : List Nat), (bif t_5.buf_on then rb (svo_12 1).1 else [])] (by show (q_7.2 0) = _; rw [hF_14, hF_18]; rfl)
  replace hE : Ep ([F0] : List (List Nat)).flatten w w_11 ns_10 [[B0], ([] : List Nat), (bif t_5.buf_on then rb (svo_12 1).1 else [])] := hE'
  replace hmv : ∀ S0, Mv (Lo S0 w w_11 ns_10 [(q_7.2 0)]) w_11 (Lo S0 w w_11 ns_10 [[B0], ([] : List Nat), (bif t_5.buf_on then rb (svo_12 1).1 else [])]) w_11 := hmv
  have hmr : ∀ b ∈ ([[B0], ([] : List Nat), (bif t_5.buf_on then rb (svo_12 1).1 else [])] : List (List Nat)).flatten, w_11.heap[b]? = w_11.heap[b]? := fun _ _ => rfl
  replace ho0 := Ob1.keep ho0 (hmv _) (hmr _ (by simp))
  replace hc_17 := fun (hon : t_5.buf_on = true) => And.intro (Row.keep (hc_17 hon).1 (hmv _) (fun b hb => hmr b (flat_mem (r := (bif t_5.buf_on then rb (svo_12 1).1 else [])) (by simp) (by rw [hon]; exact hb)))) (hc_17 hon).2
  clear hE' hmv hmr
  obtain ⟨hon_23, H0⟩ := req_some H0
  obtain ⟨hc_17, hc_17l⟩ := hc_17 hon_23
  obtain ⟨hE', hmv⟩ := Ep.eqv (mine' := [[B0], ([] : List Nat), rb (svo_12 1).1]) hE (by rw [hon_23]; rfl)
  have hmr : ∀ b ∈ ([[B0], ([] : List Nat), rb (svo_12 1).1] : List (List Nat)).flatten, w_11.heap[b]? = w_11.heap[b]? := fun _ _ => rfl
  replace ho0 := Ob1.keep ho0 (hmv _) (hmr _ (by simp))
  replace hc_17 := Row.keep hc_17 (hmv _) (fun b hb => hmr b (by simp [hb]))
  replace hE := hE'
  clear hE' hmv hmr
  refine wpIn_seq ?_
  refine wpIn_region_lit ?_
  refine ckn_ (orc := [[.slice ((svo_12 1).1) t_5.buf.length ((svo_12 1).2)]]) hF 6 hI [13, 12, 8, 5, 4, 1] [e_ 13 (.string a1), e_ 12 (.slice ((svo_12 1).1) t_5.buf.length ((svo_12 1).2)), e_ 8 (.pointer (some ⟨B0, 0, none⟩))] [] [.cell true ((⟨B0, 0, none⟩ : Addr).add 1) [.slice ((svo_12 1).1) t_5.buf.length ((svo_12 1).2)]] rfl (by kernel_rfl) ⟨ob_o1 ho0 hE (by simp) true 1 [.slice ((svo_12 1).1) t_5.buf.length ((svo_12 1).2)] (by rw [hc_17l]; rfl), trivial⟩ (fun ns_25 a w_26 hI => ?_)
  obtain ⟨hE', hmv, hmr⟩ := Ep.rebase hE hI
  replace ho0 := Ob1.keep ho0 (hmv _) (hmr _ (by simp))
  replace hc_17 := Row.keep hc_17 (hmv _) (fun b hb => hmr b (by simp [hb]))
  replace hE := hE'
  replace hI := hI.rebase
  clear hE' hmv hmr
  obtain ⟨hN_27, H0⟩ := req_some H0
  replace hN_27 := of_decide_eq_true hN_27
  refine appendS_ (S0 := S) (l1 := [[B0], ([] : List Nat)]) (l2 := []) (e := 5) hF hE hI (wanted_none rfl) rfl (A := ((svo_12 1).1)) (c := ((svo_12 1).2)) (l := t_5.buf) rfl (y := a1) rfl hc_17 (Nat.zero_le _) Tryd.underlying43 Tryd.underlying9 (by kernel_rfl) hN_27 (fun A_28 c_29 => (s_ [e_ 14 (.slice A_28 (t_5.buf ++ bytesI a1).length c_29), e_ 13 (.string a1), e_ 12 (.slice ((svo_12 1).1) t_5.buf.length ((svo_12 1).2)), e_ 8 (.pointer (some ⟨B0, 0, none⟩)), e_ 5 (.nilIface), e_ 4 (.int .i64 0), e_ 1 (.string a1)] [])) (fun A_28 c_29 => by kernel_rfl) (fun A_28 c_29 a w_30 hput hE' hI' hmv hmr hc_17 => ?_)
  replace ho0 := Ob1.keep ho0 (hmv _) (hmr _ (by simp) (Ep.ne hE (i := 2) (j := 0) (by decide) rfl rfl (List.mem_singleton.2 rfl)))
  replace hE := hE'
  replace hI := hI'
  clear hE' hI' hmv hmr
  refine ckn0_ hF 2 hI [16, 14, 5, 4, 1] [e_ 16 (.pointer (some ((⟨B0, 0, none⟩ : Addr).add 1)))] [] rfl (by kernel_rfl) (fun ns_31 a w_32 hI => ?_)
  obtain ⟨hE', hmv, hmr⟩ := Ep.rebase hE hI
  replace ho0 := Ob1.keep ho0 (hmv _) (hmr _ (by simp))
  replace hc_17 := Row.keep hc_17 (hmv _) (fun b hb => hmr b (by simp [hb]))
  replace hE := hE'
  replace hI := hI.rebase
  clear hE' hmv hmr
  refine storeO_ (S0 := S) (d := kd_Strings_Builder) (e := 45) (off := 1) hF hE hI (wanted_none rfl) rfl rfl (ad := ((⟨B0, 0, none⟩ : Addr).add 1)) rfl rfl rfl (vs := [.slice A_28 (t_5.buf ++ bytesI a1).length c_29]) rfl rfl rfl rfl (by simp) (Ob1.as (y := (⟨t_5.addr, t_5.buf, true⟩ : Strings_Builder)) ho0 rfl id) (⟨t_5.addr, (t_5.buf ++ bytesI a1), true⟩ : Strings_Builder) (svU (svU svo_12 1 (A_28, c_29)) 2 (none, (t_5.buf ++ bytesI a1).length)) rfl (fun h => trivial) (fun a w_33 hput hE' hI' hmv hmr ho0 => ?_)
  replace hc_17 := Row.keep hc_17 (hmv _) (fun b hb => hmr b (by simp [hb]) (Ep.ne hE (i := 0) (j := 2) (by decide) rfl rfl hb))
  replace hE := hE'
  replace hI := hI'
  clear hE' hI' hmv hmr
  refine ck0_ hF 0 hI (s_ [e_ 5 (.nilIface), e_ 4 (.int .i64 0), e_ 1 (.string a1)] []) rfl (by kernel_rfl) (fun ns_34 a w_35 hI => ?_)
  refine wpListIn_nil ?_
  refine then_normal ?_
  refine srn0_ hF hI [5, 4] [e_ 4 (.int .i64 (a1.size : Int))] [] (by kernel_rfl) (fun ns_36 a w_37 hI => ?_)
  obtain ⟨hE', hmv, hmr⟩ := Ep.rebase hE hI
  replace hc_17 := Row.keep hc_17 (hmv _) (fun b hb => hmr b (by simp [hb]))
  replace ho0 := Ob1.keep ho0 (hmv _) (hmr _ (by simp))
  replace hE := hE'
  replace hI := hI.rebase
  clear hE' hmv hmr
  have ho_38 : Ojt lk_Strings_Builder (Lo S w w_37 ns_36 [[B0], ([] : List Nat), rb A_28]) w_37 B0 (⟨t_5.addr, (t_5.buf ++ bytesI a1), true⟩ : Strings_Builder) (B0 :: (([] : List Nat) ++ (rb A_28 ++ ([])))) := Ojt.mk' (k := lk_Strings_Builder) (svU (svU svo_12 1 (A_28, c_29)) 2 (none, (t_5.buf ++ bytesI a1).length)) (Ob1.as ho0 rfl id) ⟨rfl, hc_16, fun _ => ⟨Row.down hc_17, rfl⟩, trivial⟩
  obtain ⟨hE', hmv⟩ := Ep.group hE [0, 1, 2] (by decide) (B0 :: (([] : List Nat) ++ (rb A_28 ++ ([])))) rfl
  replace hE : Ep ([F0] : List (List Nat)).flatten w w_37 ns_36 [(B0 :: (([] : List Nat) ++ (rb A_28 ++ ([]))))] := hE'
  replace hmv : ∀ S0, Mv (Lo S0 w w_37 ns_36 [[B0], ([] : List Nat), rb A_28]) w_37 (Lo S0 w w_37 ns_36 [(B0 :: (([] : List Nat) ++ (rb A_28 ++ ([]))))]) w_37 := hmv
  have hmr : ∀ b ∈ ([(B0 :: (([] : List Nat) ++ (rb A_28 ++ ([]))))] : List (List Nat)).flatten, w_37.heap[b]? = w_37.heap[b]? := fun _ _ => rfl
  replace ho_38 := Ojt.keep ho_38 (hmv _) (fun b hb => hmr b (flat_mem (by simp) hb))
  clear hE' hmv hmr
  refine wpIn_ret ?_
  obtain rfl := Option.some.inj H0
  subst hSd
  exact ret2 hI rfl rfl rfl ⟨(svL [], fun i => ([(B0 :: (([] : List Nat) ++ (rb A_28 ++ ([]))))] : List (List Nat)).getD i []), rfl, hE.keeps hI, hE.handed [0] (by decide), trivial, Ojt.keep ho_38 (hE.outO [0] _) (fun _ _ => rfl)⟩

noncomputable def G_strings_Builder_String (x0 : Strings_Builder) : Option (ByteArray × Strings_Builder) := req x0.buf_on (some (bytesOf x0.buf, { x0 with buf_on := false }))
theorem G_strings_Builder_String.calls (x0 : Strings_Builder) (B0 : Nat) (F0 : List Nat) (w : World) {S0_ : Nat → Prop} (ho0 : Ojt lk_Strings_Builder S0_ w B0 x0 F0) (hms : ∀ b, S0_ b → b ∉ ([F0] : List (List Nat)).flatten) (hmd : ([F0] : List (List Nat)).flatten.Nodup) (hml : ∀ b ∈ ([F0] : List (List Nat)).flatten, b < w.heap.size) (r : ByteArray × Strings_Builder) (h : G_strings_Builder_String x0 = some r) :
    Calls Tryd.prog 19 #[.pointer (some ⟨B0, 0, none⟩)] w fun e w' => ∃ q : SV × (Nat → List Nat), e = .returned (.string r.1) ∧ Keeps (([F0] : List (List Nat)).flatten) w w' ∧ Handed w w' (([F0] : List (List Nat)).flatten) [q.2 0] ∧ Ojt lk_Strings_Builder (fun b => b ∉ ([q.2 0] : List (List Nat)).flatten ∧ (w.heap.size ≤ b ∨ S0_ b ∨ b ∈ ([F0] : List (List Nat)).flatten)) w' B0 r.2 (q.2 0) := by
  unfold G_strings_Builder_String at h
  obtain ⟨hon, h⟩ := req_some h
  obtain rfl := Option.some.inj h
  obtain ⟨sv, F', hF, hob, hlv⟩ := ho0.ex
  have hbk : w.heap[B0]? = some (.cells #[.pointer (sv 0).1, .slice (sv 1).1 (sv 2).2 (sv 1).2] 45 (0, 0)) := hob.blk
  obtain ⟨hF2, ha, hrow, _⟩ := hlv
  obtain ⟨hr, hl⟩ := hrow hon
  have hF4 : F' = rb (sv 1).1 := by rw [hF2, hon]; simp
  have hmB : B0 ∈ ([F0] : List (List Nat)).flatten := by rw [hF]; simp
  have hnB : B0 ∉ rb (sv 1).1 := fun he => by rw [hF, hF4] at hmd; simp at hmd; exact hmd.1 he
  rw [← hl] at hbk
  refine (Tryd.bldString B0 _ _ _ x0.buf w hbk hr).mono ?_
  rintro e w' ⟨rfl, hk⟩
  have hk2 : Keeps (([F0] : List (List Nat)).flatten) w w' := ⟨hk.os, hk.tape, hk.output, hk.size, fun b hb hn => hk.block b hb (fun he => hn (by rw [hF, hF4]; simp; exact .inr he))⟩
  have hB := (Array.getElem?_eq_some_iff.1 hbk).1
  refine ⟨(svL [], fun _ => [B0]), rfl, hk2, ⟨fun b hb => ?_, by simp⟩, ?_⟩
  · simp only [List.flatten_cons, List.flatten_nil, List.append_nil, List.mem_singleton] at hb
    subst hb
    exact ⟨.inr hmB, Nat.lt_of_lt_of_le hB hk.size⟩
  · show Ojt lk_Strings_Builder _ w' B0 _ [B0]
    exact Ojt.mk' (k := lk_Strings_Builder) sv ⟨trivial, by rw [hk.block B0 hB hnB]; exact hob.blk⟩ ⟨rfl, ha, (fun hh => by cases hh), trivial⟩

noncomputable def G_pack_Print.r1 (l0 : (List Int)) (t_12 : (List Int)) (s1 : ByteArray × Bool × Strings_Builder) (y_40 : Int × Int) : Option (Stp (ByteArray × Bool × Strings_Builder) (Nat × (ByteArray × Bool × Strings_Builder))) := (bif (decide (y_40.1 < 0) || decide (y_40.1 ≥ 3)) then some (.out (0, ((⟨#[]⟩ : ByteArray), false, s1.2.2))) else (req (inb y_40.1 (⟨#[97, 98, 116]⟩ : ByteArray).size) ((G_strings_Builder_WriteByte s1.2.2 (rdB (⟨#[97, 98, 116]⟩ : ByteArray) y_40.1)).bind fun t_58 => (bif decide (y_40.2 > 1) then ((G_strconv_Itoa_18 y_40.2).bind fun t_69 => ((G_strings_Builder_WriteString t_58.2 t_69).bind fun t_73 => some (.next (s1.1, s1.2.1, t_73.2.2)))) else some (.next (s1.1, s1.2.1, t_58.2))))))
noncomputable def G_pack_Print (l0 : (List Int)) : Option (ByteArray × Bool) := (bif decide ((l0.length : Int) > 4096) then some ((⟨#[]⟩ : ByteArray), false) else ((G_pack_Runs l0).bind fun t_12 => ((G_pack_Runs_1 (G_pack_Print.r1 l0 t_12) (ByteArray.empty, false, (⟨false, ([] : List Int), true⟩ : Strings_Builder)) t_12).bind fun z => z.on (fun s1 => ((G_strings_Builder_String s1.2.2).bind fun t_82 => some (t_82.1, true))) (fun r1 => some (r1.2.1, r1.2.2.1)))))
theorem G_pack_Print.calls (l0 : (List Int)) (A0 : Option Addr) (c0 : Nat) (w : World) {S : Nat → Prop} (hr0 : Arr (Kd.int .i64) S w A0 l0) (hc0 : l0.length ≤ c0) (hg1 : El (kdG 1 gv1) S w ⟨1, 0, none⟩ () (svL [])) (r : ByteArray × Bool) (h : G_pack_Print l0 = some r) :
    Calls Tryd.prog 9 #[.slice A0 l0.length c0] w fun e w' => e = .returned (.tuple #[.string r.1, .bool r.2]) ∧ Below w.heap.size w w' := by
  replace hr0 := Arr.lo hr0
  replace hg1 := El.lo hg1
  unfold G_pack_Print at h
  have H0 := h
  clear h
  refine enterM Tryd.func9 rfl [.slice A0 l0.length c0] (n := 29) rfl (Nat.le_of_ble_eq_true rfl) (fun a hI => ?_)
  have hF : FOpen Fence.wide := .inl rfl
  have hE := Ep.start w
  refine sr0_ hF hI ⟨[p_ 3 1 0, p_ 2 0 0, e_ 0 (.slice A0 l0.length c0)], [], [], [([.v (.string ByteArray.empty)], 9), ([.v (.bool false)], 4)], some (w.heap.size, none), none⟩ (by kernel_rfl) (fun ns_1 a w_2 hI => ?_)
  refine wpIn_seq ?_
  refine srn0_ hF hI [9, 3, 2, 0] [e_ 9 (.bool (decide ((l0.length : Int) > 4096)))] [] (by kernel_rfl) (fun ns_3 a w_4 hI => ?_)
  refine cond_ hI (decide ((l0.length : Int) > 4096)) rfl (fun hc_5 => ?_) (fun hc_5 => ?_)
  ·replace H0 := bif_t hc_5 H0
   refine srn0_ hF hI [3, 2] [] [(0, ([.v (.string (⟨#[]⟩ : ByteArray))], 9))] (by kernel_rfl) (fun ns_6 a w_7 hI => ?_)
   refine wpIn_ret ?_
   refine then_ret ?_
   obtain rfl := Option.some.inj H0
   exact retM hI rfl rfl rfl (fun wz hz => ⟨rfl, (hE.below hI).trans hz.below⟩)
  ·replace H0 := bif_f hc_5 H0
   refine wpIn_skip ?_
   refine then_normal ?_
   refine srn0_ hF hI [4, 3, 2, 0] [p_ 4 2 0] [(2, ([.v (.pointer none), .v (.slice none 0 0)], 45))] (by kernel_rfl) (fun ns_8 a w_9 hI => ?_)
   refine wpIn_seq ?_
   refine wpIn_seq ?_
   refine wpIn_region_lit ?_
   refine ckn0_ hF 1 hI [10, 4, 3, 2] [e_ 10 (.slice A0 l0.length c0)] [] rfl (by kernel_rfl) (fun ns_10 a w_11 hI => ?_)
   obtain ⟨hE', hmv, hmr⟩ := Ep.rebase hE hI
   replace hr0 := Arr.keep hr0 (hmv _)
   replace hg1 := El.keep hg1 (hmv _)
   replace hE := hE'
   replace hI := hI.rebase
   clear hE' hmv hmr
   obtain ⟨t_12, hG_13, H0⟩ := bind_some H0
   refine callH_ hF hE hI (wanted_none rfl) rfl (args := [.slice A0 l0.length c0]) rfl (enters Tryd.func8 (by kernel_rfl) rfl) (fun sv_14 => .func (.func 15) #[] #[.pointer (some (adr (sv_14 0).1))]) _ (G_pack_Runs.calls l0 A0 c0 w_11 (S := Lo S w w_11 ns_10 []) hr0 hc0 _ hG_13) (fun sv_14 => ⟨[e_ 11 (.func (.func 15) #[] #[.pointer (some (adr (sv_14 0).1))]), e_ 10 (.slice A0 l0.length c0), p_ 4 2 0, p_ 3 1 0, p_ 2 0 0], [], [], [([.v (.string ByteArray.empty)], 9), ([.v (.bool false)], 4), ([.v (.pointer none), .v (.slice none 0 0)], 45)], some (w.heap.size, none), none⟩) (fun sv_14 => by kernel_rfl) (fun sv_14 a w_16 hput hE' hI' hmv hmr hres hR => ?_)
   replace hr0 := Arr.keep hr0 (hmv _)
   replace hg1 := El.keep hg1 (hmv _)
   replace hE := hE'
   replace hI := hI'
   clear hE' hI' hmv hmr
   have hR_15 := hR
   replace hR_15 := El.keep hR_15 (hres _)
   clear hres
   refine ckn0_ hF 0 hI [11, 4, 3, 2] [] [] rfl (by kernel_rfl) (fun ns_17 a w_18 hI => ?_)
   refine wpListIn_nil ?_
   refine then_normal ?_
   refine wpIn_block ?_
   obtain ⟨hE', hmv, hmr⟩ := Ep.rebase hE hI
   replace hr0 := Arr.keep hr0 (hmv _)
   replace hg1 := El.keep hg1 (hmv _)
   replace hR_15 := El.keep hR_15 (hmv _)
   replace hE := hE'
   replace hI := hI.rebase
   clear hE' hmv hmr
   obtain ⟨hE', hmv⟩ := Ep.addNil hE
   have hmr : ∀ b ∈ ([] : List (List Nat)).flatten, w_18.heap[b]? = w_18.heap[b]? := fun _ _ => rfl
   replace hr0 := Arr.keep hr0 (hmv _)
   replace hg1 := El.keep hg1 (hmv _)
   replace hR_15 := El.keep hR_15 (hmv _)
   replace hE := hE'
   clear hE' hmv hmr
   have hq_19 : Row (Kd.int .u8) 5 (Lo S w w_18 ns_17 [rb none]) w_18 w.heap.size none 0 ([] : List Int) := Row.nil
   have hct := contI (S := Lo S w w_18 ns_17 [rb none]) (w := w_18) (d := kd_Strings_Builder) (x := (⟨false, ([] : List Int), true⟩ : Strings_Builder)) (sv := (svL [(none, 0), (none, 0), (none, ([] : List Int).length)])) trivial
   obtain ⟨B_20, ns_21, hE', hI', hmv, hB_23, ho_22⟩ := publish_ (d := kd_Strings_Builder) hE hI 2 (⟨false, ([] : List Int), true⟩ : Strings_Builder) (svL [(none, 0), (none, 0), (none, ([] : List Int).length)]) 45 rfl
   replace ho_22 := ho_22 _ hct
   clear hct
   replace hE : Ep [] w w_18 ns_21 [rb none, [B_20]] := hE'
   have hmr : ∀ b ∈ ([rb none, [B_20]] : List (List Nat)).flatten, w_18.heap[b]? = w_18.heap[b]? := fun _ _ => rfl
   replace hr0 := Arr.keep hr0 (hmv _)
   replace hg1 := El.keep hg1 (hmv _)
   replace hR_15 := El.keep hR_15 (hmv _)
   replace hq_19 := Row.keep hq_19 (hmv _) (fun b hb => by simp [rb] at hb)
   replace hI := hI'
   clear hE' hI' hmv hmr
   obtain ⟨ns_25, hE', hI', hmv⟩ := hE.cut hI [11, 4, 3, 2] 2 ⟨[e_ 11 (.func (.func 15) #[] #[.pointer (some (adr (sv_14 0).1))]), e_ 4 (.pointer (some ⟨B_20, 0, none⟩)), p_ 3 1 0, p_ 2 0 0], [], [], [([.v (.string ByteArray.empty)], 9), ([.v (.bool false)], 4)], some (w.heap.size, none), none⟩ (by kernel_rfl)
   have hmr : ∀ b ∈ ([rb none, [B_20]] : List (List Nat)).flatten, w_18.heap[b]? = w_18.heap[b]? := fun _ _ => rfl
   replace hr0 := Arr.keep hr0 (hmv _)
   replace hg1 := El.keep hg1 (hmv _)
   replace hR_15 := El.keep hR_15 (hmv _)
   replace hq_19 := Row.keep hq_19 (hmv _) (fun b hb => by simp [rb] at hb)
   replace ho_22 := Ob1.keep ho_22 (hmv _) (hmr _ (by simp))
   replace hE := hE'
   replace hI := hI'
   clear hE' hI' hmv hmr
   have ho_26 : Ojt lk_Strings_Builder (Lo S w w_18 ns_25 [rb none, [B_20]]) w_18 B_20 (⟨false, ([] : List Int), true⟩ : Strings_Builder) (B_20 :: (([] : List Nat) ++ (rb none ++ ([])))) := Ojt.mk' (k := lk_Strings_Builder) (svL [(none, 0), (none, 0), (none, ([] : List Int).length)]) (Ob1.as ho_22 rfl id) ⟨rfl, rfl, fun _ => ⟨Row.down hq_19, rfl⟩, trivial⟩
   obtain ⟨hE', hmv⟩ := Ep.group hE [1, 0] (by decide) (B_20 :: (([] : List Nat) ++ (rb none ++ ([])))) rfl
   replace hE : Ep [] w w_18 ns_25 [(B_20 :: (([] : List Nat) ++ (rb none ++ ([]))))] := hE'
   replace hmv : ∀ S0, Mv (Lo S0 w w_18 ns_25 [rb none, [B_20]]) w_18 (Lo S0 w w_18 ns_25 [(B_20 :: (([] : List Nat) ++ (rb none ++ ([]))))]) w_18 := hmv
   have hmr : ∀ b ∈ ([(B_20 :: (([] : List Nat) ++ (rb none ++ ([]))))] : List (List Nat)).flatten, w_18.heap[b]? = w_18.heap[b]? := fun _ _ => rfl
   replace hr0 := Arr.keep hr0 (hmv _)
   replace hg1 := El.keep hg1 (hmv _)
   replace hR_15 := El.keep hR_15 (hmv _)
   replace ho_26 := Ojt.keep ho_26 (hmv _) (fun b hb => hmr b (flat_mem (by simp) hb))
   clear hE' hmv hmr
   obtain ⟨ns_28, hE', hI', hmv⟩ := hE.cut hI [11, 4, 3, 2] 2 ⟨[e_ 11 (.func (.func 15) #[] #[.pointer (some (adr (sv_14 0).1))]), e_ 4 (.pointer (some ⟨B_20, 0, none⟩)), p_ 3 1 0, p_ 2 0 0], [], [], [([.v (.string ByteArray.empty)], 9), ([.v (.bool false)], 4)], some (w.heap.size, none), none⟩ (by kernel_rfl)
   have hmr : ∀ b ∈ ([(B_20 :: (([] : List Nat) ++ (rb none ++ ([]))))] : List (List Nat)).flatten, w_18.heap[b]? = w_18.heap[b]? := fun _ _ => rfl
   replace hr0 := Arr.keep hr0 (hmv _)
   replace hg1 := El.keep hg1 (hmv _)
   replace hR_15 := El.keep hR_15 (hmv _)
   replace ho_26 := Ojt.keep ho_26 (hmv _) (fun b hb => hmr b (flat_mem (by simp) hb))
   replace hE := hE'
   replace hI := hI'
   clear hE' hI' hmv hmr
   obtain ⟨z_33, hz_34, H0⟩ := bind_some H0
   refine rangeFunc_ (ps := [12, 13]) hE hI rfl (Nat.le_refl _) (lb := [.pointer (some (adr (sv_14 0).1))]) rfl (enters Tryd.func15 (by kernel_rfl) rfl) (fun l_30 aR_31 w_32 haR_39 hE' hI' hmv hmr => ?_)
   replace hr0 := Arr.keep hr0 (hmv _)
   replace hg1 := El.keep hg1 (hmv _)
   replace hR_15 := El.keep hR_15 (hmv _)
   replace ho_26 := Ojt.keep ho_26 (hmv _) (fun b hb => hmr b (flat_mem (by simp) hb))
   replace hE := hE'
   replace hI := hI'
   clear hE' hI' hmv hmr
   refine ⟨ByteArray × Bool × Strings_Builder, Int × Int, Nat × (ByteArray × Bool × Strings_Builder), G_pack_Runs_1.enc, G_pack_Runs_1.fct, G_pack_Print.r1 l0 t_12, (fun (s1 : ByteArray × Bool × Strings_Builder) (T : Nat → Prop) (W : World) => ∃ (F_29 : List Nat), (Arr (Kd.int .i64) (Lo S w W ns_28 [F_29, [l_30]]) W A0 l0) ∧ (El (kdG 1 gv1) (Lo S w W ns_28 [F_29, [l_30]]) W ⟨1, 0, none⟩ () (svL [])) ∧ (El (Kd.slice (Kd.int .i64)) (Lo S w W ns_28 [F_29, [l_30]]) W (adr (sv_14 0).1) t_12 (svO sv_14 1)) ∧ (Ojt lk_Strings_Builder (Lo S w W ns_28 [F_29, [l_30]]) W B_20 s1.2.2 F_29) ∧ Ep [] w W ns_28 [F_29, [l_30]] ∧ Inv W ns_28 29 ⟨[e_ 11 (.func (.func 15) #[] #[.pointer (some (adr (sv_14 0).1))]), e_ 4 (.pointer (some ⟨B_20, 0, none⟩)), p_ 3 1 0, p_ 2 0 0], [], [], [([.v (.string s1.1)], 9), ([.v (.bool s1.2.1)], 4)], some (w.heap.size, none), none⟩ ns_28 aR_31 W ∧ Tk T W (Lo S w W ns_28 [F_29, [l_30]]) W), (fun (r : Nat × (ByteArray × Bool × Strings_Builder)) (W : World) => ∃ (F_29 : List Nat), (Arr (Kd.int .i64) (Lo S w W ns_28 [F_29, [l_30]]) W A0 l0) ∧ (El (kdG 1 gv1) (Lo S w W ns_28 [F_29, [l_30]]) W ⟨1, 0, none⟩ () (svL [])) ∧ (El (Kd.slice (Kd.int .i64)) (Lo S w W ns_28 [F_29, [l_30]]) W (adr (sv_14 0).1) t_12 (svO sv_14 1)) ∧ (Ojt lk_Strings_Builder (Lo S w W ns_28 [F_29, [l_30]]) W B_20 r.2.2.2 F_29) ∧ Ep [] w W ns_28 [F_29, [l_30]] ∧ Inv W ns_28 29 ⟨[e_ 11 (.func (.func 15) #[] #[.pointer (some (adr (sv_14 0).1))]), e_ 4 (.pointer (some ⟨B_20, 0, none⟩)), p_ 3 1 0, p_ 2 0 0], [], [], [([.v (.string r.2.1)], 9), ([.v (.bool r.2.2.1)], 4)], some (w.heap.size, none), none⟩ ns_28 aR_31 W), (fun r => .ret), (ByteArray.empty, false, (⟨false, ([] : List Int), true⟩ : Strings_Builder)), Tc (Lo S w w_32 ns_28 [(B_20 :: (([] : List Nat) ++ (rb none ++ ([])))), [l_30]]) w_32, z_33, fun _ _ => rfl, ?_, ?_, ?_, ?_, ?_, ?_, ?_⟩
   ·rintro s1 T T' A B row ⟨F_29, hr0, hg1, hR_15, ho_26, hE, hI, hT_35⟩ hg hrow hT'
    obtain ⟨hE', hI', hmv, hmr⟩ := hE.turn hI hg (by simp) hrow
    replace hr0 := Arr.keep hr0 (hmv _)
    replace hg1 := El.keep hg1 (hmv _)
    replace hR_15 := El.keep hR_15 (hmv _)
    replace ho_26 := Ojt.keep ho_26 (hmv _) (fun b hb => hmr b (flat_mem (by simp) hb) (Ep.ne hE (i := 1) (j := 0) (by decide) rfl rfl hb))
    exact ⟨F_29, hr0, hg1, hR_15, ho_26, hE', hI', hT_35.turn (hmv _) hE hT'⟩
   ·rintro r A B row ⟨F_29, hr0, hg1, hR_15, ho_26, hE, hI⟩ hg hrow
    obtain ⟨hE', hI', hmv, hmr⟩ := hE.turn hI hg (by simp) hrow
    replace hr0 := Arr.keep hr0 (hmv _)
    replace hg1 := El.keep hg1 (hmv _)
    replace hR_15 := El.keep hR_15 (hmv _)
    replace ho_26 := Ojt.keep ho_26 (hmv _) (fun b hb => hmr b (flat_mem (by simp) hb) (Ep.ne hE (i := 1) (j := 0) (by decide) rfl rfl hb))
    exact ⟨F_29, hr0, hg1, hR_15, ho_26, hE', hI'⟩
   ·intro J Jx hq hJ
    exact G_pack_Runs_1.calls _ _ t_12 (adr (sv_14 0).1) (svO sv_14 1) _ w_32 (S := Tc (Lo S w w_32 ns_28 [(B_20 :: (([] : List Nat) ++ (rb none ++ ([])))), [l_30]]) w_32) (El.keep hR_15 (Tc.mv _ _)) hq hJ _ hz_34
   ·exact ⟨(B_20 :: (([] : List Nat) ++ (rb none ++ ([])))), hr0, hg1, hR_15, ho_26, hE, hI, Tk.new _ _⟩
   ·rintro s1 y_40 sv_41 T_43 w_42 z hz ⟨F_29, hr0, hg1, hR_15, ho_26, hE, hO, hT_35⟩ hf_44 oo_37 ho_38 hl_36
    unfold G_pack_Print.r1 at hz
    have H1 := hz
    clear hz
    have hF : FOpen (Fence.wide.inRound l_30) := .inr ⟨l_30, rfl⟩
    have hI : Inv w_42 ns_28 29 ⟨[e_ 13 (.int .i64 y_40.2), e_ 12 (.int .i64 y_40.1), e_ 11 (.func (.func 15) #[] #[.pointer (some (adr (sv_14 0).1))]), e_ 4 (.pointer (some ⟨B_20, 0, none⟩)), p_ 3 1 0, p_ 2 0 0], [], [], [([.v (.string s1.1)], 9), ([.v (.bool s1.2.1)], 4)], some (w.heap.size, some aR_31.defers), some (2, ns_28)⟩ ns_28 _ w_42 := hO.round rfl rfl rfl [12, 13] (G_pack_Runs_1.enc y_40 sv_41) (by kernel_rfl) (by kernel_rfl) _ haR_39
    refine sr0_ hF hI ⟨[e_ 5 (.int .i64 y_40.1), e_ 13 (.int .i64 y_40.2), e_ 4 (.pointer (some ⟨B_20, 0, none⟩)), p_ 3 1 0, p_ 2 0 0], [], [], [([.v (.string s1.1)], 9), ([.v (.bool s1.2.1)], 4)], some (w.heap.size, some aR_31.defers), some (2, ns_28)⟩ (by kernel_rfl) (fun ns_45 a w_46 hI => ?_)
    refine rgn0_ hF hI [6, 5, 4, 3, 2] [e_ 6 (.int .i64 y_40.2)] [] (by kernel_rfl) (fun ns_47 a w_48 hI => ?_)
    refine then_normal ?_
    obtain ⟨hE', hmv, hmr⟩ := Ep.rebase hE hI
    replace hr0 := Arr.keep hr0 (hmv _)
    replace hg1 := El.keep hg1 (hmv _)
    replace hR_15 := El.keep hR_15 (hmv _)
    replace ho_26 := Ojt.keep ho_26 (hmv _) (fun b hb => hmr b (flat_mem (by simp) hb))
    replace hT_35 := Tk.keep hT_35 (hmv _)
    replace hl_36 := (hmr _ (by simp)).trans hl_36
    replace hE := hE'
    replace hI := hI.rebase
    clear hE' hmv hmr
    refine begin_ hE hI (by simp) hl_36 ho_38 (fun w_49 hE' hI' hmv hmr hl_36 => ?_)
    replace hr0 := Arr.keep hr0 (hmv _)
    replace hg1 := El.keep hg1 (hmv _)
    replace hR_15 := El.keep hR_15 (hmv _)
    replace ho_26 := Ojt.keep ho_26 (hmv _) (fun b hb => hmr b (flat_mem (by simp) hb) (Ep.ne hE (i := 1) (j := 0) (by decide) rfl rfl hb))
    replace hT_35 := Tk.keep hT_35 (hmv _)
    replace hE := hE'
    replace hI := hI'
    clear hE' hI' hmv hmr
    refine wpIn_block ?_
    refine wpIn_seq ?_
    refine srn0_ hF hI [19, 6, 5, 4, 3, 2] [e_ 19 (.bool (decide (y_40.1 < 0) || decide (y_40.1 ≥ 3)))] [] (by kernel_rfl) (fun ns_50 a w_51 hI => ?_)
    refine cond_ hI ((decide (y_40.1 < 0) || decide (y_40.1 ≥ 3))) rfl (fun hc_52 => ?_) (fun hc_52 => ?_)
    ·replace H1 := bif_t hc_52 H1
     refine srn0_ hF hI [3, 2] [] [(0, ([.v (.string (⟨#[]⟩ : ByteArray))], 9)), (1, ([.v (.bool false)], 4))] (by kernel_rfl) (fun ns_53 a w_54 hI => ?_)
     refine wpIn_ret ?_
     refine then_ret ?_
     refine inBlock_ret ?_
     obtain ⟨hE', hmv, hmr⟩ := Ep.rebase hE hI
     replace hr0 := Arr.keep hr0 (hmv _)
     replace hg1 := El.keep hg1 (hmv _)
     replace hR_15 := El.keep hR_15 (hmv _)
     replace ho_26 := Ojt.keep ho_26 (hmv _) (fun b hb => hmr b (flat_mem (by simp) hb))
     replace hT_35 := Tk.keep hT_35 (hmv _)
     replace hl_36 := (hmr _ (by simp)).trans hl_36
     replace hE := hE'
     replace hI := hI.rebase
     clear hE' hmv hmr
     obtain ⟨hE', hI', hmv⟩ := Ep.unround (bs := [([.v (.string (⟨#[]⟩ : ByteArray))], 9), ([.v (.bool false)], 4)]) hO hE hI rfl rfl rfl rfl rfl rfl (by kernel_rfl) rfl
     have hmr : ∀ b ∈ ([F_29, [l_30]] : List (List Nat)).flatten, w_54.heap[b]? = w_54.heap[b]? := fun _ _ => rfl
     replace hr0 := Arr.keep hr0 (hmv _)
     replace hg1 := El.keep hg1 (hmv _)
     replace hR_15 := El.keep hR_15 (hmv _)
     replace ho_26 := Ojt.keep ho_26 (hmv _) (fun b hb => hmr b (flat_mem (by simp) hb))
     replace hT_35 := Tk.keep hT_35 (hmv _)
     replace hl_36 := (hmr _ (by simp)).trans hl_36
     replace hE := hE'
     replace hI := hI'
     clear hE' hI' hmv hmr
     obtain rfl := Option.some.inj H1
     exact RndQ.rt hl_36 rfl rfl ⟨_, hr0, hg1, hR_15, ho_26, hE, hI⟩
    ·replace H1 := bif_f hc_52 H1
     refine wpIn_skip ?_
     refine then_normal ?_
     refine wpIn_seq ?_
     refine wpIn_region_lit ?_
     obtain ⟨hN_55, H1⟩ := req_some H1
     refine ckn_ (orc := [[.int .u8 (rdB (⟨#[97, 98, 116]⟩ : ByteArray) y_40.1)]]) hF 2 hI [21, 6, 4, 3, 2] [e_ 21 (.int .u8 (rdB (⟨#[97, 98, 116]⟩ : ByteArray) y_40.1))] [] [.run true (vS (Instr.index 9 (.string (⟨#[97, 98, 116]⟩ : ByteArray)) (.int .i64 y_40.1))) (.int .u8 (rdB (⟨#[97, 98, 116]⟩ : ByteArray) y_40.1))] rfl (by kernel_rfl) ⟨(fun hg wz hk => vS_run (index_run Tryd.underlying9 _ _ hN_55 wz)), trivial⟩ (fun ns_56 a w_57 hI => ?_)
     obtain ⟨hE', hmv, hmr⟩ := Ep.rebase hE hI
     replace hr0 := Arr.keep hr0 (hmv _)
     replace hg1 := El.keep hg1 (hmv _)
     replace hR_15 := El.keep hR_15 (hmv _)
     replace ho_26 := Ojt.keep ho_26 (hmv _) (fun b hb => hmr b (flat_mem (by simp) hb))
     replace hT_35 := Tk.keep hT_35 (hmv _)
     replace hl_36 := (hmr _ (by simp)).trans hl_36
     replace hE := hE'
     replace hI := hI.rebase
     clear hE' hmv hmr
     obtain ⟨t_58, hG_59, H1⟩ := bind_some H1
     have hbs_61 := hE.k.size
     refine callO_ hF hE hI (wanted_none rfl) rfl (args := [.pointer (some ⟨B_20, 0, none⟩), .int .u8 (rdB (⟨#[97, 98, 116]⟩ : ByteArray) y_40.1)]) rfl (enters Tryd.func16 (by kernel_rfl) rfl) (fun q_60 : SV × (Nat → List Nat) => fnv46 t_58.1 q_60.1) [0] (fun q_60 => [q_60.2 0]) _ (G_strings_Builder_WriteByte.calls s1.2.2 (rdB (⟨#[97, 98, 116]⟩ : ByteArray) y_40.1) B_20 F_29 w_57 (S0_ := Lo S w w_57 ns_56 [F_29, [l_30]]) ho_26 (Lo.pick [0]) (hE.pick [0] (by decide)) (hE.pickLt [0]) _ hG_59) (.inr (fun b hb => (ho_26.nd b (by simpa using hb)).2)) (fun q_60 => ⟨[e_ 22 (fnv46 t_58.1 q_60.1), e_ 21 (.int .u8 (rdB (⟨#[97, 98, 116]⟩ : ByteArray) y_40.1)), e_ 6 (.int .i64 y_40.2), e_ 4 (.pointer (some ⟨B_20, 0, none⟩)), p_ 3 1 0, p_ 2 0 0], [], [], [([.v (.string s1.1)], 9), ([.v (.bool s1.2.1)], 4)], some (w.heap.size, some aR_31.defers), some (2, ns_28)⟩) (fun q_60 => by kernel_rfl) (fun q_60 a w_63 hput hE' hI' hmv hmr hres hR => ?_)
     replace hmv : ∀ S0, Mv (Lo S0 w w_57 ns_56 [F_29, [l_30]]) w_57 (Lo S0 w w_63 ns_56 [[l_30], (q_60.2 0)]) w_63 := hmv
     replace hmr : ∀ b ∈ ([[l_30]] : List (List Nat)).flatten, w_63.heap[b]? = w_57.heap[b]? := hmr
     replace hE : Ep [] w w_63 ns_56 [[l_30], (q_60.2 0)] := hE'
     replace hI := hI'
     clear hE' hI'
     replace hr0 := Arr.keep hr0 (hmv _)
     replace hg1 := El.keep hg1 (hmv _)
     replace hR_15 := El.keep hR_15 (hmv _)
     replace hT_35 := Tk.keep hT_35 (hmv _)
     replace hl_36 := (hmr _ (by simp)).trans hl_36
     clear hmv hmr
     obtain ⟨hR_62, ho_26⟩ := hR
     replace ho_26 := Ojt.keep ho_26 (hres _ (fun b hb => by simp at hb)) (fun _ _ => rfl)
     replace hR_62 := Kd.keep _ hR_62 (hres _ (fun b hb => by simp at hb))
     clear hres
     refine ckn0_ hF 0 hI [6, 4, 3, 2] [] [] rfl (by kernel_rfl) (fun ns_64 a w_65 hI => ?_)
     refine wpListIn_nil ?_
     refine then_normal ?_
     refine srn0_ hF hI [24, 6, 4, 3, 2] [e_ 24 (.bool (decide (y_40.2 > 1)))] [] (by kernel_rfl) (fun ns_66 a w_67 hI => ?_)
     refine cond_ hI (decide (y_40.2 > 1)) rfl (fun hc_68 => ?_) (fun hc_68 => ?_)
     ·replace H1 := bif_t hc_68 H1
      refine wpIn_region_lit ?_
      obtain ⟨t_69, hG_70, H1⟩ := bind_some H1
      refine ckn_ (orc := [[.string t_69]]) hF 2 hI [26, 4, 3, 2] [e_ 26 (.string t_69)] [] [.call true 18 [.int .i64 y_40.2] (.string t_69)] rfl (by kernel_rfl) ⟨ob_call (enters Tryd.func18 (by kernel_rfl) rfl) (fun hg wz hk => G_strconv_Itoa_18.calls y_40.2  wz (S := fun _ => True) (El.any (El.keep hg1 (Lo.on hk))) _ hG_70), trivial⟩ (fun ns_71 a w_72 hI => ?_)
      obtain ⟨hE', hmv, hmr⟩ := Ep.rebase hE hI
      replace hr0 := Arr.keep hr0 (hmv _)
      replace hg1 := El.keep hg1 (hmv _)
      replace hR_15 := El.keep hR_15 (hmv _)
      replace hT_35 := Tk.keep hT_35 (hmv _)
      replace hl_36 := (hmr _ (by simp)).trans hl_36
      replace ho_26 := Ojt.keep ho_26 (hmv _) (fun b hb => hmr b (flat_mem (by simp) hb))
      replace hR_62 := Kd.keep _ hR_62 (hmv _)
      replace hE := hE'
      replace hI := hI.rebase
      clear hE' hmv hmr
      obtain ⟨t_73, hG_74, H1⟩ := bind_some H1
      have hbs_76 := hE.k.size
      refine callO_ hF hE hI (wanted_none rfl) rfl (args := [.pointer (some ⟨B_20, 0, none⟩), .string t_69]) rfl (enters Tryd.func17 (by kernel_rfl) rfl) (fun q_75 : SV × (Nat → List Nat) => .tuple #[.int .i64 t_73.1, fnv46 t_73.2.1 q_75.1]) [1] (fun q_75 => [q_75.2 0]) _ (G_strings_Builder_WriteString.calls t_58.2 t_69 B_20 (q_60.2 0) w_72 (S0_ := Lo S w w_72 ns_71 [[l_30], (q_60.2 0)]) ho_26 (Lo.pick [1]) (hE.pick [1] (by decide)) (hE.pickLt [1]) _ hG_74) (.inr (fun b hb => (ho_26.nd b (by simpa using hb)).2)) (fun q_75 => ⟨[e_ 27 (.tuple #[.int .i64 t_73.1, fnv46 t_73.2.1 q_75.1]), e_ 26 (.string t_69), e_ 4 (.pointer (some ⟨B_20, 0, none⟩)), p_ 3 1 0, p_ 2 0 0], [], [], [([.v (.string s1.1)], 9), ([.v (.bool s1.2.1)], 4)], some (w.heap.size, some aR_31.defers), some (2, ns_28)⟩) (fun q_75 => by kernel_rfl) (fun q_75 a w_78 hput hE' hI' hmv hmr hres hR => ?_)
      replace hmv : ∀ S0, Mv (Lo S0 w w_72 ns_71 [[l_30], (q_60.2 0)]) w_72 (Lo S0 w w_78 ns_71 [[l_30], (q_75.2 0)]) w_78 := hmv
      replace hmr : ∀ b ∈ ([[l_30]] : List (List Nat)).flatten, w_78.heap[b]? = w_72.heap[b]? := hmr
      replace hE : Ep [] w w_78 ns_71 [[l_30], (q_75.2 0)] := hE'
      replace hI := hI'
      clear hE' hI'
      replace hr0 := Arr.keep hr0 (hmv _)
      replace hg1 := El.keep hg1 (hmv _)
      replace hR_15 := El.keep hR_15 (hmv _)
      replace hT_35 := Tk.keep hT_35 (hmv _)
      replace hl_36 := (hmr _ (by simp)).trans hl_36
      replace hR_62 := Kd.keep _ hR_62 (hmv _)
      clear hmv hmr
      obtain ⟨hR_77, ho_26⟩ := hR
      replace ho_26 := Ojt.keep ho_26 (hres _ (fun b hb => by simp at hb)) (fun _ _ => rfl)
      replace hR_77 := Kd.keep _ hR_77 (hres _ (fun b hb => by simp at hb))
      clear hres
      refine ckn0_ hF 0 hI [4, 3, 2] [] [] rfl (by kernel_rfl) (fun ns_79 a w_80 hI => ?_)
      refine wpListIn_nil ?_
      refine inBlock_normal ?_
      obtain ⟨hE', hmv, hmr⟩ := Ep.rebase hE hI
      replace hr0 := Arr.keep hr0 (hmv _)
      replace hg1 := El.keep hg1 (hmv _)
      replace hR_15 := El.keep hR_15 (hmv _)
      replace hT_35 := Tk.keep hT_35 (hmv _)
      replace hl_36 := (hmr _ (by simp)).trans hl_36
      replace hR_62 := Kd.keep _ hR_62 (hmv _)
      replace ho_26 := Ojt.keep ho_26 (hmv _) (fun b hb => hmr b (flat_mem (by simp) hb))
      replace hR_77 := Kd.keep _ hR_77 (hmv _)
      replace hE := hE'
      replace hI := hI.rebase
      clear hE' hmv hmr
      obtain ⟨hE', hmv⟩ := Ep.reord hE [1, 0] (by kernel_rfl)
      replace hE : Ep [] w w_80 ns_79 [(q_75.2 0), [l_30]] := hE'
      replace hmv : ∀ S0, Mv (Lo S0 w w_80 ns_79 [[l_30], (q_75.2 0)]) w_80 (Lo S0 w w_80 ns_79 [(q_75.2 0), [l_30]]) w_80 := hmv
      have hmr : ∀ b ∈ ([(q_75.2 0), [l_30]] : List (List Nat)).flatten, w_80.heap[b]? = w_80.heap[b]? := fun _ _ => rfl
      replace hr0 := Arr.keep hr0 (hmv _)
      replace hg1 := El.keep hg1 (hmv _)
      replace hR_15 := El.keep hR_15 (hmv _)
      replace hT_35 := Tk.keep hT_35 (hmv _)
      replace hl_36 := (hmr _ (by simp)).trans hl_36
      replace hR_62 := Kd.keep _ hR_62 (hmv _)
      replace ho_26 := Ojt.keep ho_26 (hmv _) (fun b hb => hmr b (flat_mem (by simp) hb))
      replace hR_77 := Kd.keep _ hR_77 (hmv _)
      clear hE' hmv hmr
      obtain ⟨hE', hI', hmv⟩ := Ep.unround (bs := [([.v (.string s1.1)], 9), ([.v (.bool s1.2.1)], 4)]) hO hE hI rfl rfl rfl rfl rfl rfl (by kernel_rfl) rfl
      have hmr : ∀ b ∈ ([(q_75.2 0), [l_30]] : List (List Nat)).flatten, w_80.heap[b]? = w_80.heap[b]? := fun _ _ => rfl
      replace hr0 := Arr.keep hr0 (hmv _)
      replace hg1 := El.keep hg1 (hmv _)
      replace hR_15 := El.keep hR_15 (hmv _)
      replace hT_35 := Tk.keep hT_35 (hmv _)
      replace hl_36 := (hmr _ (by simp)).trans hl_36
      replace hR_62 := Kd.keep _ hR_62 (hmv _)
      replace ho_26 := Ojt.keep ho_26 (hmv _) (fun b hb => hmr b (flat_mem (by simp) hb))
      replace hR_77 := Kd.keep _ hR_77 (hmv _)
      replace hE := hE'
      replace hI := hI'
      clear hE' hI' hmv hmr
      obtain rfl := Option.some.inj H1
      exact RndQ.nrm hl_36 rfl ⟨_, hr0, hg1, hR_15, ho_26, hE, hI, hT_35.re⟩ hT_35.same
     ·replace H1 := bif_f hc_68 H1
      refine wpIn_skip ?_
      refine inBlock_normal ?_
      obtain ⟨hE', hmv, hmr⟩ := Ep.rebase hE hI
      replace hr0 := Arr.keep hr0 (hmv _)
      replace hg1 := El.keep hg1 (hmv _)
      replace hR_15 := El.keep hR_15 (hmv _)
      replace hT_35 := Tk.keep hT_35 (hmv _)
      replace hl_36 := (hmr _ (by simp)).trans hl_36
      replace ho_26 := Ojt.keep ho_26 (hmv _) (fun b hb => hmr b (flat_mem (by simp) hb))
      replace hR_62 := Kd.keep _ hR_62 (hmv _)
      replace hE := hE'
      replace hI := hI.rebase
      clear hE' hmv hmr
      obtain ⟨hE', hmv⟩ := Ep.reord hE [1, 0] (by kernel_rfl)
      replace hE : Ep [] w w_67 ns_66 [(q_60.2 0), [l_30]] := hE'
      replace hmv : ∀ S0, Mv (Lo S0 w w_67 ns_66 [[l_30], (q_60.2 0)]) w_67 (Lo S0 w w_67 ns_66 [(q_60.2 0), [l_30]]) w_67 := hmv
      have hmr : ∀ b ∈ ([(q_60.2 0), [l_30]] : List (List Nat)).flatten, w_67.heap[b]? = w_67.heap[b]? := fun _ _ => rfl
      replace hr0 := Arr.keep hr0 (hmv _)
      replace hg1 := El.keep hg1 (hmv _)
      replace hR_15 := El.keep hR_15 (hmv _)
      replace hT_35 := Tk.keep hT_35 (hmv _)
      replace hl_36 := (hmr _ (by simp)).trans hl_36
      replace ho_26 := Ojt.keep ho_26 (hmv _) (fun b hb => hmr b (flat_mem (by simp) hb))
      replace hR_62 := Kd.keep _ hR_62 (hmv _)
      clear hE' hmv hmr
      obtain ⟨hE', hI', hmv⟩ := Ep.unround (bs := [([.v (.string s1.1)], 9), ([.v (.bool s1.2.1)], 4)]) hO hE hI rfl rfl rfl rfl rfl rfl (by kernel_rfl) rfl
      have hmr : ∀ b ∈ ([(q_60.2 0), [l_30]] : List (List Nat)).flatten, w_67.heap[b]? = w_67.heap[b]? := fun _ _ => rfl
      replace hr0 := Arr.keep hr0 (hmv _)
      replace hg1 := El.keep hg1 (hmv _)
      replace hR_15 := El.keep hR_15 (hmv _)
      replace hT_35 := Tk.keep hT_35 (hmv _)
      replace hl_36 := (hmr _ (by simp)).trans hl_36
      replace ho_26 := Ojt.keep ho_26 (hmv _) (fun b hb => hmr b (flat_mem (by simp) hb))
      replace hR_62 := Kd.keep _ hR_62 (hmv _)
      replace hE := hE'
      replace hI := hI'
      clear hE' hI' hmv hmr
      obtain rfl := Option.some.inj H1
      exact RndQ.nrm hl_36 rfl ⟨_, hr0, hg1, hR_15, ho_26, hE, hI, hT_35.re⟩ hT_35.same
   ·rintro s1 T w_81 hzz ⟨F_29, hr0, hg1, hR_15, ho_26, hE, hI, hT_35⟩
    subst hzz
    replace H0 : (((G_strings_Builder_String s1.2.2).bind fun t_82 => some (t_82.1, true)) : Option (ByteArray × Bool)) = _ := H0
    obtain ⟨hE', hmv⟩ := hE.sub (mine' := [F_29]) (sub_one [F_29] [] _)
    have hmr : ∀ b ∈ ([F_29, [l_30]] : List (List Nat)).flatten, w_81.heap[b]? = w_81.heap[b]? := fun _ _ => rfl
    replace hr0 := Arr.keep hr0 (hmv _)
    replace hg1 := El.keep hg1 (hmv _)
    replace hR_15 := El.keep hR_15 (hmv _)
    replace ho_26 := Ojt.keep ho_26 (hmv _) (fun b hb => hmr b (flat_mem (by simp) hb))
    replace hE := hE'
    clear hE' hmv hmr
    refine inBlock_normal ?_
    refine then_normal ?_
    refine wpIn_seq ?_
    refine wpIn_region_lit ?_
    obtain ⟨t_82, hG_83, H0⟩ := bind_some H0
    have hbs_85 := hE.k.size
    refine callO_ hF hE hI (wanted_none rfl) rfl (args := [.pointer (some ⟨B_20, 0, none⟩)]) rfl (enters Tryd.func19 (by kernel_rfl) rfl) (fun q_84 : SV × (Nat → List Nat) => .string t_82.1) [0] (fun q_84 => [q_84.2 0]) _ (G_strings_Builder_String.calls s1.2.2 B_20 F_29 w_81 (S0_ := Lo S w w_81 ns_28 [F_29]) ho_26 (Lo.pick [0]) (hE.pick [0] (by decide)) (hE.pickLt [0]) _ hG_83) (.inr (fun b hb => (ho_26.nd b (by simpa using hb)).2)) (fun q_84 => ⟨[e_ 28 (.string t_82.1), e_ 11 (.func (.func 15) #[] #[.pointer (some (adr (sv_14 0).1))]), e_ 4 (.pointer (some ⟨B_20, 0, none⟩)), p_ 3 1 0, p_ 2 0 0], [], [], [([.v (.string s1.1)], 9), ([.v (.bool s1.2.1)], 4)], some (w.heap.size, none), none⟩) (fun q_84 => by kernel_rfl) (fun q_84 a w_86 hput hE' hI' hmv hmr hres hR => ?_)
    replace hmv : ∀ S0, Mv (Lo S0 w w_81 ns_28 [F_29]) w_81 (Lo S0 w w_86 ns_28 [(q_84.2 0)]) w_86 := hmv
    replace hmr : ∀ b ∈ ([] : List (List Nat)).flatten, w_86.heap[b]? = w_81.heap[b]? := hmr
    replace hE : Ep [] w w_86 ns_28 [(q_84.2 0)] := hE'
    replace hI := hI'
    clear hE' hI'
    replace hr0 := Arr.keep hr0 (hmv _)
    replace hg1 := El.keep hg1 (hmv _)
    replace hR_15 := El.keep hR_15 (hmv _)
    clear hmv hmr
    have ho_26 := hR
    replace ho_26 := Ojt.keep ho_26 (hres _ (fun b hb => by simp at hb)) (fun _ _ => rfl)
    clear hres
    refine ckn0_ hF 2 hI [3, 2] [] [(0, ([.v (.string t_82.1)], 9)), (1, ([.v (.bool true)], 4))] rfl (by kernel_rfl) (fun ns_87 a w_88 hI => ?_)
    refine wpListIn_nil ?_
    refine then_normal ?_
    refine wpIn_ret ?_
    obtain rfl := Option.some.inj H0
    exact retM hI rfl rfl rfl (fun wz hz => ⟨rfl, (hE.below hI).trans hz.below⟩)
   ·rintro r1 WX hzz ⟨F_29, hr0, hg1, hR_15, ho_26, hE, hI⟩
    subst hzz
    replace H0 : (some (r1.2.1, r1.2.2.1) : Option (ByteArray × Bool)) = _ := H0
    dsimp only
    obtain ⟨hE', hmv⟩ := hE.sub (mine' := [F_29]) (sub_one [F_29] [] _)
    have hmr : ∀ b ∈ ([F_29, [l_30]] : List (List Nat)).flatten, WX.heap[b]? = WX.heap[b]? := fun _ _ => rfl
    replace hr0 := Arr.keep hr0 (hmv _)
    replace hg1 := El.keep hg1 (hmv _)
    replace hR_15 := El.keep hR_15 (hmv _)
    replace ho_26 := Ojt.keep ho_26 (hmv _) (fun b hb => hmr b (flat_mem (by simp) hb))
    replace hE := hE'
    clear hE' hmv hmr
    refine wpIn_ret ?_
    refine inBlock_ret ?_
    refine then_ret ?_
    obtain rfl := Option.some.inj H0
    exact retM hI rfl rfl rfl (fun wz hz => ⟨rfl, (hE.below hI).trans hz.below⟩)

noncomputable def G_strings_IndexByte (a0 : ByteArray) (a1 : Int) : Option (Int) := some (Lib.indexByte a0.data.toList a1.toNat.toUInt8)
theorem G_strings_IndexByte.calls (a0 : ByteArray) (a1 : Int) (w : World) {S : Nat → Prop} (r : Int) (h : G_strings_IndexByte a0 a1 = some r) :
    Calls Tryd.prog 21 #[.string a0, .int .u8 a1] w fun e w' => e = .returned (.int .i64 r) ∧ Below w.heap.size w w' := by
  unfold G_strings_IndexByte at h
  obtain rfl := Option.some.inj h
  exact (Tryd.strings_IndexByte a0 a1 w).mono fun e w' ⟨h1, h2⟩ => ⟨h1, by subst h2; exact Below.refl _ _⟩

noncomputable def G_strconv_Atoi_27 (a0 : ByteArray) : Option (Int × Fn46) := if a0.size ≤ 18 then (Lib.atoi a0.data.toList).map fun n => (n, .nil) else none
theorem G_strconv_Atoi_27.calls (a0 : ByteArray) (w : World) {S : Nat → Prop} (r : Int × Fn46) (h : G_strconv_Atoi_27 a0 = some r) :
    Calls Tryd.prog 27 #[.string a0] w fun e w' => ∃ sv : SV, e = .returned (.tuple #[.int .i64 r.1, fnv46 r.2 sv]) ∧ Below w.heap.size w w' ∧ (kdF46).cont (fun b => w.heap.size ≤ b ∨ S b) w' r.2 sv := by
  unfold G_strconv_Atoi_27 at h
  split at h
  · rename_i hs
    cases ha : Lib.atoi a0.data.toList with
    | none => rw [ha] at h; cases h
    | some n =>
      rw [ha] at h
      obtain rfl := Option.some.inj h
      refine (Tryd.strconv_Atoi a0 n hs ha w).mono fun e w' ⟨h1, t, h2⟩ => ⟨svL [], h1, ?_, trivial⟩
      subst h2
      exact ⟨by simp [Lib.bytesWorld, World.freeze, World.alloc, World.drew, -World.alloc_eq, -World.drew_eq], by simp [Lib.bytesWorld, World.freeze, World.alloc, World.drew, -World.alloc_eq, -World.drew_eq], by simp [Lib.bytesWorld, World.freeze, World.alloc, World.drew, -World.alloc_eq, -World.drew_eq], by rw [Lib.bytesWorld_size]; omega, fun k hk => Lib.bytesWorld_at_old w 5 t k hk⟩
  · cases h

noncomputable def G_bits_Mul (a0 : Int) (a1 : Int) : Option (Int × Int) := if 0 ≤ a0 ∧ a0 < 18446744073709551616 ∧ 0 ≤ a1 ∧ a1 < 18446744073709551616 then some (((a0.toNat * a1.toNat / 18446744073709551616 : Nat) : Int), ((a0.toNat * a1.toNat % 18446744073709551616 : Nat) : Int)) else none
theorem G_bits_Mul.calls (a0 : Int) (a1 : Int) (w : World) {S : Nat → Prop} (r : Int × Int) (h : G_bits_Mul a0 a1 = some r) :
    Calls Tryd.prog 34 #[.int .u64 a0, .int .u64 a1] w fun e w' => e = .returned (.tuple #[.int .u64 r.1, .int .u64 r.2]) ∧ Below w.heap.size w w' := by
  unfold G_bits_Mul at h
  split at h
  · rename_i hb
    obtain rfl := Option.some.inj h
    obtain ⟨x, rfl⟩ := Int.eq_ofNat_of_zero_le hb.1
    obtain ⟨y, rfl⟩ := Int.eq_ofNat_of_zero_le hb.2.2.1
    refine (Tryd.bits_Mul x y (by omega) (by omega) w).mono fun e w' ⟨h1, h2⟩ => ⟨h1, by subst h2; exact Below.refl _ _⟩
  · cases h

noncomputable def G_slices_Repeat_int_int.b1 (l0 : (List Int)) (a1 : Int) (t_6 : Int × Int) (s1 : Int × (List Int)) : Option (Stp (Int × (List Int)) (Ex (Int × (List Int)) ((List Int)))) := (bif decide (s1.1 < ((List.replicate ((IntKind.i64.wrap t_6.2) : Int).toNat (0 : Int)).length : Int)) then (req (inb s1.1 ((List.replicate ((IntKind.i64.wrap t_6.2) : Int).toNat (0 : Int)).length + 1)) (req (inb s1.1 ((List.replicate ((IntKind.i64.wrap t_6.2) : Int).toNat (0 : Int)).length + 1)) (some (.next ((IntKind.i64.wrap (s1.1 + ((Nat.min ((s1.1 : Int).toNat) ((List.replicate ((IntKind.i64.wrap t_6.2) : Int).toNat (0 : Int)).length - (s1.1 : Int).toNat) : Nat) : Int))), (cpw s1.2 ((s1.1 : Int).toNat) ((s1.1 : Int).toNat))))))) else some (.out (.brk (s1.1, s1.2))))
noncomputable def G_slices_Repeat_int_int (l0 : (List Int)) (a1 : Int) : Option ((List Int)) := (bif decide (a1 < 0) then none else ((G_bits_Mul (IntKind.u64.wrap (l0.length : Int)) (IntKind.u64.wrap a1)).bind fun t_6 => (bif (decide (t_6.1 > 0) || decide (t_6.2 > 9223372036854775807)) then none else (req (decide (0 ≤ (IntKind.i64.wrap t_6.2)) && decide (((IntKind.i64.wrap t_6.2) : Int).toNat * (1 + 8) ≤ 16777216)) ((loopω (G_slices_Repeat_int_int.b1 l0 a1 t_6) (((min l0.length (List.replicate ((IntKind.i64.wrap t_6.2) : Int).toNat (0 : Int)).length : Nat) : Int), (cpl (List.replicate ((IntKind.i64.wrap t_6.2) : Int).toNat (0 : Int)) l0))).bind fun o => o.on (fun s1 => some s1.2) (fun r => some r))))))
theorem G_slices_Repeat_int_int.calls (l0 : (List Int)) (a1 : Int) (A0 : Option Addr) (c0 : Nat) (w : World) {S : Nat → Prop} (hr0 : Arr (Kd.int .i64) S w A0 l0) (hc0 : l0.length ≤ c0) (r : (List Int)) (h : G_slices_Repeat_int_int l0 a1 = some r) :
    Calls Tryd.prog 28 #[.slice A0 l0.length c0, .int .i64 a1] w fun e w' => ∃ sv : SV, e = .returned (.slice ((sv 0).1) r.length ((sv 0).2)) ∧ Below w.heap.size w w' ∧ (Arr (Kd.int .i64) (fun b => w.heap.size ≤ b ∨ S b) w' (sv 0).1 r ∧ r.length ≤ (sv 0).2) := by
  replace hr0 := Arr.lo hr0
  unfold G_slices_Repeat_int_int at h
  have H0 := h
  clear h
  refine enter Tryd.func28 rfl [.slice A0 l0.length c0, .int .i64 a1] (n := 48) rfl (Nat.le_of_ble_eq_true rfl) (fun a hI => ?_)
  have hF : FOpen Fence.wide := .inl rfl
  have hE := Ep.start w
  refine sr0_ hF hI (s_ [e_ 4 (.slice none 0 0), e_ 0 (.slice A0 l0.length c0), e_ 1 (.int .i64 a1)] []) (by kernel_rfl) (fun ns_1 a w_2 hI => ?_)
  refine wpIn_seq ?_
  refine srn0_ hF hI [10, 4, 0, 1] [e_ 10 (.bool (decide (a1 < 0)))] [] (by kernel_rfl) (fun ns_3 a w_4 hI => ?_)
  refine cond_ hI (decide (a1 < 0)) rfl (fun hc_5 => ?_) (fun hc_5 => ?_)
  ·replace H0 := bif_t hc_5 H0
   cases H0
  ·replace H0 := bif_f hc_5 H0
   refine wpIn_skip ?_
   refine then_normal ?_
   obtain ⟨t_6, hG_7, H0⟩ := bind_some H0
   refine srn_ (orc := [[.tuple #[.int .u64 t_6.1, .int .u64 t_6.2]]]) hF hI [6, 5, 4, 0] [e_ 6 (.int .u64 t_6.2), e_ 5 (.int .u64 t_6.1)] [] [.call true 34 [.int .u64 (IntKind.u64.wrap (l0.length : Int)), .int .u64 (IntKind.u64.wrap a1)] (.tuple #[.int .u64 t_6.1, .int .u64 t_6.2])] (by kernel_rfl) ⟨ob_call (enters Tryd.func34 (by kernel_rfl) rfl) (fun hg wz hk => G_bits_Mul.calls (IntKind.u64.wrap (l0.length : Int)) (IntKind.u64.wrap a1)  wz (S := fun _ => True)  _ hG_7), trivial⟩ (fun ns_8 a w_9 hI => ?_)
   refine wpIn_seq ?_
   refine srn0_ hF hI [26, 6, 4, 0] [e_ 26 (.bool (decide (t_6.1 > 0) || decide (t_6.2 > 9223372036854775807)))] [] (by kernel_rfl) (fun ns_10 a w_11 hI => ?_)
   refine cond_ hI ((decide (t_6.1 > 0) || decide (t_6.2 > 9223372036854775807))) rfl (fun hc_12 => ?_) (fun hc_12 => ?_)
   ·replace H0 := bif_t hc_12 H0
    cases H0
   ·replace H0 := bif_f hc_12 H0
    refine wpIn_skip ?_
    refine then_normal ?_
    refine wpIn_seq ?_
    refine wpIn_region_lit ?_
    refine ckn0_ hF 2 hI [29, 4, 0] [e_ 29 (.int .i64 (IntKind.i64.wrap t_6.2))] [] rfl (by kernel_rfl) (fun ns_13 a w_14 hI => ?_)
    obtain ⟨hE', hmv, hmr⟩ := Ep.rebase hE hI
    replace hr0 := Arr.keep hr0 (hmv _)
    replace hE := hE'
    replace hI := hI.rebase
    clear hE' hmv hmr
    obtain ⟨hN_15, H0⟩ := req_some H0
    rw [Bool.and_eq_true, decide_eq_true_iff, decide_eq_true_iff] at hN_15
    refine makeSlice_ (S0 := S) (d := (Kd.int .i64)) (e := 3) hF hE hI (wanted_none rfl) rfl (k := (IntKind.i64.wrap t_6.2)) rfl rfl Tryd.underlying22 (zi := (.int .i64 0, 1, 8)) (by kernel_rfl) rfl (0) (svL []) rfl trivial hN_15.1 hN_15.2 (fun A_16 => (s_ [e_ 30 (.slice A_16 (List.replicate ((IntKind.i64.wrap t_6.2) : Int).toNat (0 : Int)).length ((List.replicate ((IntKind.i64.wrap t_6.2) : Int).toNat (0 : Int)).length)), e_ 29 (.int .i64 (IntKind.i64.wrap t_6.2)), e_ 4 (.slice none 0 0), e_ 0 (.slice A0 l0.length c0)] [])) (fun A_16 => by kernel_rfl) (fun A_16 a w_18 hput hE' hI' hmv hmr hq_17 => ?_)
    replace hr0 := Arr.keep hr0 (hmv _)
    replace hE := hE'
    replace hI := hI'
    clear hE' hI' hmv hmr
    refine ckn0_ hF 1 hI [7, 4, 0] [e_ 7 (.slice A_16 (List.replicate ((IntKind.i64.wrap t_6.2) : Int).toNat (0 : Int)).length ((List.replicate ((IntKind.i64.wrap t_6.2) : Int).toNat (0 : Int)).length))] [] rfl (by kernel_rfl) (fun ns_19 a w_20 hI => ?_)
    refine wpListIn_nil ?_
    refine then_normal ?_
    refine wpIn_seq ?_
    refine wpIn_region_lit ?_
    refine ckn0_ hF 2 hI [32, 31, 7, 4] [e_ 32 (.slice A0 l0.length c0), e_ 31 (.slice A_16 (List.replicate ((IntKind.i64.wrap t_6.2) : Int).toNat (0 : Int)).length ((List.replicate ((IntKind.i64.wrap t_6.2) : Int).toNat (0 : Int)).length))] [] rfl (by kernel_rfl) (fun ns_21 a w_22 hI => ?_)
    obtain ⟨hE', hmv, hmr⟩ := Ep.rebase hE hI
    replace hr0 := Arr.keep hr0 (hmv _)
    replace hq_17 := Row.keep hq_17 (hmv _) (fun b hb => hmr b (by simp [hb]))
    replace hE := hE'
    replace hI := hI.rebase
    clear hE' hmv hmr
    refine copy_ (S0 := S) (l1 := []) (l2 := []) (d := (Kd.int .i64)) (e := 3) hF hE hI (wanted_none rfl) rfl (A := A_16) (c := ((List.replicate ((IntKind.i64.wrap t_6.2) : Int).toNat (0 : Int)).length)) (l := (List.replicate ((IntKind.i64.wrap t_6.2) : Int).toNat (0 : Int))) rfl (A2 := A0) (c2 := c0) (ys := l0) rfl hq_17 hr0 (fun _ _ _ _ => trivial) (fun y sv u hu => by exact kd_one_int _ sv u hu) Tryd.underlying22 (by kernel_rfl) rfl (s_ [e_ 33 (.int .i64 ((min l0.length (List.replicate ((IntKind.i64.wrap t_6.2) : Int).toNat (0 : Int)).length : Nat) : Int)), e_ 32 (.slice A0 l0.length c0), e_ 31 (.slice A_16 (List.replicate ((IntKind.i64.wrap t_6.2) : Int).toNat (0 : Int)).length ((List.replicate ((IntKind.i64.wrap t_6.2) : Int).toNat (0 : Int)).length)), e_ 7 (.slice A_16 (List.replicate ((IntKind.i64.wrap t_6.2) : Int).toNat (0 : Int)).length ((List.replicate ((IntKind.i64.wrap t_6.2) : Int).toNat (0 : Int)).length)), e_ 4 (.slice none 0 0)] []) (by kernel_rfl) (fun a w_23 hput hE' hI' hmv hmr hq_17 => ?_)
    replace hr0 := Arr.keep hr0 (hmv _)
    replace hE := hE'
    replace hI := hI'
    clear hE' hI' hmv hmr
    have hln_24 : (cpl (List.replicate ((IntKind.i64.wrap t_6.2) : Int).toNat (0 : Int)) l0).length = (List.replicate ((IntKind.i64.wrap t_6.2) : Int).toNat (0 : Int)).length := cpl_len _ _
    refine ckn0_ hF 1 hI [8, 7, 4] [e_ 8 (.int .i64 ((min l0.length (List.replicate ((IntKind.i64.wrap t_6.2) : Int).toNat (0 : Int)).length : Nat) : Int))] [] rfl (by kernel_rfl) (fun ns_26 a w_27 hI => ?_)
    refine wpListIn_nil ?_
    refine then_normal ?_
    refine wpIn_seq ?_
    obtain ⟨hE', hmv, hmr⟩ := Ep.rebase hE hI
    replace hr0 := Arr.keep hr0 (hmv _)
    replace hq_17 := Row.keep hq_17 (hmv _) (fun b hb => hmr b (by simp [hb]))
    replace hE := hE'
    replace hI := hI.rebase
    clear hE' hmv hmr
    obtain ⟨o_44, hL_45, H0⟩ := bind_some H0
    refine block_loop (fun (s1 : Int × (List Int)) a w_52 => ∃ (ow ns : List Nat) , (Arr (Kd.int .i64) (Lo S w w_52 ow [rb A_16]) w_52 A0 l0) ∧ (Row (Kd.int .i64) 3 (Lo S w w_52 ow [rb A_16]) w_52 w.heap.size A_16 ((List.replicate ((IntKind.i64.wrap t_6.2) : Int).toNat (0 : Int)).length) s1.2) ∧ (s1.2.length = (List.replicate ((IntKind.i64.wrap t_6.2) : Int).toNat (0 : Int)).length) ∧ Ep [] w w_52 ow [rb A_16] ∧ St w_52 ow 48 (s_ [e_ 8 (.int .i64 s1.1), e_ 7 (.slice A_16 (List.replicate ((IntKind.i64.wrap t_6.2) : Int).toNat (0 : Int)).length ((List.replicate ((IntKind.i64.wrap t_6.2) : Int).toNat (0 : Int)).length)), e_ 4 (.slice none 0 0)] []) ns a w_52) (((min l0.length (List.replicate ((IntKind.i64.wrap t_6.2) : Int).toNat (0 : Int)).length : Nat) : Int), (cpl (List.replicate ((IntKind.i64.wrap t_6.2) : Int).toNat (0 : Int)) l0)) hL_45 ⟨_, _, hr0, hq_17, hln_24, hE, hI.pick [8, 7, 4] 0 (s_ [e_ 8 (.int .i64 ((min l0.length (List.replicate ((IntKind.i64.wrap t_6.2) : Int).toNat (0 : Int)).length : Nat) : Int)), e_ 7 (.slice A_16 (List.replicate ((IntKind.i64.wrap t_6.2) : Int).toNat (0 : Int)).length ((List.replicate ((IntKind.i64.wrap t_6.2) : Int).toNat (0 : Int)).length)), e_ 4 (.slice none 0 0)] []) (by kernel_rfl)⟩ ?_ ?_
    ·clear hI hE
     rintro s1 a w_28 ⟨ow_30, ns_29, hr0, hq_17, hln_24, hE, hI⟩ r1 H1
     unfold G_slices_Repeat_int_int.b1 at H1
     refine wpIn_seq ?_
     refine sr0_ hF hI (s_ [e_ 37 (.bool (decide (s1.1 < ((List.replicate ((IntKind.i64.wrap t_6.2) : Int).toNat (0 : Int)).length : Int)))), e_ 8 (.int .i64 s1.1), e_ 7 (.slice A_16 (List.replicate ((IntKind.i64.wrap t_6.2) : Int).toNat (0 : Int)).length ((List.replicate ((IntKind.i64.wrap t_6.2) : Int).toNat (0 : Int)).length)), e_ 4 (.slice none 0 0)] []) (by kernel_rfl) (fun ns_31 a w_32 hI => ?_)
     refine cond_ hI (decide (s1.1 < ((List.replicate ((IntKind.i64.wrap t_6.2) : Int).toNat (0 : Int)).length : Int))) rfl (fun hc_33 => ?_) (fun hc_33 => ?_)
     ·replace H1 := bif_t hc_33 H1
      refine wpIn_skip ?_
      refine then_normal ?_
      refine wpIn_block ?_
      replace hI := hI.fin (live := [37, 8, 7, 4]) (σ2 := (s_ [e_ 37 (.bool (decide (s1.1 < ((List.replicate ((IntKind.i64.wrap t_6.2) : Int).toNat (0 : Int)).length : Int)))), e_ 8 (.int .i64 s1.1), e_ 7 (.slice A_16 (List.replicate ((IntKind.i64.wrap t_6.2) : Int).toNat (0 : Int)).length ((List.replicate ((IntKind.i64.wrap t_6.2) : Int).toNat (0 : Int)).length)), e_ 4 (.slice none 0 0)] [])) (by kernel_rfl)
      obtain ⟨hN_34, H1⟩ := req_some H1
      obtain ⟨hN_36, H1⟩ := req_some H1
      have hcp_37 : (List.replicate ((IntKind.i64.wrap t_6.2) : Int).toNat (0 : Int)).length ≤ (List.replicate ((IntKind.i64.wrap t_6.2) : Int).toNat (0 : Int)).length := by have := (Row.arr (S' := fun _ => True) hq_17 (fun _ _ => trivial) (fun _ _ => trivial)).2; rwa [hln_24] at this
      refine drawnS_ hI (by kernel_rfl) [.q 38 (.v (.int .i64 s1.1)) [], .q 39 (.v (.slice A_16 (List.replicate ((IntKind.i64.wrap t_6.2) : Int).toNat (0 : Int)).length ((List.replicate ((IntKind.i64.wrap t_6.2) : Int).toNat (0 : Int)).length))) [], .q 40 (.v (.int .i64 s1.1)) [], .q 41 (.v (.slice (sdrop A_16 ((List.replicate ((IntKind.i64.wrap t_6.2) : Int).toNat (0 : Int)).length) (s1.1 : Int).toNat 1) ((List.replicate ((IntKind.i64.wrap t_6.2) : Int).toNat (0 : Int)).length - (s1.1 : Int).toNat) (((List.replicate ((IntKind.i64.wrap t_6.2) : Int).toNat (0 : Int)).length) - (s1.1 : Int).toNat))) [.run true (vS (Instr.sliceAt 22 (.slice A_16 (List.replicate ((IntKind.i64.wrap t_6.2) : Int).toNat (0 : Int)).length ((List.replicate ((IntKind.i64.wrap t_6.2) : Int).toNat (0 : Int)).length)) (some (.int .i64 s1.1)) none none)) (.slice (sdrop A_16 ((List.replicate ((IntKind.i64.wrap t_6.2) : Int).toNat (0 : Int)).length) (s1.1 : Int).toNat 1) ((List.replicate ((IntKind.i64.wrap t_6.2) : Int).toNat (0 : Int)).length - (s1.1 : Int).toNat) (((List.replicate ((IntKind.i64.wrap t_6.2) : Int).toNat (0 : Int)).length) - (s1.1 : Int).toNat))], .q 42 (.v (.slice A_16 (List.replicate ((IntKind.i64.wrap t_6.2) : Int).toNat (0 : Int)).length ((List.replicate ((IntKind.i64.wrap t_6.2) : Int).toNat (0 : Int)).length))) [], .q 43 (.v (.int .i64 s1.1)) [], .q 44 (.v (.slice A_16 ((s1.1 : Int).toNat) ((List.replicate ((IntKind.i64.wrap t_6.2) : Int).toNat (0 : Int)).length))) [.run true (vS (Instr.sliceAt 22 (.slice A_16 (List.replicate ((IntKind.i64.wrap t_6.2) : Int).toNat (0 : Int)).length ((List.replicate ((IntKind.i64.wrap t_6.2) : Int).toNat (0 : Int)).length)) none (some (.int .i64 s1.1)) none)) (.slice A_16 ((s1.1 : Int).toNat) ((List.replicate ((IntKind.i64.wrap t_6.2) : Int).toNat (0 : Int)).length))], .no, .no, .no] (by kernel_rfl) (fun fuel listed w_38 hJ hsz hu => ?_)
      refine stage_ hJ hF hsz hu [.q [] [], .q [] [], .q [] [], .q [1, 2] [[.slice (sdrop A_16 ((List.replicate ((IntKind.i64.wrap t_6.2) : Int).toNat (0 : Int)).length) (s1.1 : Int).toNat 1) ((List.replicate ((IntKind.i64.wrap t_6.2) : Int).toNat (0 : Int)).length - (s1.1 : Int).toNat) (((List.replicate ((IntKind.i64.wrap t_6.2) : Int).toNat (0 : Int)).length) - (s1.1 : Int).toNat)]], .q [] [], .q [] [], .q [4, 5] [[.slice A_16 ((s1.1 : Int).toNat) ((List.replicate ((IntKind.i64.wrap t_6.2) : Int).toNat (0 : Int)).length)]], .no, .no, .no] (by kernel_rfl) (by kernel_rfl) (by kernel_rfl) (by kernel_rfl) 7 rfl (by kernel_rfl) (by kernel_rfl) [3, 6] rfl (by kernel_rfl) (by kernel_rfl) ⟨(fun hg wz hk => vS_run (sliceN_lo (sz := 1) Tryd.underlying22 (by kernel_rfl) (inb_le hN_34).1 (inb_le hN_34).2 wz)), (fun hg wz hk => vS_run (sliceN_hi (sz := 1) Tryd.underlying22 (by kernel_rfl) (inb_le hN_36).1 (inb_le hN_36).2 hcp_37 wz)), trivial⟩ [3, 6] (by kernel_rfl) [.q 38 (.v (.int .i64 s1.1)) [], .q 39 (.v (.slice A_16 (List.replicate ((IntKind.i64.wrap t_6.2) : Int).toNat (0 : Int)).length ((List.replicate ((IntKind.i64.wrap t_6.2) : Int).toNat (0 : Int)).length))) [], .q 40 (.v (.int .i64 s1.1)) [], .t (some 41) (some (.v (.slice (sdrop A_16 ((List.replicate ((IntKind.i64.wrap t_6.2) : Int).toNat (0 : Int)).length) (s1.1 : Int).toNat 1) ((List.replicate ((IntKind.i64.wrap t_6.2) : Int).toNat (0 : Int)).length - (s1.1 : Int).toNat) (((List.replicate ((IntKind.i64.wrap t_6.2) : Int).toNat (0 : Int)).length) - (s1.1 : Int).toNat)))), .q 42 (.v (.slice A_16 (List.replicate ((IntKind.i64.wrap t_6.2) : Int).toNat (0 : Int)).length ((List.replicate ((IntKind.i64.wrap t_6.2) : Int).toNat (0 : Int)).length))) [], .q 43 (.v (.int .i64 s1.1)) [], .t (some 44) (some (.v (.slice A_16 ((s1.1 : Int).toNat) ((List.replicate ((IntKind.i64.wrap t_6.2) : Int).toNat (0 : Int)).length)))), .no, .no, .no] (by kernel_rfl) (fun fuel listed a w_39 hJ hI hW h1 hnl hsz hu => ?_)
      obtain ⟨hE', hmv, hmr⟩ := Ep.rebase hE hI
      replace hr0 := Arr.keep hr0 (hmv _)
      replace hq_17 := Row.keep hq_17 (hmv _) (fun b hb => hmr b (by simp [hb]))
      replace hE := hE'
      replace hI := hI.rebase
      clear hE' hmv hmr
      refine copyP_ (S0 := S) (l1 := []) (l2 := []) (e := 3) hF hE hI hW rfl (A := A_16) (c := ((List.replicate ((IntKind.i64.wrap t_6.2) : Int).toNat (0 : Int)).length)) (L := (List.replicate ((IntKind.i64.wrap t_6.2) : Int).toNat (0 : Int)).length) (l := s1.2) (i := (s1.1 : Int).toNat) (j := (s1.1 : Int).toNat) rfl rfl hln_24 hq_17 (by have := inb_le hN_34; omega) (by have := inb_le hN_36; omega) Tryd.underlying22 (by kernel_rfl) (s_ [e_ 45 (.int .i64 ((Nat.min ((s1.1 : Int).toNat) ((List.replicate ((IntKind.i64.wrap t_6.2) : Int).toNat (0 : Int)).length - (s1.1 : Int).toNat) : Nat) : Int)), e_ 41 (.slice (sdrop A_16 ((List.replicate ((IntKind.i64.wrap t_6.2) : Int).toNat (0 : Int)).length) (s1.1 : Int).toNat 1) ((List.replicate ((IntKind.i64.wrap t_6.2) : Int).toNat (0 : Int)).length - (s1.1 : Int).toNat) (((List.replicate ((IntKind.i64.wrap t_6.2) : Int).toNat (0 : Int)).length) - (s1.1 : Int).toNat)), e_ 44 (.slice A_16 ((s1.1 : Int).toNat) ((List.replicate ((IntKind.i64.wrap t_6.2) : Int).toNat (0 : Int)).length)), e_ 37 (.bool (decide (s1.1 < ((List.replicate ((IntKind.i64.wrap t_6.2) : Int).toNat (0 : Int)).length : Int)))), e_ 8 (.int .i64 s1.1), e_ 7 (.slice A_16 (List.replicate ((IntKind.i64.wrap t_6.2) : Int).toNat (0 : Int)).length ((List.replicate ((IntKind.i64.wrap t_6.2) : Int).toNat (0 : Int)).length)), e_ 4 (.slice none 0 0)] []) (by kernel_rfl) (fun a w_40 hput hE' hI' hmv hmr hq_17 => ?_)
      replace hr0 := Arr.keep hr0 (hmv _)
      replace hE := hE'
      replace hI := hI'
      clear hE' hI' hmv hmr
      have hln_24 : (cpw s1.2 ((s1.1 : Int).toNat) ((s1.1 : Int).toNat)).length = (List.replicate ((IntKind.i64.wrap t_6.2) : Int).toNat (0 : Int)).length := (cpw_len _ (by rw [hln_24]; exact (by have := inb_le hN_34; omega)) (by rw [hln_24]; exact (by have := inb_le hN_36; omega))).trans hln_24
      refine next_ hJ h1 hnl hsz hu (by kernel_rfl) (by kernel_rfl) hput hI (live := [37, 8, 7, 4]) (s_ [e_ 37 (.bool (decide (s1.1 < ((List.replicate ((IntKind.i64.wrap t_6.2) : Int).toNat (0 : Int)).length : Int)))), e_ 8 (.int .i64 s1.1), e_ 7 (.slice A_16 (List.replicate ((IntKind.i64.wrap t_6.2) : Int).toNat (0 : Int)).length ((List.replicate ((IntKind.i64.wrap t_6.2) : Int).toNat (0 : Int)).length)), e_ 4 (.slice none 0 0)] []) (by kernel_rfl) (some (.v (.int .i64 ((Nat.min ((s1.1 : Int).toNat) ((List.replicate ((IntKind.i64.wrap t_6.2) : Int).toNat (0 : Int)).length - (s1.1 : Int).toNat) : Nat) : Int)))) (by kernel_rfl) [(8, .q 46 (.v (.int .i64 (IntKind.i64.wrap (s1.1 + ((Nat.min ((s1.1 : Int).toNat) ((List.replicate ((IntKind.i64.wrap t_6.2) : Int).toNat (0 : Int)).length - (s1.1 : Int).toNat) : Nat) : Int))))) [])] [.q 38 (.v (.int .i64 s1.1)) [], .q 39 (.v (.slice A_16 (List.replicate ((IntKind.i64.wrap t_6.2) : Int).toNat (0 : Int)).length ((List.replicate ((IntKind.i64.wrap t_6.2) : Int).toNat (0 : Int)).length))) [], .q 40 (.v (.int .i64 s1.1)) [], .t (some 41) (some (.v (.slice (sdrop A_16 ((List.replicate ((IntKind.i64.wrap t_6.2) : Int).toNat (0 : Int)).length) (s1.1 : Int).toNat 1) ((List.replicate ((IntKind.i64.wrap t_6.2) : Int).toNat (0 : Int)).length - (s1.1 : Int).toNat) (((List.replicate ((IntKind.i64.wrap t_6.2) : Int).toNat (0 : Int)).length) - (s1.1 : Int).toNat)))), .q 42 (.v (.slice A_16 (List.replicate ((IntKind.i64.wrap t_6.2) : Int).toNat (0 : Int)).length ((List.replicate ((IntKind.i64.wrap t_6.2) : Int).toNat (0 : Int)).length))) [], .q 43 (.v (.int .i64 s1.1)) [], .t (some 44) (some (.v (.slice A_16 ((s1.1 : Int).toNat) ((List.replicate ((IntKind.i64.wrap t_6.2) : Int).toNat (0 : Int)).length)))), .t (some 45) (some (.v (.int .i64 ((Nat.min ((s1.1 : Int).toNat) ((List.replicate ((IntKind.i64.wrap t_6.2) : Int).toNat (0 : Int)).length - (s1.1 : Int).toNat) : Nat) : Int)))), .q 46 (.v (.int .i64 (IntKind.i64.wrap (s1.1 + ((Nat.min ((s1.1 : Int).toNat) ((List.replicate ((IntKind.i64.wrap t_6.2) : Int).toNat (0 : Int)).length - (s1.1 : Int).toNat) : Nat) : Int))))) [], .no] (by kernel_rfl) (by kernel_rfl) (by kernel_rfl) True.intro (AL.none (by kernel_rfl)) (fun hJ hsz hu => ?_)
      refine stage_ hJ hF hsz hu [.q [] [], .q [] [], .q [] [], .t (some (.v (.slice (sdrop A_16 ((List.replicate ((IntKind.i64.wrap t_6.2) : Int).toNat (0 : Int)).length) (s1.1 : Int).toNat 1) ((List.replicate ((IntKind.i64.wrap t_6.2) : Int).toNat (0 : Int)).length - (s1.1 : Int).toNat) (((List.replicate ((IntKind.i64.wrap t_6.2) : Int).toNat (0 : Int)).length) - (s1.1 : Int).toNat)))), .q [] [], .q [] [], .t (some (.v (.slice A_16 ((s1.1 : Int).toNat) ((List.replicate ((IntKind.i64.wrap t_6.2) : Int).toNat (0 : Int)).length)))), .t (some (.v (.int .i64 ((Nat.min ((s1.1 : Int).toNat) ((List.replicate ((IntKind.i64.wrap t_6.2) : Int).toNat (0 : Int)).length - (s1.1 : Int).toNat) : Nat) : Int)))), .q [0, 7] [], .no] (by kernel_rfl) (by kernel_rfl) (by kernel_rfl) (by kernel_rfl) 9 rfl (by kernel_rfl) (by kernel_rfl) [8] rfl (by kernel_rfl) (by kernel_rfl) trivial [0, 1, 2, 4, 5, 8] (by kernel_rfl) [.t (some 38) (some (.v (.int .i64 s1.1))), .t (some 39) (some (.v (.slice A_16 (List.replicate ((IntKind.i64.wrap t_6.2) : Int).toNat (0 : Int)).length ((List.replicate ((IntKind.i64.wrap t_6.2) : Int).toNat (0 : Int)).length)))), .t (some 40) (some (.v (.int .i64 s1.1))), .t (some 41) (some (.v (.slice (sdrop A_16 ((List.replicate ((IntKind.i64.wrap t_6.2) : Int).toNat (0 : Int)).length) (s1.1 : Int).toNat 1) ((List.replicate ((IntKind.i64.wrap t_6.2) : Int).toNat (0 : Int)).length - (s1.1 : Int).toNat) (((List.replicate ((IntKind.i64.wrap t_6.2) : Int).toNat (0 : Int)).length) - (s1.1 : Int).toNat)))), .t (some 42) (some (.v (.slice A_16 (List.replicate ((IntKind.i64.wrap t_6.2) : Int).toNat (0 : Int)).length ((List.replicate ((IntKind.i64.wrap t_6.2) : Int).toNat (0 : Int)).length)))), .t (some 43) (some (.v (.int .i64 s1.1))), .t (some 44) (some (.v (.slice A_16 ((s1.1 : Int).toNat) ((List.replicate ((IntKind.i64.wrap t_6.2) : Int).toNat (0 : Int)).length)))), .t (some 45) (some (.v (.int .i64 ((Nat.min ((s1.1 : Int).toNat) ((List.replicate ((IntKind.i64.wrap t_6.2) : Int).toNat (0 : Int)).length - (s1.1 : Int).toNat) : Nat) : Int)))), .t (some 46) (some (.v (.int .i64 (IntKind.i64.wrap (s1.1 + ((Nat.min ((s1.1 : Int).toNat) ((List.replicate ((IntKind.i64.wrap t_6.2) : Int).toNat (0 : Int)).length - (s1.1 : Int).toNat) : Nat) : Int)))))), .no] (by kernel_rfl) (fun fuel listed a w_42 hJ hI hW h1 hnl hsz hu => ?_)
      refine move_ hF hI hW (.inl rfl) rfl (s_ [e_ 8 (.int .i64 (IntKind.i64.wrap (s1.1 + ((Nat.min ((s1.1 : Int).toNat) ((List.replicate ((IntKind.i64.wrap t_6.2) : Int).toNat (0 : Int)).length - (s1.1 : Int).toNat) : Nat) : Int)))), e_ 46 (.int .i64 (IntKind.i64.wrap (s1.1 + ((Nat.min ((s1.1 : Int).toNat) ((List.replicate ((IntKind.i64.wrap t_6.2) : Int).toNat (0 : Int)).length - (s1.1 : Int).toNat) : Nat) : Int)))), e_ 37 (.bool (decide (s1.1 < ((List.replicate ((IntKind.i64.wrap t_6.2) : Int).toNat (0 : Int)).length : Int)))), e_ 7 (.slice A_16 (List.replicate ((IntKind.i64.wrap t_6.2) : Int).toNat (0 : Int)).length ((List.replicate ((IntKind.i64.wrap t_6.2) : Int).toNat (0 : Int)).length)), e_ 4 (.slice none 0 0)] []) (by kernel_rfl) (fun a hput hI => ?_)
      refine next_ hJ h1 hnl hsz hu (by kernel_rfl) (by kernel_rfl) hput hI (live := [37, 7, 4]) (s_ [e_ 37 (.bool (decide (s1.1 < ((List.replicate ((IntKind.i64.wrap t_6.2) : Int).toNat (0 : Int)).length : Int)))), e_ 7 (.slice A_16 (List.replicate ((IntKind.i64.wrap t_6.2) : Int).toNat (0 : Int)).length ((List.replicate ((IntKind.i64.wrap t_6.2) : Int).toNat (0 : Int)).length)), e_ 4 (.slice none 0 0)] []) (by kernel_rfl) (some (.v (.int .i64 (IntKind.i64.wrap (s1.1 + ((Nat.min ((s1.1 : Int).toNat) ((List.replicate ((IntKind.i64.wrap t_6.2) : Int).toNat (0 : Int)).length - (s1.1 : Int).toNat) : Nat) : Int)))))) (by kernel_rfl) [] [.t (some 38) (some (.v (.int .i64 s1.1))), .t (some 39) (some (.v (.slice A_16 (List.replicate ((IntKind.i64.wrap t_6.2) : Int).toNat (0 : Int)).length ((List.replicate ((IntKind.i64.wrap t_6.2) : Int).toNat (0 : Int)).length)))), .t (some 40) (some (.v (.int .i64 s1.1))), .t (some 41) (some (.v (.slice (sdrop A_16 ((List.replicate ((IntKind.i64.wrap t_6.2) : Int).toNat (0 : Int)).length) (s1.1 : Int).toNat 1) ((List.replicate ((IntKind.i64.wrap t_6.2) : Int).toNat (0 : Int)).length - (s1.1 : Int).toNat) (((List.replicate ((IntKind.i64.wrap t_6.2) : Int).toNat (0 : Int)).length) - (s1.1 : Int).toNat)))), .t (some 42) (some (.v (.slice A_16 (List.replicate ((IntKind.i64.wrap t_6.2) : Int).toNat (0 : Int)).length ((List.replicate ((IntKind.i64.wrap t_6.2) : Int).toNat (0 : Int)).length)))), .t (some 43) (some (.v (.int .i64 s1.1))), .t (some 44) (some (.v (.slice A_16 ((s1.1 : Int).toNat) ((List.replicate ((IntKind.i64.wrap t_6.2) : Int).toNat (0 : Int)).length)))), .t (some 45) (some (.v (.int .i64 ((Nat.min ((s1.1 : Int).toNat) ((List.replicate ((IntKind.i64.wrap t_6.2) : Int).toNat (0 : Int)).length - (s1.1 : Int).toNat) : Nat) : Int)))), .t (some 46) (some (.v (.int .i64 (IntKind.i64.wrap (s1.1 + ((Nat.min ((s1.1 : Int).toNat) ((List.replicate ((IntKind.i64.wrap t_6.2) : Int).toNat (0 : Int)).length - (s1.1 : Int).toNat) : Nat) : Int)))))), .t (some 8) (some (.v (.int .i64 (IntKind.i64.wrap (s1.1 + ((Nat.min ((s1.1 : Int).toNat) ((List.replicate ((IntKind.i64.wrap t_6.2) : Int).toNat (0 : Int)).length - (s1.1 : Int).toNat) : Nat) : Int))))))] (by kernel_rfl) (by kernel_rfl) (by kernel_rfl) True.intro (AL.none (by kernel_rfl)) (fun hJ hsz hu => ?_)
      refine end_ hJ hF hsz hu [.t (some (.v (.int .i64 s1.1))), .t (some (.v (.slice A_16 (List.replicate ((IntKind.i64.wrap t_6.2) : Int).toNat (0 : Int)).length ((List.replicate ((IntKind.i64.wrap t_6.2) : Int).toNat (0 : Int)).length)))), .t (some (.v (.int .i64 s1.1))), .t (some (.v (.slice (sdrop A_16 ((List.replicate ((IntKind.i64.wrap t_6.2) : Int).toNat (0 : Int)).length) (s1.1 : Int).toNat 1) ((List.replicate ((IntKind.i64.wrap t_6.2) : Int).toNat (0 : Int)).length - (s1.1 : Int).toNat) (((List.replicate ((IntKind.i64.wrap t_6.2) : Int).toNat (0 : Int)).length) - (s1.1 : Int).toNat)))), .t (some (.v (.slice A_16 (List.replicate ((IntKind.i64.wrap t_6.2) : Int).toNat (0 : Int)).length ((List.replicate ((IntKind.i64.wrap t_6.2) : Int).toNat (0 : Int)).length)))), .t (some (.v (.int .i64 s1.1))), .t (some (.v (.slice A_16 ((s1.1 : Int).toNat) ((List.replicate ((IntKind.i64.wrap t_6.2) : Int).toNat (0 : Int)).length)))), .t (some (.v (.int .i64 ((Nat.min ((s1.1 : Int).toNat) ((List.replicate ((IntKind.i64.wrap t_6.2) : Int).toNat (0 : Int)).length - (s1.1 : Int).toNat) : Nat) : Int)))), .t (some (.v (.int .i64 (IntKind.i64.wrap (s1.1 + ((Nat.min ((s1.1 : Int).toNat) ((List.replicate ((IntKind.i64.wrap t_6.2) : Int).toNat (0 : Int)).length - (s1.1 : Int).toNat) : Nat) : Int)))))), .t (some (.v (.int .i64 (IntKind.i64.wrap (s1.1 + ((Nat.min ((s1.1 : Int).toNat) ((List.replicate ((IntKind.i64.wrap t_6.2) : Int).toNat (0 : Int)).length - (s1.1 : Int).toNat) : Nat) : Int))))))] (by kernel_rfl) (by kernel_rfl) (by kernel_rfl) (by kernel_rfl) (by kernel_rfl) (by kernel_rfl) (live := [8, 7, 4]) (s_ [e_ 8 (.int .i64 (IntKind.i64.wrap (s1.1 + ((Nat.min ((s1.1 : Int).toNat) ((List.replicate ((IntKind.i64.wrap t_6.2) : Int).toNat (0 : Int)).length - (s1.1 : Int).toNat) : Nat) : Int)))), e_ 7 (.slice A_16 (List.replicate ((IntKind.i64.wrap t_6.2) : Int).toNat (0 : Int)).length ((List.replicate ((IntKind.i64.wrap t_6.2) : Int).toNat (0 : Int)).length)), e_ 4 (.slice none 0 0)] []) (by kernel_rfl) trivial (fun a w_43 hI => ?_)
      refine inBlock_normal ?_
      refine then_normal ?_
      obtain ⟨hE', hmv, hmr⟩ := Ep.rebase hE hI
      replace hr0 := Arr.keep hr0 (hmv _)
      replace hq_17 := Row.keep hq_17 (hmv _) (fun b hb => hmr b (by simp [hb]))
      replace hE := hE'
      replace hI := hI.rebase
      clear hE' hmv hmr
      obtain rfl := Option.some.inj H1
      exact ⟨_, rfl, ⟨_, _, hr0, hq_17, hln_24, hE, hI.pick [8, 7, 4] 0 (s_ [e_ 8 (.int .i64 (IntKind.i64.wrap (s1.1 + ((Nat.min ((s1.1 : Int).toNat) ((List.replicate ((IntKind.i64.wrap t_6.2) : Int).toNat (0 : Int)).length - (s1.1 : Int).toNat) : Nat) : Int)))), e_ 7 (.slice A_16 (List.replicate ((IntKind.i64.wrap t_6.2) : Int).toNat (0 : Int)).length ((List.replicate ((IntKind.i64.wrap t_6.2) : Int).toNat (0 : Int)).length)), e_ 4 (.slice none 0 0)] []) (by kernel_rfl)⟩⟩
     ·replace H1 := bif_f hc_33 H1
      refine wpIn_exit ?_
      refine then_exit ?_
      refine then_exit ?_
      obtain ⟨hE', hmv, hmr⟩ := Ep.rebase hE hI
      replace hr0 := Arr.keep hr0 (hmv _)
      replace hq_17 := Row.keep hq_17 (hmv _) (fun b hb => hmr b (by simp [hb]))
      replace hE := hE'
      replace hI := hI.rebase
      clear hE' hmv hmr
      obtain rfl := Option.some.inj H1
      exact .inl ⟨_, rfl, rfl, ⟨_, _, hr0, hq_17, hln_24, hE, hI.pick [8, 7, 4] 0 (s_ [e_ 8 (.int .i64 s1.1), e_ 7 (.slice A_16 (List.replicate ((IntKind.i64.wrap t_6.2) : Int).toNat (0 : Int)).length ((List.replicate ((IntKind.i64.wrap t_6.2) : Int).toNat (0 : Int)).length)), e_ 4 (.slice none 0 0)] []) (by kernel_rfl)⟩⟩
    ·clear hI hE
     rintro s1 a w_46 ho ⟨ow_48, ns_47, hr0, hq_17, hln_24, hE, hI⟩
     subst ho
     replace H0 : (some s1.2 : Option ((List Int))) = _ := H0
     refine then_normal ?_
     refine sr0_ hF hI (s_ [e_ 4 (.slice A_16 (List.replicate ((IntKind.i64.wrap t_6.2) : Int).toNat (0 : Int)).length ((List.replicate ((IntKind.i64.wrap t_6.2) : Int).toNat (0 : Int)).length))] []) (by kernel_rfl) (fun ns_49 a w_50 hI => ?_)
     replace hI := Inv.len (σf := fun q_ => (s_ [e_ 4 (.slice A_16 q_ ((List.replicate ((IntKind.i64.wrap t_6.2) : Int).toNat (0 : Int)).length))] [])) hln_24 hI
     obtain ⟨hE', hmv, hmr⟩ := Ep.rebase hE hI
     replace hr0 := Arr.keep hr0 (hmv _)
     replace hq_17 := Row.keep hq_17 (hmv _) (fun b hb => hmr b (by simp [hb]))
     replace hE := hE'
     replace hI := hI.rebase
     clear hE' hmv hmr
     obtain ⟨hE', hmv, hq_17, hcap_51⟩ := Row.still (l1 := []) (l2 := []) hq_17 (Nat.le_refl _) hE
     have hmr : ∀ b ∈ ([rb A_16] : List (List Nat)).flatten, w_50.heap[b]? = w_50.heap[b]? := fun _ _ => rfl
     replace hr0 := Arr.keep hr0 (hmv _)
     replace hE := hE'
     clear hE' hmv hmr
     refine wpIn_ret ?_
     obtain rfl := Option.some.inj H0
     exact ret1 hI rfl rfl ⟨svL [(A_16, (List.replicate ((IntKind.i64.wrap t_6.2) : Int).toNat (0 : Int)).length)], rfl, hE.below hI, ⟨Arr.keep hq_17 (hE.out hI), hcap_51⟩⟩

end Go.Proofs.YtmchkeflhpojmaaDoor
