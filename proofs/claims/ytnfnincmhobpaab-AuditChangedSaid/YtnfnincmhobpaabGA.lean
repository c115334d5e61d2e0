import Derived.Test.YtnfnincmhobpaabProg
import Derived.Test.YtnfnincmhobpaabEng
set_option linter.unusedVariables false
set_option linter.unusedSimpArgs false
namespace Go.Proofs.Ytnfnincmhobpaab
open Go Go.RowKit Go.Eng Go.Proofs






/-! ### porthole/audit.Changed$1: function 62, an iterator -/
def G_audit_Changed_1.enc : (Int) → SV → List Value := fun y sv => [.int .i64 y]
def G_audit_Changed_1.fct : (Nat → Prop) → World → (Int) → SV → Prop := fun X w y sv => True
noncomputable def G_audit_Changed_1.b1 {σt R : Type} (bd : σt → (Int) → Option (Stp σt R)) (s0 : σt) (y1 : (List Int)) (y2 : (List Int)) (s1 : Int × σt) : Option (Stp (Int × σt) (Ex (Int × σt) (Stp σt R))) := (bif decide (s1.1 < (mxI (y1.length : Int) (y2.length : Int))) then (req (imp (decide (s1.1 < (y1.length : Int)) && decide (s1.1 < (y2.length : Int))) (inb s1.1 y1.length)) (req (imp (decide (s1.1 < (y1.length : Int)) && decide (s1.1 < (y2.length : Int))) (inb s1.1 y2.length)) (bif ((decide (s1.1 < (y1.length : Int)) && decide (s1.1 < (y2.length : Int))) && ((rd y1 s1.1) == (rd y2 s1.1))) then some (.next ((IntKind.i64.wrap (s1.1 + 1)), s1.2)) else ((bd s1.2 s1.1).bind fun z => z.on (fun s_24 => some (.next ((IntKind.i64.wrap (s1.1 + 1)), s_24))) (fun r_25 => some (.out (.ret (.out r_25)))))))) else some (.out (.brk (s1.1, s1.2))))
noncomputable def G_audit_Changed_1 {σt R : Type} (bd : σt → (Int) → Option (Stp σt R)) (s0 : σt) (y1 : (List Int)) (y2 : (List Int)) : Option (Stp σt R) := ((loopω (G_audit_Changed_1.b1 bd s0 y1 y2) (0, s0)).bind fun o => o.on (fun s1 => some (.next s1.2)) (fun r => some r))
set_option maxRecDepth 100000 in
set_option maxHeartbeats 4000000 in
theorem G_audit_Changed_1.calls {σt R : Type} (bd : σt → (Int) → Option (Stp σt R)) (s0 : σt) (y1 : (List Int)) (y2 : (List Int)) (B1 : Addr) (sv1 : SV) (B2 : Addr) (sv2 : SV) (l : Nat) (w : World) {S : Nat → Prop} (hB1 : El (Kd.slice (Kd.int .u32)) S w B1 y1 sv1) (hB2 : El (Kd.slice (Kd.int .u32)) S w B2 y2 sv2) {J : σt → (Nat → Prop) → World → Prop} {Jx : R → World → Prop} (hq : SeqH Try.prog l G_audit_Changed_1.enc G_audit_Changed_1.fct bd J Jx) (hJ : J s0 S w) (r : Stp σt R) (h : G_audit_Changed_1 bd s0 y1 y2 = some r) :
    Calls Try.prog 62 #[.func (.yield l) #[] #[], .pointer (some B1), .pointer (some B2)] w fun e w' => (∃ v, e = .returned v) ∧ SeqPost J Jx r w' := by
  replace hB1 := El.lo hB1
  replace hB2 := El.lo hB2
  unfold G_audit_Changed_1 at h
  have H0 := h
  clear h
  refine enter Try.func62 rfl [.func (.yield l) #[] #[], .pointer (some B1), .pointer (some B2)] (n := 39) rfl (Nat.le_of_ble_eq_true rfl) (fun a hI => ?_)
  have hF : FOpen Fence.wide := .inl rfl
  have hE := Ep.start w
  refine seq_region (live := [10, 9, 0, 1, 2]) (orc := [[.slice ((sv1 0).1) y1.length ((sv1 0).2)], [.slice ((sv2 0).1) y2.length ((sv2 0).2)]]) hF hI ⟨[⟨10, [], .v (.int .i64 0)⟩, ⟨9, [], .v (.int .i64 (mxI (y1.length : Int) (y2.length : Int)))⟩, ⟨0, [], .v (.func (.yield l) #[] #[])⟩, ⟨1, [], .v (.pointer (some B1))⟩, ⟨2, [], .v (.pointer (some B2))⟩], [], [], [], none, none⟩ [.cell true B1 [.slice ((sv1 0).1) y1.length ((sv1 0).2)], .cell true B2 [.slice ((sv2 0).1) y2.length ((sv2 0).2)]] (by kernel_rfl) ⟨ob_el (fun _ => hB1) 0 [.slice ((sv1 0).1) y1.length ((sv1 0).2)] rfl, ob_el (fun _ => hB2) 0 [.slice ((sv2 0).1) y2.length ((sv2 0).2)] rfl, trivial⟩ (fun ns_1 a w_2 hI _ => ?_)
  obtain ⟨hE', hmv, hmr⟩ := Ep.rebase (S0 := S) hE hI
  replace hB1 := El.keep hB1 hmv
  replace hB2 := El.keep hB2 hmv
  replace hE := hE'
  replace hI := hI.rebase
  clear hE' hmv hmr
  have hJ' := hq.new _ _ (Tc (Lo S w w_2 ns_1 []) w_2) _ _ hJ (hE.below hI) Tc.new
  obtain ⟨o_32, hL_33, H0⟩ := bind_some H0
  refine block_loop (fun s1 a w_34 => ∃ (T : Nat → Prop), (El (Kd.slice (Kd.int .u32)) T w_34 B1 y1 sv1) ∧ (El (Kd.slice (Kd.int .u32)) T w_34 B2 y2 sv2) ∧ J s1.2 T w_34 ∧ St w_34 [] 39 ⟨[⟨10, [], .v (.int .i64 s1.1)⟩, ⟨9, [], .v (.int .i64 (mxI (y1.length : Int) (y2.length : Int)))⟩, ⟨0, [], .v (.func (.yield l) #[] #[])⟩, ⟨1, [], .v (.pointer (some B1))⟩, ⟨2, [], .v (.pointer (some B2))⟩], [], [], [], none, none⟩ [] a w_34) (0, s0) hL_33 ⟨_, El.keep hB1 (Tc.mv _ _), El.keep hB2 (Tc.mv _ _), hJ', (hI.pick [10, 9, 0, 1, 2] 0 ⟨[⟨10, [], .v (.int .i64 0)⟩, ⟨9, [], .v (.int .i64 (mxI (y1.length : Int) (y2.length : Int)))⟩, ⟨0, [], .v (.func (.yield l) #[] #[])⟩, ⟨1, [], .v (.pointer (some B1))⟩, ⟨2, [], .v (.pointer (some B2))⟩], [], [], [], none, none⟩ (by kernel_rfl)).reset rfl rfl rfl _⟩ ?_ ?_
  · clear hI hE hJ hJ'
    rintro s1 a w ⟨S, hB1, hB2, hJ, hI⟩ r1 H1
    unfold G_audit_Changed_1.b1 at H1
    have hE := Ep.start w
    replace hB1 := El.lo hB1
    replace hB2 := El.lo hB2
    refine seq_region (live := [11, 10, 9, 0, 1, 2]) (orc := []) hF hI ⟨[⟨11, [], .v (.bool (decide (s1.1 < (mxI (y1.length : Int) (y2.length : Int)))))⟩, ⟨10, [], .v (.int .i64 s1.1)⟩, ⟨9, [], .v (.int .i64 (mxI (y1.length : Int) (y2.length : Int)))⟩, ⟨0, [], .v (.func (.yield l) #[] #[])⟩, ⟨1, [], .v (.pointer (some B1))⟩, ⟨2, [], .v (.pointer (some B2))⟩], [], [], [], none, none⟩ [] (by kernel_rfl) trivial (fun ns_3 a w_4 hI _ => ?_)
    refine wpIn_seq ?_
    refine cond_ hI (decide (s1.1 < (mxI (y1.length : Int) (y2.length : Int)))) rfl (fun hc_5 => ?_) (fun hc_5 => ?_)
    · replace H1 := bif_t hc_5 H1
      refine wpIn_skip ?_
      refine then_normal ?_
      refine wpIn_seq ?_
      refine wpIn_block ?_
      refine seq_region (live := [4, 11, 10, 9, 0, 1, 2]) (orc := []) hF hI ⟨[⟨4, [], .v (.int .i64 s1.1)⟩, ⟨11, [], .v (.bool (decide (s1.1 < (mxI (y1.length : Int) (y2.length : Int)))))⟩, ⟨10, [], .v (.int .i64 s1.1)⟩, ⟨9, [], .v (.int .i64 (mxI (y1.length : Int) (y2.length : Int)))⟩, ⟨0, [], .v (.func (.yield l) #[] #[])⟩, ⟨1, [], .v (.pointer (some B1))⟩, ⟨2, [], .v (.pointer (some B2))⟩], [], [], [], none, none⟩ [] (by kernel_rfl) trivial (fun ns_6 a w_7 hI _ => ?_)
      refine wpIn_seq ?_
      refine wpIn_seq ?_
      obtain ⟨hN_8, H1⟩ := req_some H1
      obtain ⟨sv_9, hE_11, hA_10⟩ := Arr.elB (d := (Kd.int .u32)) (hB1).cont.1 s1.1 (decide (s1.1 < (y1.length : Int)) && decide (s1.1 < (y2.length : Int))) (fun hg => imp_spec hN_8 hg)
      obtain ⟨hN_12, H1⟩ := req_some H1
      obtain ⟨sv_13, hE_15, hA_14⟩ := Arr.elB (d := (Kd.int .u32)) (hB2).cont.1 s1.1 (decide (s1.1 < (y1.length : Int)) && decide (s1.1 < (y2.length : Int))) (fun hg => imp_spec hN_12 hg)
      refine drawn_ (live := [33, 4, 11, 10, 9, 0, 1, 2]) (orc := [[.slice ((sv1 0).1) y1.length ((sv1 0).2)], [.slice ((sv2 0).1) y2.length ((sv2 0).2)], [.slice ((sv1 0).1) y1.length ((sv1 0).2)], [.int .u32 (rd y1 s1.1)], [.slice ((sv2 0).1) y2.length ((sv2 0).2)], [.int .u32 (rd y2 s1.1)]]) hF hI ⟨[⟨33, [], .v (.bool ((decide (s1.1 < (y1.length : Int)) && decide (s1.1 < (y2.length : Int))) && ((rd y1 s1.1) == (rd y2 s1.1))))⟩, ⟨4, [], .v (.int .i64 s1.1)⟩, ⟨11, [], .v (.bool (decide (s1.1 < (mxI (y1.length : Int) (y2.length : Int)))))⟩, ⟨10, [], .v (.int .i64 s1.1)⟩, ⟨9, [], .v (.int .i64 (mxI (y1.length : Int) (y2.length : Int)))⟩, ⟨0, [], .v (.func (.yield l) #[] #[])⟩, ⟨1, [], .v (.pointer (some B1))⟩, ⟨2, [], .v (.pointer (some B2))⟩], [], [], [], none, none⟩ [.cell true B1 [.slice ((sv1 0).1) y1.length ((sv1 0).2)], .cell (decide (s1.1 < (y1.length : Int))) B2 [.slice ((sv2 0).1) y2.length ((sv2 0).2)], .cell (decide (s1.1 < (y1.length : Int)) && decide (s1.1 < (y2.length : Int))) B1 [.slice ((sv1 0).1) y1.length ((sv1 0).2)], .need (decide (s1.1 < (y1.length : Int)) && decide (s1.1 < (y2.length : Int))) (0 ≤ s1.1 ∧ s1.1 < (y1.length : Int)), .need (decide (s1.1 < (y1.length : Int)) && decide (s1.1 < (y2.length : Int))) ((sv1 0).1 = some (adr ((sv1 0).1))), .cell (decide (s1.1 < (y1.length : Int)) && decide (s1.1 < (y2.length : Int))) ((adr ((sv1 0).1)).add ((s1.1 : Int).toNat * 1)) [.int .u32 (rd y1 s1.1)], .cell (decide (s1.1 < (y1.length : Int)) && decide (s1.1 < (y2.length : Int))) B2 [.slice ((sv2 0).1) y2.length ((sv2 0).2)], .need (decide (s1.1 < (y1.length : Int)) && decide (s1.1 < (y2.length : Int))) (0 ≤ s1.1 ∧ s1.1 < (y2.length : Int)), .need (decide (s1.1 < (y1.length : Int)) && decide (s1.1 < (y2.length : Int))) ((sv2 0).1 = some (adr ((sv2 0).1))), .cell (decide (s1.1 < (y1.length : Int)) && decide (s1.1 < (y2.length : Int))) ((adr ((sv2 0).1)).add ((s1.1 : Int).toNat * 1)) [.int .u32 (rd y2 s1.1)]] (by kernel_rfl) (by kernel_rfl) (by kernel_rfl) ⟨ob_el (fun _ => hB1) 0 [.slice ((sv1 0).1) y1.length ((sv1 0).2)] rfl, ob_el (fun _ => hB2) 0 [.slice ((sv2 0).1) y2.length ((sv2 0).2)] rfl, ob_el (fun _ => hB1) 0 [.slice ((sv1 0).1) y1.length ((sv1 0).2)] rfl, ob_inb (fun hg => imp_spec hN_8 hg), hA_10, ob_el (fun hg => hE_11 hg) 0 [.int .u32 (rd y1 s1.1)] rfl, ob_el (fun _ => hB2) 0 [.slice ((sv2 0).1) y2.length ((sv2 0).2)] rfl, ob_inb (fun hg => imp_spec hN_12 hg), hA_14, ob_el (fun hg => hE_15 hg) 0 [.int .u32 (rd y2 s1.1)] rfl, trivial⟩ (fun a w_16 hI => ?_)
      refine then_normal ?_
      refine cond_ hI (((decide (s1.1 < (y1.length : Int)) && decide (s1.1 < (y2.length : Int))) && ((rd y1 s1.1) == (rd y2 s1.1)))) rfl (fun hc_17 => ?_) (fun hc_17 => ?_)
      · replace H1 := bif_t hc_17 H1
        refine wpIn_exit ?_
        refine then_exit ?_
        refine inBlock_here ?_
        refine then_normal ?_
        refine region_ (live := [10, 33, 4, 11, 9, 0, 1, 2]) (orc := []) hF hI ⟨[⟨10, [], .v (.int .i64 (IntKind.i64.wrap (s1.1 + 1)))⟩, ⟨33, [], .v (.bool ((decide (s1.1 < (y1.length : Int)) && decide (s1.1 < (y2.length : Int))) && ((rd y1 s1.1) == (rd y2 s1.1))))⟩, ⟨4, [], .v (.int .i64 s1.1)⟩, ⟨11, [], .v (.bool (decide (s1.1 < (mxI (y1.length : Int) (y2.length : Int)))))⟩, ⟨9, [], .v (.int .i64 (mxI (y1.length : Int) (y2.length : Int)))⟩, ⟨0, [], .v (.func (.yield l) #[] #[])⟩, ⟨1, [], .v (.pointer (some B1))⟩, ⟨2, [], .v (.pointer (some B2))⟩], [], [], [], none, none⟩ [] (by kernel_rfl) trivial (fun ns_18 a w_19 hI _ => ?_)
        refine then_normal ?_
        obtain ⟨hE', hmv, hmr⟩ := Ep.rebase (S0 := S) hE hI
        replace hB1 := El.keep hB1 hmv
        replace hB2 := El.keep hB2 hmv
        replace hE := hE'
        replace hI := hI.rebase
        clear hE' hmv hmr
        have hJ' := hq.new _ _ (Tc (Lo S w w_19 ns_18 []) w_19) _ _ hJ (hE.below hI) Tc.new
        obtain rfl := Option.some.inj H1
        exact ⟨_, rfl, ⟨_, El.keep hB1 (Tc.mv _ _), El.keep hB2 (Tc.mv _ _), hJ', (hI.pick [10, 9, 0, 1, 2] 0 ⟨[⟨10, [], .v (.int .i64 (IntKind.i64.wrap (s1.1 + 1)))⟩, ⟨9, [], .v (.int .i64 (mxI (y1.length : Int) (y2.length : Int)))⟩, ⟨0, [], .v (.func (.yield l) #[] #[])⟩, ⟨1, [], .v (.pointer (some B1))⟩, ⟨2, [], .v (.pointer (some B2))⟩], [], [], [], none, none⟩ (by kernel_rfl)).reset rfl rfl rfl _⟩⟩
      · replace H1 := bif_f hc_17 H1
        refine wpIn_skip ?_
        refine then_normal ?_
        refine wpIn_seq ?_
        refine wpIn_region_lit ?_
        refine chunkL_ (live := [35, 34, 33, 4, 11, 10, 9, 0, 1, 2]) (orc := []) hF 2 hI ⟨[⟨35, [], .v (.int .i64 s1.1)⟩, ⟨34, [], .v (.func (.yield l) #[] #[])⟩, ⟨33, [], .v (.bool ((decide (s1.1 < (y1.length : Int)) && decide (s1.1 < (y2.length : Int))) && ((rd y1 s1.1) == (rd y2 s1.1))))⟩, ⟨4, [], .v (.int .i64 s1.1)⟩, ⟨11, [], .v (.bool (decide (s1.1 < (mxI (y1.length : Int) (y2.length : Int)))))⟩, ⟨10, [], .v (.int .i64 s1.1)⟩, ⟨9, [], .v (.int .i64 (mxI (y1.length : Int) (y2.length : Int)))⟩, ⟨0, [], .v (.func (.yield l) #[] #[])⟩, ⟨1, [], .v (.pointer (some B1))⟩, ⟨2, [], .v (.pointer (some B2))⟩], [], [], [], none, none⟩ [] rfl (by kernel_rfl) trivial (fun ns_20 a w_21 hI => ?_)
        obtain ⟨hE', hmv, hmr⟩ := Ep.rebase (S0 := S) hE hI
        replace hB1 := El.keep hB1 hmv
        replace hB2 := El.keep hB2 hmv
        replace hE := hE'
        replace hI := hI.rebase
        clear hE' hmv hmr
        obtain ⟨hE', hmv⟩ := hE.bare (S0 := S)
        replace hB1 := El.keep hB1 hmv
        replace hB2 := El.keep hB2 hmv
        replace hE := hE'
        replace hI := hI.reset rfl rfl rfl w_21
        clear hE' hmv
        obtain ⟨z_22, hz_23, H1⟩ := bind_some H1
        refine yield_ (S0 := S) hq hF hE hI rfl rfl rfl (wanted_none rfl) rfl rfl rfl hJ s1.1 (svL []) rfl hz_23 trivial ⟨[⟨36, [], .v (.bool true)⟩, ⟨35, [], .v (.int .i64 s1.1)⟩, ⟨34, [], .v (.func (.yield l) #[] #[])⟩, ⟨33, [], .v (.bool ((decide (s1.1 < (y1.length : Int)) && decide (s1.1 < (y2.length : Int))) && ((rd y1 s1.1) == (rd y2 s1.1))))⟩, ⟨4, [], .v (.int .i64 s1.1)⟩, ⟨11, [], .v (.bool (decide (s1.1 < (mxI (y1.length : Int) (y2.length : Int)))))⟩, ⟨10, [], .v (.int .i64 s1.1)⟩, ⟨9, [], .v (.int .i64 (mxI (y1.length : Int) (y2.length : Int)))⟩, ⟨0, [], .v (.func (.yield l) #[] #[])⟩, ⟨1, [], .v (.pointer (some B1))⟩, ⟨2, [], .v (.pointer (some B2))⟩], [], [], [], none, none⟩ ⟨[⟨36, [], .v (.bool false)⟩, ⟨35, [], .v (.int .i64 s1.1)⟩, ⟨34, [], .v (.func (.yield l) #[] #[])⟩, ⟨33, [], .v (.bool ((decide (s1.1 < (y1.length : Int)) && decide (s1.1 < (y2.length : Int))) && ((rd y1 s1.1) == (rd y2 s1.1))))⟩, ⟨4, [], .v (.int .i64 s1.1)⟩, ⟨11, [], .v (.bool (decide (s1.1 < (mxI (y1.length : Int) (y2.length : Int)))))⟩, ⟨10, [], .v (.int .i64 s1.1)⟩, ⟨9, [], .v (.int .i64 (mxI (y1.length : Int) (y2.length : Int)))⟩, ⟨0, [], .v (.func (.yield l) #[] #[])⟩, ⟨1, [], .v (.pointer (some B1))⟩, ⟨2, [], .v (.pointer (some B2))⟩], [], [], [], none, none⟩ (by kernel_rfl) (by kernel_rfl) (fun S s_24 a w hzz hJ' hE' hI' hmv => ?_) (fun r_25 a w hzz hJ' hE' hI' => ?_)
        · subst hzz
          replace hB1 := El.lo (El.keep hB1 hmv)
          replace hB2 := El.lo (El.keep hB2 hmv)
          replace hE := hE'
          replace hI := hI'
          replace hJ := hJ'
          clear hE' hI' hJ' hmv
          replace H1 : (some (.next ((IntKind.i64.wrap (s1.1 + 1)), s_24)) : Option (Stp (Int × σt) (Ex (Int × σt) (Stp σt R)))) = _ := H1
          refine chunkL_ (live := [37, 33, 4, 11, 10, 9, 0, 1, 2]) (orc := []) hF 1 hI ⟨[⟨37, [], .v (.bool false)⟩, ⟨33, [], .v (.bool ((decide (s1.1 < (y1.length : Int)) && decide (s1.1 < (y2.length : Int))) && ((rd y1 s1.1) == (rd y2 s1.1))))⟩, ⟨4, [], .v (.int .i64 s1.1)⟩, ⟨11, [], .v (.bool (decide (s1.1 < (mxI (y1.length : Int) (y2.length : Int)))))⟩, ⟨10, [], .v (.int .i64 s1.1)⟩, ⟨9, [], .v (.int .i64 (mxI (y1.length : Int) (y2.length : Int)))⟩, ⟨0, [], .v (.func (.yield l) #[] #[])⟩, ⟨1, [], .v (.pointer (some B1))⟩, ⟨2, [], .v (.pointer (some B2))⟩], [], [], [], none, none⟩ [] rfl (by kernel_rfl) trivial (fun ns_26 a w_27 hI => ?_)
          refine wpListIn_nil ?_
          refine then_normal ?_
          refine cond_ hI false rfl (fun h => by cases h) (fun _ => ?_)
          refine wpIn_skip ?_
          refine inBlock_normal ?_
          refine then_normal ?_
          refine region_ (live := [10, 37, 33, 4, 11, 9, 0, 1, 2]) (orc := []) hF hI ⟨[⟨10, [], .v (.int .i64 (IntKind.i64.wrap (s1.1 + 1)))⟩, ⟨37, [], .v (.bool false)⟩, ⟨33, [], .v (.bool ((decide (s1.1 < (y1.length : Int)) && decide (s1.1 < (y2.length : Int))) && ((rd y1 s1.1) == (rd y2 s1.1))))⟩, ⟨4, [], .v (.int .i64 s1.1)⟩, ⟨11, [], .v (.bool (decide (s1.1 < (mxI (y1.length : Int) (y2.length : Int)))))⟩, ⟨9, [], .v (.int .i64 (mxI (y1.length : Int) (y2.length : Int)))⟩, ⟨0, [], .v (.func (.yield l) #[] #[])⟩, ⟨1, [], .v (.pointer (some B1))⟩, ⟨2, [], .v (.pointer (some B2))⟩], [], [], [], none, none⟩ [] (by kernel_rfl) trivial (fun ns_28 a w_29 hI _ => ?_)
          refine then_normal ?_
          obtain ⟨hE', hmv, hmr⟩ := Ep.rebase (S0 := S) hE hI
          replace hB1 := El.keep hB1 hmv
          replace hB2 := El.keep hB2 hmv
          replace hE := hE'
          replace hI := hI.rebase
          clear hE' hmv hmr
          have hJ' := hq.new _ _ (Tc (Lo S w w_29 ns_28 []) w_29) _ _ hJ (hE.below hI) Tc.new
          obtain rfl := Option.some.inj H1
          exact ⟨_, rfl, ⟨_, El.keep hB1 (Tc.mv _ _), El.keep hB2 (Tc.mv _ _), hJ', (hI.pick [10, 9, 0, 1, 2] 0 ⟨[⟨10, [], .v (.int .i64 (IntKind.i64.wrap (s1.1 + 1)))⟩, ⟨9, [], .v (.int .i64 (mxI (y1.length : Int) (y2.length : Int)))⟩, ⟨0, [], .v (.func (.yield l) #[] #[])⟩, ⟨1, [], .v (.pointer (some B1))⟩, ⟨2, [], .v (.pointer (some B2))⟩], [], [], [], none, none⟩ (by kernel_rfl)).reset rfl rfl rfl _⟩⟩
        · subst hzz
          replace hE := hE'
          replace hI := hI'
          replace hJ := hJ'
          clear hE' hI' hJ'
          replace H1 : (some (.out (.ret (.out r_25))) : Option (Stp (Int × σt) (Ex (Int × σt) (Stp σt R)))) = _ := H1
          refine chunkL_ (live := [37, 33, 4, 11, 10, 9, 0, 1, 2]) (orc := []) hF 1 hI ⟨[⟨37, [], .v (.bool true)⟩, ⟨33, [], .v (.bool ((decide (s1.1 < (y1.length : Int)) && decide (s1.1 < (y2.length : Int))) && ((rd y1 s1.1) == (rd y2 s1.1))))⟩, ⟨4, [], .v (.int .i64 s1.1)⟩, ⟨11, [], .v (.bool (decide (s1.1 < (mxI (y1.length : Int) (y2.length : Int)))))⟩, ⟨10, [], .v (.int .i64 s1.1)⟩, ⟨9, [], .v (.int .i64 (mxI (y1.length : Int) (y2.length : Int)))⟩, ⟨0, [], .v (.func (.yield l) #[] #[])⟩, ⟨1, [], .v (.pointer (some B1))⟩, ⟨2, [], .v (.pointer (some B2))⟩], [], [], [], none, none⟩ [] rfl (by kernel_rfl) trivial (fun ns_30 a w_31 hI => ?_)
          refine wpListIn_nil ?_
          refine then_normal ?_
          refine cond_ hI true rfl (fun _ => ?_) (fun h => by cases h)
          refine wpIn_ret ?_
          refine inBlock_ret ?_
          refine then_ret ?_
          refine then_ret ?_
          obtain rfl := Option.some.inj H1
          refine .inr ⟨_, rfl, fun ho => ?_⟩
          subst ho
          refine inBlock_ret ?_
          obtain rfl := Option.some.inj H0
          exact retG hI rfl rfl ⟨⟨_, rfl⟩, SeqPost.fin (hq.stop _ _ _ hJ (hE.below hI))⟩
    · replace H1 := bif_f hc_5 H1
      refine wpIn_exit ?_
      refine then_exit ?_
      refine then_exit ?_
      obtain ⟨hE', hmv, hmr⟩ := Ep.rebase (S0 := S) hE hI
      replace hB1 := El.keep hB1 hmv
      replace hB2 := El.keep hB2 hmv
      replace hE := hE'
      replace hI := hI.rebase
      clear hE' hmv hmr
      have hJ' := hq.new _ _ (Tc (Lo S w w_4 ns_3 []) w_4) _ _ hJ (hE.below hI) Tc.new
      obtain rfl := Option.some.inj H1
      exact .inl ⟨_, rfl, rfl, ⟨_, El.keep hB1 (Tc.mv _ _), El.keep hB2 (Tc.mv _ _), hJ', (hI.pick [10, 9, 0, 1, 2] 0 ⟨[⟨10, [], .v (.int .i64 s1.1)⟩, ⟨9, [], .v (.int .i64 (mxI (y1.length : Int) (y2.length : Int)))⟩, ⟨0, [], .v (.func (.yield l) #[] #[])⟩, ⟨1, [], .v (.pointer (some B1))⟩, ⟨2, [], .v (.pointer (some B2))⟩], [], [], [], none, none⟩ (by kernel_rfl)).reset rfl rfl rfl _⟩⟩
  · clear hI hE hJ hJ'
    rintro s1 a w ho ⟨S, hB1, hB2, hJ, hI⟩
    subst ho
    replace H0 : (some (.next s1.2) : Option (Stp σt R)) = _ := H0
    have hE := Ep.start w
    replace hB1 := El.lo hB1
    replace hB2 := El.lo hB2
    obtain rfl := Option.some.inj H0
    exact retN (retG hI rfl rfl ⟨⟨_, rfl⟩, SeqPost.nxt (fun _ => False) (hq.new _ _ _ _ _ hJ (hE.below hI) (fun _ h => h.elim))⟩)

/-! ### porthole/audit.Changed: function 49 -/
noncomputable def G_audit_Changed (l0 : (List Int)) (l1 : (List Int)) : Option (((List Int) × (List Int))) := some (l0, l1)
set_option maxRecDepth 100000 in
set_option maxHeartbeats 4000000 in
theorem G_audit_Changed.calls (l0 : (List Int)) (l1 : (List Int)) (A0 : Option Addr) (c0 : Nat) (A1 : Option Addr) (c1 : Nat) (w : World) {S : Nat → Prop} (hr0 : Arr (Kd.int .u32) S w A0 l0) (hc0 : l0.length ≤ c0) (hr1 : Arr (Kd.int .u32) S w A1 l1) (hc1 : l1.length ≤ c1) (r : ((List Int) × (List Int))) (h : G_audit_Changed l0 l1 = some r) :
    Calls Try.prog 49 #[.slice A0 l0.length c0, .slice A1 l1.length c1] w fun e w' => ∃ sv : SV, e = .returned (.func (.func 62) #[] #[.pointer (some (adr (sv 0).1)), .pointer (some (adr (sv 2).1))]) ∧ Below w.heap.size w w' ∧ El (Kd.slice (Kd.int .u32)) (fun b => w.heap.size ≤ b ∨ S b) w' (adr (sv 0).1) r.1 (svO sv 1) ∧ El (Kd.slice (Kd.int .u32)) (fun b => w.heap.size ≤ b ∨ S b) w' (adr (sv 2).1) r.2 (svO sv 3) := by
  replace hr0 := Arr.lo hr0
  replace hr1 := Arr.lo hr1
  unfold G_audit_Changed at h
  have H0 := h
  clear h
  refine enter Try.func49 rfl [.slice A0 l0.length c0, .slice A1 l1.length c1] (n := 6) rfl (Nat.le_of_ble_eq_true rfl) (fun a hI => ?_)
  have hF : FOpen Fence.wide := .inl rfl
  have hE := Ep.start w
  refine seq_region (live := [4, 3, 2, 0, 1]) (orc := []) hF hI ⟨[⟨4, [], .v (.nilFunc)⟩, ⟨3, [], .p 1 0⟩, ⟨2, [], .p 0 0⟩, ⟨0, [], .v (.slice A0 l0.length c0)⟩, ⟨1, [], .v (.slice A1 l1.length c1)⟩], [], [], [([.v (.slice A0 l0.length c0)], 47), ([.v (.slice A1 l1.length c1)], 47)], none, none⟩ [] (by kernel_rfl) trivial (fun ns_1 a w_2 hI _ => ?_)
  refine wpIn_seq ?_
  refine wpIn_region_lit ?_
  obtain ⟨hE', hmv, hmr⟩ := Ep.rebase (S0 := S) hE hI
  replace hr0 := Arr.keep hr0 hmv
  replace hr1 := Arr.keep hr1 hmv
  replace hE := hE'
  replace hI := hI.rebase
  clear hE' hmv hmr
  have hct := contI (S := Lo S w w_2 ns_1 []) (w := w_2) (d := (Kd.slice (Kd.int .u32))) (x := l0) (sv := (svL [(A0, c0)])) ⟨hr0, hc0⟩
  obtain ⟨B_3, ns_5, hE', hI', hmv, hB_4⟩ := freeze_ (S0 := S) (d := (Kd.slice (Kd.int .u32))) hE hI 0 l0 (svL [(A0, c0)]) 47 rfl
  replace hB_4 := hB_4 hct
  clear hct
  have hmr : ∀ b : Nat, some b ∈ ([] : List (Option Nat)) → w_2.heap[b]? = w_2.heap[b]? := fun _ _ => rfl
  replace hr0 := Arr.keep hr0 hmv
  replace hr1 := Arr.keep hr1 hmv
  replace hE := hE'
  replace hI := hI'
  clear hE' hI' hmv hmr
  obtain ⟨ns_6, hE', hI', hmv⟩ := hE.cut (S0 := S) hI [4, 3, 2, 0, 1] 1 ⟨[⟨4, [], .v (.nilFunc)⟩, ⟨3, [], .p 0 0⟩, ⟨2, [], .v (.pointer (some B_3))⟩, ⟨0, [], .v (.slice A0 l0.length c0)⟩, ⟨1, [], .v (.slice A1 l1.length c1)⟩], [], [], [([.v (.slice A1 l1.length c1)], 47)], none, none⟩ (by kernel_rfl)
  have hmr : ∀ b : Nat, some b ∈ ([] : List (Option Nat)) → w_2.heap[b]? = w_2.heap[b]? := fun _ _ => rfl
  replace hr0 := Arr.keep hr0 hmv
  replace hr1 := Arr.keep hr1 hmv
  replace hB_4 := El.keep hB_4 hmv
  replace hE := hE'
  replace hI := hI'
  clear hE' hI' hmv hmr
  have hct := contI (S := Lo S w w_2 ns_6 []) (w := w_2) (d := (Kd.slice (Kd.int .u32))) (x := l1) (sv := (svL [(A1, c1)])) ⟨hr1, hc1⟩
  obtain ⟨B_7, ns_9, hE', hI', hmv, hB_8⟩ := freeze_ (S0 := S) (d := (Kd.slice (Kd.int .u32))) hE hI 0 l1 (svL [(A1, c1)]) 47 rfl
  replace hB_8 := hB_8 hct
  clear hct
  have hmr : ∀ b : Nat, some b ∈ ([] : List (Option Nat)) → w_2.heap[b]? = w_2.heap[b]? := fun _ _ => rfl
  replace hr0 := Arr.keep hr0 hmv
  replace hr1 := Arr.keep hr1 hmv
  replace hB_4 := El.keep hB_4 hmv
  replace hE := hE'
  replace hI := hI'
  clear hE' hI' hmv hmr
  obtain ⟨ns_10, hE', hI', hmv⟩ := hE.cut (S0 := S) hI [4, 3, 2, 0, 1] 0 ⟨[⟨4, [], .v (.nilFunc)⟩, ⟨3, [], .v (.pointer (some B_7))⟩, ⟨2, [], .v (.pointer (some B_3))⟩, ⟨0, [], .v (.slice A0 l0.length c0)⟩, ⟨1, [], .v (.slice A1 l1.length c1)⟩], [], [], [], none, none⟩ (by kernel_rfl)
  have hmr : ∀ b : Nat, some b ∈ ([] : List (Option Nat)) → w_2.heap[b]? = w_2.heap[b]? := fun _ _ => rfl
  replace hr0 := Arr.keep hr0 hmv
  replace hr1 := Arr.keep hr1 hmv
  replace hB_4 := El.keep hB_4 hmv
  replace hB_8 := El.keep hB_8 hmv
  replace hE := hE'
  replace hI := hI'
  clear hE' hI' hmv hmr
  refine chunkL_ (live := [5, 4, 3, 2, 0, 1]) (orc := []) hF 1 hI ⟨[⟨5, [], .v (.func (.func 62) #[] #[.pointer (some B_3), .pointer (some B_7)])⟩, ⟨4, [], .v (.nilFunc)⟩, ⟨3, [], .v (.pointer (some B_7))⟩, ⟨2, [], .v (.pointer (some B_3))⟩, ⟨0, [], .v (.slice A0 l0.length c0)⟩, ⟨1, [], .v (.slice A1 l1.length c1)⟩], [], [], [], none, none⟩ [] rfl (by kernel_rfl) trivial (fun ns_11 a w_12 hI => ?_)
  refine chunkL_ (live := [4, 3, 2, 0, 1]) (orc := []) hF 1 hI ⟨[⟨4, [], .v (.func (.func 62) #[] #[.pointer (some B_3), .pointer (some B_7)])⟩, ⟨3, [], .v (.pointer (some B_7))⟩, ⟨2, [], .v (.pointer (some B_3))⟩, ⟨0, [], .v (.slice A0 l0.length c0)⟩, ⟨1, [], .v (.slice A1 l1.length c1)⟩], [], [], [], none, none⟩ [] rfl (by kernel_rfl) trivial (fun ns_13 a w_14 hI => ?_)
  refine wpListIn_nil ?_
  refine then_normal ?_
  refine wpIn_ret ?_
  obtain rfl := Option.some.inj H0
  exact ret1 hI rfl rfl ⟨svL [(some B_3, 0), ((svL [(A0, c0)]) 0), (some B_7, 0), ((svL [(A1, c1)]) 0)], rfl, hE.below hI, ⟨(El.keep hB_4 (hE.out hI)).cont, (El.keep hB_4 (hE.out hI)).at_, (El.keep hB_4 (hE.out hI)).cells⟩, ⟨(El.keep hB_8 (hE.out hI)).cont, (El.keep hB_8 (hE.out hI)).at_, (El.keep hB_8 (hE.out hI)).cells⟩⟩

/-! ### porthole/portholelaw22.told: function 32 -/
noncomputable def G_law22_told.r1 (l0 : (List Int)) (l1 : (List Int)) (a2 : Int) (t_7 : ((List Int) × (List Int))) (s1 : (List Int)) (y_33 : Int) : Option (Stp ((List Int)) (Nat × ((List Int)))) := (bif decide ((s1.length : Int) ≥ a2) then some (.out (0, s1)) else (req (decide ((s1.length + 1) * 8 ≤ 140737488355328)) (some (.next (s1 ++ [y_33])))))
noncomputable def G_law22_told (l0 : (List Int)) (l1 : (List Int)) (a2 : Int) : Option ((List Int)) := ((G_audit_Changed l0 l1).bind fun t_7 => ((G_audit_Changed_1 (G_law22_told.r1 l0 l1 a2 t_7) ([] : List Int) t_7.1 t_7.2).bind fun z => z.on (fun s1 => some s1) (fun r1 => some r1.2)))
set_option maxRecDepth 100000 in
set_option maxHeartbeats 4000000 in
theorem G_law22_told.calls (l0 : (List Int)) (l1 : (List Int)) (a2 : Int) (A0 : Option Addr) (c0 : Nat) (A1 : Option Addr) (c1 : Nat) (w : World) {S : Nat → Prop} (hr0 : Arr (Kd.int .u32) S w A0 l0) (hc0 : l0.length ≤ c0) (hr1 : Arr (Kd.int .u32) S w A1 l1) (hc1 : l1.length ≤ c1) (r : (List Int)) (h : G_law22_told l0 l1 a2 = some r) :
    Calls Try.prog 32 #[.slice A0 l0.length c0, .slice A1 l1.length c1, .int .i64 a2] w fun e w' => ∃ sv : SV, e = .returned (.slice ((sv 0).1) r.length ((sv 0).2)) ∧ Below w.heap.size w w' ∧ (Arr (Kd.int .i64) (fun b => w.heap.size ≤ b ∨ S b) w' (sv 0).1 r ∧ r.length ≤ (sv 0).2) := by
  replace hr0 := Arr.lo hr0
  replace hr1 := Arr.lo hr1
  unfold G_law22_told at h
  have H0 := h
  clear h
  refine enterM Try.func32 rfl [.slice A0 l0.length c0, .slice A1 l1.length c1, .int .i64 a2] (n := 26) rfl (Nat.le_of_ble_eq_true rfl) (fun a hI => ?_)
  have hF : FOpen Fence.wide := .inl rfl
  have hE := Ep.start w
  refine seq_region (live := [6, 5, 0, 1, 2]) (orc := []) hF hI ⟨[⟨6, [], .v (.slice none 0 0)⟩, ⟨5, [], .p 0 0⟩, ⟨0, [], .v (.slice A0 l0.length c0)⟩, ⟨1, [], .v (.slice A1 l1.length c1)⟩, ⟨2, [], .v (.int .i64 a2)⟩], [], [], [([.v (.int .i64 a2)], 3)], some (w.heap.size, none), none⟩ [] (by kernel_rfl) trivial (fun ns_1 a w_2 hI _ => ?_)
  refine seq_region (live := [7, 6, 5, 0, 1, 2]) (orc := []) hF hI ⟨[⟨7, [], .p 1 0⟩, ⟨6, [], .v (.slice none 0 0)⟩, ⟨5, [], .p 0 0⟩, ⟨0, [], .v (.slice A0 l0.length c0)⟩, ⟨1, [], .v (.slice A1 l1.length c1)⟩, ⟨2, [], .v (.int .i64 a2)⟩], [], [], [([.v (.int .i64 a2)], 3), ([.v (.slice none 0 0)], 39)], some (w.heap.size, none), none⟩ [] (by kernel_rfl) trivial (fun ns_3 a w_4 hI _ => ?_)
  refine wpIn_seq ?_
  refine wpIn_seq ?_
  refine wpIn_region_lit ?_
  refine chunkL_ (live := [11, 10, 7, 6, 5, 0, 1, 2]) (orc := []) hF 2 hI ⟨[⟨11, [], .v (.slice A1 l1.length c1)⟩, ⟨10, [], .v (.slice A0 l0.length c0)⟩, ⟨7, [], .p 1 0⟩, ⟨6, [], .v (.slice none 0 0)⟩, ⟨5, [], .p 0 0⟩, ⟨0, [], .v (.slice A0 l0.length c0)⟩, ⟨1, [], .v (.slice A1 l1.length c1)⟩, ⟨2, [], .v (.int .i64 a2)⟩], [], [], [([.v (.int .i64 a2)], 3), ([.v (.slice none 0 0)], 39)], some (w.heap.size, none), none⟩ [] rfl (by kernel_rfl) trivial (fun ns_5 a w_6 hI => ?_)
  obtain ⟨hE', hmv, hmr⟩ := Ep.rebase (S0 := S) hE hI
  replace hr0 := Arr.keep hr0 hmv
  replace hr1 := Arr.keep hr1 hmv
  replace hE := hE'
  replace hI := hI.rebase
  clear hE' hmv hmr
  obtain ⟨t_7, hG_8, H0⟩ := bind_some H0
  refine callH_ (S0 := S) hF hE hI (wanted_none rfl) rfl (args := [.slice A0 l0.length c0, .slice A1 l1.length c1]) rfl (enters Try.func49 (by kernel_rfl) rfl) (fun sv_9 => .func (.func 62) #[] #[.pointer (some (adr (sv_9 0).1)), .pointer (some (adr (sv_9 2).1))]) _ (G_audit_Changed.calls l0 l1 A0 c0 A1 c1 w_6 (S := Lo S w w_6 ns_5 []) hr0 hc0 hr1 hc1 _ hG_8) (fun sv_9 => ⟨[⟨12, [], .v (.func (.func 62) #[] #[.pointer (some (adr (sv_9 0).1)), .pointer (some (adr (sv_9 2).1))])⟩, ⟨11, [], .v (.slice A1 l1.length c1)⟩, ⟨10, [], .v (.slice A0 l0.length c0)⟩, ⟨7, [], .p 1 0⟩, ⟨6, [], .v (.slice none 0 0)⟩, ⟨5, [], .p 0 0⟩, ⟨0, [], .v (.slice A0 l0.length c0)⟩, ⟨1, [], .v (.slice A1 l1.length c1)⟩, ⟨2, [], .v (.int .i64 a2)⟩], [], [], [([.v (.int .i64 a2)], 3), ([.v (.slice none 0 0)], 39)], some (w.heap.size, none), none⟩) (fun sv_9 => by kernel_rfl) (fun sv_9 a w_12 hput hE' hI' hmv hmr hres hR => ?_)
  replace hr0 := Arr.keep hr0 hmv
  replace hr1 := Arr.keep hr1 hmv
  replace hE := hE'
  replace hI := hI'
  clear hE' hI' hmv hmr
  obtain ⟨hR_10, hR_11⟩ := hR
  replace hR_10 := El.keep hR_10 hres
  replace hR_11 := El.keep hR_11 hres
  clear hres
  refine chunkL_ (live := [8, 7, 6, 5, 0, 1, 2]) (orc := []) hF 1 hI ⟨[⟨8, [], .v (.func (.func 62) #[] #[.pointer (some (adr (sv_9 0).1)), .pointer (some (adr (sv_9 2).1))])⟩, ⟨7, [], .p 1 0⟩, ⟨6, [], .v (.slice none 0 0)⟩, ⟨5, [], .p 0 0⟩, ⟨0, [], .v (.slice A0 l0.length c0)⟩, ⟨1, [], .v (.slice A1 l1.length c1)⟩, ⟨2, [], .v (.int .i64 a2)⟩], [], [], [([.v (.int .i64 a2)], 3), ([.v (.slice none 0 0)], 39)], some (w.heap.size, none), none⟩ [] rfl (by kernel_rfl) trivial (fun ns_13 a w_14 hI => ?_)
  refine wpListIn_nil ?_
  refine then_normal ?_
  refine seq_region (live := [14, 8, 7, 6, 5, 0, 1, 2]) (orc := []) hF hI ⟨[⟨14, [], .v (.bool true)⟩, ⟨8, [], .v (.func (.func 62) #[] #[.pointer (some (adr (sv_9 0).1)), .pointer (some (adr (sv_9 2).1))])⟩, ⟨7, [], .p 1 0⟩, ⟨6, [], .v (.slice none 0 0)⟩, ⟨5, [], .p 0 0⟩, ⟨0, [], .v (.slice A0 l0.length c0)⟩, ⟨1, [], .v (.slice A1 l1.length c1)⟩, ⟨2, [], .v (.int .i64 a2)⟩], [], [], [([.v (.int .i64 a2)], 3), ([.v (.slice none 0 0)], 39)], some (w.heap.size, none), none⟩ [] (by kernel_rfl) trivial (fun ns_15 a w_16 hI _ => ?_)
  refine cond_ hI true rfl (fun _ => ?_) (fun h => by cases h)
  refine seq_region (live := [15, 14, 8, 7, 6, 5, 0, 1, 2]) (orc := []) hF hI ⟨[⟨15, [], .v (.func (.func 62) #[] #[.pointer (some (adr (sv_9 0).1)), .pointer (some (adr (sv_9 2).1))])⟩, ⟨14, [], .v (.bool true)⟩, ⟨8, [], .v (.func (.func 62) #[] #[.pointer (some (adr (sv_9 0).1)), .pointer (some (adr (sv_9 2).1))])⟩, ⟨7, [], .p 1 0⟩, ⟨6, [], .v (.slice none 0 0)⟩, ⟨5, [], .p 0 0⟩, ⟨0, [], .v (.slice A0 l0.length c0)⟩, ⟨1, [], .v (.slice A1 l1.length c1)⟩, ⟨2, [], .v (.int .i64 a2)⟩], [], [], [([.v (.int .i64 a2)], 3), ([.v (.slice none 0 0)], 39)], some (w.heap.size, none), none⟩ [] (by kernel_rfl) trivial (fun ns_17 a w_18 hI _ => ?_)
  refine wpIn_block ?_
  obtain ⟨hE', hmv, hmr⟩ := Ep.rebase (S0 := S) hE hI
  replace hr0 := Arr.keep hr0 hmv
  replace hr1 := Arr.keep hr1 hmv
  replace hR_10 := El.keep hR_10 hmv
  replace hR_11 := El.keep hR_11 hmv
  replace hE := hE'
  replace hI := hI.rebase
  clear hE' hmv hmr
  obtain ⟨hE', hmv⟩ := Ep.addNil (S0 := S) hE
  have hmr : ∀ b : Nat, some b ∈ ([] : List (Option Nat)) → w_18.heap[b]? = w_18.heap[b]? := fun _ _ => rfl
  replace hr0 := Arr.keep hr0 hmv
  replace hr1 := Arr.keep hr1 hmv
  replace hR_10 := El.keep hR_10 hmv
  replace hR_11 := El.keep hR_11 hmv
  replace hE := hE'
  clear hE' hmv hmr
  have hq_19 : Row (Kd.int .i64) 3 (Lo S w w_18 ns_17 [rb none]) w_18 w.heap.size none 0 ([] : List Int) := Row.nil
  obtain ⟨ns_20, hE', hI', hmv⟩ := hE.cut (S0 := S) hI [15, 14, 8, 7, 6, 5, 0, 1, 2] 2 ⟨[⟨15, [], .v (.func (.func 62) #[] #[.pointer (some (adr (sv_9 0).1)), .pointer (some (adr (sv_9 2).1))])⟩, ⟨14, [], .v (.bool true)⟩, ⟨8, [], .v (.func (.func 62) #[] #[.pointer (some (adr (sv_9 0).1)), .pointer (some (adr (sv_9 2).1))])⟩, ⟨7, [], .p 1 0⟩, ⟨6, [], .v (.slice none 0 0)⟩, ⟨5, [], .p 0 0⟩, ⟨0, [], .v (.slice A0 l0.length c0)⟩, ⟨1, [], .v (.slice A1 l1.length c1)⟩, ⟨2, [], .v (.int .i64 a2)⟩], [], [], [([.v (.int .i64 a2)], 3), ([.v (.slice none ([] : List Int).length 0)], 39)], some (w.heap.size, none), none⟩ (by kernel_rfl)
  have hmr : ∀ b : Nat, some b ∈ ([rb none] : List (Option Nat)) → w_18.heap[b]? = w_18.heap[b]? := fun _ _ => rfl
  replace hr0 := Arr.keep hr0 hmv
  replace hr1 := Arr.keep hr1 hmv
  replace hR_10 := El.keep hR_10 hmv
  replace hR_11 := El.keep hR_11 hmv
  replace hq_19 := Row.keep hq_19 hmv (fun b hb => hmr b (by rw [← hb]; first | (simp; done) | simp [rb]))
  replace hE := hE'
  replace hI := hI'
  clear hE' hI' hmv hmr
  obtain ⟨z_26, hz_27, H0⟩ := bind_some H0
  refine rangeFunc_ (S0 := S) (ps := [16]) hE hI rfl (Nat.le_refl _) (lb := [.pointer (some (adr (sv_9 0).1)), .pointer (some (adr (sv_9 2).1))]) rfl (enters Try.func62 (by kernel_rfl) rfl) (fun l_23 aR_24 w_25 haR_32 hE' hI' hmv hmr => ?_)
  replace hr0 := Arr.keep hr0 hmv
  replace hr1 := Arr.keep hr1 hmv
  replace hR_10 := El.keep hR_10 hmv
  replace hR_11 := El.keep hR_11 hmv
  replace hq_19 := Row.keep hq_19 hmv (fun b hb => hmr b (by rw [← hb]; first | (simp; done) | simp [rb]))
  replace hE := hE'
  replace hI := hI'
  clear hE' hI' hmv hmr
  refine ⟨(List Int), Int, Nat × ((List Int)), G_audit_Changed_1.enc, G_audit_Changed_1.fct, G_law22_told.r1 l0 l1 a2 t_7, (fun (s1 : (List Int)) (T : Nat → Prop) (W : World) => ∃ (A_21 : Option Addr) (c_22 : Nat), (Arr (Kd.int .u32) (Lo S w W ns_20 [rb A_21, some l_23]) W A0 l0) ∧ (Arr (Kd.int .u32) (Lo S w W ns_20 [rb A_21, some l_23]) W A1 l1) ∧ (El (Kd.slice (Kd.int .u32)) (Lo S w W ns_20 [rb A_21, some l_23]) W (adr (sv_9 0).1) t_7.1 (svO sv_9 1)) ∧ (El (Kd.slice (Kd.int .u32)) (Lo S w W ns_20 [rb A_21, some l_23]) W (adr (sv_9 2).1) t_7.2 (svO sv_9 3)) ∧ (Row (Kd.int .i64) 3 (Lo S w W ns_20 [rb A_21, some l_23]) W w.heap.size A_21 c_22 s1) ∧ Ep w W ns_20 [rb A_21, some l_23] ∧ Inv W ns_20 26 ⟨[⟨15, [], .v (.func (.func 62) #[] #[.pointer (some (adr (sv_9 0).1)), .pointer (some (adr (sv_9 2).1))])⟩, ⟨14, [], .v (.bool true)⟩, ⟨8, [], .v (.func (.func 62) #[] #[.pointer (some (adr (sv_9 0).1)), .pointer (some (adr (sv_9 2).1))])⟩, ⟨7, [], .p 1 0⟩, ⟨6, [], .v (.slice none 0 0)⟩, ⟨5, [], .p 0 0⟩, ⟨0, [], .v (.slice A0 l0.length c0)⟩, ⟨1, [], .v (.slice A1 l1.length c1)⟩, ⟨2, [], .v (.int .i64 a2)⟩], [], [], [([.v (.int .i64 a2)], 3), ([.v (.slice A_21 s1.length c_22)], 39)], some (w.heap.size, none), none⟩ ns_20 aR_24 W ∧ Tk T W (Lo S w W ns_20 [rb A_21, some l_23]) W), (fun (r : Nat × ((List Int))) (W : World) => ∃ (A_21 : Option Addr) (c_22 : Nat), (Arr (Kd.int .u32) (Lo S w W ns_20 [rb A_21, some l_23]) W A0 l0) ∧ (Arr (Kd.int .u32) (Lo S w W ns_20 [rb A_21, some l_23]) W A1 l1) ∧ (El (Kd.slice (Kd.int .u32)) (Lo S w W ns_20 [rb A_21, some l_23]) W (adr (sv_9 0).1) t_7.1 (svO sv_9 1)) ∧ (El (Kd.slice (Kd.int .u32)) (Lo S w W ns_20 [rb A_21, some l_23]) W (adr (sv_9 2).1) t_7.2 (svO sv_9 3)) ∧ (Row (Kd.int .i64) 3 (Lo S w W ns_20 [rb A_21, some l_23]) W w.heap.size A_21 c_22 r.2) ∧ Ep w W ns_20 [rb A_21, some l_23] ∧ Inv W ns_20 26 ⟨[⟨15, [], .v (.func (.func 62) #[] #[.pointer (some (adr (sv_9 0).1)), .pointer (some (adr (sv_9 2).1))])⟩, ⟨14, [], .v (.bool true)⟩, ⟨8, [], .v (.func (.func 62) #[] #[.pointer (some (adr (sv_9 0).1)), .pointer (some (adr (sv_9 2).1))])⟩, ⟨7, [], .p 1 0⟩, ⟨6, [], .v (.slice none 0 0)⟩, ⟨5, [], .p 0 0⟩, ⟨0, [], .v (.slice A0 l0.length c0)⟩, ⟨1, [], .v (.slice A1 l1.length c1)⟩, ⟨2, [], .v (.int .i64 a2)⟩], [], [], [([.v (.int .i64 a2)], 3), ([.v (.slice A_21 r.2.length c_22)], 39)], some (w.heap.size, none), none⟩ ns_20 aR_24 W), (fun r => .exit 0), ([] : List Int), Tc (Lo S w w_25 ns_20 [rb none, some l_23]) w_25, z_26, fun _ _ => rfl, ?_, ?_, ?_, ?_, ?_, ?_, ?_⟩
  · rintro s1 T T' A B row ⟨A_21, c_22, hr0, hr1, hR_10, hR_11, hq_19, hE, hI, hT_28⟩ hg hrow hT'
    obtain ⟨hE', hI', hmv, hmr⟩ := hE.turn (S0 := S) hI hg (by simp) hrow
    replace hr0 := Arr.keep hr0 hmv
    replace hr1 := Arr.keep hr1 hmv
    replace hR_10 := El.keep hR_10 hmv
    replace hR_11 := El.keep hR_11 hmv
    replace hq_19 := Row.keep hq_19 hmv (fun b hb => hmr b (by rw [← hb]; first | (simp; done) | simp [rb]) (Ep.ne hE (i := 1) (j := 0) (by decide) rfl rfl hb))
    exact ⟨A_21, c_22, hr0, hr1, hR_10, hR_11, hq_19, hE', hI', hT_28.turn hmv hE hT'⟩
  · rintro r A B row ⟨A_21, c_22, hr0, hr1, hR_10, hR_11, hq_19, hE, hI⟩ hg hrow
    obtain ⟨hE', hI', hmv, hmr⟩ := hE.turn (S0 := S) hI hg (by simp) hrow
    replace hr0 := Arr.keep hr0 hmv
    replace hr1 := Arr.keep hr1 hmv
    replace hR_10 := El.keep hR_10 hmv
    replace hR_11 := El.keep hR_11 hmv
    replace hq_19 := Row.keep hq_19 hmv (fun b hb => hmr b (by rw [← hb]; first | (simp; done) | simp [rb]) (Ep.ne hE (i := 1) (j := 0) (by decide) rfl rfl hb))
    exact ⟨A_21, c_22, hr0, hr1, hR_10, hR_11, hq_19, hE', hI'⟩
  · intro J Jx hq hJ
    exact G_audit_Changed_1.calls _ _ t_7.1 t_7.2 (adr (sv_9 0).1) (svO sv_9 1) (adr (sv_9 2).1) (svO sv_9 3) _ w_25 (S := Tc (Lo S w w_25 ns_20 [rb none, some l_23]) w_25) (El.keep hR_10 (Tc.mv _ _)) (El.keep hR_11 (Tc.mv _ _)) hq hJ _ hz_27
  · exact ⟨none, 0, hr0, hr1, hR_10, hR_11, hq_19, hE, hI, Tk.new _ _⟩
  · rintro s1 y_33 sv_34 T_36 w_35 z hz ⟨A_21, c_22, hr0, hr1, hR_10, hR_11, hq_19, hE, hO, hT_28⟩ hf_37 oo_30 ho_31 hl_29
    unfold G_law22_told.r1 at hz
    have H1 := hz
    clear hz
    have hF : FOpen (Fence.wide.inRound l_23) := .inr ⟨l_23, rfl⟩
    have hI : Inv w_35 ns_20 26 ⟨[⟨16, [], .v (.int .i64 y_33)⟩, ⟨15, [], .v (.func (.func 62) #[] #[.pointer (some (adr (sv_9 0).1)), .pointer (some (adr (sv_9 2).1))])⟩, ⟨14, [], .v (.bool true)⟩, ⟨8, [], .v (.func (.func 62) #[] #[.pointer (some (adr (sv_9 0).1)), .pointer (some (adr (sv_9 2).1))])⟩, ⟨7, [], .p 1 0⟩, ⟨6, [], .v (.slice none 0 0)⟩, ⟨5, [], .p 0 0⟩, ⟨0, [], .v (.slice A0 l0.length c0)⟩, ⟨1, [], .v (.slice A1 l1.length c1)⟩, ⟨2, [], .v (.int .i64 a2)⟩], [], [], [([.v (.int .i64 a2)], 3), ([.v (.slice A_21 s1.length c_22)], 39)], some (w.heap.size, some aR_24.defers), some (2, ns_20)⟩ ns_20 _ w_35 := hO.round rfl rfl rfl [16] (G_audit_Changed_1.enc y_33 sv_34) (by kernel_rfl) (by kernel_rfl) _ haR_32
    refine region_ (live := [9, 16, 15, 14, 8, 7, 6, 5, 0, 1, 2]) (orc := []) hF hI ⟨[⟨9, [], .v (.int .i64 y_33)⟩, ⟨16, [], .v (.int .i64 y_33)⟩, ⟨15, [], .v (.func (.func 62) #[] #[.pointer (some (adr (sv_9 0).1)), .pointer (some (adr (sv_9 2).1))])⟩, ⟨14, [], .v (.bool true)⟩, ⟨8, [], .v (.func (.func 62) #[] #[.pointer (some (adr (sv_9 0).1)), .pointer (some (adr (sv_9 2).1))])⟩, ⟨7, [], .p 1 0⟩, ⟨6, [], .v (.slice none 0 0)⟩, ⟨5, [], .p 0 0⟩, ⟨0, [], .v (.slice A0 l0.length c0)⟩, ⟨1, [], .v (.slice A1 l1.length c1)⟩, ⟨2, [], .v (.int .i64 a2)⟩], [], [], [([.v (.int .i64 a2)], 3), ([.v (.slice A_21 s1.length c_22)], 39)], some (w.heap.size, some aR_24.defers), some (2, ns_20)⟩ [] (by kernel_rfl) trivial (fun ns_38 a w_39 hI _ => ?_)
    refine then_normal ?_
    obtain ⟨hE', hmv, hmr⟩ := Ep.rebase (S0 := S) hE hI
    replace hr0 := Arr.keep hr0 hmv
    replace hr1 := Arr.keep hr1 hmv
    replace hR_10 := El.keep hR_10 hmv
    replace hR_11 := El.keep hR_11 hmv
    replace hq_19 := Row.keep hq_19 hmv (fun b hb => hmr b (by rw [← hb]; first | (simp; done) | simp [rb]))
    replace hT_28 := Tk.keep hT_28 hmv
    replace hl_29 := (hmr _ (by simp)).trans hl_29
    replace hE := hE'
    replace hI := hI.rebase
    clear hE' hmv hmr
    refine begin_ (S0 := S) hE hI (by simp) hl_29 ho_31 (fun w_40 hE' hI' hmv hmr hl_29 => ?_)
    replace hr0 := Arr.keep hr0 hmv
    replace hr1 := Arr.keep hr1 hmv
    replace hR_10 := El.keep hR_10 hmv
    replace hR_11 := El.keep hR_11 hmv
    replace hq_19 := Row.keep hq_19 hmv (fun b hb => hmr b (by rw [← hb]; first | (simp; done) | simp [rb]) (Ep.ne hE (i := 1) (j := 0) (by decide) rfl rfl hb))
    replace hT_28 := Tk.keep hT_28 hmv
    replace hE := hE'
    replace hI := hI'
    clear hE' hI' hmv hmr
    refine wpIn_block ?_
    refine wpIn_seq ?_
    refine seq_region (live := [20, 9, 16, 15, 14, 8, 7, 6, 5, 0, 1, 2]) (orc := []) hF hI ⟨[⟨20, [], .v (.bool (decide ((s1.length : Int) ≥ a2)))⟩, ⟨9, [], .v (.int .i64 y_33)⟩, ⟨16, [], .v (.int .i64 y_33)⟩, ⟨15, [], .v (.func (.func 62) #[] #[.pointer (some (adr (sv_9 0).1)), .pointer (some (adr (sv_9 2).1))])⟩, ⟨14, [], .v (.bool true)⟩, ⟨8, [], .v (.func (.func 62) #[] #[.pointer (some (adr (sv_9 0).1)), .pointer (some (adr (sv_9 2).1))])⟩, ⟨7, [], .p 1 0⟩, ⟨6, [], .v (.slice none 0 0)⟩, ⟨5, [], .p 0 0⟩, ⟨0, [], .v (.slice A0 l0.length c0)⟩, ⟨1, [], .v (.slice A1 l1.length c1)⟩, ⟨2, [], .v (.int .i64 a2)⟩], [], [], [([.v (.int .i64 a2)], 3), ([.v (.slice A_21 s1.length c_22)], 39)], some (w.heap.size, some aR_24.defers), some (2, ns_20)⟩ [] (by kernel_rfl) trivial (fun ns_41 a w_42 hI _ => ?_)
    refine cond_ hI (decide ((s1.length : Int) ≥ a2)) rfl (fun hc_43 => ?_) (fun hc_43 => ?_)
    · replace H1 := bif_t hc_43 H1
      refine wpIn_exit ?_
      refine then_exit ?_
      refine inBlock_other (by decide) ?_
      obtain ⟨hE', hmv, hmr⟩ := Ep.rebase (S0 := S) hE hI
      replace hr0 := Arr.keep hr0 hmv
      replace hr1 := Arr.keep hr1 hmv
      replace hR_10 := El.keep hR_10 hmv
      replace hR_11 := El.keep hR_11 hmv
      replace hq_19 := Row.keep hq_19 hmv (fun b hb => hmr b (by rw [← hb]; first | (simp; done) | simp [rb]))
      replace hT_28 := Tk.keep hT_28 hmv
      replace hl_29 := (hmr _ (by simp)).trans hl_29
      replace hE := hE'
      replace hI := hI.rebase
      clear hE' hmv hmr
      obtain ⟨hE', hI', hmv⟩ := Ep.unround (S0 := S) (bs := [([.v (.int .i64 a2)], 3), ([.v (.slice A_21 s1.length c_22)], 39)]) hO hE hI rfl rfl rfl rfl rfl rfl (by kernel_rfl) rfl
      have hmr : ∀ b : Nat, some b ∈ ([rb A_21, some l_23] : List (Option Nat)) → w_42.heap[b]? = w_42.heap[b]? := fun _ _ => rfl
      replace hr0 := Arr.keep hr0 hmv
      replace hr1 := Arr.keep hr1 hmv
      replace hR_10 := El.keep hR_10 hmv
      replace hR_11 := El.keep hR_11 hmv
      replace hq_19 := Row.keep hq_19 hmv (fun b hb => hmr b (by rw [← hb]; first | (simp; done) | simp [rb]))
      replace hT_28 := Tk.keep hT_28 hmv
      replace hl_29 := (hmr _ (by simp)).trans hl_29
      replace hE := hE'
      replace hI := hI'
      clear hE' hI' hmv hmr
      obtain rfl := Option.some.inj H1
      exact RndQ.ex hl_29 rfl rfl ⟨_, _, hr0, hr1, hR_10, hR_11, hq_19, hE, hI⟩
    · replace H1 := bif_f hc_43 H1
      refine wpIn_skip ?_
      refine then_normal ?_
      refine wpIn_region_lit ?_
      refine chunkL_ (live := [22, 21, 20, 9, 16, 15, 14, 8, 7, 6, 5, 0, 1, 2]) (orc := []) hF 2 hI ⟨[⟨22, [], .v (.int .i64 y_33)⟩, ⟨21, [], .v (.slice A_21 s1.length c_22)⟩, ⟨20, [], .v (.bool (decide ((s1.length : Int) ≥ a2)))⟩, ⟨9, [], .v (.int .i64 y_33)⟩, ⟨16, [], .v (.int .i64 y_33)⟩, ⟨15, [], .v (.func (.func 62) #[] #[.pointer (some (adr (sv_9 0).1)), .pointer (some (adr (sv_9 2).1))])⟩, ⟨14, [], .v (.bool true)⟩, ⟨8, [], .v (.func (.func 62) #[] #[.pointer (some (adr (sv_9 0).1)), .pointer (some (adr (sv_9 2).1))])⟩, ⟨7, [], .p 1 0⟩, ⟨6, [], .v (.slice none 0 0)⟩, ⟨5, [], .p 0 0⟩, ⟨0, [], .v (.slice A0 l0.length c0)⟩, ⟨1, [], .v (.slice A1 l1.length c1)⟩, ⟨2, [], .v (.int .i64 a2)⟩], [], [], [([.v (.int .i64 a2)], 3), ([.v (.slice A_21 s1.length c_22)], 39)], some (w.heap.size, some aR_24.defers), some (2, ns_20)⟩ [] rfl (by kernel_rfl) trivial (fun ns_44 a w_45 hI => ?_)
      obtain ⟨hE', hmv, hmr⟩ := Ep.rebase (S0 := S) hE hI
      replace hr0 := Arr.keep hr0 hmv
      replace hr1 := Arr.keep hr1 hmv
      replace hR_10 := El.keep hR_10 hmv
      replace hR_11 := El.keep hR_11 hmv
      replace hq_19 := Row.keep hq_19 hmv (fun b hb => hmr b (by rw [← hb]; first | (simp; done) | simp [rb]))
      replace hT_28 := Tk.keep hT_28 hmv
      replace hl_29 := (hmr _ (by simp)).trans hl_29
      replace hE := hE'
      replace hI := hI.rebase
      clear hE' hmv hmr
      refine buildSlice_ (S0 := S) (d := (Kd.int .i64)) (e := 3) hF hE hI (wanted_none rfl) rfl (by kernel_rfl) (cs := [.int .i64 y_33]) (by kernel_rfl) [y_33] [(svL [])] rfl rfl (by simp [maxLen]) (fun i x hi => by cases i with | zero => (simp only [List.getElem?_cons_zero, Option.some.injEq] at hi; subst hi; exact ⟨trivial, rfl⟩) | succ i => (simp only [List.getElem?_cons_succ] at hi; simp at hi)) (fun A_46 => ⟨[⟨23, [], .v (.slice A_46 ([y_33] : List Int).length (([y_33] : List Int).length))⟩, ⟨22, [], .v (.int .i64 y_33)⟩, ⟨21, [], .v (.slice A_21 s1.length c_22)⟩, ⟨20, [], .v (.bool (decide ((s1.length : Int) ≥ a2)))⟩, ⟨9, [], .v (.int .i64 y_33)⟩, ⟨16, [], .v (.int .i64 y_33)⟩, ⟨15, [], .v (.func (.func 62) #[] #[.pointer (some (adr (sv_9 0).1)), .pointer (some (adr (sv_9 2).1))])⟩, ⟨14, [], .v (.bool true)⟩, ⟨8, [], .v (.func (.func 62) #[] #[.pointer (some (adr (sv_9 0).1)), .pointer (some (adr (sv_9 2).1))])⟩, ⟨7, [], .p 1 0⟩, ⟨6, [], .v (.slice none 0 0)⟩, ⟨5, [], .p 0 0⟩, ⟨0, [], .v (.slice A0 l0.length c0)⟩, ⟨1, [], .v (.slice A1 l1.length c1)⟩, ⟨2, [], .v (.int .i64 a2)⟩], [], [], [([.v (.int .i64 a2)], 3), ([.v (.slice A_21 s1.length c_22)], 39)], some (w.heap.size, some aR_24.defers), some (2, ns_20)⟩) (fun A_46 => by kernel_rfl) (fun A_46 a w_48 hput hE' hI' hmv hmr hq_47 => ?_)
      replace hr0 := Arr.keep hr0 hmv
      replace hr1 := Arr.keep hr1 hmv
      replace hR_10 := El.keep hR_10 hmv
      replace hR_11 := El.keep hR_11 hmv
      replace hq_19 := Row.keep hq_19 hmv (fun b hb => hmr b (by rw [← hb]; first | (simp; done) | simp [rb]) (by simp))
      replace hT_28 := Tk.keep hT_28 hmv
      replace hl_29 := (hmr _ (by simp) (by simp)).trans hl_29
      replace hE := hE'
      replace hI := hI'
      clear hE' hI' hmv hmr
      refine chunkL_ (live := [23, 21, 20, 9, 16, 15, 14, 8, 7, 6, 5, 0, 1, 2]) (orc := []) hF 0 hI ⟨[⟨23, [], .v (.slice A_46 ([y_33] : List Int).length (([y_33] : List Int).length))⟩, ⟨21, [], .v (.slice A_21 s1.length c_22)⟩, ⟨20, [], .v (.bool (decide ((s1.length : Int) ≥ a2)))⟩, ⟨9, [], .v (.int .i64 y_33)⟩, ⟨16, [], .v (.int .i64 y_33)⟩, ⟨15, [], .v (.func (.func 62) #[] #[.pointer (some (adr (sv_9 0).1)), .pointer (some (adr (sv_9 2).1))])⟩, ⟨14, [], .v (.bool true)⟩, ⟨8, [], .v (.func (.func 62) #[] #[.pointer (some (adr (sv_9 0).1)), .pointer (some (adr (sv_9 2).1))])⟩, ⟨7, [], .p 1 0⟩, ⟨6, [], .v (.slice none 0 0)⟩, ⟨5, [], .p 0 0⟩, ⟨0, [], .v (.slice A0 l0.length c0)⟩, ⟨1, [], .v (.slice A1 l1.length c1)⟩, ⟨2, [], .v (.int .i64 a2)⟩], [], [], [([.v (.int .i64 a2)], 3), ([.v (.slice A_21 s1.length c_22)], 39)], some (w.heap.size, some aR_24.defers), some (2, ns_20)⟩ [] rfl (by kernel_rfl) trivial (fun ns_49 a w_50 hI => ?_)
      obtain ⟨hE', hmv, hmr⟩ := Ep.rebase (S0 := S) hE hI
      replace hr0 := Arr.keep hr0 hmv
      replace hr1 := Arr.keep hr1 hmv
      replace hR_10 := El.keep hR_10 hmv
      replace hR_11 := El.keep hR_11 hmv
      replace hq_19 := Row.keep hq_19 hmv (fun b hb => hmr b (by rw [← hb]; first | (simp; done) | simp [rb]))
      replace hT_28 := Tk.keep hT_28 hmv
      replace hl_29 := (hmr _ (by simp)).trans hl_29
      replace hq_47 := Row.keep hq_47 hmv (fun b hb => hmr b (by rw [← hb]; first | (simp; done) | simp [rb]))
      replace hE := hE'
      replace hI := hI.rebase
      clear hE' hmv hmr
      obtain ⟨hE', hmv, hq_47, hcap_51⟩ := Row.still (l1 := [rb A_21, some l_23]) (l2 := []) hq_47 hE
      have hmr : ∀ b : Nat, some b ∈ ([rb A_21, some l_23, rb A_46] : List (Option Nat)) → w_50.heap[b]? = w_50.heap[b]? := fun _ _ => rfl
      replace hr0 := Arr.keep hr0 hmv
      replace hr1 := Arr.keep hr1 hmv
      replace hR_10 := El.keep hR_10 hmv
      replace hR_11 := El.keep hR_11 hmv
      replace hq_19 := Row.keep hq_19 hmv (fun b hb => hmr b (by rw [← hb]; first | (simp; done) | simp [rb]))
      replace hT_28 := Tk.keep hT_28 hmv
      replace hl_29 := (hmr _ (by simp)).trans hl_29
      replace hE := hE'
      clear hE' hmv hmr
      obtain ⟨hN_52, H1⟩ := req_some H1
      replace hN_52 := of_decide_eq_true hN_52
      refine append_ (S0 := S) (l1 := []) (l2 := [some l_23]) (d := (Kd.int .i64)) (e := 3) hF hE hI (wanted_none rfl) rfl (A := A_21) (c := c_22) (l := s1) rfl (A2 := A_46) (c2 := (([y_33] : List Int).length)) rfl hq_19 hq_47 (fun sv u hu => by exact kd_one_int _ sv u hu) Try.underlying39 (zi := (.int .i64 0, 1, 8)) (by kernel_rfl) rfl (by kernel_rfl) (len_max (by decide) hN_52) hN_52 (fun A_53 c_54 => ⟨[⟨24, [], .v (.slice A_53 (s1 ++ [y_33]).length c_54)⟩, ⟨23, [], .v (.slice A_46 ([y_33] : List Int).length (([y_33] : List Int).length))⟩, ⟨21, [], .v (.slice A_21 s1.length c_22)⟩, ⟨20, [], .v (.bool (decide ((s1.length : Int) ≥ a2)))⟩, ⟨9, [], .v (.int .i64 y_33)⟩, ⟨16, [], .v (.int .i64 y_33)⟩, ⟨15, [], .v (.func (.func 62) #[] #[.pointer (some (adr (sv_9 0).1)), .pointer (some (adr (sv_9 2).1))])⟩, ⟨14, [], .v (.bool true)⟩, ⟨8, [], .v (.func (.func 62) #[] #[.pointer (some (adr (sv_9 0).1)), .pointer (some (adr (sv_9 2).1))])⟩, ⟨7, [], .p 1 0⟩, ⟨6, [], .v (.slice none 0 0)⟩, ⟨5, [], .p 0 0⟩, ⟨0, [], .v (.slice A0 l0.length c0)⟩, ⟨1, [], .v (.slice A1 l1.length c1)⟩, ⟨2, [], .v (.int .i64 a2)⟩], [], [], [([.v (.int .i64 a2)], 3), ([.v (.slice A_21 s1.length c_22)], 39)], some (w.heap.size, some aR_24.defers), some (2, ns_20)⟩) (fun A_53 c_54 => by kernel_rfl) (fun A_53 c_54 a w_55 hput hE' hI' hmv hmr hq_19 => ?_)
      replace hr0 := Arr.keep hr0 hmv
      replace hr1 := Arr.keep hr1 hmv
      replace hR_10 := El.keep hR_10 hmv
      replace hR_11 := El.keep hR_11 hmv
      replace hT_28 := Tk.keep hT_28 hmv
      replace hl_29 := (hmr _ (by simp) (Ep.ne hE (i := 0) (j := 1) (by decide) rfl rfl rfl)).trans hl_29
      replace hq_47 := Arr.keep hq_47 hmv
      replace hE := hE'
      replace hI := hI'
      clear hE' hI' hmv hmr
      refine chunkL_ (live := [20, 9, 16, 15, 14, 8, 7, 6, 5, 0, 1, 2]) (orc := []) hF 1 hI ⟨[⟨20, [], .v (.bool (decide ((s1.length : Int) ≥ a2)))⟩, ⟨9, [], .v (.int .i64 y_33)⟩, ⟨16, [], .v (.int .i64 y_33)⟩, ⟨15, [], .v (.func (.func 62) #[] #[.pointer (some (adr (sv_9 0).1)), .pointer (some (adr (sv_9 2).1))])⟩, ⟨14, [], .v (.bool true)⟩, ⟨8, [], .v (.func (.func 62) #[] #[.pointer (some (adr (sv_9 0).1)), .pointer (some (adr (sv_9 2).1))])⟩, ⟨7, [], .p 1 0⟩, ⟨6, [], .v (.slice none 0 0)⟩, ⟨5, [], .p 0 0⟩, ⟨0, [], .v (.slice A0 l0.length c0)⟩, ⟨1, [], .v (.slice A1 l1.length c1)⟩, ⟨2, [], .v (.int .i64 a2)⟩], [], [], [([.v (.int .i64 a2)], 3), ([.v (.slice A_53 (s1 ++ [y_33]).length c_54)], 39)], some (w.heap.size, some aR_24.defers), some (2, ns_20)⟩ [] rfl (by kernel_rfl) trivial (fun ns_56 a w_57 hI => ?_)
      refine wpListIn_nil ?_
      refine inBlock_normal ?_
      obtain ⟨hE', hmv, hmr⟩ := Ep.rebase (S0 := S) hE hI
      replace hr0 := Arr.keep hr0 hmv
      replace hr1 := Arr.keep hr1 hmv
      replace hR_10 := El.keep hR_10 hmv
      replace hR_11 := El.keep hR_11 hmv
      replace hT_28 := Tk.keep hT_28 hmv
      replace hl_29 := (hmr _ (by simp)).trans hl_29
      replace hq_47 := Arr.keep hq_47 hmv
      replace hq_19 := Row.keep hq_19 hmv (fun b hb => hmr b (by rw [← hb]; first | (simp; done) | simp [rb]))
      replace hE := hE'
      replace hI := hI.rebase
      clear hE' hmv hmr
      obtain ⟨hE', hI', hmv⟩ := Ep.unround (S0 := S) (bs := [([.v (.int .i64 a2)], 3), ([.v (.slice A_53 (s1 ++ [y_33]).length c_54)], 39)]) hO hE hI rfl rfl rfl rfl rfl rfl (by kernel_rfl) rfl
      have hmr : ∀ b : Nat, some b ∈ ([rb A_53, some l_23] : List (Option Nat)) → w_57.heap[b]? = w_57.heap[b]? := fun _ _ => rfl
      replace hr0 := Arr.keep hr0 hmv
      replace hr1 := Arr.keep hr1 hmv
      replace hR_10 := El.keep hR_10 hmv
      replace hR_11 := El.keep hR_11 hmv
      replace hT_28 := Tk.keep hT_28 hmv
      replace hl_29 := (hmr _ (by simp)).trans hl_29
      replace hq_47 := Arr.keep hq_47 hmv
      replace hq_19 := Row.keep hq_19 hmv (fun b hb => hmr b (by rw [← hb]; first | (simp; done) | simp [rb]))
      replace hE := hE'
      replace hI := hI'
      clear hE' hI' hmv hmr
      obtain rfl := Option.some.inj H1
      exact RndQ.nrm hl_29 rfl ⟨_, _, hr0, hr1, hR_10, hR_11, hq_19, hE, hI, hT_28.re⟩ hT_28.same
  · rintro s1 T w_58 hzz ⟨A_21, c_22, hr0, hr1, hR_10, hR_11, hq_19, hE, hI, hT_28⟩
    subst hzz
    replace H0 : (some s1 : Option ((List Int))) = _ := H0
    obtain ⟨hE', hmv⟩ := hE.sub (S0 := S) (mine' := [rb A_21]) (sub_one [rb A_21] [] _)
    have hmr : ∀ b : Nat, some b ∈ ([rb A_21, some l_23] : List (Option Nat)) → w_58.heap[b]? = w_58.heap[b]? := fun _ _ => rfl
    replace hr0 := Arr.keep hr0 hmv
    replace hr1 := Arr.keep hr1 hmv
    replace hR_10 := El.keep hR_10 hmv
    replace hR_11 := El.keep hR_11 hmv
    replace hq_19 := Row.keep hq_19 hmv (fun b hb => hmr b (by rw [← hb]; first | (simp; done) | simp [rb]))
    replace hE := hE'
    clear hE' hmv hmr
    refine inBlock_normal ?_
    refine then_normal ?_
    refine seq_region (live := [6, 15, 14, 8, 7, 5, 0, 1, 2]) (orc := []) hF hI ⟨[⟨6, [], .v (.slice A_21 s1.length c_22)⟩, ⟨15, [], .v (.func (.func 62) #[] #[.pointer (some (adr (sv_9 0).1)), .pointer (some (adr (sv_9 2).1))])⟩, ⟨14, [], .v (.bool true)⟩, ⟨8, [], .v (.func (.func 62) #[] #[.pointer (some (adr (sv_9 0).1)), .pointer (some (adr (sv_9 2).1))])⟩, ⟨7, [], .p 1 0⟩, ⟨5, [], .p 0 0⟩, ⟨0, [], .v (.slice A0 l0.length c0)⟩, ⟨1, [], .v (.slice A1 l1.length c1)⟩, ⟨2, [], .v (.int .i64 a2)⟩], [], [], [([.v (.int .i64 a2)], 3), ([.v (.slice A_21 s1.length c_22)], 39)], some (w.heap.size, none), none⟩ [] (by kernel_rfl) trivial (fun ns_59 a w_60 hI _ => ?_)
    obtain ⟨hE', hmv, hmr⟩ := Ep.rebase (S0 := S) hE hI
    replace hr0 := Arr.keep hr0 hmv
    replace hr1 := Arr.keep hr1 hmv
    replace hR_10 := El.keep hR_10 hmv
    replace hR_11 := El.keep hR_11 hmv
    replace hq_19 := Row.keep hq_19 hmv (fun b hb => hmr b (by rw [← hb]; first | (simp; done) | simp [rb]))
    replace hE := hE'
    replace hI := hI.rebase
    clear hE' hmv hmr
    obtain ⟨hE', hmv, hq_19, hcap_61⟩ := Row.still (l1 := []) (l2 := []) hq_19 hE
    have hmr : ∀ b : Nat, some b ∈ ([rb A_21] : List (Option Nat)) → w_60.heap[b]? = w_60.heap[b]? := fun _ _ => rfl
    replace hr0 := Arr.keep hr0 hmv
    replace hr1 := Arr.keep hr1 hmv
    replace hR_10 := El.keep hR_10 hmv
    replace hR_11 := El.keep hR_11 hmv
    replace hE := hE'
    clear hE' hmv hmr
    refine wpIn_ret ?_
    obtain rfl := Option.some.inj H0
    exact retM hI rfl rfl rfl (fun wz hz => ⟨svL [(A_21, c_22)], rfl, (hE.below hI).trans hz.below, ⟨Arr.keep (Arr.keep hq_19 (hE.out hI)) (hz.mv _), hcap_61⟩⟩)
  · rintro r1 WX hzz ⟨A_21, c_22, hr0, hr1, hR_10, hR_11, hq_19, hE, hI⟩
    subst hzz
    replace H0 : (some r1.2 : Option ((List Int))) = _ := H0
    dsimp only
    obtain ⟨hE', hmv⟩ := hE.sub (S0 := S) (mine' := [rb A_21]) (sub_one [rb A_21] [] _)
    have hmr : ∀ b : Nat, some b ∈ ([rb A_21, some l_23] : List (Option Nat)) → WX.heap[b]? = WX.heap[b]? := fun _ _ => rfl
    replace hr0 := Arr.keep hr0 hmv
    replace hr1 := Arr.keep hr1 hmv
    replace hR_10 := El.keep hR_10 hmv
    replace hR_11 := El.keep hR_11 hmv
    replace hq_19 := Row.keep hq_19 hmv (fun b hb => hmr b (by rw [← hb]; first | (simp; done) | simp [rb]))
    replace hE := hE'
    clear hE' hmv hmr
    refine wpIn_exit ?_
    refine inBlock_here ?_
    refine then_normal ?_
    refine seq_region (live := [6, 15, 14, 8, 7, 5, 0, 1, 2]) (orc := []) hF hI ⟨[⟨6, [], .v (.slice A_21 r1.2.length c_22)⟩, ⟨15, [], .v (.func (.func 62) #[] #[.pointer (some (adr (sv_9 0).1)), .pointer (some (adr (sv_9 2).1))])⟩, ⟨14, [], .v (.bool true)⟩, ⟨8, [], .v (.func (.func 62) #[] #[.pointer (some (adr (sv_9 0).1)), .pointer (some (adr (sv_9 2).1))])⟩, ⟨7, [], .p 1 0⟩, ⟨5, [], .p 0 0⟩, ⟨0, [], .v (.slice A0 l0.length c0)⟩, ⟨1, [], .v (.slice A1 l1.length c1)⟩, ⟨2, [], .v (.int .i64 a2)⟩], [], [], [([.v (.int .i64 a2)], 3), ([.v (.slice A_21 r1.2.length c_22)], 39)], some (w.heap.size, none), none⟩ [] (by kernel_rfl) trivial (fun ns_63 a w_64 hI _ => ?_)
    obtain ⟨hE', hmv, hmr⟩ := Ep.rebase (S0 := S) hE hI
    replace hr0 := Arr.keep hr0 hmv
    replace hr1 := Arr.keep hr1 hmv
    replace hR_10 := El.keep hR_10 hmv
    replace hR_11 := El.keep hR_11 hmv
    replace hq_19 := Row.keep hq_19 hmv (fun b hb => hmr b (by rw [← hb]; first | (simp; done) | simp [rb]))
    replace hE := hE'
    replace hI := hI.rebase
    clear hE' hmv hmr
    obtain ⟨hE', hmv, hq_19, hcap_65⟩ := Row.still (l1 := []) (l2 := []) hq_19 hE
    have hmr : ∀ b : Nat, some b ∈ ([rb A_21] : List (Option Nat)) → w_64.heap[b]? = w_64.heap[b]? := fun _ _ => rfl
    replace hr0 := Arr.keep hr0 hmv
    replace hr1 := Arr.keep hr1 hmv
    replace hR_10 := El.keep hR_10 hmv
    replace hR_11 := El.keep hR_11 hmv
    replace hE := hE'
    clear hE' hmv hmr
    refine wpIn_ret ?_
    obtain rfl := Option.some.inj H0
    exact retM hI rfl rfl rfl (fun wz hz => ⟨svL [(A_21, c_22)], rfl, (hE.below hI).trans hz.below, ⟨Arr.keep (Arr.keep hq_19 (hE.out hI)) (hz.mv _), hcap_65⟩⟩)

/-! ### porthole/portholeref01.Same: function 18 -/
noncomputable def G_ref01_Same.b1 (l0 : (List Int)) (l1 : (List Int)) (s1 : Int × Bool) : Option (Stp (Int × Bool) (Ex (Int × Bool) (Bool))) := (bif decide (s1.1 < (l0.length : Int)) then (req (inb s1.1 l0.length) (req (inb s1.1 l1.length) (bif ((rd l0 s1.1) != (rd l1 s1.1)) then some (.out (.ret false)) else some (.next ((IntKind.i64.wrap (s1.1 + 1)), s1.2))))) else some (.out (.brk (s1.1, s1.2))))
noncomputable def G_ref01_Same (l0 : (List Int)) (l1 : (List Int)) : Option (Bool) := (bif ((l0.length : Int) != (l1.length : Int)) then some false else ((loopω (G_ref01_Same.b1 l0 l1) (0, false)).bind fun o => o.on (fun s1 => some true) (fun r => some r)))
set_option maxRecDepth 100000 in
set_option maxHeartbeats 4000000 in
theorem G_ref01_Same.calls (l0 : (List Int)) (l1 : (List Int)) (A0 : Option Addr) (c0 : Nat) (A1 : Option Addr) (c1 : Nat) (w : World) {S : Nat → Prop} (hr0 : Arr (Kd.int .i64) S w A0 l0) (hc0 : l0.length ≤ c0) (hr1 : Arr (Kd.int .i64) S w A1 l1) (hc1 : l1.length ≤ c1) (r : Bool) (h : G_ref01_Same l0 l1 = some r) :
    Calls Try.prog 18 #[.slice A0 l0.length c0, .slice A1 l1.length c1] w fun e w' => e = .returned (.bool r) ∧ Below w.heap.size w w' := by
  replace hr0 := Arr.lo hr0
  replace hr1 := Arr.lo hr1
  unfold G_ref01_Same at h
  have H0 := h
  clear h
  refine enter Try.func18 rfl [.slice A0 l0.length c0, .slice A1 l1.length c1] (n := 26) rfl (Nat.le_of_ble_eq_true rfl) (fun a hI => ?_)
  have hF : FOpen Fence.wide := .inl rfl
  have hE := Ep.start w
  refine seq_region (live := [4, 0, 1]) (orc := []) hF hI ⟨[⟨4, [], .v (.bool false)⟩, ⟨0, [], .v (.slice A0 l0.length c0)⟩, ⟨1, [], .v (.slice A1 l1.length c1)⟩], [], [], [], none, none⟩ [] (by kernel_rfl) trivial (fun ns_1 a w_2 hI _ => ?_)
  refine wpIn_seq ?_
  refine seq_region (live := [10, 4, 0, 1]) (orc := []) hF hI ⟨[⟨10, [], .v (.bool ((l0.length : Int) != (l1.length : Int)))⟩, ⟨4, [], .v (.bool false)⟩, ⟨0, [], .v (.slice A0 l0.length c0)⟩, ⟨1, [], .v (.slice A1 l1.length c1)⟩], [], [], [], none, none⟩ [] (by kernel_rfl) trivial (fun ns_3 a w_4 hI _ => ?_)
  refine cond_ hI (((l0.length : Int) != (l1.length : Int))) rfl (fun hc_5 => ?_) (fun hc_5 => ?_)
  · replace H0 := bif_t hc_5 H0
    refine seq_region (live := [4, 10, 0, 1]) (orc := []) hF hI ⟨[⟨4, [], .v (.bool false)⟩, ⟨10, [], .v (.bool ((l0.length : Int) != (l1.length : Int)))⟩, ⟨0, [], .v (.slice A0 l0.length c0)⟩, ⟨1, [], .v (.slice A1 l1.length c1)⟩], [], [], [], none, none⟩ [] (by kernel_rfl) trivial (fun ns_6 a w_7 hI _ => ?_)
    refine wpIn_ret ?_
    refine then_ret ?_
    obtain rfl := Option.some.inj H0
    exact ret1 hI rfl rfl ⟨rfl, hE.below hI⟩
  · replace H0 := bif_f hc_5 H0
    refine wpIn_skip ?_
    refine then_normal ?_
    refine wpIn_seq ?_
    refine seq_region (live := [5, 10, 4, 0, 1]) (orc := []) hF hI ⟨[⟨5, [], .v (.int .i64 0)⟩, ⟨10, [], .v (.bool ((l0.length : Int) != (l1.length : Int)))⟩, ⟨4, [], .v (.bool false)⟩, ⟨0, [], .v (.slice A0 l0.length c0)⟩, ⟨1, [], .v (.slice A1 l1.length c1)⟩], [], [], [], none, none⟩ [] (by kernel_rfl) trivial (fun ns_8 a w_9 hI _ => ?_)
    obtain ⟨o_29, hL_30, H0⟩ := bind_some H0
    refine block_loop (fun s1 a w_35 => ∃ ns, St w [] 26 ⟨[⟨5, [], .v (.int .i64 s1.1)⟩, ⟨10, [], .v (.bool ((l0.length : Int) != (l1.length : Int)))⟩, ⟨4, [], .v (.bool s1.2)⟩, ⟨0, [], .v (.slice A0 l0.length c0)⟩, ⟨1, [], .v (.slice A1 l1.length c1)⟩], [], [], [], none, none⟩ ns a w_35) (0, false) hL_30 ⟨_, hI.pick [5, 10, 4, 0, 1] 0 ⟨[⟨5, [], .v (.int .i64 0)⟩, ⟨10, [], .v (.bool ((l0.length : Int) != (l1.length : Int)))⟩, ⟨4, [], .v (.bool false)⟩, ⟨0, [], .v (.slice A0 l0.length c0)⟩, ⟨1, [], .v (.slice A1 l1.length c1)⟩], [], [], [], none, none⟩ (by kernel_rfl)⟩ ?_ ?_
    · clear hI
      rintro s1 a w_10 ⟨ns_11, hI⟩ r1 H1
      unfold G_ref01_Same.b1 at H1
      refine wpIn_seq ?_
      refine seq_region (live := [14, 5, 10, 4, 0, 1]) (orc := []) hF hI ⟨[⟨14, [], .v (.bool (decide (s1.1 < (l0.length : Int))))⟩, ⟨5, [], .v (.int .i64 s1.1)⟩, ⟨10, [], .v (.bool ((l0.length : Int) != (l1.length : Int)))⟩, ⟨4, [], .v (.bool s1.2)⟩, ⟨0, [], .v (.slice A0 l0.length c0)⟩, ⟨1, [], .v (.slice A1 l1.length c1)⟩], [], [], [], none, none⟩ [] (by kernel_rfl) trivial (fun ns_12 a w_13 hI _ => ?_)
      refine cond_ hI (decide (s1.1 < (l0.length : Int))) rfl (fun hc_14 => ?_) (fun hc_14 => ?_)
      · replace H1 := bif_t hc_14 H1
        refine wpIn_skip ?_
        refine then_normal ?_
        refine wpIn_seq ?_
        refine wpIn_block ?_
        refine wpIn_seq ?_
        obtain ⟨hN_15, H1⟩ := req_some H1
        obtain ⟨sv_16, hE_18, hA_17⟩ := Arr.elB (d := (Kd.int .i64)) hr0 s1.1 true (fun _ => hN_15)
        replace hE_18 := hE_18 rfl
        replace hA_17 := fun (_ : true = true) => hA_17 rfl
        obtain ⟨hN_19, H1⟩ := req_some H1
        obtain ⟨sv_20, hE_22, hA_21⟩ := Arr.elB (d := (Kd.int .i64)) hr1 s1.1 true (fun _ => hN_19)
        replace hE_22 := hE_22 rfl
        replace hA_21 := fun (_ : true = true) => hA_21 rfl
        refine drawn_ (live := [25, 14, 5, 10, 4, 0, 1]) (orc := [[.int .i64 (rd l0 s1.1)], [.int .i64 (rd l1 s1.1)]]) hF hI ⟨[⟨25, [], .v (.bool ((rd l0 s1.1) != (rd l1 s1.1)))⟩, ⟨14, [], .v (.bool (decide (s1.1 < (l0.length : Int))))⟩, ⟨5, [], .v (.int .i64 s1.1)⟩, ⟨10, [], .v (.bool ((l0.length : Int) != (l1.length : Int)))⟩, ⟨4, [], .v (.bool s1.2)⟩, ⟨0, [], .v (.slice A0 l0.length c0)⟩, ⟨1, [], .v (.slice A1 l1.length c1)⟩], [], [], [], none, none⟩ [.need true (0 ≤ s1.1 ∧ s1.1 < (l0.length : Int)), .need true (A0 = some (adr A0)), .cell true ((adr A0).add ((s1.1 : Int).toNat * 1)) [.int .i64 (rd l0 s1.1)], .need true (0 ≤ s1.1 ∧ s1.1 < (l1.length : Int)), .need true (A1 = some (adr A1)), .cell true ((adr A1).add ((s1.1 : Int).toNat * 1)) [.int .i64 (rd l1 s1.1)]] (by kernel_rfl) (by kernel_rfl) (by kernel_rfl) ⟨ob_inb (fun _ => hN_15), hA_17, ob_el (fun _ => hE_18) 0 [.int .i64 (rd l0 s1.1)] rfl, ob_inb (fun _ => hN_19), hA_21, ob_el (fun _ => hE_22) 0 [.int .i64 (rd l1 s1.1)] rfl, trivial⟩ (fun a w_23 hI => ?_)
        refine then_normal ?_
        refine cond_ hI (((rd l0 s1.1) != (rd l1 s1.1))) rfl (fun hc_24 => ?_) (fun hc_24 => ?_)
        · replace H1 := bif_t hc_24 H1
          refine seq_region (live := [4, 25, 14, 5, 10, 0, 1]) (orc := []) hF hI ⟨[⟨4, [], .v (.bool false)⟩, ⟨25, [], .v (.bool ((rd l0 s1.1) != (rd l1 s1.1)))⟩, ⟨14, [], .v (.bool (decide (s1.1 < (l0.length : Int))))⟩, ⟨5, [], .v (.int .i64 s1.1)⟩, ⟨10, [], .v (.bool ((l0.length : Int) != (l1.length : Int)))⟩, ⟨0, [], .v (.slice A0 l0.length c0)⟩, ⟨1, [], .v (.slice A1 l1.length c1)⟩], [], [], [], none, none⟩ [] (by kernel_rfl) trivial (fun ns_25 a w_26 hI _ => ?_)
          refine wpIn_ret ?_
          refine inBlock_ret ?_
          refine then_ret ?_
          refine then_ret ?_
          obtain rfl := Option.some.inj H1
          refine .inr ⟨_, rfl, fun ho => ?_⟩
          subst ho
          refine inBlock_ret ?_
          refine then_ret ?_
          obtain rfl := Option.some.inj H0
          exact ret1 hI rfl rfl ⟨rfl, hE.below hI⟩
        · replace H1 := bif_f hc_24 H1
          refine wpIn_skip ?_
          refine inBlock_normal ?_
          refine then_normal ?_
          refine region_ (live := [5, 25, 14, 10, 4, 0, 1]) (orc := []) hF hI ⟨[⟨5, [], .v (.int .i64 (IntKind.i64.wrap (s1.1 + 1)))⟩, ⟨25, [], .v (.bool ((rd l0 s1.1) != (rd l1 s1.1)))⟩, ⟨14, [], .v (.bool (decide (s1.1 < (l0.length : Int))))⟩, ⟨10, [], .v (.bool ((l0.length : Int) != (l1.length : Int)))⟩, ⟨4, [], .v (.bool s1.2)⟩, ⟨0, [], .v (.slice A0 l0.length c0)⟩, ⟨1, [], .v (.slice A1 l1.length c1)⟩], [], [], [], none, none⟩ [] (by kernel_rfl) trivial (fun ns_27 a w_28 hI _ => ?_)
          refine then_normal ?_
          obtain rfl := Option.some.inj H1
          exact ⟨_, rfl, ⟨_, hI.pick [5, 10, 4, 0, 1] 0 ⟨[⟨5, [], .v (.int .i64 (IntKind.i64.wrap (s1.1 + 1)))⟩, ⟨10, [], .v (.bool ((l0.length : Int) != (l1.length : Int)))⟩, ⟨4, [], .v (.bool s1.2)⟩, ⟨0, [], .v (.slice A0 l0.length c0)⟩, ⟨1, [], .v (.slice A1 l1.length c1)⟩], [], [], [], none, none⟩ (by kernel_rfl)⟩⟩
      · replace H1 := bif_f hc_14 H1
        refine wpIn_exit ?_
        refine then_exit ?_
        refine then_exit ?_
        obtain rfl := Option.some.inj H1
        exact .inl ⟨_, rfl, rfl, ⟨_, hI.pick [5, 10, 4, 0, 1] 0 ⟨[⟨5, [], .v (.int .i64 s1.1)⟩, ⟨10, [], .v (.bool ((l0.length : Int) != (l1.length : Int)))⟩, ⟨4, [], .v (.bool s1.2)⟩, ⟨0, [], .v (.slice A0 l0.length c0)⟩, ⟨1, [], .v (.slice A1 l1.length c1)⟩], [], [], [], none, none⟩ (by kernel_rfl)⟩⟩
    · clear hI
      rintro s1 a w_31 ho ⟨ns_32, hI⟩
      subst ho
      replace H0 : (some true : Option (Bool)) = _ := H0
      refine then_normal ?_
      refine seq_region (live := [4, 5, 10, 0, 1]) (orc := []) hF hI ⟨[⟨4, [], .v (.bool true)⟩, ⟨5, [], .v (.int .i64 s1.1)⟩, ⟨10, [], .v (.bool ((l0.length : Int) != (l1.length : Int)))⟩, ⟨0, [], .v (.slice A0 l0.length c0)⟩, ⟨1, [], .v (.slice A1 l1.length c1)⟩], [], [], [], none, none⟩ [] (by kernel_rfl) trivial (fun ns_33 a w_34 hI _ => ?_)
      refine wpIn_ret ?_
      obtain rfl := Option.some.inj H0
      exact ret1 hI rfl rfl ⟨rfl, hE.below hI⟩

/-! ### porthole/portholelaw22.wakes: function 30 -/
noncomputable def G_law22_wakes  : Option (Bool) := ((G_law22_told ([1, 2] : List Int) ([1, 3, 4] : List Int) 9).bind fun t_11 => ((G_ref01_Same t_11 ([1, 2] : List Int)).bind fun t_21 => some t_21))
set_option maxRecDepth 100000 in
set_option maxHeartbeats 4000000 in
theorem G_law22_wakes.calls   (w : World) {S : Nat → Prop}  (r : Bool) (h : G_law22_wakes = some r) :
    Calls Try.prog 30 #[] w fun e w' => e = .returned (.bool r) ∧ Below w.heap.size w w' := by
  unfold G_law22_wakes at h
  have H0 := h
  clear h
  refine enter Try.func30 rfl [] (n := 6) rfl (Nat.le_of_ble_eq_true rfl) (fun a hI => ?_)
  have hF : FOpen Fence.wide := .inl rfl
  have hE := Ep.start w
  refine seq_region (live := [0]) (orc := []) hF hI ⟨[⟨0, [], .v (.bool false)⟩], [], [], [], none, none⟩ [] (by kernel_rfl) trivial (fun ns_1 a w_2 hI _ => ?_)
  refine wpIn_seq ?_
  refine wpIn_region_lit ?_
  obtain ⟨hE', hmv, hmr⟩ := Ep.rebase (S0 := S) hE hI
  replace hE := hE'
  replace hI := hI.rebase
  clear hE' hmv hmr
  refine buildSlice_ (S0 := S) (d := (Kd.int .u32)) (e := 72) hF hE hI (wanted_none rfl) rfl (by kernel_rfl) (cs := [.int .u32 1, .int .u32 2]) (by kernel_rfl) [1, 2] [(svL []), (svL [])] rfl rfl (by simp [maxLen]) (fun i x hi => by cases i with | zero => (simp only [List.getElem?_cons_zero, Option.some.injEq] at hi; subst hi; exact ⟨trivial, rfl⟩) | succ i => (simp only [List.getElem?_cons_succ] at hi; cases i with | zero => (simp only [List.getElem?_cons_zero, Option.some.injEq] at hi; subst hi; exact ⟨trivial, rfl⟩) | succ i => (simp only [List.getElem?_cons_succ] at hi; simp at hi))) (fun A_3 => ⟨[⟨1, [], .v (.slice A_3 ([1, 2] : List Int).length (([1, 2] : List Int).length))⟩, ⟨0, [], .v (.bool false)⟩], [], [], [], none, none⟩) (fun A_3 => by kernel_rfl) (fun A_3 a w_5 hput hE' hI' hmv hmr hq_4 => ?_)
  replace hE := hE'
  replace hI := hI'
  clear hE' hI' hmv hmr
  refine buildSlice_ (S0 := S) (d := (Kd.int .u32)) (e := 72) hF hE hI (wanted_none rfl) rfl (by kernel_rfl) (cs := [.int .u32 1, .int .u32 3, .int .u32 4]) (by kernel_rfl) [1, 3, 4] [(svL []), (svL []), (svL [])] rfl rfl (by simp [maxLen]) (fun i x hi => by cases i with | zero => (simp only [List.getElem?_cons_zero, Option.some.injEq] at hi; subst hi; exact ⟨trivial, rfl⟩) | succ i => (simp only [List.getElem?_cons_succ] at hi; cases i with | zero => (simp only [List.getElem?_cons_zero, Option.some.injEq] at hi; subst hi; exact ⟨trivial, rfl⟩) | succ i => (simp only [List.getElem?_cons_succ] at hi; cases i with | zero => (simp only [List.getElem?_cons_zero, Option.some.injEq] at hi; subst hi; exact ⟨trivial, rfl⟩) | succ i => (simp only [List.getElem?_cons_succ] at hi; simp at hi)))) (fun A_6 => ⟨[⟨2, [], .v (.slice A_6 ([1, 3, 4] : List Int).length (([1, 3, 4] : List Int).length))⟩, ⟨1, [], .v (.slice A_3 ([1, 2] : List Int).length (([1, 2] : List Int).length))⟩, ⟨0, [], .v (.bool false)⟩], [], [], [], none, none⟩) (fun A_6 => by kernel_rfl) (fun A_6 a w_8 hput hE' hI' hmv hmr hq_7 => ?_)
  replace hq_4 := Row.keep hq_4 hmv (fun b hb => hmr b (by rw [← hb]; first | (simp; done) | simp [rb]) (by simp))
  replace hE := hE'
  replace hI := hI'
  clear hE' hI' hmv hmr
  obtain ⟨hE', hmv, hq_4, hcap_9⟩ := Row.still (l1 := []) (l2 := [rb A_6]) hq_4 hE
  have hmr : ∀ b : Nat, some b ∈ ([rb A_3, rb A_6] : List (Option Nat)) → w_8.heap[b]? = w_8.heap[b]? := fun _ _ => rfl
  replace hq_7 := Row.keep hq_7 hmv (fun b hb => hmr b (by rw [← hb]; first | (simp; done) | simp [rb]))
  replace hE := hE'
  clear hE' hmv hmr
  obtain ⟨hE', hmv, hq_7, hcap_10⟩ := Row.still (l1 := []) (l2 := []) hq_7 hE
  have hmr : ∀ b : Nat, some b ∈ ([rb A_6] : List (Option Nat)) → w_8.heap[b]? = w_8.heap[b]? := fun _ _ => rfl
  replace hq_4 := Arr.keep hq_4 hmv
  replace hE := hE'
  clear hE' hmv hmr
  obtain ⟨t_11, hG_12, H0⟩ := bind_some H0
  refine callH_ (S0 := S) hF hE hI (wanted_none rfl) rfl (args := [.slice A_3 ([1, 2] : List Int).length (([1, 2] : List Int).length), .slice A_6 ([1, 3, 4] : List Int).length (([1, 3, 4] : List Int).length), .int .i64 9]) rfl (enters Try.func32 (by kernel_rfl) rfl) (fun sv_13 => .slice ((sv_13 0).1) t_11.length ((sv_13 0).2)) _ (G_law22_told.calls ([1, 2] : List Int) ([1, 3, 4] : List Int) 9 A_3 (([1, 2] : List Int).length) A_6 (([1, 3, 4] : List Int).length) w_8 (S := Lo S w w_8 ns_1 []) hq_4 hcap_9 hq_7 hcap_10 _ hG_12) (fun sv_13 => ⟨[⟨3, [], .v (.slice ((sv_13 0).1) t_11.length ((sv_13 0).2))⟩, ⟨2, [], .v (.slice A_6 ([1, 3, 4] : List Int).length (([1, 3, 4] : List Int).length))⟩, ⟨1, [], .v (.slice A_3 ([1, 2] : List Int).length (([1, 2] : List Int).length))⟩, ⟨0, [], .v (.bool false)⟩], [], [], [], none, none⟩) (fun sv_13 => by kernel_rfl) (fun sv_13 a w_15 hput hE' hI' hmv hmr hres hR => ?_)
  replace hq_4 := Arr.keep hq_4 hmv
  replace hq_7 := Arr.keep hq_7 hmv
  replace hE := hE'
  replace hI := hI'
  clear hE' hI' hmv hmr
  obtain ⟨hR_14, hR_14c⟩ := hR
  replace hR_14 := Arr.keep hR_14 hres
  clear hres
  refine chunkL_ (live := [3, 0]) (orc := []) hF 0 hI ⟨[⟨3, [], .v (.slice ((sv_13 0).1) t_11.length ((sv_13 0).2))⟩, ⟨0, [], .v (.bool false)⟩], [], [], [], none, none⟩ [] rfl (by kernel_rfl) trivial (fun ns_16 a w_17 hI => ?_)
  obtain ⟨hE', hmv, hmr⟩ := Ep.rebase (S0 := S) hE hI
  replace hq_4 := Arr.keep hq_4 hmv
  replace hq_7 := Arr.keep hq_7 hmv
  replace hR_14 := Arr.keep hR_14 hmv
  replace hE := hE'
  replace hI := hI.rebase
  clear hE' hmv hmr
  refine buildSlice_ (S0 := S) (d := (Kd.int .i64)) (e := 3) hF hE hI (wanted_none rfl) rfl (by kernel_rfl) (cs := [.int .i64 1, .int .i64 2]) (by kernel_rfl) [1, 2] [(svL []), (svL [])] rfl rfl (by simp [maxLen]) (fun i x hi => by cases i with | zero => (simp only [List.getElem?_cons_zero, Option.some.injEq] at hi; subst hi; exact ⟨trivial, rfl⟩) | succ i => (simp only [List.getElem?_cons_succ] at hi; cases i with | zero => (simp only [List.getElem?_cons_zero, Option.some.injEq] at hi; subst hi; exact ⟨trivial, rfl⟩) | succ i => (simp only [List.getElem?_cons_succ] at hi; simp at hi))) (fun A_18 => ⟨[⟨4, [], .v (.slice A_18 ([1, 2] : List Int).length (([1, 2] : List Int).length))⟩, ⟨3, [], .v (.slice ((sv_13 0).1) t_11.length ((sv_13 0).2))⟩, ⟨0, [], .v (.bool false)⟩], [], [], [], none, none⟩) (fun A_18 => by kernel_rfl) (fun A_18 a w_20 hput hE' hI' hmv hmr hq_19 => ?_)
  replace hq_4 := Arr.keep hq_4 hmv
  replace hq_7 := Arr.keep hq_7 hmv
  replace hR_14 := Arr.keep hR_14 hmv
  replace hE := hE'
  replace hI := hI'
  clear hE' hI' hmv hmr
  obtain ⟨t_21, hG_22, H0⟩ := bind_some H0
  refine chunkL_ (live := [0]) (orc := [[.bool t_21]]) hF 2 hI ⟨[⟨0, [], .v (.bool t_21)⟩], [], [], [], none, none⟩ [.call true 18 [.slice ((sv_13 0).1) t_11.length ((sv_13 0).2), .slice A_18 ([1, 2] : List Int).length (([1, 2] : List Int).length)] (.bool t_21)] rfl (by kernel_rfl) ⟨ob_call (enters Try.func18 (by kernel_rfl) rfl) (fun hg wz hk => G_ref01_Same.calls t_11 ([1, 2] : List Int) ((sv_13 0).1) ((sv_13 0).2) A_18 (([1, 2] : List Int).length) wz (S := fun _ => True) (Arr.any (Arr.keep hR_14 (Lo.on hk))) hR_14c (Row.arr (S' := fun _ => True) (Row.on hq_19 hE (by simp) hk) (fun _ _ => trivial) (fun _ _ => trivial)).1 (Row.arr (S' := fun _ => True) hq_19 (fun _ _ => trivial) (fun _ _ => trivial)).2 _ hG_22), trivial⟩ (fun ns_23 a w_24 hI => ?_)
  refine wpListIn_nil ?_
  refine then_normal ?_
  refine wpIn_ret ?_
  obtain rfl := Option.some.inj H0
  exact ret1 hI rfl rfl ⟨rfl, hE.below hI⟩

/-! ### porthole/portholeref22.Changed: function 31 -/
noncomputable def G_ref22_Changed.b1 (l0 : (List Int)) (l1 : (List Int)) (s1 : Int × (List Int)) : Option (Stp (Int × (List Int)) (Ex (Int × (List Int)) ((List Int)))) := (bif (decide (s1.1 < (l0.length : Int)) || decide (s1.1 < (l1.length : Int))) then (req (imp (!(decide (s1.1 ≥ (l0.length : Int)) || decide (s1.1 ≥ (l1.length : Int)))) (inb s1.1 l0.length)) (req (imp (!(decide (s1.1 ≥ (l0.length : Int)) || decide (s1.1 ≥ (l1.length : Int)))) (inb s1.1 l1.length)) (bif ((decide (s1.1 ≥ (l0.length : Int)) || decide (s1.1 ≥ (l1.length : Int))) || ((rd l0 s1.1) != (rd l1 s1.1))) then (req (decide ((s1.2.length + 1) * 8 ≤ 140737488355328)) (some (.next ((IntKind.i64.wrap (s1.1 + 1)), (s1.2 ++ [s1.1]))))) else some (.next ((IntKind.i64.wrap (s1.1 + 1)), s1.2))))) else some (.out (.brk (s1.1, s1.2))))
noncomputable def G_ref22_Changed (l0 : (List Int)) (l1 : (List Int)) : Option ((List Int)) := ((loopω (G_ref22_Changed.b1 l0 l1) (0, ([] : List Int))).bind fun o => o.on (fun s1 => some s1.2) (fun r => some r))
set_option maxRecDepth 100000 in
set_option maxHeartbeats 4000000 in
theorem G_ref22_Changed.calls (l0 : (List Int)) (l1 : (List Int)) (A0 : Option Addr) (c0 : Nat) (A1 : Option Addr) (c1 : Nat) (w : World) {S : Nat → Prop} (hr0 : Arr (Kd.int .u32) S w A0 l0) (hc0 : l0.length ≤ c0) (hr1 : Arr (Kd.int .u32) S w A1 l1) (hc1 : l1.length ≤ c1) (r : (List Int)) (h : G_ref22_Changed l0 l1 = some r) :
    Calls Try.prog 31 #[.slice A0 l0.length c0, .slice A1 l1.length c1] w fun e w' => ∃ sv : SV, e = .returned (.slice ((sv 0).1) r.length ((sv 0).2)) ∧ Below w.heap.size w w' ∧ (Arr (Kd.int .i64) (fun b => w.heap.size ≤ b ∨ S b) w' (sv 0).1 r ∧ r.length ≤ (sv 0).2) := by
  replace hr0 := Arr.lo hr0
  replace hr1 := Arr.lo hr1
  unfold G_ref22_Changed at h
  have H0 := h
  clear h
  refine enter Try.func31 rfl [.slice A0 l0.length c0, .slice A1 l1.length c1] (n := 45) rfl (Nat.le_of_ble_eq_true rfl) (fun a hI => ?_)
  have hF : FOpen Fence.wide := .inl rfl
  have hE := Ep.start w
  refine seq_region (live := [4, 0, 1]) (orc := []) hF hI ⟨[⟨4, [], .v (.slice none 0 0)⟩, ⟨0, [], .v (.slice A0 l0.length c0)⟩, ⟨1, [], .v (.slice A1 l1.length c1)⟩], [], [], [], none, none⟩ [] (by kernel_rfl) trivial (fun ns_1 a w_2 hI _ => ?_)
  refine seq_region (live := [5, 4, 0, 1]) (orc := []) hF hI ⟨[⟨5, [], .v (.slice none 0 0)⟩, ⟨4, [], .v (.slice none 0 0)⟩, ⟨0, [], .v (.slice A0 l0.length c0)⟩, ⟨1, [], .v (.slice A1 l1.length c1)⟩], [], [], [], none, none⟩ [] (by kernel_rfl) trivial (fun ns_3 a w_4 hI _ => ?_)
  refine wpIn_seq ?_
  refine seq_region (live := [6, 5, 4, 0, 1]) (orc := []) hF hI ⟨[⟨6, [], .v (.int .i64 0)⟩, ⟨5, [], .v (.slice none 0 0)⟩, ⟨4, [], .v (.slice none 0 0)⟩, ⟨0, [], .v (.slice A0 l0.length c0)⟩, ⟨1, [], .v (.slice A1 l1.length c1)⟩], [], [], [], none, none⟩ [] (by kernel_rfl) trivial (fun ns_5 a w_6 hI _ => ?_)
  obtain ⟨hE', hmv, hmr⟩ := Ep.rebase (S0 := S) hE hI
  replace hr0 := Arr.keep hr0 hmv
  replace hr1 := Arr.keep hr1 hmv
  replace hE := hE'
  replace hI := hI.rebase
  clear hE' hmv hmr
  obtain ⟨hE', hmv⟩ := Ep.addNil (S0 := S) hE
  have hmr : ∀ b : Nat, some b ∈ ([] : List (Option Nat)) → w_6.heap[b]? = w_6.heap[b]? := fun _ _ => rfl
  replace hr0 := Arr.keep hr0 hmv
  replace hr1 := Arr.keep hr1 hmv
  replace hE := hE'
  clear hE' hmv hmr
  have hq_7 : Row (Kd.int .i64) 3 (Lo S w w_6 ns_5 [rb none]) w_6 w.heap.size none 0 ([] : List Int) := Row.nil
  obtain ⟨o_44, hL_45, H0⟩ := bind_some H0
  refine block_loop (fun s1 a w_52 => ∃ (ow ns : List Nat) (A_8 : Option Addr) (c_9 : Nat), (Arr (Kd.int .u32) (Lo S w w_52 ow [rb A_8]) w_52 A0 l0) ∧ (Arr (Kd.int .u32) (Lo S w w_52 ow [rb A_8]) w_52 A1 l1) ∧ (Row (Kd.int .i64) 3 (Lo S w w_52 ow [rb A_8]) w_52 w.heap.size A_8 c_9 s1.2) ∧ Ep w w_52 ow [rb A_8] ∧ St w_52 ow 45 ⟨[⟨6, [], .v (.int .i64 s1.1)⟩, ⟨5, [], .v (.slice A_8 s1.2.length c_9)⟩, ⟨4, [], .v (.slice none 0 0)⟩, ⟨0, [], .v (.slice A0 l0.length c0)⟩, ⟨1, [], .v (.slice A1 l1.length c1)⟩], [], [], [], none, none⟩ ns a w_52) (0, ([] : List Int)) hL_45 ⟨_, _, _, _, hr0, hr1, hq_7, hE, hI.pick [6, 5, 4, 0, 1] 0 ⟨[⟨6, [], .v (.int .i64 0)⟩, ⟨5, [], .v (.slice none ([] : List Int).length 0)⟩, ⟨4, [], .v (.slice none 0 0)⟩, ⟨0, [], .v (.slice A0 l0.length c0)⟩, ⟨1, [], .v (.slice A1 l1.length c1)⟩], [], [], [], none, none⟩ (by kernel_rfl)⟩ ?_ ?_
  · clear hI hE
    rintro s1 a w_10 ⟨ow_12, ns_11, A_8, c_9, hr0, hr1, hq_7, hE, hI⟩ r1 H1
    unfold G_ref22_Changed.b1 at H1
    refine wpIn_seq ?_
    refine seq_region (live := [16, 6, 5, 4, 0, 1]) (orc := []) hF hI ⟨[⟨16, [], .v (.bool (decide (s1.1 < (l0.length : Int)) || decide (s1.1 < (l1.length : Int))))⟩, ⟨6, [], .v (.int .i64 s1.1)⟩, ⟨5, [], .v (.slice A_8 s1.2.length c_9)⟩, ⟨4, [], .v (.slice none 0 0)⟩, ⟨0, [], .v (.slice A0 l0.length c0)⟩, ⟨1, [], .v (.slice A1 l1.length c1)⟩], [], [], [], none, none⟩ [] (by kernel_rfl) trivial (fun ns_13 a w_14 hI _ => ?_)
    refine cond_ hI ((decide (s1.1 < (l0.length : Int)) || decide (s1.1 < (l1.length : Int)))) rfl (fun hc_15 => ?_) (fun hc_15 => ?_)
    · replace H1 := bif_t hc_15 H1
      refine wpIn_skip ?_
      refine then_normal ?_
      refine wpIn_seq ?_
      refine wpIn_block ?_
      refine wpIn_seq ?_
      obtain ⟨hN_16, H1⟩ := req_some H1
      obtain ⟨sv_17, hE_19, hA_18⟩ := Arr.elB (d := (Kd.int .u32)) hr0 s1.1 (!(decide (s1.1 ≥ (l0.length : Int)) || decide (s1.1 ≥ (l1.length : Int)))) (fun hg => imp_spec hN_16 hg)
      obtain ⟨hN_20, H1⟩ := req_some H1
      obtain ⟨sv_21, hE_23, hA_22⟩ := Arr.elB (d := (Kd.int .u32)) hr1 s1.1 (!(decide (s1.1 ≥ (l0.length : Int)) || decide (s1.1 ≥ (l1.length : Int)))) (fun hg => imp_spec hN_20 hg)
      refine drawn_ (live := [39, 16, 6, 5, 4, 0, 1]) (orc := [[.int .u32 (rd l0 s1.1)], [.int .u32 (rd l1 s1.1)]]) hF hI ⟨[⟨39, [], .v (.bool ((decide (s1.1 ≥ (l0.length : Int)) || decide (s1.1 ≥ (l1.length : Int))) || ((rd l0 s1.1) != (rd l1 s1.1))))⟩, ⟨16, [], .v (.bool (decide (s1.1 < (l0.length : Int)) || decide (s1.1 < (l1.length : Int))))⟩, ⟨6, [], .v (.int .i64 s1.1)⟩, ⟨5, [], .v (.slice A_8 s1.2.length c_9)⟩, ⟨4, [], .v (.slice none 0 0)⟩, ⟨0, [], .v (.slice A0 l0.length c0)⟩, ⟨1, [], .v (.slice A1 l1.length c1)⟩], [], [], [], none, none⟩ [.need (!(decide (s1.1 ≥ (l0.length : Int)) || decide (s1.1 ≥ (l1.length : Int)))) (0 ≤ s1.1 ∧ s1.1 < (l0.length : Int)), .need (!(decide (s1.1 ≥ (l0.length : Int)) || decide (s1.1 ≥ (l1.length : Int)))) (A0 = some (adr A0)), .cell (!(decide (s1.1 ≥ (l0.length : Int)) || decide (s1.1 ≥ (l1.length : Int)))) ((adr A0).add ((s1.1 : Int).toNat * 1)) [.int .u32 (rd l0 s1.1)], .need (!(decide (s1.1 ≥ (l0.length : Int)) || decide (s1.1 ≥ (l1.length : Int)))) (0 ≤ s1.1 ∧ s1.1 < (l1.length : Int)), .need (!(decide (s1.1 ≥ (l0.length : Int)) || decide (s1.1 ≥ (l1.length : Int)))) (A1 = some (adr A1)), .cell (!(decide (s1.1 ≥ (l0.length : Int)) || decide (s1.1 ≥ (l1.length : Int)))) ((adr A1).add ((s1.1 : Int).toNat * 1)) [.int .u32 (rd l1 s1.1)]] (by kernel_rfl) (by kernel_rfl) (by kernel_rfl) ⟨ob_inb (fun hg => imp_spec hN_16 hg), hA_18, ob_el (fun hg => hE_19 hg) 0 [.int .u32 (rd l0 s1.1)] rfl, ob_inb (fun hg => imp_spec hN_20 hg), hA_22, ob_el (fun hg => hE_23 hg) 0 [.int .u32 (rd l1 s1.1)] rfl, trivial⟩ (fun a w_24 hI => ?_)
      refine then_normal ?_
      refine cond_ hI (((decide (s1.1 ≥ (l0.length : Int)) || decide (s1.1 ≥ (l1.length : Int))) || ((rd l0 s1.1) != (rd l1 s1.1)))) rfl (fun hc_25 => ?_) (fun hc_25 => ?_)
      · replace H1 := bif_t hc_25 H1
        refine wpIn_region_lit ?_
        refine chunkL_ (live := [41, 40, 39, 16, 6, 5, 4, 0, 1]) (orc := []) hF 2 hI ⟨[⟨41, [], .v (.int .i64 s1.1)⟩, ⟨40, [], .v (.slice A_8 s1.2.length c_9)⟩, ⟨39, [], .v (.bool ((decide (s1.1 ≥ (l0.length : Int)) || decide (s1.1 ≥ (l1.length : Int))) || ((rd l0 s1.1) != (rd l1 s1.1))))⟩, ⟨16, [], .v (.bool (decide (s1.1 < (l0.length : Int)) || decide (s1.1 < (l1.length : Int))))⟩, ⟨6, [], .v (.int .i64 s1.1)⟩, ⟨5, [], .v (.slice A_8 s1.2.length c_9)⟩, ⟨4, [], .v (.slice none 0 0)⟩, ⟨0, [], .v (.slice A0 l0.length c0)⟩, ⟨1, [], .v (.slice A1 l1.length c1)⟩], [], [], [], none, none⟩ [] rfl (by kernel_rfl) trivial (fun ns_26 a w_27 hI => ?_)
        obtain ⟨hE', hmv, hmr⟩ := Ep.rebase (S0 := S) hE hI
        replace hr0 := Arr.keep hr0 hmv
        replace hr1 := Arr.keep hr1 hmv
        replace hq_7 := Row.keep hq_7 hmv (fun b hb => hmr b (by rw [← hb]; first | (simp; done) | simp [rb]))
        replace hE := hE'
        replace hI := hI.rebase
        clear hE' hmv hmr
        refine buildSlice_ (S0 := S) (d := (Kd.int .i64)) (e := 3) hF hE hI (wanted_none rfl) rfl (by kernel_rfl) (cs := [.int .i64 s1.1]) (by kernel_rfl) [s1.1] [(svL [])] rfl rfl (by simp [maxLen]) (fun i x hi => by cases i with | zero => (simp only [List.getElem?_cons_zero, Option.some.injEq] at hi; subst hi; exact ⟨trivial, rfl⟩) | succ i => (simp only [List.getElem?_cons_succ] at hi; simp at hi)) (fun A_28 => ⟨[⟨42, [], .v (.slice A_28 ([s1.1] : List Int).length (([s1.1] : List Int).length))⟩, ⟨41, [], .v (.int .i64 s1.1)⟩, ⟨40, [], .v (.slice A_8 s1.2.length c_9)⟩, ⟨39, [], .v (.bool ((decide (s1.1 ≥ (l0.length : Int)) || decide (s1.1 ≥ (l1.length : Int))) || ((rd l0 s1.1) != (rd l1 s1.1))))⟩, ⟨16, [], .v (.bool (decide (s1.1 < (l0.length : Int)) || decide (s1.1 < (l1.length : Int))))⟩, ⟨6, [], .v (.int .i64 s1.1)⟩, ⟨5, [], .v (.slice A_8 s1.2.length c_9)⟩, ⟨4, [], .v (.slice none 0 0)⟩, ⟨0, [], .v (.slice A0 l0.length c0)⟩, ⟨1, [], .v (.slice A1 l1.length c1)⟩], [], [], [], none, none⟩) (fun A_28 => by kernel_rfl) (fun A_28 a w_30 hput hE' hI' hmv hmr hq_29 => ?_)
        replace hr0 := Arr.keep hr0 hmv
        replace hr1 := Arr.keep hr1 hmv
        replace hq_7 := Row.keep hq_7 hmv (fun b hb => hmr b (by rw [← hb]; first | (simp; done) | simp [rb]) (by simp))
        replace hE := hE'
        replace hI := hI'
        clear hE' hI' hmv hmr
        refine chunkL_ (live := [42, 40, 39, 16, 6, 5, 4, 0, 1]) (orc := []) hF 0 hI ⟨[⟨42, [], .v (.slice A_28 ([s1.1] : List Int).length (([s1.1] : List Int).length))⟩, ⟨40, [], .v (.slice A_8 s1.2.length c_9)⟩, ⟨39, [], .v (.bool ((decide (s1.1 ≥ (l0.length : Int)) || decide (s1.1 ≥ (l1.length : Int))) || ((rd l0 s1.1) != (rd l1 s1.1))))⟩, ⟨16, [], .v (.bool (decide (s1.1 < (l0.length : Int)) || decide (s1.1 < (l1.length : Int))))⟩, ⟨6, [], .v (.int .i64 s1.1)⟩, ⟨5, [], .v (.slice A_8 s1.2.length c_9)⟩, ⟨4, [], .v (.slice none 0 0)⟩, ⟨0, [], .v (.slice A0 l0.length c0)⟩, ⟨1, [], .v (.slice A1 l1.length c1)⟩], [], [], [], none, none⟩ [] rfl (by kernel_rfl) trivial (fun ns_31 a w_32 hI => ?_)
        obtain ⟨hE', hmv, hmr⟩ := Ep.rebase (S0 := S) hE hI
        replace hr0 := Arr.keep hr0 hmv
        replace hr1 := Arr.keep hr1 hmv
        replace hq_7 := Row.keep hq_7 hmv (fun b hb => hmr b (by rw [← hb]; first | (simp; done) | simp [rb]))
        replace hq_29 := Row.keep hq_29 hmv (fun b hb => hmr b (by rw [← hb]; first | (simp; done) | simp [rb]))
        replace hE := hE'
        replace hI := hI.rebase
        clear hE' hmv hmr
        obtain ⟨hE', hmv, hq_29, hcap_33⟩ := Row.still (l1 := [rb A_8]) (l2 := []) hq_29 hE
        have hmr : ∀ b : Nat, some b ∈ ([rb A_8, rb A_28] : List (Option Nat)) → w_32.heap[b]? = w_32.heap[b]? := fun _ _ => rfl
        replace hr0 := Arr.keep hr0 hmv
        replace hr1 := Arr.keep hr1 hmv
        replace hq_7 := Row.keep hq_7 hmv (fun b hb => hmr b (by rw [← hb]; first | (simp; done) | simp [rb]))
        replace hE := hE'
        clear hE' hmv hmr
        obtain ⟨hN_34, H1⟩ := req_some H1
        replace hN_34 := of_decide_eq_true hN_34
        refine append_ (S0 := S) (l1 := []) (l2 := []) (d := (Kd.int .i64)) (e := 3) hF hE hI (wanted_none rfl) rfl (A := A_8) (c := c_9) (l := s1.2) rfl (A2 := A_28) (c2 := (([s1.1] : List Int).length)) rfl hq_7 hq_29 (fun sv u hu => by exact kd_one_int _ sv u hu) Try.underlying39 (zi := (.int .i64 0, 1, 8)) (by kernel_rfl) rfl (by kernel_rfl) (len_max (by decide) hN_34) hN_34 (fun A_35 c_36 => ⟨[⟨43, [], .v (.slice A_35 (s1.2 ++ [s1.1]).length c_36)⟩, ⟨42, [], .v (.slice A_28 ([s1.1] : List Int).length (([s1.1] : List Int).length))⟩, ⟨40, [], .v (.slice A_8 s1.2.length c_9)⟩, ⟨39, [], .v (.bool ((decide (s1.1 ≥ (l0.length : Int)) || decide (s1.1 ≥ (l1.length : Int))) || ((rd l0 s1.1) != (rd l1 s1.1))))⟩, ⟨16, [], .v (.bool (decide (s1.1 < (l0.length : Int)) || decide (s1.1 < (l1.length : Int))))⟩, ⟨6, [], .v (.int .i64 s1.1)⟩, ⟨5, [], .v (.slice A_8 s1.2.length c_9)⟩, ⟨4, [], .v (.slice none 0 0)⟩, ⟨0, [], .v (.slice A0 l0.length c0)⟩, ⟨1, [], .v (.slice A1 l1.length c1)⟩], [], [], [], none, none⟩) (fun A_35 c_36 => by kernel_rfl) (fun A_35 c_36 a w_37 hput hE' hI' hmv hmr hq_7 => ?_)
        replace hr0 := Arr.keep hr0 hmv
        replace hr1 := Arr.keep hr1 hmv
        replace hq_29 := Arr.keep hq_29 hmv
        replace hE := hE'
        replace hI := hI'
        clear hE' hI' hmv hmr
        refine chunkL_ (live := [5, 39, 16, 6, 4, 0, 1]) (orc := []) hF 1 hI ⟨[⟨5, [], .v (.slice A_35 (s1.2 ++ [s1.1]).length c_36)⟩, ⟨39, [], .v (.bool ((decide (s1.1 ≥ (l0.length : Int)) || decide (s1.1 ≥ (l1.length : Int))) || ((rd l0 s1.1) != (rd l1 s1.1))))⟩, ⟨16, [], .v (.bool (decide (s1.1 < (l0.length : Int)) || decide (s1.1 < (l1.length : Int))))⟩, ⟨6, [], .v (.int .i64 s1.1)⟩, ⟨4, [], .v (.slice none 0 0)⟩, ⟨0, [], .v (.slice A0 l0.length c0)⟩, ⟨1, [], .v (.slice A1 l1.length c1)⟩], [], [], [], none, none⟩ [] rfl (by kernel_rfl) trivial (fun ns_38 a w_39 hI => ?_)
        refine wpListIn_nil ?_
        refine inBlock_normal ?_
        refine then_normal ?_
        refine region_ (live := [6, 5, 39, 16, 4, 0, 1]) (orc := []) hF hI ⟨[⟨6, [], .v (.int .i64 (IntKind.i64.wrap (s1.1 + 1)))⟩, ⟨5, [], .v (.slice A_35 (s1.2 ++ [s1.1]).length c_36)⟩, ⟨39, [], .v (.bool ((decide (s1.1 ≥ (l0.length : Int)) || decide (s1.1 ≥ (l1.length : Int))) || ((rd l0 s1.1) != (rd l1 s1.1))))⟩, ⟨16, [], .v (.bool (decide (s1.1 < (l0.length : Int)) || decide (s1.1 < (l1.length : Int))))⟩, ⟨4, [], .v (.slice none 0 0)⟩, ⟨0, [], .v (.slice A0 l0.length c0)⟩, ⟨1, [], .v (.slice A1 l1.length c1)⟩], [], [], [], none, none⟩ [] (by kernel_rfl) trivial (fun ns_40 a w_41 hI _ => ?_)
        refine then_normal ?_
        obtain ⟨hE', hmv, hmr⟩ := Ep.rebase (S0 := S) hE hI
        replace hr0 := Arr.keep hr0 hmv
        replace hr1 := Arr.keep hr1 hmv
        replace hq_29 := Arr.keep hq_29 hmv
        replace hq_7 := Row.keep hq_7 hmv (fun b hb => hmr b (by rw [← hb]; first | (simp; done) | simp [rb]))
        replace hE := hE'
        replace hI := hI.rebase
        clear hE' hmv hmr
        obtain rfl := Option.some.inj H1
        exact ⟨_, rfl, ⟨_, _, _, _, hr0, hr1, hq_7, hE, hI.pick [6, 5, 4, 0, 1] 0 ⟨[⟨6, [], .v (.int .i64 (IntKind.i64.wrap (s1.1 + 1)))⟩, ⟨5, [], .v (.slice A_35 (s1.2 ++ [s1.1]).length c_36)⟩, ⟨4, [], .v (.slice none 0 0)⟩, ⟨0, [], .v (.slice A0 l0.length c0)⟩, ⟨1, [], .v (.slice A1 l1.length c1)⟩], [], [], [], none, none⟩ (by kernel_rfl)⟩⟩
      · replace H1 := bif_f hc_25 H1
        refine wpIn_skip ?_
        refine inBlock_normal ?_
        refine then_normal ?_
        refine region_ (live := [6, 39, 16, 5, 4, 0, 1]) (orc := []) hF hI ⟨[⟨6, [], .v (.int .i64 (IntKind.i64.wrap (s1.1 + 1)))⟩, ⟨39, [], .v (.bool ((decide (s1.1 ≥ (l0.length : Int)) || decide (s1.1 ≥ (l1.length : Int))) || ((rd l0 s1.1) != (rd l1 s1.1))))⟩, ⟨16, [], .v (.bool (decide (s1.1 < (l0.length : Int)) || decide (s1.1 < (l1.length : Int))))⟩, ⟨5, [], .v (.slice A_8 s1.2.length c_9)⟩, ⟨4, [], .v (.slice none 0 0)⟩, ⟨0, [], .v (.slice A0 l0.length c0)⟩, ⟨1, [], .v (.slice A1 l1.length c1)⟩], [], [], [], none, none⟩ [] (by kernel_rfl) trivial (fun ns_42 a w_43 hI _ => ?_)
        refine then_normal ?_
        obtain ⟨hE', hmv, hmr⟩ := Ep.rebase (S0 := S) hE hI
        replace hr0 := Arr.keep hr0 hmv
        replace hr1 := Arr.keep hr1 hmv
        replace hq_7 := Row.keep hq_7 hmv (fun b hb => hmr b (by rw [← hb]; first | (simp; done) | simp [rb]))
        replace hE := hE'
        replace hI := hI.rebase
        clear hE' hmv hmr
        obtain rfl := Option.some.inj H1
        exact ⟨_, rfl, ⟨_, _, _, _, hr0, hr1, hq_7, hE, hI.pick [6, 5, 4, 0, 1] 0 ⟨[⟨6, [], .v (.int .i64 (IntKind.i64.wrap (s1.1 + 1)))⟩, ⟨5, [], .v (.slice A_8 s1.2.length c_9)⟩, ⟨4, [], .v (.slice none 0 0)⟩, ⟨0, [], .v (.slice A0 l0.length c0)⟩, ⟨1, [], .v (.slice A1 l1.length c1)⟩], [], [], [], none, none⟩ (by kernel_rfl)⟩⟩
    · replace H1 := bif_f hc_15 H1
      refine wpIn_exit ?_
      refine then_exit ?_
      refine then_exit ?_
      obtain ⟨hE', hmv, hmr⟩ := Ep.rebase (S0 := S) hE hI
      replace hr0 := Arr.keep hr0 hmv
      replace hr1 := Arr.keep hr1 hmv
      replace hq_7 := Row.keep hq_7 hmv (fun b hb => hmr b (by rw [← hb]; first | (simp; done) | simp [rb]))
      replace hE := hE'
      replace hI := hI.rebase
      clear hE' hmv hmr
      obtain rfl := Option.some.inj H1
      exact .inl ⟨_, rfl, rfl, ⟨_, _, _, _, hr0, hr1, hq_7, hE, hI.pick [6, 5, 4, 0, 1] 0 ⟨[⟨6, [], .v (.int .i64 s1.1)⟩, ⟨5, [], .v (.slice A_8 s1.2.length c_9)⟩, ⟨4, [], .v (.slice none 0 0)⟩, ⟨0, [], .v (.slice A0 l0.length c0)⟩, ⟨1, [], .v (.slice A1 l1.length c1)⟩], [], [], [], none, none⟩ (by kernel_rfl)⟩⟩
  · clear hI hE
    rintro s1 a w_46 ho ⟨ow_48, ns_47, A_8, c_9, hr0, hr1, hq_7, hE, hI⟩
    subst ho
    replace H0 : (some s1.2 : Option ((List Int))) = _ := H0
    refine then_normal ?_
    refine seq_region (live := [4, 6, 5, 0, 1]) (orc := []) hF hI ⟨[⟨4, [], .v (.slice A_8 s1.2.length c_9)⟩, ⟨6, [], .v (.int .i64 s1.1)⟩, ⟨5, [], .v (.slice A_8 s1.2.length c_9)⟩, ⟨0, [], .v (.slice A0 l0.length c0)⟩, ⟨1, [], .v (.slice A1 l1.length c1)⟩], [], [], [], none, none⟩ [] (by kernel_rfl) trivial (fun ns_49 a w_50 hI _ => ?_)
    obtain ⟨hE', hmv, hmr⟩ := Ep.rebase (S0 := S) hE hI
    replace hr0 := Arr.keep hr0 hmv
    replace hr1 := Arr.keep hr1 hmv
    replace hq_7 := Row.keep hq_7 hmv (fun b hb => hmr b (by rw [← hb]; first | (simp; done) | simp [rb]))
    replace hE := hE'
    replace hI := hI.rebase
    clear hE' hmv hmr
    obtain ⟨hE', hmv, hq_7, hcap_51⟩ := Row.still (l1 := []) (l2 := []) hq_7 hE
    have hmr : ∀ b : Nat, some b ∈ ([rb A_8] : List (Option Nat)) → w_50.heap[b]? = w_50.heap[b]? := fun _ _ => rfl
    replace hr0 := Arr.keep hr0 hmv
    replace hr1 := Arr.keep hr1 hmv
    replace hE := hE'
    clear hE' hmv hmr
    refine wpIn_ret ?_
    obtain rfl := Option.some.inj H0
    exact ret1 hI rfl rfl ⟨svL [(A_8, c_9)], rfl, hE.below hI, ⟨Arr.keep hq_7 (hE.out hI), hcap_51⟩⟩

/-! ### porthole/audit.Quiet: function 33 -/
noncomputable def G_audit_Quiet.r1 (l0 : (List Int)) (l1 : (List Int)) (t_5 : ((List Int) × (List Int))) (s1 : Bool) (y_24 : Int) : Option (Stp (Bool) (Nat × (Bool))) := some (.out (0, false))
noncomputable def G_audit_Quiet (l0 : (List Int)) (l1 : (List Int)) : Option (Bool) := ((G_audit_Changed l0 l1).bind fun t_5 => ((G_audit_Changed_1 (G_audit_Quiet.r1 l0 l1 t_5) false t_5.1 t_5.2).bind fun z => z.on (fun s1 => some true) (fun r1 => some r1.2)))
set_option maxRecDepth 100000 in
set_option maxHeartbeats 4000000 in
theorem G_audit_Quiet.calls (l0 : (List Int)) (l1 : (List Int)) (A0 : Option Addr) (c0 : Nat) (A1 : Option Addr) (c1 : Nat) (w : World) {S : Nat → Prop} (hr0 : Arr (Kd.int .u32) S w A0 l0) (hc0 : l0.length ≤ c0) (hr1 : Arr (Kd.int .u32) S w A1 l1) (hc1 : l1.length ≤ c1) (r : Bool) (h : G_audit_Quiet l0 l1 = some r) :
    Calls Try.prog 33 #[.slice A0 l0.length c0, .slice A1 l1.length c1] w fun e w' => e = .returned (.bool r) ∧ Below w.heap.size w w' := by
  replace hr0 := Arr.lo hr0
  replace hr1 := Arr.lo hr1
  unfold G_audit_Quiet at h
  have H0 := h
  clear h
  refine enterM Try.func33 rfl [.slice A0 l0.length c0, .slice A1 l1.length c1] (n := 9) rfl (Nat.le_of_ble_eq_true rfl) (fun a hI => ?_)
  have hF : FOpen Fence.wide := .inl rfl
  have hE := Ep.start w
  refine seq_region (live := [4, 0, 1]) (orc := []) hF hI ⟨[⟨4, [], .p 0 0⟩, ⟨0, [], .v (.slice A0 l0.length c0)⟩, ⟨1, [], .v (.slice A1 l1.length c1)⟩], [], [], [([.v (.bool false)], 4)], some (w.heap.size, none), none⟩ [] (by kernel_rfl) trivial (fun ns_1 a w_2 hI _ => ?_)
  refine wpIn_seq ?_
  refine wpIn_seq ?_
  refine wpIn_region_lit ?_
  refine chunkL_ (live := [6, 5, 4, 0, 1]) (orc := []) hF 2 hI ⟨[⟨6, [], .v (.slice A1 l1.length c1)⟩, ⟨5, [], .v (.slice A0 l0.length c0)⟩, ⟨4, [], .p 0 0⟩, ⟨0, [], .v (.slice A0 l0.length c0)⟩, ⟨1, [], .v (.slice A1 l1.length c1)⟩], [], [], [([.v (.bool false)], 4)], some (w.heap.size, none), none⟩ [] rfl (by kernel_rfl) trivial (fun ns_3 a w_4 hI => ?_)
  obtain ⟨hE', hmv, hmr⟩ := Ep.rebase (S0 := S) hE hI
  replace hr0 := Arr.keep hr0 hmv
  replace hr1 := Arr.keep hr1 hmv
  replace hE := hE'
  replace hI := hI.rebase
  clear hE' hmv hmr
  obtain ⟨t_5, hG_6, H0⟩ := bind_some H0
  refine callH_ (S0 := S) hF hE hI (wanted_none rfl) rfl (args := [.slice A0 l0.length c0, .slice A1 l1.length c1]) rfl (enters Try.func49 (by kernel_rfl) rfl) (fun sv_7 => .func (.func 62) #[] #[.pointer (some (adr (sv_7 0).1)), .pointer (some (adr (sv_7 2).1))]) _ (G_audit_Changed.calls l0 l1 A0 c0 A1 c1 w_4 (S := Lo S w w_4 ns_3 []) hr0 hc0 hr1 hc1 _ hG_6) (fun sv_7 => ⟨[⟨7, [], .v (.func (.func 62) #[] #[.pointer (some (adr (sv_7 0).1)), .pointer (some (adr (sv_7 2).1))])⟩, ⟨6, [], .v (.slice A1 l1.length c1)⟩, ⟨5, [], .v (.slice A0 l0.length c0)⟩, ⟨4, [], .p 0 0⟩, ⟨0, [], .v (.slice A0 l0.length c0)⟩, ⟨1, [], .v (.slice A1 l1.length c1)⟩], [], [], [([.v (.bool false)], 4)], some (w.heap.size, none), none⟩) (fun sv_7 => by kernel_rfl) (fun sv_7 a w_10 hput hE' hI' hmv hmr hres hR => ?_)
  replace hr0 := Arr.keep hr0 hmv
  replace hr1 := Arr.keep hr1 hmv
  replace hE := hE'
  replace hI := hI'
  clear hE' hI' hmv hmr
  obtain ⟨hR_8, hR_9⟩ := hR
  replace hR_8 := El.keep hR_8 hres
  replace hR_9 := El.keep hR_9 hres
  clear hres
  refine chunkL_ (live := [7, 4, 0, 1]) (orc := []) hF 0 hI ⟨[⟨7, [], .v (.func (.func 62) #[] #[.pointer (some (adr (sv_7 0).1)), .pointer (some (adr (sv_7 2).1))])⟩, ⟨4, [], .p 0 0⟩, ⟨0, [], .v (.slice A0 l0.length c0)⟩, ⟨1, [], .v (.slice A1 l1.length c1)⟩], [], [], [([.v (.bool false)], 4)], some (w.heap.size, none), none⟩ [] rfl (by kernel_rfl) trivial (fun ns_11 a w_12 hI => ?_)
  refine wpListIn_nil ?_
  refine then_normal ?_
  refine wpIn_block ?_
  obtain ⟨hE', hmv, hmr⟩ := Ep.rebase (S0 := S) hE hI
  replace hr0 := Arr.keep hr0 hmv
  replace hr1 := Arr.keep hr1 hmv
  replace hR_8 := El.keep hR_8 hmv
  replace hR_9 := El.keep hR_9 hmv
  replace hE := hE'
  replace hI := hI.rebase
  clear hE' hmv hmr
  obtain ⟨ns_13, hE', hI', hmv⟩ := hE.cut (S0 := S) hI [7, 4, 0, 1] 1 ⟨[⟨7, [], .v (.func (.func 62) #[] #[.pointer (some (adr (sv_7 0).1)), .pointer (some (adr (sv_7 2).1))])⟩, ⟨4, [], .p 0 0⟩, ⟨0, [], .v (.slice A0 l0.length c0)⟩, ⟨1, [], .v (.slice A1 l1.length c1)⟩], [], [], [([.v (.bool false)], 4)], some (w.heap.size, none), none⟩ (by kernel_rfl)
  have hmr : ∀ b : Nat, some b ∈ ([] : List (Option Nat)) → w_12.heap[b]? = w_12.heap[b]? := fun _ _ => rfl
  replace hr0 := Arr.keep hr0 hmv
  replace hr1 := Arr.keep hr1 hmv
  replace hR_8 := El.keep hR_8 hmv
  replace hR_9 := El.keep hR_9 hmv
  replace hE := hE'
  replace hI := hI'
  clear hE' hI' hmv hmr
  obtain ⟨z_17, hz_18, H0⟩ := bind_some H0
  refine rangeFunc_ (S0 := S) (ps := [8]) hE hI rfl (Nat.le_refl _) (lb := [.pointer (some (adr (sv_7 0).1)), .pointer (some (adr (sv_7 2).1))]) rfl (enters Try.func62 (by kernel_rfl) rfl) (fun l_14 aR_15 w_16 haR_23 hE' hI' hmv hmr => ?_)
  replace hr0 := Arr.keep hr0 hmv
  replace hr1 := Arr.keep hr1 hmv
  replace hR_8 := El.keep hR_8 hmv
  replace hR_9 := El.keep hR_9 hmv
  replace hE := hE'
  replace hI := hI'
  clear hE' hI' hmv hmr
  refine ⟨Bool, Int, Nat × (Bool), G_audit_Changed_1.enc, G_audit_Changed_1.fct, G_audit_Quiet.r1 l0 l1 t_5, (fun (s1 : Bool) (T : Nat → Prop) (W : World) => (Arr (Kd.int .u32) (Lo S w W ns_13 [some l_14]) W A0 l0) ∧ (Arr (Kd.int .u32) (Lo S w W ns_13 [some l_14]) W A1 l1) ∧ (El (Kd.slice (Kd.int .u32)) (Lo S w W ns_13 [some l_14]) W (adr (sv_7 0).1) t_5.1 (svO sv_7 1)) ∧ (El (Kd.slice (Kd.int .u32)) (Lo S w W ns_13 [some l_14]) W (adr (sv_7 2).1) t_5.2 (svO sv_7 3)) ∧ Ep w W ns_13 [some l_14] ∧ Inv W ns_13 9 ⟨[⟨7, [], .v (.func (.func 62) #[] #[.pointer (some (adr (sv_7 0).1)), .pointer (some (adr (sv_7 2).1))])⟩, ⟨4, [], .p 0 0⟩, ⟨0, [], .v (.slice A0 l0.length c0)⟩, ⟨1, [], .v (.slice A1 l1.length c1)⟩], [], [], [([.v (.bool s1)], 4)], some (w.heap.size, none), none⟩ ns_13 aR_15 W ∧ Tk T W (Lo S w W ns_13 [some l_14]) W), (fun (r : Nat × (Bool)) (W : World) => (Arr (Kd.int .u32) (Lo S w W ns_13 [some l_14]) W A0 l0) ∧ (Arr (Kd.int .u32) (Lo S w W ns_13 [some l_14]) W A1 l1) ∧ (El (Kd.slice (Kd.int .u32)) (Lo S w W ns_13 [some l_14]) W (adr (sv_7 0).1) t_5.1 (svO sv_7 1)) ∧ (El (Kd.slice (Kd.int .u32)) (Lo S w W ns_13 [some l_14]) W (adr (sv_7 2).1) t_5.2 (svO sv_7 3)) ∧ Ep w W ns_13 [some l_14] ∧ Inv W ns_13 9 ⟨[⟨7, [], .v (.func (.func 62) #[] #[.pointer (some (adr (sv_7 0).1)), .pointer (some (adr (sv_7 2).1))])⟩, ⟨4, [], .p 0 0⟩, ⟨0, [], .v (.slice A0 l0.length c0)⟩, ⟨1, [], .v (.slice A1 l1.length c1)⟩], [], [], [([.v (.bool r.2)], 4)], some (w.heap.size, none), none⟩ ns_13 aR_15 W), (fun r => .ret), false, Tc (Lo S w w_16 ns_13 [some l_14]) w_16, z_17, fun _ _ => rfl, ?_, ?_, ?_, ?_, ?_, ?_, ?_⟩
  · rintro s1 T T' A B row ⟨hr0, hr1, hR_8, hR_9, hE, hI, hT_19⟩ hg hrow hT'
    obtain ⟨hE', hI', hmv, hmr⟩ := hE.turn (S0 := S) hI hg (by simp) hrow
    replace hr0 := Arr.keep hr0 hmv
    replace hr1 := Arr.keep hr1 hmv
    replace hR_8 := El.keep hR_8 hmv
    replace hR_9 := El.keep hR_9 hmv
    exact ⟨hr0, hr1, hR_8, hR_9, hE', hI', hT_19.turn hmv hE hT'⟩
  · rintro r A B row ⟨hr0, hr1, hR_8, hR_9, hE, hI⟩ hg hrow
    obtain ⟨hE', hI', hmv, hmr⟩ := hE.turn (S0 := S) hI hg (by simp) hrow
    replace hr0 := Arr.keep hr0 hmv
    replace hr1 := Arr.keep hr1 hmv
    replace hR_8 := El.keep hR_8 hmv
    replace hR_9 := El.keep hR_9 hmv
    exact ⟨hr0, hr1, hR_8, hR_9, hE', hI'⟩
  · intro J Jx hq hJ
    exact G_audit_Changed_1.calls _ _ t_5.1 t_5.2 (adr (sv_7 0).1) (svO sv_7 1) (adr (sv_7 2).1) (svO sv_7 3) _ w_16 (S := Tc (Lo S w w_16 ns_13 [some l_14]) w_16) (El.keep hR_8 (Tc.mv _ _)) (El.keep hR_9 (Tc.mv _ _)) hq hJ _ hz_18
  · exact ⟨hr0, hr1, hR_8, hR_9, hE, hI, Tk.new _ _⟩
  · rintro s1 y_24 sv_25 T_27 w_26 z hz ⟨hr0, hr1, hR_8, hR_9, hE, hO, hT_19⟩ hf_28 oo_21 ho_22 hl_20
    unfold G_audit_Quiet.r1 at hz
    have H1 := hz
    clear hz
    have hF : FOpen (Fence.wide.inRound l_14) := .inr ⟨l_14, rfl⟩
    have hI : Inv w_26 ns_13 9 ⟨[⟨8, [], .v (.int .i64 y_24)⟩, ⟨7, [], .v (.func (.func 62) #[] #[.pointer (some (adr (sv_7 0).1)), .pointer (some (adr (sv_7 2).1))])⟩, ⟨4, [], .p 0 0⟩, ⟨0, [], .v (.slice A0 l0.length c0)⟩, ⟨1, [], .v (.slice A1 l1.length c1)⟩], [], [], [([.v (.bool s1)], 4)], some (w.heap.size, some aR_15.defers), some (1, ns_13)⟩ ns_13 _ w_26 := hO.round rfl rfl rfl [8] (G_audit_Changed_1.enc y_24 sv_25) (by kernel_rfl) (by kernel_rfl) _ haR_23
    refine wpIn_skip ?_
    refine then_normal ?_
    refine begin_ (S0 := S) hE hI (by simp) hl_20 ho_22 (fun w_29 hE' hI' hmv hmr hl_20 => ?_)
    replace hr0 := Arr.keep hr0 hmv
    replace hr1 := Arr.keep hr1 hmv
    replace hR_8 := El.keep hR_8 hmv
    replace hR_9 := El.keep hR_9 hmv
    replace hT_19 := Tk.keep hT_19 hmv
    replace hE := hE'
    replace hI := hI'
    clear hE' hI' hmv hmr
    refine wpIn_block ?_
    refine seq_region (live := [7, 4, 0, 1]) (orc := []) hF hI ⟨[⟨7, [], .v (.func (.func 62) #[] #[.pointer (some (adr (sv_7 0).1)), .pointer (some (adr (sv_7 2).1))])⟩, ⟨4, [], .p 0 0⟩, ⟨0, [], .v (.slice A0 l0.length c0)⟩, ⟨1, [], .v (.slice A1 l1.length c1)⟩], [], [], [([.v (.bool false)], 4)], some (w.heap.size, some aR_15.defers), some (1, ns_13)⟩ [] (by kernel_rfl) trivial (fun ns_30 a w_31 hI _ => ?_)
    refine wpIn_ret ?_
    refine inBlock_ret ?_
    obtain ⟨hE', hmv, hmr⟩ := Ep.rebase (S0 := S) hE hI
    replace hr0 := Arr.keep hr0 hmv
    replace hr1 := Arr.keep hr1 hmv
    replace hR_8 := El.keep hR_8 hmv
    replace hR_9 := El.keep hR_9 hmv
    replace hT_19 := Tk.keep hT_19 hmv
    replace hl_20 := (hmr _ (by simp)).trans hl_20
    replace hE := hE'
    replace hI := hI.rebase
    clear hE' hmv hmr
    obtain ⟨hE', hI', hmv⟩ := Ep.unround (S0 := S) (bs := [([.v (.bool false)], 4)]) hO hE hI rfl rfl rfl rfl rfl rfl (by kernel_rfl) rfl
    have hmr : ∀ b : Nat, some b ∈ ([some l_14] : List (Option Nat)) → w_31.heap[b]? = w_31.heap[b]? := fun _ _ => rfl
    replace hr0 := Arr.keep hr0 hmv
    replace hr1 := Arr.keep hr1 hmv
    replace hR_8 := El.keep hR_8 hmv
    replace hR_9 := El.keep hR_9 hmv
    replace hT_19 := Tk.keep hT_19 hmv
    replace hl_20 := (hmr _ (by simp)).trans hl_20
    replace hE := hE'
    replace hI := hI'
    clear hE' hI' hmv hmr
    obtain rfl := Option.some.inj H1
    exact RndQ.rt hl_20 rfl rfl ⟨hr0, hr1, hR_8, hR_9, hE, hI⟩
  · rintro s1 T w_32 hzz ⟨hr0, hr1, hR_8, hR_9, hE, hI, hT_19⟩
    subst hzz
    replace H0 : (some true : Option (Bool)) = _ := H0
    obtain ⟨hE', hmv⟩ := hE.sub (S0 := S) (mine' := []) (sub_one [] [] _)
    have hmr : ∀ b : Nat, some b ∈ ([some l_14] : List (Option Nat)) → w_32.heap[b]? = w_32.heap[b]? := fun _ _ => rfl
    replace hr0 := Arr.keep hr0 hmv
    replace hr1 := Arr.keep hr1 hmv
    replace hR_8 := El.keep hR_8 hmv
    replace hR_9 := El.keep hR_9 hmv
    replace hE := hE'
    clear hE' hmv hmr
    refine inBlock_normal ?_
    refine then_normal ?_
    refine seq_region (live := [7, 4, 0, 1]) (orc := []) hF hI ⟨[⟨7, [], .v (.func (.func 62) #[] #[.pointer (some (adr (sv_7 0).1)), .pointer (some (adr (sv_7 2).1))])⟩, ⟨4, [], .p 0 0⟩, ⟨0, [], .v (.slice A0 l0.length c0)⟩, ⟨1, [], .v (.slice A1 l1.length c1)⟩], [], [], [([.v (.bool true)], 4)], some (w.heap.size, none), none⟩ [] (by kernel_rfl) trivial (fun ns_33 a w_34 hI _ => ?_)
    refine wpIn_ret ?_
    obtain rfl := Option.some.inj H0
    exact retM hI rfl rfl rfl (fun wz hz => ⟨rfl, (hE.below hI).trans hz.below⟩)
  · rintro r1 WX hzz ⟨hr0, hr1, hR_8, hR_9, hE, hI⟩
    subst hzz
    replace H0 : (some r1.2 : Option (Bool)) = _ := H0
    dsimp only
    obtain ⟨hE', hmv⟩ := hE.sub (S0 := S) (mine' := []) (sub_one [] [] _)
    have hmr : ∀ b : Nat, some b ∈ ([some l_14] : List (Option Nat)) → WX.heap[b]? = WX.heap[b]? := fun _ _ => rfl
    replace hr0 := Arr.keep hr0 hmv
    replace hr1 := Arr.keep hr1 hmv
    replace hR_8 := El.keep hR_8 hmv
    replace hR_9 := El.keep hR_9 hmv
    replace hE := hE'
    clear hE' hmv hmr
    refine wpIn_ret ?_
    refine inBlock_ret ?_
    refine then_ret ?_
    obtain rfl := Option.some.inj H0
    exact retM hI rfl rfl rfl (fun wz hz => ⟨rfl, (hE.below hI).trans hz.below⟩)

/-! ### porthole/portholelaw22.AuditChanged: function 9 -/
noncomputable def G_law22_AuditChanged (l0 : (List Int)) (l1 : (List Int)) (a2 : Int) : Option (Bool) := ((G_law22_wakes).bind fun t_3 => (bif (!t_3) then some false else (bif (decide ((l0.length : Int) > 300) || decide ((l1.length : Int) > 300)) then some true else ((G_ref22_Changed l0 l1).bind fun t_17 => ((G_law22_told l0 l1 999).bind fun t_28 => ((G_ref01_Same t_28 t_17).bind fun t_33 => (bif t_33 then (req (inb (mnI (IntKind.i64.wrap a2) (t_17.length : Int)) (t_17.length + 1)) ((G_law22_told l0 l1 (mnI (IntKind.i64.wrap a2) (t_17.length : Int))).bind fun t_39 => ((G_ref01_Same t_39 (t_17.take ((mnI (IntKind.i64.wrap a2) (t_17.length : Int)) : Int).toNat)).bind fun t_44 => (bif t_44 then ((G_audit_Quiet l0 l1).bind fun t_48 => some (t_48 == ((t_17.length : Int) == 0))) else some false)))) else some false)))))))
set_option maxRecDepth 100000 in
set_option maxHeartbeats 4000000 in
theorem G_law22_AuditChanged.calls (l0 : (List Int)) (l1 : (List Int)) (a2 : Int) (A0 : Option Addr) (c0 : Nat) (A1 : Option Addr) (c1 : Nat) (w : World) {S : Nat → Prop} (hr0 : Arr (Kd.int .u32) S w A0 l0) (hc0 : l0.length ≤ c0) (hr1 : Arr (Kd.int .u32) S w A1 l1) (hc1 : l1.length ≤ c1) (r : Bool) (h : G_law22_AuditChanged l0 l1 a2 = some r) :
    Calls Try.prog 9 #[.slice A0 l0.length c0, .slice A1 l1.length c1, .int .u8 a2] w fun e w' => e = .returned (.bool r) ∧ Below w.heap.size w w' := by
  replace hr0 := Arr.lo hr0
  replace hr1 := Arr.lo hr1
  unfold G_law22_AuditChanged at h
  have H0 := h
  clear h
  refine enter Try.func9 rfl [.slice A0 l0.length c0, .slice A1 l1.length c1, .int .u8 a2] (n := 51) rfl (Nat.le_of_ble_eq_true rfl) (fun a hI => ?_)
  have hF : FOpen Fence.wide := .inl rfl
  have hE := Ep.start w
  refine seq_region (live := [6, 0, 1, 2]) (orc := []) hF hI ⟨[⟨6, [], .v (.bool false)⟩, ⟨0, [], .v (.slice A0 l0.length c0)⟩, ⟨1, [], .v (.slice A1 l1.length c1)⟩, ⟨2, [], .v (.int .u8 a2)⟩], [], [], [], none, none⟩ [] (by kernel_rfl) trivial (fun ns_1 a w_2 hI _ => ?_)
  refine wpIn_seq ?_
  obtain ⟨t_3, hG_4, H0⟩ := bind_some H0
  refine seq_region (live := [10, 6, 0, 1, 2]) (orc := [[.bool t_3]]) hF hI ⟨[⟨10, [], .v (.bool (!t_3))⟩, ⟨6, [], .v (.bool false)⟩, ⟨0, [], .v (.slice A0 l0.length c0)⟩, ⟨1, [], .v (.slice A1 l1.length c1)⟩, ⟨2, [], .v (.int .u8 a2)⟩], [], [], [], none, none⟩ [.call true 30 [] (.bool t_3)] (by kernel_rfl) ⟨ob_call (enters Try.func30 (by kernel_rfl) rfl) (fun hg wz hk => G_law22_wakes.calls   wz (S := fun _ => True)  _ hG_4), trivial⟩ (fun ns_5 a w_6 hI _ => ?_)
  refine cond_ hI ((!t_3)) rfl (fun hc_7 => ?_) (fun hc_7 => ?_)
  · replace H0 := bif_t hc_7 H0
    refine seq_region (live := [6, 10, 0, 1, 2]) (orc := []) hF hI ⟨[⟨6, [], .v (.bool false)⟩, ⟨10, [], .v (.bool (!t_3))⟩, ⟨0, [], .v (.slice A0 l0.length c0)⟩, ⟨1, [], .v (.slice A1 l1.length c1)⟩, ⟨2, [], .v (.int .u8 a2)⟩], [], [], [], none, none⟩ [] (by kernel_rfl) trivial (fun ns_8 a w_9 hI _ => ?_)
    refine wpIn_ret ?_
    refine then_ret ?_
    obtain rfl := Option.some.inj H0
    exact ret1 hI rfl rfl ⟨rfl, hE.below hI⟩
  · replace H0 := bif_f hc_7 H0
    refine wpIn_skip ?_
    refine then_normal ?_
    refine wpIn_seq ?_
    refine seq_region (live := [18, 10, 6, 0, 1, 2]) (orc := []) hF hI ⟨[⟨18, [], .v (.bool (decide ((l0.length : Int) > 300) || decide ((l1.length : Int) > 300)))⟩, ⟨10, [], .v (.bool (!t_3))⟩, ⟨6, [], .v (.bool false)⟩, ⟨0, [], .v (.slice A0 l0.length c0)⟩, ⟨1, [], .v (.slice A1 l1.length c1)⟩, ⟨2, [], .v (.int .u8 a2)⟩], [], [], [], none, none⟩ [] (by kernel_rfl) trivial (fun ns_10 a w_11 hI _ => ?_)
    refine cond_ hI ((decide ((l0.length : Int) > 300) || decide ((l1.length : Int) > 300))) rfl (fun hc_12 => ?_) (fun hc_12 => ?_)
    · replace H0 := bif_t hc_12 H0
      refine seq_region (live := [6, 18, 10, 0, 1, 2]) (orc := []) hF hI ⟨[⟨6, [], .v (.bool true)⟩, ⟨18, [], .v (.bool (decide ((l0.length : Int) > 300) || decide ((l1.length : Int) > 300)))⟩, ⟨10, [], .v (.bool (!t_3))⟩, ⟨0, [], .v (.slice A0 l0.length c0)⟩, ⟨1, [], .v (.slice A1 l1.length c1)⟩, ⟨2, [], .v (.int .u8 a2)⟩], [], [], [], none, none⟩ [] (by kernel_rfl) trivial (fun ns_13 a w_14 hI _ => ?_)
      refine wpIn_ret ?_
      refine then_ret ?_
      obtain rfl := Option.some.inj H0
      exact ret1 hI rfl rfl ⟨rfl, hE.below hI⟩
    · replace H0 := bif_f hc_12 H0
      refine wpIn_skip ?_
      refine then_normal ?_
      refine wpIn_seq ?_
      refine wpIn_region_lit ?_
      refine chunkL_ (live := [20, 19, 18, 10, 6, 0, 1, 2]) (orc := []) hF 2 hI ⟨[⟨20, [], .v (.slice A1 l1.length c1)⟩, ⟨19, [], .v (.slice A0 l0.length c0)⟩, ⟨18, [], .v (.bool (decide ((l0.length : Int) > 300) || decide ((l1.length : Int) > 300)))⟩, ⟨10, [], .v (.bool (!t_3))⟩, ⟨6, [], .v (.bool false)⟩, ⟨0, [], .v (.slice A0 l0.length c0)⟩, ⟨1, [], .v (.slice A1 l1.length c1)⟩, ⟨2, [], .v (.int .u8 a2)⟩], [], [], [], none, none⟩ [] rfl (by kernel_rfl) trivial (fun ns_15 a w_16 hI => ?_)
      obtain ⟨hE', hmv, hmr⟩ := Ep.rebase (S0 := S) hE hI
      replace hr0 := Arr.keep hr0 hmv
      replace hr1 := Arr.keep hr1 hmv
      replace hE := hE'
      replace hI := hI.rebase
      clear hE' hmv hmr
      obtain ⟨t_17, hG_18, H0⟩ := bind_some H0
      refine callH_ (S0 := S) hF hE hI (wanted_none rfl) rfl (args := [.slice A0 l0.length c0, .slice A1 l1.length c1]) rfl (enters Try.func31 (by kernel_rfl) rfl) (fun sv_19 => .slice ((sv_19 0).1) t_17.length ((sv_19 0).2)) _ (G_ref22_Changed.calls l0 l1 A0 c0 A1 c1 w_16 (S := Lo S w w_16 ns_15 []) hr0 hc0 hr1 hc1 _ hG_18) (fun sv_19 => ⟨[⟨21, [], .v (.slice ((sv_19 0).1) t_17.length ((sv_19 0).2))⟩, ⟨20, [], .v (.slice A1 l1.length c1)⟩, ⟨19, [], .v (.slice A0 l0.length c0)⟩, ⟨18, [], .v (.bool (decide ((l0.length : Int) > 300) || decide ((l1.length : Int) > 300)))⟩, ⟨10, [], .v (.bool (!t_3))⟩, ⟨6, [], .v (.bool false)⟩, ⟨0, [], .v (.slice A0 l0.length c0)⟩, ⟨1, [], .v (.slice A1 l1.length c1)⟩, ⟨2, [], .v (.int .u8 a2)⟩], [], [], [], none, none⟩) (fun sv_19 => by kernel_rfl) (fun sv_19 a w_21 hput hE' hI' hmv hmr hres hR => ?_)
      replace hr0 := Arr.keep hr0 hmv
      replace hr1 := Arr.keep hr1 hmv
      replace hE := hE'
      replace hI := hI'
      clear hE' hI' hmv hmr
      obtain ⟨hR_20, hR_20c⟩ := hR
      replace hR_20 := Arr.keep hR_20 hres
      clear hres
      refine chunkL_ (live := [7, 18, 10, 6, 0, 1, 2]) (orc := []) hF 1 hI ⟨[⟨7, [], .v (.slice ((sv_19 0).1) t_17.length ((sv_19 0).2))⟩, ⟨18, [], .v (.bool (decide ((l0.length : Int) > 300) || decide ((l1.length : Int) > 300)))⟩, ⟨10, [], .v (.bool (!t_3))⟩, ⟨6, [], .v (.bool false)⟩, ⟨0, [], .v (.slice A0 l0.length c0)⟩, ⟨1, [], .v (.slice A1 l1.length c1)⟩, ⟨2, [], .v (.int .u8 a2)⟩], [], [], [], none, none⟩ [] rfl (by kernel_rfl) trivial (fun ns_22 a w_23 hI => ?_)
      refine wpListIn_nil ?_
      refine then_normal ?_
      refine seq_region (live := [8, 7, 18, 10, 6, 0, 1, 2]) (orc := []) hF hI ⟨[⟨8, [], .v (.int .i64 (mnI (IntKind.i64.wrap a2) (t_17.length : Int)))⟩, ⟨7, [], .v (.slice ((sv_19 0).1) t_17.length ((sv_19 0).2))⟩, ⟨18, [], .v (.bool (decide ((l0.length : Int) > 300) || decide ((l1.length : Int) > 300)))⟩, ⟨10, [], .v (.bool (!t_3))⟩, ⟨6, [], .v (.bool false)⟩, ⟨0, [], .v (.slice A0 l0.length c0)⟩, ⟨1, [], .v (.slice A1 l1.length c1)⟩, ⟨2, [], .v (.int .u8 a2)⟩], [], [], [], none, none⟩ [] (by kernel_rfl) trivial (fun ns_24 a w_25 hI _ => ?_)
      refine wpIn_seq ?_
      replace hI := hI.fin (live := [8, 7, 18, 10, 0, 1, 2]) (σ2 := ⟨[⟨8, [], .v (.int .i64 (mnI (IntKind.i64.wrap a2) (t_17.length : Int)))⟩, ⟨7, [], .v (.slice ((sv_19 0).1) t_17.length ((sv_19 0).2))⟩, ⟨18, [], .v (.bool (decide ((l0.length : Int) > 300) || decide ((l1.length : Int) > 300)))⟩, ⟨10, [], .v (.bool (!t_3))⟩, ⟨0, [], .v (.slice A0 l0.length c0)⟩, ⟨1, [], .v (.slice A1 l1.length c1)⟩, ⟨2, [], .v (.int .u8 a2)⟩], [], [], [], none, none⟩) (by kernel_rfl)
      refine drawnS_ hI (by kernel_rfl) [.q 27 (.v (.slice A0 l0.length c0)) [], .q 28 (.v (.slice A1 l1.length c1)) [], .no, .q 30 (.v (.slice ((sv_19 0).1) t_17.length ((sv_19 0).2))) [], .no, .no, .no, .no, .no, .no, .no, .no, .no, .no, .no, .no, .no, .no, .no, .no, .no, .no, .no, .no, .no] (by kernel_rfl) (fun fuel listed w_26 hJ hsz hu => ?_)
      refine stage_ hJ hF hsz hu [.q [] [], .q [] [], .no, .q [] [], .no, .no, .no, .no, .no, .no, .no, .no, .no, .no, .no, .no, .no, .no, .no, .no, .no, .no, .no, .no, .no] (by kernel_rfl) (by kernel_rfl) (by kernel_rfl) (by kernel_rfl) 2 rfl (by kernel_rfl) (by kernel_rfl) [0, 1] rfl (by kernel_rfl) (by kernel_rfl) trivial (fun fuel listed a w_27 hJ hI hW h1 hnl hsz hu => ?_)
      obtain ⟨hE', hmv, hmr⟩ := Ep.rebase (S0 := S) hE hI
      replace hr0 := Arr.keep hr0 hmv
      replace hr1 := Arr.keep hr1 hmv
      replace hR_20 := Arr.keep hR_20 hmv
      replace hE := hE'
      replace hI := hI.rebase
      clear hE' hmv hmr
      obtain ⟨t_28, hG_29, H0⟩ := bind_some H0
      refine callH_ (S0 := S) hF hE hI hW rfl (args := [.slice A0 l0.length c0, .slice A1 l1.length c1, .int .i64 999]) rfl (enters Try.func32 (by kernel_rfl) rfl) (fun sv_30 => .slice ((sv_30 0).1) t_28.length ((sv_30 0).2)) _ (G_law22_told.calls l0 l1 999 A0 c0 A1 c1 w_27 (S := Lo S w w_27 ns_24 []) hr0 hc0 hr1 hc1 _ hG_29) (fun sv_30 => ⟨[⟨29, [], .v (.slice ((sv_30 0).1) t_28.length ((sv_30 0).2))⟩, ⟨27, [], .v (.slice A0 l0.length c0)⟩, ⟨28, [], .v (.slice A1 l1.length c1)⟩, ⟨8, [], .v (.int .i64 (mnI (IntKind.i64.wrap a2) (t_17.length : Int)))⟩, ⟨7, [], .v (.slice ((sv_19 0).1) t_17.length ((sv_19 0).2))⟩, ⟨18, [], .v (.bool (decide ((l0.length : Int) > 300) || decide ((l1.length : Int) > 300)))⟩, ⟨10, [], .v (.bool (!t_3))⟩, ⟨0, [], .v (.slice A0 l0.length c0)⟩, ⟨1, [], .v (.slice A1 l1.length c1)⟩, ⟨2, [], .v (.int .u8 a2)⟩], [], [], [], none, none⟩) (fun sv_30 => by kernel_rfl) (fun sv_30 a w_32 hput hE' hI' hmv hmr hres hR => ?_)
      replace hr0 := Arr.keep hr0 hmv
      replace hr1 := Arr.keep hr1 hmv
      replace hR_20 := Arr.keep hR_20 hmv
      replace hE := hE'
      replace hI := hI'
      clear hE' hI' hmv hmr
      obtain ⟨hR_31, hR_31c⟩ := hR
      replace hR_31 := Arr.keep hR_31 hres
      clear hres
      obtain ⟨t_33, hG_34, H0⟩ := bind_some H0
      refine next_ hJ h1 hnl hsz hu (by kernel_rfl) (by kernel_rfl) hput hI (live := [8, 7, 18, 10, 0, 1, 2]) ⟨[⟨8, [], .v (.int .i64 (mnI (IntKind.i64.wrap a2) (t_17.length : Int)))⟩, ⟨7, [], .v (.slice ((sv_19 0).1) t_17.length ((sv_19 0).2))⟩, ⟨18, [], .v (.bool (decide ((l0.length : Int) > 300) || decide ((l1.length : Int) > 300)))⟩, ⟨10, [], .v (.bool (!t_3))⟩, ⟨0, [], .v (.slice A0 l0.length c0)⟩, ⟨1, [], .v (.slice A1 l1.length c1)⟩, ⟨2, [], .v (.int .u8 a2)⟩], [], [], [], none, none⟩ (by kernel_rfl) (some (.v (.slice ((sv_30 0).1) t_28.length ((sv_30 0).2)))) (by kernel_rfl) [(4, .q 31 (.v (.bool t_33)) [.call true 18 [.slice ((sv_30 0).1) t_28.length ((sv_30 0).2), .slice ((sv_19 0).1) t_17.length ((sv_19 0).2)] (.bool t_33)]), (5, .q 32 (.v (.bool t_33)) [])] [.q 27 (.v (.slice A0 l0.length c0)) [], .q 28 (.v (.slice A1 l1.length c1)) [], .t (some 29) (some (.v (.slice ((sv_30 0).1) t_28.length ((sv_30 0).2)))), .q 30 (.v (.slice ((sv_19 0).1) t_17.length ((sv_19 0).2))) [], .q 31 (.v (.bool t_33)) [.call true 18 [.slice ((sv_30 0).1) t_28.length ((sv_30 0).2), .slice ((sv_19 0).1) t_17.length ((sv_19 0).2)] (.bool t_33)], .q 32 (.v (.bool t_33)) [], .no, .no, .no, .no, .no, .no, .no, .no, .no, .no, .no, .no, .no, .no, .no, .no, .no, .no, .no] (by kernel_rfl) (by kernel_rfl) (by kernel_rfl) (fun hJ hsz hu => ?_)
      rcases Bool.eq_false_or_eq_true (t_33) with hb_35 | hb_35
      · replace H0 := bif_t hb_35 H0
        have hJ := hJ.lit 4 rfl hb_35 [.q 27 (.v (.slice A0 l0.length c0)) [], .q 28 (.v (.slice A1 l1.length c1)) [], .t (some 29) (some (.v (.slice ((sv_30 0).1) t_28.length ((sv_30 0).2)))), .q 30 (.v (.slice ((sv_19 0).1) t_17.length ((sv_19 0).2))) [], .q 31 (.v (.bool true)) [.need true (t_33 = true), .call true 18 [.slice ((sv_30 0).1) t_28.length ((sv_30 0).2), .slice ((sv_19 0).1) t_17.length ((sv_19 0).2)] (.bool t_33)], .q 32 (.v (.bool t_33)) [], .no, .no, .no, .no, .no, .no, .no, .no, .no, .no, .no, .no, .no, .no, .no, .no, .no, .no, .no] (by kernel_rfl)
        have hJ := hJ.cast [.q 27 (.v (.slice A0 l0.length c0)) [], .q 28 (.v (.slice A1 l1.length c1)) [], .t (some 29) (some (.v (.slice ((sv_30 0).1) t_28.length ((sv_30 0).2)))), .q 30 (.v (.slice ((sv_19 0).1) t_17.length ((sv_19 0).2))) [], .q 31 (.v (.bool true)) [.need true (t_33 = true), .call true 18 [.slice ((sv_30 0).1) t_28.length ((sv_30 0).2), .slice ((sv_19 0).1) t_17.length ((sv_19 0).2)] (.bool t_33)], .q 32 (.v (.bool true)) [], .no, .no, .no, .no, .no, .no, .no, .no, .no, .no, .no, .no, .no, .no, .no, .no, .no, .no, .no] (congrArg (fun (z_36 : Bool) => ([.q 27 (.v (.slice A0 l0.length c0)) [], .q 28 (.v (.slice A1 l1.length c1)) [], .t (some 29) (some (.v (.slice ((sv_30 0).1) t_28.length ((sv_30 0).2)))), .q 30 (.v (.slice ((sv_19 0).1) t_17.length ((sv_19 0).2))) [], .q 31 (.v (.bool true)) [.need true (t_33 = true), .call true 18 [.slice ((sv_30 0).1) t_28.length ((sv_30 0).2), .slice ((sv_19 0).1) t_17.length ((sv_19 0).2)] (.bool t_33)], .q 32 (.v (.bool z_36)) [], .no, .no, .no, .no, .no, .no, .no, .no, .no, .no, .no, .no, .no, .no, .no, .no, .no, .no, .no] : List En)) hb_35)
        obtain ⟨hN_37, H0⟩ := req_some H0
        replace hN_37 := inb_le hN_37
        have hJ := hJ.more [(6, .q 33 (.v (.slice A0 l0.length c0)) []), (7, .q 34 (.v (.slice A1 l1.length c1)) []), (8, .q 35 (.v (.int .i64 (mnI (IntKind.i64.wrap a2) (t_17.length : Int)))) []), (10, .q 37 (.v (.slice ((sv_19 0).1) t_17.length ((sv_19 0).2))) []), (11, .q 38 (.v (.int .i64 (mnI (IntKind.i64.wrap a2) (t_17.length : Int)))) []), (12, .q 39 (.v (.slice ((sv_19 0).1) (t_17.take ((mnI (IntKind.i64.wrap a2) (t_17.length : Int)) : Int).toNat).length ((sv_19 0).2))) [.run true (vS (Instr.sliceAt 39 (.slice ((sv_19 0).1) t_17.length ((sv_19 0).2)) none (some (.int .i64 (mnI (IntKind.i64.wrap a2) (t_17.length : Int)))) none)) (.slice ((sv_19 0).1) (t_17.take ((mnI (IntKind.i64.wrap a2) (t_17.length : Int)) : Int).toNat).length ((sv_19 0).2))])] [.q 27 (.v (.slice A0 l0.length c0)) [], .q 28 (.v (.slice A1 l1.length c1)) [], .t (some 29) (some (.v (.slice ((sv_30 0).1) t_28.length ((sv_30 0).2)))), .q 30 (.v (.slice ((sv_19 0).1) t_17.length ((sv_19 0).2))) [], .q 31 (.v (.bool true)) [.need true (t_33 = true), .call true 18 [.slice ((sv_30 0).1) t_28.length ((sv_30 0).2), .slice ((sv_19 0).1) t_17.length ((sv_19 0).2)] (.bool t_33)], .q 32 (.v (.bool true)) [], .q 33 (.v (.slice A0 l0.length c0)) [], .q 34 (.v (.slice A1 l1.length c1)) [], .q 35 (.v (.int .i64 (mnI (IntKind.i64.wrap a2) (t_17.length : Int)))) [], .no, .q 37 (.v (.slice ((sv_19 0).1) t_17.length ((sv_19 0).2))) [], .q 38 (.v (.int .i64 (mnI (IntKind.i64.wrap a2) (t_17.length : Int)))) [], .q 39 (.v (.slice ((sv_19 0).1) (t_17.take ((mnI (IntKind.i64.wrap a2) (t_17.length : Int)) : Int).toNat).length ((sv_19 0).2))) [.run true (vS (Instr.sliceAt 39 (.slice ((sv_19 0).1) t_17.length ((sv_19 0).2)) none (some (.int .i64 (mnI (IntKind.i64.wrap a2) (t_17.length : Int)))) none)) (.slice ((sv_19 0).1) (t_17.take ((mnI (IntKind.i64.wrap a2) (t_17.length : Int)) : Int).toNat).length ((sv_19 0).2))], .no, .no, .no, .no, .no, .no, .no, .no, .no, .no, .no, .no] (by kernel_rfl) (by kernel_rfl)
        refine stage_ hJ hF hsz hu [.q [] [], .q [] [], .t (some (.v (.slice ((sv_30 0).1) t_28.length ((sv_30 0).2)))), .q [] [], .l true (.q [2, 3] [[.bool t_33]]), .q [4] [], .q [5] [], .q [5] [], .q [5] [], .no, .q [5] [], .q [5] [], .q [5, 10, 11] [[.slice ((sv_19 0).1) (t_17.take ((mnI (IntKind.i64.wrap a2) (t_17.length : Int)) : Int).toNat).length ((sv_19 0).2)]], .no, .no, .no, .no, .no, .no, .no, .no, .no, .no, .no, .no] (by kernel_rfl) (by kernel_rfl) (by kernel_rfl) (by kernel_rfl) 9 rfl (by kernel_rfl) (by kernel_rfl) [5, 6, 7, 8] rfl (by kernel_rfl) (by kernel_rfl) ⟨(fun _ => hb_35), ob_call (enters Try.func18 (by kernel_rfl) rfl) (fun hg wz hk => G_ref01_Same.calls t_28 t_17 ((sv_30 0).1) ((sv_30 0).2) ((sv_19 0).1) ((sv_19 0).2) wz (S := fun _ => True) (Arr.any (Arr.keep hR_31 (Lo.on hk))) hR_31c (Arr.any (Arr.keep hR_20 (Lo.on hk))) hR_20c _ hG_34), (fun _ wz hk => vS_run (slice_hi (sz := 1) Try.underlying39 (by kernel_rfl) hN_37.1 hN_37.2 hR_20c wz)), trivial⟩ (fun fuel listed a w_38 hJ hI hW h1 hnl hsz hu => ?_)
        obtain ⟨hE', hmv, hmr⟩ := Ep.rebase (S0 := S) hE hI
        replace hr0 := Arr.keep hr0 hmv
        replace hr1 := Arr.keep hr1 hmv
        replace hR_20 := Arr.keep hR_20 hmv
        replace hR_31 := Arr.keep hR_31 hmv
        replace hE := hE'
        replace hI := hI.rebase
        clear hE' hmv hmr
        obtain ⟨t_39, hG_40, H0⟩ := bind_some H0
        refine callH_ (S0 := S) hF hE hI hW rfl (args := [.slice A0 l0.length c0, .slice A1 l1.length c1, .int .i64 (mnI (IntKind.i64.wrap a2) (t_17.length : Int))]) rfl (enters Try.func32 (by kernel_rfl) rfl) (fun sv_41 => .slice ((sv_41 0).1) t_39.length ((sv_41 0).2)) _ (G_law22_told.calls l0 l1 (mnI (IntKind.i64.wrap a2) (t_17.length : Int)) A0 c0 A1 c1 w_38 (S := Lo S w w_38 ns_24 []) hr0 hc0 hr1 hc1 _ hG_40) (fun sv_41 => ⟨[⟨36, [], .v (.slice ((sv_41 0).1) t_39.length ((sv_41 0).2))⟩, ⟨32, [], .v (.bool true)⟩, ⟨33, [], .v (.slice A0 l0.length c0)⟩, ⟨34, [], .v (.slice A1 l1.length c1)⟩, ⟨35, [], .v (.int .i64 (mnI (IntKind.i64.wrap a2) (t_17.length : Int)))⟩, ⟨8, [], .v (.int .i64 (mnI (IntKind.i64.wrap a2) (t_17.length : Int)))⟩, ⟨7, [], .v (.slice ((sv_19 0).1) t_17.length ((sv_19 0).2))⟩, ⟨18, [], .v (.bool (decide ((l0.length : Int) > 300) || decide ((l1.length : Int) > 300)))⟩, ⟨10, [], .v (.bool (!t_3))⟩, ⟨0, [], .v (.slice A0 l0.length c0)⟩, ⟨1, [], .v (.slice A1 l1.length c1)⟩, ⟨2, [], .v (.int .u8 a2)⟩], [], [], [], none, none⟩) (fun sv_41 => by kernel_rfl) (fun sv_41 a w_43 hput hE' hI' hmv hmr hres hR => ?_)
        replace hr0 := Arr.keep hr0 hmv
        replace hr1 := Arr.keep hr1 hmv
        replace hR_20 := Arr.keep hR_20 hmv
        replace hR_31 := Arr.keep hR_31 hmv
        replace hE := hE'
        replace hI := hI'
        clear hE' hI' hmv hmr
        obtain ⟨hR_42, hR_42c⟩ := hR
        replace hR_42 := Arr.keep hR_42 hres
        clear hres
        obtain ⟨t_44, hG_45, H0⟩ := bind_some H0
        refine next_ hJ h1 hnl hsz hu (by kernel_rfl) (by kernel_rfl) hput hI (live := [8, 7, 18, 10, 0, 1, 2]) ⟨[⟨8, [], .v (.int .i64 (mnI (IntKind.i64.wrap a2) (t_17.length : Int)))⟩, ⟨7, [], .v (.slice ((sv_19 0).1) t_17.length ((sv_19 0).2))⟩, ⟨18, [], .v (.bool (decide ((l0.length : Int) > 300) || decide ((l1.length : Int) > 300)))⟩, ⟨10, [], .v (.bool (!t_3))⟩, ⟨0, [], .v (.slice A0 l0.length c0)⟩, ⟨1, [], .v (.slice A1 l1.length c1)⟩, ⟨2, [], .v (.int .u8 a2)⟩], [], [], [], none, none⟩ (by kernel_rfl) (some (.v (.slice ((sv_41 0).1) t_39.length ((sv_41 0).2)))) (by kernel_rfl) [(13, .q 40 (.v (.bool t_44)) [.call true 18 [.slice ((sv_41 0).1) t_39.length ((sv_41 0).2), .slice ((sv_19 0).1) (t_17.take ((mnI (IntKind.i64.wrap a2) (t_17.length : Int)) : Int).toNat).length ((sv_19 0).2)] (.bool t_44)]), (14, .q 41 (.v (.bool t_44)) []), (15, .q 42 (.v (.bool t_44)) [])] [.q 27 (.v (.slice A0 l0.length c0)) [], .q 28 (.v (.slice A1 l1.length c1)) [], .t (some 29) (some (.v (.slice ((sv_30 0).1) t_28.length ((sv_30 0).2)))), .q 30 (.v (.slice ((sv_19 0).1) t_17.length ((sv_19 0).2))) [], .q 31 (.v (.bool true)) [.need true (t_33 = true), .call true 18 [.slice ((sv_30 0).1) t_28.length ((sv_30 0).2), .slice ((sv_19 0).1) t_17.length ((sv_19 0).2)] (.bool t_33)], .q 32 (.v (.bool true)) [], .q 33 (.v (.slice A0 l0.length c0)) [], .q 34 (.v (.slice A1 l1.length c1)) [], .q 35 (.v (.int .i64 (mnI (IntKind.i64.wrap a2) (t_17.length : Int)))) [], .t (some 36) (some (.v (.slice ((sv_41 0).1) t_39.length ((sv_41 0).2)))), .q 37 (.v (.slice ((sv_19 0).1) t_17.length ((sv_19 0).2))) [], .q 38 (.v (.int .i64 (mnI (IntKind.i64.wrap a2) (t_17.length : Int)))) [], .q 39 (.v (.slice ((sv_19 0).1) (t_17.take ((mnI (IntKind.i64.wrap a2) (t_17.length : Int)) : Int).toNat).length ((sv_19 0).2))) [.run true (vS (Instr.sliceAt 39 (.slice ((sv_19 0).1) t_17.length ((sv_19 0).2)) none (some (.int .i64 (mnI (IntKind.i64.wrap a2) (t_17.length : Int)))) none)) (.slice ((sv_19 0).1) (t_17.take ((mnI (IntKind.i64.wrap a2) (t_17.length : Int)) : Int).toNat).length ((sv_19 0).2))], .q 40 (.v (.bool t_44)) [.call true 18 [.slice ((sv_41 0).1) t_39.length ((sv_41 0).2), .slice ((sv_19 0).1) (t_17.take ((mnI (IntKind.i64.wrap a2) (t_17.length : Int)) : Int).toNat).length ((sv_19 0).2)] (.bool t_44)], .q 41 (.v (.bool t_44)) [], .q 42 (.v (.bool t_44)) [], .no, .no, .no, .no, .no, .no, .no, .no, .no] (by kernel_rfl) (by kernel_rfl) (by kernel_rfl) (fun hJ hsz hu => ?_)
        rcases Bool.eq_false_or_eq_true (t_44) with hb_46 | hb_46
        · replace H0 := bif_t hb_46 H0
          have hJ := hJ.lit 13 rfl hb_46 [.q 27 (.v (.slice A0 l0.length c0)) [], .q 28 (.v (.slice A1 l1.length c1)) [], .t (some 29) (some (.v (.slice ((sv_30 0).1) t_28.length ((sv_30 0).2)))), .q 30 (.v (.slice ((sv_19 0).1) t_17.length ((sv_19 0).2))) [], .q 31 (.v (.bool true)) [.need true (t_33 = true), .call true 18 [.slice ((sv_30 0).1) t_28.length ((sv_30 0).2), .slice ((sv_19 0).1) t_17.length ((sv_19 0).2)] (.bool t_33)], .q 32 (.v (.bool true)) [], .q 33 (.v (.slice A0 l0.length c0)) [], .q 34 (.v (.slice A1 l1.length c1)) [], .q 35 (.v (.int .i64 (mnI (IntKind.i64.wrap a2) (t_17.length : Int)))) [], .t (some 36) (some (.v (.slice ((sv_41 0).1) t_39.length ((sv_41 0).2)))), .q 37 (.v (.slice ((sv_19 0).1) t_17.length ((sv_19 0).2))) [], .q 38 (.v (.int .i64 (mnI (IntKind.i64.wrap a2) (t_17.length : Int)))) [], .q 39 (.v (.slice ((sv_19 0).1) (t_17.take ((mnI (IntKind.i64.wrap a2) (t_17.length : Int)) : Int).toNat).length ((sv_19 0).2))) [.run true (vS (Instr.sliceAt 39 (.slice ((sv_19 0).1) t_17.length ((sv_19 0).2)) none (some (.int .i64 (mnI (IntKind.i64.wrap a2) (t_17.length : Int)))) none)) (.slice ((sv_19 0).1) (t_17.take ((mnI (IntKind.i64.wrap a2) (t_17.length : Int)) : Int).toNat).length ((sv_19 0).2))], .q 40 (.v (.bool true)) [.need true (t_44 = true), .call true 18 [.slice ((sv_41 0).1) t_39.length ((sv_41 0).2), .slice ((sv_19 0).1) (t_17.take ((mnI (IntKind.i64.wrap a2) (t_17.length : Int)) : Int).toNat).length ((sv_19 0).2)] (.bool t_44)], .q 41 (.v (.bool t_44)) [], .q 42 (.v (.bool t_44)) [], .no, .no, .no, .no, .no, .no, .no, .no, .no] (by kernel_rfl)
          have hJ := hJ.cast [.q 27 (.v (.slice A0 l0.length c0)) [], .q 28 (.v (.slice A1 l1.length c1)) [], .t (some 29) (some (.v (.slice ((sv_30 0).1) t_28.length ((sv_30 0).2)))), .q 30 (.v (.slice ((sv_19 0).1) t_17.length ((sv_19 0).2))) [], .q 31 (.v (.bool true)) [.need true (t_33 = true), .call true 18 [.slice ((sv_30 0).1) t_28.length ((sv_30 0).2), .slice ((sv_19 0).1) t_17.length ((sv_19 0).2)] (.bool t_33)], .q 32 (.v (.bool true)) [], .q 33 (.v (.slice A0 l0.length c0)) [], .q 34 (.v (.slice A1 l1.length c1)) [], .q 35 (.v (.int .i64 (mnI (IntKind.i64.wrap a2) (t_17.length : Int)))) [], .t (some 36) (some (.v (.slice ((sv_41 0).1) t_39.length ((sv_41 0).2)))), .q 37 (.v (.slice ((sv_19 0).1) t_17.length ((sv_19 0).2))) [], .q 38 (.v (.int .i64 (mnI (IntKind.i64.wrap a2) (t_17.length : Int)))) [], .q 39 (.v (.slice ((sv_19 0).1) (t_17.take ((mnI (IntKind.i64.wrap a2) (t_17.length : Int)) : Int).toNat).length ((sv_19 0).2))) [.run true (vS (Instr.sliceAt 39 (.slice ((sv_19 0).1) t_17.length ((sv_19 0).2)) none (some (.int .i64 (mnI (IntKind.i64.wrap a2) (t_17.length : Int)))) none)) (.slice ((sv_19 0).1) (t_17.take ((mnI (IntKind.i64.wrap a2) (t_17.length : Int)) : Int).toNat).length ((sv_19 0).2))], .q 40 (.v (.bool true)) [.need true (t_44 = true), .call true 18 [.slice ((sv_41 0).1) t_39.length ((sv_41 0).2), .slice ((sv_19 0).1) (t_17.take ((mnI (IntKind.i64.wrap a2) (t_17.length : Int)) : Int).toNat).length ((sv_19 0).2)] (.bool t_44)], .q 41 (.v (.bool true)) [], .q 42 (.v (.bool true)) [], .no, .no, .no, .no, .no, .no, .no, .no, .no] (congrArg (fun (z_47 : Bool) => ([.q 27 (.v (.slice A0 l0.length c0)) [], .q 28 (.v (.slice A1 l1.length c1)) [], .t (some 29) (some (.v (.slice ((sv_30 0).1) t_28.length ((sv_30 0).2)))), .q 30 (.v (.slice ((sv_19 0).1) t_17.length ((sv_19 0).2))) [], .q 31 (.v (.bool true)) [.need true (t_33 = true), .call true 18 [.slice ((sv_30 0).1) t_28.length ((sv_30 0).2), .slice ((sv_19 0).1) t_17.length ((sv_19 0).2)] (.bool t_33)], .q 32 (.v (.bool true)) [], .q 33 (.v (.slice A0 l0.length c0)) [], .q 34 (.v (.slice A1 l1.length c1)) [], .q 35 (.v (.int .i64 (mnI (IntKind.i64.wrap a2) (t_17.length : Int)))) [], .t (some 36) (some (.v (.slice ((sv_41 0).1) t_39.length ((sv_41 0).2)))), .q 37 (.v (.slice ((sv_19 0).1) t_17.length ((sv_19 0).2))) [], .q 38 (.v (.int .i64 (mnI (IntKind.i64.wrap a2) (t_17.length : Int)))) [], .q 39 (.v (.slice ((sv_19 0).1) (t_17.take ((mnI (IntKind.i64.wrap a2) (t_17.length : Int)) : Int).toNat).length ((sv_19 0).2))) [.run true (vS (Instr.sliceAt 39 (.slice ((sv_19 0).1) t_17.length ((sv_19 0).2)) none (some (.int .i64 (mnI (IntKind.i64.wrap a2) (t_17.length : Int)))) none)) (.slice ((sv_19 0).1) (t_17.take ((mnI (IntKind.i64.wrap a2) (t_17.length : Int)) : Int).toNat).length ((sv_19 0).2))], .q 40 (.v (.bool true)) [.need true (t_44 = true), .call true 18 [.slice ((sv_41 0).1) t_39.length ((sv_41 0).2), .slice ((sv_19 0).1) (t_17.take ((mnI (IntKind.i64.wrap a2) (t_17.length : Int)) : Int).toNat).length ((sv_19 0).2)] (.bool t_44)], .q 41 (.v (.bool z_47)) [], .q 42 (.v (.bool z_47)) [], .no, .no, .no, .no, .no, .no, .no, .no, .no] : List En)) hb_46)
          obtain ⟨t_48, hG_49, H0⟩ := bind_some H0
          have hJ := hJ.more [(16, .q 43 (.v (.slice A0 l0.length c0)) []), (17, .q 44 (.v (.slice A1 l1.length c1)) []), (18, .q 45 (.v (.bool t_48)) [.call true 33 [.slice A0 l0.length c0, .slice A1 l1.length c1] (.bool t_48)]), (19, .q 46 (.v (.slice ((sv_19 0).1) t_17.length ((sv_19 0).2))) []), (20, .q 47 (.v (.int .i64 (t_17.length : Int))) []), (21, .q 48 (.v (.bool ((t_17.length : Int) == 0))) []), (22, .q 49 (.v (.bool (t_48 == ((t_17.length : Int) == 0)))) []), (23, .q 50 (.v (.bool (t_48 == ((t_17.length : Int) == 0)))) []), (24, .q 6 (.v (.bool (t_48 == ((t_17.length : Int) == 0)))) [])] [.q 27 (.v (.slice A0 l0.length c0)) [], .q 28 (.v (.slice A1 l1.length c1)) [], .t (some 29) (some (.v (.slice ((sv_30 0).1) t_28.length ((sv_30 0).2)))), .q 30 (.v (.slice ((sv_19 0).1) t_17.length ((sv_19 0).2))) [], .q 31 (.v (.bool true)) [.need true (t_33 = true), .call true 18 [.slice ((sv_30 0).1) t_28.length ((sv_30 0).2), .slice ((sv_19 0).1) t_17.length ((sv_19 0).2)] (.bool t_33)], .q 32 (.v (.bool true)) [], .q 33 (.v (.slice A0 l0.length c0)) [], .q 34 (.v (.slice A1 l1.length c1)) [], .q 35 (.v (.int .i64 (mnI (IntKind.i64.wrap a2) (t_17.length : Int)))) [], .t (some 36) (some (.v (.slice ((sv_41 0).1) t_39.length ((sv_41 0).2)))), .q 37 (.v (.slice ((sv_19 0).1) t_17.length ((sv_19 0).2))) [], .q 38 (.v (.int .i64 (mnI (IntKind.i64.wrap a2) (t_17.length : Int)))) [], .q 39 (.v (.slice ((sv_19 0).1) (t_17.take ((mnI (IntKind.i64.wrap a2) (t_17.length : Int)) : Int).toNat).length ((sv_19 0).2))) [.run true (vS (Instr.sliceAt 39 (.slice ((sv_19 0).1) t_17.length ((sv_19 0).2)) none (some (.int .i64 (mnI (IntKind.i64.wrap a2) (t_17.length : Int)))) none)) (.slice ((sv_19 0).1) (t_17.take ((mnI (IntKind.i64.wrap a2) (t_17.length : Int)) : Int).toNat).length ((sv_19 0).2))], .q 40 (.v (.bool true)) [.need true (t_44 = true), .call true 18 [.slice ((sv_41 0).1) t_39.length ((sv_41 0).2), .slice ((sv_19 0).1) (t_17.take ((mnI (IntKind.i64.wrap a2) (t_17.length : Int)) : Int).toNat).length ((sv_19 0).2)] (.bool t_44)], .q 41 (.v (.bool true)) [], .q 42 (.v (.bool true)) [], .q 43 (.v (.slice A0 l0.length c0)) [], .q 44 (.v (.slice A1 l1.length c1)) [], .q 45 (.v (.bool t_48)) [.call true 33 [.slice A0 l0.length c0, .slice A1 l1.length c1] (.bool t_48)], .q 46 (.v (.slice ((sv_19 0).1) t_17.length ((sv_19 0).2))) [], .q 47 (.v (.int .i64 (t_17.length : Int))) [], .q 48 (.v (.bool ((t_17.length : Int) == 0))) [], .q 49 (.v (.bool (t_48 == ((t_17.length : Int) == 0)))) [], .q 50 (.v (.bool (t_48 == ((t_17.length : Int) == 0)))) [], .q 6 (.v (.bool (t_48 == ((t_17.length : Int) == 0)))) []] (by kernel_rfl) (by kernel_rfl)
          refine end_ hJ hF hsz hu [.q [] [], .q [] [], .t (some (.v (.slice ((sv_30 0).1) t_28.length ((sv_30 0).2)))), .q [] [], .l true (.q [2, 3] [[.bool t_33]]), .q [4] [], .q [5] [], .q [5] [], .q [5] [], .t (some (.v (.slice ((sv_41 0).1) t_39.length ((sv_41 0).2)))), .q [5] [], .q [5] [], .q [5, 10, 11] [[.slice ((sv_19 0).1) (t_17.take ((mnI (IntKind.i64.wrap a2) (t_17.length : Int)) : Int).toNat).length ((sv_19 0).2)]], .l true (.q [5, 9, 12] [[.bool t_44]]), .p [5, 13] [], .q [14] [], .q [15] [], .q [15] [], .q [15, 16, 17] [[.bool t_48]], .q [15] [], .q [15, 19] [], .q [15, 20] [], .q [15, 18, 21] [], .p [15, 22] [], .q [23] []] (by kernel_rfl) (by kernel_rfl) (by kernel_rfl) (by kernel_rfl) (by kernel_rfl) (by kernel_rfl) (live := [6, 8, 7, 18, 10, 0, 1, 2]) ⟨[⟨6, [], .v (.bool (t_48 == ((t_17.length : Int) == 0)))⟩, ⟨8, [], .v (.int .i64 (mnI (IntKind.i64.wrap a2) (t_17.length : Int)))⟩, ⟨7, [], .v (.slice ((sv_19 0).1) t_17.length ((sv_19 0).2))⟩, ⟨18, [], .v (.bool (decide ((l0.length : Int) > 300) || decide ((l1.length : Int) > 300)))⟩, ⟨10, [], .v (.bool (!t_3))⟩, ⟨0, [], .v (.slice A0 l0.length c0)⟩, ⟨1, [], .v (.slice A1 l1.length c1)⟩, ⟨2, [], .v (.int .u8 a2)⟩], [], [], [], none, none⟩ (by kernel_rfl) ⟨(fun _ => hb_35), ob_call (enters Try.func18 (by kernel_rfl) rfl) (fun hg wz hk => G_ref01_Same.calls t_28 t_17 ((sv_30 0).1) ((sv_30 0).2) ((sv_19 0).1) ((sv_19 0).2) wz (S := fun _ => True) (Arr.any (Arr.keep hR_31 (Lo.on hk))) hR_31c (Arr.any (Arr.keep hR_20 (Lo.on hk))) hR_20c _ hG_34), (fun _ wz hk => vS_run (slice_hi (sz := 1) Try.underlying39 (by kernel_rfl) hN_37.1 hN_37.2 hR_20c wz)), (fun _ => hb_46), ob_call (enters Try.func18 (by kernel_rfl) rfl) (fun hg wz hk => G_ref01_Same.calls t_39 (t_17.take ((mnI (IntKind.i64.wrap a2) (t_17.length : Int)) : Int).toNat) ((sv_41 0).1) ((sv_41 0).2) ((sv_19 0).1) ((sv_19 0).2) wz (S := fun _ => True) (Arr.any (Arr.keep hR_42 (Lo.on hk))) hR_42c (Arr.any (Arr.keep (Arr.take hR_20 _) (Lo.on hk))) (take_cap hR_20c) _ hG_45), ob_call (enters Try.func33 (by kernel_rfl) rfl) (fun hg wz hk => G_audit_Quiet.calls l0 l1 A0 c0 A1 c1 wz (S := fun _ => True) (Arr.any (Arr.keep hr0 (Lo.on hk))) hc0 (Arr.any (Arr.keep hr1 (Lo.on hk))) hc1 _ hG_49), trivial⟩ (fun a w_50 hI => ?_)
          refine then_normal ?_
          refine wpIn_ret ?_
          obtain rfl := Option.some.inj H0
          exact ret1 hI rfl rfl ⟨rfl, hE.below hI⟩
        · replace H0 := bif_f hb_46 H0
          have hJ := hJ.lit 13 rfl hb_46 [.q 27 (.v (.slice A0 l0.length c0)) [], .q 28 (.v (.slice A1 l1.length c1)) [], .t (some 29) (some (.v (.slice ((sv_30 0).1) t_28.length ((sv_30 0).2)))), .q 30 (.v (.slice ((sv_19 0).1) t_17.length ((sv_19 0).2))) [], .q 31 (.v (.bool true)) [.need true (t_33 = true), .call true 18 [.slice ((sv_30 0).1) t_28.length ((sv_30 0).2), .slice ((sv_19 0).1) t_17.length ((sv_19 0).2)] (.bool t_33)], .q 32 (.v (.bool true)) [], .q 33 (.v (.slice A0 l0.length c0)) [], .q 34 (.v (.slice A1 l1.length c1)) [], .q 35 (.v (.int .i64 (mnI (IntKind.i64.wrap a2) (t_17.length : Int)))) [], .t (some 36) (some (.v (.slice ((sv_41 0).1) t_39.length ((sv_41 0).2)))), .q 37 (.v (.slice ((sv_19 0).1) t_17.length ((sv_19 0).2))) [], .q 38 (.v (.int .i64 (mnI (IntKind.i64.wrap a2) (t_17.length : Int)))) [], .q 39 (.v (.slice ((sv_19 0).1) (t_17.take ((mnI (IntKind.i64.wrap a2) (t_17.length : Int)) : Int).toNat).length ((sv_19 0).2))) [.run true (vS (Instr.sliceAt 39 (.slice ((sv_19 0).1) t_17.length ((sv_19 0).2)) none (some (.int .i64 (mnI (IntKind.i64.wrap a2) (t_17.length : Int)))) none)) (.slice ((sv_19 0).1) (t_17.take ((mnI (IntKind.i64.wrap a2) (t_17.length : Int)) : Int).toNat).length ((sv_19 0).2))], .q 40 (.v (.bool false)) [.need true (t_44 = false), .call true 18 [.slice ((sv_41 0).1) t_39.length ((sv_41 0).2), .slice ((sv_19 0).1) (t_17.take ((mnI (IntKind.i64.wrap a2) (t_17.length : Int)) : Int).toNat).length ((sv_19 0).2)] (.bool t_44)], .q 41 (.v (.bool t_44)) [], .q 42 (.v (.bool t_44)) [], .no, .no, .no, .no, .no, .no, .no, .no, .no] (by kernel_rfl)
          have hJ := hJ.cast [.q 27 (.v (.slice A0 l0.length c0)) [], .q 28 (.v (.slice A1 l1.length c1)) [], .t (some 29) (some (.v (.slice ((sv_30 0).1) t_28.length ((sv_30 0).2)))), .q 30 (.v (.slice ((sv_19 0).1) t_17.length ((sv_19 0).2))) [], .q 31 (.v (.bool true)) [.need true (t_33 = true), .call true 18 [.slice ((sv_30 0).1) t_28.length ((sv_30 0).2), .slice ((sv_19 0).1) t_17.length ((sv_19 0).2)] (.bool t_33)], .q 32 (.v (.bool true)) [], .q 33 (.v (.slice A0 l0.length c0)) [], .q 34 (.v (.slice A1 l1.length c1)) [], .q 35 (.v (.int .i64 (mnI (IntKind.i64.wrap a2) (t_17.length : Int)))) [], .t (some 36) (some (.v (.slice ((sv_41 0).1) t_39.length ((sv_41 0).2)))), .q 37 (.v (.slice ((sv_19 0).1) t_17.length ((sv_19 0).2))) [], .q 38 (.v (.int .i64 (mnI (IntKind.i64.wrap a2) (t_17.length : Int)))) [], .q 39 (.v (.slice ((sv_19 0).1) (t_17.take ((mnI (IntKind.i64.wrap a2) (t_17.length : Int)) : Int).toNat).length ((sv_19 0).2))) [.run true (vS (Instr.sliceAt 39 (.slice ((sv_19 0).1) t_17.length ((sv_19 0).2)) none (some (.int .i64 (mnI (IntKind.i64.wrap a2) (t_17.length : Int)))) none)) (.slice ((sv_19 0).1) (t_17.take ((mnI (IntKind.i64.wrap a2) (t_17.length : Int)) : Int).toNat).length ((sv_19 0).2))], .q 40 (.v (.bool false)) [.need true (t_44 = false), .call true 18 [.slice ((sv_41 0).1) t_39.length ((sv_41 0).2), .slice ((sv_19 0).1) (t_17.take ((mnI (IntKind.i64.wrap a2) (t_17.length : Int)) : Int).toNat).length ((sv_19 0).2)] (.bool t_44)], .q 41 (.v (.bool false)) [], .q 42 (.v (.bool false)) [], .no, .no, .no, .no, .no, .no, .no, .no, .no] (congrArg (fun (z_47 : Bool) => ([.q 27 (.v (.slice A0 l0.length c0)) [], .q 28 (.v (.slice A1 l1.length c1)) [], .t (some 29) (some (.v (.slice ((sv_30 0).1) t_28.length ((sv_30 0).2)))), .q 30 (.v (.slice ((sv_19 0).1) t_17.length ((sv_19 0).2))) [], .q 31 (.v (.bool true)) [.need true (t_33 = true), .call true 18 [.slice ((sv_30 0).1) t_28.length ((sv_30 0).2), .slice ((sv_19 0).1) t_17.length ((sv_19 0).2)] (.bool t_33)], .q 32 (.v (.bool true)) [], .q 33 (.v (.slice A0 l0.length c0)) [], .q 34 (.v (.slice A1 l1.length c1)) [], .q 35 (.v (.int .i64 (mnI (IntKind.i64.wrap a2) (t_17.length : Int)))) [], .t (some 36) (some (.v (.slice ((sv_41 0).1) t_39.length ((sv_41 0).2)))), .q 37 (.v (.slice ((sv_19 0).1) t_17.length ((sv_19 0).2))) [], .q 38 (.v (.int .i64 (mnI (IntKind.i64.wrap a2) (t_17.length : Int)))) [], .q 39 (.v (.slice ((sv_19 0).1) (t_17.take ((mnI (IntKind.i64.wrap a2) (t_17.length : Int)) : Int).toNat).length ((sv_19 0).2))) [.run true (vS (Instr.sliceAt 39 (.slice ((sv_19 0).1) t_17.length ((sv_19 0).2)) none (some (.int .i64 (mnI (IntKind.i64.wrap a2) (t_17.length : Int)))) none)) (.slice ((sv_19 0).1) (t_17.take ((mnI (IntKind.i64.wrap a2) (t_17.length : Int)) : Int).toNat).length ((sv_19 0).2))], .q 40 (.v (.bool false)) [.need true (t_44 = false), .call true 18 [.slice ((sv_41 0).1) t_39.length ((sv_41 0).2), .slice ((sv_19 0).1) (t_17.take ((mnI (IntKind.i64.wrap a2) (t_17.length : Int)) : Int).toNat).length ((sv_19 0).2)] (.bool t_44)], .q 41 (.v (.bool z_47)) [], .q 42 (.v (.bool z_47)) [], .no, .no, .no, .no, .no, .no, .no, .no, .no] : List En)) hb_46)
          have hJ := hJ.more [(16, .s (some 43)), (17, .s (some 44)), (18, .s (some 45)), (19, .s (some 46)), (20, .s (some 47)), (21, .s (some 48)), (22, .s (some 49)), (23, .q 50 (.v (.bool false)) []), (24, .q 6 (.v (.bool false)) [])] [.q 27 (.v (.slice A0 l0.length c0)) [], .q 28 (.v (.slice A1 l1.length c1)) [], .t (some 29) (some (.v (.slice ((sv_30 0).1) t_28.length ((sv_30 0).2)))), .q 30 (.v (.slice ((sv_19 0).1) t_17.length ((sv_19 0).2))) [], .q 31 (.v (.bool true)) [.need true (t_33 = true), .call true 18 [.slice ((sv_30 0).1) t_28.length ((sv_30 0).2), .slice ((sv_19 0).1) t_17.length ((sv_19 0).2)] (.bool t_33)], .q 32 (.v (.bool true)) [], .q 33 (.v (.slice A0 l0.length c0)) [], .q 34 (.v (.slice A1 l1.length c1)) [], .q 35 (.v (.int .i64 (mnI (IntKind.i64.wrap a2) (t_17.length : Int)))) [], .t (some 36) (some (.v (.slice ((sv_41 0).1) t_39.length ((sv_41 0).2)))), .q 37 (.v (.slice ((sv_19 0).1) t_17.length ((sv_19 0).2))) [], .q 38 (.v (.int .i64 (mnI (IntKind.i64.wrap a2) (t_17.length : Int)))) [], .q 39 (.v (.slice ((sv_19 0).1) (t_17.take ((mnI (IntKind.i64.wrap a2) (t_17.length : Int)) : Int).toNat).length ((sv_19 0).2))) [.run true (vS (Instr.sliceAt 39 (.slice ((sv_19 0).1) t_17.length ((sv_19 0).2)) none (some (.int .i64 (mnI (IntKind.i64.wrap a2) (t_17.length : Int)))) none)) (.slice ((sv_19 0).1) (t_17.take ((mnI (IntKind.i64.wrap a2) (t_17.length : Int)) : Int).toNat).length ((sv_19 0).2))], .q 40 (.v (.bool false)) [.need true (t_44 = false), .call true 18 [.slice ((sv_41 0).1) t_39.length ((sv_41 0).2), .slice ((sv_19 0).1) (t_17.take ((mnI (IntKind.i64.wrap a2) (t_17.length : Int)) : Int).toNat).length ((sv_19 0).2)] (.bool t_44)], .q 41 (.v (.bool false)) [], .q 42 (.v (.bool false)) [], .s (some 43), .s (some 44), .s (some 45), .s (some 46), .s (some 47), .s (some 48), .s (some 49), .q 50 (.v (.bool false)) [], .q 6 (.v (.bool false)) []] (by kernel_rfl) (by kernel_rfl)
          refine end_ hJ hF hsz hu [.q [] [], .q [] [], .t (some (.v (.slice ((sv_30 0).1) t_28.length ((sv_30 0).2)))), .q [] [], .l true (.q [2, 3] [[.bool t_33]]), .q [4] [], .q [5] [], .q [5] [], .q [5] [], .t (some (.v (.slice ((sv_41 0).1) t_39.length ((sv_41 0).2)))), .q [5] [], .q [5] [], .q [5, 10, 11] [[.slice ((sv_19 0).1) (t_17.take ((mnI (IntKind.i64.wrap a2) (t_17.length : Int)) : Int).toNat).length ((sv_19 0).2)]], .l false (.q [5, 9, 12] [[.bool t_44]]), .p [5, 13] [], .q [14] [], .s [15], .s [15], .s [15], .s [15], .s [15], .s [15], .s [15], .p [15] [], .q [23] []] (by kernel_rfl) (by kernel_rfl) (by kernel_rfl) (by kernel_rfl) (by kernel_rfl) (by kernel_rfl) (live := [6, 8, 7, 18, 10, 0, 1, 2]) ⟨[⟨6, [], .v (.bool false)⟩, ⟨8, [], .v (.int .i64 (mnI (IntKind.i64.wrap a2) (t_17.length : Int)))⟩, ⟨7, [], .v (.slice ((sv_19 0).1) t_17.length ((sv_19 0).2))⟩, ⟨18, [], .v (.bool (decide ((l0.length : Int) > 300) || decide ((l1.length : Int) > 300)))⟩, ⟨10, [], .v (.bool (!t_3))⟩, ⟨0, [], .v (.slice A0 l0.length c0)⟩, ⟨1, [], .v (.slice A1 l1.length c1)⟩, ⟨2, [], .v (.int .u8 a2)⟩], [], [], [], none, none⟩ (by kernel_rfl) ⟨(fun _ => hb_35), ob_call (enters Try.func18 (by kernel_rfl) rfl) (fun hg wz hk => G_ref01_Same.calls t_28 t_17 ((sv_30 0).1) ((sv_30 0).2) ((sv_19 0).1) ((sv_19 0).2) wz (S := fun _ => True) (Arr.any (Arr.keep hR_31 (Lo.on hk))) hR_31c (Arr.any (Arr.keep hR_20 (Lo.on hk))) hR_20c _ hG_34), (fun _ wz hk => vS_run (slice_hi (sz := 1) Try.underlying39 (by kernel_rfl) hN_37.1 hN_37.2 hR_20c wz)), (fun _ => hb_46), ob_call (enters Try.func18 (by kernel_rfl) rfl) (fun hg wz hk => G_ref01_Same.calls t_39 (t_17.take ((mnI (IntKind.i64.wrap a2) (t_17.length : Int)) : Int).toNat) ((sv_41 0).1) ((sv_41 0).2) ((sv_19 0).1) ((sv_19 0).2) wz (S := fun _ => True) (Arr.any (Arr.keep hR_42 (Lo.on hk))) hR_42c (Arr.any (Arr.keep (Arr.take hR_20 _) (Lo.on hk))) (take_cap hR_20c) _ hG_45), trivial⟩ (fun a w_51 hI => ?_)
          refine then_normal ?_
          refine wpIn_ret ?_
          obtain rfl := Option.some.inj H0
          exact ret1 hI rfl rfl ⟨rfl, hE.below hI⟩
      · replace H0 := bif_f hb_35 H0
        have hJ := hJ.lit 4 rfl hb_35 [.q 27 (.v (.slice A0 l0.length c0)) [], .q 28 (.v (.slice A1 l1.length c1)) [], .t (some 29) (some (.v (.slice ((sv_30 0).1) t_28.length ((sv_30 0).2)))), .q 30 (.v (.slice ((sv_19 0).1) t_17.length ((sv_19 0).2))) [], .q 31 (.v (.bool false)) [.need true (t_33 = false), .call true 18 [.slice ((sv_30 0).1) t_28.length ((sv_30 0).2), .slice ((sv_19 0).1) t_17.length ((sv_19 0).2)] (.bool t_33)], .q 32 (.v (.bool t_33)) [], .no, .no, .no, .no, .no, .no, .no, .no, .no, .no, .no, .no, .no, .no, .no, .no, .no, .no, .no] (by kernel_rfl)
        have hJ := hJ.cast [.q 27 (.v (.slice A0 l0.length c0)) [], .q 28 (.v (.slice A1 l1.length c1)) [], .t (some 29) (some (.v (.slice ((sv_30 0).1) t_28.length ((sv_30 0).2)))), .q 30 (.v (.slice ((sv_19 0).1) t_17.length ((sv_19 0).2))) [], .q 31 (.v (.bool false)) [.need true (t_33 = false), .call true 18 [.slice ((sv_30 0).1) t_28.length ((sv_30 0).2), .slice ((sv_19 0).1) t_17.length ((sv_19 0).2)] (.bool t_33)], .q 32 (.v (.bool false)) [], .no, .no, .no, .no, .no, .no, .no, .no, .no, .no, .no, .no, .no, .no, .no, .no, .no, .no, .no] (congrArg (fun (z_36 : Bool) => ([.q 27 (.v (.slice A0 l0.length c0)) [], .q 28 (.v (.slice A1 l1.length c1)) [], .t (some 29) (some (.v (.slice ((sv_30 0).1) t_28.length ((sv_30 0).2)))), .q 30 (.v (.slice ((sv_19 0).1) t_17.length ((sv_19 0).2))) [], .q 31 (.v (.bool false)) [.need true (t_33 = false), .call true 18 [.slice ((sv_30 0).1) t_28.length ((sv_30 0).2), .slice ((sv_19 0).1) t_17.length ((sv_19 0).2)] (.bool t_33)], .q 32 (.v (.bool z_36)) [], .no, .no, .no, .no, .no, .no, .no, .no, .no, .no, .no, .no, .no, .no, .no, .no, .no, .no, .no] : List En)) hb_35)
        have hJ := hJ.more [(6, .s (some 33)), (7, .s (some 34)), (8, .s (some 35)), (9, .s (some 36)), (10, .s (some 37)), (11, .s (some 38)), (12, .s (some 39)), (13, .s (some 40)), (14, .q 41 (.v (.bool false)) []), (15, .q 42 (.v (.bool false)) []), (16, .s (some 43)), (17, .s (some 44)), (18, .s (some 45)), (19, .s (some 46)), (20, .s (some 47)), (21, .s (some 48)), (22, .s (some 49)), (23, .q 50 (.v (.bool false)) []), (24, .q 6 (.v (.bool false)) [])] [.q 27 (.v (.slice A0 l0.length c0)) [], .q 28 (.v (.slice A1 l1.length c1)) [], .t (some 29) (some (.v (.slice ((sv_30 0).1) t_28.length ((sv_30 0).2)))), .q 30 (.v (.slice ((sv_19 0).1) t_17.length ((sv_19 0).2))) [], .q 31 (.v (.bool false)) [.need true (t_33 = false), .call true 18 [.slice ((sv_30 0).1) t_28.length ((sv_30 0).2), .slice ((sv_19 0).1) t_17.length ((sv_19 0).2)] (.bool t_33)], .q 32 (.v (.bool false)) [], .s (some 33), .s (some 34), .s (some 35), .s (some 36), .s (some 37), .s (some 38), .s (some 39), .s (some 40), .q 41 (.v (.bool false)) [], .q 42 (.v (.bool false)) [], .s (some 43), .s (some 44), .s (some 45), .s (some 46), .s (some 47), .s (some 48), .s (some 49), .q 50 (.v (.bool false)) [], .q 6 (.v (.bool false)) []] (by kernel_rfl) (by kernel_rfl)
        refine end_ hJ hF hsz hu [.q [] [], .q [] [], .t (some (.v (.slice ((sv_30 0).1) t_28.length ((sv_30 0).2)))), .q [] [], .l false (.q [2, 3] [[.bool t_33]]), .q [4] [], .s [5], .s [5], .s [5], .s [5], .s [5], .s [5], .s [5], .s [5], .p [5] [], .q [14] [], .s [15], .s [15], .s [15], .s [15], .s [15], .s [15], .s [15], .p [15] [], .q [23] []] (by kernel_rfl) (by kernel_rfl) (by kernel_rfl) (by kernel_rfl) (by kernel_rfl) (by kernel_rfl) (live := [6, 8, 7, 18, 10, 0, 1, 2]) ⟨[⟨6, [], .v (.bool false)⟩, ⟨8, [], .v (.int .i64 (mnI (IntKind.i64.wrap a2) (t_17.length : Int)))⟩, ⟨7, [], .v (.slice ((sv_19 0).1) t_17.length ((sv_19 0).2))⟩, ⟨18, [], .v (.bool (decide ((l0.length : Int) > 300) || decide ((l1.length : Int) > 300)))⟩, ⟨10, [], .v (.bool (!t_3))⟩, ⟨0, [], .v (.slice A0 l0.length c0)⟩, ⟨1, [], .v (.slice A1 l1.length c1)⟩, ⟨2, [], .v (.int .u8 a2)⟩], [], [], [], none, none⟩ (by kernel_rfl) ⟨(fun _ => hb_35), ob_call (enters Try.func18 (by kernel_rfl) rfl) (fun hg wz hk => G_ref01_Same.calls t_28 t_17 ((sv_30 0).1) ((sv_30 0).2) ((sv_19 0).1) ((sv_19 0).2) wz (S := fun _ => True) (Arr.any (Arr.keep hR_31 (Lo.on hk))) hR_31c (Arr.any (Arr.keep hR_20 (Lo.on hk))) hR_20c _ hG_34), trivial⟩ (fun a w_52 hI => ?_)
        refine then_normal ?_
        refine wpIn_ret ?_
        obtain rfl := Option.some.inj H0
        exact ret1 hI rfl rfl ⟨rfl, hE.below hI⟩

end Go.Proofs.Ytnfnincmhobpaab
