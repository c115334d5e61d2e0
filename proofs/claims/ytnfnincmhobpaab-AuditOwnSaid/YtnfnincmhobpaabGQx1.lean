import Derived.Test.YtnfnincmhobpaabGQx0
set_option linter.unusedVariables false
set_option linter.unusedSimpArgs false
namespace Go.Proofs.Ytnfnincmhobpaab
open Go Go.RowKit Go.Eng Go.Proofs

/-! ### calls through a function of type 129 -/
noncomputable def Fn129.run (f : Fn129) (x0 : Config) (x1 : Chan) : Option (Bool) := match f with
  | .f99 => G_defect_rules_5 x0 x1
  | .f100 => G_defect_rules_6 x0 x1
  | .f102 => G_defect_rules_7 x0 x1
  | .f103 => G_defect_rules_8 x0 x1
  | .f104 => G_defect_rules_9 x0 x1
  | .f106 => G_defect_rules_10 x0 x1
  | .f108 => G_defect_rules_11 x0 x1
theorem Fn129.ent (f : Fn129) (args : Array Value) (w : World) : (callFunc (fid129 f) args).run Try.prog w = .ok (.enter (fid129 f) args) w := by
  cases f with
  | f99 => exact enters Try.func99 (by kernel_rfl) rfl args w
  | f100 => exact enters Try.func100 (by kernel_rfl) rfl args w
  | f102 => exact enters Try.func102 (by kernel_rfl) rfl args w
  | f103 => exact enters Try.func103 (by kernel_rfl) rfl args w
  | f104 => exact enters Try.func104 (by kernel_rfl) rfl args w
  | f106 => exact enters Try.func106 (by kernel_rfl) rfl args w
  | f108 => exact enters Try.func108 (by kernel_rfl) rfl args w
theorem Fn129.calls (f : Fn129) (x0 : Config) (x1 : Chan) (svf : SV) (sv0 : SV) (sv1 : SV) (w : World) {S : Nat → Prop} (hf : (kdF129).cont S w f svf) (hx0 : (kd_Config).cont S w x0 sv0) (hx1 : (kd_Chan).cont S w x1 sv1) (r : Bool) (h : Fn129.run f x0 x1 = some r) :
    Calls Try.prog (fid129 f) (([.agg ((kd_Config).cells x0 sv0).toArray, .agg ((kd_Chan).cells x1 sv1).toArray] : List Value) ++ (fca129 f svf).toList).toArray w fun e w' => e = .returned (.bool r) ∧ Below w.heap.size w w' := by
  cases f with
  | f99 => exact G_defect_rules_5.calls x0 x1  sv0 sv1  w hx0 hx1  r h
  | f100 => exact G_defect_rules_6.calls x0 x1  sv0 sv1  w hx0 hx1  r h
  | f102 => exact G_defect_rules_7.calls x0 x1  sv0 sv1  w hx0 hx1  r h
  | f103 => exact G_defect_rules_8.calls x0 x1  sv0 sv1  w hx0 hx1  r h
  | f104 => exact G_defect_rules_9.calls x0 x1  sv0 sv1  w hx0 hx1  r h
  | f106 => exact G_defect_rules_10.calls x0 x1  sv0 sv1  w hx0 hx1  r h
  | f108 => exact G_defect_rules_11.calls x0 x1  sv0 sv1  w hx0 hx1  r h

/-! ### porthole/defect.channel$1$1: function 121 -/
noncomputable def G_defect_channel_1_1 (x0 : Chan) (y1 : Fn129) (y2 : Config) : Option (Bool) := ((Fn129.run y1 y2 x0).bind fun t_3 => some t_3)
set_option maxRecDepth 100000 in
set_option maxHeartbeats 4000000 in
theorem G_defect_channel_1_1.calls (x0 : Chan) (y1 : Fn129) (y2 : Config) (sv0 : SV) (B1 : Addr) (sv1 : SV) (B2 : Addr) (sv2 : SV) (w : World) {S : Nat → Prop} (hx0 : (kd_Chan).cont S w x0 sv0) (hB1 : El kdF129 S w B1 y1 sv1) (hB2 : El kd_Config S w B2 y2 sv2) (r : Bool) (h : G_defect_channel_1_1 x0 y1 y2 = some r) :
    Calls Try.prog 121 #[.agg ((kd_Chan).cells x0 (svL [])).toArray, .pointer (some B1), .pointer (some B2)] w fun e w' => e = .returned (.bool r) ∧ Below w.heap.size w w' := by
  replace hx0 := Kd.lo _ hx0
  replace hB1 := El.lo hB1
  replace hB2 := El.lo hB2
  unfold G_defect_channel_1_1 at h
  have H0 := h
  clear h
  refine enter Try.func121 rfl [.agg ((kd_Chan).cells x0 (svL [])).toArray, .pointer (some B1), .pointer (some B2)] (n := 9) rfl (Nat.le_of_ble_eq_true rfl) (fun a hI => ?_)
  have hF : FOpen Fence.wide := .inl rfl
  have hE := Ep.start w
  refine seq_region (live := [4, 3, 1, 2]) (orc := []) hF hI ⟨[⟨4, [], .v (.bool false)⟩, ⟨3, [], .p 0 0⟩, ⟨1, [], .v (.pointer (some B1))⟩, ⟨2, [], .v (.pointer (some B2))⟩], [], [], [((((kd_Chan).cells x0 sv0).map EV.v), 74)], none, none⟩ [] (by kernel_rfl) trivial (fun ns_1 a w_2 hI _ => ?_)
  obtain ⟨t_3, hG_4, H0⟩ := bind_some H0
  refine seq_region (live := [4]) (orc := [[fnv129 y1 sv1], (kd_Config).cells y2 sv2, [.bool t_3]]) hF hI ⟨[⟨4, [], .v (.bool t_3)⟩], [], [], [((((kd_Chan).cells x0 sv0).map EV.v), 74)], none, none⟩ [.cell true B1 [fnv129 y1 sv1], .cell true B2 ((kd_Config).cells y2 sv2), .call true (fid129 y1) (([.agg ((kd_Config).cells y2 sv2).toArray, .agg ((kd_Chan).cells x0 (svL [])).toArray] : List Value) ++ (fca129 y1 sv1).toList) (.bool t_3)] (by kernel_rfl) ⟨ob_el (fun _ => hB1) 0 [fnv129 y1 sv1] rfl, ob_el (fun _ => hB2) 0 ((kd_Config).cells y2 sv2) rfl, ob_call (Fn129.ent y1) (fun hg wz hk => Fn129.calls y1 y2 x0 sv1 sv2 (svL []) wz (S := fun _ => True) (Kd.any _ (Kd.keep kdF129 (hB1).cont (Lo.on hk))) (Kd.any _ (Kd.keep kd_Config (contI (S := Lo S w w [] []) (w := w) (d := kd_Config) (x := y2) (sv := sv2) ⟨⟨(hB2).cont.1.1, (hB2).cont.1.2⟩, ⟨(hB2).cont.2.1.1, (hB2).cont.2.1.2⟩, ⟨(hB2).cont.2.2.1.1, (hB2).cont.2.2.1.2⟩, ⟨(hB2).cont.2.2.2.1.1, (hB2).cont.2.2.2.1.2⟩, trivial⟩) (Lo.on hk))) (Kd.any _ (Kd.keep kd_Chan (contI (S := Lo S w w [] []) (w := w) (d := kd_Chan) (x := x0) (sv := (svL [])) trivial) (Lo.on hk))) _ hG_4), trivial⟩ (fun ns_5 a w_6 hI _ => ?_)
  refine wpIn_ret ?_
  obtain rfl := Option.some.inj H0
  exact ret1 hI rfl rfl ⟨rfl, hE.below hI⟩

/-! ### calls through a function of type 130 -/
noncomputable def Fn130.run (f : Fn130) (x0 : Chan) : Option (Bool) := match f with
  | .f121 c0 c1 => G_defect_channel_1_1 x0 c0 c1
theorem Fn130.ent (f : Fn130) (args : Array Value) (w : World) : (callFunc (fid130 f) args).run Try.prog w = .ok (.enter (fid130 f) args) w := by
  cases f with
  | f121 _ _ => exact enters Try.func121 (by kernel_rfl) rfl args w
theorem Fn130.calls (f : Fn130) (x0 : Chan) (svf : SV) (sv0 : SV) (w : World) {S : Nat → Prop} (hf : (kdF130).cont S w f svf) (hx0 : (kd_Chan).cont S w x0 sv0) (r : Bool) (h : Fn130.run f x0 = some r) :
    Calls Try.prog (fid130 f) (([.agg ((kd_Chan).cells x0 sv0).toArray] : List Value) ++ (fca130 f svf).toList).toArray w fun e w' => e = .returned (.bool r) ∧ Below w.heap.size w w' := by
  cases f with
  | f121 c0 c1 => exact G_defect_channel_1_1.calls x0 c0 c1 sv0 (adr (svf 0).1) (svO svf 1) (adr (svf 1).1) (svO svf 2) w hx0 hf.1 hf.2 r h

/-! ### slices.IndexFunc[[]porthole/api.Chan,porthole/api.Chan]: function 130 -/
noncomputable def G_api_Chan_130.b1 (l0 : (List Chan)) (x1 : Fn130) (s1 : Int × Int) : Option (Stp (Int × Int) (Ex (Int × Int) (Int))) := (bif decide (s1.1 < (l0.length : Int)) then (req (inb s1.1 l0.length) ((Fn130.run x1 (rd l0 s1.1)).bind fun t_16 => (bif t_16 then some (.out (.ret s1.1)) else some (.next ((IntKind.i64.wrap (s1.1 + 1)), s1.2))))) else some (.out (.brk (s1.1, s1.2))))
noncomputable def G_api_Chan_130 (l0 : (List Chan)) (x1 : Fn130) : Option (Int) := ((loopω (G_api_Chan_130.b1 l0 x1) (0, 0)).bind fun o => o.on (fun s1 => some (-1)) (fun r => some r))
set_option maxRecDepth 100000 in
set_option maxHeartbeats 4000000 in
theorem G_api_Chan_130.calls (l0 : (List Chan)) (x1 : Fn130) (A0 : Option Addr) (c0 : Nat) (sv1 : SV) (w : World) {S : Nat → Prop} (hr0 : Arr kd_Chan S w A0 l0) (hc0 : l0.length ≤ c0) (hx1 : (kdF130).cont S w x1 sv1) (r : Int) (h : G_api_Chan_130 l0 x1 = some r) :
    Calls Try.prog 130 #[.slice A0 l0.length c0, fnv130 x1 sv1] w fun e w' => e = .returned (.int .i64 r) ∧ Below w.heap.size w w' := by
  replace hr0 := Arr.lo hr0
  replace hx1 := Kd.lo _ hx1
  unfold G_api_Chan_130 at h
  have H0 := h
  clear h
  refine enter Try.func130 rfl [.slice A0 l0.length c0, fnv130 x1 sv1] (n := 19) rfl (Nat.le_of_ble_eq_true rfl) (fun a hI => ?_)
  have hF : FOpen Fence.wide := .inl rfl
  have hE := Ep.start w
  refine seq_region (live := [4, 0, 1]) (orc := []) hF hI ⟨[⟨4, [], .v (.int .i64 0)⟩, ⟨0, [], .v (.slice A0 l0.length c0)⟩, ⟨1, [], .v (fnv130 x1 sv1)⟩], [], [], [], none, none⟩ [] (by kernel_rfl) trivial (fun ns_1 a w_2 hI _ => ?_)
  refine wpIn_seq ?_
  refine seq_region (live := [8, 7, 4, 0, 1]) (orc := []) hF hI ⟨[⟨8, [], .v (.int .i64 0)⟩, ⟨7, [], .v (.int .i64 (l0.length : Int))⟩, ⟨4, [], .v (.int .i64 0)⟩, ⟨0, [], .v (.slice A0 l0.length c0)⟩, ⟨1, [], .v (fnv130 x1 sv1)⟩], [], [], [], none, none⟩ [] (by kernel_rfl) trivial (fun ns_3 a w_4 hI _ => ?_)
  obtain ⟨o_25, hL_26, H0⟩ := bind_some H0
  refine block_loop (fun (s1 : Int × Int) a w_31 => ∃ ns, St w [] 19 ⟨[⟨8, [], .v (.int .i64 s1.1)⟩, ⟨7, [], .v (.int .i64 (l0.length : Int))⟩, ⟨4, [], .v (.int .i64 s1.2)⟩, ⟨0, [], .v (.slice A0 l0.length c0)⟩, ⟨1, [], .v (fnv130 x1 sv1)⟩], [], [], [], none, none⟩ ns a w_31) (0, 0) hL_26 ⟨_, hI.pick [8, 7, 4, 0, 1] 0 ⟨[⟨8, [], .v (.int .i64 0)⟩, ⟨7, [], .v (.int .i64 (l0.length : Int))⟩, ⟨4, [], .v (.int .i64 0)⟩, ⟨0, [], .v (.slice A0 l0.length c0)⟩, ⟨1, [], .v (fnv130 x1 sv1)⟩], [], [], [], none, none⟩ (by kernel_rfl)⟩ ?_ ?_
  · clear hI
    rintro s1 a w_5 ⟨ns_6, hI⟩ r1 H1
    unfold G_api_Chan_130.b1 at H1
    refine seq_region (live := [9, 8, 7, 4, 0, 1]) (orc := []) hF hI ⟨[⟨9, [], .v (.bool (decide (s1.1 < (l0.length : Int))))⟩, ⟨8, [], .v (.int .i64 s1.1)⟩, ⟨7, [], .v (.int .i64 (l0.length : Int))⟩, ⟨4, [], .v (.int .i64 s1.2)⟩, ⟨0, [], .v (.slice A0 l0.length c0)⟩, ⟨1, [], .v (fnv130 x1 sv1)⟩], [], [], [], none, none⟩ [] (by kernel_rfl) trivial (fun ns_7 a w_8 hI _ => ?_)
    refine wpIn_seq ?_
    refine cond_ hI (decide (s1.1 < (l0.length : Int))) rfl (fun hc_9 => ?_) (fun hc_9 => ?_)
    · replace H1 := bif_t hc_9 H1
      refine wpIn_skip ?_
      refine then_normal ?_
      refine wpIn_seq ?_
      refine wpIn_block ?_
      refine seq_region (live := [5, 8, 7, 4, 0, 1]) (orc := []) hF hI ⟨[⟨5, [], .v (.int .i64 s1.1)⟩, ⟨8, [], .v (.int .i64 s1.1)⟩, ⟨7, [], .v (.int .i64 (l0.length : Int))⟩, ⟨4, [], .v (.int .i64 s1.2)⟩, ⟨0, [], .v (.slice A0 l0.length c0)⟩, ⟨1, [], .v (fnv130 x1 sv1)⟩], [], [], [], none, none⟩ [] (by kernel_rfl) trivial (fun ns_10 a w_11 hI _ => ?_)
      obtain ⟨hN_12, H1⟩ := req_some H1
      obtain ⟨sv_13, hE_15, hA_14⟩ := Arr.elB (d := kd_Chan) hr0 s1.1 true (fun _ => hN_12)
      replace hE_15 := hE_15 rfl
      replace hA_14 := fun (_ : true = true) => hA_14 rfl
      obtain ⟨t_16, hG_17, H1⟩ := bind_some H1
      refine seq_region (live := [16, 5, 8, 7, 4, 0, 1]) (orc := [(kd_Chan).cells (rd l0 s1.1) sv_13, [.bool t_16]]) hF hI ⟨[⟨16, [], .v (.bool t_16)⟩, ⟨5, [], .v (.int .i64 s1.1)⟩, ⟨8, [], .v (.int .i64 s1.1)⟩, ⟨7, [], .v (.int .i64 (l0.length : Int))⟩, ⟨4, [], .v (.int .i64 s1.2)⟩, ⟨0, [], .v (.slice A0 l0.length c0)⟩, ⟨1, [], .v (fnv130 x1 sv1)⟩], [], [], [], none, none⟩ [.need true (0 ≤ s1.1 ∧ s1.1 < (l0.length : Int)), .need true (A0 = some (adr A0)), .cell true ((adr A0).add ((s1.1 : Int).toNat * 7)) ((kd_Chan).cells (rd l0 s1.1) sv_13), .call true (fid130 x1) (([.agg ((kd_Chan).cells (rd l0 s1.1) (svL [])).toArray] : List Value) ++ (fca130 x1 sv1).toList) (.bool t_16)] (by kernel_rfl) ⟨ob_inb (fun _ => hN_12), hA_14, ob_el (fun _ => hE_15) 0 ((kd_Chan).cells (rd l0 s1.1) sv_13) rfl, ob_call (Fn130.ent x1) (fun hg wz hk => Fn130.calls x1 (rd l0 s1.1) sv1 (svL []) wz (S := fun _ => True) (Kd.any _ (Kd.keep kdF130 hx1 (Lo.on hk))) (Kd.any _ (Kd.keep kd_Chan (contI (S := Lo S w w [] []) (w := w) (d := kd_Chan) (x := (rd l0 s1.1)) (sv := (svL [])) trivial) (Lo.on hk))) _ hG_17), trivial⟩ (fun ns_18 a w_19 hI _ => ?_)
      refine cond_ hI (t_16) rfl (fun hc_20 => ?_) (fun hc_20 => ?_)
      · replace H1 := bif_t hc_20 H1
        refine seq_region (live := [4]) (orc := []) hF hI ⟨[⟨4, [], .v (.int .i64 s1.1)⟩], [], [], [], none, none⟩ [] (by kernel_rfl) trivial (fun ns_21 a w_22 hI _ => ?_)
        refine wpIn_ret ?_
        refine inBlock_ret ?_
        refine then_ret ?_
        refine then_ret ?_
        obtain rfl := Option.some.inj H1
        refine .inr ⟨_, rfl, fun ho => ?_⟩
        subst ho
        refine inBlock_ret ?_
        refine then_ret ?_
        obtain rfl := Option.some.inj H0
        exact ret1 hI rfl rfl ⟨rfl, hE.below hI⟩
      · replace H1 := bif_f hc_20 H1
        refine wpIn_skip ?_
        refine inBlock_normal ?_
        refine then_normal ?_
        refine region_ (live := [8, 7, 4, 0, 1]) (orc := []) hF hI ⟨[⟨8, [], .v (.int .i64 (IntKind.i64.wrap (s1.1 + 1)))⟩, ⟨7, [], .v (.int .i64 (l0.length : Int))⟩, ⟨4, [], .v (.int .i64 s1.2)⟩, ⟨0, [], .v (.slice A0 l0.length c0)⟩, ⟨1, [], .v (fnv130 x1 sv1)⟩], [], [], [], none, none⟩ [] (by kernel_rfl) trivial (fun ns_23 a w_24 hI _ => ?_)
        refine then_normal ?_
        obtain rfl := Option.some.inj H1
        exact ⟨_, rfl, ⟨_, hI.pick [8, 7, 4, 0, 1] 0 ⟨[⟨8, [], .v (.int .i64 (IntKind.i64.wrap (s1.1 + 1)))⟩, ⟨7, [], .v (.int .i64 (l0.length : Int))⟩, ⟨4, [], .v (.int .i64 s1.2)⟩, ⟨0, [], .v (.slice A0 l0.length c0)⟩, ⟨1, [], .v (fnv130 x1 sv1)⟩], [], [], [], none, none⟩ (by kernel_rfl)⟩⟩
    · replace H1 := bif_f hc_9 H1
      refine wpIn_exit ?_
      refine then_exit ?_
      refine then_exit ?_
      obtain rfl := Option.some.inj H1
      exact .inl ⟨_, rfl, rfl, ⟨_, hI.pick [8, 7, 4, 0, 1] 0 ⟨[⟨8, [], .v (.int .i64 s1.1)⟩, ⟨7, [], .v (.int .i64 (l0.length : Int))⟩, ⟨4, [], .v (.int .i64 s1.2)⟩, ⟨0, [], .v (.slice A0 l0.length c0)⟩, ⟨1, [], .v (fnv130 x1 sv1)⟩], [], [], [], none, none⟩ (by kernel_rfl)⟩⟩
  · clear hI
    rintro s1 a w_27 ho ⟨ns_28, hI⟩
    subst ho
    replace H0 : (some (-1) : Option (Int)) = _ := H0
    refine then_normal ?_
    refine seq_region (live := [4]) (orc := []) hF hI ⟨[⟨4, [], .v (.int .i64 (-1))⟩], [], [], [], none, none⟩ [] (by kernel_rfl) trivial (fun ns_29 a w_30 hI _ => ?_)
    refine wpIn_ret ?_
    obtain rfl := Option.some.inj H0
    exact ret1 hI rfl rfl ⟨rfl, hE.below hI⟩

/-! ### slices.ContainsFunc[[]porthole/api.Chan,porthole/api.Chan]: function 120 -/
noncomputable def G_api_Chan_120 (l0 : (List Chan)) (x1 : Fn130) : Option (Bool) := ((G_api_Chan_130 l0 x1).bind fun t_3 => some (decide (t_3 ≥ 0)))
set_option maxRecDepth 100000 in
set_option maxHeartbeats 4000000 in
theorem G_api_Chan_120.calls (l0 : (List Chan)) (x1 : Fn130) (A0 : Option Addr) (c0 : Nat) (sv1 : SV) (w : World) {S : Nat → Prop} (hr0 : Arr kd_Chan S w A0 l0) (hc0 : l0.length ≤ c0) (hx1 : (kdF130).cont S w x1 sv1) (r : Bool) (h : G_api_Chan_120 l0 x1 = some r) :
    Calls Try.prog 120 #[.slice A0 l0.length c0, fnv130 x1 sv1] w fun e w' => e = .returned (.bool r) ∧ Below w.heap.size w w' := by
  replace hr0 := Arr.lo hr0
  replace hx1 := Kd.lo _ hx1
  unfold G_api_Chan_120 at h
  have H0 := h
  clear h
  refine enter Try.func120 rfl [.slice A0 l0.length c0, fnv130 x1 sv1] (n := 9) rfl (Nat.le_of_ble_eq_true rfl) (fun a hI => ?_)
  have hF : FOpen Fence.wide := .inl rfl
  have hE := Ep.start w
  refine seq_region (live := [4, 0, 1]) (orc := []) hF hI ⟨[⟨4, [], .v (.bool false)⟩, ⟨0, [], .v (.slice A0 l0.length c0)⟩, ⟨1, [], .v (fnv130 x1 sv1)⟩], [], [], [], none, none⟩ [] (by kernel_rfl) trivial (fun ns_1 a w_2 hI _ => ?_)
  obtain ⟨t_3, hG_4, H0⟩ := bind_some H0
  refine seq_region (live := [4]) (orc := [[.int .i64 t_3]]) hF hI ⟨[⟨4, [], .v (.bool (decide (t_3 ≥ 0)))⟩], [], [], [], none, none⟩ [.call true 130 [.slice A0 l0.length c0, fnv130 x1 sv1] (.int .i64 t_3)] (by kernel_rfl) ⟨ob_call (enters Try.func130 (by kernel_rfl) rfl) (fun hg wz hk => G_api_Chan_130.calls l0 x1 A0 c0 sv1 wz (S := fun _ => True) (Arr.any (Arr.keep hr0 (Lo.on hk))) hc0 (Kd.any _ (Kd.keep kdF130 (contI (S := Lo S w w [] []) (w := w) (d := kdF130) (x := x1) (sv := sv1) hx1) (Lo.on hk))) _ hG_4), trivial⟩ (fun ns_5 a w_6 hI _ => ?_)
  refine wpIn_ret ?_
  obtain rfl := Option.some.inj H0
  exact ret1 hI rfl rfl ⟨rfl, hE.below hI⟩

/-! ### porthole/defect.channel$1: function 119 -/
noncomputable def G_defect_channel_1 (x0 : Config) (y1 : Fn129) : Option (Bool) := ((G_api_Chan_120 x0.Chans (Fn130.f121 y1 x0)).bind fun t_11 => some t_11)
set_option maxRecDepth 100000 in
set_option maxHeartbeats 4000000 in
theorem G_defect_channel_1.calls (x0 : Config) (y1 : Fn129) (sv0 : SV) (B1 : Addr) (sv1 : SV) (w : World) {S : Nat → Prop} (hx0 : (kd_Config).cont S w x0 sv0) (hB1 : El kdF129 S w B1 y1 sv1) (r : Bool) (h : G_defect_channel_1 x0 y1 = some r) :
    Calls Try.prog 119 #[.agg ((kd_Config).cells x0 sv0).toArray, .pointer (some B1)] w fun e w' => e = .returned (.bool r) ∧ Below w.heap.size w w' := by
  replace hx0 := Kd.lo _ hx0
  replace hB1 := El.lo hB1
  unfold G_defect_channel_1 at h
  have H0 := h
  clear h
  refine enter Try.func119 rfl [.agg ((kd_Config).cells x0 sv0).toArray, .pointer (some B1)] (n := 8) rfl (Nat.le_of_ble_eq_true rfl) (fun a hI => ?_)
  have hF : FOpen Fence.wide := .inl rfl
  have hE := Ep.start w
  refine seq_region (live := [3, 2, 1]) (orc := []) hF hI ⟨[⟨3, [], .v (.bool false)⟩, ⟨2, [], .p 0 0⟩, ⟨1, [], .v (.pointer (some B1))⟩], [], [], [((((kd_Config).cells x0 sv0).map EV.v), 29)], none, none⟩ [] (by kernel_rfl) trivial (fun ns_1 a w_2 hI _ => ?_)
  refine wpIn_seq ?_
  refine wpIn_region_lit ?_
  refine chunkL_ (live := [5, 3, 2, 1]) (orc := []) hF 2 hI ⟨[⟨5, [], .v (.slice ((sv0 1).1) x0.Chans.length ((sv0 1).2))⟩, ⟨3, [], .v (.bool false)⟩, ⟨2, [], .p 0 0⟩, ⟨1, [], .v (.pointer (some B1))⟩], [], [], [((((kd_Config).cells x0 sv0).map EV.v), 29)], none, none⟩ [] rfl (by kernel_rfl) trivial (fun ns_3 a w_4 hI => ?_)
  obtain ⟨hE', hmv, hmr⟩ := Ep.rebase (S0 := S) hE hI
  replace hx0 := Kd.keep _ hx0 hmv
  replace hB1 := El.keep hB1 hmv
  replace hE := hE'
  replace hI := hI.rebase
  clear hE' hmv hmr
  have hct := contI (S := Lo S w w_4 ns_3 []) (w := w_4) (d := kd_Config) (x := x0) (sv := sv0) ⟨⟨hx0.1.1, hx0.1.2⟩, ⟨hx0.2.1.1, hx0.2.1.2⟩, ⟨hx0.2.2.1.1, hx0.2.2.1.2⟩, ⟨hx0.2.2.2.1.1, hx0.2.2.2.1.2⟩, trivial⟩
  obtain ⟨B_5, ns_7, hE', hI', hmv, hB_6⟩ := freeze_ (S0 := S) (d := kd_Config) hE hI 0 x0 sv0 29 rfl
  replace hB_6 := hB_6 hct
  clear hct
  have hmr : ∀ b : Nat, some b ∈ ([] : List (Option Nat)) → w_4.heap[b]? = w_4.heap[b]? := fun _ _ => rfl
  replace hx0 := Kd.keep _ hx0 hmv
  replace hB1 := El.keep hB1 hmv
  replace hE := hE'
  replace hI := hI'
  clear hE' hI' hmv hmr
  obtain ⟨ns_8, hE', hI', hmv⟩ := hE.cut (S0 := S) hI [5, 3, 2, 1] 0 ⟨[⟨5, [], .v (.slice ((sv0 1).1) x0.Chans.length ((sv0 1).2))⟩, ⟨3, [], .v (.bool false)⟩, ⟨2, [], .v (.pointer (some B_5))⟩, ⟨1, [], .v (.pointer (some B1))⟩], [], [], [], none, none⟩ (by kernel_rfl)
  have hmr : ∀ b : Nat, some b ∈ ([] : List (Option Nat)) → w_4.heap[b]? = w_4.heap[b]? := fun _ _ => rfl
  replace hx0 := Kd.keep _ hx0 hmv
  replace hB1 := El.keep hB1 hmv
  replace hB_6 := El.keep hB_6 hmv
  replace hE := hE'
  replace hI := hI'
  clear hE' hI' hmv hmr
  refine chunkL_ (live := [6, 5, 3, 2, 1]) (orc := []) hF 1 hI ⟨[⟨6, [], .v (.func (.func 121) #[] #[.pointer (some B1), .pointer (some B_5)])⟩, ⟨5, [], .v (.slice ((sv0 1).1) x0.Chans.length ((sv0 1).2))⟩, ⟨3, [], .v (.bool false)⟩, ⟨2, [], .v (.pointer (some B_5))⟩, ⟨1, [], .v (.pointer (some B1))⟩], [], [], [], none, none⟩ [] rfl (by kernel_rfl) trivial (fun ns_9 a w_10 hI => ?_)
  obtain ⟨t_11, hG_12, H0⟩ := bind_some H0
  refine chunkL_ (live := [3]) (orc := [[.bool t_11]]) hF 2 hI ⟨[⟨3, [], .v (.bool t_11)⟩], [], [], [], none, none⟩ [.call true 120 [.slice ((sv0 1).1) x0.Chans.length ((sv0 1).2), .func (.func 121) #[] #[.pointer (some B1), .pointer (some B_5)]] (.bool t_11)] rfl (by kernel_rfl) ⟨ob_call (enters Try.func120 (by kernel_rfl) rfl) (fun hg wz hk => G_api_Chan_120.calls x0.Chans (Fn130.f121 y1 x0) ((sv0 1).1) ((sv0 1).2) (svL [(some B1, 0), (some B_5, 0), (sv0 0), (sv0 1), (sv0 2), (sv0 3)]) wz (S := fun _ => True) (Arr.any (Arr.keep hx0.2.1.1 (Lo.on hk))) hx0.2.1.2 (Kd.any _ (Kd.keep kdF130 (contI (S := Lo S w w_4 ns_8 []) (w := w_4) (d := kdF130) (x := (Fn130.f121 y1 x0)) (sv := (svL [(some B1, 0), (some B_5, 0), (sv0 0), (sv0 1), (sv0 2), (sv0 3)])) ⟨⟨hB1.cont, hB1.at_, hB1.cells⟩, ⟨hB_6.cont, hB_6.at_, hB_6.cells⟩⟩) (Lo.on hk))) _ hG_12), trivial⟩ (fun ns_13 a w_14 hI => ?_)
  refine wpListIn_nil ?_
  refine then_normal ?_
  refine wpIn_ret ?_
  obtain rfl := Option.some.inj H0
  exact ret1 hI rfl rfl ⟨rfl, hE.below hI⟩

/-! ### porthole/defect.channel: function 98 -/
noncomputable def G_defect_channel (x0 : Fn129) : Option (Defect_rule) := some (⟨(Fn31.f119 x0)⟩ : Defect_rule)
set_option maxRecDepth 100000 in
set_option maxHeartbeats 4000000 in
theorem G_defect_channel.calls (x0 : Fn129) (sv0 : SV) (w : World) {S : Nat → Prop} (hx0 : (kdF129).cont S w x0 sv0) (r : Defect_rule) (h : G_defect_channel x0 = some r) :
    Calls Try.prog 98 #[fnv129 x0 sv0] w fun e w' => ∃ sv : SV, e = .returned (.agg ((kd_Defect_rule).cells r sv).toArray) ∧ Below w.heap.size w w' ∧ (kd_Defect_rule).cont (fun b => w.heap.size ≤ b ∨ S b) w' r sv := by
  replace hx0 := Kd.lo _ hx0
  unfold G_defect_channel at h
  have H0 := h
  clear h
  refine enter Try.func98 rfl [fnv129 x0 sv0] (n := 5) rfl (Nat.le_of_ble_eq_true rfl) (fun a hI => ?_)
  have hF : FOpen Fence.wide := .inl rfl
  have hE := Ep.start w
  refine seq_region (live := [2, 1]) (orc := []) hF hI ⟨[⟨2, [], .p 1 0⟩, ⟨1, [], .p 0 0⟩], [], [], [([.v (fnv129 x0 sv0)], 129), ([.v (.nilFunc)], 124)], none, none⟩ [] (by kernel_rfl) trivial (fun ns_1 a w_2 hI _ => ?_)
  refine wpIn_seq ?_
  refine wpIn_region_lit ?_
  obtain ⟨hE', hmv, hmr⟩ := Ep.rebase (S0 := S) hE hI
  replace hx0 := Kd.keep _ hx0 hmv
  replace hE := hE'
  replace hI := hI.rebase
  clear hE' hmv hmr
  have hct := contI (S := Lo S w w_2 ns_1 []) (w := w_2) (d := kdF129) (x := x0) (sv := (svL [])) hx0
  obtain ⟨B_3, ns_5, hE', hI', hmv, hB_4⟩ := freeze_ (S0 := S) (d := kdF129) hE hI 0 x0 (svL []) 129 rfl
  replace hB_4 := hB_4 hct
  clear hct
  have hmr : ∀ b : Nat, some b ∈ ([] : List (Option Nat)) → w_2.heap[b]? = w_2.heap[b]? := fun _ _ => rfl
  replace hx0 := Kd.keep _ hx0 hmv
  replace hE := hE'
  replace hI := hI'
  clear hE' hI' hmv hmr
  obtain ⟨ns_6, hE', hI', hmv⟩ := hE.cut (S0 := S) hI [2, 1] 1 ⟨[⟨2, [], .p 0 0⟩, ⟨1, [], .v (.pointer (some B_3))⟩], [], [], [([.v (.nilFunc)], 124)], none, none⟩ (by kernel_rfl)
  have hmr : ∀ b : Nat, some b ∈ ([] : List (Option Nat)) → w_2.heap[b]? = w_2.heap[b]? := fun _ _ => rfl
  replace hx0 := Kd.keep _ hx0 hmv
  replace hB_4 := El.keep hB_4 hmv
  replace hE := hE'
  replace hI := hI'
  clear hE' hI' hmv hmr
  refine chunkL_ (live := [3, 2, 1]) (orc := []) hF 1 hI ⟨[⟨3, [], .v (.func (.func 119) #[] #[.pointer (some B_3)])⟩, ⟨2, [], .p 0 0⟩, ⟨1, [], .v (.pointer (some B_3))⟩], [], [], [([.v (.nilFunc)], 124)], none, none⟩ [] rfl (by kernel_rfl) trivial (fun ns_7 a w_8 hI => ?_)
  refine chunkL_ (live := [2]) (orc := []) hF 2 hI ⟨[⟨2, [], .p 0 0⟩], [], [], [([.v (.func (.func 119) #[] #[.pointer (some B_3)])], 124)], none, none⟩ [] rfl (by kernel_rfl) trivial (fun ns_9 a w_10 hI => ?_)
  refine wpListIn_nil ?_
  refine then_normal ?_
  refine wpIn_ret ?_
  obtain rfl := Option.some.inj H0
  exact retCell hI rfl rfl rfl rfl rfl rfl ⟨svL [(some B_3, 0), (none, 0)], rfl, hE.below hI, ⟨⟨((El.keep hB_4 (hE.out hI))).cont, ((El.keep hB_4 (hE.out hI))).at_, ((El.keep hB_4 (hE.out hI))).cells⟩, trivial⟩⟩

/-! ### porthole/defect.foreign: function 113 -/
noncomputable def G_defect_foreign (x0 : Config) (a1 : Int) (x2 : Window) : Option (Bool) := ((G_defect_strange x0 x2.Part).bind fun t_3 => (req (imp (!t_3) (inb x2.Part x0.Parts.length)) (some (t_3 || (((rd x0.Parts x2.Part).Core) != a1)))))
set_option maxRecDepth 100000 in
set_option maxHeartbeats 4000000 in
theorem G_defect_foreign.calls (x0 : Config) (a1 : Int) (x2 : Window) (sv0 : SV) (sv2 : SV) (w : World) {S : Nat → Prop} (hx0 : (kd_Config).cont S w x0 sv0) (hx2 : (kd_Window).cont S w x2 sv2) (r : Bool) (h : G_defect_foreign x0 a1 x2 = some r) :
    Calls Try.prog 113 #[.agg ((kd_Config).cells x0 sv0).toArray, .int .i64 a1, .agg ((kd_Window).cells x2 sv2).toArray] w fun e w' => e = .returned (.bool r) ∧ Below w.heap.size w w' := by
  replace hx0 := Kd.lo _ hx0
  replace hx2 := Kd.lo _ hx2
  unfold G_defect_foreign at h
  have H0 := h
  clear h
  refine enter Try.func113 rfl [.agg ((kd_Config).cells x0 sv0).toArray, .int .i64 a1, .agg ((kd_Window).cells x2 sv2).toArray] (n := 22) rfl (Nat.le_of_ble_eq_true rfl) (fun a hI => ?_)
  have hF : FOpen Fence.wide := .inl rfl
  have hE := Ep.start w
  refine seq_region (live := [6, 5, 3, 1]) (orc := []) hF hI ⟨[⟨6, [], .v (.bool false)⟩, ⟨5, [], .p 1 0⟩, ⟨3, [], .p 0 0⟩, ⟨1, [], .v (.int .i64 a1)⟩], [], [], [((((kd_Config).cells x0 sv0).map EV.v), 29), ((((kd_Window).cells x2 sv2).map EV.v), 88)], none, none⟩ [] (by kernel_rfl) trivial (fun ns_1 a w_2 hI _ => ?_)
  obtain ⟨t_3, hG_4, H0⟩ := bind_some H0
  obtain ⟨hN_5, H0⟩ := req_some H0
  obtain ⟨sv_6, hE_8, hA_7⟩ := Arr.elB (d := kd_Part) hx0.1.1 x2.Part (!t_3) (fun hg => imp_spec hN_5 hg)
  refine seq_region (live := [6]) (orc := [[.bool t_3], [.int .i64 ((rd x0.Parts x2.Part).Core)]]) hF hI ⟨[⟨6, [], .v (.bool (t_3 || (((rd x0.Parts x2.Part).Core) != a1)))⟩], [], [], [((((kd_Config).cells x0 sv0).map EV.v), 29), ((((kd_Window).cells x2 sv2).map EV.v), 88)], none, none⟩ [.call true 101 [.agg ((kd_Config).cells x0 sv0).toArray, .int .i64 x2.Part] (.bool t_3), .need (!t_3) (0 ≤ x2.Part ∧ x2.Part < (x0.Parts.length : Int)), .need (!t_3) ((sv0 0).1 = some (adr ((sv0 0).1))), .cell (!t_3) ((adr ((sv0 0).1)).add ((x2.Part : Int).toNat * 2)) [.int .i64 ((rd x0.Parts x2.Part).Core)]] (by kernel_rfl) ⟨ob_call (enters Try.func101 (by kernel_rfl) rfl) (fun hg wz hk => G_defect_strange.calls x0 x2.Part sv0 wz (S := fun _ => True) (Kd.any _ (Kd.keep kd_Config (contI (S := Lo S w w [] []) (w := w) (d := kd_Config) (x := x0) (sv := sv0) ⟨⟨hx0.1.1, hx0.1.2⟩, ⟨hx0.2.1.1, hx0.2.1.2⟩, ⟨hx0.2.2.1.1, hx0.2.2.1.2⟩, ⟨hx0.2.2.2.1.1, hx0.2.2.2.1.2⟩, trivial⟩) (Lo.on hk))) _ hG_4), ob_inb (fun hg => imp_spec hN_5 hg), hA_7, ob_el (fun hg => hE_8 hg) 0 [.int .i64 ((rd x0.Parts x2.Part).Core)] rfl, trivial⟩ (fun ns_9 a w_10 hI _ => ?_)
  refine wpIn_ret ?_
  obtain rfl := Option.some.inj H0
  exact ret1 hI rfl rfl ⟨rfl, hE.below hI⟩

/-! ### porthole/defect.beyond: function 126 -/
noncomputable def G_defect_beyond (x0 : Window) (a1 : Int) : Option (Bool) := some (decide (x0.Start > a1) || decide (x0.Len > (IntKind.i64.wrap (a1 - x0.Start))))
set_option maxRecDepth 100000 in
set_option maxHeartbeats 4000000 in
theorem G_defect_beyond.calls (x0 : Window) (a1 : Int) (sv0 : SV) (w : World) {S : Nat → Prop} (hx0 : (kd_Window).cont S w x0 sv0) (r : Bool) (h : G_defect_beyond x0 a1 = some r) :
    Calls Try.prog 126 #[.agg ((kd_Window).cells x0 sv0).toArray, .int .i64 a1] w fun e w' => e = .returned (.bool r) ∧ Below w.heap.size w w' := by
  replace hx0 := Kd.lo _ hx0
  unfold G_defect_beyond at h
  have H0 := h
  clear h
  refine enter Try.func126 rfl [.agg ((kd_Window).cells x0 sv0).toArray, .int .i64 a1] (n := 18) rfl (Nat.le_of_ble_eq_true rfl) (fun a hI => ?_)
  have hF : FOpen Fence.wide := .inl rfl
  have hE := Ep.start w
  refine seq_region (live := [4, 2, 1]) (orc := []) hF hI ⟨[⟨4, [], .v (.bool false)⟩, ⟨2, [], .p 0 0⟩, ⟨1, [], .v (.int .i64 a1)⟩], [], [], [((((kd_Window).cells x0 sv0).map EV.v), 88)], none, none⟩ [] (by kernel_rfl) trivial (fun ns_1 a w_2 hI _ => ?_)
  refine seq_region (live := [4]) (orc := []) hF hI ⟨[⟨4, [], .v (.bool (decide (x0.Start > a1) || decide (x0.Len > (IntKind.i64.wrap (a1 - x0.Start)))))⟩], [], [], [((((kd_Window).cells x0 sv0).map EV.v), 88)], none, none⟩ [] (by kernel_rfl) trivial (fun ns_3 a w_4 hI _ => ?_)
  refine wpIn_ret ?_
  obtain rfl := Option.some.inj H0
  exact ret1 hI rfl rfl ⟨rfl, hE.below hI⟩

/-! ### porthole/defect.outside: function 114 -/
noncomputable def G_defect_outside (x0 : Config) (a1 : Int) (x2 : Window) : Option (Bool) := (req (imp (!(decide (x2.Start < 0) || decide (x2.Len < 1))) (inb a1 2)) ((cal (!(decide (x2.Start < 0) || decide (x2.Len < 1))) (G_defect_beyond x2 ((rdA_St27 x0.Frames a1).Length)) default).bind fun t_10 => some ((decide (x2.Start < 0) || decide (x2.Len < 1)) || t_10)))
set_option maxRecDepth 100000 in
set_option maxHeartbeats 4000000 in
theorem G_defect_outside.calls (x0 : Config) (a1 : Int) (x2 : Window) (sv0 : SV) (sv2 : SV) (w : World) {S : Nat → Prop} (hx0 : (kd_Config).cont S w x0 sv0) (hx2 : (kd_Window).cont S w x2 sv2) (r : Bool) (h : G_defect_outside x0 a1 x2 = some r) :
    Calls Try.prog 114 #[.agg ((kd_Config).cells x0 sv0).toArray, .int .i64 a1, .agg ((kd_Window).cells x2 (svL [])).toArray] w fun e w' => e = .returned (.bool r) ∧ Below w.heap.size w w' := by
  replace hx0 := Kd.lo _ hx0
  replace hx2 := Kd.lo _ hx2
  unfold G_defect_outside at h
  have H0 := h
  clear h
  refine enter Try.func114 rfl [.agg ((kd_Config).cells x0 sv0).toArray, .int .i64 a1, .agg ((kd_Window).cells x2 (svL [])).toArray] (n := 24) rfl (Nat.le_of_ble_eq_true rfl) (fun a hI => ?_)
  have hF : FOpen Fence.wide := .inl rfl
  have hE := Ep.start w
  refine seq_region (live := [6, 5, 3, 1]) (orc := []) hF hI ⟨[⟨6, [], .v (.bool false)⟩, ⟨5, [], .p 1 0⟩, ⟨3, [], .p 0 0⟩, ⟨1, [], .v (.int .i64 a1)⟩], [], [], [((((kd_Config).cells x0 sv0).map EV.v), 29), ((((kd_Window).cells x2 sv2).map EV.v), 88)], none, none⟩ [] (by kernel_rfl) trivial (fun ns_1 a w_2 hI _ => ?_)
  refine wpIn_seq ?_
  obtain ⟨hE', hmv, hmr⟩ := Ep.rebase (S0 := S) hE hI
  replace hx0 := Kd.keep _ hx0 hmv
  replace hx2 := Kd.keep _ hx2 hmv
  replace hE := hE'
  replace hI := hI.rebase
  clear hE' hmv hmr
  have hct := contI (S := Lo S w w_2 ns_1 []) (w := w_2) (d := kd_Config) (x := x0) (sv := sv0) ⟨⟨hx0.1.1, hx0.1.2⟩, ⟨hx0.2.1.1, hx0.2.1.2⟩, ⟨hx0.2.2.1.1, hx0.2.2.1.2⟩, ⟨hx0.2.2.2.1.1, hx0.2.2.2.1.2⟩, trivial⟩
  obtain ⟨B_3, ns_5, hE', hI', hmv, hB_4⟩ := freeze_ (S0 := S) (d := kd_Config) hE hI 0 x0 sv0 29 rfl
  replace hB_4 := hB_4 hct
  clear hct
  have hmr : ∀ b : Nat, some b ∈ ([] : List (Option Nat)) → w_2.heap[b]? = w_2.heap[b]? := fun _ _ => rfl
  replace hx0 := Kd.keep _ hx0 hmv
  replace hx2 := Kd.keep _ hx2 hmv
  replace hE := hE'
  replace hI := hI'
  clear hE' hI' hmv hmr
  obtain ⟨ns_6, hE', hI', hmv⟩ := hE.cut (S0 := S) hI [6, 5, 3, 1] 1 ⟨[⟨6, [], .v (.bool false)⟩, ⟨5, [], .p 0 0⟩, ⟨3, [], .v (.pointer (some B_3))⟩, ⟨1, [], .v (.int .i64 a1)⟩], [], [], [((((kd_Window).cells x2 sv2).map EV.v), 88)], none, none⟩ (by kernel_rfl)
  have hmr : ∀ b : Nat, some b ∈ ([] : List (Option Nat)) → w_2.heap[b]? = w_2.heap[b]? := fun _ _ => rfl
  replace hx0 := Kd.keep _ hx0 hmv
  replace hx2 := Kd.keep _ hx2 hmv
  replace hB_4 := El.keep hB_4 hmv
  replace hE := hE'
  replace hI := hI'
  clear hE' hI' hmv hmr
  obtain ⟨hN_7, H0⟩ := req_some H0
  have hE_9 := fun (hg : (!(decide (x2.Start < 0) || decide (x2.Len < 1))) = true) => elA_St27 (El.part (e := kd_St27) hB_4 2 x0.Frames (svO sv0 2) ⟨(hB_4).cont.2.2.1, (hB_4).cont.2.2.2.1, trivial⟩ rfl) (imp_spec hN_7 hg)
  obtain ⟨t_10, hG_11, H0⟩ := bind_some H0
  refine drawn_ (live := [6]) (orc := [[.int .i64 ((rdA_St27 x0.Frames a1).Length)], [.bool t_10]]) hF hI ⟨[⟨6, [], .v (.bool ((decide (x2.Start < 0) || decide (x2.Len < 1)) || t_10))⟩], [], [], [((((kd_Window).cells x2 sv2).map EV.v), 88)], none, none⟩ [.need (!(decide (x2.Start < 0) || decide (x2.Len < 1))) (0 ≤ a1 ∧ a1 < ((2 : Nat) : Int)), .cell (!(decide (x2.Start < 0) || decide (x2.Len < 1))) ((B_3.add 2).add ((a1 : Int).toNat * 2)) [.int .i64 ((rdA_St27 x0.Frames a1).Length)], .call (!(decide (x2.Start < 0) || decide (x2.Len < 1))) 126 [.agg ((kd_Window).cells x2 (svL [])).toArray, .int .i64 ((rdA_St27 x0.Frames a1).Length)] (.bool t_10)] (by kernel_rfl) (by kernel_rfl) (by kernel_rfl) ⟨ob_inb (fun hg => imp_spec hN_7 hg), ob_el (fun hg => hE_9 hg) 0 [.int .i64 ((rdA_St27 x0.Frames a1).Length)] rfl, ob_call (enters Try.func126 (by kernel_rfl) rfl) (fun hg wz hk => G_defect_beyond.calls x2 ((rdA_St27 x0.Frames a1).Length) (svL []) wz (S := fun _ => True) (Kd.any _ (Kd.keep kd_Window (contI (S := Lo S w w_2 ns_6 []) (w := w_2) (d := kd_Window) (x := x2) (sv := (svL [])) trivial) (Lo.on hk))) _ (cal_some hG_11 hg)), trivial⟩ (fun a w_12 hI => ?_)
  refine then_normal ?_
  refine wpIn_ret ?_
  obtain rfl := Option.some.inj H0
  exact ret1 hI rfl rfl ⟨rfl, hE.below hI⟩

/-! ### calls through a function of type 133 -/
noncomputable def Fn133.run (f : Fn133) (x0 : Config) (a1 : Int) (x2 : Window) : Option (Bool) := match f with
  | .f113 => G_defect_foreign x0 a1 x2
  | .f114 => G_defect_outside x0 a1 x2
theorem Fn133.ent (f : Fn133) (args : Array Value) (w : World) : (callFunc (fid133 f) args).run Try.prog w = .ok (.enter (fid133 f) args) w := by
  cases f with
  | f113 => exact enters Try.func113 (by kernel_rfl) rfl args w
  | f114 => exact enters Try.func114 (by kernel_rfl) rfl args w
theorem Fn133.calls (f : Fn133) (x0 : Config) (a1 : Int) (x2 : Window) (svf : SV) (sv0 : SV) (sv2 : SV) (w : World) {S : Nat → Prop} (hf : (kdF133).cont S w f svf) (hx0 : (kd_Config).cont S w x0 sv0) (hx2 : (kd_Window).cont S w x2 sv2) (r : Bool) (h : Fn133.run f x0 a1 x2 = some r) :
    Calls Try.prog (fid133 f) (([.agg ((kd_Config).cells x0 sv0).toArray, .int .i64 a1, .agg ((kd_Window).cells x2 sv2).toArray] : List Value) ++ (fca133 f svf).toList).toArray w fun e w' => e = .returned (.bool r) ∧ Below w.heap.size w w' := by
  cases f with
  | f113 => exact G_defect_foreign.calls x0 a1 x2  sv0 sv2  w hx0 hx2  r h
  | f114 => exact G_defect_outside.calls x0 a1 x2  sv0 sv2  w hx0 hx2  r h

/-! ### porthole/defect.window$1$1: function 125 -/
noncomputable def G_defect_window_1_1 (x0 : Window) (y1 : Fn133) (y2 : Config) (y3 : Int) : Option (Bool) := ((Fn133.run y1 y2 y3 x0).bind fun t_3 => some t_3)
set_option maxRecDepth 100000 in
set_option maxHeartbeats 4000000 in
theorem G_defect_window_1_1.calls (x0 : Window) (y1 : Fn133) (y2 : Config) (y3 : Int) (sv0 : SV) (B1 : Addr) (sv1 : SV) (B2 : Addr) (sv2 : SV) (B3 : Addr) (sv3 : SV) (w : World) {S : Nat → Prop} (hx0 : (kd_Window).cont S w x0 sv0) (hB1 : El kdF133 S w B1 y1 sv1) (hB2 : El kd_Config S w B2 y2 sv2) (hB3 : El (Kd.int .i64) S w B3 y3 sv3) (r : Bool) (h : G_defect_window_1_1 x0 y1 y2 y3 = some r) :
    Calls Try.prog 125 #[.agg ((kd_Window).cells x0 (svL [])).toArray, .pointer (some B1), .pointer (some B2), .pointer (some B3)] w fun e w' => e = .returned (.bool r) ∧ Below w.heap.size w w' := by
  replace hx0 := Kd.lo _ hx0
  replace hB1 := El.lo hB1
  replace hB2 := El.lo hB2
  replace hB3 := El.lo hB3
  unfold G_defect_window_1_1 at h
  have H0 := h
  clear h
  refine enter Try.func125 rfl [.agg ((kd_Window).cells x0 (svL [])).toArray, .pointer (some B1), .pointer (some B2), .pointer (some B3)] (n := 11) rfl (Nat.le_of_ble_eq_true rfl) (fun a hI => ?_)
  have hF : FOpen Fence.wide := .inl rfl
  have hE := Ep.start w
  refine seq_region (live := [5, 4, 1, 2, 3]) (orc := []) hF hI ⟨[⟨5, [], .v (.bool false)⟩, ⟨4, [], .p 0 0⟩, ⟨1, [], .v (.pointer (some B1))⟩, ⟨2, [], .v (.pointer (some B2))⟩, ⟨3, [], .v (.pointer (some B3))⟩], [], [], [((((kd_Window).cells x0 sv0).map EV.v), 88)], none, none⟩ [] (by kernel_rfl) trivial (fun ns_1 a w_2 hI _ => ?_)
  obtain ⟨t_3, hG_4, H0⟩ := bind_some H0
  refine seq_region (live := [5]) (orc := [[fnv133 y1 sv1], (kd_Config).cells y2 sv2, [.int .i64 y3], [.bool t_3]]) hF hI ⟨[⟨5, [], .v (.bool t_3)⟩], [], [], [((((kd_Window).cells x0 sv0).map EV.v), 88)], none, none⟩ [.cell true B1 [fnv133 y1 sv1], .cell true B2 ((kd_Config).cells y2 sv2), .cell true B3 [.int .i64 y3], .call true (fid133 y1) (([.agg ((kd_Config).cells y2 sv2).toArray, .int .i64 y3, .agg ((kd_Window).cells x0 (svL [])).toArray] : List Value) ++ (fca133 y1 sv1).toList) (.bool t_3)] (by kernel_rfl) ⟨ob_el (fun _ => hB1) 0 [fnv133 y1 sv1] rfl, ob_el (fun _ => hB2) 0 ((kd_Config).cells y2 sv2) rfl, ob_el (fun _ => hB3) 0 [.int .i64 y3] rfl, ob_call (Fn133.ent y1) (fun hg wz hk => Fn133.calls y1 y2 y3 x0 sv1 sv2 (svL []) wz (S := fun _ => True) (Kd.any _ (Kd.keep kdF133 (hB1).cont (Lo.on hk))) (Kd.any _ (Kd.keep kd_Config (contI (S := Lo S w w [] []) (w := w) (d := kd_Config) (x := y2) (sv := sv2) ⟨⟨(hB2).cont.1.1, (hB2).cont.1.2⟩, ⟨(hB2).cont.2.1.1, (hB2).cont.2.1.2⟩, ⟨(hB2).cont.2.2.1.1, (hB2).cont.2.2.1.2⟩, ⟨(hB2).cont.2.2.2.1.1, (hB2).cont.2.2.2.1.2⟩, trivial⟩) (Lo.on hk))) (Kd.any _ (Kd.keep kd_Window (contI (S := Lo S w w [] []) (w := w) (d := kd_Window) (x := x0) (sv := (svL [])) trivial) (Lo.on hk))) _ hG_4), trivial⟩ (fun ns_5 a w_6 hI _ => ?_)
  refine wpIn_ret ?_
  obtain rfl := Option.some.inj H0
  exact ret1 hI rfl rfl ⟨rfl, hE.below hI⟩

/-! ### porthole/defect.idle$1: function 128 -/
noncomputable def G_defect_idle_1 (x0 : Window) (y1 : Int) : Option (Bool) := some (x0.Part == y1)
set_option maxRecDepth 100000 in
set_option maxHeartbeats 4000000 in
theorem G_defect_idle_1.calls (x0 : Window) (y1 : Int) (sv0 : SV) (B1 : Addr) (sv1 : SV) (w : World) {S : Nat → Prop} (hx0 : (kd_Window).cont S w x0 sv0) (hB1 : El (Kd.int .i64) S w B1 y1 sv1) (r : Bool) (h : G_defect_idle_1 x0 y1 = some r) :
    Calls Try.prog 128 #[.agg ((kd_Window).cells x0 sv0).toArray, .pointer (some B1)] w fun e w' => e = .returned (.bool r) ∧ Below w.heap.size w w' := by
  replace hx0 := Kd.lo _ hx0
  replace hB1 := El.lo hB1
  unfold G_defect_idle_1 at h
  have H0 := h
  clear h
  refine enter Try.func128 rfl [.agg ((kd_Window).cells x0 sv0).toArray, .pointer (some B1)] (n := 8) rfl (Nat.le_of_ble_eq_true rfl) (fun a hI => ?_)
  have hF : FOpen Fence.wide := .inl rfl
  have hE := Ep.start w
  refine seq_region (live := [3, 2, 1]) (orc := []) hF hI ⟨[⟨3, [], .v (.bool false)⟩, ⟨2, [], .p 0 0⟩, ⟨1, [], .v (.pointer (some B1))⟩], [], [], [((((kd_Window).cells x0 sv0).map EV.v), 88)], none, none⟩ [] (by kernel_rfl) trivial (fun ns_1 a w_2 hI _ => ?_)
  refine seq_region (live := [3]) (orc := [[.int .i64 y1]]) hF hI ⟨[⟨3, [], .v (.bool (x0.Part == y1))⟩], [], [], [((((kd_Window).cells x0 sv0).map EV.v), 88)], none, none⟩ [.cell true B1 [.int .i64 y1]] (by kernel_rfl) ⟨ob_el (fun _ => hB1) 0 [.int .i64 y1] rfl, trivial⟩ (fun ns_3 a w_4 hI _ => ?_)
  refine wpIn_ret ?_
  obtain rfl := Option.some.inj H0
  exact ret1 hI rfl rfl ⟨rfl, hE.below hI⟩

/-! ### calls through a function of type 137 -/
noncomputable def Fn137.run (f : Fn137) (x0 : Window) : Option (Bool) := match f with
  | .f125 c0 c1 c2 => G_defect_window_1_1 x0 c0 c1 c2
  | .f128 c0 => G_defect_idle_1 x0 c0
theorem Fn137.ent (f : Fn137) (args : Array Value) (w : World) : (callFunc (fid137 f) args).run Try.prog w = .ok (.enter (fid137 f) args) w := by
  cases f with
  | f125 _ _ _ => exact enters Try.func125 (by kernel_rfl) rfl args w
  | f128 _ => exact enters Try.func128 (by kernel_rfl) rfl args w
theorem Fn137.calls (f : Fn137) (x0 : Window) (svf : SV) (sv0 : SV) (w : World) {S : Nat → Prop} (hf : (kdF137).cont S w f svf) (hx0 : (kd_Window).cont S w x0 sv0) (r : Bool) (h : Fn137.run f x0 = some r) :
    Calls Try.prog (fid137 f) (([.agg ((kd_Window).cells x0 sv0).toArray] : List Value) ++ (fca137 f svf).toList).toArray w fun e w' => e = .returned (.bool r) ∧ Below w.heap.size w w' := by
  cases f with
  | f125 c0 c1 c2 => exact G_defect_window_1_1.calls x0 c0 c1 c2 sv0 (adr (svf 0).1) (svO svf 1) (adr (svf 1).1) (svO svf 2) (adr (svf 6).1) (svO svf 7) w hx0 hf.1 hf.2.1 hf.2.2 r h
  | f128 c0 => exact G_defect_idle_1.calls x0 c0 sv0 (adr (svf 0).1) (svO svf 1) w hx0 hf r h

/-! ### slices.IndexFunc[[]porthole/api.Window,porthole/api.Window]: function 131 -/
noncomputable def G_api_Window_131.b1 (l0 : (List Window)) (x1 : Fn137) (s1 : Int × Int) : Option (Stp (Int × Int) (Ex (Int × Int) (Int))) := (bif decide (s1.1 < (l0.length : Int)) then (req (inb s1.1 l0.length) ((Fn137.run x1 (rd l0 s1.1)).bind fun t_16 => (bif t_16 then some (.out (.ret s1.1)) else some (.next ((IntKind.i64.wrap (s1.1 + 1)), s1.2))))) else some (.out (.brk (s1.1, s1.2))))
noncomputable def G_api_Window_131 (l0 : (List Window)) (x1 : Fn137) : Option (Int) := ((loopω (G_api_Window_131.b1 l0 x1) (0, 0)).bind fun o => o.on (fun s1 => some (-1)) (fun r => some r))
set_option maxRecDepth 100000 in
set_option maxHeartbeats 4000000 in
theorem G_api_Window_131.calls (l0 : (List Window)) (x1 : Fn137) (A0 : Option Addr) (c0 : Nat) (sv1 : SV) (w : World) {S : Nat → Prop} (hr0 : Arr kd_Window S w A0 l0) (hc0 : l0.length ≤ c0) (hx1 : (kdF137).cont S w x1 sv1) (r : Int) (h : G_api_Window_131 l0 x1 = some r) :
    Calls Try.prog 131 #[.slice A0 l0.length c0, fnv137 x1 sv1] w fun e w' => e = .returned (.int .i64 r) ∧ Below w.heap.size w w' := by
  replace hr0 := Arr.lo hr0
  replace hx1 := Kd.lo _ hx1
  unfold G_api_Window_131 at h
  have H0 := h
  clear h
  refine enter Try.func131 rfl [.slice A0 l0.length c0, fnv137 x1 sv1] (n := 19) rfl (Nat.le_of_ble_eq_true rfl) (fun a hI => ?_)
  have hF : FOpen Fence.wide := .inl rfl
  have hE := Ep.start w
  refine seq_region (live := [4, 0, 1]) (orc := []) hF hI ⟨[⟨4, [], .v (.int .i64 0)⟩, ⟨0, [], .v (.slice A0 l0.length c0)⟩, ⟨1, [], .v (fnv137 x1 sv1)⟩], [], [], [], none, none⟩ [] (by kernel_rfl) trivial (fun ns_1 a w_2 hI _ => ?_)
  refine wpIn_seq ?_
  refine seq_region (live := [8, 7, 4, 0, 1]) (orc := []) hF hI ⟨[⟨8, [], .v (.int .i64 0)⟩, ⟨7, [], .v (.int .i64 (l0.length : Int))⟩, ⟨4, [], .v (.int .i64 0)⟩, ⟨0, [], .v (.slice A0 l0.length c0)⟩, ⟨1, [], .v (fnv137 x1 sv1)⟩], [], [], [], none, none⟩ [] (by kernel_rfl) trivial (fun ns_3 a w_4 hI _ => ?_)
  obtain ⟨o_25, hL_26, H0⟩ := bind_some H0
  refine block_loop (fun (s1 : Int × Int) a w_31 => ∃ ns, St w [] 19 ⟨[⟨8, [], .v (.int .i64 s1.1)⟩, ⟨7, [], .v (.int .i64 (l0.length : Int))⟩, ⟨4, [], .v (.int .i64 s1.2)⟩, ⟨0, [], .v (.slice A0 l0.length c0)⟩, ⟨1, [], .v (fnv137 x1 sv1)⟩], [], [], [], none, none⟩ ns a w_31) (0, 0) hL_26 ⟨_, hI.pick [8, 7, 4, 0, 1] 0 ⟨[⟨8, [], .v (.int .i64 0)⟩, ⟨7, [], .v (.int .i64 (l0.length : Int))⟩, ⟨4, [], .v (.int .i64 0)⟩, ⟨0, [], .v (.slice A0 l0.length c0)⟩, ⟨1, [], .v (fnv137 x1 sv1)⟩], [], [], [], none, none⟩ (by kernel_rfl)⟩ ?_ ?_
  · clear hI
    rintro s1 a w_5 ⟨ns_6, hI⟩ r1 H1
    unfold G_api_Window_131.b1 at H1
    refine seq_region (live := [9, 8, 7, 4, 0, 1]) (orc := []) hF hI ⟨[⟨9, [], .v (.bool (decide (s1.1 < (l0.length : Int))))⟩, ⟨8, [], .v (.int .i64 s1.1)⟩, ⟨7, [], .v (.int .i64 (l0.length : Int))⟩, ⟨4, [], .v (.int .i64 s1.2)⟩, ⟨0, [], .v (.slice A0 l0.length c0)⟩, ⟨1, [], .v (fnv137 x1 sv1)⟩], [], [], [], none, none⟩ [] (by kernel_rfl) trivial (fun ns_7 a w_8 hI _ => ?_)
    refine wpIn_seq ?_
    refine cond_ hI (decide (s1.1 < (l0.length : Int))) rfl (fun hc_9 => ?_) (fun hc_9 => ?_)
    · replace H1 := bif_t hc_9 H1
      refine wpIn_skip ?_
      refine then_normal ?_
      refine wpIn_seq ?_
      refine wpIn_block ?_
      refine seq_region (live := [5, 8, 7, 4, 0, 1]) (orc := []) hF hI ⟨[⟨5, [], .v (.int .i64 s1.1)⟩, ⟨8, [], .v (.int .i64 s1.1)⟩, ⟨7, [], .v (.int .i64 (l0.length : Int))⟩, ⟨4, [], .v (.int .i64 s1.2)⟩, ⟨0, [], .v (.slice A0 l0.length c0)⟩, ⟨1, [], .v (fnv137 x1 sv1)⟩], [], [], [], none, none⟩ [] (by kernel_rfl) trivial (fun ns_10 a w_11 hI _ => ?_)
      obtain ⟨hN_12, H1⟩ := req_some H1
      obtain ⟨sv_13, hE_15, hA_14⟩ := Arr.elB (d := kd_Window) hr0 s1.1 true (fun _ => hN_12)
      replace hE_15 := hE_15 rfl
      replace hA_14 := fun (_ : true = true) => hA_14 rfl
      obtain ⟨t_16, hG_17, H1⟩ := bind_some H1
      refine seq_region (live := [16, 5, 8, 7, 4, 0, 1]) (orc := [(kd_Window).cells (rd l0 s1.1) sv_13, [.bool t_16]]) hF hI ⟨[⟨16, [], .v (.bool t_16)⟩, ⟨5, [], .v (.int .i64 s1.1)⟩, ⟨8, [], .v (.int .i64 s1.1)⟩, ⟨7, [], .v (.int .i64 (l0.length : Int))⟩, ⟨4, [], .v (.int .i64 s1.2)⟩, ⟨0, [], .v (.slice A0 l0.length c0)⟩, ⟨1, [], .v (fnv137 x1 sv1)⟩], [], [], [], none, none⟩ [.need true (0 ≤ s1.1 ∧ s1.1 < (l0.length : Int)), .need true (A0 = some (adr A0)), .cell true ((adr A0).add ((s1.1 : Int).toNat * 3)) ((kd_Window).cells (rd l0 s1.1) sv_13), .call true (fid137 x1) (([.agg ((kd_Window).cells (rd l0 s1.1) (svL [])).toArray] : List Value) ++ (fca137 x1 sv1).toList) (.bool t_16)] (by kernel_rfl) ⟨ob_inb (fun _ => hN_12), hA_14, ob_el (fun _ => hE_15) 0 ((kd_Window).cells (rd l0 s1.1) sv_13) rfl, ob_call (Fn137.ent x1) (fun hg wz hk => Fn137.calls x1 (rd l0 s1.1) sv1 (svL []) wz (S := fun _ => True) (Kd.any _ (Kd.keep kdF137 hx1 (Lo.on hk))) (Kd.any _ (Kd.keep kd_Window (contI (S := Lo S w w [] []) (w := w) (d := kd_Window) (x := (rd l0 s1.1)) (sv := (svL [])) trivial) (Lo.on hk))) _ hG_17), trivial⟩ (fun ns_18 a w_19 hI _ => ?_)
      refine cond_ hI (t_16) rfl (fun hc_20 => ?_) (fun hc_20 => ?_)
      · replace H1 := bif_t hc_20 H1
        refine seq_region (live := [4]) (orc := []) hF hI ⟨[⟨4, [], .v (.int .i64 s1.1)⟩], [], [], [], none, none⟩ [] (by kernel_rfl) trivial (fun ns_21 a w_22 hI _ => ?_)
        refine wpIn_ret ?_
        refine inBlock_ret ?_
        refine then_ret ?_
        refine then_ret ?_
        obtain rfl := Option.some.inj H1
        refine .inr ⟨_, rfl, fun ho => ?_⟩
        subst ho
        refine inBlock_ret ?_
        refine then_ret ?_
        obtain rfl := Option.some.inj H0
        exact ret1 hI rfl rfl ⟨rfl, hE.below hI⟩
      · replace H1 := bif_f hc_20 H1
        refine wpIn_skip ?_
        refine inBlock_normal ?_
        refine then_normal ?_
        refine region_ (live := [8, 7, 4, 0, 1]) (orc := []) hF hI ⟨[⟨8, [], .v (.int .i64 (IntKind.i64.wrap (s1.1 + 1)))⟩, ⟨7, [], .v (.int .i64 (l0.length : Int))⟩, ⟨4, [], .v (.int .i64 s1.2)⟩, ⟨0, [], .v (.slice A0 l0.length c0)⟩, ⟨1, [], .v (fnv137 x1 sv1)⟩], [], [], [], none, none⟩ [] (by kernel_rfl) trivial (fun ns_23 a w_24 hI _ => ?_)
        refine then_normal ?_
        obtain rfl := Option.some.inj H1
        exact ⟨_, rfl, ⟨_, hI.pick [8, 7, 4, 0, 1] 0 ⟨[⟨8, [], .v (.int .i64 (IntKind.i64.wrap (s1.1 + 1)))⟩, ⟨7, [], .v (.int .i64 (l0.length : Int))⟩, ⟨4, [], .v (.int .i64 s1.2)⟩, ⟨0, [], .v (.slice A0 l0.length c0)⟩, ⟨1, [], .v (fnv137 x1 sv1)⟩], [], [], [], none, none⟩ (by kernel_rfl)⟩⟩
    · replace H1 := bif_f hc_9 H1
      refine wpIn_exit ?_
      refine then_exit ?_
      refine then_exit ?_
      obtain rfl := Option.some.inj H1
      exact .inl ⟨_, rfl, rfl, ⟨_, hI.pick [8, 7, 4, 0, 1] 0 ⟨[⟨8, [], .v (.int .i64 s1.1)⟩, ⟨7, [], .v (.int .i64 (l0.length : Int))⟩, ⟨4, [], .v (.int .i64 s1.2)⟩, ⟨0, [], .v (.slice A0 l0.length c0)⟩, ⟨1, [], .v (fnv137 x1 sv1)⟩], [], [], [], none, none⟩ (by kernel_rfl)⟩⟩
  · clear hI
    rintro s1 a w_27 ho ⟨ns_28, hI⟩
    subst ho
    replace H0 : (some (-1) : Option (Int)) = _ := H0
    refine then_normal ?_
    refine seq_region (live := [4]) (orc := []) hF hI ⟨[⟨4, [], .v (.int .i64 (-1))⟩], [], [], [], none, none⟩ [] (by kernel_rfl) trivial (fun ns_29 a w_30 hI _ => ?_)
    refine wpIn_ret ?_
    obtain rfl := Option.some.inj H0
    exact ret1 hI rfl rfl ⟨rfl, hE.below hI⟩

/-! ### slices.ContainsFunc[[]porthole/api.Window,porthole/api.Window]: function 124 -/
noncomputable def G_api_Window_124 (l0 : (List Window)) (x1 : Fn137) : Option (Bool) := ((G_api_Window_131 l0 x1).bind fun t_3 => some (decide (t_3 ≥ 0)))
set_option maxRecDepth 100000 in
set_option maxHeartbeats 4000000 in
theorem G_api_Window_124.calls (l0 : (List Window)) (x1 : Fn137) (A0 : Option Addr) (c0 : Nat) (sv1 : SV) (w : World) {S : Nat → Prop} (hr0 : Arr kd_Window S w A0 l0) (hc0 : l0.length ≤ c0) (hx1 : (kdF137).cont S w x1 sv1) (r : Bool) (h : G_api_Window_124 l0 x1 = some r) :
    Calls Try.prog 124 #[.slice A0 l0.length c0, fnv137 x1 sv1] w fun e w' => e = .returned (.bool r) ∧ Below w.heap.size w w' := by
  replace hr0 := Arr.lo hr0
  replace hx1 := Kd.lo _ hx1
  unfold G_api_Window_124 at h
  have H0 := h
  clear h
  refine enter Try.func124 rfl [.slice A0 l0.length c0, fnv137 x1 sv1] (n := 9) rfl (Nat.le_of_ble_eq_true rfl) (fun a hI => ?_)
  have hF : FOpen Fence.wide := .inl rfl
  have hE := Ep.start w
  refine seq_region (live := [4, 0, 1]) (orc := []) hF hI ⟨[⟨4, [], .v (.bool false)⟩, ⟨0, [], .v (.slice A0 l0.length c0)⟩, ⟨1, [], .v (fnv137 x1 sv1)⟩], [], [], [], none, none⟩ [] (by kernel_rfl) trivial (fun ns_1 a w_2 hI _ => ?_)
  obtain ⟨t_3, hG_4, H0⟩ := bind_some H0
  refine seq_region (live := [4]) (orc := [[.int .i64 t_3]]) hF hI ⟨[⟨4, [], .v (.bool (decide (t_3 ≥ 0)))⟩], [], [], [], none, none⟩ [.call true 131 [.slice A0 l0.length c0, fnv137 x1 sv1] (.int .i64 t_3)] (by kernel_rfl) ⟨ob_call (enters Try.func131 (by kernel_rfl) rfl) (fun hg wz hk => G_api_Window_131.calls l0 x1 A0 c0 sv1 wz (S := fun _ => True) (Arr.any (Arr.keep hr0 (Lo.on hk))) hc0 (Kd.any _ (Kd.keep kdF137 (contI (S := Lo S w w [] []) (w := w) (d := kdF137) (x := x1) (sv := sv1) hx1) (Lo.on hk))) _ hG_4), trivial⟩ (fun ns_5 a w_6 hI _ => ?_)
  refine wpIn_ret ?_
  obtain rfl := Option.some.inj H0
  exact ret1 hI rfl rfl ⟨rfl, hE.below hI⟩

/-! ### porthole/defect.window$1: function 123 -/
noncomputable def G_defect_window_1 (x0 : Config) (a1 : Int) (y2 : Fn133) : Option (Bool) := (req (inb a1 2) ((G_api_Window_124 ((rdA_St27 x0.Frames a1).Windows) (Fn137.f125 y2 x0 a1)).bind fun t_18 => some t_18))
set_option maxRecDepth 100000 in
set_option maxHeartbeats 4000000 in
theorem G_defect_window_1.calls (x0 : Config) (a1 : Int) (y2 : Fn133) (sv0 : SV) (B2 : Addr) (sv2 : SV) (w : World) {S : Nat → Prop} (hx0 : (kd_Config).cont S w x0 sv0) (hB2 : El kdF133 S w B2 y2 sv2) (r : Bool) (h : G_defect_window_1 x0 a1 y2 = some r) :
    Calls Try.prog 123 #[.agg ((kd_Config).cells x0 sv0).toArray, .int .i64 a1, .pointer (some B2)] w fun e w' => e = .returned (.bool r) ∧ Below w.heap.size w w' := by
  replace hx0 := Kd.lo _ hx0
  replace hB2 := El.lo hB2
  unfold G_defect_window_1 at h
  have H0 := h
  clear h
  refine enter Try.func123 rfl [.agg ((kd_Config).cells x0 sv0).toArray, .int .i64 a1, .pointer (some B2)] (n := 13) rfl (Nat.le_of_ble_eq_true rfl) (fun a hI => ?_)
  have hF : FOpen Fence.wide := .inl rfl
  have hE := Ep.start w
  refine seq_region (live := [5, 4, 3, 2]) (orc := []) hF hI ⟨[⟨5, [], .v (.bool false)⟩, ⟨4, [], .p 1 0⟩, ⟨3, [], .p 0 0⟩, ⟨2, [], .v (.pointer (some B2))⟩], [], [], [((((kd_Config).cells x0 sv0).map EV.v), 29), ([.v (.int .i64 a1)], 3)], none, none⟩ [] (by kernel_rfl) trivial (fun ns_1 a w_2 hI _ => ?_)
  obtain ⟨hE', hmv, hmr⟩ := Ep.rebase (S0 := S) hE hI
  replace hx0 := Kd.keep _ hx0 hmv
  replace hB2 := El.keep hB2 hmv
  replace hE := hE'
  replace hI := hI.rebase
  clear hE' hmv hmr
  have hct := contI (S := Lo S w w_2 ns_1 []) (w := w_2) (d := kd_Config) (x := x0) (sv := sv0) ⟨⟨hx0.1.1, hx0.1.2⟩, ⟨hx0.2.1.1, hx0.2.1.2⟩, ⟨hx0.2.2.1.1, hx0.2.2.1.2⟩, ⟨hx0.2.2.2.1.1, hx0.2.2.2.1.2⟩, trivial⟩
  obtain ⟨B_3, ns_5, hE', hI', hmv, hB_4⟩ := freeze_ (S0 := S) (d := kd_Config) hE hI 0 x0 sv0 29 rfl
  replace hB_4 := hB_4 hct
  clear hct
  have hmr : ∀ b : Nat, some b ∈ ([] : List (Option Nat)) → w_2.heap[b]? = w_2.heap[b]? := fun _ _ => rfl
  replace hx0 := Kd.keep _ hx0 hmv
  replace hB2 := El.keep hB2 hmv
  replace hE := hE'
  replace hI := hI'
  clear hE' hI' hmv hmr
  obtain ⟨ns_6, hE', hI', hmv⟩ := hE.cut (S0 := S) hI [5, 4, 3, 2] 1 ⟨[⟨5, [], .v (.bool false)⟩, ⟨4, [], .p 0 0⟩, ⟨3, [], .v (.pointer (some B_3))⟩, ⟨2, [], .v (.pointer (some B2))⟩], [], [], [([.v (.int .i64 a1)], 3)], none, none⟩ (by kernel_rfl)
  have hmr : ∀ b : Nat, some b ∈ ([] : List (Option Nat)) → w_2.heap[b]? = w_2.heap[b]? := fun _ _ => rfl
  replace hx0 := Kd.keep _ hx0 hmv
  replace hB2 := El.keep hB2 hmv
  replace hB_4 := El.keep hB_4 hmv
  replace hE := hE'
  replace hI := hI'
  clear hE' hI' hmv hmr
  refine wpIn_seq ?_
  refine wpIn_region_lit ?_
  obtain ⟨hN_7, H0⟩ := req_some H0
  have hE_9 := elA_St27 (El.part (e := kd_St27) hB_4 2 x0.Frames (svO sv0 2) ⟨(hB_4).cont.2.2.1, (hB_4).cont.2.2.2.1, trivial⟩ rfl) hN_7
  refine chunkL_ (live := [10, 5, 4, 3, 2]) (orc := [[.slice (((svO (svO sv0 2) ((a1 : Int).toNat * 1)) 0).1) ((rdA_St27 x0.Frames a1).Windows).length (((svO (svO sv0 2) ((a1 : Int).toNat * 1)) 0).2)]]) hF 5 hI ⟨[⟨10, [], .v (.slice (((svO (svO sv0 2) ((a1 : Int).toNat * 1)) 0).1) ((rdA_St27 x0.Frames a1).Windows).length (((svO (svO sv0 2) ((a1 : Int).toNat * 1)) 0).2))⟩, ⟨5, [], .v (.bool false)⟩, ⟨4, [], .p 0 0⟩, ⟨3, [], .v (.pointer (some B_3))⟩, ⟨2, [], .v (.pointer (some B2))⟩], [], [], [([.v (.int .i64 a1)], 3)], none, none⟩ [.need true (0 ≤ a1 ∧ a1 < ((2 : Nat) : Int)), .cell true (((B_3.add 2).add ((a1 : Int).toNat * 2)).add 1) [.slice (((svO (svO sv0 2) ((a1 : Int).toNat * 1)) 0).1) ((rdA_St27 x0.Frames a1).Windows).length (((svO (svO sv0 2) ((a1 : Int).toNat * 1)) 0).2)]] rfl (by kernel_rfl) ⟨ob_inb (fun _ => hN_7), ob_el (fun _ => hE_9) 1 [.slice (((svO (svO sv0 2) ((a1 : Int).toNat * 1)) 0).1) ((rdA_St27 x0.Frames a1).Windows).length (((svO (svO sv0 2) ((a1 : Int).toNat * 1)) 0).2)] rfl, trivial⟩ (fun ns_10 a w_11 hI => ?_)
  obtain ⟨hE', hmv, hmr⟩ := Ep.rebase (S0 := S) hE hI
  replace hx0 := Kd.keep _ hx0 hmv
  replace hB2 := El.keep hB2 hmv
  replace hB_4 := El.keep hB_4 hmv
  replace hE_9 := El.keep hE_9 hmv
  replace hE := hE'
  replace hI := hI.rebase
  clear hE' hmv hmr
  have hct := contI (S := Lo S w w_11 ns_10 []) (w := w_11) (d := (Kd.int .i64)) (x := a1) (sv := (svL [])) trivial
  obtain ⟨B_12, ns_14, hE', hI', hmv, hB_13⟩ := freeze_ (S0 := S) (d := (Kd.int .i64)) hE hI 0 a1 (svL []) 3 rfl
  replace hB_13 := hB_13 hct
  clear hct
  have hmr : ∀ b : Nat, some b ∈ ([] : List (Option Nat)) → w_11.heap[b]? = w_11.heap[b]? := fun _ _ => rfl
  replace hx0 := Kd.keep _ hx0 hmv
  replace hB2 := El.keep hB2 hmv
  replace hB_4 := El.keep hB_4 hmv
  replace hE_9 := El.keep hE_9 hmv
  replace hE := hE'
  replace hI := hI'
  clear hE' hI' hmv hmr
  obtain ⟨ns_15, hE', hI', hmv⟩ := hE.cut (S0 := S) hI [10, 5, 4, 3, 2] 0 ⟨[⟨10, [], .v (.slice (((svO (svO sv0 2) ((a1 : Int).toNat * 1)) 0).1) ((rdA_St27 x0.Frames a1).Windows).length (((svO (svO sv0 2) ((a1 : Int).toNat * 1)) 0).2))⟩, ⟨5, [], .v (.bool false)⟩, ⟨4, [], .v (.pointer (some B_12))⟩, ⟨3, [], .v (.pointer (some B_3))⟩, ⟨2, [], .v (.pointer (some B2))⟩], [], [], [], none, none⟩ (by kernel_rfl)
  have hmr : ∀ b : Nat, some b ∈ ([] : List (Option Nat)) → w_11.heap[b]? = w_11.heap[b]? := fun _ _ => rfl
  replace hx0 := Kd.keep _ hx0 hmv
  replace hB2 := El.keep hB2 hmv
  replace hB_4 := El.keep hB_4 hmv
  replace hE_9 := El.keep hE_9 hmv
  replace hB_13 := El.keep hB_13 hmv
  replace hE := hE'
  replace hI := hI'
  clear hE' hI' hmv hmr
  refine chunkL_ (live := [11, 10, 5, 4, 3, 2]) (orc := []) hF 1 hI ⟨[⟨11, [], .v (.func (.func 125) #[] #[.pointer (some B2), .pointer (some B_3), .pointer (some B_12)])⟩, ⟨10, [], .v (.slice (((svO (svO sv0 2) ((a1 : Int).toNat * 1)) 0).1) ((rdA_St27 x0.Frames a1).Windows).length (((svO (svO sv0 2) ((a1 : Int).toNat * 1)) 0).2))⟩, ⟨5, [], .v (.bool false)⟩, ⟨4, [], .v (.pointer (some B_12))⟩, ⟨3, [], .v (.pointer (some B_3))⟩, ⟨2, [], .v (.pointer (some B2))⟩], [], [], [], none, none⟩ [] rfl (by kernel_rfl) trivial (fun ns_16 a w_17 hI => ?_)
  obtain ⟨t_18, hG_19, H0⟩ := bind_some H0
  refine chunkL_ (live := [5]) (orc := [[.bool t_18]]) hF 2 hI ⟨[⟨5, [], .v (.bool t_18)⟩], [], [], [], none, none⟩ [.call true 124 [.slice (((svO (svO sv0 2) ((a1 : Int).toNat * 1)) 0).1) ((rdA_St27 x0.Frames a1).Windows).length (((svO (svO sv0 2) ((a1 : Int).toNat * 1)) 0).2), .func (.func 125) #[] #[.pointer (some B2), .pointer (some B_3), .pointer (some B_12)]] (.bool t_18)] rfl (by kernel_rfl) ⟨ob_call (enters Try.func124 (by kernel_rfl) rfl) (fun hg wz hk => G_api_Window_124.calls ((rdA_St27 x0.Frames a1).Windows) (Fn137.f125 y2 x0 a1) (((svO (svO sv0 2) ((a1 : Int).toNat * 1)) 0).1) (((svO (svO sv0 2) ((a1 : Int).toNat * 1)) 0).2) (svL [(some B2, 0), (some B_3, 0), (sv0 0), (sv0 1), (sv0 2), (sv0 3), (some B_12, 0)]) wz (S := fun _ => True) (Arr.any (Arr.keep (hE_9).cont.1.1 (Lo.on hk))) (hE_9).cont.1.2 (Kd.any _ (Kd.keep kdF137 (contI (S := Lo S w w_11 ns_15 []) (w := w_11) (d := kdF137) (x := (Fn137.f125 y2 x0 a1)) (sv := (svL [(some B2, 0), (some B_3, 0), (sv0 0), (sv0 1), (sv0 2), (sv0 3), (some B_12, 0)])) ⟨⟨hB2.cont, hB2.at_, hB2.cells⟩, ⟨hB_4.cont, hB_4.at_, hB_4.cells⟩, ⟨hB_13.cont, hB_13.at_, hB_13.cells⟩⟩) (Lo.on hk))) _ hG_19), trivial⟩ (fun ns_20 a w_21 hI => ?_)
  refine wpListIn_nil ?_
  refine then_normal ?_
  refine wpIn_ret ?_
  obtain rfl := Option.some.inj H0
  exact ret1 hI rfl rfl ⟨rfl, hE.below hI⟩

/-! ### porthole/defect.rules$12: function 110 -/
noncomputable def G_defect_rules_12 (x0 : Config) (a1 : Int) : Option (Bool) := (req (inb a1 2) ((G_defect_within ((rdA_St27 x0.Frames a1).Length) 1 64).bind fun t_10 => some (!t_10)))
set_option maxRecDepth 100000 in
set_option maxHeartbeats 4000000 in
theorem G_defect_rules_12.calls (x0 : Config) (a1 : Int) (sv0 : SV) (w : World) {S : Nat → Prop} (hx0 : (kd_Config).cont S w x0 sv0) (r : Bool) (h : G_defect_rules_12 x0 a1 = some r) :
    Calls Try.prog 110 #[.agg ((kd_Config).cells x0 sv0).toArray, .int .i64 a1] w fun e w' => e = .returned (.bool r) ∧ Below w.heap.size w w' := by
  replace hx0 := Kd.lo _ hx0
  unfold G_defect_rules_12 at h
  have H0 := h
  clear h
  refine enter Try.func110 rfl [.agg ((kd_Config).cells x0 sv0).toArray, .int .i64 a1] (n := 12) rfl (Nat.le_of_ble_eq_true rfl) (fun a hI => ?_)
  have hF : FOpen Fence.wide := .inl rfl
  have hE := Ep.start w
  refine seq_region (live := [4, 2, 1]) (orc := []) hF hI ⟨[⟨4, [], .v (.bool false)⟩, ⟨2, [], .p 0 0⟩, ⟨1, [], .v (.int .i64 a1)⟩], [], [], [((((kd_Config).cells x0 sv0).map EV.v), 29)], none, none⟩ [] (by kernel_rfl) trivial (fun ns_1 a w_2 hI _ => ?_)
  obtain ⟨hE', hmv, hmr⟩ := Ep.rebase (S0 := S) hE hI
  replace hx0 := Kd.keep _ hx0 hmv
  replace hE := hE'
  replace hI := hI.rebase
  clear hE' hmv hmr
  have hct := contI (S := Lo S w w_2 ns_1 []) (w := w_2) (d := kd_Config) (x := x0) (sv := sv0) ⟨⟨hx0.1.1, hx0.1.2⟩, ⟨hx0.2.1.1, hx0.2.1.2⟩, ⟨hx0.2.2.1.1, hx0.2.2.1.2⟩, ⟨hx0.2.2.2.1.1, hx0.2.2.2.1.2⟩, trivial⟩
  obtain ⟨B_3, ns_5, hE', hI', hmv, hB_4⟩ := freeze_ (S0 := S) (d := kd_Config) hE hI 0 x0 sv0 29 rfl
  replace hB_4 := hB_4 hct
  clear hct
  have hmr : ∀ b : Nat, some b ∈ ([] : List (Option Nat)) → w_2.heap[b]? = w_2.heap[b]? := fun _ _ => rfl
  replace hx0 := Kd.keep _ hx0 hmv
  replace hE := hE'
  replace hI := hI'
  clear hE' hI' hmv hmr
  obtain ⟨ns_6, hE', hI', hmv⟩ := hE.cut (S0 := S) hI [4, 2, 1] 0 ⟨[⟨4, [], .v (.bool false)⟩, ⟨2, [], .v (.pointer (some B_3))⟩, ⟨1, [], .v (.int .i64 a1)⟩], [], [], [], none, none⟩ (by kernel_rfl)
  have hmr : ∀ b : Nat, some b ∈ ([] : List (Option Nat)) → w_2.heap[b]? = w_2.heap[b]? := fun _ _ => rfl
  replace hx0 := Kd.keep _ hx0 hmv
  replace hB_4 := El.keep hB_4 hmv
  replace hE := hE'
  replace hI := hI'
  clear hE' hI' hmv hmr
  obtain ⟨hN_7, H0⟩ := req_some H0
  have hE_9 := elA_St27 (El.part (e := kd_St27) hB_4 2 x0.Frames (svO sv0 2) ⟨(hB_4).cont.2.2.1, (hB_4).cont.2.2.2.1, trivial⟩ rfl) hN_7
  obtain ⟨t_10, hG_11, H0⟩ := bind_some H0
  refine seq_region (live := [4]) (orc := [[.int .i64 ((rdA_St27 x0.Frames a1).Length)], [.bool t_10]]) hF hI ⟨[⟨4, [], .v (.bool (!t_10))⟩], [], [], [], none, none⟩ [.need true (0 ≤ a1 ∧ a1 < ((2 : Nat) : Int)), .cell true ((B_3.add 2).add ((a1 : Int).toNat * 2)) [.int .i64 ((rdA_St27 x0.Frames a1).Length)], .call true 93 [.int .i64 ((rdA_St27 x0.Frames a1).Length), .int .i64 1, .int .i64 64] (.bool t_10)] (by kernel_rfl) ⟨ob_inb (fun _ => hN_7), ob_el (fun _ => hE_9) 0 [.int .i64 ((rdA_St27 x0.Frames a1).Length)] rfl, ob_call (enters Try.func93 (by kernel_rfl) rfl) (fun hg wz hk => G_defect_within.calls ((rdA_St27 x0.Frames a1).Length) 1 64  wz (S := fun _ => True)  _ hG_11), trivial⟩ (fun ns_12 a w_13 hI _ => ?_)
  refine wpIn_ret ?_
  obtain rfl := Option.some.inj H0
  exact ret1 hI rfl rfl ⟨rfl, hE.below hI⟩

/-! ### porthole/defect.rules$13: function 111 -/
noncomputable def G_defect_rules_13 (x0 : Config) (a1 : Int) : Option (Bool) := (req (inb a1 2) (some (decide ((((rdA_St27 x0.Frames a1).Windows).length : Int) > 16))))
set_option maxRecDepth 100000 in
set_option maxHeartbeats 4000000 in
theorem G_defect_rules_13.calls (x0 : Config) (a1 : Int) (sv0 : SV) (w : World) {S : Nat → Prop} (hx0 : (kd_Config).cont S w x0 sv0) (r : Bool) (h : G_defect_rules_13 x0 a1 = some r) :
    Calls Try.prog 111 #[.agg ((kd_Config).cells x0 sv0).toArray, .int .i64 a1] w fun e w' => e = .returned (.bool r) ∧ Below w.heap.size w w' := by
  replace hx0 := Kd.lo _ hx0
  unfold G_defect_rules_13 at h
  have H0 := h
  clear h
  refine enter Try.func111 rfl [.agg ((kd_Config).cells x0 sv0).toArray, .int .i64 a1] (n := 12) rfl (Nat.le_of_ble_eq_true rfl) (fun a hI => ?_)
  have hF : FOpen Fence.wide := .inl rfl
  have hE := Ep.start w
  refine seq_region (live := [4, 2, 1]) (orc := []) hF hI ⟨[⟨4, [], .v (.bool false)⟩, ⟨2, [], .p 0 0⟩, ⟨1, [], .v (.int .i64 a1)⟩], [], [], [((((kd_Config).cells x0 sv0).map EV.v), 29)], none, none⟩ [] (by kernel_rfl) trivial (fun ns_1 a w_2 hI _ => ?_)
  obtain ⟨hE', hmv, hmr⟩ := Ep.rebase (S0 := S) hE hI
  replace hx0 := Kd.keep _ hx0 hmv
  replace hE := hE'
  replace hI := hI.rebase
  clear hE' hmv hmr
  have hct := contI (S := Lo S w w_2 ns_1 []) (w := w_2) (d := kd_Config) (x := x0) (sv := sv0) ⟨⟨hx0.1.1, hx0.1.2⟩, ⟨hx0.2.1.1, hx0.2.1.2⟩, ⟨hx0.2.2.1.1, hx0.2.2.1.2⟩, ⟨hx0.2.2.2.1.1, hx0.2.2.2.1.2⟩, trivial⟩
  obtain ⟨B_3, ns_5, hE', hI', hmv, hB_4⟩ := freeze_ (S0 := S) (d := kd_Config) hE hI 0 x0 sv0 29 rfl
  replace hB_4 := hB_4 hct
  clear hct
  have hmr : ∀ b : Nat, some b ∈ ([] : List (Option Nat)) → w_2.heap[b]? = w_2.heap[b]? := fun _ _ => rfl
  replace hx0 := Kd.keep _ hx0 hmv
  replace hE := hE'
  replace hI := hI'
  clear hE' hI' hmv hmr
  obtain ⟨ns_6, hE', hI', hmv⟩ := hE.cut (S0 := S) hI [4, 2, 1] 0 ⟨[⟨4, [], .v (.bool false)⟩, ⟨2, [], .v (.pointer (some B_3))⟩, ⟨1, [], .v (.int .i64 a1)⟩], [], [], [], none, none⟩ (by kernel_rfl)
  have hmr : ∀ b : Nat, some b ∈ ([] : List (Option Nat)) → w_2.heap[b]? = w_2.heap[b]? := fun _ _ => rfl
  replace hx0 := Kd.keep _ hx0 hmv
  replace hB_4 := El.keep hB_4 hmv
  replace hE := hE'
  replace hI := hI'
  clear hE' hI' hmv hmr
  obtain ⟨hN_7, H0⟩ := req_some H0
  have hE_9 := elA_St27 (El.part (e := kd_St27) hB_4 2 x0.Frames (svO sv0 2) ⟨(hB_4).cont.2.2.1, (hB_4).cont.2.2.2.1, trivial⟩ rfl) hN_7
  refine seq_region (live := [4]) (orc := [[.slice (((svO (svO sv0 2) ((a1 : Int).toNat * 1)) 0).1) ((rdA_St27 x0.Frames a1).Windows).length (((svO (svO sv0 2) ((a1 : Int).toNat * 1)) 0).2)]]) hF hI ⟨[⟨4, [], .v (.bool (decide ((((rdA_St27 x0.Frames a1).Windows).length : Int) > 16)))⟩], [], [], [], none, none⟩ [.need true (0 ≤ a1 ∧ a1 < ((2 : Nat) : Int)), .cell true (((B_3.add 2).add ((a1 : Int).toNat * 2)).add 1) [.slice (((svO (svO sv0 2) ((a1 : Int).toNat * 1)) 0).1) ((rdA_St27 x0.Frames a1).Windows).length (((svO (svO sv0 2) ((a1 : Int).toNat * 1)) 0).2)]] (by kernel_rfl) ⟨ob_inb (fun _ => hN_7), ob_el (fun _ => hE_9) 1 [.slice (((svO (svO sv0 2) ((a1 : Int).toNat * 1)) 0).1) ((rdA_St27 x0.Frames a1).Windows).length (((svO (svO sv0 2) ((a1 : Int).toNat * 1)) 0).2)] rfl, trivial⟩ (fun ns_10 a w_11 hI _ => ?_)
  refine wpIn_ret ?_
  obtain rfl := Option.some.inj H0
  exact ret1 hI rfl rfl ⟨rfl, hE.below hI⟩

/-! ### porthole/defect.small: function 127 -/
noncomputable def G_defect_small.b1 (l0 : (List Int)) (s1 : Int × Bool) : Option (Stp (Int × Bool) (Ex (Int × Bool) (Bool))) := (bif decide (s1.1 < (l0.length : Int)) then (req (inb s1.1 l0.length) ((G_defect_within (rd l0 s1.1) 0 4294967295).bind fun t_16 => (bif (!t_16) then some (.out (.ret false)) else some (.next ((IntKind.i64.wrap (s1.1 + 1)), s1.2))))) else some (.out (.brk (s1.1, s1.2))))
noncomputable def G_defect_small (l0 : (List Int)) : Option (Bool) := ((loopω (G_defect_small.b1 l0) (0, false)).bind fun o => o.on (fun s1 => some true) (fun r => some r))
set_option maxRecDepth 100000 in
set_option maxHeartbeats 4000000 in
theorem G_defect_small.calls (l0 : (List Int)) (A0 : Option Addr) (c0 : Nat) (w : World) {S : Nat → Prop} (hr0 : Arr (Kd.int .i64) S w A0 l0) (hc0 : l0.length ≤ c0) (r : Bool) (h : G_defect_small l0 = some r) :
    Calls Try.prog 127 #[.slice A0 l0.length c0] w fun e w' => e = .returned (.bool r) ∧ Below w.heap.size w w' := by
  replace hr0 := Arr.lo hr0
  unfold G_defect_small at h
  have H0 := h
  clear h
  refine enter Try.func127 rfl [.slice A0 l0.length c0] (n := 15) rfl (Nat.le_of_ble_eq_true rfl) (fun a hI => ?_)
  have hF : FOpen Fence.wide := .inl rfl
  have hE := Ep.start w
  refine seq_region (live := [2, 0]) (orc := []) hF hI ⟨[⟨2, [], .v (.bool false)⟩, ⟨0, [], .v (.slice A0 l0.length c0)⟩], [], [], [], none, none⟩ [] (by kernel_rfl) trivial (fun ns_1 a w_2 hI _ => ?_)
  refine wpIn_seq ?_
  refine seq_region (live := [7, 6, 5, 2]) (orc := []) hF hI ⟨[⟨7, [], .v (.int .i64 0)⟩, ⟨6, [], .v (.int .i64 (l0.length : Int))⟩, ⟨5, [], .v (.slice A0 l0.length c0)⟩, ⟨2, [], .v (.bool false)⟩], [], [], [], none, none⟩ [] (by kernel_rfl) trivial (fun ns_3 a w_4 hI _ => ?_)
  obtain ⟨o_25, hL_26, H0⟩ := bind_some H0
  refine block_loop (fun (s1 : Int × Bool) a w_31 => ∃ ns, St w [] 15 ⟨[⟨7, [], .v (.int .i64 s1.1)⟩, ⟨6, [], .v (.int .i64 (l0.length : Int))⟩, ⟨5, [], .v (.slice A0 l0.length c0)⟩, ⟨2, [], .v (.bool s1.2)⟩], [], [], [], none, none⟩ ns a w_31) (0, false) hL_26 ⟨_, hI.pick [7, 6, 5, 2] 0 ⟨[⟨7, [], .v (.int .i64 0)⟩, ⟨6, [], .v (.int .i64 (l0.length : Int))⟩, ⟨5, [], .v (.slice A0 l0.length c0)⟩, ⟨2, [], .v (.bool false)⟩], [], [], [], none, none⟩ (by kernel_rfl)⟩ ?_ ?_
  · clear hI
    rintro s1 a w_5 ⟨ns_6, hI⟩ r1 H1
    unfold G_defect_small.b1 at H1
    refine seq_region (live := [8, 7, 6, 5, 2]) (orc := []) hF hI ⟨[⟨8, [], .v (.bool (decide (s1.1 < (l0.length : Int))))⟩, ⟨7, [], .v (.int .i64 s1.1)⟩, ⟨6, [], .v (.int .i64 (l0.length : Int))⟩, ⟨5, [], .v (.slice A0 l0.length c0)⟩, ⟨2, [], .v (.bool s1.2)⟩], [], [], [], none, none⟩ [] (by kernel_rfl) trivial (fun ns_7 a w_8 hI _ => ?_)
    refine wpIn_seq ?_
    refine cond_ hI (decide (s1.1 < (l0.length : Int))) rfl (fun hc_9 => ?_) (fun hc_9 => ?_)
    · replace H1 := bif_t hc_9 H1
      refine wpIn_skip ?_
      refine then_normal ?_
      refine wpIn_seq ?_
      refine wpIn_block ?_
      obtain ⟨hN_10, H1⟩ := req_some H1
      obtain ⟨sv_11, hE_13, hA_12⟩ := Arr.elB (d := (Kd.int .i64)) hr0 s1.1 true (fun _ => hN_10)
      replace hE_13 := hE_13 rfl
      replace hA_12 := fun (_ : true = true) => hA_12 rfl
      refine seq_region (live := [4, 7, 6, 5, 2]) (orc := [[.int .i64 (rd l0 s1.1)]]) hF hI ⟨[⟨4, [], .v (.int .i64 (rd l0 s1.1))⟩, ⟨7, [], .v (.int .i64 s1.1)⟩, ⟨6, [], .v (.int .i64 (l0.length : Int))⟩, ⟨5, [], .v (.slice A0 l0.length c0)⟩, ⟨2, [], .v (.bool s1.2)⟩], [], [], [], none, none⟩ [.need true (0 ≤ s1.1 ∧ s1.1 < (l0.length : Int)), .need true (A0 = some (adr A0)), .cell true ((adr A0).add ((s1.1 : Int).toNat * 1)) [.int .i64 (rd l0 s1.1)]] (by kernel_rfl) ⟨ob_inb (fun _ => hN_10), hA_12, ob_el (fun _ => hE_13) 0 [.int .i64 (rd l0 s1.1)] rfl, trivial⟩ (fun ns_14 a w_15 hI _ => ?_)
      obtain ⟨t_16, hG_17, H1⟩ := bind_some H1
      refine seq_region (live := [13, 7, 6, 5, 2]) (orc := [[.bool t_16]]) hF hI ⟨[⟨13, [], .v (.bool (!t_16))⟩, ⟨7, [], .v (.int .i64 s1.1)⟩, ⟨6, [], .v (.int .i64 (l0.length : Int))⟩, ⟨5, [], .v (.slice A0 l0.length c0)⟩, ⟨2, [], .v (.bool s1.2)⟩], [], [], [], none, none⟩ [.call true 93 [.int .i64 (rd l0 s1.1), .int .i64 0, .int .i64 4294967295] (.bool t_16)] (by kernel_rfl) ⟨ob_call (enters Try.func93 (by kernel_rfl) rfl) (fun hg wz hk => G_defect_within.calls (rd l0 s1.1) 0 4294967295  wz (S := fun _ => True)  _ hG_17), trivial⟩ (fun ns_18 a w_19 hI _ => ?_)
      refine cond_ hI ((!t_16)) rfl (fun hc_20 => ?_) (fun hc_20 => ?_)
      · replace H1 := bif_t hc_20 H1
        refine seq_region (live := [2]) (orc := []) hF hI ⟨[⟨2, [], .v (.bool false)⟩], [], [], [], none, none⟩ [] (by kernel_rfl) trivial (fun ns_21 a w_22 hI _ => ?_)
        refine wpIn_ret ?_
        refine inBlock_ret ?_
        refine then_ret ?_
        refine then_ret ?_
        obtain rfl := Option.some.inj H1
        refine .inr ⟨_, rfl, fun ho => ?_⟩
        subst ho
        refine inBlock_ret ?_
        refine then_ret ?_
        obtain rfl := Option.some.inj H0
        exact ret1 hI rfl rfl ⟨rfl, hE.below hI⟩
      · replace H1 := bif_f hc_20 H1
        refine wpIn_skip ?_
        refine inBlock_normal ?_
        refine then_normal ?_
        refine region_ (live := [7, 6, 5, 2]) (orc := []) hF hI ⟨[⟨7, [], .v (.int .i64 (IntKind.i64.wrap (s1.1 + 1)))⟩, ⟨6, [], .v (.int .i64 (l0.length : Int))⟩, ⟨5, [], .v (.slice A0 l0.length c0)⟩, ⟨2, [], .v (.bool s1.2)⟩], [], [], [], none, none⟩ [] (by kernel_rfl) trivial (fun ns_23 a w_24 hI _ => ?_)
        refine then_normal ?_
        obtain rfl := Option.some.inj H1
        exact ⟨_, rfl, ⟨_, hI.pick [7, 6, 5, 2] 0 ⟨[⟨7, [], .v (.int .i64 (IntKind.i64.wrap (s1.1 + 1)))⟩, ⟨6, [], .v (.int .i64 (l0.length : Int))⟩, ⟨5, [], .v (.slice A0 l0.length c0)⟩, ⟨2, [], .v (.bool s1.2)⟩], [], [], [], none, none⟩ (by kernel_rfl)⟩⟩
    · replace H1 := bif_f hc_9 H1
      refine wpIn_exit ?_
      refine then_exit ?_
      refine then_exit ?_
      obtain rfl := Option.some.inj H1
      exact .inl ⟨_, rfl, rfl, ⟨_, hI.pick [7, 6, 5, 2] 0 ⟨[⟨7, [], .v (.int .i64 s1.1)⟩, ⟨6, [], .v (.int .i64 (l0.length : Int))⟩, ⟨5, [], .v (.slice A0 l0.length c0)⟩, ⟨2, [], .v (.bool s1.2)⟩], [], [], [], none, none⟩ (by kernel_rfl)⟩⟩
  · clear hI
    rintro s1 a w_27 ho ⟨ns_28, hI⟩
    subst ho
    replace H0 : (some true : Option (Bool)) = _ := H0
    refine then_normal ?_
    refine seq_region (live := [2]) (orc := []) hF hI ⟨[⟨2, [], .v (.bool true)⟩], [], [], [], none, none⟩ [] (by kernel_rfl) trivial (fun ns_29 a w_30 hI _ => ?_)
    refine wpIn_ret ?_
    obtain rfl := Option.some.inj H0
    exact ret1 hI rfl rfl ⟨rfl, hE.below hI⟩

/-! ### porthole/defect.crossed: function 115 -/
noncomputable def G_defect_crossed.b1 (x0 : Config) (a1 : Int) (s1 : Int × Bool) : Option (Stp (Int × Bool) (Ex (Int × Bool) (Bool))) := (bif decide (s1.1 < (((rdA_St27 x0.Frames a1).Windows).length : Int)) then (req (inb (IntKind.i64.wrap (s1.1 - 1)) ((rdA_St27 x0.Frames a1).Windows).length) (req (inb s1.1 ((rdA_St27 x0.Frames a1).Windows).length) ((G_defect_small ([(rd ((rdA_St27 x0.Frames a1).Windows) (IntKind.i64.wrap (s1.1 - 1))).Start, (rd ((rdA_St27 x0.Frames a1).Windows) (IntKind.i64.wrap (s1.1 - 1))).Len, (rd ((rdA_St27 x0.Frames a1).Windows) s1.1).Start] : List Int)).bind fun t_35 => (bif (t_35 && decide (((rd ((rdA_St27 x0.Frames a1).Windows) s1.1).Start) < (IntKind.i64.wrap (((rd ((rdA_St27 x0.Frames a1).Windows) (IntKind.i64.wrap (s1.1 - 1))).Start) + ((rd ((rdA_St27 x0.Frames a1).Windows) (IntKind.i64.wrap (s1.1 - 1))).Len))))) then some (.out (.ret true)) else some (.next ((IntKind.i64.wrap (s1.1 + 1)), s1.2)))))) else some (.out (.brk (s1.1, s1.2))))
noncomputable def G_defect_crossed (x0 : Config) (a1 : Int) : Option (Bool) := (req (inb a1 2) ((loopω (G_defect_crossed.b1 x0 a1) (1, false)).bind fun o => o.on (fun s1 => some false) (fun r => some r)))
set_option maxRecDepth 100000 in
set_option maxHeartbeats 4000000 in
theorem G_defect_crossed.calls (x0 : Config) (a1 : Int) (sv0 : SV) (w : World) {S : Nat → Prop} (hx0 : (kd_Config).cont S w x0 sv0) (r : Bool) (h : G_defect_crossed x0 a1 = some r) :
    Calls Try.prog 115 #[.agg ((kd_Config).cells x0 sv0).toArray, .int .i64 a1] w fun e w' => e = .returned (.bool r) ∧ Below w.heap.size w w' := by
  replace hx0 := Kd.lo _ hx0
  unfold G_defect_crossed at h
  have H0 := h
  clear h
  refine enter Try.func115 rfl [.agg ((kd_Config).cells x0 sv0).toArray, .int .i64 a1] (n := 46) rfl (Nat.le_of_ble_eq_true rfl) (fun a hI => ?_)
  have hF : FOpen Fence.wide := .inl rfl
  have hE := Ep.start w
  refine seq_region (live := [4, 2, 1]) (orc := []) hF hI ⟨[⟨4, [], .v (.bool false)⟩, ⟨2, [], .p 0 0⟩, ⟨1, [], .v (.int .i64 a1)⟩], [], [], [((((kd_Config).cells x0 sv0).map EV.v), 29)], none, none⟩ [] (by kernel_rfl) trivial (fun ns_1 a w_2 hI _ => ?_)
  obtain ⟨hE', hmv, hmr⟩ := Ep.rebase (S0 := S) hE hI
  replace hx0 := Kd.keep _ hx0 hmv
  replace hE := hE'
  replace hI := hI.rebase
  clear hE' hmv hmr
  have hct := contI (S := Lo S w w_2 ns_1 []) (w := w_2) (d := kd_Config) (x := x0) (sv := sv0) ⟨⟨hx0.1.1, hx0.1.2⟩, ⟨hx0.2.1.1, hx0.2.1.2⟩, ⟨hx0.2.2.1.1, hx0.2.2.1.2⟩, ⟨hx0.2.2.2.1.1, hx0.2.2.2.1.2⟩, trivial⟩
  obtain ⟨B_3, ns_5, hE', hI', hmv, hB_4⟩ := freeze_ (S0 := S) (d := kd_Config) hE hI 0 x0 sv0 29 rfl
  replace hB_4 := hB_4 hct
  clear hct
  have hmr : ∀ b : Nat, some b ∈ ([] : List (Option Nat)) → w_2.heap[b]? = w_2.heap[b]? := fun _ _ => rfl
  replace hx0 := Kd.keep _ hx0 hmv
  replace hE := hE'
  replace hI := hI'
  clear hE' hI' hmv hmr
  obtain ⟨ns_6, hE', hI', hmv⟩ := hE.cut (S0 := S) hI [4, 2, 1] 0 ⟨[⟨4, [], .v (.bool false)⟩, ⟨2, [], .v (.pointer (some B_3))⟩, ⟨1, [], .v (.int .i64 a1)⟩], [], [], [], none, none⟩ (by kernel_rfl)
  have hmr : ∀ b : Nat, some b ∈ ([] : List (Option Nat)) → w_2.heap[b]? = w_2.heap[b]? := fun _ _ => rfl
  replace hx0 := Kd.keep _ hx0 hmv
  replace hB_4 := El.keep hB_4 hmv
  replace hE := hE'
  replace hI := hI'
  clear hE' hI' hmv hmr
  obtain ⟨hN_7, H0⟩ := req_some H0
  have hE_9 := elA_St27 (El.part (e := kd_St27) hB_4 2 x0.Frames (svO sv0 2) ⟨(hB_4).cont.2.2.1, (hB_4).cont.2.2.2.1, trivial⟩ rfl) hN_7
  refine seq_region (live := [5, 4]) (orc := [[.slice (((svO (svO sv0 2) ((a1 : Int).toNat * 1)) 0).1) ((rdA_St27 x0.Frames a1).Windows).length (((svO (svO sv0 2) ((a1 : Int).toNat * 1)) 0).2)]]) hF hI ⟨[⟨5, [], .v (.slice (((svO (svO sv0 2) ((a1 : Int).toNat * 1)) 0).1) ((rdA_St27 x0.Frames a1).Windows).length (((svO (svO sv0 2) ((a1 : Int).toNat * 1)) 0).2))⟩, ⟨4, [], .v (.bool false)⟩], [], [], [], none, none⟩ [.need true (0 ≤ a1 ∧ a1 < ((2 : Nat) : Int)), .cell true (((B_3.add 2).add ((a1 : Int).toNat * 2)).add 1) [.slice (((svO (svO sv0 2) ((a1 : Int).toNat * 1)) 0).1) ((rdA_St27 x0.Frames a1).Windows).length (((svO (svO sv0 2) ((a1 : Int).toNat * 1)) 0).2)]] (by kernel_rfl) ⟨ob_inb (fun _ => hN_7), ob_el (fun _ => hE_9) 1 [.slice (((svO (svO sv0 2) ((a1 : Int).toNat * 1)) 0).1) ((rdA_St27 x0.Frames a1).Windows).length (((svO (svO sv0 2) ((a1 : Int).toNat * 1)) 0).2)] rfl, trivial⟩ (fun ns_10 a w_11 hI _ => ?_)
  refine wpIn_seq ?_
  refine seq_region (live := [6, 5, 4]) (orc := []) hF hI ⟨[⟨6, [], .v (.int .i64 1)⟩, ⟨5, [], .v (.slice (((svO (svO sv0 2) ((a1 : Int).toNat * 1)) 0).1) ((rdA_St27 x0.Frames a1).Windows).length (((svO (svO sv0 2) ((a1 : Int).toNat * 1)) 0).2))⟩, ⟨4, [], .v (.bool false)⟩], [], [], [], none, none⟩ [] (by kernel_rfl) trivial (fun ns_12 a w_13 hI _ => ?_)
  obtain ⟨hE', hmv, hmr⟩ := Ep.rebase (S0 := S) hE hI
  replace hx0 := Kd.keep _ hx0 hmv
  replace hB_4 := El.keep hB_4 hmv
  replace hE_9 := El.keep hE_9 hmv
  replace hE := hE'
  replace hI := hI.rebase
  clear hE' hmv hmr
  obtain ⟨o_45, hL_46, H0⟩ := bind_some H0
  refine block_loop (fun (s1 : Int × Bool) a w_52 => ∃ (ow ns : List Nat) , ((kd_Config).cont (Lo S w w_52 ow []) w_52 x0 sv0) ∧ (El kd_Config (Lo S w w_52 ow []) w_52 B_3 x0 sv0) ∧ (El kd_Frame (Lo S w w_52 ow []) w_52 ((B_3.add 2).add ((a1 : Int).toNat * 2)) (rdA_St27 x0.Frames a1) (svO (svO sv0 2) ((a1 : Int).toNat * 1))) ∧ Ep w w_52 ow [] ∧ St w_52 ow 46 ⟨[⟨6, [], .v (.int .i64 s1.1)⟩, ⟨5, [], .v (.slice (((svO (svO sv0 2) ((a1 : Int).toNat * 1)) 0).1) ((rdA_St27 x0.Frames a1).Windows).length (((svO (svO sv0 2) ((a1 : Int).toNat * 1)) 0).2))⟩, ⟨4, [], .v (.bool s1.2)⟩], [], [], [], none, none⟩ ns a w_52) (1, false) hL_46 ⟨_, _, hx0, hB_4, hE_9, hE, hI.pick [6, 5, 4] 0 ⟨[⟨6, [], .v (.int .i64 1)⟩, ⟨5, [], .v (.slice (((svO (svO sv0 2) ((a1 : Int).toNat * 1)) 0).1) ((rdA_St27 x0.Frames a1).Windows).length (((svO (svO sv0 2) ((a1 : Int).toNat * 1)) 0).2))⟩, ⟨4, [], .v (.bool false)⟩], [], [], [], none, none⟩ (by kernel_rfl)⟩ ?_ ?_
  · clear hI hE
    rintro s1 a w_14 ⟨ow_16, ns_15, hx0, hB_4, hE_9, hE, hI⟩ r1 H1
    unfold G_defect_crossed.b1 at H1
    refine wpIn_seq ?_
    refine seq_region (live := [17, 6, 5, 4]) (orc := []) hF hI ⟨[⟨17, [], .v (.bool (decide (s1.1 < (((rdA_St27 x0.Frames a1).Windows).length : Int))))⟩, ⟨6, [], .v (.int .i64 s1.1)⟩, ⟨5, [], .v (.slice (((svO (svO sv0 2) ((a1 : Int).toNat * 1)) 0).1) ((rdA_St27 x0.Frames a1).Windows).length (((svO (svO sv0 2) ((a1 : Int).toNat * 1)) 0).2))⟩, ⟨4, [], .v (.bool s1.2)⟩], [], [], [], none, none⟩ [] (by kernel_rfl) trivial (fun ns_17 a w_18 hI _ => ?_)
    refine cond_ hI (decide (s1.1 < (((rdA_St27 x0.Frames a1).Windows).length : Int))) rfl (fun hc_19 => ?_) (fun hc_19 => ?_)
    · replace H1 := bif_t hc_19 H1
      refine wpIn_skip ?_
      refine then_normal ?_
      refine wpIn_seq ?_
      refine wpIn_block ?_
      refine wpIn_seq ?_
      obtain ⟨hN_20, H1⟩ := req_some H1
      obtain ⟨sv_21, hE_23, hA_22⟩ := Arr.elB (d := kd_Window) (hE_9).cont.1.1 (IntKind.i64.wrap (s1.1 - 1)) true (fun _ => hN_20)
      replace hE_23 := hE_23 rfl
      replace hA_22 := fun (_ : true = true) => hA_22 rfl
      obtain ⟨hN_24, H1⟩ := req_some H1
      obtain ⟨sv_25, hE_27, hA_26⟩ := Arr.elB (d := kd_Window) (hE_9).cont.1.1 s1.1 true (fun _ => hN_24)
      replace hE_27 := hE_27 rfl
      replace hA_26 := fun (_ : true = true) => hA_26 rfl
      refine drawnW_ (live := [8, 7, 6, 5, 4]) hF hI [.q [] [], .q [] [], .q [1] [], .q [0, 2] [], .q [3] [(kd_Window).cells (rd ((rdA_St27 x0.Frames a1).Windows) (IntKind.i64.wrap (s1.1 - 1))) sv_21], .q [] [], .q [] [], .q [5, 6] [], .q [7] [], .q [8] [[.int .i64 ((rd ((rdA_St27 x0.Frames a1).Windows) s1.1).Start)]], .al, .st 10 [4], .q [9] []] [.q 20 (.v (.slice (((svO (svO sv0 2) ((a1 : Int).toNat * 1)) 0).1) ((rdA_St27 x0.Frames a1).Windows).length (((svO (svO sv0 2) ((a1 : Int).toNat * 1)) 0).2))) [], .q 21 (.v (.int .i64 s1.1)) [], .q 22 (.v (.int .i64 (IntKind.i64.wrap (s1.1 - 1)))) [], .q 23 (.v (.pointer (some ((adr (((svO (svO sv0 2) ((a1 : Int).toNat * 1)) 0).1)).add (((IntKind.i64.wrap (s1.1 - 1)) : Int).toNat * 3))))) [.need true (0 ≤ (IntKind.i64.wrap (s1.1 - 1)) ∧ (IntKind.i64.wrap (s1.1 - 1)) < (((rdA_St27 x0.Frames a1).Windows).length : Int)), .need true (((svO (svO sv0 2) ((a1 : Int).toNat * 1)) 0).1 = some (adr (((svO (svO sv0 2) ((a1 : Int).toNat * 1)) 0).1)))], .q 24 (.v (.agg ((kd_Window).cells (rd ((rdA_St27 x0.Frames a1).Windows) (IntKind.i64.wrap (s1.1 - 1))) sv_21).toArray)) [.cell true ((adr (((svO (svO sv0 2) ((a1 : Int).toNat * 1)) 0).1)).add (((IntKind.i64.wrap (s1.1 - 1)) : Int).toNat * 3)) ((kd_Window).cells (rd ((rdA_St27 x0.Frames a1).Windows) (IntKind.i64.wrap (s1.1 - 1))) sv_21)], .q 25 (.v (.slice (((svO (svO sv0 2) ((a1 : Int).toNat * 1)) 0).1) ((rdA_St27 x0.Frames a1).Windows).length (((svO (svO sv0 2) ((a1 : Int).toNat * 1)) 0).2))) [], .q 26 (.v (.int .i64 s1.1)) [], .q 27 (.v (.pointer (some ((adr (((svO (svO sv0 2) ((a1 : Int).toNat * 1)) 0).1)).add ((s1.1 : Int).toNat * 3))))) [.need true (0 ≤ s1.1 ∧ s1.1 < (((rdA_St27 x0.Frames a1).Windows).length : Int)), .need true (((svO (svO sv0 2) ((a1 : Int).toNat * 1)) 0).1 = some (adr (((svO (svO sv0 2) ((a1 : Int).toNat * 1)) 0).1)))], .q 28 (.v (.pointer (some (((adr (((svO (svO sv0 2) ((a1 : Int).toNat * 1)) 0).1)).add ((s1.1 : Int).toNat * 3)).add 1)))) [], .q 29 (.v (.int .i64 ((rd ((rdA_St27 x0.Frames a1).Windows) s1.1).Start))) [.cell true (((adr (((svO (svO sv0 2) ((a1 : Int).toNat * 1)) 0).1)).add ((s1.1 : Int).toNat * 3)).add 1) [.int .i64 ((rd ((rdA_St27 x0.Frames a1).Windows) s1.1).Start)]], .al 7 88 [.int .i64 0, .int .i64 0, .int .i64 0], .st 10 [.int .i64 ((rd ((rdA_St27 x0.Frames a1).Windows) (IntKind.i64.wrap (s1.1 - 1))).Part), .int .i64 ((rd ((rdA_St27 x0.Frames a1).Windows) (IntKind.i64.wrap (s1.1 - 1))).Start), .int .i64 ((rd ((rdA_St27 x0.Frames a1).Windows) (IntKind.i64.wrap (s1.1 - 1))).Len)], .q 8 (.v (.int .i64 ((rd ((rdA_St27 x0.Frames a1).Windows) s1.1).Start))) []] ⟨[⟨8, [], .v (.int .i64 ((rd ((rdA_St27 x0.Frames a1).Windows) s1.1).Start))⟩, ⟨7, [], .p 0 0⟩, ⟨6, [], .v (.int .i64 s1.1)⟩, ⟨5, [], .v (.slice (((svO (svO sv0 2) ((a1 : Int).toNat * 1)) 0).1) ((rdA_St27 x0.Frames a1).Windows).length (((svO (svO sv0 2) ((a1 : Int).toNat * 1)) 0).2))⟩, ⟨4, [], .v (.bool s1.2)⟩], [], [], [((((kd_Window).cells (rd ((rdA_St27 x0.Frames a1).Windows) (IntKind.i64.wrap (s1.1 - 1))) sv_21).map EV.v), 88)], none, none⟩ (by kernel_rfl) (by kernel_rfl) (by kernel_rfl) (by kernel_rfl) (by kernel_rfl) (show Obs _ _ _ [.need true (0 ≤ (IntKind.i64.wrap (s1.1 - 1)) ∧ (IntKind.i64.wrap (s1.1 - 1)) < (((rdA_St27 x0.Frames a1).Windows).length : Int)), .need true (((svO (svO sv0 2) ((a1 : Int).toNat * 1)) 0).1 = some (adr (((svO (svO sv0 2) ((a1 : Int).toNat * 1)) 0).1))), .cell true ((adr (((svO (svO sv0 2) ((a1 : Int).toNat * 1)) 0).1)).add (((IntKind.i64.wrap (s1.1 - 1)) : Int).toNat * 3)) ((kd_Window).cells (rd ((rdA_St27 x0.Frames a1).Windows) (IntKind.i64.wrap (s1.1 - 1))) sv_21), .need true (0 ≤ s1.1 ∧ s1.1 < (((rdA_St27 x0.Frames a1).Windows).length : Int)), .need true (((svO (svO sv0 2) ((a1 : Int).toNat * 1)) 0).1 = some (adr (((svO (svO sv0 2) ((a1 : Int).toNat * 1)) 0).1))), .cell true (((adr (((svO (svO sv0 2) ((a1 : Int).toNat * 1)) 0).1)).add ((s1.1 : Int).toNat * 3)).add 1) [.int .i64 ((rd ((rdA_St27 x0.Frames a1).Windows) s1.1).Start)]] from ⟨ob_inb (fun _ => hN_20), hA_22, ob_el (fun _ => hE_23) 0 ((kd_Window).cells (rd ((rdA_St27 x0.Frames a1).Windows) (IntKind.i64.wrap (s1.1 - 1))) sv_21) rfl, ob_inb (fun _ => hN_24), hA_26, ob_el (fun _ => hE_27) 1 [.int .i64 ((rd ((rdA_St27 x0.Frames a1).Windows) s1.1).Start)] rfl, trivial⟩) (fun ns_28 a w_29 hI => ?_)
      refine then_normal ?_
      refine wpIn_seq ?_
      refine wpIn_region_lit ?_
      refine chunkL_ (live := [34, 33, 31, 8, 7, 6, 5, 4]) (orc := []) hF 5 hI ⟨[⟨34, [], .v (.int .i64 ((rd ((rdA_St27 x0.Frames a1).Windows) s1.1).Start))⟩, ⟨33, [], .v (.int .i64 ((rd ((rdA_St27 x0.Frames a1).Windows) (IntKind.i64.wrap (s1.1 - 1))).Len))⟩, ⟨31, [], .v (.int .i64 ((rd ((rdA_St27 x0.Frames a1).Windows) (IntKind.i64.wrap (s1.1 - 1))).Start))⟩, ⟨8, [], .v (.int .i64 ((rd ((rdA_St27 x0.Frames a1).Windows) s1.1).Start))⟩, ⟨7, [], .p 0 0⟩, ⟨6, [], .v (.int .i64 s1.1)⟩, ⟨5, [], .v (.slice (((svO (svO sv0 2) ((a1 : Int).toNat * 1)) 0).1) ((rdA_St27 x0.Frames a1).Windows).length (((svO (svO sv0 2) ((a1 : Int).toNat * 1)) 0).2))⟩, ⟨4, [], .v (.bool s1.2)⟩], [], [], [((((kd_Window).cells (rd ((rdA_St27 x0.Frames a1).Windows) (IntKind.i64.wrap (s1.1 - 1))) sv_21).map EV.v), 88)], none, none⟩ [] rfl (by kernel_rfl) trivial (fun ns_30 a w_31 hI => ?_)
      obtain ⟨hE', hmv, hmr⟩ := Ep.rebase (S0 := S) hE hI
      replace hx0 := Kd.keep _ hx0 hmv
      replace hB_4 := El.keep hB_4 hmv
      replace hE_9 := El.keep hE_9 hmv
      replace hE_23 := El.keep hE_23 hmv
      replace hE_27 := El.keep hE_27 hmv
      replace hE := hE'
      replace hI := hI.rebase
      clear hE' hmv hmr
      refine buildSlice_ (S0 := S) (d := (Kd.int .i64)) (e := 3) hF hE hI (wanted_none rfl) rfl (by kernel_rfl) (cs := [.int .i64 ((rd ((rdA_St27 x0.Frames a1).Windows) (IntKind.i64.wrap (s1.1 - 1))).Start), .int .i64 ((rd ((rdA_St27 x0.Frames a1).Windows) (IntKind.i64.wrap (s1.1 - 1))).Len), .int .i64 ((rd ((rdA_St27 x0.Frames a1).Windows) s1.1).Start)]) (by kernel_rfl) [(rd ((rdA_St27 x0.Frames a1).Windows) (IntKind.i64.wrap (s1.1 - 1))).Start, (rd ((rdA_St27 x0.Frames a1).Windows) (IntKind.i64.wrap (s1.1 - 1))).Len, (rd ((rdA_St27 x0.Frames a1).Windows) s1.1).Start] [(svL []), (svL []), (svL [])] rfl rfl (by simp [maxLen]) (fun i x hi => by cases i with | zero => (simp only [List.getElem?_cons_zero, Option.some.injEq] at hi; subst hi; exact ⟨trivial, rfl⟩) | succ i => (simp only [List.getElem?_cons_succ] at hi; cases i with | zero => (simp only [List.getElem?_cons_zero, Option.some.injEq] at hi; subst hi; exact ⟨trivial, rfl⟩) | succ i => (simp only [List.getElem?_cons_succ] at hi; cases i with | zero => (simp only [List.getElem?_cons_zero, Option.some.injEq] at hi; subst hi; exact ⟨trivial, rfl⟩) | succ i => (simp only [List.getElem?_cons_succ] at hi; simp at hi)))) (fun A_32 => ⟨[⟨35, [], .v (.slice A_32 ([(rd ((rdA_St27 x0.Frames a1).Windows) (IntKind.i64.wrap (s1.1 - 1))).Start, (rd ((rdA_St27 x0.Frames a1).Windows) (IntKind.i64.wrap (s1.1 - 1))).Len, (rd ((rdA_St27 x0.Frames a1).Windows) s1.1).Start] : List Int).length (([(rd ((rdA_St27 x0.Frames a1).Windows) (IntKind.i64.wrap (s1.1 - 1))).Start, (rd ((rdA_St27 x0.Frames a1).Windows) (IntKind.i64.wrap (s1.1 - 1))).Len, (rd ((rdA_St27 x0.Frames a1).Windows) s1.1).Start] : List Int).length))⟩, ⟨34, [], .v (.int .i64 ((rd ((rdA_St27 x0.Frames a1).Windows) s1.1).Start))⟩, ⟨33, [], .v (.int .i64 ((rd ((rdA_St27 x0.Frames a1).Windows) (IntKind.i64.wrap (s1.1 - 1))).Len))⟩, ⟨31, [], .v (.int .i64 ((rd ((rdA_St27 x0.Frames a1).Windows) (IntKind.i64.wrap (s1.1 - 1))).Start))⟩, ⟨8, [], .v (.int .i64 ((rd ((rdA_St27 x0.Frames a1).Windows) s1.1).Start))⟩, ⟨7, [], .p 0 0⟩, ⟨6, [], .v (.int .i64 s1.1)⟩, ⟨5, [], .v (.slice (((svO (svO sv0 2) ((a1 : Int).toNat * 1)) 0).1) ((rdA_St27 x0.Frames a1).Windows).length (((svO (svO sv0 2) ((a1 : Int).toNat * 1)) 0).2))⟩, ⟨4, [], .v (.bool s1.2)⟩], [], [], [((((kd_Window).cells (rd ((rdA_St27 x0.Frames a1).Windows) (IntKind.i64.wrap (s1.1 - 1))) sv_21).map EV.v), 88)], none, none⟩) (fun A_32 => by kernel_rfl) (fun A_32 a w_34 hput hE' hI' hmv hmr hq_33 => ?_)
      replace hx0 := Kd.keep _ hx0 hmv
      replace hB_4 := El.keep hB_4 hmv
      replace hE_9 := El.keep hE_9 hmv
      replace hE_23 := El.keep hE_23 hmv
      replace hE_27 := El.keep hE_27 hmv
      replace hE := hE'
      replace hI := hI'
      clear hE' hI' hmv hmr
      obtain ⟨t_35, hG_36, H1⟩ := bind_some H1
      refine chunkL_ (live := [45, 6, 5, 4]) (orc := [[.bool t_35]]) hF 10 hI ⟨[⟨45, [], .v (.bool (t_35 && decide (((rd ((rdA_St27 x0.Frames a1).Windows) s1.1).Start) < (IntKind.i64.wrap (((rd ((rdA_St27 x0.Frames a1).Windows) (IntKind.i64.wrap (s1.1 - 1))).Start) + ((rd ((rdA_St27 x0.Frames a1).Windows) (IntKind.i64.wrap (s1.1 - 1))).Len))))))⟩, ⟨6, [], .v (.int .i64 s1.1)⟩, ⟨5, [], .v (.slice (((svO (svO sv0 2) ((a1 : Int).toNat * 1)) 0).1) ((rdA_St27 x0.Frames a1).Windows).length (((svO (svO sv0 2) ((a1 : Int).toNat * 1)) 0).2))⟩, ⟨4, [], .v (.bool s1.2)⟩], [], [], [((((kd_Window).cells (rd ((rdA_St27 x0.Frames a1).Windows) (IntKind.i64.wrap (s1.1 - 1))) sv_21).map EV.v), 88)], none, none⟩ [.call true 127 [.slice A_32 ([(rd ((rdA_St27 x0.Frames a1).Windows) (IntKind.i64.wrap (s1.1 - 1))).Start, (rd ((rdA_St27 x0.Frames a1).Windows) (IntKind.i64.wrap (s1.1 - 1))).Len, (rd ((rdA_St27 x0.Frames a1).Windows) s1.1).Start] : List Int).length (([(rd ((rdA_St27 x0.Frames a1).Windows) (IntKind.i64.wrap (s1.1 - 1))).Start, (rd ((rdA_St27 x0.Frames a1).Windows) (IntKind.i64.wrap (s1.1 - 1))).Len, (rd ((rdA_St27 x0.Frames a1).Windows) s1.1).Start] : List Int).length)] (.bool t_35)] rfl (by kernel_rfl) ⟨ob_call (enters Try.func127 (by kernel_rfl) rfl) (fun hg wz hk => G_defect_small.calls ([(rd ((rdA_St27 x0.Frames a1).Windows) (IntKind.i64.wrap (s1.1 - 1))).Start, (rd ((rdA_St27 x0.Frames a1).Windows) (IntKind.i64.wrap (s1.1 - 1))).Len, (rd ((rdA_St27 x0.Frames a1).Windows) s1.1).Start] : List Int) A_32 (([(rd ((rdA_St27 x0.Frames a1).Windows) (IntKind.i64.wrap (s1.1 - 1))).Start, (rd ((rdA_St27 x0.Frames a1).Windows) (IntKind.i64.wrap (s1.1 - 1))).Len, (rd ((rdA_St27 x0.Frames a1).Windows) s1.1).Start] : List Int).length) wz (S := fun _ => True) (Row.arr (S' := fun _ => True) (Row.on hq_33 hE (by simp) hk) (fun _ _ => trivial) (fun _ _ => trivial)).1 (Row.arr (S' := fun _ => True) hq_33 (fun _ _ => trivial) (fun _ _ => trivial)).2 _ hG_36), trivial⟩ (fun ns_37 a w_38 hI => ?_)
      refine wpListIn_nil ?_
      refine then_normal ?_
      refine cond_ hI ((t_35 && decide (((rd ((rdA_St27 x0.Frames a1).Windows) s1.1).Start) < (IntKind.i64.wrap (((rd ((rdA_St27 x0.Frames a1).Windows) (IntKind.i64.wrap (s1.1 - 1))).Start) + ((rd ((rdA_St27 x0.Frames a1).Windows) (IntKind.i64.wrap (s1.1 - 1))).Len)))))) rfl (fun hc_39 => ?_) (fun hc_39 => ?_)
      · replace H1 := bif_t hc_39 H1
        refine seq_region (live := [4]) (orc := []) hF hI ⟨[⟨4, [], .v (.bool true)⟩], [], [], [((((kd_Window).cells (rd ((rdA_St27 x0.Frames a1).Windows) (IntKind.i64.wrap (s1.1 - 1))) sv_21).map EV.v), 88)], none, none⟩ [] (by kernel_rfl) trivial (fun ns_40 a w_41 hI _ => ?_)
        refine wpIn_ret ?_
        refine inBlock_ret ?_
        refine then_ret ?_
        refine then_ret ?_
        obtain rfl := Option.some.inj H1
        refine .inr ⟨_, rfl, fun ho => ?_⟩
        subst ho
        refine inBlock_ret ?_
        refine then_ret ?_
        obtain rfl := Option.some.inj H0
        exact ret1 hI rfl rfl ⟨rfl, hE.below hI⟩
      · replace H1 := bif_f hc_39 H1
        refine wpIn_skip ?_
        refine inBlock_normal ?_
        refine then_normal ?_
        refine region_ (live := [6, 5, 4]) (orc := []) hF hI ⟨[⟨6, [], .v (.int .i64 (IntKind.i64.wrap (s1.1 + 1)))⟩, ⟨5, [], .v (.slice (((svO (svO sv0 2) ((a1 : Int).toNat * 1)) 0).1) ((rdA_St27 x0.Frames a1).Windows).length (((svO (svO sv0 2) ((a1 : Int).toNat * 1)) 0).2))⟩, ⟨4, [], .v (.bool s1.2)⟩], [], [], [((((kd_Window).cells (rd ((rdA_St27 x0.Frames a1).Windows) (IntKind.i64.wrap (s1.1 - 1))) sv_21).map EV.v), 88)], none, none⟩ [] (by kernel_rfl) trivial (fun ns_42 a w_43 hI _ => ?_)
        refine then_normal ?_
        obtain ⟨hE', hmv, hmr⟩ := Ep.rebase (S0 := S) hE hI
        replace hx0 := Kd.keep _ hx0 hmv
        replace hB_4 := El.keep hB_4 hmv
        replace hE_9 := El.keep hE_9 hmv
        replace hE_23 := El.keep hE_23 hmv
        replace hE_27 := El.keep hE_27 hmv
        replace hq_33 := Row.keep hq_33 hmv (fun b hb => hmr b (by rw [← hb]; first | (simp; done) | simp [rb]))
        replace hE := hE'
        replace hI := hI.rebase
        clear hE' hmv hmr
        obtain ⟨hE', hmv, hq_33, hcap_44⟩ := Row.still (l1 := []) (l2 := []) hq_33 hE
        have hmr : ∀ b : Nat, some b ∈ ([rb A_32] : List (Option Nat)) → w_43.heap[b]? = w_43.heap[b]? := fun _ _ => rfl
        replace hx0 := Kd.keep _ hx0 hmv
        replace hB_4 := El.keep hB_4 hmv
        replace hE_9 := El.keep hE_9 hmv
        replace hE_23 := El.keep hE_23 hmv
        replace hE_27 := El.keep hE_27 hmv
        replace hE := hE'
        clear hE' hmv hmr
        obtain rfl := Option.some.inj H1
        exact ⟨_, rfl, ⟨_, _, hx0, hB_4, hE_9, hE, hI.pick [6, 5, 4] 0 ⟨[⟨6, [], .v (.int .i64 (IntKind.i64.wrap (s1.1 + 1)))⟩, ⟨5, [], .v (.slice (((svO (svO sv0 2) ((a1 : Int).toNat * 1)) 0).1) ((rdA_St27 x0.Frames a1).Windows).length (((svO (svO sv0 2) ((a1 : Int).toNat * 1)) 0).2))⟩, ⟨4, [], .v (.bool s1.2)⟩], [], [], [], none, none⟩ (by kernel_rfl)⟩⟩
    · replace H1 := bif_f hc_19 H1
      refine wpIn_exit ?_
      refine then_exit ?_
      refine then_exit ?_
      obtain ⟨hE', hmv, hmr⟩ := Ep.rebase (S0 := S) hE hI
      replace hx0 := Kd.keep _ hx0 hmv
      replace hB_4 := El.keep hB_4 hmv
      replace hE_9 := El.keep hE_9 hmv
      replace hE := hE'
      replace hI := hI.rebase
      clear hE' hmv hmr
      obtain rfl := Option.some.inj H1
      exact .inl ⟨_, rfl, rfl, ⟨_, _, hx0, hB_4, hE_9, hE, hI.pick [6, 5, 4] 0 ⟨[⟨6, [], .v (.int .i64 s1.1)⟩, ⟨5, [], .v (.slice (((svO (svO sv0 2) ((a1 : Int).toNat * 1)) 0).1) ((rdA_St27 x0.Frames a1).Windows).length (((svO (svO sv0 2) ((a1 : Int).toNat * 1)) 0).2))⟩, ⟨4, [], .v (.bool s1.2)⟩], [], [], [], none, none⟩ (by kernel_rfl)⟩⟩
  · clear hI hE
    rintro s1 a w_47 ho ⟨ow_49, ns_48, hx0, hB_4, hE_9, hE, hI⟩
    subst ho
    replace H0 : (some false : Option (Bool)) = _ := H0
    refine then_normal ?_
    refine seq_region (live := [4]) (orc := []) hF hI ⟨[⟨4, [], .v (.bool false)⟩], [], [], [], none, none⟩ [] (by kernel_rfl) trivial (fun ns_50 a w_51 hI _ => ?_)
    refine wpIn_ret ?_
    obtain rfl := Option.some.inj H0
    exact ret1 hI rfl rfl ⟨rfl, hE.below hI⟩

/-! ### calls through a function of type 100 -/
noncomputable def Fn100.run (f : Fn100) (x0 : Config) (a1 : Int) : Option (Bool) := match f with
  | .f123 c0 => G_defect_window_1 x0 a1 c0
  | .f110 => G_defect_rules_12 x0 a1
  | .f111 => G_defect_rules_13 x0 a1
  | .f115 => G_defect_crossed x0 a1
theorem Fn100.ent (f : Fn100) (args : Array Value) (w : World) : (callFunc (fid100 f) args).run Try.prog w = .ok (.enter (fid100 f) args) w := by
  cases f with
  | f123 _ => exact enters Try.func123 (by kernel_rfl) rfl args w
  | f110 => exact enters Try.func110 (by kernel_rfl) rfl args w
  | f111 => exact enters Try.func111 (by kernel_rfl) rfl args w
  | f115 => exact enters Try.func115 (by kernel_rfl) rfl args w
theorem Fn100.calls (f : Fn100) (x0 : Config) (a1 : Int) (svf : SV) (sv0 : SV) (w : World) {S : Nat → Prop} (hf : (kdF100).cont S w f svf) (hx0 : (kd_Config).cont S w x0 sv0) (r : Bool) (h : Fn100.run f x0 a1 = some r) :
    Calls Try.prog (fid100 f) (([.agg ((kd_Config).cells x0 sv0).toArray, .int .i64 a1] : List Value) ++ (fca100 f svf).toList).toArray w fun e w' => e = .returned (.bool r) ∧ Below w.heap.size w w' := by
  cases f with
  | f123 c0 => exact G_defect_window_1.calls x0 a1 c0 sv0 (adr (svf 0).1) (svO svf 1) w hx0 hf r h
  | f110 => exact G_defect_rules_12.calls x0 a1  sv0  w hx0  r h
  | f111 => exact G_defect_rules_13.calls x0 a1  sv0  w hx0  r h
  | f115 => exact G_defect_crossed.calls x0 a1  sv0  w hx0  r h

/-! ### porthole/defect.frame$1: function 122 -/
noncomputable def G_defect_frame_1 (x0 : Config) (y1 : Fn100) : Option (Bool) := ((Fn100.run y1 x0 0).bind fun t_3 => ((cal (!t_3) (Fn100.run y1 x0 1) default).bind fun t_5 => some (t_3 || t_5)))
set_option maxRecDepth 100000 in
set_option maxHeartbeats 4000000 in
theorem G_defect_frame_1.calls (x0 : Config) (y1 : Fn100) (sv0 : SV) (B1 : Addr) (sv1 : SV) (w : World) {S : Nat → Prop} (hx0 : (kd_Config).cont S w x0 sv0) (hB1 : El kdF100 S w B1 y1 sv1) (r : Bool) (h : G_defect_frame_1 x0 y1 = some r) :
    Calls Try.prog 122 #[.agg ((kd_Config).cells x0 sv0).toArray, .pointer (some B1)] w fun e w' => e = .returned (.bool r) ∧ Below w.heap.size w w' := by
  replace hx0 := Kd.lo _ hx0
  replace hB1 := El.lo hB1
  unfold G_defect_frame_1 at h
  have H0 := h
  clear h
  refine enter Try.func122 rfl [.agg ((kd_Config).cells x0 sv0).toArray, .pointer (some B1)] (n := 12) rfl (Nat.le_of_ble_eq_true rfl) (fun a hI => ?_)
  have hF : FOpen Fence.wide := .inl rfl
  have hE := Ep.start w
  refine seq_region (live := [3, 2, 1]) (orc := []) hF hI ⟨[⟨3, [], .v (.bool false)⟩, ⟨2, [], .p 0 0⟩, ⟨1, [], .v (.pointer (some B1))⟩], [], [], [((((kd_Config).cells x0 sv0).map EV.v), 29)], none, none⟩ [] (by kernel_rfl) trivial (fun ns_1 a w_2 hI _ => ?_)
  obtain ⟨t_3, hG_4, H0⟩ := bind_some H0
  obtain ⟨t_5, hG_6, H0⟩ := bind_some H0
  refine seq_region (live := [3]) (orc := [[fnv100 y1 sv1], [.bool t_3], [fnv100 y1 sv1], [.bool t_5]]) hF hI ⟨[⟨3, [], .v (.bool (t_3 || t_5))⟩], [], [], [((((kd_Config).cells x0 sv0).map EV.v), 29)], none, none⟩ [.cell true B1 [fnv100 y1 sv1], .call true (fid100 y1) (([.agg ((kd_Config).cells x0 sv0).toArray, .int .i64 0] : List Value) ++ (fca100 y1 sv1).toList) (.bool t_3), .cell (!t_3) B1 [fnv100 y1 sv1], .call (!t_3) (fid100 y1) (([.agg ((kd_Config).cells x0 sv0).toArray, .int .i64 1] : List Value) ++ (fca100 y1 sv1).toList) (.bool t_5)] (by kernel_rfl) ⟨ob_el (fun _ => hB1) 0 [fnv100 y1 sv1] rfl, ob_call (Fn100.ent y1) (fun hg wz hk => Fn100.calls y1 x0 0 sv1 sv0 wz (S := fun _ => True) (Kd.any _ (Kd.keep kdF100 (hB1).cont (Lo.on hk))) (Kd.any _ (Kd.keep kd_Config (contI (S := Lo S w w [] []) (w := w) (d := kd_Config) (x := x0) (sv := sv0) ⟨⟨hx0.1.1, hx0.1.2⟩, ⟨hx0.2.1.1, hx0.2.1.2⟩, ⟨hx0.2.2.1.1, hx0.2.2.1.2⟩, ⟨hx0.2.2.2.1.1, hx0.2.2.2.1.2⟩, trivial⟩) (Lo.on hk))) _ hG_4), ob_el (fun _ => hB1) 0 [fnv100 y1 sv1] rfl, ob_call (Fn100.ent y1) (fun hg wz hk => Fn100.calls y1 x0 1 sv1 sv0 wz (S := fun _ => True) (Kd.any _ (Kd.keep kdF100 (hB1).cont (Lo.on hk))) (Kd.any _ (Kd.keep kd_Config (contI (S := Lo S w w [] []) (w := w) (d := kd_Config) (x := x0) (sv := sv0) ⟨⟨hx0.1.1, hx0.1.2⟩, ⟨hx0.2.1.1, hx0.2.1.2⟩, ⟨hx0.2.2.1.1, hx0.2.2.1.2⟩, ⟨hx0.2.2.2.1.1, hx0.2.2.2.1.2⟩, trivial⟩) (Lo.on hk))) _ (cal_some hG_6 hg)), trivial⟩ (fun ns_7 a w_8 hI _ => ?_)
  refine wpIn_ret ?_
  obtain rfl := Option.some.inj H0
  exact ret1 hI rfl rfl ⟨rfl, hE.below hI⟩

/-! ### porthole/defect.frame: function 109 -/
noncomputable def G_defect_frame (x0 : Fn100) : Option (Defect_rule) := some (⟨(Fn31.f122 x0)⟩ : Defect_rule)
set_option maxRecDepth 100000 in
set_option maxHeartbeats 4000000 in
theorem G_defect_frame.calls (x0 : Fn100) (sv0 : SV) (w : World) {S : Nat → Prop} (hx0 : (kdF100).cont S w x0 sv0) (r : Defect_rule) (h : G_defect_frame x0 = some r) :
    Calls Try.prog 109 #[fnv100 x0 sv0] w fun e w' => ∃ sv : SV, e = .returned (.agg ((kd_Defect_rule).cells r sv).toArray) ∧ Below w.heap.size w w' ∧ (kd_Defect_rule).cont (fun b => w.heap.size ≤ b ∨ S b) w' r sv := by
  replace hx0 := Kd.lo _ hx0
  unfold G_defect_frame at h
  have H0 := h
  clear h
  refine enter Try.func109 rfl [fnv100 x0 sv0] (n := 5) rfl (Nat.le_of_ble_eq_true rfl) (fun a hI => ?_)
  have hF : FOpen Fence.wide := .inl rfl
  have hE := Ep.start w
  refine seq_region (live := [2, 1]) (orc := []) hF hI ⟨[⟨2, [], .p 1 0⟩, ⟨1, [], .p 0 0⟩], [], [], [([.v (fnv100 x0 sv0)], 100), ([.v (.nilFunc)], 124)], none, none⟩ [] (by kernel_rfl) trivial (fun ns_1 a w_2 hI _ => ?_)
  refine wpIn_seq ?_
  refine wpIn_region_lit ?_
  obtain ⟨hE', hmv, hmr⟩ := Ep.rebase (S0 := S) hE hI
  replace hx0 := Kd.keep _ hx0 hmv
  replace hE := hE'
  replace hI := hI.rebase
  clear hE' hmv hmr
  have hct := contI (S := Lo S w w_2 ns_1 []) (w := w_2) (d := kdF100) (x := x0) (sv := sv0) hx0
  obtain ⟨B_3, ns_5, hE', hI', hmv, hB_4⟩ := freeze_ (S0 := S) (d := kdF100) hE hI 0 x0 sv0 100 rfl
  replace hB_4 := hB_4 hct
  clear hct
  have hmr : ∀ b : Nat, some b ∈ ([] : List (Option Nat)) → w_2.heap[b]? = w_2.heap[b]? := fun _ _ => rfl
  replace hx0 := Kd.keep _ hx0 hmv
  replace hE := hE'
  replace hI := hI'
  clear hE' hI' hmv hmr
  obtain ⟨ns_6, hE', hI', hmv⟩ := hE.cut (S0 := S) hI [2, 1] 1 ⟨[⟨2, [], .p 0 0⟩, ⟨1, [], .v (.pointer (some B_3))⟩], [], [], [([.v (.nilFunc)], 124)], none, none⟩ (by kernel_rfl)
  have hmr : ∀ b : Nat, some b ∈ ([] : List (Option Nat)) → w_2.heap[b]? = w_2.heap[b]? := fun _ _ => rfl
  replace hx0 := Kd.keep _ hx0 hmv
  replace hB_4 := El.keep hB_4 hmv
  replace hE := hE'
  replace hI := hI'
  clear hE' hI' hmv hmr
  refine chunkL_ (live := [3, 2, 1]) (orc := []) hF 1 hI ⟨[⟨3, [], .v (.func (.func 122) #[] #[.pointer (some B_3)])⟩, ⟨2, [], .p 0 0⟩, ⟨1, [], .v (.pointer (some B_3))⟩], [], [], [([.v (.nilFunc)], 124)], none, none⟩ [] rfl (by kernel_rfl) trivial (fun ns_7 a w_8 hI => ?_)
  refine chunkL_ (live := [2]) (orc := []) hF 2 hI ⟨[⟨2, [], .p 0 0⟩], [], [], [([.v (.func (.func 122) #[] #[.pointer (some B_3)])], 124)], none, none⟩ [] rfl (by kernel_rfl) trivial (fun ns_9 a w_10 hI => ?_)
  refine wpListIn_nil ?_
  refine then_normal ?_
  refine wpIn_ret ?_
  obtain rfl := Option.some.inj H0
  exact retCell hI rfl rfl rfl rfl rfl rfl ⟨(svP (some B_3, 0) sv0), rfl, hE.below hI, ⟨⟨((El.keep hB_4 (hE.out hI))).cont, ((El.keep hB_4 (hE.out hI))).at_, ((El.keep hB_4 (hE.out hI))).cells⟩, trivial⟩⟩

/-! ### porthole/defect.window: function 112 -/
noncomputable def G_defect_window (x0 : Fn133) : Option (Defect_rule) := ((G_defect_frame (Fn100.f123 x0)).bind fun t_9 => some t_9)
set_option maxRecDepth 100000 in
set_option maxHeartbeats 4000000 in
theorem G_defect_window.calls (x0 : Fn133) (sv0 : SV) (w : World) {S : Nat → Prop} (hx0 : (kdF133).cont S w x0 sv0) (r : Defect_rule) (h : G_defect_window x0 = some r) :
    Calls Try.prog 112 #[fnv133 x0 sv0] w fun e w' => ∃ sv : SV, e = .returned (.agg ((kd_Defect_rule).cells r sv).toArray) ∧ Below w.heap.size w w' ∧ (kd_Defect_rule).cont (fun b => w.heap.size ≤ b ∨ S b) w' r sv := by
  replace hx0 := Kd.lo _ hx0
  unfold G_defect_window at h
  have H0 := h
  clear h
  refine enter Try.func112 rfl [fnv133 x0 sv0] (n := 5) rfl (Nat.le_of_ble_eq_true rfl) (fun a hI => ?_)
  have hF : FOpen Fence.wide := .inl rfl
  have hE := Ep.start w
  refine seq_region (live := [2, 1]) (orc := []) hF hI ⟨[⟨2, [], .p 1 0⟩, ⟨1, [], .p 0 0⟩], [], [], [([.v (fnv133 x0 sv0)], 133), ([.v (.nilFunc)], 124)], none, none⟩ [] (by kernel_rfl) trivial (fun ns_1 a w_2 hI _ => ?_)
  refine wpIn_seq ?_
  refine wpIn_region_lit ?_
  obtain ⟨hE', hmv, hmr⟩ := Ep.rebase (S0 := S) hE hI
  replace hx0 := Kd.keep _ hx0 hmv
  replace hE := hE'
  replace hI := hI.rebase
  clear hE' hmv hmr
  have hct := contI (S := Lo S w w_2 ns_1 []) (w := w_2) (d := kdF133) (x := x0) (sv := (svL [])) hx0
  obtain ⟨B_3, ns_5, hE', hI', hmv, hB_4⟩ := freeze_ (S0 := S) (d := kdF133) hE hI 0 x0 (svL []) 133 rfl
  replace hB_4 := hB_4 hct
  clear hct
  have hmr : ∀ b : Nat, some b ∈ ([] : List (Option Nat)) → w_2.heap[b]? = w_2.heap[b]? := fun _ _ => rfl
  replace hx0 := Kd.keep _ hx0 hmv
  replace hE := hE'
  replace hI := hI'
  clear hE' hI' hmv hmr
  obtain ⟨ns_6, hE', hI', hmv⟩ := hE.cut (S0 := S) hI [2, 1] 1 ⟨[⟨2, [], .p 0 0⟩, ⟨1, [], .v (.pointer (some B_3))⟩], [], [], [([.v (.nilFunc)], 124)], none, none⟩ (by kernel_rfl)
  have hmr : ∀ b : Nat, some b ∈ ([] : List (Option Nat)) → w_2.heap[b]? = w_2.heap[b]? := fun _ _ => rfl
  replace hx0 := Kd.keep _ hx0 hmv
  replace hB_4 := El.keep hB_4 hmv
  replace hE := hE'
  replace hI := hI'
  clear hE' hI' hmv hmr
  refine chunkL_ (live := [3, 2, 1]) (orc := []) hF 1 hI ⟨[⟨3, [], .v (.func (.func 123) #[] #[.pointer (some B_3)])⟩, ⟨2, [], .p 0 0⟩, ⟨1, [], .v (.pointer (some B_3))⟩], [], [], [([.v (.nilFunc)], 124)], none, none⟩ [] rfl (by kernel_rfl) trivial (fun ns_7 a w_8 hI => ?_)
  obtain ⟨hE', hmv, hmr⟩ := Ep.rebase (S0 := S) hE hI
  replace hx0 := Kd.keep _ hx0 hmv
  replace hB_4 := El.keep hB_4 hmv
  replace hE := hE'
  replace hI := hI.rebase
  clear hE' hmv hmr
  obtain ⟨t_9, hG_10, H0⟩ := bind_some H0
  refine callH_ (S0 := S) hF hE hI (wanted_none rfl) rfl (args := [.func (.func 123) #[] #[.pointer (some B_3)]]) rfl (enters Try.func109 (by kernel_rfl) rfl) (fun sv_11 => .agg ((kd_Defect_rule).cells t_9 sv_11).toArray) _ (G_defect_frame.calls (Fn100.f123 x0) (svL [(some B_3, 0)]) w_8 (S := Lo S w w_8 ns_7 []) (contI (S := Lo S w w_8 ns_7 []) (w := w_8) (d := kdF100) (x := (Fn100.f123 x0)) (sv := (svL [(some B_3, 0)])) ⟨hB_4.cont, hB_4.at_, hB_4.cells⟩) _ hG_10) (fun sv_11 => ⟨[⟨4, [], .v (.agg ((kd_Defect_rule).cells t_9 sv_11).toArray)⟩, ⟨3, [], .v (.func (.func 123) #[] #[.pointer (some B_3)])⟩, ⟨2, [], .p 0 0⟩, ⟨1, [], .v (.pointer (some B_3))⟩], [], [], [([.v (.nilFunc)], 124)], none, none⟩) (fun sv_11 => by kernel_rfl) (fun sv_11 a w_13 hput hE' hI' hmv hmr hres hR => ?_)
  replace hx0 := Kd.keep _ hx0 hmv
  replace hB_4 := El.keep hB_4 hmv
  replace hE := hE'
  replace hI := hI'
  clear hE' hI' hmv hmr
  have hR_12 := hR
  replace hR_12 := Kd.keep _ hR_12 hres
  clear hres
  refine chunkL_ (live := [2]) (orc := []) hF 1 hI ⟨[⟨2, [], .p 0 0⟩], [], [], [((((kd_Defect_rule).cells t_9 sv_11).map EV.v), 124)], none, none⟩ [] rfl (by kernel_rfl) trivial (fun ns_14 a w_15 hI => ?_)
  refine wpListIn_nil ?_
  refine then_normal ?_
  refine wpIn_ret ?_
  obtain rfl := Option.some.inj H0
  exact retCell hI rfl rfl rfl rfl rfl rfl ⟨sv_11, rfl, hE.below hI, ⟨(Kd.keep _ (show (kdF31).cont _ _ _ _ from hR_12.1) (hE.out hI)), trivial⟩⟩

/-! ### porthole/defect.idle: function 116 -/
noncomputable def G_defect_idle.b1 (x0 : Config) (s1 : Int × Bool) : Option (Stp (Int × Bool) (Ex (Int × Bool) (Bool))) := (bif decide (s1.1 < (x0.Parts.length : Int)) then (req (inb s1.1 x0.Parts.length) ((G_defect_within ((rd x0.Parts s1.1).Core) 0 1).bind fun t_29 => (req (imp (!(!t_29)) (inb ((rd x0.Parts s1.1).Core) 2)) ((cal (!(!t_29)) (G_api_Window_124 ((rdA_St27 x0.Frames ((rd x0.Parts s1.1).Core)).Windows) (Fn137.f128 s1.1)) default).bind fun t_34 => (bif ((!t_29) || (!t_34)) then some (.out (.ret true)) else some (.next ((IntKind.i64.wrap (s1.1 + 1)), s1.2))))))) else some (.out (.brk (s1.1, s1.2))))
noncomputable def G_defect_idle (x0 : Config) : Option (Bool) := ((loopω (G_defect_idle.b1 x0) (0, false)).bind fun o => o.on (fun s1 => some false) (fun r => some r))
set_option maxRecDepth 100000 in
set_option maxHeartbeats 4000000 in
theorem G_defect_idle.calls (x0 : Config) (sv0 : SV) (w : World) {S : Nat → Prop} (hx0 : (kd_Config).cont S w x0 sv0) (r : Bool) (h : G_defect_idle x0 = some r) :
    Calls Try.prog 116 #[.agg ((kd_Config).cells x0 sv0).toArray] w fun e w' => e = .returned (.bool r) ∧ Below w.heap.size w w' := by
  replace hx0 := Kd.lo _ hx0
  unfold G_defect_idle at h
  have H0 := h
  clear h
  refine enter Try.func116 rfl [.agg ((kd_Config).cells x0 sv0).toArray] (n := 31) rfl (Nat.le_of_ble_eq_true rfl) (fun a hI => ?_)
  have hF : FOpen Fence.wide := .inl rfl
  have hE := Ep.start w
  refine seq_region (live := [2, 1]) (orc := []) hF hI ⟨[⟨2, [], .v (.bool false)⟩, ⟨1, [], .p 0 0⟩], [], [], [((((kd_Config).cells x0 sv0).map EV.v), 29)], none, none⟩ [] (by kernel_rfl) trivial (fun ns_1 a w_2 hI _ => ?_)
  refine wpIn_seq ?_
  obtain ⟨hE', hmv, hmr⟩ := Ep.rebase (S0 := S) hE hI
  replace hx0 := Kd.keep _ hx0 hmv
  replace hE := hE'
  replace hI := hI.rebase
  clear hE' hmv hmr
  have hct := contI (S := Lo S w w_2 ns_1 []) (w := w_2) (d := kd_Config) (x := x0) (sv := sv0) ⟨⟨hx0.1.1, hx0.1.2⟩, ⟨hx0.2.1.1, hx0.2.1.2⟩, ⟨hx0.2.2.1.1, hx0.2.2.1.2⟩, ⟨hx0.2.2.2.1.1, hx0.2.2.2.1.2⟩, trivial⟩
  obtain ⟨B_3, ns_5, hE', hI', hmv, hB_4⟩ := freeze_ (S0 := S) (d := kd_Config) hE hI 0 x0 sv0 29 rfl
  replace hB_4 := hB_4 hct
  clear hct
  have hmr : ∀ b : Nat, some b ∈ ([] : List (Option Nat)) → w_2.heap[b]? = w_2.heap[b]? := fun _ _ => rfl
  replace hx0 := Kd.keep _ hx0 hmv
  replace hE := hE'
  replace hI := hI'
  clear hE' hI' hmv hmr
  obtain ⟨ns_6, hE', hI', hmv⟩ := hE.cut (S0 := S) hI [2, 1] 0 ⟨[⟨2, [], .v (.bool false)⟩, ⟨1, [], .v (.pointer (some B_3))⟩], [], [], [], none, none⟩ (by kernel_rfl)
  have hmr : ∀ b : Nat, some b ∈ ([] : List (Option Nat)) → w_2.heap[b]? = w_2.heap[b]? := fun _ _ => rfl
  replace hx0 := Kd.keep _ hx0 hmv
  replace hB_4 := El.keep hB_4 hmv
  replace hE := hE'
  replace hI := hI'
  clear hE' hI' hmv hmr
  refine seq_region (live := [9, 8, 7, 2, 1]) (orc := [[.slice ((sv0 0).1) x0.Parts.length ((sv0 0).2)]]) hF hI ⟨[⟨9, [], .v (.int .i64 0)⟩, ⟨8, [], .v (.int .i64 (x0.Parts.length : Int))⟩, ⟨7, [], .v (.slice ((sv0 0).1) x0.Parts.length ((sv0 0).2))⟩, ⟨2, [], .v (.bool false)⟩, ⟨1, [], .v (.pointer (some B_3))⟩], [], [], [], none, none⟩ [.cell true B_3 [.slice ((sv0 0).1) x0.Parts.length ((sv0 0).2)]] (by kernel_rfl) ⟨ob_el (fun _ => hB_4) 0 [.slice ((sv0 0).1) x0.Parts.length ((sv0 0).2)] rfl, trivial⟩ (fun ns_7 a w_8 hI _ => ?_)
  obtain ⟨hE', hmv, hmr⟩ := Ep.rebase (S0 := S) hE hI
  replace hx0 := Kd.keep _ hx0 hmv
  replace hB_4 := El.keep hB_4 hmv
  replace hE := hE'
  replace hI := hI.rebase
  clear hE' hmv hmr
  obtain ⟨o_43, hL_44, H0⟩ := bind_some H0
  refine block_loop (fun (s1 : Int × Bool) a w_50 => ∃ (ow ns : List Nat) , ((kd_Config).cont (Lo S w w_50 ow []) w_50 x0 sv0) ∧ (El kd_Config (Lo S w w_50 ow []) w_50 B_3 x0 sv0) ∧ Ep w w_50 ow [] ∧ St w_50 ow 31 ⟨[⟨9, [], .v (.int .i64 s1.1)⟩, ⟨8, [], .v (.int .i64 (x0.Parts.length : Int))⟩, ⟨7, [], .v (.slice ((sv0 0).1) x0.Parts.length ((sv0 0).2))⟩, ⟨2, [], .v (.bool s1.2)⟩, ⟨1, [], .v (.pointer (some B_3))⟩], [], [], [], none, none⟩ ns a w_50) (0, false) hL_44 ⟨_, _, hx0, hB_4, hE, hI.pick [9, 8, 7, 2, 1] 0 ⟨[⟨9, [], .v (.int .i64 0)⟩, ⟨8, [], .v (.int .i64 (x0.Parts.length : Int))⟩, ⟨7, [], .v (.slice ((sv0 0).1) x0.Parts.length ((sv0 0).2))⟩, ⟨2, [], .v (.bool false)⟩, ⟨1, [], .v (.pointer (some B_3))⟩], [], [], [], none, none⟩ (by kernel_rfl)⟩ ?_ ?_
  · clear hI hE
    rintro s1 a w_9 ⟨ow_11, ns_10, hx0, hB_4, hE, hI⟩ r1 H1
    unfold G_defect_idle.b1 at H1
    refine seq_region (live := [10, 9, 8, 7, 2, 1]) (orc := []) hF hI ⟨[⟨10, [], .v (.bool (decide (s1.1 < (x0.Parts.length : Int))))⟩, ⟨9, [], .v (.int .i64 s1.1)⟩, ⟨8, [], .v (.int .i64 (x0.Parts.length : Int))⟩, ⟨7, [], .v (.slice ((sv0 0).1) x0.Parts.length ((sv0 0).2))⟩, ⟨2, [], .v (.bool s1.2)⟩, ⟨1, [], .v (.pointer (some B_3))⟩], [], [], [], none, none⟩ [] (by kernel_rfl) trivial (fun ns_12 a w_13 hI _ => ?_)
    refine wpIn_seq ?_
    refine cond_ hI (decide (s1.1 < (x0.Parts.length : Int))) rfl (fun hc_14 => ?_) (fun hc_14 => ?_)
    · replace H1 := bif_t hc_14 H1
      refine wpIn_skip ?_
      refine then_normal ?_
      refine wpIn_seq ?_
      refine wpIn_block ?_
      obtain ⟨hN_15, H1⟩ := req_some H1
      obtain ⟨sv_16, hE_18, hA_17⟩ := Arr.elB (d := kd_Part) (hB_4).cont.1.1 s1.1 true (fun _ => hN_15)
      replace hE_18 := hE_18 rfl
      replace hA_17 := fun (_ : true = true) => hA_17 rfl
      refine seq_region (live := [4, 3, 9, 8, 7, 2, 1]) (orc := [(kd_Part).cells (rd x0.Parts s1.1) sv_16]) hF hI ⟨[⟨4, [], .p 1 0⟩, ⟨3, [], .p 0 0⟩, ⟨9, [], .v (.int .i64 s1.1)⟩, ⟨8, [], .v (.int .i64 (x0.Parts.length : Int))⟩, ⟨7, [], .v (.slice ((sv0 0).1) x0.Parts.length ((sv0 0).2))⟩, ⟨2, [], .v (.bool s1.2)⟩, ⟨1, [], .v (.pointer (some B_3))⟩], [], [], [([.v (.int .i64 s1.1)], 3), ((((kd_Part).cells (rd x0.Parts s1.1) sv_16).map EV.v), 86)], none, none⟩ [.need true (0 ≤ s1.1 ∧ s1.1 < (x0.Parts.length : Int)), .need true ((sv0 0).1 = some (adr ((sv0 0).1))), .cell true ((adr ((sv0 0).1)).add ((s1.1 : Int).toNat * 2)) ((kd_Part).cells (rd x0.Parts s1.1) sv_16)] (by kernel_rfl) ⟨ob_inb (fun _ => hN_15), hA_17, ob_el (fun _ => hE_18) 0 ((kd_Part).cells (rd x0.Parts s1.1) sv_16) rfl, trivial⟩ (fun ns_19 a w_20 hI _ => ?_)
      refine wpIn_seq ?_
      refine wpIn_region_lit ?_
      obtain ⟨hE', hmv, hmr⟩ := Ep.rebase (S0 := S) hE hI
      replace hx0 := Kd.keep _ hx0 hmv
      replace hB_4 := El.keep hB_4 hmv
      replace hE_18 := El.keep hE_18 hmv
      replace hE := hE'
      replace hI := hI.rebase
      clear hE' hmv hmr
      have hct := contI (S := Lo S w w_20 ns_19 []) (w := w_20) (d := (Kd.int .i64)) (x := s1.1) (sv := (svL [])) trivial
      obtain ⟨B_21, ns_23, hE', hI', hmv, hB_22⟩ := freeze_ (S0 := S) (d := (Kd.int .i64)) hE hI 0 s1.1 (svL []) 3 rfl
      replace hB_22 := hB_22 hct
      clear hct
      have hmr : ∀ b : Nat, some b ∈ ([] : List (Option Nat)) → w_20.heap[b]? = w_20.heap[b]? := fun _ _ => rfl
      replace hx0 := Kd.keep _ hx0 hmv
      replace hB_4 := El.keep hB_4 hmv
      replace hE_18 := El.keep hE_18 hmv
      replace hE := hE'
      replace hI := hI'
      clear hE' hI' hmv hmr
      obtain ⟨ns_24, hE', hI', hmv⟩ := hE.cut (S0 := S) hI [4, 3, 9, 8, 7, 2, 1] 1 ⟨[⟨4, [], .p 0 0⟩, ⟨3, [], .v (.pointer (some B_21))⟩, ⟨9, [], .v (.int .i64 s1.1)⟩, ⟨8, [], .v (.int .i64 (x0.Parts.length : Int))⟩, ⟨7, [], .v (.slice ((sv0 0).1) x0.Parts.length ((sv0 0).2))⟩, ⟨2, [], .v (.bool s1.2)⟩, ⟨1, [], .v (.pointer (some B_3))⟩], [], [], [((((kd_Part).cells (rd x0.Parts s1.1) sv_16).map EV.v), 86)], none, none⟩ (by kernel_rfl)
      have hmr : ∀ b : Nat, some b ∈ ([] : List (Option Nat)) → w_20.heap[b]? = w_20.heap[b]? := fun _ _ => rfl
      replace hx0 := Kd.keep _ hx0 hmv
      replace hB_4 := El.keep hB_4 hmv
      replace hE_18 := El.keep hE_18 hmv
      replace hB_22 := El.keep hB_22 hmv
      replace hE := hE'
      replace hI := hI'
      clear hE' hI' hmv hmr
      refine chunkL_ (live := [14, 4, 3, 9, 8, 7, 2, 1]) (orc := []) hF 1 hI ⟨[⟨14, [], .v (.func (.func 128) #[] #[.pointer (some B_21)])⟩, ⟨4, [], .p 0 0⟩, ⟨3, [], .v (.pointer (some B_21))⟩, ⟨9, [], .v (.int .i64 s1.1)⟩, ⟨8, [], .v (.int .i64 (x0.Parts.length : Int))⟩, ⟨7, [], .v (.slice ((sv0 0).1) x0.Parts.length ((sv0 0).2))⟩, ⟨2, [], .v (.bool s1.2)⟩, ⟨1, [], .v (.pointer (some B_3))⟩], [], [], [((((kd_Part).cells (rd x0.Parts s1.1) sv_16).map EV.v), 86)], none, none⟩ [] rfl (by kernel_rfl) trivial (fun ns_25 a w_26 hI => ?_)
      refine chunkL_ (live := [5, 4, 9, 8, 7, 2, 1]) (orc := []) hF 1 hI ⟨[⟨5, [], .v (.func (.func 128) #[] #[.pointer (some B_21)])⟩, ⟨4, [], .p 0 0⟩, ⟨9, [], .v (.int .i64 s1.1)⟩, ⟨8, [], .v (.int .i64 (x0.Parts.length : Int))⟩, ⟨7, [], .v (.slice ((sv0 0).1) x0.Parts.length ((sv0 0).2))⟩, ⟨2, [], .v (.bool s1.2)⟩, ⟨1, [], .v (.pointer (some B_3))⟩], [], [], [((((kd_Part).cells (rd x0.Parts s1.1) sv_16).map EV.v), 86)], none, none⟩ [] rfl (by kernel_rfl) trivial (fun ns_27 a w_28 hI => ?_)
      refine wpListIn_nil ?_
      refine then_normal ?_
      obtain ⟨t_29, hG_30, H1⟩ := bind_some H1
      obtain ⟨hN_31, H1⟩ := req_some H1
      have hE_33 := fun (hg : (!(!t_29)) = true) => elA_St27 (El.part (e := kd_St27) hB_4 2 x0.Frames (svO sv0 2) ⟨(hB_4).cont.2.2.1, (hB_4).cont.2.2.2.1, trivial⟩ rfl) (imp_spec hN_31 hg)
      obtain ⟨t_34, hG_35, H1⟩ := bind_some H1
      refine seq_region (live := [29, 9, 8, 7, 2, 1]) (orc := [[.bool t_29], [.slice (((svO (svO sv0 2) (((rd x0.Parts s1.1).Core : Int).toNat * 1)) 0).1) ((rdA_St27 x0.Frames ((rd x0.Parts s1.1).Core)).Windows).length (((svO (svO sv0 2) (((rd x0.Parts s1.1).Core : Int).toNat * 1)) 0).2)], [.bool t_34]]) hF hI ⟨[⟨29, [], .v (.bool ((!t_29) || (!t_34)))⟩, ⟨9, [], .v (.int .i64 s1.1)⟩, ⟨8, [], .v (.int .i64 (x0.Parts.length : Int))⟩, ⟨7, [], .v (.slice ((sv0 0).1) x0.Parts.length ((sv0 0).2))⟩, ⟨2, [], .v (.bool s1.2)⟩, ⟨1, [], .v (.pointer (some B_3))⟩], [], [], [((((kd_Part).cells (rd x0.Parts s1.1) sv_16).map EV.v), 86)], none, none⟩ [.call true 93 [.int .i64 ((rd x0.Parts s1.1).Core), .int .i64 0, .int .i64 1] (.bool t_29), .need (!(!t_29)) (0 ≤ ((rd x0.Parts s1.1).Core) ∧ ((rd x0.Parts s1.1).Core) < ((2 : Nat) : Int)), .cell (!(!t_29)) (((B_3.add 2).add (((rd x0.Parts s1.1).Core : Int).toNat * 2)).add 1) [.slice (((svO (svO sv0 2) (((rd x0.Parts s1.1).Core : Int).toNat * 1)) 0).1) ((rdA_St27 x0.Frames ((rd x0.Parts s1.1).Core)).Windows).length (((svO (svO sv0 2) (((rd x0.Parts s1.1).Core : Int).toNat * 1)) 0).2)], .call (!(!t_29)) 124 [.slice (((svO (svO sv0 2) (((rd x0.Parts s1.1).Core : Int).toNat * 1)) 0).1) ((rdA_St27 x0.Frames ((rd x0.Parts s1.1).Core)).Windows).length (((svO (svO sv0 2) (((rd x0.Parts s1.1).Core : Int).toNat * 1)) 0).2), .func (.func 128) #[] #[.pointer (some B_21)]] (.bool t_34)] (by kernel_rfl) ⟨ob_call (enters Try.func93 (by kernel_rfl) rfl) (fun hg wz hk => G_defect_within.calls ((rd x0.Parts s1.1).Core) 0 1  wz (S := fun _ => True)  _ hG_30), ob_inb (fun hg => imp_spec hN_31 hg), ob_el (fun hg => hE_33 hg) 1 [.slice (((svO (svO sv0 2) (((rd x0.Parts s1.1).Core : Int).toNat * 1)) 0).1) ((rdA_St27 x0.Frames ((rd x0.Parts s1.1).Core)).Windows).length (((svO (svO sv0 2) (((rd x0.Parts s1.1).Core : Int).toNat * 1)) 0).2)] rfl, ob_call (enters Try.func124 (by kernel_rfl) rfl) (fun hg wz hk => G_api_Window_124.calls ((rdA_St27 x0.Frames ((rd x0.Parts s1.1).Core)).Windows) (Fn137.f128 s1.1) (((svO (svO sv0 2) (((rd x0.Parts s1.1).Core : Int).toNat * 1)) 0).1) (((svO (svO sv0 2) (((rd x0.Parts s1.1).Core : Int).toNat * 1)) 0).2) (svL [(some B_21, 0), (none, 0), (none, 0), (none, 0), (none, 0), (none, 0), (none, 0)]) wz (S := fun _ => True) (Arr.any (Arr.keep ((hE_33 hg)).cont.1.1 (Lo.on hk))) ((hE_33 hg)).cont.1.2 (Kd.any _ (Kd.keep kdF137 (contI (S := Lo S w w_20 ns_24 []) (w := w_20) (d := kdF137) (x := (Fn137.f128 s1.1)) (sv := (svL [(some B_21, 0), (none, 0), (none, 0), (none, 0), (none, 0), (none, 0), (none, 0)])) ⟨hB_22.cont, hB_22.at_, hB_22.cells⟩) (Lo.on hk))) _ (cal_some hG_35 hg)), trivial⟩ (fun ns_36 a w_37 hI _ => ?_)
      refine cond_ hI (((!t_29) || (!t_34))) rfl (fun hc_38 => ?_) (fun hc_38 => ?_)
      · replace H1 := bif_t hc_38 H1
        refine seq_region (live := [2]) (orc := []) hF hI ⟨[⟨2, [], .v (.bool true)⟩], [], [], [((((kd_Part).cells (rd x0.Parts s1.1) sv_16).map EV.v), 86)], none, none⟩ [] (by kernel_rfl) trivial (fun ns_39 a w_40 hI _ => ?_)
        refine wpIn_ret ?_
        refine inBlock_ret ?_
        refine then_ret ?_
        refine then_ret ?_
        obtain rfl := Option.some.inj H1
        refine .inr ⟨_, rfl, fun ho => ?_⟩
        subst ho
        refine inBlock_ret ?_
        refine then_ret ?_
        obtain rfl := Option.some.inj H0
        exact ret1 hI rfl rfl ⟨rfl, hE.below hI⟩
      · replace H1 := bif_f hc_38 H1
        refine wpIn_skip ?_
        refine inBlock_normal ?_
        refine then_normal ?_
        refine region_ (live := [9, 8, 7, 2, 1]) (orc := []) hF hI ⟨[⟨9, [], .v (.int .i64 (IntKind.i64.wrap (s1.1 + 1)))⟩, ⟨8, [], .v (.int .i64 (x0.Parts.length : Int))⟩, ⟨7, [], .v (.slice ((sv0 0).1) x0.Parts.length ((sv0 0).2))⟩, ⟨2, [], .v (.bool s1.2)⟩, ⟨1, [], .v (.pointer (some B_3))⟩], [], [], [((((kd_Part).cells (rd x0.Parts s1.1) sv_16).map EV.v), 86)], none, none⟩ [] (by kernel_rfl) trivial (fun ns_41 a w_42 hI _ => ?_)
        refine then_normal ?_
        obtain ⟨hE', hmv, hmr⟩ := Ep.rebase (S0 := S) hE hI
        replace hx0 := Kd.keep _ hx0 hmv
        replace hB_4 := El.keep hB_4 hmv
        replace hE_18 := El.keep hE_18 hmv
        replace hB_22 := El.keep hB_22 hmv
        replace hE := hE'
        replace hI := hI.rebase
        clear hE' hmv hmr
        obtain rfl := Option.some.inj H1
        exact ⟨_, rfl, ⟨_, _, hx0, hB_4, hE, hI.pick [9, 8, 7, 2, 1] 0 ⟨[⟨9, [], .v (.int .i64 (IntKind.i64.wrap (s1.1 + 1)))⟩, ⟨8, [], .v (.int .i64 (x0.Parts.length : Int))⟩, ⟨7, [], .v (.slice ((sv0 0).1) x0.Parts.length ((sv0 0).2))⟩, ⟨2, [], .v (.bool s1.2)⟩, ⟨1, [], .v (.pointer (some B_3))⟩], [], [], [], none, none⟩ (by kernel_rfl)⟩⟩
    · replace H1 := bif_f hc_14 H1
      refine wpIn_exit ?_
      refine then_exit ?_
      refine then_exit ?_
      obtain ⟨hE', hmv, hmr⟩ := Ep.rebase (S0 := S) hE hI
      replace hx0 := Kd.keep _ hx0 hmv
      replace hB_4 := El.keep hB_4 hmv
      replace hE := hE'
      replace hI := hI.rebase
      clear hE' hmv hmr
      obtain rfl := Option.some.inj H1
      exact .inl ⟨_, rfl, rfl, ⟨_, _, hx0, hB_4, hE, hI.pick [9, 8, 7, 2, 1] 0 ⟨[⟨9, [], .v (.int .i64 s1.1)⟩, ⟨8, [], .v (.int .i64 (x0.Parts.length : Int))⟩, ⟨7, [], .v (.slice ((sv0 0).1) x0.Parts.length ((sv0 0).2))⟩, ⟨2, [], .v (.bool s1.2)⟩, ⟨1, [], .v (.pointer (some B_3))⟩], [], [], [], none, none⟩ (by kernel_rfl)⟩⟩
  · clear hI hE
    rintro s1 a w_45 ho ⟨ow_47, ns_46, hx0, hB_4, hE, hI⟩
    subst ho
    replace H0 : (some false : Option (Bool)) = _ := H0
    refine then_normal ?_
    refine seq_region (live := [2]) (orc := []) hF hI ⟨[⟨2, [], .v (.bool false)⟩], [], [], [], none, none⟩ [] (by kernel_rfl) trivial (fun ns_48 a w_49 hI _ => ?_)
    refine wpIn_ret ?_
    obtain rfl := Option.some.inj H0
    exact ret1 hI rfl rfl ⟨rfl, hE.below hI⟩

/-! ### porthole/defect.rules: function 91 -/
noncomputable def G_defect_rules  : Option ((List Defect_rule)) := ((G_defect_part (Fn127.f95)).bind fun t_5 => ((G_defect_part (Fn127.f96)).bind fun t_10 => ((G_defect_channel (Fn129.f99)).bind fun t_17 => ((G_defect_channel (Fn129.f100)).bind fun t_22 => ((G_defect_channel (Fn129.f102)).bind fun t_27 => ((G_defect_channel (Fn129.f103)).bind fun t_32 => ((G_defect_channel (Fn129.f104)).bind fun t_37 => ((G_defect_channel (Fn129.f106)).bind fun t_42 => ((G_defect_channel (Fn129.f108)).bind fun t_47 => ((G_defect_frame (Fn100.f110)).bind fun t_52 => ((G_defect_frame (Fn100.f111)).bind fun t_57 => ((G_defect_window (Fn133.f113)).bind fun t_62 => ((G_defect_window (Fn133.f114)).bind fun t_67 => ((G_defect_frame (Fn100.f115)).bind fun t_72 => some ([(⟨(Fn31.f92)⟩ : Defect_rule), t_5, t_10, (⟨(Fn31.f97)⟩ : Defect_rule), t_17, t_22, t_27, t_32, t_37, t_42, t_47, t_52, t_57, t_62, t_67, t_72, (⟨(Fn31.f116)⟩ : Defect_rule)] : List Defect_rule)))))))))))))))
set_option maxRecDepth 100000 in
set_option maxHeartbeats 4000000 in
theorem G_defect_rules.calls   (w : World) {S : Nat → Prop}  (r : (List Defect_rule)) (h : G_defect_rules = some r) :
    Calls Try.prog 91 #[] w fun e w' => ∃ sv : SV, e = .returned (.slice ((sv 0).1) r.length ((sv 0).2)) ∧ Below w.heap.size w w' ∧ (Arr kd_Defect_rule (fun b => w.heap.size ≤ b ∨ S b) w' (sv 0).1 r ∧ r.length ≤ (sv 0).2) := by
  unfold G_defect_rules at h
  have H0 := h
  clear h
  refine enter Try.func91 rfl [] (n := 19) rfl (Nat.le_of_ble_eq_true rfl) (fun a hI => ?_)
  have hF : FOpen Fence.wide := .inl rfl
  have hE := Ep.start w
  refine seq_region (live := [0]) (orc := []) hF hI ⟨[⟨0, [], .v (.slice none 0 0)⟩], [], [], [], none, none⟩ [] (by kernel_rfl) trivial (fun ns_1 a w_2 hI _ => ?_)
  refine wpIn_seq ?_
  refine wpIn_region_lit ?_
  refine chunkL_ (live := [1, 0]) (orc := []) hF 1 hI ⟨[⟨1, [], .v (.agg #[.func (.func 92) #[] #[]])⟩, ⟨0, [], .v (.slice none 0 0)⟩], [], [], [], none, none⟩ [] rfl (by kernel_rfl) trivial (fun ns_3 a w_4 hI => ?_)
  obtain ⟨hE', hmv, hmr⟩ := Ep.rebase (S0 := S) hE hI
  replace hE := hE'
  replace hI := hI.rebase
  clear hE' hmv hmr
  obtain ⟨t_5, hG_6, H0⟩ := bind_some H0
  refine callH_ (S0 := S) hF hE hI (wanted_none rfl) rfl (args := [.func (.func 95) #[] #[]]) rfl (enters Try.func94 (by kernel_rfl) rfl) (fun sv_7 => .agg ((kd_Defect_rule).cells t_5 sv_7).toArray) _ (G_defect_part.calls (Fn127.f95) (svL []) w_4 (S := Lo S w w_4 ns_3 []) (contI (S := Lo S w w_4 ns_3 []) (w := w_4) (d := kdF127) (x := (Fn127.f95)) (sv := (svL [])) trivial) _ hG_6) (fun sv_7 => ⟨[⟨2, [], .v (.agg ((kd_Defect_rule).cells t_5 sv_7).toArray)⟩, ⟨1, [], .v (.agg #[.func (.func 92) #[] #[]])⟩, ⟨0, [], .v (.slice none 0 0)⟩], [], [], [], none, none⟩) (fun sv_7 => by kernel_rfl) (fun sv_7 a w_9 hput hE' hI' hmv hmr hres hR => ?_)
  replace hE := hE'
  replace hI := hI'
  clear hE' hI' hmv hmr
  have hR_8 := hR
  replace hR_8 := Kd.keep _ hR_8 hres
  clear hres
  obtain ⟨t_10, hG_11, H0⟩ := bind_some H0
  refine callH_ (S0 := S) hF hE hI (wanted_none rfl) rfl (args := [.func (.func 96) #[] #[]]) rfl (enters Try.func94 (by kernel_rfl) rfl) (fun sv_12 => .agg ((kd_Defect_rule).cells t_10 sv_12).toArray) _ (G_defect_part.calls (Fn127.f96) (svL []) w_9 (S := Lo S w w_9 ns_3 []) (contI (S := Lo S w w_9 ns_3 []) (w := w_9) (d := kdF127) (x := (Fn127.f96)) (sv := (svL [])) trivial) _ hG_11) (fun sv_12 => ⟨[⟨3, [], .v (.agg ((kd_Defect_rule).cells t_10 sv_12).toArray)⟩, ⟨2, [], .v (.agg ((kd_Defect_rule).cells t_5 sv_7).toArray)⟩, ⟨1, [], .v (.agg #[.func (.func 92) #[] #[]])⟩, ⟨0, [], .v (.slice none 0 0)⟩], [], [], [], none, none⟩) (fun sv_12 => by kernel_rfl) (fun sv_12 a w_14 hput hE' hI' hmv hmr hres hR => ?_)
  replace hR_8 := Kd.keep _ hR_8 hmv
  replace hE := hE'
  replace hI := hI'
  clear hE' hI' hmv hmr
  have hR_13 := hR
  replace hR_13 := Kd.keep _ hR_13 hres
  clear hres
  refine chunkL_ (live := [4, 3, 2, 1, 0]) (orc := []) hF 1 hI ⟨[⟨4, [], .v (.agg #[.func (.func 97) #[] #[]])⟩, ⟨3, [], .v (.agg ((kd_Defect_rule).cells t_10 sv_12).toArray)⟩, ⟨2, [], .v (.agg ((kd_Defect_rule).cells t_5 sv_7).toArray)⟩, ⟨1, [], .v (.agg #[.func (.func 92) #[] #[]])⟩, ⟨0, [], .v (.slice none 0 0)⟩], [], [], [], none, none⟩ [] rfl (by kernel_rfl) trivial (fun ns_15 a w_16 hI => ?_)
  obtain ⟨hE', hmv, hmr⟩ := Ep.rebase (S0 := S) hE hI
  replace hR_8 := Kd.keep _ hR_8 hmv
  replace hR_13 := Kd.keep _ hR_13 hmv
  replace hE := hE'
  replace hI := hI.rebase
  clear hE' hmv hmr
  obtain ⟨t_17, hG_18, H0⟩ := bind_some H0
  refine callH_ (S0 := S) hF hE hI (wanted_none rfl) rfl (args := [.func (.func 99) #[] #[]]) rfl (enters Try.func98 (by kernel_rfl) rfl) (fun sv_19 => .agg ((kd_Defect_rule).cells t_17 sv_19).toArray) _ (G_defect_channel.calls (Fn129.f99) (svL []) w_16 (S := Lo S w w_16 ns_15 []) (contI (S := Lo S w w_16 ns_15 []) (w := w_16) (d := kdF129) (x := (Fn129.f99)) (sv := (svL [])) trivial) _ hG_18) (fun sv_19 => ⟨[⟨5, [], .v (.agg ((kd_Defect_rule).cells t_17 sv_19).toArray)⟩, ⟨4, [], .v (.agg #[.func (.func 97) #[] #[]])⟩, ⟨3, [], .v (.agg ((kd_Defect_rule).cells t_10 sv_12).toArray)⟩, ⟨2, [], .v (.agg ((kd_Defect_rule).cells t_5 sv_7).toArray)⟩, ⟨1, [], .v (.agg #[.func (.func 92) #[] #[]])⟩, ⟨0, [], .v (.slice none 0 0)⟩], [], [], [], none, none⟩) (fun sv_19 => by kernel_rfl) (fun sv_19 a w_21 hput hE' hI' hmv hmr hres hR => ?_)
  replace hR_8 := Kd.keep _ hR_8 hmv
  replace hR_13 := Kd.keep _ hR_13 hmv
  replace hE := hE'
  replace hI := hI'
  clear hE' hI' hmv hmr
  have hR_20 := hR
  replace hR_20 := Kd.keep _ hR_20 hres
  clear hres
  obtain ⟨t_22, hG_23, H0⟩ := bind_some H0
  refine callH_ (S0 := S) hF hE hI (wanted_none rfl) rfl (args := [.func (.func 100) #[] #[]]) rfl (enters Try.func98 (by kernel_rfl) rfl) (fun sv_24 => .agg ((kd_Defect_rule).cells t_22 sv_24).toArray) _ (G_defect_channel.calls (Fn129.f100) (svL []) w_21 (S := Lo S w w_21 ns_15 []) (contI (S := Lo S w w_21 ns_15 []) (w := w_21) (d := kdF129) (x := (Fn129.f100)) (sv := (svL [])) trivial) _ hG_23) (fun sv_24 => ⟨[⟨6, [], .v (.agg ((kd_Defect_rule).cells t_22 sv_24).toArray)⟩, ⟨5, [], .v (.agg ((kd_Defect_rule).cells t_17 sv_19).toArray)⟩, ⟨4, [], .v (.agg #[.func (.func 97) #[] #[]])⟩, ⟨3, [], .v (.agg ((kd_Defect_rule).cells t_10 sv_12).toArray)⟩, ⟨2, [], .v (.agg ((kd_Defect_rule).cells t_5 sv_7).toArray)⟩, ⟨1, [], .v (.agg #[.func (.func 92) #[] #[]])⟩, ⟨0, [], .v (.slice none 0 0)⟩], [], [], [], none, none⟩) (fun sv_24 => by kernel_rfl) (fun sv_24 a w_26 hput hE' hI' hmv hmr hres hR => ?_)
  replace hR_8 := Kd.keep _ hR_8 hmv
  replace hR_13 := Kd.keep _ hR_13 hmv
  replace hR_20 := Kd.keep _ hR_20 hmv
  replace hE := hE'
  replace hI := hI'
  clear hE' hI' hmv hmr
  have hR_25 := hR
  replace hR_25 := Kd.keep _ hR_25 hres
  clear hres
  obtain ⟨t_27, hG_28, H0⟩ := bind_some H0
  refine callH_ (S0 := S) hF hE hI (wanted_none rfl) rfl (args := [.func (.func 102) #[] #[]]) rfl (enters Try.func98 (by kernel_rfl) rfl) (fun sv_29 => .agg ((kd_Defect_rule).cells t_27 sv_29).toArray) _ (G_defect_channel.calls (Fn129.f102) (svL []) w_26 (S := Lo S w w_26 ns_15 []) (contI (S := Lo S w w_26 ns_15 []) (w := w_26) (d := kdF129) (x := (Fn129.f102)) (sv := (svL [])) trivial) _ hG_28) (fun sv_29 => ⟨[⟨7, [], .v (.agg ((kd_Defect_rule).cells t_27 sv_29).toArray)⟩, ⟨6, [], .v (.agg ((kd_Defect_rule).cells t_22 sv_24).toArray)⟩, ⟨5, [], .v (.agg ((kd_Defect_rule).cells t_17 sv_19).toArray)⟩, ⟨4, [], .v (.agg #[.func (.func 97) #[] #[]])⟩, ⟨3, [], .v (.agg ((kd_Defect_rule).cells t_10 sv_12).toArray)⟩, ⟨2, [], .v (.agg ((kd_Defect_rule).cells t_5 sv_7).toArray)⟩, ⟨1, [], .v (.agg #[.func (.func 92) #[] #[]])⟩, ⟨0, [], .v (.slice none 0 0)⟩], [], [], [], none, none⟩) (fun sv_29 => by kernel_rfl) (fun sv_29 a w_31 hput hE' hI' hmv hmr hres hR => ?_)
  replace hR_8 := Kd.keep _ hR_8 hmv
  replace hR_13 := Kd.keep _ hR_13 hmv
  replace hR_20 := Kd.keep _ hR_20 hmv
  replace hR_25 := Kd.keep _ hR_25 hmv
  replace hE := hE'
  replace hI := hI'
  clear hE' hI' hmv hmr
  have hR_30 := hR
  replace hR_30 := Kd.keep _ hR_30 hres
  clear hres
  obtain ⟨t_32, hG_33, H0⟩ := bind_some H0
  refine callH_ (S0 := S) hF hE hI (wanted_none rfl) rfl (args := [.func (.func 103) #[] #[]]) rfl (enters Try.func98 (by kernel_rfl) rfl) (fun sv_34 => .agg ((kd_Defect_rule).cells t_32 sv_34).toArray) _ (G_defect_channel.calls (Fn129.f103) (svL []) w_31 (S := Lo S w w_31 ns_15 []) (contI (S := Lo S w w_31 ns_15 []) (w := w_31) (d := kdF129) (x := (Fn129.f103)) (sv := (svL [])) trivial) _ hG_33) (fun sv_34 => ⟨[⟨8, [], .v (.agg ((kd_Defect_rule).cells t_32 sv_34).toArray)⟩, ⟨7, [], .v (.agg ((kd_Defect_rule).cells t_27 sv_29).toArray)⟩, ⟨6, [], .v (.agg ((kd_Defect_rule).cells t_22 sv_24).toArray)⟩, ⟨5, [], .v (.agg ((kd_Defect_rule).cells t_17 sv_19).toArray)⟩, ⟨4, [], .v (.agg #[.func (.func 97) #[] #[]])⟩, ⟨3, [], .v (.agg ((kd_Defect_rule).cells t_10 sv_12).toArray)⟩, ⟨2, [], .v (.agg ((kd_Defect_rule).cells t_5 sv_7).toArray)⟩, ⟨1, [], .v (.agg #[.func (.func 92) #[] #[]])⟩, ⟨0, [], .v (.slice none 0 0)⟩], [], [], [], none, none⟩) (fun sv_34 => by kernel_rfl) (fun sv_34 a w_36 hput hE' hI' hmv hmr hres hR => ?_)
  replace hR_8 := Kd.keep _ hR_8 hmv
  replace hR_13 := Kd.keep _ hR_13 hmv
  replace hR_20 := Kd.keep _ hR_20 hmv
  replace hR_25 := Kd.keep _ hR_25 hmv
  replace hR_30 := Kd.keep _ hR_30 hmv
  replace hE := hE'
  replace hI := hI'
  clear hE' hI' hmv hmr
  have hR_35 := hR
  replace hR_35 := Kd.keep _ hR_35 hres
  clear hres
  obtain ⟨t_37, hG_38, H0⟩ := bind_some H0
  refine callH_ (S0 := S) hF hE hI (wanted_none rfl) rfl (args := [.func (.func 104) #[] #[]]) rfl (enters Try.func98 (by kernel_rfl) rfl) (fun sv_39 => .agg ((kd_Defect_rule).cells t_37 sv_39).toArray) _ (G_defect_channel.calls (Fn129.f104) (svL []) w_36 (S := Lo S w w_36 ns_15 []) (contI (S := Lo S w w_36 ns_15 []) (w := w_36) (d := kdF129) (x := (Fn129.f104)) (sv := (svL [])) trivial) _ hG_38) (fun sv_39 => ⟨[⟨9, [], .v (.agg ((kd_Defect_rule).cells t_37 sv_39).toArray)⟩, ⟨8, [], .v (.agg ((kd_Defect_rule).cells t_32 sv_34).toArray)⟩, ⟨7, [], .v (.agg ((kd_Defect_rule).cells t_27 sv_29).toArray)⟩, ⟨6, [], .v (.agg ((kd_Defect_rule).cells t_22 sv_24).toArray)⟩, ⟨5, [], .v (.agg ((kd_Defect_rule).cells t_17 sv_19).toArray)⟩, ⟨4, [], .v (.agg #[.func (.func 97) #[] #[]])⟩, ⟨3, [], .v (.agg ((kd_Defect_rule).cells t_10 sv_12).toArray)⟩, ⟨2, [], .v (.agg ((kd_Defect_rule).cells t_5 sv_7).toArray)⟩, ⟨1, [], .v (.agg #[.func (.func 92) #[] #[]])⟩, ⟨0, [], .v (.slice none 0 0)⟩], [], [], [], none, none⟩) (fun sv_39 => by kernel_rfl) (fun sv_39 a w_41 hput hE' hI' hmv hmr hres hR => ?_)
  replace hR_8 := Kd.keep _ hR_8 hmv
  replace hR_13 := Kd.keep _ hR_13 hmv
  replace hR_20 := Kd.keep _ hR_20 hmv
  replace hR_25 := Kd.keep _ hR_25 hmv
  replace hR_30 := Kd.keep _ hR_30 hmv
  replace hR_35 := Kd.keep _ hR_35 hmv
  replace hE := hE'
  replace hI := hI'
  clear hE' hI' hmv hmr
  have hR_40 := hR
  replace hR_40 := Kd.keep _ hR_40 hres
  clear hres
  obtain ⟨t_42, hG_43, H0⟩ := bind_some H0
  refine callH_ (S0 := S) hF hE hI (wanted_none rfl) rfl (args := [.func (.func 106) #[] #[]]) rfl (enters Try.func98 (by kernel_rfl) rfl) (fun sv_44 => .agg ((kd_Defect_rule).cells t_42 sv_44).toArray) _ (G_defect_channel.calls (Fn129.f106) (svL []) w_41 (S := Lo S w w_41 ns_15 []) (contI (S := Lo S w w_41 ns_15 []) (w := w_41) (d := kdF129) (x := (Fn129.f106)) (sv := (svL [])) trivial) _ hG_43) (fun sv_44 => ⟨[⟨10, [], .v (.agg ((kd_Defect_rule).cells t_42 sv_44).toArray)⟩, ⟨9, [], .v (.agg ((kd_Defect_rule).cells t_37 sv_39).toArray)⟩, ⟨8, [], .v (.agg ((kd_Defect_rule).cells t_32 sv_34).toArray)⟩, ⟨7, [], .v (.agg ((kd_Defect_rule).cells t_27 sv_29).toArray)⟩, ⟨6, [], .v (.agg ((kd_Defect_rule).cells t_22 sv_24).toArray)⟩, ⟨5, [], .v (.agg ((kd_Defect_rule).cells t_17 sv_19).toArray)⟩, ⟨4, [], .v (.agg #[.func (.func 97) #[] #[]])⟩, ⟨3, [], .v (.agg ((kd_Defect_rule).cells t_10 sv_12).toArray)⟩, ⟨2, [], .v (.agg ((kd_Defect_rule).cells t_5 sv_7).toArray)⟩, ⟨1, [], .v (.agg #[.func (.func 92) #[] #[]])⟩, ⟨0, [], .v (.slice none 0 0)⟩], [], [], [], none, none⟩) (fun sv_44 => by kernel_rfl) (fun sv_44 a w_46 hput hE' hI' hmv hmr hres hR => ?_)
  replace hR_8 := Kd.keep _ hR_8 hmv
  replace hR_13 := Kd.keep _ hR_13 hmv
  replace hR_20 := Kd.keep _ hR_20 hmv
  replace hR_25 := Kd.keep _ hR_25 hmv
  replace hR_30 := Kd.keep _ hR_30 hmv
  replace hR_35 := Kd.keep _ hR_35 hmv
  replace hR_40 := Kd.keep _ hR_40 hmv
  replace hE := hE'
  replace hI := hI'
  clear hE' hI' hmv hmr
  have hR_45 := hR
  replace hR_45 := Kd.keep _ hR_45 hres
  clear hres
  obtain ⟨t_47, hG_48, H0⟩ := bind_some H0
  refine callH_ (S0 := S) hF hE hI (wanted_none rfl) rfl (args := [.func (.func 108) #[] #[]]) rfl (enters Try.func98 (by kernel_rfl) rfl) (fun sv_49 => .agg ((kd_Defect_rule).cells t_47 sv_49).toArray) _ (G_defect_channel.calls (Fn129.f108) (svL []) w_46 (S := Lo S w w_46 ns_15 []) (contI (S := Lo S w w_46 ns_15 []) (w := w_46) (d := kdF129) (x := (Fn129.f108)) (sv := (svL [])) trivial) _ hG_48) (fun sv_49 => ⟨[⟨11, [], .v (.agg ((kd_Defect_rule).cells t_47 sv_49).toArray)⟩, ⟨10, [], .v (.agg ((kd_Defect_rule).cells t_42 sv_44).toArray)⟩, ⟨9, [], .v (.agg ((kd_Defect_rule).cells t_37 sv_39).toArray)⟩, ⟨8, [], .v (.agg ((kd_Defect_rule).cells t_32 sv_34).toArray)⟩, ⟨7, [], .v (.agg ((kd_Defect_rule).cells t_27 sv_29).toArray)⟩, ⟨6, [], .v (.agg ((kd_Defect_rule).cells t_22 sv_24).toArray)⟩, ⟨5, [], .v (.agg ((kd_Defect_rule).cells t_17 sv_19).toArray)⟩, ⟨4, [], .v (.agg #[.func (.func 97) #[] #[]])⟩, ⟨3, [], .v (.agg ((kd_Defect_rule).cells t_10 sv_12).toArray)⟩, ⟨2, [], .v (.agg ((kd_Defect_rule).cells t_5 sv_7).toArray)⟩, ⟨1, [], .v (.agg #[.func (.func 92) #[] #[]])⟩, ⟨0, [], .v (.slice none 0 0)⟩], [], [], [], none, none⟩) (fun sv_49 => by kernel_rfl) (fun sv_49 a w_51 hput hE' hI' hmv hmr hres hR => ?_)
  replace hR_8 := Kd.keep _ hR_8 hmv
  replace hR_13 := Kd.keep _ hR_13 hmv
  replace hR_20 := Kd.keep _ hR_20 hmv
  replace hR_25 := Kd.keep _ hR_25 hmv
  replace hR_30 := Kd.keep _ hR_30 hmv
  replace hR_35 := Kd.keep _ hR_35 hmv
  replace hR_40 := Kd.keep _ hR_40 hmv
  replace hR_45 := Kd.keep _ hR_45 hmv
  replace hE := hE'
  replace hI := hI'
  clear hE' hI' hmv hmr
  have hR_50 := hR
  replace hR_50 := Kd.keep _ hR_50 hres
  clear hres
  obtain ⟨t_52, hG_53, H0⟩ := bind_some H0
  refine callH_ (S0 := S) hF hE hI (wanted_none rfl) rfl (args := [.func (.func 110) #[] #[]]) rfl (enters Try.func109 (by kernel_rfl) rfl) (fun sv_54 => .agg ((kd_Defect_rule).cells t_52 sv_54).toArray) _ (G_defect_frame.calls (Fn100.f110) (svL [(none, 0)]) w_51 (S := Lo S w w_51 ns_15 []) (contI (S := Lo S w w_51 ns_15 []) (w := w_51) (d := kdF100) (x := (Fn100.f110)) (sv := (svL [(none, 0)])) trivial) _ hG_53) (fun sv_54 => ⟨[⟨12, [], .v (.agg ((kd_Defect_rule).cells t_52 sv_54).toArray)⟩, ⟨11, [], .v (.agg ((kd_Defect_rule).cells t_47 sv_49).toArray)⟩, ⟨10, [], .v (.agg ((kd_Defect_rule).cells t_42 sv_44).toArray)⟩, ⟨9, [], .v (.agg ((kd_Defect_rule).cells t_37 sv_39).toArray)⟩, ⟨8, [], .v (.agg ((kd_Defect_rule).cells t_32 sv_34).toArray)⟩, ⟨7, [], .v (.agg ((kd_Defect_rule).cells t_27 sv_29).toArray)⟩, ⟨6, [], .v (.agg ((kd_Defect_rule).cells t_22 sv_24).toArray)⟩, ⟨5, [], .v (.agg ((kd_Defect_rule).cells t_17 sv_19).toArray)⟩, ⟨4, [], .v (.agg #[.func (.func 97) #[] #[]])⟩, ⟨3, [], .v (.agg ((kd_Defect_rule).cells t_10 sv_12).toArray)⟩, ⟨2, [], .v (.agg ((kd_Defect_rule).cells t_5 sv_7).toArray)⟩, ⟨1, [], .v (.agg #[.func (.func 92) #[] #[]])⟩, ⟨0, [], .v (.slice none 0 0)⟩], [], [], [], none, none⟩) (fun sv_54 => by kernel_rfl) (fun sv_54 a w_56 hput hE' hI' hmv hmr hres hR => ?_)
  replace hR_8 := Kd.keep _ hR_8 hmv
  replace hR_13 := Kd.keep _ hR_13 hmv
  replace hR_20 := Kd.keep _ hR_20 hmv
  replace hR_25 := Kd.keep _ hR_25 hmv
  replace hR_30 := Kd.keep _ hR_30 hmv
  replace hR_35 := Kd.keep _ hR_35 hmv
  replace hR_40 := Kd.keep _ hR_40 hmv
  replace hR_45 := Kd.keep _ hR_45 hmv
  replace hR_50 := Kd.keep _ hR_50 hmv
  replace hE := hE'
  replace hI := hI'
  clear hE' hI' hmv hmr
  have hR_55 := hR
  replace hR_55 := Kd.keep _ hR_55 hres
  clear hres
  obtain ⟨t_57, hG_58, H0⟩ := bind_some H0
  refine callH_ (S0 := S) hF hE hI (wanted_none rfl) rfl (args := [.func (.func 111) #[] #[]]) rfl (enters Try.func109 (by kernel_rfl) rfl) (fun sv_59 => .agg ((kd_Defect_rule).cells t_57 sv_59).toArray) _ (G_defect_frame.calls (Fn100.f111) (svL [(none, 0)]) w_56 (S := Lo S w w_56 ns_15 []) (contI (S := Lo S w w_56 ns_15 []) (w := w_56) (d := kdF100) (x := (Fn100.f111)) (sv := (svL [(none, 0)])) trivial) _ hG_58) (fun sv_59 => ⟨[⟨13, [], .v (.agg ((kd_Defect_rule).cells t_57 sv_59).toArray)⟩, ⟨12, [], .v (.agg ((kd_Defect_rule).cells t_52 sv_54).toArray)⟩, ⟨11, [], .v (.agg ((kd_Defect_rule).cells t_47 sv_49).toArray)⟩, ⟨10, [], .v (.agg ((kd_Defect_rule).cells t_42 sv_44).toArray)⟩, ⟨9, [], .v (.agg ((kd_Defect_rule).cells t_37 sv_39).toArray)⟩, ⟨8, [], .v (.agg ((kd_Defect_rule).cells t_32 sv_34).toArray)⟩, ⟨7, [], .v (.agg ((kd_Defect_rule).cells t_27 sv_29).toArray)⟩, ⟨6, [], .v (.agg ((kd_Defect_rule).cells t_22 sv_24).toArray)⟩, ⟨5, [], .v (.agg ((kd_Defect_rule).cells t_17 sv_19).toArray)⟩, ⟨4, [], .v (.agg #[.func (.func 97) #[] #[]])⟩, ⟨3, [], .v (.agg ((kd_Defect_rule).cells t_10 sv_12).toArray)⟩, ⟨2, [], .v (.agg ((kd_Defect_rule).cells t_5 sv_7).toArray)⟩, ⟨1, [], .v (.agg #[.func (.func 92) #[] #[]])⟩, ⟨0, [], .v (.slice none 0 0)⟩], [], [], [], none, none⟩) (fun sv_59 => by kernel_rfl) (fun sv_59 a w_61 hput hE' hI' hmv hmr hres hR => ?_)
  replace hR_8 := Kd.keep _ hR_8 hmv
  replace hR_13 := Kd.keep _ hR_13 hmv
  replace hR_20 := Kd.keep _ hR_20 hmv
  replace hR_25 := Kd.keep _ hR_25 hmv
  replace hR_30 := Kd.keep _ hR_30 hmv
  replace hR_35 := Kd.keep _ hR_35 hmv
  replace hR_40 := Kd.keep _ hR_40 hmv
  replace hR_45 := Kd.keep _ hR_45 hmv
  replace hR_50 := Kd.keep _ hR_50 hmv
  replace hR_55 := Kd.keep _ hR_55 hmv
  replace hE := hE'
  replace hI := hI'
  clear hE' hI' hmv hmr
  have hR_60 := hR
  replace hR_60 := Kd.keep _ hR_60 hres
  clear hres
  obtain ⟨t_62, hG_63, H0⟩ := bind_some H0
  refine callH_ (S0 := S) hF hE hI (wanted_none rfl) rfl (args := [.func (.func 113) #[] #[]]) rfl (enters Try.func112 (by kernel_rfl) rfl) (fun sv_64 => .agg ((kd_Defect_rule).cells t_62 sv_64).toArray) _ (G_defect_window.calls (Fn133.f113) (svL []) w_61 (S := Lo S w w_61 ns_15 []) (contI (S := Lo S w w_61 ns_15 []) (w := w_61) (d := kdF133) (x := (Fn133.f113)) (sv := (svL [])) trivial) _ hG_63) (fun sv_64 => ⟨[⟨14, [], .v (.agg ((kd_Defect_rule).cells t_62 sv_64).toArray)⟩, ⟨13, [], .v (.agg ((kd_Defect_rule).cells t_57 sv_59).toArray)⟩, ⟨12, [], .v (.agg ((kd_Defect_rule).cells t_52 sv_54).toArray)⟩, ⟨11, [], .v (.agg ((kd_Defect_rule).cells t_47 sv_49).toArray)⟩, ⟨10, [], .v (.agg ((kd_Defect_rule).cells t_42 sv_44).toArray)⟩, ⟨9, [], .v (.agg ((kd_Defect_rule).cells t_37 sv_39).toArray)⟩, ⟨8, [], .v (.agg ((kd_Defect_rule).cells t_32 sv_34).toArray)⟩, ⟨7, [], .v (.agg ((kd_Defect_rule).cells t_27 sv_29).toArray)⟩, ⟨6, [], .v (.agg ((kd_Defect_rule).cells t_22 sv_24).toArray)⟩, ⟨5, [], .v (.agg ((kd_Defect_rule).cells t_17 sv_19).toArray)⟩, ⟨4, [], .v (.agg #[.func (.func 97) #[] #[]])⟩, ⟨3, [], .v (.agg ((kd_Defect_rule).cells t_10 sv_12).toArray)⟩, ⟨2, [], .v (.agg ((kd_Defect_rule).cells t_5 sv_7).toArray)⟩, ⟨1, [], .v (.agg #[.func (.func 92) #[] #[]])⟩, ⟨0, [], .v (.slice none 0 0)⟩], [], [], [], none, none⟩) (fun sv_64 => by kernel_rfl) (fun sv_64 a w_66 hput hE' hI' hmv hmr hres hR => ?_)
  replace hR_8 := Kd.keep _ hR_8 hmv
  replace hR_13 := Kd.keep _ hR_13 hmv
  replace hR_20 := Kd.keep _ hR_20 hmv
  replace hR_25 := Kd.keep _ hR_25 hmv
  replace hR_30 := Kd.keep _ hR_30 hmv
  replace hR_35 := Kd.keep _ hR_35 hmv
  replace hR_40 := Kd.keep _ hR_40 hmv
  replace hR_45 := Kd.keep _ hR_45 hmv
  replace hR_50 := Kd.keep _ hR_50 hmv
  replace hR_55 := Kd.keep _ hR_55 hmv
  replace hR_60 := Kd.keep _ hR_60 hmv
  replace hE := hE'
  replace hI := hI'
  clear hE' hI' hmv hmr
  have hR_65 := hR
  replace hR_65 := Kd.keep _ hR_65 hres
  clear hres
  obtain ⟨t_67, hG_68, H0⟩ := bind_some H0
  refine callH_ (S0 := S) hF hE hI (wanted_none rfl) rfl (args := [.func (.func 114) #[] #[]]) rfl (enters Try.func112 (by kernel_rfl) rfl) (fun sv_69 => .agg ((kd_Defect_rule).cells t_67 sv_69).toArray) _ (G_defect_window.calls (Fn133.f114) (svL []) w_66 (S := Lo S w w_66 ns_15 []) (contI (S := Lo S w w_66 ns_15 []) (w := w_66) (d := kdF133) (x := (Fn133.f114)) (sv := (svL [])) trivial) _ hG_68) (fun sv_69 => ⟨[⟨15, [], .v (.agg ((kd_Defect_rule).cells t_67 sv_69).toArray)⟩, ⟨14, [], .v (.agg ((kd_Defect_rule).cells t_62 sv_64).toArray)⟩, ⟨13, [], .v (.agg ((kd_Defect_rule).cells t_57 sv_59).toArray)⟩, ⟨12, [], .v (.agg ((kd_Defect_rule).cells t_52 sv_54).toArray)⟩, ⟨11, [], .v (.agg ((kd_Defect_rule).cells t_47 sv_49).toArray)⟩, ⟨10, [], .v (.agg ((kd_Defect_rule).cells t_42 sv_44).toArray)⟩, ⟨9, [], .v (.agg ((kd_Defect_rule).cells t_37 sv_39).toArray)⟩, ⟨8, [], .v (.agg ((kd_Defect_rule).cells t_32 sv_34).toArray)⟩, ⟨7, [], .v (.agg ((kd_Defect_rule).cells t_27 sv_29).toArray)⟩, ⟨6, [], .v (.agg ((kd_Defect_rule).cells t_22 sv_24).toArray)⟩, ⟨5, [], .v (.agg ((kd_Defect_rule).cells t_17 sv_19).toArray)⟩, ⟨4, [], .v (.agg #[.func (.func 97) #[] #[]])⟩, ⟨3, [], .v (.agg ((kd_Defect_rule).cells t_10 sv_12).toArray)⟩, ⟨2, [], .v (.agg ((kd_Defect_rule).cells t_5 sv_7).toArray)⟩, ⟨1, [], .v (.agg #[.func (.func 92) #[] #[]])⟩, ⟨0, [], .v (.slice none 0 0)⟩], [], [], [], none, none⟩) (fun sv_69 => by kernel_rfl) (fun sv_69 a w_71 hput hE' hI' hmv hmr hres hR => ?_)
  replace hR_8 := Kd.keep _ hR_8 hmv
  replace hR_13 := Kd.keep _ hR_13 hmv
  replace hR_20 := Kd.keep _ hR_20 hmv
  replace hR_25 := Kd.keep _ hR_25 hmv
  replace hR_30 := Kd.keep _ hR_30 hmv
  replace hR_35 := Kd.keep _ hR_35 hmv
  replace hR_40 := Kd.keep _ hR_40 hmv
  replace hR_45 := Kd.keep _ hR_45 hmv
  replace hR_50 := Kd.keep _ hR_50 hmv
  replace hR_55 := Kd.keep _ hR_55 hmv
  replace hR_60 := Kd.keep _ hR_60 hmv
  replace hR_65 := Kd.keep _ hR_65 hmv
  replace hE := hE'
  replace hI := hI'
  clear hE' hI' hmv hmr
  have hR_70 := hR
  replace hR_70 := Kd.keep _ hR_70 hres
  clear hres
  obtain ⟨t_72, hG_73, H0⟩ := bind_some H0
  refine callH_ (S0 := S) hF hE hI (wanted_none rfl) rfl (args := [.func (.func 115) #[] #[]]) rfl (enters Try.func109 (by kernel_rfl) rfl) (fun sv_74 => .agg ((kd_Defect_rule).cells t_72 sv_74).toArray) _ (G_defect_frame.calls (Fn100.f115) (svL [(none, 0)]) w_71 (S := Lo S w w_71 ns_15 []) (contI (S := Lo S w w_71 ns_15 []) (w := w_71) (d := kdF100) (x := (Fn100.f115)) (sv := (svL [(none, 0)])) trivial) _ hG_73) (fun sv_74 => ⟨[⟨16, [], .v (.agg ((kd_Defect_rule).cells t_72 sv_74).toArray)⟩, ⟨15, [], .v (.agg ((kd_Defect_rule).cells t_67 sv_69).toArray)⟩, ⟨14, [], .v (.agg ((kd_Defect_rule).cells t_62 sv_64).toArray)⟩, ⟨13, [], .v (.agg ((kd_Defect_rule).cells t_57 sv_59).toArray)⟩, ⟨12, [], .v (.agg ((kd_Defect_rule).cells t_52 sv_54).toArray)⟩, ⟨11, [], .v (.agg ((kd_Defect_rule).cells t_47 sv_49).toArray)⟩, ⟨10, [], .v (.agg ((kd_Defect_rule).cells t_42 sv_44).toArray)⟩, ⟨9, [], .v (.agg ((kd_Defect_rule).cells t_37 sv_39).toArray)⟩, ⟨8, [], .v (.agg ((kd_Defect_rule).cells t_32 sv_34).toArray)⟩, ⟨7, [], .v (.agg ((kd_Defect_rule).cells t_27 sv_29).toArray)⟩, ⟨6, [], .v (.agg ((kd_Defect_rule).cells t_22 sv_24).toArray)⟩, ⟨5, [], .v (.agg ((kd_Defect_rule).cells t_17 sv_19).toArray)⟩, ⟨4, [], .v (.agg #[.func (.func 97) #[] #[]])⟩, ⟨3, [], .v (.agg ((kd_Defect_rule).cells t_10 sv_12).toArray)⟩, ⟨2, [], .v (.agg ((kd_Defect_rule).cells t_5 sv_7).toArray)⟩, ⟨1, [], .v (.agg #[.func (.func 92) #[] #[]])⟩, ⟨0, [], .v (.slice none 0 0)⟩], [], [], [], none, none⟩) (fun sv_74 => by kernel_rfl) (fun sv_74 a w_76 hput hE' hI' hmv hmr hres hR => ?_)
  replace hR_8 := Kd.keep _ hR_8 hmv
  replace hR_13 := Kd.keep _ hR_13 hmv
  replace hR_20 := Kd.keep _ hR_20 hmv
  replace hR_25 := Kd.keep _ hR_25 hmv
  replace hR_30 := Kd.keep _ hR_30 hmv
  replace hR_35 := Kd.keep _ hR_35 hmv
  replace hR_40 := Kd.keep _ hR_40 hmv
  replace hR_45 := Kd.keep _ hR_45 hmv
  replace hR_50 := Kd.keep _ hR_50 hmv
  replace hR_55 := Kd.keep _ hR_55 hmv
  replace hR_60 := Kd.keep _ hR_60 hmv
  replace hR_65 := Kd.keep _ hR_65 hmv
  replace hR_70 := Kd.keep _ hR_70 hmv
  replace hE := hE'
  replace hI := hI'
  clear hE' hI' hmv hmr
  have hR_75 := hR
  replace hR_75 := Kd.keep _ hR_75 hres
  clear hres
  refine chunkL_ (live := [17, 16, 15, 14, 13, 12, 11, 10, 9, 8, 7, 6, 5, 4, 3, 2, 1, 0]) (orc := []) hF 1 hI ⟨[⟨17, [], .v (.agg #[.func (.func 116) #[] #[]])⟩, ⟨16, [], .v (.agg ((kd_Defect_rule).cells t_72 sv_74).toArray)⟩, ⟨15, [], .v (.agg ((kd_Defect_rule).cells t_67 sv_69).toArray)⟩, ⟨14, [], .v (.agg ((kd_Defect_rule).cells t_62 sv_64).toArray)⟩, ⟨13, [], .v (.agg ((kd_Defect_rule).cells t_57 sv_59).toArray)⟩, ⟨12, [], .v (.agg ((kd_Defect_rule).cells t_52 sv_54).toArray)⟩, ⟨11, [], .v (.agg ((kd_Defect_rule).cells t_47 sv_49).toArray)⟩, ⟨10, [], .v (.agg ((kd_Defect_rule).cells t_42 sv_44).toArray)⟩, ⟨9, [], .v (.agg ((kd_Defect_rule).cells t_37 sv_39).toArray)⟩, ⟨8, [], .v (.agg ((kd_Defect_rule).cells t_32 sv_34).toArray)⟩, ⟨7, [], .v (.agg ((kd_Defect_rule).cells t_27 sv_29).toArray)⟩, ⟨6, [], .v (.agg ((kd_Defect_rule).cells t_22 sv_24).toArray)⟩, ⟨5, [], .v (.agg ((kd_Defect_rule).cells t_17 sv_19).toArray)⟩, ⟨4, [], .v (.agg #[.func (.func 97) #[] #[]])⟩, ⟨3, [], .v (.agg ((kd_Defect_rule).cells t_10 sv_12).toArray)⟩, ⟨2, [], .v (.agg ((kd_Defect_rule).cells t_5 sv_7).toArray)⟩, ⟨1, [], .v (.agg #[.func (.func 92) #[] #[]])⟩, ⟨0, [], .v (.slice none 0 0)⟩], [], [], [], none, none⟩ [] rfl (by kernel_rfl) trivial (fun ns_77 a w_78 hI => ?_)
  obtain ⟨hE', hmv, hmr⟩ := Ep.rebase (S0 := S) hE hI
  replace hR_8 := Kd.keep _ hR_8 hmv
  replace hR_13 := Kd.keep _ hR_13 hmv
  replace hR_20 := Kd.keep _ hR_20 hmv
  replace hR_25 := Kd.keep _ hR_25 hmv
  replace hR_30 := Kd.keep _ hR_30 hmv
  replace hR_35 := Kd.keep _ hR_35 hmv
  replace hR_40 := Kd.keep _ hR_40 hmv
  replace hR_45 := Kd.keep _ hR_45 hmv
  replace hR_50 := Kd.keep _ hR_50 hmv
  replace hR_55 := Kd.keep _ hR_55 hmv
  replace hR_60 := Kd.keep _ hR_60 hmv
  replace hR_65 := Kd.keep _ hR_65 hmv
  replace hR_70 := Kd.keep _ hR_70 hmv
  replace hR_75 := Kd.keep _ hR_75 hmv
  replace hE := hE'
  replace hI := hI.rebase
  clear hE' hmv hmr
  refine buildSlice_ (S0 := S) (d := kd_Defect_rule) (e := 124) hF hE hI (wanted_none rfl) rfl (by kernel_rfl) (cs := [.func (.func 92) #[] #[], fnv31 t_5.holds sv_7, fnv31 t_10.holds sv_12, .func (.func 97) #[] #[], fnv31 t_17.holds sv_19, fnv31 t_22.holds sv_24, fnv31 t_27.holds sv_29, fnv31 t_32.holds sv_34, fnv31 t_37.holds sv_39, fnv31 t_42.holds sv_44, fnv31 t_47.holds sv_49, fnv31 t_52.holds sv_54, fnv31 t_57.holds sv_59, fnv31 t_62.holds sv_64, fnv31 t_67.holds sv_69, fnv31 t_72.holds sv_74, .func (.func 116) #[] #[]]) (by kernel_rfl) [(⟨(Fn31.f92)⟩ : Defect_rule), t_5, t_10, (⟨(Fn31.f97)⟩ : Defect_rule), t_17, t_22, t_27, t_32, t_37, t_42, t_47, t_52, t_57, t_62, t_67, t_72, (⟨(Fn31.f116)⟩ : Defect_rule)] [(svL [(none, 0), (none, 0)]), sv_7, sv_12, (svL [(none, 0), (none, 0)]), sv_19, sv_24, sv_29, sv_34, sv_39, sv_44, sv_49, sv_54, sv_59, sv_64, sv_69, sv_74, (svL [(none, 0), (none, 0)])] rfl rfl (by simp [maxLen]) (fun i x hi => by cases i with | zero => (simp only [List.getElem?_cons_zero, Option.some.injEq] at hi; subst hi; exact ⟨⟨trivial, trivial⟩, rfl⟩) | succ i => (simp only [List.getElem?_cons_succ] at hi; cases i with | zero => (simp only [List.getElem?_cons_zero, Option.some.injEq] at hi; subst hi; exact ⟨⟨hR_8.1, trivial⟩, rfl⟩) | succ i => (simp only [List.getElem?_cons_succ] at hi; cases i with | zero => (simp only [List.getElem?_cons_zero, Option.some.injEq] at hi; subst hi; exact ⟨⟨hR_13.1, trivial⟩, rfl⟩) | succ i => (simp only [List.getElem?_cons_succ] at hi; cases i with | zero => (simp only [List.getElem?_cons_zero, Option.some.injEq] at hi; subst hi; exact ⟨⟨trivial, trivial⟩, rfl⟩) | succ i => (simp only [List.getElem?_cons_succ] at hi; cases i with | zero => (simp only [List.getElem?_cons_zero, Option.some.injEq] at hi; subst hi; exact ⟨⟨hR_20.1, trivial⟩, rfl⟩) | succ i => (simp only [List.getElem?_cons_succ] at hi; cases i with | zero => (simp only [List.getElem?_cons_zero, Option.some.injEq] at hi; subst hi; exact ⟨⟨hR_25.1, trivial⟩, rfl⟩) | succ i => (simp only [List.getElem?_cons_succ] at hi; cases i with | zero => (simp only [List.getElem?_cons_zero, Option.some.injEq] at hi; subst hi; exact ⟨⟨hR_30.1, trivial⟩, rfl⟩) | succ i => (simp only [List.getElem?_cons_succ] at hi; cases i with | zero => (simp only [List.getElem?_cons_zero, Option.some.injEq] at hi; subst hi; exact ⟨⟨hR_35.1, trivial⟩, rfl⟩) | succ i => (simp only [List.getElem?_cons_succ] at hi; cases i with | zero => (simp only [List.getElem?_cons_zero, Option.some.injEq] at hi; subst hi; exact ⟨⟨hR_40.1, trivial⟩, rfl⟩) | succ i => (simp only [List.getElem?_cons_succ] at hi; cases i with | zero => (simp only [List.getElem?_cons_zero, Option.some.injEq] at hi; subst hi; exact ⟨⟨hR_45.1, trivial⟩, rfl⟩) | succ i => (simp only [List.getElem?_cons_succ] at hi; cases i with | zero => (simp only [List.getElem?_cons_zero, Option.some.injEq] at hi; subst hi; exact ⟨⟨hR_50.1, trivial⟩, rfl⟩) | succ i => (simp only [List.getElem?_cons_succ] at hi; cases i with | zero => (simp only [List.getElem?_cons_zero, Option.some.injEq] at hi; subst hi; exact ⟨⟨hR_55.1, trivial⟩, rfl⟩) | succ i => (simp only [List.getElem?_cons_succ] at hi; cases i with | zero => (simp only [List.getElem?_cons_zero, Option.some.injEq] at hi; subst hi; exact ⟨⟨hR_60.1, trivial⟩, rfl⟩) | succ i => (simp only [List.getElem?_cons_succ] at hi; cases i with | zero => (simp only [List.getElem?_cons_zero, Option.some.injEq] at hi; subst hi; exact ⟨⟨hR_65.1, trivial⟩, rfl⟩) | succ i => (simp only [List.getElem?_cons_succ] at hi; cases i with | zero => (simp only [List.getElem?_cons_zero, Option.some.injEq] at hi; subst hi; exact ⟨⟨hR_70.1, trivial⟩, rfl⟩) | succ i => (simp only [List.getElem?_cons_succ] at hi; cases i with | zero => (simp only [List.getElem?_cons_zero, Option.some.injEq] at hi; subst hi; exact ⟨⟨hR_75.1, trivial⟩, rfl⟩) | succ i => (simp only [List.getElem?_cons_succ] at hi; cases i with | zero => (simp only [List.getElem?_cons_zero, Option.some.injEq] at hi; subst hi; exact ⟨⟨trivial, trivial⟩, rfl⟩) | succ i => (simp only [List.getElem?_cons_succ] at hi; simp at hi)))))))))))))))))) (fun A_79 => ⟨[⟨18, [], .v (.slice A_79 ([(⟨(Fn31.f92)⟩ : Defect_rule), t_5, t_10, (⟨(Fn31.f97)⟩ : Defect_rule), t_17, t_22, t_27, t_32, t_37, t_42, t_47, t_52, t_57, t_62, t_67, t_72, (⟨(Fn31.f116)⟩ : Defect_rule)] : List Defect_rule).length (([(⟨(Fn31.f92)⟩ : Defect_rule), t_5, t_10, (⟨(Fn31.f97)⟩ : Defect_rule), t_17, t_22, t_27, t_32, t_37, t_42, t_47, t_52, t_57, t_62, t_67, t_72, (⟨(Fn31.f116)⟩ : Defect_rule)] : List Defect_rule).length))⟩, ⟨17, [], .v (.agg #[.func (.func 116) #[] #[]])⟩, ⟨16, [], .v (.agg ((kd_Defect_rule).cells t_72 sv_74).toArray)⟩, ⟨15, [], .v (.agg ((kd_Defect_rule).cells t_67 sv_69).toArray)⟩, ⟨14, [], .v (.agg ((kd_Defect_rule).cells t_62 sv_64).toArray)⟩, ⟨13, [], .v (.agg ((kd_Defect_rule).cells t_57 sv_59).toArray)⟩, ⟨12, [], .v (.agg ((kd_Defect_rule).cells t_52 sv_54).toArray)⟩, ⟨11, [], .v (.agg ((kd_Defect_rule).cells t_47 sv_49).toArray)⟩, ⟨10, [], .v (.agg ((kd_Defect_rule).cells t_42 sv_44).toArray)⟩, ⟨9, [], .v (.agg ((kd_Defect_rule).cells t_37 sv_39).toArray)⟩, ⟨8, [], .v (.agg ((kd_Defect_rule).cells t_32 sv_34).toArray)⟩, ⟨7, [], .v (.agg ((kd_Defect_rule).cells t_27 sv_29).toArray)⟩, ⟨6, [], .v (.agg ((kd_Defect_rule).cells t_22 sv_24).toArray)⟩, ⟨5, [], .v (.agg ((kd_Defect_rule).cells t_17 sv_19).toArray)⟩, ⟨4, [], .v (.agg #[.func (.func 97) #[] #[]])⟩, ⟨3, [], .v (.agg ((kd_Defect_rule).cells t_10 sv_12).toArray)⟩, ⟨2, [], .v (.agg ((kd_Defect_rule).cells t_5 sv_7).toArray)⟩, ⟨1, [], .v (.agg #[.func (.func 92) #[] #[]])⟩, ⟨0, [], .v (.slice none 0 0)⟩], [], [], [], none, none⟩) (fun A_79 => by kernel_rfl) (fun A_79 a w_81 hput hE' hI' hmv hmr hq_80 => ?_)
  replace hR_8 := Kd.keep _ hR_8 hmv
  replace hR_13 := Kd.keep _ hR_13 hmv
  replace hR_20 := Kd.keep _ hR_20 hmv
  replace hR_25 := Kd.keep _ hR_25 hmv
  replace hR_30 := Kd.keep _ hR_30 hmv
  replace hR_35 := Kd.keep _ hR_35 hmv
  replace hR_40 := Kd.keep _ hR_40 hmv
  replace hR_45 := Kd.keep _ hR_45 hmv
  replace hR_50 := Kd.keep _ hR_50 hmv
  replace hR_55 := Kd.keep _ hR_55 hmv
  replace hR_60 := Kd.keep _ hR_60 hmv
  replace hR_65 := Kd.keep _ hR_65 hmv
  replace hR_70 := Kd.keep _ hR_70 hmv
  replace hR_75 := Kd.keep _ hR_75 hmv
  replace hE := hE'
  replace hI := hI'
  clear hE' hI' hmv hmr
  refine chunkL_ (live := [0]) (orc := []) hF 1 hI ⟨[⟨0, [], .v (.slice A_79 ([(⟨(Fn31.f92)⟩ : Defect_rule), t_5, t_10, (⟨(Fn31.f97)⟩ : Defect_rule), t_17, t_22, t_27, t_32, t_37, t_42, t_47, t_52, t_57, t_62, t_67, t_72, (⟨(Fn31.f116)⟩ : Defect_rule)] : List Defect_rule).length (([(⟨(Fn31.f92)⟩ : Defect_rule), t_5, t_10, (⟨(Fn31.f97)⟩ : Defect_rule), t_17, t_22, t_27, t_32, t_37, t_42, t_47, t_52, t_57, t_62, t_67, t_72, (⟨(Fn31.f116)⟩ : Defect_rule)] : List Defect_rule).length))⟩], [], [], [], none, none⟩ [] rfl (by kernel_rfl) trivial (fun ns_82 a w_83 hI => ?_)
  refine wpListIn_nil ?_
  refine then_normal ?_
  obtain ⟨hE', hmv, hmr⟩ := Ep.rebase (S0 := S) hE hI
  replace hR_8 := Kd.keep _ hR_8 hmv
  replace hR_13 := Kd.keep _ hR_13 hmv
  replace hR_20 := Kd.keep _ hR_20 hmv
  replace hR_25 := Kd.keep _ hR_25 hmv
  replace hR_30 := Kd.keep _ hR_30 hmv
  replace hR_35 := Kd.keep _ hR_35 hmv
  replace hR_40 := Kd.keep _ hR_40 hmv
  replace hR_45 := Kd.keep _ hR_45 hmv
  replace hR_50 := Kd.keep _ hR_50 hmv
  replace hR_55 := Kd.keep _ hR_55 hmv
  replace hR_60 := Kd.keep _ hR_60 hmv
  replace hR_65 := Kd.keep _ hR_65 hmv
  replace hR_70 := Kd.keep _ hR_70 hmv
  replace hR_75 := Kd.keep _ hR_75 hmv
  replace hq_80 := Row.keep hq_80 hmv (fun b hb => hmr b (by rw [← hb]; first | (simp; done) | simp [rb]))
  replace hE := hE'
  replace hI := hI.rebase
  clear hE' hmv hmr
  obtain ⟨hE', hmv, hq_80, hcap_84⟩ := Row.still (l1 := []) (l2 := []) hq_80 hE
  have hmr : ∀ b : Nat, some b ∈ ([rb A_79] : List (Option Nat)) → w_83.heap[b]? = w_83.heap[b]? := fun _ _ => rfl
  replace hR_8 := Kd.keep _ hR_8 hmv
  replace hR_13 := Kd.keep _ hR_13 hmv
  replace hR_20 := Kd.keep _ hR_20 hmv
  replace hR_25 := Kd.keep _ hR_25 hmv
  replace hR_30 := Kd.keep _ hR_30 hmv
  replace hR_35 := Kd.keep _ hR_35 hmv
  replace hR_40 := Kd.keep _ hR_40 hmv
  replace hR_45 := Kd.keep _ hR_45 hmv
  replace hR_50 := Kd.keep _ hR_50 hmv
  replace hR_55 := Kd.keep _ hR_55 hmv
  replace hR_60 := Kd.keep _ hR_60 hmv
  replace hR_65 := Kd.keep _ hR_65 hmv
  replace hR_70 := Kd.keep _ hR_70 hmv
  replace hR_75 := Kd.keep _ hR_75 hmv
  replace hE := hE'
  clear hE' hmv hmr
  refine wpIn_ret ?_
  obtain rfl := Option.some.inj H0
  exact ret1 hI rfl rfl ⟨svL [(A_79, ([(⟨(Fn31.f92)⟩ : Defect_rule), t_5, t_10, (⟨(Fn31.f97)⟩ : Defect_rule), t_17, t_22, t_27, t_32, t_37, t_42, t_47, t_52, t_57, t_62, t_67, t_72, (⟨(Fn31.f116)⟩ : Defect_rule)] : List Defect_rule).length)], rfl, hE.below hI, ⟨Arr.keep hq_80 (hE.out hI), hcap_84⟩⟩

/-! ### calls through a function of type 31 -/
noncomputable def Fn31.run (f : Fn31) (x0 : Config) : Option (Bool) := match f with
  | .f117 c0 => G_defect_part_1 x0 c0
  | .f119 c0 => G_defect_channel_1 x0 c0
  | .f122 c0 => G_defect_frame_1 x0 c0
  | .f92 => G_defect_rules_1 x0
  | .f97 => G_defect_rules_4 x0
  | .f116 => G_defect_idle x0
theorem Fn31.ent (f : Fn31) (args : Array Value) (w : World) : (callFunc (fid31 f) args).run Try.prog w = .ok (.enter (fid31 f) args) w := by
  cases f with
  | f117 _ => exact enters Try.func117 (by kernel_rfl) rfl args w
  | f119 _ => exact enters Try.func119 (by kernel_rfl) rfl args w
  | f122 _ => exact enters Try.func122 (by kernel_rfl) rfl args w
  | f92 => exact enters Try.func92 (by kernel_rfl) rfl args w
  | f97 => exact enters Try.func97 (by kernel_rfl) rfl args w
  | f116 => exact enters Try.func116 (by kernel_rfl) rfl args w
theorem Fn31.calls (f : Fn31) (x0 : Config) (svf : SV) (sv0 : SV) (w : World) {S : Nat → Prop} (hf : (kdF31).cont S w f svf) (hx0 : (kd_Config).cont S w x0 sv0) (r : Bool) (h : Fn31.run f x0 = some r) :
    Calls Try.prog (fid31 f) (([.agg ((kd_Config).cells x0 sv0).toArray] : List Value) ++ (fca31 f svf).toList).toArray w fun e w' => e = .returned (.bool r) ∧ Below w.heap.size w w' := by
  cases f with
  | f117 c0 => exact G_defect_part_1.calls x0 c0 sv0 (adr (svf 0).1) (svO svf 1) w hx0 hf r h
  | f119 c0 => exact G_defect_channel_1.calls x0 c0 sv0 (adr (svf 0).1) (svO svf 1) w hx0 hf r h
  | f122 c0 => exact G_defect_frame_1.calls x0 c0 sv0 (adr (svf 0).1) (svO svf 1) w hx0 hf r h
  | f92 => exact G_defect_rules_1.calls x0  sv0  w hx0  r h
  | f97 => exact G_defect_rules_4.calls x0  sv0  w hx0  r h
  | f116 => exact G_defect_idle.calls x0  sv0  w hx0  r h

/-! ### porthole/defect.All$1: function 90, an iterator -/
def G_defect_All_1.enc : (Int) → SV → List Value := fun y sv => [.int .i64 y]
def G_defect_All_1.fct : (Nat → Prop) → World → (Int) → SV → Prop := fun X w y sv => True
noncomputable def G_defect_All_1.b1 {σt R : Type} (bd : σt → (Int) → Option (Stp σt R)) (s0 : σt) (y1 : Config) (t_1 : (List Defect_rule)) (s1 : Int × σt) : Option (Stp (Int × σt) (Ex (Int × σt) (Stp σt R))) := (bif decide (s1.1 < (t_1.length : Int)) then (req (inb s1.1 t_1.length) ((Fn31.run ((rd t_1 s1.1).holds) y1).bind fun t_17 => (bif t_17 then ((bd s1.2 (IntKind.i64.wrap (s1.1 + 1))).bind fun z => z.on (fun s_30 => some (.next ((IntKind.i64.wrap (s1.1 + 1)), s_30))) (fun r_31 => some (.out (.ret (.out r_31))))) else some (.next ((IntKind.i64.wrap (s1.1 + 1)), s1.2))))) else some (.out (.brk (s1.1, s1.2))))
noncomputable def G_defect_All_1 {σt R : Type} (bd : σt → (Int) → Option (Stp σt R)) (s0 : σt) (y1 : Config) : Option (Stp σt R) := ((G_defect_rules).bind fun t_1 => ((loopω (G_defect_All_1.b1 bd s0 y1 t_1) (0, s0)).bind fun o => o.on (fun s1 => some (.next s1.2)) (fun r => some r)))
set_option maxRecDepth 100000 in
set_option maxHeartbeats 4000000 in
theorem G_defect_All_1.calls {σt R : Type} (bd : σt → (Int) → Option (Stp σt R)) (s0 : σt) (y1 : Config) (B1 : Addr) (sv1 : SV) (l : Nat) (w : World) {S : Nat → Prop} (hB1 : El kd_Config S w B1 y1 sv1) {J : σt → (Nat → Prop) → World → Prop} {Jx : R → World → Prop} (hq : SeqH Try.prog l G_defect_All_1.enc G_defect_All_1.fct bd J Jx) (hJ : J s0 S w) (r : Stp σt R) (h : G_defect_All_1 bd s0 y1 = some r) :
    Calls Try.prog 90 #[.func (.yield l) #[] #[], .pointer (some B1)] w fun e w' => (∃ v, e = .returned v) ∧ SeqPost J Jx r w' := by
  replace hB1 := El.lo hB1
  unfold G_defect_All_1 at h
  have H0 := h
  clear h
  refine enter Try.func90 rfl [.func (.yield l) #[] #[], .pointer (some B1)] (n := 24) rfl (Nat.le_of_ble_eq_true rfl) (fun a hI => ?_)
  have hF : FOpen Fence.wide := .inl rfl
  have hE := Ep.start w
  refine wpIn_seq ?_
  refine wpIn_region_lit ?_
  obtain ⟨t_1, hG_2, H0⟩ := bind_some H0
  refine callH_ (S0 := S) hF hE hI (wanted_none rfl) rfl (args := []) rfl (enters Try.func91 (by kernel_rfl) rfl) (fun sv_3 => .slice ((sv_3 0).1) t_1.length ((sv_3 0).2)) _ (G_defect_rules.calls   w (S := Lo S w w [] [])  _ hG_2) (fun sv_3 => ⟨[⟨5, [], .v (.slice ((sv_3 0).1) t_1.length ((sv_3 0).2))⟩, ⟨0, [], .v (.func (.yield l) #[] #[])⟩, ⟨1, [], .v (.pointer (some B1))⟩], [], [], [], none, none⟩) (fun sv_3 => by kernel_rfl) (fun sv_3 a w_5 hput hE' hI' hmv hmr hres hR => ?_)
  replace hB1 := El.keep hB1 hmv
  replace hE := hE'
  replace hI := hI'
  clear hE' hI' hmv hmr
  obtain ⟨hR_4, hR_4c⟩ := hR
  replace hR_4 := Arr.keep hR_4 hres
  clear hres
  refine chunkL_ (live := [7, 6, 5, 0, 1]) (orc := []) hF 2 hI ⟨[⟨7, [], .v (.int .i64 0)⟩, ⟨6, [], .v (.int .i64 (t_1.length : Int))⟩, ⟨5, [], .v (.slice ((sv_3 0).1) t_1.length ((sv_3 0).2))⟩, ⟨0, [], .v (.func (.yield l) #[] #[])⟩, ⟨1, [], .v (.pointer (some B1))⟩], [], [], [], none, none⟩ [] rfl (by kernel_rfl) trivial (fun ns_6 a w_7 hI => ?_)
  refine wpListIn_nil ?_
  refine then_normal ?_
  obtain ⟨hE', hmv, hmr⟩ := Ep.rebase (S0 := S) hE hI
  replace hB1 := El.keep hB1 hmv
  replace hR_4 := Arr.keep hR_4 hmv
  replace hE := hE'
  replace hI := hI.rebase
  clear hE' hmv hmr
  have hJ' := hq.new _ _ (Tc (Lo S w w_7 ns_6 []) w_7) _ _ hJ (hE.below hI) Tc.new
  obtain ⟨o_46, hL_47, H0⟩ := bind_some H0
  refine block_loop (fun (s1 : Int × σt) a w_48 => ∃ (T : Nat → Prop), (El kd_Config T w_48 B1 y1 sv1) ∧ (Arr kd_Defect_rule T w_48 (sv_3 0).1 t_1) ∧ J s1.2 T w_48 ∧ St w_48 [] 24 ⟨[⟨7, [], .v (.int .i64 s1.1)⟩, ⟨6, [], .v (.int .i64 (t_1.length : Int))⟩, ⟨5, [], .v (.slice ((sv_3 0).1) t_1.length ((sv_3 0).2))⟩, ⟨0, [], .v (.func (.yield l) #[] #[])⟩, ⟨1, [], .v (.pointer (some B1))⟩], [], [], [], none, none⟩ [] a w_48) (0, s0) hL_47 ⟨_, El.keep hB1 (Tc.mv _ _), Arr.keep hR_4 (Tc.mv _ _), hJ', (hI.pick [7, 6, 5, 0, 1] 0 ⟨[⟨7, [], .v (.int .i64 0)⟩, ⟨6, [], .v (.int .i64 (t_1.length : Int))⟩, ⟨5, [], .v (.slice ((sv_3 0).1) t_1.length ((sv_3 0).2))⟩, ⟨0, [], .v (.func (.yield l) #[] #[])⟩, ⟨1, [], .v (.pointer (some B1))⟩], [], [], [], none, none⟩ (by kernel_rfl)).reset rfl rfl rfl _⟩ ?_ ?_
  · clear hI hE hJ hJ'
    rintro s1 a w ⟨S, hB1, hR_4, hJ, hI⟩ r1 H1
    unfold G_defect_All_1.b1 at H1
    have hE := Ep.start w
    replace hB1 := El.lo hB1
    replace hR_4 := Arr.lo hR_4
    refine seq_region (live := [8, 7, 6, 5, 0, 1]) (orc := []) hF hI ⟨[⟨8, [], .v (.bool (decide (s1.1 < (t_1.length : Int))))⟩, ⟨7, [], .v (.int .i64 s1.1)⟩, ⟨6, [], .v (.int .i64 (t_1.length : Int))⟩, ⟨5, [], .v (.slice ((sv_3 0).1) t_1.length ((sv_3 0).2))⟩, ⟨0, [], .v (.func (.yield l) #[] #[])⟩, ⟨1, [], .v (.pointer (some B1))⟩], [], [], [], none, none⟩ [] (by kernel_rfl) trivial (fun ns_8 a w_9 hI _ => ?_)
    refine wpIn_seq ?_
    refine cond_ hI (decide (s1.1 < (t_1.length : Int))) rfl (fun hc_10 => ?_) (fun hc_10 => ?_)
    · replace H1 := bif_t hc_10 H1
      refine wpIn_skip ?_
      refine then_normal ?_
      refine wpIn_seq ?_
      refine wpIn_block ?_
      obtain ⟨hN_11, H1⟩ := req_some H1
      obtain ⟨sv_12, hE_14, hA_13⟩ := Arr.elB (d := kd_Defect_rule) hR_4 s1.1 true (fun _ => hN_11)
      replace hE_14 := hE_14 rfl
      replace hA_13 := fun (_ : true = true) => hA_13 rfl
      refine seq_region (live := [3, 4, 7, 6, 5, 0, 1]) (orc := [(kd_Defect_rule).cells (rd t_1 s1.1) sv_12]) hF hI ⟨[⟨3, [], .v (.int .i64 s1.1)⟩, ⟨4, [], .p 0 0⟩, ⟨7, [], .v (.int .i64 s1.1)⟩, ⟨6, [], .v (.int .i64 (t_1.length : Int))⟩, ⟨5, [], .v (.slice ((sv_3 0).1) t_1.length ((sv_3 0).2))⟩, ⟨0, [], .v (.func (.yield l) #[] #[])⟩, ⟨1, [], .v (.pointer (some B1))⟩], [], [], [((((kd_Defect_rule).cells (rd t_1 s1.1) sv_12).map EV.v), 124)], none, none⟩ [.need true (0 ≤ s1.1 ∧ s1.1 < (t_1.length : Int)), .need true ((sv_3 0).1 = some (adr ((sv_3 0).1))), .cell true ((adr ((sv_3 0).1)).add ((s1.1 : Int).toNat * 1)) ((kd_Defect_rule).cells (rd t_1 s1.1) sv_12)] (by kernel_rfl) ⟨ob_inb (fun _ => hN_11), hA_13, ob_el (fun _ => hE_14) 0 ((kd_Defect_rule).cells (rd t_1 s1.1) sv_12) rfl, trivial⟩ (fun ns_15 a w_16 hI _ => ?_)
      refine wpIn_seq ?_
      refine wpIn_region_lit ?_
      obtain ⟨t_17, hG_18, H1⟩ := bind_some H1
      refine chunkT_ (liveT := [19, 18, 17, 16, 7, 6, 5, 0, 1]) (liveF := [16, 7, 6, 5, 0, 1]) (orc := [(kd_Config).cells y1 sv1, [.bool t_17]]) hF 8 hI (t_17) ⟨[⟨19, [], .v (.int .i64 (IntKind.i64.wrap (s1.1 + 1)))⟩, ⟨18, [], .v (.int .i64 s1.1)⟩, ⟨17, [], .v (.func (.yield l) #[] #[])⟩, ⟨16, [], .v (.bool t_17)⟩, ⟨7, [], .v (.int .i64 s1.1)⟩, ⟨6, [], .v (.int .i64 (t_1.length : Int))⟩, ⟨5, [], .v (.slice ((sv_3 0).1) t_1.length ((sv_3 0).2))⟩, ⟨0, [], .v (.func (.yield l) #[] #[])⟩, ⟨1, [], .v (.pointer (some B1))⟩], [], [], [((((kd_Defect_rule).cells (rd t_1 s1.1) sv_12).map EV.v), 124)], none, none⟩ ⟨[⟨16, [], .v (.bool t_17)⟩, ⟨7, [], .v (.int .i64 s1.1)⟩, ⟨6, [], .v (.int .i64 (t_1.length : Int))⟩, ⟨5, [], .v (.slice ((sv_3 0).1) t_1.length ((sv_3 0).2))⟩, ⟨0, [], .v (.func (.yield l) #[] #[])⟩, ⟨1, [], .v (.pointer (some B1))⟩], [], [], [((((kd_Defect_rule).cells (rd t_1 s1.1) sv_12).map EV.v), 124)], none, none⟩ [.cell true B1 ((kd_Config).cells y1 sv1), .call true (fid31 ((rd t_1 s1.1).holds)) (([.agg ((kd_Config).cells y1 sv1).toArray] : List Value) ++ (fca31 ((rd t_1 s1.1).holds) sv_12).toList) (.bool t_17)] rfl (by kernel_rfl) ⟨ob_el (fun _ => hB1) 0 ((kd_Config).cells y1 sv1) rfl, ob_call (Fn31.ent ((rd t_1 s1.1).holds)) (fun hg wz hk => Fn31.calls ((rd t_1 s1.1).holds) y1 sv_12 sv1 wz (S := fun _ => True) (Kd.any _ (Kd.keep kdF31 (hE_14).cont.1 (Lo.on hk))) (Kd.any _ (Kd.keep kd_Config (contI (S := Lo S w w [] []) (w := w) (d := kd_Config) (x := y1) (sv := sv1) ⟨⟨(hB1).cont.1.1, (hB1).cont.1.2⟩, ⟨(hB1).cont.2.1.1, (hB1).cont.2.1.2⟩, ⟨(hB1).cont.2.2.1.1, (hB1).cont.2.2.1.2⟩, ⟨(hB1).cont.2.2.2.1.1, (hB1).cont.2.2.2.1.2⟩, trivial⟩) (Lo.on hk))) _ hG_18), trivial⟩ (fun hb_19 ns_20 a w_21 hI hW => ?_) (fun hb_19 ns_22 a w_23 hI hW => ?_)
      · replace H1 := bif_t hb_19 H1
        obtain ⟨hE', hmv, hmr⟩ := Ep.rebase (S0 := S) hE hI
        replace hB1 := El.keep hB1 hmv
        replace hR_4 := Arr.keep hR_4 hmv
        replace hE_14 := El.keep hE_14 hmv
        replace hE := hE'
        replace hI := hI.rebase
        clear hE' hmv hmr
        have hct := contI (S := Lo S w w_21 ns_20 []) (w := w_21) (d := kd_Defect_rule) (x := (rd t_1 s1.1)) (sv := sv_12) ⟨(hE_14).cont.1, trivial⟩
        obtain ⟨B_24, ns_26, hE', hI', hmv, hB_25⟩ := freeze_ (S0 := S) (d := kd_Defect_rule) hE hI 0 (rd t_1 s1.1) sv_12 124 rfl
        replace hB_25 := hB_25 hct
        clear hct
        have hmr : ∀ b : Nat, some b ∈ ([] : List (Option Nat)) → w_21.heap[b]? = w_21.heap[b]? := fun _ _ => rfl
        replace hB1 := El.keep hB1 hmv
        replace hR_4 := Arr.keep hR_4 hmv
        replace hE_14 := El.keep hE_14 hmv
        replace hE := hE'
        replace hI := hI'
        clear hE' hI' hmv hmr
        obtain ⟨ns_27, hE', hI', hmv⟩ := hE.cut (S0 := S) hI [19, 18, 17, 16, 7, 6, 5, 0, 1] 0 ⟨[⟨19, [], .v (.int .i64 (IntKind.i64.wrap (s1.1 + 1)))⟩, ⟨18, [], .v (.int .i64 s1.1)⟩, ⟨17, [], .v (.func (.yield l) #[] #[])⟩, ⟨16, [], .v (.bool t_17)⟩, ⟨7, [], .v (.int .i64 s1.1)⟩, ⟨6, [], .v (.int .i64 (t_1.length : Int))⟩, ⟨5, [], .v (.slice ((sv_3 0).1) t_1.length ((sv_3 0).2))⟩, ⟨0, [], .v (.func (.yield l) #[] #[])⟩, ⟨1, [], .v (.pointer (some B1))⟩], [], [], [], none, none⟩ (by kernel_rfl)
        have hmr : ∀ b : Nat, some b ∈ ([] : List (Option Nat)) → w_21.heap[b]? = w_21.heap[b]? := fun _ _ => rfl
        replace hB1 := El.keep hB1 hmv
        replace hR_4 := Arr.keep hR_4 hmv
        replace hE_14 := El.keep hE_14 hmv
        replace hB_25 := El.keep hB_25 hmv
        replace hE := hE'
        replace hI := hI'
        clear hE' hI' hmv hmr
        obtain ⟨hE', hmv⟩ := hE.bare (S0 := S)
        replace hB1 := El.keep hB1 hmv
        replace hR_4 := Arr.keep hR_4 hmv
        replace hE_14 := El.keep hE_14 hmv
        replace hB_25 := El.keep hB_25 hmv
        replace hE := hE'
        replace hI := hI.reset rfl rfl rfl w_21
        clear hE' hmv
        obtain ⟨z_28, hz_29, H1⟩ := bind_some H1
        refine yield_ (S0 := S) hq hF hE hI rfl rfl rfl hW rfl rfl rfl hJ (IntKind.i64.wrap (s1.1 + 1)) (svL []) rfl hz_29 trivial ⟨[⟨20, [], .v (.bool true)⟩, ⟨19, [], .v (.int .i64 (IntKind.i64.wrap (s1.1 + 1)))⟩, ⟨18, [], .v (.int .i64 s1.1)⟩, ⟨17, [], .v (.func (.yield l) #[] #[])⟩, ⟨16, [], .v (.bool t_17)⟩, ⟨7, [], .v (.int .i64 s1.1)⟩, ⟨6, [], .v (.int .i64 (t_1.length : Int))⟩, ⟨5, [], .v (.slice ((sv_3 0).1) t_1.length ((sv_3 0).2))⟩, ⟨0, [], .v (.func (.yield l) #[] #[])⟩, ⟨1, [], .v (.pointer (some B1))⟩], [], [], [], none, none⟩ ⟨[⟨20, [], .v (.bool false)⟩, ⟨19, [], .v (.int .i64 (IntKind.i64.wrap (s1.1 + 1)))⟩, ⟨18, [], .v (.int .i64 s1.1)⟩, ⟨17, [], .v (.func (.yield l) #[] #[])⟩, ⟨16, [], .v (.bool t_17)⟩, ⟨7, [], .v (.int .i64 s1.1)⟩, ⟨6, [], .v (.int .i64 (t_1.length : Int))⟩, ⟨5, [], .v (.slice ((sv_3 0).1) t_1.length ((sv_3 0).2))⟩, ⟨0, [], .v (.func (.yield l) #[] #[])⟩, ⟨1, [], .v (.pointer (some B1))⟩], [], [], [], none, none⟩ (by kernel_rfl) (by kernel_rfl) (fun S s_30 a w hzz hJ' hE' hI' hmv => ?_) (fun r_31 a w hzz hJ' hE' hI' => ?_)
        · subst hzz
          replace hB1 := El.lo (El.keep hB1 hmv)
          replace hR_4 := Arr.lo (Arr.keep hR_4 hmv)
          replace hE_14 := El.lo (El.keep hE_14 hmv)
          replace hB_25 := El.lo (El.keep hB_25 hmv)
          replace hE := hE'
          replace hI := hI'
          replace hJ := hJ'
          clear hE' hI' hJ' hmv
          replace H1 : (some (.next ((IntKind.i64.wrap (s1.1 + 1)), s_30)) : Option (Stp (Int × σt) (Ex (Int × σt) (Stp σt R)))) = _ := H1
          refine unguardK_ hI t_17 (by kernel_rfl) (by simp [hb_19]) ?_
          refine chunkL_ (live := [21, 20, 19, 18, 17, 16, 7, 6, 5, 0, 1]) (orc := []) hF 1 hI ⟨[⟨21, [], .v (.bool false)⟩, ⟨20, [], .v (.bool true)⟩, ⟨19, [], .v (.int .i64 (IntKind.i64.wrap (s1.1 + 1)))⟩, ⟨18, [], .v (.int .i64 s1.1)⟩, ⟨17, [], .v (.func (.yield l) #[] #[])⟩, ⟨16, [], .v (.bool t_17)⟩, ⟨7, [], .v (.int .i64 s1.1)⟩, ⟨6, [], .v (.int .i64 (t_1.length : Int))⟩, ⟨5, [], .v (.slice ((sv_3 0).1) t_1.length ((sv_3 0).2))⟩, ⟨0, [], .v (.func (.yield l) #[] #[])⟩, ⟨1, [], .v (.pointer (some B1))⟩], [], [], [], none, none⟩ [] rfl (by kernel_rfl) trivial (fun ns_32 a w_33 hI => ?_)
          refine pick1 hF hI rfl rfl (t_17) true rfl (by simp [hb_19]) rfl ⟨[⟨22, [], .v (.bool false)⟩, ⟨21, [], .v (.bool false)⟩, ⟨20, [], .v (.bool true)⟩, ⟨19, [], .v (.int .i64 (IntKind.i64.wrap (s1.1 + 1)))⟩, ⟨18, [], .v (.int .i64 s1.1)⟩, ⟨17, [], .v (.func (.yield l) #[] #[])⟩, ⟨16, [], .v (.bool t_17)⟩, ⟨7, [], .v (.int .i64 s1.1)⟩, ⟨6, [], .v (.int .i64 (t_1.length : Int))⟩, ⟨5, [], .v (.slice ((sv_3 0).1) t_1.length ((sv_3 0).2))⟩, ⟨0, [], .v (.func (.yield l) #[] #[])⟩, ⟨1, [], .v (.pointer (some B1))⟩], [], [], [], none, none⟩ (by kernel_rfl) (fun a hI => ?_)
          refine chunkL_ (live := [22, 21, 20, 19, 18, 17, 7, 6, 5, 0, 1]) (orc := []) hF 0 hI ⟨[⟨22, [], .v (.bool false)⟩, ⟨21, [], .v (.bool false)⟩, ⟨20, [], .v (.bool true)⟩, ⟨19, [], .v (.int .i64 (IntKind.i64.wrap (s1.1 + 1)))⟩, ⟨18, [], .v (.int .i64 s1.1)⟩, ⟨17, [], .v (.func (.yield l) #[] #[])⟩, ⟨7, [], .v (.int .i64 s1.1)⟩, ⟨6, [], .v (.int .i64 (t_1.length : Int))⟩, ⟨5, [], .v (.slice ((sv_3 0).1) t_1.length ((sv_3 0).2))⟩, ⟨0, [], .v (.func (.yield l) #[] #[])⟩, ⟨1, [], .v (.pointer (some B1))⟩], [], [], [], none, none⟩ [] rfl (by kernel_rfl) trivial (fun ns_34 a w_35 hI => ?_)
          refine wpListIn_nil ?_
          refine then_normal ?_
          refine cond_ hI false rfl (fun h => by cases h) (fun _ => ?_)
          refine wpIn_skip ?_
          refine inBlock_normal ?_
          refine then_normal ?_
          refine region_ (live := [7, 21, 20, 19, 18, 17, 6, 5, 0, 1]) (orc := []) hF hI ⟨[⟨7, [], .v (.int .i64 (IntKind.i64.wrap (s1.1 + 1)))⟩, ⟨21, [], .v (.bool false)⟩, ⟨20, [], .v (.bool true)⟩, ⟨19, [], .v (.int .i64 (IntKind.i64.wrap (s1.1 + 1)))⟩, ⟨18, [], .v (.int .i64 s1.1)⟩, ⟨17, [], .v (.func (.yield l) #[] #[])⟩, ⟨6, [], .v (.int .i64 (t_1.length : Int))⟩, ⟨5, [], .v (.slice ((sv_3 0).1) t_1.length ((sv_3 0).2))⟩, ⟨0, [], .v (.func (.yield l) #[] #[])⟩, ⟨1, [], .v (.pointer (some B1))⟩], [], [], [], none, none⟩ [] (by kernel_rfl) trivial (fun ns_36 a w_37 hI _ => ?_)
          refine then_normal ?_
          obtain ⟨hE', hmv, hmr⟩ := Ep.rebase (S0 := S) hE hI
          replace hB1 := El.keep hB1 hmv
          replace hR_4 := Arr.keep hR_4 hmv
          replace hE_14 := El.keep hE_14 hmv
          replace hB_25 := El.keep hB_25 hmv
          replace hE := hE'
          replace hI := hI.rebase
          clear hE' hmv hmr
          have hJ' := hq.new _ _ (Tc (Lo S w w_37 ns_36 []) w_37) _ _ hJ (hE.below hI) Tc.new
          obtain rfl := Option.some.inj H1
          exact ⟨_, rfl, ⟨_, El.keep hB1 (Tc.mv _ _), Arr.keep hR_4 (Tc.mv _ _), hJ', (hI.pick [7, 6, 5, 0, 1] 0 ⟨[⟨7, [], .v (.int .i64 (IntKind.i64.wrap (s1.1 + 1)))⟩, ⟨6, [], .v (.int .i64 (t_1.length : Int))⟩, ⟨5, [], .v (.slice ((sv_3 0).1) t_1.length ((sv_3 0).2))⟩, ⟨0, [], .v (.func (.yield l) #[] #[])⟩, ⟨1, [], .v (.pointer (some B1))⟩], [], [], [], none, none⟩ (by kernel_rfl)).reset rfl rfl rfl _⟩⟩
        · subst hzz
          replace hE := hE'
          replace hI := hI'
          replace hJ := hJ'
          clear hE' hI' hJ'
          replace H1 : (some (.out (.ret (.out r_31))) : Option (Stp (Int × σt) (Ex (Int × σt) (Stp σt R)))) = _ := H1
          refine unguardK_ hI t_17 (by kernel_rfl) (by simp [hb_19]) ?_
          refine chunkL_ (live := [21, 20, 19, 18, 17, 16, 7, 6, 5, 0, 1]) (orc := []) hF 1 hI ⟨[⟨21, [], .v (.bool true)⟩, ⟨20, [], .v (.bool false)⟩, ⟨19, [], .v (.int .i64 (IntKind.i64.wrap (s1.1 + 1)))⟩, ⟨18, [], .v (.int .i64 s1.1)⟩, ⟨17, [], .v (.func (.yield l) #[] #[])⟩, ⟨16, [], .v (.bool t_17)⟩, ⟨7, [], .v (.int .i64 s1.1)⟩, ⟨6, [], .v (.int .i64 (t_1.length : Int))⟩, ⟨5, [], .v (.slice ((sv_3 0).1) t_1.length ((sv_3 0).2))⟩, ⟨0, [], .v (.func (.yield l) #[] #[])⟩, ⟨1, [], .v (.pointer (some B1))⟩], [], [], [], none, none⟩ [] rfl (by kernel_rfl) trivial (fun ns_38 a w_39 hI => ?_)
          refine pick1 hF hI rfl rfl (t_17) true rfl (by simp [hb_19]) rfl ⟨[⟨22, [], .v (.bool true)⟩, ⟨21, [], .v (.bool true)⟩, ⟨20, [], .v (.bool false)⟩, ⟨19, [], .v (.int .i64 (IntKind.i64.wrap (s1.1 + 1)))⟩, ⟨18, [], .v (.int .i64 s1.1)⟩, ⟨17, [], .v (.func (.yield l) #[] #[])⟩, ⟨16, [], .v (.bool t_17)⟩, ⟨7, [], .v (.int .i64 s1.1)⟩, ⟨6, [], .v (.int .i64 (t_1.length : Int))⟩, ⟨5, [], .v (.slice ((sv_3 0).1) t_1.length ((sv_3 0).2))⟩, ⟨0, [], .v (.func (.yield l) #[] #[])⟩, ⟨1, [], .v (.pointer (some B1))⟩], [], [], [], none, none⟩ (by kernel_rfl) (fun a hI => ?_)
          refine chunkL_ (live := [22, 21, 20, 19, 18, 17, 7, 6, 5, 0, 1]) (orc := []) hF 0 hI ⟨[⟨22, [], .v (.bool true)⟩, ⟨21, [], .v (.bool true)⟩, ⟨20, [], .v (.bool false)⟩, ⟨19, [], .v (.int .i64 (IntKind.i64.wrap (s1.1 + 1)))⟩, ⟨18, [], .v (.int .i64 s1.1)⟩, ⟨17, [], .v (.func (.yield l) #[] #[])⟩, ⟨7, [], .v (.int .i64 s1.1)⟩, ⟨6, [], .v (.int .i64 (t_1.length : Int))⟩, ⟨5, [], .v (.slice ((sv_3 0).1) t_1.length ((sv_3 0).2))⟩, ⟨0, [], .v (.func (.yield l) #[] #[])⟩, ⟨1, [], .v (.pointer (some B1))⟩], [], [], [], none, none⟩ [] rfl (by kernel_rfl) trivial (fun ns_40 a w_41 hI => ?_)
          refine wpListIn_nil ?_
          refine then_normal ?_
          refine cond_ hI true rfl (fun _ => ?_) (fun h => by cases h)
          refine wpIn_ret ?_
          refine inBlock_ret ?_
          refine then_ret ?_
          refine then_ret ?_
          obtain rfl := Option.some.inj H1
          refine .inr ⟨_, rfl, fun ho => ?_⟩
          subst ho
          refine inBlock_ret ?_
          obtain rfl := Option.some.inj H0
          exact retG hI rfl rfl ⟨⟨_, rfl⟩, SeqPost.fin (hq.stop _ _ _ hJ (hE.below hI))⟩
      · replace H1 := bif_f hb_19 H1
        refine skip1 hF hI hW ⟨[⟨16, [], .v (.bool t_17)⟩, ⟨7, [], .v (.int .i64 s1.1)⟩, ⟨6, [], .v (.int .i64 (t_1.length : Int))⟩, ⟨5, [], .v (.slice ((sv_3 0).1) t_1.length ((sv_3 0).2))⟩, ⟨0, [], .v (.func (.yield l) #[] #[])⟩, ⟨1, [], .v (.pointer (some B1))⟩], [], [], [((((kd_Defect_rule).cells (rd t_1 s1.1) sv_12).map EV.v), 124)], none, none⟩ (by kernel_rfl) (fun a hI => ?_)
        refine wantK_then hI t_17 (by kernel_rfl) (by simp [hb_19]) (fun hW => ?_)
        refine skip1 hF hI hW ⟨[⟨16, [], .v (.bool t_17)⟩, ⟨7, [], .v (.int .i64 s1.1)⟩, ⟨6, [], .v (.int .i64 (t_1.length : Int))⟩, ⟨5, [], .v (.slice ((sv_3 0).1) t_1.length ((sv_3 0).2))⟩, ⟨0, [], .v (.func (.yield l) #[] #[])⟩, ⟨1, [], .v (.pointer (some B1))⟩], [], [], [((((kd_Defect_rule).cells (rd t_1 s1.1) sv_12).map EV.v), 124)], none, none⟩ (by kernel_rfl) (fun a hI => ?_)
        refine pick1 hF hI rfl rfl (t_17) false rfl (by simp [hb_19]) rfl ⟨[⟨22, [], .v (.bool false)⟩, ⟨16, [], .v (.bool t_17)⟩, ⟨7, [], .v (.int .i64 s1.1)⟩, ⟨6, [], .v (.int .i64 (t_1.length : Int))⟩, ⟨5, [], .v (.slice ((sv_3 0).1) t_1.length ((sv_3 0).2))⟩, ⟨0, [], .v (.func (.yield l) #[] #[])⟩, ⟨1, [], .v (.pointer (some B1))⟩], [], [], [((((kd_Defect_rule).cells (rd t_1 s1.1) sv_12).map EV.v), 124)], none, none⟩ (by kernel_rfl) (fun a hI => ?_)
        refine chunkL_ (live := [22, 7, 6, 5, 0, 1]) (orc := []) hF 0 hI ⟨[⟨22, [], .v (.bool false)⟩, ⟨7, [], .v (.int .i64 s1.1)⟩, ⟨6, [], .v (.int .i64 (t_1.length : Int))⟩, ⟨5, [], .v (.slice ((sv_3 0).1) t_1.length ((sv_3 0).2))⟩, ⟨0, [], .v (.func (.yield l) #[] #[])⟩, ⟨1, [], .v (.pointer (some B1))⟩], [], [], [((((kd_Defect_rule).cells (rd t_1 s1.1) sv_12).map EV.v), 124)], none, none⟩ [] rfl (by kernel_rfl) trivial (fun ns_42 a w_43 hI => ?_)
        refine wpListIn_nil ?_
        refine then_normal ?_
        refine cond_ hI false rfl (fun h => by cases h) (fun _ => ?_)
        refine wpIn_skip ?_
        refine inBlock_normal ?_
        refine then_normal ?_
        refine region_ (live := [7, 6, 5, 0, 1]) (orc := []) hF hI ⟨[⟨7, [], .v (.int .i64 (IntKind.i64.wrap (s1.1 + 1)))⟩, ⟨6, [], .v (.int .i64 (t_1.length : Int))⟩, ⟨5, [], .v (.slice ((sv_3 0).1) t_1.length ((sv_3 0).2))⟩, ⟨0, [], .v (.func (.yield l) #[] #[])⟩, ⟨1, [], .v (.pointer (some B1))⟩], [], [], [((((kd_Defect_rule).cells (rd t_1 s1.1) sv_12).map EV.v), 124)], none, none⟩ [] (by kernel_rfl) trivial (fun ns_44 a w_45 hI _ => ?_)
        refine then_normal ?_
        obtain ⟨hE', hmv, hmr⟩ := Ep.rebase (S0 := S) hE hI
        replace hB1 := El.keep hB1 hmv
        replace hR_4 := Arr.keep hR_4 hmv
        replace hE_14 := El.keep hE_14 hmv
        replace hE := hE'
        replace hI := hI.rebase
        clear hE' hmv hmr
        have hJ' := hq.new _ _ (Tc (Lo S w w_45 ns_44 []) w_45) _ _ hJ (hE.below hI) Tc.new
        obtain rfl := Option.some.inj H1
        exact ⟨_, rfl, ⟨_, El.keep hB1 (Tc.mv _ _), Arr.keep hR_4 (Tc.mv _ _), hJ', (hI.pick [7, 6, 5, 0, 1] 0 ⟨[⟨7, [], .v (.int .i64 (IntKind.i64.wrap (s1.1 + 1)))⟩, ⟨6, [], .v (.int .i64 (t_1.length : Int))⟩, ⟨5, [], .v (.slice ((sv_3 0).1) t_1.length ((sv_3 0).2))⟩, ⟨0, [], .v (.func (.yield l) #[] #[])⟩, ⟨1, [], .v (.pointer (some B1))⟩], [], [], [], none, none⟩ (by kernel_rfl)).reset rfl rfl rfl _⟩⟩
    · replace H1 := bif_f hc_10 H1
      refine wpIn_exit ?_
      refine then_exit ?_
      refine then_exit ?_
      obtain ⟨hE', hmv, hmr⟩ := Ep.rebase (S0 := S) hE hI
      replace hB1 := El.keep hB1 hmv
      replace hR_4 := Arr.keep hR_4 hmv
      replace hE := hE'
      replace hI := hI.rebase
      clear hE' hmv hmr
      have hJ' := hq.new _ _ (Tc (Lo S w w_9 ns_8 []) w_9) _ _ hJ (hE.below hI) Tc.new
      obtain rfl := Option.some.inj H1
      exact .inl ⟨_, rfl, rfl, ⟨_, El.keep hB1 (Tc.mv _ _), Arr.keep hR_4 (Tc.mv _ _), hJ', (hI.pick [7, 6, 5, 0, 1] 0 ⟨[⟨7, [], .v (.int .i64 s1.1)⟩, ⟨6, [], .v (.int .i64 (t_1.length : Int))⟩, ⟨5, [], .v (.slice ((sv_3 0).1) t_1.length ((sv_3 0).2))⟩, ⟨0, [], .v (.func (.yield l) #[] #[])⟩, ⟨1, [], .v (.pointer (some B1))⟩], [], [], [], none, none⟩ (by kernel_rfl)).reset rfl rfl rfl _⟩⟩
  · clear hI hE hJ hJ'
    rintro s1 a w ho ⟨S, hB1, hR_4, hJ, hI⟩
    subst ho
    replace H0 : (some (.next s1.2) : Option (Stp σt R)) = _ := H0
    have hE := Ep.start w
    replace hB1 := El.lo hB1
    replace hR_4 := Arr.lo hR_4
    obtain rfl := Option.some.inj H0
    exact retN (retG hI rfl rfl ⟨⟨_, rfl⟩, SeqPost.nxt (fun _ => False) (hq.new _ _ _ _ _ hJ (hE.below hI) (fun _ h => h.elim))⟩)

/-! ### porthole/defect.All: function 89 -/
noncomputable def G_defect_All (x0 : Config) : Option (Config) := some x0
set_option maxRecDepth 100000 in
set_option maxHeartbeats 4000000 in
theorem G_defect_All.calls (x0 : Config) (sv0 : SV) (w : World) {S : Nat → Prop} (hx0 : (kd_Config).cont S w x0 sv0) (r : Config) (h : G_defect_All x0 = some r) :
    Calls Try.prog 89 #[.agg ((kd_Config).cells x0 sv0).toArray] w fun e w' => ∃ sv : SV, e = .returned (.func (.func 90) #[] #[.pointer (some (adr (sv 0).1))]) ∧ Below w.heap.size w w' ∧ El kd_Config (fun b => w.heap.size ≤ b ∨ S b) w' (adr (sv 0).1) r (svO sv 1) := by
  replace hx0 := Kd.lo _ hx0
  unfold G_defect_All at h
  have H0 := h
  clear h
  refine enter Try.func89 rfl [.agg ((kd_Config).cells x0 sv0).toArray] (n := 4) rfl (Nat.le_of_ble_eq_true rfl) (fun a hI => ?_)
  have hF : FOpen Fence.wide := .inl rfl
  have hE := Ep.start w
  refine seq_region (live := [2, 1]) (orc := []) hF hI ⟨[⟨2, [], .v (.nilFunc)⟩, ⟨1, [], .p 0 0⟩], [], [], [((((kd_Config).cells x0 sv0).map EV.v), 29)], none, none⟩ [] (by kernel_rfl) trivial (fun ns_1 a w_2 hI _ => ?_)
  refine wpIn_seq ?_
  refine wpIn_region_lit ?_
  obtain ⟨hE', hmv, hmr⟩ := Ep.rebase (S0 := S) hE hI
  replace hx0 := Kd.keep _ hx0 hmv
  replace hE := hE'
  replace hI := hI.rebase
  clear hE' hmv hmr
  have hct := contI (S := Lo S w w_2 ns_1 []) (w := w_2) (d := kd_Config) (x := x0) (sv := sv0) ⟨⟨hx0.1.1, hx0.1.2⟩, ⟨hx0.2.1.1, hx0.2.1.2⟩, ⟨hx0.2.2.1.1, hx0.2.2.1.2⟩, ⟨hx0.2.2.2.1.1, hx0.2.2.2.1.2⟩, trivial⟩
  obtain ⟨B_3, ns_5, hE', hI', hmv, hB_4⟩ := freeze_ (S0 := S) (d := kd_Config) hE hI 0 x0 sv0 29 rfl
  replace hB_4 := hB_4 hct
  clear hct
  have hmr : ∀ b : Nat, some b ∈ ([] : List (Option Nat)) → w_2.heap[b]? = w_2.heap[b]? := fun _ _ => rfl
  replace hx0 := Kd.keep _ hx0 hmv
  replace hE := hE'
  replace hI := hI'
  clear hE' hI' hmv hmr
  obtain ⟨ns_6, hE', hI', hmv⟩ := hE.cut (S0 := S) hI [2, 1] 0 ⟨[⟨2, [], .v (.nilFunc)⟩, ⟨1, [], .v (.pointer (some B_3))⟩], [], [], [], none, none⟩ (by kernel_rfl)
  have hmr : ∀ b : Nat, some b ∈ ([] : List (Option Nat)) → w_2.heap[b]? = w_2.heap[b]? := fun _ _ => rfl
  replace hx0 := Kd.keep _ hx0 hmv
  replace hB_4 := El.keep hB_4 hmv
  replace hE := hE'
  replace hI := hI'
  clear hE' hI' hmv hmr
  refine chunkL_ (live := [3, 2, 1]) (orc := []) hF 1 hI ⟨[⟨3, [], .v (.func (.func 90) #[] #[.pointer (some B_3)])⟩, ⟨2, [], .v (.nilFunc)⟩, ⟨1, [], .v (.pointer (some B_3))⟩], [], [], [], none, none⟩ [] rfl (by kernel_rfl) trivial (fun ns_7 a w_8 hI => ?_)
  refine chunkL_ (live := [2]) (orc := []) hF 1 hI ⟨[⟨2, [], .v (.func (.func 90) #[] #[.pointer (some B_3)])⟩], [], [], [], none, none⟩ [] rfl (by kernel_rfl) trivial (fun ns_9 a w_10 hI => ?_)
  refine wpListIn_nil ?_
  refine then_normal ?_
  refine wpIn_ret ?_
  obtain rfl := Option.some.inj H0
  exact ret1 hI rfl rfl ⟨svL [(some B_3, 0), (sv0 0), (sv0 1), (sv0 2), (sv0 3)], rfl, hE.below hI, ⟨(El.keep hB_4 (hE.out hI)).cont, (El.keep hB_4 (hE.out hI)).at_, (El.keep hB_4 (hE.out hI)).cells⟩⟩

/-! ### porthole/defect.First: function 88 -/
noncomputable def G_defect_First.r1 (x0 : Config) (t_5 : Config) (s1 : Int) (y_23 : Int) : Option (Stp (Int) (Nat × (Int))) := some (.out (0, y_23))
noncomputable def G_defect_First (x0 : Config) : Option (Int) := ((G_defect_All x0).bind fun t_5 => ((G_defect_All_1 (G_defect_First.r1 x0 t_5) 0 t_5).bind fun z => z.on (fun s1 => some 0) (fun r1 => some r1.2)))
set_option maxRecDepth 100000 in
set_option maxHeartbeats 4000000 in
theorem G_defect_First.calls (x0 : Config) (sv0 : SV) (w : World) {S : Nat → Prop} (hx0 : (kd_Config).cont S w x0 sv0) (r : Int) (h : G_defect_First x0 = some r) :
    Calls Try.prog 88 #[.agg ((kd_Config).cells x0 sv0).toArray] w fun e w' => e = .returned (.int .i64 r) ∧ Below w.heap.size w w' := by
  replace hx0 := Kd.lo _ hx0
  unfold G_defect_First at h
  have H0 := h
  clear h
  refine enterM Try.func88 rfl [.agg ((kd_Config).cells x0 sv0).toArray] (n := 8) rfl (Nat.le_of_ble_eq_true rfl) (fun a hI => ?_)
  have hF : FOpen Fence.wide := .inl rfl
  have hE := Ep.start w
  refine seq_region (live := [2, 1]) (orc := []) hF hI ⟨[⟨2, [], .p 1 0⟩, ⟨1, [], .p 0 0⟩], [], [], [((((kd_Config).cells x0 sv0).map EV.v), 29), ([.v (.int .i64 0)], 3)], some (w.heap.size, none), none⟩ [] (by kernel_rfl) trivial (fun ns_1 a w_2 hI _ => ?_)
  refine wpIn_seq ?_
  refine wpIn_seq ?_
  refine wpIn_region_lit ?_
  refine chunkL_ (live := [4, 2]) (orc := []) hF 1 hI ⟨[⟨4, [], .v (.agg ((kd_Config).cells x0 sv0).toArray)⟩, ⟨2, [], .p 1 0⟩], [], [], [((((kd_Config).cells x0 sv0).map EV.v), 29), ([.v (.int .i64 0)], 3)], some (w.heap.size, none), none⟩ [] rfl (by kernel_rfl) trivial (fun ns_3 a w_4 hI => ?_)
  obtain ⟨hE', hmv, hmr⟩ := Ep.rebase (S0 := S) hE hI
  replace hx0 := Kd.keep _ hx0 hmv
  replace hE := hE'
  replace hI := hI.rebase
  clear hE' hmv hmr
  obtain ⟨t_5, hG_6, H0⟩ := bind_some H0
  refine callH_ (S0 := S) hF hE hI (wanted_none rfl) rfl (args := [.agg ((kd_Config).cells x0 sv0).toArray]) rfl (enters Try.func89 (by kernel_rfl) rfl) (fun sv_7 => .func (.func 90) #[] #[.pointer (some (adr (sv_7 0).1))]) _ (G_defect_All.calls x0 sv0 w_4 (S := Lo S w w_4 ns_3 []) (contI (S := Lo S w w_4 ns_3 []) (w := w_4) (d := kd_Config) (x := x0) (sv := sv0) ⟨⟨hx0.1.1, hx0.1.2⟩, ⟨hx0.2.1.1, hx0.2.1.2⟩, ⟨hx0.2.2.1.1, hx0.2.2.1.2⟩, ⟨hx0.2.2.2.1.1, hx0.2.2.2.1.2⟩, trivial⟩) _ hG_6) (fun sv_7 => ⟨[⟨5, [], .v (.func (.func 90) #[] #[.pointer (some (adr (sv_7 0).1))])⟩, ⟨4, [], .v (.agg ((kd_Config).cells x0 sv0).toArray)⟩, ⟨2, [], .p 1 0⟩], [], [], [((((kd_Config).cells x0 sv0).map EV.v), 29), ([.v (.int .i64 0)], 3)], some (w.heap.size, none), none⟩) (fun sv_7 => by kernel_rfl) (fun sv_7 a w_9 hput hE' hI' hmv hmr hres hR => ?_)
  replace hx0 := Kd.keep _ hx0 hmv
  replace hE := hE'
  replace hI := hI'
  clear hE' hI' hmv hmr
  have hR_8 := hR
  replace hR_8 := El.keep hR_8 hres
  clear hres
  refine chunkL_ (live := [5, 2]) (orc := []) hF 0 hI ⟨[⟨5, [], .v (.func (.func 90) #[] #[.pointer (some (adr (sv_7 0).1))])⟩, ⟨2, [], .p 1 0⟩], [], [], [((((kd_Config).cells x0 sv0).map EV.v), 29), ([.v (.int .i64 0)], 3)], some (w.heap.size, none), none⟩ [] rfl (by kernel_rfl) trivial (fun ns_10 a w_11 hI => ?_)
  refine wpListIn_nil ?_
  refine then_normal ?_
  refine wpIn_block ?_
  obtain ⟨hE', hmv, hmr⟩ := Ep.rebase (S0 := S) hE hI
  replace hx0 := Kd.keep _ hx0 hmv
  replace hR_8 := El.keep hR_8 hmv
  replace hE := hE'
  replace hI := hI.rebase
  clear hE' hmv hmr
  obtain ⟨ns_12, hE', hI', hmv⟩ := hE.cut (S0 := S) hI [5, 2] 2 ⟨[⟨5, [], .v (.func (.func 90) #[] #[.pointer (some (adr (sv_7 0).1))])⟩, ⟨2, [], .p 1 0⟩], [], [], [((((kd_Config).cells x0 sv0).map EV.v), 29), ([.v (.int .i64 0)], 3)], some (w.heap.size, none), none⟩ (by kernel_rfl)
  have hmr : ∀ b : Nat, some b ∈ ([] : List (Option Nat)) → w_11.heap[b]? = w_11.heap[b]? := fun _ _ => rfl
  replace hx0 := Kd.keep _ hx0 hmv
  replace hR_8 := El.keep hR_8 hmv
  replace hE := hE'
  replace hI := hI'
  clear hE' hI' hmv hmr
  obtain ⟨z_16, hz_17, H0⟩ := bind_some H0
  refine rangeFunc_ (S0 := S) (ps := [6]) hE hI rfl (Nat.le_refl _) (lb := [.pointer (some (adr (sv_7 0).1))]) rfl (enters Try.func90 (by kernel_rfl) rfl) (fun l_13 aR_14 w_15 haR_22 hE' hI' hmv hmr => ?_)
  replace hx0 := Kd.keep _ hx0 hmv
  replace hR_8 := El.keep hR_8 hmv
  replace hE := hE'
  replace hI := hI'
  clear hE' hI' hmv hmr
  refine ⟨Int, Int, Nat × (Int), G_defect_All_1.enc, G_defect_All_1.fct, G_defect_First.r1 x0 t_5, (fun (s1 : Int) (T : Nat → Prop) (W : World) => ((kd_Config).cont (Lo S w W ns_12 [some l_13]) W x0 sv0) ∧ (El kd_Config (Lo S w W ns_12 [some l_13]) W (adr (sv_7 0).1) t_5 (svO sv_7 1)) ∧ Ep w W ns_12 [some l_13] ∧ Inv W ns_12 8 ⟨[⟨5, [], .v (.func (.func 90) #[] #[.pointer (some (adr (sv_7 0).1))])⟩, ⟨2, [], .p 1 0⟩], [], [], [((((kd_Config).cells x0 sv0).map EV.v), 29), ([.v (.int .i64 s1)], 3)], some (w.heap.size, none), none⟩ ns_12 aR_14 W ∧ Tk T W (Lo S w W ns_12 [some l_13]) W), (fun (r : Nat × (Int)) (W : World) => ((kd_Config).cont (Lo S w W ns_12 [some l_13]) W x0 sv0) ∧ (El kd_Config (Lo S w W ns_12 [some l_13]) W (adr (sv_7 0).1) t_5 (svO sv_7 1)) ∧ Ep w W ns_12 [some l_13] ∧ Inv W ns_12 8 ⟨[⟨5, [], .v (.func (.func 90) #[] #[.pointer (some (adr (sv_7 0).1))])⟩, ⟨2, [], .p 1 0⟩], [], [], [((((kd_Config).cells x0 sv0).map EV.v), 29), ([.v (.int .i64 r.2)], 3)], some (w.heap.size, none), none⟩ ns_12 aR_14 W), (fun r => .ret), 0, Tc (Lo S w w_15 ns_12 [some l_13]) w_15, z_16, fun _ _ => rfl, ?_, ?_, ?_, ?_, ?_, ?_, ?_⟩
  · rintro s1 T T' A B row ⟨hx0, hR_8, hE, hI, hT_18⟩ hg hrow hT'
    obtain ⟨hE', hI', hmv, hmr⟩ := hE.turn (S0 := S) hI hg (by simp) hrow
    replace hx0 := Kd.keep _ hx0 hmv
    replace hR_8 := El.keep hR_8 hmv
    exact ⟨hx0, hR_8, hE', hI', hT_18.turn hmv hE hT'⟩
  · rintro r A B row ⟨hx0, hR_8, hE, hI⟩ hg hrow
    obtain ⟨hE', hI', hmv, hmr⟩ := hE.turn (S0 := S) hI hg (by simp) hrow
    replace hx0 := Kd.keep _ hx0 hmv
    replace hR_8 := El.keep hR_8 hmv
    exact ⟨hx0, hR_8, hE', hI'⟩
  · intro J Jx hq hJ
    exact G_defect_All_1.calls _ _ t_5 (adr (sv_7 0).1) (svO sv_7 1) _ w_15 (S := Tc (Lo S w w_15 ns_12 [some l_13]) w_15) (El.keep hR_8 (Tc.mv _ _)) hq hJ _ hz_17
  · exact ⟨hx0, hR_8, hE, hI, Tk.new _ _⟩
  · rintro s1 y_23 sv_24 T_26 w_25 z hz ⟨hx0, hR_8, hE, hO, hT_18⟩ hf_27 oo_20 ho_21 hl_19
    unfold G_defect_First.r1 at hz
    have H1 := hz
    clear hz
    have hF : FOpen (Fence.wide.inRound l_13) := .inr ⟨l_13, rfl⟩
    have hI : Inv w_25 ns_12 8 ⟨[⟨6, [], .v (.int .i64 y_23)⟩, ⟨5, [], .v (.func (.func 90) #[] #[.pointer (some (adr (sv_7 0).1))])⟩, ⟨2, [], .p 1 0⟩], [], [], [((((kd_Config).cells x0 sv0).map EV.v), 29), ([.v (.int .i64 s1)], 3)], some (w.heap.size, some aR_14.defers), some (2, ns_12)⟩ ns_12 _ w_25 := hO.round rfl rfl rfl [6] (G_defect_All_1.enc y_23 sv_24) (by kernel_rfl) (by kernel_rfl) _ haR_22
    refine region_ (live := [3, 2]) (orc := []) hF hI ⟨[⟨3, [], .v (.int .i64 y_23)⟩, ⟨2, [], .p 1 0⟩], [], [], [((((kd_Config).cells x0 sv0).map EV.v), 29), ([.v (.int .i64 s1)], 3)], some (w.heap.size, some aR_14.defers), some (2, ns_12)⟩ [] (by kernel_rfl) trivial (fun ns_28 a w_29 hI _ => ?_)
    refine then_normal ?_
    obtain ⟨hE', hmv, hmr⟩ := Ep.rebase (S0 := S) hE hI
    replace hx0 := Kd.keep _ hx0 hmv
    replace hR_8 := El.keep hR_8 hmv
    replace hT_18 := Tk.keep hT_18 hmv
    replace hl_19 := (hmr _ (by simp)).trans hl_19
    replace hE := hE'
    replace hI := hI.rebase
    clear hE' hmv hmr
    refine begin_ (S0 := S) hE hI (by simp) hl_19 ho_21 (fun w_30 hE' hI' hmv hmr hl_19 => ?_)
    replace hx0 := Kd.keep _ hx0 hmv
    replace hR_8 := El.keep hR_8 hmv
    replace hT_18 := Tk.keep hT_18 hmv
    replace hE := hE'
    replace hI := hI'
    clear hE' hI' hmv hmr
    refine wpIn_block ?_
    refine seq_region (live := [2]) (orc := []) hF hI ⟨[⟨2, [], .p 1 0⟩], [], [], [((((kd_Config).cells x0 sv0).map EV.v), 29), ([.v (.int .i64 y_23)], 3)], some (w.heap.size, some aR_14.defers), some (2, ns_12)⟩ [] (by kernel_rfl) trivial (fun ns_31 a w_32 hI _ => ?_)
    refine wpIn_ret ?_
    refine inBlock_ret ?_
    obtain ⟨hE', hmv, hmr⟩ := Ep.rebase (S0 := S) hE hI
    replace hx0 := Kd.keep _ hx0 hmv
    replace hR_8 := El.keep hR_8 hmv
    replace hT_18 := Tk.keep hT_18 hmv
    replace hl_19 := (hmr _ (by simp)).trans hl_19
    replace hE := hE'
    replace hI := hI.rebase
    clear hE' hmv hmr
    obtain ⟨hE', hI', hmv⟩ := Ep.unround (S0 := S) (bs := [((((kd_Config).cells x0 sv0).map EV.v), 29), ([.v (.int .i64 y_23)], 3)]) hO hE hI rfl rfl rfl rfl rfl rfl (by kernel_rfl) rfl
    have hmr : ∀ b : Nat, some b ∈ ([some l_13] : List (Option Nat)) → w_32.heap[b]? = w_32.heap[b]? := fun _ _ => rfl
    replace hx0 := Kd.keep _ hx0 hmv
    replace hR_8 := El.keep hR_8 hmv
    replace hT_18 := Tk.keep hT_18 hmv
    replace hl_19 := (hmr _ (by simp)).trans hl_19
    replace hE := hE'
    replace hI := hI'
    clear hE' hI' hmv hmr
    obtain rfl := Option.some.inj H1
    exact RndQ.rt hl_19 rfl rfl ⟨hx0, hR_8, hE, hI⟩
  · rintro s1 T w_33 hzz ⟨hx0, hR_8, hE, hI, hT_18⟩
    subst hzz
    replace H0 : (some 0 : Option (Int)) = _ := H0
    obtain ⟨hE', hmv⟩ := hE.sub (S0 := S) (mine' := []) (sub_one [] [] _)
    have hmr : ∀ b : Nat, some b ∈ ([some l_13] : List (Option Nat)) → w_33.heap[b]? = w_33.heap[b]? := fun _ _ => rfl
    replace hx0 := Kd.keep _ hx0 hmv
    replace hR_8 := El.keep hR_8 hmv
    replace hE := hE'
    clear hE' hmv hmr
    refine inBlock_normal ?_
    refine then_normal ?_
    refine seq_region (live := [2]) (orc := []) hF hI ⟨[⟨2, [], .p 1 0⟩], [], [], [((((kd_Config).cells x0 sv0).map EV.v), 29), ([.v (.int .i64 0)], 3)], some (w.heap.size, none), none⟩ [] (by kernel_rfl) trivial (fun ns_34 a w_35 hI _ => ?_)
    refine wpIn_ret ?_
    obtain rfl := Option.some.inj H0
    exact retM hI rfl rfl rfl (fun wz hz => ⟨rfl, (hE.below hI).trans hz.below⟩)
  · rintro r1 WX hzz ⟨hx0, hR_8, hE, hI⟩
    subst hzz
    replace H0 : (some r1.2 : Option (Int)) = _ := H0
    dsimp only
    obtain ⟨hE', hmv⟩ := hE.sub (S0 := S) (mine' := []) (sub_one [] [] _)
    have hmr : ∀ b : Nat, some b ∈ ([some l_13] : List (Option Nat)) → WX.heap[b]? = WX.heap[b]? := fun _ _ => rfl
    replace hx0 := Kd.keep _ hx0 hmv
    replace hR_8 := El.keep hR_8 hmv
    replace hE := hE'
    clear hE' hmv hmr
    refine wpIn_ret ?_
    refine inBlock_ret ?_
    refine then_ret ?_
    obtain rfl := Option.some.inj H0
    exact retM hI rfl rfl rfl (fun wz hz => ⟨rfl, (hE.below hI).trans hz.below⟩)

/-! ### porthole/defect.Accepts: function 78 -/
noncomputable def G_defect_Accepts (x0 : Config) : Option (Bool) := ((G_defect_First x0).bind fun t_3 => some (t_3 == 0))
set_option maxRecDepth 100000 in
set_option maxHeartbeats 4000000 in
theorem G_defect_Accepts.calls (x0 : Config) (sv0 : SV) (w : World) {S : Nat → Prop} (hx0 : (kd_Config).cont S w x0 sv0) (r : Bool) (h : G_defect_Accepts x0 = some r) :
    Calls Try.prog 78 #[.agg ((kd_Config).cells x0 sv0).toArray] w fun e w' => e = .returned (.bool r) ∧ Below w.heap.size w w' := by
  replace hx0 := Kd.lo _ hx0
  unfold G_defect_Accepts at h
  have H0 := h
  clear h
  refine enter Try.func78 rfl [.agg ((kd_Config).cells x0 sv0).toArray] (n := 6) rfl (Nat.le_of_ble_eq_true rfl) (fun a hI => ?_)
  have hF : FOpen Fence.wide := .inl rfl
  have hE := Ep.start w
  refine seq_region (live := [2, 1]) (orc := []) hF hI ⟨[⟨2, [], .v (.bool false)⟩, ⟨1, [], .p 0 0⟩], [], [], [((((kd_Config).cells x0 sv0).map EV.v), 29)], none, none⟩ [] (by kernel_rfl) trivial (fun ns_1 a w_2 hI _ => ?_)
  obtain ⟨t_3, hG_4, H0⟩ := bind_some H0
  refine seq_region (live := [2]) (orc := [[.int .i64 t_3]]) hF hI ⟨[⟨2, [], .v (.bool (t_3 == 0))⟩], [], [], [((((kd_Config).cells x0 sv0).map EV.v), 29)], none, none⟩ [.call true 88 [.agg ((kd_Config).cells x0 sv0).toArray] (.int .i64 t_3)] (by kernel_rfl) ⟨ob_call (enters Try.func88 (by kernel_rfl) rfl) (fun hg wz hk => G_defect_First.calls x0 sv0 wz (S := fun _ => True) (Kd.any _ (Kd.keep kd_Config (contI (S := Lo S w w [] []) (w := w) (d := kd_Config) (x := x0) (sv := sv0) ⟨⟨hx0.1.1, hx0.1.2⟩, ⟨hx0.2.1.1, hx0.2.1.2⟩, ⟨hx0.2.2.1.1, hx0.2.2.1.2⟩, ⟨hx0.2.2.2.1.1, hx0.2.2.2.1.2⟩, trivial⟩) (Lo.on hk))) _ hG_4), trivial⟩ (fun ns_5 a w_6 hI _ => ?_)
  refine wpIn_ret ?_
  obtain rfl := Option.some.inj H0
  exact ret1 hI rfl rfl ⟨rfl, hE.below hI⟩

/-! ### porthole/layout.sized: function 80 -/
noncomputable def G_layout_sized (x0 : Chan) : Option (Int) := (bif (x0.Kind == 1) then some (IntKind.i64.wrap (3 + (IntKind.i64.wrap (4 * (IntKind.i64.wrap (2 + x0.Words)))))) else some (IntKind.i64.wrap (1 + (IntKind.i64.wrap (x0.Depth * (IntKind.i64.wrap (1 + x0.Words)))))))
set_option maxRecDepth 100000 in
set_option maxHeartbeats 4000000 in
theorem G_layout_sized.calls (x0 : Chan) (sv0 : SV) (w : World) {S : Nat → Prop} (hx0 : (kd_Chan).cont S w x0 sv0) (r : Int) (h : G_layout_sized x0 = some r) :
    Calls Try.prog 80 #[.agg ((kd_Chan).cells x0 sv0).toArray] w fun e w' => e = .returned (.int .i64 r) ∧ Below w.heap.size w w' := by
  replace hx0 := Kd.lo _ hx0
  unfold G_layout_sized at h
  have H0 := h
  clear h
  refine enter Try.func80 rfl [.agg ((kd_Chan).cells x0 sv0).toArray] (n := 18) rfl (Nat.le_of_ble_eq_true rfl) (fun a hI => ?_)
  have hF : FOpen Fence.wide := .inl rfl
  have hE := Ep.start w
  refine seq_region (live := [2, 1]) (orc := []) hF hI ⟨[⟨2, [], .v (.int .i64 0)⟩, ⟨1, [], .p 0 0⟩], [], [], [((((kd_Chan).cells x0 sv0).map EV.v), 74)], none, none⟩ [] (by kernel_rfl) trivial (fun ns_1 a w_2 hI _ => ?_)
  refine wpIn_seq ?_
  refine seq_region (live := [5, 2, 1]) (orc := []) hF hI ⟨[⟨5, [], .v (.bool (x0.Kind == 1))⟩, ⟨2, [], .v (.int .i64 0)⟩, ⟨1, [], .p 0 0⟩], [], [], [((((kd_Chan).cells x0 sv0).map EV.v), 74)], none, none⟩ [] (by kernel_rfl) trivial (fun ns_3 a w_4 hI _ => ?_)
  refine cond_ hI ((x0.Kind == 1)) rfl (fun hc_5 => ?_) (fun hc_5 => ?_)
  · replace H0 := bif_t hc_5 H0
    refine seq_region (live := [2]) (orc := []) hF hI ⟨[⟨2, [], .v (.int .i64 (IntKind.i64.wrap (3 + (IntKind.i64.wrap (4 * (IntKind.i64.wrap (2 + x0.Words)))))))⟩], [], [], [((((kd_Chan).cells x0 sv0).map EV.v), 74)], none, none⟩ [] (by kernel_rfl) trivial (fun ns_6 a w_7 hI _ => ?_)
    refine wpIn_ret ?_
    refine then_ret ?_
    obtain rfl := Option.some.inj H0
    exact ret1 hI rfl rfl ⟨rfl, hE.below hI⟩
  · replace H0 := bif_f hc_5 H0
    refine wpIn_skip ?_
    refine then_normal ?_
    refine seq_region (live := [2]) (orc := []) hF hI ⟨[⟨2, [], .v (.int .i64 (IntKind.i64.wrap (1 + (IntKind.i64.wrap (x0.Depth * (IntKind.i64.wrap (1 + x0.Words)))))))⟩], [], [], [((((kd_Chan).cells x0 sv0).map EV.v), 74)], none, none⟩ [] (by kernel_rfl) trivial (fun ns_8 a w_9 hI _ => ?_)
    refine wpIn_ret ?_
    obtain rfl := Option.some.inj H0
    exact ret1 hI rfl rfl ⟨rfl, hE.below hI⟩

end Go.Proofs.Ytnfnincmhobpaab
