import Derived.Test.YtnfnincmhobpaabGFx2
set_option linter.unusedVariables false
set_option linter.unusedSimpArgs false
namespace Go.Proofs.Ytnfnincmhobpaab
open Go Go.RowKit Go.Eng Go.Proofs

/-! ### porthole/portholeref14.SameRequest: function 44 -/
noncomputable def G_ref14_SameRequest.b1 (x0 : Request) (x1 : Request) (s1 : Int × Bool) : Option (Stp (Int × Bool) (Ex (Int × Bool) (Bool))) := (bif decide (s1.1 < (x0.Data.length : Int)) then (req (inb s1.1 x0.Data.length) (req (inb s1.1 x1.Data.length) (bif ((rd x0.Data s1.1) != (rd x1.Data s1.1)) then some (.out (.ret false)) else some (.next ((IntKind.i64.wrap (s1.1 + 1)), s1.2))))) else some (.out (.brk (s1.1, s1.2))))
noncomputable def G_ref14_SameRequest (x0 : Request) (x1 : Request) : Option (Bool) := (bif ((((x0.Op != x1.Op) || (x0.Port != x1.Port)) || (x0.Addr != x1.Addr)) || ((x0.Data.length : Int) != (x1.Data.length : Int))) then some false else ((loopω (G_ref14_SameRequest.b1 x0 x1) (0, false)).bind fun o => o.on (fun s1 => some true) (fun r => some r)))
set_option maxRecDepth 100000 in
set_option maxHeartbeats 4000000 in
theorem G_ref14_SameRequest.calls (x0 : Request) (x1 : Request) (sv0 : SV) (sv1 : SV) (w : World) {S : Nat → Prop} (hx0 : (kd_Request).cont S w x0 sv0) (hx1 : (kd_Request).cont S w x1 sv1) (r : Bool) (h : G_ref14_SameRequest x0 x1 = some r) :
    Calls Try.prog 44 #[.agg ((kd_Request).cells x0 sv0).toArray, .agg ((kd_Request).cells x1 sv1).toArray] w fun e w' => e = .returned (.bool r) ∧ Below w.heap.size w w' := by
  replace hx0 := Kd.lo _ hx0
  replace hx1 := Kd.lo _ hx1
  unfold G_ref14_SameRequest at h
  have H0 := h
  clear h
  refine enter Try.func44 rfl [.agg ((kd_Request).cells x0 sv0).toArray, .agg ((kd_Request).cells x1 sv1).toArray] (n := 52) rfl (Nat.le_of_ble_eq_true rfl) (fun a hI => ?_)
  have hF : FOpen Fence.wide := .inl rfl
  have hE := Ep.start w
  refine seq_region (live := [4, 3, 2, 0, 1]) (orc := []) hF hI ⟨[⟨4, [], .v (.bool false)⟩, ⟨3, [], .p 1 0⟩, ⟨2, [], .p 0 0⟩, ⟨0, [], .v (.agg ((kd_Request).cells x0 sv0).toArray)⟩, ⟨1, [], .v (.agg ((kd_Request).cells x1 sv1).toArray)⟩], [], [], [((((kd_Request).cells x0 sv0).map EV.v), 49), ((((kd_Request).cells x1 sv1).map EV.v), 49)], none, none⟩ [] (by kernel_rfl) trivial (fun ns_1 a w_2 hI _ => ?_)
  refine wpIn_seq ?_
  refine seq_region (live := [33, 4, 3, 2, 0, 1]) (orc := []) hF hI ⟨[⟨33, [], .v (.bool ((((x0.Op != x1.Op) || (x0.Port != x1.Port)) || (x0.Addr != x1.Addr)) || ((x0.Data.length : Int) != (x1.Data.length : Int))))⟩, ⟨4, [], .v (.bool false)⟩, ⟨3, [], .p 1 0⟩, ⟨2, [], .p 0 0⟩, ⟨0, [], .v (.agg ((kd_Request).cells x0 sv0).toArray)⟩, ⟨1, [], .v (.agg ((kd_Request).cells x1 sv1).toArray)⟩], [], [], [((((kd_Request).cells x0 sv0).map EV.v), 49), ((((kd_Request).cells x1 sv1).map EV.v), 49)], none, none⟩ [] (by kernel_rfl) trivial (fun ns_3 a w_4 hI _ => ?_)
  refine cond_ hI (((((x0.Op != x1.Op) || (x0.Port != x1.Port)) || (x0.Addr != x1.Addr)) || ((x0.Data.length : Int) != (x1.Data.length : Int)))) rfl (fun hc_5 => ?_) (fun hc_5 => ?_)
  · replace H0 := bif_t hc_5 H0
    refine seq_region (live := [4, 33, 3, 2, 0, 1]) (orc := []) hF hI ⟨[⟨4, [], .v (.bool false)⟩, ⟨33, [], .v (.bool ((((x0.Op != x1.Op) || (x0.Port != x1.Port)) || (x0.Addr != x1.Addr)) || ((x0.Data.length : Int) != (x1.Data.length : Int))))⟩, ⟨3, [], .p 1 0⟩, ⟨2, [], .p 0 0⟩, ⟨0, [], .v (.agg ((kd_Request).cells x0 sv0).toArray)⟩, ⟨1, [], .v (.agg ((kd_Request).cells x1 sv1).toArray)⟩], [], [], [((((kd_Request).cells x0 sv0).map EV.v), 49), ((((kd_Request).cells x1 sv1).map EV.v), 49)], none, none⟩ [] (by kernel_rfl) trivial (fun ns_6 a w_7 hI _ => ?_)
    refine wpIn_ret ?_
    refine then_ret ?_
    obtain rfl := Option.some.inj H0
    exact ret1 hI rfl rfl ⟨rfl, hE.below hI⟩
  · replace H0 := bif_f hc_5 H0
    refine wpIn_skip ?_
    refine then_normal ?_
    refine wpIn_seq ?_
    refine seq_region (live := [5, 33, 4, 3, 2, 0, 1]) (orc := []) hF hI ⟨[⟨5, [], .v (.int .i64 0)⟩, ⟨33, [], .v (.bool ((((x0.Op != x1.Op) || (x0.Port != x1.Port)) || (x0.Addr != x1.Addr)) || ((x0.Data.length : Int) != (x1.Data.length : Int))))⟩, ⟨4, [], .v (.bool false)⟩, ⟨3, [], .p 1 0⟩, ⟨2, [], .p 0 0⟩, ⟨0, [], .v (.agg ((kd_Request).cells x0 sv0).toArray)⟩, ⟨1, [], .v (.agg ((kd_Request).cells x1 sv1).toArray)⟩], [], [], [((((kd_Request).cells x0 sv0).map EV.v), 49), ((((kd_Request).cells x1 sv1).map EV.v), 49)], none, none⟩ [] (by kernel_rfl) trivial (fun ns_8 a w_9 hI _ => ?_)
    obtain ⟨o_29, hL_30, H0⟩ := bind_some H0
    refine block_loop (fun (s1 : Int × Bool) a w_35 => ∃ ns, St w [] 52 ⟨[⟨5, [], .v (.int .i64 s1.1)⟩, ⟨33, [], .v (.bool ((((x0.Op != x1.Op) || (x0.Port != x1.Port)) || (x0.Addr != x1.Addr)) || ((x0.Data.length : Int) != (x1.Data.length : Int))))⟩, ⟨4, [], .v (.bool s1.2)⟩, ⟨3, [], .p 1 0⟩, ⟨2, [], .p 0 0⟩, ⟨0, [], .v (.agg ((kd_Request).cells x0 sv0).toArray)⟩, ⟨1, [], .v (.agg ((kd_Request).cells x1 sv1).toArray)⟩], [], [], [((((kd_Request).cells x0 sv0).map EV.v), 49), ((((kd_Request).cells x1 sv1).map EV.v), 49)], none, none⟩ ns a w_35) (0, false) hL_30 ⟨_, hI.pick [5, 33, 4, 3, 2, 0, 1] 2 ⟨[⟨5, [], .v (.int .i64 0)⟩, ⟨33, [], .v (.bool ((((x0.Op != x1.Op) || (x0.Port != x1.Port)) || (x0.Addr != x1.Addr)) || ((x0.Data.length : Int) != (x1.Data.length : Int))))⟩, ⟨4, [], .v (.bool false)⟩, ⟨3, [], .p 1 0⟩, ⟨2, [], .p 0 0⟩, ⟨0, [], .v (.agg ((kd_Request).cells x0 sv0).toArray)⟩, ⟨1, [], .v (.agg ((kd_Request).cells x1 sv1).toArray)⟩], [], [], [((((kd_Request).cells x0 sv0).map EV.v), 49), ((((kd_Request).cells x1 sv1).map EV.v), 49)], none, none⟩ (by kernel_rfl)⟩ ?_ ?_
    · clear hI
      rintro s1 a w_10 ⟨ns_11, hI⟩ r1 H1
      unfold G_ref14_SameRequest.b1 at H1
      refine wpIn_seq ?_
      refine seq_region (live := [38, 5, 33, 4, 3, 2, 0, 1]) (orc := []) hF hI ⟨[⟨38, [], .v (.bool (decide (s1.1 < (x0.Data.length : Int))))⟩, ⟨5, [], .v (.int .i64 s1.1)⟩, ⟨33, [], .v (.bool ((((x0.Op != x1.Op) || (x0.Port != x1.Port)) || (x0.Addr != x1.Addr)) || ((x0.Data.length : Int) != (x1.Data.length : Int))))⟩, ⟨4, [], .v (.bool s1.2)⟩, ⟨3, [], .p 1 0⟩, ⟨2, [], .p 0 0⟩, ⟨0, [], .v (.agg ((kd_Request).cells x0 sv0).toArray)⟩, ⟨1, [], .v (.agg ((kd_Request).cells x1 sv1).toArray)⟩], [], [], [((((kd_Request).cells x0 sv0).map EV.v), 49), ((((kd_Request).cells x1 sv1).map EV.v), 49)], none, none⟩ [] (by kernel_rfl) trivial (fun ns_12 a w_13 hI _ => ?_)
      refine cond_ hI (decide (s1.1 < (x0.Data.length : Int))) rfl (fun hc_14 => ?_) (fun hc_14 => ?_)
      · replace H1 := bif_t hc_14 H1
        refine wpIn_skip ?_
        refine then_normal ?_
        refine wpIn_seq ?_
        refine wpIn_block ?_
        refine wpIn_seq ?_
        obtain ⟨hN_15, H1⟩ := req_some H1
        obtain ⟨sv_16, hE_18, hA_17⟩ := Arr.elB (d := (Kd.int .u32)) hx0.1.1 s1.1 true (fun _ => hN_15)
        replace hE_18 := hE_18 rfl
        replace hA_17 := fun (_ : true = true) => hA_17 rfl
        obtain ⟨hN_19, H1⟩ := req_some H1
        obtain ⟨sv_20, hE_22, hA_21⟩ := Arr.elB (d := (Kd.int .u32)) hx1.1.1 s1.1 true (fun _ => hN_19)
        replace hE_22 := hE_22 rfl
        replace hA_21 := fun (_ : true = true) => hA_21 rfl
        refine drawn_ (live := [51, 38, 5, 33, 4, 3, 2, 0, 1]) (orc := [[.int .u32 (rd x0.Data s1.1)], [.int .u32 (rd x1.Data s1.1)]]) hF hI ⟨[⟨51, [], .v (.bool ((rd x0.Data s1.1) != (rd x1.Data s1.1)))⟩, ⟨38, [], .v (.bool (decide (s1.1 < (x0.Data.length : Int))))⟩, ⟨5, [], .v (.int .i64 s1.1)⟩, ⟨33, [], .v (.bool ((((x0.Op != x1.Op) || (x0.Port != x1.Port)) || (x0.Addr != x1.Addr)) || ((x0.Data.length : Int) != (x1.Data.length : Int))))⟩, ⟨4, [], .v (.bool s1.2)⟩, ⟨3, [], .p 1 0⟩, ⟨2, [], .p 0 0⟩, ⟨0, [], .v (.agg ((kd_Request).cells x0 sv0).toArray)⟩, ⟨1, [], .v (.agg ((kd_Request).cells x1 sv1).toArray)⟩], [], [], [((((kd_Request).cells x0 sv0).map EV.v), 49), ((((kd_Request).cells x1 sv1).map EV.v), 49)], none, none⟩ [.need true (0 ≤ s1.1 ∧ s1.1 < (x0.Data.length : Int)), .need true ((sv0 0).1 = some (adr ((sv0 0).1))), .cell true ((adr ((sv0 0).1)).add ((s1.1 : Int).toNat * 1)) [.int .u32 (rd x0.Data s1.1)], .need true (0 ≤ s1.1 ∧ s1.1 < (x1.Data.length : Int)), .need true ((sv1 0).1 = some (adr ((sv1 0).1))), .cell true ((adr ((sv1 0).1)).add ((s1.1 : Int).toNat * 1)) [.int .u32 (rd x1.Data s1.1)]] (by kernel_rfl) (by kernel_rfl) (by kernel_rfl) ⟨ob_inb (fun _ => hN_15), hA_17, ob_el (fun _ => hE_18) 0 [.int .u32 (rd x0.Data s1.1)] rfl, ob_inb (fun _ => hN_19), hA_21, ob_el (fun _ => hE_22) 0 [.int .u32 (rd x1.Data s1.1)] rfl, trivial⟩ (fun a w_23 hI => ?_)
        refine then_normal ?_
        refine cond_ hI (((rd x0.Data s1.1) != (rd x1.Data s1.1))) rfl (fun hc_24 => ?_) (fun hc_24 => ?_)
        · replace H1 := bif_t hc_24 H1
          refine seq_region (live := [4, 51, 38, 5, 33, 3, 2, 0, 1]) (orc := []) hF hI ⟨[⟨4, [], .v (.bool false)⟩, ⟨51, [], .v (.bool ((rd x0.Data s1.1) != (rd x1.Data s1.1)))⟩, ⟨38, [], .v (.bool (decide (s1.1 < (x0.Data.length : Int))))⟩, ⟨5, [], .v (.int .i64 s1.1)⟩, ⟨33, [], .v (.bool ((((x0.Op != x1.Op) || (x0.Port != x1.Port)) || (x0.Addr != x1.Addr)) || ((x0.Data.length : Int) != (x1.Data.length : Int))))⟩, ⟨3, [], .p 1 0⟩, ⟨2, [], .p 0 0⟩, ⟨0, [], .v (.agg ((kd_Request).cells x0 sv0).toArray)⟩, ⟨1, [], .v (.agg ((kd_Request).cells x1 sv1).toArray)⟩], [], [], [((((kd_Request).cells x0 sv0).map EV.v), 49), ((((kd_Request).cells x1 sv1).map EV.v), 49)], none, none⟩ [] (by kernel_rfl) trivial (fun ns_25 a w_26 hI _ => ?_)
          refine wpIn_ret ?_
          refine inBlock_ret ?_
          refine then_ret ?_
          refine then_ret ?_
          obtain rfl := Option.some.inj H1
          refine .inr ⟨_, rfl, fun ho => ?_⟩
          subst ho
          refine inBlock_ret ?_
          refine then_ret ?_
          obtain rfl := Option.some.inj H0
          exact ret1 hI rfl rfl ⟨rfl, hE.below hI⟩
        · replace H1 := bif_f hc_24 H1
          refine wpIn_skip ?_
          refine inBlock_normal ?_
          refine then_normal ?_
          refine region_ (live := [5, 51, 38, 33, 4, 3, 2, 0, 1]) (orc := []) hF hI ⟨[⟨5, [], .v (.int .i64 (IntKind.i64.wrap (s1.1 + 1)))⟩, ⟨51, [], .v (.bool ((rd x0.Data s1.1) != (rd x1.Data s1.1)))⟩, ⟨38, [], .v (.bool (decide (s1.1 < (x0.Data.length : Int))))⟩, ⟨33, [], .v (.bool ((((x0.Op != x1.Op) || (x0.Port != x1.Port)) || (x0.Addr != x1.Addr)) || ((x0.Data.length : Int) != (x1.Data.length : Int))))⟩, ⟨4, [], .v (.bool s1.2)⟩, ⟨3, [], .p 1 0⟩, ⟨2, [], .p 0 0⟩, ⟨0, [], .v (.agg ((kd_Request).cells x0 sv0).toArray)⟩, ⟨1, [], .v (.agg ((kd_Request).cells x1 sv1).toArray)⟩], [], [], [((((kd_Request).cells x0 sv0).map EV.v), 49), ((((kd_Request).cells x1 sv1).map EV.v), 49)], none, none⟩ [] (by kernel_rfl) trivial (fun ns_27 a w_28 hI _ => ?_)
          refine then_normal ?_
          obtain rfl := Option.some.inj H1
          exact ⟨_, rfl, ⟨_, hI.pick [5, 33, 4, 3, 2, 0, 1] 2 ⟨[⟨5, [], .v (.int .i64 (IntKind.i64.wrap (s1.1 + 1)))⟩, ⟨33, [], .v (.bool ((((x0.Op != x1.Op) || (x0.Port != x1.Port)) || (x0.Addr != x1.Addr)) || ((x0.Data.length : Int) != (x1.Data.length : Int))))⟩, ⟨4, [], .v (.bool s1.2)⟩, ⟨3, [], .p 1 0⟩, ⟨2, [], .p 0 0⟩, ⟨0, [], .v (.agg ((kd_Request).cells x0 sv0).toArray)⟩, ⟨1, [], .v (.agg ((kd_Request).cells x1 sv1).toArray)⟩], [], [], [((((kd_Request).cells x0 sv0).map EV.v), 49), ((((kd_Request).cells x1 sv1).map EV.v), 49)], none, none⟩ (by kernel_rfl)⟩⟩
      · replace H1 := bif_f hc_14 H1
        refine wpIn_exit ?_
        refine then_exit ?_
        refine then_exit ?_
        obtain rfl := Option.some.inj H1
        exact .inl ⟨_, rfl, rfl, ⟨_, hI.pick [5, 33, 4, 3, 2, 0, 1] 2 ⟨[⟨5, [], .v (.int .i64 s1.1)⟩, ⟨33, [], .v (.bool ((((x0.Op != x1.Op) || (x0.Port != x1.Port)) || (x0.Addr != x1.Addr)) || ((x0.Data.length : Int) != (x1.Data.length : Int))))⟩, ⟨4, [], .v (.bool s1.2)⟩, ⟨3, [], .p 1 0⟩, ⟨2, [], .p 0 0⟩, ⟨0, [], .v (.agg ((kd_Request).cells x0 sv0).toArray)⟩, ⟨1, [], .v (.agg ((kd_Request).cells x1 sv1).toArray)⟩], [], [], [((((kd_Request).cells x0 sv0).map EV.v), 49), ((((kd_Request).cells x1 sv1).map EV.v), 49)], none, none⟩ (by kernel_rfl)⟩⟩
    · clear hI
      rintro s1 a w_31 ho ⟨ns_32, hI⟩
      subst ho
      replace H0 : (some true : Option (Bool)) = _ := H0
      refine then_normal ?_
      refine seq_region (live := [4, 5, 33, 3, 2, 0, 1]) (orc := []) hF hI ⟨[⟨4, [], .v (.bool true)⟩, ⟨5, [], .v (.int .i64 s1.1)⟩, ⟨33, [], .v (.bool ((((x0.Op != x1.Op) || (x0.Port != x1.Port)) || (x0.Addr != x1.Addr)) || ((x0.Data.length : Int) != (x1.Data.length : Int))))⟩, ⟨3, [], .p 1 0⟩, ⟨2, [], .p 0 0⟩, ⟨0, [], .v (.agg ((kd_Request).cells x0 sv0).toArray)⟩, ⟨1, [], .v (.agg ((kd_Request).cells x1 sv1).toArray)⟩], [], [], [((((kd_Request).cells x0 sv0).map EV.v), 49), ((((kd_Request).cells x1 sv1).map EV.v), 49)], none, none⟩ [] (by kernel_rfl) trivial (fun ns_33 a w_34 hI _ => ?_)
      refine wpIn_ret ?_
      obtain rfl := Option.some.inj H0
      exact ret1 hI rfl rfl ⟨rfl, hE.below hI⟩

/-! ### porthole/portholeref11.SameAnswer: function 45 -/
noncomputable def G_ref11_SameAnswer.b1 (x0 : Answer) (x1 : Answer) (s1 : Int × Bool) : Option (Stp (Int × Bool) (Ex (Int × Bool) (Bool))) := (bif decide (s1.1 < (x0.Data.length : Int)) then (req (inb s1.1 x0.Data.length) (req (inb s1.1 x1.Data.length) (bif ((rd x0.Data s1.1) != (rd x1.Data s1.1)) then some (.out (.ret false)) else some (.next ((IntKind.i64.wrap (s1.1 + 1)), s1.2))))) else some (.out (.brk (s1.1, s1.2))))
noncomputable def G_ref11_SameAnswer (x0 : Answer) (x1 : Answer) : Option (Bool) := (bif ((((x0.Code != x1.Code) || (!(x0.Valid == x1.Valid))) || (x0.Count != x1.Count)) || ((x0.Data.length : Int) != (x1.Data.length : Int))) then some false else ((loopω (G_ref11_SameAnswer.b1 x0 x1) (0, false)).bind fun o => o.on (fun s1 => some true) (fun r => some r)))
set_option maxRecDepth 100000 in
set_option maxHeartbeats 4000000 in
theorem G_ref11_SameAnswer.calls (x0 : Answer) (x1 : Answer) (sv0 : SV) (sv1 : SV) (w : World) {S : Nat → Prop} (hx0 : (kd_Answer).cont S w x0 sv0) (hx1 : (kd_Answer).cont S w x1 sv1) (r : Bool) (h : G_ref11_SameAnswer x0 x1 = some r) :
    Calls Try.prog 45 #[.agg ((kd_Answer).cells x0 sv0).toArray, .agg ((kd_Answer).cells x1 sv1).toArray] w fun e w' => e = .returned (.bool r) ∧ Below w.heap.size w w' := by
  replace hx0 := Kd.lo _ hx0
  replace hx1 := Kd.lo _ hx1
  unfold G_ref11_SameAnswer at h
  have H0 := h
  clear h
  refine enter Try.func45 rfl [.agg ((kd_Answer).cells x0 sv0).toArray, .agg ((kd_Answer).cells x1 sv1).toArray] (n := 52) rfl (Nat.le_of_ble_eq_true rfl) (fun a hI => ?_)
  have hF : FOpen Fence.wide := .inl rfl
  have hE := Ep.start w
  refine seq_region (live := [4, 3, 2, 0, 1]) (orc := []) hF hI ⟨[⟨4, [], .v (.bool false)⟩, ⟨3, [], .p 1 0⟩, ⟨2, [], .p 0 0⟩, ⟨0, [], .v (.agg ((kd_Answer).cells x0 sv0).toArray)⟩, ⟨1, [], .v (.agg ((kd_Answer).cells x1 sv1).toArray)⟩], [], [], [((((kd_Answer).cells x0 sv0).map EV.v), 52), ((((kd_Answer).cells x1 sv1).map EV.v), 52)], none, none⟩ [] (by kernel_rfl) trivial (fun ns_1 a w_2 hI _ => ?_)
  refine wpIn_seq ?_
  refine seq_region (live := [33, 4, 3, 2, 0, 1]) (orc := []) hF hI ⟨[⟨33, [], .v (.bool ((((x0.Code != x1.Code) || (!(x0.Valid == x1.Valid))) || (x0.Count != x1.Count)) || ((x0.Data.length : Int) != (x1.Data.length : Int))))⟩, ⟨4, [], .v (.bool false)⟩, ⟨3, [], .p 1 0⟩, ⟨2, [], .p 0 0⟩, ⟨0, [], .v (.agg ((kd_Answer).cells x0 sv0).toArray)⟩, ⟨1, [], .v (.agg ((kd_Answer).cells x1 sv1).toArray)⟩], [], [], [((((kd_Answer).cells x0 sv0).map EV.v), 52), ((((kd_Answer).cells x1 sv1).map EV.v), 52)], none, none⟩ [] (by kernel_rfl) trivial (fun ns_3 a w_4 hI _ => ?_)
  refine cond_ hI (((((x0.Code != x1.Code) || (!(x0.Valid == x1.Valid))) || (x0.Count != x1.Count)) || ((x0.Data.length : Int) != (x1.Data.length : Int)))) rfl (fun hc_5 => ?_) (fun hc_5 => ?_)
  · replace H0 := bif_t hc_5 H0
    refine seq_region (live := [4, 33, 3, 2, 0, 1]) (orc := []) hF hI ⟨[⟨4, [], .v (.bool false)⟩, ⟨33, [], .v (.bool ((((x0.Code != x1.Code) || (!(x0.Valid == x1.Valid))) || (x0.Count != x1.Count)) || ((x0.Data.length : Int) != (x1.Data.length : Int))))⟩, ⟨3, [], .p 1 0⟩, ⟨2, [], .p 0 0⟩, ⟨0, [], .v (.agg ((kd_Answer).cells x0 sv0).toArray)⟩, ⟨1, [], .v (.agg ((kd_Answer).cells x1 sv1).toArray)⟩], [], [], [((((kd_Answer).cells x0 sv0).map EV.v), 52), ((((kd_Answer).cells x1 sv1).map EV.v), 52)], none, none⟩ [] (by kernel_rfl) trivial (fun ns_6 a w_7 hI _ => ?_)
    refine wpIn_ret ?_
    refine then_ret ?_
    obtain rfl := Option.some.inj H0
    exact ret1 hI rfl rfl ⟨rfl, hE.below hI⟩
  · replace H0 := bif_f hc_5 H0
    refine wpIn_skip ?_
    refine then_normal ?_
    refine wpIn_seq ?_
    refine seq_region (live := [5, 33, 4, 3, 2, 0, 1]) (orc := []) hF hI ⟨[⟨5, [], .v (.int .i64 0)⟩, ⟨33, [], .v (.bool ((((x0.Code != x1.Code) || (!(x0.Valid == x1.Valid))) || (x0.Count != x1.Count)) || ((x0.Data.length : Int) != (x1.Data.length : Int))))⟩, ⟨4, [], .v (.bool false)⟩, ⟨3, [], .p 1 0⟩, ⟨2, [], .p 0 0⟩, ⟨0, [], .v (.agg ((kd_Answer).cells x0 sv0).toArray)⟩, ⟨1, [], .v (.agg ((kd_Answer).cells x1 sv1).toArray)⟩], [], [], [((((kd_Answer).cells x0 sv0).map EV.v), 52), ((((kd_Answer).cells x1 sv1).map EV.v), 52)], none, none⟩ [] (by kernel_rfl) trivial (fun ns_8 a w_9 hI _ => ?_)
    obtain ⟨o_29, hL_30, H0⟩ := bind_some H0
    refine block_loop (fun (s1 : Int × Bool) a w_35 => ∃ ns, St w [] 52 ⟨[⟨5, [], .v (.int .i64 s1.1)⟩, ⟨33, [], .v (.bool ((((x0.Code != x1.Code) || (!(x0.Valid == x1.Valid))) || (x0.Count != x1.Count)) || ((x0.Data.length : Int) != (x1.Data.length : Int))))⟩, ⟨4, [], .v (.bool s1.2)⟩, ⟨3, [], .p 1 0⟩, ⟨2, [], .p 0 0⟩, ⟨0, [], .v (.agg ((kd_Answer).cells x0 sv0).toArray)⟩, ⟨1, [], .v (.agg ((kd_Answer).cells x1 sv1).toArray)⟩], [], [], [((((kd_Answer).cells x0 sv0).map EV.v), 52), ((((kd_Answer).cells x1 sv1).map EV.v), 52)], none, none⟩ ns a w_35) (0, false) hL_30 ⟨_, hI.pick [5, 33, 4, 3, 2, 0, 1] 2 ⟨[⟨5, [], .v (.int .i64 0)⟩, ⟨33, [], .v (.bool ((((x0.Code != x1.Code) || (!(x0.Valid == x1.Valid))) || (x0.Count != x1.Count)) || ((x0.Data.length : Int) != (x1.Data.length : Int))))⟩, ⟨4, [], .v (.bool false)⟩, ⟨3, [], .p 1 0⟩, ⟨2, [], .p 0 0⟩, ⟨0, [], .v (.agg ((kd_Answer).cells x0 sv0).toArray)⟩, ⟨1, [], .v (.agg ((kd_Answer).cells x1 sv1).toArray)⟩], [], [], [((((kd_Answer).cells x0 sv0).map EV.v), 52), ((((kd_Answer).cells x1 sv1).map EV.v), 52)], none, none⟩ (by kernel_rfl)⟩ ?_ ?_
    · clear hI
      rintro s1 a w_10 ⟨ns_11, hI⟩ r1 H1
      unfold G_ref11_SameAnswer.b1 at H1
      refine wpIn_seq ?_
      refine seq_region (live := [38, 5, 33, 4, 3, 2, 0, 1]) (orc := []) hF hI ⟨[⟨38, [], .v (.bool (decide (s1.1 < (x0.Data.length : Int))))⟩, ⟨5, [], .v (.int .i64 s1.1)⟩, ⟨33, [], .v (.bool ((((x0.Code != x1.Code) || (!(x0.Valid == x1.Valid))) || (x0.Count != x1.Count)) || ((x0.Data.length : Int) != (x1.Data.length : Int))))⟩, ⟨4, [], .v (.bool s1.2)⟩, ⟨3, [], .p 1 0⟩, ⟨2, [], .p 0 0⟩, ⟨0, [], .v (.agg ((kd_Answer).cells x0 sv0).toArray)⟩, ⟨1, [], .v (.agg ((kd_Answer).cells x1 sv1).toArray)⟩], [], [], [((((kd_Answer).cells x0 sv0).map EV.v), 52), ((((kd_Answer).cells x1 sv1).map EV.v), 52)], none, none⟩ [] (by kernel_rfl) trivial (fun ns_12 a w_13 hI _ => ?_)
      refine cond_ hI (decide (s1.1 < (x0.Data.length : Int))) rfl (fun hc_14 => ?_) (fun hc_14 => ?_)
      · replace H1 := bif_t hc_14 H1
        refine wpIn_skip ?_
        refine then_normal ?_
        refine wpIn_seq ?_
        refine wpIn_block ?_
        refine wpIn_seq ?_
        obtain ⟨hN_15, H1⟩ := req_some H1
        obtain ⟨sv_16, hE_18, hA_17⟩ := Arr.elB (d := (Kd.int .u32)) hx0.1.1 s1.1 true (fun _ => hN_15)
        replace hE_18 := hE_18 rfl
        replace hA_17 := fun (_ : true = true) => hA_17 rfl
        obtain ⟨hN_19, H1⟩ := req_some H1
        obtain ⟨sv_20, hE_22, hA_21⟩ := Arr.elB (d := (Kd.int .u32)) hx1.1.1 s1.1 true (fun _ => hN_19)
        replace hE_22 := hE_22 rfl
        replace hA_21 := fun (_ : true = true) => hA_21 rfl
        refine drawn_ (live := [51, 38, 5, 33, 4, 3, 2, 0, 1]) (orc := [[.int .u32 (rd x0.Data s1.1)], [.int .u32 (rd x1.Data s1.1)]]) hF hI ⟨[⟨51, [], .v (.bool ((rd x0.Data s1.1) != (rd x1.Data s1.1)))⟩, ⟨38, [], .v (.bool (decide (s1.1 < (x0.Data.length : Int))))⟩, ⟨5, [], .v (.int .i64 s1.1)⟩, ⟨33, [], .v (.bool ((((x0.Code != x1.Code) || (!(x0.Valid == x1.Valid))) || (x0.Count != x1.Count)) || ((x0.Data.length : Int) != (x1.Data.length : Int))))⟩, ⟨4, [], .v (.bool s1.2)⟩, ⟨3, [], .p 1 0⟩, ⟨2, [], .p 0 0⟩, ⟨0, [], .v (.agg ((kd_Answer).cells x0 sv0).toArray)⟩, ⟨1, [], .v (.agg ((kd_Answer).cells x1 sv1).toArray)⟩], [], [], [((((kd_Answer).cells x0 sv0).map EV.v), 52), ((((kd_Answer).cells x1 sv1).map EV.v), 52)], none, none⟩ [.need true (0 ≤ s1.1 ∧ s1.1 < (x0.Data.length : Int)), .need true ((sv0 0).1 = some (adr ((sv0 0).1))), .cell true ((adr ((sv0 0).1)).add ((s1.1 : Int).toNat * 1)) [.int .u32 (rd x0.Data s1.1)], .need true (0 ≤ s1.1 ∧ s1.1 < (x1.Data.length : Int)), .need true ((sv1 0).1 = some (adr ((sv1 0).1))), .cell true ((adr ((sv1 0).1)).add ((s1.1 : Int).toNat * 1)) [.int .u32 (rd x1.Data s1.1)]] (by kernel_rfl) (by kernel_rfl) (by kernel_rfl) ⟨ob_inb (fun _ => hN_15), hA_17, ob_el (fun _ => hE_18) 0 [.int .u32 (rd x0.Data s1.1)] rfl, ob_inb (fun _ => hN_19), hA_21, ob_el (fun _ => hE_22) 0 [.int .u32 (rd x1.Data s1.1)] rfl, trivial⟩ (fun a w_23 hI => ?_)
        refine then_normal ?_
        refine cond_ hI (((rd x0.Data s1.1) != (rd x1.Data s1.1))) rfl (fun hc_24 => ?_) (fun hc_24 => ?_)
        · replace H1 := bif_t hc_24 H1
          refine seq_region (live := [4, 51, 38, 5, 33, 3, 2, 0, 1]) (orc := []) hF hI ⟨[⟨4, [], .v (.bool false)⟩, ⟨51, [], .v (.bool ((rd x0.Data s1.1) != (rd x1.Data s1.1)))⟩, ⟨38, [], .v (.bool (decide (s1.1 < (x0.Data.length : Int))))⟩, ⟨5, [], .v (.int .i64 s1.1)⟩, ⟨33, [], .v (.bool ((((x0.Code != x1.Code) || (!(x0.Valid == x1.Valid))) || (x0.Count != x1.Count)) || ((x0.Data.length : Int) != (x1.Data.length : Int))))⟩, ⟨3, [], .p 1 0⟩, ⟨2, [], .p 0 0⟩, ⟨0, [], .v (.agg ((kd_Answer).cells x0 sv0).toArray)⟩, ⟨1, [], .v (.agg ((kd_Answer).cells x1 sv1).toArray)⟩], [], [], [((((kd_Answer).cells x0 sv0).map EV.v), 52), ((((kd_Answer).cells x1 sv1).map EV.v), 52)], none, none⟩ [] (by kernel_rfl) trivial (fun ns_25 a w_26 hI _ => ?_)
          refine wpIn_ret ?_
          refine inBlock_ret ?_
          refine then_ret ?_
          refine then_ret ?_
          obtain rfl := Option.some.inj H1
          refine .inr ⟨_, rfl, fun ho => ?_⟩
          subst ho
          refine inBlock_ret ?_
          refine then_ret ?_
          obtain rfl := Option.some.inj H0
          exact ret1 hI rfl rfl ⟨rfl, hE.below hI⟩
        · replace H1 := bif_f hc_24 H1
          refine wpIn_skip ?_
          refine inBlock_normal ?_
          refine then_normal ?_
          refine region_ (live := [5, 51, 38, 33, 4, 3, 2, 0, 1]) (orc := []) hF hI ⟨[⟨5, [], .v (.int .i64 (IntKind.i64.wrap (s1.1 + 1)))⟩, ⟨51, [], .v (.bool ((rd x0.Data s1.1) != (rd x1.Data s1.1)))⟩, ⟨38, [], .v (.bool (decide (s1.1 < (x0.Data.length : Int))))⟩, ⟨33, [], .v (.bool ((((x0.Code != x1.Code) || (!(x0.Valid == x1.Valid))) || (x0.Count != x1.Count)) || ((x0.Data.length : Int) != (x1.Data.length : Int))))⟩, ⟨4, [], .v (.bool s1.2)⟩, ⟨3, [], .p 1 0⟩, ⟨2, [], .p 0 0⟩, ⟨0, [], .v (.agg ((kd_Answer).cells x0 sv0).toArray)⟩, ⟨1, [], .v (.agg ((kd_Answer).cells x1 sv1).toArray)⟩], [], [], [((((kd_Answer).cells x0 sv0).map EV.v), 52), ((((kd_Answer).cells x1 sv1).map EV.v), 52)], none, none⟩ [] (by kernel_rfl) trivial (fun ns_27 a w_28 hI _ => ?_)
          refine then_normal ?_
          obtain rfl := Option.some.inj H1
          exact ⟨_, rfl, ⟨_, hI.pick [5, 33, 4, 3, 2, 0, 1] 2 ⟨[⟨5, [], .v (.int .i64 (IntKind.i64.wrap (s1.1 + 1)))⟩, ⟨33, [], .v (.bool ((((x0.Code != x1.Code) || (!(x0.Valid == x1.Valid))) || (x0.Count != x1.Count)) || ((x0.Data.length : Int) != (x1.Data.length : Int))))⟩, ⟨4, [], .v (.bool s1.2)⟩, ⟨3, [], .p 1 0⟩, ⟨2, [], .p 0 0⟩, ⟨0, [], .v (.agg ((kd_Answer).cells x0 sv0).toArray)⟩, ⟨1, [], .v (.agg ((kd_Answer).cells x1 sv1).toArray)⟩], [], [], [((((kd_Answer).cells x0 sv0).map EV.v), 52), ((((kd_Answer).cells x1 sv1).map EV.v), 52)], none, none⟩ (by kernel_rfl)⟩⟩
      · replace H1 := bif_f hc_14 H1
        refine wpIn_exit ?_
        refine then_exit ?_
        refine then_exit ?_
        obtain rfl := Option.some.inj H1
        exact .inl ⟨_, rfl, rfl, ⟨_, hI.pick [5, 33, 4, 3, 2, 0, 1] 2 ⟨[⟨5, [], .v (.int .i64 s1.1)⟩, ⟨33, [], .v (.bool ((((x0.Code != x1.Code) || (!(x0.Valid == x1.Valid))) || (x0.Count != x1.Count)) || ((x0.Data.length : Int) != (x1.Data.length : Int))))⟩, ⟨4, [], .v (.bool s1.2)⟩, ⟨3, [], .p 1 0⟩, ⟨2, [], .p 0 0⟩, ⟨0, [], .v (.agg ((kd_Answer).cells x0 sv0).toArray)⟩, ⟨1, [], .v (.agg ((kd_Answer).cells x1 sv1).toArray)⟩], [], [], [((((kd_Answer).cells x0 sv0).map EV.v), 52), ((((kd_Answer).cells x1 sv1).map EV.v), 52)], none, none⟩ (by kernel_rfl)⟩⟩
    · clear hI
      rintro s1 a w_31 ho ⟨ns_32, hI⟩
      subst ho
      replace H0 : (some true : Option (Bool)) = _ := H0
      refine then_normal ?_
      refine seq_region (live := [4, 5, 33, 3, 2, 0, 1]) (orc := []) hF hI ⟨[⟨4, [], .v (.bool true)⟩, ⟨5, [], .v (.int .i64 s1.1)⟩, ⟨33, [], .v (.bool ((((x0.Code != x1.Code) || (!(x0.Valid == x1.Valid))) || (x0.Count != x1.Count)) || ((x0.Data.length : Int) != (x1.Data.length : Int))))⟩, ⟨3, [], .p 1 0⟩, ⟨2, [], .p 0 0⟩, ⟨0, [], .v (.agg ((kd_Answer).cells x0 sv0).toArray)⟩, ⟨1, [], .v (.agg ((kd_Answer).cells x1 sv1).toArray)⟩], [], [], [((((kd_Answer).cells x0 sv0).map EV.v), 52), ((((kd_Answer).cells x1 sv1).map EV.v), 52)], none, none⟩ [] (by kernel_rfl) trivial (fun ns_33 a w_34 hI _ => ?_)
      refine wpIn_ret ?_
      obtain rfl := Option.some.inj H0
      exact ret1 hI rfl rfl ⟨rfl, hE.below hI⟩

/-! ### porthole/portholeref21.Same: function 21 -/
noncomputable def G_ref21_Same.b1 (l0 : (List Sight)) (l1 : (List Sight)) (s1 : Int × Bool) : Option (Stp (Int × Bool) (Ex (Int × Bool) (Bool))) := (bif decide (s1.1 < (l0.length : Int)) then (req (inb s1.1 l0.length) (req (inb s1.1 l1.length) (req (imp (!(((rd l0 s1.1).Kind) != ((rd l1 s1.1).Kind))) (inb s1.1 l0.length)) (req (imp (!(((rd l0 s1.1).Kind) != ((rd l1 s1.1).Kind))) (inb s1.1 l1.length)) (req (imp (!((((rd l0 s1.1).Kind) != ((rd l1 s1.1).Kind)) || (((rd l0 s1.1).Own) != ((rd l1 s1.1).Own)))) (inb s1.1 l0.length)) (req (imp (!((((rd l0 s1.1).Kind) != ((rd l1 s1.1).Kind)) || (((rd l0 s1.1).Own) != ((rd l1 s1.1).Own)))) (inb s1.1 l1.length)) (req (imp (!(((((rd l0 s1.1).Kind) != ((rd l1 s1.1).Kind)) || (((rd l0 s1.1).Own) != ((rd l1 s1.1).Own))) || (((rd l0 s1.1).Tick) != ((rd l1 s1.1).Tick)))) (inb s1.1 l0.length)) (req (imp (!(((((rd l0 s1.1).Kind) != ((rd l1 s1.1).Kind)) || (((rd l0 s1.1).Own) != ((rd l1 s1.1).Own))) || (((rd l0 s1.1).Tick) != ((rd l1 s1.1).Tick)))) (inb s1.1 l1.length)) ((cal (!(((((rd l0 s1.1).Kind) != ((rd l1 s1.1).Kind)) || (((rd l0 s1.1).Own) != ((rd l1 s1.1).Own))) || (((rd l0 s1.1).Tick) != ((rd l1 s1.1).Tick)))) (G_ref01_Same ((rd l0 s1.1).Ports) ((rd l1 s1.1).Ports)) default).bind fun t_47 => (bif ((((((rd l0 s1.1).Kind) != ((rd l1 s1.1).Kind)) || (((rd l0 s1.1).Own) != ((rd l1 s1.1).Own))) || (((rd l0 s1.1).Tick) != ((rd l1 s1.1).Tick))) || (!t_47)) then some (.out (.ret false)) else (req (inb s1.1 l0.length) (req (inb s1.1 l1.length) ((G_ref14_SameRequest ((rd l0 s1.1).Req) ((rd l1 s1.1).Req)).bind fun t_61 => (req (imp (!(!t_61)) (inb s1.1 l0.length)) (req (imp (!(!t_61)) (inb s1.1 l1.length)) ((cal (!(!t_61)) (G_ref11_SameAnswer ((rd l0 s1.1).Ans) ((rd l1 s1.1).Ans)) default).bind fun t_71 => (bif ((!t_61) || (!t_71)) then some (.out (.ret false)) else some (.next ((IntKind.i64.wrap (s1.1 + 1)), s1.2))))))))))))))))))) else some (.out (.brk (s1.1, s1.2))))
noncomputable def G_ref21_Same (l0 : (List Sight)) (l1 : (List Sight)) : Option (Bool) := (bif ((l0.length : Int) != (l1.length : Int)) then some false else ((loopω (G_ref21_Same.b1 l0 l1) (0, false)).bind fun o => o.on (fun s1 => some true) (fun r => some r)))
set_option maxRecDepth 100000 in
set_option maxHeartbeats 4000000 in
theorem G_ref21_Same.calls (l0 : (List Sight)) (l1 : (List Sight)) (A0 : Option Addr) (c0 : Nat) (A1 : Option Addr) (c1 : Nat) (w : World) {S : Nat → Prop} (hr0 : Arr kd_Sight S w A0 l0) (hc0 : l0.length ≤ c0) (hr1 : Arr kd_Sight S w A1 l1) (hc1 : l1.length ≤ c1) (r : Bool) (h : G_ref21_Same l0 l1 = some r) :
    Calls Try.prog 21 #[.slice A0 l0.length c0, .slice A1 l1.length c1] w fun e w' => e = .returned (.bool r) ∧ Below w.heap.size w w' := by
  replace hr0 := Arr.lo hr0
  replace hr1 := Arr.lo hr1
  unfold G_ref21_Same at h
  have H0 := h
  clear h
  refine enter Try.func21 rfl [.slice A0 l0.length c0, .slice A1 l1.length c1] (n := 94) rfl (Nat.le_of_ble_eq_true rfl) (fun a hI => ?_)
  have hF : FOpen Fence.wide := .inl rfl
  have hE := Ep.start w
  refine seq_region (live := [4, 0, 1]) (orc := []) hF hI ⟨[⟨4, [], .v (.bool false)⟩, ⟨0, [], .v (.slice A0 l0.length c0)⟩, ⟨1, [], .v (.slice A1 l1.length c1)⟩], [], [], [], none, none⟩ [] (by kernel_rfl) trivial (fun ns_1 a w_2 hI _ => ?_)
  refine wpIn_seq ?_
  refine seq_region (live := [10, 4, 0, 1]) (orc := []) hF hI ⟨[⟨10, [], .v (.bool ((l0.length : Int) != (l1.length : Int)))⟩, ⟨4, [], .v (.bool false)⟩, ⟨0, [], .v (.slice A0 l0.length c0)⟩, ⟨1, [], .v (.slice A1 l1.length c1)⟩], [], [], [], none, none⟩ [] (by kernel_rfl) trivial (fun ns_3 a w_4 hI _ => ?_)
  refine cond_ hI (((l0.length : Int) != (l1.length : Int))) rfl (fun hc_5 => ?_) (fun hc_5 => ?_)
  · replace H0 := bif_t hc_5 H0
    refine seq_region (live := [4, 10, 0, 1]) (orc := []) hF hI ⟨[⟨4, [], .v (.bool false)⟩, ⟨10, [], .v (.bool ((l0.length : Int) != (l1.length : Int)))⟩, ⟨0, [], .v (.slice A0 l0.length c0)⟩, ⟨1, [], .v (.slice A1 l1.length c1)⟩], [], [], [], none, none⟩ [] (by kernel_rfl) trivial (fun ns_6 a w_7 hI _ => ?_)
    refine wpIn_ret ?_
    refine then_ret ?_
    obtain rfl := Option.some.inj H0
    exact ret1 hI rfl rfl ⟨rfl, hE.below hI⟩
  · replace H0 := bif_f hc_5 H0
    refine wpIn_skip ?_
    refine then_normal ?_
    refine wpIn_seq ?_
    refine seq_region (live := [5, 10, 4, 0, 1]) (orc := []) hF hI ⟨[⟨5, [], .v (.int .i64 0)⟩, ⟨10, [], .v (.bool ((l0.length : Int) != (l1.length : Int)))⟩, ⟨4, [], .v (.bool false)⟩, ⟨0, [], .v (.slice A0 l0.length c0)⟩, ⟨1, [], .v (.slice A1 l1.length c1)⟩], [], [], [], none, none⟩ [] (by kernel_rfl) trivial (fun ns_8 a w_9 hI _ => ?_)
    obtain ⟨o_79, hL_80, H0⟩ := bind_some H0
    refine block_loop (fun (s1 : Int × Bool) a w_85 => ∃ ns, St w [] 94 ⟨[⟨5, [], .v (.int .i64 s1.1)⟩, ⟨10, [], .v (.bool ((l0.length : Int) != (l1.length : Int)))⟩, ⟨4, [], .v (.bool s1.2)⟩, ⟨0, [], .v (.slice A0 l0.length c0)⟩, ⟨1, [], .v (.slice A1 l1.length c1)⟩], [], [], [], none, none⟩ ns a w_85) (0, false) hL_80 ⟨_, hI.pick [5, 10, 4, 0, 1] 0 ⟨[⟨5, [], .v (.int .i64 0)⟩, ⟨10, [], .v (.bool ((l0.length : Int) != (l1.length : Int)))⟩, ⟨4, [], .v (.bool false)⟩, ⟨0, [], .v (.slice A0 l0.length c0)⟩, ⟨1, [], .v (.slice A1 l1.length c1)⟩], [], [], [], none, none⟩ (by kernel_rfl)⟩ ?_ ?_
    · clear hI
      rintro s1 a w_10 ⟨ns_11, hI⟩ r1 H1
      unfold G_ref21_Same.b1 at H1
      refine wpIn_seq ?_
      refine seq_region (live := [14, 5, 10, 4, 0, 1]) (orc := []) hF hI ⟨[⟨14, [], .v (.bool (decide (s1.1 < (l0.length : Int))))⟩, ⟨5, [], .v (.int .i64 s1.1)⟩, ⟨10, [], .v (.bool ((l0.length : Int) != (l1.length : Int)))⟩, ⟨4, [], .v (.bool s1.2)⟩, ⟨0, [], .v (.slice A0 l0.length c0)⟩, ⟨1, [], .v (.slice A1 l1.length c1)⟩], [], [], [], none, none⟩ [] (by kernel_rfl) trivial (fun ns_12 a w_13 hI _ => ?_)
      refine cond_ hI (decide (s1.1 < (l0.length : Int))) rfl (fun hc_14 => ?_) (fun hc_14 => ?_)
      · replace H1 := bif_t hc_14 H1
        refine wpIn_skip ?_
        refine then_normal ?_
        refine wpIn_seq ?_
        refine wpIn_block ?_
        refine wpIn_seq ?_
        refine wpIn_seq ?_
        obtain ⟨hN_15, H1⟩ := req_some H1
        obtain ⟨sv_16, hE_18, hA_17⟩ := Arr.elB (d := kd_Sight) hr0 s1.1 true (fun _ => hN_15)
        replace hE_18 := hE_18 rfl
        replace hA_17 := fun (_ : true = true) => hA_17 rfl
        obtain ⟨hN_19, H1⟩ := req_some H1
        obtain ⟨sv_20, hE_22, hA_21⟩ := Arr.elB (d := kd_Sight) hr1 s1.1 true (fun _ => hN_19)
        replace hE_22 := hE_22 rfl
        replace hA_21 := fun (_ : true = true) => hA_21 rfl
        obtain ⟨hN_23, H1⟩ := req_some H1
        obtain ⟨sv_24, hE_26, hA_25⟩ := Arr.elB (d := kd_Sight) hr0 s1.1 (!(((rd l0 s1.1).Kind) != ((rd l1 s1.1).Kind))) (fun hg => imp_spec hN_23 hg)
        obtain ⟨hN_27, H1⟩ := req_some H1
        obtain ⟨sv_28, hE_30, hA_29⟩ := Arr.elB (d := kd_Sight) hr1 s1.1 (!(((rd l0 s1.1).Kind) != ((rd l1 s1.1).Kind))) (fun hg => imp_spec hN_27 hg)
        obtain ⟨hN_31, H1⟩ := req_some H1
        obtain ⟨sv_32, hE_34, hA_33⟩ := Arr.elB (d := kd_Sight) hr0 s1.1 (!((((rd l0 s1.1).Kind) != ((rd l1 s1.1).Kind)) || (((rd l0 s1.1).Own) != ((rd l1 s1.1).Own)))) (fun hg => imp_spec hN_31 hg)
        obtain ⟨hN_35, H1⟩ := req_some H1
        obtain ⟨sv_36, hE_38, hA_37⟩ := Arr.elB (d := kd_Sight) hr1 s1.1 (!((((rd l0 s1.1).Kind) != ((rd l1 s1.1).Kind)) || (((rd l0 s1.1).Own) != ((rd l1 s1.1).Own)))) (fun hg => imp_spec hN_35 hg)
        obtain ⟨hN_39, H1⟩ := req_some H1
        obtain ⟨sv_40, hE_42, hA_41⟩ := Arr.elB (d := kd_Sight) hr0 s1.1 (!(((((rd l0 s1.1).Kind) != ((rd l1 s1.1).Kind)) || (((rd l0 s1.1).Own) != ((rd l1 s1.1).Own))) || (((rd l0 s1.1).Tick) != ((rd l1 s1.1).Tick)))) (fun hg => imp_spec hN_39 hg)
        obtain ⟨hN_43, H1⟩ := req_some H1
        obtain ⟨sv_44, hE_46, hA_45⟩ := Arr.elB (d := kd_Sight) hr1 s1.1 (!(((((rd l0 s1.1).Kind) != ((rd l1 s1.1).Kind)) || (((rd l0 s1.1).Own) != ((rd l1 s1.1).Own))) || (((rd l0 s1.1).Tick) != ((rd l1 s1.1).Tick)))) (fun hg => imp_spec hN_43 hg)
        obtain ⟨t_47, hG_48, H1⟩ := bind_some H1
        refine drawn_ (live := [67, 14, 5, 10, 4, 0, 1]) (orc := [[.int .i64 ((rd l0 s1.1).Kind)], [.int .i64 ((rd l1 s1.1).Kind)], [.int .i64 ((rd l0 s1.1).Own)], [.int .i64 ((rd l1 s1.1).Own)], [.int .i64 ((rd l0 s1.1).Tick)], [.int .i64 ((rd l1 s1.1).Tick)], [.slice ((sv_40 2).1) ((rd l0 s1.1).Ports).length ((sv_40 2).2)], [.slice ((sv_44 2).1) ((rd l1 s1.1).Ports).length ((sv_44 2).2)], [.bool t_47]]) hF hI ⟨[⟨67, [], .v (.bool ((((((rd l0 s1.1).Kind) != ((rd l1 s1.1).Kind)) || (((rd l0 s1.1).Own) != ((rd l1 s1.1).Own))) || (((rd l0 s1.1).Tick) != ((rd l1 s1.1).Tick))) || (!t_47)))⟩, ⟨14, [], .v (.bool (decide (s1.1 < (l0.length : Int))))⟩, ⟨5, [], .v (.int .i64 s1.1)⟩, ⟨10, [], .v (.bool ((l0.length : Int) != (l1.length : Int)))⟩, ⟨4, [], .v (.bool s1.2)⟩, ⟨0, [], .v (.slice A0 l0.length c0)⟩, ⟨1, [], .v (.slice A1 l1.length c1)⟩], [], [], [], none, none⟩ [.need true (0 ≤ s1.1 ∧ s1.1 < (l0.length : Int)), .need true (A0 = some (adr A0)), .cell true ((adr A0).add ((s1.1 : Int).toNat * 12)) [.int .i64 ((rd l0 s1.1).Kind)], .need true (0 ≤ s1.1 ∧ s1.1 < (l1.length : Int)), .need true (A1 = some (adr A1)), .cell true ((adr A1).add ((s1.1 : Int).toNat * 12)) [.int .i64 ((rd l1 s1.1).Kind)], .need (!(((rd l0 s1.1).Kind) != ((rd l1 s1.1).Kind))) (0 ≤ s1.1 ∧ s1.1 < (l0.length : Int)), .need (!(((rd l0 s1.1).Kind) != ((rd l1 s1.1).Kind))) (A0 = some (adr A0)), .cell (!(((rd l0 s1.1).Kind) != ((rd l1 s1.1).Kind))) (((adr A0).add ((s1.1 : Int).toNat * 12)).add 1) [.int .i64 ((rd l0 s1.1).Own)], .need (!(((rd l0 s1.1).Kind) != ((rd l1 s1.1).Kind))) (0 ≤ s1.1 ∧ s1.1 < (l1.length : Int)), .need (!(((rd l0 s1.1).Kind) != ((rd l1 s1.1).Kind))) (A1 = some (adr A1)), .cell (!(((rd l0 s1.1).Kind) != ((rd l1 s1.1).Kind))) (((adr A1).add ((s1.1 : Int).toNat * 12)).add 1) [.int .i64 ((rd l1 s1.1).Own)], .need (!((((rd l0 s1.1).Kind) != ((rd l1 s1.1).Kind)) || (((rd l0 s1.1).Own) != ((rd l1 s1.1).Own)))) (0 ≤ s1.1 ∧ s1.1 < (l0.length : Int)), .need (!((((rd l0 s1.1).Kind) != ((rd l1 s1.1).Kind)) || (((rd l0 s1.1).Own) != ((rd l1 s1.1).Own)))) (A0 = some (adr A0)), .cell (!((((rd l0 s1.1).Kind) != ((rd l1 s1.1).Kind)) || (((rd l0 s1.1).Own) != ((rd l1 s1.1).Own)))) (((adr A0).add ((s1.1 : Int).toNat * 12)).add 2) [.int .i64 ((rd l0 s1.1).Tick)], .need (!((((rd l0 s1.1).Kind) != ((rd l1 s1.1).Kind)) || (((rd l0 s1.1).Own) != ((rd l1 s1.1).Own)))) (0 ≤ s1.1 ∧ s1.1 < (l1.length : Int)), .need (!((((rd l0 s1.1).Kind) != ((rd l1 s1.1).Kind)) || (((rd l0 s1.1).Own) != ((rd l1 s1.1).Own)))) (A1 = some (adr A1)), .cell (!((((rd l0 s1.1).Kind) != ((rd l1 s1.1).Kind)) || (((rd l0 s1.1).Own) != ((rd l1 s1.1).Own)))) (((adr A1).add ((s1.1 : Int).toNat * 12)).add 2) [.int .i64 ((rd l1 s1.1).Tick)], .need (!(((((rd l0 s1.1).Kind) != ((rd l1 s1.1).Kind)) || (((rd l0 s1.1).Own) != ((rd l1 s1.1).Own))) || (((rd l0 s1.1).Tick) != ((rd l1 s1.1).Tick)))) (0 ≤ s1.1 ∧ s1.1 < (l0.length : Int)), .need (!(((((rd l0 s1.1).Kind) != ((rd l1 s1.1).Kind)) || (((rd l0 s1.1).Own) != ((rd l1 s1.1).Own))) || (((rd l0 s1.1).Tick) != ((rd l1 s1.1).Tick)))) (A0 = some (adr A0)), .cell (!(((((rd l0 s1.1).Kind) != ((rd l1 s1.1).Kind)) || (((rd l0 s1.1).Own) != ((rd l1 s1.1).Own))) || (((rd l0 s1.1).Tick) != ((rd l1 s1.1).Tick)))) (((adr A0).add ((s1.1 : Int).toNat * 12)).add 11) [.slice ((sv_40 2).1) ((rd l0 s1.1).Ports).length ((sv_40 2).2)], .need (!(((((rd l0 s1.1).Kind) != ((rd l1 s1.1).Kind)) || (((rd l0 s1.1).Own) != ((rd l1 s1.1).Own))) || (((rd l0 s1.1).Tick) != ((rd l1 s1.1).Tick)))) (0 ≤ s1.1 ∧ s1.1 < (l1.length : Int)), .need (!(((((rd l0 s1.1).Kind) != ((rd l1 s1.1).Kind)) || (((rd l0 s1.1).Own) != ((rd l1 s1.1).Own))) || (((rd l0 s1.1).Tick) != ((rd l1 s1.1).Tick)))) (A1 = some (adr A1)), .cell (!(((((rd l0 s1.1).Kind) != ((rd l1 s1.1).Kind)) || (((rd l0 s1.1).Own) != ((rd l1 s1.1).Own))) || (((rd l0 s1.1).Tick) != ((rd l1 s1.1).Tick)))) (((adr A1).add ((s1.1 : Int).toNat * 12)).add 11) [.slice ((sv_44 2).1) ((rd l1 s1.1).Ports).length ((sv_44 2).2)], .call (!(((((rd l0 s1.1).Kind) != ((rd l1 s1.1).Kind)) || (((rd l0 s1.1).Own) != ((rd l1 s1.1).Own))) || (((rd l0 s1.1).Tick) != ((rd l1 s1.1).Tick)))) 18 [.slice ((sv_40 2).1) ((rd l0 s1.1).Ports).length ((sv_40 2).2), .slice ((sv_44 2).1) ((rd l1 s1.1).Ports).length ((sv_44 2).2)] (.bool t_47)] (by kernel_rfl) (by kernel_rfl) (by kernel_rfl) ⟨ob_inb (fun _ => hN_15), hA_17, ob_el (fun _ => hE_18) 0 [.int .i64 ((rd l0 s1.1).Kind)] rfl, ob_inb (fun _ => hN_19), hA_21, ob_el (fun _ => hE_22) 0 [.int .i64 ((rd l1 s1.1).Kind)] rfl, ob_inb (fun hg => imp_spec hN_23 hg), hA_25, ob_el (fun hg => hE_26 hg) 1 [.int .i64 ((rd l0 s1.1).Own)] rfl, ob_inb (fun hg => imp_spec hN_27 hg), hA_29, ob_el (fun hg => hE_30 hg) 1 [.int .i64 ((rd l1 s1.1).Own)] rfl, ob_inb (fun hg => imp_spec hN_31 hg), hA_33, ob_el (fun hg => hE_34 hg) 2 [.int .i64 ((rd l0 s1.1).Tick)] rfl, ob_inb (fun hg => imp_spec hN_35 hg), hA_37, ob_el (fun hg => hE_38 hg) 2 [.int .i64 ((rd l1 s1.1).Tick)] rfl, ob_inb (fun hg => imp_spec hN_39 hg), hA_41, ob_el (fun hg => hE_42 hg) 11 [.slice ((sv_40 2).1) ((rd l0 s1.1).Ports).length ((sv_40 2).2)] rfl, ob_inb (fun hg => imp_spec hN_43 hg), hA_45, ob_el (fun hg => hE_46 hg) 11 [.slice ((sv_44 2).1) ((rd l1 s1.1).Ports).length ((sv_44 2).2)] rfl, ob_call (enters Try.func18 (by kernel_rfl) rfl) (fun hg wz hk => G_ref01_Same.calls ((rd l0 s1.1).Ports) ((rd l1 s1.1).Ports) ((sv_40 2).1) ((sv_40 2).2) ((sv_44 2).1) ((sv_44 2).2) wz (S := fun _ => True) (Arr.any (Arr.keep ((hE_42 hg)).cont.2.2.1.1 (Lo.on hk))) ((hE_42 hg)).cont.2.2.1.2 (Arr.any (Arr.keep ((hE_46 hg)).cont.2.2.1.1 (Lo.on hk))) ((hE_46 hg)).cont.2.2.1.2 _ (cal_some hG_48 hg)), trivial⟩ (fun a w_49 hI => ?_)
        refine then_normal ?_
        refine cond_ hI (((((((rd l0 s1.1).Kind) != ((rd l1 s1.1).Kind)) || (((rd l0 s1.1).Own) != ((rd l1 s1.1).Own))) || (((rd l0 s1.1).Tick) != ((rd l1 s1.1).Tick))) || (!t_47))) rfl (fun hc_50 => ?_) (fun hc_50 => ?_)
        · replace H1 := bif_t hc_50 H1
          refine seq_region (live := [4, 67, 14, 5, 10, 0, 1]) (orc := []) hF hI ⟨[⟨4, [], .v (.bool false)⟩, ⟨67, [], .v (.bool ((((((rd l0 s1.1).Kind) != ((rd l1 s1.1).Kind)) || (((rd l0 s1.1).Own) != ((rd l1 s1.1).Own))) || (((rd l0 s1.1).Tick) != ((rd l1 s1.1).Tick))) || (!t_47)))⟩, ⟨14, [], .v (.bool (decide (s1.1 < (l0.length : Int))))⟩, ⟨5, [], .v (.int .i64 s1.1)⟩, ⟨10, [], .v (.bool ((l0.length : Int) != (l1.length : Int)))⟩, ⟨0, [], .v (.slice A0 l0.length c0)⟩, ⟨1, [], .v (.slice A1 l1.length c1)⟩], [], [], [], none, none⟩ [] (by kernel_rfl) trivial (fun ns_51 a w_52 hI _ => ?_)
          refine wpIn_ret ?_
          refine then_ret ?_
          refine inBlock_ret ?_
          refine then_ret ?_
          refine then_ret ?_
          obtain rfl := Option.some.inj H1
          refine .inr ⟨_, rfl, fun ho => ?_⟩
          subst ho
          refine inBlock_ret ?_
          refine then_ret ?_
          obtain rfl := Option.some.inj H0
          exact ret1 hI rfl rfl ⟨rfl, hE.below hI⟩
        · replace H1 := bif_f hc_50 H1
          refine wpIn_skip ?_
          refine then_normal ?_
          refine wpIn_seq ?_
          obtain ⟨hN_53, H1⟩ := req_some H1
          obtain ⟨sv_54, hE_56, hA_55⟩ := Arr.elB (d := kd_Sight) hr0 s1.1 true (fun _ => hN_53)
          replace hE_56 := hE_56 rfl
          replace hA_55 := fun (_ : true = true) => hA_55 rfl
          obtain ⟨hN_57, H1⟩ := req_some H1
          obtain ⟨sv_58, hE_60, hA_59⟩ := Arr.elB (d := kd_Sight) hr1 s1.1 true (fun _ => hN_57)
          replace hE_60 := hE_60 rfl
          replace hA_59 := fun (_ : true = true) => hA_59 rfl
          obtain ⟨t_61, hG_62, H1⟩ := bind_some H1
          obtain ⟨hN_63, H1⟩ := req_some H1
          obtain ⟨sv_64, hE_66, hA_65⟩ := Arr.elB (d := kd_Sight) hr0 s1.1 (!(!t_61)) (fun hg => imp_spec hN_63 hg)
          obtain ⟨hN_67, H1⟩ := req_some H1
          obtain ⟨sv_68, hE_70, hA_69⟩ := Arr.elB (d := kd_Sight) hr1 s1.1 (!(!t_61)) (fun hg => imp_spec hN_67 hg)
          obtain ⟨t_71, hG_72, H1⟩ := bind_some H1
          refine drawn_ (live := [93, 67, 14, 5, 10, 4, 0, 1]) (orc := [[.int .i64 ((rd l0 s1.1).Req.Op), .int .i64 ((rd l0 s1.1).Req.Port), .int .u64 ((rd l0 s1.1).Req.Addr), .slice ((sv_54 0).1) ((rd l0 s1.1).Req.Data).length ((sv_54 0).2)], [.int .i64 ((rd l1 s1.1).Req.Op), .int .i64 ((rd l1 s1.1).Req.Port), .int .u64 ((rd l1 s1.1).Req.Addr), .slice ((sv_58 0).1) ((rd l1 s1.1).Req.Data).length ((sv_58 0).2)], [.bool t_61], [.int .i64 ((rd l0 s1.1).Ans.Code), .slice ((sv_64 1).1) ((rd l0 s1.1).Ans.Data).length ((sv_64 1).2), .bool ((rd l0 s1.1).Ans.Valid), .int .i64 ((rd l0 s1.1).Ans.Count)], [.int .i64 ((rd l1 s1.1).Ans.Code), .slice ((sv_68 1).1) ((rd l1 s1.1).Ans.Data).length ((sv_68 1).2), .bool ((rd l1 s1.1).Ans.Valid), .int .i64 ((rd l1 s1.1).Ans.Count)], [.bool t_71]]) hF hI ⟨[⟨93, [], .v (.bool ((!t_61) || (!t_71)))⟩, ⟨67, [], .v (.bool ((((((rd l0 s1.1).Kind) != ((rd l1 s1.1).Kind)) || (((rd l0 s1.1).Own) != ((rd l1 s1.1).Own))) || (((rd l0 s1.1).Tick) != ((rd l1 s1.1).Tick))) || (!t_47)))⟩, ⟨14, [], .v (.bool (decide (s1.1 < (l0.length : Int))))⟩, ⟨5, [], .v (.int .i64 s1.1)⟩, ⟨10, [], .v (.bool ((l0.length : Int) != (l1.length : Int)))⟩, ⟨4, [], .v (.bool s1.2)⟩, ⟨0, [], .v (.slice A0 l0.length c0)⟩, ⟨1, [], .v (.slice A1 l1.length c1)⟩], [], [], [], none, none⟩ [.need true (0 ≤ s1.1 ∧ s1.1 < (l0.length : Int)), .need true (A0 = some (adr A0)), .cell true (((adr A0).add ((s1.1 : Int).toNat * 12)).add 3) [.int .i64 ((rd l0 s1.1).Req.Op), .int .i64 ((rd l0 s1.1).Req.Port), .int .u64 ((rd l0 s1.1).Req.Addr), .slice ((sv_54 0).1) ((rd l0 s1.1).Req.Data).length ((sv_54 0).2)], .need true (0 ≤ s1.1 ∧ s1.1 < (l1.length : Int)), .need true (A1 = some (adr A1)), .cell true (((adr A1).add ((s1.1 : Int).toNat * 12)).add 3) [.int .i64 ((rd l1 s1.1).Req.Op), .int .i64 ((rd l1 s1.1).Req.Port), .int .u64 ((rd l1 s1.1).Req.Addr), .slice ((sv_58 0).1) ((rd l1 s1.1).Req.Data).length ((sv_58 0).2)], .call true 44 [.agg ((kd_Request).cells ((rd l0 s1.1).Req) (svL [((sv_54 0).1, (sv_54 0).2)])).toArray, .agg ((kd_Request).cells ((rd l1 s1.1).Req) (svL [((sv_58 0).1, (sv_58 0).2)])).toArray] (.bool t_61), .need (!(!t_61)) (0 ≤ s1.1 ∧ s1.1 < (l0.length : Int)), .need (!(!t_61)) (A0 = some (adr A0)), .cell (!(!t_61)) (((adr A0).add ((s1.1 : Int).toNat * 12)).add 7) [.int .i64 ((rd l0 s1.1).Ans.Code), .slice ((sv_64 1).1) ((rd l0 s1.1).Ans.Data).length ((sv_64 1).2), .bool ((rd l0 s1.1).Ans.Valid), .int .i64 ((rd l0 s1.1).Ans.Count)], .need (!(!t_61)) (0 ≤ s1.1 ∧ s1.1 < (l1.length : Int)), .need (!(!t_61)) (A1 = some (adr A1)), .cell (!(!t_61)) (((adr A1).add ((s1.1 : Int).toNat * 12)).add 7) [.int .i64 ((rd l1 s1.1).Ans.Code), .slice ((sv_68 1).1) ((rd l1 s1.1).Ans.Data).length ((sv_68 1).2), .bool ((rd l1 s1.1).Ans.Valid), .int .i64 ((rd l1 s1.1).Ans.Count)], .call (!(!t_61)) 45 [.agg ((kd_Answer).cells ((rd l0 s1.1).Ans) (svL [((sv_64 1).1, (sv_64 1).2)])).toArray, .agg ((kd_Answer).cells ((rd l1 s1.1).Ans) (svL [((sv_68 1).1, (sv_68 1).2)])).toArray] (.bool t_71)] (by kernel_rfl) (by kernel_rfl) (by kernel_rfl) ⟨ob_inb (fun _ => hN_53), hA_55, ob_el (fun _ => hE_56) 3 [.int .i64 ((rd l0 s1.1).Req.Op), .int .i64 ((rd l0 s1.1).Req.Port), .int .u64 ((rd l0 s1.1).Req.Addr), .slice ((sv_54 0).1) ((rd l0 s1.1).Req.Data).length ((sv_54 0).2)] rfl, ob_inb (fun _ => hN_57), hA_59, ob_el (fun _ => hE_60) 3 [.int .i64 ((rd l1 s1.1).Req.Op), .int .i64 ((rd l1 s1.1).Req.Port), .int .u64 ((rd l1 s1.1).Req.Addr), .slice ((sv_58 0).1) ((rd l1 s1.1).Req.Data).length ((sv_58 0).2)] rfl, ob_call (enters Try.func44 (by kernel_rfl) rfl) (fun hg wz hk => G_ref14_SameRequest.calls ((rd l0 s1.1).Req) ((rd l1 s1.1).Req) (svL [((sv_54 0).1, (sv_54 0).2)]) (svL [((sv_58 0).1, (sv_58 0).2)]) wz (S := fun _ => True) (Kd.any _ (Kd.keep kd_Request (contI (S := Lo S w w [] []) (w := w) (d := kd_Request) (x := ((rd l0 s1.1).Req)) (sv := (svL [((sv_54 0).1, (sv_54 0).2)])) ⟨⟨(hE_56).cont.1.1, (hE_56).cont.1.2⟩, trivial⟩) (Lo.on hk))) (Kd.any _ (Kd.keep kd_Request (contI (S := Lo S w w [] []) (w := w) (d := kd_Request) (x := ((rd l1 s1.1).Req)) (sv := (svL [((sv_58 0).1, (sv_58 0).2)])) ⟨⟨(hE_60).cont.1.1, (hE_60).cont.1.2⟩, trivial⟩) (Lo.on hk))) _ hG_62), ob_inb (fun hg => imp_spec hN_63 hg), hA_65, ob_el (fun hg => hE_66 hg) 7 [.int .i64 ((rd l0 s1.1).Ans.Code), .slice ((sv_64 1).1) ((rd l0 s1.1).Ans.Data).length ((sv_64 1).2), .bool ((rd l0 s1.1).Ans.Valid), .int .i64 ((rd l0 s1.1).Ans.Count)] rfl, ob_inb (fun hg => imp_spec hN_67 hg), hA_69, ob_el (fun hg => hE_70 hg) 7 [.int .i64 ((rd l1 s1.1).Ans.Code), .slice ((sv_68 1).1) ((rd l1 s1.1).Ans.Data).length ((sv_68 1).2), .bool ((rd l1 s1.1).Ans.Valid), .int .i64 ((rd l1 s1.1).Ans.Count)] rfl, ob_call (enters Try.func45 (by kernel_rfl) rfl) (fun hg wz hk => G_ref11_SameAnswer.calls ((rd l0 s1.1).Ans) ((rd l1 s1.1).Ans) (svL [((sv_64 1).1, (sv_64 1).2)]) (svL [((sv_68 1).1, (sv_68 1).2)]) wz (S := fun _ => True) (Kd.any _ (Kd.keep kd_Answer (contI (S := Lo S w w [] []) (w := w) (d := kd_Answer) (x := ((rd l0 s1.1).Ans)) (sv := (svL [((sv_64 1).1, (sv_64 1).2)])) ⟨⟨((hE_66 hg)).cont.2.1.1, ((hE_66 hg)).cont.2.1.2⟩, trivial⟩) (Lo.on hk))) (Kd.any _ (Kd.keep kd_Answer (contI (S := Lo S w w [] []) (w := w) (d := kd_Answer) (x := ((rd l1 s1.1).Ans)) (sv := (svL [((sv_68 1).1, (sv_68 1).2)])) ⟨⟨((hE_70 hg)).cont.2.1.1, ((hE_70 hg)).cont.2.1.2⟩, trivial⟩) (Lo.on hk))) _ (cal_some hG_72 hg)), trivial⟩ (fun a w_73 hI => ?_)
          refine then_normal ?_
          refine cond_ hI (((!t_61) || (!t_71))) rfl (fun hc_74 => ?_) (fun hc_74 => ?_)
          · replace H1 := bif_t hc_74 H1
            refine seq_region (live := [4, 93, 67, 14, 5, 10, 0, 1]) (orc := []) hF hI ⟨[⟨4, [], .v (.bool false)⟩, ⟨93, [], .v (.bool ((!t_61) || (!t_71)))⟩, ⟨67, [], .v (.bool ((((((rd l0 s1.1).Kind) != ((rd l1 s1.1).Kind)) || (((rd l0 s1.1).Own) != ((rd l1 s1.1).Own))) || (((rd l0 s1.1).Tick) != ((rd l1 s1.1).Tick))) || (!t_47)))⟩, ⟨14, [], .v (.bool (decide (s1.1 < (l0.length : Int))))⟩, ⟨5, [], .v (.int .i64 s1.1)⟩, ⟨10, [], .v (.bool ((l0.length : Int) != (l1.length : Int)))⟩, ⟨0, [], .v (.slice A0 l0.length c0)⟩, ⟨1, [], .v (.slice A1 l1.length c1)⟩], [], [], [], none, none⟩ [] (by kernel_rfl) trivial (fun ns_75 a w_76 hI _ => ?_)
            refine wpIn_ret ?_
            refine inBlock_ret ?_
            refine then_ret ?_
            refine then_ret ?_
            obtain rfl := Option.some.inj H1
            refine .inr ⟨_, rfl, fun ho => ?_⟩
            subst ho
            refine inBlock_ret ?_
            refine then_ret ?_
            obtain rfl := Option.some.inj H0
            exact ret1 hI rfl rfl ⟨rfl, hE.below hI⟩
          · replace H1 := bif_f hc_74 H1
            refine wpIn_skip ?_
            refine inBlock_normal ?_
            refine then_normal ?_
            refine region_ (live := [5, 93, 67, 14, 10, 4, 0, 1]) (orc := []) hF hI ⟨[⟨5, [], .v (.int .i64 (IntKind.i64.wrap (s1.1 + 1)))⟩, ⟨93, [], .v (.bool ((!t_61) || (!t_71)))⟩, ⟨67, [], .v (.bool ((((((rd l0 s1.1).Kind) != ((rd l1 s1.1).Kind)) || (((rd l0 s1.1).Own) != ((rd l1 s1.1).Own))) || (((rd l0 s1.1).Tick) != ((rd l1 s1.1).Tick))) || (!t_47)))⟩, ⟨14, [], .v (.bool (decide (s1.1 < (l0.length : Int))))⟩, ⟨10, [], .v (.bool ((l0.length : Int) != (l1.length : Int)))⟩, ⟨4, [], .v (.bool s1.2)⟩, ⟨0, [], .v (.slice A0 l0.length c0)⟩, ⟨1, [], .v (.slice A1 l1.length c1)⟩], [], [], [], none, none⟩ [] (by kernel_rfl) trivial (fun ns_77 a w_78 hI _ => ?_)
            refine then_normal ?_
            obtain rfl := Option.some.inj H1
            exact ⟨_, rfl, ⟨_, hI.pick [5, 10, 4, 0, 1] 0 ⟨[⟨5, [], .v (.int .i64 (IntKind.i64.wrap (s1.1 + 1)))⟩, ⟨10, [], .v (.bool ((l0.length : Int) != (l1.length : Int)))⟩, ⟨4, [], .v (.bool s1.2)⟩, ⟨0, [], .v (.slice A0 l0.length c0)⟩, ⟨1, [], .v (.slice A1 l1.length c1)⟩], [], [], [], none, none⟩ (by kernel_rfl)⟩⟩
      · replace H1 := bif_f hc_14 H1
        refine wpIn_exit ?_
        refine then_exit ?_
        refine then_exit ?_
        obtain rfl := Option.some.inj H1
        exact .inl ⟨_, rfl, rfl, ⟨_, hI.pick [5, 10, 4, 0, 1] 0 ⟨[⟨5, [], .v (.int .i64 s1.1)⟩, ⟨10, [], .v (.bool ((l0.length : Int) != (l1.length : Int)))⟩, ⟨4, [], .v (.bool s1.2)⟩, ⟨0, [], .v (.slice A0 l0.length c0)⟩, ⟨1, [], .v (.slice A1 l1.length c1)⟩], [], [], [], none, none⟩ (by kernel_rfl)⟩⟩
    · clear hI
      rintro s1 a w_81 ho ⟨ns_82, hI⟩
      subst ho
      replace H0 : (some true : Option (Bool)) = _ := H0
      refine then_normal ?_
      refine seq_region (live := [4, 5, 10, 0, 1]) (orc := []) hF hI ⟨[⟨4, [], .v (.bool true)⟩, ⟨5, [], .v (.int .i64 s1.1)⟩, ⟨10, [], .v (.bool ((l0.length : Int) != (l1.length : Int)))⟩, ⟨0, [], .v (.slice A0 l0.length c0)⟩, ⟨1, [], .v (.slice A1 l1.length c1)⟩], [], [], [], none, none⟩ [] (by kernel_rfl) trivial (fun ns_83 a w_84 hI _ => ?_)
      refine wpIn_ret ?_
      obtain rfl := Option.some.inj H0
      exact ret1 hI rfl rfl ⟨rfl, hE.below hI⟩

/-! ### porthole/portholelaw21.FlowSame: function 5 -/
noncomputable def G_law21_FlowSame (l0 : (List Sight)) (l1 : (List Sight)) : Option (Bool) := ((G_law21_wakes).bind fun t_3 => (bif (!t_3) then some false else ((cal (!(decide ((l0.length : Int) > 60) || decide ((l1.length : Int) > 60))) (G_flow_Same l0 l1) default).bind fun t_10 => ((cal (!(decide ((l0.length : Int) > 60) || decide ((l1.length : Int) > 60))) (G_ref21_Same l0 l1) default).bind fun t_12 => some ((decide ((l0.length : Int) > 60) || decide ((l1.length : Int) > 60)) || (t_10 == t_12))))))
set_option maxRecDepth 100000 in
set_option maxHeartbeats 4000000 in
theorem G_law21_FlowSame.calls (l0 : (List Sight)) (l1 : (List Sight)) (A0 : Option Addr) (c0 : Nat) (A1 : Option Addr) (c1 : Nat) (w : World) {S : Nat → Prop} (hr0 : Arr kd_Sight S w A0 l0) (hc0 : l0.length ≤ c0) (hr1 : Arr kd_Sight S w A1 l1) (hc1 : l1.length ≤ c1) (r : Bool) (h : G_law21_FlowSame l0 l1 = some r) :
    Calls Try.prog 5 #[.slice A0 l0.length c0, .slice A1 l1.length c1] w fun e w' => e = .returned (.bool r) ∧ Below w.heap.size w w' := by
  replace hr0 := Arr.lo hr0
  replace hr1 := Arr.lo hr1
  unfold G_law21_FlowSame at h
  have H0 := h
  clear h
  refine enter Try.func5 rfl [.slice A0 l0.length c0, .slice A1 l1.length c1] (n := 24) rfl (Nat.le_of_ble_eq_true rfl) (fun a hI => ?_)
  have hF : FOpen Fence.wide := .inl rfl
  have hE := Ep.start w
  refine seq_region (live := [4, 0, 1]) (orc := []) hF hI ⟨[⟨4, [], .v (.bool false)⟩, ⟨0, [], .v (.slice A0 l0.length c0)⟩, ⟨1, [], .v (.slice A1 l1.length c1)⟩], [], [], [], none, none⟩ [] (by kernel_rfl) trivial (fun ns_1 a w_2 hI _ => ?_)
  refine wpIn_seq ?_
  obtain ⟨t_3, hG_4, H0⟩ := bind_some H0
  refine seq_region (live := [6, 4, 0, 1]) (orc := [[.bool t_3]]) hF hI ⟨[⟨6, [], .v (.bool (!t_3))⟩, ⟨4, [], .v (.bool false)⟩, ⟨0, [], .v (.slice A0 l0.length c0)⟩, ⟨1, [], .v (.slice A1 l1.length c1)⟩], [], [], [], none, none⟩ [.call true 12 [] (.bool t_3)] (by kernel_rfl) ⟨ob_call (enters Try.func12 (by kernel_rfl) rfl) (fun hg wz hk => G_law21_wakes.calls   wz (S := fun _ => True)  _ hG_4), trivial⟩ (fun ns_5 a w_6 hI _ => ?_)
  refine cond_ hI ((!t_3)) rfl (fun hc_7 => ?_) (fun hc_7 => ?_)
  · replace H0 := bif_t hc_7 H0
    refine seq_region (live := [4, 6, 0, 1]) (orc := []) hF hI ⟨[⟨4, [], .v (.bool false)⟩, ⟨6, [], .v (.bool (!t_3))⟩, ⟨0, [], .v (.slice A0 l0.length c0)⟩, ⟨1, [], .v (.slice A1 l1.length c1)⟩], [], [], [], none, none⟩ [] (by kernel_rfl) trivial (fun ns_8 a w_9 hI _ => ?_)
    refine wpIn_ret ?_
    refine then_ret ?_
    obtain rfl := Option.some.inj H0
    exact ret1 hI rfl rfl ⟨rfl, hE.below hI⟩
  · replace H0 := bif_f hc_7 H0
    refine wpIn_skip ?_
    refine then_normal ?_
    obtain ⟨t_10, hG_11, H0⟩ := bind_some H0
    obtain ⟨t_12, hG_13, H0⟩ := bind_some H0
    refine seq_region (live := [4, 6, 0, 1]) (orc := [[.bool t_10], [.bool t_12]]) hF hI ⟨[⟨4, [], .v (.bool ((decide ((l0.length : Int) > 60) || decide ((l1.length : Int) > 60)) || (t_10 == t_12)))⟩, ⟨6, [], .v (.bool (!t_3))⟩, ⟨0, [], .v (.slice A0 l0.length c0)⟩, ⟨1, [], .v (.slice A1 l1.length c1)⟩], [], [], [], none, none⟩ [.call (!(decide ((l0.length : Int) > 60) || decide ((l1.length : Int) > 60))) 20 [.slice A0 l0.length c0, .slice A1 l1.length c1] (.bool t_10), .call (!(decide ((l0.length : Int) > 60) || decide ((l1.length : Int) > 60))) 21 [.slice A0 l0.length c0, .slice A1 l1.length c1] (.bool t_12)] (by kernel_rfl) ⟨ob_call (enters Try.func20 (by kernel_rfl) rfl) (fun hg wz hk => G_flow_Same.calls l0 l1 A0 c0 A1 c1 wz (S := fun _ => True) (Arr.any (Arr.keep hr0 (Lo.on hk))) hc0 (Arr.any (Arr.keep hr1 (Lo.on hk))) hc1 _ (cal_some hG_11 hg)), ob_call (enters Try.func21 (by kernel_rfl) rfl) (fun hg wz hk => G_ref21_Same.calls l0 l1 A0 c0 A1 c1 wz (S := fun _ => True) (Arr.any (Arr.keep hr0 (Lo.on hk))) hc0 (Arr.any (Arr.keep hr1 (Lo.on hk))) hc1 _ (cal_some hG_13 hg)), trivial⟩ (fun ns_14 a w_15 hI _ => ?_)
    refine wpIn_ret ?_
    obtain rfl := Option.some.inj H0
    exact ret1 hI rfl rfl ⟨rfl, hE.below hI⟩

end Go.Proofs.Ytnfnincmhobpaab
