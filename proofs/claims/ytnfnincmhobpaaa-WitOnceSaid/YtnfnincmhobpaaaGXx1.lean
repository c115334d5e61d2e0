import Derived.Test.YtnfnincmhobpaaaGXx0
set_option linter.unusedVariables false
set_option linter.unusedSimpArgs false
namespace Go.Proofs.Ytnfnincmhobpaaa
open Go Go.RowKit Go.Eng Go.Proofs

/-! ### slices.symMergeCmpFunc[porthole/wit.spot]: function 56, that calls itself -/
noncomputable def G_wit_spot_56.b1 (self_ : (List Wit_spot) → Nat → Int → Int → Int → Fn96 → Option ((List Wit_spot))) (l0 : (List Wit_spot)) (n0 : Nat) (a1 : Int) (a2 : Int) (a3 : Int) (x4 : Fn96) (s1 : Int × Int) : Option (Stp (Int × Int) (Ex (Int × Int) ((List Wit_spot)))) := (bif decide (s1.2 < s1.1) then (req (inb (IntKind.i64.wrap (Int.fdiv (IntKind.u64.wrap (IntKind.i64.wrap (s1.2 + s1.1))) 2)) n0) (req (inb a1 n0) ((Fn96.run x4 (rd l0 (IntKind.i64.wrap (Int.fdiv (IntKind.u64.wrap (IntKind.i64.wrap (s1.2 + s1.1))) 2))) (rd l0 a1)).bind fun t_23 => some (.next ((bif decide (t_23 < 0) then s1.1 else (IntKind.i64.wrap (Int.fdiv (IntKind.u64.wrap (IntKind.i64.wrap (s1.2 + s1.1))) 2))), (bif decide (t_23 < 0) then (IntKind.i64.wrap ((IntKind.i64.wrap (Int.fdiv (IntKind.u64.wrap (IntKind.i64.wrap (s1.2 + s1.1))) 2)) + 1)) else s1.2)))))) else some (.out (.brk (s1.1, s1.2))))
noncomputable def G_wit_spot_56.b2 (self_ : (List Wit_spot) → Nat → Int → Int → Int → Fn96 → Option ((List Wit_spot))) (l0 : (List Wit_spot)) (n0 : Nat) (a1 : Int) (a2 : Int) (a3 : Int) (x4 : Fn96) (s1 : Int × Int) (s2 : Int × (List Wit_spot)) : Option (Stp (Int × (List Wit_spot)) (Ex (Int × (List Wit_spot)) ((List Wit_spot)))) := (bif decide (s2.1 < (IntKind.i64.wrap (s1.2 - 1))) then (req (inb (IntKind.i64.wrap (s2.1 + 1)) n0) (req (inb s2.1 n0) (req (inb s2.1 n0) (req (inb (IntKind.i64.wrap (s2.1 + 1)) n0) (some (.next ((IntKind.i64.wrap (s2.1 + 1)), ((s2.2.set (s2.1 : Int).toNat (rd s2.2 (IntKind.i64.wrap (s2.1 + 1)))).set ((IntKind.i64.wrap (s2.1 + 1)) : Int).toNat (rd s2.2 s2.1))))))))) else some (.out (.brk (s2.1, s2.2))))
noncomputable def G_wit_spot_56.b3 (self_ : (List Wit_spot) → Nat → Int → Int → Int → Fn96 → Option ((List Wit_spot))) (l0 : (List Wit_spot)) (n0 : Nat) (a1 : Int) (a2 : Int) (a3 : Int) (x4 : Fn96) (s3 : Int × Int) : Option (Stp (Int × Int) (Ex (Int × Int) ((List Wit_spot)))) := (bif decide (s3.2 < s3.1) then (req (inb a2 n0) (req (inb (IntKind.i64.wrap (Int.fdiv (IntKind.u64.wrap (IntKind.i64.wrap (s3.2 + s3.1))) 2)) n0) ((Fn96.run x4 (rd l0 a2) (rd l0 (IntKind.i64.wrap (Int.fdiv (IntKind.u64.wrap (IntKind.i64.wrap (s3.2 + s3.1))) 2)))).bind fun t_112 => some (.next ((bif (!(decide (t_112 < 0))) then s3.1 else (IntKind.i64.wrap (Int.fdiv (IntKind.u64.wrap (IntKind.i64.wrap (s3.2 + s3.1))) 2))), (bif (!(decide (t_112 < 0))) then (IntKind.i64.wrap ((IntKind.i64.wrap (Int.fdiv (IntKind.u64.wrap (IntKind.i64.wrap (s3.2 + s3.1))) 2)) + 1)) else s3.2)))))) else some (.out (.brk (s3.1, s3.2))))
noncomputable def G_wit_spot_56.b4 (self_ : (List Wit_spot) → Nat → Int → Int → Int → Fn96 → Option ((List Wit_spot))) (l0 : (List Wit_spot)) (n0 : Nat) (a1 : Int) (a2 : Int) (a3 : Int) (x4 : Fn96) (s3 : Int × Int) (s4 : Int × (List Wit_spot)) : Option (Stp (Int × (List Wit_spot)) (Ex (Int × (List Wit_spot)) ((List Wit_spot)))) := (bif decide (s4.1 > s3.2) then (req (inb (IntKind.i64.wrap (s4.1 - 1)) n0) (req (inb s4.1 n0) (req (inb s4.1 n0) (req (inb (IntKind.i64.wrap (s4.1 - 1)) n0) (some (.next ((IntKind.i64.wrap (s4.1 - 1)), ((s4.2.set (s4.1 : Int).toNat (rd s4.2 (IntKind.i64.wrap (s4.1 - 1)))).set ((IntKind.i64.wrap (s4.1 - 1)) : Int).toNat (rd s4.2 s4.1))))))))) else some (.out (.brk (s4.1, s4.2))))
noncomputable def G_wit_spot_56.b5 (self_ : (List Wit_spot) → Nat → Int → Int → Int → Fn96 → Option ((List Wit_spot))) (l0 : (List Wit_spot)) (n0 : Nat) (a1 : Int) (a2 : Int) (a3 : Int) (x4 : Fn96) (s5 : Int × Int) : Option (Stp (Int × Int) (Ex (Int × Int) ((List Wit_spot)))) := (bif decide (s5.2 < s5.1) then (req (inb (IntKind.i64.wrap ((IntKind.i64.wrap ((IntKind.i64.wrap ((IntKind.i64.wrap (Int.fdiv (IntKind.u64.wrap (IntKind.i64.wrap (a1 + a3))) 2)) + a2)) - 1)) - (IntKind.i64.wrap (Int.fdiv (IntKind.u64.wrap (IntKind.i64.wrap (s5.2 + s5.1))) 2)))) n0) (req (inb (IntKind.i64.wrap (Int.fdiv (IntKind.u64.wrap (IntKind.i64.wrap (s5.2 + s5.1))) 2)) n0) ((Fn96.run x4 (rd l0 (IntKind.i64.wrap ((IntKind.i64.wrap ((IntKind.i64.wrap ((IntKind.i64.wrap (Int.fdiv (IntKind.u64.wrap (IntKind.i64.wrap (a1 + a3))) 2)) + a2)) - 1)) - (IntKind.i64.wrap (Int.fdiv (IntKind.u64.wrap (IntKind.i64.wrap (s5.2 + s5.1))) 2))))) (rd l0 (IntKind.i64.wrap (Int.fdiv (IntKind.u64.wrap (IntKind.i64.wrap (s5.2 + s5.1))) 2)))).bind fun t_231 => some (.next ((bif (!(decide (t_231 < 0))) then s5.1 else (IntKind.i64.wrap (Int.fdiv (IntKind.u64.wrap (IntKind.i64.wrap (s5.2 + s5.1))) 2))), (bif (!(decide (t_231 < 0))) then (IntKind.i64.wrap ((IntKind.i64.wrap (Int.fdiv (IntKind.u64.wrap (IntKind.i64.wrap (s5.2 + s5.1))) 2)) + 1)) else s5.2)))))) else some (.out (.brk (s5.1, s5.2))))
noncomputable def G_wit_spot_56.step (self_ : (List Wit_spot) → Nat → Int → Int → Int → Fn96 → Option ((List Wit_spot))) (l0 : (List Wit_spot)) (n0 : Nat) (a1 : Int) (a2 : Int) (a3 : Int) (x4 : Fn96) : Option ((List Wit_spot)) := (bif ((IntKind.i64.wrap (a2 - a1)) == 1) then ((loopω (G_wit_spot_56.b1 self_ l0 n0 a1 a2 a3 x4) (a3, a2)).bind fun o => o.on (fun s1 => ((loopω (G_wit_spot_56.b2 self_ l0 n0 a1 a2 a3 x4 s1) (a1, l0)).bind fun o => o.on (fun s2 => some s2.2) (fun r => some r))) (fun r => some r)) else (bif ((IntKind.i64.wrap (a3 - a2)) == 1) then ((loopω (G_wit_spot_56.b3 self_ l0 n0 a1 a2 a3 x4) (a2, a1)).bind fun o => o.on (fun s3 => ((loopω (G_wit_spot_56.b4 self_ l0 n0 a1 a2 a3 x4 s3) (a2, l0)).bind fun o => o.on (fun s4 => some s4.2) (fun r => some r))) (fun r => some r)) else ((loopω (G_wit_spot_56.b5 self_ l0 n0 a1 a2 a3 x4) ((bif decide (a2 > (IntKind.i64.wrap (Int.fdiv (IntKind.u64.wrap (IntKind.i64.wrap (a1 + a3))) 2))) then (IntKind.i64.wrap (Int.fdiv (IntKind.u64.wrap (IntKind.i64.wrap (a1 + a3))) 2)) else a2), (bif decide (a2 > (IntKind.i64.wrap (Int.fdiv (IntKind.u64.wrap (IntKind.i64.wrap (a1 + a3))) 2))) then (IntKind.i64.wrap ((IntKind.i64.wrap ((IntKind.i64.wrap (Int.fdiv (IntKind.u64.wrap (IntKind.i64.wrap (a1 + a3))) 2)) + a2)) - a3)) else a1))).bind fun o => o.on (fun s5 => (bif (decide (s5.2 < a2) && decide (a2 < (IntKind.i64.wrap ((IntKind.i64.wrap ((IntKind.i64.wrap (Int.fdiv (IntKind.u64.wrap (IntKind.i64.wrap (a1 + a3))) 2)) + a2)) - s5.2)))) then ((G_wit_spot_57 l0 n0 s5.2 a2 (IntKind.i64.wrap ((IntKind.i64.wrap ((IntKind.i64.wrap (Int.fdiv (IntKind.u64.wrap (IntKind.i64.wrap (a1 + a3))) 2)) + a2)) - s5.2)) x4).bind fun t_264 => (bif (decide (a1 < s5.2) && decide (s5.2 < (IntKind.i64.wrap (Int.fdiv (IntKind.u64.wrap (IntKind.i64.wrap (a1 + a3))) 2)))) then ((self_ t_264 n0 a1 s5.2 (IntKind.i64.wrap (Int.fdiv (IntKind.u64.wrap (IntKind.i64.wrap (a1 + a3))) 2)) x4).bind fun t_276 => (bif (decide ((IntKind.i64.wrap (Int.fdiv (IntKind.u64.wrap (IntKind.i64.wrap (a1 + a3))) 2)) < (IntKind.i64.wrap ((IntKind.i64.wrap ((IntKind.i64.wrap (Int.fdiv (IntKind.u64.wrap (IntKind.i64.wrap (a1 + a3))) 2)) + a2)) - s5.2))) && decide ((IntKind.i64.wrap ((IntKind.i64.wrap ((IntKind.i64.wrap (Int.fdiv (IntKind.u64.wrap (IntKind.i64.wrap (a1 + a3))) 2)) + a2)) - s5.2)) < a3)) then ((self_ t_276 n0 (IntKind.i64.wrap (Int.fdiv (IntKind.u64.wrap (IntKind.i64.wrap (a1 + a3))) 2)) (IntKind.i64.wrap ((IntKind.i64.wrap ((IntKind.i64.wrap (Int.fdiv (IntKind.u64.wrap (IntKind.i64.wrap (a1 + a3))) 2)) + a2)) - s5.2)) a3 x4).bind fun t_288 => some t_288) else some t_276)) else (bif (decide ((IntKind.i64.wrap (Int.fdiv (IntKind.u64.wrap (IntKind.i64.wrap (a1 + a3))) 2)) < (IntKind.i64.wrap ((IntKind.i64.wrap ((IntKind.i64.wrap (Int.fdiv (IntKind.u64.wrap (IntKind.i64.wrap (a1 + a3))) 2)) + a2)) - s5.2))) && decide ((IntKind.i64.wrap ((IntKind.i64.wrap ((IntKind.i64.wrap (Int.fdiv (IntKind.u64.wrap (IntKind.i64.wrap (a1 + a3))) 2)) + a2)) - s5.2)) < a3)) then ((self_ t_264 n0 (IntKind.i64.wrap (Int.fdiv (IntKind.u64.wrap (IntKind.i64.wrap (a1 + a3))) 2)) (IntKind.i64.wrap ((IntKind.i64.wrap ((IntKind.i64.wrap (Int.fdiv (IntKind.u64.wrap (IntKind.i64.wrap (a1 + a3))) 2)) + a2)) - s5.2)) a3 x4).bind fun t_300 => some t_300) else some t_264))) else (bif (decide (a1 < s5.2) && decide (s5.2 < (IntKind.i64.wrap (Int.fdiv (IntKind.u64.wrap (IntKind.i64.wrap (a1 + a3))) 2)))) then ((self_ l0 n0 a1 s5.2 (IntKind.i64.wrap (Int.fdiv (IntKind.u64.wrap (IntKind.i64.wrap (a1 + a3))) 2)) x4).bind fun t_312 => (bif (decide ((IntKind.i64.wrap (Int.fdiv (IntKind.u64.wrap (IntKind.i64.wrap (a1 + a3))) 2)) < (IntKind.i64.wrap ((IntKind.i64.wrap ((IntKind.i64.wrap (Int.fdiv (IntKind.u64.wrap (IntKind.i64.wrap (a1 + a3))) 2)) + a2)) - s5.2))) && decide ((IntKind.i64.wrap ((IntKind.i64.wrap ((IntKind.i64.wrap (Int.fdiv (IntKind.u64.wrap (IntKind.i64.wrap (a1 + a3))) 2)) + a2)) - s5.2)) < a3)) then ((self_ t_312 n0 (IntKind.i64.wrap (Int.fdiv (IntKind.u64.wrap (IntKind.i64.wrap (a1 + a3))) 2)) (IntKind.i64.wrap ((IntKind.i64.wrap ((IntKind.i64.wrap (Int.fdiv (IntKind.u64.wrap (IntKind.i64.wrap (a1 + a3))) 2)) + a2)) - s5.2)) a3 x4).bind fun t_324 => some t_324) else some t_312)) else (bif (decide ((IntKind.i64.wrap (Int.fdiv (IntKind.u64.wrap (IntKind.i64.wrap (a1 + a3))) 2)) < (IntKind.i64.wrap ((IntKind.i64.wrap ((IntKind.i64.wrap (Int.fdiv (IntKind.u64.wrap (IntKind.i64.wrap (a1 + a3))) 2)) + a2)) - s5.2))) && decide ((IntKind.i64.wrap ((IntKind.i64.wrap ((IntKind.i64.wrap (Int.fdiv (IntKind.u64.wrap (IntKind.i64.wrap (a1 + a3))) 2)) + a2)) - s5.2)) < a3)) then ((self_ l0 n0 (IntKind.i64.wrap (Int.fdiv (IntKind.u64.wrap (IntKind.i64.wrap (a1 + a3))) 2)) (IntKind.i64.wrap ((IntKind.i64.wrap ((IntKind.i64.wrap (Int.fdiv (IntKind.u64.wrap (IntKind.i64.wrap (a1 + a3))) 2)) + a2)) - s5.2)) a3 x4).bind fun t_336 => some t_336) else some l0)))) (fun r => some r))))
noncomputable def G_wit_spot_56.n : Nat → (List Wit_spot) → Nat → Int → Int → Int → Fn96 → Option ((List Wit_spot))
  | 0 => fun _ _ _ _ _ _ => none
  | n + 1 => G_wit_spot_56.step (G_wit_spot_56.n n)
noncomputable def G_wit_spot_56 (l0 : (List Wit_spot)) (n0 : Nat) (a1 : Int) (a2 : Int) (a3 : Int) (x4 : Fn96) : Option ((List Wit_spot)) := recω fun n => G_wit_spot_56.n n l0 n0 a1 a2 a3 x4
set_option maxRecDepth 100000 in
set_option maxHeartbeats 4000000 in
theorem G_wit_spot_56.callsN : ∀ (n : Nat) (l0 : (List Wit_spot)) (n0 : Nat) (a1 : Int) (a2 : Int) (a3 : Int) (x4 : Fn96) (A0 : Option Addr) (c0 base0 : Nat) (sv4 : SV) (w : World) {S : Nat → Prop} (hr0 : Row kd_Wit_spot 91 S w base0 A0 c0 l0) (hn0 : l0.length = n0) (hx4 : (kdF96).cont S w x4 sv4) (hms : ∀ b, S b → b ∉ ([rb A0] : List (List Nat)).flatten) (hmd : ([rb A0] : List (List Nat)).flatten.Nodup) (hml : ∀ b ∈ ([rb A0] : List (List Nat)).flatten, b < w.heap.size) (r : (List Wit_spot)) (h : G_wit_spot_56.n n l0 n0 a1 a2 a3 x4 = some r),
    Calls Try.prog 56 #[.slice A0 n0 c0, .int .i64 a1, .int .i64 a2, .int .i64 a3, fnv96 x4 sv4] w fun e w' => ∃ sv : SV, e = .returned (.tuple #[]) ∧ Keeps (([rb A0] : List (List Nat)).flatten) w w' ∧ Row kd_Wit_spot 91 (fun b => w.heap.size ≤ b ∨ S b) w' base0 A0 c0 r ∧ r.length = n0 := by
  intro n
  induction n with
  | zero => intro l0 n0 a1 a2 a3 x4 A0 c0 base0 sv4 w S hr0 hn0 hx4 hms hmd hml r h; cases h
  | succ n ih =>
    intro l0 n0 a1 a2 a3 x4 A0 c0 base0 sv4 w S hr0 hn0 hx4 hms hmd hml r h
    replace hx4 := Kd.keep _ hx4 (Mv.start w hms)
    replace hr0 := Row.keep hr0 (Mv.start w hms) (fun _ _ => rfl)
    unfold G_wit_spot_56.n at h
    unfold G_wit_spot_56.step at h
    have H0 := h
    clear h
    refine enter Try.func56 rfl [.slice A0 n0 c0, .int .i64 a1, .int .i64 a2, .int .i64 a3, fnv96 x4 sv4] (n := 220) rfl (Nat.le_of_ble_eq_true rfl) (fun a hI => ?_)
    have hF : FOpen Fence.wide := .inl rfl
    have hE := Ep.startM w [rb A0] hmd hml
    refine wpIn_seq ?_
    refine seq_region (live := [28, 0, 1, 2, 3, 4]) (orc := []) hF hI ⟨[⟨28, [], .v (.bool ((IntKind.i64.wrap (a2 - a1)) == 1))⟩, ⟨0, [], .v (.slice A0 n0 c0)⟩, ⟨1, [], .v (.int .i64 a1)⟩, ⟨2, [], .v (.int .i64 a2)⟩, ⟨3, [], .v (.int .i64 a3)⟩, ⟨4, [], .v (fnv96 x4 sv4)⟩], [], [], [], none, none⟩ [] (by kernel_rfl) trivial (fun ns_1 a w_2 hI _ => ?_)
    refine cond_ hI (((IntKind.i64.wrap (a2 - a1)) == 1)) rfl (fun hc_3 => ?_) (fun hc_3 => ?_)
    ·replace H0 := bif_t hc_3 H0
     refine seq_region (live := [10, 0, 1, 3, 4]) (orc := []) hF hI ⟨[⟨10, [], .v (.int .i64 a2)⟩, ⟨0, [], .v (.slice A0 n0 c0)⟩, ⟨1, [], .v (.int .i64 a1)⟩, ⟨3, [], .v (.int .i64 a3)⟩, ⟨4, [], .v (fnv96 x4 sv4)⟩], [], [], [], none, none⟩ [] (by kernel_rfl) trivial (fun ns_4 a w_5 hI _ => ?_)
     refine seq_region (live := [11, 10, 0, 1, 4]) (orc := []) hF hI ⟨[⟨11, [], .v (.int .i64 a3)⟩, ⟨10, [], .v (.int .i64 a2)⟩, ⟨0, [], .v (.slice A0 n0 c0)⟩, ⟨1, [], .v (.int .i64 a1)⟩, ⟨4, [], .v (fnv96 x4 sv4)⟩], [], [], [], none, none⟩ [] (by kernel_rfl) trivial (fun ns_6 a w_7 hI _ => ?_)
     refine wpIn_seq ?_
     obtain ⟨o_45, hL_46, H0⟩ := bind_some H0
     refine block_loop (fun (s1 : Int × Int) a w_89 => ∃ ns, St w [] 220 ⟨[⟨11, [], .v (.int .i64 s1.1)⟩, ⟨10, [], .v (.int .i64 s1.2)⟩, ⟨0, [], .v (.slice A0 n0 c0)⟩, ⟨1, [], .v (.int .i64 a1)⟩, ⟨4, [], .v (fnv96 x4 sv4)⟩], [], [], [], none, none⟩ ns a w_89) (a3, a2) hL_46 ⟨_, hI.pick [11, 10, 0, 1, 4] 0 ⟨[⟨11, [], .v (.int .i64 a3)⟩, ⟨10, [], .v (.int .i64 a2)⟩, ⟨0, [], .v (.slice A0 n0 c0)⟩, ⟨1, [], .v (.int .i64 a1)⟩, ⟨4, [], .v (fnv96 x4 sv4)⟩], [], [], [], none, none⟩ (by kernel_rfl)⟩ ?_ ?_
     ·clear hI
      rintro s1 a w_8 ⟨ns_9, hI⟩ r1 H1
      unfold G_wit_spot_56.b1 at H1
      refine wpIn_seq ?_
      refine seq_region (live := [33, 11, 10, 0, 1, 4]) (orc := []) hF hI ⟨[⟨33, [], .v (.bool (decide (s1.2 < s1.1)))⟩, ⟨11, [], .v (.int .i64 s1.1)⟩, ⟨10, [], .v (.int .i64 s1.2)⟩, ⟨0, [], .v (.slice A0 n0 c0)⟩, ⟨1, [], .v (.int .i64 a1)⟩, ⟨4, [], .v (fnv96 x4 sv4)⟩], [], [], [], none, none⟩ [] (by kernel_rfl) trivial (fun ns_10 a w_11 hI _ => ?_)
      refine cond_ hI (decide (s1.2 < s1.1)) rfl (fun hc_12 => ?_) (fun hc_12 => ?_)
      ·replace H1 := bif_t hc_12 H1
       refine wpIn_skip ?_
       refine then_normal ?_
       refine wpIn_block ?_
       refine seq_region (live := [12, 11, 10, 0, 1, 4]) (orc := []) hF hI ⟨[⟨12, [], .v (.int .i64 (IntKind.i64.wrap (Int.fdiv (IntKind.u64.wrap (IntKind.i64.wrap (s1.2 + s1.1))) 2)))⟩, ⟨11, [], .v (.int .i64 s1.1)⟩, ⟨10, [], .v (.int .i64 s1.2)⟩, ⟨0, [], .v (.slice A0 n0 c0)⟩, ⟨1, [], .v (.int .i64 a1)⟩, ⟨4, [], .v (fnv96 x4 sv4)⟩], [], [], [], none, none⟩ [] (by kernel_rfl) trivial (fun ns_13 a w_14 hI _ => ?_)
       refine wpIn_seq ?_
       obtain ⟨hN_15, H1⟩ := req_some H1
       obtain ⟨sv_16, hE_18, hA_17⟩ := Row.elB hr0 hE (by simp) (IntKind.i64.wrap (Int.fdiv (IntKind.u64.wrap (IntKind.i64.wrap (s1.2 + s1.1))) 2)) true (fun hg => by rw [hn0]; exact (fun _ => hN_15) hg)
       obtain ⟨hN_19, H1⟩ := req_some H1
       obtain ⟨sv_20, hE_22, hA_21⟩ := Row.elB hr0 hE (by simp) a1 true (fun hg => by rw [hn0]; exact (fun _ => hN_19) hg)
       obtain ⟨t_23, hG_24, H1⟩ := bind_some H1
       refine drawn_ (live := [50, 12, 11, 10, 0, 1, 4]) (orc := [(kd_Wit_spot).cells (rd l0 (IntKind.i64.wrap (Int.fdiv (IntKind.u64.wrap (IntKind.i64.wrap (s1.2 + s1.1))) 2))) sv_16, (kd_Wit_spot).cells (rd l0 a1) sv_20, [.int .i64 t_23]]) hF hI ⟨[⟨50, [], .v (.bool (decide (t_23 < 0)))⟩, ⟨12, [], .v (.int .i64 (IntKind.i64.wrap (Int.fdiv (IntKind.u64.wrap (IntKind.i64.wrap (s1.2 + s1.1))) 2)))⟩, ⟨11, [], .v (.int .i64 s1.1)⟩, ⟨10, [], .v (.int .i64 s1.2)⟩, ⟨0, [], .v (.slice A0 n0 c0)⟩, ⟨1, [], .v (.int .i64 a1)⟩, ⟨4, [], .v (fnv96 x4 sv4)⟩], [], [], [], none, none⟩ [.need true ((0 : Int) ≤ (IntKind.i64.wrap (Int.fdiv (IntKind.u64.wrap (IntKind.i64.wrap (s1.2 + s1.1))) 2)) ∧ (IntKind.i64.wrap (Int.fdiv (IntKind.u64.wrap (IntKind.i64.wrap (s1.2 + s1.1))) 2)) < (n0 : Int)), .need true (A0 = some (adr A0)), .cell true ((adr A0).add (((IntKind.i64.wrap (Int.fdiv (IntKind.u64.wrap (IntKind.i64.wrap (s1.2 + s1.1))) 2)) : Int).toNat * 4)) ((kd_Wit_spot).cells (rd l0 (IntKind.i64.wrap (Int.fdiv (IntKind.u64.wrap (IntKind.i64.wrap (s1.2 + s1.1))) 2))) sv_16), .need true ((0 : Int) ≤ a1 ∧ a1 < (n0 : Int)), .need true (A0 = some (adr A0)), .cell true ((adr A0).add ((a1 : Int).toNat * 4)) ((kd_Wit_spot).cells (rd l0 a1) sv_20), .call true (fid96 x4) (([.agg ((kd_Wit_spot).cells (rd l0 (IntKind.i64.wrap (Int.fdiv (IntKind.u64.wrap (IntKind.i64.wrap (s1.2 + s1.1))) 2))) (svL [])).toArray, .agg ((kd_Wit_spot).cells (rd l0 a1) (svL [])).toArray] : List Value) ++ (fca96 x4 sv4).toList) (.int .i64 t_23)] (by kernel_rfl) (by kernel_rfl) (by kernel_rfl) ⟨ob_inb (fun _ => hN_15), hA_17, ob_elR hE_18 0 ((kd_Wit_spot).cells (rd l0 (IntKind.i64.wrap (Int.fdiv (IntKind.u64.wrap (IntKind.i64.wrap (s1.2 + s1.1))) 2))) sv_16) rfl, ob_inb (fun _ => hN_19), hA_21, ob_elR hE_22 0 ((kd_Wit_spot).cells (rd l0 a1) sv_20) rfl, ob_call (Fn96.ent x4) (fun hg wz hk => Fn96.calls x4 (rd l0 (IntKind.i64.wrap (Int.fdiv (IntKind.u64.wrap (IntKind.i64.wrap (s1.2 + s1.1))) 2))) (rd l0 a1) sv4 (svL []) (svL []) wz (S := fun _ => True) (Kd.any _ (Kd.keep kdF96 hx4 (Lo.on hk))) (Kd.any _ (Kd.keep kd_Wit_spot (contI (S := Lo S w w [] [rb A0]) (w := w) (d := kd_Wit_spot) (x := (rd l0 (IntKind.i64.wrap (Int.fdiv (IntKind.u64.wrap (IntKind.i64.wrap (s1.2 + s1.1))) 2)))) (sv := (svL [])) trivial) (Lo.on hk))) (Kd.any _ (Kd.keep kd_Wit_spot (contI (S := Lo S w w [] [rb A0]) (w := w) (d := kd_Wit_spot) (x := (rd l0 a1)) (sv := (svL [])) trivial) (Lo.on hk))) _ hG_24), trivial⟩ (fun a w_25 hI => ?_)
       refine then_normal ?_
       refine cond_merge hI (decide (t_23 < 0)) rfl ⟨[⟨10, [], .v (.int .i64 (IntKind.i64.wrap ((IntKind.i64.wrap (Int.fdiv (IntKind.u64.wrap (IntKind.i64.wrap (s1.2 + s1.1))) 2)) + 1)))⟩, ⟨11, [], .v (.int .i64 s1.1)⟩, ⟨0, [], .v (.slice A0 n0 c0)⟩, ⟨1, [], .v (.int .i64 a1)⟩, ⟨4, [], .v (fnv96 x4 sv4)⟩], [], [], [], none, none⟩ ⟨[⟨10, [], .v (.int .i64 s1.2)⟩, ⟨11, [], .v (.int .i64 (IntKind.i64.wrap (Int.fdiv (IntKind.u64.wrap (IntKind.i64.wrap (s1.2 + s1.1))) 2)))⟩, ⟨0, [], .v (.slice A0 n0 c0)⟩, ⟨1, [], .v (.int .i64 a1)⟩, ⟨4, [], .v (fnv96 x4 sv4)⟩], [], [], [], none, none⟩ (fun b => ⟨[⟨10, [], .v (.int .i64 (bif b then (IntKind.i64.wrap ((IntKind.i64.wrap (Int.fdiv (IntKind.u64.wrap (IntKind.i64.wrap (s1.2 + s1.1))) 2)) + 1)) else s1.2))⟩, ⟨11, [], .v (.int .i64 (bif b then s1.1 else (IntKind.i64.wrap (Int.fdiv (IntKind.u64.wrap (IntKind.i64.wrap (s1.2 + s1.1))) 2))))⟩, ⟨0, [], .v (.slice A0 n0 c0)⟩, ⟨1, [], .v (.int .i64 a1)⟩, ⟨4, [], .v (fnv96 x4 sv4)⟩], [], [], [], none, none⟩) (fun b => by cases b <;> rfl) (fun hc_26 => ?_) (fun hc_26 => ?_) (fun ns_31 a w_32 hI => ?_)
       ·refine region_ (live := [10, 11, 0, 1, 4]) (orc := []) hF hI ⟨[⟨10, [], .v (.int .i64 (IntKind.i64.wrap ((IntKind.i64.wrap (Int.fdiv (IntKind.u64.wrap (IntKind.i64.wrap (s1.2 + s1.1))) 2)) + 1)))⟩, ⟨11, [], .v (.int .i64 s1.1)⟩, ⟨0, [], .v (.slice A0 n0 c0)⟩, ⟨1, [], .v (.int .i64 a1)⟩, ⟨4, [], .v (fnv96 x4 sv4)⟩], [], [], [], none, none⟩ [] (by kernel_rfl) trivial (fun ns_27 a w_28 hI _ => ?_)
        refine then_normal ?_
        exact ⟨_, hI.pick [10, 11, 0, 1, 4] 0 ⟨[⟨10, [], .v (.int .i64 (IntKind.i64.wrap ((IntKind.i64.wrap (Int.fdiv (IntKind.u64.wrap (IntKind.i64.wrap (s1.2 + s1.1))) 2)) + 1)))⟩, ⟨11, [], .v (.int .i64 s1.1)⟩, ⟨0, [], .v (.slice A0 n0 c0)⟩, ⟨1, [], .v (.int .i64 a1)⟩, ⟨4, [], .v (fnv96 x4 sv4)⟩], [], [], [], none, none⟩ (by kernel_rfl)⟩
       ·refine region_ (live := [11, 10, 0, 1, 4]) (orc := []) hF hI ⟨[⟨11, [], .v (.int .i64 (IntKind.i64.wrap (Int.fdiv (IntKind.u64.wrap (IntKind.i64.wrap (s1.2 + s1.1))) 2)))⟩, ⟨10, [], .v (.int .i64 s1.2)⟩, ⟨0, [], .v (.slice A0 n0 c0)⟩, ⟨1, [], .v (.int .i64 a1)⟩, ⟨4, [], .v (fnv96 x4 sv4)⟩], [], [], [], none, none⟩ [] (by kernel_rfl) trivial (fun ns_29 a w_30 hI _ => ?_)
        refine then_normal ?_
        exact ⟨_, hI.pick [10, 11, 0, 1, 4] 0 ⟨[⟨10, [], .v (.int .i64 s1.2)⟩, ⟨11, [], .v (.int .i64 (IntKind.i64.wrap (Int.fdiv (IntKind.u64.wrap (IntKind.i64.wrap (s1.2 + s1.1))) 2)))⟩, ⟨0, [], .v (.slice A0 n0 c0)⟩, ⟨1, [], .v (.int .i64 a1)⟩, ⟨4, [], .v (fnv96 x4 sv4)⟩], [], [], [], none, none⟩ (by kernel_rfl)⟩
       ·refine inBlock_normal ?_
        refine then_normal ?_
        obtain rfl := Option.some.inj H1
        exact ⟨_, rfl, ⟨_, hI.pick [11, 10, 0, 1, 4] 0 ⟨[⟨11, [], .v (.int .i64 (bif decide (t_23 < 0) then s1.1 else (IntKind.i64.wrap (Int.fdiv (IntKind.u64.wrap (IntKind.i64.wrap (s1.2 + s1.1))) 2))))⟩, ⟨10, [], .v (.int .i64 (bif decide (t_23 < 0) then (IntKind.i64.wrap ((IntKind.i64.wrap (Int.fdiv (IntKind.u64.wrap (IntKind.i64.wrap (s1.2 + s1.1))) 2)) + 1)) else s1.2))⟩, ⟨0, [], .v (.slice A0 n0 c0)⟩, ⟨1, [], .v (.int .i64 a1)⟩, ⟨4, [], .v (fnv96 x4 sv4)⟩], [], [], [], none, none⟩ (by kernel_rfl)⟩⟩
      ·replace H1 := bif_f hc_12 H1
       refine wpIn_exit ?_
       refine then_exit ?_
       refine then_exit ?_
       obtain rfl := Option.some.inj H1
       exact .inl ⟨_, rfl, rfl, ⟨_, hI.pick [11, 10, 0, 1, 4] 0 ⟨[⟨11, [], .v (.int .i64 s1.1)⟩, ⟨10, [], .v (.int .i64 s1.2)⟩, ⟨0, [], .v (.slice A0 n0 c0)⟩, ⟨1, [], .v (.int .i64 a1)⟩, ⟨4, [], .v (fnv96 x4 sv4)⟩], [], [], [], none, none⟩ (by kernel_rfl)⟩⟩
     ·clear hI
      rintro s1 a w_47 ho ⟨ns_48, hI⟩
      subst ho
      replace H0 : (((loopω (G_wit_spot_56.b2 (G_wit_spot_56.n n) l0 n0 a1 a2 a3 x4 s1) (a1, l0)).bind fun o => o.on (fun s2 => some s2.2) (fun r => some r)) : Option ((List Wit_spot))) = _ := H0
      refine then_normal ?_
      refine wpIn_seq ?_
      refine seq_region (live := [13, 10, 0]) (orc := []) hF hI ⟨[⟨13, [], .v (.int .i64 a1)⟩, ⟨10, [], .v (.int .i64 s1.2)⟩, ⟨0, [], .v (.slice A0 n0 c0)⟩], [], [], [], none, none⟩ [] (by kernel_rfl) trivial (fun ns_49 a w_50 hI _ => ?_)
      obtain ⟨hE', hmv, hmr⟩ := Ep.rebase hE hI
      replace hx4 := Kd.keep _ hx4 (hmv _)
      replace hr0 := Row.keep hr0 (hmv _) (fun b hb => hmr b (by simp [hb]))
      replace hE := hE'
      replace hI := hI.rebase
      clear hE' hmv hmr
      obtain ⟨o_83, hL_84, H0⟩ := bind_some H0
      refine block_loop (fun (s2 : Int × (List Wit_spot)) a w_88 => ∃ (ow ns : List Nat) , ((kdF96).cont (Lo S w w_88 ow [rb A0]) w_88 x4 sv4) ∧ (Row kd_Wit_spot 91 (Lo S w w_88 ow [rb A0]) w_88 base0 A0 c0 s2.2) ∧ (s2.2.length = n0) ∧ Ep ([rb A0] : List (List Nat)).flatten w w_88 ow [rb A0] ∧ St w_88 ow 220 ⟨[⟨13, [], .v (.int .i64 s2.1)⟩, ⟨10, [], .v (.int .i64 s1.2)⟩, ⟨0, [], .v (.slice A0 n0 c0)⟩], [], [], [], none, none⟩ ns a w_88) (a1, l0) hL_84 ⟨_, _, hx4, hr0, hn0, hE, hI.pick [13, 10, 0] 0 ⟨[⟨13, [], .v (.int .i64 a1)⟩, ⟨10, [], .v (.int .i64 s1.2)⟩, ⟨0, [], .v (.slice A0 n0 c0)⟩], [], [], [], none, none⟩ (by kernel_rfl)⟩ ?_ ?_
      ·clear hI hE
       rintro s2 a w_51 ⟨ow_53, ns_52, hx4, hr0, hn0, hE, hI⟩ r2 H1
       unfold G_wit_spot_56.b2 at H1
       refine wpIn_seq ?_
       refine seq_region (live := [58, 13, 10, 0]) (orc := []) hF hI ⟨[⟨58, [], .v (.bool (decide (s2.1 < (IntKind.i64.wrap (s1.2 - 1)))))⟩, ⟨13, [], .v (.int .i64 s2.1)⟩, ⟨10, [], .v (.int .i64 s1.2)⟩, ⟨0, [], .v (.slice A0 n0 c0)⟩], [], [], [], none, none⟩ [] (by kernel_rfl) trivial (fun ns_54 a w_55 hI _ => ?_)
       refine cond_ hI (decide (s2.1 < (IntKind.i64.wrap (s1.2 - 1)))) rfl (fun hc_56 => ?_) (fun hc_56 => ?_)
       ·replace H1 := bif_t hc_56 H1
        refine wpIn_skip ?_
        refine then_normal ?_
        refine wpIn_seq ?_
        refine wpIn_block ?_
        replace hI := hI.fin (live := [58, 13, 10, 0]) (σ2 := ⟨[⟨58, [], .v (.bool (decide (s2.1 < (IntKind.i64.wrap (s1.2 - 1)))))⟩, ⟨13, [], .v (.int .i64 s2.1)⟩, ⟨10, [], .v (.int .i64 s1.2)⟩, ⟨0, [], .v (.slice A0 n0 c0)⟩], [], [], [], none, none⟩) (by kernel_rfl)
        obtain ⟨hN_57, H1⟩ := req_some H1
        obtain ⟨sv_58, hE_60, hA_59⟩ := Row.elB hr0 hE (by simp) (IntKind.i64.wrap (s2.1 + 1)) true (fun hg => by rw [hn0]; exact (fun _ => hN_57) hg)
        obtain ⟨hN_61, H1⟩ := req_some H1
        obtain ⟨sv_62, hE_64, hA_63⟩ := Row.elB hr0 hE (by simp) s2.1 true (fun hg => by rw [hn0]; exact (fun _ => hN_61) hg)
        obtain ⟨hN_65, H1⟩ := req_some H1
        obtain ⟨sv_66, hE_68, hA_67⟩ := Row.elB hr0 hE (by simp) s2.1 true (fun hg => by rw [hn0]; exact (fun _ => hN_65) hg)
        obtain ⟨hN_69, H1⟩ := req_some H1
        obtain ⟨sv_70, hE_72, hA_71⟩ := Row.elB hr0 hE (by simp) (IntKind.i64.wrap (s2.1 + 1)) true (fun hg => by rw [hn0]; exact (fun _ => hN_69) hg)
        refine drawnS_ hI (by kernel_rfl) [.q 61 (.v (.slice A0 n0 c0)) [], .q 62 (.v (.int .i64 s2.1)) [], .q 63 (.v (.slice A0 n0 c0)) [], .q 64 (.v (.int .i64 s2.1)) [], .q 65 (.v (.int .i64 (IntKind.i64.wrap (s2.1 + 1)))) [], .q 66 (.v (.slice A0 n0 c0)) [], .q 67 (.v (.int .i64 s2.1)) [], .q 68 (.v (.int .i64 (IntKind.i64.wrap (s2.1 + 1)))) [], .q 69 (.v (.pointer (some ((adr A0).add (((IntKind.i64.wrap (s2.1 + 1)) : Int).toNat * 4))))) [.need true ((0 : Int) ≤ (IntKind.i64.wrap (s2.1 + 1)) ∧ (IntKind.i64.wrap (s2.1 + 1)) < (n0 : Int)), .need true (A0 = some (adr A0))], .q 70 (.v (.agg ((kd_Wit_spot).cells (rd s2.2 (IntKind.i64.wrap (s2.1 + 1))) sv_58).toArray)) [.cell true ((adr A0).add (((IntKind.i64.wrap (s2.1 + 1)) : Int).toNat * 4)) ((kd_Wit_spot).cells (rd s2.2 (IntKind.i64.wrap (s2.1 + 1))) sv_58)], .q 71 (.v (.slice A0 n0 c0)) [], .q 72 (.v (.int .i64 s2.1)) [], .q 73 (.v (.pointer (some ((adr A0).add ((s2.1 : Int).toNat * 4))))) [.need true ((0 : Int) ≤ s2.1 ∧ s2.1 < (n0 : Int)), .need true (A0 = some (adr A0))], .q 74 (.v (.agg ((kd_Wit_spot).cells (rd s2.2 s2.1) sv_62).toArray)) [.cell true ((adr A0).add ((s2.1 : Int).toNat * 4)) ((kd_Wit_spot).cells (rd s2.2 s2.1) sv_62)], .q 75 (.v (.pointer (some ((adr A0).add ((s2.1 : Int).toNat * 4))))) [.need true ((0 : Int) ≤ s2.1 ∧ s2.1 < (n0 : Int)), .need true (A0 = some (adr A0))], .no, .q 76 (.v (.pointer (some ((adr A0).add (((IntKind.i64.wrap (s2.1 + 1)) : Int).toNat * 4))))) [.need true ((0 : Int) ≤ (IntKind.i64.wrap (s2.1 + 1)) ∧ (IntKind.i64.wrap (s2.1 + 1)) < (n0 : Int)), .need true (A0 = some (adr A0))], .no] (by kernel_rfl) (fun fuel listed w_73 hJ hsz hu => ?_)
        refine stage_ hJ hF hsz hu [.q [] [], .q [] [], .q [] [], .q [] [], .q [3] [], .q [] [], .q [] [], .q [6] [], .q [5, 7] [], .q [8] [(kd_Wit_spot).cells (rd s2.2 (IntKind.i64.wrap (s2.1 + 1))) sv_58], .q [] [], .q [] [], .q [10, 11] [], .q [12] [(kd_Wit_spot).cells (rd s2.2 s2.1) sv_62], .q [0, 1] [], .no, .q [2, 4] [], .no] (by kernel_rfl) (by kernel_rfl) (by kernel_rfl) (by kernel_rfl) 15 rfl (by kernel_rfl) (by kernel_rfl) [14, 9] rfl (by kernel_rfl) (by kernel_rfl) ⟨ob_inb (fun _ => hN_57), hA_59, ob_elR hE_60 0 ((kd_Wit_spot).cells (rd s2.2 (IntKind.i64.wrap (s2.1 + 1))) sv_58) rfl, ob_inb (fun _ => hN_61), hA_63, ob_elR hE_64 0 ((kd_Wit_spot).cells (rd s2.2 s2.1) sv_62) rfl, ob_inb (fun _ => hN_65), hA_67, ob_inb (fun _ => hN_69), hA_71, trivial⟩ [0, 1, 5, 6, 7, 8, 9, 13, 14] (by kernel_rfl) [.t (some 61) (some (.v (.slice A0 n0 c0))), .t (some 62) (some (.v (.int .i64 s2.1))), .q 63 (.v (.slice A0 n0 c0)) [], .q 64 (.v (.int .i64 s2.1)) [], .q 65 (.v (.int .i64 (IntKind.i64.wrap (s2.1 + 1)))) [], .t (some 66) (some (.v (.slice A0 n0 c0))), .t (some 67) (some (.v (.int .i64 s2.1))), .t (some 68) (some (.v (.int .i64 (IntKind.i64.wrap (s2.1 + 1))))), .t (some 69) (some (.v (.pointer (some ((adr A0).add (((IntKind.i64.wrap (s2.1 + 1)) : Int).toNat * 4)))))), .t (some 70) (some (.v (.agg ((kd_Wit_spot).cells (rd s2.2 (IntKind.i64.wrap (s2.1 + 1))) sv_58).toArray))), .q 71 (.v (.slice A0 n0 c0)) [], .q 72 (.v (.int .i64 s2.1)) [], .q 73 (.v (.pointer (some ((adr A0).add ((s2.1 : Int).toNat * 4))))) [.need true ((0 : Int) ≤ s2.1 ∧ s2.1 < (n0 : Int)), .need true (A0 = some (adr A0))], .t (some 74) (some (.v (.agg ((kd_Wit_spot).cells (rd s2.2 s2.1) sv_62).toArray))), .t (some 75) (some (.v (.pointer (some ((adr A0).add ((s2.1 : Int).toNat * 4)))))), .no, .q 76 (.v (.pointer (some ((adr A0).add (((IntKind.i64.wrap (s2.1 + 1)) : Int).toNat * 4))))) [.need true ((0 : Int) ≤ (IntKind.i64.wrap (s2.1 + 1)) ∧ (IntKind.i64.wrap (s2.1 + 1)) < (n0 : Int)), .need true (A0 = some (adr A0))], .no] (by kernel_rfl) (fun fuel listed a w_74 hJ hI hW h1 hnl hsz hu => ?_)
        obtain ⟨hE', hmv, hmr⟩ := Ep.rebase hE hI
        replace hx4 := Kd.keep _ hx4 (hmv _)
        replace hr0 := Row.keep hr0 (hmv _) (fun b hb => hmr b (by simp [hb]))
        replace hE := hE'
        replace hI := hI.rebase
        clear hE' hmv hmr
        refine storeSeg_ (S0 := S) (d := kd_Wit_spot) (e := 91) (l := s2.2) (A := A0) (i := s2.1) (off := 0) hF hE hI hW rfl rfl (ad := ((adr A0).add ((s2.1 : Int).toNat * 4))) rfl rfl rfl (vs := [.int .i64 ((rd s2.2 (IntKind.i64.wrap (s2.1 + 1))).at_), .int .i64 ((rd s2.2 (IntKind.i64.wrap (s2.1 + 1))).rank), .int .i64 ((rd s2.2 (IntKind.i64.wrap (s2.1 + 1))).item.Kind), .int .i64 ((rd s2.2 (IntKind.i64.wrap (s2.1 + 1))).item.Of)]) rfl rfl rfl rfl (by simp) (by rw [hn0]; exact hN_65) hr0 (rd s2.2 (IntKind.i64.wrap (s2.1 + 1))) (fun _ => (svL [])) (fun _ => rfl) (fun sv h => trivial) (fun a w_75 hput hE' hI' hmv hmr hr0 => ?_)
        replace hx4 := Kd.keep _ hx4 (hmv _)
        replace hE := hE'
        replace hI := hI'
        clear hE' hI' hmv hmr
        have hn0 : (s2.2.set (s2.1 : Int).toNat (rd s2.2 (IntKind.i64.wrap (s2.1 + 1)))).length = n0 := List.length_set.trans hn0
        refine next_ hJ h1 hnl hsz hu (by kernel_rfl) (by kernel_rfl) hput hI (live := [58, 13, 10, 0]) ⟨[⟨58, [], .v (.bool (decide (s2.1 < (IntKind.i64.wrap (s1.2 - 1)))))⟩, ⟨13, [], .v (.int .i64 s2.1)⟩, ⟨10, [], .v (.int .i64 s1.2)⟩, ⟨0, [], .v (.slice A0 n0 c0)⟩], [], [], [], none, none⟩ (by kernel_rfl) none (by kernel_rfl) [] [.t (some 61) (some (.v (.slice A0 n0 c0))), .t (some 62) (some (.v (.int .i64 s2.1))), .q 63 (.v (.slice A0 n0 c0)) [], .q 64 (.v (.int .i64 s2.1)) [], .q 65 (.v (.int .i64 (IntKind.i64.wrap (s2.1 + 1)))) [], .t (some 66) (some (.v (.slice A0 n0 c0))), .t (some 67) (some (.v (.int .i64 s2.1))), .t (some 68) (some (.v (.int .i64 (IntKind.i64.wrap (s2.1 + 1))))), .t (some 69) (some (.v (.pointer (some ((adr A0).add (((IntKind.i64.wrap (s2.1 + 1)) : Int).toNat * 4)))))), .t (some 70) (some (.v (.agg ((kd_Wit_spot).cells (rd s2.2 (IntKind.i64.wrap (s2.1 + 1))) sv_58).toArray))), .q 71 (.v (.slice A0 n0 c0)) [], .q 72 (.v (.int .i64 s2.1)) [], .q 73 (.v (.pointer (some ((adr A0).add ((s2.1 : Int).toNat * 4))))) [.need true ((0 : Int) ≤ s2.1 ∧ s2.1 < (n0 : Int)), .need true (A0 = some (adr A0))], .t (some 74) (some (.v (.agg ((kd_Wit_spot).cells (rd s2.2 s2.1) sv_62).toArray))), .t (some 75) (some (.v (.pointer (some ((adr A0).add ((s2.1 : Int).toNat * 4)))))), .t none none, .q 76 (.v (.pointer (some ((adr A0).add (((IntKind.i64.wrap (s2.1 + 1)) : Int).toNat * 4))))) [.need true ((0 : Int) ≤ (IntKind.i64.wrap (s2.1 + 1)) ∧ (IntKind.i64.wrap (s2.1 + 1)) < (n0 : Int)), .need true (A0 = some (adr A0))], .no] (by kernel_rfl) (by kernel_rfl) (by kernel_rfl) True.intro (AL.none (by kernel_rfl)) (fun hJ hsz hu => ?_)
        refine stage_ hJ hF hsz hu [.t (some (.v (.slice A0 n0 c0))), .t (some (.v (.int .i64 s2.1))), .q [] [], .q [] [], .q [3] [], .t (some (.v (.slice A0 n0 c0))), .t (some (.v (.int .i64 s2.1))), .t (some (.v (.int .i64 (IntKind.i64.wrap (s2.1 + 1))))), .t (some (.v (.pointer (some ((adr A0).add (((IntKind.i64.wrap (s2.1 + 1)) : Int).toNat * 4)))))), .t (some (.v (.agg ((kd_Wit_spot).cells (rd s2.2 (IntKind.i64.wrap (s2.1 + 1))) sv_58).toArray))), .q [] [], .q [] [], .q [10, 11] [], .t (some (.v (.agg ((kd_Wit_spot).cells (rd s2.2 s2.1) sv_62).toArray))), .t (some (.v (.pointer (some ((adr A0).add ((s2.1 : Int).toNat * 4)))))), .t none, .q [2, 4] [], .no] (by kernel_rfl) (by kernel_rfl) (by kernel_rfl) (by kernel_rfl) 17 rfl (by kernel_rfl) (by kernel_rfl) [16, 13] rfl (by kernel_rfl) (by kernel_rfl) ⟨ob_inb (fun _ => hN_61), hA_63, ob_inb (fun _ => hN_69), hA_71, trivial⟩ [2, 3, 4, 10, 11, 12, 16] (by kernel_rfl) [.t (some 61) (some (.v (.slice A0 n0 c0))), .t (some 62) (some (.v (.int .i64 s2.1))), .t (some 63) (some (.v (.slice A0 n0 c0))), .t (some 64) (some (.v (.int .i64 s2.1))), .t (some 65) (some (.v (.int .i64 (IntKind.i64.wrap (s2.1 + 1))))), .t (some 66) (some (.v (.slice A0 n0 c0))), .t (some 67) (some (.v (.int .i64 s2.1))), .t (some 68) (some (.v (.int .i64 (IntKind.i64.wrap (s2.1 + 1))))), .t (some 69) (some (.v (.pointer (some ((adr A0).add (((IntKind.i64.wrap (s2.1 + 1)) : Int).toNat * 4)))))), .t (some 70) (some (.v (.agg ((kd_Wit_spot).cells (rd s2.2 (IntKind.i64.wrap (s2.1 + 1))) sv_58).toArray))), .t (some 71) (some (.v (.slice A0 n0 c0))), .t (some 72) (some (.v (.int .i64 s2.1))), .t (some 73) (some (.v (.pointer (some ((adr A0).add ((s2.1 : Int).toNat * 4)))))), .t (some 74) (some (.v (.agg ((kd_Wit_spot).cells (rd s2.2 s2.1) sv_62).toArray))), .t (some 75) (some (.v (.pointer (some ((adr A0).add ((s2.1 : Int).toNat * 4)))))), .t none none, .t (some 76) (some (.v (.pointer (some ((adr A0).add (((IntKind.i64.wrap (s2.1 + 1)) : Int).toNat * 4)))))), .no] (by kernel_rfl) (fun fuel listed a w_77 hJ hI hW h1 hnl hsz hu => ?_)
        obtain ⟨hE', hmv, hmr⟩ := Ep.rebase hE hI
        replace hx4 := Kd.keep _ hx4 (hmv _)
        replace hr0 := Row.keep hr0 (hmv _) (fun b hb => hmr b (by simp [hb]))
        replace hE := hE'
        replace hI := hI.rebase
        clear hE' hmv hmr
        refine storeSeg_ (S0 := S) (d := kd_Wit_spot) (e := 91) (l := (s2.2.set (s2.1 : Int).toNat (rd s2.2 (IntKind.i64.wrap (s2.1 + 1))))) (A := A0) (i := (IntKind.i64.wrap (s2.1 + 1))) (off := 0) hF hE hI hW rfl rfl (ad := ((adr A0).add (((IntKind.i64.wrap (s2.1 + 1)) : Int).toNat * 4))) rfl rfl rfl (vs := [.int .i64 ((rd s2.2 s2.1).at_), .int .i64 ((rd s2.2 s2.1).rank), .int .i64 ((rd s2.2 s2.1).item.Kind), .int .i64 ((rd s2.2 s2.1).item.Of)]) rfl rfl rfl rfl (by simp) (by rw [hn0]; exact hN_69) hr0 (rd s2.2 s2.1) (fun _ => (svL [])) (fun _ => rfl) (fun sv h => trivial) (fun a w_78 hput hE' hI' hmv hmr hr0 => ?_)
        replace hx4 := Kd.keep _ hx4 (hmv _)
        replace hE := hE'
        replace hI := hI'
        clear hE' hI' hmv hmr
        have hn0 : ((s2.2.set (s2.1 : Int).toNat (rd s2.2 (IntKind.i64.wrap (s2.1 + 1)))).set ((IntKind.i64.wrap (s2.1 + 1)) : Int).toNat (rd s2.2 s2.1)).length = n0 := List.length_set.trans hn0
        refine next_ hJ h1 hnl hsz hu (by kernel_rfl) (by kernel_rfl) hput hI (live := [58, 13, 10, 0]) ⟨[⟨58, [], .v (.bool (decide (s2.1 < (IntKind.i64.wrap (s1.2 - 1)))))⟩, ⟨13, [], .v (.int .i64 s2.1)⟩, ⟨10, [], .v (.int .i64 s1.2)⟩, ⟨0, [], .v (.slice A0 n0 c0)⟩], [], [], [], none, none⟩ (by kernel_rfl) none (by kernel_rfl) [] [.t (some 61) (some (.v (.slice A0 n0 c0))), .t (some 62) (some (.v (.int .i64 s2.1))), .t (some 63) (some (.v (.slice A0 n0 c0))), .t (some 64) (some (.v (.int .i64 s2.1))), .t (some 65) (some (.v (.int .i64 (IntKind.i64.wrap (s2.1 + 1))))), .t (some 66) (some (.v (.slice A0 n0 c0))), .t (some 67) (some (.v (.int .i64 s2.1))), .t (some 68) (some (.v (.int .i64 (IntKind.i64.wrap (s2.1 + 1))))), .t (some 69) (some (.v (.pointer (some ((adr A0).add (((IntKind.i64.wrap (s2.1 + 1)) : Int).toNat * 4)))))), .t (some 70) (some (.v (.agg ((kd_Wit_spot).cells (rd s2.2 (IntKind.i64.wrap (s2.1 + 1))) sv_58).toArray))), .t (some 71) (some (.v (.slice A0 n0 c0))), .t (some 72) (some (.v (.int .i64 s2.1))), .t (some 73) (some (.v (.pointer (some ((adr A0).add ((s2.1 : Int).toNat * 4)))))), .t (some 74) (some (.v (.agg ((kd_Wit_spot).cells (rd s2.2 s2.1) sv_62).toArray))), .t (some 75) (some (.v (.pointer (some ((adr A0).add ((s2.1 : Int).toNat * 4)))))), .t none none, .t (some 76) (some (.v (.pointer (some ((adr A0).add (((IntKind.i64.wrap (s2.1 + 1)) : Int).toNat * 4)))))), .t none none] (by kernel_rfl) (by kernel_rfl) (by kernel_rfl) True.intro (AL.none (by kernel_rfl)) (fun hJ hsz hu => ?_)
        refine end_ hJ hF hsz hu [.t (some (.v (.slice A0 n0 c0))), .t (some (.v (.int .i64 s2.1))), .t (some (.v (.slice A0 n0 c0))), .t (some (.v (.int .i64 s2.1))), .t (some (.v (.int .i64 (IntKind.i64.wrap (s2.1 + 1))))), .t (some (.v (.slice A0 n0 c0))), .t (some (.v (.int .i64 s2.1))), .t (some (.v (.int .i64 (IntKind.i64.wrap (s2.1 + 1))))), .t (some (.v (.pointer (some ((adr A0).add (((IntKind.i64.wrap (s2.1 + 1)) : Int).toNat * 4)))))), .t (some (.v (.agg ((kd_Wit_spot).cells (rd s2.2 (IntKind.i64.wrap (s2.1 + 1))) sv_58).toArray))), .t (some (.v (.slice A0 n0 c0))), .t (some (.v (.int .i64 s2.1))), .t (some (.v (.pointer (some ((adr A0).add ((s2.1 : Int).toNat * 4)))))), .t (some (.v (.agg ((kd_Wit_spot).cells (rd s2.2 s2.1) sv_62).toArray))), .t (some (.v (.pointer (some ((adr A0).add ((s2.1 : Int).toNat * 4)))))), .t none, .t (some (.v (.pointer (some ((adr A0).add (((IntKind.i64.wrap (s2.1 + 1)) : Int).toNat * 4)))))), .t none] (by kernel_rfl) (by kernel_rfl) (by kernel_rfl) (by kernel_rfl) (by kernel_rfl) (by kernel_rfl) (live := [13, 10, 0]) ⟨[⟨13, [], .v (.int .i64 s2.1)⟩, ⟨10, [], .v (.int .i64 s1.2)⟩, ⟨0, [], .v (.slice A0 n0 c0)⟩], [], [], [], none, none⟩ (by kernel_rfl) trivial (fun a w_80 hI => ?_)
        refine inBlock_normal ?_
        refine then_normal ?_
        refine region_ (live := [13, 10, 0]) (orc := []) hF hI ⟨[⟨13, [], .v (.int .i64 (IntKind.i64.wrap (s2.1 + 1)))⟩, ⟨10, [], .v (.int .i64 s1.2)⟩, ⟨0, [], .v (.slice A0 n0 c0)⟩], [], [], [], none, none⟩ [] (by kernel_rfl) trivial (fun ns_81 a w_82 hI _ => ?_)
        refine then_normal ?_
        obtain ⟨hE', hmv, hmr⟩ := Ep.rebase hE hI
        replace hx4 := Kd.keep _ hx4 (hmv _)
        replace hr0 := Row.keep hr0 (hmv _) (fun b hb => hmr b (by simp [hb]))
        replace hE := hE'
        replace hI := hI.rebase
        clear hE' hmv hmr
        obtain rfl := Option.some.inj H1
        exact ⟨_, rfl, ⟨_, _, hx4, hr0, hn0, hE, hI.pick [13, 10, 0] 0 ⟨[⟨13, [], .v (.int .i64 (IntKind.i64.wrap (s2.1 + 1)))⟩, ⟨10, [], .v (.int .i64 s1.2)⟩, ⟨0, [], .v (.slice A0 n0 c0)⟩], [], [], [], none, none⟩ (by kernel_rfl)⟩⟩
       ·replace H1 := bif_f hc_56 H1
        refine wpIn_exit ?_
        refine then_exit ?_
        refine then_exit ?_
        obtain ⟨hE', hmv, hmr⟩ := Ep.rebase hE hI
        replace hx4 := Kd.keep _ hx4 (hmv _)
        replace hr0 := Row.keep hr0 (hmv _) (fun b hb => hmr b (by simp [hb]))
        replace hE := hE'
        replace hI := hI.rebase
        clear hE' hmv hmr
        obtain rfl := Option.some.inj H1
        exact .inl ⟨_, rfl, rfl, ⟨_, _, hx4, hr0, hn0, hE, hI.pick [13, 10, 0] 0 ⟨[⟨13, [], .v (.int .i64 s2.1)⟩, ⟨10, [], .v (.int .i64 s1.2)⟩, ⟨0, [], .v (.slice A0 n0 c0)⟩], [], [], [], none, none⟩ (by kernel_rfl)⟩⟩
      ·clear hI hE
       rintro s2 a w_85 ho ⟨ow_87, ns_86, hx4, hr0, hn0, hE, hI⟩
       subst ho
       replace H0 : (some s2.2 : Option ((List Wit_spot))) = _ := H0
       refine then_normal ?_
       obtain ⟨hE', hmv, hmr⟩ := Ep.rebase hE hI
       replace hx4 := Kd.keep _ hx4 (hmv _)
       replace hr0 := Row.keep hr0 (hmv _) (fun b hb => hmr b (by simp [hb]))
       replace hE := hE'
       replace hI := hI.rebase
       clear hE' hmv hmr
       refine wpIn_ret ?_
       refine then_ret ?_
       obtain rfl := Option.some.inj H0
       exact retG hI rfl rfl ⟨svL [], rfl, hE.keeps hI, Row.keep hr0 (hE.out hI) (fun _ _ => rfl), hn0⟩
    ·replace H0 := bif_f hc_3 H0
     refine wpIn_skip ?_
     refine then_normal ?_
     refine wpIn_seq ?_
     refine seq_region (live := [80, 0, 1, 2, 3, 4]) (orc := []) hF hI ⟨[⟨80, [], .v (.bool ((IntKind.i64.wrap (a3 - a2)) == 1))⟩, ⟨0, [], .v (.slice A0 n0 c0)⟩, ⟨1, [], .v (.int .i64 a1)⟩, ⟨2, [], .v (.int .i64 a2)⟩, ⟨3, [], .v (.int .i64 a3)⟩, ⟨4, [], .v (fnv96 x4 sv4)⟩], [], [], [], none, none⟩ [] (by kernel_rfl) trivial (fun ns_90 a w_91 hI _ => ?_)
     refine cond_ hI (((IntKind.i64.wrap (a3 - a2)) == 1)) rfl (fun hc_92 => ?_) (fun hc_92 => ?_)
     ·replace H0 := bif_t hc_92 H0
      refine seq_region (live := [14, 0, 2, 4]) (orc := []) hF hI ⟨[⟨14, [], .v (.int .i64 a1)⟩, ⟨0, [], .v (.slice A0 n0 c0)⟩, ⟨2, [], .v (.int .i64 a2)⟩, ⟨4, [], .v (fnv96 x4 sv4)⟩], [], [], [], none, none⟩ [] (by kernel_rfl) trivial (fun ns_93 a w_94 hI _ => ?_)
      refine seq_region (live := [15, 14, 0, 2, 4]) (orc := []) hF hI ⟨[⟨15, [], .v (.int .i64 a2)⟩, ⟨14, [], .v (.int .i64 a1)⟩, ⟨0, [], .v (.slice A0 n0 c0)⟩, ⟨2, [], .v (.int .i64 a2)⟩, ⟨4, [], .v (fnv96 x4 sv4)⟩], [], [], [], none, none⟩ [] (by kernel_rfl) trivial (fun ns_95 a w_96 hI _ => ?_)
      refine wpIn_seq ?_
      obtain ⟨o_134, hL_135, H0⟩ := bind_some H0
      refine block_loop (fun (s3 : Int × Int) a w_178 => ∃ ns, St w [] 220 ⟨[⟨15, [], .v (.int .i64 s3.1)⟩, ⟨14, [], .v (.int .i64 s3.2)⟩, ⟨0, [], .v (.slice A0 n0 c0)⟩, ⟨2, [], .v (.int .i64 a2)⟩, ⟨4, [], .v (fnv96 x4 sv4)⟩], [], [], [], none, none⟩ ns a w_178) (a2, a1) hL_135 ⟨_, hI.pick [15, 14, 0, 2, 4] 0 ⟨[⟨15, [], .v (.int .i64 a2)⟩, ⟨14, [], .v (.int .i64 a1)⟩, ⟨0, [], .v (.slice A0 n0 c0)⟩, ⟨2, [], .v (.int .i64 a2)⟩, ⟨4, [], .v (fnv96 x4 sv4)⟩], [], [], [], none, none⟩ (by kernel_rfl)⟩ ?_ ?_
      ·clear hI
       rintro s3 a w_97 ⟨ns_98, hI⟩ r3 H1
       unfold G_wit_spot_56.b3 at H1
       refine wpIn_seq ?_
       refine seq_region (live := [85, 15, 14, 0, 2, 4]) (orc := []) hF hI ⟨[⟨85, [], .v (.bool (decide (s3.2 < s3.1)))⟩, ⟨15, [], .v (.int .i64 s3.1)⟩, ⟨14, [], .v (.int .i64 s3.2)⟩, ⟨0, [], .v (.slice A0 n0 c0)⟩, ⟨2, [], .v (.int .i64 a2)⟩, ⟨4, [], .v (fnv96 x4 sv4)⟩], [], [], [], none, none⟩ [] (by kernel_rfl) trivial (fun ns_99 a w_100 hI _ => ?_)
       refine cond_ hI (decide (s3.2 < s3.1)) rfl (fun hc_101 => ?_) (fun hc_101 => ?_)
       ·replace H1 := bif_t hc_101 H1
        refine wpIn_skip ?_
        refine then_normal ?_
        refine wpIn_block ?_
        refine seq_region (live := [16, 15, 14, 0, 2, 4]) (orc := []) hF hI ⟨[⟨16, [], .v (.int .i64 (IntKind.i64.wrap (Int.fdiv (IntKind.u64.wrap (IntKind.i64.wrap (s3.2 + s3.1))) 2)))⟩, ⟨15, [], .v (.int .i64 s3.1)⟩, ⟨14, [], .v (.int .i64 s3.2)⟩, ⟨0, [], .v (.slice A0 n0 c0)⟩, ⟨2, [], .v (.int .i64 a2)⟩, ⟨4, [], .v (fnv96 x4 sv4)⟩], [], [], [], none, none⟩ [] (by kernel_rfl) trivial (fun ns_102 a w_103 hI _ => ?_)
        refine wpIn_seq ?_
        obtain ⟨hN_104, H1⟩ := req_some H1
        obtain ⟨sv_105, hE_107, hA_106⟩ := Row.elB hr0 hE (by simp) a2 true (fun hg => by rw [hn0]; exact (fun _ => hN_104) hg)
        obtain ⟨hN_108, H1⟩ := req_some H1
        obtain ⟨sv_109, hE_111, hA_110⟩ := Row.elB hr0 hE (by simp) (IntKind.i64.wrap (Int.fdiv (IntKind.u64.wrap (IntKind.i64.wrap (s3.2 + s3.1))) 2)) true (fun hg => by rw [hn0]; exact (fun _ => hN_108) hg)
        obtain ⟨t_112, hG_113, H1⟩ := bind_some H1
        refine drawn_ (live := [103, 16, 15, 14, 0, 2, 4]) (orc := [(kd_Wit_spot).cells (rd l0 a2) sv_105, (kd_Wit_spot).cells (rd l0 (IntKind.i64.wrap (Int.fdiv (IntKind.u64.wrap (IntKind.i64.wrap (s3.2 + s3.1))) 2))) sv_109, [.int .i64 t_112]]) hF hI ⟨[⟨103, [], .v (.bool (!(decide (t_112 < 0))))⟩, ⟨16, [], .v (.int .i64 (IntKind.i64.wrap (Int.fdiv (IntKind.u64.wrap (IntKind.i64.wrap (s3.2 + s3.1))) 2)))⟩, ⟨15, [], .v (.int .i64 s3.1)⟩, ⟨14, [], .v (.int .i64 s3.2)⟩, ⟨0, [], .v (.slice A0 n0 c0)⟩, ⟨2, [], .v (.int .i64 a2)⟩, ⟨4, [], .v (fnv96 x4 sv4)⟩], [], [], [], none, none⟩ [.need true ((0 : Int) ≤ a2 ∧ a2 < (n0 : Int)), .need true (A0 = some (adr A0)), .cell true ((adr A0).add ((a2 : Int).toNat * 4)) ((kd_Wit_spot).cells (rd l0 a2) sv_105), .need true ((0 : Int) ≤ (IntKind.i64.wrap (Int.fdiv (IntKind.u64.wrap (IntKind.i64.wrap (s3.2 + s3.1))) 2)) ∧ (IntKind.i64.wrap (Int.fdiv (IntKind.u64.wrap (IntKind.i64.wrap (s3.2 + s3.1))) 2)) < (n0 : Int)), .need true (A0 = some (adr A0)), .cell true ((adr A0).add (((IntKind.i64.wrap (Int.fdiv (IntKind.u64.wrap (IntKind.i64.wrap (s3.2 + s3.1))) 2)) : Int).toNat * 4)) ((kd_Wit_spot).cells (rd l0 (IntKind.i64.wrap (Int.fdiv (IntKind.u64.wrap (IntKind.i64.wrap (s3.2 + s3.1))) 2))) sv_109), .call true (fid96 x4) (([.agg ((kd_Wit_spot).cells (rd l0 a2) (svL [])).toArray, .agg ((kd_Wit_spot).cells (rd l0 (IntKind.i64.wrap (Int.fdiv (IntKind.u64.wrap (IntKind.i64.wrap (s3.2 + s3.1))) 2))) (svL [])).toArray] : List Value) ++ (fca96 x4 sv4).toList) (.int .i64 t_112)] (by kernel_rfl) (by kernel_rfl) (by kernel_rfl) ⟨ob_inb (fun _ => hN_104), hA_106, ob_elR hE_107 0 ((kd_Wit_spot).cells (rd l0 a2) sv_105) rfl, ob_inb (fun _ => hN_108), hA_110, ob_elR hE_111 0 ((kd_Wit_spot).cells (rd l0 (IntKind.i64.wrap (Int.fdiv (IntKind.u64.wrap (IntKind.i64.wrap (s3.2 + s3.1))) 2))) sv_109) rfl, ob_call (Fn96.ent x4) (fun hg wz hk => Fn96.calls x4 (rd l0 a2) (rd l0 (IntKind.i64.wrap (Int.fdiv (IntKind.u64.wrap (IntKind.i64.wrap (s3.2 + s3.1))) 2))) sv4 (svL []) (svL []) wz (S := fun _ => True) (Kd.any _ (Kd.keep kdF96 hx4 (Lo.on hk))) (Kd.any _ (Kd.keep kd_Wit_spot (contI (S := Lo S w w [] [rb A0]) (w := w) (d := kd_Wit_spot) (x := (rd l0 a2)) (sv := (svL [])) trivial) (Lo.on hk))) (Kd.any _ (Kd.keep kd_Wit_spot (contI (S := Lo S w w [] [rb A0]) (w := w) (d := kd_Wit_spot) (x := (rd l0 (IntKind.i64.wrap (Int.fdiv (IntKind.u64.wrap (IntKind.i64.wrap (s3.2 + s3.1))) 2)))) (sv := (svL [])) trivial) (Lo.on hk))) _ hG_113), trivial⟩ (fun a w_114 hI => ?_)
        refine then_normal ?_
        refine cond_merge hI ((!(decide (t_112 < 0)))) rfl ⟨[⟨14, [], .v (.int .i64 (IntKind.i64.wrap ((IntKind.i64.wrap (Int.fdiv (IntKind.u64.wrap (IntKind.i64.wrap (s3.2 + s3.1))) 2)) + 1)))⟩, ⟨15, [], .v (.int .i64 s3.1)⟩, ⟨0, [], .v (.slice A0 n0 c0)⟩, ⟨2, [], .v (.int .i64 a2)⟩, ⟨4, [], .v (fnv96 x4 sv4)⟩], [], [], [], none, none⟩ ⟨[⟨14, [], .v (.int .i64 s3.2)⟩, ⟨15, [], .v (.int .i64 (IntKind.i64.wrap (Int.fdiv (IntKind.u64.wrap (IntKind.i64.wrap (s3.2 + s3.1))) 2)))⟩, ⟨0, [], .v (.slice A0 n0 c0)⟩, ⟨2, [], .v (.int .i64 a2)⟩, ⟨4, [], .v (fnv96 x4 sv4)⟩], [], [], [], none, none⟩ (fun b => ⟨[⟨14, [], .v (.int .i64 (bif b then (IntKind.i64.wrap ((IntKind.i64.wrap (Int.fdiv (IntKind.u64.wrap (IntKind.i64.wrap (s3.2 + s3.1))) 2)) + 1)) else s3.2))⟩, ⟨15, [], .v (.int .i64 (bif b then s3.1 else (IntKind.i64.wrap (Int.fdiv (IntKind.u64.wrap (IntKind.i64.wrap (s3.2 + s3.1))) 2))))⟩, ⟨0, [], .v (.slice A0 n0 c0)⟩, ⟨2, [], .v (.int .i64 a2)⟩, ⟨4, [], .v (fnv96 x4 sv4)⟩], [], [], [], none, none⟩) (fun b => by cases b <;> rfl) (fun hc_115 => ?_) (fun hc_115 => ?_) (fun ns_120 a w_121 hI => ?_)
        ·refine region_ (live := [14, 15, 0, 2, 4]) (orc := []) hF hI ⟨[⟨14, [], .v (.int .i64 (IntKind.i64.wrap ((IntKind.i64.wrap (Int.fdiv (IntKind.u64.wrap (IntKind.i64.wrap (s3.2 + s3.1))) 2)) + 1)))⟩, ⟨15, [], .v (.int .i64 s3.1)⟩, ⟨0, [], .v (.slice A0 n0 c0)⟩, ⟨2, [], .v (.int .i64 a2)⟩, ⟨4, [], .v (fnv96 x4 sv4)⟩], [], [], [], none, none⟩ [] (by kernel_rfl) trivial (fun ns_116 a w_117 hI _ => ?_)
         refine then_normal ?_
         exact ⟨_, hI.pick [14, 15, 0, 2, 4] 0 ⟨[⟨14, [], .v (.int .i64 (IntKind.i64.wrap ((IntKind.i64.wrap (Int.fdiv (IntKind.u64.wrap (IntKind.i64.wrap (s3.2 + s3.1))) 2)) + 1)))⟩, ⟨15, [], .v (.int .i64 s3.1)⟩, ⟨0, [], .v (.slice A0 n0 c0)⟩, ⟨2, [], .v (.int .i64 a2)⟩, ⟨4, [], .v (fnv96 x4 sv4)⟩], [], [], [], none, none⟩ (by kernel_rfl)⟩
        ·refine region_ (live := [15, 14, 0, 2, 4]) (orc := []) hF hI ⟨[⟨15, [], .v (.int .i64 (IntKind.i64.wrap (Int.fdiv (IntKind.u64.wrap (IntKind.i64.wrap (s3.2 + s3.1))) 2)))⟩, ⟨14, [], .v (.int .i64 s3.2)⟩, ⟨0, [], .v (.slice A0 n0 c0)⟩, ⟨2, [], .v (.int .i64 a2)⟩, ⟨4, [], .v (fnv96 x4 sv4)⟩], [], [], [], none, none⟩ [] (by kernel_rfl) trivial (fun ns_118 a w_119 hI _ => ?_)
         refine then_normal ?_
         exact ⟨_, hI.pick [14, 15, 0, 2, 4] 0 ⟨[⟨14, [], .v (.int .i64 s3.2)⟩, ⟨15, [], .v (.int .i64 (IntKind.i64.wrap (Int.fdiv (IntKind.u64.wrap (IntKind.i64.wrap (s3.2 + s3.1))) 2)))⟩, ⟨0, [], .v (.slice A0 n0 c0)⟩, ⟨2, [], .v (.int .i64 a2)⟩, ⟨4, [], .v (fnv96 x4 sv4)⟩], [], [], [], none, none⟩ (by kernel_rfl)⟩
        ·refine inBlock_normal ?_
         refine then_normal ?_
         obtain rfl := Option.some.inj H1
         exact ⟨_, rfl, ⟨_, hI.pick [15, 14, 0, 2, 4] 0 ⟨[⟨15, [], .v (.int .i64 (bif (!(decide (t_112 < 0))) then s3.1 else (IntKind.i64.wrap (Int.fdiv (IntKind.u64.wrap (IntKind.i64.wrap (s3.2 + s3.1))) 2))))⟩, ⟨14, [], .v (.int .i64 (bif (!(decide (t_112 < 0))) then (IntKind.i64.wrap ((IntKind.i64.wrap (Int.fdiv (IntKind.u64.wrap (IntKind.i64.wrap (s3.2 + s3.1))) 2)) + 1)) else s3.2))⟩, ⟨0, [], .v (.slice A0 n0 c0)⟩, ⟨2, [], .v (.int .i64 a2)⟩, ⟨4, [], .v (fnv96 x4 sv4)⟩], [], [], [], none, none⟩ (by kernel_rfl)⟩⟩
       ·replace H1 := bif_f hc_101 H1
        refine wpIn_exit ?_
        refine then_exit ?_
        refine then_exit ?_
        obtain rfl := Option.some.inj H1
        exact .inl ⟨_, rfl, rfl, ⟨_, hI.pick [15, 14, 0, 2, 4] 0 ⟨[⟨15, [], .v (.int .i64 s3.1)⟩, ⟨14, [], .v (.int .i64 s3.2)⟩, ⟨0, [], .v (.slice A0 n0 c0)⟩, ⟨2, [], .v (.int .i64 a2)⟩, ⟨4, [], .v (fnv96 x4 sv4)⟩], [], [], [], none, none⟩ (by kernel_rfl)⟩⟩
      ·clear hI
       rintro s3 a w_136 ho ⟨ns_137, hI⟩
       subst ho
       replace H0 : (((loopω (G_wit_spot_56.b4 (G_wit_spot_56.n n) l0 n0 a1 a2 a3 x4 s3) (a2, l0)).bind fun o => o.on (fun s4 => some s4.2) (fun r => some r)) : Option ((List Wit_spot))) = _ := H0
       refine then_normal ?_
       refine wpIn_seq ?_
       refine seq_region (live := [17, 14, 0]) (orc := []) hF hI ⟨[⟨17, [], .v (.int .i64 a2)⟩, ⟨14, [], .v (.int .i64 s3.2)⟩, ⟨0, [], .v (.slice A0 n0 c0)⟩], [], [], [], none, none⟩ [] (by kernel_rfl) trivial (fun ns_138 a w_139 hI _ => ?_)
       obtain ⟨hE', hmv, hmr⟩ := Ep.rebase hE hI
       replace hx4 := Kd.keep _ hx4 (hmv _)
       replace hr0 := Row.keep hr0 (hmv _) (fun b hb => hmr b (by simp [hb]))
       replace hE := hE'
       replace hI := hI.rebase
       clear hE' hmv hmr
       obtain ⟨o_172, hL_173, H0⟩ := bind_some H0
       refine block_loop (fun (s4 : Int × (List Wit_spot)) a w_177 => ∃ (ow ns : List Nat) , ((kdF96).cont (Lo S w w_177 ow [rb A0]) w_177 x4 sv4) ∧ (Row kd_Wit_spot 91 (Lo S w w_177 ow [rb A0]) w_177 base0 A0 c0 s4.2) ∧ (s4.2.length = n0) ∧ Ep ([rb A0] : List (List Nat)).flatten w w_177 ow [rb A0] ∧ St w_177 ow 220 ⟨[⟨17, [], .v (.int .i64 s4.1)⟩, ⟨14, [], .v (.int .i64 s3.2)⟩, ⟨0, [], .v (.slice A0 n0 c0)⟩], [], [], [], none, none⟩ ns a w_177) (a2, l0) hL_173 ⟨_, _, hx4, hr0, hn0, hE, hI.pick [17, 14, 0] 0 ⟨[⟨17, [], .v (.int .i64 a2)⟩, ⟨14, [], .v (.int .i64 s3.2)⟩, ⟨0, [], .v (.slice A0 n0 c0)⟩], [], [], [], none, none⟩ (by kernel_rfl)⟩ ?_ ?_
       ·clear hI hE
        rintro s4 a w_140 ⟨ow_142, ns_141, hx4, hr0, hn0, hE, hI⟩ r4 H1
        unfold G_wit_spot_56.b4 at H1
        refine wpIn_seq ?_
        refine seq_region (live := [110, 17, 14, 0]) (orc := []) hF hI ⟨[⟨110, [], .v (.bool (decide (s4.1 > s3.2)))⟩, ⟨17, [], .v (.int .i64 s4.1)⟩, ⟨14, [], .v (.int .i64 s3.2)⟩, ⟨0, [], .v (.slice A0 n0 c0)⟩], [], [], [], none, none⟩ [] (by kernel_rfl) trivial (fun ns_143 a w_144 hI _ => ?_)
        refine cond_ hI (decide (s4.1 > s3.2)) rfl (fun hc_145 => ?_) (fun hc_145 => ?_)
        ·replace H1 := bif_t hc_145 H1
         refine wpIn_skip ?_
         refine then_normal ?_
         refine wpIn_seq ?_
         refine wpIn_block ?_
         replace hI := hI.fin (live := [110, 17, 14, 0]) (σ2 := ⟨[⟨110, [], .v (.bool (decide (s4.1 > s3.2)))⟩, ⟨17, [], .v (.int .i64 s4.1)⟩, ⟨14, [], .v (.int .i64 s3.2)⟩, ⟨0, [], .v (.slice A0 n0 c0)⟩], [], [], [], none, none⟩) (by kernel_rfl)
         obtain ⟨hN_146, H1⟩ := req_some H1
         obtain ⟨sv_147, hE_149, hA_148⟩ := Row.elB hr0 hE (by simp) (IntKind.i64.wrap (s4.1 - 1)) true (fun hg => by rw [hn0]; exact (fun _ => hN_146) hg)
         obtain ⟨hN_150, H1⟩ := req_some H1
         obtain ⟨sv_151, hE_153, hA_152⟩ := Row.elB hr0 hE (by simp) s4.1 true (fun hg => by rw [hn0]; exact (fun _ => hN_150) hg)
         obtain ⟨hN_154, H1⟩ := req_some H1
         obtain ⟨sv_155, hE_157, hA_156⟩ := Row.elB hr0 hE (by simp) s4.1 true (fun hg => by rw [hn0]; exact (fun _ => hN_154) hg)
         obtain ⟨hN_158, H1⟩ := req_some H1
         obtain ⟨sv_159, hE_161, hA_160⟩ := Row.elB hr0 hE (by simp) (IntKind.i64.wrap (s4.1 - 1)) true (fun hg => by rw [hn0]; exact (fun _ => hN_158) hg)
         refine drawnS_ hI (by kernel_rfl) [.q 113 (.v (.slice A0 n0 c0)) [], .q 114 (.v (.int .i64 s4.1)) [], .q 115 (.v (.slice A0 n0 c0)) [], .q 116 (.v (.int .i64 s4.1)) [], .q 117 (.v (.int .i64 (IntKind.i64.wrap (s4.1 - 1)))) [], .q 118 (.v (.slice A0 n0 c0)) [], .q 119 (.v (.int .i64 s4.1)) [], .q 120 (.v (.int .i64 (IntKind.i64.wrap (s4.1 - 1)))) [], .q 121 (.v (.pointer (some ((adr A0).add (((IntKind.i64.wrap (s4.1 - 1)) : Int).toNat * 4))))) [.need true ((0 : Int) ≤ (IntKind.i64.wrap (s4.1 - 1)) ∧ (IntKind.i64.wrap (s4.1 - 1)) < (n0 : Int)), .need true (A0 = some (adr A0))], .q 122 (.v (.agg ((kd_Wit_spot).cells (rd s4.2 (IntKind.i64.wrap (s4.1 - 1))) sv_147).toArray)) [.cell true ((adr A0).add (((IntKind.i64.wrap (s4.1 - 1)) : Int).toNat * 4)) ((kd_Wit_spot).cells (rd s4.2 (IntKind.i64.wrap (s4.1 - 1))) sv_147)], .q 123 (.v (.slice A0 n0 c0)) [], .q 124 (.v (.int .i64 s4.1)) [], .q 125 (.v (.pointer (some ((adr A0).add ((s4.1 : Int).toNat * 4))))) [.need true ((0 : Int) ≤ s4.1 ∧ s4.1 < (n0 : Int)), .need true (A0 = some (adr A0))], .q 126 (.v (.agg ((kd_Wit_spot).cells (rd s4.2 s4.1) sv_151).toArray)) [.cell true ((adr A0).add ((s4.1 : Int).toNat * 4)) ((kd_Wit_spot).cells (rd s4.2 s4.1) sv_151)], .q 127 (.v (.pointer (some ((adr A0).add ((s4.1 : Int).toNat * 4))))) [.need true ((0 : Int) ≤ s4.1 ∧ s4.1 < (n0 : Int)), .need true (A0 = some (adr A0))], .no, .q 128 (.v (.pointer (some ((adr A0).add (((IntKind.i64.wrap (s4.1 - 1)) : Int).toNat * 4))))) [.need true ((0 : Int) ≤ (IntKind.i64.wrap (s4.1 - 1)) ∧ (IntKind.i64.wrap (s4.1 - 1)) < (n0 : Int)), .need true (A0 = some (adr A0))], .no] (by kernel_rfl) (fun fuel listed w_162 hJ hsz hu => ?_)
         refine stage_ hJ hF hsz hu [.q [] [], .q [] [], .q [] [], .q [] [], .q [3] [], .q [] [], .q [] [], .q [6] [], .q [5, 7] [], .q [8] [(kd_Wit_spot).cells (rd s4.2 (IntKind.i64.wrap (s4.1 - 1))) sv_147], .q [] [], .q [] [], .q [10, 11] [], .q [12] [(kd_Wit_spot).cells (rd s4.2 s4.1) sv_151], .q [0, 1] [], .no, .q [2, 4] [], .no] (by kernel_rfl) (by kernel_rfl) (by kernel_rfl) (by kernel_rfl) 15 rfl (by kernel_rfl) (by kernel_rfl) [14, 9] rfl (by kernel_rfl) (by kernel_rfl) ⟨ob_inb (fun _ => hN_146), hA_148, ob_elR hE_149 0 ((kd_Wit_spot).cells (rd s4.2 (IntKind.i64.wrap (s4.1 - 1))) sv_147) rfl, ob_inb (fun _ => hN_150), hA_152, ob_elR hE_153 0 ((kd_Wit_spot).cells (rd s4.2 s4.1) sv_151) rfl, ob_inb (fun _ => hN_154), hA_156, ob_inb (fun _ => hN_158), hA_160, trivial⟩ [0, 1, 5, 6, 7, 8, 9, 13, 14] (by kernel_rfl) [.t (some 113) (some (.v (.slice A0 n0 c0))), .t (some 114) (some (.v (.int .i64 s4.1))), .q 115 (.v (.slice A0 n0 c0)) [], .q 116 (.v (.int .i64 s4.1)) [], .q 117 (.v (.int .i64 (IntKind.i64.wrap (s4.1 - 1)))) [], .t (some 118) (some (.v (.slice A0 n0 c0))), .t (some 119) (some (.v (.int .i64 s4.1))), .t (some 120) (some (.v (.int .i64 (IntKind.i64.wrap (s4.1 - 1))))), .t (some 121) (some (.v (.pointer (some ((adr A0).add (((IntKind.i64.wrap (s4.1 - 1)) : Int).toNat * 4)))))), .t (some 122) (some (.v (.agg ((kd_Wit_spot).cells (rd s4.2 (IntKind.i64.wrap (s4.1 - 1))) sv_147).toArray))), .q 123 (.v (.slice A0 n0 c0)) [], .q 124 (.v (.int .i64 s4.1)) [], .q 125 (.v (.pointer (some ((adr A0).add ((s4.1 : Int).toNat * 4))))) [.need true ((0 : Int) ≤ s4.1 ∧ s4.1 < (n0 : Int)), .need true (A0 = some (adr A0))], .t (some 126) (some (.v (.agg ((kd_Wit_spot).cells (rd s4.2 s4.1) sv_151).toArray))), .t (some 127) (some (.v (.pointer (some ((adr A0).add ((s4.1 : Int).toNat * 4)))))), .no, .q 128 (.v (.pointer (some ((adr A0).add (((IntKind.i64.wrap (s4.1 - 1)) : Int).toNat * 4))))) [.need true ((0 : Int) ≤ (IntKind.i64.wrap (s4.1 - 1)) ∧ (IntKind.i64.wrap (s4.1 - 1)) < (n0 : Int)), .need true (A0 = some (adr A0))], .no] (by kernel_rfl) (fun fuel listed a w_163 hJ hI hW h1 hnl hsz hu => ?_)
         obtain ⟨hE', hmv, hmr⟩ := Ep.rebase hE hI
         replace hx4 := Kd.keep _ hx4 (hmv _)
         replace hr0 := Row.keep hr0 (hmv _) (fun b hb => hmr b (by simp [hb]))
         replace hE := hE'
         replace hI := hI.rebase
         clear hE' hmv hmr
         refine storeSeg_ (S0 := S) (d := kd_Wit_spot) (e := 91) (l := s4.2) (A := A0) (i := s4.1) (off := 0) hF hE hI hW rfl rfl (ad := ((adr A0).add ((s4.1 : Int).toNat * 4))) rfl rfl rfl (vs := [.int .i64 ((rd s4.2 (IntKind.i64.wrap (s4.1 - 1))).at_), .int .i64 ((rd s4.2 (IntKind.i64.wrap (s4.1 - 1))).rank), .int .i64 ((rd s4.2 (IntKind.i64.wrap (s4.1 - 1))).item.Kind), .int .i64 ((rd s4.2 (IntKind.i64.wrap (s4.1 - 1))).item.Of)]) rfl rfl rfl rfl (by simp) (by rw [hn0]; exact hN_154) hr0 (rd s4.2 (IntKind.i64.wrap (s4.1 - 1))) (fun _ => (svL [])) (fun _ => rfl) (fun sv h => trivial) (fun a w_164 hput hE' hI' hmv hmr hr0 => ?_)
         replace hx4 := Kd.keep _ hx4 (hmv _)
         replace hE := hE'
         replace hI := hI'
         clear hE' hI' hmv hmr
         have hn0 : (s4.2.set (s4.1 : Int).toNat (rd s4.2 (IntKind.i64.wrap (s4.1 - 1)))).length = n0 := List.length_set.trans hn0
         refine next_ hJ h1 hnl hsz hu (by kernel_rfl) (by kernel_rfl) hput hI (live := [110, 17, 14, 0]) ⟨[⟨110, [], .v (.bool (decide (s4.1 > s3.2)))⟩, ⟨17, [], .v (.int .i64 s4.1)⟩, ⟨14, [], .v (.int .i64 s3.2)⟩, ⟨0, [], .v (.slice A0 n0 c0)⟩], [], [], [], none, none⟩ (by kernel_rfl) none (by kernel_rfl) [] [.t (some 113) (some (.v (.slice A0 n0 c0))), .t (some 114) (some (.v (.int .i64 s4.1))), .q 115 (.v (.slice A0 n0 c0)) [], .q 116 (.v (.int .i64 s4.1)) [], .q 117 (.v (.int .i64 (IntKind.i64.wrap (s4.1 - 1)))) [], .t (some 118) (some (.v (.slice A0 n0 c0))), .t (some 119) (some (.v (.int .i64 s4.1))), .t (some 120) (some (.v (.int .i64 (IntKind.i64.wrap (s4.1 - 1))))), .t (some 121) (some (.v (.pointer (some ((adr A0).add (((IntKind.i64.wrap (s4.1 - 1)) : Int).toNat * 4)))))), .t (some 122) (some (.v (.agg ((kd_Wit_spot).cells (rd s4.2 (IntKind.i64.wrap (s4.1 - 1))) sv_147).toArray))), .q 123 (.v (.slice A0 n0 c0)) [], .q 124 (.v (.int .i64 s4.1)) [], .q 125 (.v (.pointer (some ((adr A0).add ((s4.1 : Int).toNat * 4))))) [.need true ((0 : Int) ≤ s4.1 ∧ s4.1 < (n0 : Int)), .need true (A0 = some (adr A0))], .t (some 126) (some (.v (.agg ((kd_Wit_spot).cells (rd s4.2 s4.1) sv_151).toArray))), .t (some 127) (some (.v (.pointer (some ((adr A0).add ((s4.1 : Int).toNat * 4)))))), .t none none, .q 128 (.v (.pointer (some ((adr A0).add (((IntKind.i64.wrap (s4.1 - 1)) : Int).toNat * 4))))) [.need true ((0 : Int) ≤ (IntKind.i64.wrap (s4.1 - 1)) ∧ (IntKind.i64.wrap (s4.1 - 1)) < (n0 : Int)), .need true (A0 = some (adr A0))], .no] (by kernel_rfl) (by kernel_rfl) (by kernel_rfl) True.intro (AL.none (by kernel_rfl)) (fun hJ hsz hu => ?_)
         refine stage_ hJ hF hsz hu [.t (some (.v (.slice A0 n0 c0))), .t (some (.v (.int .i64 s4.1))), .q [] [], .q [] [], .q [3] [], .t (some (.v (.slice A0 n0 c0))), .t (some (.v (.int .i64 s4.1))), .t (some (.v (.int .i64 (IntKind.i64.wrap (s4.1 - 1))))), .t (some (.v (.pointer (some ((adr A0).add (((IntKind.i64.wrap (s4.1 - 1)) : Int).toNat * 4)))))), .t (some (.v (.agg ((kd_Wit_spot).cells (rd s4.2 (IntKind.i64.wrap (s4.1 - 1))) sv_147).toArray))), .q [] [], .q [] [], .q [10, 11] [], .t (some (.v (.agg ((kd_Wit_spot).cells (rd s4.2 s4.1) sv_151).toArray))), .t (some (.v (.pointer (some ((adr A0).add ((s4.1 : Int).toNat * 4)))))), .t none, .q [2, 4] [], .no] (by kernel_rfl) (by kernel_rfl) (by kernel_rfl) (by kernel_rfl) 17 rfl (by kernel_rfl) (by kernel_rfl) [16, 13] rfl (by kernel_rfl) (by kernel_rfl) ⟨ob_inb (fun _ => hN_150), hA_152, ob_inb (fun _ => hN_158), hA_160, trivial⟩ [2, 3, 4, 10, 11, 12, 16] (by kernel_rfl) [.t (some 113) (some (.v (.slice A0 n0 c0))), .t (some 114) (some (.v (.int .i64 s4.1))), .t (some 115) (some (.v (.slice A0 n0 c0))), .t (some 116) (some (.v (.int .i64 s4.1))), .t (some 117) (some (.v (.int .i64 (IntKind.i64.wrap (s4.1 - 1))))), .t (some 118) (some (.v (.slice A0 n0 c0))), .t (some 119) (some (.v (.int .i64 s4.1))), .t (some 120) (some (.v (.int .i64 (IntKind.i64.wrap (s4.1 - 1))))), .t (some 121) (some (.v (.pointer (some ((adr A0).add (((IntKind.i64.wrap (s4.1 - 1)) : Int).toNat * 4)))))), .t (some 122) (some (.v (.agg ((kd_Wit_spot).cells (rd s4.2 (IntKind.i64.wrap (s4.1 - 1))) sv_147).toArray))), .t (some 123) (some (.v (.slice A0 n0 c0))), .t (some 124) (some (.v (.int .i64 s4.1))), .t (some 125) (some (.v (.pointer (some ((adr A0).add ((s4.1 : Int).toNat * 4)))))), .t (some 126) (some (.v (.agg ((kd_Wit_spot).cells (rd s4.2 s4.1) sv_151).toArray))), .t (some 127) (some (.v (.pointer (some ((adr A0).add ((s4.1 : Int).toNat * 4)))))), .t none none, .t (some 128) (some (.v (.pointer (some ((adr A0).add (((IntKind.i64.wrap (s4.1 - 1)) : Int).toNat * 4)))))), .no] (by kernel_rfl) (fun fuel listed a w_166 hJ hI hW h1 hnl hsz hu => ?_)
         obtain ⟨hE', hmv, hmr⟩ := Ep.rebase hE hI
         replace hx4 := Kd.keep _ hx4 (hmv _)
         replace hr0 := Row.keep hr0 (hmv _) (fun b hb => hmr b (by simp [hb]))
         replace hE := hE'
         replace hI := hI.rebase
         clear hE' hmv hmr
         refine storeSeg_ (S0 := S) (d := kd_Wit_spot) (e := 91) (l := (s4.2.set (s4.1 : Int).toNat (rd s4.2 (IntKind.i64.wrap (s4.1 - 1))))) (A := A0) (i := (IntKind.i64.wrap (s4.1 - 1))) (off := 0) hF hE hI hW rfl rfl (ad := ((adr A0).add (((IntKind.i64.wrap (s4.1 - 1)) : Int).toNat * 4))) rfl rfl rfl (vs := [.int .i64 ((rd s4.2 s4.1).at_), .int .i64 ((rd s4.2 s4.1).rank), .int .i64 ((rd s4.2 s4.1).item.Kind), .int .i64 ((rd s4.2 s4.1).item.Of)]) rfl rfl rfl rfl (by simp) (by rw [hn0]; exact hN_158) hr0 (rd s4.2 s4.1) (fun _ => (svL [])) (fun _ => rfl) (fun sv h => trivial) (fun a w_167 hput hE' hI' hmv hmr hr0 => ?_)
         replace hx4 := Kd.keep _ hx4 (hmv _)
         replace hE := hE'
         replace hI := hI'
         clear hE' hI' hmv hmr
         have hn0 : ((s4.2.set (s4.1 : Int).toNat (rd s4.2 (IntKind.i64.wrap (s4.1 - 1)))).set ((IntKind.i64.wrap (s4.1 - 1)) : Int).toNat (rd s4.2 s4.1)).length = n0 := List.length_set.trans hn0
         refine next_ hJ h1 hnl hsz hu (by kernel_rfl) (by kernel_rfl) hput hI (live := [110, 17, 14, 0]) ⟨[⟨110, [], .v (.bool (decide (s4.1 > s3.2)))⟩, ⟨17, [], .v (.int .i64 s4.1)⟩, ⟨14, [], .v (.int .i64 s3.2)⟩, ⟨0, [], .v (.slice A0 n0 c0)⟩], [], [], [], none, none⟩ (by kernel_rfl) none (by kernel_rfl) [] [.t (some 113) (some (.v (.slice A0 n0 c0))), .t (some 114) (some (.v (.int .i64 s4.1))), .t (some 115) (some (.v (.slice A0 n0 c0))), .t (some 116) (some (.v (.int .i64 s4.1))), .t (some 117) (some (.v (.int .i64 (IntKind.i64.wrap (s4.1 - 1))))), .t (some 118) (some (.v (.slice A0 n0 c0))), .t (some 119) (some (.v (.int .i64 s4.1))), .t (some 120) (some (.v (.int .i64 (IntKind.i64.wrap (s4.1 - 1))))), .t (some 121) (some (.v (.pointer (some ((adr A0).add (((IntKind.i64.wrap (s4.1 - 1)) : Int).toNat * 4)))))), .t (some 122) (some (.v (.agg ((kd_Wit_spot).cells (rd s4.2 (IntKind.i64.wrap (s4.1 - 1))) sv_147).toArray))), .t (some 123) (some (.v (.slice A0 n0 c0))), .t (some 124) (some (.v (.int .i64 s4.1))), .t (some 125) (some (.v (.pointer (some ((adr A0).add ((s4.1 : Int).toNat * 4)))))), .t (some 126) (some (.v (.agg ((kd_Wit_spot).cells (rd s4.2 s4.1) sv_151).toArray))), .t (some 127) (some (.v (.pointer (some ((adr A0).add ((s4.1 : Int).toNat * 4)))))), .t none none, .t (some 128) (some (.v (.pointer (some ((adr A0).add (((IntKind.i64.wrap (s4.1 - 1)) : Int).toNat * 4)))))), .t none none] (by kernel_rfl) (by kernel_rfl) (by kernel_rfl) True.intro (AL.none (by kernel_rfl)) (fun hJ hsz hu => ?_)
         refine end_ hJ hF hsz hu [.t (some (.v (.slice A0 n0 c0))), .t (some (.v (.int .i64 s4.1))), .t (some (.v (.slice A0 n0 c0))), .t (some (.v (.int .i64 s4.1))), .t (some (.v (.int .i64 (IntKind.i64.wrap (s4.1 - 1))))), .t (some (.v (.slice A0 n0 c0))), .t (some (.v (.int .i64 s4.1))), .t (some (.v (.int .i64 (IntKind.i64.wrap (s4.1 - 1))))), .t (some (.v (.pointer (some ((adr A0).add (((IntKind.i64.wrap (s4.1 - 1)) : Int).toNat * 4)))))), .t (some (.v (.agg ((kd_Wit_spot).cells (rd s4.2 (IntKind.i64.wrap (s4.1 - 1))) sv_147).toArray))), .t (some (.v (.slice A0 n0 c0))), .t (some (.v (.int .i64 s4.1))), .t (some (.v (.pointer (some ((adr A0).add ((s4.1 : Int).toNat * 4)))))), .t (some (.v (.agg ((kd_Wit_spot).cells (rd s4.2 s4.1) sv_151).toArray))), .t (some (.v (.pointer (some ((adr A0).add ((s4.1 : Int).toNat * 4)))))), .t none, .t (some (.v (.pointer (some ((adr A0).add (((IntKind.i64.wrap (s4.1 - 1)) : Int).toNat * 4)))))), .t none] (by kernel_rfl) (by kernel_rfl) (by kernel_rfl) (by kernel_rfl) (by kernel_rfl) (by kernel_rfl) (live := [17, 14, 0]) ⟨[⟨17, [], .v (.int .i64 s4.1)⟩, ⟨14, [], .v (.int .i64 s3.2)⟩, ⟨0, [], .v (.slice A0 n0 c0)⟩], [], [], [], none, none⟩ (by kernel_rfl) trivial (fun a w_169 hI => ?_)
         refine inBlock_normal ?_
         refine then_normal ?_
         refine region_ (live := [17, 14, 0]) (orc := []) hF hI ⟨[⟨17, [], .v (.int .i64 (IntKind.i64.wrap (s4.1 - 1)))⟩, ⟨14, [], .v (.int .i64 s3.2)⟩, ⟨0, [], .v (.slice A0 n0 c0)⟩], [], [], [], none, none⟩ [] (by kernel_rfl) trivial (fun ns_170 a w_171 hI _ => ?_)
         refine then_normal ?_
         obtain ⟨hE', hmv, hmr⟩ := Ep.rebase hE hI
         replace hx4 := Kd.keep _ hx4 (hmv _)
         replace hr0 := Row.keep hr0 (hmv _) (fun b hb => hmr b (by simp [hb]))
         replace hE := hE'
         replace hI := hI.rebase
         clear hE' hmv hmr
         obtain rfl := Option.some.inj H1
         exact ⟨_, rfl, ⟨_, _, hx4, hr0, hn0, hE, hI.pick [17, 14, 0] 0 ⟨[⟨17, [], .v (.int .i64 (IntKind.i64.wrap (s4.1 - 1)))⟩, ⟨14, [], .v (.int .i64 s3.2)⟩, ⟨0, [], .v (.slice A0 n0 c0)⟩], [], [], [], none, none⟩ (by kernel_rfl)⟩⟩
        ·replace H1 := bif_f hc_145 H1
         refine wpIn_exit ?_
         refine then_exit ?_
         refine then_exit ?_
         obtain ⟨hE', hmv, hmr⟩ := Ep.rebase hE hI
         replace hx4 := Kd.keep _ hx4 (hmv _)
         replace hr0 := Row.keep hr0 (hmv _) (fun b hb => hmr b (by simp [hb]))
         replace hE := hE'
         replace hI := hI.rebase
         clear hE' hmv hmr
         obtain rfl := Option.some.inj H1
         exact .inl ⟨_, rfl, rfl, ⟨_, _, hx4, hr0, hn0, hE, hI.pick [17, 14, 0] 0 ⟨[⟨17, [], .v (.int .i64 s4.1)⟩, ⟨14, [], .v (.int .i64 s3.2)⟩, ⟨0, [], .v (.slice A0 n0 c0)⟩], [], [], [], none, none⟩ (by kernel_rfl)⟩⟩
       ·clear hI hE
        rintro s4 a w_174 ho ⟨ow_176, ns_175, hx4, hr0, hn0, hE, hI⟩
        subst ho
        replace H0 : (some s4.2 : Option ((List Wit_spot))) = _ := H0
        refine then_normal ?_
        obtain ⟨hE', hmv, hmr⟩ := Ep.rebase hE hI
        replace hx4 := Kd.keep _ hx4 (hmv _)
        replace hr0 := Row.keep hr0 (hmv _) (fun b hb => hmr b (by simp [hb]))
        replace hE := hE'
        replace hI := hI.rebase
        clear hE' hmv hmr
        refine wpIn_ret ?_
        refine then_ret ?_
        obtain rfl := Option.some.inj H0
        exact retG hI rfl rfl ⟨svL [], rfl, hE.keeps hI, Row.keep hr0 (hE.out hI) (fun _ _ => rfl), hn0⟩
     ·replace H0 := bif_f hc_92 H0
      refine wpIn_skip ?_
      refine then_normal ?_
      refine seq_region (live := [18, 0, 1, 2, 3, 4]) (orc := []) hF hI ⟨[⟨18, [], .v (.int .i64 (IntKind.i64.wrap (Int.fdiv (IntKind.u64.wrap (IntKind.i64.wrap (a1 + a3))) 2)))⟩, ⟨0, [], .v (.slice A0 n0 c0)⟩, ⟨1, [], .v (.int .i64 a1)⟩, ⟨2, [], .v (.int .i64 a2)⟩, ⟨3, [], .v (.int .i64 a3)⟩, ⟨4, [], .v (fnv96 x4 sv4)⟩], [], [], [], none, none⟩ [] (by kernel_rfl) trivial (fun ns_179 a w_180 hI _ => ?_)
      refine seq_region (live := [19, 18, 0, 1, 2, 3, 4]) (orc := []) hF hI ⟨[⟨19, [], .v (.int .i64 (IntKind.i64.wrap ((IntKind.i64.wrap (Int.fdiv (IntKind.u64.wrap (IntKind.i64.wrap (a1 + a3))) 2)) + a2)))⟩, ⟨18, [], .v (.int .i64 (IntKind.i64.wrap (Int.fdiv (IntKind.u64.wrap (IntKind.i64.wrap (a1 + a3))) 2)))⟩, ⟨0, [], .v (.slice A0 n0 c0)⟩, ⟨1, [], .v (.int .i64 a1)⟩, ⟨2, [], .v (.int .i64 a2)⟩, ⟨3, [], .v (.int .i64 a3)⟩, ⟨4, [], .v (fnv96 x4 sv4)⟩], [], [], [], none, none⟩ [] (by kernel_rfl) trivial (fun ns_181 a w_182 hI _ => ?_)
      refine seq_region (live := [19, 18, 0, 1, 2, 3, 4]) (orc := []) hF hI ⟨[⟨19, [], .v (.int .i64 (IntKind.i64.wrap ((IntKind.i64.wrap (Int.fdiv (IntKind.u64.wrap (IntKind.i64.wrap (a1 + a3))) 2)) + a2)))⟩, ⟨18, [], .v (.int .i64 (IntKind.i64.wrap (Int.fdiv (IntKind.u64.wrap (IntKind.i64.wrap (a1 + a3))) 2)))⟩, ⟨0, [], .v (.slice A0 n0 c0)⟩, ⟨1, [], .v (.int .i64 a1)⟩, ⟨2, [], .v (.int .i64 a2)⟩, ⟨3, [], .v (.int .i64 a3)⟩, ⟨4, [], .v (fnv96 x4 sv4)⟩], [], [], [], none, none⟩ [] (by kernel_rfl) trivial (fun ns_183 a w_184 hI _ => ?_)
      refine wpIn_seq ?_
      refine seq_region (live := [140, 19, 18, 0, 1, 2, 3, 4]) (orc := []) hF hI ⟨[⟨140, [], .v (.bool (decide (a2 > (IntKind.i64.wrap (Int.fdiv (IntKind.u64.wrap (IntKind.i64.wrap (a1 + a3))) 2)))))⟩, ⟨19, [], .v (.int .i64 (IntKind.i64.wrap ((IntKind.i64.wrap (Int.fdiv (IntKind.u64.wrap (IntKind.i64.wrap (a1 + a3))) 2)) + a2)))⟩, ⟨18, [], .v (.int .i64 (IntKind.i64.wrap (Int.fdiv (IntKind.u64.wrap (IntKind.i64.wrap (a1 + a3))) 2)))⟩, ⟨0, [], .v (.slice A0 n0 c0)⟩, ⟨1, [], .v (.int .i64 a1)⟩, ⟨2, [], .v (.int .i64 a2)⟩, ⟨3, [], .v (.int .i64 a3)⟩, ⟨4, [], .v (fnv96 x4 sv4)⟩], [], [], [], none, none⟩ [] (by kernel_rfl) trivial (fun ns_185 a w_186 hI _ => ?_)
      refine cond_merge hI (decide (a2 > (IntKind.i64.wrap (Int.fdiv (IntKind.u64.wrap (IntKind.i64.wrap (a1 + a3))) 2)))) rfl ⟨[⟨21, [], .v (.int .i64 (IntKind.i64.wrap (Int.fdiv (IntKind.u64.wrap (IntKind.i64.wrap (a1 + a3))) 2)))⟩, ⟨20, [], .v (.int .i64 (IntKind.i64.wrap ((IntKind.i64.wrap ((IntKind.i64.wrap (Int.fdiv (IntKind.u64.wrap (IntKind.i64.wrap (a1 + a3))) 2)) + a2)) - a3)))⟩, ⟨19, [], .v (.int .i64 (IntKind.i64.wrap ((IntKind.i64.wrap (Int.fdiv (IntKind.u64.wrap (IntKind.i64.wrap (a1 + a3))) 2)) + a2)))⟩, ⟨18, [], .v (.int .i64 (IntKind.i64.wrap (Int.fdiv (IntKind.u64.wrap (IntKind.i64.wrap (a1 + a3))) 2)))⟩, ⟨0, [], .v (.slice A0 n0 c0)⟩, ⟨1, [], .v (.int .i64 a1)⟩, ⟨2, [], .v (.int .i64 a2)⟩, ⟨3, [], .v (.int .i64 a3)⟩, ⟨4, [], .v (fnv96 x4 sv4)⟩], [], [], [], none, none⟩ ⟨[⟨21, [], .v (.int .i64 a2)⟩, ⟨20, [], .v (.int .i64 a1)⟩, ⟨19, [], .v (.int .i64 (IntKind.i64.wrap ((IntKind.i64.wrap (Int.fdiv (IntKind.u64.wrap (IntKind.i64.wrap (a1 + a3))) 2)) + a2)))⟩, ⟨18, [], .v (.int .i64 (IntKind.i64.wrap (Int.fdiv (IntKind.u64.wrap (IntKind.i64.wrap (a1 + a3))) 2)))⟩, ⟨0, [], .v (.slice A0 n0 c0)⟩, ⟨1, [], .v (.int .i64 a1)⟩, ⟨2, [], .v (.int .i64 a2)⟩, ⟨3, [], .v (.int .i64 a3)⟩, ⟨4, [], .v (fnv96 x4 sv4)⟩], [], [], [], none, none⟩ (fun b => ⟨[⟨21, [], .v (.int .i64 (bif b then (IntKind.i64.wrap (Int.fdiv (IntKind.u64.wrap (IntKind.i64.wrap (a1 + a3))) 2)) else a2))⟩, ⟨20, [], .v (.int .i64 (bif b then (IntKind.i64.wrap ((IntKind.i64.wrap ((IntKind.i64.wrap (Int.fdiv (IntKind.u64.wrap (IntKind.i64.wrap (a1 + a3))) 2)) + a2)) - a3)) else a1))⟩, ⟨19, [], .v (.int .i64 (IntKind.i64.wrap ((IntKind.i64.wrap (Int.fdiv (IntKind.u64.wrap (IntKind.i64.wrap (a1 + a3))) 2)) + a2)))⟩, ⟨18, [], .v (.int .i64 (IntKind.i64.wrap (Int.fdiv (IntKind.u64.wrap (IntKind.i64.wrap (a1 + a3))) 2)))⟩, ⟨0, [], .v (.slice A0 n0 c0)⟩, ⟨1, [], .v (.int .i64 a1)⟩, ⟨2, [], .v (.int .i64 a2)⟩, ⟨3, [], .v (.int .i64 a3)⟩, ⟨4, [], .v (fnv96 x4 sv4)⟩], [], [], [], none, none⟩) (fun b => by cases b <;> rfl) (fun hc_187 => ?_) (fun hc_187 => ?_) (fun ns_196 a w_197 hI => ?_)
      ·refine seq_region (live := [20, 19, 18, 0, 1, 2, 3, 4]) (orc := []) hF hI ⟨[⟨20, [], .v (.int .i64 (IntKind.i64.wrap ((IntKind.i64.wrap ((IntKind.i64.wrap (Int.fdiv (IntKind.u64.wrap (IntKind.i64.wrap (a1 + a3))) 2)) + a2)) - a3)))⟩, ⟨19, [], .v (.int .i64 (IntKind.i64.wrap ((IntKind.i64.wrap (Int.fdiv (IntKind.u64.wrap (IntKind.i64.wrap (a1 + a3))) 2)) + a2)))⟩, ⟨18, [], .v (.int .i64 (IntKind.i64.wrap (Int.fdiv (IntKind.u64.wrap (IntKind.i64.wrap (a1 + a3))) 2)))⟩, ⟨0, [], .v (.slice A0 n0 c0)⟩, ⟨1, [], .v (.int .i64 a1)⟩, ⟨2, [], .v (.int .i64 a2)⟩, ⟨3, [], .v (.int .i64 a3)⟩, ⟨4, [], .v (fnv96 x4 sv4)⟩], [], [], [], none, none⟩ [] (by kernel_rfl) trivial (fun ns_188 a w_189 hI _ => ?_)
       refine region_ (live := [21, 20, 19, 18, 0, 1, 2, 3, 4]) (orc := []) hF hI ⟨[⟨21, [], .v (.int .i64 (IntKind.i64.wrap (Int.fdiv (IntKind.u64.wrap (IntKind.i64.wrap (a1 + a3))) 2)))⟩, ⟨20, [], .v (.int .i64 (IntKind.i64.wrap ((IntKind.i64.wrap ((IntKind.i64.wrap (Int.fdiv (IntKind.u64.wrap (IntKind.i64.wrap (a1 + a3))) 2)) + a2)) - a3)))⟩, ⟨19, [], .v (.int .i64 (IntKind.i64.wrap ((IntKind.i64.wrap (Int.fdiv (IntKind.u64.wrap (IntKind.i64.wrap (a1 + a3))) 2)) + a2)))⟩, ⟨18, [], .v (.int .i64 (IntKind.i64.wrap (Int.fdiv (IntKind.u64.wrap (IntKind.i64.wrap (a1 + a3))) 2)))⟩, ⟨0, [], .v (.slice A0 n0 c0)⟩, ⟨1, [], .v (.int .i64 a1)⟩, ⟨2, [], .v (.int .i64 a2)⟩, ⟨3, [], .v (.int .i64 a3)⟩, ⟨4, [], .v (fnv96 x4 sv4)⟩], [], [], [], none, none⟩ [] (by kernel_rfl) trivial (fun ns_190 a w_191 hI _ => ?_)
       refine then_normal ?_
       exact ⟨_, hI.pick [21, 20, 19, 18, 0, 1, 2, 3, 4] 0 ⟨[⟨21, [], .v (.int .i64 (IntKind.i64.wrap (Int.fdiv (IntKind.u64.wrap (IntKind.i64.wrap (a1 + a3))) 2)))⟩, ⟨20, [], .v (.int .i64 (IntKind.i64.wrap ((IntKind.i64.wrap ((IntKind.i64.wrap (Int.fdiv (IntKind.u64.wrap (IntKind.i64.wrap (a1 + a3))) 2)) + a2)) - a3)))⟩, ⟨19, [], .v (.int .i64 (IntKind.i64.wrap ((IntKind.i64.wrap (Int.fdiv (IntKind.u64.wrap (IntKind.i64.wrap (a1 + a3))) 2)) + a2)))⟩, ⟨18, [], .v (.int .i64 (IntKind.i64.wrap (Int.fdiv (IntKind.u64.wrap (IntKind.i64.wrap (a1 + a3))) 2)))⟩, ⟨0, [], .v (.slice A0 n0 c0)⟩, ⟨1, [], .v (.int .i64 a1)⟩, ⟨2, [], .v (.int .i64 a2)⟩, ⟨3, [], .v (.int .i64 a3)⟩, ⟨4, [], .v (fnv96 x4 sv4)⟩], [], [], [], none, none⟩ (by kernel_rfl)⟩
      ·refine seq_region (live := [20, 19, 18, 0, 1, 2, 3, 4]) (orc := []) hF hI ⟨[⟨20, [], .v (.int .i64 a1)⟩, ⟨19, [], .v (.int .i64 (IntKind.i64.wrap ((IntKind.i64.wrap (Int.fdiv (IntKind.u64.wrap (IntKind.i64.wrap (a1 + a3))) 2)) + a2)))⟩, ⟨18, [], .v (.int .i64 (IntKind.i64.wrap (Int.fdiv (IntKind.u64.wrap (IntKind.i64.wrap (a1 + a3))) 2)))⟩, ⟨0, [], .v (.slice A0 n0 c0)⟩, ⟨1, [], .v (.int .i64 a1)⟩, ⟨2, [], .v (.int .i64 a2)⟩, ⟨3, [], .v (.int .i64 a3)⟩, ⟨4, [], .v (fnv96 x4 sv4)⟩], [], [], [], none, none⟩ [] (by kernel_rfl) trivial (fun ns_192 a w_193 hI _ => ?_)
       refine region_ (live := [21, 20, 19, 18, 0, 1, 2, 3, 4]) (orc := []) hF hI ⟨[⟨21, [], .v (.int .i64 a2)⟩, ⟨20, [], .v (.int .i64 a1)⟩, ⟨19, [], .v (.int .i64 (IntKind.i64.wrap ((IntKind.i64.wrap (Int.fdiv (IntKind.u64.wrap (IntKind.i64.wrap (a1 + a3))) 2)) + a2)))⟩, ⟨18, [], .v (.int .i64 (IntKind.i64.wrap (Int.fdiv (IntKind.u64.wrap (IntKind.i64.wrap (a1 + a3))) 2)))⟩, ⟨0, [], .v (.slice A0 n0 c0)⟩, ⟨1, [], .v (.int .i64 a1)⟩, ⟨2, [], .v (.int .i64 a2)⟩, ⟨3, [], .v (.int .i64 a3)⟩, ⟨4, [], .v (fnv96 x4 sv4)⟩], [], [], [], none, none⟩ [] (by kernel_rfl) trivial (fun ns_194 a w_195 hI _ => ?_)
       refine then_normal ?_
       exact ⟨_, hI.pick [21, 20, 19, 18, 0, 1, 2, 3, 4] 0 ⟨[⟨21, [], .v (.int .i64 a2)⟩, ⟨20, [], .v (.int .i64 a1)⟩, ⟨19, [], .v (.int .i64 (IntKind.i64.wrap ((IntKind.i64.wrap (Int.fdiv (IntKind.u64.wrap (IntKind.i64.wrap (a1 + a3))) 2)) + a2)))⟩, ⟨18, [], .v (.int .i64 (IntKind.i64.wrap (Int.fdiv (IntKind.u64.wrap (IntKind.i64.wrap (a1 + a3))) 2)))⟩, ⟨0, [], .v (.slice A0 n0 c0)⟩, ⟨1, [], .v (.int .i64 a1)⟩, ⟨2, [], .v (.int .i64 a2)⟩, ⟨3, [], .v (.int .i64 a3)⟩, ⟨4, [], .v (fnv96 x4 sv4)⟩], [], [], [], none, none⟩ (by kernel_rfl)⟩
      ·refine then_normal ?_
       refine seq_region (live := [22, 21, 20, 19, 18, 0, 1, 2, 3, 4]) (orc := []) hF hI ⟨[⟨22, [], .v (.int .i64 (IntKind.i64.wrap ((IntKind.i64.wrap ((IntKind.i64.wrap (Int.fdiv (IntKind.u64.wrap (IntKind.i64.wrap (a1 + a3))) 2)) + a2)) - 1)))⟩, ⟨21, [], .v (.int .i64 (bif decide (a2 > (IntKind.i64.wrap (Int.fdiv (IntKind.u64.wrap (IntKind.i64.wrap (a1 + a3))) 2))) then (IntKind.i64.wrap (Int.fdiv (IntKind.u64.wrap (IntKind.i64.wrap (a1 + a3))) 2)) else a2))⟩, ⟨20, [], .v (.int .i64 (bif decide (a2 > (IntKind.i64.wrap (Int.fdiv (IntKind.u64.wrap (IntKind.i64.wrap (a1 + a3))) 2))) then (IntKind.i64.wrap ((IntKind.i64.wrap ((IntKind.i64.wrap (Int.fdiv (IntKind.u64.wrap (IntKind.i64.wrap (a1 + a3))) 2)) + a2)) - a3)) else a1))⟩, ⟨19, [], .v (.int .i64 (IntKind.i64.wrap ((IntKind.i64.wrap (Int.fdiv (IntKind.u64.wrap (IntKind.i64.wrap (a1 + a3))) 2)) + a2)))⟩, ⟨18, [], .v (.int .i64 (IntKind.i64.wrap (Int.fdiv (IntKind.u64.wrap (IntKind.i64.wrap (a1 + a3))) 2)))⟩, ⟨0, [], .v (.slice A0 n0 c0)⟩, ⟨1, [], .v (.int .i64 a1)⟩, ⟨2, [], .v (.int .i64 a2)⟩, ⟨3, [], .v (.int .i64 a3)⟩, ⟨4, [], .v (fnv96 x4 sv4)⟩], [], [], [], none, none⟩ [] (by kernel_rfl) trivial (fun ns_214 a w_215 hI _ => ?_)
       refine wpIn_seq ?_
       obtain ⟨o_253, hL_254, H0⟩ := bind_some H0
       refine block_loop (fun (s5 : Int × Int) a w_343 => ∃ ns, St w [] 220 ⟨[⟨22, [], .v (.int .i64 (IntKind.i64.wrap ((IntKind.i64.wrap ((IntKind.i64.wrap (Int.fdiv (IntKind.u64.wrap (IntKind.i64.wrap (a1 + a3))) 2)) + a2)) - 1)))⟩, ⟨21, [], .v (.int .i64 s5.1)⟩, ⟨20, [], .v (.int .i64 s5.2)⟩, ⟨19, [], .v (.int .i64 (IntKind.i64.wrap ((IntKind.i64.wrap (Int.fdiv (IntKind.u64.wrap (IntKind.i64.wrap (a1 + a3))) 2)) + a2)))⟩, ⟨18, [], .v (.int .i64 (IntKind.i64.wrap (Int.fdiv (IntKind.u64.wrap (IntKind.i64.wrap (a1 + a3))) 2)))⟩, ⟨0, [], .v (.slice A0 n0 c0)⟩, ⟨1, [], .v (.int .i64 a1)⟩, ⟨2, [], .v (.int .i64 a2)⟩, ⟨3, [], .v (.int .i64 a3)⟩, ⟨4, [], .v (fnv96 x4 sv4)⟩], [], [], [], none, none⟩ ns a w_343) ((bif decide (a2 > (IntKind.i64.wrap (Int.fdiv (IntKind.u64.wrap (IntKind.i64.wrap (a1 + a3))) 2))) then (IntKind.i64.wrap (Int.fdiv (IntKind.u64.wrap (IntKind.i64.wrap (a1 + a3))) 2)) else a2), (bif decide (a2 > (IntKind.i64.wrap (Int.fdiv (IntKind.u64.wrap (IntKind.i64.wrap (a1 + a3))) 2))) then (IntKind.i64.wrap ((IntKind.i64.wrap ((IntKind.i64.wrap (Int.fdiv (IntKind.u64.wrap (IntKind.i64.wrap (a1 + a3))) 2)) + a2)) - a3)) else a1)) hL_254 ⟨_, hI.pick [22, 21, 20, 19, 18, 0, 1, 2, 3, 4] 0 ⟨[⟨22, [], .v (.int .i64 (IntKind.i64.wrap ((IntKind.i64.wrap ((IntKind.i64.wrap (Int.fdiv (IntKind.u64.wrap (IntKind.i64.wrap (a1 + a3))) 2)) + a2)) - 1)))⟩, ⟨21, [], .v (.int .i64 (bif decide (a2 > (IntKind.i64.wrap (Int.fdiv (IntKind.u64.wrap (IntKind.i64.wrap (a1 + a3))) 2))) then (IntKind.i64.wrap (Int.fdiv (IntKind.u64.wrap (IntKind.i64.wrap (a1 + a3))) 2)) else a2))⟩, ⟨20, [], .v (.int .i64 (bif decide (a2 > (IntKind.i64.wrap (Int.fdiv (IntKind.u64.wrap (IntKind.i64.wrap (a1 + a3))) 2))) then (IntKind.i64.wrap ((IntKind.i64.wrap ((IntKind.i64.wrap (Int.fdiv (IntKind.u64.wrap (IntKind.i64.wrap (a1 + a3))) 2)) + a2)) - a3)) else a1))⟩, ⟨19, [], .v (.int .i64 (IntKind.i64.wrap ((IntKind.i64.wrap (Int.fdiv (IntKind.u64.wrap (IntKind.i64.wrap (a1 + a3))) 2)) + a2)))⟩, ⟨18, [], .v (.int .i64 (IntKind.i64.wrap (Int.fdiv (IntKind.u64.wrap (IntKind.i64.wrap (a1 + a3))) 2)))⟩, ⟨0, [], .v (.slice A0 n0 c0)⟩, ⟨1, [], .v (.int .i64 a1)⟩, ⟨2, [], .v (.int .i64 a2)⟩, ⟨3, [], .v (.int .i64 a3)⟩, ⟨4, [], .v (fnv96 x4 sv4)⟩], [], [], [], none, none⟩ (by kernel_rfl)⟩ ?_ ?_
       ·clear hI
        rintro s5 a w_216 ⟨ns_217, hI⟩ r5 H1
        unfold G_wit_spot_56.b5 at H1
        refine wpIn_seq ?_
        refine seq_region (live := [151, 22, 21, 20, 19, 18, 0, 1, 2, 3, 4]) (orc := []) hF hI ⟨[⟨151, [], .v (.bool (decide (s5.2 < s5.1)))⟩, ⟨22, [], .v (.int .i64 (IntKind.i64.wrap ((IntKind.i64.wrap ((IntKind.i64.wrap (Int.fdiv (IntKind.u64.wrap (IntKind.i64.wrap (a1 + a3))) 2)) + a2)) - 1)))⟩, ⟨21, [], .v (.int .i64 s5.1)⟩, ⟨20, [], .v (.int .i64 s5.2)⟩, ⟨19, [], .v (.int .i64 (IntKind.i64.wrap ((IntKind.i64.wrap (Int.fdiv (IntKind.u64.wrap (IntKind.i64.wrap (a1 + a3))) 2)) + a2)))⟩, ⟨18, [], .v (.int .i64 (IntKind.i64.wrap (Int.fdiv (IntKind.u64.wrap (IntKind.i64.wrap (a1 + a3))) 2)))⟩, ⟨0, [], .v (.slice A0 n0 c0)⟩, ⟨1, [], .v (.int .i64 a1)⟩, ⟨2, [], .v (.int .i64 a2)⟩, ⟨3, [], .v (.int .i64 a3)⟩, ⟨4, [], .v (fnv96 x4 sv4)⟩], [], [], [], none, none⟩ [] (by kernel_rfl) trivial (fun ns_218 a w_219 hI _ => ?_)
        refine cond_ hI (decide (s5.2 < s5.1)) rfl (fun hc_220 => ?_) (fun hc_220 => ?_)
        ·replace H1 := bif_t hc_220 H1
         refine wpIn_skip ?_
         refine then_normal ?_
         refine wpIn_block ?_
         refine seq_region (live := [23, 22, 21, 20, 19, 18, 0, 1, 2, 3, 4]) (orc := []) hF hI ⟨[⟨23, [], .v (.int .i64 (IntKind.i64.wrap (Int.fdiv (IntKind.u64.wrap (IntKind.i64.wrap (s5.2 + s5.1))) 2)))⟩, ⟨22, [], .v (.int .i64 (IntKind.i64.wrap ((IntKind.i64.wrap ((IntKind.i64.wrap (Int.fdiv (IntKind.u64.wrap (IntKind.i64.wrap (a1 + a3))) 2)) + a2)) - 1)))⟩, ⟨21, [], .v (.int .i64 s5.1)⟩, ⟨20, [], .v (.int .i64 s5.2)⟩, ⟨19, [], .v (.int .i64 (IntKind.i64.wrap ((IntKind.i64.wrap (Int.fdiv (IntKind.u64.wrap (IntKind.i64.wrap (a1 + a3))) 2)) + a2)))⟩, ⟨18, [], .v (.int .i64 (IntKind.i64.wrap (Int.fdiv (IntKind.u64.wrap (IntKind.i64.wrap (a1 + a3))) 2)))⟩, ⟨0, [], .v (.slice A0 n0 c0)⟩, ⟨1, [], .v (.int .i64 a1)⟩, ⟨2, [], .v (.int .i64 a2)⟩, ⟨3, [], .v (.int .i64 a3)⟩, ⟨4, [], .v (fnv96 x4 sv4)⟩], [], [], [], none, none⟩ [] (by kernel_rfl) trivial (fun ns_221 a w_222 hI _ => ?_)
         refine wpIn_seq ?_
         obtain ⟨hN_223, H1⟩ := req_some H1
         obtain ⟨sv_224, hE_226, hA_225⟩ := Row.elB hr0 hE (by simp) (IntKind.i64.wrap ((IntKind.i64.wrap ((IntKind.i64.wrap ((IntKind.i64.wrap (Int.fdiv (IntKind.u64.wrap (IntKind.i64.wrap (a1 + a3))) 2)) + a2)) - 1)) - (IntKind.i64.wrap (Int.fdiv (IntKind.u64.wrap (IntKind.i64.wrap (s5.2 + s5.1))) 2)))) true (fun hg => by rw [hn0]; exact (fun _ => hN_223) hg)
         obtain ⟨hN_227, H1⟩ := req_some H1
         obtain ⟨sv_228, hE_230, hA_229⟩ := Row.elB hr0 hE (by simp) (IntKind.i64.wrap (Int.fdiv (IntKind.u64.wrap (IntKind.i64.wrap (s5.2 + s5.1))) 2)) true (fun hg => by rw [hn0]; exact (fun _ => hN_227) hg)
         obtain ⟨t_231, hG_232, H1⟩ := bind_some H1
         refine drawn_ (live := [171, 23, 22, 21, 20, 19, 18, 0, 1, 2, 3, 4]) (orc := [(kd_Wit_spot).cells (rd l0 (IntKind.i64.wrap ((IntKind.i64.wrap ((IntKind.i64.wrap ((IntKind.i64.wrap (Int.fdiv (IntKind.u64.wrap (IntKind.i64.wrap (a1 + a3))) 2)) + a2)) - 1)) - (IntKind.i64.wrap (Int.fdiv (IntKind.u64.wrap (IntKind.i64.wrap (s5.2 + s5.1))) 2))))) sv_224, (kd_Wit_spot).cells (rd l0 (IntKind.i64.wrap (Int.fdiv (IntKind.u64.wrap (IntKind.i64.wrap (s5.2 + s5.1))) 2))) sv_228, [.int .i64 t_231]]) hF hI ⟨[⟨171, [], .v (.bool (!(decide (t_231 < 0))))⟩, ⟨23, [], .v (.int .i64 (IntKind.i64.wrap (Int.fdiv (IntKind.u64.wrap (IntKind.i64.wrap (s5.2 + s5.1))) 2)))⟩, ⟨22, [], .v (.int .i64 (IntKind.i64.wrap ((IntKind.i64.wrap ((IntKind.i64.wrap (Int.fdiv (IntKind.u64.wrap (IntKind.i64.wrap (a1 + a3))) 2)) + a2)) - 1)))⟩, ⟨21, [], .v (.int .i64 s5.1)⟩, ⟨20, [], .v (.int .i64 s5.2)⟩, ⟨19, [], .v (.int .i64 (IntKind.i64.wrap ((IntKind.i64.wrap (Int.fdiv (IntKind.u64.wrap (IntKind.i64.wrap (a1 + a3))) 2)) + a2)))⟩, ⟨18, [], .v (.int .i64 (IntKind.i64.wrap (Int.fdiv (IntKind.u64.wrap (IntKind.i64.wrap (a1 + a3))) 2)))⟩, ⟨0, [], .v (.slice A0 n0 c0)⟩, ⟨1, [], .v (.int .i64 a1)⟩, ⟨2, [], .v (.int .i64 a2)⟩, ⟨3, [], .v (.int .i64 a3)⟩, ⟨4, [], .v (fnv96 x4 sv4)⟩], [], [], [], none, none⟩ [.need true ((0 : Int) ≤ (IntKind.i64.wrap ((IntKind.i64.wrap ((IntKind.i64.wrap ((IntKind.i64.wrap (Int.fdiv (IntKind.u64.wrap (IntKind.i64.wrap (a1 + a3))) 2)) + a2)) - 1)) - (IntKind.i64.wrap (Int.fdiv (IntKind.u64.wrap (IntKind.i64.wrap (s5.2 + s5.1))) 2)))) ∧ (IntKind.i64.wrap ((IntKind.i64.wrap ((IntKind.i64.wrap ((IntKind.i64.wrap (Int.fdiv (IntKind.u64.wrap (IntKind.i64.wrap (a1 + a3))) 2)) + a2)) - 1)) - (IntKind.i64.wrap (Int.fdiv (IntKind.u64.wrap (IntKind.i64.wrap (s5.2 + s5.1))) 2)))) < (n0 : Int)), .need true (A0 = some (adr A0)), .cell true ((adr A0).add (((IntKind.i64.wrap ((IntKind.i64.wrap ((IntKind.i64.wrap ((IntKind.i64.wrap (Int.fdiv (IntKind.u64.wrap (IntKind.i64.wrap (a1 + a3))) 2)) + a2)) - 1)) - (IntKind.i64.wrap (Int.fdiv (IntKind.u64.wrap (IntKind.i64.wrap (s5.2 + s5.1))) 2)))) : Int).toNat * 4)) ((kd_Wit_spot).cells (rd l0 (IntKind.i64.wrap ((IntKind.i64.wrap ((IntKind.i64.wrap ((IntKind.i64.wrap (Int.fdiv (IntKind.u64.wrap (IntKind.i64.wrap (a1 + a3))) 2)) + a2)) - 1)) - (IntKind.i64.wrap (Int.fdiv (IntKind.u64.wrap (IntKind.i64.wrap (s5.2 + s5.1))) 2))))) sv_224), .need true ((0 : Int) ≤ (IntKind.i64.wrap (Int.fdiv (IntKind.u64.wrap (IntKind.i64.wrap (s5.2 + s5.1))) 2)) ∧ (IntKind.i64.wrap (Int.fdiv (IntKind.u64.wrap (IntKind.i64.wrap (s5.2 + s5.1))) 2)) < (n0 : Int)), .need true (A0 = some (adr A0)), .cell true ((adr A0).add (((IntKind.i64.wrap (Int.fdiv (IntKind.u64.wrap (IntKind.i64.wrap (s5.2 + s5.1))) 2)) : Int).toNat * 4)) ((kd_Wit_spot).cells (rd l0 (IntKind.i64.wrap (Int.fdiv (IntKind.u64.wrap (IntKind.i64.wrap (s5.2 + s5.1))) 2))) sv_228), .call true (fid96 x4) (([.agg ((kd_Wit_spot).cells (rd l0 (IntKind.i64.wrap ((IntKind.i64.wrap ((IntKind.i64.wrap ((IntKind.i64.wrap (Int.fdiv (IntKind.u64.wrap (IntKind.i64.wrap (a1 + a3))) 2)) + a2)) - 1)) - (IntKind.i64.wrap (Int.fdiv (IntKind.u64.wrap (IntKind.i64.wrap (s5.2 + s5.1))) 2))))) (svL [])).toArray, .agg ((kd_Wit_spot).cells (rd l0 (IntKind.i64.wrap (Int.fdiv (IntKind.u64.wrap (IntKind.i64.wrap (s5.2 + s5.1))) 2))) (svL [])).toArray] : List Value) ++ (fca96 x4 sv4).toList) (.int .i64 t_231)] (by kernel_rfl) (by kernel_rfl) (by kernel_rfl) ⟨ob_inb (fun _ => hN_223), hA_225, ob_elR hE_226 0 ((kd_Wit_spot).cells (rd l0 (IntKind.i64.wrap ((IntKind.i64.wrap ((IntKind.i64.wrap ((IntKind.i64.wrap (Int.fdiv (IntKind.u64.wrap (IntKind.i64.wrap (a1 + a3))) 2)) + a2)) - 1)) - (IntKind.i64.wrap (Int.fdiv (IntKind.u64.wrap (IntKind.i64.wrap (s5.2 + s5.1))) 2))))) sv_224) rfl, ob_inb (fun _ => hN_227), hA_229, ob_elR hE_230 0 ((kd_Wit_spot).cells (rd l0 (IntKind.i64.wrap (Int.fdiv (IntKind.u64.wrap (IntKind.i64.wrap (s5.2 + s5.1))) 2))) sv_228) rfl, ob_call (Fn96.ent x4) (fun hg wz hk => Fn96.calls x4 (rd l0 (IntKind.i64.wrap ((IntKind.i64.wrap ((IntKind.i64.wrap ((IntKind.i64.wrap (Int.fdiv (IntKind.u64.wrap (IntKind.i64.wrap (a1 + a3))) 2)) + a2)) - 1)) - (IntKind.i64.wrap (Int.fdiv (IntKind.u64.wrap (IntKind.i64.wrap (s5.2 + s5.1))) 2))))) (rd l0 (IntKind.i64.wrap (Int.fdiv (IntKind.u64.wrap (IntKind.i64.wrap (s5.2 + s5.1))) 2))) sv4 (svL []) (svL []) wz (S := fun _ => True) (Kd.any _ (Kd.keep kdF96 hx4 (Lo.on hk))) (Kd.any _ (Kd.keep kd_Wit_spot (contI (S := Lo S w w [] [rb A0]) (w := w) (d := kd_Wit_spot) (x := (rd l0 (IntKind.i64.wrap ((IntKind.i64.wrap ((IntKind.i64.wrap ((IntKind.i64.wrap (Int.fdiv (IntKind.u64.wrap (IntKind.i64.wrap (a1 + a3))) 2)) + a2)) - 1)) - (IntKind.i64.wrap (Int.fdiv (IntKind.u64.wrap (IntKind.i64.wrap (s5.2 + s5.1))) 2)))))) (sv := (svL [])) trivial) (Lo.on hk))) (Kd.any _ (Kd.keep kd_Wit_spot (contI (S := Lo S w w [] [rb A0]) (w := w) (d := kd_Wit_spot) (x := (rd l0 (IntKind.i64.wrap (Int.fdiv (IntKind.u64.wrap (IntKind.i64.wrap (s5.2 + s5.1))) 2)))) (sv := (svL [])) trivial) (Lo.on hk))) _ hG_232), trivial⟩ (fun a w_233 hI => ?_)
         refine then_normal ?_
         refine cond_merge hI ((!(decide (t_231 < 0)))) rfl ⟨[⟨20, [], .v (.int .i64 (IntKind.i64.wrap ((IntKind.i64.wrap (Int.fdiv (IntKind.u64.wrap (IntKind.i64.wrap (s5.2 + s5.1))) 2)) + 1)))⟩, ⟨22, [], .v (.int .i64 (IntKind.i64.wrap ((IntKind.i64.wrap ((IntKind.i64.wrap (Int.fdiv (IntKind.u64.wrap (IntKind.i64.wrap (a1 + a3))) 2)) + a2)) - 1)))⟩, ⟨21, [], .v (.int .i64 s5.1)⟩, ⟨19, [], .v (.int .i64 (IntKind.i64.wrap ((IntKind.i64.wrap (Int.fdiv (IntKind.u64.wrap (IntKind.i64.wrap (a1 + a3))) 2)) + a2)))⟩, ⟨18, [], .v (.int .i64 (IntKind.i64.wrap (Int.fdiv (IntKind.u64.wrap (IntKind.i64.wrap (a1 + a3))) 2)))⟩, ⟨0, [], .v (.slice A0 n0 c0)⟩, ⟨1, [], .v (.int .i64 a1)⟩, ⟨2, [], .v (.int .i64 a2)⟩, ⟨3, [], .v (.int .i64 a3)⟩, ⟨4, [], .v (fnv96 x4 sv4)⟩], [], [], [], none, none⟩ ⟨[⟨20, [], .v (.int .i64 s5.2)⟩, ⟨22, [], .v (.int .i64 (IntKind.i64.wrap ((IntKind.i64.wrap ((IntKind.i64.wrap (Int.fdiv (IntKind.u64.wrap (IntKind.i64.wrap (a1 + a3))) 2)) + a2)) - 1)))⟩, ⟨21, [], .v (.int .i64 (IntKind.i64.wrap (Int.fdiv (IntKind.u64.wrap (IntKind.i64.wrap (s5.2 + s5.1))) 2)))⟩, ⟨19, [], .v (.int .i64 (IntKind.i64.wrap ((IntKind.i64.wrap (Int.fdiv (IntKind.u64.wrap (IntKind.i64.wrap (a1 + a3))) 2)) + a2)))⟩, ⟨18, [], .v (.int .i64 (IntKind.i64.wrap (Int.fdiv (IntKind.u64.wrap (IntKind.i64.wrap (a1 + a3))) 2)))⟩, ⟨0, [], .v (.slice A0 n0 c0)⟩, ⟨1, [], .v (.int .i64 a1)⟩, ⟨2, [], .v (.int .i64 a2)⟩, ⟨3, [], .v (.int .i64 a3)⟩, ⟨4, [], .v (fnv96 x4 sv4)⟩], [], [], [], none, none⟩ (fun b => ⟨[⟨20, [], .v (.int .i64 (bif b then (IntKind.i64.wrap ((IntKind.i64.wrap (Int.fdiv (IntKind.u64.wrap (IntKind.i64.wrap (s5.2 + s5.1))) 2)) + 1)) else s5.2))⟩, ⟨22, [], .v (.int .i64 (IntKind.i64.wrap ((IntKind.i64.wrap ((IntKind.i64.wrap (Int.fdiv (IntKind.u64.wrap (IntKind.i64.wrap (a1 + a3))) 2)) + a2)) - 1)))⟩, ⟨21, [], .v (.int .i64 (bif b then s5.1 else (IntKind.i64.wrap (Int.fdiv (IntKind.u64.wrap (IntKind.i64.wrap (s5.2 + s5.1))) 2))))⟩, ⟨19, [], .v (.int .i64 (IntKind.i64.wrap ((IntKind.i64.wrap (Int.fdiv (IntKind.u64.wrap (IntKind.i64.wrap (a1 + a3))) 2)) + a2)))⟩, ⟨18, [], .v (.int .i64 (IntKind.i64.wrap (Int.fdiv (IntKind.u64.wrap (IntKind.i64.wrap (a1 + a3))) 2)))⟩, ⟨0, [], .v (.slice A0 n0 c0)⟩, ⟨1, [], .v (.int .i64 a1)⟩, ⟨2, [], .v (.int .i64 a2)⟩, ⟨3, [], .v (.int .i64 a3)⟩, ⟨4, [], .v (fnv96 x4 sv4)⟩], [], [], [], none, none⟩) (fun b => by cases b <;> rfl) (fun hc_234 => ?_) (fun hc_234 => ?_) (fun ns_239 a w_240 hI => ?_)
         ·refine region_ (live := [20, 22, 21, 19, 18, 0, 1, 2, 3, 4]) (orc := []) hF hI ⟨[⟨20, [], .v (.int .i64 (IntKind.i64.wrap ((IntKind.i64.wrap (Int.fdiv (IntKind.u64.wrap (IntKind.i64.wrap (s5.2 + s5.1))) 2)) + 1)))⟩, ⟨22, [], .v (.int .i64 (IntKind.i64.wrap ((IntKind.i64.wrap ((IntKind.i64.wrap (Int.fdiv (IntKind.u64.wrap (IntKind.i64.wrap (a1 + a3))) 2)) + a2)) - 1)))⟩, ⟨21, [], .v (.int .i64 s5.1)⟩, ⟨19, [], .v (.int .i64 (IntKind.i64.wrap ((IntKind.i64.wrap (Int.fdiv (IntKind.u64.wrap (IntKind.i64.wrap (a1 + a3))) 2)) + a2)))⟩, ⟨18, [], .v (.int .i64 (IntKind.i64.wrap (Int.fdiv (IntKind.u64.wrap (IntKind.i64.wrap (a1 + a3))) 2)))⟩, ⟨0, [], .v (.slice A0 n0 c0)⟩, ⟨1, [], .v (.int .i64 a1)⟩, ⟨2, [], .v (.int .i64 a2)⟩, ⟨3, [], .v (.int .i64 a3)⟩, ⟨4, [], .v (fnv96 x4 sv4)⟩], [], [], [], none, none⟩ [] (by kernel_rfl) trivial (fun ns_235 a w_236 hI _ => ?_)
          refine then_normal ?_
          exact ⟨_, hI.pick [20, 22, 21, 19, 18, 0, 1, 2, 3, 4] 0 ⟨[⟨20, [], .v (.int .i64 (IntKind.i64.wrap ((IntKind.i64.wrap (Int.fdiv (IntKind.u64.wrap (IntKind.i64.wrap (s5.2 + s5.1))) 2)) + 1)))⟩, ⟨22, [], .v (.int .i64 (IntKind.i64.wrap ((IntKind.i64.wrap ((IntKind.i64.wrap (Int.fdiv (IntKind.u64.wrap (IntKind.i64.wrap (a1 + a3))) 2)) + a2)) - 1)))⟩, ⟨21, [], .v (.int .i64 s5.1)⟩, ⟨19, [], .v (.int .i64 (IntKind.i64.wrap ((IntKind.i64.wrap (Int.fdiv (IntKind.u64.wrap (IntKind.i64.wrap (a1 + a3))) 2)) + a2)))⟩, ⟨18, [], .v (.int .i64 (IntKind.i64.wrap (Int.fdiv (IntKind.u64.wrap (IntKind.i64.wrap (a1 + a3))) 2)))⟩, ⟨0, [], .v (.slice A0 n0 c0)⟩, ⟨1, [], .v (.int .i64 a1)⟩, ⟨2, [], .v (.int .i64 a2)⟩, ⟨3, [], .v (.int .i64 a3)⟩, ⟨4, [], .v (fnv96 x4 sv4)⟩], [], [], [], none, none⟩ (by kernel_rfl)⟩
         ·refine region_ (live := [21, 22, 20, 19, 18, 0, 1, 2, 3, 4]) (orc := []) hF hI ⟨[⟨21, [], .v (.int .i64 (IntKind.i64.wrap (Int.fdiv (IntKind.u64.wrap (IntKind.i64.wrap (s5.2 + s5.1))) 2)))⟩, ⟨22, [], .v (.int .i64 (IntKind.i64.wrap ((IntKind.i64.wrap ((IntKind.i64.wrap (Int.fdiv (IntKind.u64.wrap (IntKind.i64.wrap (a1 + a3))) 2)) + a2)) - 1)))⟩, ⟨20, [], .v (.int .i64 s5.2)⟩, ⟨19, [], .v (.int .i64 (IntKind.i64.wrap ((IntKind.i64.wrap (Int.fdiv (IntKind.u64.wrap (IntKind.i64.wrap (a1 + a3))) 2)) + a2)))⟩, ⟨18, [], .v (.int .i64 (IntKind.i64.wrap (Int.fdiv (IntKind.u64.wrap (IntKind.i64.wrap (a1 + a3))) 2)))⟩, ⟨0, [], .v (.slice A0 n0 c0)⟩, ⟨1, [], .v (.int .i64 a1)⟩, ⟨2, [], .v (.int .i64 a2)⟩, ⟨3, [], .v (.int .i64 a3)⟩, ⟨4, [], .v (fnv96 x4 sv4)⟩], [], [], [], none, none⟩ [] (by kernel_rfl) trivial (fun ns_237 a w_238 hI _ => ?_)
          refine then_normal ?_
          exact ⟨_, hI.pick [20, 22, 21, 19, 18, 0, 1, 2, 3, 4] 0 ⟨[⟨20, [], .v (.int .i64 s5.2)⟩, ⟨22, [], .v (.int .i64 (IntKind.i64.wrap ((IntKind.i64.wrap ((IntKind.i64.wrap (Int.fdiv (IntKind.u64.wrap (IntKind.i64.wrap (a1 + a3))) 2)) + a2)) - 1)))⟩, ⟨21, [], .v (.int .i64 (IntKind.i64.wrap (Int.fdiv (IntKind.u64.wrap (IntKind.i64.wrap (s5.2 + s5.1))) 2)))⟩, ⟨19, [], .v (.int .i64 (IntKind.i64.wrap ((IntKind.i64.wrap (Int.fdiv (IntKind.u64.wrap (IntKind.i64.wrap (a1 + a3))) 2)) + a2)))⟩, ⟨18, [], .v (.int .i64 (IntKind.i64.wrap (Int.fdiv (IntKind.u64.wrap (IntKind.i64.wrap (a1 + a3))) 2)))⟩, ⟨0, [], .v (.slice A0 n0 c0)⟩, ⟨1, [], .v (.int .i64 a1)⟩, ⟨2, [], .v (.int .i64 a2)⟩, ⟨3, [], .v (.int .i64 a3)⟩, ⟨4, [], .v (fnv96 x4 sv4)⟩], [], [], [], none, none⟩ (by kernel_rfl)⟩
         ·refine inBlock_normal ?_
          refine then_normal ?_
          obtain rfl := Option.some.inj H1
          exact ⟨_, rfl, ⟨_, hI.pick [22, 21, 20, 19, 18, 0, 1, 2, 3, 4] 0 ⟨[⟨22, [], .v (.int .i64 (IntKind.i64.wrap ((IntKind.i64.wrap ((IntKind.i64.wrap (Int.fdiv (IntKind.u64.wrap (IntKind.i64.wrap (a1 + a3))) 2)) + a2)) - 1)))⟩, ⟨21, [], .v (.int .i64 (bif (!(decide (t_231 < 0))) then s5.1 else (IntKind.i64.wrap (Int.fdiv (IntKind.u64.wrap (IntKind.i64.wrap (s5.2 + s5.1))) 2))))⟩, ⟨20, [], .v (.int .i64 (bif (!(decide (t_231 < 0))) then (IntKind.i64.wrap ((IntKind.i64.wrap (Int.fdiv (IntKind.u64.wrap (IntKind.i64.wrap (s5.2 + s5.1))) 2)) + 1)) else s5.2))⟩, ⟨19, [], .v (.int .i64 (IntKind.i64.wrap ((IntKind.i64.wrap (Int.fdiv (IntKind.u64.wrap (IntKind.i64.wrap (a1 + a3))) 2)) + a2)))⟩, ⟨18, [], .v (.int .i64 (IntKind.i64.wrap (Int.fdiv (IntKind.u64.wrap (IntKind.i64.wrap (a1 + a3))) 2)))⟩, ⟨0, [], .v (.slice A0 n0 c0)⟩, ⟨1, [], .v (.int .i64 a1)⟩, ⟨2, [], .v (.int .i64 a2)⟩, ⟨3, [], .v (.int .i64 a3)⟩, ⟨4, [], .v (fnv96 x4 sv4)⟩], [], [], [], none, none⟩ (by kernel_rfl)⟩⟩
        ·replace H1 := bif_f hc_220 H1
         refine wpIn_exit ?_
         refine then_exit ?_
         refine then_exit ?_
         obtain rfl := Option.some.inj H1
         exact .inl ⟨_, rfl, rfl, ⟨_, hI.pick [22, 21, 20, 19, 18, 0, 1, 2, 3, 4] 0 ⟨[⟨22, [], .v (.int .i64 (IntKind.i64.wrap ((IntKind.i64.wrap ((IntKind.i64.wrap (Int.fdiv (IntKind.u64.wrap (IntKind.i64.wrap (a1 + a3))) 2)) + a2)) - 1)))⟩, ⟨21, [], .v (.int .i64 s5.1)⟩, ⟨20, [], .v (.int .i64 s5.2)⟩, ⟨19, [], .v (.int .i64 (IntKind.i64.wrap ((IntKind.i64.wrap (Int.fdiv (IntKind.u64.wrap (IntKind.i64.wrap (a1 + a3))) 2)) + a2)))⟩, ⟨18, [], .v (.int .i64 (IntKind.i64.wrap (Int.fdiv (IntKind.u64.wrap (IntKind.i64.wrap (a1 + a3))) 2)))⟩, ⟨0, [], .v (.slice A0 n0 c0)⟩, ⟨1, [], .v (.int .i64 a1)⟩, ⟨2, [], .v (.int .i64 a2)⟩, ⟨3, [], .v (.int .i64 a3)⟩, ⟨4, [], .v (fnv96 x4 sv4)⟩], [], [], [], none, none⟩ (by kernel_rfl)⟩⟩
       ·clear hI
        rintro s5 a w_255 ho ⟨ns_256, hI⟩
        subst ho
        replace H0 : ((bif (decide (s5.2 < a2) && decide (a2 < (IntKind.i64.wrap ((IntKind.i64.wrap ((IntKind.i64.wrap (Int.fdiv (IntKind.u64.wrap (IntKind.i64.wrap (a1 + a3))) 2)) + a2)) - s5.2)))) then ((G_wit_spot_57 l0 n0 s5.2 a2 (IntKind.i64.wrap ((IntKind.i64.wrap ((IntKind.i64.wrap (Int.fdiv (IntKind.u64.wrap (IntKind.i64.wrap (a1 + a3))) 2)) + a2)) - s5.2)) x4).bind fun t_264 => (bif (decide (a1 < s5.2) && decide (s5.2 < (IntKind.i64.wrap (Int.fdiv (IntKind.u64.wrap (IntKind.i64.wrap (a1 + a3))) 2)))) then (((G_wit_spot_56.n n) t_264 n0 a1 s5.2 (IntKind.i64.wrap (Int.fdiv (IntKind.u64.wrap (IntKind.i64.wrap (a1 + a3))) 2)) x4).bind fun t_276 => (bif (decide ((IntKind.i64.wrap (Int.fdiv (IntKind.u64.wrap (IntKind.i64.wrap (a1 + a3))) 2)) < (IntKind.i64.wrap ((IntKind.i64.wrap ((IntKind.i64.wrap (Int.fdiv (IntKind.u64.wrap (IntKind.i64.wrap (a1 + a3))) 2)) + a2)) - s5.2))) && decide ((IntKind.i64.wrap ((IntKind.i64.wrap ((IntKind.i64.wrap (Int.fdiv (IntKind.u64.wrap (IntKind.i64.wrap (a1 + a3))) 2)) + a2)) - s5.2)) < a3)) then (((G_wit_spot_56.n n) t_276 n0 (IntKind.i64.wrap (Int.fdiv (IntKind.u64.wrap (IntKind.i64.wrap (a1 + a3))) 2)) (IntKind.i64.wrap ((IntKind.i64.wrap ((IntKind.i64.wrap (Int.fdiv (IntKind.u64.wrap (IntKind.i64.wrap (a1 + a3))) 2)) + a2)) - s5.2)) a3 x4).bind fun t_288 => some t_288) else some t_276)) else (bif (decide ((IntKind.i64.wrap (Int.fdiv (IntKind.u64.wrap (IntKind.i64.wrap (a1 + a3))) 2)) < (IntKind.i64.wrap ((IntKind.i64.wrap ((IntKind.i64.wrap (Int.fdiv (IntKind.u64.wrap (IntKind.i64.wrap (a1 + a3))) 2)) + a2)) - s5.2))) && decide ((IntKind.i64.wrap ((IntKind.i64.wrap ((IntKind.i64.wrap (Int.fdiv (IntKind.u64.wrap (IntKind.i64.wrap (a1 + a3))) 2)) + a2)) - s5.2)) < a3)) then (((G_wit_spot_56.n n) t_264 n0 (IntKind.i64.wrap (Int.fdiv (IntKind.u64.wrap (IntKind.i64.wrap (a1 + a3))) 2)) (IntKind.i64.wrap ((IntKind.i64.wrap ((IntKind.i64.wrap (Int.fdiv (IntKind.u64.wrap (IntKind.i64.wrap (a1 + a3))) 2)) + a2)) - s5.2)) a3 x4).bind fun t_300 => some t_300) else some t_264))) else (bif (decide (a1 < s5.2) && decide (s5.2 < (IntKind.i64.wrap (Int.fdiv (IntKind.u64.wrap (IntKind.i64.wrap (a1 + a3))) 2)))) then (((G_wit_spot_56.n n) l0 n0 a1 s5.2 (IntKind.i64.wrap (Int.fdiv (IntKind.u64.wrap (IntKind.i64.wrap (a1 + a3))) 2)) x4).bind fun t_312 => (bif (decide ((IntKind.i64.wrap (Int.fdiv (IntKind.u64.wrap (IntKind.i64.wrap (a1 + a3))) 2)) < (IntKind.i64.wrap ((IntKind.i64.wrap ((IntKind.i64.wrap (Int.fdiv (IntKind.u64.wrap (IntKind.i64.wrap (a1 + a3))) 2)) + a2)) - s5.2))) && decide ((IntKind.i64.wrap ((IntKind.i64.wrap ((IntKind.i64.wrap (Int.fdiv (IntKind.u64.wrap (IntKind.i64.wrap (a1 + a3))) 2)) + a2)) - s5.2)) < a3)) then (((G_wit_spot_56.n n) t_312 n0 (IntKind.i64.wrap (Int.fdiv (IntKind.u64.wrap (IntKind.i64.wrap (a1 + a3))) 2)) (IntKind.i64.wrap ((IntKind.i64.wrap ((IntKind.i64.wrap (Int.fdiv (IntKind.u64.wrap (IntKind.i64.wrap (a1 + a3))) 2)) + a2)) - s5.2)) a3 x4).bind fun t_324 => some t_324) else some t_312)) else (bif (decide ((IntKind.i64.wrap (Int.fdiv (IntKind.u64.wrap (IntKind.i64.wrap (a1 + a3))) 2)) < (IntKind.i64.wrap ((IntKind.i64.wrap ((IntKind.i64.wrap (Int.fdiv (IntKind.u64.wrap (IntKind.i64.wrap (a1 + a3))) 2)) + a2)) - s5.2))) && decide ((IntKind.i64.wrap ((IntKind.i64.wrap ((IntKind.i64.wrap (Int.fdiv (IntKind.u64.wrap (IntKind.i64.wrap (a1 + a3))) 2)) + a2)) - s5.2)) < a3)) then (((G_wit_spot_56.n n) l0 n0 (IntKind.i64.wrap (Int.fdiv (IntKind.u64.wrap (IntKind.i64.wrap (a1 + a3))) 2)) (IntKind.i64.wrap ((IntKind.i64.wrap ((IntKind.i64.wrap (Int.fdiv (IntKind.u64.wrap (IntKind.i64.wrap (a1 + a3))) 2)) + a2)) - s5.2)) a3 x4).bind fun t_336 => some t_336) else some l0))) : Option ((List Wit_spot))) = _ := H0
        refine then_normal ?_
        refine seq_region (live := [24, 20, 18, 0, 1, 2, 3, 4]) (orc := []) hF hI ⟨[⟨24, [], .v (.int .i64 (IntKind.i64.wrap ((IntKind.i64.wrap ((IntKind.i64.wrap (Int.fdiv (IntKind.u64.wrap (IntKind.i64.wrap (a1 + a3))) 2)) + a2)) - s5.2)))⟩, ⟨20, [], .v (.int .i64 s5.2)⟩, ⟨18, [], .v (.int .i64 (IntKind.i64.wrap (Int.fdiv (IntKind.u64.wrap (IntKind.i64.wrap (a1 + a3))) 2)))⟩, ⟨0, [], .v (.slice A0 n0 c0)⟩, ⟨1, [], .v (.int .i64 a1)⟩, ⟨2, [], .v (.int .i64 a2)⟩, ⟨3, [], .v (.int .i64 a3)⟩, ⟨4, [], .v (fnv96 x4 sv4)⟩], [], [], [], none, none⟩ [] (by kernel_rfl) trivial (fun ns_257 a w_258 hI _ => ?_)
        refine wpIn_seq ?_
        refine seq_region (live := [185, 24, 20, 18, 0, 1, 2, 3, 4]) (orc := []) hF hI ⟨[⟨185, [], .v (.bool (decide (s5.2 < a2) && decide (a2 < (IntKind.i64.wrap ((IntKind.i64.wrap ((IntKind.i64.wrap (Int.fdiv (IntKind.u64.wrap (IntKind.i64.wrap (a1 + a3))) 2)) + a2)) - s5.2)))))⟩, ⟨24, [], .v (.int .i64 (IntKind.i64.wrap ((IntKind.i64.wrap ((IntKind.i64.wrap (Int.fdiv (IntKind.u64.wrap (IntKind.i64.wrap (a1 + a3))) 2)) + a2)) - s5.2)))⟩, ⟨20, [], .v (.int .i64 s5.2)⟩, ⟨18, [], .v (.int .i64 (IntKind.i64.wrap (Int.fdiv (IntKind.u64.wrap (IntKind.i64.wrap (a1 + a3))) 2)))⟩, ⟨0, [], .v (.slice A0 n0 c0)⟩, ⟨1, [], .v (.int .i64 a1)⟩, ⟨2, [], .v (.int .i64 a2)⟩, ⟨3, [], .v (.int .i64 a3)⟩, ⟨4, [], .v (fnv96 x4 sv4)⟩], [], [], [], none, none⟩ [] (by kernel_rfl) trivial (fun ns_259 a w_260 hI _ => ?_)
        refine cond_ hI ((decide (s5.2 < a2) && decide (a2 < (IntKind.i64.wrap ((IntKind.i64.wrap ((IntKind.i64.wrap (Int.fdiv (IntKind.u64.wrap (IntKind.i64.wrap (a1 + a3))) 2)) + a2)) - s5.2))))) rfl (fun hc_261 => ?_) (fun hc_261 => ?_)
        ·replace H0 := bif_t hc_261 H0
         refine wpIn_region_lit ?_
         refine chunkL_ (live := [190, 189, 188, 187, 186, 24, 20, 18, 0, 1, 3, 4]) (orc := []) hF 5 hI ⟨[⟨190, [], .v (fnv96 x4 sv4)⟩, ⟨189, [], .v (.int .i64 (IntKind.i64.wrap ((IntKind.i64.wrap ((IntKind.i64.wrap (Int.fdiv (IntKind.u64.wrap (IntKind.i64.wrap (a1 + a3))) 2)) + a2)) - s5.2)))⟩, ⟨188, [], .v (.int .i64 a2)⟩, ⟨187, [], .v (.int .i64 s5.2)⟩, ⟨186, [], .v (.slice A0 n0 c0)⟩, ⟨24, [], .v (.int .i64 (IntKind.i64.wrap ((IntKind.i64.wrap ((IntKind.i64.wrap (Int.fdiv (IntKind.u64.wrap (IntKind.i64.wrap (a1 + a3))) 2)) + a2)) - s5.2)))⟩, ⟨20, [], .v (.int .i64 s5.2)⟩, ⟨18, [], .v (.int .i64 (IntKind.i64.wrap (Int.fdiv (IntKind.u64.wrap (IntKind.i64.wrap (a1 + a3))) 2)))⟩, ⟨0, [], .v (.slice A0 n0 c0)⟩, ⟨1, [], .v (.int .i64 a1)⟩, ⟨3, [], .v (.int .i64 a3)⟩, ⟨4, [], .v (fnv96 x4 sv4)⟩], [], [], [], none, none⟩ [] rfl (by kernel_rfl) trivial (fun ns_262 a w_263 hI => ?_)
         obtain ⟨hE', hmv, hmr⟩ := Ep.rebase hE hI
         replace hx4 := Kd.keep _ hx4 (hmv _)
         replace hr0 := Row.keep hr0 (hmv _) (fun b hb => hmr b (by simp [hb]))
         replace hE := hE'
         replace hI := hI.rebase
         clear hE' hmv hmr
         obtain ⟨t_264, hG_265, H0⟩ := bind_some H0
         refine callM_ hF hE hI (wanted_none rfl) rfl (args := [.slice A0 n0 c0, .int .i64 s5.2, .int .i64 a2, .int .i64 (IntKind.i64.wrap ((IntKind.i64.wrap ((IntKind.i64.wrap (Int.fdiv (IntKind.u64.wrap (IntKind.i64.wrap (a1 + a3))) 2)) + a2)) - s5.2)), fnv96 x4 sv4]) rfl (enters Try.func57 (by kernel_rfl) rfl) (fun sv_266 => .tuple #[]) [0] _ (G_wit_spot_57.calls l0 n0 s5.2 a2 (IntKind.i64.wrap ((IntKind.i64.wrap ((IntKind.i64.wrap (Int.fdiv (IntKind.u64.wrap (IntKind.i64.wrap (a1 + a3))) 2)) + a2)) - s5.2)) x4 A0 c0 base0 (svL []) w_263 (S := Lo S w w_263 ns_262 [rb A0]) hr0 hn0 (contI (S := Lo S w w_263 ns_262 [rb A0]) (w := w_263) (d := kdF96) (x := x4) (sv := (svL [])) hx4) (Lo.pick [0]) (hE.pick [0] (by decide)) (hE.pickLt [0]) _ hG_265) (.inl rfl) (fun sv_266 => ⟨[⟨191, [], .v (.tuple #[])⟩, ⟨190, [], .v (fnv96 x4 sv4)⟩, ⟨189, [], .v (.int .i64 (IntKind.i64.wrap ((IntKind.i64.wrap ((IntKind.i64.wrap (Int.fdiv (IntKind.u64.wrap (IntKind.i64.wrap (a1 + a3))) 2)) + a2)) - s5.2)))⟩, ⟨188, [], .v (.int .i64 a2)⟩, ⟨187, [], .v (.int .i64 s5.2)⟩, ⟨186, [], .v (.slice A0 n0 c0)⟩, ⟨24, [], .v (.int .i64 (IntKind.i64.wrap ((IntKind.i64.wrap ((IntKind.i64.wrap (Int.fdiv (IntKind.u64.wrap (IntKind.i64.wrap (a1 + a3))) 2)) + a2)) - s5.2)))⟩, ⟨20, [], .v (.int .i64 s5.2)⟩, ⟨18, [], .v (.int .i64 (IntKind.i64.wrap (Int.fdiv (IntKind.u64.wrap (IntKind.i64.wrap (a1 + a3))) 2)))⟩, ⟨0, [], .v (.slice A0 n0 c0)⟩, ⟨1, [], .v (.int .i64 a1)⟩, ⟨3, [], .v (.int .i64 a3)⟩, ⟨4, [], .v (fnv96 x4 sv4)⟩], [], [], [], none, none⟩) (fun sv_266 => by kernel_rfl) (fun sv_266 a w_267 hput hE' hI' hmv hmr hres hR => ?_)
         replace hx4 := Kd.keep _ hx4 (hmv _)
         replace hE := hE'
         replace hI := hI'
         clear hE' hI' hmv hmr
         obtain ⟨hr0, hn0⟩ := hR
         replace hr0 := Row.keep hr0 (hres _) (fun _ _ => rfl)
         clear hres
         refine chunkL_ (live := [24, 20, 18, 0, 1, 3, 4]) (orc := []) hF 0 hI ⟨[⟨24, [], .v (.int .i64 (IntKind.i64.wrap ((IntKind.i64.wrap ((IntKind.i64.wrap (Int.fdiv (IntKind.u64.wrap (IntKind.i64.wrap (a1 + a3))) 2)) + a2)) - s5.2)))⟩, ⟨20, [], .v (.int .i64 s5.2)⟩, ⟨18, [], .v (.int .i64 (IntKind.i64.wrap (Int.fdiv (IntKind.u64.wrap (IntKind.i64.wrap (a1 + a3))) 2)))⟩, ⟨0, [], .v (.slice A0 n0 c0)⟩, ⟨1, [], .v (.int .i64 a1)⟩, ⟨3, [], .v (.int .i64 a3)⟩, ⟨4, [], .v (fnv96 x4 sv4)⟩], [], [], [], none, none⟩ [] rfl (by kernel_rfl) trivial (fun ns_269 a w_270 hI => ?_)
         refine wpListIn_nil ?_
         refine then_normal ?_
         refine wpIn_seq ?_
         refine seq_region (live := [199, 24, 20, 18, 0, 1, 3, 4]) (orc := []) hF hI ⟨[⟨199, [], .v (.bool (decide (a1 < s5.2) && decide (s5.2 < (IntKind.i64.wrap (Int.fdiv (IntKind.u64.wrap (IntKind.i64.wrap (a1 + a3))) 2)))))⟩, ⟨24, [], .v (.int .i64 (IntKind.i64.wrap ((IntKind.i64.wrap ((IntKind.i64.wrap (Int.fdiv (IntKind.u64.wrap (IntKind.i64.wrap (a1 + a3))) 2)) + a2)) - s5.2)))⟩, ⟨20, [], .v (.int .i64 s5.2)⟩, ⟨18, [], .v (.int .i64 (IntKind.i64.wrap (Int.fdiv (IntKind.u64.wrap (IntKind.i64.wrap (a1 + a3))) 2)))⟩, ⟨0, [], .v (.slice A0 n0 c0)⟩, ⟨1, [], .v (.int .i64 a1)⟩, ⟨3, [], .v (.int .i64 a3)⟩, ⟨4, [], .v (fnv96 x4 sv4)⟩], [], [], [], none, none⟩ [] (by kernel_rfl) trivial (fun ns_271 a w_272 hI _ => ?_)
         refine cond_ hI ((decide (a1 < s5.2) && decide (s5.2 < (IntKind.i64.wrap (Int.fdiv (IntKind.u64.wrap (IntKind.i64.wrap (a1 + a3))) 2))))) rfl (fun hc_273 => ?_) (fun hc_273 => ?_)
         ·replace H0 := bif_t hc_273 H0
          refine wpIn_region_lit ?_
          refine chunkL_ (live := [204, 203, 202, 201, 200, 24, 18, 0, 3, 4]) (orc := []) hF 5 hI ⟨[⟨204, [], .v (fnv96 x4 sv4)⟩, ⟨203, [], .v (.int .i64 (IntKind.i64.wrap (Int.fdiv (IntKind.u64.wrap (IntKind.i64.wrap (a1 + a3))) 2)))⟩, ⟨202, [], .v (.int .i64 s5.2)⟩, ⟨201, [], .v (.int .i64 a1)⟩, ⟨200, [], .v (.slice A0 n0 c0)⟩, ⟨24, [], .v (.int .i64 (IntKind.i64.wrap ((IntKind.i64.wrap ((IntKind.i64.wrap (Int.fdiv (IntKind.u64.wrap (IntKind.i64.wrap (a1 + a3))) 2)) + a2)) - s5.2)))⟩, ⟨18, [], .v (.int .i64 (IntKind.i64.wrap (Int.fdiv (IntKind.u64.wrap (IntKind.i64.wrap (a1 + a3))) 2)))⟩, ⟨0, [], .v (.slice A0 n0 c0)⟩, ⟨3, [], .v (.int .i64 a3)⟩, ⟨4, [], .v (fnv96 x4 sv4)⟩], [], [], [], none, none⟩ [] rfl (by kernel_rfl) trivial (fun ns_274 a w_275 hI => ?_)
          obtain ⟨hE', hmv, hmr⟩ := Ep.rebase hE hI
          replace hx4 := Kd.keep _ hx4 (hmv _)
          replace hr0 := Row.keep hr0 (hmv _) (fun b hb => hmr b (by simp [hb]))
          replace hE := hE'
          replace hI := hI.rebase
          clear hE' hmv hmr
          obtain ⟨t_276, hG_277, H0⟩ := bind_some H0
          refine callM_ hF hE hI (wanted_none rfl) rfl (args := [.slice A0 n0 c0, .int .i64 a1, .int .i64 s5.2, .int .i64 (IntKind.i64.wrap (Int.fdiv (IntKind.u64.wrap (IntKind.i64.wrap (a1 + a3))) 2)), fnv96 x4 sv4]) rfl (enters Try.func56 (by kernel_rfl) rfl) (fun sv_278 => .tuple #[]) [0] _ (ih t_264 n0 a1 s5.2 (IntKind.i64.wrap (Int.fdiv (IntKind.u64.wrap (IntKind.i64.wrap (a1 + a3))) 2)) x4 A0 c0 base0 (svL []) w_275 (S := Lo S w w_275 ns_274 [rb A0]) hr0 hn0 (contI (S := Lo S w w_275 ns_274 [rb A0]) (w := w_275) (d := kdF96) (x := x4) (sv := (svL [])) hx4) (Lo.pick [0]) (hE.pick [0] (by decide)) (hE.pickLt [0]) _ hG_277) (.inl rfl) (fun sv_278 => ⟨[⟨205, [], .v (.tuple #[])⟩, ⟨204, [], .v (fnv96 x4 sv4)⟩, ⟨203, [], .v (.int .i64 (IntKind.i64.wrap (Int.fdiv (IntKind.u64.wrap (IntKind.i64.wrap (a1 + a3))) 2)))⟩, ⟨202, [], .v (.int .i64 s5.2)⟩, ⟨201, [], .v (.int .i64 a1)⟩, ⟨200, [], .v (.slice A0 n0 c0)⟩, ⟨24, [], .v (.int .i64 (IntKind.i64.wrap ((IntKind.i64.wrap ((IntKind.i64.wrap (Int.fdiv (IntKind.u64.wrap (IntKind.i64.wrap (a1 + a3))) 2)) + a2)) - s5.2)))⟩, ⟨18, [], .v (.int .i64 (IntKind.i64.wrap (Int.fdiv (IntKind.u64.wrap (IntKind.i64.wrap (a1 + a3))) 2)))⟩, ⟨0, [], .v (.slice A0 n0 c0)⟩, ⟨3, [], .v (.int .i64 a3)⟩, ⟨4, [], .v (fnv96 x4 sv4)⟩], [], [], [], none, none⟩) (fun sv_278 => by kernel_rfl) (fun sv_278 a w_279 hput hE' hI' hmv hmr hres hR => ?_)
          replace hx4 := Kd.keep _ hx4 (hmv _)
          replace hE := hE'
          replace hI := hI'
          clear hE' hI' hmv hmr
          obtain ⟨hr0, hn0⟩ := hR
          replace hr0 := Row.keep hr0 (hres _) (fun _ _ => rfl)
          clear hres
          refine chunkL_ (live := [24, 18, 0, 3, 4]) (orc := []) hF 0 hI ⟨[⟨24, [], .v (.int .i64 (IntKind.i64.wrap ((IntKind.i64.wrap ((IntKind.i64.wrap (Int.fdiv (IntKind.u64.wrap (IntKind.i64.wrap (a1 + a3))) 2)) + a2)) - s5.2)))⟩, ⟨18, [], .v (.int .i64 (IntKind.i64.wrap (Int.fdiv (IntKind.u64.wrap (IntKind.i64.wrap (a1 + a3))) 2)))⟩, ⟨0, [], .v (.slice A0 n0 c0)⟩, ⟨3, [], .v (.int .i64 a3)⟩, ⟨4, [], .v (fnv96 x4 sv4)⟩], [], [], [], none, none⟩ [] rfl (by kernel_rfl) trivial (fun ns_281 a w_282 hI => ?_)
          refine wpListIn_nil ?_
          refine then_normal ?_
          refine seq_region (live := [213, 24, 18, 0, 3, 4]) (orc := []) hF hI ⟨[⟨213, [], .v (.bool (decide ((IntKind.i64.wrap (Int.fdiv (IntKind.u64.wrap (IntKind.i64.wrap (a1 + a3))) 2)) < (IntKind.i64.wrap ((IntKind.i64.wrap ((IntKind.i64.wrap (Int.fdiv (IntKind.u64.wrap (IntKind.i64.wrap (a1 + a3))) 2)) + a2)) - s5.2))) && decide ((IntKind.i64.wrap ((IntKind.i64.wrap ((IntKind.i64.wrap (Int.fdiv (IntKind.u64.wrap (IntKind.i64.wrap (a1 + a3))) 2)) + a2)) - s5.2)) < a3)))⟩, ⟨24, [], .v (.int .i64 (IntKind.i64.wrap ((IntKind.i64.wrap ((IntKind.i64.wrap (Int.fdiv (IntKind.u64.wrap (IntKind.i64.wrap (a1 + a3))) 2)) + a2)) - s5.2)))⟩, ⟨18, [], .v (.int .i64 (IntKind.i64.wrap (Int.fdiv (IntKind.u64.wrap (IntKind.i64.wrap (a1 + a3))) 2)))⟩, ⟨0, [], .v (.slice A0 n0 c0)⟩, ⟨3, [], .v (.int .i64 a3)⟩, ⟨4, [], .v (fnv96 x4 sv4)⟩], [], [], [], none, none⟩ [] (by kernel_rfl) trivial (fun ns_283 a w_284 hI _ => ?_)
          refine cond_ hI ((decide ((IntKind.i64.wrap (Int.fdiv (IntKind.u64.wrap (IntKind.i64.wrap (a1 + a3))) 2)) < (IntKind.i64.wrap ((IntKind.i64.wrap ((IntKind.i64.wrap (Int.fdiv (IntKind.u64.wrap (IntKind.i64.wrap (a1 + a3))) 2)) + a2)) - s5.2))) && decide ((IntKind.i64.wrap ((IntKind.i64.wrap ((IntKind.i64.wrap (Int.fdiv (IntKind.u64.wrap (IntKind.i64.wrap (a1 + a3))) 2)) + a2)) - s5.2)) < a3))) rfl (fun hc_285 => ?_) (fun hc_285 => ?_)
          ·replace H0 := bif_t hc_285 H0
           refine wpIn_region_lit ?_
           refine chunkL_ (live := [218, 217, 216, 215, 214]) (orc := []) hF 5 hI ⟨[⟨218, [], .v (fnv96 x4 sv4)⟩, ⟨217, [], .v (.int .i64 a3)⟩, ⟨216, [], .v (.int .i64 (IntKind.i64.wrap ((IntKind.i64.wrap ((IntKind.i64.wrap (Int.fdiv (IntKind.u64.wrap (IntKind.i64.wrap (a1 + a3))) 2)) + a2)) - s5.2)))⟩, ⟨215, [], .v (.int .i64 (IntKind.i64.wrap (Int.fdiv (IntKind.u64.wrap (IntKind.i64.wrap (a1 + a3))) 2)))⟩, ⟨214, [], .v (.slice A0 n0 c0)⟩], [], [], [], none, none⟩ [] rfl (by kernel_rfl) trivial (fun ns_286 a w_287 hI => ?_)
           obtain ⟨hE', hmv, hmr⟩ := Ep.rebase hE hI
           replace hx4 := Kd.keep _ hx4 (hmv _)
           replace hr0 := Row.keep hr0 (hmv _) (fun b hb => hmr b (by simp [hb]))
           replace hE := hE'
           replace hI := hI.rebase
           clear hE' hmv hmr
           obtain ⟨t_288, hG_289, H0⟩ := bind_some H0
           refine callM_ hF hE hI (wanted_none rfl) rfl (args := [.slice A0 n0 c0, .int .i64 (IntKind.i64.wrap (Int.fdiv (IntKind.u64.wrap (IntKind.i64.wrap (a1 + a3))) 2)), .int .i64 (IntKind.i64.wrap ((IntKind.i64.wrap ((IntKind.i64.wrap (Int.fdiv (IntKind.u64.wrap (IntKind.i64.wrap (a1 + a3))) 2)) + a2)) - s5.2)), .int .i64 a3, fnv96 x4 sv4]) rfl (enters Try.func56 (by kernel_rfl) rfl) (fun sv_290 => .tuple #[]) [0] _ (ih t_276 n0 (IntKind.i64.wrap (Int.fdiv (IntKind.u64.wrap (IntKind.i64.wrap (a1 + a3))) 2)) (IntKind.i64.wrap ((IntKind.i64.wrap ((IntKind.i64.wrap (Int.fdiv (IntKind.u64.wrap (IntKind.i64.wrap (a1 + a3))) 2)) + a2)) - s5.2)) a3 x4 A0 c0 base0 (svL []) w_287 (S := Lo S w w_287 ns_286 [rb A0]) hr0 hn0 (contI (S := Lo S w w_287 ns_286 [rb A0]) (w := w_287) (d := kdF96) (x := x4) (sv := (svL [])) hx4) (Lo.pick [0]) (hE.pick [0] (by decide)) (hE.pickLt [0]) _ hG_289) (.inl rfl) (fun sv_290 => ⟨[⟨219, [], .v (.tuple #[])⟩, ⟨218, [], .v (fnv96 x4 sv4)⟩, ⟨217, [], .v (.int .i64 a3)⟩, ⟨216, [], .v (.int .i64 (IntKind.i64.wrap ((IntKind.i64.wrap ((IntKind.i64.wrap (Int.fdiv (IntKind.u64.wrap (IntKind.i64.wrap (a1 + a3))) 2)) + a2)) - s5.2)))⟩, ⟨215, [], .v (.int .i64 (IntKind.i64.wrap (Int.fdiv (IntKind.u64.wrap (IntKind.i64.wrap (a1 + a3))) 2)))⟩, ⟨214, [], .v (.slice A0 n0 c0)⟩], [], [], [], none, none⟩) (fun sv_290 => by kernel_rfl) (fun sv_290 a w_291 hput hE' hI' hmv hmr hres hR => ?_)
           replace hx4 := Kd.keep _ hx4 (hmv _)
           replace hE := hE'
           replace hI := hI'
           clear hE' hI' hmv hmr
           obtain ⟨hr0, hn0⟩ := hR
           replace hr0 := Row.keep hr0 (hres _) (fun _ _ => rfl)
           clear hres
           refine chunkL_ (live := []) (orc := []) hF 0 hI ⟨[], [], [], [], none, none⟩ [] rfl (by kernel_rfl) trivial (fun ns_293 a w_294 hI => ?_)
           refine wpListIn_nil ?_
           obtain ⟨hE', hmv, hmr⟩ := Ep.rebase hE hI
           replace hx4 := Kd.keep _ hx4 (hmv _)
           replace hr0 := Row.keep hr0 (hmv _) (fun b hb => hmr b (by simp [hb]))
           replace hE := hE'
           replace hI := hI.rebase
           clear hE' hmv hmr
           obtain rfl := Option.some.inj H0
           exact retN (retG hI rfl rfl ⟨svL [], rfl, hE.keeps hI, Row.keep hr0 (hE.out hI) (fun _ _ => rfl), hn0⟩)
          ·replace H0 := bif_f hc_285 H0
           refine wpIn_skip ?_
           obtain ⟨hE', hmv, hmr⟩ := Ep.rebase hE hI
           replace hx4 := Kd.keep _ hx4 (hmv _)
           replace hr0 := Row.keep hr0 (hmv _) (fun b hb => hmr b (by simp [hb]))
           replace hE := hE'
           replace hI := hI.rebase
           clear hE' hmv hmr
           obtain rfl := Option.some.inj H0
           exact retN (retG hI rfl rfl ⟨svL [], rfl, hE.keeps hI, Row.keep hr0 (hE.out hI) (fun _ _ => rfl), hn0⟩)
         ·replace H0 := bif_f hc_273 H0
          refine wpIn_skip ?_
          refine then_normal ?_
          refine seq_region (live := [213, 24, 18, 0, 3, 4]) (orc := []) hF hI ⟨[⟨213, [], .v (.bool (decide ((IntKind.i64.wrap (Int.fdiv (IntKind.u64.wrap (IntKind.i64.wrap (a1 + a3))) 2)) < (IntKind.i64.wrap ((IntKind.i64.wrap ((IntKind.i64.wrap (Int.fdiv (IntKind.u64.wrap (IntKind.i64.wrap (a1 + a3))) 2)) + a2)) - s5.2))) && decide ((IntKind.i64.wrap ((IntKind.i64.wrap ((IntKind.i64.wrap (Int.fdiv (IntKind.u64.wrap (IntKind.i64.wrap (a1 + a3))) 2)) + a2)) - s5.2)) < a3)))⟩, ⟨24, [], .v (.int .i64 (IntKind.i64.wrap ((IntKind.i64.wrap ((IntKind.i64.wrap (Int.fdiv (IntKind.u64.wrap (IntKind.i64.wrap (a1 + a3))) 2)) + a2)) - s5.2)))⟩, ⟨18, [], .v (.int .i64 (IntKind.i64.wrap (Int.fdiv (IntKind.u64.wrap (IntKind.i64.wrap (a1 + a3))) 2)))⟩, ⟨0, [], .v (.slice A0 n0 c0)⟩, ⟨3, [], .v (.int .i64 a3)⟩, ⟨4, [], .v (fnv96 x4 sv4)⟩], [], [], [], none, none⟩ [] (by kernel_rfl) trivial (fun ns_295 a w_296 hI _ => ?_)
          refine cond_ hI ((decide ((IntKind.i64.wrap (Int.fdiv (IntKind.u64.wrap (IntKind.i64.wrap (a1 + a3))) 2)) < (IntKind.i64.wrap ((IntKind.i64.wrap ((IntKind.i64.wrap (Int.fdiv (IntKind.u64.wrap (IntKind.i64.wrap (a1 + a3))) 2)) + a2)) - s5.2))) && decide ((IntKind.i64.wrap ((IntKind.i64.wrap ((IntKind.i64.wrap (Int.fdiv (IntKind.u64.wrap (IntKind.i64.wrap (a1 + a3))) 2)) + a2)) - s5.2)) < a3))) rfl (fun hc_297 => ?_) (fun hc_297 => ?_)
          ·replace H0 := bif_t hc_297 H0
           refine wpIn_region_lit ?_
           refine chunkL_ (live := [218, 217, 216, 215, 214]) (orc := []) hF 5 hI ⟨[⟨218, [], .v (fnv96 x4 sv4)⟩, ⟨217, [], .v (.int .i64 a3)⟩, ⟨216, [], .v (.int .i64 (IntKind.i64.wrap ((IntKind.i64.wrap ((IntKind.i64.wrap (Int.fdiv (IntKind.u64.wrap (IntKind.i64.wrap (a1 + a3))) 2)) + a2)) - s5.2)))⟩, ⟨215, [], .v (.int .i64 (IntKind.i64.wrap (Int.fdiv (IntKind.u64.wrap (IntKind.i64.wrap (a1 + a3))) 2)))⟩, ⟨214, [], .v (.slice A0 n0 c0)⟩], [], [], [], none, none⟩ [] rfl (by kernel_rfl) trivial (fun ns_298 a w_299 hI => ?_)
           obtain ⟨hE', hmv, hmr⟩ := Ep.rebase hE hI
           replace hx4 := Kd.keep _ hx4 (hmv _)
           replace hr0 := Row.keep hr0 (hmv _) (fun b hb => hmr b (by simp [hb]))
           replace hE := hE'
           replace hI := hI.rebase
           clear hE' hmv hmr
           obtain ⟨t_300, hG_301, H0⟩ := bind_some H0
           refine callM_ hF hE hI (wanted_none rfl) rfl (args := [.slice A0 n0 c0, .int .i64 (IntKind.i64.wrap (Int.fdiv (IntKind.u64.wrap (IntKind.i64.wrap (a1 + a3))) 2)), .int .i64 (IntKind.i64.wrap ((IntKind.i64.wrap ((IntKind.i64.wrap (Int.fdiv (IntKind.u64.wrap (IntKind.i64.wrap (a1 + a3))) 2)) + a2)) - s5.2)), .int .i64 a3, fnv96 x4 sv4]) rfl (enters Try.func56 (by kernel_rfl) rfl) (fun sv_302 => .tuple #[]) [0] _ (ih t_264 n0 (IntKind.i64.wrap (Int.fdiv (IntKind.u64.wrap (IntKind.i64.wrap (a1 + a3))) 2)) (IntKind.i64.wrap ((IntKind.i64.wrap ((IntKind.i64.wrap (Int.fdiv (IntKind.u64.wrap (IntKind.i64.wrap (a1 + a3))) 2)) + a2)) - s5.2)) a3 x4 A0 c0 base0 (svL []) w_299 (S := Lo S w w_299 ns_298 [rb A0]) hr0 hn0 (contI (S := Lo S w w_299 ns_298 [rb A0]) (w := w_299) (d := kdF96) (x := x4) (sv := (svL [])) hx4) (Lo.pick [0]) (hE.pick [0] (by decide)) (hE.pickLt [0]) _ hG_301) (.inl rfl) (fun sv_302 => ⟨[⟨219, [], .v (.tuple #[])⟩, ⟨218, [], .v (fnv96 x4 sv4)⟩, ⟨217, [], .v (.int .i64 a3)⟩, ⟨216, [], .v (.int .i64 (IntKind.i64.wrap ((IntKind.i64.wrap ((IntKind.i64.wrap (Int.fdiv (IntKind.u64.wrap (IntKind.i64.wrap (a1 + a3))) 2)) + a2)) - s5.2)))⟩, ⟨215, [], .v (.int .i64 (IntKind.i64.wrap (Int.fdiv (IntKind.u64.wrap (IntKind.i64.wrap (a1 + a3))) 2)))⟩, ⟨214, [], .v (.slice A0 n0 c0)⟩], [], [], [], none, none⟩) (fun sv_302 => by kernel_rfl) (fun sv_302 a w_303 hput hE' hI' hmv hmr hres hR => ?_)
           replace hx4 := Kd.keep _ hx4 (hmv _)
           replace hE := hE'
           replace hI := hI'
           clear hE' hI' hmv hmr
           obtain ⟨hr0, hn0⟩ := hR
           replace hr0 := Row.keep hr0 (hres _) (fun _ _ => rfl)
           clear hres
           refine chunkL_ (live := []) (orc := []) hF 0 hI ⟨[], [], [], [], none, none⟩ [] rfl (by kernel_rfl) trivial (fun ns_305 a w_306 hI => ?_)
           refine wpListIn_nil ?_
           obtain ⟨hE', hmv, hmr⟩ := Ep.rebase hE hI
           replace hx4 := Kd.keep _ hx4 (hmv _)
           replace hr0 := Row.keep hr0 (hmv _) (fun b hb => hmr b (by simp [hb]))
           replace hE := hE'
           replace hI := hI.rebase
           clear hE' hmv hmr
           obtain rfl := Option.some.inj H0
           exact retN (retG hI rfl rfl ⟨svL [], rfl, hE.keeps hI, Row.keep hr0 (hE.out hI) (fun _ _ => rfl), hn0⟩)
          ·replace H0 := bif_f hc_297 H0
           refine wpIn_skip ?_
           obtain ⟨hE', hmv, hmr⟩ := Ep.rebase hE hI
           replace hx4 := Kd.keep _ hx4 (hmv _)
           replace hr0 := Row.keep hr0 (hmv _) (fun b hb => hmr b (by simp [hb]))
           replace hE := hE'
           replace hI := hI.rebase
           clear hE' hmv hmr
           obtain rfl := Option.some.inj H0
           exact retN (retG hI rfl rfl ⟨svL [], rfl, hE.keeps hI, Row.keep hr0 (hE.out hI) (fun _ _ => rfl), hn0⟩)
        ·replace H0 := bif_f hc_261 H0
         refine wpIn_skip ?_
         refine then_normal ?_
         refine wpIn_seq ?_
         refine seq_region (live := [199, 24, 20, 18, 0, 1, 3, 4]) (orc := []) hF hI ⟨[⟨199, [], .v (.bool (decide (a1 < s5.2) && decide (s5.2 < (IntKind.i64.wrap (Int.fdiv (IntKind.u64.wrap (IntKind.i64.wrap (a1 + a3))) 2)))))⟩, ⟨24, [], .v (.int .i64 (IntKind.i64.wrap ((IntKind.i64.wrap ((IntKind.i64.wrap (Int.fdiv (IntKind.u64.wrap (IntKind.i64.wrap (a1 + a3))) 2)) + a2)) - s5.2)))⟩, ⟨20, [], .v (.int .i64 s5.2)⟩, ⟨18, [], .v (.int .i64 (IntKind.i64.wrap (Int.fdiv (IntKind.u64.wrap (IntKind.i64.wrap (a1 + a3))) 2)))⟩, ⟨0, [], .v (.slice A0 n0 c0)⟩, ⟨1, [], .v (.int .i64 a1)⟩, ⟨3, [], .v (.int .i64 a3)⟩, ⟨4, [], .v (fnv96 x4 sv4)⟩], [], [], [], none, none⟩ [] (by kernel_rfl) trivial (fun ns_307 a w_308 hI _ => ?_)
         refine cond_ hI ((decide (a1 < s5.2) && decide (s5.2 < (IntKind.i64.wrap (Int.fdiv (IntKind.u64.wrap (IntKind.i64.wrap (a1 + a3))) 2))))) rfl (fun hc_309 => ?_) (fun hc_309 => ?_)
         ·replace H0 := bif_t hc_309 H0
          refine wpIn_region_lit ?_
          refine chunkL_ (live := [204, 203, 202, 201, 200, 24, 18, 0, 3, 4]) (orc := []) hF 5 hI ⟨[⟨204, [], .v (fnv96 x4 sv4)⟩, ⟨203, [], .v (.int .i64 (IntKind.i64.wrap (Int.fdiv (IntKind.u64.wrap (IntKind.i64.wrap (a1 + a3))) 2)))⟩, ⟨202, [], .v (.int .i64 s5.2)⟩, ⟨201, [], .v (.int .i64 a1)⟩, ⟨200, [], .v (.slice A0 n0 c0)⟩, ⟨24, [], .v (.int .i64 (IntKind.i64.wrap ((IntKind.i64.wrap ((IntKind.i64.wrap (Int.fdiv (IntKind.u64.wrap (IntKind.i64.wrap (a1 + a3))) 2)) + a2)) - s5.2)))⟩, ⟨18, [], .v (.int .i64 (IntKind.i64.wrap (Int.fdiv (IntKind.u64.wrap (IntKind.i64.wrap (a1 + a3))) 2)))⟩, ⟨0, [], .v (.slice A0 n0 c0)⟩, ⟨3, [], .v (.int .i64 a3)⟩, ⟨4, [], .v (fnv96 x4 sv4)⟩], [], [], [], none, none⟩ [] rfl (by kernel_rfl) trivial (fun ns_310 a w_311 hI => ?_)
          obtain ⟨hE', hmv, hmr⟩ := Ep.rebase hE hI
          replace hx4 := Kd.keep _ hx4 (hmv _)
          replace hr0 := Row.keep hr0 (hmv _) (fun b hb => hmr b (by simp [hb]))
          replace hE := hE'
          replace hI := hI.rebase
          clear hE' hmv hmr
          obtain ⟨t_312, hG_313, H0⟩ := bind_some H0
          refine callM_ hF hE hI (wanted_none rfl) rfl (args := [.slice A0 n0 c0, .int .i64 a1, .int .i64 s5.2, .int .i64 (IntKind.i64.wrap (Int.fdiv (IntKind.u64.wrap (IntKind.i64.wrap (a1 + a3))) 2)), fnv96 x4 sv4]) rfl (enters Try.func56 (by kernel_rfl) rfl) (fun sv_314 => .tuple #[]) [0] _ (ih l0 n0 a1 s5.2 (IntKind.i64.wrap (Int.fdiv (IntKind.u64.wrap (IntKind.i64.wrap (a1 + a3))) 2)) x4 A0 c0 base0 (svL []) w_311 (S := Lo S w w_311 ns_310 [rb A0]) hr0 hn0 (contI (S := Lo S w w_311 ns_310 [rb A0]) (w := w_311) (d := kdF96) (x := x4) (sv := (svL [])) hx4) (Lo.pick [0]) (hE.pick [0] (by decide)) (hE.pickLt [0]) _ hG_313) (.inl rfl) (fun sv_314 => ⟨[⟨205, [], .v (.tuple #[])⟩, ⟨204, [], .v (fnv96 x4 sv4)⟩, ⟨203, [], .v (.int .i64 (IntKind.i64.wrap (Int.fdiv (IntKind.u64.wrap (IntKind.i64.wrap (a1 + a3))) 2)))⟩, ⟨202, [], .v (.int .i64 s5.2)⟩, ⟨201, [], .v (.int .i64 a1)⟩, ⟨200, [], .v (.slice A0 n0 c0)⟩, ⟨24, [], .v (.int .i64 (IntKind.i64.wrap ((IntKind.i64.wrap ((IntKind.i64.wrap (Int.fdiv (IntKind.u64.wrap (IntKind.i64.wrap (a1 + a3))) 2)) + a2)) - s5.2)))⟩, ⟨18, [], .v (.int .i64 (IntKind.i64.wrap (Int.fdiv (IntKind.u64.wrap (IntKind.i64.wrap (a1 + a3))) 2)))⟩, ⟨0, [], .v (.slice A0 n0 c0)⟩, ⟨3, [], .v (.int .i64 a3)⟩, ⟨4, [], .v (fnv96 x4 sv4)⟩], [], [], [], none, none⟩) (fun sv_314 => by kernel_rfl) (fun sv_314 a w_315 hput hE' hI' hmv hmr hres hR => ?_)
          replace hx4 := Kd.keep _ hx4 (hmv _)
          replace hE := hE'
          replace hI := hI'
          clear hE' hI' hmv hmr
          obtain ⟨hr0, hn0⟩ := hR
          replace hr0 := Row.keep hr0 (hres _) (fun _ _ => rfl)
          clear hres
          refine chunkL_ (live := [24, 18, 0, 3, 4]) (orc := []) hF 0 hI ⟨[⟨24, [], .v (.int .i64 (IntKind.i64.wrap ((IntKind.i64.wrap ((IntKind.i64.wrap (Int.fdiv (IntKind.u64.wrap (IntKind.i64.wrap (a1 + a3))) 2)) + a2)) - s5.2)))⟩, ⟨18, [], .v (.int .i64 (IntKind.i64.wrap (Int.fdiv (IntKind.u64.wrap (IntKind.i64.wrap (a1 + a3))) 2)))⟩, ⟨0, [], .v (.slice A0 n0 c0)⟩, ⟨3, [], .v (.int .i64 a3)⟩, ⟨4, [], .v (fnv96 x4 sv4)⟩], [], [], [], none, none⟩ [] rfl (by kernel_rfl) trivial (fun ns_317 a w_318 hI => ?_)
          refine wpListIn_nil ?_
          refine then_normal ?_
          refine seq_region (live := [213, 24, 18, 0, 3, 4]) (orc := []) hF hI ⟨[⟨213, [], .v (.bool (decide ((IntKind.i64.wrap (Int.fdiv (IntKind.u64.wrap (IntKind.i64.wrap (a1 + a3))) 2)) < (IntKind.i64.wrap ((IntKind.i64.wrap ((IntKind.i64.wrap (Int.fdiv (IntKind.u64.wrap (IntKind.i64.wrap (a1 + a3))) 2)) + a2)) - s5.2))) && decide ((IntKind.i64.wrap ((IntKind.i64.wrap ((IntKind.i64.wrap (Int.fdiv (IntKind.u64.wrap (IntKind.i64.wrap (a1 + a3))) 2)) + a2)) - s5.2)) < a3)))⟩, ⟨24, [], .v (.int .i64 (IntKind.i64.wrap ((IntKind.i64.wrap ((IntKind.i64.wrap (Int.fdiv (IntKind.u64.wrap (IntKind.i64.wrap (a1 + a3))) 2)) + a2)) - s5.2)))⟩, ⟨18, [], .v (.int .i64 (IntKind.i64.wrap (Int.fdiv (IntKind.u64.wrap (IntKind.i64.wrap (a1 + a3))) 2)))⟩, ⟨0, [], .v (.slice A0 n0 c0)⟩, ⟨3, [], .v (.int .i64 a3)⟩, ⟨4, [], .v (fnv96 x4 sv4)⟩], [], [], [], none, none⟩ [] (by kernel_rfl) trivial (fun ns_319 a w_320 hI _ => ?_)
          refine cond_ hI ((decide ((IntKind.i64.wrap (Int.fdiv (IntKind.u64.wrap (IntKind.i64.wrap (a1 + a3))) 2)) < (IntKind.i64.wrap ((IntKind.i64.wrap ((IntKind.i64.wrap (Int.fdiv (IntKind.u64.wrap (IntKind.i64.wrap (a1 + a3))) 2)) + a2)) - s5.2))) && decide ((IntKind.i64.wrap ((IntKind.i64.wrap ((IntKind.i64.wrap (Int.fdiv (IntKind.u64.wrap (IntKind.i64.wrap (a1 + a3))) 2)) + a2)) - s5.2)) < a3))) rfl (fun hc_321 => ?_) (fun hc_321 => ?_)
          ·replace H0 := bif_t hc_321 H0
           refine wpIn_region_lit ?_
           refine chunkL_ (live := [218, 217, 216, 215, 214]) (orc := []) hF 5 hI ⟨[⟨218, [], .v (fnv96 x4 sv4)⟩, ⟨217, [], .v (.int .i64 a3)⟩, ⟨216, [], .v (.int .i64 (IntKind.i64.wrap ((IntKind.i64.wrap ((IntKind.i64.wrap (Int.fdiv (IntKind.u64.wrap (IntKind.i64.wrap (a1 + a3))) 2)) + a2)) - s5.2)))⟩, ⟨215, [], .v (.int .i64 (IntKind.i64.wrap (Int.fdiv (IntKind.u64.wrap (IntKind.i64.wrap (a1 + a3))) 2)))⟩, ⟨214, [], .v (.slice A0 n0 c0)⟩], [], [], [], none, none⟩ [] rfl (by kernel_rfl) trivial (fun ns_322 a w_323 hI => ?_)
           obtain ⟨hE', hmv, hmr⟩ := Ep.rebase hE hI
           replace hx4 := Kd.keep _ hx4 (hmv _)
           replace hr0 := Row.keep hr0 (hmv _) (fun b hb => hmr b (by simp [hb]))
           replace hE := hE'
           replace hI := hI.rebase
           clear hE' hmv hmr
           obtain ⟨t_324, hG_325, H0⟩ := bind_some H0
           refine callM_ hF hE hI (wanted_none rfl) rfl (args := [.slice A0 n0 c0, .int .i64 (IntKind.i64.wrap (Int.fdiv (IntKind.u64.wrap (IntKind.i64.wrap (a1 + a3))) 2)), .int .i64 (IntKind.i64.wrap ((IntKind.i64.wrap ((IntKind.i64.wrap (Int.fdiv (IntKind.u64.wrap (IntKind.i64.wrap (a1 + a3))) 2)) + a2)) - s5.2)), .int .i64 a3, fnv96 x4 sv4]) rfl (enters Try.func56 (by kernel_rfl) rfl) (fun sv_326 => .tuple #[]) [0] _ (ih t_312 n0 (IntKind.i64.wrap (Int.fdiv (IntKind.u64.wrap (IntKind.i64.wrap (a1 + a3))) 2)) (IntKind.i64.wrap ((IntKind.i64.wrap ((IntKind.i64.wrap (Int.fdiv (IntKind.u64.wrap (IntKind.i64.wrap (a1 + a3))) 2)) + a2)) - s5.2)) a3 x4 A0 c0 base0 (svL []) w_323 (S := Lo S w w_323 ns_322 [rb A0]) hr0 hn0 (contI (S := Lo S w w_323 ns_322 [rb A0]) (w := w_323) (d := kdF96) (x := x4) (sv := (svL [])) hx4) (Lo.pick [0]) (hE.pick [0] (by decide)) (hE.pickLt [0]) _ hG_325) (.inl rfl) (fun sv_326 => ⟨[⟨219, [], .v (.tuple #[])⟩, ⟨218, [], .v (fnv96 x4 sv4)⟩, ⟨217, [], .v (.int .i64 a3)⟩, ⟨216, [], .v (.int .i64 (IntKind.i64.wrap ((IntKind.i64.wrap ((IntKind.i64.wrap (Int.fdiv (IntKind.u64.wrap (IntKind.i64.wrap (a1 + a3))) 2)) + a2)) - s5.2)))⟩, ⟨215, [], .v (.int .i64 (IntKind.i64.wrap (Int.fdiv (IntKind.u64.wrap (IntKind.i64.wrap (a1 + a3))) 2)))⟩, ⟨214, [], .v (.slice A0 n0 c0)⟩], [], [], [], none, none⟩) (fun sv_326 => by kernel_rfl) (fun sv_326 a w_327 hput hE' hI' hmv hmr hres hR => ?_)
           replace hx4 := Kd.keep _ hx4 (hmv _)
           replace hE := hE'
           replace hI := hI'
           clear hE' hI' hmv hmr
           obtain ⟨hr0, hn0⟩ := hR
           replace hr0 := Row.keep hr0 (hres _) (fun _ _ => rfl)
           clear hres
           refine chunkL_ (live := []) (orc := []) hF 0 hI ⟨[], [], [], [], none, none⟩ [] rfl (by kernel_rfl) trivial (fun ns_329 a w_330 hI => ?_)
           refine wpListIn_nil ?_
           obtain ⟨hE', hmv, hmr⟩ := Ep.rebase hE hI
           replace hx4 := Kd.keep _ hx4 (hmv _)
           replace hr0 := Row.keep hr0 (hmv _) (fun b hb => hmr b (by simp [hb]))
           replace hE := hE'
           replace hI := hI.rebase
           clear hE' hmv hmr
           obtain rfl := Option.some.inj H0
           exact retN (retG hI rfl rfl ⟨svL [], rfl, hE.keeps hI, Row.keep hr0 (hE.out hI) (fun _ _ => rfl), hn0⟩)
          ·replace H0 := bif_f hc_321 H0
           refine wpIn_skip ?_
           obtain ⟨hE', hmv, hmr⟩ := Ep.rebase hE hI
           replace hx4 := Kd.keep _ hx4 (hmv _)
           replace hr0 := Row.keep hr0 (hmv _) (fun b hb => hmr b (by simp [hb]))
           replace hE := hE'
           replace hI := hI.rebase
           clear hE' hmv hmr
           obtain rfl := Option.some.inj H0
           exact retN (retG hI rfl rfl ⟨svL [], rfl, hE.keeps hI, Row.keep hr0 (hE.out hI) (fun _ _ => rfl), hn0⟩)
         ·replace H0 := bif_f hc_309 H0
          refine wpIn_skip ?_
          refine then_normal ?_
          refine seq_region (live := [213, 24, 18, 0, 3, 4]) (orc := []) hF hI ⟨[⟨213, [], .v (.bool (decide ((IntKind.i64.wrap (Int.fdiv (IntKind.u64.wrap (IntKind.i64.wrap (a1 + a3))) 2)) < (IntKind.i64.wrap ((IntKind.i64.wrap ((IntKind.i64.wrap (Int.fdiv (IntKind.u64.wrap (IntKind.i64.wrap (a1 + a3))) 2)) + a2)) - s5.2))) && decide ((IntKind.i64.wrap ((IntKind.i64.wrap ((IntKind.i64.wrap (Int.fdiv (IntKind.u64.wrap (IntKind.i64.wrap (a1 + a3))) 2)) + a2)) - s5.2)) < a3)))⟩, ⟨24, [], .v (.int .i64 (IntKind.i64.wrap ((IntKind.i64.wrap ((IntKind.i64.wrap (Int.fdiv (IntKind.u64.wrap (IntKind.i64.wrap (a1 + a3))) 2)) + a2)) - s5.2)))⟩, ⟨18, [], .v (.int .i64 (IntKind.i64.wrap (Int.fdiv (IntKind.u64.wrap (IntKind.i64.wrap (a1 + a3))) 2)))⟩, ⟨0, [], .v (.slice A0 n0 c0)⟩, ⟨3, [], .v (.int .i64 a3)⟩, ⟨4, [], .v (fnv96 x4 sv4)⟩], [], [], [], none, none⟩ [] (by kernel_rfl) trivial (fun ns_331 a w_332 hI _ => ?_)
          refine cond_ hI ((decide ((IntKind.i64.wrap (Int.fdiv (IntKind.u64.wrap (IntKind.i64.wrap (a1 + a3))) 2)) < (IntKind.i64.wrap ((IntKind.i64.wrap ((IntKind.i64.wrap (Int.fdiv (IntKind.u64.wrap (IntKind.i64.wrap (a1 + a3))) 2)) + a2)) - s5.2))) && decide ((IntKind.i64.wrap ((IntKind.i64.wrap ((IntKind.i64.wrap (Int.fdiv (IntKind.u64.wrap (IntKind.i64.wrap (a1 + a3))) 2)) + a2)) - s5.2)) < a3))) rfl (fun hc_333 => ?_) (fun hc_333 => ?_)
          ·replace H0 := bif_t hc_333 H0
           refine wpIn_region_lit ?_
           refine chunkL_ (live := [218, 217, 216, 215, 214]) (orc := []) hF 5 hI ⟨[⟨218, [], .v (fnv96 x4 sv4)⟩, ⟨217, [], .v (.int .i64 a3)⟩, ⟨216, [], .v (.int .i64 (IntKind.i64.wrap ((IntKind.i64.wrap ((IntKind.i64.wrap (Int.fdiv (IntKind.u64.wrap (IntKind.i64.wrap (a1 + a3))) 2)) + a2)) - s5.2)))⟩, ⟨215, [], .v (.int .i64 (IntKind.i64.wrap (Int.fdiv (IntKind.u64.wrap (IntKind.i64.wrap (a1 + a3))) 2)))⟩, ⟨214, [], .v (.slice A0 n0 c0)⟩], [], [], [], none, none⟩ [] rfl (by kernel_rfl) trivial (fun ns_334 a w_335 hI => ?_)
           obtain ⟨hE', hmv, hmr⟩ := Ep.rebase hE hI
           replace hx4 := Kd.keep _ hx4 (hmv _)
           replace hr0 := Row.keep hr0 (hmv _) (fun b hb => hmr b (by simp [hb]))
           replace hE := hE'
           replace hI := hI.rebase
           clear hE' hmv hmr
           obtain ⟨t_336, hG_337, H0⟩ := bind_some H0
           refine callM_ hF hE hI (wanted_none rfl) rfl (args := [.slice A0 n0 c0, .int .i64 (IntKind.i64.wrap (Int.fdiv (IntKind.u64.wrap (IntKind.i64.wrap (a1 + a3))) 2)), .int .i64 (IntKind.i64.wrap ((IntKind.i64.wrap ((IntKind.i64.wrap (Int.fdiv (IntKind.u64.wrap (IntKind.i64.wrap (a1 + a3))) 2)) + a2)) - s5.2)), .int .i64 a3, fnv96 x4 sv4]) rfl (enters Try.func56 (by kernel_rfl) rfl) (fun sv_338 => .tuple #[]) [0] _ (ih l0 n0 (IntKind.i64.wrap (Int.fdiv (IntKind.u64.wrap (IntKind.i64.wrap (a1 + a3))) 2)) (IntKind.i64.wrap ((IntKind.i64.wrap ((IntKind.i64.wrap (Int.fdiv (IntKind.u64.wrap (IntKind.i64.wrap (a1 + a3))) 2)) + a2)) - s5.2)) a3 x4 A0 c0 base0 (svL []) w_335 (S := Lo S w w_335 ns_334 [rb A0]) hr0 hn0 (contI (S := Lo S w w_335 ns_334 [rb A0]) (w := w_335) (d := kdF96) (x := x4) (sv := (svL [])) hx4) (Lo.pick [0]) (hE.pick [0] (by decide)) (hE.pickLt [0]) _ hG_337) (.inl rfl) (fun sv_338 => ⟨[⟨219, [], .v (.tuple #[])⟩, ⟨218, [], .v (fnv96 x4 sv4)⟩, ⟨217, [], .v (.int .i64 a3)⟩, ⟨216, [], .v (.int .i64 (IntKind.i64.wrap ((IntKind.i64.wrap ((IntKind.i64.wrap (Int.fdiv (IntKind.u64.wrap (IntKind.i64.wrap (a1 + a3))) 2)) + a2)) - s5.2)))⟩, ⟨215, [], .v (.int .i64 (IntKind.i64.wrap (Int.fdiv (IntKind.u64.wrap (IntKind.i64.wrap (a1 + a3))) 2)))⟩, ⟨214, [], .v (.slice A0 n0 c0)⟩], [], [], [], none, none⟩) (fun sv_338 => by kernel_rfl) (fun sv_338 a w_339 hput hE' hI' hmv hmr hres hR => ?_)
           replace hx4 := Kd.keep _ hx4 (hmv _)
           replace hE := hE'
           replace hI := hI'
           clear hE' hI' hmv hmr
           obtain ⟨hr0, hn0⟩ := hR
           replace hr0 := Row.keep hr0 (hres _) (fun _ _ => rfl)
           clear hres
           refine chunkL_ (live := []) (orc := []) hF 0 hI ⟨[], [], [], [], none, none⟩ [] rfl (by kernel_rfl) trivial (fun ns_341 a w_342 hI => ?_)
           refine wpListIn_nil ?_
           obtain ⟨hE', hmv, hmr⟩ := Ep.rebase hE hI
           replace hx4 := Kd.keep _ hx4 (hmv _)
           replace hr0 := Row.keep hr0 (hmv _) (fun b hb => hmr b (by simp [hb]))
           replace hE := hE'
           replace hI := hI.rebase
           clear hE' hmv hmr
           obtain rfl := Option.some.inj H0
           exact retN (retG hI rfl rfl ⟨svL [], rfl, hE.keeps hI, Row.keep hr0 (hE.out hI) (fun _ _ => rfl), hn0⟩)
          ·replace H0 := bif_f hc_333 H0
           refine wpIn_skip ?_
           obtain ⟨hE', hmv, hmr⟩ := Ep.rebase hE hI
           replace hx4 := Kd.keep _ hx4 (hmv _)
           replace hr0 := Row.keep hr0 (hmv _) (fun b hb => hmr b (by simp [hb]))
           replace hE := hE'
           replace hI := hI.rebase
           clear hE' hmv hmr
           obtain rfl := Option.some.inj H0
           exact retN (retG hI rfl rfl ⟨svL [], rfl, hE.keeps hI, Row.keep hr0 (hE.out hI) (fun _ _ => rfl), hn0⟩)
theorem G_wit_spot_56.calls (l0 : (List Wit_spot)) (n0 : Nat) (a1 : Int) (a2 : Int) (a3 : Int) (x4 : Fn96) (A0 : Option Addr) (c0 base0 : Nat) (sv4 : SV) (w : World) {S : Nat → Prop} (hr0 : Row kd_Wit_spot 91 S w base0 A0 c0 l0) (hn0 : l0.length = n0) (hx4 : (kdF96).cont S w x4 sv4) (hms : ∀ b, S b → b ∉ ([rb A0] : List (List Nat)).flatten) (hmd : ([rb A0] : List (List Nat)).flatten.Nodup) (hml : ∀ b ∈ ([rb A0] : List (List Nat)).flatten, b < w.heap.size) (r : (List Wit_spot)) (h : G_wit_spot_56 l0 n0 a1 a2 a3 x4 = some r) :
    Calls Try.prog 56 #[.slice A0 n0 c0, .int .i64 a1, .int .i64 a2, .int .i64 a3, fnv96 x4 sv4] w fun e w' => ∃ sv : SV, e = .returned (.tuple #[]) ∧ Keeps (([rb A0] : List (List Nat)).flatten) w w' ∧ Row kd_Wit_spot 91 (fun b => w.heap.size ≤ b ∨ S b) w' base0 A0 c0 r ∧ r.length = n0 := by
  obtain ⟨n, hn⟩ := recω_some h
  exact G_wit_spot_56.callsN n l0 n0 a1 a2 a3 x4 A0 c0 base0 sv4 w hr0 hn0 hx4 hms hmd hml r hn

/-! ### slices.stableCmpFunc[porthole/wit.spot]: function 53 -/
noncomputable def G_wit_spot_53.b1 (l0 : (List Wit_spot)) (n0 : Nat) (a1 : Int) (x2 : Fn96) (s1 : Int × Int × (List Wit_spot)) : Option (Stp (Int × Int × (List Wit_spot)) (Ex (Int × Int × (List Wit_spot)) ((List Wit_spot)))) := (bif decide (s1.1 ≤ a1) then ((G_wit_spot_55 s1.2.2 n0 s1.2.1 s1.1 x2).bind fun t_13 => some (.next ((IntKind.i64.wrap (s1.1 + 20)), s1.1, t_13))) else some (.out (.brk (s1.1, s1.2.1, s1.2.2))))
noncomputable def G_wit_spot_53.b3 (l0 : (List Wit_spot)) (n0 : Nat) (a1 : Int) (x2 : Fn96) (s1 : Int × Int × (List Wit_spot)) (t_31 : (List Wit_spot)) (s2 : Int × (List Wit_spot)) (s3 : Int × Int × (List Wit_spot)) : Option (Stp (Int × Int × (List Wit_spot)) (Ex (Int × Int × (List Wit_spot)) ((List Wit_spot)))) := (bif decide (s3.1 ≤ a1) then ((G_wit_spot_56 s3.2.2 n0 s3.2.1 (IntKind.i64.wrap (s3.2.1 + s2.1)) s3.1 x2).bind fun t_54 => some (.next ((IntKind.i64.wrap (s3.1 + (IntKind.i64.wrap (2 * s2.1)))), s3.1, t_54))) else some (.out (.brk (s3.1, s3.2.1, s3.2.2))))
noncomputable def G_wit_spot_53.b2 (l0 : (List Wit_spot)) (n0 : Nat) (a1 : Int) (x2 : Fn96) (s1 : Int × Int × (List Wit_spot)) (t_31 : (List Wit_spot)) (s2 : Int × (List Wit_spot)) : Option (Stp (Int × (List Wit_spot)) (Ex (Int × (List Wit_spot)) ((List Wit_spot)))) := (bif decide (s2.1 < a1) then ((loopω (G_wit_spot_53.b3 l0 n0 a1 x2 s1 t_31 s2) ((IntKind.i64.wrap (2 * s2.1)), 0, s2.2)).bind fun o => o.on (fun s3 => (bif decide ((IntKind.i64.wrap (s3.2.1 + s2.1)) < a1) then ((G_wit_spot_56 s3.2.2 n0 s3.2.1 (IntKind.i64.wrap (s3.2.1 + s2.1)) a1 x2).bind fun t_77 => some (.next ((IntKind.i64.wrap (s2.1 * 2)), t_77))) else some (.next ((IntKind.i64.wrap (s2.1 * 2)), s3.2.2)))) (fun r => some (.out (.ret r)))) else some (.out (.brk (s2.1, s2.2))))
noncomputable def G_wit_spot_53 (l0 : (List Wit_spot)) (n0 : Nat) (a1 : Int) (x2 : Fn96) : Option ((List Wit_spot)) := ((loopω (G_wit_spot_53.b1 l0 n0 a1 x2) (20, 0, l0)).bind fun o => o.on (fun s1 => ((G_wit_spot_55 s1.2.2 n0 s1.2.1 a1 x2).bind fun t_31 => ((loopω (G_wit_spot_53.b2 l0 n0 a1 x2 s1 t_31) (20, t_31)).bind fun o => o.on (fun s2 => some s2.2) (fun r => some r)))) (fun r => some r))
set_option maxRecDepth 100000 in
set_option maxHeartbeats 4000000 in
theorem G_wit_spot_53.calls (l0 : (List Wit_spot)) (n0 : Nat) (a1 : Int) (x2 : Fn96) (A0 : Option Addr) (c0 base0 : Nat) (sv2 : SV) (w : World) {S : Nat → Prop} (hr0 : Row kd_Wit_spot 91 S w base0 A0 c0 l0) (hn0 : l0.length = n0) (hx2 : (kdF96).cont S w x2 sv2) (hms : ∀ b, S b → b ∉ ([rb A0] : List (List Nat)).flatten) (hmd : ([rb A0] : List (List Nat)).flatten.Nodup) (hml : ∀ b ∈ ([rb A0] : List (List Nat)).flatten, b < w.heap.size) (r : (List Wit_spot)) (h : G_wit_spot_53 l0 n0 a1 x2 = some r) :
    Calls Try.prog 53 #[.slice A0 n0 c0, .int .i64 a1, fnv96 x2 sv2] w fun e w' => ∃ sv : SV, e = .returned (.tuple #[]) ∧ Keeps (([rb A0] : List (List Nat)).flatten) w w' ∧ Row kd_Wit_spot 91 (fun b => w.heap.size ≤ b ∨ S b) w' base0 A0 c0 r ∧ r.length = n0 := by
  replace hx2 := Kd.keep _ hx2 (Mv.start w hms)
  replace hr0 := Row.keep hr0 (Mv.start w hms) (fun _ _ => rfl)
  unfold G_wit_spot_53 at h
  have H0 := h
  clear h
  refine enter Try.func53 rfl [.slice A0 n0 c0, .int .i64 a1, fnv96 x2 sv2] (n := 63) rfl (Nat.le_of_ble_eq_true rfl) (fun a hI => ?_)
  have hF : FOpen Fence.wide := .inl rfl
  have hE := Ep.startM w [rb A0] hmd hml
  refine seq_region (live := [6, 0, 1, 2]) (orc := []) hF hI ⟨[⟨6, [], .v (.int .i64 20)⟩, ⟨0, [], .v (.slice A0 n0 c0)⟩, ⟨1, [], .v (.int .i64 a1)⟩, ⟨2, [], .v (fnv96 x2 sv2)⟩], [], [], [], none, none⟩ [] (by kernel_rfl) trivial (fun ns_1 a w_2 hI _ => ?_)
  refine seq_region (live := [8, 7, 6, 0, 1, 2]) (orc := []) hF hI ⟨[⟨8, [], .v (.int .i64 20)⟩, ⟨7, [], .v (.int .i64 0)⟩, ⟨6, [], .v (.int .i64 20)⟩, ⟨0, [], .v (.slice A0 n0 c0)⟩, ⟨1, [], .v (.int .i64 a1)⟩, ⟨2, [], .v (fnv96 x2 sv2)⟩], [], [], [], none, none⟩ [] (by kernel_rfl) trivial (fun ns_3 a w_4 hI _ => ?_)
  refine wpIn_seq ?_
  obtain ⟨hE', hmv, hmr⟩ := Ep.rebase hE hI
  replace hx2 := Kd.keep _ hx2 (hmv _)
  replace hr0 := Row.keep hr0 (hmv _) (fun b hb => hmr b (by simp [hb]))
  replace hE := hE'
  replace hI := hI.rebase
  clear hE' hmv hmr
  obtain ⟨o_24, hL_25, H0⟩ := bind_some H0
  refine block_loop (fun (s1 : Int × Int × (List Wit_spot)) a w_95 => ∃ (ow ns : List Nat) , ((kdF96).cont (Lo S w w_95 ow [rb A0]) w_95 x2 sv2) ∧ (Row kd_Wit_spot 91 (Lo S w w_95 ow [rb A0]) w_95 base0 A0 c0 s1.2.2) ∧ (s1.2.2.length = n0) ∧ Ep ([rb A0] : List (List Nat)).flatten w w_95 ow [rb A0] ∧ St w_95 ow 63 ⟨[⟨8, [], .v (.int .i64 s1.1)⟩, ⟨7, [], .v (.int .i64 s1.2.1)⟩, ⟨6, [], .v (.int .i64 20)⟩, ⟨0, [], .v (.slice A0 n0 c0)⟩, ⟨1, [], .v (.int .i64 a1)⟩, ⟨2, [], .v (fnv96 x2 sv2)⟩], [], [], [], none, none⟩ ns a w_95) (20, 0, l0) hL_25 ⟨_, _, hx2, hr0, hn0, hE, hI.pick [8, 7, 6, 0, 1, 2] 0 ⟨[⟨8, [], .v (.int .i64 20)⟩, ⟨7, [], .v (.int .i64 0)⟩, ⟨6, [], .v (.int .i64 20)⟩, ⟨0, [], .v (.slice A0 n0 c0)⟩, ⟨1, [], .v (.int .i64 a1)⟩, ⟨2, [], .v (fnv96 x2 sv2)⟩], [], [], [], none, none⟩ (by kernel_rfl)⟩ ?_ ?_
  ·clear hI hE
   rintro s1 a w_5 ⟨ow_7, ns_6, hx2, hr0, hn0, hE, hI⟩ r1 H1
   unfold G_wit_spot_53.b1 at H1
   refine wpIn_seq ?_
   refine seq_region (live := [13, 8, 7, 6, 0, 1, 2]) (orc := []) hF hI ⟨[⟨13, [], .v (.bool (decide (s1.1 ≤ a1)))⟩, ⟨8, [], .v (.int .i64 s1.1)⟩, ⟨7, [], .v (.int .i64 s1.2.1)⟩, ⟨6, [], .v (.int .i64 20)⟩, ⟨0, [], .v (.slice A0 n0 c0)⟩, ⟨1, [], .v (.int .i64 a1)⟩, ⟨2, [], .v (fnv96 x2 sv2)⟩], [], [], [], none, none⟩ [] (by kernel_rfl) trivial (fun ns_8 a w_9 hI _ => ?_)
   refine cond_ hI (decide (s1.1 ≤ a1)) rfl (fun hc_10 => ?_) (fun hc_10 => ?_)
   ·replace H1 := bif_t hc_10 H1
    refine wpIn_skip ?_
    refine then_normal ?_
    refine wpIn_block ?_
    refine wpIn_seq ?_
    refine wpIn_region_lit ?_
    refine chunkL_ (live := [17, 16, 15, 14, 8, 6, 0, 1, 2]) (orc := []) hF 4 hI ⟨[⟨17, [], .v (fnv96 x2 sv2)⟩, ⟨16, [], .v (.int .i64 s1.1)⟩, ⟨15, [], .v (.int .i64 s1.2.1)⟩, ⟨14, [], .v (.slice A0 n0 c0)⟩, ⟨8, [], .v (.int .i64 s1.1)⟩, ⟨6, [], .v (.int .i64 20)⟩, ⟨0, [], .v (.slice A0 n0 c0)⟩, ⟨1, [], .v (.int .i64 a1)⟩, ⟨2, [], .v (fnv96 x2 sv2)⟩], [], [], [], none, none⟩ [] rfl (by kernel_rfl) trivial (fun ns_11 a w_12 hI => ?_)
    obtain ⟨hE', hmv, hmr⟩ := Ep.rebase hE hI
    replace hx2 := Kd.keep _ hx2 (hmv _)
    replace hr0 := Row.keep hr0 (hmv _) (fun b hb => hmr b (by simp [hb]))
    replace hE := hE'
    replace hI := hI.rebase
    clear hE' hmv hmr
    obtain ⟨t_13, hG_14, H1⟩ := bind_some H1
    refine callM_ hF hE hI (wanted_none rfl) rfl (args := [.slice A0 n0 c0, .int .i64 s1.2.1, .int .i64 s1.1, fnv96 x2 sv2]) rfl (enters Try.func55 (by kernel_rfl) rfl) (fun sv_15 => .tuple #[]) [0] _ (G_wit_spot_55.calls s1.2.2 n0 s1.2.1 s1.1 x2 A0 c0 base0 (svL []) w_12 (S := Lo S w w_12 ns_11 [rb A0]) hr0 hn0 (contI (S := Lo S w w_12 ns_11 [rb A0]) (w := w_12) (d := kdF96) (x := x2) (sv := (svL [])) hx2) (Lo.pick [0]) (hE.pick [0] (by decide)) (hE.pickLt [0]) _ hG_14) (.inl rfl) (fun sv_15 => ⟨[⟨18, [], .v (.tuple #[])⟩, ⟨17, [], .v (fnv96 x2 sv2)⟩, ⟨16, [], .v (.int .i64 s1.1)⟩, ⟨15, [], .v (.int .i64 s1.2.1)⟩, ⟨14, [], .v (.slice A0 n0 c0)⟩, ⟨8, [], .v (.int .i64 s1.1)⟩, ⟨6, [], .v (.int .i64 20)⟩, ⟨0, [], .v (.slice A0 n0 c0)⟩, ⟨1, [], .v (.int .i64 a1)⟩, ⟨2, [], .v (fnv96 x2 sv2)⟩], [], [], [], none, none⟩) (fun sv_15 => by kernel_rfl) (fun sv_15 a w_16 hput hE' hI' hmv hmr hres hR => ?_)
    replace hx2 := Kd.keep _ hx2 (hmv _)
    replace hE := hE'
    replace hI := hI'
    clear hE' hI' hmv hmr
    obtain ⟨hr0, hn0⟩ := hR
    replace hr0 := Row.keep hr0 (hres _) (fun _ _ => rfl)
    clear hres
    refine chunkL_ (live := [8, 6, 0, 1, 2]) (orc := []) hF 0 hI ⟨[⟨8, [], .v (.int .i64 s1.1)⟩, ⟨6, [], .v (.int .i64 20)⟩, ⟨0, [], .v (.slice A0 n0 c0)⟩, ⟨1, [], .v (.int .i64 a1)⟩, ⟨2, [], .v (fnv96 x2 sv2)⟩], [], [], [], none, none⟩ [] rfl (by kernel_rfl) trivial (fun ns_18 a w_19 hI => ?_)
    refine wpListIn_nil ?_
    refine then_normal ?_
    refine seq_region (live := [7, 8, 6, 0, 1, 2]) (orc := []) hF hI ⟨[⟨7, [], .v (.int .i64 s1.1)⟩, ⟨8, [], .v (.int .i64 s1.1)⟩, ⟨6, [], .v (.int .i64 20)⟩, ⟨0, [], .v (.slice A0 n0 c0)⟩, ⟨1, [], .v (.int .i64 a1)⟩, ⟨2, [], .v (fnv96 x2 sv2)⟩], [], [], [], none, none⟩ [] (by kernel_rfl) trivial (fun ns_20 a w_21 hI _ => ?_)
    refine region_ (live := [8, 7, 6, 0, 1, 2]) (orc := []) hF hI ⟨[⟨8, [], .v (.int .i64 (IntKind.i64.wrap (s1.1 + 20)))⟩, ⟨7, [], .v (.int .i64 s1.1)⟩, ⟨6, [], .v (.int .i64 20)⟩, ⟨0, [], .v (.slice A0 n0 c0)⟩, ⟨1, [], .v (.int .i64 a1)⟩, ⟨2, [], .v (fnv96 x2 sv2)⟩], [], [], [], none, none⟩ [] (by kernel_rfl) trivial (fun ns_22 a w_23 hI _ => ?_)
    refine inBlock_normal ?_
    refine then_normal ?_
    obtain ⟨hE', hmv, hmr⟩ := Ep.rebase hE hI
    replace hx2 := Kd.keep _ hx2 (hmv _)
    replace hr0 := Row.keep hr0 (hmv _) (fun b hb => hmr b (by simp [hb]))
    replace hE := hE'
    replace hI := hI.rebase
    clear hE' hmv hmr
    obtain rfl := Option.some.inj H1
    exact ⟨_, rfl, ⟨_, _, hx2, hr0, hn0, hE, hI.pick [8, 7, 6, 0, 1, 2] 0 ⟨[⟨8, [], .v (.int .i64 (IntKind.i64.wrap (s1.1 + 20)))⟩, ⟨7, [], .v (.int .i64 s1.1)⟩, ⟨6, [], .v (.int .i64 20)⟩, ⟨0, [], .v (.slice A0 n0 c0)⟩, ⟨1, [], .v (.int .i64 a1)⟩, ⟨2, [], .v (fnv96 x2 sv2)⟩], [], [], [], none, none⟩ (by kernel_rfl)⟩⟩
   ·replace H1 := bif_f hc_10 H1
    refine wpIn_exit ?_
    refine then_exit ?_
    refine then_exit ?_
    obtain ⟨hE', hmv, hmr⟩ := Ep.rebase hE hI
    replace hx2 := Kd.keep _ hx2 (hmv _)
    replace hr0 := Row.keep hr0 (hmv _) (fun b hb => hmr b (by simp [hb]))
    replace hE := hE'
    replace hI := hI.rebase
    clear hE' hmv hmr
    obtain rfl := Option.some.inj H1
    exact .inl ⟨_, rfl, rfl, ⟨_, _, hx2, hr0, hn0, hE, hI.pick [8, 7, 6, 0, 1, 2] 0 ⟨[⟨8, [], .v (.int .i64 s1.1)⟩, ⟨7, [], .v (.int .i64 s1.2.1)⟩, ⟨6, [], .v (.int .i64 20)⟩, ⟨0, [], .v (.slice A0 n0 c0)⟩, ⟨1, [], .v (.int .i64 a1)⟩, ⟨2, [], .v (fnv96 x2 sv2)⟩], [], [], [], none, none⟩ (by kernel_rfl)⟩⟩
  ·clear hI hE
   rintro s1 a w_26 ho ⟨ow_28, ns_27, hx2, hr0, hn0, hE, hI⟩
   subst ho
   replace H0 : (((G_wit_spot_55 s1.2.2 n0 s1.2.1 a1 x2).bind fun t_31 => ((loopω (G_wit_spot_53.b2 l0 n0 a1 x2 s1 t_31) (20, t_31)).bind fun o => o.on (fun s2 => some s2.2) (fun r => some r))) : Option ((List Wit_spot))) = _ := H0
   refine then_normal ?_
   refine wpIn_seq ?_
   refine wpIn_region_lit ?_
   refine chunkL_ (live := [26, 25, 24, 23, 6, 0, 1, 2]) (orc := []) hF 4 hI ⟨[⟨26, [], .v (fnv96 x2 sv2)⟩, ⟨25, [], .v (.int .i64 a1)⟩, ⟨24, [], .v (.int .i64 s1.2.1)⟩, ⟨23, [], .v (.slice A0 n0 c0)⟩, ⟨6, [], .v (.int .i64 20)⟩, ⟨0, [], .v (.slice A0 n0 c0)⟩, ⟨1, [], .v (.int .i64 a1)⟩, ⟨2, [], .v (fnv96 x2 sv2)⟩], [], [], [], none, none⟩ [] rfl (by kernel_rfl) trivial (fun ns_29 a w_30 hI => ?_)
   obtain ⟨hE', hmv, hmr⟩ := Ep.rebase hE hI
   replace hx2 := Kd.keep _ hx2 (hmv _)
   replace hr0 := Row.keep hr0 (hmv _) (fun b hb => hmr b (by simp [hb]))
   replace hE := hE'
   replace hI := hI.rebase
   clear hE' hmv hmr
   obtain ⟨t_31, hG_32, H0⟩ := bind_some H0
   refine callM_ hF hE hI (wanted_none rfl) rfl (args := [.slice A0 n0 c0, .int .i64 s1.2.1, .int .i64 a1, fnv96 x2 sv2]) rfl (enters Try.func55 (by kernel_rfl) rfl) (fun sv_33 => .tuple #[]) [0] _ (G_wit_spot_55.calls s1.2.2 n0 s1.2.1 a1 x2 A0 c0 base0 (svL []) w_30 (S := Lo S w w_30 ns_29 [rb A0]) hr0 hn0 (contI (S := Lo S w w_30 ns_29 [rb A0]) (w := w_30) (d := kdF96) (x := x2) (sv := (svL [])) hx2) (Lo.pick [0]) (hE.pick [0] (by decide)) (hE.pickLt [0]) _ hG_32) (.inl rfl) (fun sv_33 => ⟨[⟨27, [], .v (.tuple #[])⟩, ⟨26, [], .v (fnv96 x2 sv2)⟩, ⟨25, [], .v (.int .i64 a1)⟩, ⟨24, [], .v (.int .i64 s1.2.1)⟩, ⟨23, [], .v (.slice A0 n0 c0)⟩, ⟨6, [], .v (.int .i64 20)⟩, ⟨0, [], .v (.slice A0 n0 c0)⟩, ⟨1, [], .v (.int .i64 a1)⟩, ⟨2, [], .v (fnv96 x2 sv2)⟩], [], [], [], none, none⟩) (fun sv_33 => by kernel_rfl) (fun sv_33 a w_34 hput hE' hI' hmv hmr hres hR => ?_)
   replace hx2 := Kd.keep _ hx2 (hmv _)
   replace hE := hE'
   replace hI := hI'
   clear hE' hI' hmv hmr
   obtain ⟨hr0, hn0⟩ := hR
   replace hr0 := Row.keep hr0 (hres _) (fun _ _ => rfl)
   clear hres
   refine chunkL_ (live := [6, 0, 1, 2]) (orc := []) hF 0 hI ⟨[⟨6, [], .v (.int .i64 20)⟩, ⟨0, [], .v (.slice A0 n0 c0)⟩, ⟨1, [], .v (.int .i64 a1)⟩, ⟨2, [], .v (fnv96 x2 sv2)⟩], [], [], [], none, none⟩ [] rfl (by kernel_rfl) trivial (fun ns_36 a w_37 hI => ?_)
   refine wpListIn_nil ?_
   refine then_normal ?_
   obtain ⟨hE', hmv, hmr⟩ := Ep.rebase hE hI
   replace hx2 := Kd.keep _ hx2 (hmv _)
   replace hr0 := Row.keep hr0 (hmv _) (fun b hb => hmr b (by simp [hb]))
   replace hE := hE'
   replace hI := hI.rebase
   clear hE' hmv hmr
   obtain ⟨o_89, hL_90, H0⟩ := bind_some H0
   refine block_loop (fun (s2 : Int × (List Wit_spot)) a w_94 => ∃ (ow ns : List Nat) , ((kdF96).cont (Lo S w w_94 ow [rb A0]) w_94 x2 sv2) ∧ (s2.2.length = n0) ∧ (Row kd_Wit_spot 91 (Lo S w w_94 ow [rb A0]) w_94 base0 A0 c0 s2.2) ∧ Ep ([rb A0] : List (List Nat)).flatten w w_94 ow [rb A0] ∧ St w_94 ow 63 ⟨[⟨6, [], .v (.int .i64 s2.1)⟩, ⟨0, [], .v (.slice A0 n0 c0)⟩, ⟨1, [], .v (.int .i64 a1)⟩, ⟨2, [], .v (fnv96 x2 sv2)⟩], [], [], [], none, none⟩ ns a w_94) (20, t_31) hL_90 ⟨_, _, hx2, hn0, hr0, hE, hI.pick [6, 0, 1, 2] 0 ⟨[⟨6, [], .v (.int .i64 20)⟩, ⟨0, [], .v (.slice A0 n0 c0)⟩, ⟨1, [], .v (.int .i64 a1)⟩, ⟨2, [], .v (fnv96 x2 sv2)⟩], [], [], [], none, none⟩ (by kernel_rfl)⟩ ?_ ?_
   ·clear hI hE
    rintro s2 a w_38 ⟨ow_40, ns_39, hx2, hn0, hr0, hE, hI⟩ r2 H1
    unfold G_wit_spot_53.b2 at H1
    refine wpIn_seq ?_
    refine seq_region (live := [30, 6, 0, 1, 2]) (orc := []) hF hI ⟨[⟨30, [], .v (.bool (decide (s2.1 < a1)))⟩, ⟨6, [], .v (.int .i64 s2.1)⟩, ⟨0, [], .v (.slice A0 n0 c0)⟩, ⟨1, [], .v (.int .i64 a1)⟩, ⟨2, [], .v (fnv96 x2 sv2)⟩], [], [], [], none, none⟩ [] (by kernel_rfl) trivial (fun ns_41 a w_42 hI _ => ?_)
    refine cond_ hI (decide (s2.1 < a1)) rfl (fun hc_43 => ?_) (fun hc_43 => ?_)
    ·replace H1 := bif_t hc_43 H1
     refine wpIn_skip ?_
     refine then_normal ?_
     refine wpIn_block ?_
     refine seq_region (live := [8, 7, 6, 0, 1, 2]) (orc := []) hF hI ⟨[⟨8, [], .v (.int .i64 (IntKind.i64.wrap (2 * s2.1)))⟩, ⟨7, [], .v (.int .i64 0)⟩, ⟨6, [], .v (.int .i64 s2.1)⟩, ⟨0, [], .v (.slice A0 n0 c0)⟩, ⟨1, [], .v (.int .i64 a1)⟩, ⟨2, [], .v (fnv96 x2 sv2)⟩], [], [], [], none, none⟩ [] (by kernel_rfl) trivial (fun ns_44 a w_45 hI _ => ?_)
     refine wpIn_seq ?_
     obtain ⟨hE', hmv, hmr⟩ := Ep.rebase hE hI
     replace hx2 := Kd.keep _ hx2 (hmv _)
     replace hr0 := Row.keep hr0 (hmv _) (fun b hb => hmr b (by simp [hb]))
     replace hE := hE'
     replace hI := hI.rebase
     clear hE' hmv hmr
     obtain ⟨o_65, hL_66, H1⟩ := bind_some H1
     refine block_loop (fun (s3 : Int × Int × (List Wit_spot)) a w_88 => ∃ (ow ns : List Nat) , ((kdF96).cont (Lo S w w_88 ow [rb A0]) w_88 x2 sv2) ∧ (s3.2.2.length = n0) ∧ (Row kd_Wit_spot 91 (Lo S w w_88 ow [rb A0]) w_88 base0 A0 c0 s3.2.2) ∧ Ep ([rb A0] : List (List Nat)).flatten w w_88 ow [rb A0] ∧ St w_88 ow 63 ⟨[⟨8, [], .v (.int .i64 s3.1)⟩, ⟨7, [], .v (.int .i64 s3.2.1)⟩, ⟨6, [], .v (.int .i64 s2.1)⟩, ⟨0, [], .v (.slice A0 n0 c0)⟩, ⟨1, [], .v (.int .i64 a1)⟩, ⟨2, [], .v (fnv96 x2 sv2)⟩], [], [], [], none, none⟩ ns a w_88) ((IntKind.i64.wrap (2 * s2.1)), 0, s2.2) hL_66 ⟨_, _, hx2, hn0, hr0, hE, hI.pick [8, 7, 6, 0, 1, 2] 0 ⟨[⟨8, [], .v (.int .i64 (IntKind.i64.wrap (2 * s2.1)))⟩, ⟨7, [], .v (.int .i64 0)⟩, ⟨6, [], .v (.int .i64 s2.1)⟩, ⟨0, [], .v (.slice A0 n0 c0)⟩, ⟨1, [], .v (.int .i64 a1)⟩, ⟨2, [], .v (fnv96 x2 sv2)⟩], [], [], [], none, none⟩ (by kernel_rfl)⟩ ?_ ?_
     ·clear hI hE
      rintro s3 a w_46 ⟨ow_48, ns_47, hx2, hn0, hr0, hE, hI⟩ r3 H2
      unfold G_wit_spot_53.b3 at H2
      refine wpIn_seq ?_
      refine seq_region (live := [35, 8, 7, 6, 0, 1, 2]) (orc := []) hF hI ⟨[⟨35, [], .v (.bool (decide (s3.1 ≤ a1)))⟩, ⟨8, [], .v (.int .i64 s3.1)⟩, ⟨7, [], .v (.int .i64 s3.2.1)⟩, ⟨6, [], .v (.int .i64 s2.1)⟩, ⟨0, [], .v (.slice A0 n0 c0)⟩, ⟨1, [], .v (.int .i64 a1)⟩, ⟨2, [], .v (fnv96 x2 sv2)⟩], [], [], [], none, none⟩ [] (by kernel_rfl) trivial (fun ns_49 a w_50 hI _ => ?_)
      refine cond_ hI (decide (s3.1 ≤ a1)) rfl (fun hc_51 => ?_) (fun hc_51 => ?_)
      ·replace H2 := bif_t hc_51 H2
       refine wpIn_skip ?_
       refine then_normal ?_
       refine wpIn_block ?_
       refine wpIn_seq ?_
       refine wpIn_region_lit ?_
       refine chunkL_ (live := [42, 41, 40, 37, 36, 8, 6, 0, 1, 2]) (orc := []) hF 7 hI ⟨[⟨42, [], .v (fnv96 x2 sv2)⟩, ⟨41, [], .v (.int .i64 s3.1)⟩, ⟨40, [], .v (.int .i64 (IntKind.i64.wrap (s3.2.1 + s2.1)))⟩, ⟨37, [], .v (.int .i64 s3.2.1)⟩, ⟨36, [], .v (.slice A0 n0 c0)⟩, ⟨8, [], .v (.int .i64 s3.1)⟩, ⟨6, [], .v (.int .i64 s2.1)⟩, ⟨0, [], .v (.slice A0 n0 c0)⟩, ⟨1, [], .v (.int .i64 a1)⟩, ⟨2, [], .v (fnv96 x2 sv2)⟩], [], [], [], none, none⟩ [] rfl (by kernel_rfl) trivial (fun ns_52 a w_53 hI => ?_)
       obtain ⟨hE', hmv, hmr⟩ := Ep.rebase hE hI
       replace hx2 := Kd.keep _ hx2 (hmv _)
       replace hr0 := Row.keep hr0 (hmv _) (fun b hb => hmr b (by simp [hb]))
       replace hE := hE'
       replace hI := hI.rebase
       clear hE' hmv hmr
       obtain ⟨t_54, hG_55, H2⟩ := bind_some H2
       refine callM_ hF hE hI (wanted_none rfl) rfl (args := [.slice A0 n0 c0, .int .i64 s3.2.1, .int .i64 (IntKind.i64.wrap (s3.2.1 + s2.1)), .int .i64 s3.1, fnv96 x2 sv2]) rfl (enters Try.func56 (by kernel_rfl) rfl) (fun sv_56 => .tuple #[]) [0] _ (G_wit_spot_56.calls s3.2.2 n0 s3.2.1 (IntKind.i64.wrap (s3.2.1 + s2.1)) s3.1 x2 A0 c0 base0 (svL []) w_53 (S := Lo S w w_53 ns_52 [rb A0]) hr0 hn0 (contI (S := Lo S w w_53 ns_52 [rb A0]) (w := w_53) (d := kdF96) (x := x2) (sv := (svL [])) hx2) (Lo.pick [0]) (hE.pick [0] (by decide)) (hE.pickLt [0]) _ hG_55) (.inl rfl) (fun sv_56 => ⟨[⟨43, [], .v (.tuple #[])⟩, ⟨42, [], .v (fnv96 x2 sv2)⟩, ⟨41, [], .v (.int .i64 s3.1)⟩, ⟨40, [], .v (.int .i64 (IntKind.i64.wrap (s3.2.1 + s2.1)))⟩, ⟨37, [], .v (.int .i64 s3.2.1)⟩, ⟨36, [], .v (.slice A0 n0 c0)⟩, ⟨8, [], .v (.int .i64 s3.1)⟩, ⟨6, [], .v (.int .i64 s2.1)⟩, ⟨0, [], .v (.slice A0 n0 c0)⟩, ⟨1, [], .v (.int .i64 a1)⟩, ⟨2, [], .v (fnv96 x2 sv2)⟩], [], [], [], none, none⟩) (fun sv_56 => by kernel_rfl) (fun sv_56 a w_57 hput hE' hI' hmv hmr hres hR => ?_)
       replace hx2 := Kd.keep _ hx2 (hmv _)
       replace hE := hE'
       replace hI := hI'
       clear hE' hI' hmv hmr
       obtain ⟨hr0, hn0⟩ := hR
       replace hr0 := Row.keep hr0 (hres _) (fun _ _ => rfl)
       clear hres
       refine chunkL_ (live := [8, 6, 0, 1, 2]) (orc := []) hF 0 hI ⟨[⟨8, [], .v (.int .i64 s3.1)⟩, ⟨6, [], .v (.int .i64 s2.1)⟩, ⟨0, [], .v (.slice A0 n0 c0)⟩, ⟨1, [], .v (.int .i64 a1)⟩, ⟨2, [], .v (fnv96 x2 sv2)⟩], [], [], [], none, none⟩ [] rfl (by kernel_rfl) trivial (fun ns_59 a w_60 hI => ?_)
       refine wpListIn_nil ?_
       refine then_normal ?_
       refine seq_region (live := [7, 8, 6, 0, 1, 2]) (orc := []) hF hI ⟨[⟨7, [], .v (.int .i64 s3.1)⟩, ⟨8, [], .v (.int .i64 s3.1)⟩, ⟨6, [], .v (.int .i64 s2.1)⟩, ⟨0, [], .v (.slice A0 n0 c0)⟩, ⟨1, [], .v (.int .i64 a1)⟩, ⟨2, [], .v (fnv96 x2 sv2)⟩], [], [], [], none, none⟩ [] (by kernel_rfl) trivial (fun ns_61 a w_62 hI _ => ?_)
       refine region_ (live := [8, 7, 6, 0, 1, 2]) (orc := []) hF hI ⟨[⟨8, [], .v (.int .i64 (IntKind.i64.wrap (s3.1 + (IntKind.i64.wrap (2 * s2.1)))))⟩, ⟨7, [], .v (.int .i64 s3.1)⟩, ⟨6, [], .v (.int .i64 s2.1)⟩, ⟨0, [], .v (.slice A0 n0 c0)⟩, ⟨1, [], .v (.int .i64 a1)⟩, ⟨2, [], .v (fnv96 x2 sv2)⟩], [], [], [], none, none⟩ [] (by kernel_rfl) trivial (fun ns_63 a w_64 hI _ => ?_)
       refine inBlock_normal ?_
       refine then_normal ?_
       obtain ⟨hE', hmv, hmr⟩ := Ep.rebase hE hI
       replace hx2 := Kd.keep _ hx2 (hmv _)
       replace hr0 := Row.keep hr0 (hmv _) (fun b hb => hmr b (by simp [hb]))
       replace hE := hE'
       replace hI := hI.rebase
       clear hE' hmv hmr
       obtain rfl := Option.some.inj H2
       exact ⟨_, rfl, ⟨_, _, hx2, hn0, hr0, hE, hI.pick [8, 7, 6, 0, 1, 2] 0 ⟨[⟨8, [], .v (.int .i64 (IntKind.i64.wrap (s3.1 + (IntKind.i64.wrap (2 * s2.1)))))⟩, ⟨7, [], .v (.int .i64 s3.1)⟩, ⟨6, [], .v (.int .i64 s2.1)⟩, ⟨0, [], .v (.slice A0 n0 c0)⟩, ⟨1, [], .v (.int .i64 a1)⟩, ⟨2, [], .v (fnv96 x2 sv2)⟩], [], [], [], none, none⟩ (by kernel_rfl)⟩⟩
      ·replace H2 := bif_f hc_51 H2
       refine wpIn_exit ?_
       refine then_exit ?_
       refine then_exit ?_
       obtain ⟨hE', hmv, hmr⟩ := Ep.rebase hE hI
       replace hx2 := Kd.keep _ hx2 (hmv _)
       replace hr0 := Row.keep hr0 (hmv _) (fun b hb => hmr b (by simp [hb]))
       replace hE := hE'
       replace hI := hI.rebase
       clear hE' hmv hmr
       obtain rfl := Option.some.inj H2
       exact .inl ⟨_, rfl, rfl, ⟨_, _, hx2, hn0, hr0, hE, hI.pick [8, 7, 6, 0, 1, 2] 0 ⟨[⟨8, [], .v (.int .i64 s3.1)⟩, ⟨7, [], .v (.int .i64 s3.2.1)⟩, ⟨6, [], .v (.int .i64 s2.1)⟩, ⟨0, [], .v (.slice A0 n0 c0)⟩, ⟨1, [], .v (.int .i64 a1)⟩, ⟨2, [], .v (fnv96 x2 sv2)⟩], [], [], [], none, none⟩ (by kernel_rfl)⟩⟩
     ·clear hI hE
      rintro s3 a w_67 ho ⟨ow_69, ns_68, hx2, hn0, hr0, hE, hI⟩
      subst ho
      replace H1 : ((bif decide ((IntKind.i64.wrap (s3.2.1 + s2.1)) < a1) then ((G_wit_spot_56 s3.2.2 n0 s3.2.1 (IntKind.i64.wrap (s3.2.1 + s2.1)) a1 x2).bind fun t_77 => some (.next ((IntKind.i64.wrap (s2.1 * 2)), t_77))) else some (.next ((IntKind.i64.wrap (s2.1 * 2)), s3.2.2))) : Option (Stp (Int × (List Wit_spot)) (Ex (Int × (List Wit_spot)) ((List Wit_spot))))) = _ := H1
      refine then_normal ?_
      refine wpIn_seq ?_
      refine seq_region (live := [9, 7, 6, 0, 1, 2]) (orc := []) hF hI ⟨[⟨9, [], .v (.int .i64 (IntKind.i64.wrap (s3.2.1 + s2.1)))⟩, ⟨7, [], .v (.int .i64 s3.2.1)⟩, ⟨6, [], .v (.int .i64 s2.1)⟩, ⟨0, [], .v (.slice A0 n0 c0)⟩, ⟨1, [], .v (.int .i64 a1)⟩, ⟨2, [], .v (fnv96 x2 sv2)⟩], [], [], [], none, none⟩ [] (by kernel_rfl) trivial (fun ns_70 a w_71 hI _ => ?_)
      refine seq_region (live := [54, 9, 7, 6, 0, 1, 2]) (orc := []) hF hI ⟨[⟨54, [], .v (.bool (decide ((IntKind.i64.wrap (s3.2.1 + s2.1)) < a1)))⟩, ⟨9, [], .v (.int .i64 (IntKind.i64.wrap (s3.2.1 + s2.1)))⟩, ⟨7, [], .v (.int .i64 s3.2.1)⟩, ⟨6, [], .v (.int .i64 s2.1)⟩, ⟨0, [], .v (.slice A0 n0 c0)⟩, ⟨1, [], .v (.int .i64 a1)⟩, ⟨2, [], .v (fnv96 x2 sv2)⟩], [], [], [], none, none⟩ [] (by kernel_rfl) trivial (fun ns_72 a w_73 hI _ => ?_)
      refine cond_ hI (decide ((IntKind.i64.wrap (s3.2.1 + s2.1)) < a1)) rfl (fun hc_74 => ?_) (fun hc_74 => ?_)
      ·replace H1 := bif_t hc_74 H1
       refine wpIn_region_lit ?_
       refine chunkL_ (live := [59, 58, 57, 56, 55, 6, 0, 1, 2]) (orc := []) hF 5 hI ⟨[⟨59, [], .v (fnv96 x2 sv2)⟩, ⟨58, [], .v (.int .i64 a1)⟩, ⟨57, [], .v (.int .i64 (IntKind.i64.wrap (s3.2.1 + s2.1)))⟩, ⟨56, [], .v (.int .i64 s3.2.1)⟩, ⟨55, [], .v (.slice A0 n0 c0)⟩, ⟨6, [], .v (.int .i64 s2.1)⟩, ⟨0, [], .v (.slice A0 n0 c0)⟩, ⟨1, [], .v (.int .i64 a1)⟩, ⟨2, [], .v (fnv96 x2 sv2)⟩], [], [], [], none, none⟩ [] rfl (by kernel_rfl) trivial (fun ns_75 a w_76 hI => ?_)
       obtain ⟨hE', hmv, hmr⟩ := Ep.rebase hE hI
       replace hx2 := Kd.keep _ hx2 (hmv _)
       replace hr0 := Row.keep hr0 (hmv _) (fun b hb => hmr b (by simp [hb]))
       replace hE := hE'
       replace hI := hI.rebase
       clear hE' hmv hmr
       obtain ⟨t_77, hG_78, H1⟩ := bind_some H1
       refine callM_ hF hE hI (wanted_none rfl) rfl (args := [.slice A0 n0 c0, .int .i64 s3.2.1, .int .i64 (IntKind.i64.wrap (s3.2.1 + s2.1)), .int .i64 a1, fnv96 x2 sv2]) rfl (enters Try.func56 (by kernel_rfl) rfl) (fun sv_79 => .tuple #[]) [0] _ (G_wit_spot_56.calls s3.2.2 n0 s3.2.1 (IntKind.i64.wrap (s3.2.1 + s2.1)) a1 x2 A0 c0 base0 (svL []) w_76 (S := Lo S w w_76 ns_75 [rb A0]) hr0 hn0 (contI (S := Lo S w w_76 ns_75 [rb A0]) (w := w_76) (d := kdF96) (x := x2) (sv := (svL [])) hx2) (Lo.pick [0]) (hE.pick [0] (by decide)) (hE.pickLt [0]) _ hG_78) (.inl rfl) (fun sv_79 => ⟨[⟨60, [], .v (.tuple #[])⟩, ⟨59, [], .v (fnv96 x2 sv2)⟩, ⟨58, [], .v (.int .i64 a1)⟩, ⟨57, [], .v (.int .i64 (IntKind.i64.wrap (s3.2.1 + s2.1)))⟩, ⟨56, [], .v (.int .i64 s3.2.1)⟩, ⟨55, [], .v (.slice A0 n0 c0)⟩, ⟨6, [], .v (.int .i64 s2.1)⟩, ⟨0, [], .v (.slice A0 n0 c0)⟩, ⟨1, [], .v (.int .i64 a1)⟩, ⟨2, [], .v (fnv96 x2 sv2)⟩], [], [], [], none, none⟩) (fun sv_79 => by kernel_rfl) (fun sv_79 a w_80 hput hE' hI' hmv hmr hres hR => ?_)
       replace hx2 := Kd.keep _ hx2 (hmv _)
       replace hE := hE'
       replace hI := hI'
       clear hE' hI' hmv hmr
       obtain ⟨hr0, hn0⟩ := hR
       replace hr0 := Row.keep hr0 (hres _) (fun _ _ => rfl)
       clear hres
       refine chunkL_ (live := [6, 0, 1, 2]) (orc := []) hF 0 hI ⟨[⟨6, [], .v (.int .i64 s2.1)⟩, ⟨0, [], .v (.slice A0 n0 c0)⟩, ⟨1, [], .v (.int .i64 a1)⟩, ⟨2, [], .v (fnv96 x2 sv2)⟩], [], [], [], none, none⟩ [] rfl (by kernel_rfl) trivial (fun ns_82 a w_83 hI => ?_)
       refine wpListIn_nil ?_
       refine then_normal ?_
       refine region_ (live := [6, 0, 1, 2]) (orc := []) hF hI ⟨[⟨6, [], .v (.int .i64 (IntKind.i64.wrap (s2.1 * 2)))⟩, ⟨0, [], .v (.slice A0 n0 c0)⟩, ⟨1, [], .v (.int .i64 a1)⟩, ⟨2, [], .v (fnv96 x2 sv2)⟩], [], [], [], none, none⟩ [] (by kernel_rfl) trivial (fun ns_84 a w_85 hI _ => ?_)
       refine inBlock_normal ?_
       refine then_normal ?_
       obtain ⟨hE', hmv, hmr⟩ := Ep.rebase hE hI
       replace hx2 := Kd.keep _ hx2 (hmv _)
       replace hr0 := Row.keep hr0 (hmv _) (fun b hb => hmr b (by simp [hb]))
       replace hE := hE'
       replace hI := hI.rebase
       clear hE' hmv hmr
       obtain rfl := Option.some.inj H1
       exact ⟨_, rfl, ⟨_, _, hx2, hn0, hr0, hE, hI.pick [6, 0, 1, 2] 0 ⟨[⟨6, [], .v (.int .i64 (IntKind.i64.wrap (s2.1 * 2)))⟩, ⟨0, [], .v (.slice A0 n0 c0)⟩, ⟨1, [], .v (.int .i64 a1)⟩, ⟨2, [], .v (fnv96 x2 sv2)⟩], [], [], [], none, none⟩ (by kernel_rfl)⟩⟩
      ·replace H1 := bif_f hc_74 H1
       refine wpIn_skip ?_
       refine then_normal ?_
       refine region_ (live := [6, 0, 1, 2]) (orc := []) hF hI ⟨[⟨6, [], .v (.int .i64 (IntKind.i64.wrap (s2.1 * 2)))⟩, ⟨0, [], .v (.slice A0 n0 c0)⟩, ⟨1, [], .v (.int .i64 a1)⟩, ⟨2, [], .v (fnv96 x2 sv2)⟩], [], [], [], none, none⟩ [] (by kernel_rfl) trivial (fun ns_86 a w_87 hI _ => ?_)
       refine inBlock_normal ?_
       refine then_normal ?_
       obtain ⟨hE', hmv, hmr⟩ := Ep.rebase hE hI
       replace hx2 := Kd.keep _ hx2 (hmv _)
       replace hr0 := Row.keep hr0 (hmv _) (fun b hb => hmr b (by simp [hb]))
       replace hE := hE'
       replace hI := hI.rebase
       clear hE' hmv hmr
       obtain rfl := Option.some.inj H1
       exact ⟨_, rfl, ⟨_, _, hx2, hn0, hr0, hE, hI.pick [6, 0, 1, 2] 0 ⟨[⟨6, [], .v (.int .i64 (IntKind.i64.wrap (s2.1 * 2)))⟩, ⟨0, [], .v (.slice A0 n0 c0)⟩, ⟨1, [], .v (.int .i64 a1)⟩, ⟨2, [], .v (fnv96 x2 sv2)⟩], [], [], [], none, none⟩ (by kernel_rfl)⟩⟩
    ·replace H1 := bif_f hc_43 H1
     refine wpIn_exit ?_
     refine then_exit ?_
     refine then_exit ?_
     obtain ⟨hE', hmv, hmr⟩ := Ep.rebase hE hI
     replace hx2 := Kd.keep _ hx2 (hmv _)
     replace hr0 := Row.keep hr0 (hmv _) (fun b hb => hmr b (by simp [hb]))
     replace hE := hE'
     replace hI := hI.rebase
     clear hE' hmv hmr
     obtain rfl := Option.some.inj H1
     exact .inl ⟨_, rfl, rfl, ⟨_, _, hx2, hn0, hr0, hE, hI.pick [6, 0, 1, 2] 0 ⟨[⟨6, [], .v (.int .i64 s2.1)⟩, ⟨0, [], .v (.slice A0 n0 c0)⟩, ⟨1, [], .v (.int .i64 a1)⟩, ⟨2, [], .v (fnv96 x2 sv2)⟩], [], [], [], none, none⟩ (by kernel_rfl)⟩⟩
   ·clear hI hE
    rintro s2 a w_91 ho ⟨ow_93, ns_92, hx2, hn0, hr0, hE, hI⟩
    subst ho
    replace H0 : (some s2.2 : Option ((List Wit_spot))) = _ := H0
    obtain ⟨hE', hmv, hmr⟩ := Ep.rebase hE hI
    replace hx2 := Kd.keep _ hx2 (hmv _)
    replace hr0 := Row.keep hr0 (hmv _) (fun b hb => hmr b (by simp [hb]))
    replace hE := hE'
    replace hI := hI.rebase
    clear hE' hmv hmr
    obtain rfl := Option.some.inj H0
    exact retN (retG hI rfl rfl ⟨svL [], rfl, hE.keeps hI, Row.keep hr0 (hE.out hI) (fun _ _ => rfl), hn0⟩)

/-! ### slices.SortStableFunc[[]porthole/wit.spot,porthole/wit.spot]: function 49 -/
noncomputable def G_wit_spot_49 (l0 : (List Wit_spot)) (n0 : Nat) (x1 : Fn96) : Option ((List Wit_spot)) := ((G_wit_spot_53 l0 n0 (n0 : Int) x1).bind fun t_3 => some t_3)
set_option maxRecDepth 100000 in
set_option maxHeartbeats 4000000 in
theorem G_wit_spot_49.calls (l0 : (List Wit_spot)) (n0 : Nat) (x1 : Fn96) (A0 : Option Addr) (c0 base0 : Nat) (sv1 : SV) (w : World) {S : Nat → Prop} (hr0 : Row kd_Wit_spot 91 S w base0 A0 c0 l0) (hn0 : l0.length = n0) (hx1 : (kdF96).cont S w x1 sv1) (hms : ∀ b, S b → b ∉ ([rb A0] : List (List Nat)).flatten) (hmd : ([rb A0] : List (List Nat)).flatten.Nodup) (hml : ∀ b ∈ ([rb A0] : List (List Nat)).flatten, b < w.heap.size) (r : (List Wit_spot)) (h : G_wit_spot_49 l0 n0 x1 = some r) :
    Calls Try.prog 49 #[.slice A0 n0 c0, fnv96 x1 sv1] w fun e w' => ∃ sv : SV, e = .returned (.tuple #[]) ∧ Keeps (([rb A0] : List (List Nat)).flatten) w w' ∧ Row kd_Wit_spot 91 (fun b => w.heap.size ≤ b ∨ S b) w' base0 A0 c0 r ∧ r.length = n0 := by
  replace hx1 := Kd.keep _ hx1 (Mv.start w hms)
  replace hr0 := Row.keep hr0 (Mv.start w hms) (fun _ _ => rfl)
  unfold G_wit_spot_49 at h
  have H0 := h
  clear h
  refine enter Try.func49 rfl [.slice A0 n0 c0, fnv96 x1 sv1] (n := 9) rfl (Nat.le_of_ble_eq_true rfl) (fun a hI => ?_)
  have hF : FOpen Fence.wide := .inl rfl
  have hE := Ep.startM w [rb A0] hmd hml
  refine wpIn_region_lit ?_
  refine chunkL_ (live := [7, 6, 4]) (orc := []) hF 4 hI ⟨[⟨7, [], .v (fnv96 x1 sv1)⟩, ⟨6, [], .v (.int .i64 (n0 : Int))⟩, ⟨4, [], .v (.slice A0 n0 c0)⟩], [], [], [], none, none⟩ [] rfl (by kernel_rfl) trivial (fun ns_1 a w_2 hI => ?_)
  obtain ⟨hE', hmv, hmr⟩ := Ep.rebase hE hI
  replace hx1 := Kd.keep _ hx1 (hmv _)
  replace hr0 := Row.keep hr0 (hmv _) (fun b hb => hmr b (by simp [hb]))
  replace hE := hE'
  replace hI := hI.rebase
  clear hE' hmv hmr
  obtain ⟨t_3, hG_4, H0⟩ := bind_some H0
  refine callM_ hF hE hI (wanted_none rfl) rfl (args := [.slice A0 n0 c0, .int .i64 (n0 : Int), fnv96 x1 sv1]) rfl (enters Try.func53 (by kernel_rfl) rfl) (fun sv_5 => .tuple #[]) [0] _ (G_wit_spot_53.calls l0 n0 (n0 : Int) x1 A0 c0 base0 (svL []) w_2 (S := Lo S w w_2 ns_1 [rb A0]) hr0 hn0 (contI (S := Lo S w w_2 ns_1 [rb A0]) (w := w_2) (d := kdF96) (x := x1) (sv := (svL [])) hx1) (Lo.pick [0]) (hE.pick [0] (by decide)) (hE.pickLt [0]) _ hG_4) (.inl rfl) (fun sv_5 => ⟨[⟨8, [], .v (.tuple #[])⟩, ⟨7, [], .v (fnv96 x1 sv1)⟩, ⟨6, [], .v (.int .i64 (n0 : Int))⟩, ⟨4, [], .v (.slice A0 n0 c0)⟩], [], [], [], none, none⟩) (fun sv_5 => by kernel_rfl) (fun sv_5 a w_6 hput hE' hI' hmv hmr hres hR => ?_)
  replace hx1 := Kd.keep _ hx1 (hmv _)
  replace hE := hE'
  replace hI := hI'
  clear hE' hI' hmv hmr
  obtain ⟨hr0, hn0⟩ := hR
  replace hr0 := Row.keep hr0 (hres _) (fun _ _ => rfl)
  clear hres
  refine chunkL_ (live := []) (orc := []) hF 0 hI ⟨[], [], [], [], none, none⟩ [] rfl (by kernel_rfl) trivial (fun ns_8 a w_9 hI => ?_)
  refine wpListIn_nil ?_
  obtain ⟨hE', hmv, hmr⟩ := Ep.rebase hE hI
  replace hx1 := Kd.keep _ hx1 (hmv _)
  replace hr0 := Row.keep hr0 (hmv _) (fun b hb => hmr b (by simp [hb]))
  replace hE := hE'
  replace hI := hI.rebase
  clear hE' hmv hmr
  obtain rfl := Option.some.inj H0
  exact retN (retG hI rfl rfl ⟨svL [], rfl, hE.keeps hI, Row.keep hr0 (hE.out hI) (fun _ _ => rfl), hn0⟩)

end Go.Proofs.Ytnfnincmhobpaaa
