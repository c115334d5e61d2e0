/- Walks of the seat's functions. No statement is proved here. Conditions: none. -/
import Derived.Test.YtpdflibmhchlbaaGreatDoorProg
import Derived.Test.YtpdflibmhchlbaaGreatDoorEng
import Derived.Test.YtpdflibmhchlbaaGreatDoorSh
set_option linter.unusedVariables false
set_option linter.unusedSimpArgs false
set_option maxRecDepth 100000
set_option maxHeartbeats 4000000
set_option synthInstance.maxSize 4000
set_option synthInstance.maxHeartbeats 400000
namespace Go.Proofs.YtpdflibmhchlbaaGreatDoor
open Go Go.RowKit Go.Eng Go.IntKind Go.Proofs
noncomputable section
structure S5 where
  pz:Int
  ka:Int
  deriving Inhabited,DecidableEq
def N7:Kd S5:=⟨2,fun x sv=>[.int .i64 x.pz,.int .i64 x.ka],fun S w x sv=>True,fun _ _=>rfl,Nat.le_of_ble_eq_true rfl,fun h hk=>trivial⟩
theorem B3g(x:S5)(sv:SV)(u:Value)(hu:u∈N7.cells x sv):u.oneCell'=true:=by
  simp only [N7,List.mem_cons,List.not_mem_nil,or_false] at hu;rcases hu with rfl | rfl
  all_goals rfl
structure Q2 where
  u6:Int
  kr:Int
  To:Int
  py:Int
  z8:Int
  kn:Int
  qn:Int
  deriving Inhabited,DecidableEq
def G3:Kd Q2:=⟨7,fun x sv=>[.int .i64 x.u6,.int .i64 x.kr,.int .i64 x.To,.int .i64 x.py,.int .i64 x.z8,.int .i64 x.kn,.int .u32 x.qn],fun S w x sv=>True,fun _ _=>rfl,Nat.le_of_ble_eq_true rfl,fun h hk=>trivial⟩
theorem B3f(x:Q2)(sv:SV)(u:Value)(hu:u∈G3.cells x sv):u.oneCell'=true:=by
  simp only [G3,List.mem_cons,List.not_mem_nil,or_false] at hu;rcases hu with rfl | rfl | rfl | rfl | rfl | rfl | rfl
  all_goals rfl
structure F9 where
  u3:Int
  ko:Int
  qk:Int
  deriving Inhabited,DecidableEq
def D9:Kd F9:=⟨3,fun x sv=>[.int .i64 x.u3,.int .i64 x.ko,.int .i64 x.qk],fun S w x sv=>True,fun _ _=>rfl,Nat.le_of_ble_eq_true rfl,fun h hk=>trivial⟩
theorem B0t(x:F9)(sv:SV)(u:Value)(hu:u∈D9.cells x sv):u.oneCell'=true:=by
  simp only [D9,List.mem_cons,List.not_mem_nil,or_false] at hu;rcases hu with rfl | rfl | rfl
  all_goals rfl
structure A4j where
  z5:Int
  r9:(List F9)
  deriving Inhabited,DecidableEq
def A90:Kd A4j:=⟨2,fun x sv=>[.int .i64 x.z5,.slice (sv 0).1 x.r9.length (sv 0).2],fun S w x sv=>(Arr D9 S w (sv 0).1 x.r9∧x.r9.length≤(sv 0).2)∧True,fun _ _=>rfl,Nat.le_of_ble_eq_true rfl,fun h hk=>⟨⟨h.1.1.keep hk,h.1.2⟩,trivial⟩⟩
structure B0r where
  e0:A4j
  e1:A4j
  deriving Inhabited,DecidableEq
def A1b:Kd B0r:=⟨4,fun x sv=>[.int .i64 x.e0.z5,.slice (sv 0).1 x.e0.r9.length (sv 0).2,.int .i64 x.e1.z5,.slice (sv 1).1 x.e1.r9.length (sv 1).2],fun S w x sv=>(Arr D9 S w (sv 0).1 x.e0.r9∧x.e0.r9.length≤(sv 0).2)∧(Arr D9 S w (sv 1).1 x.e1.r9∧x.e1.r9.length≤(sv 1).2)∧True,fun _ _=>rfl,Nat.le_of_ble_eq_true rfl,fun h hk=>⟨⟨h.1.1.keep hk,h.1.2⟩,⟨h.2.1.1.keep hk,h.2.1.2⟩,trivial⟩⟩
def D2(x:B0r)(i:Int):A4j:=if i=0 then x.e0 else x.e1
theorem A04{S:Nat→Prop}{w:World}{B:Addr}{x:B0r}{sv:SV}(h:El A1b S w B x sv){i:Int}(hi:inb i 2=true):El A90 S w (B.add (i.toNat*2)) (D2 x i) (svO sv (i.toNat*1)):=by
  obtain ⟨h0,h1⟩:=A0q hi;have:i=0∨i=1:=by omega
  rcases this with rfl | rfl
  · exact El.part h (0*2) x.e0 (svO sv (0*1)) ⟨h.cont.1,trivial⟩ rfl
  · exact El.part h (1*2) x.e1 (svO sv (1*1)) ⟨h.cont.2.1,trivial⟩ rfl
structure C1 where
  r8:(List S5)
  r6:(List Q2)
  r7:B0r
  deriving Inhabited,DecidableEq
def B5:Kd C1:=⟨6,fun x sv=>[.slice (sv 0).1 x.r8.length (sv 0).2,.slice (sv 1).1 x.r6.length (sv 1).2,.int .i64 x.r7.e0.z5,.slice (sv 2).1 x.r7.e0.r9.length (sv 2).2,.int .i64 x.r7.e1.z5,.slice (sv 3).1 x.r7.e1.r9.length (sv 3).2],fun S w x sv=>(Arr N7 S w (sv 0).1 x.r8∧x.r8.length≤(sv 0).2)∧(Arr G3 S w (sv 1).1 x.r6∧x.r6.length≤(sv 1).2)∧(Arr D9 S w (sv 2).1 x.r7.e0.r9∧x.r7.e0.r9.length≤(sv 2).2)∧(Arr D9 S w (sv 3).1 x.r7.e1.r9∧x.r7.e1.r9.length≤(sv 3).2)∧True,fun _ _=>rfl,Nat.le_of_ble_eq_true rfl,fun h hk=>⟨⟨h.1.1.keep hk,h.1.2⟩,⟨h.2.1.1.keep hk,h.2.1.2⟩,⟨h.2.2.1.1.keep hk,h.2.2.1.2⟩,⟨h.2.2.2.1.1.keep hk,h.2.2.2.1.2⟩,trivial⟩⟩
structure L7 where
  Op:Int
  u5:Int
  ke:Int
  u9:(List Int)
  deriving Inhabited,DecidableEq
def R7:Kd L7:=⟨4,fun x sv=>[.int .i64 x.Op,.int .i64 x.u5,.int .u64 x.ke,.slice (sv 0).1 x.u9.length (sv 0).2],fun S w x sv=>(Arr (Kd.int .u32) S w (sv 0).1 x.u9∧x.u9.length≤(sv 0).2)∧True,fun _ _=>rfl,Nat.le_of_ble_eq_true rfl,fun h hk=>⟨⟨h.1.1.keep hk,h.1.2⟩,trivial⟩⟩
structure E5 where
  z6:Int
  u9:(List Int)
  u7:Bool
  qd:Int
  deriving Inhabited,DecidableEq
def K1:Kd E5:=⟨4,fun x sv=>[.int .i64 x.z6,.slice (sv 0).1 x.u9.length (sv 0).2,.bool x.u7,.int .i64 x.qd],fun S w x sv=>(Arr (Kd.int .u32) S w (sv 0).1 x.u9∧x.u9.length≤(sv 0).2)∧True,fun _ _=>rfl,Nat.le_of_ble_eq_true rfl,fun h hk=>⟨⟨h.1.1.keep hk,h.1.2⟩,trivial⟩⟩
structure I5 where
  u3:Int
  u4:L7
  qh:E5
  kt:Bool
  kr:Int
  To:Int
  T0:Int
  T1:Int
  Own0:Int
  Own1:Int
  qi:Int
  qe:Int
  qc:Int
  Saw:Int
  deriving Inhabited,DecidableEq
def F7:Kd I5:=⟨20,fun x sv=>[.int .i64 x.u3,.int .i64 x.u4.Op,.int .i64 x.u4.u5,.int .u64 x.u4.ke,.slice (sv 0).1 x.u4.u9.length (sv 0).2,.int .i64 x.qh.z6,.slice (sv 1).1 x.qh.u9.length (sv 1).2,.bool x.qh.u7,.int .i64 x.qh.qd,.bool x.kt,.int .i64 x.kr,.int .i64 x.To,.int .i64 x.T0,.int .i64 x.T1,.int .i64 x.Own0,.int .i64 x.Own1,.int .i64 x.qi,.int .i64 x.qe,.int .i64 x.qc,.int .i64 x.Saw],fun S w x sv=>(Arr (Kd.int .u32) S w (sv 0).1 x.u4.u9∧x.u4.u9.length≤(sv 0).2)∧(Arr (Kd.int .u32) S w (sv 1).1 x.qh.u9∧x.qh.u9.length≤(sv 1).2)∧True,fun _ _=>rfl,Nat.le_of_ble_eq_true rfl,fun h hk=>⟨⟨h.1.1.keep hk,h.1.2⟩,⟨h.2.1.1.keep hk,h.2.1.2⟩,trivial⟩⟩
structure J0 where
  u3:Int
  qg:(List Int)
  At:Int
  Tick:Int
  Own:Int
  deriving Inhabited,DecidableEq
def W0:Kd J0:=⟨5,fun x sv=>[.int .i64 x.u3,.slice (sv 0).1 x.qg.length (sv 0).2,.int .i64 x.At,.int .i64 x.Tick,.int .i64 x.Own],fun S w x sv=>(Arr (Kd.int .i64) S w (sv 0).1 x.qg∧x.qg.length≤(sv 0).2)∧True,fun _ _=>rfl,Nat.le_of_ble_eq_true rfl,fun h hk=>⟨⟨h.1.1.keep hk,h.1.2⟩,trivial⟩⟩
structure M0 where
  calls:(List I5)
  bellings:(List J0)
  deriving Inhabited,DecidableEq
def G9:Kd M0:=⟨2,fun x sv=>[.slice (sv 0).1 x.calls.length (sv 0).2,.slice (sv 1).1 x.bellings.length (sv 1).2],fun S w x sv=>(Arr F7 S w (sv 0).1 x.calls∧x.calls.length≤(sv 0).2)∧(Arr W0 S w (sv 1).1 x.bellings∧x.bellings.length≤(sv 1).2)∧True,fun _ _=>rfl,Nat.le_of_ble_eq_true rfl,fun h hk=>⟨⟨h.1.1.keep hk,h.1.2⟩,⟨h.2.1.1.keep hk,h.2.1.2⟩,trivial⟩⟩
structure D8 where
  u6:Int
  Of:Int
  deriving Inhabited,DecidableEq
def D4:Kd D8:=⟨2,fun x sv=>[.int .i64 x.u6,.int .i64 x.Of],fun S w x sv=>True,fun _ _=>rfl,Nat.le_of_ble_eq_true rfl,fun h hk=>trivial⟩
theorem W9(x:D8)(sv:SV)(u:Value)(hu:u∈D4.cells x sv):u.oneCell'=true:=by
  simp only [D4,List.mem_cons,List.not_mem_nil,or_false] at hu;rcases hu with rfl | rfl
  all_goals rfl
structure A0x where
  from_:Int
  to_:Int
  deriving Inhabited,DecidableEq
def M1:Kd A0x:=⟨2,fun x sv=>[.int .i64 x.from_,.int .i64 x.to_],fun S w x sv=>True,fun _ _=>rfl,Nat.le_of_ble_eq_true rfl,fun h hk=>trivial⟩
structure D1 where
  ring:(List (List Int))
  first:Int
  n:Int
  deriving Inhabited,DecidableEq
def S4:Kd D1:=⟨3,fun x sv=>[.slice (sv 0).1 (sv 1).2 (sv 0).2,.int .i64 x.first,.int .i64 x.n],fun S w x sv=>True,fun _ _=>rfl,Nat.le_of_ble_eq_true rfl,fun h hk=>trivial⟩
def A0c(S:Nat→Prop)(w:World)(b:Nat)(x:D1)(sv:SV)(F:List Nat):Prop:=F=rb (sv 0).1++([])∧(Row (Kd.slice (Kd.int .u32)) 43 S w 0 (sv 0).1 (sv 0).2 x.ring∧x.ring.length=(sv 1).2)∧True
theorem A5w{S S':Nat→Prop}{w w':World}{b:Nat}{x:D1}{sv:SV}{F:List Nat}(h:A0c S w b x sv F)(hk:Mv S w S' w')(hb:∀b∈F,w'.heap[b]? =w.heap[b]?):A0c S' w' b x sv F:=by
  obtain ⟨a,h0,_⟩:=h;exact ⟨a,⟨Row.keep h0.1 hk (fun c hc=>hb c (a▸List.mem_append_left _ hc)),h0.2⟩,trivial⟩
theorem A5x{S:Nat→Prop}{w:World}{b:Nat}{x:D1}{sv:SV}{F:List Nat}(h:A0c S w b x sv F):∀b∈F,b<w.heap.size∧∀q,w.heap[b]? ≠some (.deferred q):=by
  obtain ⟨a,h0,_⟩:=h;intro c hc;rw [a] at hc;rcases List.mem_append.1 hc with hc | hc
  · exact h0.1.ndl c hc
  cases hc
def C8:Lk D1:=⟨S4,129,A0c,fun h hk hb=>A5w h hk hb,fun h=>A5x h⟩
structure I7 where
  n:Int
  bits:Int
  deriving Inhabited,DecidableEq
def A3e:Kd I7:=⟨2,fun x sv=>[.int .i64 x.n,.int .u64 x.bits],fun S w x sv=>True,fun _ _=>rfl,Nat.le_of_ble_eq_true rfl,fun h hk=>trivial⟩
def A4b(S:Nat→Prop)(w:World)(b:Nat)(x:I7)(sv:SV)(F:List Nat):Prop:=F=[]∧True
theorem B2e{S S':Nat→Prop}{w w':World}{b:Nat}{x:I7}{sv:SV}{F:List Nat}(h:A4b S w b x sv F)(hk:Mv S w S' w')(hb:∀b∈F,w'.heap[b]? =w.heap[b]?):A4b S' w' b x sv F:=by
  obtain ⟨a,_⟩:=h;exact ⟨a,trivial⟩
theorem B2f{S:Nat→Prop}{w:World}{b:Nat}{x:I7}{sv:SV}{F:List Nat}(h:A4b S w b x sv F):∀b∈F,b<w.heap.size∧∀q,w.heap[b]? ≠some (.deferred q):=by
  obtain ⟨a,_⟩:=h;intro c hc;rw [a] at hc;cases hc
def M8:Lk I7:=⟨A3e,131,A4b,fun h hk hb=>B2e h hk hb,fun h=>B2f h⟩
structure D0 where
  u3:Int
  z7:Bool
  z9:(List Int)
  u7:(List Int)
  deriving Inhabited,DecidableEq
def A3p:Kd D0:=⟨4,fun x sv=>[.int .i64 x.u3,.bool x.z7,.slice (sv 0).1 (sv 1).2 (sv 0).2,.slice (sv 2).1 (sv 3).2 (sv 2).2],fun S w x sv=>True,fun _ _=>rfl,Nat.le_of_ble_eq_true rfl,fun h hk=>trivial⟩
def A3q(S:Nat→Prop)(w:World)(b:Nat)(x:D0)(sv:SV)(F:List Nat):Prop:=F=rb (sv 0).1++(rb (sv 2).1++([]))∧(Row (Kd.int .i64) 3 S w 0 (sv 0).1 (sv 0).2 x.z9∧x.z9.length=(sv 1).2)∧(Row (Kd.int .i64) 3 S w 0 (sv 2).1 (sv 2).2 x.u7∧x.u7.length=(sv 3).2)∧True
theorem B0u{S S':Nat→Prop}{w w':World}{b:Nat}{x:D0}{sv:SV}{F:List Nat}(h:A3q S w b x sv F)(hk:Mv S w S' w')(hb:∀b∈F,w'.heap[b]? =w.heap[b]?):A3q S' w' b x sv F:=by
  obtain ⟨a,h0,h1,_⟩:=h;exact ⟨a,⟨Row.keep h0.1 hk (fun c hc=>hb c (a▸List.mem_append_left _ hc)),h0.2⟩,⟨Row.keep h1.1 hk (fun c hc=>hb c (a▸List.mem_append_right _ (List.mem_append_left _ hc))),h1.2⟩,trivial⟩
theorem B0v{S:Nat→Prop}{w:World}{b:Nat}{x:D0}{sv:SV}{F:List Nat}(h:A3q S w b x sv F):∀b∈F,b<w.heap.size∧∀q,w.heap[b]? ≠some (.deferred q):=by
  obtain ⟨a,h0,h1,_⟩:=h;intro c hc;rw [a] at hc;rcases List.mem_append.1 hc with hc | hc
  · exact h0.1.ndl c hc
  rcases List.mem_append.1 hc with hc | hc
  · exact h1.1.ndl c hc
  cases hc
def E1:Lk D0:=⟨A3p,99,A3q,fun h hk hb=>B0u h hk hb,fun h=>B0v h⟩
theorem A8f(x:D0)(sv:SV)(u:Value)(hu:u∈A3p.cells x sv):u.oneCell'=true:=by
  simp only [A3p,List.mem_cons,List.not_mem_nil,or_false] at hu;rcases hu with rfl | rfl | rfl | rfl
  all_goals rfl
def L8:Kd D0:=⟨4,fun x sv=>[.int .i64 x.u3,.bool x.z7,.slice (sv 0).1 x.z9.length (sv 0).2,.slice (sv 1).1 x.u7.length (sv 1).2],fun S w x sv=>(Arr (Kd.int .i64) S w (sv 0).1 x.z9∧x.z9.length≤(sv 0).2)∧(Arr (Kd.int .i64) S w (sv 1).1 x.u7∧x.u7.length≤(sv 1).2)∧True,fun _ _=>rfl,Nat.le_of_ble_eq_true rfl,fun h hk=>⟨⟨h.1.1.keep hk,h.1.2⟩,⟨h.2.1.1.keep hk,h.2.1.2⟩,trivial⟩⟩
structure Q8 where
  data:(List Int)
  stamp:Int
  is:Bool
  deriving Inhabited,DecidableEq
def J2:Kd Q8:=⟨3,fun x sv=>[.slice (sv 0).1 x.data.length (sv 0).2,.int .i64 x.stamp,.bool x.is],fun S w x sv=>(Arr (Kd.int .u32) S w (sv 0).1 x.data∧x.data.length≤(sv 0).2)∧True,fun _ _=>rfl,Nat.le_of_ble_eq_true rfl,fun h hk=>⟨⟨h.1.1.keep hk,h.1.2⟩,trivial⟩⟩
structure C3 where
  c:C1
  parts:(List D0)
  last:(List Q8)
  rows:(List (Option D1))
  cells:List (Int×Int)
  bells:Option I7
  deriving Inhabited,DecidableEq
def C4:Kd C3:=⟨11,fun x sv=>[.slice (sv 0).1 x.c.r8.length (sv 0).2,.slice (sv 1).1 x.c.r6.length (sv 1).2,.int .i64 x.c.r7.e0.z5,.slice (sv 2).1 x.c.r7.e0.r9.length (sv 2).2,.int .i64 x.c.r7.e1.z5,.slice (sv 3).1 x.c.r7.e1.r9.length (sv 3).2,.slice (sv 4).1 x.parts.length (sv 4).2,.slice (sv 5).1 (sv 6).2 (sv 5).2,.slice (sv 7).1 x.rows.length (sv 7).2,.map (some (sv 8).2),.pointer (sv 9).1],fun S w x sv=>(Arr N7 S w (sv 0).1 x.c.r8∧x.c.r8.length≤(sv 0).2)∧(Arr G3 S w (sv 1).1 x.c.r6∧x.c.r6.length≤(sv 1).2)∧(Arr D9 S w (sv 2).1 x.c.r7.e0.r9∧x.c.r7.e0.r9.length≤(sv 2).2)∧(Arr D9 S w (sv 3).1 x.c.r7.e1.r9∧x.c.r7.e1.r9.length≤(sv 3).2)∧True,fun _ _=>rfl,Nat.le_of_ble_eq_true rfl,fun h hk=>⟨⟨h.1.1.keep hk,h.1.2⟩,⟨h.2.1.1.keep hk,h.2.1.2⟩,⟨h.2.2.1.1.keep hk,h.2.2.1.2⟩,⟨h.2.2.2.1.1.keep hk,h.2.2.2.1.2⟩,trivial⟩⟩
def A2t(S:Nat→Prop)(w:World)(b:Nat)(x:C3)(sv:SV)(F:List Nat):Prop:=∃G0 G1 G2:List Nat,F=G0++(rb (sv 5).1++(G1++([(sv 8).2]++(G2++([])))))∧J1 E1 S w (sv 4).1 (sv 4).2 x.parts G0∧(Row J2 144 S w 0 (sv 5).1 (sv 5).2 x.last∧x.last.length=(sv 6).2)∧J1 (A6r C8 100) S w (sv 7).1 (sv 7).2 x.rows G1∧(Y6 .u64 (fun x=>.int .u32 x) w (sv 8).2 (x.cells:List (Int×Int)))∧R4 M8 S w (sv 9).1 x.bells G2∧True
theorem A88{S S':Nat→Prop}{w w':World}{b:Nat}{x:C3}{sv:SV}{F:List Nat}(h:A2t S w b x sv F)(hk:Mv S w S' w')(hb:∀b∈F,w'.heap[b]? =w.heap[b]?):A2t S' w' b x sv F:=by
  obtain ⟨G0,G1,G2,a,h0,h1,h2,h3,h4,_⟩:=h;exact ⟨G0,G1,G2,a,J1.keep h0 hk (fun c hc=>hb c (a▸List.mem_append_left _ hc)),⟨Row.keep h1.1 hk (fun c hc=>hb c (a▸List.mem_append_right _ (List.mem_append_left _ hc))),h1.2⟩,J1.keep h2 hk (fun c hc=>hb c (a▸List.mem_append_right _ (List.mem_append_right _ (List.mem_append_left _ hc)))),Y6.keep h3 (hb _ (a▸List.mem_append_right _ (List.mem_append_right _ (List.mem_append_right _ (List.mem_append_left _ (List.mem_singleton.2 rfl)))))),R4.keep h4 hk (fun c hc=>hb c (a▸List.mem_append_right _ (List.mem_append_right _ (List.mem_append_right _ (List.mem_append_right _ (List.mem_append_left _ hc)))))),trivial⟩
theorem A89{S:Nat→Prop}{w:World}{b:Nat}{x:C3}{sv:SV}{F:List Nat}(h:A2t S w b x sv F):∀b∈F,b<w.heap.size∧∀q,w.heap[b]? ≠some (.deferred q):=by
  obtain ⟨G0,G1,G2,a,h0,h1,h2,h3,h4,_⟩:=h;intro c hc;rw [a] at hc;rcases List.mem_append.1 hc with hc | hc
  · exact J1.nd h0 c hc
  rcases List.mem_append.1 hc with hc | hc
  · exact h1.1.ndl c hc
  rcases List.mem_append.1 hc with hc | hc
  · exact J1.nd h2 c hc
  rcases List.mem_append.1 hc with hc | hc
  · rw [List.mem_singleton.1 hc];exact Y6.nd h3
  rcases List.mem_append.1 hc with hc | hc
  · exact h4.nd c hc
  cases hc
def C5:Lk C3:=⟨C4,97,A2t,fun h hk hb=>A88 h hk hb,fun h=>A89 h⟩
inductive U4 where
  | f108
  | f109
  deriving Inhabited,DecidableEq
def B12(x:U4):Nat:=match x with
  | .f108=>108
  | .f109=>109
def B7j(x:U4)(sv:SV):Array Value:=match x with
  | .f108=> #[]
  | .f109=> #[]
def A4e(x:U4)(sv:SV):Value:=.func (.func (B12 x)) #[] (B7j x sv)
def B4g(S:Nat→Prop)(w:World)(x:U4)(sv:SV):Prop:=match x with
  | .f108=>True
  | .f109=>True
theorem fnk188{S S':Nat→Prop}{w w':World}{x:U4}{sv:SV}(h:B4g S w x sv)(hk:∀b,S b→IsC w b→S' b∧w'.heap[b]? =w.heap[b]?):B4g S' w' x sv:=by
  cases x with
  | f108=>exact trivial
  | f109=>exact trivial
def A32:Kd U4:=⟨1,fun x sv=>[A4e x sv],fun S w x sv=>B4g S w x sv,fun _ _=>rfl,Nat.one_pos,fun h hk=>fnk188 h hk⟩
inductive O7 where
  | f112
  | f113
  | f115
  | f116
  | f117
  | f119
  | f121
  deriving Inhabited,DecidableEq
def B13(x:O7):Nat:=match x with
  | .f112=>112
  | .f113=>113
  | .f115=>115
  | .f116=>116
  | .f117=>117
  | .f119=>119
  | .f121=>121
def B7k(x:O7)(sv:SV):Array Value:=match x with
  | .f112=> #[]
  | .f113=> #[]
  | .f115=> #[]
  | .f116=> #[]
  | .f117=> #[]
  | .f119=> #[]
  | .f121=> #[]
def B18(x:O7)(sv:SV):Value:=.func (.func (B13 x)) #[] (B7k x sv)
def B4h(S:Nat→Prop)(w:World)(x:O7)(sv:SV):Prop:=match x with
  | .f112=>True
  | .f113=>True
  | .f115=>True
  | .f116=>True
  | .f117=>True
  | .f119=>True
  | .f121=>True
theorem fnk190{S S':Nat→Prop}{w w':World}{x:O7}{sv:SV}(h:B4h S w x sv)(hk:∀b,S b→IsC w b→S' b∧w'.heap[b]? =w.heap[b]?):B4h S' w' x sv:=by
  cases x with
  | f112=>exact trivial
  | f113=>exact trivial
  | f115=>exact trivial
  | f116=>exact trivial
  | f117=>exact trivial
  | f119=>exact trivial
  | f121=>exact trivial
def A2h:Kd O7:=⟨1,fun x sv=>[B18 x sv],fun S w x sv=>B4h S w x sv,fun _ _=>rfl,Nat.one_pos,fun h hk=>fnk190 h hk⟩
inductive W5 where
  | f126
  | f127
  deriving Inhabited,DecidableEq
def B15(x:W5):Nat:=match x with
  | .f126=>126
  | .f127=>127
def B7m(x:W5)(sv:SV):Array Value:=match x with
  | .f126=> #[]
  | .f127=> #[]
def B19(x:W5)(sv:SV):Value:=.func (.func (B15 x)) #[] (B7m x sv)
def B4j(S:Nat→Prop)(w:World)(x:W5)(sv:SV):Prop:=match x with
  | .f126=>True
  | .f127=>True
theorem fnk194{S S':Nat→Prop}{w w':World}{x:W5}{sv:SV}(h:B4j S w x sv)(hk:∀b,S b→IsC w b→S' b∧w'.heap[b]? =w.heap[b]?):B4j S' w' x sv:=by
  cases x with
  | f126=>exact trivial
  | f127=>exact trivial
def A4f:Kd W5:=⟨1,fun x sv=>[B19 x sv],fun S w x sv=>B4j S w x sv,fun _ _=>rfl,Nat.one_pos,fun h hk=>fnk194 h hk⟩
inductive A0t where
  | f138 (c0:W5)
  | f123
  | f124
  | f128
  deriving Inhabited,DecidableEq
def B5u(x:A0t):Nat:=match x with
  | .f138 _=>138
  | .f123=>123
  | .f124=>124
  | .f128=>128
def fca81(x:A0t)(sv:SV):Array Value:=match x with
  | .f138 _=> #[.pointer (some (adr (sv 0).1))]
  | .f123=> #[]
  | .f124=> #[]
  | .f128=> #[]
def B05(x:A0t)(sv:SV):Value:=.func (.func (B5u x)) #[] (fca81 x sv)
def B7r(S:Nat→Prop)(w:World)(x:A0t)(sv:SV):Prop:=match x with
  | .f138 c0=>El A4f S w (adr (sv 0).1) c0 (svO sv 1)
  | .f123=>True
  | .f124=>True
  | .f128=>True
theorem fnk81{S S':Nat→Prop}{w w':World}{x:A0t}{sv:SV}(h:B7r S w x sv)(hk:∀b,S b→IsC w b→S' b∧w'.heap[b]? =w.heap[b]?):B7r S' w' x sv:=by
  cases x with
  | f138 c0=>exact El.keep h hk
  | f123=>exact trivial
  | f124=>exact trivial
  | f128=>exact trivial
def A6w:Kd A0t:=⟨1,fun x sv=>[B05 x sv],fun S w x sv=>B7r S w x sv,fun _ _=>rfl,Nat.one_pos,fun h hk=>fnk81 h hk⟩
inductive A1s where
  | f132 (c0:U4)
  | f134 (c0:O7)
  | f137 (c0:A0t)
  | f105
  | f110
  | f129
  deriving Inhabited,DecidableEq
def B28(x:A1s):Nat:=match x with
  | .f132 _=>132
  | .f134 _=>134
  | .f137 _=>137
  | .f105=>105
  | .f110=>110
  | .f129=>129
def B7o(x:A1s)(sv:SV):Array Value:=match x with
  | .f132 _=> #[.pointer (some (adr (sv 0).1))]
  | .f134 _=> #[.pointer (some (adr (sv 0).1))]
  | .f137 _=> #[.pointer (some (adr (sv 0).1))]
  | .f105=> #[]
  | .f110=> #[]
  | .f129=> #[]
def A3m(x:A1s)(sv:SV):Value:=.func (.func (B28 x)) #[] (B7o x sv)
def B5x(S:Nat→Prop)(w:World)(x:A1s)(sv:SV):Prop:=match x with
  | .f132 c0=>El A32 S w (adr (sv 0).1) c0 (svO sv 1)
  | .f134 c0=>El A2h S w (adr (sv 0).1) c0 (svO sv 1)
  | .f137 c0=>El A6w S w (adr (sv 0).1) c0 (svO sv 1)
  | .f105=>True
  | .f110=>True
  | .f129=>True
theorem fnk37{S S':Nat→Prop}{w w':World}{x:A1s}{sv:SV}(h:B5x S w x sv)(hk:∀b,S b→IsC w b→S' b∧w'.heap[b]? =w.heap[b]?):B5x S' w' x sv:=by
  cases x with
  | f132 c0=>exact El.keep h hk
  | f134 c0=>exact El.keep h hk
  | f137 c0=>exact El.keep h hk
  | f105=>exact trivial
  | f110=>exact trivial
  | f129=>exact trivial
def B73:Kd A1s:=⟨1,fun x sv=>[A3m x sv],fun S w x sv=>B5x S w x sv,fun _ _=>rfl,Nat.one_pos,fun h hk=>fnk37 h hk⟩
structure H6 where
  holds:A1s
  deriving Inhabited,DecidableEq
def I8:Kd H6:=⟨1,fun x sv=>[(A3m x.holds sv)],fun S w x sv=>(B5x S w x.holds sv)∧True,fun _ _=>rfl,Nat.le_of_ble_eq_true rfl,fun h hk=>⟨fnk37 h.1 hk,trivial⟩⟩
inductive A0d where
  | f136 (c0:O7) (c1:C1)
  deriving Inhabited,DecidableEq
def B14(x:A0d):Nat:=match x with
  | .f136 _ _=>136
def B7l(x:A0d)(sv:SV):Array Value:=match x with
  | .f136 _ _=> #[.pointer (some (adr (sv 0).1)),.pointer (some (adr (sv 1).1))]
def A66(x:A0d)(sv:SV):Value:=.func (.func (B14 x)) #[] (B7l x sv)
def B4i(S:Nat→Prop)(w:World)(x:A0d)(sv:SV):Prop:=match x with
  | .f136 c0 c1=>El A2h S w (adr (sv 0).1) c0 (svO sv 1)∧El B5 S w (adr (sv 1).1) c1 (svO sv 2)
theorem fnk191{S S':Nat→Prop}{w w':World}{x:A0d}{sv:SV}(h:B4i S w x sv)(hk:∀b,S b→IsC w b→S' b∧w'.heap[b]? =w.heap[b]?):B4i S' w' x sv:=by
  cases x with
  | f136 c0 c1=>exact ⟨El.keep h.1 hk,El.keep h.2 hk⟩
def B2c:Kd A0d:=⟨1,fun x sv=>[A66 x sv],fun S w x sv=>B4i S w x sv,fun _ _=>rfl,Nat.one_pos,fun h hk=>fnk191 h hk⟩
inductive Y4 where
  | f140 (c0:W5) (c1:C1) (c2:Int)
  | f143 (c0:Int)
  deriving Inhabited,DecidableEq
def B16(x:Y4):Nat:=match x with
  | .f140 _ _ _=>140
  | .f143 _=>143
def B7n(x:Y4)(sv:SV):Array Value:=match x with
  | .f140 _ _ _=> #[.pointer (some (adr (sv 0).1)),.pointer (some (adr (sv 1).1)),.pointer (some (adr (sv 6).1))]
  | .f143 _=> #[.pointer (some (adr (sv 0).1))]
def A67(x:Y4)(sv:SV):Value:=.func (.func (B16 x)) #[] (B7n x sv)
def B4k(S:Nat→Prop)(w:World)(x:Y4)(sv:SV):Prop:=match x with
  | .f140 c0 c1 c2=>El A4f S w (adr (sv 0).1) c0 (svO sv 1)∧El B5 S w (adr (sv 1).1) c1 (svO sv 2)∧El (Kd.int .i64) S w (adr (sv 6).1) c2 (svO sv 7)
  | .f143 c0=>El (Kd.int .i64) S w (adr (sv 0).1) c0 (svO sv 1)
theorem fnk200{S S':Nat→Prop}{w w':World}{x:Y4}{sv:SV}(h:B4k S w x sv)(hk:∀b,S b→IsC w b→S' b∧w'.heap[b]? =w.heap[b]?):B4k S' w' x sv:=by
  cases x with
  | f140 c0 c1 c2=>exact ⟨El.keep h.1 hk,El.keep h.2.1 hk,El.keep h.2.2 hk⟩
  | f143 c0=>exact El.keep h hk
def A9z:Kd Y4:=⟨1,fun x sv=>[A67 x sv],fun S w x sv=>B4k S w x sv,fun _ _=>rfl,Nat.one_pos,fun h hk=>fnk200 h hk⟩
structure B2v where
  e0:ByteArray
  e1:ByteArray
  e2:ByteArray
  e3:ByteArray
  e4:ByteArray
  e5:ByteArray
  e6:ByteArray
  e7:ByteArray
  e8:ByteArray
  e9:ByteArray
  deriving Inhabited,DecidableEq
def X7:Kd B2v:=⟨10,fun x sv=>[.string x.e0,.string x.e1,.string x.e2,.string x.e3,.string x.e4,.string x.e5,.string x.e6,.string x.e7,.string x.e8,.string x.e9],fun S w x sv=>True,fun _ _=>rfl,Nat.le_of_ble_eq_true rfl,fun h hk=>trivial⟩
def A6m(x:B2v)(i:Int):ByteArray:=if i=0 then x.e0 else if i=1 then x.e1 else if i=2 then x.e2 else if i=3 then x.e3 else if i=4 then x.e4 else if i=5 then x.e5 else if i=6 then x.e6 else if i=7 then x.e7 else if i=8 then x.e8 else x.e9
theorem B6l{S:Nat→Prop}{w:World}{B:Addr}{x:B2v}{sv:SV}(h:El X7 S w B x sv){i:Int}(hi:inb i 10=true):El Kd.str S w (B.add (i.toNat*1)) (A6m x i) (svO sv (i.toNat*0)):=by
  obtain ⟨h0,h1⟩:=A0q hi;have:i=0∨i=1∨i=2∨i=3∨i=4∨i=5∨i=6∨i=7∨i=8∨i=9:=by omega
  rcases this with rfl | rfl | rfl | rfl | rfl | rfl | rfl | rfl | rfl | rfl
  · exact El.part h (0*1) x.e0 (svO sv (0*0)) trivial rfl
  · exact El.part h (1*1) x.e1 (svO sv (1*0)) trivial rfl
  · exact El.part h (2*1) x.e2 (svO sv (2*0)) trivial rfl
  · exact El.part h (3*1) x.e3 (svO sv (3*0)) trivial rfl
  · exact El.part h (4*1) x.e4 (svO sv (4*0)) trivial rfl
  · exact El.part h (5*1) x.e5 (svO sv (5*0)) trivial rfl
  · exact El.part h (6*1) x.e6 (svO sv (6*0)) trivial rfl
  · exact El.part h (7*1) x.e7 (svO sv (7*0)) trivial rfl
  · exact El.part h (8*1) x.e8 (svO sv (8*0)) trivial rfl
  · exact El.part h (9*1) x.e9 (svO sv (9*0)) trivial rfl
structure E6 where
  en:L7
  c:C1
  s:D0
  channel:Q2
  source:Bool
  own:Bool
  deriving Inhabited,DecidableEq
def D5:Kd E6:=⟨23,fun x sv=>[.int .i64 x.en.Op,.int .i64 x.en.u5,.int .u64 x.en.ke,.slice (sv 0).1 x.en.u9.length (sv 0).2,.slice (sv 1).1 x.c.r8.length (sv 1).2,.slice (sv 2).1 x.c.r6.length (sv 2).2,.int .i64 x.c.r7.e0.z5,.slice (sv 3).1 x.c.r7.e0.r9.length (sv 3).2,.int .i64 x.c.r7.e1.z5,.slice (sv 4).1 x.c.r7.e1.r9.length (sv 4).2,.int .i64 x.s.u3,.bool x.s.z7,.slice (sv 5).1 x.s.z9.length (sv 5).2,.slice (sv 6).1 x.s.u7.length (sv 6).2,.int .i64 x.channel.u6,.int .i64 x.channel.kr,.int .i64 x.channel.To,.int .i64 x.channel.py,.int .i64 x.channel.z8,.int .i64 x.channel.kn,.int .u32 x.channel.qn,.bool x.source,.bool x.own],fun S w x sv=>(Arr (Kd.int .u32) S w (sv 0).1 x.en.u9∧x.en.u9.length≤(sv 0).2)∧(Arr N7 S w (sv 1).1 x.c.r8∧x.c.r8.length≤(sv 1).2)∧(Arr G3 S w (sv 2).1 x.c.r6∧x.c.r6.length≤(sv 2).2)∧(Arr D9 S w (sv 3).1 x.c.r7.e0.r9∧x.c.r7.e0.r9.length≤(sv 3).2)∧(Arr D9 S w (sv 4).1 x.c.r7.e1.r9∧x.c.r7.e1.r9.length≤(sv 4).2)∧(Arr (Kd.int .i64) S w (sv 5).1 x.s.z9∧x.s.z9.length≤(sv 5).2)∧(Arr (Kd.int .i64) S w (sv 6).1 x.s.u7∧x.s.u7.length≤(sv 6).2)∧True,fun _ _=>rfl,Nat.le_of_ble_eq_true rfl,fun h hk=>⟨⟨h.1.1.keep hk,h.1.2⟩,⟨h.2.1.1.keep hk,h.2.1.2⟩,⟨h.2.2.1.1.keep hk,h.2.2.1.2⟩,⟨h.2.2.2.1.1.keep hk,h.2.2.2.1.2⟩,⟨h.2.2.2.2.1.1.keep hk,h.2.2.2.2.1.2⟩,⟨h.2.2.2.2.2.1.1.keep hk,h.2.2.2.2.2.1.2⟩,⟨h.2.2.2.2.2.2.1.1.keep hk,h.2.2.2.2.2.2.1.2⟩,trivial⟩⟩
inductive K9 where
  | f79 (c0:Int) (c1:Bool)
  | f81
  | f82
  | f83
  | f84
  | f85
  | f86
  | f87
  | f88
  | f89
  deriving Inhabited,DecidableEq
def B11(x:K9):Nat:=match x with
  | .f79 _ _=>79
  | .f81=>81
  | .f82=>82
  | .f83=>83
  | .f84=>84
  | .f85=>85
  | .f86=>86
  | .f87=>87
  | .f88=>88
  | .f89=>89
def B7i(x:K9)(sv:SV):Array Value:=match x with
  | .f79 _ _=> #[.pointer (some (adr (sv 0).1)),.pointer (some (adr (sv 1).1))]
  | .f81=> #[]
  | .f82=> #[]
  | .f83=> #[]
  | .f84=> #[]
  | .f85=> #[]
  | .f86=> #[]
  | .f87=> #[]
  | .f88=> #[]
  | .f89=> #[]
def A1u(x:K9)(sv:SV):Value:=.func (.func (B11 x)) #[] (B7i x sv)
def B17(S:Nat→Prop)(w:World)(x:K9)(sv:SV):Prop:=match x with
  | .f79 c0 c1=>El (Kd.int .i64) S w (adr (sv 0).1) c0 (svO sv 1)∧El Kd.bool S w (adr (sv 1).1) c1 (svO sv 2)
  | .f81=>True
  | .f82=>True
  | .f83=>True
  | .f84=>True
  | .f85=>True
  | .f86=>True
  | .f87=>True
  | .f88=>True
  | .f89=>True
theorem B7s{S S':Nat→Prop}{w w':World}{x:K9}{sv:SV}(h:B17 S w x sv)(hk:∀b,S b→IsC w b→S' b∧w'.heap[b]? =w.heap[b]?):B17 S' w' x sv:=by
  cases x with
  | f79 c0 c1=>exact ⟨El.keep h.1 hk,El.keep h.2 hk⟩
  | f81=>exact trivial
  | f82=>exact trivial
  | f83=>exact trivial
  | f84=>exact trivial
  | f85=>exact trivial
  | f86=>exact trivial
  | f87=>exact trivial
  | f88=>exact trivial
  | f89=>exact trivial
def B72:Kd K9:=⟨1,fun x sv=>[A1u x sv],fun S w x sv=>B17 S w x sv,fun _ _=>rfl,Nat.one_pos,fun h hk=>B7s h hk⟩
structure R5 where
  kr:Int
  ql:Int
  deriving Inhabited,DecidableEq
def U8:Kd R5:=⟨2,fun x sv=>[.int .i64 x.kr,.int .i64 x.ql],fun S w x sv=>True,fun _ _=>rfl,Nat.le_of_ble_eq_true rfl,fun h hk=>trivial⟩
theorem A5t(x:R5)(sv:SV)(u:Value)(hu:u∈U8.cells x sv):u.oneCell'=true:=by
  simp only [U8,List.mem_cons,List.not_mem_nil,or_false] at hu;rcases hu with rfl | rfl
  all_goals rfl
structure P7 where
  parts:Int
  l:(List R5)
  end_:Int
  deriving Inhabited,DecidableEq
def X6:Kd P7:=⟨3,fun x sv=>[.int .i64 x.parts,.slice (sv 0).1 x.l.length (sv 0).2,.int .i64 x.end_],fun S w x sv=>(Arr U8 S w (sv 0).1 x.l∧x.l.length≤(sv 0).2)∧True,fun _ _=>rfl,Nat.le_of_ble_eq_true rfl,fun h hk=>⟨⟨h.1.1.keep hk,h.1.2⟩,trivial⟩⟩
structure E7 where
  ops:ByteArray
  holds:K9
  code:Int
  deriving Inhabited,DecidableEq
def A2m:Kd E7:=⟨3,fun x sv=>[.string x.ops,(A1u x.holds sv),.int .i64 x.code],fun S w x sv=>(B17 S w x.holds sv)∧True,fun _ _=>rfl,Nat.le_of_ble_eq_true rfl,fun h hk=>⟨B7s h.1 hk,trivial⟩⟩
structure C9 where
  X:I5
  A:E5
  qb:Int
  qf:Int
  deriving Inhabited,DecidableEq
def F6:Kd C9:=⟨26,fun x sv=>[.int .i64 x.X.u3,.int .i64 x.X.u4.Op,.int .i64 x.X.u4.u5,.int .u64 x.X.u4.ke,.slice (sv 0).1 x.X.u4.u9.length (sv 0).2,.int .i64 x.X.qh.z6,.slice (sv 1).1 x.X.qh.u9.length (sv 1).2,.bool x.X.qh.u7,.int .i64 x.X.qh.qd,.bool x.X.kt,.int .i64 x.X.kr,.int .i64 x.X.To,.int .i64 x.X.T0,.int .i64 x.X.T1,.int .i64 x.X.Own0,.int .i64 x.X.Own1,.int .i64 x.X.qi,.int .i64 x.X.qe,.int .i64 x.X.qc,.int .i64 x.X.Saw,.int .i64 x.A.z6,.slice (sv 2).1 x.A.u9.length (sv 2).2,.bool x.A.u7,.int .i64 x.A.qd,.int .i64 x.qb,.int .i64 x.qf],fun S w x sv=>(Arr (Kd.int .u32) S w (sv 0).1 x.X.u4.u9∧x.X.u4.u9.length≤(sv 0).2)∧(Arr (Kd.int .u32) S w (sv 1).1 x.X.qh.u9∧x.X.qh.u9.length≤(sv 1).2)∧(Arr (Kd.int .u32) S w (sv 2).1 x.A.u9∧x.A.u9.length≤(sv 2).2)∧True,fun _ _=>rfl,Nat.le_of_ble_eq_true rfl,fun h hk=>⟨⟨h.1.1.keep hk,h.1.2⟩,⟨h.2.1.1.keep hk,h.2.1.2⟩,⟨h.2.2.1.1.keep hk,h.2.2.1.2⟩,trivial⟩⟩
theorem X9(x:C9)(sv:SV)(u:Value)(hu:u∈F6.cells x sv):u.oneCell'=true:=by
  simp only [F6,List.mem_cons,List.not_mem_nil,or_false] at hu;rcases hu with rfl | rfl | rfl | rfl | rfl | rfl | rfl | rfl | rfl | rfl | rfl | rfl | rfl | rfl | rfl | rfl | rfl | rfl | rfl | rfl | rfl | rfl | rfl | rfl | rfl | rfl
  all_goals rfl
structure U3 where
  qm:Int
  u3:Int
  qj:Bool
  Is:Bool
  deriving Inhabited,DecidableEq
def T3:Kd U3:=⟨4,fun x sv=>[.int .i64 x.qm,.int .i64 x.u3,.bool x.qj,.bool x.Is],fun S w x sv=>True,fun _ _=>rfl,Nat.le_of_ble_eq_true rfl,fun h hk=>trivial⟩
structure N0 where
  C:C1
  qa:(List I5)
  kz:(List J0)
  deriving Inhabited,DecidableEq
def K6:Kd N0:=⟨8,fun x sv=>[.slice (sv 0).1 x.C.r8.length (sv 0).2,.slice (sv 1).1 x.C.r6.length (sv 1).2,.int .i64 x.C.r7.e0.z5,.slice (sv 2).1 x.C.r7.e0.r9.length (sv 2).2,.int .i64 x.C.r7.e1.z5,.slice (sv 3).1 x.C.r7.e1.r9.length (sv 3).2,.slice (sv 4).1 x.qa.length (sv 4).2,.slice (sv 5).1 x.kz.length (sv 5).2],fun S w x sv=>(Arr N7 S w (sv 0).1 x.C.r8∧x.C.r8.length≤(sv 0).2)∧(Arr G3 S w (sv 1).1 x.C.r6∧x.C.r6.length≤(sv 1).2)∧(Arr D9 S w (sv 2).1 x.C.r7.e0.r9∧x.C.r7.e0.r9.length≤(sv 2).2)∧(Arr D9 S w (sv 3).1 x.C.r7.e1.r9∧x.C.r7.e1.r9.length≤(sv 3).2)∧(Arr F7 S w (sv 4).1 x.qa∧x.qa.length≤(sv 4).2)∧(Arr W0 S w (sv 5).1 x.kz∧x.kz.length≤(sv 5).2)∧True,fun _ _=>rfl,Nat.le_of_ble_eq_true rfl,fun h hk=>⟨⟨h.1.1.keep hk,h.1.2⟩,⟨h.2.1.1.keep hk,h.2.1.2⟩,⟨h.2.2.1.1.keep hk,h.2.2.1.2⟩,⟨h.2.2.2.1.1.keep hk,h.2.2.2.1.2⟩,⟨h.2.2.2.2.1.1.keep hk,h.2.2.2.2.1.2⟩,⟨h.2.2.2.2.2.1.1.keep hk,h.2.2.2.2.2.1.2⟩,trivial⟩⟩
def gv0:A0x:=(⟨(-1),(-1)⟩:A0x)
def gv1:B2v:=(⟨(⟨#[]⟩:ByteArray),(⟨#[99,114,101,97,116,101]⟩:ByteArray),(⟨#[110,111,114,109,97,108]⟩:ByteArray),(⟨#[119,114,105,116,101]⟩:ByteArray),(⟨#[114,101,97,100]⟩:ByteArray),(⟨#[115,101,110,100]⟩:ByteArray),(⟨#[114,101,99,101,105,118,101]⟩:ByteArray),(⟨#[115,116,97,116,117,115]⟩:ByteArray),(⟨#[112,101,101,107]⟩:ByteArray),(⟨#[112,111,107,101]⟩:ByteArray)⟩:B2v)
def B6i(x:S5):Prop:=(InK .i64) x.pz∧(InK .i64) x.ka
theorem B9p:Opn Tryz.prog 78 N7 B6i:=by
  refine ⟨by kernel_rfl,fun h=>?_⟩;obtain ⟨xs,m,_,_,hlen,hxs,hf⟩:=DataW.trod_struct Tryz.underlying78 h;obtain ⟨v0,s0,c0,k0,w0⟩:=E8 hf hxs 0 _ rfl (Opn.int Tryz.underlying3 Kz);obtain ⟨v1,s1,c1,k1,w1⟩:=E8 hf hxs 1 _ rfl (Opn.int Tryz.underlying3 Kz);exact ⟨⟨v0,v1⟩,svL [],(Y3 [1,1] hlen Kz).trans (V9 c0 (V9 c1 rfl)),trivial,⟨w0,w1⟩⟩
def B6g(x:Q2):Prop:=(InK .i64) x.u6∧(InK .i64) x.kr∧(InK .i64) x.To∧(InK .i64) x.py∧(InK .i64) x.z8∧(InK .i64) x.kn∧(InK .u32) x.qn
theorem B9n:Opn Tryz.prog 89 G3 B6g:=by
  refine ⟨by kernel_rfl,fun h=>?_⟩;obtain ⟨xs,m,_,_,hlen,hxs,hf⟩:=DataW.trod_struct Tryz.underlying89 h;obtain ⟨v0,s0,c0,k0,w0⟩:=E8 hf hxs 0 _ rfl (Opn.int Tryz.underlying3 Kz);obtain ⟨v1,s1,c1,k1,w1⟩:=E8 hf hxs 1 _ rfl (Opn.int Tryz.underlying3 Kz);obtain ⟨v2,s2,c2,k2,w2⟩:=E8 hf hxs 2 _ rfl (Opn.int Tryz.underlying3 Kz);obtain ⟨v3,s3,c3,k3,w3⟩:=E8 hf hxs 3 _ rfl (Opn.int Tryz.underlying3 Kz);obtain ⟨v4,s4,c4,k4,w4⟩:=E8 hf hxs 4 _ rfl (Opn.int Tryz.underlying3 Kz);obtain ⟨v5,s5,c5,k5,w5⟩:=E8 hf hxs 5 _ rfl (Opn.int Tryz.underlying3 Kz);obtain ⟨v6,s6,c6,k6,w6⟩:=E8 hf hxs 6 _ rfl (Opn.int Tryz.underlying87 Kz);exact ⟨⟨v0,v1,v2,v3,v4,v5,v6⟩,svL [],(Y3 [1,1,1,1,1,1,1] hlen Kz).trans (V9 c0 (V9 c1 (V9 c2 (V9 c3 (V9 c4 (V9 c5 (V9 c6 rfl))))))),trivial,⟨w0,w1,w2,w3,w4,w5,w6⟩⟩
def B1n(x:F9):Prop:=(InK .i64) x.u3∧(InK .i64) x.ko∧(InK .i64) x.qk
theorem B6u:Opn Tryz.prog 80 D9 B1n:=by
  refine ⟨by kernel_rfl,fun h=>?_⟩;obtain ⟨xs,m,_,_,hlen,hxs,hf⟩:=DataW.trod_struct Tryz.underlying80 h;obtain ⟨v0,s0,c0,k0,w0⟩:=E8 hf hxs 0 _ rfl (Opn.int Tryz.underlying3 Kz);obtain ⟨v1,s1,c1,k1,w1⟩:=E8 hf hxs 1 _ rfl (Opn.int Tryz.underlying3 Kz);obtain ⟨v2,s2,c2,k2,w2⟩:=E8 hf hxs 2 _ rfl (Opn.int Tryz.underlying3 Kz);exact ⟨⟨v0,v1,v2⟩,svL [],(Y3 [1,1,1] hlen Kz).trans (V9 c0 (V9 c1 (V9 c2 rfl))),trivial,⟨w0,w1,w2⟩⟩
def B0o(x:A4j):Prop:=(InK .i64) x.z5∧(fun xs=>xs.length≤maxLen∧∀x∈xs,B1n x) x.r9
theorem B3o:Opn Tryz.prog 26 A90 B0o:=by
  refine ⟨by kernel_rfl,fun h=>?_⟩;obtain ⟨xs,m,_,_,hlen,hxs,hf⟩:=DataW.trod_struct Tryz.underlying26 h;obtain ⟨v0,s0,c0,k0,w0⟩:=E8 hf hxs 0 _ rfl (Opn.int Tryz.underlying3 Kz);obtain ⟨v1,s1,c1,k1,w1⟩:=E8 hf hxs 1 _ rfl (Opn.slice B6u Tryz.underlying24 Kz);exact ⟨⟨v0,v1⟩,svL [s1 0],(Y3 [1,1] hlen Kz).trans (V9 c0 (V9 c1 rfl)),⟨k1,trivial⟩,⟨w0,w1⟩⟩
def B6j(x:B0r):Prop:=B0o x.e0∧B0o x.e1
theorem B9q:Opn Tryz.prog 27 A1b B6j:=by
  refine ⟨by kernel_rfl,fun h=>?_⟩;obtain ⟨xs,m,_,_,hlen,hxs,hf⟩:=DataW.trod_array Tryz.underlying27 h;obtain ⟨v0,s0,c0,k0,w0⟩:=B3p hf hxs 0 (by decide) B3o;obtain ⟨v1,s1,c1,k1,w1⟩:=B3p hf hxs 1 (by decide) B3o;exact ⟨⟨v0,v1⟩,svL [s0 0,s1 0],(Y3 [2,2] hlen Kz).trans (V9 c0 (V9 c1 rfl)),⟨k0.1,k1.1,trivial⟩,⟨w0,w1⟩⟩
def A8q(x:C1):Prop:=(fun xs=>xs.length≤maxLen∧∀x∈xs,B6i x) x.r8∧(fun xs=>xs.length≤maxLen∧∀x∈xs,B6g x) x.r6∧B6j x.r7
theorem B6t:Opn Tryz.prog 29 B5 A8q:=by
  refine ⟨by kernel_rfl,fun h=>?_⟩;obtain ⟨xs,m,_,_,hlen,hxs,hf⟩:=DataW.trod_struct Tryz.underlying29 h;obtain ⟨v0,s0,c0,k0,w0⟩:=E8 hf hxs 0 _ rfl (Opn.slice B9p Tryz.underlying22 Kz);obtain ⟨v1,s1,c1,k1,w1⟩:=E8 hf hxs 1 _ rfl (Opn.slice B9n Tryz.underlying23 Kz);obtain ⟨v2,s2,c2,k2,w2⟩:=E8 hf hxs 2 _ rfl B9q;exact ⟨⟨v0,v1,v2⟩,svL [s0 0,s1 0,s2 0,s2 1],(Y3 [1,1,4] hlen Kz).trans (V9 c0 (V9 c1 (V9 c2 rfl))),⟨k0,k1,k2.1,k2.2.1,trivial⟩,⟨w0,w1,w2⟩⟩
def B0p(x:L7):Prop:=(InK .i64) x.Op∧(InK .i64) x.u5∧(InK .u64) x.ke∧(fun xs=>xs.length≤maxLen∧∀x∈xs,(InK .u32) x) x.u9
theorem B46:Opn Tryz.prog 45 R7 B0p:=by
  refine ⟨by kernel_rfl,fun h=>?_⟩;obtain ⟨xs,m,_,_,hlen,hxs,hf⟩:=DataW.trod_struct Tryz.underlying45 h;obtain ⟨v0,s0,c0,k0,w0⟩:=E8 hf hxs 0 _ rfl (Opn.int Tryz.underlying3 Kz);obtain ⟨v1,s1,c1,k1,w1⟩:=E8 hf hxs 1 _ rfl (Opn.int Tryz.underlying3 Kz);obtain ⟨v2,s2,c2,k2,w2⟩:=E8 hf hxs 2 _ rfl (Opn.int Tryz.underlying42 Kz);obtain ⟨v3,s3,c3,k3,w3⟩:=E8 hf hxs 3 _ rfl (Opn.slice (Opn.int Tryz.underlying87 Kz) Tryz.underlying43 Kz);exact ⟨⟨v0,v1,v2,v3⟩,svL [s3 0],(Y3 [1,1,1,1] hlen Kz).trans (V9 c0 (V9 c1 (V9 c2 (V9 c3 rfl)))),⟨k3,trivial⟩,⟨w0,w1,w2,w3⟩⟩
def B1m(x:E5):Prop:=(InK .i64) x.z6∧(fun xs=>xs.length≤maxLen∧∀x∈xs,(InK .u32) x) x.u9∧(fun _=>True) x.u7∧(InK .i64) x.qd
theorem B6s:Opn Tryz.prog 48 K1 B1m:=by
  refine ⟨by kernel_rfl,fun h=>?_⟩;obtain ⟨xs,m,_,_,hlen,hxs,hf⟩:=DataW.trod_struct Tryz.underlying48 h;obtain ⟨v0,s0,c0,k0,w0⟩:=E8 hf hxs 0 _ rfl (Opn.int Tryz.underlying46 Kz);obtain ⟨v1,s1,c1,k1,w1⟩:=E8 hf hxs 1 _ rfl (Opn.slice (Opn.int Tryz.underlying87 Kz) Tryz.underlying43 Kz);obtain ⟨v2,s2,c2,k2,w2⟩:=E8 hf hxs 2 _ rfl (Opn.bool Tryz.underlying4 Kz);obtain ⟨v3,s3,c3,k3,w3⟩:=E8 hf hxs 3 _ rfl (Opn.int Tryz.underlying3 Kz);exact ⟨⟨v0,v1,v2,v3⟩,svL [s1 0],(Y3 [1,1,1,1] hlen Kz).trans (V9 c0 (V9 c1 (V9 c2 (V9 c3 rfl)))),⟨k1,trivial⟩,⟨w0,w1,w2,w3⟩⟩
def B6f(x:I5):Prop:=(InK .i64) x.u3∧B0p x.u4∧B1m x.qh∧(fun _=>True) x.kt∧(InK .i64) x.kr∧(InK .i64) x.To∧(InK .i64) x.T0∧(InK .i64) x.T1∧(InK .i64) x.Own0∧(InK .i64) x.Own1∧(InK .i64) x.qi∧(InK .i64) x.qe∧(InK .i64) x.qc∧(InK .i64) x.Saw
theorem B9m:Opn Tryz.prog 50 F7 B6f:=by
  refine ⟨by kernel_rfl,fun h=>?_⟩;obtain ⟨xs,m,_,_,hlen,hxs,hf⟩:=DataW.trod_struct Tryz.underlying50 h;obtain ⟨v0,s0,c0,k0,w0⟩:=E8 hf hxs 0 _ rfl (Opn.int Tryz.underlying3 Kz);obtain ⟨v1,s1,c1,k1,w1⟩:=E8 hf hxs 1 _ rfl B46;obtain ⟨v2,s2,c2,k2,w2⟩:=E8 hf hxs 2 _ rfl B6s;obtain ⟨v3,s3,c3,k3,w3⟩:=E8 hf hxs 3 _ rfl (Opn.bool Tryz.underlying4 Kz);obtain ⟨v4,s4,c4,k4,w4⟩:=E8 hf hxs 4 _ rfl (Opn.int Tryz.underlying3 Kz);obtain ⟨v5,s5,c5,k5,w5⟩:=E8 hf hxs 5 _ rfl (Opn.int Tryz.underlying3 Kz);obtain ⟨v6,s6,c6,k6,w6⟩:=E8 hf hxs 6 _ rfl (Opn.int Tryz.underlying3 Kz);obtain ⟨v7,s7,c7,k7,w7⟩:=E8 hf hxs 7 _ rfl (Opn.int Tryz.underlying3 Kz);obtain ⟨v8,s8,c8,k8,w8⟩:=E8 hf hxs 8 _ rfl (Opn.int Tryz.underlying3 Kz);obtain ⟨v9,s9,c9,k9,w9⟩:=E8 hf hxs 9 _ rfl (Opn.int Tryz.underlying3 Kz);obtain ⟨v10,s10,c10,k10,w10⟩:=E8 hf hxs 10 _ rfl (Opn.int Tryz.underlying3 Kz);obtain ⟨v11,s11,c11,k11,w11⟩:=E8 hf hxs 11 _ rfl (Opn.int Tryz.underlying3 Kz);obtain ⟨v12,s12,c12,k12,w12⟩:=E8 hf hxs 12 _ rfl (Opn.int Tryz.underlying3 Kz);obtain ⟨v13,s13,c13,k13,w13⟩:=E8 hf hxs 13 _ rfl (Opn.int Tryz.underlying3 Kz);exact ⟨⟨v0,v1,v2,v3,v4,v5,v6,v7,v8,v9,v10,v11,v12,v13⟩,svL [s1 0,s2 0],(Y3 [1,4,4,1,1,1,1,1,1,1,1,1,1,1] hlen Kz).trans (V9 c0 (V9 c1 (V9 c2 (V9 c3 (V9 c4 (V9 c5 (V9 c6 (V9 c7 (V9 c8 (V9 c9 (V9 c10 (V9 c11 (V9 c12 (V9 c13 rfl)))))))))))))),⟨k1.1,k2.1,trivial⟩,⟨w0,w1,w2,w3,w4,w5,w6,w7,w8,w9,w10,w11,w12,w13⟩⟩
def B0n(x:J0):Prop:=(InK .i64) x.u3∧(fun xs=>xs.length≤maxLen∧∀x∈xs,(InK .i64) x) x.qg∧(InK .i64) x.At∧(InK .i64) x.Tick∧(InK .i64) x.Own
theorem B45:Opn Tryz.prog 56 W0 B0n:=by
  refine ⟨by kernel_rfl,fun h=>?_⟩;obtain ⟨xs,m,_,_,hlen,hxs,hf⟩:=DataW.trod_struct Tryz.underlying56 h;obtain ⟨v0,s0,c0,k0,w0⟩:=E8 hf hxs 0 _ rfl (Opn.int Tryz.underlying3 Kz);obtain ⟨v1,s1,c1,k1,w1⟩:=E8 hf hxs 1 _ rfl (Opn.slice (Opn.int Tryz.underlying3 Kz) Tryz.underlying54 Kz);obtain ⟨v2,s2,c2,k2,w2⟩:=E8 hf hxs 2 _ rfl (Opn.int Tryz.underlying3 Kz);obtain ⟨v3,s3,c3,k3,w3⟩:=E8 hf hxs 3 _ rfl (Opn.int Tryz.underlying3 Kz);obtain ⟨v4,s4,c4,k4,w4⟩:=E8 hf hxs 4 _ rfl (Opn.int Tryz.underlying3 Kz);exact ⟨⟨v0,v1,v2,v3,v4⟩,svL [s1 0],(Y3 [1,1,1,1,1] hlen Kz).trans (V9 c0 (V9 c1 (V9 c2 (V9 c3 (V9 c4 rfl))))),⟨k1,trivial⟩,⟨w0,w1,w2,w3,w4⟩⟩
def B6h(x:D8):Prop:=(InK .i64) x.u6∧(InK .i64) x.Of
theorem B9o:Opn Tryz.prog 41 D4 B6h:=by
  refine ⟨by kernel_rfl,fun h=>?_⟩;obtain ⟨xs,m,_,_,hlen,hxs,hf⟩:=DataW.trod_struct Tryz.underlying41 h;obtain ⟨v0,s0,c0,k0,w0⟩:=E8 hf hxs 0 _ rfl (Opn.int Tryz.underlying3 Kz);obtain ⟨v1,s1,c1,k1,w1⟩:=E8 hf hxs 1 _ rfl (Opn.int Tryz.underlying3 Kz);exact ⟨⟨v0,v1⟩,svL [],(Y3 [1,1] hlen Kz).trans (V9 c0 (V9 c1 rfl)),trivial,⟨w0,w1⟩⟩
def A1a(x:N0):Prop:=A8q x.C∧(fun xs=>xs.length≤maxLen∧∀x∈xs,B6f x) x.qa∧(fun xs=>xs.length≤maxLen∧∀x∈xs,B0n x) x.kz
theorem A5c:Opn Tryz.prog 33 K6 A1a:=by
  refine ⟨by kernel_rfl,fun h=>?_⟩;obtain ⟨xs,m,_,_,hlen,hxs,hf⟩:=DataW.trod_struct Tryz.underlying33 h;obtain ⟨v0,s0,c0,k0,w0⟩:=E8 hf hxs 0 _ rfl B6t;obtain ⟨v1,s1,c1,k1,w1⟩:=E8 hf hxs 1 _ rfl (Opn.slice B9m Tryz.underlying30 Kz);obtain ⟨v2,s2,c2,k2,w2⟩:=E8 hf hxs 2 _ rfl (Opn.slice B45 Tryz.underlying31 Kz);exact ⟨⟨v0,v1,v2⟩,svL [s0 0,s0 1,s0 2,s0 3,s1 0,s2 0],(Y3 [6,1,1] hlen Kz).trans (V9 c0 (V9 c1 (V9 c2 rfl))),⟨k0.1,k0.2.1,k0.2.2.1,k0.2.2.2.1,k1,k2,trivial⟩,⟨w0,w1,w2⟩⟩
def A2o(x y:D8):Bool:=(x.u6==y.u6&&(x.Of==y.Of&&(true)))
theorem B7h(d:Nat)(x y:D8)(w:World):(Op.equalIn (d+2) 41 (.agg ((D4).cells x (svL [])).toArray) (.agg ((D4).cells y (svL [])).toArray)).run Tryz.prog w=.ok (A2o x y) w:=
  B7f Tryz.underlying41 Kz (A7q rfl (A2c Kz rfl w) (A2c Kz rfl w) (A9d Tryz.underlying3 _ _ (d+0) w) (A7q rfl (A2c Kz rfl w) (A2c Kz rfl w) (A9d Tryz.underlying3 _ _ (d+0) w) B5s))
def J4:Option (C1):=some (⟨([(⟨0,0⟩:S5),(⟨1,0⟩:S5)]:List S5),[],(⟨(⟨1,([(⟨0,0,1⟩:F9)]:List F9)⟩:A4j),(⟨1,([(⟨1,0,1⟩:F9)]:List F9)⟩:A4j)⟩:B0r)⟩:C1)
theorem J4.calls(w:World){S:Nat→Prop}(r:C1)(h:J4=some r):
    Calls Tryz.prog 13 #[] w fun e w'=>∃sv:SV,e=.returned (.agg ((B5).cells r sv).toArray)∧Below w.heap.size w w'∧(B5).cont (fun b=>w.heap.size≤b∨S b) w' r sv:=by
  unfold J4 at h;refine en_ Tryz.func13 (n:=17) (fun a c j f=>?_)
  let A:Value:=(.slice none 0 0)
  refine za j c (s_ [p_ 0 0 0] [([.v A,.v A,.v (iv 0),.v A,.v (iv 0),.v A],29)]) (fun B a C c=>?_);refine wpIn_seq (wpIn_region_lit (zl j 2 c [3,2,0] [e_ 3 (.agg #[iv 1,iv 0]),e_ 2 (.agg #[iv 0,iv 0])] [] (fun D a G c=>?_)));obtain ⟨f,k,m⟩:=Ep.rebase f c;replace c:=c.rebase;refine bS (S0:=S) (d:=N7) (e:=78) j f c (C2 rfl) [iv 0,iv 0,iv 1,iv 0] [(⟨0,0⟩:S5),(⟨1,0⟩:S5)] [(svL []),(svL [])] (eqC ⟨trivial,rfl⟩ (eqC ⟨trivial,rfl⟩ eqN)) (fun v a H s f c k m g=>?_)
  let J:Value:=(.slice v ([(⟨0,0⟩:S5),(⟨1,0⟩:S5)]:List S5).length (([(⟨0,0⟩:S5),(⟨1,0⟩:S5)]:List S5).length))
  refine zl j 3 c [1,0] [p_ 1 1 0] [(1,([.v J,.v A,.v (iv 0),.v A,.v (iv 0),.v A],29))] (fun K a L c=>?_);refine wpListIn_nil (B4 (wpIn_seq (wpIn_region_lit (zl j 1 c [6,1,0] [e_ 6 (.agg #[iv 0,iv 0,iv 1])] [] (fun M a N c=>?_)))));replace ⟨f,c,g⟩:=rz f c g;refine bS (S0:=S) (d:=D9) (e:=80) j f c (C2 rfl) [iv 0,iv 0,iv 1] [(⟨0,0,1⟩:F9)] [(svL [])] (eq1 ⟨trivial,rfl⟩) (fun t a O s q c k m i=>?_);replace ⟨f,g⟩:=xz f q k m g
  let P:Value:=(.slice t ([(⟨0,0,1⟩:F9)]:List F9).length (([(⟨0,0,1⟩:F9)]:List F9).length))
  refine zl j 4 c [1,0] [] [(1,([.v J,.v A,.v (iv 1),.v P,.v (iv 0),.v A],29))] (fun Q a R c=>?_);refine wpListIn_nil (B4 (wpIn_seq (wpIn_region_lit (zl j 1 c [11,1,0] [e_ 11 (.agg #[iv 1,iv 0,iv 1])] [] (fun T a U c=>?_)))));replace ⟨f,c,g,i⟩:=rz f c (t2 g i)
  let p:=(⟨1,0,1⟩:F9)
  refine A5j (S0:=S) (d:=D9) (e:=80) j f c (C2 rfl) rfl Kz (cs:=[iv 1,iv 0,iv 1]) Kz [p] [(svL [])] rfl rfl (by simp [maxLen]) (eq1 ⟨trivial,rfl⟩) (fun o=>(s_ [e_ 12 (.slice o ([p]:List F9).length (([p]:List F9).length)),e_ 11 (.agg #[iv 1,iv 0,iv 1]),p_ 1 1 0,p_ 0 0 0] [([.v A,.v A,.v (iv 0),.v A,.v (iv 0),.v A],29),([.v J,.v A,.v (iv 1),.v P,.v (iv 0),.v A],29)])) (fun o=>by kernel_rfl) (fun o a V s q c k m l=>?_);replace ⟨f,g,i⟩:=xz f q k m (t2 g i)
  let u:List EV:=[.v J,.v A,.v (iv 1),.v P,.v (iv 1),.v (.slice o ([(⟨1,0,1⟩:F9)]:List F9).length (([(⟨1,0,1⟩:F9)]:List F9).length))]
  refine zl j 4 c [1,0] [] [(1,(u,29))] (fun W a X c=>?_);refine wpListIn_nil (B4 (zc j c [0] [] [(0,(u,29))] (fun Y a Z c=>?_)));replace ⟨f,c,g,i,l⟩:=rz f c (t3 g i l);obtain ⟨f,k,g,x⟩:=Row.still (l1:=[]) (l2:=[rb t,rb o]) g (Nat.le_refl _) f;replace ⟨i,l⟩:=sz k (t2 i l);obtain ⟨f,k,i,y⟩:=Row.still (l1:=[]) (l2:=[rb o]) i (Nat.le_refl _) f;replace ⟨l,g⟩:=sz k (t2 l g);obtain ⟨f,k,l,z⟩:=Row.still (l1:=[]) (l2:=[]) l (Nat.le_refl _) f;replace ⟨g,i⟩:=sz k (t2 g i);refine wpIn_ret ?_;cases h;exact r2 c ⟨svL [(v,([(⟨0,0⟩:S5),(⟨1,0⟩:S5)]:List S5).length),(none,0),(t,([(⟨0,0,1⟩:F9)]:List F9).length),(o,([p]:List F9).length)],rfl,f.below c,⟨⟨Arr.keep g (f.out c),x⟩,⟨(Arr.nil _ _ _ _),(Nat.le_refl _)⟩,⟨Arr.keep i (f.out c),y⟩,⟨Arr.keep l (f.out c),z⟩,trivial⟩⟩
def V7(x0:M0)(x1:D8):Option (Bool):=(bif (x1.u6==3) then some (decide (x1.Of≥0)&&decide (x1.Of<(x0.bellings.length:Int))) else (bif (decide (x1.Of<0)||decide (x1.Of≥(x0.calls.length:Int))) then some false else (req (inb x1.Of x0.calls.length) (some (((x1.u6==1)&&((rd x0.calls x1.Of).kt||decide (((rd x0.calls x1.Of).qi)≥0)))||((x1.u6==2)&&decide (((rd x0.calls x1.Of).qe)≥0)))))))
theorem V7.calls(x0:M0)(x1:D8)(sv0:SV)(sv1:SV)(w:World){S:Nat→Prop}(hx0:(G9).cont S w x0 sv0)(hx1:(D4).cont S w x1 sv1)(r:Bool)(h:V7 x0 x1=some r):
    Calls Tryz.prog 31 #[.agg ((G9).cells x0 sv0).toArray,.agg ((D4).cells x1 sv1).toArray] w (Rv w (.bool r)):=by
  replace hx0:=Kd.lo _ hx0;replace hx1:=Kd.lo _ hx1;unfold V7 at h;refine en_ Tryz.func31 (n:=59) (fun a b c d=>?_);refine za c b (s_ [b_ 4 false,p_ 3 1 0,p_ 2 0 0] [((((G9).cells x0 sv0).map EV.v),59),((((D4).cells x1 sv1).map EV.v),41)]) (fun l a m b=>?_);refine wpIn_seq (zc c b [8,4,3,2] [b_ 8 (x1.u6==3)] [] (fun o a p b=>?_));refine cb b h (fun f h=>?_) (fun f h=>?_)
  ·refine zc c b [4] [b_ 4 (decide (x1.Of≥0)&&decide (x1.Of<(x0.bellings.length:Int)))] [] (fun q a s b=>?_);exact wpIn_ret (B6 (rq h d b))
  ·refine wpIn_skip (B4 (wpIn_seq (zc c b [30,4,3,2] [b_ 30 (decide (x1.Of<0)||decide (x1.Of≥(x0.calls.length:Int)))] [] (fun t a u b=>?_))));refine cb b h (fun g h=>?_) (fun g h=>?_)
   ·refine zc c b [4] [] [] (fun v a x b=>?_);exact wpIn_ret (B6 (rq h d b))
   ·refine wpIn_skip (B4 ?_);obtain ⟨e,h⟩:=C0 h;obtain ⟨i,j,k⟩:=eT hx0.1.1 e;refine zD c b [5,4,3] [p_ 5 2 0] [(2,((((F7).cells (rd x0.calls x1.Of) i).map EV.v),50))] (oI e (oA k (oW j oZ))) (fun y a z b=>?_);refine zc c b [4] [b_ 4 (((x1.u6==1)&&((rd x0.calls x1.Of).kt||decide (((rd x0.calls x1.Of).qi)≥0)))||((x1.u6==2)&&decide (((rd x0.calls x1.Of).qe)≥0)))] [] (fun A a B b=>?_);exact wpIn_ret (rq h d b)
def O0(x0:M0)(x1:D8):Option (A0x):=(bif ((decide (x1.Of<0)||((x1.u6==3)&&decide (x1.Of≥(x0.bellings.length:Int))))||((x1.u6 !=3)&&decide (x1.Of≥(x0.calls.length:Int)))) then some gv0 else (bif (x1.u6==3) then (req (inb x1.Of x0.bellings.length) (req (inb x1.Of x0.bellings.length) (some (⟨(rd x0.bellings x1.Of).At,(rd x0.bellings x1.Of).At⟩:A0x)))) else (req (inb x1.Of x0.calls.length) (bif ((x1.u6==2)&&decide (((rd x0.calls x1.Of).qe)≥0)) then some (⟨(rd x0.calls x1.Of).qe,(rd x0.calls x1.Of).qe⟩:A0x) else (bif ((x1.u6==1)&&(rd x0.calls x1.Of).kt) then some (⟨(rd x0.calls x1.Of).kr,(rd x0.calls x1.Of).To⟩:A0x) else (bif ((x1.u6==1)&&decide (((rd x0.calls x1.Of).qi)≥0)) then some (⟨(rd x0.calls x1.Of).kr,9223372036854775807⟩:A0x) else some gv0))))))
theorem O0.calls(x0:M0)(x1:D8)(sv0:SV)(sv1:SV)(w:World){S:Nat→Prop}(hx0:(G9).cont S w x0 sv0)(hx1:(D4).cont S w x1 sv1)(hg0:El M1 S w ⟨0,0,none⟩ gv0 (svL []))(r:A0x)(h:O0 x0 x1=some r):
    Calls Tryz.prog 59 #[.agg ((G9).cells x0 sv0).toArray,.agg ((D4).cells x1 sv1).toArray] w (Rv w (.agg ((M1).cells r (svL [])).toArray)):=by
  replace hx0:=Kd.lo _ hx0;replace hx1:=Kd.lo _ hx1;replace hg0:=El.lo hg0;unfold O0 at h;refine en_ Tryz.func59 (n:=102) (fun a b c f=>?_);refine za c b (s_ [p_ 4 2 0,p_ 3 1 0,p_ 2 0 0] [((((G9).cells x0 sv0).map EV.v),59),((((D4).cells x1 sv1).map EV.v),41),([.v (iv 0),.v (iv 0)],126)]) (fun K a L b=>?_)
  let l:=(x0.bellings.length:Int)
  refine wpIn_seq (wpIn_block (zc c b [6,4,3,2] [b_ 6 ((decide (x1.Of<0)||((x1.u6==3)&&decide (x1.Of≥l)))||((x1.u6 !=3)&&decide (x1.Of≥(x0.calls.length:Int))))] [] (fun M a N b=>?_)))
  let m:=(((M1).cells gv0 (svL [])).map EV.v)
  refine cb b h (fun s h=>?_) (fun s h=>?_)
  ·refine zD c b [4] [] [(2,(m,126))] (oW hg0 oZ) (fun O a P b=>?_);refine wpIn_ret (B8 (B6 ?_));cases h;exact r2 b ⟨rfl,f.below b⟩
  ·refine zc c b [37,4,3,2] [b_ 37 (x1.u6==3)] [] (fun Q a R b=>?_);refine cb b h (fun t h=>?_) (fun t h=>?_)
   ·refine wpIn_seq ?_;replace b:=b.finD [37,4,3,2] Kz;obtain ⟨o,h⟩:=C0 h;obtain ⟨U,u,v⟩:=eT hx0.2.1.1 o;obtain ⟨p,h⟩:=C0 h;obtain ⟨V,x,y⟩:=eT hx0.2.1.1 p
    let d:=((rd x0.bellings x1.Of).At)
    let g:=((adr ((sv0 1).1)).add ((x1.Of:Int).toNat*5))
    let W:Value:=(.slice ((sv0 1).1) x0.bellings.length ((sv0 1).2))
    refine N1 b Kz [.q 41 (.p 0 1) [],.q 42 (.v W) [],.q 43 (.p 1 1) [],.q 44 (.v (iv x1.Of)) [],.q 45 (.v (.pointer (some g))) [.need true ((0:Int)≤x1.Of∧x1.Of<l),.need true ((sv0 1).1=some (adr ((sv0 1).1)))],.q 46 (.v (.pointer (some (g.add 2)))) [],.q 47 (.v (iv d)) [.cell true (g.add 2) [iv d]],.q 48 (.p 0 1) [],.q 49 (.v W) [],.q 50 (.p 1 1) [],.q 51 (.v (iv x1.Of)) [],.q 52 (.v (.pointer (some g))) [.need true ((0:Int)≤x1.Of∧x1.Of<l),.need true ((sv0 1).1=some (adr ((sv0 1).1)))],.q 53 (.v (.pointer (some (g.add 2)))) [],.q 54 (.v (iv d)) [.cell true (g.add 2) [iv d]],.q 55 (.v (.agg #[iv d,iv d])) [],.no] Kz (fun fuel listed X i j hu=>?_);refine K7 i c j hu 15 rfl [14] [e_ 55 (.agg #[iv d,iv d])] ⟨P5 (fun _=>o),v,Y7 (fun _=>u) 2 [iv d] rfl,P5 (fun _=>p),y,Y7 (fun _=>x) 2 [iv d] rfl,trivial⟩ [0,1,2,3,4,5,6,7,8,9,10,11,12,13,14] (fun fuel listed a Y i b z h1 A j hu=>?_);refine A2j c b z rfl rfl (k:=2) (cs:=[.v (iv d),.v (iv d)]) (T:=126) Kz Kz rfl (fun a Z B b=>?_);refine E2 i h1 A j hu B b [37,4,3,2] [] (fun i j hu=>?_);refine V4 i c j hu [4] (s_ [p_ 4 2 0] [((((G9).cells x0 sv0).map EV.v),59),((((D4).cells x1 sv1).map EV.v),41),([.v (iv d),.v (iv d)],126)]) (fun a a0 b=>?_);refine B4 (wpIn_ret (B8 (B6 ?_)));cases h;exact r2 b ⟨rfl,f.below b⟩
   ·refine wpIn_skip (B9 (B4 ?_));obtain ⟨q,h⟩:=C0 h;obtain ⟨a1,C,D⟩:=eT hx0.1.1 q
    let e:=(rd x0.calls x1.Of)
    refine zD c b [5,4,3] [p_ 5 3 0] [(3,((((F7).cells e a1).map EV.v),50))] (oI q (oA D (oW C oZ))) (fun a2 a a3 b=>?_);refine wpIn_seq (wpIn_block (zc c b [62,5,4,3] [b_ 62 ((x1.u6==2)&&decide ((e.qe)≥0))] [] (fun a4 a a5 b=>?_)));refine cb b h (fun G h=>?_) (fun G h=>?_)
    ·refine zc c b [4] [] [(2,([.v (iv (e.qe)),.v (iv (e.qe))],126))] (fun a6 a a7 b=>?_);refine wpIn_ret (B8 (B6 ?_));cases h;exact r2 b ⟨rfl,f.below b⟩
    ·refine zc c b [76,5,4,3] [b_ 76 ((x1.u6==1)&&e.kt)] [] (fun a8 a a9 b=>?_);refine cb b h (fun H h=>?_) (fun H h=>?_)
     ·refine zc c b [4] [] [(2,([.v (iv (e.kr)),.v (iv (e.To))],126))] (fun aa a ab b=>?_);refine wpIn_ret (B8 (B6 ?_));cases h;exact r2 b ⟨rfl,f.below b⟩
     ·refine zc c b [89,5,4] [b_ 89 ((x1.u6==1)&&decide ((e.qi)≥0))] [] (fun ac a ad b=>?_);refine cb b h (fun J h=>?_) (fun J h=>?_)
      ·refine zc c b [4] [] [(2,([.v (iv (e.kr)),.v (iv 9223372036854775807)],126))] (fun ae a af b=>?_);refine wpIn_ret (B8 (B6 ?_));cases h;exact r2 b ⟨rfl,f.below b⟩
      ·refine wpIn_skip (B9 (B4 (zD c b [4] [] [(2,(m,126))] (oW hg0 oZ) (fun ag a ah b=>?_))));refine wpIn_ret ?_;cases h;exact r2 b ⟨rfl,f.below b⟩
def Q5(x0:M0)(x1:D8)(x2:D8):Option (Bool):=(bif (((x1.u6==1)&&(x2.u6==2))&&(x1.Of==x2.Of)) then some true else (req (imp (x1.u6==1) (inb x1.Of x0.calls.length)) (bif ((x1.u6==1)&&(!((rd x0.calls x1.Of).kt))) then some false else ((O0 x0 x1).bind fun a=>((O0 x0 x2).bind fun b=>some (decide (a.to_<b.from_)))))))
theorem Q5.calls(x0:M0)(x1:D8)(x2:D8)(sv0:SV)(sv1:SV)(sv2:SV)(w:World){S:Nat→Prop}(hx0:(G9).cont S w x0 sv0)(hx1:(D4).cont S w x1 sv1)(hx2:(D4).cont S w x2 sv2)(hg0:El M1 S w ⟨0,0,none⟩ gv0 (svL []))(r:Bool)(h:Q5 x0 x1 x2=some r):
    Calls Tryz.prog 32 #[.agg ((G9).cells x0 sv0).toArray,.agg ((D4).cells x1 (svL [])).toArray,.agg ((D4).cells x2 (svL [])).toArray] w (Rv w (.bool r)):=by
  replace hx0:=Kd.lo _ hx0;replace hx1:=Kd.lo _ hx1;replace hx2:=Kd.lo _ hx2;replace hg0:=El.lo hg0;unfold Q5 at h;refine en_ Tryz.func32 (n:=44) (fun a b c d=>?_)
  let e:List (List EV×TypeId):=[((((G9).cells x0 sv0).map EV.v),59),((((D4).cells x1 sv1).map EV.v),41),((((D4).cells x2 sv2).map EV.v),41)]
  refine za c b (s_ [b_ 6 false,p_ 5 2 0,p_ 4 1 0,p_ 3 0 0] e) (fun q a s b=>?_);refine wpIn_seq (zc c b [21,6,5,4,3] [b_ 21 (((x1.u6==1)&&(x2.u6==2))&&(x1.Of==x2.Of))] [] (fun t a u b=>?_));refine cb b h (fun g h=>?_) (fun g h=>?_)
  ·refine zc c b [6] [b_ 6 true] [] (fun v a x b=>?_);exact wpIn_ret (B6 (rq h d b))
  ·refine wpIn_skip (B4 (wpIn_seq ?_));obtain ⟨f,h⟩:=C0 h;obtain ⟨y,i,j⟩:=eG hx0.1.1 f;refine zD c b [34,6,5,4,3] [b_ 34 ((x1.u6==1)&&(!((rd x0.calls x1.Of).kt)))] [] (oJ f (oA j (oF i 9 [.bool ((rd x0.calls x1.Of).kt)] oZ))) (fun z a A b=>?_);refine cb b h (fun k h=>?_) (fun k h=>?_)
   ·refine zc c b [6] [] [] (fun B a C b=>?_);exact wpIn_ret (B6 (rq h d b))
   ·refine wpIn_skip (B4 (wpIn_seq ?_));obtain ⟨l,m,h⟩:=B7 h;obtain ⟨o,p,h⟩:=B7 h;refine dW [6] c b (s_ [b_ 6 (decide (l.to_<o.from_))] e) (oC (zo Tryz.func59) (fun wz hk=>O0.calls x0 x1 sv0 (svL []) wz (kA hx0 hk) trivial (El.any (El.keep hg0 (Lo.on hk))) _ m) (oC (zo Tryz.func59) (fun wz hk=>O0.calls x0 x2 sv0 (svL []) wz (kA hx0 hk) trivial (El.any (El.keep hg0 (Lo.on hk))) _ p) oZ)) (fun a D b=>?_);exact B4 (wpIn_ret (rq h d b))
def F2.b1(x0:M0)(s1:Int×(List D8)):Option (Stp (Int×(List D8)) (Ex (Int×(List D8)) ((List D8)))):=(bif decide (s1.1<(x0.calls.length:Int)) then (req (inb s1.1 x0.calls.length) (bif (rd x0.calls s1.1).kt then (req (decide ((s1.2.length+1)*16≤140737488355328)) (bif decide (((rd x0.calls s1.1).qe)≥0) then (req (decide (((s1.2++[(⟨1,s1.1⟩:D8)]).length+1)*16≤140737488355328)) (some (.next ((i64.wrap (s1.1+1)),((s1.2++[(⟨1,s1.1⟩:D8)])++[(⟨2,s1.1⟩:D8)]))))) else some (.next ((i64.wrap (s1.1+1)),(s1.2++[(⟨1,s1.1⟩:D8)]))))) else (bif decide (((rd x0.calls s1.1).qe)≥0) then (req (decide ((s1.2.length+1)*16≤140737488355328)) (some (.next ((i64.wrap (s1.1+1)),(s1.2++[(⟨2,s1.1⟩:D8)]))))) else some (.next ((i64.wrap (s1.1+1)),s1.2))))) else some (.out (.brk (s1.1,s1.2))))
def F2.b2(x0:M0)(s1:Int×(List D8))(s2:Int×(List D8)):Option (Stp (Int×(List D8)) (Ex (Int×(List D8)) ((List D8)))):=(bif decide (s2.1<(x0.bellings.length:Int)) then (req (decide ((s2.2.length+1)*16≤140737488355328)) (some (.next ((i64.wrap (s2.1+1)),(s2.2++[(⟨3,s2.1⟩:D8)]))))) else some (.out (.brk (s2.1,s2.2))))
def F2(x0:M0):Option ((List D8)):=((F3 (F2.b1 x0) (0,([]:List D8))).bind fun o=>o.on (fun s1=>((F3 (F2.b2 x0 s1) (0,s1.2)).bind fun o=>o.on (fun s2=>some s2.2) (fun r=>some r))) (fun r=>some r))
theorem F2.calls(x0:M0)(sv0:SV)(w:World){S:Nat→Prop}(hx0:(G9).cont S w x0 sv0)(r:(List D8))(h:F2 x0=some r):
    Calls Tryz.prog 33 #[.agg ((G9).cells x0 sv0).toArray] w fun e w'=>∃sv:SV,e=.returned (.slice ((sv 0).1) r.length ((sv 0).2))∧Below w.heap.size w w'∧(Arr D4 (fun b=>w.heap.size≤b∨S b) w' (sv 0).1 r∧r.length≤(sv 0).2):=by
  replace hx0:=Kd.lo _ hx0;unfold F2 at h;refine en_ Tryz.func33 (n:=44) (fun a c j f=>?_)
  let q:=(((G9).cells x0 sv0).map EV.v)
  let s:Value:=(.slice none 0 0)
  refine za j c (s_ [e_ 2 s,p_ 1 0 0] [(q,59)]) (fun ac a ad c=>?_);refine zc j c [3,2,1] [e_ 3 s] [] (fun ae a af c=>?_)
  let J:Value:=(.slice ((sv0 0).1) x0.calls.length ((sv0 0).2))
  let H:=(x0.calls.length:Int)
  refine wpIn_seq (zc j c [10,9,8,3,2,1] [i_ 10 0,i_ 9 H,e_ 8 J] [] (fun a1 a X c=>?_));replace ⟨f,c,hx0⟩:=rz f c hx0;replace ⟨f,hx0⟩:=ez _ (Ep.addNil f) hx0;have g:Row D4 41 (Lo S w X a1 [rb none]) X w.heap.size none 0 ([]:List D8):=Row.nil;obtain ⟨ag,a2,h⟩:=B7 h;refine E0 (fun (s1:Int×(List D8)) a x=>∃(ow T:List Nat) (t:Option Addr) (U:Nat),((G9).cont (Lo S w x ow [rb t]) x x0 sv0)∧(Row D4 41 (Lo S w x ow [rb t]) x w.heap.size t U s1.2)∧Ep [] w x ow [rb t]∧St x ow 44 (s_ [i_ 10 s1.1,i_ 9 H,e_ 8 J,e_ 3 (.slice t s1.2.length U),e_ 2 s,p_ 1 0 0] [(q,59)]) T a x) (0,([]:List D8)) a2 ⟨_,_,none,_,hx0,g,f,c.pi [10,9,8,3,2,1] 1⟩ ?_ ?_
  ·clear c f;rintro s1 a ah ⟨ai,aj,t,U,hx0,g,f,c⟩ r1 i;unfold F2.b1 at i
   let V:Value:=(.slice t s1.2.length U)
   refine za j c (s_ [b_ 11 (decide (s1.1<H)),i_ 10 s1.1,i_ 9 H,e_ 8 J,e_ 3 V,e_ 2 s,p_ 1 0 0] [(q,59)]) (fun ak a al c=>?_);refine wpIn_seq (cb c i (fun a3 i=>?_) (fun a3 i=>?_))
   ·refine wpIn_skip (B4 (wpIn_seq (wpIn_block ?_)));obtain ⟨Y,i⟩:=C0 i;obtain ⟨am,k,a4⟩:=eT hx0.1.1 Y
    let W:=(rd x0.calls s1.1)
    refine zD j c [4,5,10,9,8,3,2,1] [i_ 4 s1.1,p_ 5 1 0] [(1,((((F7).cells W am).map EV.v),50))] (oI Y (oA a4 (oW k oZ))) (fun an a ao c=>?_);refine wpIn_seq (zc j c [16,4,5,10,9,8,3,2,1] [b_ 16 (W.kt)] [] (fun ap a aq c=>?_))
    let G:=(⟨2,s1.1⟩:D8)
    let K:=(i64.wrap (s1.1+1))
    let Z:=(([G]:List D8).length)
    refine cb c i (fun a5 i=>?_) (fun a5 i=>?_)
    ·refine wpIn_region_lit (zl j 3 c [19,17,4,5,10,9,8,3,2,1] [e_ 19 (.agg #[iv 1,iv s1.1]),e_ 17 V] [] (fun ar a au c=>?_));replace ⟨f,c,hx0,g,k⟩:=rz f c (t3 hx0 g k);refine bS (S0:=S) (d:=D4) (e:=41) j f c (C2 rfl) [iv 1,iv s1.1] [(⟨1,s1.1⟩:D8)] [(svL [])] (eq1 ⟨trivial,rfl⟩) (fun av a aw y z c l p m=>?_);replace ⟨f,hx0,g,k⟩:=xz f z l p (t3 hx0 g k);obtain ⟨f,l,m,ax⟩:=Row.still (l1:=[rb t]) (l2:=[]) m (Nat.le_refl _) f;replace ⟨hx0,g,k⟩:=sz l (t3 hx0 g k);obtain ⟨L,i⟩:=C0 i;replace L:=of_decide_eq_true L;refine aP (l1:=[]) (l2:=[]) (c2:=(([(⟨1,s1.1⟩:D8)]:List D8).length)) j f c (C2 rfl) g m (fun sv u hu=>by exact W9 _ sv u hu) Tryz.underlying34 (.agg #[iv 0,iv 0],2,16) (U9 (by decide) L) L (fun a6 ay a az y f c l p g=>?_);replace ⟨hx0,k,m⟩:=nz l (t3 hx0 k m)
     let M:Value:=(.slice a6 (s1.2++[(⟨1,s1.1⟩:D8)]).length ay)
     refine zl j 1 c [3,4,5,10,9,8,2,1] [e_ 3 M] [] (fun b0 a b1 c=>?_);refine wpListIn_nil (B4 (zc j c [24,3,4,10,9,8,2,1] [b_ 24 (decide ((W.qe)≥0))] [] (fun b2 a b3 c=>?_)));refine cb c i (fun a7 i=>?_) (fun a7 i=>?_)
     ·refine wpIn_region_lit (zl j 3 c [27,25,3,10,9,8,2,1] [e_ 27 (.agg #[iv 2,iv s1.1]),e_ 25 M] [] (fun b4 a b5 c=>?_));replace ⟨f,c,hx0,k,m,g⟩:=rz f c (t4 hx0 k m g);refine A5j (S0:=S) (d:=D4) (e:=41) j f c (C2 rfl) rfl Kz (cs:=[iv 2,iv s1.1]) Kz [G] [(svL [])] rfl rfl (by simp [maxLen]) (eq1 ⟨trivial,rfl⟩) (fun a0=>(s_ [e_ 28 (.slice a0 ([G]:List D8).length Z),e_ 27 (.agg #[iv 2,iv s1.1]),e_ 25 M,e_ 3 M,i_ 10 s1.1,i_ 9 H,e_ 8 J,e_ 2 s,p_ 1 0 0] [(q,59),((((F7).cells W am).map EV.v),50)])) (fun a0=>by kernel_rfl) (fun a0 a b6 y z c l p A=>?_);replace ⟨f,hx0,k,m,g⟩:=xz f z l p (t4 hx0 k m g);obtain ⟨f,l,A,b7⟩:=Row.still (l1:=[rb a6]) (l2:=[]) A (Nat.le_refl _) f;replace ⟨hx0,k,m,g⟩:=sz l (t4 hx0 k m g);obtain ⟨N,i⟩:=C0 i;replace N:=of_decide_eq_true N;refine aP (l1:=[]) (l2:=[]) (c2:=Z) j f c (C2 rfl) g A (fun sv u hu=>by exact W9 _ sv u hu) Tryz.underlying34 (.agg #[iv 0,iv 0],2,16) (U9 (by decide) N) N (fun b8 b9 a ba y f c l p g=>?_);replace ⟨hx0,k,m,A⟩:=nz l (t4 hx0 k m A);refine zl j 1 c [3,10,9,8,2,1] [e_ 3 (.slice b8 ((s1.2++[(⟨1,s1.1⟩:D8)])++[G]).length b9)] [] (fun bb a bc c=>?_);refine wpListIn_nil (B9 (B4 (zh j c [10,3,9,8,2,1] [i_ 10 K] [] (fun bd a be c=>?_))));refine B4 ?_;replace ⟨f,c,hx0,k,m,A,g⟩:=rz f c (t5 hx0 k m A g);cases i;exact ⟨_,rfl,⟨_,_,_,_,hx0,g,f,c.pi [10,9,8,3,2,1] 1⟩⟩
     ·refine wpIn_skip (B9 (B4 (zh j c [10,3,9,8,2,1] [i_ 10 K] [] (fun bf a bg c=>?_))));refine B4 ?_;replace ⟨f,c,hx0,k,m,g⟩:=rz f c (t4 hx0 k m g);cases i;exact ⟨_,rfl,⟨_,_,_,_,hx0,g,f,c.pi [10,9,8,3,2,1] 1⟩⟩
    ·refine wpIn_skip (B4 (zc j c [24,4,10,9,8,3,2,1] [b_ 24 (decide ((W.qe)≥0))] [] (fun bh a bi c=>?_)));refine cb c i (fun a8 i=>?_) (fun a8 i=>?_)
     ·refine wpIn_region_lit (zl j 3 c [27,25,10,9,8,3,2,1] [e_ 27 (.agg #[iv 2,iv s1.1]),e_ 25 V] [] (fun bj a bk c=>?_));replace ⟨f,c,hx0,g,k⟩:=rz f c (t3 hx0 g k);refine bS (S0:=S) (d:=D4) (e:=41) j f c (C2 rfl) [iv 2,iv s1.1] [G] [(svL [])] (eq1 ⟨trivial,rfl⟩) (fun bl a bm y z c l p B=>?_);replace ⟨f,hx0,g,k⟩:=xz f z l p (t3 hx0 g k);obtain ⟨f,l,B,bn⟩:=Row.still (l1:=[rb t]) (l2:=[]) B (Nat.le_refl _) f;replace ⟨hx0,g,k⟩:=sz l (t3 hx0 g k);obtain ⟨O,i⟩:=C0 i;replace O:=of_decide_eq_true O;refine aP (l1:=[]) (l2:=[]) (c2:=Z) j f c (C2 rfl) g B (fun sv u hu=>by exact W9 _ sv u hu) Tryz.underlying34 (.agg #[iv 0,iv 0],2,16) (U9 (by decide) O) O (fun bo bp a bq y f c l p g=>?_);replace ⟨hx0,k,B⟩:=nz l (t3 hx0 k B);refine zl j 1 c [3,10,9,8,2,1] [e_ 3 (.slice bo (s1.2++[G]).length bp)] [] (fun br a bs c=>?_);refine wpListIn_nil (B9 (B4 (zh j c [10,3,9,8,2,1] [i_ 10 K] [] (fun bt a bu c=>?_))));refine B4 ?_;replace ⟨f,c,hx0,k,B,g⟩:=rz f c (t4 hx0 k B g);cases i;exact ⟨_,rfl,⟨_,_,_,_,hx0,g,f,c.pi [10,9,8,3,2,1] 1⟩⟩
     ·refine wpIn_skip (B9 (B4 (zh j c [10,9,8,3,2,1] [i_ 10 K] [] (fun bv a bw c=>?_))));refine B4 ?_;replace ⟨f,c,hx0,g,k⟩:=rz f c (t3 hx0 g k);cases i;exact ⟨_,rfl,⟨_,_,_,_,hx0,g,f,c.pi [10,9,8,3,2,1] 1⟩⟩
   ·refine wpIn_exit (C7 (C7 ?_));replace ⟨f,c,hx0,g⟩:=rz f c (t2 hx0 g);cases i;exact .inl ⟨_,rfl,rfl,⟨_,_,_,_,hx0,g,f,c.pi [10,9,8,3,2,1] 1⟩⟩
  ·clear c f;rintro s1 a bx ho ⟨bz,c0,t,U,hx0,g,f,c⟩;subst ho;replace h:(((F3 (F2.b2 x0 s1) (0,s1.2)).bind fun o=>o.on (fun s2=>some s2.2) (fun r=>some r)):Option ((List D8)))=_:=h
   let P:=(x0.bellings.length:Int)
   refine B4 (wpIn_seq (za j c (s_ [i_ 34 0,i_ 33 P,e_ 3 (.slice t s1.2.length U),e_ 2 s] [(q,59)]) (fun c1 a c3 c=>?_)));replace ⟨f,c,hx0,g⟩:=rz f c (t2 hx0 g);obtain ⟨c4,a9,h⟩:=B7 h;refine E0 (fun (s2:Int×(List D8)) a C=>∃(ow T:List Nat) (v:Option Addr) (Q:Nat),((G9).cont (Lo S w C ow [rb v]) C x0 sv0)∧(Row D4 41 (Lo S w C ow [rb v]) C w.heap.size v Q s2.2)∧Ep [] w C ow [rb v]∧St C ow 44 (s_ [i_ 34 s2.1,i_ 33 P,e_ 3 (.slice v s2.2.length Q),e_ 2 s] [(q,59)]) T a C) (0,s1.2) a9 ⟨_,_,_,_,hx0,g,f,c.pi [34,33,3,2] 1⟩ ?_ ?_
   ·clear c f;rintro s2 a c5 ⟨c6,c7,v,Q,hx0,g,f,c⟩ r2 i;unfold F2.b2 at i;refine za j c (s_ [b_ 35 (decide (s2.1<P)),i_ 34 s2.1,i_ 33 P,e_ 3 (.slice v s2.2.length Q),e_ 2 s] [(q,59)]) (fun c8 a c9 c=>?_);refine wpIn_seq (cb c i (fun aa i=>?_) (fun aa i=>?_))
    ·refine wpIn_skip (B4 (wpIn_seq (wpIn_block (zc j c [6,34,33,3,2] [i_ 6 s2.1] [] (fun ca a cc c=>?_)))));refine wpIn_region_lit (zl j 3 c [39,37,34,33,3,2] [e_ 39 (.agg #[iv 3,iv s2.1]),e_ 37 (.slice v s2.2.length Q)] [] (fun cd a ce c=>?_));replace ⟨f,c,hx0,g⟩:=rz f c (t2 hx0 g);refine bS (S0:=S) (d:=D4) (e:=41) j f c (C2 rfl) [iv 3,iv s2.1] [(⟨3,s2.1⟩:D8)] [(svL [])] (eq1 ⟨trivial,rfl⟩) (fun cf a cg y z c l p D=>?_);replace ⟨f,hx0,g⟩:=xz f z l p (t2 hx0 g);obtain ⟨f,l,D,ch⟩:=Row.still (l1:=[rb v]) (l2:=[]) D (Nat.le_refl _) f;replace ⟨hx0,g⟩:=sz l (t2 hx0 g);obtain ⟨R,i⟩:=C0 i;replace R:=of_decide_eq_true R;refine aP (l1:=[]) (l2:=[]) (c2:=(([(⟨3,s2.1⟩:D8)]:List D8).length)) j f c (C2 rfl) g D (fun sv u hu=>by exact W9 _ sv u hu) Tryz.underlying34 (.agg #[iv 0,iv 0],2,16) (U9 (by decide) R) R (fun ci cj a ck y f c l p g=>?_);replace ⟨hx0,D⟩:=nz l (t2 hx0 D);refine zl j 1 c [3,34,33,2] [e_ 3 (.slice ci (s2.2++[(⟨3,s2.1⟩:D8)]).length cj)] [] (fun cl a cm c=>?_);refine wpListIn_nil (B9 (B4 (zh j c [34,3,33,2] [i_ 34 (i64.wrap (s2.1+1))] [] (fun cn a co c=>?_))));refine B4 ?_;replace ⟨f,c,hx0,D,g⟩:=rz f c (t3 hx0 D g);cases i;exact ⟨_,rfl,⟨_,_,_,_,hx0,g,f,c.pi [34,33,3,2] 1⟩⟩
    ·refine wpIn_exit (C7 (C7 ?_));replace ⟨f,c,hx0,g⟩:=rz f c (t2 hx0 g);cases i;exact .inl ⟨_,rfl,rfl,⟨_,_,_,_,hx0,g,f,c.pi [34,33,3,2] 1⟩⟩
   ·clear c f;rintro s2 a cp ho ⟨cq,cr,v,Q,hx0,g,f,c⟩;subst ho;replace h:(some s2.2:Option ((List D8)))=_:=h;refine B4 (za j c (s_ [e_ 2 (.slice v s2.2.length Q)] [(q,59)]) (fun ct a cu c=>?_));replace ⟨f,c,hx0,g⟩:=rz f c (t2 hx0 g);obtain ⟨f,l,g,ab⟩:=Row.still (l1:=[]) (l2:=[]) g (Nat.le_refl _) f;replace hx0:=sz l hx0;refine wpIn_ret ?_;cases h;exact r0 c ⟨svL [(v,Q)],rfl,f.below c,⟨Arr.keep g (f.out c),ab⟩⟩
def D3.b2(x0:M0)(l1:(List D8))(s1:Int×Bool×(List (D8×Int)))(t_22:Bool)(s2:Int×Bool):Option (Stp (Int×Bool) (Ex (Int×Bool) (Bool))):=(bif decide (s2.1<((l1.take (s1.1:Int).toNat).length:Int)) then (req (inb s2.1 (l1.take (s1.1:Int).toNat).length) ((Q5 x0 (rd l1 s1.1) (rd (l1.take (s1.1:Int).toNat) s2.1)).bind fun a=>(bif a then some (.out (.ret false)) else some (.next ((i64.wrap (s2.1+1)),s2.2))))) else some (.out (.brk (s2.1,s2.2))))
def D3.b1(x0:M0)(l1:(List D8))(s1:Int×Bool×(List (D8×Int))):Option (Stp (Int×Bool×(List (D8×Int))) (Ex (Int×Bool×(List (D8×Int))) (Bool))):=(bif decide (s1.1<(l1.length:Int)) then (req (inb s1.1 l1.length) ((V7 x0 (rd l1 s1.1)).bind fun a=>(bif ((!a)||decide (((Z9 s1.2.2 (rd l1 s1.1)).getD 0)>0)) then some (.out (.ret false)) else (req (inb s1.1 (l1.length+1)) ((F3 (D3.b2 x0 l1 s1 a) (0,s1.2.1)).bind fun o=>o.on (fun s2=>some (.next ((i64.wrap (s1.1+1)),s2.2,(A2a s1.2.2 (rd l1 s1.1) (i64.wrap (((Z9 s1.2.2 (rd l1 s1.1)).getD 0)+1)))))) (fun r=>some (.out (.ret r)))))))) else some (.out (.brk (s1.1,s1.2.1,s1.2.2))))
def D3.b3(x0:M0)(l1:(List D8))(s1:Int×Bool×(List (D8×Int)))(t_73:(List D8))(s3:Int×Bool):Option (Stp (Int×Bool) (Ex (Int×Bool) (Bool))):=(bif decide (s3.1<(t_73.length:Int)) then (req (inb s3.1 t_73.length) (bif (((Z9 s1.2.2 (rd t_73 s3.1)).getD 0)==0) then some (.out (.ret false)) else some (.next ((i64.wrap (s3.1+1)),s3.2)))) else some (.out (.brk (s3.1,s3.2))))
def D3(x0:M0)(l1:(List D8)):Option (Bool):=((F3 (D3.b1 x0 l1) (0,false,([]:List (D8×Int)))).bind fun o=>o.on (fun s1=>((F2 x0).bind fun a=>((F3 (D3.b3 x0 l1 s1 a) (0,s1.2.1)).bind fun o=>o.on (fun s3=>some true) (fun r=>some r)))) (fun r=>some r))
theorem D3.calls(x0:M0)(l1:(List D8))(sv0:SV)(A1:Option Addr)(c1:Nat)(w:World){S:Nat→Prop}(hx0:(G9).cont S w x0 sv0)(hr1:Arr D4 S w A1 l1)(hc1:l1.length≤c1)(hg0:El M1 S w ⟨0,0,none⟩ gv0 (svL []))(r:Bool)(h:D3 x0 l1=some r):
    Calls Tryz.prog 15 #[.agg ((G9).cells x0 sv0).toArray,.slice A1 l1.length c1] w (Rv w (.bool r)):=by
  replace hx0:=Kd.lo _ hx0;replace hr1:=Arr.lo hr1;replace hg0:=El.lo hg0;unfold D3 at h;refine en_ Tryz.func15 (n:=62) (fun a b e c=>?_)
  let j:=(((G9).cells x0 sv0).map EV.v)
  let g:Value:=(.slice A1 l1.length c1)
  refine za e b (s_ [b_ 4 false,p_ 2 0 0,e_ 1 g] [(j,59)]) (fun aw a ax b=>?_);refine wpIn_seq (wpIn_region_lit ?_);replace ⟨c,b,hx0,hr1,hg0⟩:=rz c b (t3 hx0 hr1 hg0);refine B6q e c b (C2 rfl) rfl D8 Int (fun x:D8=>.agg #[iv x.u6,iv x.Of]) (fun x=>iv x) (fun s=>(s_ [e_ 12 (.map (some s)),b_ 4 false,p_ 2 0 0,e_ 1 g] [(j,59)])) (fun s=>by kernel_rfl) (fun s a ay G c b A J f=>?_);replace ⟨hx0,hr1,hg0⟩:=nz A (t3 hx0 hr1 hg0)
  let i:Value:=(.map (some s))
  refine zl e 1 b [5,4,2,1] [e_ 5 i] [] (fun az a b0 b=>?_);refine wpListIn_nil (B4 (wpIn_seq (zc e b [15,14,13,5,4,2,1] [i_ 15 0,i_ 14 (l1.length:Int),e_ 13 g] [] (fun b1 a b2 b=>?_))));replace ⟨c,b,hx0,hr1,hg0,f⟩:=rz c b (t4 hx0 hr1 hg0 f);obtain ⟨b3,Z,h⟩:=B7 h;refine E0 (fun (s1:Int×Bool×(List (D8×Int))) a p=>∃(ow H:List Nat),((G9).cont (Lo S w p ow [[s]]) p x0 sv0)∧(Arr D4 (Lo S w p ow [[s]]) p A1 l1)∧(El M1 (Lo S w p ow [[s]]) p ⟨0,0,none⟩ gv0 (svL []))∧(A5e (fun x:D8=>.agg #[iv x.u6,iv x.Of]) (fun x=>iv x) p s (s1.2.2:List (D8×Int)))∧Ep [] w p ow [[s]]∧St p ow 62 (s_ [i_ 15 s1.1,i_ 14 (l1.length:Int),e_ 13 g,e_ 5 i,b_ 4 s1.2.1,p_ 2 0 0,e_ 1 g] [(j,59)]) H a p) (0,false,([]:List (D8×Int))) Z ⟨_,_,hx0,hr1,hg0,f,c,b.pi [15,14,13,5,4,2,1] 1⟩ ?_ ?_
  ·clear b c;rintro s1 a b4 ⟨b5,b6,hx0,hr1,hg0,f,c,b⟩ r1 d;unfold D3.b1 at d;refine za e b (s_ [b_ 16 (decide (s1.1<(l1.length:Int))),i_ 15 s1.1,i_ 14 (l1.length:Int),e_ 13 g,e_ 5 i,b_ 4 s1.2.1,p_ 2 0 0,e_ 1 g] [(j,59)]) (fun b7 a b8 b=>?_);refine wpIn_seq (cb b d (fun a0 d=>?_) (fun a0 d=>?_))
   ·refine wpIn_skip (B4 (wpIn_seq (wpIn_block ?_)));obtain ⟨T,d⟩:=C0 d;obtain ⟨a1,l,a2⟩:=eT hr1 T
    let B:=(((D4).cells (rd l1 s1.1) a1).map EV.v)
    refine zD e b [6,7,15,14,13,5,4,2,1] [i_ 6 s1.1,p_ 7 1 0] [(1,(B,41))] (oI T (oA a2 (oW l oZ))) (fun b9 a ba b=>?_);refine wpIn_seq ?_;obtain ⟨U,a3,d⟩:=B7 d
    let t:=((Z9 s1.2.2 (rd l1 s1.1)).getD 0)
    let N:Value:=(.agg ((D4).cells (rd l1 s1.1) (svL [])).toArray)
    let q7:=(vS (Instr.lookup 82 i N false))
    let O:=((!U)||decide (t>0))
    refine zD e b [29,6,7,15,14,13,5,4,2,1] [b_ 29 O] [] (oC (zo Tryz.func31) (fun wz hk=>V7.calls x0 (rd l1 s1.1) sv0 (svL []) wz (kA hx0 hk) trivial _ a3) (oG (.run (!(!U)) q7 (iv t)) (fun _ wz hk=>A0a (A4a (A5u Tryz.underlying41 Kz Tryz.underlying3 Tryz.underlying3 Kz Kz rfl rfl Kz Kz (fun x y h1 h2=>by cases x;cases y;simp at h1 h2;subst h1 h2;rfl)) Tryz.underlying82 (zi:=(iv 0,1,8)) (z:=0) Kz rfl (A5e.keep f (hk.block _ (c.mi _ (by simp)).2.1 (c.mi _ (by simp)).2.2)) (rd l1 s1.1) rfl)) oZ)) (fun a5 a bb b=>?_);refine cb b d (fun a6 d=>?_) (fun a6 d=>?_)
    ·refine zc e b [4] [b_ 4 false] [] (fun bc a bd b=>?_);refine wpIn_ret (B6 (B8 (B6 (B6 ?_))));cases d;refine .inr ⟨_,rfl,fun ho=>?_⟩;subst ho;exact B8 (B6 (rq h c b))
    ·refine wpIn_skip (B4 (wpIn_seq ?_));replace b:=b.finD [29,6,7,15,14,13,5,4,2,1] Kz
     let D:=(i64.wrap (t+1))
     refine N1 b Kz [.q 30 (.v i) [],.q 31 (.v N) [],.q 32 (.v (iv t)) [.run true q7 (iv t)],.q 33 (.v (iv D)) [],.no,.no,.no] Kz (fun fuel listed be m u hu=>?_);refine K7 m e u hu 4 rfl [0,1] [e_ 30 i,e_ 31 N] ⟨(fun _ wz hk=>A0a (A4a (A5u Tryz.underlying41 Kz Tryz.underlying3 Tryz.underlying3 Kz Kz rfl rfl Kz Kz (fun x y h1 h2=>by cases x;cases y;simp at h1 h2;subst h1 h2;rfl)) Tryz.underlying82 (zi:=(iv 0,1,8)) (z:=0) Kz rfl (A5e.keep f (hk.block _ (c.mi _ (by simp)).2.1 (c.mi _ (by simp)).2.2)) (rd l1 s1.1) rfl)),trivial⟩ [0,1] (fun fuel listed a bf m b P h1 Q u hu=>?_);replace ⟨c,b,hx0,hr1,hg0,f,l⟩:=rz c b (t5 hx0 hr1 hg0 f l);refine B41 e c b P rfl (by simp) (A5u Tryz.underlying41 Kz Tryz.underlying3 Tryz.underlying3 Kz Kz rfl rfl Kz Kz (fun x y h1 h2=>by cases x;cases y;simp at h1 h2;subst h1 h2;rfl)) Tryz.underlying82 (zi:=(iv 0,1,8)) (z:=0) Kz rfl f rfl (rd l1 s1.1) rfl (fun _=>rfl) (fun v=>(s_ [e_ 34 (.tuple #[iv t,iv (v:Int)]),e_ 30 i,e_ 31 N,b_ 29 O,i_ 6 s1.1,p_ 7 1 0,i_ 15 s1.1,i_ 14 (l1.length:Int),e_ 13 g,e_ 5 i,b_ 4 s1.2.1,p_ 2 0 0,e_ 1 g] [(j,59),(B,41)])) (fun v=>by kernel_rfl) (fun v a bg G c b A J f=>?_);replace ⟨hx0,hr1,hg0,l⟩:=nz A (t4 hx0 hr1 hg0 l);refine E2 m h1 Q u hu G b [29,6,7,15,14,13,5,4,2,1] [(5,.q 35 (.v (iv (v:Int))) [])] (fun m u hu=>?_);replace m:=m.cast [.t (some 30) (some (.v i)),.t (some 31) (some (.v N)),.q 32 (.v (iv t)) [.run true q7 (iv t)],.q 33 (.v (iv D)) [],.t (some 34) (some (.v (.tuple #[iv t,iv (v:Int)]))),.q 35 (.v (iv (v:Int))) [],.no] Kz;refine K7 m e u hu 6 rfl [0,5,3] [e_ 30 i,i_ 35 (v:Int),i_ 33 D] ⟨(fun _ wz hk=>A0a (A4a (A5u Tryz.underlying41 Kz Tryz.underlying3 Tryz.underlying3 Kz Kz rfl rfl Kz Kz (fun x y h1 h2=>by cases x;cases y;simp at h1 h2;subst h1 h2;rfl)) Tryz.underlying82 (zi:=(iv 0,1,8)) (z:=0) Kz rfl (A7j.k (A7j.keep f (hk.block _ (c.mi _ (by simp)).2.1 (c.mi _ (by simp)).2.2))) (rd l1 s1.1) (B74 _ _ _))),trivial⟩ [2,3,5] (fun fuel listed a bh m b P h1 Q u hu=>?_);replace ⟨c,b,hx0,hr1,hg0,l,f⟩:=rz c b (t5 hx0 hr1 hg0 l f);refine B1y e c b P rfl (z:=0) (by simp) f rfl rfl D rfl (s_ [e_ 30 i,i_ 35 (v:Int),i_ 33 D,b_ 29 O,i_ 6 s1.1,p_ 7 1 0,i_ 15 s1.1,i_ 14 (l1.length:Int),e_ 13 g,e_ 5 i,b_ 4 s1.2.1,p_ 2 0 0,e_ 1 g] [(j,59),(B,41)]) Kz (fun a a7 G c b A J f=>?_);replace ⟨hx0,hr1,hg0,l⟩:=nz A (t4 hx0 hr1 hg0 l);refine E2 m h1 Q u hu G b [29,6,7,15,14,13,5,4,2,1] [] (fun m u hu=>?_);refine V4 m e u hu [6,7,15,14,13,5,4,2,1] (s_ [i_ 6 s1.1,p_ 7 1 0,i_ 15 s1.1,i_ 14 (l1.length:Int),e_ 13 g,e_ 5 i,b_ 4 s1.2.1,p_ 2 0 0,e_ 1 g] [(j,59),(B,41)]) (fun a bi b=>?_);refine B4 ?_;obtain ⟨V,d⟩:=C0 d
     let K:Value:=(.slice A1 (l1.take (s1.1:Int).toNat).length c1)
     let L:=((l1.take (s1.1:Int).toNat).length:Int)
     refine zD e b [40,39,38,7,15,14,13,5,4,2,1] [i_ 40 0,i_ 39 L,e_ 38 K] [] (oG (.run true (vS (Instr.sliceAt 34 g none (some (iv s1.1)) none)) K) (fun hg wz hk=>A0a (A74 (sz:=2) Tryz.underlying34 Kz (A1h V).1 (A1h V).2 hc1 wz)) oZ) (fun bj a bk b=>?_);obtain ⟨bl,a8,d⟩:=B7 d;refine E0 (fun (s2:Int×Bool) a a9=>∃(H:List Nat),St a7 a5 62 (s_ [i_ 40 s2.1,i_ 39 L,e_ 38 K,p_ 7 1 0,i_ 15 s1.1,i_ 14 (l1.length:Int),e_ 13 g,e_ 5 i,b_ 4 s2.2,p_ 2 0 0,e_ 1 g] [(j,59),(B,41)]) H a a9) (0,s1.2.1) a8 ⟨_,b.pi [40,39,38,7,15,14,13,5,4,2,1] 2⟩ ?_ ?_
     ·clear b;rintro s2 a bm ⟨bn,b⟩ r2 k;unfold D3.b2 at k;refine za e b (s_ [b_ 41 (decide (s2.1<L)),i_ 40 s2.1,i_ 39 L,e_ 38 K,p_ 7 1 0,i_ 15 s1.1,i_ 14 (l1.length:Int),e_ 13 g,e_ 5 i,b_ 4 s2.2,p_ 2 0 0,e_ 1 g] [(j,59),(B,41)]) (fun bo a bp b=>?_);refine wpIn_seq (cb b k (fun aa k=>?_) (fun aa k=>?_))
      ·refine wpIn_skip (B4 (wpIn_seq (wpIn_block ?_)));obtain ⟨W,k⟩:=C0 k;obtain ⟨ab,ac,ad⟩:=eT (Arr.take hr1 _) W;refine zD e b [9,40,39,38,7,15,14,13,5,4,2,1] [p_ 9 2 0] [(2,((((D4).cells (rd (l1.take (s1.1:Int).toNat) s2.1) ab).map EV.v),41))] (oI W (oA ad (oW ac oZ))) (fun bq a br b=>?_);obtain ⟨ae,af,k⟩:=B7 k;refine zD e b [47,40,39,38,7,15,14,13,5,4,2,1] [b_ 47 ae] [] (oC (zo Tryz.func32) (fun wz hk=>Q5.calls x0 (rd l1 s1.1) (rd (l1.take (s1.1:Int).toNat) s2.1) sv0 (svL []) (svL []) wz (kA hx0 hk) trivial trivial (El.any (El.keep hg0 (Lo.on hk))) _ af) oZ) (fun bs a bt b=>?_);refine cb b k (fun ag k=>?_) (fun ag k=>?_)
       ·refine zc e b [4] [b_ 4 false] [] (fun bu a bv b=>?_);refine wpIn_ret (B8 (B6 (B6 ?_)));cases k;refine .inr ⟨_,rfl,fun ho=>?_⟩;subst ho;refine B8 (B8 (B6 (B6 ?_)));cases d;refine .inr ⟨_,rfl,fun ho=>?_⟩;subst ho;exact B8 (B6 (rq h c b))
       ·refine wpIn_skip (B9 (B4 (zh e b [40,39,38,7,15,14,13,5,4,2,1] [i_ 40 (i64.wrap (s2.1+1))] [] (fun bw a bx b=>?_))));refine B4 ?_;cases k;exact ⟨_,rfl,⟨_,b.pi [40,39,38,7,15,14,13,5,4,2,1] 2⟩⟩
      ·refine wpIn_exit (C7 (C7 ?_));cases k;exact .inl ⟨_,rfl,rfl,⟨_,b.pi [40,39,38,7,15,14,13,5,4,2,1] 2⟩⟩
     ·clear b;rintro s2 a bz ho ⟨c0,b⟩;subst ho;replace d:(some (.next ((i64.wrap (s1.1+1)),s2.2,(A2a s1.2.2 (rd l1 s1.1) D))):Option (Stp (Int×Bool×(List (D8×Int))) (Ex (Int×Bool×(List (D8×Int))) (Bool))))=_:=d;refine B9 (B4 (zf e b (s_ [i_ 15 (i64.wrap (s1.1+1)),i_ 14 (l1.length:Int),e_ 13 g,e_ 5 i,b_ 4 s2.2,p_ 2 0 0,e_ 1 g] [(j,59),(B,41)]) (fun c2 a c3 b=>?_)));refine B4 ?_;replace ⟨c,b,hx0,hr1,hg0,l,f⟩:=rz c b (t5 hx0 hr1 hg0 l f);cases d;exact ⟨_,rfl,⟨_,_,hx0,hr1,hg0,f,c,b.pi [15,14,13,5,4,2,1] 1⟩⟩
   ·refine wpIn_exit (C7 (C7 ?_));replace ⟨c,b,hx0,hr1,hg0,f⟩:=rz c b (t4 hx0 hr1 hg0 f);cases d;exact .inl ⟨_,rfl,rfl,⟨_,_,hx0,hr1,hg0,f,c,b.pi [15,14,13,5,4,2,1] 1⟩⟩
  ·clear b c;rintro s1 a c4 ho ⟨c5,c6,hx0,hr1,hg0,f,c,b⟩;subst ho;replace h:(((F2 x0).bind fun q=>((F3 (D3.b3 x0 l1 s1 q) (0,s1.2.1)).bind fun o=>o.on (fun s3=>some true) (fun r=>some r))):Option (Bool))=_:=h;refine B4 (wpIn_seq (wpIn_seq (wpIn_region_lit (zj e 1 b (s_ [e_ 50 (.agg ((G9).cells x0 sv0).toArray),e_ 5 i,b_ 4 s1.2.1] [(j,59)]) (fun ah a ai b=>?_)))));replace ⟨c,b,hx0,hr1,hg0,f⟩:=rz c b (t4 hx0 hr1 hg0 f);obtain ⟨q,aj,h⟩:=B7 h;refine cH e c b (C2 rfl) (zo Tryz.func33) (fun C=>.slice ((C 0).1) q.length ((C 0).2)) (F2.calls x0 sv0 ai hx0 _ aj) (fun C a ak G al b A J am hR=>?_);replace ⟨c,hx0,hr1,hg0,f⟩:=xz c al A J (t4 hx0 hr1 hg0 f);obtain ⟨R,hR_76c⟩:=hR;replace R:=Arr.keep R (am _)
   let M:=(q.length:Int)
   refine zl e 2 b [53,52,51,5,4] [i_ 53 0,i_ 52 M] [] (fun c7 a c8 b=>?_);refine wpListIn_nil (B4 ?_);obtain ⟨c9,ao,h⟩:=B7 h;refine E0 (fun (s3:Int×Bool) a ap=>∃(H:List Nat),St ak ah 62 (s_ [i_ 53 s3.1,i_ 52 M,e_ 51 (.slice ((C 0).1) q.length ((C 0).2)),e_ 5 i,b_ 4 s3.2] [(j,59)]) H a ap) (0,s1.2.1) ao ⟨_,b.pi [53,52,51,5,4] 1⟩ ?_ ?_
   ·clear b;rintro s3 a ca ⟨cc,b⟩ r3 d;unfold D3.b3 at d;refine za e b (s_ [b_ 54 (decide (s3.1<M)),i_ 53 s3.1,i_ 52 M,e_ 51 (.slice ((C 0).1) q.length ((C 0).2)),e_ 5 i,b_ 4 s3.2] [(j,59)]) (fun cd a ce b=>?_);refine wpIn_seq (cb b d (fun aq d=>?_) (fun aq d=>?_))
    ·refine wpIn_skip (B4 (wpIn_seq (wpIn_block ?_)));obtain ⟨X,d⟩:=C0 d;obtain ⟨Y,ar,au⟩:=eT R X;refine zD e b [11,53,52,51,5,4] [p_ 11 1 0] [(1,((((D4).cells (rd q s3.1) Y).map EV.v),41))] (oI X (oA au (oW ar oZ))) (fun cf a cg b=>?_);refine zD e b [60,53,52,51,5,4] [b_ 60 (((Z9 s1.2.2 (rd q s3.1)).getD 0)==0)] [] (oG (.run true (vS (Instr.lookup 82 i (.agg ((D4).cells (rd q s3.1) Y).toArray) false)) (iv ((Z9 s1.2.2 (rd q s3.1)).getD 0))) (fun _ wz hk=>A0a (A4a (A5u Tryz.underlying41 Kz Tryz.underlying3 Tryz.underlying3 Kz Kz rfl rfl Kz Kz (fun x y h1 h2=>by cases x;cases y;simp at h1 h2;subst h1 h2;rfl)) Tryz.underlying82 (zi:=(iv 0,1,8)) (z:=0) Kz rfl (A5e.keep f (hk.block _ (c.mi _ (by simp)).2.1 (c.mi _ (by simp)).2.2)) (rd q s3.1) rfl)) oZ) (fun ch a ci b=>?_);refine cb b d (fun av d=>?_) (fun av d=>?_)
     ·refine zc e b [4] [b_ 4 false] [] (fun cj a ck b=>?_);refine wpIn_ret (B8 (B6 (B6 ?_)));cases d;refine .inr ⟨_,rfl,fun ho=>?_⟩;subst ho;exact B8 (B6 (rq h c b))
     ·refine wpIn_skip (B9 (B4 (zh e b [53,52,51,5,4] [i_ 53 (i64.wrap (s3.1+1))] [] (fun cl a cm b=>?_))));refine B4 ?_;cases d;exact ⟨_,rfl,⟨_,b.pi [53,52,51,5,4] 1⟩⟩
    ·refine wpIn_exit (C7 (C7 ?_));cases d;exact .inl ⟨_,rfl,rfl,⟨_,b.pi [53,52,51,5,4] 1⟩⟩
   ·clear b;rintro s3 a cn ho ⟨co,b⟩;subst ho;replace h:(some true:Option (Bool))=_:=h;refine B4 (za e b (s_ [b_ 4 true] [(j,59)]) (fun cp a cq b=>?_));exact wpIn_ret (rq h c b)
def Z0(l0:(List S5)):Option ((List S5)):=(req (decide ((([]:List S5).length+l0.length)*16≤140737488355328)) (some (([]:List S5)++l0)))
theorem Z0.calls(l0:(List S5))(A0:Option Addr)(c0:Nat)(w:World){S0_:Nat→Prop}(hr0:Arr N7 S0_ w A0 l0)(hc0:l0.length≤c0)(r:(List S5))(h:Z0 l0=some r):
    Calls Tryz.prog 34 #[.slice A0 l0.length c0] w fun e w'=>∃q:SV×(Nat→List Nat),e=.returned (.slice ((q.1 0).1) r.length ((q.1 0).2))∧H3 [] w w'∧Eng.A9h w w' [] [rb (q.1 0).1]∧Row N7 78 (fun b=>b∉([rb (q.1 0).1]:List (List Nat)).flatten∧(w.heap.size≤b∨S0_ b∨b∈[])) w' w.heap.size (q.1 0).1 (q.1 0).2 r:=by
  obtain ⟨S,p⟩:∃S:Nat→Prop,S=fun b=>S0_ b∨b∈([]:List Nat):=⟨_,rfl⟩;replace hr0:=Arr.keep hr0 (Mv.startP (mine:=[]) w p (fun _ _=>by simp));unfold Z0 at h;refine en_ Tryz.func34 (n:=8) (fun a f j g=>?_)
  let m:Value:=(.slice A0 l0.length c0)
  refine za j f (s_ [e_ 2 (.slice none 0 0),e_ 0 m] []) (fun H a J f=>?_);refine wpIn_seq (zD j f [4,2,0] [b_ 4 A0.isNone] [] (oG (.run true (vS (do eqGuard .eql 22 (.tmp 3) (.const (.slice none 0 0)) m (.slice none 0 0);binOp .eql 22 m (.slice none 0 0))) (.bool A0.isNone)) (fun _ wz hk=>A0a (A37 Tryz.underlying22 _ _ _ _ _ wz)) oZ) (fun K a L f=>?_));refine A47 f (A0.isNone) rfl (fun s=>?_) (fun s=>?_)
  ·obtain rfl:A0=none:=by cases hA_:A0 with | none=>rfl | some _=>(rw [hA_] at s;cases s)
   obtain rfl:=Arr.nil_of hr0;replace h:some ([]:(List S5))=some r:=by simpa [req] using h
   refine zc j f [2] [] [] (fun M a N f=>?_);replace ⟨g,hr0⟩:=ez _ (Ep.addNil g) hr0;have t:Row N7 78 (Lo S w w [] [rb none]) w w.heap.size none 0 ([]:List S5):=Row.nil;replace ⟨g,f,hr0,t⟩:=rz g f (t2 hr0 t);refine wpIn_ret (B6 ?_);cases h;subst p;exact r0 f ⟨(svL [(none,0)],fun i=>([]:List (List Nat)).getD i []),rfl,g.keeps f,g.handed [0] (by decide),Row.keep t (g.outO [0] _) (fun _ _=>rfl)⟩
  ·refine wpIn_skip (B4 (wpIn_seq (wpIn_region_lit ?_)));replace ⟨g,f,hr0⟩:=rz g f hr0;refine bS (S0:=S) (d:=N7) (e:=78) j g f (C2 rfl) [] [] [] (fun i x hi=>by simp at hi) (fun z a O B g f v C k=>?_);replace hr0:=nz v hr0;refine zl j 1 f [6,5,2] [e_ 6 m] [] (fun P a Q f=>?_);replace ⟨g,f,hr0,k⟩:=rz g f (t2 hr0 k);obtain ⟨o,h⟩:=C0 h;replace o:=of_decide_eq_true o;refine Y1 (S0:=S) (l1:=[]) (l2:=[]) (d:=N7) (e:=78) j g f (C2 rfl) rfl (A:=z) (c:=(([]:List S5).length)) (l:=([]:List S5)) rfl (A2:=A0) (c2:=c0) (ys:=l0) rfl k g.k.size hr0 (fun y sv u hu=>by exact B3g _ sv u hu) Tryz.underlying22 (zi:=(.agg #[iv 0,iv 0],2,16)) Kz rfl Kz (A05 (b:=16) (by decide) o) o (fun _ _=>by kernel_rfl) (fun D G a R B g f v C k=>?_);replace hr0:=nz v hr0;refine zl j 1 f [2] [e_ 2 (.slice D (([]:List S5)++l0).length G)] [] (fun T a U f=>?_);refine wpListIn_nil (B4 ?_);replace ⟨g,f,hr0,k⟩:=rz g f (t2 hr0 k);refine wpIn_ret ?_;cases h;subst p;exact r0 f ⟨(svL [(D,G)],fun i=>([]:List (List Nat)).getD i []),rfl,g.keeps f,g.handed [0] (by decide),Row.keep k (g.outO [0] _) (fun _ _=>rfl)⟩
def Y9(l0:(List Q2)):Option ((List Q2)):=(req (decide ((([]:List Q2).length+l0.length)*56≤140737488355328)) (some (([]:List Q2)++l0)))
theorem Y9.calls(l0:(List Q2))(A0:Option Addr)(c0:Nat)(w:World){S0_:Nat→Prop}(hr0:Arr G3 S0_ w A0 l0)(hc0:l0.length≤c0)(r:(List Q2))(h:Y9 l0=some r):
    Calls Tryz.prog 35 #[.slice A0 l0.length c0] w fun e w'=>∃q:SV×(Nat→List Nat),e=.returned (.slice ((q.1 0).1) r.length ((q.1 0).2))∧H3 [] w w'∧Eng.A9h w w' [] [rb (q.1 0).1]∧Row G3 89 (fun b=>b∉([rb (q.1 0).1]:List (List Nat)).flatten∧(w.heap.size≤b∨S0_ b∨b∈[])) w' w.heap.size (q.1 0).1 (q.1 0).2 r:=by
  obtain ⟨S,p⟩:∃S:Nat→Prop,S=fun b=>S0_ b∨b∈([]:List Nat):=⟨_,rfl⟩;replace hr0:=Arr.keep hr0 (Mv.startP (mine:=[]) w p (fun _ _=>by simp));unfold Y9 at h;refine en_ Tryz.func35 (n:=8) (fun a f j g=>?_)
  let m:Value:=(.slice A0 l0.length c0)
  refine za j f (s_ [e_ 2 (.slice none 0 0),e_ 0 m] []) (fun H a J f=>?_);refine wpIn_seq (zD j f [4,2,0] [b_ 4 A0.isNone] [] (oG (.run true (vS (do eqGuard .eql 23 (.tmp 3) (.const (.slice none 0 0)) m (.slice none 0 0);binOp .eql 23 m (.slice none 0 0))) (.bool A0.isNone)) (fun _ wz hk=>A0a (A37 Tryz.underlying23 _ _ _ _ _ wz)) oZ) (fun K a L f=>?_));refine A47 f (A0.isNone) rfl (fun s=>?_) (fun s=>?_)
  ·obtain rfl:A0=none:=by cases hA_:A0 with | none=>rfl | some _=>(rw [hA_] at s;cases s)
   obtain rfl:=Arr.nil_of hr0;replace h:some ([]:(List Q2))=some r:=by simpa [req] using h
   refine zc j f [2] [] [] (fun M a N f=>?_);replace ⟨g,hr0⟩:=ez _ (Ep.addNil g) hr0;have t:Row G3 89 (Lo S w w [] [rb none]) w w.heap.size none 0 ([]:List Q2):=Row.nil;replace ⟨g,f,hr0,t⟩:=rz g f (t2 hr0 t);refine wpIn_ret (B6 ?_);cases h;subst p;exact r0 f ⟨(svL [(none,0)],fun i=>([]:List (List Nat)).getD i []),rfl,g.keeps f,g.handed [0] (by decide),Row.keep t (g.outO [0] _) (fun _ _=>rfl)⟩
  ·refine wpIn_skip (B4 (wpIn_seq (wpIn_region_lit ?_)));replace ⟨g,f,hr0⟩:=rz g f hr0;refine bS (S0:=S) (d:=G3) (e:=89) j g f (C2 rfl) [] [] [] (fun i x hi=>by simp at hi) (fun z a O B g f v C k=>?_);replace hr0:=nz v hr0;refine zl j 1 f [6,5,2] [e_ 6 m] [] (fun P a Q f=>?_);replace ⟨g,f,hr0,k⟩:=rz g f (t2 hr0 k);obtain ⟨o,h⟩:=C0 h;replace o:=of_decide_eq_true o;refine Y1 (S0:=S) (l1:=[]) (l2:=[]) (d:=G3) (e:=89) j g f (C2 rfl) rfl (A:=z) (c:=(([]:List Q2).length)) (l:=([]:List Q2)) rfl (A2:=A0) (c2:=c0) (ys:=l0) rfl k g.k.size hr0 (fun y sv u hu=>by exact B3f _ sv u hu) Tryz.underlying23 (zi:=(.agg #[iv 0,iv 0,iv 0,iv 0,iv 0,iv 0,.int .u32 0],7,56)) Kz rfl Kz (A05 (b:=56) (by decide) o) o (fun _ _=>by kernel_rfl) (fun D G a R B g f v C k=>?_);replace hr0:=nz v hr0;refine zl j 1 f [2] [e_ 2 (.slice D (([]:List Q2)++l0).length G)] [] (fun T a U f=>?_);refine wpListIn_nil (B4 ?_);replace ⟨g,f,hr0,k⟩:=rz g f (t2 hr0 k);refine wpIn_ret ?_;cases h;subst p;exact r0 f ⟨(svL [(D,G)],fun i=>([]:List (List Nat)).getD i []),rfl,g.keeps f,g.handed [0] (by decide),Row.keep k (g.outO [0] _) (fun _ _=>rfl)⟩
def N4(l0:(List F9)):Option ((List F9)):=(req (decide ((([]:List F9).length+l0.length)*24≤140737488355328)) (some (([]:List F9)++l0)))
theorem N4.calls(l0:(List F9))(A0:Option Addr)(c0:Nat)(w:World){S0_:Nat→Prop}(hr0:Arr D9 S0_ w A0 l0)(hc0:l0.length≤c0)(r:(List F9))(h:N4 l0=some r):
    Calls Tryz.prog 36 #[.slice A0 l0.length c0] w fun e w'=>∃q:SV×(Nat→List Nat),e=.returned (.slice ((q.1 0).1) r.length ((q.1 0).2))∧H3 [] w w'∧Eng.A9h w w' [] [rb (q.1 0).1]∧Row D9 80 (fun b=>b∉([rb (q.1 0).1]:List (List Nat)).flatten∧(w.heap.size≤b∨S0_ b∨b∈[])) w' w.heap.size (q.1 0).1 (q.1 0).2 r:=by
  obtain ⟨S,p⟩:∃S:Nat→Prop,S=fun b=>S0_ b∨b∈([]:List Nat):=⟨_,rfl⟩;replace hr0:=Arr.keep hr0 (Mv.startP (mine:=[]) w p (fun _ _=>by simp));unfold N4 at h;refine en_ Tryz.func36 (n:=8) (fun a f j g=>?_)
  let m:Value:=(.slice A0 l0.length c0)
  refine za j f (s_ [e_ 2 (.slice none 0 0),e_ 0 m] []) (fun H a J f=>?_);refine wpIn_seq (zD j f [4,2,0] [b_ 4 A0.isNone] [] (oG (.run true (vS (do eqGuard .eql 24 (.tmp 3) (.const (.slice none 0 0)) m (.slice none 0 0);binOp .eql 24 m (.slice none 0 0))) (.bool A0.isNone)) (fun _ wz hk=>A0a (A37 Tryz.underlying24 _ _ _ _ _ wz)) oZ) (fun K a L f=>?_));refine A47 f (A0.isNone) rfl (fun s=>?_) (fun s=>?_)
  ·obtain rfl:A0=none:=by cases hA_:A0 with | none=>rfl | some _=>(rw [hA_] at s;cases s)
   obtain rfl:=Arr.nil_of hr0;replace h:some ([]:(List F9))=some r:=by simpa [req] using h
   refine zc j f [2] [] [] (fun M a N f=>?_);replace ⟨g,hr0⟩:=ez _ (Ep.addNil g) hr0;have t:Row D9 80 (Lo S w w [] [rb none]) w w.heap.size none 0 ([]:List F9):=Row.nil;replace ⟨g,f,hr0,t⟩:=rz g f (t2 hr0 t);refine wpIn_ret (B6 ?_);cases h;subst p;exact r0 f ⟨(svL [(none,0)],fun i=>([]:List (List Nat)).getD i []),rfl,g.keeps f,g.handed [0] (by decide),Row.keep t (g.outO [0] _) (fun _ _=>rfl)⟩
  ·refine wpIn_skip (B4 (wpIn_seq (wpIn_region_lit ?_)));replace ⟨g,f,hr0⟩:=rz g f hr0;refine bS (S0:=S) (d:=D9) (e:=80) j g f (C2 rfl) [] [] [] (fun i x hi=>by simp at hi) (fun z a O B g f v C k=>?_);replace hr0:=nz v hr0;refine zl j 1 f [6,5,2] [e_ 6 m] [] (fun P a Q f=>?_);replace ⟨g,f,hr0,k⟩:=rz g f (t2 hr0 k);obtain ⟨o,h⟩:=C0 h;replace o:=of_decide_eq_true o;refine Y1 (S0:=S) (l1:=[]) (l2:=[]) (d:=D9) (e:=80) j g f (C2 rfl) rfl (A:=z) (c:=(([]:List F9).length)) (l:=([]:List F9)) rfl (A2:=A0) (c2:=c0) (ys:=l0) rfl k g.k.size hr0 (fun y sv u hu=>by exact B0t _ sv u hu) Tryz.underlying24 (zi:=(.agg #[iv 0,iv 0,iv 0],3,24)) Kz rfl Kz (A05 (b:=24) (by decide) o) o (fun _ _=>by kernel_rfl) (fun D G a R B g f v C k=>?_);replace hr0:=nz v hr0;refine zl j 1 f [2] [e_ 2 (.slice D (([]:List F9)++l0).length G)] [] (fun T a U f=>?_);refine wpListIn_nil (B4 ?_);replace ⟨g,f,hr0,k⟩:=rz g f (t2 hr0 k);refine wpIn_ret ?_;cases h;subst p;exact r0 f ⟨(svL [(D,G)],fun i=>([]:List (List Nat)).getD i []),rfl,g.keeps f,g.handed [0] (by decide),Row.keep k (g.outO [0] _) (fun _ _=>rfl)⟩
def R3(a0:Int):Option ((Option D1)×Int):=(bif (decide (a0<1)||decide (a0>4096)) then some (none,7) else (req (decide (0≤a0)&&decide ((a0:Int).toNat*(1+24)≤16777216)) (some ((some (⟨(List.replicate (a0:Int).toNat ([]:(List Int))),0,0⟩:D1)),0))))
theorem R3.calls(a0:Int)(w:World){S0_:Nat→Prop}(r:(Option D1)×Int)(h:R3 a0=some r):
    Calls Tryz.prog 37 #[iv a0] w fun e w'=>∃q:SV×(Nat→List Nat),e=.returned (.tuple #[.pointer ((q.1 0).1),iv r.2])∧H3 [] w w'∧Eng.A9h w w' [] [q.2 0]∧R4 C8 (fun b=>b∉([q.2 0]:List (List Nat)).flatten∧(w.heap.size≤b∨S0_ b∨b∈[])) w' (q.1 0).1 r.1 (q.2 0):=by
  obtain ⟨S,A⟩:∃S:Nat→Prop,S=fun b=>S0_ b∨b∈([]:List Nat):=⟨_,rfl⟩;unfold R3 at h;refine en_ Tryz.func37 (n:=14) (fun a c p f=>?_);refine za p c (s_ [i_ 3 0,e_ 2 (.pointer none),i_ 0 a0] []) (fun L a M c=>?_);refine wpIn_seq (zc p c [9,3,2,0] [b_ 9 (decide (a0<1)||decide (a0>4096))] [] (fun N a O c=>?_));refine cb c h (fun C h=>?_) (fun C h=>?_)
  ·refine zc p c [3,2] [i_ 3 7] [] (fun P a D c=>?_);obtain ⟨f,m,u⟩:=Ep.rebase f c;replace c:=c.rebase;obtain ⟨f,m⟩:=Ep.addNil f;have u:=A26 ([]:List (List Nat)) D;refine wpIn_ret (B6 ?_);cases h;subst A;exact ret2 c rfl rfl rfl ⟨(svL [(none,0)],fun i=>([[]]:List (List Nat)).getD i []),rfl,f.keeps c,f.handed [0] (by decide),R4.nil _ _ _⟩
  ·refine wpIn_skip (B4 (wpIn_seq (wpIn_region_lit (zl p 1 c [10,3,2] [i_ 10 a0] [] (fun Q a R c=>?_)))));obtain ⟨f,m,u⟩:=Ep.rebase f c;replace c:=c.rebase;obtain ⟨v,h⟩:=C0 h;rw [Bool.and_eq_true,decide_eq_true_iff,decide_eq_true_iff] at v;refine V5 (S0:=S) (d:=(Kd.slice (Kd.int .u32))) (e:=43) p f c (C2 rfl) rfl (k:=a0) rfl rfl Tryz.underlying117 (zi:=(.slice none 0 0,1,24)) Kz rfl ([]) (svL []) rfl ⟨Arr.nil _ _ _ _,Nat.le_refl _⟩ v.1 v.2 (fun _=>by kernel_rfl) (fun g a T U f c m u o=>?_)
   let j:=(List.replicate (a0:Int).toNat ([]:(List Int)))
   refine zl p 4 c [3,2] [p_ 2 0 0] [(0,([.v (.slice g j.length (j.length)),.v (iv 0),.v (iv 0)],129))] (fun G a s c=>?_);refine wpListIn_nil (B4 ?_);replace ⟨f,c,o⟩:=rz f c o
   let y:=(⟨j,0,0⟩:D1)
   have B:=F8 (S:=Lo S w s G [rb g]) (w:=s) (d:=S4) (x:=y) (sv:=(svL [(g,j.length),(none,j.length)])) trivial;obtain ⟨l,H,J,c,m,V,t⟩:=B3s (d:=S4) f c 0 y (svL [(g,j.length),(none,j.length)]) 129 rfl;replace t:=t _ B;clear B;replace f:Ep [] w s H [rb g,[l]]:=J;replace o:=sz m o;obtain ⟨K,f,c,m⟩:=f.cut c [3,2] 0 (s_ [i_ 3 0,e_ 2 (.pointer (some ⟨l,0,none⟩))] []) Kz;replace ⟨o,t⟩:=sz m (t2 o t);have z:Ojt C8 (Lo S w s K [rb g,[l]]) s l y (l::(rb g++([]))):=Ojt.mk' (k:=C8) (svL [(g,j.length),(none,j.length)]) (Ob1.as t rfl id) ⟨rfl,⟨Row.down o,rfl⟩,trivial⟩;replace ⟨f,z⟩:=ge f [1,0] (l::(rb g++([]))) z;refine wpIn_ret ?_;cases h;subst A;exact ret2 c rfl rfl rfl ⟨(svL [(some ⟨l,0,none⟩,0)],fun i=>([(l::(rb g++([])))]:List (List Nat)).getD i []),rfl,f.keeps c,f.handed [0] (by decide),R4.of (Ojt.keep z (f.outO [0] _) (fun _ _=>rfl))⟩
def Z1(a0:Int):Option ((Option I7)×Int):=(bif (decide (a0<0)||decide (a0>64)) then some (none,7) else some ((some (⟨a0,0⟩:I7)),0))
theorem Z1.calls(a0:Int)(w:World){S0_:Nat→Prop}(r:(Option I7)×Int)(h:Z1 a0=some r):
    Calls Tryz.prog 38 #[iv a0] w fun e w'=>∃q:SV×(Nat→List Nat),e=.returned (.tuple #[.pointer ((q.1 0).1),iv r.2])∧H3 [] w w'∧Eng.A9h w w' [] [q.2 0]∧R4 M8 (fun b=>b∉([q.2 0]:List (List Nat)).flatten∧(w.heap.size≤b∨S0_ b∨b∈[])) w' (q.1 0).1 r.1 (q.2 0):=by
  obtain ⟨S,u⟩:∃S:Nat→Prop,S=fun b=>S0_ b∨b∈([]:List Nat):=⟨_,rfl⟩;unfold Z1 at h;refine en_ Tryz.func38 (n:=13) (fun a c o f=>?_);refine za o c (s_ [i_ 3 0,e_ 2 (.pointer none),i_ 0 a0] []) (fun G a H c=>?_);refine wpIn_seq (zc o c [9,3,2,0] [b_ 9 (decide (a0<0)||decide (a0>64))] [] (fun J a K c=>?_));refine cb c h (fun y h=>?_) (fun y h=>?_)
  ·refine zc o c [3,2] [i_ 3 7] [] (fun L a z c=>?_);obtain ⟨f,l,p⟩:=Ep.rebase f c;replace c:=c.rebase;obtain ⟨f,l⟩:=Ep.addNil f;have p:=A26 ([]:List (List Nat)) z;refine wpIn_ret (B6 ?_);cases h;subst u;exact ret2 c rfl rfl rfl ⟨(svL [(none,0)],fun i=>([[]]:List (List Nat)).getD i []),rfl,f.keeps c,f.handed [0] (by decide),R4.nil _ _ _⟩
  ·refine wpIn_skip (B4 (zc o c [3,2] [p_ 2 0 0] [(0,([.v (iv a0),.v (.int .u64 0)],131))] (fun A a j c=>?_)));obtain ⟨f,l,p⟩:=Ep.rebase f c;replace c:=c.rebase
   let s:=(⟨a0,0⟩:I7)
   have v:=F8 (S:=Lo S w j A []) (w:=j) (d:=A3e) (x:=s) (sv:=(svL [])) trivial;obtain ⟨g,B,C,c,l,M,m⟩:=B3s (d:=A3e) f c 0 s (svL []) 131 rfl;replace m:=m _ v;clear v;replace f:Ep [] w j B [[g]]:=C;have p:=A26 ([[g]]:List (List Nat)) j;obtain ⟨D,f,c,l⟩:=f.cut c [3,2] 0 (s_ [i_ 3 0,e_ 2 (.pointer (some ⟨g,0,none⟩))] []) Kz;replace m:=sz l m;have t:Ojt M8 (Lo S w j D [[g]]) j g s (g::([])):=Ojt.mk' (k:=M8) (svL []) (Ob1.as m rfl id) ⟨rfl,trivial⟩;replace ⟨f,t⟩:=ge f [0] (g::([])) t;refine wpIn_ret ?_;cases h;subst u;exact ret2 c rfl rfl rfl ⟨(svL [(some ⟨g,0,none⟩,0)],fun i=>([(g::([]))]:List (List Nat)).getD i []),rfl,f.keeps c,f.handed [0] (by decide),R4.of (Ojt.keep t (f.outO [0] _) (fun _ _=>rfl))⟩
end
end Go.Proofs.YtpdflibmhchlbaaGreatDoor
