/- Walks of the seat's functions. No statement is proved here. Conditions: none. -/
import Derived.Test.YtpdflibmhchlbaaGreatDoorProg
import Derived.Test.YtpdflibmhchlbaaGreatDoorEng
import Derived.Test.YtpdflibmhchlbaaGreatDoorSh
set_option linter.unusedVariables false
set_option linter.unusedSimpArgs false
set_option maxRecDepth 100000
set_option maxHeartbeats 4000000
set_option synthInstance.maxSize 4000
set_option synthInstance.maxHeartbeats 400000
namespace Go.Proofs.YtpdflibmhchlbaaGreatDoor
open Go Go.RowKit Go.Eng Go.Proofs
noncomputable section
structure S9 where
  kt:Int
  ka:Int
  deriving Inhabited,DecidableEq
def O0:Kd S9:=⟨2,fun x sv=>[.int .i64 x.kt,.int .i64 x.ka],fun S w x sv=>True,fun _ _=>rfl,Nat.le_of_ble_eq_true rfl,fun h hk=>trivial⟩
theorem B3h(x:S9)(sv:SV)(u:Value)(hu:u∈O0.cells x sv):u.oneCell'=true:=by
  simp only [O0,List.mem_cons,List.not_mem_nil,or_false] at hu;rcases hu with rfl | rfl
  all_goals rfl
structure Q8 where
  u6:Int
  ko:Int
  To:Int
  kr:Int
  z8:Int
  kf:Int
  qo:Int
  deriving Inhabited,DecidableEq
def G5:Kd Q8:=⟨7,fun x sv=>[.int .i64 x.u6,.int .i64 x.ko,.int .i64 x.To,.int .i64 x.kr,.int .i64 x.z8,.int .i64 x.kf,.int .u32 x.qo],fun S w x sv=>True,fun _ _=>rfl,Nat.le_of_ble_eq_true rfl,fun h hk=>trivial⟩
theorem B3g(x:Q8)(sv:SV)(u:Value)(hu:u∈G5.cells x sv):u.oneCell'=true:=by
  simp only [G5,List.mem_cons,List.not_mem_nil,or_false] at hu;rcases hu with rfl | rfl | rfl | rfl | rfl | rfl | rfl
  all_goals rfl
structure G4 where
  u3:Int
  kn:Int
  qk:Int
  deriving Inhabited,DecidableEq
def D9:Kd G4:=⟨3,fun x sv=>[.int .i64 x.u3,.int .i64 x.kn,.int .i64 x.qk],fun S w x sv=>True,fun _ _=>rfl,Nat.le_of_ble_eq_true rfl,fun h hk=>trivial⟩
theorem B0v(x:G4)(sv:SV)(u:Value)(hu:u∈D9.cells x sv):u.oneCell'=true:=by
  simp only [D9,List.mem_cons,List.not_mem_nil,or_false] at hu;rcases hu with rfl | rfl | rfl
  all_goals rfl
structure A4k where
  z5:Int
  r9:(List G4)
  deriving Inhabited,DecidableEq
def A92:Kd A4k:=⟨2,fun x sv=>[.int .i64 x.z5,.slice (sv 0).1 x.r9.length (sv 0).2],fun S w x sv=>(Arr D9 S w (sv 0).1 x.r9∧x.r9.length≤(sv 0).2)∧True,fun _ _=>rfl,Nat.le_of_ble_eq_true rfl,fun h hk=>⟨⟨h.1.1.keep hk,h.1.2⟩,trivial⟩⟩
structure B0t where
  e0:A4k
  e1:A4k
  deriving Inhabited,DecidableEq
def A1c:Kd B0t:=⟨4,fun x sv=>[.int .i64 x.e0.z5,.slice (sv 0).1 x.e0.r9.length (sv 0).2,.int .i64 x.e1.z5,.slice (sv 1).1 x.e1.r9.length (sv 1).2],fun S w x sv=>(Arr D9 S w (sv 0).1 x.e0.r9∧x.e0.r9.length≤(sv 0).2)∧(Arr D9 S w (sv 1).1 x.e1.r9∧x.e1.r9.length≤(sv 1).2)∧True,fun _ _=>rfl,Nat.le_of_ble_eq_true rfl,fun h hk=>⟨⟨h.1.1.keep hk,h.1.2⟩,⟨h.2.1.1.keep hk,h.2.1.2⟩,trivial⟩⟩
def D2(x:B0t)(i:Int):A4k:=if i=0 then x.e0 else x.e1
theorem A05{S:Nat→Prop}{w:World}{B:Addr}{x:B0t}{sv:SV}(h:El A1c S w B x sv){i:Int}(hi:inb i 2=true):El A92 S w (B.add (i.toNat*2)) (D2 x i) (svO sv (i.toNat*1)):=by
  obtain ⟨h0,h1⟩:=A0s hi;have:i=0∨i=1:=by omega
  rcases this with rfl | rfl
  · exact El.part h (0*2) x.e0 (svO sv (0*1)) ⟨h.cont.1,trivial⟩ rfl
  · exact El.part h (1*2) x.e1 (svO sv (1*1)) ⟨h.cont.2.1,trivial⟩ rfl
structure C2 where
  r8:(List S9)
  r6:(List Q8)
  r7:B0t
  deriving Inhabited,DecidableEq
def B5:Kd C2:=⟨6,fun x sv=>[.slice (sv 0).1 x.r8.length (sv 0).2,.slice (sv 1).1 x.r6.length (sv 1).2,.int .i64 x.r7.e0.z5,.slice (sv 2).1 x.r7.e0.r9.length (sv 2).2,.int .i64 x.r7.e1.z5,.slice (sv 3).1 x.r7.e1.r9.length (sv 3).2],fun S w x sv=>(Arr O0 S w (sv 0).1 x.r8∧x.r8.length≤(sv 0).2)∧(Arr G5 S w (sv 1).1 x.r6∧x.r6.length≤(sv 1).2)∧(Arr D9 S w (sv 2).1 x.r7.e0.r9∧x.r7.e0.r9.length≤(sv 2).2)∧(Arr D9 S w (sv 3).1 x.r7.e1.r9∧x.r7.e1.r9.length≤(sv 3).2)∧True,fun _ _=>rfl,Nat.le_of_ble_eq_true rfl,fun h hk=>⟨⟨h.1.1.keep hk,h.1.2⟩,⟨h.2.1.1.keep hk,h.2.1.2⟩,⟨h.2.2.1.1.keep hk,h.2.2.1.2⟩,⟨h.2.2.2.1.1.keep hk,h.2.2.2.1.2⟩,trivial⟩⟩
structure M1 where
  Op:Int
  u5:Int
  ke:Int
  u9:(List Int)
  deriving Inhabited,DecidableEq
def Q1:Kd M1:=⟨4,fun x sv=>[.int .i64 x.Op,.int .i64 x.u5,.int .u64 x.ke,.slice (sv 0).1 x.u9.length (sv 0).2],fun S w x sv=>(Arr (Kd.int .u32) S w (sv 0).1 x.u9∧x.u9.length≤(sv 0).2)∧True,fun _ _=>rfl,Nat.le_of_ble_eq_true rfl,fun h hk=>⟨⟨h.1.1.keep hk,h.1.2⟩,trivial⟩⟩
structure E7 where
  z6:Int
  u9:(List Int)
  u7:Bool
  qd:Int
  deriving Inhabited,DecidableEq
def I7:Kd E7:=⟨4,fun x sv=>[.int .i64 x.z6,.slice (sv 0).1 x.u9.length (sv 0).2,.bool x.u7,.int .i64 x.qd],fun S w x sv=>(Arr (Kd.int .u32) S w (sv 0).1 x.u9∧x.u9.length≤(sv 0).2)∧True,fun _ _=>rfl,Nat.le_of_ble_eq_true rfl,fun h hk=>⟨⟨h.1.1.keep hk,h.1.2⟩,trivial⟩⟩
structure I8 where
  u3:Int
  u4:M1
  qi:E7
  kz:Bool
  ko:Int
  To:Int
  T0:Int
  T1:Int
  Own0:Int
  Own1:Int
  qj:Int
  qe:Int
  qc:Int
  Saw:Int
  deriving Inhabited,DecidableEq
def F3:Kd I8:=⟨20,fun x sv=>[.int .i64 x.u3,.int .i64 x.u4.Op,.int .i64 x.u4.u5,.int .u64 x.u4.ke,.slice (sv 0).1 x.u4.u9.length (sv 0).2,.int .i64 x.qi.z6,.slice (sv 1).1 x.qi.u9.length (sv 1).2,.bool x.qi.u7,.int .i64 x.qi.qd,.bool x.kz,.int .i64 x.ko,.int .i64 x.To,.int .i64 x.T0,.int .i64 x.T1,.int .i64 x.Own0,.int .i64 x.Own1,.int .i64 x.qj,.int .i64 x.qe,.int .i64 x.qc,.int .i64 x.Saw],fun S w x sv=>(Arr (Kd.int .u32) S w (sv 0).1 x.u4.u9∧x.u4.u9.length≤(sv 0).2)∧(Arr (Kd.int .u32) S w (sv 1).1 x.qi.u9∧x.qi.u9.length≤(sv 1).2)∧True,fun _ _=>rfl,Nat.le_of_ble_eq_true rfl,fun h hk=>⟨⟨h.1.1.keep hk,h.1.2⟩,⟨h.2.1.1.keep hk,h.2.1.2⟩,trivial⟩⟩
structure J4 where
  u3:Int
  qh:(List Int)
  At:Int
  Tick:Int
  Own:Int
  deriving Inhabited,DecidableEq
def W8:Kd J4:=⟨5,fun x sv=>[.int .i64 x.u3,.slice (sv 0).1 x.qh.length (sv 0).2,.int .i64 x.At,.int .i64 x.Tick,.int .i64 x.Own],fun S w x sv=>(Arr (Kd.int .i64) S w (sv 0).1 x.qh∧x.qh.length≤(sv 0).2)∧True,fun _ _=>rfl,Nat.le_of_ble_eq_true rfl,fun h hk=>⟨⟨h.1.1.keep hk,h.1.2⟩,trivial⟩⟩
structure M3 where
  calls:(List I8)
  bellings:(List J4)
  deriving Inhabited,DecidableEq
def E3:Kd M3:=⟨2,fun x sv=>[.slice (sv 0).1 x.calls.length (sv 0).2,.slice (sv 1).1 x.bellings.length (sv 1).2],fun S w x sv=>(Arr F3 S w (sv 0).1 x.calls∧x.calls.length≤(sv 0).2)∧(Arr W8 S w (sv 1).1 x.bellings∧x.bellings.length≤(sv 1).2)∧True,fun _ _=>rfl,Nat.le_of_ble_eq_true rfl,fun h hk=>⟨⟨h.1.1.keep hk,h.1.2⟩,⟨h.2.1.1.keep hk,h.2.1.2⟩,trivial⟩⟩
structure F5 where
  u6:Int
  Of:Int
  deriving Inhabited,DecidableEq
def D0:Kd F5:=⟨2,fun x sv=>[.int .i64 x.u6,.int .i64 x.Of],fun S w x sv=>True,fun _ _=>rfl,Nat.le_of_ble_eq_true rfl,fun h hk=>trivial⟩
theorem A4a(x:F5)(sv:SV)(u:Value)(hu:u∈D0.cells x sv):u.oneCell'=true:=by
  simp only [D0,List.mem_cons,List.not_mem_nil,or_false] at hu;rcases hu with rfl | rfl
  all_goals rfl
structure A0z where
  from_:Int
  to_:Int
  deriving Inhabited,DecidableEq
def J7:Kd A0z:=⟨2,fun x sv=>[.int .i64 x.from_,.int .i64 x.to_],fun S w x sv=>True,fun _ _=>rfl,Nat.le_of_ble_eq_true rfl,fun h hk=>trivial⟩
structure D3 where
  ring:(List (List Int))
  first:Int
  n:Int
  deriving Inhabited,DecidableEq
def S8:Kd D3:=⟨3,fun x sv=>[.slice (sv 0).1 (sv 1).2 (sv 0).2,.int .i64 x.first,.int .i64 x.n],fun S w x sv=>True,fun _ _=>rfl,Nat.le_of_ble_eq_true rfl,fun h hk=>trivial⟩
def A0f(S:Nat→Prop)(w:World)(b:Nat)(x:D3)(sv:SV)(F:List Nat):Prop:=F=rb (sv 0).1++([])∧(Row (Kd.slice (Kd.int .u32)) 43 S w 0 (sv 0).1 (sv 0).2 x.ring∧x.ring.length=(sv 1).2)∧True
theorem A5z{S S':Nat→Prop}{w w':World}{b:Nat}{x:D3}{sv:SV}{F:List Nat}(h:A0f S w b x sv F)(hk:Mv S w S' w')(hb:∀b∈F,w'.heap[b]? =w.heap[b]?):A0f S' w' b x sv F:=by
  obtain ⟨a,h0,_⟩:=h;exact ⟨a,⟨Row.keep h0.1 hk (fun c hc=>hb c (a▸List.mem_append_left _ hc)),h0.2⟩,trivial⟩
theorem A50{S:Nat→Prop}{w:World}{b:Nat}{x:D3}{sv:SV}{F:List Nat}(h:A0f S w b x sv F):∀b∈F,b<w.heap.size∧∀q,w.heap[b]? ≠some (.deferred q):=by
  obtain ⟨a,h0,_⟩:=h;intro c hc;rw [a] at hc;rcases List.mem_append.1 hc with hc | hc
  · exact h0.1.ndl c hc
  cases hc
def C7:Lk D3:=⟨S8,129,A0f,fun h hk hb=>A5z h hk hb,fun h=>A50 h⟩
structure J0 where
  n:Int
  bits:Int
  deriving Inhabited,DecidableEq
def A3a:Kd J0:=⟨2,fun x sv=>[.int .i64 x.n,.int .u64 x.bits],fun S w x sv=>True,fun _ _=>rfl,Nat.le_of_ble_eq_true rfl,fun h hk=>trivial⟩
def A4c(S:Nat→Prop)(w:World)(b:Nat)(x:J0)(sv:SV)(F:List Nat):Prop:=F=[]∧True
theorem B2g{S S':Nat→Prop}{w w':World}{b:Nat}{x:J0}{sv:SV}{F:List Nat}(h:A4c S w b x sv F)(hk:Mv S w S' w')(hb:∀b∈F,w'.heap[b]? =w.heap[b]?):A4c S' w' b x sv F:=by
  obtain ⟨a,_⟩:=h;exact ⟨a,trivial⟩
theorem B2h{S:Nat→Prop}{w:World}{b:Nat}{x:J0}{sv:SV}{F:List Nat}(h:A4c S w b x sv F):∀b∈F,b<w.heap.size∧∀q,w.heap[b]? ≠some (.deferred q):=by
  obtain ⟨a,_⟩:=h;intro c hc;rw [a] at hc;cases hc
def N0:Lk J0:=⟨A3a,131,A4c,fun h hk hb=>B2g h hk hb,fun h=>B2h h⟩
structure D1 where
  u3:Int
  z7:Bool
  en:(List Int)
  u7:(List Int)
  deriving Inhabited,DecidableEq
def A3m:Kd D1:=⟨4,fun x sv=>[.int .i64 x.u3,.bool x.z7,.slice (sv 0).1 (sv 1).2 (sv 0).2,.slice (sv 2).1 (sv 3).2 (sv 2).2],fun S w x sv=>True,fun _ _=>rfl,Nat.le_of_ble_eq_true rfl,fun h hk=>trivial⟩
def A3n(S:Nat→Prop)(w:World)(b:Nat)(x:D1)(sv:SV)(F:List Nat):Prop:=F=rb (sv 0).1++(rb (sv 2).1++([]))∧(Row (Kd.int .i64) 3 S w 0 (sv 0).1 (sv 0).2 x.en∧x.en.length=(sv 1).2)∧(Row (Kd.int .i64) 3 S w 0 (sv 2).1 (sv 2).2 x.u7∧x.u7.length=(sv 3).2)∧True
theorem B0w{S S':Nat→Prop}{w w':World}{b:Nat}{x:D1}{sv:SV}{F:List Nat}(h:A3n S w b x sv F)(hk:Mv S w S' w')(hb:∀b∈F,w'.heap[b]? =w.heap[b]?):A3n S' w' b x sv F:=by
  obtain ⟨a,h0,h1,_⟩:=h;exact ⟨a,⟨Row.keep h0.1 hk (fun c hc=>hb c (a▸List.mem_append_left _ hc)),h0.2⟩,⟨Row.keep h1.1 hk (fun c hc=>hb c (a▸List.mem_append_right _ (List.mem_append_left _ hc))),h1.2⟩,trivial⟩
theorem B0x{S:Nat→Prop}{w:World}{b:Nat}{x:D1}{sv:SV}{F:List Nat}(h:A3n S w b x sv F):∀b∈F,b<w.heap.size∧∀q,w.heap[b]? ≠some (.deferred q):=by
  obtain ⟨a,h0,h1,_⟩:=h;intro c hc;rw [a] at hc;rcases List.mem_append.1 hc with hc | hc
  · exact h0.1.ndl c hc
  rcases List.mem_append.1 hc with hc | hc
  · exact h1.1.ndl c hc
  cases hc
def E1:Lk D1:=⟨A3m,99,A3n,fun h hk hb=>B0w h hk hb,fun h=>B0x h⟩
theorem A8i(x:D1)(sv:SV)(u:Value)(hu:u∈A3m.cells x sv):u.oneCell'=true:=by
  simp only [A3m,List.mem_cons,List.not_mem_nil,or_false] at hu;rcases hu with rfl | rfl | rfl | rfl
  all_goals rfl
def L2:Kd D1:=⟨4,fun x sv=>[.int .i64 x.u3,.bool x.z7,.slice (sv 0).1 x.en.length (sv 0).2,.slice (sv 1).1 x.u7.length (sv 1).2],fun S w x sv=>(Arr (Kd.int .i64) S w (sv 0).1 x.en∧x.en.length≤(sv 0).2)∧(Arr (Kd.int .i64) S w (sv 1).1 x.u7∧x.u7.length≤(sv 1).2)∧True,fun _ _=>rfl,Nat.le_of_ble_eq_true rfl,fun h hk=>⟨⟨h.1.1.keep hk,h.1.2⟩,⟨h.2.1.1.keep hk,h.2.1.2⟩,trivial⟩⟩
structure R4 where
  data:(List Int)
  stamp:Int
  is:Bool
  deriving Inhabited,DecidableEq
def J5:Kd R4:=⟨3,fun x sv=>[.slice (sv 0).1 x.data.length (sv 0).2,.int .i64 x.stamp,.bool x.is],fun S w x sv=>(Arr (Kd.int .u32) S w (sv 0).1 x.data∧x.data.length≤(sv 0).2)∧True,fun _ _=>rfl,Nat.le_of_ble_eq_true rfl,fun h hk=>⟨⟨h.1.1.keep hk,h.1.2⟩,trivial⟩⟩
structure C3 where
  c:C2
  parts:(List D1)
  last:(List R4)
  rows:(List (Option D3))
  cells:List (Int×Int)
  bells:Option J0
  deriving Inhabited,DecidableEq
def C4:Kd C3:=⟨11,fun x sv=>[.slice (sv 0).1 x.c.r8.length (sv 0).2,.slice (sv 1).1 x.c.r6.length (sv 1).2,.int .i64 x.c.r7.e0.z5,.slice (sv 2).1 x.c.r7.e0.r9.length (sv 2).2,.int .i64 x.c.r7.e1.z5,.slice (sv 3).1 x.c.r7.e1.r9.length (sv 3).2,.slice (sv 4).1 x.parts.length (sv 4).2,.slice (sv 5).1 (sv 6).2 (sv 5).2,.slice (sv 7).1 x.rows.length (sv 7).2,.map (some (sv 8).2),.pointer (sv 9).1],fun S w x sv=>(Arr O0 S w (sv 0).1 x.c.r8∧x.c.r8.length≤(sv 0).2)∧(Arr G5 S w (sv 1).1 x.c.r6∧x.c.r6.length≤(sv 1).2)∧(Arr D9 S w (sv 2).1 x.c.r7.e0.r9∧x.c.r7.e0.r9.length≤(sv 2).2)∧(Arr D9 S w (sv 3).1 x.c.r7.e1.r9∧x.c.r7.e1.r9.length≤(sv 3).2)∧True,fun _ _=>rfl,Nat.le_of_ble_eq_true rfl,fun h hk=>⟨⟨h.1.1.keep hk,h.1.2⟩,⟨h.2.1.1.keep hk,h.2.1.2⟩,⟨h.2.2.1.1.keep hk,h.2.2.1.2⟩,⟨h.2.2.2.1.1.keep hk,h.2.2.2.1.2⟩,trivial⟩⟩
def A2s(S:Nat→Prop)(w:World)(b:Nat)(x:C3)(sv:SV)(F:List Nat):Prop:=∃G0 G1 G2:List Nat,F=G0++(rb (sv 5).1++(G1++([(sv 8).2]++(G2++([])))))∧J3 E1 S w (sv 4).1 (sv 4).2 x.parts G0∧(Row J5 144 S w 0 (sv 5).1 (sv 5).2 x.last∧x.last.length=(sv 6).2)∧J3 (A6t C7 100) S w (sv 7).1 (sv 7).2 x.rows G1∧(Z0 .u64 (fun x=>.int .u32 x) w (sv 8).2 (x.cells:List (Int×Int)))∧S3 N0 S w (sv 9).1 x.bells G2∧True
theorem A9a{S S':Nat→Prop}{w w':World}{b:Nat}{x:C3}{sv:SV}{F:List Nat}(h:A2s S w b x sv F)(hk:Mv S w S' w')(hb:∀b∈F,w'.heap[b]? =w.heap[b]?):A2s S' w' b x sv F:=by
  obtain ⟨G0,G1,G2,a,h0,h1,h2,h3,h4,_⟩:=h;exact ⟨G0,G1,G2,a,J3.keep h0 hk (fun c hc=>hb c (a▸List.mem_append_left _ hc)),⟨Row.keep h1.1 hk (fun c hc=>hb c (a▸List.mem_append_right _ (List.mem_append_left _ hc))),h1.2⟩,J3.keep h2 hk (fun c hc=>hb c (a▸List.mem_append_right _ (List.mem_append_right _ (List.mem_append_left _ hc)))),Z0.keep h3 (hb _ (a▸List.mem_append_right _ (List.mem_append_right _ (List.mem_append_right _ (List.mem_append_left _ (List.mem_singleton.2 rfl)))))),S3.keep h4 hk (fun c hc=>hb c (a▸List.mem_append_right _ (List.mem_append_right _ (List.mem_append_right _ (List.mem_append_right _ (List.mem_append_left _ hc)))))),trivial⟩
theorem A9b{S:Nat→Prop}{w:World}{b:Nat}{x:C3}{sv:SV}{F:List Nat}(h:A2s S w b x sv F):∀b∈F,b<w.heap.size∧∀q,w.heap[b]? ≠some (.deferred q):=by
  obtain ⟨G0,G1,G2,a,h0,h1,h2,h3,h4,_⟩:=h;intro c hc;rw [a] at hc;rcases List.mem_append.1 hc with hc | hc
  · exact J3.nd h0 c hc
  rcases List.mem_append.1 hc with hc | hc
  · exact h1.1.ndl c hc
  rcases List.mem_append.1 hc with hc | hc
  · exact J3.nd h2 c hc
  rcases List.mem_append.1 hc with hc | hc
  · rw [List.mem_singleton.1 hc];exact Z0.nd h3
  rcases List.mem_append.1 hc with hc | hc
  · exact h4.nd c hc
  cases hc
def C5:Lk C3:=⟨C4,97,A2s,fun h hk hb=>A9a h hk hb,fun h=>A9b h⟩
inductive V0 where
  | f108
  | f109
  deriving Inhabited,DecidableEq
def B14(x:V0):Nat:=match x with
  | .f108=>108
  | .f109=>109
def B7h(x:V0)(sv:SV):Array Value:=match x with
  | .f108=> #[]
  | .f109=> #[]
def A4f(x:V0)(sv:SV):Value:=.func (.func (B14 x)) #[] (B7h x sv)
def B4g(S:Nat→Prop)(w:World)(x:V0)(sv:SV):Prop:=match x with
  | .f108=>True
  | .f109=>True
theorem fnk188{S S':Nat→Prop}{w w':World}{x:V0}{sv:SV}(h:B4g S w x sv)(hk:∀b,S b→IsC w b→S' b∧w'.heap[b]? =w.heap[b]?):B4g S' w' x sv:=by
  cases x with
  | f108=>exact trivial
  | f109=>exact trivial
def A31:Kd V0:=⟨1,fun x sv=>[A4f x sv],fun S w x sv=>B4g S w x sv,fun _ _=>rfl,Nat.one_pos,fun h hk=>fnk188 h hk⟩
inductive P3 where
  | f112
  | f113
  | f115
  | f116
  | f117
  | f119
  | f121
  deriving Inhabited,DecidableEq
def B15(x:P3):Nat:=match x with
  | .f112=>112
  | .f113=>113
  | .f115=>115
  | .f116=>116
  | .f117=>117
  | .f119=>119
  | .f121=>121
def B7i(x:P3)(sv:SV):Array Value:=match x with
  | .f112=> #[]
  | .f113=> #[]
  | .f115=> #[]
  | .f116=> #[]
  | .f117=> #[]
  | .f119=> #[]
  | .f121=> #[]
def B2a(x:P3)(sv:SV):Value:=.func (.func (B15 x)) #[] (B7i x sv)
def B4h(S:Nat→Prop)(w:World)(x:P3)(sv:SV):Prop:=match x with
  | .f112=>True
  | .f113=>True
  | .f115=>True
  | .f116=>True
  | .f117=>True
  | .f119=>True
  | .f121=>True
theorem fnk190{S S':Nat→Prop}{w w':World}{x:P3}{sv:SV}(h:B4h S w x sv)(hk:∀b,S b→IsC w b→S' b∧w'.heap[b]? =w.heap[b]?):B4h S' w' x sv:=by
  cases x with
  | f112=>exact trivial
  | f113=>exact trivial
  | f115=>exact trivial
  | f116=>exact trivial
  | f117=>exact trivial
  | f119=>exact trivial
  | f121=>exact trivial
def A2h:Kd P3:=⟨1,fun x sv=>[B2a x sv],fun S w x sv=>B4h S w x sv,fun _ _=>rfl,Nat.one_pos,fun h hk=>fnk190 h hk⟩
inductive X0 where
  | f126
  | f127
  deriving Inhabited,DecidableEq
def B17(x:X0):Nat:=match x with
  | .f126=>126
  | .f127=>127
def B7k(x:X0)(sv:SV):Array Value:=match x with
  | .f126=> #[]
  | .f127=> #[]
def B2b(x:X0)(sv:SV):Value:=.func (.func (B17 x)) #[] (B7k x sv)
def B4j(S:Nat→Prop)(w:World)(x:X0)(sv:SV):Prop:=match x with
  | .f126=>True
  | .f127=>True
theorem fnk194{S S':Nat→Prop}{w w':World}{x:X0}{sv:SV}(h:B4j S w x sv)(hk:∀b,S b→IsC w b→S' b∧w'.heap[b]? =w.heap[b]?):B4j S' w' x sv:=by
  cases x with
  | f126=>exact trivial
  | f127=>exact trivial
def A4g:Kd X0:=⟨1,fun x sv=>[B2b x sv],fun S w x sv=>B4j S w x sv,fun _ _=>rfl,Nat.one_pos,fun h hk=>fnk194 h hk⟩
inductive A0v where
  | f138 (c0:X0)
  | f123
  | f124
  | f128
  deriving Inhabited,DecidableEq
def B5u(x:A0v):Nat:=match x with
  | .f138 _=>138
  | .f123=>123
  | .f124=>124
  | .f128=>128
def fca81(x:A0v)(sv:SV):Array Value:=match x with
  | .f138 _=> #[.pointer (some (adr (sv 0).1))]
  | .f123=> #[]
  | .f124=> #[]
  | .f128=> #[]
def B07(x:A0v)(sv:SV):Value:=.func (.func (B5u x)) #[] (fca81 x sv)
def B7p(S:Nat→Prop)(w:World)(x:A0v)(sv:SV):Prop:=match x with
  | .f138 c0=>El A4g S w (adr (sv 0).1) c0 (svO sv 1)
  | .f123=>True
  | .f124=>True
  | .f128=>True
theorem fnk81{S S':Nat→Prop}{w w':World}{x:A0v}{sv:SV}(h:B7p S w x sv)(hk:∀b,S b→IsC w b→S' b∧w'.heap[b]? =w.heap[b]?):B7p S' w' x sv:=by
  cases x with
  | f138 c0=>exact El.keep h hk
  | f123=>exact trivial
  | f124=>exact trivial
  | f128=>exact trivial
def A6y:Kd A0v:=⟨1,fun x sv=>[B07 x sv],fun S w x sv=>B7p S w x sv,fun _ _=>rfl,Nat.one_pos,fun h hk=>fnk81 h hk⟩
inductive A1o where
  | f132 (c0:V0)
  | f134 (c0:P3)
  | f137 (c0:A0v)
  | f105
  | f110
  | f129
  deriving Inhabited,DecidableEq
def B29(x:A1o):Nat:=match x with
  | .f132 _=>132
  | .f134 _=>134
  | .f137 _=>137
  | .f105=>105
  | .f110=>110
  | .f129=>129
def B7m(x:A1o)(sv:SV):Array Value:=match x with
  | .f132 _=> #[.pointer (some (adr (sv 0).1))]
  | .f134 _=> #[.pointer (some (adr (sv 0).1))]
  | .f137 _=> #[.pointer (some (adr (sv 0).1))]
  | .f105=> #[]
  | .f110=> #[]
  | .f129=> #[]
def A3i(x:A1o)(sv:SV):Value:=.func (.func (B29 x)) #[] (B7m x sv)
def B5x(S:Nat→Prop)(w:World)(x:A1o)(sv:SV):Prop:=match x with
  | .f132 c0=>El A31 S w (adr (sv 0).1) c0 (svO sv 1)
  | .f134 c0=>El A2h S w (adr (sv 0).1) c0 (svO sv 1)
  | .f137 c0=>El A6y S w (adr (sv 0).1) c0 (svO sv 1)
  | .f105=>True
  | .f110=>True
  | .f129=>True
theorem fnk37{S S':Nat→Prop}{w w':World}{x:A1o}{sv:SV}(h:B5x S w x sv)(hk:∀b,S b→IsC w b→S' b∧w'.heap[b]? =w.heap[b]?):B5x S' w' x sv:=by
  cases x with
  | f132 c0=>exact El.keep h hk
  | f134 c0=>exact El.keep h hk
  | f137 c0=>exact El.keep h hk
  | f105=>exact trivial
  | f110=>exact trivial
  | f129=>exact trivial
def B71:Kd A1o:=⟨1,fun x sv=>[A3i x sv],fun S w x sv=>B5x S w x sv,fun _ _=>rfl,Nat.one_pos,fun h hk=>fnk37 h hk⟩
structure H8 where
  holds:A1o
  deriving Inhabited,DecidableEq
def J1:Kd H8:=⟨1,fun x sv=>[(A3i x.holds sv)],fun S w x sv=>(B5x S w x.holds sv)∧True,fun _ _=>rfl,Nat.le_of_ble_eq_true rfl,fun h hk=>⟨fnk37 h.1 hk,trivial⟩⟩
inductive A0g where
  | f136 (c0:P3) (c1:C2)
  deriving Inhabited,DecidableEq
def B16(x:A0g):Nat:=match x with
  | .f136 _ _=>136
def B7j(x:A0g)(sv:SV):Array Value:=match x with
  | .f136 _ _=> #[.pointer (some (adr (sv 0).1)),.pointer (some (adr (sv 1).1))]
def A68(x:A0g)(sv:SV):Value:=.func (.func (B16 x)) #[] (B7j x sv)
def B4i(S:Nat→Prop)(w:World)(x:A0g)(sv:SV):Prop:=match x with
  | .f136 c0 c1=>El A2h S w (adr (sv 0).1) c0 (svO sv 1)∧El B5 S w (adr (sv 1).1) c1 (svO sv 2)
theorem fnk191{S S':Nat→Prop}{w w':World}{x:A0g}{sv:SV}(h:B4i S w x sv)(hk:∀b,S b→IsC w b→S' b∧w'.heap[b]? =w.heap[b]?):B4i S' w' x sv:=by
  cases x with
  | f136 c0 c1=>exact ⟨El.keep h.1 hk,El.keep h.2 hk⟩
def B2e:Kd A0g:=⟨1,fun x sv=>[A68 x sv],fun S w x sv=>B4i S w x sv,fun _ _=>rfl,Nat.one_pos,fun h hk=>fnk191 h hk⟩
inductive Y8 where
  | f140 (c0:X0) (c1:C2) (c2:Int)
  | f143 (c0:Int)
  deriving Inhabited,DecidableEq
def B18(x:Y8):Nat:=match x with
  | .f140 _ _ _=>140
  | .f143 _=>143
def B7l(x:Y8)(sv:SV):Array Value:=match x with
  | .f140 _ _ _=> #[.pointer (some (adr (sv 0).1)),.pointer (some (adr (sv 1).1)),.pointer (some (adr (sv 6).1))]
  | .f143 _=> #[.pointer (some (adr (sv 0).1))]
def A69(x:Y8)(sv:SV):Value:=.func (.func (B18 x)) #[] (B7l x sv)
def B4k(S:Nat→Prop)(w:World)(x:Y8)(sv:SV):Prop:=match x with
  | .f140 c0 c1 c2=>El A4g S w (adr (sv 0).1) c0 (svO sv 1)∧El B5 S w (adr (sv 1).1) c1 (svO sv 2)∧El (Kd.int .i64) S w (adr (sv 6).1) c2 (svO sv 7)
  | .f143 c0=>El (Kd.int .i64) S w (adr (sv 0).1) c0 (svO sv 1)
theorem fnk200{S S':Nat→Prop}{w w':World}{x:Y8}{sv:SV}(h:B4k S w x sv)(hk:∀b,S b→IsC w b→S' b∧w'.heap[b]? =w.heap[b]?):B4k S' w' x sv:=by
  cases x with
  | f140 c0 c1 c2=>exact ⟨El.keep h.1 hk,El.keep h.2.1 hk,El.keep h.2.2 hk⟩
  | f143 c0=>exact El.keep h hk
def A91:Kd Y8:=⟨1,fun x sv=>[A69 x sv],fun S w x sv=>B4k S w x sv,fun _ _=>rfl,Nat.one_pos,fun h hk=>fnk200 h hk⟩
structure B2w where
  e0:ByteArray
  e1:ByteArray
  e2:ByteArray
  e3:ByteArray
  e4:ByteArray
  e5:ByteArray
  e6:ByteArray
  e7:ByteArray
  e8:ByteArray
  e9:ByteArray
  deriving Inhabited,DecidableEq
def Z1:Kd B2w:=⟨10,fun x sv=>[.string x.e0,.string x.e1,.string x.e2,.string x.e3,.string x.e4,.string x.e5,.string x.e6,.string x.e7,.string x.e8,.string x.e9],fun S w x sv=>True,fun _ _=>rfl,Nat.le_of_ble_eq_true rfl,fun h hk=>trivial⟩
def A6o(x:B2w)(i:Int):ByteArray:=if i=0 then x.e0 else if i=1 then x.e1 else if i=2 then x.e2 else if i=3 then x.e3 else if i=4 then x.e4 else if i=5 then x.e5 else if i=6 then x.e6 else if i=7 then x.e7 else if i=8 then x.e8 else x.e9
theorem B6k{S:Nat→Prop}{w:World}{B:Addr}{x:B2w}{sv:SV}(h:El Z1 S w B x sv){i:Int}(hi:inb i 10=true):El Kd.str S w (B.add (i.toNat*1)) (A6o x i) (svO sv (i.toNat*0)):=by
  obtain ⟨h0,h1⟩:=A0s hi;have:i=0∨i=1∨i=2∨i=3∨i=4∨i=5∨i=6∨i=7∨i=8∨i=9:=by omega
  rcases this with rfl | rfl | rfl | rfl | rfl | rfl | rfl | rfl | rfl | rfl
  · exact El.part h (0*1) x.e0 (svO sv (0*0)) trivial rfl
  · exact El.part h (1*1) x.e1 (svO sv (1*0)) trivial rfl
  · exact El.part h (2*1) x.e2 (svO sv (2*0)) trivial rfl
  · exact El.part h (3*1) x.e3 (svO sv (3*0)) trivial rfl
  · exact El.part h (4*1) x.e4 (svO sv (4*0)) trivial rfl
  · exact El.part h (5*1) x.e5 (svO sv (5*0)) trivial rfl
  · exact El.part h (6*1) x.e6 (svO sv (6*0)) trivial rfl
  · exact El.part h (7*1) x.e7 (svO sv (7*0)) trivial rfl
  · exact El.part h (8*1) x.e8 (svO sv (8*0)) trivial rfl
  · exact El.part h (9*1) x.e9 (svO sv (9*0)) trivial rfl
structure E8 where
  z9:M1
  c:C2
  s:D1
  channel:Q8
  source:Bool
  own:Bool
  deriving Inhabited,DecidableEq
def D5:Kd E8:=⟨23,fun x sv=>[.int .i64 x.z9.Op,.int .i64 x.z9.u5,.int .u64 x.z9.ke,.slice (sv 0).1 x.z9.u9.length (sv 0).2,.slice (sv 1).1 x.c.r8.length (sv 1).2,.slice (sv 2).1 x.c.r6.length (sv 2).2,.int .i64 x.c.r7.e0.z5,.slice (sv 3).1 x.c.r7.e0.r9.length (sv 3).2,.int .i64 x.c.r7.e1.z5,.slice (sv 4).1 x.c.r7.e1.r9.length (sv 4).2,.int .i64 x.s.u3,.bool x.s.z7,.slice (sv 5).1 x.s.en.length (sv 5).2,.slice (sv 6).1 x.s.u7.length (sv 6).2,.int .i64 x.channel.u6,.int .i64 x.channel.ko,.int .i64 x.channel.To,.int .i64 x.channel.kr,.int .i64 x.channel.z8,.int .i64 x.channel.kf,.int .u32 x.channel.qo,.bool x.source,.bool x.own],fun S w x sv=>(Arr (Kd.int .u32) S w (sv 0).1 x.z9.u9∧x.z9.u9.length≤(sv 0).2)∧(Arr O0 S w (sv 1).1 x.c.r8∧x.c.r8.length≤(sv 1).2)∧(Arr G5 S w (sv 2).1 x.c.r6∧x.c.r6.length≤(sv 2).2)∧(Arr D9 S w (sv 3).1 x.c.r7.e0.r9∧x.c.r7.e0.r9.length≤(sv 3).2)∧(Arr D9 S w (sv 4).1 x.c.r7.e1.r9∧x.c.r7.e1.r9.length≤(sv 4).2)∧(Arr (Kd.int .i64) S w (sv 5).1 x.s.en∧x.s.en.length≤(sv 5).2)∧(Arr (Kd.int .i64) S w (sv 6).1 x.s.u7∧x.s.u7.length≤(sv 6).2)∧True,fun _ _=>rfl,Nat.le_of_ble_eq_true rfl,fun h hk=>⟨⟨h.1.1.keep hk,h.1.2⟩,⟨h.2.1.1.keep hk,h.2.1.2⟩,⟨h.2.2.1.1.keep hk,h.2.2.1.2⟩,⟨h.2.2.2.1.1.keep hk,h.2.2.2.1.2⟩,⟨h.2.2.2.2.1.1.keep hk,h.2.2.2.2.1.2⟩,⟨h.2.2.2.2.2.1.1.keep hk,h.2.2.2.2.2.1.2⟩,⟨h.2.2.2.2.2.2.1.1.keep hk,h.2.2.2.2.2.2.1.2⟩,trivial⟩⟩
inductive L3 where
  | f79 (c0:Int) (c1:Bool)
  | f81
  | f82
  | f83
  | f84
  | f85
  | f86
  | f87
  | f88
  | f89
  deriving Inhabited,DecidableEq
def B13(x:L3):Nat:=match x with
  | .f79 _ _=>79
  | .f81=>81
  | .f82=>82
  | .f83=>83
  | .f84=>84
  | .f85=>85
  | .f86=>86
  | .f87=>87
  | .f88=>88
  | .f89=>89
def B7g(x:L3)(sv:SV):Array Value:=match x with
  | .f79 _ _=> #[.pointer (some (adr (sv 0).1)),.pointer (some (adr (sv 1).1))]
  | .f81=> #[]
  | .f82=> #[]
  | .f83=> #[]
  | .f84=> #[]
  | .f85=> #[]
  | .f86=> #[]
  | .f87=> #[]
  | .f88=> #[]
  | .f89=> #[]
def A1q(x:L3)(sv:SV):Value:=.func (.func (B13 x)) #[] (B7g x sv)
def B19(S:Nat→Prop)(w:World)(x:L3)(sv:SV):Prop:=match x with
  | .f79 c0 c1=>El (Kd.int .i64) S w (adr (sv 0).1) c0 (svO sv 1)∧El Kd.bool S w (adr (sv 1).1) c1 (svO sv 2)
  | .f81=>True
  | .f82=>True
  | .f83=>True
  | .f84=>True
  | .f85=>True
  | .f86=>True
  | .f87=>True
  | .f88=>True
  | .f89=>True
theorem B7q{S S':Nat→Prop}{w w':World}{x:L3}{sv:SV}(h:B19 S w x sv)(hk:∀b,S b→IsC w b→S' b∧w'.heap[b]? =w.heap[b]?):B19 S' w' x sv:=by
  cases x with
  | f79 c0 c1=>exact ⟨El.keep h.1 hk,El.keep h.2 hk⟩
  | f81=>exact trivial
  | f82=>exact trivial
  | f83=>exact trivial
  | f84=>exact trivial
  | f85=>exact trivial
  | f86=>exact trivial
  | f87=>exact trivial
  | f88=>exact trivial
  | f89=>exact trivial
def B70:Kd L3:=⟨1,fun x sv=>[A1q x sv],fun S w x sv=>B19 S w x sv,fun _ _=>rfl,Nat.one_pos,fun h hk=>B7q h hk⟩
structure S4 where
  ko:Int
  qn:Int
  deriving Inhabited,DecidableEq
def P0:Kd S4:=⟨2,fun x sv=>[.int .i64 x.ko,.int .i64 x.qn],fun S w x sv=>True,fun _ _=>rfl,Nat.le_of_ble_eq_true rfl,fun h hk=>trivial⟩
theorem A5w(x:S4)(sv:SV)(u:Value)(hu:u∈P0.cells x sv):u.oneCell'=true:=by
  simp only [P0,List.mem_cons,List.not_mem_nil,or_false] at hu;rcases hu with rfl | rfl
  all_goals rfl
structure Q3 where
  parts:Int
  l:(List S4)
  end_:Int
  deriving Inhabited,DecidableEq
def Y1:Kd Q3:=⟨3,fun x sv=>[.int .i64 x.parts,.slice (sv 0).1 x.l.length (sv 0).2,.int .i64 x.end_],fun S w x sv=>(Arr P0 S w (sv 0).1 x.l∧x.l.length≤(sv 0).2)∧True,fun _ _=>rfl,Nat.le_of_ble_eq_true rfl,fun h hk=>⟨⟨h.1.1.keep hk,h.1.2⟩,trivial⟩⟩
structure F1 where
  ops:ByteArray
  holds:L3
  code:Int
  deriving Inhabited,DecidableEq
def A2m:Kd F1:=⟨3,fun x sv=>[.string x.ops,(A1q x.holds sv),.int .i64 x.code],fun S w x sv=>(B19 S w x.holds sv)∧True,fun _ _=>rfl,Nat.le_of_ble_eq_true rfl,fun h hk=>⟨B7q h.1 hk,trivial⟩⟩
structure C9 where
  X:I8
  A:E7
  qb:Int
  qf:Int
  deriving Inhabited,DecidableEq
def E5:Kd C9:=⟨26,fun x sv=>[.int .i64 x.X.u3,.int .i64 x.X.u4.Op,.int .i64 x.X.u4.u5,.int .u64 x.X.u4.ke,.slice (sv 0).1 x.X.u4.u9.length (sv 0).2,.int .i64 x.X.qi.z6,.slice (sv 1).1 x.X.qi.u9.length (sv 1).2,.bool x.X.qi.u7,.int .i64 x.X.qi.qd,.bool x.X.kz,.int .i64 x.X.ko,.int .i64 x.X.To,.int .i64 x.X.T0,.int .i64 x.X.T1,.int .i64 x.X.Own0,.int .i64 x.X.Own1,.int .i64 x.X.qj,.int .i64 x.X.qe,.int .i64 x.X.qc,.int .i64 x.X.Saw,.int .i64 x.A.z6,.slice (sv 2).1 x.A.u9.length (sv 2).2,.bool x.A.u7,.int .i64 x.A.qd,.int .i64 x.qb,.int .i64 x.qf],fun S w x sv=>(Arr (Kd.int .u32) S w (sv 0).1 x.X.u4.u9∧x.X.u4.u9.length≤(sv 0).2)∧(Arr (Kd.int .u32) S w (sv 1).1 x.X.qi.u9∧x.X.qi.u9.length≤(sv 1).2)∧(Arr (Kd.int .u32) S w (sv 2).1 x.A.u9∧x.A.u9.length≤(sv 2).2)∧True,fun _ _=>rfl,Nat.le_of_ble_eq_true rfl,fun h hk=>⟨⟨h.1.1.keep hk,h.1.2⟩,⟨h.2.1.1.keep hk,h.2.1.2⟩,⟨h.2.2.1.1.keep hk,h.2.2.1.2⟩,trivial⟩⟩
theorem Y4(x:C9)(sv:SV)(u:Value)(hu:u∈E5.cells x sv):u.oneCell'=true:=by
  simp only [E5,List.mem_cons,List.not_mem_nil,or_false] at hu;rcases hu with rfl | rfl | rfl | rfl | rfl | rfl | rfl | rfl | rfl | rfl | rfl | rfl | rfl | rfl | rfl | rfl | rfl | rfl | rfl | rfl | rfl | rfl | rfl | rfl | rfl | rfl
  all_goals rfl
structure U8 where
  qm:Int
  u3:Int
  ql:Bool
  Is:Bool
  deriving Inhabited,DecidableEq
def T8:Kd U8:=⟨4,fun x sv=>[.int .i64 x.qm,.int .i64 x.u3,.bool x.ql,.bool x.Is],fun S w x sv=>True,fun _ _=>rfl,Nat.le_of_ble_eq_true rfl,fun h hk=>trivial⟩
structure N2 where
  C:C2
  qg:(List I8)
  qa:(List J4)
  deriving Inhabited,DecidableEq
def J8:Kd N2:=⟨8,fun x sv=>[.slice (sv 0).1 x.C.r8.length (sv 0).2,.slice (sv 1).1 x.C.r6.length (sv 1).2,.int .i64 x.C.r7.e0.z5,.slice (sv 2).1 x.C.r7.e0.r9.length (sv 2).2,.int .i64 x.C.r7.e1.z5,.slice (sv 3).1 x.C.r7.e1.r9.length (sv 3).2,.slice (sv 4).1 x.qg.length (sv 4).2,.slice (sv 5).1 x.qa.length (sv 5).2],fun S w x sv=>(Arr O0 S w (sv 0).1 x.C.r8∧x.C.r8.length≤(sv 0).2)∧(Arr G5 S w (sv 1).1 x.C.r6∧x.C.r6.length≤(sv 1).2)∧(Arr D9 S w (sv 2).1 x.C.r7.e0.r9∧x.C.r7.e0.r9.length≤(sv 2).2)∧(Arr D9 S w (sv 3).1 x.C.r7.e1.r9∧x.C.r7.e1.r9.length≤(sv 3).2)∧(Arr F3 S w (sv 4).1 x.qg∧x.qg.length≤(sv 4).2)∧(Arr W8 S w (sv 5).1 x.qa∧x.qa.length≤(sv 5).2)∧True,fun _ _=>rfl,Nat.le_of_ble_eq_true rfl,fun h hk=>⟨⟨h.1.1.keep hk,h.1.2⟩,⟨h.2.1.1.keep hk,h.2.1.2⟩,⟨h.2.2.1.1.keep hk,h.2.2.1.2⟩,⟨h.2.2.2.1.1.keep hk,h.2.2.2.1.2⟩,⟨h.2.2.2.2.1.1.keep hk,h.2.2.2.2.1.2⟩,⟨h.2.2.2.2.2.1.1.keep hk,h.2.2.2.2.2.1.2⟩,trivial⟩⟩
def gv0:A0z:=(⟨(-1),(-1)⟩:A0z)
def gv1:B2w:=(⟨(⟨#[]⟩:ByteArray),(⟨#[99,114,101,97,116,101]⟩:ByteArray),(⟨#[110,111,114,109,97,108]⟩:ByteArray),(⟨#[119,114,105,116,101]⟩:ByteArray),(⟨#[114,101,97,100]⟩:ByteArray),(⟨#[115,101,110,100]⟩:ByteArray),(⟨#[114,101,99,101,105,118,101]⟩:ByteArray),(⟨#[115,116,97,116,117,115]⟩:ByteArray),(⟨#[112,101,101,107]⟩:ByteArray),(⟨#[112,111,107,101]⟩:ByteArray)⟩:B2w)
def B6h(x:S9):Prop:=(InK .i64) x.kt∧(InK .i64) x.ka
theorem B9j:Opn Tryz.prog 78 O0 B6h:=by
  refine ⟨by kernel_rfl,fun h=>?_⟩;obtain ⟨xs,m,_,_,hlen,hxs,hf⟩:=DataW.trod_struct Tryz.underlying78 h;obtain ⟨v0,s0,c0,k0,w0⟩:=F2 hf hxs 0 _ rfl (Opn.int Tryz.underlying3 (by kernel_rfl));obtain ⟨v1,s1,c1,k1,w1⟩:=F2 hf hxs 1 _ rfl (Opn.int Tryz.underlying3 (by kernel_rfl));exact ⟨⟨v0,v1⟩,svL [],(Y7 [1,1] hlen (by kernel_rfl)).trans (W6 c0 (W6 c1 rfl)),trivial,⟨w0,w1⟩⟩
def B6f(x:Q8):Prop:=(InK .i64) x.u6∧(InK .i64) x.ko∧(InK .i64) x.To∧(InK .i64) x.kr∧(InK .i64) x.z8∧(InK .i64) x.kf∧(InK .u32) x.qo
theorem B9h:Opn Tryz.prog 89 G5 B6f:=by
  refine ⟨by kernel_rfl,fun h=>?_⟩;obtain ⟨xs,m,_,_,hlen,hxs,hf⟩:=DataW.trod_struct Tryz.underlying89 h;obtain ⟨v0,s0,c0,k0,w0⟩:=F2 hf hxs 0 _ rfl (Opn.int Tryz.underlying3 (by kernel_rfl));obtain ⟨v1,s1,c1,k1,w1⟩:=F2 hf hxs 1 _ rfl (Opn.int Tryz.underlying3 (by kernel_rfl));obtain ⟨v2,s2,c2,k2,w2⟩:=F2 hf hxs 2 _ rfl (Opn.int Tryz.underlying3 (by kernel_rfl));obtain ⟨v3,s3,c3,k3,w3⟩:=F2 hf hxs 3 _ rfl (Opn.int Tryz.underlying3 (by kernel_rfl));obtain ⟨v4,s4,c4,k4,w4⟩:=F2 hf hxs 4 _ rfl (Opn.int Tryz.underlying3 (by kernel_rfl));obtain ⟨v5,s5,c5,k5,w5⟩:=F2 hf hxs 5 _ rfl (Opn.int Tryz.underlying3 (by kernel_rfl));obtain ⟨v6,s6,c6,k6,w6⟩:=F2 hf hxs 6 _ rfl (Opn.int Tryz.underlying87 (by kernel_rfl));exact ⟨⟨v0,v1,v2,v3,v4,v5,v6⟩,svL [],(Y7 [1,1,1,1,1,1,1] hlen (by kernel_rfl)).trans (W6 c0 (W6 c1 (W6 c2 (W6 c3 (W6 c4 (W6 c5 (W6 c6 rfl))))))),trivial,⟨w0,w1,w2,w3,w4,w5,w6⟩⟩
def B1p(x:G4):Prop:=(InK .i64) x.u3∧(InK .i64) x.kn∧(InK .i64) x.qk
theorem B6t:Opn Tryz.prog 80 D9 B1p:=by
  refine ⟨by kernel_rfl,fun h=>?_⟩;obtain ⟨xs,m,_,_,hlen,hxs,hf⟩:=DataW.trod_struct Tryz.underlying80 h;obtain ⟨v0,s0,c0,k0,w0⟩:=F2 hf hxs 0 _ rfl (Opn.int Tryz.underlying3 (by kernel_rfl));obtain ⟨v1,s1,c1,k1,w1⟩:=F2 hf hxs 1 _ rfl (Opn.int Tryz.underlying3 (by kernel_rfl));obtain ⟨v2,s2,c2,k2,w2⟩:=F2 hf hxs 2 _ rfl (Opn.int Tryz.underlying3 (by kernel_rfl));exact ⟨⟨v0,v1,v2⟩,svL [],(Y7 [1,1,1] hlen (by kernel_rfl)).trans (W6 c0 (W6 c1 (W6 c2 rfl))),trivial,⟨w0,w1,w2⟩⟩
def B0q(x:A4k):Prop:=(InK .i64) x.z5∧(fun xs=>xs.length≤maxLen∧∀x∈xs,B1p x) x.r9
theorem B3p:Opn Tryz.prog 26 A92 B0q:=by
  refine ⟨by kernel_rfl,fun h=>?_⟩;obtain ⟨xs,m,_,_,hlen,hxs,hf⟩:=DataW.trod_struct Tryz.underlying26 h;obtain ⟨v0,s0,c0,k0,w0⟩:=F2 hf hxs 0 _ rfl (Opn.int Tryz.underlying3 (by kernel_rfl));obtain ⟨v1,s1,c1,k1,w1⟩:=F2 hf hxs 1 _ rfl (Opn.slice B6t Tryz.underlying24 (by kernel_rfl));exact ⟨⟨v0,v1⟩,svL [s1 0],(Y7 [1,1] hlen (by kernel_rfl)).trans (W6 c0 (W6 c1 rfl)),⟨k1,trivial⟩,⟨w0,w1⟩⟩
def B6i(x:B0t):Prop:=B0q x.e0∧B0q x.e1
theorem B9k:Opn Tryz.prog 27 A1c B6i:=by
  refine ⟨by kernel_rfl,fun h=>?_⟩;obtain ⟨xs,m,_,_,hlen,hxs,hf⟩:=DataW.trod_array Tryz.underlying27 h;obtain ⟨v0,s0,c0,k0,w0⟩:=B3q hf hxs 0 (by decide) B3p;obtain ⟨v1,s1,c1,k1,w1⟩:=B3q hf hxs 1 (by decide) B3p;exact ⟨⟨v0,v1⟩,svL [s0 0,s1 0],(Y7 [2,2] hlen (by kernel_rfl)).trans (W6 c0 (W6 c1 rfl)),⟨k0.1,k1.1,trivial⟩,⟨w0,w1⟩⟩
def A8t(x:C2):Prop:=(fun xs=>xs.length≤maxLen∧∀x∈xs,B6h x) x.r8∧(fun xs=>xs.length≤maxLen∧∀x∈xs,B6f x) x.r6∧B6i x.r7
theorem B6s:Opn Tryz.prog 29 B5 A8t:=by
  refine ⟨by kernel_rfl,fun h=>?_⟩;obtain ⟨xs,m,_,_,hlen,hxs,hf⟩:=DataW.trod_struct Tryz.underlying29 h;obtain ⟨v0,s0,c0,k0,w0⟩:=F2 hf hxs 0 _ rfl (Opn.slice B9j Tryz.underlying22 (by kernel_rfl));obtain ⟨v1,s1,c1,k1,w1⟩:=F2 hf hxs 1 _ rfl (Opn.slice B9h Tryz.underlying23 (by kernel_rfl));obtain ⟨v2,s2,c2,k2,w2⟩:=F2 hf hxs 2 _ rfl B9k;exact ⟨⟨v0,v1,v2⟩,svL [s0 0,s1 0,s2 0,s2 1],(Y7 [1,1,4] hlen (by kernel_rfl)).trans (W6 c0 (W6 c1 (W6 c2 rfl))),⟨k0,k1,k2.1,k2.2.1,trivial⟩,⟨w0,w1,w2⟩⟩
def B0r(x:M1):Prop:=(InK .i64) x.Op∧(InK .i64) x.u5∧(InK .u64) x.ke∧(fun xs=>xs.length≤maxLen∧∀x∈xs,(InK .u32) x) x.u9
theorem B46:Opn Tryz.prog 45 Q1 B0r:=by
  refine ⟨by kernel_rfl,fun h=>?_⟩;obtain ⟨xs,m,_,_,hlen,hxs,hf⟩:=DataW.trod_struct Tryz.underlying45 h;obtain ⟨v0,s0,c0,k0,w0⟩:=F2 hf hxs 0 _ rfl (Opn.int Tryz.underlying3 (by kernel_rfl));obtain ⟨v1,s1,c1,k1,w1⟩:=F2 hf hxs 1 _ rfl (Opn.int Tryz.underlying3 (by kernel_rfl));obtain ⟨v2,s2,c2,k2,w2⟩:=F2 hf hxs 2 _ rfl (Opn.int Tryz.underlying42 (by kernel_rfl));obtain ⟨v3,s3,c3,k3,w3⟩:=F2 hf hxs 3 _ rfl (Opn.slice (Opn.int Tryz.underlying87 (by kernel_rfl)) Tryz.underlying43 (by kernel_rfl));exact ⟨⟨v0,v1,v2,v3⟩,svL [s3 0],(Y7 [1,1,1,1] hlen (by kernel_rfl)).trans (W6 c0 (W6 c1 (W6 c2 (W6 c3 rfl)))),⟨k3,trivial⟩,⟨w0,w1,w2,w3⟩⟩
def B1o(x:E7):Prop:=(InK .i64) x.z6∧(fun xs=>xs.length≤maxLen∧∀x∈xs,(InK .u32) x) x.u9∧(fun _=>True) x.u7∧(InK .i64) x.qd
theorem B6r:Opn Tryz.prog 48 I7 B1o:=by
  refine ⟨by kernel_rfl,fun h=>?_⟩;obtain ⟨xs,m,_,_,hlen,hxs,hf⟩:=DataW.trod_struct Tryz.underlying48 h;obtain ⟨v0,s0,c0,k0,w0⟩:=F2 hf hxs 0 _ rfl (Opn.int Tryz.underlying46 (by kernel_rfl));obtain ⟨v1,s1,c1,k1,w1⟩:=F2 hf hxs 1 _ rfl (Opn.slice (Opn.int Tryz.underlying87 (by kernel_rfl)) Tryz.underlying43 (by kernel_rfl));obtain ⟨v2,s2,c2,k2,w2⟩:=F2 hf hxs 2 _ rfl (Opn.bool Tryz.underlying4 (by kernel_rfl));obtain ⟨v3,s3,c3,k3,w3⟩:=F2 hf hxs 3 _ rfl (Opn.int Tryz.underlying3 (by kernel_rfl));exact ⟨⟨v0,v1,v2,v3⟩,svL [s1 0],(Y7 [1,1,1,1] hlen (by kernel_rfl)).trans (W6 c0 (W6 c1 (W6 c2 (W6 c3 rfl)))),⟨k1,trivial⟩,⟨w0,w1,w2,w3⟩⟩
def B6e(x:I8):Prop:=(InK .i64) x.u3∧B0r x.u4∧B1o x.qi∧(fun _=>True) x.kz∧(InK .i64) x.ko∧(InK .i64) x.To∧(InK .i64) x.T0∧(InK .i64) x.T1∧(InK .i64) x.Own0∧(InK .i64) x.Own1∧(InK .i64) x.qj∧(InK .i64) x.qe∧(InK .i64) x.qc∧(InK .i64) x.Saw
theorem B9g:Opn Tryz.prog 50 F3 B6e:=by
  refine ⟨by kernel_rfl,fun h=>?_⟩;obtain ⟨xs,m,_,_,hlen,hxs,hf⟩:=DataW.trod_struct Tryz.underlying50 h;obtain ⟨v0,s0,c0,k0,w0⟩:=F2 hf hxs 0 _ rfl (Opn.int Tryz.underlying3 (by kernel_rfl));obtain ⟨v1,s1,c1,k1,w1⟩:=F2 hf hxs 1 _ rfl B46;obtain ⟨v2,s2,c2,k2,w2⟩:=F2 hf hxs 2 _ rfl B6r;obtain ⟨v3,s3,c3,k3,w3⟩:=F2 hf hxs 3 _ rfl (Opn.bool Tryz.underlying4 (by kernel_rfl));obtain ⟨v4,s4,c4,k4,w4⟩:=F2 hf hxs 4 _ rfl (Opn.int Tryz.underlying3 (by kernel_rfl));obtain ⟨v5,s5,c5,k5,w5⟩:=F2 hf hxs 5 _ rfl (Opn.int Tryz.underlying3 (by kernel_rfl));obtain ⟨v6,s6,c6,k6,w6⟩:=F2 hf hxs 6 _ rfl (Opn.int Tryz.underlying3 (by kernel_rfl));obtain ⟨v7,s7,c7,k7,w7⟩:=F2 hf hxs 7 _ rfl (Opn.int Tryz.underlying3 (by kernel_rfl));obtain ⟨v8,s8,c8,k8,w8⟩:=F2 hf hxs 8 _ rfl (Opn.int Tryz.underlying3 (by kernel_rfl));obtain ⟨v9,s9,c9,k9,w9⟩:=F2 hf hxs 9 _ rfl (Opn.int Tryz.underlying3 (by kernel_rfl));obtain ⟨v10,s10,c10,k10,w10⟩:=F2 hf hxs 10 _ rfl (Opn.int Tryz.underlying3 (by kernel_rfl));obtain ⟨v11,s11,c11,k11,w11⟩:=F2 hf hxs 11 _ rfl (Opn.int Tryz.underlying3 (by kernel_rfl));obtain ⟨v12,s12,c12,k12,w12⟩:=F2 hf hxs 12 _ rfl (Opn.int Tryz.underlying3 (by kernel_rfl));obtain ⟨v13,s13,c13,k13,w13⟩:=F2 hf hxs 13 _ rfl (Opn.int Tryz.underlying3 (by kernel_rfl));exact ⟨⟨v0,v1,v2,v3,v4,v5,v6,v7,v8,v9,v10,v11,v12,v13⟩,svL [s1 0,s2 0],(Y7 [1,4,4,1,1,1,1,1,1,1,1,1,1,1] hlen (by kernel_rfl)).trans (W6 c0 (W6 c1 (W6 c2 (W6 c3 (W6 c4 (W6 c5 (W6 c6 (W6 c7 (W6 c8 (W6 c9 (W6 c10 (W6 c11 (W6 c12 (W6 c13 rfl)))))))))))))),⟨k1.1,k2.1,trivial⟩,⟨w0,w1,w2,w3,w4,w5,w6,w7,w8,w9,w10,w11,w12,w13⟩⟩
def B0p(x:J4):Prop:=(InK .i64) x.u3∧(fun xs=>xs.length≤maxLen∧∀x∈xs,(InK .i64) x) x.qh∧(InK .i64) x.At∧(InK .i64) x.Tick∧(InK .i64) x.Own
theorem B45:Opn Tryz.prog 56 W8 B0p:=by
  refine ⟨by kernel_rfl,fun h=>?_⟩;obtain ⟨xs,m,_,_,hlen,hxs,hf⟩:=DataW.trod_struct Tryz.underlying56 h;obtain ⟨v0,s0,c0,k0,w0⟩:=F2 hf hxs 0 _ rfl (Opn.int Tryz.underlying3 (by kernel_rfl));obtain ⟨v1,s1,c1,k1,w1⟩:=F2 hf hxs 1 _ rfl (Opn.slice (Opn.int Tryz.underlying3 (by kernel_rfl)) Tryz.underlying54 (by kernel_rfl));obtain ⟨v2,s2,c2,k2,w2⟩:=F2 hf hxs 2 _ rfl (Opn.int Tryz.underlying3 (by kernel_rfl));obtain ⟨v3,s3,c3,k3,w3⟩:=F2 hf hxs 3 _ rfl (Opn.int Tryz.underlying3 (by kernel_rfl));obtain ⟨v4,s4,c4,k4,w4⟩:=F2 hf hxs 4 _ rfl (Opn.int Tryz.underlying3 (by kernel_rfl));exact ⟨⟨v0,v1,v2,v3,v4⟩,svL [s1 0],(Y7 [1,1,1,1,1] hlen (by kernel_rfl)).trans (W6 c0 (W6 c1 (W6 c2 (W6 c3 (W6 c4 rfl))))),⟨k1,trivial⟩,⟨w0,w1,w2,w3,w4⟩⟩
def B6g(x:F5):Prop:=(InK .i64) x.u6∧(InK .i64) x.Of
theorem B9i:Opn Tryz.prog 41 D0 B6g:=by
  refine ⟨by kernel_rfl,fun h=>?_⟩;obtain ⟨xs,m,_,_,hlen,hxs,hf⟩:=DataW.trod_struct Tryz.underlying41 h;obtain ⟨v0,s0,c0,k0,w0⟩:=F2 hf hxs 0 _ rfl (Opn.int Tryz.underlying3 (by kernel_rfl));obtain ⟨v1,s1,c1,k1,w1⟩:=F2 hf hxs 1 _ rfl (Opn.int Tryz.underlying3 (by kernel_rfl));exact ⟨⟨v0,v1⟩,svL [],(Y7 [1,1] hlen (by kernel_rfl)).trans (W6 c0 (W6 c1 rfl)),trivial,⟨w0,w1⟩⟩
def A1b(x:N2):Prop:=A8t x.C∧(fun xs=>xs.length≤maxLen∧∀x∈xs,B6e x) x.qg∧(fun xs=>xs.length≤maxLen∧∀x∈xs,B0p x) x.qa
theorem A5g:Opn Tryz.prog 33 J8 A1b:=by
  refine ⟨by kernel_rfl,fun h=>?_⟩;obtain ⟨xs,m,_,_,hlen,hxs,hf⟩:=DataW.trod_struct Tryz.underlying33 h;obtain ⟨v0,s0,c0,k0,w0⟩:=F2 hf hxs 0 _ rfl B6s;obtain ⟨v1,s1,c1,k1,w1⟩:=F2 hf hxs 1 _ rfl (Opn.slice B9g Tryz.underlying30 (by kernel_rfl));obtain ⟨v2,s2,c2,k2,w2⟩:=F2 hf hxs 2 _ rfl (Opn.slice B45 Tryz.underlying31 (by kernel_rfl));exact ⟨⟨v0,v1,v2⟩,svL [s0 0,s0 1,s0 2,s0 3,s1 0,s2 0],(Y7 [6,1,1] hlen (by kernel_rfl)).trans (W6 c0 (W6 c1 (W6 c2 rfl))),⟨k0.1,k0.2.1,k0.2.2.1,k0.2.2.2.1,k1,k2,trivial⟩,⟨w0,w1,w2⟩⟩
def A29(x y:F5):Bool:=(x.u6==y.u6&&(x.Of==y.Of&&(true)))
theorem B7f(d:Nat)(x y:F5)(w:World):(Op.equalIn (d+2) 41 (.agg ((D0).cells x (svL [])).toArray) (.agg ((D0).cells y (svL [])).toArray)).run Tryz.prog w=.ok (A29 x y) w:=
  B7d Tryz.underlying41 (by kernel_rfl) (A7r rfl (A2a (by kernel_rfl) rfl w) (A2a (by kernel_rfl) rfl w) (A9f Tryz.underlying3 _ _ (d+0) w) (A7r rfl (A2a (by kernel_rfl) rfl w) (A2a (by kernel_rfl) rfl w) (A9f Tryz.underlying3 _ _ (d+0) w) B5s))
def K0:Option (C2):=some (⟨([(⟨0,0⟩:S9),(⟨1,0⟩:S9)]:List S9),[],(⟨(⟨1,([(⟨0,0,1⟩:G4)]:List G4)⟩:A4k),(⟨1,([(⟨1,0,1⟩:G4)]:List G4)⟩:A4k)⟩:B0t)⟩:C2)
theorem K0.calls(w:World){S:Nat→Prop}(r:C2)(h:K0=some r):
    Calls Tryz.prog 13 #[] w fun e w'=>∃sv:SV,e=.returned (.agg ((B5).cells r sv).toArray)∧Below w.heap.size w w'∧(B5).cont (fun b=>w.heap.size≤b∨S b) w' r sv:=by
  unfold K0 at h;refine en_ Tryz.func13 (n:=17) (fun a c k f=>?_)
  let C:Value:=(.slice none 0 0)
  refine za k c (s_ [p_ 0 0 0] [([.v C,.v C,.v (iv 0),.v C,.v (iv 0),.v C],29)]) (fun D a G c=>?_);refine wpIn_seq (wpIn_region_lit (zl k 2 c [3,2,0] [e_ 3 (.agg #[iv 1,iv 0]),e_ 2 (.agg #[iv 0,iv 0])] [] (fun H a J c=>?_)));obtain ⟨f,l,o⟩:=Ep.rebase f c;replace c:=c.rebase;refine D6 (S0:=S) (d:=O0) (e:=78) k f c (C1 rfl) rfl (by kernel_rfl) (cs:=[iv 0,iv 0,iv 1,iv 0]) (by kernel_rfl) [(⟨0,0⟩:S9),(⟨1,0⟩:S9)] [(svL []),(svL [])] rfl rfl (by simp [maxLen]) (fun i x hi=>by cases i with | zero=>(simp only [List.getElem?_cons_zero,Option.some.injEq] at hi;subst hi;exact ⟨trivial,rfl⟩) | succ i=>(simp only [List.getElem?_cons_succ] at hi;cases i with | zero=>(simp only [List.getElem?_cons_zero,Option.some.injEq] at hi;subst hi;exact ⟨trivial,rfl⟩) | succ i=>(simp only [List.getElem?_cons_succ] at hi;simp at hi))) (fun _=>by kernel_rfl) (fun y a K t f c l o g=>?_)
  let L:Value:=(.slice y ([(⟨0,0⟩:S9),(⟨1,0⟩:S9)]:List S9).length (([(⟨0,0⟩:S9),(⟨1,0⟩:S9)]:List S9).length))
  refine zl k 3 c [1,0] [p_ 1 1 0] [(1,([.v L,.v C,.v (iv 0),.v C,.v (iv 0),.v C],29))] (fun M a N c=>?_);refine wpListIn_nil (B4 (wpIn_seq (wpIn_region_lit (zl k 1 c [6,1,0] [e_ 6 (.agg #[iv 0,iv 0,iv 1])] [] (fun O a P c=>?_)))));replace ⟨f,c,g⟩:=rz f c g;refine D6 (S0:=S) (d:=D9) (e:=80) k f c (C1 rfl) rfl (by kernel_rfl) (cs:=[iv 0,iv 0,iv 1]) (by kernel_rfl) [(⟨0,0,1⟩:G4)] [(svL [])] rfl rfl (by simp [maxLen]) (eq1 ⟨trivial,rfl⟩) (fun _=>by kernel_rfl) (fun u a Q t s c l o j=>?_);replace ⟨f,g⟩:=xz f s l o g
  let R:Value:=(.slice u ([(⟨0,0,1⟩:G4)]:List G4).length (([(⟨0,0,1⟩:G4)]:List G4).length))
  refine zl k 4 c [1,0] [] [(1,([.v L,.v C,.v (iv 1),.v R,.v (iv 0),.v C],29))] (fun T a U c=>?_);refine wpListIn_nil (B4 (wpIn_seq (wpIn_region_lit (zl k 1 c [11,1,0] [e_ 11 (.agg #[iv 1,iv 0,iv 1])] [] (fun V a W c=>?_)))));replace ⟨f,c,g,j⟩:=rz f c (t2 g j)
  let q:=(⟨1,0,1⟩:G4)
  refine A5m (S0:=S) (d:=D9) (e:=80) k f c (C1 rfl) rfl (by kernel_rfl) (cs:=[iv 1,iv 0,iv 1]) (by kernel_rfl) [q] [(svL [])] rfl rfl (by simp [maxLen]) (eq1 ⟨trivial,rfl⟩) (fun p=>(s_ [e_ 12 (.slice p ([q]:List G4).length (([q]:List G4).length)),e_ 11 (.agg #[iv 1,iv 0,iv 1]),p_ 1 1 0,p_ 0 0 0] [([.v C,.v C,.v (iv 0),.v C,.v (iv 0),.v C],29),([.v L,.v C,.v (iv 1),.v R,.v (iv 0),.v C],29)])) (fun p=>by kernel_rfl) (fun p a X t s c l o m=>?_);replace ⟨f,g,j⟩:=xz f s l o (t2 g j)
  let v:List EV:=[.v L,.v C,.v (iv 1),.v R,.v (iv 1),.v (.slice p ([(⟨1,0,1⟩:G4)]:List G4).length (([(⟨1,0,1⟩:G4)]:List G4).length))]
  refine zl k 4 c [1,0] [] [(1,(v,29))] (fun Y a Z c=>?_);refine wpListIn_nil (B4 (zc k c [0] [] [(0,(v,29))] (fun a0 a a1 c=>?_)));replace ⟨f,c,g,j,m⟩:=rz f c (t3 g j m);obtain ⟨f,l,g,z⟩:=Row.still (l1:=[]) (l2:=[rb u,rb p]) g (Nat.le_refl _) f;replace ⟨j,m⟩:=sz l (t2 j m);obtain ⟨f,l,j,A⟩:=Row.still (l1:=[]) (l2:=[rb p]) j (Nat.le_refl _) f;replace ⟨m,g⟩:=sz l (t2 m g);obtain ⟨f,l,m,B⟩:=Row.still (l1:=[]) (l2:=[]) m (Nat.le_refl _) f;replace ⟨g,j⟩:=sz l (t2 g j);refine wpIn_ret ?_;cases h;exact r2 c ⟨svL [(y,([(⟨0,0⟩:S9),(⟨1,0⟩:S9)]:List S9).length),(none,0),(u,([(⟨0,0,1⟩:G4)]:List G4).length),(p,([q]:List G4).length)],rfl,f.below c,⟨⟨Arr.keep g (f.out c),z⟩,⟨(Arr.nil _ _ _ _),(Nat.le_refl _)⟩,⟨Arr.keep j (f.out c),A⟩,⟨Arr.keep m (f.out c),B⟩,trivial⟩⟩
def W4(x0:M3)(x1:F5):Option (Bool):=(bif (x1.u6==3) then some (decide (x1.Of≥0)&&decide (x1.Of<(x0.bellings.length:Int))) else (bif (decide (x1.Of<0)||decide (x1.Of≥(x0.calls.length:Int))) then some false else (req (inb x1.Of x0.calls.length) (some (((x1.u6==1)&&((rd x0.calls x1.Of).kz||decide (((rd x0.calls x1.Of).qj)≥0)))||((x1.u6==2)&&decide (((rd x0.calls x1.Of).qe)≥0)))))))
theorem W4.calls(x0:M3)(x1:F5)(sv0:SV)(sv1:SV)(w:World){S:Nat→Prop}(hx0:(E3).cont S w x0 sv0)(hx1:(D0).cont S w x1 sv1)(r:Bool)(h:W4 x0 x1=some r):
    Calls Tryz.prog 31 #[.agg ((E3).cells x0 sv0).toArray,.agg ((D0).cells x1 sv1).toArray] w (Rv w (.bool r)):=by
  replace hx0:=Kd.lo _ hx0;replace hx1:=Kd.lo _ hx1;unfold W4 at h;refine en_ Tryz.func31 (n:=59) (fun a b c d=>?_);refine za c b (s_ [b_ 4 false,p_ 3 1 0,p_ 2 0 0] [((((E3).cells x0 sv0).map EV.v),59),((((D0).cells x1 sv1).map EV.v),41)]) (fun l a m b=>?_);refine wpIn_seq (zc c b [8,4,3,2] [b_ 8 (x1.u6==3)] [] (fun o a p b=>?_));refine cb b h (fun f h=>?_) (fun f h=>?_)
  ·refine zc c b [4] [b_ 4 (decide (x1.Of≥0)&&decide (x1.Of<(x0.bellings.length:Int)))] [] (fun q a s b=>?_);refine wpIn_ret (B6 ?_);cases h;exact r1 d b
  ·refine wpIn_skip (B4 (wpIn_seq (zc c b [30,4,3,2] [b_ 30 (decide (x1.Of<0)||decide (x1.Of≥(x0.calls.length:Int)))] [] (fun t a u b=>?_))));refine cb b h (fun g h=>?_) (fun g h=>?_)
   ·refine zc c b [4] [] [] (fun v a x b=>?_);refine wpIn_ret (B6 ?_);cases h;exact r1 d b
   ·refine wpIn_skip (B4 ?_);obtain ⟨e,h⟩:=C0 h;obtain ⟨i,j,k⟩:=eT hx0.1.1 e;refine zD c b [5,4,3] [p_ 5 2 0] [(2,((((F3).cells (rd x0.calls x1.Of) i).map EV.v),50))] (oI e (oA k (oW j oZ))) (fun y a z b=>?_);refine zc c b [4] [b_ 4 (((x1.u6==1)&&((rd x0.calls x1.Of).kz||decide (((rd x0.calls x1.Of).qj)≥0)))||((x1.u6==2)&&decide (((rd x0.calls x1.Of).qe)≥0)))] [] (fun A a B b=>?_);refine wpIn_ret ?_;cases h;exact r1 d b
def O3(x0:M3)(x1:F5):Option (A0z):=(bif ((decide (x1.Of<0)||((x1.u6==3)&&decide (x1.Of≥(x0.bellings.length:Int))))||((x1.u6 !=3)&&decide (x1.Of≥(x0.calls.length:Int)))) then some gv0 else (bif (x1.u6==3) then (req (inb x1.Of x0.bellings.length) (req (inb x1.Of x0.bellings.length) (some (⟨(rd x0.bellings x1.Of).At,(rd x0.bellings x1.Of).At⟩:A0z)))) else (req (inb x1.Of x0.calls.length) (bif ((x1.u6==2)&&decide (((rd x0.calls x1.Of).qe)≥0)) then some (⟨(rd x0.calls x1.Of).qe,(rd x0.calls x1.Of).qe⟩:A0z) else (bif ((x1.u6==1)&&(rd x0.calls x1.Of).kz) then some (⟨(rd x0.calls x1.Of).ko,(rd x0.calls x1.Of).To⟩:A0z) else (bif ((x1.u6==1)&&decide (((rd x0.calls x1.Of).qj)≥0)) then some (⟨(rd x0.calls x1.Of).ko,9223372036854775807⟩:A0z) else some gv0))))))
theorem O3.calls(x0:M3)(x1:F5)(sv0:SV)(sv1:SV)(w:World){S:Nat→Prop}(hx0:(E3).cont S w x0 sv0)(hx1:(D0).cont S w x1 sv1)(hg0:El J7 S w ⟨0,0,none⟩ gv0 (svL []))(r:A0z)(h:O3 x0 x1=some r):
    Calls Tryz.prog 59 #[.agg ((E3).cells x0 sv0).toArray,.agg ((D0).cells x1 sv1).toArray] w (Rv w (.agg ((J7).cells r (svL [])).toArray)):=by
  replace hx0:=Kd.lo _ hx0;replace hx1:=Kd.lo _ hx1;replace hg0:=El.lo hg0;unfold O3 at h;refine en_ Tryz.func59 (n:=102) (fun a b c f=>?_);refine za c b (s_ [p_ 4 2 0,p_ 3 1 0,p_ 2 0 0] [((((E3).cells x0 sv0).map EV.v),59),((((D0).cells x1 sv1).map EV.v),41),([.v (iv 0),.v (iv 0)],126)]) (fun K a L b=>?_)
  let l:=(x0.bellings.length:Int)
  refine wpIn_seq (wpIn_block (zc c b [6,4,3,2] [b_ 6 ((decide (x1.Of<0)||((x1.u6==3)&&decide (x1.Of≥l)))||((x1.u6 !=3)&&decide (x1.Of≥(x0.calls.length:Int))))] [] (fun M a N b=>?_)))
  let m:=(((J7).cells gv0 (svL [])).map EV.v)
  refine cb b h (fun s h=>?_) (fun s h=>?_)
  ·refine zD c b [4] [] [(2,(m,126))] (oW hg0 oZ) (fun O a P b=>?_);refine wpIn_ret (B8 (B6 ?_));cases h;exact r2 b ⟨rfl,f.below b⟩
  ·refine zc c b [37,4,3,2] [b_ 37 (x1.u6==3)] [] (fun Q a R b=>?_);refine cb b h (fun t h=>?_) (fun t h=>?_)
   ·refine wpIn_seq ?_;replace b:=b.finD [37,4,3,2] (by kernel_rfl);obtain ⟨o,h⟩:=C0 h;obtain ⟨U,u,v⟩:=eT hx0.2.1.1 o;obtain ⟨p,h⟩:=C0 h;obtain ⟨V,x,y⟩:=eT hx0.2.1.1 p
    let d:=((rd x0.bellings x1.Of).At)
    let g:=((adr ((sv0 1).1)).add ((x1.Of:Int).toNat*5))
    let W:Value:=(.slice ((sv0 1).1) x0.bellings.length ((sv0 1).2))
    refine O9 b (by kernel_rfl) [.q 41 (.p 0 1) [],.q 42 (.v W) [],.q 43 (.p 1 1) [],.q 44 (.v (iv x1.Of)) [],.q 45 (.v (.pointer (some g))) [.need true ((0:Int)≤x1.Of∧x1.Of<l),.need true ((sv0 1).1=some (adr ((sv0 1).1)))],.q 46 (.v (.pointer (some (g.add 2)))) [],.q 47 (.v (iv d)) [.cell true (g.add 2) [iv d]],.q 48 (.p 0 1) [],.q 49 (.v W) [],.q 50 (.p 1 1) [],.q 51 (.v (iv x1.Of)) [],.q 52 (.v (.pointer (some g))) [.need true ((0:Int)≤x1.Of∧x1.Of<l),.need true ((sv0 1).1=some (adr ((sv0 1).1)))],.q 53 (.v (.pointer (some (g.add 2)))) [],.q 54 (.v (iv d)) [.cell true (g.add 2) [iv d]],.q 55 (.v (.agg #[iv d,iv d])) [],.no] (by kernel_rfl) (fun fuel listed X i j hu=>?_);refine P1 i c j hu 15 rfl [14] [e_ 55 (.agg #[iv d,iv d])] ⟨J2 (fun _=>o),v,N9 (fun _=>u) 2 [iv d] rfl,J2 (fun _=>p),y,N9 (fun _=>x) 2 [iv d] rfl,trivial⟩ [0,1,2,3,4,5,6,7,8,9,10,11,12,13,14] (fun fuel listed a Y i b z h1 A j hu=>?_);refine A2j c b z rfl rfl (k:=2) (cs:=[.v (iv d),.v (iv d)]) (T:=126) (by kernel_rfl) (by kernel_rfl) rfl (fun a Z B b=>?_);refine E9 i h1 A j hu B b [37,4,3,2] [] (fun i j hu=>?_);refine W7 i c j hu [4] (s_ [p_ 4 2 0] [((((E3).cells x0 sv0).map EV.v),59),((((D0).cells x1 sv1).map EV.v),41),([.v (iv d),.v (iv d)],126)]) (fun a a0 b=>?_);refine B4 (wpIn_ret (B8 (B6 ?_)));cases h;exact r2 b ⟨rfl,f.below b⟩
   ·refine wpIn_skip (B9 (B4 ?_));obtain ⟨q,h⟩:=C0 h;obtain ⟨a1,C,D⟩:=eT hx0.1.1 q
    let e:=(rd x0.calls x1.Of)
    refine zD c b [5,4,3] [p_ 5 3 0] [(3,((((F3).cells e a1).map EV.v),50))] (oI q (oA D (oW C oZ))) (fun a2 a a3 b=>?_);refine wpIn_seq (wpIn_block (zc c b [62,5,4,3] [b_ 62 ((x1.u6==2)&&decide ((e.qe)≥0))] [] (fun a4 a a5 b=>?_)));refine cb b h (fun G h=>?_) (fun G h=>?_)
    ·refine zc c b [4] [] [(2,([.v (iv (e.qe)),.v (iv (e.qe))],126))] (fun a6 a a7 b=>?_);refine wpIn_ret (B8 (B6 ?_));cases h;exact r2 b ⟨rfl,f.below b⟩
    ·refine zc c b [76,5,4,3] [b_ 76 ((x1.u6==1)&&e.kz)] [] (fun a8 a a9 b=>?_);refine cb b h (fun H h=>?_) (fun H h=>?_)
     ·refine zc c b [4] [] [(2,([.v (iv (e.ko)),.v (iv (e.To))],126))] (fun aa a ab b=>?_);refine wpIn_ret (B8 (B6 ?_));cases h;exact r2 b ⟨rfl,f.below b⟩
     ·refine zc c b [89,5,4] [b_ 89 ((x1.u6==1)&&decide ((e.qj)≥0))] [] (fun ac a ad b=>?_);refine cb b h (fun J h=>?_) (fun J h=>?_)
      ·refine zc c b [4] [] [(2,([.v (iv (e.ko)),.v (iv 9223372036854775807)],126))] (fun ae a af b=>?_);refine wpIn_ret (B8 (B6 ?_));cases h;exact r2 b ⟨rfl,f.below b⟩
      ·refine wpIn_skip (B9 (B4 (zD c b [4] [] [(2,(m,126))] (oW hg0 oZ) (fun ag a ah b=>?_))));refine wpIn_ret ?_;cases h;exact r2 b ⟨rfl,f.below b⟩
def R1(x0:M3)(x1:F5)(x2:F5):Option (Bool):=(bif (((x1.u6==1)&&(x2.u6==2))&&(x1.Of==x2.Of)) then some true else (req (imp (x1.u6==1) (inb x1.Of x0.calls.length)) (bif ((x1.u6==1)&&(!((rd x0.calls x1.Of).kz))) then some false else ((O3 x0 x1).bind fun a=>((O3 x0 x2).bind fun b=>some (decide (a.to_<b.from_)))))))
theorem R1.calls(x0:M3)(x1:F5)(x2:F5)(sv0:SV)(sv1:SV)(sv2:SV)(w:World){S:Nat→Prop}(hx0:(E3).cont S w x0 sv0)(hx1:(D0).cont S w x1 sv1)(hx2:(D0).cont S w x2 sv2)(hg0:El J7 S w ⟨0,0,none⟩ gv0 (svL []))(r:Bool)(h:R1 x0 x1 x2=some r):
    Calls Tryz.prog 32 #[.agg ((E3).cells x0 sv0).toArray,.agg ((D0).cells x1 (svL [])).toArray,.agg ((D0).cells x2 (svL [])).toArray] w (Rv w (.bool r)):=by
  replace hx0:=Kd.lo _ hx0;replace hx1:=Kd.lo _ hx1;replace hx2:=Kd.lo _ hx2;replace hg0:=El.lo hg0;unfold R1 at h;refine en_ Tryz.func32 (n:=44) (fun a b c e=>?_)
  let f:List (List EV×TypeId):=[((((E3).cells x0 sv0).map EV.v),59),((((D0).cells x1 sv1).map EV.v),41),((((D0).cells x2 sv2).map EV.v),41)]
  refine za c b (s_ [b_ 6 false,p_ 5 2 0,p_ 4 1 0,p_ 3 0 0] f) (fun s a t b=>?_);refine wpIn_seq (zc c b [21,6,5,4,3] [b_ 21 (((x1.u6==1)&&(x2.u6==2))&&(x1.Of==x2.Of))] [] (fun u a v b=>?_));refine cb b h (fun i h=>?_) (fun i h=>?_)
  ·refine zc c b [6] [b_ 6 true] [] (fun y a z b=>?_);refine wpIn_ret (B6 ?_);cases h;exact r1 e b
  ·refine wpIn_skip (B4 (wpIn_seq ?_));obtain ⟨g,h⟩:=C0 h;obtain ⟨A,j,k⟩:=eG hx0.1.1 g;refine zD c b [34,6,5,4,3] [b_ 34 ((x1.u6==1)&&(!((rd x0.calls x1.Of).kz)))] [] (oJ g (oA k (oF j 9 [.bool ((rd x0.calls x1.Of).kz)] oZ))) (fun B a C b=>?_);refine cb b h (fun l h=>?_) (fun l h=>?_)
   ·refine zc c b [6] [] [] (fun D a G b=>?_);refine wpIn_ret (B6 ?_);cases h;exact r1 e b
   ·refine wpIn_skip (B4 (wpIn_seq ?_));obtain ⟨m,o,h⟩:=B7 h;obtain ⟨p,q,h⟩:=B7 h;refine R3 (live:=[6]) (orc:=[[.agg ((J7).cells m (svL [])).toArray],[.agg ((J7).cells p (svL [])).toArray]]) c b (s_ [b_ 6 (decide (m.to_<p.from_))] f) [.call true 59 [.agg ((E3).cells x0 sv0).toArray,.agg ((D0).cells x1 (svL [])).toArray] (.agg ((J7).cells m (svL [])).toArray),.call true 59 [.agg ((E3).cells x0 sv0).toArray,.agg ((D0).cells x2 (svL [])).toArray] (.agg ((J7).cells p (svL [])).toArray)] (by kernel_rfl) (by kernel_rfl) (by kernel_rfl) ⟨G8 (zo Tryz.func59) (fun hg wz hk=>O3.calls x0 x1 sv0 (svL []) wz (S:=fun _=>True) (Kd.any _ (Kd.keep E3 (E4 (S:=Lo S w w [] []) (w:=w) (d:=E3) (x:=x0) (sv:=sv0) ⟨⟨hx0.1.1,hx0.1.2⟩,⟨hx0.2.1.1,hx0.2.1.2⟩,trivial⟩) (Lo.on hk))) (Kd.any _ (Kd.keep D0 (E4 (S:=Lo S w w [] []) (w:=w) (d:=D0) (x:=x1) (sv:=(svL [])) trivial) (Lo.on hk))) (El.any (El.keep hg0 (Lo.on hk))) _ o),G8 (zo Tryz.func59) (fun hg wz hk=>O3.calls x0 x2 sv0 (svL []) wz (S:=fun _=>True) (Kd.any _ (Kd.keep E3 (E4 (S:=Lo S w w [] []) (w:=w) (d:=E3) (x:=x0) (sv:=sv0) ⟨⟨hx0.1.1,hx0.1.2⟩,⟨hx0.2.1.1,hx0.2.1.2⟩,trivial⟩) (Lo.on hk))) (Kd.any _ (Kd.keep D0 (E4 (S:=Lo S w w [] []) (w:=w) (d:=D0) (x:=x2) (sv:=(svL [])) trivial) (Lo.on hk))) (El.any (El.keep hg0 (Lo.on hk))) _ q),trivial⟩ (fun a H b=>?_);refine B4 (wpIn_ret ?_);cases h;exact r1 e b
def F6.b1(x0:M3)(s1:Int×(List F5)):Option (Stp (Int×(List F5)) (Ex (Int×(List F5)) ((List F5)))):=(bif decide (s1.1<(x0.calls.length:Int)) then (req (inb s1.1 x0.calls.length) (bif (rd x0.calls s1.1).kz then (req (decide ((s1.2.length+1)*16≤140737488355328)) (bif decide (((rd x0.calls s1.1).qe)≥0) then (req (decide (((s1.2++[(⟨1,s1.1⟩:F5)]).length+1)*16≤140737488355328)) (some (.next ((IntKind.i64.wrap (s1.1+1)),((s1.2++[(⟨1,s1.1⟩:F5)])++[(⟨2,s1.1⟩:F5)]))))) else some (.next ((IntKind.i64.wrap (s1.1+1)),(s1.2++[(⟨1,s1.1⟩:F5)]))))) else (bif decide (((rd x0.calls s1.1).qe)≥0) then (req (decide ((s1.2.length+1)*16≤140737488355328)) (some (.next ((IntKind.i64.wrap (s1.1+1)),(s1.2++[(⟨2,s1.1⟩:F5)]))))) else some (.next ((IntKind.i64.wrap (s1.1+1)),s1.2))))) else some (.out (.brk (s1.1,s1.2))))
def F6.b2(x0:M3)(s1:Int×(List F5))(s2:Int×(List F5)):Option (Stp (Int×(List F5)) (Ex (Int×(List F5)) ((List F5)))):=(bif decide (s2.1<(x0.bellings.length:Int)) then (req (decide ((s2.2.length+1)*16≤140737488355328)) (some (.next ((IntKind.i64.wrap (s2.1+1)),(s2.2++[(⟨3,s2.1⟩:F5)]))))) else some (.out (.brk (s2.1,s2.2))))
def F6(x0:M3):Option ((List F5)):=((F7 (F6.b1 x0) (0,([]:List F5))).bind fun o=>o.on (fun s1=>((F7 (F6.b2 x0 s1) (0,s1.2)).bind fun o=>o.on (fun s2=>some s2.2) (fun r=>some r))) (fun r=>some r))
theorem F6.calls(x0:M3)(sv0:SV)(w:World){S:Nat→Prop}(hx0:(E3).cont S w x0 sv0)(r:(List F5))(h:F6 x0=some r):
    Calls Tryz.prog 33 #[.agg ((E3).cells x0 sv0).toArray] w fun e w'=>∃sv:SV,e=.returned (.slice ((sv 0).1) r.length ((sv 0).2))∧Below w.heap.size w w'∧(Arr D0 (fun b=>w.heap.size≤b∨S b) w' (sv 0).1 r∧r.length≤(sv 0).2):=by
  replace hx0:=Kd.lo _ hx0;unfold F6 at h;refine en_ Tryz.func33 (n:=44) (fun a f k g=>?_)
  let x:=(((E3).cells x0 sv0).map EV.v)
  let y:Value:=(.slice none 0 0)
  refine za k f (s_ [e_ 2 y,p_ 1 0 0] [(x,59)]) (fun ak a al f=>?_);refine zc k f [3,2,1] [e_ 3 y] [] (fun am a an f=>?_)
  let O:Value:=(.slice ((sv0 0).1) x0.calls.length ((sv0 0).2))
  let L:=(x0.calls.length:Int)
  refine wpIn_seq (zc k f [10,9,8,3,2,1] [i_ 10 0,i_ 9 L,e_ 8 O] [] (fun a6 a a2 f=>?_));replace ⟨g,f,hx0⟩:=rz g f hx0;replace ⟨g,hx0⟩:=ez _ (Ep.addNil g) hx0;have i:Row D0 41 (Lo S w a2 a6 [rb none]) a2 w.heap.size none 0 ([]:List F5):=Row.nil;obtain ⟨ao,a7,h⟩:=B7 h;refine E0 (fun (s1:Int×(List F5)) a z=>∃(ow Y:List Nat) (t:Option Addr) (M:Nat),((E3).cont (Lo S w z ow [rb t]) z x0 sv0)∧(Row D0 41 (Lo S w z ow [rb t]) z w.heap.size t M s1.2)∧Ep [] w z ow [rb t]∧St z ow 44 (s_ [i_ 10 s1.1,i_ 9 L,e_ 8 O,e_ 3 (.slice t s1.2.length M),e_ 2 y,p_ 1 0 0] [(x,59)]) Y a z) (0,([]:List F5)) a7 ⟨_,_,none,_,hx0,i,g,f.pi [10,9,8,3,2,1] 1⟩ ?_ ?_
  ·clear f g;rintro s1 a ap ⟨aq,ar,t,M,hx0,i,g,f⟩ r1 j;unfold F6.b1 at j
   let Z:Value:=(.slice t s1.2.length M)
   refine za k f (s_ [b_ 11 (decide (s1.1<L)),i_ 10 s1.1,i_ 9 L,e_ 8 O,e_ 3 Z,e_ 2 y,p_ 1 0 0] [(x,59)]) (fun au a av f=>?_);refine wpIn_seq (cb f j (fun a8 j=>?_) (fun a8 j=>?_))
   ·refine wpIn_skip (B4 (wpIn_seq (wpIn_block ?_)));obtain ⟨a3,j⟩:=C0 j;obtain ⟨aw,m,a9⟩:=eT hx0.1.1 a3
    let q8:=(rd x0.calls s1.1)
    refine zD k f [4,5,10,9,8,3,2,1] [i_ 4 s1.1,p_ 5 1 0] [(1,((((F3).cells q8 aw).map EV.v),50))] (oI a3 (oA a9 (oW m oZ))) (fun ax a ay f=>?_);refine wpIn_seq (zc k f [16,4,5,10,9,8,3,2,1] [b_ 16 (q8.kz)] [] (fun az a b0 f=>?_))
    let K:=(⟨2,s1.1⟩:F5)
    let P:=(IntKind.i64.wrap (s1.1+1))
    let q9:=(([K]:List F5).length)
    refine cb f j (fun aa j=>?_) (fun aa j=>?_)
    ·refine wpIn_region_lit (zl k 3 f [19,17,4,5,10,9,8,3,2,1] [e_ 19 (.agg #[iv 1,iv s1.1]),e_ 17 Z] [] (fun b1 a b2 f=>?_));replace ⟨g,f,hx0,i,m⟩:=rz g f (t3 hx0 i m)
     let Q:=(⟨1,s1.1⟩:F5)
     refine D6 (S0:=S) (d:=D0) (e:=41) k g f (C1 rfl) rfl (by kernel_rfl) (cs:=[iv 1,iv s1.1]) (by kernel_rfl) [Q] [(svL [])] rfl rfl (by simp [maxLen]) (eq1 ⟨trivial,rfl⟩) (fun _=>by kernel_rfl) (fun ab a b3 B C f p s q=>?_);replace ⟨g,hx0,i,m⟩:=xz g C p s (t3 hx0 i m);obtain ⟨g,p,q,b4⟩:=Row.still (l1:=[rb t]) (l2:=[]) q (Nat.le_refl _) g;replace ⟨hx0,i,m⟩:=sz p (t3 hx0 i m);obtain ⟨R,j⟩:=C0 j;replace R:=of_decide_eq_true R;refine T7 (S0:=S) (l1:=[]) (l2:=[]) (d:=D0) (e:=41) k g f (C1 rfl) rfl (A:=t) (c:=M) (l:=s1.2) rfl (A2:=ab) (c2:=(([Q]:List F5).length)) rfl i q (fun sv u hu=>by exact A4a _ sv u hu) Tryz.underlying34 (zi:=(.agg #[iv 0,iv 0],2,16)) (by kernel_rfl) rfl (by kernel_rfl) (V8 (by decide) R) R (fun _ _=>by kernel_rfl) (fun a5 ac a b5 B g f p s i=>?_);replace ⟨hx0,m,q⟩:=nz p (t3 hx0 m q)
     let T:Value:=(.slice a5 (s1.2++[(⟨1,s1.1⟩:F5)]).length ac)
     refine zl k 1 f [3,4,5,10,9,8,2,1] [e_ 3 T] [] (fun b6 a b7 f=>?_);refine wpListIn_nil (B4 (zc k f [24,3,4,10,9,8,2,1] [b_ 24 (decide ((q8.qe)≥0))] [] (fun b8 a b9 f=>?_)));refine cb f j (fun ad j=>?_) (fun ad j=>?_)
     ·refine wpIn_region_lit (zl k 3 f [27,25,3,10,9,8,2,1] [e_ 27 (.agg #[iv 2,iv s1.1]),e_ 25 T] [] (fun ba a bb f=>?_));replace ⟨g,f,hx0,m,q,i⟩:=rz g f (t4 hx0 m q i);refine A5m (S0:=S) (d:=D0) (e:=41) k g f (C1 rfl) rfl (by kernel_rfl) (cs:=[iv 2,iv s1.1]) (by kernel_rfl) [K] [(svL [])] rfl rfl (by simp [maxLen]) (eq1 ⟨trivial,rfl⟩) (fun a1=>(s_ [e_ 28 (.slice a1 ([K]:List F5).length q9),e_ 27 (.agg #[iv 2,iv s1.1]),e_ 25 T,e_ 3 T,i_ 10 s1.1,i_ 9 L,e_ 8 O,e_ 2 y,p_ 1 0 0] [(x,59),((((F3).cells q8 aw).map EV.v),50)])) (fun a1=>by kernel_rfl) (fun a1 a bc B C f p s D=>?_);replace ⟨g,hx0,m,q,i⟩:=xz g C p s (t4 hx0 m q i);obtain ⟨g,p,D,bd⟩:=Row.still (l1:=[rb a5]) (l2:=[]) D (Nat.le_refl _) g;replace ⟨hx0,m,q,i⟩:=sz p (t4 hx0 m q i);obtain ⟨U,j⟩:=C0 j;replace U:=of_decide_eq_true U;refine T7 (S0:=S) (l1:=[]) (l2:=[]) (d:=D0) (e:=41) k g f (C1 rfl) rfl (A:=a5) (c:=ac) (l:=(s1.2++[Q])) rfl (A2:=a1) (c2:=q9) rfl i D (fun sv u hu=>by exact A4a _ sv u hu) Tryz.underlying34 (zi:=(.agg #[iv 0,iv 0],2,16)) (by kernel_rfl) rfl (by kernel_rfl) (V8 (by decide) U) U (fun _ _=>by kernel_rfl) (fun be bf a bg B g f p s i=>?_);replace ⟨hx0,m,q,D⟩:=nz p (t4 hx0 m q D);refine zl k 1 f [3,10,9,8,2,1] [e_ 3 (.slice be ((s1.2++[Q])++[K]).length bf)] [] (fun bh a bi f=>?_);refine wpListIn_nil (B9 (B4 (zh k f [10,3,9,8,2,1] [i_ 10 P] [] (fun bj a bk f=>?_))));refine B4 ?_;replace ⟨g,f,hx0,m,q,D,i⟩:=rz g f (t5 hx0 m q D i);cases j;exact ⟨_,rfl,⟨_,_,_,_,hx0,i,g,f.pi [10,9,8,3,2,1] 1⟩⟩
     ·refine wpIn_skip (B9 (B4 (zh k f [10,3,9,8,2,1] [i_ 10 P] [] (fun bl a bm f=>?_))));refine B4 ?_;replace ⟨g,f,hx0,m,q,i⟩:=rz g f (t4 hx0 m q i);cases j;exact ⟨_,rfl,⟨_,_,_,_,hx0,i,g,f.pi [10,9,8,3,2,1] 1⟩⟩
    ·refine wpIn_skip (B4 (zc k f [24,4,10,9,8,3,2,1] [b_ 24 (decide ((q8.qe)≥0))] [] (fun bn a bo f=>?_)));refine cb f j (fun ae j=>?_) (fun ae j=>?_)
     ·refine wpIn_region_lit (zl k 3 f [27,25,10,9,8,3,2,1] [e_ 27 (.agg #[iv 2,iv s1.1]),e_ 25 Z] [] (fun bp a bq f=>?_));replace ⟨g,f,hx0,i,m⟩:=rz g f (t3 hx0 i m);refine D6 (S0:=S) (d:=D0) (e:=41) k g f (C1 rfl) rfl (by kernel_rfl) (cs:=[iv 2,iv s1.1]) (by kernel_rfl) [K] [(svL [])] rfl rfl (by simp [maxLen]) (eq1 ⟨trivial,rfl⟩) (fun _=>by kernel_rfl) (fun af a br B C f p s G=>?_);replace ⟨g,hx0,i,m⟩:=xz g C p s (t3 hx0 i m);obtain ⟨g,p,G,bs⟩:=Row.still (l1:=[rb t]) (l2:=[]) G (Nat.le_refl _) g;replace ⟨hx0,i,m⟩:=sz p (t3 hx0 i m);obtain ⟨V,j⟩:=C0 j;replace V:=of_decide_eq_true V;refine T7 (S0:=S) (l1:=[]) (l2:=[]) (d:=D0) (e:=41) k g f (C1 rfl) rfl (A:=t) (c:=M) (l:=s1.2) rfl (A2:=af) (c2:=q9) rfl i G (fun sv u hu=>by exact A4a _ sv u hu) Tryz.underlying34 (zi:=(.agg #[iv 0,iv 0],2,16)) (by kernel_rfl) rfl (by kernel_rfl) (V8 (by decide) V) V (fun _ _=>by kernel_rfl) (fun bt bu a bv B g f p s i=>?_);replace ⟨hx0,m,G⟩:=nz p (t3 hx0 m G);refine zl k 1 f [3,10,9,8,2,1] [e_ 3 (.slice bt (s1.2++[K]).length bu)] [] (fun bw a bx f=>?_);refine wpListIn_nil (B9 (B4 (zh k f [10,3,9,8,2,1] [i_ 10 P] [] (fun bz a c0 f=>?_))));refine B4 ?_;replace ⟨g,f,hx0,m,G,i⟩:=rz g f (t4 hx0 m G i);cases j;exact ⟨_,rfl,⟨_,_,_,_,hx0,i,g,f.pi [10,9,8,3,2,1] 1⟩⟩
     ·refine wpIn_skip (B9 (B4 (zh k f [10,9,8,3,2,1] [i_ 10 P] [] (fun c1 a c3 f=>?_))));refine B4 ?_;replace ⟨g,f,hx0,i,m⟩:=rz g f (t3 hx0 i m);cases j;exact ⟨_,rfl,⟨_,_,_,_,hx0,i,g,f.pi [10,9,8,3,2,1] 1⟩⟩
   ·refine wpIn_exit (C6 (C6 ?_));replace ⟨g,f,hx0,i⟩:=rz g f (t2 hx0 i);cases j;exact .inl ⟨_,rfl,rfl,⟨_,_,_,_,hx0,i,g,f.pi [10,9,8,3,2,1] 1⟩⟩
  ·clear f g;rintro s1 a c4 ho ⟨c5,c6,t,M,hx0,i,g,f⟩;subst ho;replace h:(((F7 (F6.b2 x0 s1) (0,s1.2)).bind fun o=>o.on (fun s2=>some s2.2) (fun r=>some r)):Option ((List F5)))=_:=h
   let W:=(x0.bellings.length:Int)
   refine B4 (wpIn_seq (za k f (s_ [i_ 34 0,i_ 33 W,e_ 3 (.slice t s1.2.length M),e_ 2 y] [(x,59)]) (fun c7 a c8 f=>?_)));replace ⟨g,f,hx0,i⟩:=rz g f (t2 hx0 i);obtain ⟨c9,ag,h⟩:=B7 h;refine E0 (fun (s2:Int×(List F5)) a H=>∃(ow Y:List Nat) (v:Option Addr) (N:Nat),((E3).cont (Lo S w H ow [rb v]) H x0 sv0)∧(Row D0 41 (Lo S w H ow [rb v]) H w.heap.size v N s2.2)∧Ep [] w H ow [rb v]∧St H ow 44 (s_ [i_ 34 s2.1,i_ 33 W,e_ 3 (.slice v s2.2.length N),e_ 2 y] [(x,59)]) Y a H) (0,s1.2) ag ⟨_,_,_,_,hx0,i,g,f.pi [34,33,3,2] 1⟩ ?_ ?_
   ·clear f g;rintro s2 a ca ⟨cc,cd,v,N,hx0,i,g,f⟩ r2 j;unfold F6.b2 at j;refine za k f (s_ [b_ 35 (decide (s2.1<W)),i_ 34 s2.1,i_ 33 W,e_ 3 (.slice v s2.2.length N),e_ 2 y] [(x,59)]) (fun ce a cf f=>?_);refine wpIn_seq (cb f j (fun ah j=>?_) (fun ah j=>?_))
    ·refine wpIn_skip (B4 (wpIn_seq (wpIn_block (zc k f [6,34,33,3,2] [i_ 6 s2.1] [] (fun cg a ch f=>?_)))));refine wpIn_region_lit (zl k 3 f [39,37,34,33,3,2] [e_ 39 (.agg #[iv 3,iv s2.1]),e_ 37 (.slice v s2.2.length N)] [] (fun ci a cj f=>?_));replace ⟨g,f,hx0,i⟩:=rz g f (t2 hx0 i);refine D6 (S0:=S) (d:=D0) (e:=41) k g f (C1 rfl) rfl (by kernel_rfl) (cs:=[iv 3,iv s2.1]) (by kernel_rfl) [(⟨3,s2.1⟩:F5)] [(svL [])] rfl rfl (by simp [maxLen]) (eq1 ⟨trivial,rfl⟩) (fun _=>by kernel_rfl) (fun ai a ck B C f p s J=>?_);replace ⟨g,hx0,i⟩:=xz g C p s (t2 hx0 i);obtain ⟨g,p,J,cl⟩:=Row.still (l1:=[rb v]) (l2:=[]) J (Nat.le_refl _) g;replace ⟨hx0,i⟩:=sz p (t2 hx0 i);obtain ⟨X,j⟩:=C0 j;replace X:=of_decide_eq_true X;refine T7 (S0:=S) (l1:=[]) (l2:=[]) (d:=D0) (e:=41) k g f (C1 rfl) rfl (A:=v) (c:=N) (l:=s2.2) rfl (A2:=ai) (c2:=(([(⟨3,s2.1⟩:F5)]:List F5).length)) rfl i J (fun sv u hu=>by exact A4a _ sv u hu) Tryz.underlying34 (zi:=(.agg #[iv 0,iv 0],2,16)) (by kernel_rfl) rfl (by kernel_rfl) (V8 (by decide) X) X (fun _ _=>by kernel_rfl) (fun cm cn a co B g f p s i=>?_);replace ⟨hx0,J⟩:=nz p (t2 hx0 J);refine zl k 1 f [3,34,33,2] [e_ 3 (.slice cm (s2.2++[(⟨3,s2.1⟩:F5)]).length cn)] [] (fun cp a cq f=>?_);refine wpListIn_nil (B9 (B4 (zh k f [34,3,33,2] [i_ 34 (IntKind.i64.wrap (s2.1+1))] [] (fun cr a ct f=>?_))));refine B4 ?_;replace ⟨g,f,hx0,J,i⟩:=rz g f (t3 hx0 J i);cases j;exact ⟨_,rfl,⟨_,_,_,_,hx0,i,g,f.pi [34,33,3,2] 1⟩⟩
    ·refine wpIn_exit (C6 (C6 ?_));replace ⟨g,f,hx0,i⟩:=rz g f (t2 hx0 i);cases j;exact .inl ⟨_,rfl,rfl,⟨_,_,_,_,hx0,i,g,f.pi [34,33,3,2] 1⟩⟩
   ·clear f g;rintro s2 a cu ho ⟨cv,cw,v,N,hx0,i,g,f⟩;subst ho;replace h:(some s2.2:Option ((List F5)))=_:=h;refine B4 (za k f (s_ [e_ 2 (.slice v s2.2.length N)] [(x,59)]) (fun cx a cy f=>?_));replace ⟨g,f,hx0,i⟩:=rz g f (t2 hx0 i);obtain ⟨g,p,i,aj⟩:=Row.still (l1:=[]) (l2:=[]) i (Nat.le_refl _) g;replace hx0:=sz p hx0;refine wpIn_ret ?_;cases h;exact r0 f ⟨svL [(v,N)],rfl,g.below f,⟨Arr.keep i (g.out f),aj⟩⟩
def D4.b2(x0:M3)(l1:(List F5))(s1:Int×Bool×(List (F5×Int)))(t_22:Bool)(s2:Int×Bool):Option (Stp (Int×Bool) (Ex (Int×Bool) (Bool))):=(bif decide (s2.1<((l1.take (s1.1:Int).toNat).length:Int)) then (req (inb s2.1 (l1.take (s1.1:Int).toNat).length) ((R1 x0 (rd l1 s1.1) (rd (l1.take (s1.1:Int).toNat) s2.1)).bind fun a=>(bif a then some (.out (.ret false)) else some (.next ((IntKind.i64.wrap (s2.1+1)),s2.2))))) else some (.out (.brk (s2.1,s2.2))))
def D4.b1(x0:M3)(l1:(List F5))(s1:Int×Bool×(List (F5×Int))):Option (Stp (Int×Bool×(List (F5×Int))) (Ex (Int×Bool×(List (F5×Int))) (Bool))):=(bif decide (s1.1<(l1.length:Int)) then (req (inb s1.1 l1.length) ((W4 x0 (rd l1 s1.1)).bind fun a=>(bif ((!a)||decide (((A0d s1.2.2 (rd l1 s1.1)).getD 0)>0)) then some (.out (.ret false)) else (req (inb s1.1 (l1.length+1)) ((F7 (D4.b2 x0 l1 s1 a) (0,s1.2.1)).bind fun o=>o.on (fun s2=>some (.next ((IntKind.i64.wrap (s1.1+1)),s2.2,(A18 s1.2.2 (rd l1 s1.1) (IntKind.i64.wrap (((A0d s1.2.2 (rd l1 s1.1)).getD 0)+1)))))) (fun r=>some (.out (.ret r)))))))) else some (.out (.brk (s1.1,s1.2.1,s1.2.2))))
def D4.b3(x0:M3)(l1:(List F5))(s1:Int×Bool×(List (F5×Int)))(t_73:(List F5))(s3:Int×Bool):Option (Stp (Int×Bool) (Ex (Int×Bool) (Bool))):=(bif decide (s3.1<(t_73.length:Int)) then (req (inb s3.1 t_73.length) (bif (((A0d s1.2.2 (rd t_73 s3.1)).getD 0)==0) then some (.out (.ret false)) else some (.next ((IntKind.i64.wrap (s3.1+1)),s3.2)))) else some (.out (.brk (s3.1,s3.2))))
def D4(x0:M3)(l1:(List F5)):Option (Bool):=((F7 (D4.b1 x0 l1) (0,false,([]:List (F5×Int)))).bind fun o=>o.on (fun s1=>((F6 x0).bind fun a=>((F7 (D4.b3 x0 l1 s1 a) (0,s1.2.1)).bind fun o=>o.on (fun s3=>some true) (fun r=>some r)))) (fun r=>some r))
theorem D4.calls(x0:M3)(l1:(List F5))(sv0:SV)(A1:Option Addr)(c1:Nat)(w:World){S:Nat→Prop}(hx0:(E3).cont S w x0 sv0)(hr1:Arr D0 S w A1 l1)(hc1:l1.length≤c1)(hg0:El J7 S w ⟨0,0,none⟩ gv0 (svL []))(r:Bool)(h:D4 x0 l1=some r):
    Calls Tryz.prog 15 #[.agg ((E3).cells x0 sv0).toArray,.slice A1 l1.length c1] w (Rv w (.bool r)):=by
  replace hx0:=Kd.lo _ hx0;replace hr1:=Arr.lo hr1;replace hg0:=El.lo hg0;unfold D4 at h;refine en_ Tryz.func15 (n:=62) (fun a b f c=>?_)
  let k:=(((E3).cells x0 sv0).map EV.v)
  let i:Value:=(.slice A1 l1.length c1)
  refine za f b (s_ [b_ 4 false,p_ 2 0 0,e_ 1 i] [(k,59)]) (fun ax a ay b=>?_);refine wpIn_seq (wpIn_region_lit ?_);replace ⟨c,b,hx0,hr1,hg0⟩:=rz c b (t3 hx0 hr1 hg0);refine B6p f c b (C1 rfl) rfl F5 Int (fun x:F5=>.agg #[iv x.u6,iv x.Of]) (fun x=>iv x) (fun m=>(s_ [e_ 12 (.map (some m)),b_ 4 false,p_ 2 0 0,e_ 1 i] [(k,59)])) (fun m=>by kernel_rfl) (fun m a az H c b B K g=>?_);replace ⟨hx0,hr1,hg0⟩:=nz B (t3 hx0 hr1 hg0)
  let j:Value:=(.map (some m))
  refine zl f 1 b [5,4,2,1] [e_ 5 j] [] (fun b0 a b1 b=>?_);refine wpListIn_nil (B4 (wpIn_seq (zc f b [15,14,13,5,4,2,1] [i_ 15 0,i_ 14 (l1.length:Int),e_ 13 i] [] (fun b2 a b3 b=>?_))));replace ⟨c,b,hx0,hr1,hg0,g⟩:=rz c b (t4 hx0 hr1 hg0 g);obtain ⟨b4,a2,h⟩:=B7 h;refine E0 (fun (s1:Int×Bool×(List (F5×Int))) a s=>∃(ow J:List Nat),((E3).cont (Lo S w s ow [[m]]) s x0 sv0)∧(Arr D0 (Lo S w s ow [[m]]) s A1 l1)∧(El J7 (Lo S w s ow [[m]]) s ⟨0,0,none⟩ gv0 (svL []))∧(A5h (fun x:F5=>.agg #[iv x.u6,iv x.Of]) (fun x=>iv x) s m (s1.2.2:List (F5×Int)))∧Ep [] w s ow [[m]]∧St s ow 62 (s_ [i_ 15 s1.1,i_ 14 (l1.length:Int),e_ 13 i,e_ 5 j,b_ 4 s1.2.1,p_ 2 0 0,e_ 1 i] [(k,59)]) J a s) (0,false,([]:List (F5×Int))) a2 ⟨_,_,hx0,hr1,hg0,g,c,b.pi [15,14,13,5,4,2,1] 1⟩ ?_ ?_
  ·clear b c;rintro s1 a b5 ⟨b6,b7,hx0,hr1,hg0,g,c,b⟩ r1 e;unfold D4.b1 at e;refine za f b (s_ [b_ 16 (decide (s1.1<(l1.length:Int))),i_ 15 s1.1,i_ 14 (l1.length:Int),e_ 13 i,e_ 5 j,b_ 4 s1.2.1,p_ 2 0 0,e_ 1 i] [(k,59)]) (fun b8 a b9 b=>?_);refine wpIn_seq (cb b e (fun a3 e=>?_) (fun a3 e=>?_))
   ·refine wpIn_skip (B4 (wpIn_seq (wpIn_block ?_)));obtain ⟨W,e⟩:=C0 e;obtain ⟨a4,p,a5⟩:=eT hr1 W
    let C:=(((D0).cells (rd l1 s1.1) a4).map EV.v)
    refine zD f b [6,7,15,14,13,5,4,2,1] [i_ 6 s1.1,p_ 7 1 0] [(1,(C,41))] (oI W (oA a5 (oW p oZ))) (fun ba a bb b=>?_);refine wpIn_seq ?_;obtain ⟨X,a6,e⟩:=B7 e
    let u:=((A0d s1.2.2 (rd l1 s1.1)).getD 0)
    let P:Value:=(.agg ((D0).cells (rd l1 s1.1) (svL [])).toArray)
    let q7:=(vS (Instr.lookup 82 j P false))
    let Q:=((!X)||decide (u>0))
    refine zD f b [29,6,7,15,14,13,5,4,2,1] [b_ 29 Q] [] (oC (zo Tryz.func31) (fun wz hk=>W4.calls x0 (rd l1 s1.1) sv0 (svL []) wz (kA hx0 hk) trivial _ a6) (oG (.run (!(!X)) q7 (iv u)) (fun _ wz hk=>A1u (A4b (A5x Tryz.underlying41 (by kernel_rfl) Tryz.underlying3 Tryz.underlying3 (by kernel_rfl) (by kernel_rfl) rfl rfl (by kernel_rfl) (by kernel_rfl) (fun x y h1 h2=>by cases x;cases y;simp at h1 h2;subst h1 h2;rfl)) Tryz.underlying82 (zi:=(iv 0,1,8)) (z:=0) (by kernel_rfl) rfl (A5h.keep g (hk.block _ (c.mi _ (by simp)).2.1 (c.mi _ (by simp)).2.2)) (rd l1 s1.1) rfl)) oZ)) (fun a8 a bc b=>?_);refine cb b e (fun a9 e=>?_) (fun a9 e=>?_)
    ·refine zc f b [4] [b_ 4 false] [] (fun bd a be b=>?_);refine wpIn_ret (B6 (B8 (B6 (B6 ?_))));cases e;refine .inr ⟨_,rfl,fun ho=>?_⟩;subst ho;refine B8 (B6 ?_);cases h;exact r1 c b
    ·refine wpIn_skip (B4 (wpIn_seq ?_));replace b:=b.finD [29,6,7,15,14,13,5,4,2,1] (by kernel_rfl)
     let G:=(IntKind.i64.wrap (u+1))
     refine O9 b (by kernel_rfl) [.q 30 (.v j) [],.q 31 (.v P) [],.q 32 (.v (iv u)) [.run true q7 (iv u)],.q 33 (.v (iv G)) [],.no,.no,.no] (by kernel_rfl) (fun fuel listed bf q v hu=>?_);refine P1 q f v hu 4 rfl [0,1] [e_ 30 j,e_ 31 P] ⟨(fun _ wz hk=>A1u (A4b (A5x Tryz.underlying41 (by kernel_rfl) Tryz.underlying3 Tryz.underlying3 (by kernel_rfl) (by kernel_rfl) rfl rfl (by kernel_rfl) (by kernel_rfl) (fun x y h1 h2=>by cases x;cases y;simp at h1 h2;subst h1 h2;rfl)) Tryz.underlying82 (zi:=(iv 0,1,8)) (z:=0) (by kernel_rfl) rfl (A5h.keep g (hk.block _ (c.mi _ (by simp)).2.1 (c.mi _ (by simp)).2.2)) (rd l1 s1.1) rfl)),trivial⟩ [0,1] (fun fuel listed a bg q b R h1 T v hu=>?_);replace ⟨c,b,hx0,hr1,hg0,g,p⟩:=rz c b (t5 hx0 hr1 hg0 g p);refine B41 f c b R rfl (by simp) (A5x Tryz.underlying41 (by kernel_rfl) Tryz.underlying3 Tryz.underlying3 (by kernel_rfl) (by kernel_rfl) rfl rfl (by kernel_rfl) (by kernel_rfl) (fun x y h1 h2=>by cases x;cases y;simp at h1 h2;subst h1 h2;rfl)) Tryz.underlying82 (zi:=(iv 0,1,8)) (z:=0) (by kernel_rfl) rfl g rfl (rd l1 s1.1) rfl (fun _=>rfl) (fun A=>(s_ [e_ 34 (.tuple #[iv u,iv (A:Int)]),e_ 30 j,e_ 31 P,b_ 29 Q,i_ 6 s1.1,p_ 7 1 0,i_ 15 s1.1,i_ 14 (l1.length:Int),e_ 13 i,e_ 5 j,b_ 4 s1.2.1,p_ 2 0 0,e_ 1 i] [(k,59),(C,41)])) (fun A=>by kernel_rfl) (fun A a bh H c b B K g=>?_);replace ⟨hx0,hr1,hg0,p⟩:=nz B (t4 hx0 hr1 hg0 p);refine E9 q h1 T v hu H b [29,6,7,15,14,13,5,4,2,1] [(5,.q 35 (.v (iv (A:Int))) [])] (fun q v hu=>?_);replace q:=q.cast [.t (some 30) (some (.v j)),.t (some 31) (some (.v P)),.q 32 (.v (iv u)) [.run true q7 (iv u)],.q 33 (.v (iv G)) [],.t (some 34) (some (.v (.tuple #[iv u,iv (A:Int)]))),.q 35 (.v (iv (A:Int))) [],.no] (by kernel_rfl);refine P1 q f v hu 6 rfl [0,5,3] [e_ 30 j,i_ 35 (A:Int),i_ 33 G] ⟨(fun _ wz hk=>A1u (A4b (A5x Tryz.underlying41 (by kernel_rfl) Tryz.underlying3 Tryz.underlying3 (by kernel_rfl) (by kernel_rfl) rfl rfl (by kernel_rfl) (by kernel_rfl) (fun x y h1 h2=>by cases x;cases y;simp at h1 h2;subst h1 h2;rfl)) Tryz.underlying82 (zi:=(iv 0,1,8)) (z:=0) (by kernel_rfl) rfl (A7k.k (A7k.keep g (hk.block _ (c.mi _ (by simp)).2.1 (c.mi _ (by simp)).2.2))) (rd l1 s1.1) (B72 _ _ _))),trivial⟩ [2,3,5] (fun fuel listed a bi q b R h1 T v hu=>?_);replace ⟨c,b,hx0,hr1,hg0,p,g⟩:=rz c b (t5 hx0 hr1 hg0 p g);refine B10 f c b R rfl (z:=0) (by simp) g rfl rfl G rfl (s_ [e_ 30 j,i_ 35 (A:Int),i_ 33 G,b_ 29 Q,i_ 6 s1.1,p_ 7 1 0,i_ 15 s1.1,i_ 14 (l1.length:Int),e_ 13 i,e_ 5 j,b_ 4 s1.2.1,p_ 2 0 0,e_ 1 i] [(k,59),(C,41)]) (by kernel_rfl) (fun a aa H c b B K g=>?_);replace ⟨hx0,hr1,hg0,p⟩:=nz B (t4 hx0 hr1 hg0 p);refine E9 q h1 T v hu H b [29,6,7,15,14,13,5,4,2,1] [] (fun q v hu=>?_);refine W7 q f v hu [6,7,15,14,13,5,4,2,1] (s_ [i_ 6 s1.1,p_ 7 1 0,i_ 15 s1.1,i_ 14 (l1.length:Int),e_ 13 i,e_ 5 j,b_ 4 s1.2.1,p_ 2 0 0,e_ 1 i] [(k,59),(C,41)]) (fun a bj b=>?_);refine B4 ?_;obtain ⟨Y,e⟩:=C0 e
     let L:Value:=(.slice A1 (l1.take (s1.1:Int).toNat).length c1)
     let M:=((l1.take (s1.1:Int).toNat).length:Int)
     refine zD f b [40,39,38,7,15,14,13,5,4,2,1] [i_ 40 0,i_ 39 M,e_ 38 L] [] (oG (.run true (vS (Instr.sliceAt 34 i none (some (iv s1.1)) none)) L) (fun hg wz hk=>A1u (B33 (sz:=2) Tryz.underlying34 (by kernel_rfl) (A7b Y).1 (A7b Y).2 hc1 wz)) oZ) (fun bk a bl b=>?_);obtain ⟨bm,ab,e⟩:=B7 e;refine E0 (fun (s2:Int×Bool) a ac=>∃(J:List Nat),St aa a8 62 (s_ [i_ 40 s2.1,i_ 39 M,e_ 38 L,p_ 7 1 0,i_ 15 s1.1,i_ 14 (l1.length:Int),e_ 13 i,e_ 5 j,b_ 4 s2.2,p_ 2 0 0,e_ 1 i] [(k,59),(C,41)]) J a ac) (0,s1.2.1) ab ⟨_,b.pi [40,39,38,7,15,14,13,5,4,2,1] 2⟩ ?_ ?_
     ·clear b;rintro s2 a bn ⟨bo,b⟩ r2 l;unfold D4.b2 at l;refine za f b (s_ [b_ 41 (decide (s2.1<M)),i_ 40 s2.1,i_ 39 M,e_ 38 L,p_ 7 1 0,i_ 15 s1.1,i_ 14 (l1.length:Int),e_ 13 i,e_ 5 j,b_ 4 s2.2,p_ 2 0 0,e_ 1 i] [(k,59),(C,41)]) (fun bp a bq b=>?_);refine wpIn_seq (cb b l (fun ad l=>?_) (fun ad l=>?_))
      ·refine wpIn_skip (B4 (wpIn_seq (wpIn_block ?_)));obtain ⟨Z,l⟩:=C0 l;obtain ⟨ae,af,ag⟩:=eT (Arr.take hr1 _) Z;refine zD f b [9,40,39,38,7,15,14,13,5,4,2,1] [p_ 9 2 0] [(2,((((D0).cells (rd (l1.take (s1.1:Int).toNat) s2.1) ae).map EV.v),41))] (oI Z (oA ag (oW af oZ))) (fun br a bs b=>?_);obtain ⟨ah,ai,l⟩:=B7 l;refine zD f b [47,40,39,38,7,15,14,13,5,4,2,1] [b_ 47 ah] [] (oC (zo Tryz.func32) (fun wz hk=>R1.calls x0 (rd l1 s1.1) (rd (l1.take (s1.1:Int).toNat) s2.1) sv0 (svL []) (svL []) wz (kA hx0 hk) trivial trivial (El.any (El.keep hg0 (Lo.on hk))) _ ai) oZ) (fun bt a bu b=>?_);refine cb b l (fun aj l=>?_) (fun aj l=>?_)
       ·refine zc f b [4] [b_ 4 false] [] (fun bv a bw b=>?_);refine wpIn_ret (B8 (B6 (B6 ?_)));cases l;refine .inr ⟨_,rfl,fun ho=>?_⟩;subst ho;refine B8 (B8 (B6 (B6 ?_)));cases e;refine .inr ⟨_,rfl,fun ho=>?_⟩;subst ho;refine B8 (B6 ?_);cases h;exact r1 c b
       ·refine wpIn_skip (B9 (B4 (zh f b [40,39,38,7,15,14,13,5,4,2,1] [i_ 40 (IntKind.i64.wrap (s2.1+1))] [] (fun bx a bz b=>?_))));refine B4 ?_;cases l;exact ⟨_,rfl,⟨_,b.pi [40,39,38,7,15,14,13,5,4,2,1] 2⟩⟩
      ·refine wpIn_exit (C6 (C6 ?_));cases l;exact .inl ⟨_,rfl,rfl,⟨_,b.pi [40,39,38,7,15,14,13,5,4,2,1] 2⟩⟩
     ·clear b;rintro s2 a c0 ho ⟨c2,b⟩;subst ho;replace e:(some (.next ((IntKind.i64.wrap (s1.1+1)),s2.2,(A18 s1.2.2 (rd l1 s1.1) G))):Option (Stp (Int×Bool×(List (F5×Int))) (Ex (Int×Bool×(List (F5×Int))) (Bool))))=_:=e;refine B9 (B4 (zf f b (s_ [i_ 15 (IntKind.i64.wrap (s1.1+1)),i_ 14 (l1.length:Int),e_ 13 i,e_ 5 j,b_ 4 s2.2,p_ 2 0 0,e_ 1 i] [(k,59),(C,41)]) (fun c3 a c4 b=>?_)));refine B4 ?_;replace ⟨c,b,hx0,hr1,hg0,p,g⟩:=rz c b (t5 hx0 hr1 hg0 p g);cases e;exact ⟨_,rfl,⟨_,_,hx0,hr1,hg0,g,c,b.pi [15,14,13,5,4,2,1] 1⟩⟩
   ·refine wpIn_exit (C6 (C6 ?_));replace ⟨c,b,hx0,hr1,hg0,g⟩:=rz c b (t4 hx0 hr1 hg0 g);cases e;exact .inl ⟨_,rfl,rfl,⟨_,_,hx0,hr1,hg0,g,c,b.pi [15,14,13,5,4,2,1] 1⟩⟩
  ·clear b c;rintro s1 a c5 ho ⟨c6,c7,hx0,hr1,hg0,g,c,b⟩;subst ho;replace h:(((F6 x0).bind fun t=>((F7 (D4.b3 x0 l1 s1 t) (0,s1.2.1)).bind fun o=>o.on (fun s3=>some true) (fun r=>some r))):Option (Bool))=_:=h;refine B4 (wpIn_seq (wpIn_seq (wpIn_region_lit (zj f 1 b (s_ [e_ 50 (.agg ((E3).cells x0 sv0).toArray),e_ 5 j,b_ 4 s1.2.1] [(k,59)]) (fun U a N b=>?_)))));replace ⟨c,b,hx0,hr1,hg0,g⟩:=rz c b (t4 hx0 hr1 hg0 g);obtain ⟨t,ak,h⟩:=B7 h;refine L0 f c b (C1 rfl) rfl (args:=[.agg ((E3).cells x0 sv0).toArray]) rfl (zo Tryz.func33) (fun D=>.slice ((D 0).1) t.length ((D 0).2)) _ (F6.calls x0 sv0 N (S:=Lo S w N U [[m]]) (E4 (S:=Lo S w N U [[m]]) (w:=N) (d:=E3) (x:=x0) (sv:=sv0) ⟨⟨hx0.1.1,hx0.1.2⟩,⟨hx0.2.1.1,hx0.2.1.2⟩,trivial⟩) _ ak) (fun _=>by kernel_rfl) (fun D a al H am b B K an hR=>?_);replace ⟨c,hx0,hr1,hg0,g⟩:=xz c am B K (t4 hx0 hr1 hg0 g);obtain ⟨V,hR_76c⟩:=hR;replace V:=Arr.keep V (an _)
   let O:=(t.length:Int)
   refine zl f 2 b [53,52,51,5,4] [i_ 53 0,i_ 52 O] [] (fun c8 a c9 b=>?_);refine wpListIn_nil (B4 ?_);obtain ⟨ca,ap,h⟩:=B7 h;refine E0 (fun (s3:Int×Bool) a aq=>∃(J:List Nat),St al U 62 (s_ [i_ 53 s3.1,i_ 52 O,e_ 51 (.slice ((D 0).1) t.length ((D 0).2)),e_ 5 j,b_ 4 s3.2] [(k,59)]) J a aq) (0,s1.2.1) ap ⟨_,b.pi [53,52,51,5,4] 1⟩ ?_ ?_
   ·clear b;rintro s3 a cc ⟨cd,b⟩ r3 e;unfold D4.b3 at e;refine za f b (s_ [b_ 54 (decide (s3.1<O)),i_ 53 s3.1,i_ 52 O,e_ 51 (.slice ((D 0).1) t.length ((D 0).2)),e_ 5 j,b_ 4 s3.2] [(k,59)]) (fun ce a cf b=>?_);refine wpIn_seq (cb b e (fun ar e=>?_) (fun ar e=>?_))
    ·refine wpIn_skip (B4 (wpIn_seq (wpIn_block ?_)));obtain ⟨a0,e⟩:=C0 e;obtain ⟨a1,au,av⟩:=eT V a0;refine zD f b [11,53,52,51,5,4] [p_ 11 1 0] [(1,((((D0).cells (rd t s3.1) a1).map EV.v),41))] (oI a0 (oA av (oW au oZ))) (fun cg a ch b=>?_);refine zD f b [60,53,52,51,5,4] [b_ 60 (((A0d s1.2.2 (rd t s3.1)).getD 0)==0)] [] (oG (.run true (vS (Instr.lookup 82 j (.agg ((D0).cells (rd t s3.1) a1).toArray) false)) (iv ((A0d s1.2.2 (rd t s3.1)).getD 0))) (fun _ wz hk=>A1u (A4b (A5x Tryz.underlying41 (by kernel_rfl) Tryz.underlying3 Tryz.underlying3 (by kernel_rfl) (by kernel_rfl) rfl rfl (by kernel_rfl) (by kernel_rfl) (fun x y h1 h2=>by cases x;cases y;simp at h1 h2;subst h1 h2;rfl)) Tryz.underlying82 (zi:=(iv 0,1,8)) (z:=0) (by kernel_rfl) rfl (A5h.keep g (hk.block _ (c.mi _ (by simp)).2.1 (c.mi _ (by simp)).2.2)) (rd t s3.1) rfl)) oZ) (fun ci a cj b=>?_);refine cb b e (fun aw e=>?_) (fun aw e=>?_)
     ·refine zc f b [4] [b_ 4 false] [] (fun ck a cl b=>?_);refine wpIn_ret (B8 (B6 (B6 ?_)));cases e;refine .inr ⟨_,rfl,fun ho=>?_⟩;subst ho;refine B8 (B6 ?_);cases h;exact r1 c b
     ·refine wpIn_skip (B9 (B4 (zh f b [53,52,51,5,4] [i_ 53 (IntKind.i64.wrap (s3.1+1))] [] (fun cm a cn b=>?_))));refine B4 ?_;cases e;exact ⟨_,rfl,⟨_,b.pi [53,52,51,5,4] 1⟩⟩
    ·refine wpIn_exit (C6 (C6 ?_));cases e;exact .inl ⟨_,rfl,rfl,⟨_,b.pi [53,52,51,5,4] 1⟩⟩
   ·clear b;rintro s3 a co ho ⟨cp,b⟩;subst ho;replace h:(some true:Option (Bool))=_:=h;refine B4 (za f b (s_ [b_ 4 true] [(k,59)]) (fun cq a cr b=>?_));refine wpIn_ret ?_;cases h;exact r1 c b
def Z4(l0:(List S9)):Option ((List S9)):=(req (decide ((([]:List S9).length+l0.length)*16≤140737488355328)) (some (([]:List S9)++l0)))
theorem Z4.calls(l0:(List S9))(A0:Option Addr)(c0:Nat)(w:World){S0_:Nat→Prop}(hr0:Arr O0 S0_ w A0 l0)(hc0:l0.length≤c0)(r:(List S9))(h:Z4 l0=some r):
    Calls Tryz.prog 34 #[.slice A0 l0.length c0] w fun e w'=>∃q:SV×(Nat→List Nat),e=.returned (.slice ((q.1 0).1) r.length ((q.1 0).2))∧H5 [] w w'∧Eng.B1r w w' [] [rb (q.1 0).1]∧Row O0 78 (fun b=>b∉([rb (q.1 0).1]:List (List Nat)).flatten∧(w.heap.size≤b∨S0_ b∨b∈[])) w' w.heap.size (q.1 0).1 (q.1 0).2 r:=by
  obtain ⟨S,p⟩:∃S:Nat→Prop,S=fun b=>S0_ b∨b∈([]:List Nat):=⟨_,rfl⟩;replace hr0:=Arr.keep hr0 (Mv.startP (mine:=[]) w p (fun _ _=>by simp));unfold Z4 at h;refine en_ Tryz.func34 (n:=8) (fun a f j g=>?_)
  let m:Value:=(.slice A0 l0.length c0)
  refine za j f (s_ [e_ 2 (.slice none 0 0),e_ 0 m] []) (fun H a J f=>?_);refine wpIn_seq (zD j f [4,2,0] [b_ 4 A0.isNone] [] (oG (.run true (vS (do eqGuard .eql 22 (.tmp 3) (.const (.slice none 0 0)) m (.slice none 0 0);binOp .eql 22 m (.slice none 0 0))) (.bool A0.isNone)) (fun _ wz hk=>A1u (A37 Tryz.underlying22 _ _ _ _ _ wz)) oZ) (fun K a L f=>?_));refine A5a f (A0.isNone) rfl (fun s=>?_) (fun s=>?_)
  ·obtain rfl:A0=none:=by cases hA_:A0 with | none=>rfl | some _=>(rw [hA_] at s;cases s)
   obtain rfl:=Arr.nil_of hr0;replace h:some ([]:(List S9))=some r:=by simpa [req] using h
   refine zc j f [2] [] [] (fun M a N f=>?_);replace ⟨g,hr0⟩:=ez _ (Ep.addNil g) hr0;have t:Row O0 78 (Lo S w w [] [rb none]) w w.heap.size none 0 ([]:List S9):=Row.nil;replace ⟨g,f,hr0,t⟩:=rz g f (t2 hr0 t);refine wpIn_ret (B6 ?_);cases h;subst p;exact r0 f ⟨(svL [(none,0)],fun i=>([]:List (List Nat)).getD i []),rfl,g.keeps f,g.handed [0] (by decide),Row.keep t (g.outO [0] _) (fun _ _=>rfl)⟩
  ·refine wpIn_skip (B4 (wpIn_seq (wpIn_region_lit ?_)));replace ⟨g,f,hr0⟩:=rz g f hr0;refine D6 (S0:=S) (d:=O0) (e:=78) j g f (C1 rfl) rfl (by kernel_rfl) (cs:=[]) (by kernel_rfl) [] [] rfl rfl (by simp [maxLen]) (fun i x hi=>by simp at hi) (fun _=>by kernel_rfl) (fun z a O B g f v C k=>?_);replace hr0:=nz v hr0;refine zl j 1 f [6,5,2] [e_ 6 m] [] (fun P a Q f=>?_);replace ⟨g,f,hr0,k⟩:=rz g f (t2 hr0 k);obtain ⟨o,h⟩:=C0 h;replace o:=of_decide_eq_true o;refine A20 (S0:=S) (l1:=[]) (l2:=[]) (d:=O0) (e:=78) j g f (C1 rfl) rfl (A:=z) (c:=(([]:List S9).length)) (l:=([]:List S9)) rfl (A2:=A0) (c2:=c0) (ys:=l0) rfl k g.k.size hr0 (fun y sv u hu=>by exact B3h _ sv u hu) Tryz.underlying22 (zi:=(.agg #[iv 0,iv 0],2,16)) (by kernel_rfl) rfl (by kernel_rfl) (A32 (b:=16) (by decide) o) o (fun _ _=>by kernel_rfl) (fun D G a R B g f v C k=>?_);replace hr0:=nz v hr0;refine zl j 1 f [2] [e_ 2 (.slice D (([]:List S9)++l0).length G)] [] (fun T a U f=>?_);refine wpListIn_nil (B4 ?_);replace ⟨g,f,hr0,k⟩:=rz g f (t2 hr0 k);refine wpIn_ret ?_;cases h;subst p;exact r0 f ⟨(svL [(D,G)],fun i=>([]:List (List Nat)).getD i []),rfl,g.keeps f,g.handed [0] (by decide),Row.keep k (g.outO [0] _) (fun _ _=>rfl)⟩
def Z3(l0:(List Q8)):Option ((List Q8)):=(req (decide ((([]:List Q8).length+l0.length)*56≤140737488355328)) (some (([]:List Q8)++l0)))
theorem Z3.calls(l0:(List Q8))(A0:Option Addr)(c0:Nat)(w:World){S0_:Nat→Prop}(hr0:Arr G5 S0_ w A0 l0)(hc0:l0.length≤c0)(r:(List Q8))(h:Z3 l0=some r):
    Calls Tryz.prog 35 #[.slice A0 l0.length c0] w fun e w'=>∃q:SV×(Nat→List Nat),e=.returned (.slice ((q.1 0).1) r.length ((q.1 0).2))∧H5 [] w w'∧Eng.B1r w w' [] [rb (q.1 0).1]∧Row G5 89 (fun b=>b∉([rb (q.1 0).1]:List (List Nat)).flatten∧(w.heap.size≤b∨S0_ b∨b∈[])) w' w.heap.size (q.1 0).1 (q.1 0).2 r:=by
  obtain ⟨S,p⟩:∃S:Nat→Prop,S=fun b=>S0_ b∨b∈([]:List Nat):=⟨_,rfl⟩;replace hr0:=Arr.keep hr0 (Mv.startP (mine:=[]) w p (fun _ _=>by simp));unfold Z3 at h;refine en_ Tryz.func35 (n:=8) (fun a f j g=>?_)
  let m:Value:=(.slice A0 l0.length c0)
  refine za j f (s_ [e_ 2 (.slice none 0 0),e_ 0 m] []) (fun H a J f=>?_);refine wpIn_seq (zD j f [4,2,0] [b_ 4 A0.isNone] [] (oG (.run true (vS (do eqGuard .eql 23 (.tmp 3) (.const (.slice none 0 0)) m (.slice none 0 0);binOp .eql 23 m (.slice none 0 0))) (.bool A0.isNone)) (fun _ wz hk=>A1u (A37 Tryz.underlying23 _ _ _ _ _ wz)) oZ) (fun K a L f=>?_));refine A5a f (A0.isNone) rfl (fun s=>?_) (fun s=>?_)
  ·obtain rfl:A0=none:=by cases hA_:A0 with | none=>rfl | some _=>(rw [hA_] at s;cases s)
   obtain rfl:=Arr.nil_of hr0;replace h:some ([]:(List Q8))=some r:=by simpa [req] using h
   refine zc j f [2] [] [] (fun M a N f=>?_);replace ⟨g,hr0⟩:=ez _ (Ep.addNil g) hr0;have t:Row G5 89 (Lo S w w [] [rb none]) w w.heap.size none 0 ([]:List Q8):=Row.nil;replace ⟨g,f,hr0,t⟩:=rz g f (t2 hr0 t);refine wpIn_ret (B6 ?_);cases h;subst p;exact r0 f ⟨(svL [(none,0)],fun i=>([]:List (List Nat)).getD i []),rfl,g.keeps f,g.handed [0] (by decide),Row.keep t (g.outO [0] _) (fun _ _=>rfl)⟩
  ·refine wpIn_skip (B4 (wpIn_seq (wpIn_region_lit ?_)));replace ⟨g,f,hr0⟩:=rz g f hr0;refine D6 (S0:=S) (d:=G5) (e:=89) j g f (C1 rfl) rfl (by kernel_rfl) (cs:=[]) (by kernel_rfl) [] [] rfl rfl (by simp [maxLen]) (fun i x hi=>by simp at hi) (fun _=>by kernel_rfl) (fun z a O B g f v C k=>?_);replace hr0:=nz v hr0;refine zl j 1 f [6,5,2] [e_ 6 m] [] (fun P a Q f=>?_);replace ⟨g,f,hr0,k⟩:=rz g f (t2 hr0 k);obtain ⟨o,h⟩:=C0 h;replace o:=of_decide_eq_true o;refine A20 (S0:=S) (l1:=[]) (l2:=[]) (d:=G5) (e:=89) j g f (C1 rfl) rfl (A:=z) (c:=(([]:List Q8).length)) (l:=([]:List Q8)) rfl (A2:=A0) (c2:=c0) (ys:=l0) rfl k g.k.size hr0 (fun y sv u hu=>by exact B3g _ sv u hu) Tryz.underlying23 (zi:=(.agg #[iv 0,iv 0,iv 0,iv 0,iv 0,iv 0,.int .u32 0],7,56)) (by kernel_rfl) rfl (by kernel_rfl) (A32 (b:=56) (by decide) o) o (fun _ _=>by kernel_rfl) (fun D G a R B g f v C k=>?_);replace hr0:=nz v hr0;refine zl j 1 f [2] [e_ 2 (.slice D (([]:List Q8)++l0).length G)] [] (fun T a U f=>?_);refine wpListIn_nil (B4 ?_);replace ⟨g,f,hr0,k⟩:=rz g f (t2 hr0 k);refine wpIn_ret ?_;cases h;subst p;exact r0 f ⟨(svL [(D,G)],fun i=>([]:List (List Nat)).getD i []),rfl,g.keeps f,g.handed [0] (by decide),Row.keep k (g.outO [0] _) (fun _ _=>rfl)⟩
def N6(l0:(List G4)):Option ((List G4)):=(req (decide ((([]:List G4).length+l0.length)*24≤140737488355328)) (some (([]:List G4)++l0)))
theorem N6.calls(l0:(List G4))(A0:Option Addr)(c0:Nat)(w:World){S0_:Nat→Prop}(hr0:Arr D9 S0_ w A0 l0)(hc0:l0.length≤c0)(r:(List G4))(h:N6 l0=some r):
    Calls Tryz.prog 36 #[.slice A0 l0.length c0] w fun e w'=>∃q:SV×(Nat→List Nat),e=.returned (.slice ((q.1 0).1) r.length ((q.1 0).2))∧H5 [] w w'∧Eng.B1r w w' [] [rb (q.1 0).1]∧Row D9 80 (fun b=>b∉([rb (q.1 0).1]:List (List Nat)).flatten∧(w.heap.size≤b∨S0_ b∨b∈[])) w' w.heap.size (q.1 0).1 (q.1 0).2 r:=by
  obtain ⟨S,p⟩:∃S:Nat→Prop,S=fun b=>S0_ b∨b∈([]:List Nat):=⟨_,rfl⟩;replace hr0:=Arr.keep hr0 (Mv.startP (mine:=[]) w p (fun _ _=>by simp));unfold N6 at h;refine en_ Tryz.func36 (n:=8) (fun a f j g=>?_)
  let m:Value:=(.slice A0 l0.length c0)
  refine za j f (s_ [e_ 2 (.slice none 0 0),e_ 0 m] []) (fun H a J f=>?_);refine wpIn_seq (zD j f [4,2,0] [b_ 4 A0.isNone] [] (oG (.run true (vS (do eqGuard .eql 24 (.tmp 3) (.const (.slice none 0 0)) m (.slice none 0 0);binOp .eql 24 m (.slice none 0 0))) (.bool A0.isNone)) (fun _ wz hk=>A1u (A37 Tryz.underlying24 _ _ _ _ _ wz)) oZ) (fun K a L f=>?_));refine A5a f (A0.isNone) rfl (fun s=>?_) (fun s=>?_)
  ·obtain rfl:A0=none:=by cases hA_:A0 with | none=>rfl | some _=>(rw [hA_] at s;cases s)
   obtain rfl:=Arr.nil_of hr0;replace h:some ([]:(List G4))=some r:=by simpa [req] using h
   refine zc j f [2] [] [] (fun M a N f=>?_);replace ⟨g,hr0⟩:=ez _ (Ep.addNil g) hr0;have t:Row D9 80 (Lo S w w [] [rb none]) w w.heap.size none 0 ([]:List G4):=Row.nil;replace ⟨g,f,hr0,t⟩:=rz g f (t2 hr0 t);refine wpIn_ret (B6 ?_);cases h;subst p;exact r0 f ⟨(svL [(none,0)],fun i=>([]:List (List Nat)).getD i []),rfl,g.keeps f,g.handed [0] (by decide),Row.keep t (g.outO [0] _) (fun _ _=>rfl)⟩
  ·refine wpIn_skip (B4 (wpIn_seq (wpIn_region_lit ?_)));replace ⟨g,f,hr0⟩:=rz g f hr0;refine D6 (S0:=S) (d:=D9) (e:=80) j g f (C1 rfl) rfl (by kernel_rfl) (cs:=[]) (by kernel_rfl) [] [] rfl rfl (by simp [maxLen]) (fun i x hi=>by simp at hi) (fun _=>by kernel_rfl) (fun z a O B g f v C k=>?_);replace hr0:=nz v hr0;refine zl j 1 f [6,5,2] [e_ 6 m] [] (fun P a Q f=>?_);replace ⟨g,f,hr0,k⟩:=rz g f (t2 hr0 k);obtain ⟨o,h⟩:=C0 h;replace o:=of_decide_eq_true o;refine A20 (S0:=S) (l1:=[]) (l2:=[]) (d:=D9) (e:=80) j g f (C1 rfl) rfl (A:=z) (c:=(([]:List G4).length)) (l:=([]:List G4)) rfl (A2:=A0) (c2:=c0) (ys:=l0) rfl k g.k.size hr0 (fun y sv u hu=>by exact B0v _ sv u hu) Tryz.underlying24 (zi:=(.agg #[iv 0,iv 0,iv 0],3,24)) (by kernel_rfl) rfl (by kernel_rfl) (A32 (b:=24) (by decide) o) o (fun _ _=>by kernel_rfl) (fun D G a R B g f v C k=>?_);replace hr0:=nz v hr0;refine zl j 1 f [2] [e_ 2 (.slice D (([]:List G4)++l0).length G)] [] (fun T a U f=>?_);refine wpListIn_nil (B4 ?_);replace ⟨g,f,hr0,k⟩:=rz g f (t2 hr0 k);refine wpIn_ret ?_;cases h;subst p;exact r0 f ⟨(svL [(D,G)],fun i=>([]:List (List Nat)).getD i []),rfl,g.keeps f,g.handed [0] (by decide),Row.keep k (g.outO [0] _) (fun _ _=>rfl)⟩
def R9(a0:Int):Option ((Option D3)×Int):=(bif (decide (a0<1)||decide (a0>4096)) then some (none,7) else (req (decide (0≤a0)&&decide ((a0:Int).toNat*(1+24)≤16777216)) (some ((some (⟨(List.replicate (a0:Int).toNat ([]:(List Int))),0,0⟩:D3)),0))))
theorem R9.calls(a0:Int)(w:World){S0_:Nat→Prop}(r:(Option D3)×Int)(h:R9 a0=some r):
    Calls Tryz.prog 37 #[iv a0] w fun e w'=>∃q:SV×(Nat→List Nat),e=.returned (.tuple #[.pointer ((q.1 0).1),iv r.2])∧H5 [] w w'∧Eng.B1r w w' [] [q.2 0]∧S3 C7 (fun b=>b∉([q.2 0]:List (List Nat)).flatten∧(w.heap.size≤b∨S0_ b∨b∈[])) w' (q.1 0).1 r.1 (q.2 0):=by
  obtain ⟨S,A⟩:∃S:Nat→Prop,S=fun b=>S0_ b∨b∈([]:List Nat):=⟨_,rfl⟩;unfold R9 at h;refine en_ Tryz.func37 (n:=14) (fun a c p f=>?_);refine za p c (s_ [i_ 3 0,e_ 2 (.pointer none),i_ 0 a0] []) (fun L a M c=>?_);refine wpIn_seq (zc p c [9,3,2,0] [b_ 9 (decide (a0<1)||decide (a0>4096))] [] (fun N a O c=>?_));refine cb c h (fun C h=>?_) (fun C h=>?_)
  ·refine zc p c [3,2] [i_ 3 7] [] (fun P a D c=>?_);obtain ⟨f,m,u⟩:=Ep.rebase f c;replace c:=c.rebase;obtain ⟨f,m⟩:=Ep.addNil f;have u:=A23 ([]:List (List Nat)) D;refine wpIn_ret (B6 ?_);cases h;subst A;exact ret2 c rfl rfl rfl ⟨(svL [(none,0)],fun i=>([[]]:List (List Nat)).getD i []),rfl,f.keeps c,f.handed [0] (by decide),S3.nil _ _ _⟩
  ·refine wpIn_skip (B4 (wpIn_seq (wpIn_region_lit (zl p 1 c [10,3,2] [i_ 10 a0] [] (fun Q a R c=>?_)))));obtain ⟨f,m,u⟩:=Ep.rebase f c;replace c:=c.rebase;obtain ⟨v,h⟩:=C0 h;rw [Bool.and_eq_true,decide_eq_true_iff,decide_eq_true_iff] at v;refine V7 (S0:=S) (d:=(Kd.slice (Kd.int .u32))) (e:=43) p f c (C1 rfl) rfl (k:=a0) rfl rfl Tryz.underlying117 (zi:=(.slice none 0 0,1,24)) (by kernel_rfl) rfl ([]) (svL []) rfl ⟨Arr.nil _ _ _ _,Nat.le_refl _⟩ v.1 v.2 (fun _=>by kernel_rfl) (fun g a T U f c m u o=>?_)
   let j:=(List.replicate (a0:Int).toNat ([]:(List Int)))
   refine zl p 4 c [3,2] [p_ 2 0 0] [(0,([.v (.slice g j.length (j.length)),.v (iv 0),.v (iv 0)],129))] (fun G a s c=>?_);refine wpListIn_nil (B4 ?_);replace ⟨f,c,o⟩:=rz f c o
   let y:=(⟨j,0,0⟩:D3)
   have B:=E4 (S:=Lo S w s G [rb g]) (w:=s) (d:=S8) (x:=y) (sv:=(svL [(g,j.length),(none,j.length)])) trivial;obtain ⟨l,H,J,c,m,V,t⟩:=B3s (d:=S8) f c 0 y (svL [(g,j.length),(none,j.length)]) 129 rfl;replace t:=t _ B;clear B;replace f:Ep [] w s H [rb g,[l]]:=J;replace o:=sz m o;obtain ⟨K,f,c,m⟩:=f.cut c [3,2] 0 (s_ [i_ 3 0,e_ 2 (.pointer (some ⟨l,0,none⟩))] []) (by kernel_rfl);replace ⟨o,t⟩:=sz m (t2 o t);have z:Ojt C7 (Lo S w s K [rb g,[l]]) s l y (l::(rb g++([]))):=Ojt.mk' (k:=C7) (svL [(g,j.length),(none,j.length)]) (Ob1.as t rfl id) ⟨rfl,⟨Row.down o,rfl⟩,trivial⟩;replace ⟨f,z⟩:=ge f [1,0] (l::(rb g++([]))) z;refine wpIn_ret ?_;cases h;subst A;exact ret2 c rfl rfl rfl ⟨(svL [(some ⟨l,0,none⟩,0)],fun i=>([(l::(rb g++([])))]:List (List Nat)).getD i []),rfl,f.keeps c,f.handed [0] (by decide),S3.of (Ojt.keep z (f.outO [0] _) (fun _ _=>rfl))⟩
def Z5(a0:Int):Option ((Option J0)×Int):=(bif (decide (a0<0)||decide (a0>64)) then some (none,7) else some ((some (⟨a0,0⟩:J0)),0))
theorem Z5.calls(a0:Int)(w:World){S0_:Nat→Prop}(r:(Option J0)×Int)(h:Z5 a0=some r):
    Calls Tryz.prog 38 #[iv a0] w fun e w'=>∃q:SV×(Nat→List Nat),e=.returned (.tuple #[.pointer ((q.1 0).1),iv r.2])∧H5 [] w w'∧Eng.B1r w w' [] [q.2 0]∧S3 N0 (fun b=>b∉([q.2 0]:List (List Nat)).flatten∧(w.heap.size≤b∨S0_ b∨b∈[])) w' (q.1 0).1 r.1 (q.2 0):=by
  obtain ⟨S,u⟩:∃S:Nat→Prop,S=fun b=>S0_ b∨b∈([]:List Nat):=⟨_,rfl⟩;unfold Z5 at h;refine en_ Tryz.func38 (n:=13) (fun a c o f=>?_);refine za o c (s_ [i_ 3 0,e_ 2 (.pointer none),i_ 0 a0] []) (fun G a H c=>?_);refine wpIn_seq (zc o c [9,3,2,0] [b_ 9 (decide (a0<0)||decide (a0>64))] [] (fun J a K c=>?_));refine cb c h (fun y h=>?_) (fun y h=>?_)
  ·refine zc o c [3,2] [i_ 3 7] [] (fun L a z c=>?_);obtain ⟨f,l,p⟩:=Ep.rebase f c;replace c:=c.rebase;obtain ⟨f,l⟩:=Ep.addNil f;have p:=A23 ([]:List (List Nat)) z;refine wpIn_ret (B6 ?_);cases h;subst u;exact ret2 c rfl rfl rfl ⟨(svL [(none,0)],fun i=>([[]]:List (List Nat)).getD i []),rfl,f.keeps c,f.handed [0] (by decide),S3.nil _ _ _⟩
  ·refine wpIn_skip (B4 (zc o c [3,2] [p_ 2 0 0] [(0,([.v (iv a0),.v (.int .u64 0)],131))] (fun A a j c=>?_)));obtain ⟨f,l,p⟩:=Ep.rebase f c;replace c:=c.rebase
   let s:=(⟨a0,0⟩:J0)
   have v:=E4 (S:=Lo S w j A []) (w:=j) (d:=A3a) (x:=s) (sv:=(svL [])) trivial;obtain ⟨g,B,C,c,l,M,m⟩:=B3s (d:=A3a) f c 0 s (svL []) 131 rfl;replace m:=m _ v;clear v;replace f:Ep [] w j B [[g]]:=C;have p:=A23 ([[g]]:List (List Nat)) j;obtain ⟨D,f,c,l⟩:=f.cut c [3,2] 0 (s_ [i_ 3 0,e_ 2 (.pointer (some ⟨g,0,none⟩))] []) (by kernel_rfl);replace m:=sz l m;have t:Ojt N0 (Lo S w j D [[g]]) j g s (g::([])):=Ojt.mk' (k:=N0) (svL []) (Ob1.as m rfl id) ⟨rfl,trivial⟩;replace ⟨f,t⟩:=ge f [0] (g::([])) t;refine wpIn_ret ?_;cases h;subst u;exact ret2 c rfl rfl rfl ⟨(svL [(some ⟨g,0,none⟩,0)],fun i=>([(g::([]))]:List (List Nat)).getD i []),rfl,f.keeps c,f.handed [0] (by decide),S3.of (Ojt.keep t (f.outO [0] _) (fun _ _=>rfl))⟩
end
end Go.Proofs.YtpdflibmhchlbaaGreatDoor
