/- Walks of the seat's functions. No statement is proved here. Conditions: none. -/
import Derived.Test.YtdpfnklgdkigdaaGreatDoorProg
import Derived.Test.YtdpfnklgdkigdaaGreatDoorEng
set_option linter.unusedVariables false
set_option linter.unusedSimpArgs false
set_option maxRecDepth 100000
set_option maxHeartbeats 4000000
namespace Go.Proofs.YtdpfnklgdkigdaaGreatDoor
open Go Go.RowKit Go.Eng Go.Proofs
noncomputable section
structure Part where
  Core:Int
  Private:Int
  deriving Inhabited,DecidableEq
def kd_Part:Kd Part:=⟨2,fun x sv=>[.int .i64 x.Core,.int .i64 x.Private],fun S w x sv=>True,fun _ _=>rfl,Nat.le_of_ble_eq_true rfl,fun h hk=>trivial⟩
theorem kd_one_Part(x:Part)(sv:SV)(u:Value)(hu:u∈kd_Part.cells x sv):u.oneCell'=true:=by
  simp only [kd_Part,List.mem_cons,List.not_mem_nil,or_false] at hu;rcases hu with rfl | rfl
  all_goals rfl
structure Chan where
  Kind:Int
  From:Int
  To:Int
  Words:Int
  Depth:Int
  Period:Int
  Boot:Int
  deriving Inhabited,DecidableEq
def kd_Chan:Kd Chan:=⟨7,fun x sv=>[.int .i64 x.Kind,.int .i64 x.From,.int .i64 x.To,.int .i64 x.Words,.int .i64 x.Depth,.int .i64 x.Period,.int .u32 x.Boot],fun S w x sv=>True,fun _ _=>rfl,Nat.le_of_ble_eq_true rfl,fun h hk=>trivial⟩
structure Window where
  Part:Int
  Start:Int
  Len:Int
  deriving Inhabited,DecidableEq
def kd_Window:Kd Window:=⟨3,fun x sv=>[.int .i64 x.Part,.int .i64 x.Start,.int .i64 x.Len],fun S w x sv=>True,fun _ _=>rfl,Nat.le_of_ble_eq_true rfl,fun h hk=>trivial⟩
structure Frame where
  Length:Int
  Windows:(List Window)
  deriving Inhabited,DecidableEq
def kd_Frame:Kd Frame:=⟨2,fun x sv=>[.int .i64 x.Length,.slice (sv 0).1 x.Windows.length (sv 0).2],fun S w x sv=>(Arr kd_Window S w (sv 0).1 x.Windows∧x.Windows.length≤(sv 0).2)∧True,fun _ _=>rfl,Nat.le_of_ble_eq_true rfl,fun h hk=>⟨⟨h.1.1.keep hk,h.1.2⟩,trivial⟩⟩
structure St27 where
  e0:Frame
  e1:Frame
  deriving Inhabited,DecidableEq
def kd_St27:Kd St27:=⟨4,fun x sv=>[.int .i64 x.e0.Length,.slice (sv 0).1 x.e0.Windows.length (sv 0).2,.int .i64 x.e1.Length,.slice (sv 1).1 x.e1.Windows.length (sv 1).2],fun S w x sv=>(Arr kd_Window S w (sv 0).1 x.e0.Windows∧x.e0.Windows.length≤(sv 0).2)∧(Arr kd_Window S w (sv 1).1 x.e1.Windows∧x.e1.Windows.length≤(sv 1).2)∧True,fun _ _=>rfl,Nat.le_of_ble_eq_true rfl,fun h hk=>⟨⟨h.1.1.keep hk,h.1.2⟩,⟨h.2.1.1.keep hk,h.2.1.2⟩,trivial⟩⟩
def rdA_St27(x:St27)(i:Int):Frame:=if i=0 then x.e0 else x.e1
theorem elA_St27{S:Nat→Prop}{w:World}{B:Addr}{x:St27}{sv:SV}(h:El kd_St27 S w B x sv){i:Int}(hi:inb i 2=true):El kd_Frame S w (B.add (i.toNat*2)) (rdA_St27 x i) (svO sv (i.toNat*1)):=by
  obtain ⟨h0,h1⟩:=inb_spec hi;have:i=0∨i=1:=by omega
  rcases this with rfl | rfl
  · exact El.part h (0*2) x.e0 (svO sv (0*1)) ⟨h.cont.1,trivial⟩ rfl
  · exact El.part h (1*2) x.e1 (svO sv (1*1)) ⟨h.cont.2.1,trivial⟩ rfl
structure Config where
  Parts:(List Part)
  Chans:(List Chan)
  Frames:St27
  deriving Inhabited,DecidableEq
def kd_Config:Kd Config:=⟨6,fun x sv=>[.slice (sv 0).1 x.Parts.length (sv 0).2,.slice (sv 1).1 x.Chans.length (sv 1).2,.int .i64 x.Frames.e0.Length,.slice (sv 2).1 x.Frames.e0.Windows.length (sv 2).2,.int .i64 x.Frames.e1.Length,.slice (sv 3).1 x.Frames.e1.Windows.length (sv 3).2],fun S w x sv=>(Arr kd_Part S w (sv 0).1 x.Parts∧x.Parts.length≤(sv 0).2)∧(Arr kd_Chan S w (sv 1).1 x.Chans∧x.Chans.length≤(sv 1).2)∧(Arr kd_Window S w (sv 2).1 x.Frames.e0.Windows∧x.Frames.e0.Windows.length≤(sv 2).2)∧(Arr kd_Window S w (sv 3).1 x.Frames.e1.Windows∧x.Frames.e1.Windows.length≤(sv 3).2)∧True,fun _ _=>rfl,Nat.le_of_ble_eq_true rfl,fun h hk=>⟨⟨h.1.1.keep hk,h.1.2⟩,⟨h.2.1.1.keep hk,h.2.1.2⟩,⟨h.2.2.1.1.keep hk,h.2.2.1.2⟩,⟨h.2.2.2.1.1.keep hk,h.2.2.2.1.2⟩,trivial⟩⟩
inductive Fn197 where
  | f110
  | f111
  deriving Inhabited,DecidableEq
def fid197(x:Fn197):Nat:=match x with
  | .f110=>110
  | .f111=>111
def fca197(x:Fn197)(sv:SV):Array Value:=match x with
  | .f110=> #[]
  | .f111=> #[]
def fnv197(x:Fn197)(sv:SV):Value:=.func (.func (fid197 x)) #[] (fca197 x sv)
def fnc197(S:Nat→Prop)(w:World)(x:Fn197)(sv:SV):Prop:=match x with
  | .f110=>True
  | .f111=>True
theorem fnk197{S S':Nat→Prop}{w w':World}{x:Fn197}{sv:SV}(h:fnc197 S w x sv)(hk:∀b,S b→IsC w b→S' b∧w'.heap[b]? =w.heap[b]?):fnc197 S' w' x sv:=by
  cases x with
  | f110=>exact trivial
  | f111=>exact trivial
def kdF197:Kd Fn197:=⟨1,fun x sv=>[fnv197 x sv],fun S w x sv=>fnc197 S w x sv,fun _ _=>rfl,Nat.one_pos,fun h hk=>fnk197 h hk⟩
inductive Fn199 where
  | f114
  | f115
  | f117
  | f118
  | f119
  | f121
  | f123
  deriving Inhabited,DecidableEq
def fid199(x:Fn199):Nat:=match x with
  | .f114=>114
  | .f115=>115
  | .f117=>117
  | .f118=>118
  | .f119=>119
  | .f121=>121
  | .f123=>123
def fca199(x:Fn199)(sv:SV):Array Value:=match x with
  | .f114=> #[]
  | .f115=> #[]
  | .f117=> #[]
  | .f118=> #[]
  | .f119=> #[]
  | .f121=> #[]
  | .f123=> #[]
def fnv199(x:Fn199)(sv:SV):Value:=.func (.func (fid199 x)) #[] (fca199 x sv)
def fnc199(S:Nat→Prop)(w:World)(x:Fn199)(sv:SV):Prop:=match x with
  | .f114=>True
  | .f115=>True
  | .f117=>True
  | .f118=>True
  | .f119=>True
  | .f121=>True
  | .f123=>True
theorem fnk199{S S':Nat→Prop}{w w':World}{x:Fn199}{sv:SV}(h:fnc199 S w x sv)(hk:∀b,S b→IsC w b→S' b∧w'.heap[b]? =w.heap[b]?):fnc199 S' w' x sv:=by
  cases x with
  | f114=>exact trivial
  | f115=>exact trivial
  | f117=>exact trivial
  | f118=>exact trivial
  | f119=>exact trivial
  | f121=>exact trivial
  | f123=>exact trivial
def kdF199:Kd Fn199:=⟨1,fun x sv=>[fnv199 x sv],fun S w x sv=>fnc199 S w x sv,fun _ _=>rfl,Nat.one_pos,fun h hk=>fnk199 h hk⟩
inductive Fn203 where
  | f128
  | f129
  deriving Inhabited,DecidableEq
def fid203(x:Fn203):Nat:=match x with
  | .f128=>128
  | .f129=>129
def fca203(x:Fn203)(sv:SV):Array Value:=match x with
  | .f128=> #[]
  | .f129=> #[]
def fnv203(x:Fn203)(sv:SV):Value:=.func (.func (fid203 x)) #[] (fca203 x sv)
def fnc203(S:Nat→Prop)(w:World)(x:Fn203)(sv:SV):Prop:=match x with
  | .f128=>True
  | .f129=>True
theorem fnk203{S S':Nat→Prop}{w w':World}{x:Fn203}{sv:SV}(h:fnc203 S w x sv)(hk:∀b,S b→IsC w b→S' b∧w'.heap[b]? =w.heap[b]?):fnc203 S' w' x sv:=by
  cases x with
  | f128=>exact trivial
  | f129=>exact trivial
def kdF203:Kd Fn203:=⟨1,fun x sv=>[fnv203 x sv],fun S w x sv=>fnc203 S w x sv,fun _ _=>rfl,Nat.one_pos,fun h hk=>fnk203 h hk⟩
inductive Fn134 where
  | f143 (c0:Fn203)
  | f125
  | f126
  | f130
  deriving Inhabited,DecidableEq
def fid134(x:Fn134):Nat:=match x with
  | .f143 _=>143
  | .f125=>125
  | .f126=>126
  | .f130=>130
def fca134(x:Fn134)(sv:SV):Array Value:=match x with
  | .f143 _=> #[.pointer (some (adr (sv 0).1))]
  | .f125=> #[]
  | .f126=> #[]
  | .f130=> #[]
def fnv134(x:Fn134)(sv:SV):Value:=.func (.func (fid134 x)) #[] (fca134 x sv)
def fnc134(S:Nat→Prop)(w:World)(x:Fn134)(sv:SV):Prop:=match x with
  | .f143 c0=>El kdF203 S w (adr (sv 0).1) c0 (svO sv 1)
  | .f125=>True
  | .f126=>True
  | .f130=>True
theorem fnk134{S S':Nat→Prop}{w w':World}{x:Fn134}{sv:SV}(h:fnc134 S w x sv)(hk:∀b,S b→IsC w b→S' b∧w'.heap[b]? =w.heap[b]?):fnc134 S' w' x sv:=by
  cases x with
  | f143 c0=>exact El.keep h hk
  | f125=>exact trivial
  | f126=>exact trivial
  | f130=>exact trivial
def kdF134:Kd Fn134:=⟨1,fun x sv=>[fnv134 x sv],fun S w x sv=>fnc134 S w x sv,fun _ _=>rfl,Nat.one_pos,fun h hk=>fnk134 h hk⟩
inductive Fn63 where
  | f137 (c0:Fn197)
  | f139 (c0:Fn199)
  | f142 (c0:Fn134)
  | f107
  | f112
  | f131
  deriving Inhabited,DecidableEq
def fid63(x:Fn63):Nat:=match x with
  | .f137 _=>137
  | .f139 _=>139
  | .f142 _=>142
  | .f107=>107
  | .f112=>112
  | .f131=>131
def fca63(x:Fn63)(sv:SV):Array Value:=match x with
  | .f137 _=> #[.pointer (some (adr (sv 0).1))]
  | .f139 _=> #[.pointer (some (adr (sv 0).1))]
  | .f142 _=> #[.pointer (some (adr (sv 0).1))]
  | .f107=> #[]
  | .f112=> #[]
  | .f131=> #[]
def fnv63(x:Fn63)(sv:SV):Value:=.func (.func (fid63 x)) #[] (fca63 x sv)
def fnc63(S:Nat→Prop)(w:World)(x:Fn63)(sv:SV):Prop:=match x with
  | .f137 c0=>El kdF197 S w (adr (sv 0).1) c0 (svO sv 1)
  | .f139 c0=>El kdF199 S w (adr (sv 0).1) c0 (svO sv 1)
  | .f142 c0=>El kdF134 S w (adr (sv 0).1) c0 (svO sv 1)
  | .f107=>True
  | .f112=>True
  | .f131=>True
theorem fnk63{S S':Nat→Prop}{w w':World}{x:Fn63}{sv:SV}(h:fnc63 S w x sv)(hk:∀b,S b→IsC w b→S' b∧w'.heap[b]? =w.heap[b]?):fnc63 S' w' x sv:=by
  cases x with
  | f137 c0=>exact El.keep h hk
  | f139 c0=>exact El.keep h hk
  | f142 c0=>exact El.keep h hk
  | f107=>exact trivial
  | f112=>exact trivial
  | f131=>exact trivial
def kdF63:Kd Fn63:=⟨1,fun x sv=>[fnv63 x sv],fun S w x sv=>fnc63 S w x sv,fun _ _=>rfl,Nat.one_pos,fun h hk=>fnk63 h hk⟩
structure Defect_rule where
  holds:Fn63
  deriving Inhabited,DecidableEq
def kd_Defect_rule:Kd Defect_rule:=⟨1,fun x sv=>[(fnv63 x.holds sv)],fun S w x sv=>(fnc63 S w x.holds sv)∧True,fun _ _=>rfl,Nat.le_of_ble_eq_true rfl,fun h hk=>⟨fnk63 h.1 hk,trivial⟩⟩
inductive Fn200 where
  | f141 (c0:Fn199) (c1:Config)
  deriving Inhabited,DecidableEq
def fid200(x:Fn200):Nat:=match x with
  | .f141 _ _=>141
def fca200(x:Fn200)(sv:SV):Array Value:=match x with
  | .f141 _ _=> #[.pointer (some (adr (sv 0).1)),.pointer (some (adr (sv 1).1))]
def fnv200(x:Fn200)(sv:SV):Value:=.func (.func (fid200 x)) #[] (fca200 x sv)
def fnc200(S:Nat→Prop)(w:World)(x:Fn200)(sv:SV):Prop:=match x with
  | .f141 c0 c1=>El kdF199 S w (adr (sv 0).1) c0 (svO sv 1)∧El kd_Config S w (adr (sv 1).1) c1 (svO sv 2)
theorem fnk200{S S':Nat→Prop}{w w':World}{x:Fn200}{sv:SV}(h:fnc200 S w x sv)(hk:∀b,S b→IsC w b→S' b∧w'.heap[b]? =w.heap[b]?):fnc200 S' w' x sv:=by
  cases x with
  | f141 c0 c1=>exact ⟨El.keep h.1 hk,El.keep h.2 hk⟩
def kdF200:Kd Fn200:=⟨1,fun x sv=>[fnv200 x sv],fun S w x sv=>fnc200 S w x sv,fun _ _=>rfl,Nat.one_pos,fun h hk=>fnk200 h hk⟩
inductive Fn209 where
  | f145 (c0:Fn203) (c1:Config) (c2:Int)
  | f148 (c0:Int)
  deriving Inhabited,DecidableEq
def fid209(x:Fn209):Nat:=match x with
  | .f145 _ _ _=>145
  | .f148 _=>148
def fca209(x:Fn209)(sv:SV):Array Value:=match x with
  | .f145 _ _ _=> #[.pointer (some (adr (sv 0).1)),.pointer (some (adr (sv 1).1)),.pointer (some (adr (sv 6).1))]
  | .f148 _=> #[.pointer (some (adr (sv 0).1))]
def fnv209(x:Fn209)(sv:SV):Value:=.func (.func (fid209 x)) #[] (fca209 x sv)
def fnc209(S:Nat→Prop)(w:World)(x:Fn209)(sv:SV):Prop:=match x with
  | .f145 c0 c1 c2=>El kdF203 S w (adr (sv 0).1) c0 (svO sv 1)∧El kd_Config S w (adr (sv 1).1) c1 (svO sv 2)∧El (Kd.int .i64) S w (adr (sv 6).1) c2 (svO sv 7)
  | .f148 c0=>El (Kd.int .i64) S w (adr (sv 0).1) c0 (svO sv 1)
theorem fnk209{S S':Nat→Prop}{w w':World}{x:Fn209}{sv:SV}(h:fnc209 S w x sv)(hk:∀b,S b→IsC w b→S' b∧w'.heap[b]? =w.heap[b]?):fnc209 S' w' x sv:=by
  cases x with
  | f145 c0 c1 c2=>exact ⟨El.keep h.1 hk,El.keep h.2.1 hk,El.keep h.2.2 hk⟩
  | f148 c0=>exact El.keep h hk
def kdF209:Kd Fn209:=⟨1,fun x sv=>[fnv209 x sv],fun S w x sv=>fnc209 S w x sv,fun _ _=>rfl,Nat.one_pos,fun h hk=>fnk209 h hk⟩
structure St135 where
  e0:ByteArray
  e1:ByteArray
  e2:ByteArray
  e3:ByteArray
  e4:ByteArray
  e5:ByteArray
  e6:ByteArray
  e7:ByteArray
  e8:ByteArray
  e9:ByteArray
  deriving Inhabited,DecidableEq
def kd_St135:Kd St135:=⟨10,fun x sv=>[.string x.e0,.string x.e1,.string x.e2,.string x.e3,.string x.e4,.string x.e5,.string x.e6,.string x.e7,.string x.e8,.string x.e9],fun S w x sv=>True,fun _ _=>rfl,Nat.le_of_ble_eq_true rfl,fun h hk=>trivial⟩
def rdA_St135(x:St135)(i:Int):ByteArray:=if i=0 then x.e0 else if i=1 then x.e1 else if i=2 then x.e2 else if i=3 then x.e3 else if i=4 then x.e4 else if i=5 then x.e5 else if i=6 then x.e6 else if i=7 then x.e7 else if i=8 then x.e8 else x.e9
theorem elA_St135{S:Nat→Prop}{w:World}{B:Addr}{x:St135}{sv:SV}(h:El kd_St135 S w B x sv){i:Int}(hi:inb i 10=true):El Kd.str S w (B.add (i.toNat*1)) (rdA_St135 x i) (svO sv (i.toNat*0)):=by
  obtain ⟨h0,h1⟩:=inb_spec hi;have:i=0∨i=1∨i=2∨i=3∨i=4∨i=5∨i=6∨i=7∨i=8∨i=9:=by omega
  rcases this with rfl | rfl | rfl | rfl | rfl | rfl | rfl | rfl | rfl | rfl
  · exact El.part h (0*1) x.e0 (svO sv (0*0)) trivial rfl
  · exact El.part h (1*1) x.e1 (svO sv (1*0)) trivial rfl
  · exact El.part h (2*1) x.e2 (svO sv (2*0)) trivial rfl
  · exact El.part h (3*1) x.e3 (svO sv (3*0)) trivial rfl
  · exact El.part h (4*1) x.e4 (svO sv (4*0)) trivial rfl
  · exact El.part h (5*1) x.e5 (svO sv (5*0)) trivial rfl
  · exact El.part h (6*1) x.e6 (svO sv (6*0)) trivial rfl
  · exact El.part h (7*1) x.e7 (svO sv (7*0)) trivial rfl
  · exact El.part h (8*1) x.e8 (svO sv (8*0)) trivial rfl
  · exact El.part h (9*1) x.e9 (svO sv (9*0)) trivial rfl
structure Request where
  Op:Int
  Port:Int
  Addr:Int
  Data:(List Int)
  deriving Inhabited,DecidableEq
def kd_Request:Kd Request:=⟨4,fun x sv=>[.int .i64 x.Op,.int .i64 x.Port,.int .u64 x.Addr,.slice (sv 0).1 x.Data.length (sv 0).2],fun S w x sv=>(Arr (Kd.int .u32) S w (sv 0).1 x.Data∧x.Data.length≤(sv 0).2)∧True,fun _ _=>rfl,Nat.le_of_ble_eq_true rfl,fun h hk=>⟨⟨h.1.1.keep hk,h.1.2⟩,trivial⟩⟩
structure Standing where
  Part:Int
  Normal:Bool
  Made:(List Int)
  Valid:(List Int)
  deriving Inhabited,DecidableEq
def kd_Standing:Kd Standing:=⟨4,fun x sv=>[.int .i64 x.Part,.bool x.Normal,.slice (sv 0).1 x.Made.length (sv 0).2,.slice (sv 1).1 x.Valid.length (sv 1).2],fun S w x sv=>(Arr (Kd.int .i64) S w (sv 0).1 x.Made∧x.Made.length≤(sv 0).2)∧(Arr (Kd.int .i64) S w (sv 1).1 x.Valid∧x.Valid.length≤(sv 1).2)∧True,fun _ _=>rfl,Nat.le_of_ble_eq_true rfl,fun h hk=>⟨⟨h.1.1.keep hk,h.1.2⟩,⟨h.2.1.1.keep hk,h.2.1.2⟩,trivial⟩⟩
structure Sign_asked where
  Request:Request
  c:Config
  s:Standing
  channel:Chan
  source:Bool
  own:Bool
  deriving Inhabited,DecidableEq
def kd_Sign_asked:Kd Sign_asked:=⟨23,fun x sv=>[.int .i64 x.Request.Op,.int .i64 x.Request.Port,.int .u64 x.Request.Addr,.slice (sv 0).1 x.Request.Data.length (sv 0).2,.slice (sv 1).1 x.c.Parts.length (sv 1).2,.slice (sv 2).1 x.c.Chans.length (sv 2).2,.int .i64 x.c.Frames.e0.Length,.slice (sv 3).1 x.c.Frames.e0.Windows.length (sv 3).2,.int .i64 x.c.Frames.e1.Length,.slice (sv 4).1 x.c.Frames.e1.Windows.length (sv 4).2,.int .i64 x.s.Part,.bool x.s.Normal,.slice (sv 5).1 x.s.Made.length (sv 5).2,.slice (sv 6).1 x.s.Valid.length (sv 6).2,.int .i64 x.channel.Kind,.int .i64 x.channel.From,.int .i64 x.channel.To,.int .i64 x.channel.Words,.int .i64 x.channel.Depth,.int .i64 x.channel.Period,.int .u32 x.channel.Boot,.bool x.source,.bool x.own],fun S w x sv=>(Arr (Kd.int .u32) S w (sv 0).1 x.Request.Data∧x.Request.Data.length≤(sv 0).2)∧(Arr kd_Part S w (sv 1).1 x.c.Parts∧x.c.Parts.length≤(sv 1).2)∧(Arr kd_Chan S w (sv 2).1 x.c.Chans∧x.c.Chans.length≤(sv 2).2)∧(Arr kd_Window S w (sv 3).1 x.c.Frames.e0.Windows∧x.c.Frames.e0.Windows.length≤(sv 3).2)∧(Arr kd_Window S w (sv 4).1 x.c.Frames.e1.Windows∧x.c.Frames.e1.Windows.length≤(sv 4).2)∧(Arr (Kd.int .i64) S w (sv 5).1 x.s.Made∧x.s.Made.length≤(sv 5).2)∧(Arr (Kd.int .i64) S w (sv 6).1 x.s.Valid∧x.s.Valid.length≤(sv 6).2)∧True,fun _ _=>rfl,Nat.le_of_ble_eq_true rfl,fun h hk=>⟨⟨h.1.1.keep hk,h.1.2⟩,⟨h.2.1.1.keep hk,h.2.1.2⟩,⟨h.2.2.1.1.keep hk,h.2.2.1.2⟩,⟨h.2.2.2.1.1.keep hk,h.2.2.2.1.2⟩,⟨h.2.2.2.2.1.1.keep hk,h.2.2.2.2.1.2⟩,⟨h.2.2.2.2.2.1.1.keep hk,h.2.2.2.2.2.1.2⟩,⟨h.2.2.2.2.2.2.1.1.keep hk,h.2.2.2.2.2.2.1.2⟩,trivial⟩⟩
inductive Fn105 where
  | f46 (c0:Int) (c1:Bool)
  | f48
  | f49
  | f50
  | f51
  | f52
  | f53
  | f54
  | f55
  | f56
  deriving Inhabited,DecidableEq
def fid105(x:Fn105):Nat:=match x with
  | .f46 _ _=>46
  | .f48=>48
  | .f49=>49
  | .f50=>50
  | .f51=>51
  | .f52=>52
  | .f53=>53
  | .f54=>54
  | .f55=>55
  | .f56=>56
def fca105(x:Fn105)(sv:SV):Array Value:=match x with
  | .f46 _ _=> #[.pointer (some (adr (sv 0).1)),.pointer (some (adr (sv 1).1))]
  | .f48=> #[]
  | .f49=> #[]
  | .f50=> #[]
  | .f51=> #[]
  | .f52=> #[]
  | .f53=> #[]
  | .f54=> #[]
  | .f55=> #[]
  | .f56=> #[]
def fnv105(x:Fn105)(sv:SV):Value:=.func (.func (fid105 x)) #[] (fca105 x sv)
def fnc105(S:Nat→Prop)(w:World)(x:Fn105)(sv:SV):Prop:=match x with
  | .f46 c0 c1=>El (Kd.int .i64) S w (adr (sv 0).1) c0 (svO sv 1)∧El Kd.bool S w (adr (sv 1).1) c1 (svO sv 2)
  | .f48=>True
  | .f49=>True
  | .f50=>True
  | .f51=>True
  | .f52=>True
  | .f53=>True
  | .f54=>True
  | .f55=>True
  | .f56=>True
theorem fnk105{S S':Nat→Prop}{w w':World}{x:Fn105}{sv:SV}(h:fnc105 S w x sv)(hk:∀b,S b→IsC w b→S' b∧w'.heap[b]? =w.heap[b]?):fnc105 S' w' x sv:=by
  cases x with
  | f46 c0 c1=>exact ⟨El.keep h.1 hk,El.keep h.2 hk⟩
  | f48=>exact trivial
  | f49=>exact trivial
  | f50=>exact trivial
  | f51=>exact trivial
  | f52=>exact trivial
  | f53=>exact trivial
  | f54=>exact trivial
  | f55=>exact trivial
  | f56=>exact trivial
def kdF105:Kd Fn105:=⟨1,fun x sv=>[fnv105 x sv],fun S w x sv=>fnc105 S w x sv,fun _ _=>rfl,Nat.one_pos,fun h hk=>fnk105 h hk⟩
structure Span where
  From:Int
  Size:Int
  deriving Inhabited,DecidableEq
def kd_Span:Kd Span:=⟨2,fun x sv=>[.int .i64 x.From,.int .i64 x.Size],fun S w x sv=>True,fun _ _=>rfl,Nat.le_of_ble_eq_true rfl,fun h hk=>trivial⟩
theorem kd_one_Span(x:Span)(sv:SV)(u:Value)(hu:u∈kd_Span.cells x sv):u.oneCell'=true:=by
  simp only [kd_Span,List.mem_cons,List.not_mem_nil,or_false] at hu;rcases hu with rfl | rfl
  all_goals rfl
structure Layout_plan where
  parts:Int
  l:(List Span)
  end_:Int
  deriving Inhabited,DecidableEq
def kd_Layout_plan:Kd Layout_plan:=⟨3,fun x sv=>[.int .i64 x.parts,.slice (sv 0).1 x.l.length (sv 0).2,.int .i64 x.end_],fun S w x sv=>(Arr kd_Span S w (sv 0).1 x.l∧x.l.length≤(sv 0).2)∧True,fun _ _=>rfl,Nat.le_of_ble_eq_true rfl,fun h hk=>⟨⟨h.1.1.keep hk,h.1.2⟩,trivial⟩⟩
structure Sign_row where
  ops:ByteArray
  holds:Fn105
  code:Int
  deriving Inhabited,DecidableEq
def kd_Sign_row:Kd Sign_row:=⟨3,fun x sv=>[.string x.ops,(fnv105 x.holds sv),.int .i64 x.code],fun S w x sv=>(fnc105 S w x.holds sv)∧True,fun _ _=>rfl,Nat.le_of_ble_eq_true rfl,fun h hk=>⟨fnk105 h.1 hk,trivial⟩⟩
structure Four_places where
  source:Int
  reading:Int
  words:Int
  period:Int
  deriving Inhabited,DecidableEq
def kd_Four_places:Kd Four_places:=⟨4,fun x sv=>[.int .i64 x.source,.int .i64 x.reading,.int .i64 x.words,.int .i64 x.period],fun S w x sv=>True,fun _ _=>rfl,Nat.le_of_ble_eq_true rfl,fun h hk=>trivial⟩
structure Mem_Mem where
  words:(List Int)
  deriving Inhabited,DecidableEq
def kd_Mem_Mem:Kd Mem_Mem:=⟨1,fun x sv=>[.slice (sv 0).1 (sv 1).2 (sv 0).2],fun S w x sv=>True,fun _ _=>rfl,Nat.le_of_ble_eq_true rfl,fun h hk=>trivial⟩
def lv_Mem_Mem(S:Nat→Prop)(w:World)(b:Nat)(x:Mem_Mem)(sv:SV)(F:List Nat):Prop:=F=rb (sv 0).1++([])∧(Row (Kd.int .u32) 45 S w 0 (sv 0).1 (sv 0).2 x.words∧x.words.length=(sv 1).2)∧True
theorem lvk_Mem_Mem{S S':Nat→Prop}{w w':World}{b:Nat}{x:Mem_Mem}{sv:SV}{F:List Nat}(h:lv_Mem_Mem S w b x sv F)(hk:Mv S w S' w')(hb:∀b∈F,w'.heap[b]? =w.heap[b]?):lv_Mem_Mem S' w' b x sv F:=by
  obtain ⟨hF,h0,_⟩:=h;exact ⟨hF,⟨Row.keep h0.1 hk (fun c hc=>hb c (hF▸List.mem_append_left _ hc)),h0.2⟩,trivial⟩
theorem lvn_Mem_Mem{S:Nat→Prop}{w:World}{b:Nat}{x:Mem_Mem}{sv:SV}{F:List Nat}(h:lv_Mem_Mem S w b x sv F):∀b∈F,b<w.heap.size∧∀q,w.heap[b]? ≠some (.deferred q):=by
  obtain ⟨hF,h0,_⟩:=h;intro c hc;rw [hF] at hc;rcases List.mem_append.1 hc with hc | hc
  · exact h0.1.ndl c hc
  cases hc
def lk_Mem_Mem:Lk Mem_Mem:=⟨kd_Mem_Mem,93,lv_Mem_Mem,fun h hk hb=>lvk_Mem_Mem h hk hb,fun h=>lvn_Mem_Mem h⟩
abbrev Fn115:=Unit
def fnv115(_:Fn115)(sv:SV):Value:=.pointer (sv 0).1
def fnc115(S:Nat→Prop)(w:World)(x:Fn115)(sv:SV):Prop:=True
theorem fnk115{S S':Nat→Prop}{w w':World}{x:Fn115}{sv:SV}(h:fnc115 S w x sv)(hk:∀b,S b→IsC w b→S' b∧w'.heap[b]? =w.heap[b]?):fnc115 S' w' x sv:=trivial
def kdF115:Kd Fn115:=⟨1,fun x sv=>[fnv115 x sv],fun S w x sv=>fnc115 S w x sv,fun _ _=>rfl,Nat.one_pos,fun h hk=>fnk115 h hk⟩
structure Answer where
  Code:Int
  Data:(List Int)
  Valid:Bool
  Count:Int
  deriving Inhabited,DecidableEq
def kd_Answer:Kd Answer:=⟨4,fun x sv=>[.int .i64 x.Code,.slice (sv 0).1 x.Data.length (sv 0).2,.bool x.Valid,.int .i64 x.Count],fun S w x sv=>(Arr (Kd.int .u32) S w (sv 0).1 x.Data∧x.Data.length≤(sv 0).2)∧True,fun _ _=>rfl,Nat.le_of_ble_eq_true rfl,fun h hk=>⟨⟨h.1.1.keep hk,h.1.2⟩,trivial⟩⟩
structure Did where
  Done:Bool
  Ans:Answer
  Mark:Bool
  Ring:Bool
  Stamped:Bool
  Buffer:Int
  deriving Inhabited,DecidableEq
def kd_Did:Kd Did:=⟨9,fun x sv=>[.bool x.Done,.int .i64 x.Ans.Code,.slice (sv 0).1 x.Ans.Data.length (sv 0).2,.bool x.Ans.Valid,.int .i64 x.Ans.Count,.bool x.Mark,.bool x.Ring,.bool x.Stamped,.int .i64 x.Buffer],fun S w x sv=>(Arr (Kd.int .u32) S w (sv 0).1 x.Ans.Data∧x.Ans.Data.length≤(sv 0).2)∧True,fun _ _=>rfl,Nat.le_of_ble_eq_true rfl,fun h hk=>⟨⟨h.1.1.keep hk,h.1.2⟩,trivial⟩⟩
abbrev Fn119:=Unit
def fnv119(_:Fn119)(sv:SV):Value:=.pointer (sv 0).1
def fnc119(S:Nat→Prop)(w:World)(x:Fn119)(sv:SV):Prop:=True
theorem fnk119{S S':Nat→Prop}{w w':World}{x:Fn119}{sv:SV}(h:fnc119 S w x sv)(hk:∀b,S b→IsC w b→S' b∧w'.heap[b]? =w.heap[b]?):fnc119 S' w' x sv:=trivial
def kdF119:Kd Fn119:=⟨1,fun x sv=>[fnv119 x sv],fun S w x sv=>fnc119 S w x sv,fun _ _=>rfl,Nat.one_pos,fun h hk=>fnk119 h hk⟩
structure Ring_queue where
  k:Int
  tail:Int
  head:Int
  cell:Int
  words:Int
  deep:Int
  deriving Inhabited,DecidableEq
def kd_Ring_queue:Kd Ring_queue:=⟨6,fun x sv=>[.int .i64 x.k,.int .i64 x.tail,.int .i64 x.head,.int .i64 x.cell,.int .i64 x.words,.int .i64 x.deep],fun S w x sv=>True,fun _ _=>rfl,Nat.le_of_ble_eq_true rfl,fun h hk=>trivial⟩
structure Bell_Set where
  n:Int
  bits:Int
  deriving Inhabited,DecidableEq
def kd_Bell_Set:Kd Bell_Set:=⟨2,fun x sv=>[.int .i64 x.n,.int .u64 x.bits],fun S w x sv=>True,fun _ _=>rfl,Nat.le_of_ble_eq_true rfl,fun h hk=>trivial⟩
def lv_Bell_Set(S:Nat→Prop)(w:World)(b:Nat)(x:Bell_Set)(sv:SV)(F:List Nat):Prop:=F=[]∧True
theorem lvk_Bell_Set{S S':Nat→Prop}{w w':World}{b:Nat}{x:Bell_Set}{sv:SV}{F:List Nat}(h:lv_Bell_Set S w b x sv F)(hk:Mv S w S' w')(hb:∀b∈F,w'.heap[b]? =w.heap[b]?):lv_Bell_Set S' w' b x sv F:=by
  obtain ⟨hF,_⟩:=h;exact ⟨hF,trivial⟩
theorem lvn_Bell_Set{S:Nat→Prop}{w:World}{b:Nat}{x:Bell_Set}{sv:SV}{F:List Nat}(h:lv_Bell_Set S w b x sv F):∀b∈F,b<w.heap.size∧∀q,w.heap[b]? ≠some (.deferred q):=by
  obtain ⟨hF,_⟩:=h;intro c hc;rw [hF] at hc;cases hc
def lk_Bell_Set:Lk Bell_Set:=⟨kd_Bell_Set,96,lv_Bell_Set,fun h hk hb=>lvk_Bell_Set h hk hb,fun h=>lvn_Bell_Set h⟩
abbrev Fn123:=Int
def fnv123(_:Fn123)(sv:SV):Value:=.pointer (sv 0).1
def fnc123(S:Nat→Prop)(w:World)(x:Fn123)(sv:SV):Prop:=hd1 S w (sv 0).1 (.int .u32 x)
theorem fnk123{S S':Nat→Prop}{w w':World}{x:Fn123}{sv:SV}(h:fnc123 S w x sv)(hk:∀b,S b→IsC w b→S' b∧w'.heap[b]? =w.heap[b]?):fnc123 S' w' x sv:=hd1.keep h hk
def kdF123:Kd Fn123:=⟨1,fun x sv=>[fnv123 x sv],fun S w x sv=>fnc123 S w x sv,fun _ _=>rfl,Nat.one_pos,fun h hk=>fnk123 h hk⟩
structure Ring_Op where
  own:Int
  left:Nat
  deriving Inhabited,DecidableEq
def kd_Ring_Op:Kd Ring_Op:=⟨2,fun x sv=>[.int .u32 x.own,.slice (sv 0).1 x.left (sv 0).2],fun S w x sv=>True,fun _ _=>rfl,Nat.le_of_ble_eq_true rfl,fun h hk=>trivial⟩
def lv_Ring_Op(S:Nat→Prop)(w:World)(b:Nat)(x:Ring_Op)(sv:SV)(F:List Nat):Prop:=F=rb (sv 0).1++([])∧(∃vs:List (Nat×List Value),Row kdJ 234 S w 0 (sv 0).1 (sv 0).2 vs∧vs.length=x.left)∧True
theorem lvk_Ring_Op{S S':Nat→Prop}{w w':World}{b:Nat}{x:Ring_Op}{sv:SV}{F:List Nat}(h:lv_Ring_Op S w b x sv F)(hk:Mv S w S' w')(hb:∀b∈F,w'.heap[b]? =w.heap[b]?):lv_Ring_Op S' w' b x sv F:=by
  obtain ⟨hF,h0,_⟩:=h;exact ⟨hF,(let ⟨vs,q1,q2⟩:=h0;⟨vs,Row.keep q1 hk (fun c hc=>hb c (hF▸List.mem_append_left _ hc)),q2⟩),trivial⟩
theorem lvn_Ring_Op{S:Nat→Prop}{w:World}{b:Nat}{x:Ring_Op}{sv:SV}{F:List Nat}(h:lv_Ring_Op S w b x sv F):∀b∈F,b<w.heap.size∧∀q,w.heap[b]? ≠some (.deferred q):=by
  obtain ⟨hF,h0,_⟩:=h;intro c hc;rw [hF] at hc;rcases List.mem_append.1 hc with hc | hc
  · obtain ⟨vs,q1,q2⟩:=h0;exact q1.ndl c hc
  cases hc
def lk_Ring_Op:Lk Ring_Op:=⟨kd_Ring_Op,153,lv_Ring_Op,fun h hk hb=>lvk_Ring_Op h hk hb,fun h=>lvn_Ring_Op h⟩
structure Task_cell where
  at_:Int
  words:(List Int)
  deriving Inhabited,DecidableEq
def kd_Task_cell:Kd Task_cell:=⟨2,fun x sv=>[.int .u64 x.at_,.slice (sv 0).1 x.words.length (sv 0).2],fun S w x sv=>(Arr (Kd.int .u32) S w (sv 0).1 x.words∧x.words.length≤(sv 0).2)∧True,fun _ _=>rfl,Nat.le_of_ble_eq_true rfl,fun h hk=>⟨⟨h.1.1.keep hk,h.1.2⟩,trivial⟩⟩
structure Task_writing where
  w:Fn115
  deriving Inhabited,DecidableEq
def kd_Task_writing:Kd Task_writing:=⟨1,fun x sv=>[(fnv115 x.w sv)],fun S w x sv=>(fnc115 S w x.w sv)∧True,fun _ _=>rfl,Nat.le_of_ble_eq_true rfl,fun h hk=>⟨fnk115 h.1 hk,trivial⟩⟩
structure Task_reading where
  r:Fn119
  deriving Inhabited,DecidableEq
def kd_Task_reading:Kd Task_reading:=⟨1,fun x sv=>[(fnv119 x.r sv)],fun S w x sv=>(fnc119 S w x.r sv)∧True,fun _ _=>rfl,Nat.le_of_ble_eq_true rfl,fun h hk=>⟨fnk119 h.1 hk,trivial⟩⟩
structure Task_queued where
  Op:Fn123
  deriving Inhabited,DecidableEq
def kd_Task_queued:Kd Task_queued:=⟨1,fun x sv=>[(fnv123 x.Op sv)],fun S w x sv=>(fnc123 S w x.Op sv)∧True,fun _ _=>rfl,Nat.le_of_ble_eq_true rfl,fun h hk=>⟨fnk123 h.1 hk,trivial⟩⟩
inductive Fn65 where
  | nil
  | t113 (c0:Task_cell)
  | t118 (c0:Task_writing)
  | t122 (c0:Task_reading)
  | t126 (c0:Task_queued)
  deriving Inhabited,DecidableEq
def fnv65(x:Fn65)(sv:SV):Value:=match x with
  | .nil=>.nilIface
  | .t113 c0=>.iface 113 (.agg ((kd_Task_cell).cells c0 sv).toArray)
  | .t118 c0=>.iface 118 (.agg ((kd_Task_writing).cells c0 sv).toArray)
  | .t122 c0=>.iface 122 (.agg ((kd_Task_reading).cells c0 sv).toArray)
  | .t126 c0=>.iface 126 (.agg ((kd_Task_queued).cells c0 sv).toArray)
def fnc65(S:Nat→Prop)(w:World)(x:Fn65)(sv:SV):Prop:=match x with
  | .nil=>True
  | .t113 c0=>(kd_Task_cell).cont S w c0 sv
  | .t118 c0=>(kd_Task_writing).cont S w c0 sv
  | .t122 c0=>(kd_Task_reading).cont S w c0 sv
  | .t126 c0=>(kd_Task_queued).cont S w c0 sv
theorem fnk65{S S':Nat→Prop}{w w':World}{x:Fn65}{sv:SV}(h:fnc65 S w x sv)(hk:∀b,S b→IsC w b→S' b∧w'.heap[b]? =w.heap[b]?):fnc65 S' w' x sv:=by
  cases x with
  | nil=>exact trivial
  | t113 c0=>exact (kd_Task_cell).keep h hk
  | t118 c0=>exact (kd_Task_writing).keep h hk
  | t122 c0=>exact (kd_Task_reading).keep h hk
  | t126 c0=>exact (kd_Task_queued).keep h hk
theorem fnr65{S:Nat→Prop}{w:World}{x y:Fn65}{sv:SV}(h:fnc65 S w x sv)(e:x=y):fnc65 S w y sv:=e▸h
def kdF65:Kd Fn65:=⟨1,fun x sv=>[fnv65 x sv],fun S w x sv=>fnc65 S w x sv,fun _ _=>rfl,Nat.one_pos,fun h hk=>fnk65 h hk⟩
def Fn65.on{ρ:Type}(x:Fn65)(a0:Option ρ)(a1:Task_cell→Option ρ)(a2:Task_writing→Option ρ)(a3:Task_reading→Option ρ)(a4:Task_queued→Option ρ):Option ρ:=match x with
  | .nil=>a0
  | .t113 c0=>a1 c0
  | .t118 c0=>a2 c0
  | .t122 c0=>a3 c0
  | .t126 c0=>a4 c0
theorem Fn65.split{ρ:Type}{x:Fn65}{a0:Option ρ}{a1:Task_cell→Option ρ}{a2:Task_writing→Option ρ}{a3:Task_reading→Option ρ}{a4:Task_queued→Option ρ}{r:ρ}(h:x.on a0 a1 a2 a3 a4=some r):(x=.nil∧a0=some r)∨(∃y,x=.t113 y∧a1 y=some r)∨(∃y,x=.t118 y∧a2 y=some r)∨(∃y,x=.t122 y∧a3 y=some r)∨(∃y,x=.t126 y∧a4 y=some r):=by
  cases x with
  | nil=>exact .inl (⟨rfl,h⟩)
  | t113 y=>exact .inr (.inl (⟨y,rfl,h⟩))
  | t118 y=>exact .inr (.inr (.inl (⟨y,rfl,h⟩)))
  | t122 y=>exact .inr (.inr (.inr (.inl (⟨y,rfl,h⟩))))
  | t126 y=>exact .inr (.inr (.inr (.inr (⟨y,rfl,h⟩))))
structure Task_work_ where
  work:Fn65
  steps:Int
  over:Bool
  deriving Inhabited,DecidableEq
structure Task_Task where
  all:Task_work_
  own:Int
  deriving Inhabited,DecidableEq
def kd_Task_Task:Kd Task_Task:=⟨4,fun x sv=>[(fnv65 x.all.work sv),.int .i64 x.all.steps,.bool x.all.over,.int .u32 x.own],fun S w x sv=>(fnc65 S w x.all.work sv)∧True,fun _ _=>rfl,Nat.le_of_ble_eq_true rfl,fun h hk=>⟨fnk65 h.1 hk,trivial⟩⟩
def lv_Task_Task(S:Nat→Prop)(w:World)(b:Nat)(x:Task_Task)(sv:SV)(F:List Nat):Prop:=F=[]∧True
theorem lvk_Task_Task{S S':Nat→Prop}{w w':World}{b:Nat}{x:Task_Task}{sv:SV}{F:List Nat}(h:lv_Task_Task S w b x sv F)(hk:Mv S w S' w')(hb:∀b∈F,w'.heap[b]? =w.heap[b]?):lv_Task_Task S' w' b x sv F:=by
  obtain ⟨hF,_⟩:=h;exact ⟨hF,trivial⟩
theorem lvn_Task_Task{S:Nat→Prop}{w:World}{b:Nat}{x:Task_Task}{sv:SV}{F:List Nat}(h:lv_Task_Task S w b x sv F):∀b∈F,b<w.heap.size∧∀q,w.heap[b]? ≠some (.deferred q):=by
  obtain ⟨hF,_⟩:=h;intro c hc;rw [hF] at hc;cases hc
def lk_Task_Task:Lk Task_Task:=⟨kd_Task_Task,72,lv_Task_Task,fun h hk hb=>lvk_Task_Task h hk hb,fun h=>lvn_Task_Task h⟩
structure Portholeref10_Side where
  Chan:Int
  Part:Int
  Source:Bool
  Is:Bool
  deriving Inhabited,DecidableEq
def kd_Portholeref10_Side:Kd Portholeref10_Side:=⟨4,fun x sv=>[.int .i64 x.Chan,.int .i64 x.Part,.bool x.Source,.bool x.Is],fun S w x sv=>True,fun _ _=>rfl,Nat.le_of_ble_eq_true rfl,fun h hk=>trivial⟩
structure Portholeref11_Four where
  C:Config
  K:Int
  Write:Bool
  Data:(List Int)
  Data_on:Bool
  At:Int
  Pair:Int
  Index:Int
  Len:Int
  Stamp:Int
  Marked:Bool
  deriving Inhabited,DecidableEq
def kd_Portholeref11_Four:Kd Portholeref11_Four:=⟨15,fun x sv=>[.slice (sv 0).1 x.C.Parts.length (sv 0).2,.slice (sv 1).1 x.C.Chans.length (sv 1).2,.int .i64 x.C.Frames.e0.Length,.slice (sv 2).1 x.C.Frames.e0.Windows.length (sv 2).2,.int .i64 x.C.Frames.e1.Length,.slice (sv 3).1 x.C.Frames.e1.Windows.length (sv 3).2,.int .i64 x.K,.bool x.Write,.slice (sv 4).1 (sv 5).2 (sv 4).2,.int .i64 x.At,.int .i64 x.Pair,.int .i64 x.Index,.int .i64 x.Len,.int .i64 x.Stamp,.bool x.Marked],fun S w x sv=>(Arr kd_Part S w (sv 0).1 x.C.Parts∧x.C.Parts.length≤(sv 0).2)∧(Arr kd_Chan S w (sv 1).1 x.C.Chans∧x.C.Chans.length≤(sv 1).2)∧(Arr kd_Window S w (sv 2).1 x.C.Frames.e0.Windows∧x.C.Frames.e0.Windows.length≤(sv 2).2)∧(Arr kd_Window S w (sv 3).1 x.C.Frames.e1.Windows∧x.C.Frames.e1.Windows.length≤(sv 3).2)∧True,fun _ _=>rfl,Nat.le_of_ble_eq_true rfl,fun h hk=>⟨⟨h.1.1.keep hk,h.1.2⟩,⟨h.2.1.1.keep hk,h.2.1.2⟩,⟨h.2.2.1.1.keep hk,h.2.2.1.2⟩,⟨h.2.2.2.1.1.keep hk,h.2.2.2.1.2⟩,trivial⟩⟩
def lv_Portholeref11_Four(S:Nat→Prop)(w:World)(b:Nat)(x:Portholeref11_Four)(sv:SV)(F:List Nat):Prop:=F=(bif x.Data_on then rb (sv 4).1 else [])++([])∧(x.Data_on=true→Row (Kd.int .u32) 45 S w 0 (sv 4).1 (sv 4).2 x.Data∧x.Data.length=(sv 5).2)∧True
theorem lvk_Portholeref11_Four{S S':Nat→Prop}{w w':World}{b:Nat}{x:Portholeref11_Four}{sv:SV}{F:List Nat}(h:lv_Portholeref11_Four S w b x sv F)(hk:Mv S w S' w')(hb:∀b∈F,w'.heap[b]? =w.heap[b]?):lv_Portholeref11_Four S' w' b x sv F:=by
  obtain ⟨hF,h0,_⟩:=h;exact ⟨hF,fun hx=>⟨Row.keep (h0 hx).1 hk (fun c hc=>hb c (hF▸List.mem_append_left _ (by rw [hx];exact hc))),(h0 hx).2⟩,trivial⟩
theorem lvn_Portholeref11_Four{S:Nat→Prop}{w:World}{b:Nat}{x:Portholeref11_Four}{sv:SV}{F:List Nat}(h:lv_Portholeref11_Four S w b x sv F):∀b∈F,b<w.heap.size∧∀q,w.heap[b]? ≠some (.deferred q):=by
  obtain ⟨hF,h0,_⟩:=h;intro c hc;rw [hF] at hc;rcases List.mem_append.1 hc with hc | hc
  · cases hx:x.Data_on with
    | false=>rw [hx] at hc;cases hc
    | true=>rw [hx] at hc;exact (h0 hx).1.ndl c hc
  cases hc
def lk_Portholeref11_Four:Lk Portholeref11_Four:=⟨kd_Portholeref11_Four,82,lv_Portholeref11_Four,fun h hk hb=>lvk_Portholeref11_Four h hk hb,fun h=>lvn_Portholeref11_Four h⟩
structure Portholeref12_Op where
  C:Config
  K:Int
  Op:Int
  Own:Int
  Source:Bool
  Data:(List Int)
  Data_on:Bool
  At:Int
  Len:Int
  deriving Inhabited,DecidableEq
def kd_Portholeref12_Op:Kd Portholeref12_Op:=⟨13,fun x sv=>[.slice (sv 0).1 x.C.Parts.length (sv 0).2,.slice (sv 1).1 x.C.Chans.length (sv 1).2,.int .i64 x.C.Frames.e0.Length,.slice (sv 2).1 x.C.Frames.e0.Windows.length (sv 2).2,.int .i64 x.C.Frames.e1.Length,.slice (sv 3).1 x.C.Frames.e1.Windows.length (sv 3).2,.int .i64 x.K,.int .i64 x.Op,.int .u32 x.Own,.bool x.Source,.slice (sv 4).1 (sv 5).2 (sv 4).2,.int .i64 x.At,.int .i64 x.Len],fun S w x sv=>(Arr kd_Part S w (sv 0).1 x.C.Parts∧x.C.Parts.length≤(sv 0).2)∧(Arr kd_Chan S w (sv 1).1 x.C.Chans∧x.C.Chans.length≤(sv 1).2)∧(Arr kd_Window S w (sv 2).1 x.C.Frames.e0.Windows∧x.C.Frames.e0.Windows.length≤(sv 2).2)∧(Arr kd_Window S w (sv 3).1 x.C.Frames.e1.Windows∧x.C.Frames.e1.Windows.length≤(sv 3).2)∧True,fun _ _=>rfl,Nat.le_of_ble_eq_true rfl,fun h hk=>⟨⟨h.1.1.keep hk,h.1.2⟩,⟨h.2.1.1.keep hk,h.2.1.2⟩,⟨h.2.2.1.1.keep hk,h.2.2.1.2⟩,⟨h.2.2.2.1.1.keep hk,h.2.2.2.1.2⟩,trivial⟩⟩
def lv_Portholeref12_Op(S:Nat→Prop)(w:World)(b:Nat)(x:Portholeref12_Op)(sv:SV)(F:List Nat):Prop:=F=(bif x.Data_on then rb (sv 4).1 else [])++([])∧(x.Data_on=true→Row (Kd.int .u32) 45 S w 0 (sv 4).1 (sv 4).2 x.Data∧x.Data.length=(sv 5).2)∧True
theorem lvk_Portholeref12_Op{S S':Nat→Prop}{w w':World}{b:Nat}{x:Portholeref12_Op}{sv:SV}{F:List Nat}(h:lv_Portholeref12_Op S w b x sv F)(hk:Mv S w S' w')(hb:∀b∈F,w'.heap[b]? =w.heap[b]?):lv_Portholeref12_Op S' w' b x sv F:=by
  obtain ⟨hF,h0,_⟩:=h;exact ⟨hF,fun hx=>⟨Row.keep (h0 hx).1 hk (fun c hc=>hb c (hF▸List.mem_append_left _ (by rw [hx];exact hc))),(h0 hx).2⟩,trivial⟩
theorem lvn_Portholeref12_Op{S:Nat→Prop}{w:World}{b:Nat}{x:Portholeref12_Op}{sv:SV}{F:List Nat}(h:lv_Portholeref12_Op S w b x sv F):∀b∈F,b<w.heap.size∧∀q,w.heap[b]? ≠some (.deferred q):=by
  obtain ⟨hF,h0,_⟩:=h;intro c hc;rw [hF] at hc;rcases List.mem_append.1 hc with hc | hc
  · cases hx:x.Data_on with
    | false=>rw [hx] at hc;cases hc
    | true=>rw [hx] at hc;exact (h0 hx).1.ndl c hc
  cases hc
def lk_Portholeref12_Op:Lk Portholeref12_Op:=⟨kd_Portholeref12_Op,86,lv_Portholeref12_Op,fun h hk hb=>lvk_Portholeref12_Op h hk hb,fun h=>lvn_Portholeref12_Op h⟩
structure Portholeref13_Task where
  R:Request
  Four:Option Portholeref11_Four
  Queue:Option Portholeref12_Op
  Cell:Bool
  Steps:Int
  Over:Bool
  Kept:Int
  deriving Inhabited,DecidableEq
def kd_Portholeref13_Task:Kd Portholeref13_Task:=⟨10,fun x sv=>[.int .i64 x.R.Op,.int .i64 x.R.Port,.int .u64 x.R.Addr,.slice (sv 0).1 x.R.Data.length (sv 0).2,.pointer (sv 1).1,.pointer (sv 2).1,.bool x.Cell,.int .i64 x.Steps,.bool x.Over,.int .u32 x.Kept],fun S w x sv=>(Arr (Kd.int .u32) S w (sv 0).1 x.R.Data∧x.R.Data.length≤(sv 0).2)∧True,fun _ _=>rfl,Nat.le_of_ble_eq_true rfl,fun h hk=>⟨⟨h.1.1.keep hk,h.1.2⟩,trivial⟩⟩
def lv_Portholeref13_Task(S:Nat→Prop)(w:World)(b:Nat)(x:Portholeref13_Task)(sv:SV)(F:List Nat):Prop:=∃G0 G1:List Nat,F=G0++(G1++([]))∧OjtN lk_Portholeref11_Four S w (sv 1).1 x.Four G0∧OjtN lk_Portholeref12_Op S w (sv 2).1 x.Queue G1∧True
theorem lvk_Portholeref13_Task{S S':Nat→Prop}{w w':World}{b:Nat}{x:Portholeref13_Task}{sv:SV}{F:List Nat}(h:lv_Portholeref13_Task S w b x sv F)(hk:Mv S w S' w')(hb:∀b∈F,w'.heap[b]? =w.heap[b]?):lv_Portholeref13_Task S' w' b x sv F:=by
  obtain ⟨G0,G1,hF,h0,h1,_⟩:=h;exact ⟨G0,G1,hF,OjtN.keep h0 hk (fun c hc=>hb c (hF▸List.mem_append_left _ hc)),OjtN.keep h1 hk (fun c hc=>hb c (hF▸List.mem_append_right _ (List.mem_append_left _ hc))),trivial⟩
theorem lvn_Portholeref13_Task{S:Nat→Prop}{w:World}{b:Nat}{x:Portholeref13_Task}{sv:SV}{F:List Nat}(h:lv_Portholeref13_Task S w b x sv F):∀b∈F,b<w.heap.size∧∀q,w.heap[b]? ≠some (.deferred q):=by
  obtain ⟨G0,G1,hF,h0,h1,_⟩:=h;intro c hc;rw [hF] at hc;rcases List.mem_append.1 hc with hc | hc
  · exact h0.nd c hc
  rcases List.mem_append.1 hc with hc | hc
  · exact h1.nd c hc
  cases hc
def lk_Portholeref13_Task:Lk Portholeref13_Task:=⟨kd_Portholeref13_Task,77,lv_Portholeref13_Task,fun h hk hb=>lvk_Portholeref13_Task h hk hb,fun h=>lvn_Portholeref13_Task h⟩
def gv0:St135:=(⟨(⟨#[]⟩:ByteArray),(⟨#[99,114,101,97,116,101]⟩:ByteArray),(⟨#[110,111,114,109,97,108]⟩:ByteArray),(⟨#[119,114,105,116,101]⟩:ByteArray),(⟨#[114,101,97,100]⟩:ByteArray),(⟨#[115,101,110,100]⟩:ByteArray),(⟨#[114,101,99,101,105,118,101]⟩:ByteArray),(⟨#[115,116,97,116,117,115]⟩:ByteArray),(⟨#[112,101,101,107]⟩:ByteArray),(⟨#[112,111,107,101]⟩:ByteArray)⟩:St135)
def wf_Part(x:Part):Prop:=(InK .i64) x.Core∧(InK .i64) x.Private
theorem op_Part:Opn Tryz.prog 89 kd_Part wf_Part:=by
  refine ⟨by kernel_rfl,fun h=>?_⟩;obtain ⟨xs,m,_,_,hlen,hxs,hf⟩:=DataW.trod_struct Tryz.underlying89 h;obtain ⟨v0,s0,c0,k0,w0⟩:=opn_field hf hxs 0 _ rfl (Opn.int Tryz.underlying3 (by kernel_rfl));obtain ⟨v1,s1,c1,k1,w1⟩:=opn_field hf hxs 1 _ rfl (Opn.int Tryz.underlying3 (by kernel_rfl));exact ⟨⟨v0,v1⟩,svL [],(pieces_eq [1,1] hlen (by kernel_rfl)).trans (app2 c0 (app2 c1 rfl)),trivial,⟨w0,w1⟩⟩
def wf_Chan(x:Chan):Prop:=(InK .i64) x.Kind∧(InK .i64) x.From∧(InK .i64) x.To∧(InK .i64) x.Words∧(InK .i64) x.Depth∧(InK .i64) x.Period∧(InK .u32) x.Boot
theorem op_Chan:Opn Tryz.prog 84 kd_Chan wf_Chan:=by
  refine ⟨by kernel_rfl,fun h=>?_⟩;obtain ⟨xs,m,_,_,hlen,hxs,hf⟩:=DataW.trod_struct Tryz.underlying84 h;obtain ⟨v0,s0,c0,k0,w0⟩:=opn_field hf hxs 0 _ rfl (Opn.int Tryz.underlying3 (by kernel_rfl));obtain ⟨v1,s1,c1,k1,w1⟩:=opn_field hf hxs 1 _ rfl (Opn.int Tryz.underlying3 (by kernel_rfl));obtain ⟨v2,s2,c2,k2,w2⟩:=opn_field hf hxs 2 _ rfl (Opn.int Tryz.underlying3 (by kernel_rfl));obtain ⟨v3,s3,c3,k3,w3⟩:=opn_field hf hxs 3 _ rfl (Opn.int Tryz.underlying3 (by kernel_rfl));obtain ⟨v4,s4,c4,k4,w4⟩:=opn_field hf hxs 4 _ rfl (Opn.int Tryz.underlying3 (by kernel_rfl));obtain ⟨v5,s5,c5,k5,w5⟩:=opn_field hf hxs 5 _ rfl (Opn.int Tryz.underlying3 (by kernel_rfl));obtain ⟨v6,s6,c6,k6,w6⟩:=opn_field hf hxs 6 _ rfl (Opn.int Tryz.underlying45 (by kernel_rfl));exact ⟨⟨v0,v1,v2,v3,v4,v5,v6⟩,svL [],(pieces_eq [1,1,1,1,1,1,1] hlen (by kernel_rfl)).trans (app2 c0 (app2 c1 (app2 c2 (app2 c3 (app2 c4 (app2 c5 (app2 c6 rfl))))))),trivial,⟨w0,w1,w2,w3,w4,w5,w6⟩⟩
def wf_Window(x:Window):Prop:=(InK .i64) x.Part∧(InK .i64) x.Start∧(InK .i64) x.Len
theorem op_Window:Opn Tryz.prog 91 kd_Window wf_Window:=by
  refine ⟨by kernel_rfl,fun h=>?_⟩;obtain ⟨xs,m,_,_,hlen,hxs,hf⟩:=DataW.trod_struct Tryz.underlying91 h;obtain ⟨v0,s0,c0,k0,w0⟩:=opn_field hf hxs 0 _ rfl (Opn.int Tryz.underlying3 (by kernel_rfl));obtain ⟨v1,s1,c1,k1,w1⟩:=opn_field hf hxs 1 _ rfl (Opn.int Tryz.underlying3 (by kernel_rfl));obtain ⟨v2,s2,c2,k2,w2⟩:=opn_field hf hxs 2 _ rfl (Opn.int Tryz.underlying3 (by kernel_rfl));exact ⟨⟨v0,v1,v2⟩,svL [],(pieces_eq [1,1,1] hlen (by kernel_rfl)).trans (app2 c0 (app2 c1 (app2 c2 rfl))),trivial,⟨w0,w1,w2⟩⟩
def wf_Frame(x:Frame):Prop:=(InK .i64) x.Length∧(fun xs=>xs.length≤maxLen∧∀x∈xs,wf_Window x) x.Windows
theorem op_Frame:Opn Tryz.prog 26 kd_Frame wf_Frame:=by
  refine ⟨by kernel_rfl,fun h=>?_⟩;obtain ⟨xs,m,_,_,hlen,hxs,hf⟩:=DataW.trod_struct Tryz.underlying26 h;obtain ⟨v0,s0,c0,k0,w0⟩:=opn_field hf hxs 0 _ rfl (Opn.int Tryz.underlying3 (by kernel_rfl));obtain ⟨v1,s1,c1,k1,w1⟩:=opn_field hf hxs 1 _ rfl (Opn.slice op_Window Tryz.underlying24 (by kernel_rfl));exact ⟨⟨v0,v1⟩,svL [s1 0],(pieces_eq [1,1] hlen (by kernel_rfl)).trans (app2 c0 (app2 c1 rfl)),⟨k1,trivial⟩,⟨w0,w1⟩⟩
def wf_St27(x:St27):Prop:=wf_Frame x.e0∧wf_Frame x.e1
theorem op_St27:Opn Tryz.prog 27 kd_St27 wf_St27:=by
  refine ⟨by kernel_rfl,fun h=>?_⟩;obtain ⟨xs,m,_,_,hlen,hxs,hf⟩:=DataW.trod_array Tryz.underlying27 h;obtain ⟨v0,s0,c0,k0,w0⟩:=opn_elem hf hxs 0 (by decide) op_Frame;obtain ⟨v1,s1,c1,k1,w1⟩:=opn_elem hf hxs 1 (by decide) op_Frame;exact ⟨⟨v0,v1⟩,svL [s0 0,s1 0],(pieces_eq [2,2] hlen (by kernel_rfl)).trans (app2 c0 (app2 c1 rfl)),⟨k0.1,k1.1,trivial⟩,⟨w0,w1⟩⟩
def wf_Config(x:Config):Prop:=(fun xs=>xs.length≤maxLen∧∀x∈xs,wf_Part x) x.Parts∧(fun xs=>xs.length≤maxLen∧∀x∈xs,wf_Chan x) x.Chans∧wf_St27 x.Frames
theorem op_Config:Opn Tryz.prog 29 kd_Config wf_Config:=by
  refine ⟨by kernel_rfl,fun h=>?_⟩;obtain ⟨xs,m,_,_,hlen,hxs,hf⟩:=DataW.trod_struct Tryz.underlying29 h;obtain ⟨v0,s0,c0,k0,w0⟩:=opn_field hf hxs 0 _ rfl (Opn.slice op_Part Tryz.underlying22 (by kernel_rfl));obtain ⟨v1,s1,c1,k1,w1⟩:=opn_field hf hxs 1 _ rfl (Opn.slice op_Chan Tryz.underlying23 (by kernel_rfl));obtain ⟨v2,s2,c2,k2,w2⟩:=opn_field hf hxs 2 _ rfl op_St27;exact ⟨⟨v0,v1,v2⟩,svL [s0 0,s1 0,s2 0,s2 1],(pieces_eq [1,1,4] hlen (by kernel_rfl)).trans (app2 c0 (app2 c1 (app2 c2 rfl))),⟨k0,k1,k2.1,k2.2.1,trivial⟩,⟨w0,w1,w2⟩⟩
def wf_Request(x:Request):Prop:=(InK .i64) x.Op∧(InK .i64) x.Port∧(InK .u64) x.Addr∧(fun xs=>xs.length≤maxLen∧∀x∈xs,(InK .u32) x) x.Data
theorem op_Request:Opn Tryz.prog 36 kd_Request wf_Request:=by
  refine ⟨by kernel_rfl,fun h=>?_⟩;obtain ⟨xs,m,_,_,hlen,hxs,hf⟩:=DataW.trod_struct Tryz.underlying36 h;obtain ⟨v0,s0,c0,k0,w0⟩:=opn_field hf hxs 0 _ rfl (Opn.int Tryz.underlying3 (by kernel_rfl));obtain ⟨v1,s1,c1,k1,w1⟩:=opn_field hf hxs 1 _ rfl (Opn.int Tryz.underlying3 (by kernel_rfl));obtain ⟨v2,s2,c2,k2,w2⟩:=opn_field hf hxs 2 _ rfl (Opn.int Tryz.underlying33 (by kernel_rfl));obtain ⟨v3,s3,c3,k3,w3⟩:=opn_field hf hxs 3 _ rfl (Opn.slice (Opn.int Tryz.underlying45 (by kernel_rfl)) Tryz.underlying34 (by kernel_rfl));exact ⟨⟨v0,v1,v2,v3⟩,svL [s3 0],(pieces_eq [1,1,1,1] hlen (by kernel_rfl)).trans (app2 c0 (app2 c1 (app2 c2 (app2 c3 rfl)))),⟨k3,trivial⟩,⟨w0,w1,w2,w3⟩⟩
def wf_Standing(x:Standing):Prop:=(InK .i64) x.Part∧(fun _=>True) x.Normal∧(fun xs=>xs.length≤maxLen∧∀x∈xs,(InK .i64) x) x.Made∧(fun xs=>xs.length≤maxLen∧∀x∈xs,(InK .i64) x) x.Valid
theorem op_Standing:Opn Tryz.prog 32 kd_Standing wf_Standing:=by
  refine ⟨by kernel_rfl,fun h=>?_⟩;obtain ⟨xs,m,_,_,hlen,hxs,hf⟩:=DataW.trod_struct Tryz.underlying32 h;obtain ⟨v0,s0,c0,k0,w0⟩:=opn_field hf hxs 0 _ rfl (Opn.int Tryz.underlying3 (by kernel_rfl));obtain ⟨v1,s1,c1,k1,w1⟩:=opn_field hf hxs 1 _ rfl (Opn.bool Tryz.underlying4 (by kernel_rfl));obtain ⟨v2,s2,c2,k2,w2⟩:=opn_field hf hxs 2 _ rfl (Opn.slice (Opn.int Tryz.underlying3 (by kernel_rfl)) Tryz.underlying30 (by kernel_rfl));obtain ⟨v3,s3,c3,k3,w3⟩:=opn_field hf hxs 3 _ rfl (Opn.slice (Opn.int Tryz.underlying3 (by kernel_rfl)) Tryz.underlying30 (by kernel_rfl));exact ⟨⟨v0,v1,v2,v3⟩,svL [s2 0,s3 0],(pieces_eq [1,1,1,1] hlen (by kernel_rfl)).trans (app2 c0 (app2 c1 (app2 c2 (app2 c3 rfl)))),⟨k2,k3,trivial⟩,⟨w0,w1,w2,w3⟩⟩
def G_law13_example:Option (Config):=some (⟨([(⟨0,2⟩:Part),(⟨1,0⟩:Part)]:List Part),([(⟨1,0,1,3,0,0,0⟩:Chan)]:List Chan),(⟨(⟨1,([(⟨0,0,1⟩:Window)]:List Window)⟩:Frame),(⟨1,([(⟨1,0,1⟩:Window)]:List Window)⟩:Frame)⟩:St27)⟩:Config)
theorem G_law13_example.calls(w:World){S:Nat→Prop}(r:Config)(h:G_law13_example=some r):
    Calls Tryz.prog 11 #[] w fun e w'=>∃sv:SV,e=.returned (.agg ((kd_Config).cells r sv).toArray)∧Below w.heap.size w w'∧(kd_Config).cont (fun b=>w.heap.size≤b∨S b) w' r sv:=by
  unfold G_law13_example at h;have H0:=h;clear h;refine enter Tryz.func11 rfl [] (n:=19) rfl (Nat.le_of_ble_eq_true rfl) (fun a hI=>?_);have hF:FOpen Fence.wide:=.inl rfl;have hE:=Ep.start w;refine sr0_ hF hI (s_ [p_ 0 0 0] [([.v (.slice none 0 0),.v (.slice none 0 0),.v (.int .i64 0),.v (.slice none 0 0),.v (.int .i64 0),.v (.slice none 0 0)],29)]) (by kernel_rfl) (fun ns_1 a w_2 hI=>?_);refine wpIn_seq ?_;refine wpIn_region_lit ?_;refine ckn0_ hF 2 hI [3,2,0] [e_ 3 (.agg #[.int .i64 1,.int .i64 0]),e_ 2 (.agg #[.int .i64 0,.int .i64 2])] [] rfl (by kernel_rfl) (fun ns_3 a w_4 hI=>?_);obtain ⟨hE',hmv,hmr⟩:=Ep.rebase hE hI;replace hE:=hE';replace hI:=hI.rebase;clear hE' hmv hmr;refine buildSliceD_ (S0:=S) (d:=kd_Part) (e:=89) hF hE hI (wanted_none rfl) rfl (by kernel_rfl) (cs:=[.int .i64 0,.int .i64 2,.int .i64 1,.int .i64 0]) (by kernel_rfl) [(⟨0,2⟩:Part),(⟨1,0⟩:Part)] [(svL []),(svL [])] rfl rfl (by simp [maxLen]) (fun i x hi=>by cases i with | zero=>(simp only [List.getElem?_cons_zero,Option.some.injEq] at hi;subst hi;exact ⟨trivial,rfl⟩) | succ i=>(simp only [List.getElem?_cons_succ] at hi;cases i with | zero=>(simp only [List.getElem?_cons_zero,Option.some.injEq] at hi;subst hi;exact ⟨trivial,rfl⟩) | succ i=>(simp only [List.getElem?_cons_succ] at hi;simp at hi))) (fun _=>by kernel_rfl) (fun A_5 a w_7 hput hE' hI' hmv hmr hq_6=>?_);replace hE:=hE';replace hI:=hI';clear hE' hI' hmv hmr;refine ckn0_ hF 1 hI [5,4,0] [e_ 5 (.agg #[.int .i64 1,.int .i64 0,.int .i64 1,.int .i64 3,.int .i64 0,.int .i64 0,.int .u32 0])] [] rfl (by kernel_rfl) (fun ns_8 a w_9 hI=>?_);obtain ⟨hE',hmv,hmr⟩:=Ep.rebase hE hI;replace hq_6:=kr hmv hmr hq_6;replace hE:=hE';replace hI:=hI.rebase;clear hE' hmv hmr;refine buildSliceD_ (S0:=S) (d:=kd_Chan) (e:=84) hF hE hI (wanted_none rfl) rfl (by kernel_rfl) (cs:=[.int .i64 1,.int .i64 0,.int .i64 1,.int .i64 3,.int .i64 0,.int .i64 0,.int .u32 0]) (by kernel_rfl) [(⟨1,0,1,3,0,0,0⟩:Chan)] [(svL [])] rfl rfl (by simp [maxLen]) (fun i x hi=>by cases i with | zero=>(simp only [List.getElem?_cons_zero,Option.some.injEq] at hi;subst hi;exact ⟨trivial,rfl⟩) | succ i=>(simp only [List.getElem?_cons_succ] at hi;simp at hi)) (fun _=>by kernel_rfl) (fun A_10 a w_12 hput hE' hI' hmv hmr hq_11=>?_);replace hq_6:=Row.keep hq_6 (hmv _) (fun b hb=>hmr b (by simp [hb]) (by simp));replace hE:=hE';replace hI:=hI';clear hE' hI' hmv hmr;refine ckn0_ hF 3 hI [1,0] [p_ 1 1 0] [(1,([.v (.slice A_5 ([(⟨0,2⟩:Part),(⟨1,0⟩:Part)]:List Part).length (([(⟨0,2⟩:Part),(⟨1,0⟩:Part)]:List Part).length)),.v (.slice A_10 ([(⟨1,0,1,3,0,0,0⟩:Chan)]:List Chan).length (([(⟨1,0,1,3,0,0,0⟩:Chan)]:List Chan).length)),.v (.int .i64 0),.v (.slice none 0 0),.v (.int .i64 0),.v (.slice none 0 0)],29))] rfl (by kernel_rfl) (fun ns_13 a w_14 hI=>?_);refine wpListIn_nil ?_;refine then_normal ?_;refine wpIn_seq ?_;refine wpIn_region_lit ?_;refine ckn0_ hF 1 hI [8,1,0] [e_ 8 (.agg #[.int .i64 0,.int .i64 0,.int .i64 1])] [] rfl (by kernel_rfl) (fun ns_15 a w_16 hI=>?_);obtain ⟨hE',hmv,hmr⟩:=Ep.rebase hE hI;replace hq_6:=kr hmv hmr hq_6;replace hq_11:=kr hmv hmr hq_11;replace hE:=hE';replace hI:=hI.rebase;clear hE' hmv hmr;refine buildSliceD_ (S0:=S) (d:=kd_Window) (e:=91) hF hE hI (wanted_none rfl) rfl (by kernel_rfl) (cs:=[.int .i64 0,.int .i64 0,.int .i64 1]) (by kernel_rfl) [(⟨0,0,1⟩:Window)] [(svL [])] rfl rfl (by simp [maxLen]) (fun i x hi=>by cases i with | zero=>(simp only [List.getElem?_cons_zero,Option.some.injEq] at hi;subst hi;exact ⟨trivial,rfl⟩) | succ i=>(simp only [List.getElem?_cons_succ] at hi;simp at hi)) (fun _=>by kernel_rfl) (fun A_17 a w_19 hput hE' hI' hmv hmr hq_18=>?_);replace hq_6:=Row.keep hq_6 (hmv _) (fun b hb=>hmr b (by simp [hb]) (by simp));replace hq_11:=Row.keep hq_11 (hmv _) (fun b hb=>hmr b (by simp [hb]) (by simp));replace hE:=hE';replace hI:=hI';clear hE' hI' hmv hmr;refine ckn0_ hF 4 hI [1,0] [] [(1,([.v (.slice A_5 ([(⟨0,2⟩:Part),(⟨1,0⟩:Part)]:List Part).length (([(⟨0,2⟩:Part),(⟨1,0⟩:Part)]:List Part).length)),.v (.slice A_10 ([(⟨1,0,1,3,0,0,0⟩:Chan)]:List Chan).length (([(⟨1,0,1,3,0,0,0⟩:Chan)]:List Chan).length)),.v (.int .i64 1),.v (.slice A_17 ([(⟨0,0,1⟩:Window)]:List Window).length (([(⟨0,0,1⟩:Window)]:List Window).length)),.v (.int .i64 0),.v (.slice none 0 0)],29))] rfl (by kernel_rfl) (fun ns_20 a w_21 hI=>?_);refine wpListIn_nil ?_;refine then_normal ?_;refine wpIn_seq ?_;refine wpIn_region_lit ?_;refine ck0_ hF 1 hI (s_ [e_ 13 (.agg #[.int .i64 1,.int .i64 0,.int .i64 1]),p_ 1 1 0,p_ 0 0 0] [([.v (.slice none 0 0),.v (.slice none 0 0),.v (.int .i64 0),.v (.slice none 0 0),.v (.int .i64 0),.v (.slice none 0 0)],29),([.v (.slice A_5 ([(⟨0,2⟩:Part),(⟨1,0⟩:Part)]:List Part).length (([(⟨0,2⟩:Part),(⟨1,0⟩:Part)]:List Part).length)),.v (.slice A_10 ([(⟨1,0,1,3,0,0,0⟩:Chan)]:List Chan).length (([(⟨1,0,1,3,0,0,0⟩:Chan)]:List Chan).length)),.v (.int .i64 1),.v (.slice A_17 ([(⟨0,0,1⟩:Window)]:List Window).length (([(⟨0,0,1⟩:Window)]:List Window).length)),.v (.int .i64 0),.v (.slice none 0 0)],29)]) rfl (by kernel_rfl) (fun ns_22 a w_23 hI=>?_);obtain ⟨hE',hmv,hmr⟩:=Ep.rebase hE hI;replace hq_6:=kr hmv hmr hq_6;replace hq_11:=kr hmv hmr hq_11;replace hq_18:=kr hmv hmr hq_18;replace hE:=hE';replace hI:=hI.rebase;clear hE' hmv hmr;refine buildSliceD_ (S0:=S) (d:=kd_Window) (e:=91) hF hE hI (wanted_none rfl) rfl (by kernel_rfl) (cs:=[.int .i64 1,.int .i64 0,.int .i64 1]) (by kernel_rfl) [(⟨1,0,1⟩:Window)] [(svL [])] rfl rfl (by simp [maxLen]) (fun i x hi=>by cases i with | zero=>(simp only [List.getElem?_cons_zero,Option.some.injEq] at hi;subst hi;exact ⟨trivial,rfl⟩) | succ i=>(simp only [List.getElem?_cons_succ] at hi;simp at hi)) (fun _=>by kernel_rfl) (fun A_24 a w_26 hput hE' hI' hmv hmr hq_25=>?_);replace hq_6:=Row.keep hq_6 (hmv _) (fun b hb=>hmr b (by simp [hb]) (by simp));replace hq_11:=Row.keep hq_11 (hmv _) (fun b hb=>hmr b (by simp [hb]) (by simp));replace hq_18:=Row.keep hq_18 (hmv _) (fun b hb=>hmr b (by simp [hb]) (by simp));replace hE:=hE';replace hI:=hI';clear hE' hI' hmv hmr;refine ckn0_ hF 4 hI [1,0] [] [(1,([.v (.slice A_5 ([(⟨0,2⟩:Part),(⟨1,0⟩:Part)]:List Part).length (([(⟨0,2⟩:Part),(⟨1,0⟩:Part)]:List Part).length)),.v (.slice A_10 ([(⟨1,0,1,3,0,0,0⟩:Chan)]:List Chan).length (([(⟨1,0,1,3,0,0,0⟩:Chan)]:List Chan).length)),.v (.int .i64 1),.v (.slice A_17 ([(⟨0,0,1⟩:Window)]:List Window).length (([(⟨0,0,1⟩:Window)]:List Window).length)),.v (.int .i64 1),.v (.slice A_24 ([(⟨1,0,1⟩:Window)]:List Window).length (([(⟨1,0,1⟩:Window)]:List Window).length))],29))] rfl (by kernel_rfl) (fun ns_27 a w_28 hI=>?_);refine wpListIn_nil ?_;refine then_normal ?_;refine srn0_ hF hI [0] [] [(0,([.v (.slice A_5 ([(⟨0,2⟩:Part),(⟨1,0⟩:Part)]:List Part).length (([(⟨0,2⟩:Part),(⟨1,0⟩:Part)]:List Part).length)),.v (.slice A_10 ([(⟨1,0,1,3,0,0,0⟩:Chan)]:List Chan).length (([(⟨1,0,1,3,0,0,0⟩:Chan)]:List Chan).length)),.v (.int .i64 1),.v (.slice A_17 ([(⟨0,0,1⟩:Window)]:List Window).length (([(⟨0,0,1⟩:Window)]:List Window).length)),.v (.int .i64 1),.v (.slice A_24 ([(⟨1,0,1⟩:Window)]:List Window).length (([(⟨1,0,1⟩:Window)]:List Window).length))],29))] (by kernel_rfl) (fun ns_29 a w_30 hI=>?_);obtain ⟨hE',hmv,hmr⟩:=Ep.rebase hE hI;replace hq_6:=kr hmv hmr hq_6;replace hq_11:=kr hmv hmr hq_11;replace hq_18:=kr hmv hmr hq_18;replace hq_25:=kr hmv hmr hq_25;replace hE:=hE';replace hI:=hI.rebase;clear hE' hmv hmr;obtain ⟨hE',hmv,hq_6,hcap_31⟩:=Row.still (l1:=[]) (l2:=[rb A_10,rb A_17,rb A_24]) hq_6 (Nat.le_refl _) hE;have hmr:=hmr_ ([rb A_5,rb A_10,rb A_17,rb A_24]:List (List Nat)) w_30;replace hq_11:=kr hmv hmr hq_11;replace hq_18:=kr hmv hmr hq_18;replace hq_25:=kr hmv hmr hq_25;replace hE:=hE';clear hE' hmv hmr;obtain ⟨hE',hmv,hq_11,hcap_32⟩:=Row.still (l1:=[]) (l2:=[rb A_17,rb A_24]) hq_11 (Nat.le_refl _) hE;have hmr:=hmr_ ([rb A_10,rb A_17,rb A_24]:List (List Nat)) w_30;replace hq_18:=kr hmv hmr hq_18;replace hq_25:=kr hmv hmr hq_25;replace hq_6:=ka hmv hq_6;replace hE:=hE';clear hE' hmv hmr;obtain ⟨hE',hmv,hq_18,hcap_33⟩:=Row.still (l1:=[]) (l2:=[rb A_24]) hq_18 (Nat.le_refl _) hE;have hmr:=hmr_ ([rb A_17,rb A_24]:List (List Nat)) w_30;replace hq_25:=kr hmv hmr hq_25;replace hq_6:=ka hmv hq_6;replace hq_11:=ka hmv hq_11;replace hE:=hE';clear hE' hmv hmr;obtain ⟨hE',hmv,hq_25,hcap_34⟩:=Row.still (l1:=[]) (l2:=[]) hq_25 (Nat.le_refl _) hE;have hmr:=hmr_ ([rb A_24]:List (List Nat)) w_30;replace hq_6:=ka hmv hq_6;replace hq_11:=ka hmv hq_11;replace hq_18:=ka hmv hq_18;replace hE:=hE';clear hE' hmv hmr;refine wpIn_ret ?_;obtain rfl:=Option.some.inj H0;exact retCell hI rfl rfl rfl rfl rfl rfl ⟨svL [(A_5,([(⟨0,2⟩:Part),(⟨1,0⟩:Part)]:List Part).length),(A_10,([(⟨1,0,1,3,0,0,0⟩:Chan)]:List Chan).length),(A_17,([(⟨0,0,1⟩:Window)]:List Window).length),(A_24,([(⟨1,0,1⟩:Window)]:List Window).length)],rfl,hE.below hI,⟨⟨Arr.keep hq_6 (hE.out hI),hcap_31⟩,⟨Arr.keep hq_11 (hE.out hI),hcap_32⟩,⟨Arr.keep hq_18 (hE.out hI),hcap_33⟩,⟨Arr.keep hq_25 (hE.out hI),hcap_34⟩,trivial⟩⟩
def G_defect_within(a0:Int)(a1:Int)(a2:Int):Option (Bool):=some (decide (a0≥a1)&&decide (a0≤a2))
theorem G_defect_within.calls(a0:Int)(a1:Int)(a2:Int)(w:World){S:Nat→Prop}(r:Bool)(h:G_defect_within a0 a1 a2=some r):
    Calls Tryz.prog 108 #[.int .i64 a0,.int .i64 a1,.int .i64 a2] w fun e w'=>e=.returned (.bool r)∧Below w.heap.size w w':=by
  unfold G_defect_within at h;have H0:=h;clear h;refine enter Tryz.func108 rfl [.int .i64 a0,.int .i64 a1,.int .i64 a2] (n:=15) rfl (Nat.le_of_ble_eq_true rfl) (fun a hI=>?_);have hF:FOpen Fence.wide:=.inl rfl;have hE:=Ep.start w;refine sr0_ hF hI (s_ [e_ 6 (.bool false),e_ 0 (.int .i64 a0),e_ 1 (.int .i64 a1),e_ 2 (.int .i64 a2)] []) (by kernel_rfl) (fun ns_1 a w_2 hI=>?_);refine srn0_ hF hI [6] [e_ 6 (.bool (decide (a0≥a1)&&decide (a0≤a2)))] [] (by kernel_rfl) (fun ns_3 a w_4 hI=>?_);refine wpIn_ret ?_;obtain rfl:=Option.some.inj H0;exact ret1 hI rfl rfl ⟨rfl,hE.below hI⟩
def G_defect_rules_1(x0:Config):Option (Bool):=((G_defect_within (x0.Parts.length:Int) 1 6).bind fun t_3=>some (!t_3))
theorem G_defect_rules_1.calls(x0:Config)(sv0:SV)(w:World){S:Nat→Prop}(hx0:(kd_Config).cont S w x0 sv0)(r:Bool)(h:G_defect_rules_1 x0=some r):
    Calls Tryz.prog 107 #[.agg ((kd_Config).cells x0 sv0).toArray] w fun e w'=>e=.returned (.bool r)∧Below w.heap.size w w':=by
  replace hx0:=Kd.lo _ hx0;unfold G_defect_rules_1 at h;have H0:=h;clear h;refine enter Tryz.func107 rfl [.agg ((kd_Config).cells x0 sv0).toArray] (n:=8) rfl (Nat.le_of_ble_eq_true rfl) (fun a hI=>?_);have hF:FOpen Fence.wide:=.inl rfl;have hE:=Ep.start w;refine sr0_ hF hI (s_ [e_ 2 (.bool false),p_ 1 0 0] [((((kd_Config).cells x0 sv0).map EV.v),29)]) (by kernel_rfl) (fun ns_1 a w_2 hI=>?_);obtain ⟨t_3,hG_4,H0⟩:=bind_some H0;refine srn_ (orc:=[[.bool t_3]]) hF hI [2] [e_ 2 (.bool (!t_3))] [] [.call true 108 [.int .i64 (x0.Parts.length:Int),.int .i64 1,.int .i64 6] (.bool t_3)] (by kernel_rfl) ⟨ob_call (enters Tryz.func108 (by kernel_rfl) rfl) (fun hg wz hk=>G_defect_within.calls (x0.Parts.length:Int) 1 6 wz (S:=fun _=>True) _ hG_4),trivial⟩ (fun ns_5 a w_6 hI=>?_);refine wpIn_ret ?_;obtain rfl:=Option.some.inj H0;exact ret1 hI rfl rfl ⟨rfl,hE.below hI⟩
def G_defect_rules_2(x0:Part):Option (Bool):=((G_defect_within x0.Core 0 1).bind fun t_3=>some (!t_3))
theorem G_defect_rules_2.calls(x0:Part)(sv0:SV)(w:World){S:Nat→Prop}(hx0:(kd_Part).cont S w x0 sv0)(r:Bool)(h:G_defect_rules_2 x0=some r):
    Calls Tryz.prog 110 #[.agg ((kd_Part).cells x0 sv0).toArray] w fun e w'=>e=.returned (.bool r)∧Below w.heap.size w w':=by
  replace hx0:=Kd.lo _ hx0;unfold G_defect_rules_2 at h;have H0:=h;clear h;refine enter Tryz.func110 rfl [.agg ((kd_Part).cells x0 sv0).toArray] (n:=7) rfl (Nat.le_of_ble_eq_true rfl) (fun a hI=>?_);have hF:FOpen Fence.wide:=.inl rfl;have hE:=Ep.start w;refine sr0_ hF hI (s_ [e_ 2 (.bool false),p_ 1 0 0] [((((kd_Part).cells x0 sv0).map EV.v),89)]) (by kernel_rfl) (fun ns_1 a w_2 hI=>?_);obtain ⟨t_3,hG_4,H0⟩:=bind_some H0;refine srn_ (orc:=[[.bool t_3]]) hF hI [2] [e_ 2 (.bool (!t_3))] [] [.call true 108 [.int .i64 x0.Core,.int .i64 0,.int .i64 1] (.bool t_3)] (by kernel_rfl) ⟨ob_call (enters Tryz.func108 (by kernel_rfl) rfl) (fun hg wz hk=>G_defect_within.calls x0.Core 0 1 wz (S:=fun _=>True) _ hG_4),trivial⟩ (fun ns_5 a w_6 hI=>?_);refine wpIn_ret ?_;obtain rfl:=Option.some.inj H0;exact ret1 hI rfl rfl ⟨rfl,hE.below hI⟩
def G_defect_rules_3(x0:Part):Option (Bool):=((G_defect_within x0.Private 0 64).bind fun t_3=>some (!t_3))
theorem G_defect_rules_3.calls(x0:Part)(sv0:SV)(w:World){S:Nat→Prop}(hx0:(kd_Part).cont S w x0 sv0)(r:Bool)(h:G_defect_rules_3 x0=some r):
    Calls Tryz.prog 111 #[.agg ((kd_Part).cells x0 sv0).toArray] w fun e w'=>e=.returned (.bool r)∧Below w.heap.size w w':=by
  replace hx0:=Kd.lo _ hx0;unfold G_defect_rules_3 at h;have H0:=h;clear h;refine enter Tryz.func111 rfl [.agg ((kd_Part).cells x0 sv0).toArray] (n:=7) rfl (Nat.le_of_ble_eq_true rfl) (fun a hI=>?_);have hF:FOpen Fence.wide:=.inl rfl;have hE:=Ep.start w;refine sr0_ hF hI (s_ [e_ 2 (.bool false),p_ 1 0 0] [((((kd_Part).cells x0 sv0).map EV.v),89)]) (by kernel_rfl) (fun ns_1 a w_2 hI=>?_);obtain ⟨t_3,hG_4,H0⟩:=bind_some H0;refine srn_ (orc:=[[.bool t_3]]) hF hI [2] [e_ 2 (.bool (!t_3))] [] [.call true 108 [.int .i64 x0.Private,.int .i64 0,.int .i64 64] (.bool t_3)] (by kernel_rfl) ⟨ob_call (enters Tryz.func108 (by kernel_rfl) rfl) (fun hg wz hk=>G_defect_within.calls x0.Private 0 64 wz (S:=fun _=>True) _ hG_4),trivial⟩ (fun ns_5 a w_6 hI=>?_);refine wpIn_ret ?_;obtain rfl:=Option.some.inj H0;exact ret1 hI rfl rfl ⟨rfl,hE.below hI⟩
def Fn197.run(f:Fn197)(x0:Part):Option (Bool):=match f with
  | .f110=>G_defect_rules_2 x0
  | .f111=>G_defect_rules_3 x0
theorem Fn197.ent(f:Fn197)(args:Array Value)(w:World):(callFunc (fid197 f) args).run Tryz.prog w=.ok (.enter (fid197 f) args) w:=by
  cases f with
  | f110=>exact enters Tryz.func110 (by kernel_rfl) rfl args w
  | f111=>exact enters Tryz.func111 (by kernel_rfl) rfl args w
theorem Fn197.calls(f:Fn197)(x0:Part)(svf:SV)(sv0:SV)(w:World){S:Nat→Prop}(hf:(kdF197).cont S w f svf)(hx0:(kd_Part).cont S w x0 sv0)(r:Bool)(h:Fn197.run f x0=some r):
    Calls Tryz.prog (fid197 f) (([.agg ((kd_Part).cells x0 sv0).toArray]:List Value)++(fca197 f svf).toList).toArray w fun e w'=>e=.returned (.bool r)∧Below w.heap.size w w':=by
  cases f with
  | f110=>exact G_defect_rules_2.calls x0 sv0 w hx0 r h
  | f111=>exact G_defect_rules_3.calls x0 sv0 w hx0 r h
def G_api_Part_151.b1(l0:(List Part))(x1:Fn197)(s1:Int×Int):Option (Stp (Int×Int) (Ex (Int×Int) (Int))):=(bif decide (s1.1<(l0.length:Int)) then (req (inb s1.1 l0.length) ((Fn197.run x1 (rd l0 s1.1)).bind fun t_16=>(bif t_16 then some (.out (.ret s1.1)) else some (.next ((IntKind.i64.wrap (s1.1+1)),s1.2))))) else some (.out (.brk (s1.1,s1.2))))
def G_api_Part_151(l0:(List Part))(x1:Fn197):Option (Int):=((loopω (G_api_Part_151.b1 l0 x1) (0,0)).bind fun o=>o.on (fun s1=>some (-1)) (fun r=>some r))
theorem G_api_Part_151.calls(l0:(List Part))(x1:Fn197)(A0:Option Addr)(c0:Nat)(sv1:SV)(w:World){S:Nat→Prop}(hr0:Arr kd_Part S w A0 l0)(hc0:l0.length≤c0)(hx1:(kdF197).cont S w x1 sv1)(r:Int)(h:G_api_Part_151 l0 x1=some r):
    Calls Tryz.prog 151 #[.slice A0 l0.length c0,fnv197 x1 sv1] w fun e w'=>e=.returned (.int .i64 r)∧Below w.heap.size w w':=by
  replace hr0:=Arr.lo hr0;replace hx1:=Kd.lo _ hx1;unfold G_api_Part_151 at h;have H0:=h;clear h;refine enter Tryz.func151 rfl [.slice A0 l0.length c0,fnv197 x1 sv1] (n:=19) rfl (Nat.le_of_ble_eq_true rfl) (fun a hI=>?_);have hF:FOpen Fence.wide:=.inl rfl;have hE:=Ep.start w;refine sr0_ hF hI (s_ [e_ 4 (.int .i64 0),e_ 0 (.slice A0 l0.length c0),e_ 1 (fnv197 x1 sv1)] []) (by kernel_rfl) (fun ns_1 a w_2 hI=>?_);refine wpIn_seq ?_;refine srn0_ hF hI [8,7,4,0,1] [e_ 8 (.int .i64 0),e_ 7 (.int .i64 (l0.length:Int))] [] (by kernel_rfl) (fun ns_3 a w_4 hI=>?_);obtain ⟨o_25,hL_26,H0⟩:=bind_some H0;refine block_loop (fun (s1:Int×Int) a w_31=>∃ns,St w [] 19 (s_ [e_ 8 (.int .i64 s1.1),e_ 7 (.int .i64 (l0.length:Int)),e_ 4 (.int .i64 s1.2),e_ 0 (.slice A0 l0.length c0),e_ 1 (fnv197 x1 sv1)] []) ns a w_31) (0,0) hL_26 ⟨_,hI.pick [8,7,4,0,1] 0 _ (by kernel_rfl)⟩ ?_ ?_
  ·clear hI;rintro s1 a w_5 ⟨ns_6,hI⟩ r1 H1;unfold G_api_Part_151.b1 at H1;refine sr0_ hF hI (s_ [e_ 9 (.bool (decide (s1.1<(l0.length:Int)))),e_ 8 (.int .i64 s1.1),e_ 7 (.int .i64 (l0.length:Int)),e_ 4 (.int .i64 s1.2),e_ 0 (.slice A0 l0.length c0),e_ 1 (fnv197 x1 sv1)] []) (by kernel_rfl) (fun ns_7 a w_8 hI=>?_);refine wpIn_seq ?_;refine cond_ hI (decide (s1.1<(l0.length:Int))) rfl (fun hc_9=>?_) (fun hc_9=>?_)
   ·replace H1:=bif_t hc_9 H1;refine wpIn_skip ?_;refine then_normal ?_;refine wpIn_seq ?_;refine wpIn_block ?_;refine srn0_ hF hI [5,8,7,4,0,1] [e_ 5 (.int .i64 s1.1)] [] (by kernel_rfl) (fun ns_10 a w_11 hI=>?_);obtain ⟨hN_12,H1⟩:=req_some H1;obtain ⟨sv_13,hE_15,hA_14⟩:=Arr.elB (d:=kd_Part) hr0 s1.1 true (fun _=>hN_12);replace hE_15:=hE_15 rfl;replace hA_14:=fun (_:true=true)=>hA_14 rfl;obtain ⟨t_16,hG_17,H1⟩:=bind_some H1;refine srn_ (orc:=[(kd_Part).cells (rd l0 s1.1) sv_13,[.bool t_16]]) hF hI [16,5,8,7,4,0,1] [e_ 16 (.bool t_16)] [] [.need true ((0:Int)≤s1.1∧s1.1<(l0.length:Int)),.need true (A0=some (adr A0)),.cell true ((adr A0).add ((s1.1:Int).toNat*2)) ((kd_Part).cells (rd l0 s1.1) sv_13),.call true (fid197 x1) (([.agg ((kd_Part).cells (rd l0 s1.1) (svL [])).toArray]:List Value)++(fca197 x1 sv1).toList) (.bool t_16)] (by kernel_rfl) ⟨ob_inb (fun _=>hN_12),hA_14,ob_el (fun _=>hE_15) 0 ((kd_Part).cells (rd l0 s1.1) sv_13) rfl,ob_call (Fn197.ent x1) (fun hg wz hk=>Fn197.calls x1 (rd l0 s1.1) sv1 (svL []) wz (S:=fun _=>True) (Kd.any _ (Kd.keep kdF197 hx1 (Lo.on hk))) (Kd.any _ (Kd.keep kd_Part (contI (S:=Lo S w w [] []) (w:=w) (d:=kd_Part) (x:=(rd l0 s1.1)) (sv:=(svL [])) trivial) (Lo.on hk))) _ hG_17),trivial⟩ (fun ns_18 a w_19 hI=>?_);refine cond_ hI (t_16) rfl (fun hc_20=>?_) (fun hc_20=>?_)
    ·replace H1:=bif_t hc_20 H1;refine srn0_ hF hI [4] [e_ 4 (.int .i64 s1.1)] [] (by kernel_rfl) (fun ns_21 a w_22 hI=>?_);refine wpIn_ret ?_;refine inBlock_ret ?_;refine then_ret ?_;refine then_ret ?_;obtain rfl:=Option.some.inj H1;refine .inr ⟨_,rfl,fun ho=>?_⟩;subst ho;refine inBlock_ret ?_;refine then_ret ?_;obtain rfl:=Option.some.inj H0;exact ret1 hI rfl rfl ⟨rfl,hE.below hI⟩
    ·replace H1:=bif_f hc_20 H1;refine wpIn_skip ?_;refine inBlock_normal ?_;refine then_normal ?_;refine rgn0_ hF hI [8,7,4,0,1] [e_ 8 (.int .i64 (IntKind.i64.wrap (s1.1+1)))] [] (by kernel_rfl) (fun ns_23 a w_24 hI=>?_);refine then_normal ?_;obtain rfl:=Option.some.inj H1;exact ⟨_,rfl,⟨_,hI.pick [8,7,4,0,1] 0 _ (by kernel_rfl)⟩⟩
   ·replace H1:=bif_f hc_9 H1;refine wpIn_exit ?_;refine then_exit ?_;refine then_exit ?_;obtain rfl:=Option.some.inj H1;exact .inl ⟨_,rfl,rfl,⟨_,hI.pick [8,7,4,0,1] 0 _ (by kernel_rfl)⟩⟩
  ·clear hI;rintro s1 a w_27 ho ⟨ns_28,hI⟩;subst ho;replace H0:(some (-1):Option (Int))=_:=H0;refine then_normal ?_;refine sr0_ hF hI (s_ [e_ 4 (.int .i64 (-1))] []) (by kernel_rfl) (fun ns_29 a w_30 hI=>?_);refine wpIn_ret ?_;obtain rfl:=Option.some.inj H0;exact ret1 hI rfl rfl ⟨rfl,hE.below hI⟩
def G_api_Part_138(l0:(List Part))(x1:Fn197):Option (Bool):=((G_api_Part_151 l0 x1).bind fun t_3=>some (decide (t_3≥0)))
theorem G_api_Part_138.calls(l0:(List Part))(x1:Fn197)(A0:Option Addr)(c0:Nat)(sv1:SV)(w:World){S:Nat→Prop}(hr0:Arr kd_Part S w A0 l0)(hc0:l0.length≤c0)(hx1:(kdF197).cont S w x1 sv1)(r:Bool)(h:G_api_Part_138 l0 x1=some r):
    Calls Tryz.prog 138 #[.slice A0 l0.length c0,fnv197 x1 sv1] w fun e w'=>e=.returned (.bool r)∧Below w.heap.size w w':=by
  replace hr0:=Arr.lo hr0;replace hx1:=Kd.lo _ hx1;unfold G_api_Part_138 at h;have H0:=h;clear h;refine enter Tryz.func138 rfl [.slice A0 l0.length c0,fnv197 x1 sv1] (n:=9) rfl (Nat.le_of_ble_eq_true rfl) (fun a hI=>?_);have hF:FOpen Fence.wide:=.inl rfl;have hE:=Ep.start w;refine sr0_ hF hI (s_ [e_ 4 (.bool false),e_ 0 (.slice A0 l0.length c0),e_ 1 (fnv197 x1 sv1)] []) (by kernel_rfl) (fun ns_1 a w_2 hI=>?_);obtain ⟨t_3,hG_4,H0⟩:=bind_some H0;refine srn_ (orc:=[[.int .i64 t_3]]) hF hI [4] [e_ 4 (.bool (decide (t_3≥0)))] [] [.call true 151 [.slice A0 l0.length c0,fnv197 x1 sv1] (.int .i64 t_3)] (by kernel_rfl) ⟨ob_call (enters Tryz.func151 (by kernel_rfl) rfl) (fun hg wz hk=>G_api_Part_151.calls l0 x1 A0 c0 (svL []) wz (S:=fun _=>True) (Arr.any (Arr.keep hr0 (Lo.on hk))) hc0 (Kd.any _ (Kd.keep kdF197 (contI (S:=Lo S w w [] []) (w:=w) (d:=kdF197) (x:=x1) (sv:=(svL [])) hx1) (Lo.on hk))) _ hG_4),trivial⟩ (fun ns_5 a w_6 hI=>?_);refine wpIn_ret ?_;obtain rfl:=Option.some.inj H0;exact ret1 hI rfl rfl ⟨rfl,hE.below hI⟩
def G_defect_part_1(x0:Config)(y1:Fn197):Option (Bool):=((G_api_Part_138 x0.Parts y1).bind fun t_3=>some t_3)
theorem G_defect_part_1.calls(x0:Config)(y1:Fn197)(sv0:SV)(B1:Addr)(sv1:SV)(w:World){S:Nat→Prop}(hx0:(kd_Config).cont S w x0 sv0)(hB1:El kdF197 S w B1 y1 sv1)(r:Bool)(h:G_defect_part_1 x0 y1=some r):
    Calls Tryz.prog 137 #[.agg ((kd_Config).cells x0 sv0).toArray,.pointer (some B1)] w fun e w'=>e=.returned (.bool r)∧Below w.heap.size w w':=by
  replace hx0:=Kd.lo _ hx0;replace hB1:=El.lo hB1;unfold G_defect_part_1 at h;have H0:=h;clear h;refine enter Tryz.func137 rfl [.agg ((kd_Config).cells x0 sv0).toArray,.pointer (some B1)] (n:=8) rfl (Nat.le_of_ble_eq_true rfl) (fun a hI=>?_);have hF:FOpen Fence.wide:=.inl rfl;have hE:=Ep.start w;refine sr0_ hF hI (s_ [e_ 3 (.bool false),p_ 2 0 0,e_ 1 (.pointer (some B1))] [((((kd_Config).cells x0 sv0).map EV.v),29)]) (by kernel_rfl) (fun ns_1 a w_2 hI=>?_);obtain ⟨t_3,hG_4,H0⟩:=bind_some H0;refine srn_ (orc:=[[fnv197 y1 sv1],[.bool t_3]]) hF hI [3] [e_ 3 (.bool t_3)] [] [.cell true B1 [fnv197 y1 sv1],.call true 138 [.slice ((sv0 0).1) x0.Parts.length ((sv0 0).2),fnv197 y1 sv1] (.bool t_3)] (by kernel_rfl) ⟨ob_el (fun _=>hB1) 0 [fnv197 y1 sv1] rfl,ob_call (enters Tryz.func138 (by kernel_rfl) rfl) (fun hg wz hk=>G_api_Part_138.calls x0.Parts y1 ((sv0 0).1) ((sv0 0).2) (svL []) wz (S:=fun _=>True) (Arr.any (Arr.keep hx0.1.1 (Lo.on hk))) hx0.1.2 (Kd.any _ (Kd.keep kdF197 (contI (S:=Lo S w w [] []) (w:=w) (d:=kdF197) (x:=y1) (sv:=(svL [])) (hB1).cont) (Lo.on hk))) _ hG_4),trivial⟩ (fun ns_5 a w_6 hI=>?_);refine wpIn_ret ?_;obtain rfl:=Option.some.inj H0;exact ret1 hI rfl rfl ⟨rfl,hE.below hI⟩
def G_defect_part(x0:Fn197):Option (Defect_rule):=some (⟨(Fn63.f137 x0)⟩:Defect_rule)
theorem G_defect_part.calls(x0:Fn197)(sv0:SV)(w:World){S:Nat→Prop}(hx0:(kdF197).cont S w x0 sv0)(r:Defect_rule)(h:G_defect_part x0=some r):
    Calls Tryz.prog 109 #[fnv197 x0 sv0] w fun e w'=>∃sv:SV,e=.returned (.agg ((kd_Defect_rule).cells r sv).toArray)∧Below w.heap.size w w'∧(kd_Defect_rule).cont (fun b=>w.heap.size≤b∨S b) w' r sv:=by
  replace hx0:=Kd.lo _ hx0;unfold G_defect_part at h;have H0:=h;clear h;refine enter Tryz.func109 rfl [fnv197 x0 sv0] (n:=5) rfl (Nat.le_of_ble_eq_true rfl) (fun a hI=>?_);have hF:FOpen Fence.wide:=.inl rfl;have hE:=Ep.start w;refine sr0_ hF hI (s_ [p_ 2 1 0,p_ 1 0 0] [([.v (fnv197 x0 sv0)],197),([.v (.nilFunc)],183)]) (by kernel_rfl) (fun ns_1 a w_2 hI=>?_);refine wpIn_seq ?_;refine wpIn_region_lit ?_;obtain ⟨hE',hmv,hmr⟩:=Ep.rebase hE hI;replace hx0:=kk hmv hx0;replace hE:=hE';replace hI:=hI.rebase;clear hE' hmv hmr;have hct:=contI (S:=Lo S w w_2 ns_1 []) (w:=w_2) (d:=kdF197) (x:=x0) (sv:=(svL [])) hx0;obtain ⟨B_3,ns_5,hE',hI',hmv,hB_4⟩:=freeze_ (d:=kdF197) hE hI 0 x0 (svL []) 197 rfl;replace hB_4:=hB_4 _ hct;clear hct;have hmr:=hmr_ ([]:List (List Nat)) w_2;replace hx0:=kk hmv hx0;replace hE:=hE';replace hI:=hI';clear hE' hI' hmv hmr;obtain ⟨ns_6,hE',hI',hmv⟩:=hE.cut hI [2,1] 1 (s_ [p_ 2 0 0,e_ 1 (.pointer (some B_3))] [([.v (.nilFunc)],183)]) (by kernel_rfl);have hmr:=hmr_ ([]:List (List Nat)) w_2;replace hx0:=kk hmv hx0;replace hB_4:=ke hmv hB_4;replace hE:=hE';replace hI:=hI';clear hE' hI' hmv hmr;refine ck0_ hF 1 hI (s_ [e_ 3 (.func (.func 137) #[] #[.pointer (some B_3)]),p_ 2 0 0,e_ 1 (.pointer (some B_3))] [([.v (.nilFunc)],183)]) rfl (by kernel_rfl) (fun ns_7 a w_8 hI=>?_);refine ckn0_ hF 2 hI [2] [] [(0,([.v (.func (.func 137) #[] #[.pointer (some B_3)])],183))] rfl (by kernel_rfl) (fun ns_9 a w_10 hI=>?_);refine wpListIn_nil ?_;refine then_normal ?_;refine wpIn_ret ?_;obtain rfl:=Option.some.inj H0;exact retCell hI rfl rfl rfl rfl rfl rfl ⟨svL [(some B_3,0),(none,0)],rfl,hE.below hI,⟨⟨((El.keep hB_4 (hE.out hI))).cont,((El.keep hB_4 (hE.out hI))).at_,((El.keep hB_4 (hE.out hI))).cells⟩,trivial⟩⟩
def G_defect_rules_4(x0:Config):Option (Bool):=some (decide ((x0.Chans.length:Int)>8))
theorem G_defect_rules_4.calls(x0:Config)(sv0:SV)(w:World){S:Nat→Prop}(hx0:(kd_Config).cont S w x0 sv0)(r:Bool)(h:G_defect_rules_4 x0=some r):
    Calls Tryz.prog 112 #[.agg ((kd_Config).cells x0 sv0).toArray] w fun e w'=>e=.returned (.bool r)∧Below w.heap.size w w':=by
  replace hx0:=Kd.lo _ hx0;unfold G_defect_rules_4 at h;have H0:=h;clear h;refine enter Tryz.func112 rfl [.agg ((kd_Config).cells x0 sv0).toArray] (n:=7) rfl (Nat.le_of_ble_eq_true rfl) (fun a hI=>?_);have hF:FOpen Fence.wide:=.inl rfl;have hE:=Ep.start w;refine sr0_ hF hI (s_ [e_ 2 (.bool false),p_ 1 0 0] [((((kd_Config).cells x0 sv0).map EV.v),29)]) (by kernel_rfl) (fun ns_1 a w_2 hI=>?_);refine srn0_ hF hI [2] [e_ 2 (.bool (decide ((x0.Chans.length:Int)>8)))] [] (by kernel_rfl) (fun ns_3 a w_4 hI=>?_);refine wpIn_ret ?_;obtain rfl:=Option.some.inj H0;exact ret1 hI rfl rfl ⟨rfl,hE.below hI⟩
def G_defect_rules_5(x0:Config)(x1:Chan):Option (Bool):=some ((x1.Kind !=1)&&(x1.Kind !=2))
theorem G_defect_rules_5.calls(x0:Config)(x1:Chan)(sv0:SV)(sv1:SV)(w:World){S:Nat→Prop}(hx0:(kd_Config).cont S w x0 sv0)(hx1:(kd_Chan).cont S w x1 sv1)(r:Bool)(h:G_defect_rules_5 x0 x1=some r):
    Calls Tryz.prog 114 #[.agg ((kd_Config).cells x0 sv0).toArray,.agg ((kd_Chan).cells x1 sv1).toArray] w fun e w'=>e=.returned (.bool r)∧Below w.heap.size w w':=by
  replace hx0:=Kd.lo _ hx0;replace hx1:=Kd.lo _ hx1;unfold G_defect_rules_5 at h;have H0:=h;clear h;refine enter Tryz.func114 rfl [.agg ((kd_Config).cells x0 sv0).toArray,.agg ((kd_Chan).cells x1 sv1).toArray] (n:=13) rfl (Nat.le_of_ble_eq_true rfl) (fun a hI=>?_);have hF:FOpen Fence.wide:=.inl rfl;have hE:=Ep.start w;refine sr0_ hF hI (s_ [e_ 4 (.bool false),p_ 3 1 0] [((((kd_Config).cells x0 sv0).map EV.v),29),((((kd_Chan).cells x1 sv1).map EV.v),84)]) (by kernel_rfl) (fun ns_1 a w_2 hI=>?_);refine srn0_ hF hI [4] [e_ 4 (.bool ((x1.Kind !=1)&&(x1.Kind !=2)))] [] (by kernel_rfl) (fun ns_3 a w_4 hI=>?_);refine wpIn_ret ?_;obtain rfl:=Option.some.inj H0;exact ret1 hI rfl rfl ⟨rfl,hE.below hI⟩
def G_defect_strange(x0:Config)(a1:Int):Option (Bool):=((G_defect_within a1 0 (IntKind.i64.wrap ((x0.Parts.length:Int) - 1))).bind fun t_3=>some (!t_3))
theorem G_defect_strange.calls(x0:Config)(a1:Int)(sv0:SV)(w:World){S:Nat→Prop}(hx0:(kd_Config).cont S w x0 sv0)(r:Bool)(h:G_defect_strange x0 a1=some r):
    Calls Tryz.prog 116 #[.agg ((kd_Config).cells x0 sv0).toArray,.int .i64 a1] w fun e w'=>e=.returned (.bool r)∧Below w.heap.size w w':=by
  replace hx0:=Kd.lo _ hx0;unfold G_defect_strange at h;have H0:=h;clear h;refine enter Tryz.func116 rfl [.agg ((kd_Config).cells x0 sv0).toArray,.int .i64 a1] (n:=12) rfl (Nat.le_of_ble_eq_true rfl) (fun a hI=>?_);have hF:FOpen Fence.wide:=.inl rfl;have hE:=Ep.start w;refine sr0_ hF hI (s_ [e_ 4 (.bool false),p_ 2 0 0,e_ 1 (.int .i64 a1)] [((((kd_Config).cells x0 sv0).map EV.v),29)]) (by kernel_rfl) (fun ns_1 a w_2 hI=>?_);obtain ⟨t_3,hG_4,H0⟩:=bind_some H0;refine srn_ (orc:=[[.bool t_3]]) hF hI [4] [e_ 4 (.bool (!t_3))] [] [.call true 108 [.int .i64 a1,.int .i64 0,.int .i64 (IntKind.i64.wrap ((x0.Parts.length:Int) - 1))] (.bool t_3)] (by kernel_rfl) ⟨ob_call (enters Tryz.func108 (by kernel_rfl) rfl) (fun hg wz hk=>G_defect_within.calls a1 0 (IntKind.i64.wrap ((x0.Parts.length:Int) - 1)) wz (S:=fun _=>True) _ hG_4),trivial⟩ (fun ns_5 a w_6 hI=>?_);refine wpIn_ret ?_;obtain rfl:=Option.some.inj H0;exact ret1 hI rfl rfl ⟨rfl,hE.below hI⟩
def G_defect_rules_6(x0:Config)(x1:Chan):Option (Bool):=((G_defect_strange x0 x1.From).bind fun t_3=>((cal (!t_3) (G_defect_strange x0 x1.To) default).bind fun t_5=>some (t_3||t_5)))
theorem G_defect_rules_6.calls(x0:Config)(x1:Chan)(sv0:SV)(sv1:SV)(w:World){S:Nat→Prop}(hx0:(kd_Config).cont S w x0 sv0)(hx1:(kd_Chan).cont S w x1 sv1)(r:Bool)(h:G_defect_rules_6 x0 x1=some r):
    Calls Tryz.prog 115 #[.agg ((kd_Config).cells x0 sv0).toArray,.agg ((kd_Chan).cells x1 sv1).toArray] w fun e w'=>e=.returned (.bool r)∧Below w.heap.size w w':=by
  replace hx0:=Kd.lo _ hx0;replace hx1:=Kd.lo _ hx1;unfold G_defect_rules_6 at h;have H0:=h;clear h;refine enter Tryz.func115 rfl [.agg ((kd_Config).cells x0 sv0).toArray,.agg ((kd_Chan).cells x1 sv1).toArray] (n:=15) rfl (Nat.le_of_ble_eq_true rfl) (fun a hI=>?_);have hF:FOpen Fence.wide:=.inl rfl;have hE:=Ep.start w;refine sr0_ hF hI (s_ [e_ 4 (.bool false),p_ 3 1 0,p_ 2 0 0] [((((kd_Config).cells x0 sv0).map EV.v),29),((((kd_Chan).cells x1 sv1).map EV.v),84)]) (by kernel_rfl) (fun ns_1 a w_2 hI=>?_);obtain ⟨t_3,hG_4,H0⟩:=bind_some H0;obtain ⟨t_5,hG_6,H0⟩:=bind_some H0;refine srn_ (orc:=[[.bool t_3],[.bool t_5]]) hF hI [4] [e_ 4 (.bool (t_3||t_5))] [] [.call true 116 [.agg ((kd_Config).cells x0 sv0).toArray,.int .i64 x1.From] (.bool t_3),.call (!t_3) 116 [.agg ((kd_Config).cells x0 sv0).toArray,.int .i64 x1.To] (.bool t_5)] (by kernel_rfl) ⟨ob_call (enters Tryz.func116 (by kernel_rfl) rfl) (fun hg wz hk=>G_defect_strange.calls x0 x1.From sv0 wz (S:=fun _=>True) (Kd.any _ (Kd.keep kd_Config (contI (S:=Lo S w w [] []) (w:=w) (d:=kd_Config) (x:=x0) (sv:=sv0) ⟨⟨hx0.1.1,hx0.1.2⟩,⟨hx0.2.1.1,hx0.2.1.2⟩,⟨hx0.2.2.1.1,hx0.2.2.1.2⟩,⟨hx0.2.2.2.1.1,hx0.2.2.2.1.2⟩,trivial⟩) (Lo.on hk))) _ hG_4),ob_call (enters Tryz.func116 (by kernel_rfl) rfl) (fun hg wz hk=>G_defect_strange.calls x0 x1.To sv0 wz (S:=fun _=>True) (Kd.any _ (Kd.keep kd_Config (contI (S:=Lo S w w [] []) (w:=w) (d:=kd_Config) (x:=x0) (sv:=sv0) ⟨⟨hx0.1.1,hx0.1.2⟩,⟨hx0.2.1.1,hx0.2.1.2⟩,⟨hx0.2.2.1.1,hx0.2.2.1.2⟩,⟨hx0.2.2.2.1.1,hx0.2.2.2.1.2⟩,trivial⟩) (Lo.on hk))) _ (cal_some hG_6 hg)),trivial⟩ (fun ns_7 a w_8 hI=>?_);refine wpIn_ret ?_;obtain rfl:=Option.some.inj H0;exact ret1 hI rfl rfl ⟨rfl,hE.below hI⟩
def G_defect_rules_7(x0:Config)(x1:Chan):Option (Bool):=some (x1.From==x1.To)
theorem G_defect_rules_7.calls(x0:Config)(x1:Chan)(sv0:SV)(sv1:SV)(w:World){S:Nat→Prop}(hx0:(kd_Config).cont S w x0 sv0)(hx1:(kd_Chan).cont S w x1 sv1)(r:Bool)(h:G_defect_rules_7 x0 x1=some r):
    Calls Tryz.prog 117 #[.agg ((kd_Config).cells x0 sv0).toArray,.agg ((kd_Chan).cells x1 sv1).toArray] w fun e w'=>e=.returned (.bool r)∧Below w.heap.size w w':=by
  replace hx0:=Kd.lo _ hx0;replace hx1:=Kd.lo _ hx1;unfold G_defect_rules_7 at h;have H0:=h;clear h;refine enter Tryz.func117 rfl [.agg ((kd_Config).cells x0 sv0).toArray,.agg ((kd_Chan).cells x1 sv1).toArray] (n:=10) rfl (Nat.le_of_ble_eq_true rfl) (fun a hI=>?_);have hF:FOpen Fence.wide:=.inl rfl;have hE:=Ep.start w;refine sr0_ hF hI (s_ [e_ 4 (.bool false),p_ 3 1 0] [((((kd_Config).cells x0 sv0).map EV.v),29),((((kd_Chan).cells x1 sv1).map EV.v),84)]) (by kernel_rfl) (fun ns_1 a w_2 hI=>?_);refine srn0_ hF hI [4] [e_ 4 (.bool (x1.From==x1.To))] [] (by kernel_rfl) (fun ns_3 a w_4 hI=>?_);refine wpIn_ret ?_;obtain rfl:=Option.some.inj H0;exact ret1 hI rfl rfl ⟨rfl,hE.below hI⟩
def G_defect_rules_8(x0:Config)(x1:Chan):Option (Bool):=((G_defect_within x1.Words 1 16).bind fun t_3=>some (!t_3))
theorem G_defect_rules_8.calls(x0:Config)(x1:Chan)(sv0:SV)(sv1:SV)(w:World){S:Nat→Prop}(hx0:(kd_Config).cont S w x0 sv0)(hx1:(kd_Chan).cont S w x1 sv1)(r:Bool)(h:G_defect_rules_8 x0 x1=some r):
    Calls Tryz.prog 118 #[.agg ((kd_Config).cells x0 sv0).toArray,.agg ((kd_Chan).cells x1 sv1).toArray] w fun e w'=>e=.returned (.bool r)∧Below w.heap.size w w':=by
  replace hx0:=Kd.lo _ hx0;replace hx1:=Kd.lo _ hx1;unfold G_defect_rules_8 at h;have H0:=h;clear h;refine enter Tryz.func118 rfl [.agg ((kd_Config).cells x0 sv0).toArray,.agg ((kd_Chan).cells x1 sv1).toArray] (n:=9) rfl (Nat.le_of_ble_eq_true rfl) (fun a hI=>?_);have hF:FOpen Fence.wide:=.inl rfl;have hE:=Ep.start w;refine sr0_ hF hI (s_ [e_ 4 (.bool false),p_ 3 1 0] [((((kd_Config).cells x0 sv0).map EV.v),29),((((kd_Chan).cells x1 sv1).map EV.v),84)]) (by kernel_rfl) (fun ns_1 a w_2 hI=>?_);obtain ⟨t_3,hG_4,H0⟩:=bind_some H0;refine srn_ (orc:=[[.bool t_3]]) hF hI [4] [e_ 4 (.bool (!t_3))] [] [.call true 108 [.int .i64 x1.Words,.int .i64 1,.int .i64 16] (.bool t_3)] (by kernel_rfl) ⟨ob_call (enters Tryz.func108 (by kernel_rfl) rfl) (fun hg wz hk=>G_defect_within.calls x1.Words 1 16 wz (S:=fun _=>True) _ hG_4),trivial⟩ (fun ns_5 a w_6 hI=>?_);refine wpIn_ret ?_;obtain rfl:=Option.some.inj H0;exact ret1 hI rfl rfl ⟨rfl,hE.below hI⟩
def G_defect_deep(x0:Chan):Option (Bool):=(bif (x0.Kind==1) then some (x0.Depth==0) else (bif (x0.Kind==2) then some ((((x0.Depth==1)||(x0.Depth==2))||(x0.Depth==4))||(x0.Depth==8)) else some true))
theorem G_defect_deep.calls(x0:Chan)(sv0:SV)(w:World){S:Nat→Prop}(hx0:(kd_Chan).cont S w x0 sv0)(r:Bool)(h:G_defect_deep x0=some r):
    Calls Tryz.prog 120 #[.agg ((kd_Chan).cells x0 sv0).toArray] w fun e w'=>e=.returned (.bool r)∧Below w.heap.size w w':=by
  replace hx0:=Kd.lo _ hx0;unfold G_defect_deep at h;have H0:=h;clear h;refine enter Tryz.func120 rfl [.agg ((kd_Chan).cells x0 sv0).toArray] (n:=30) rfl (Nat.le_of_ble_eq_true rfl) (fun a hI=>?_);have hF:FOpen Fence.wide:=.inl rfl;have hE:=Ep.start w;refine sr0_ hF hI (s_ [e_ 2 (.bool false),p_ 1 0 0] [((((kd_Chan).cells x0 sv0).map EV.v),84)]) (by kernel_rfl) (fun ns_1 a w_2 hI=>?_);refine wpIn_seq ?_;refine srn0_ hF hI [4,2,1] [e_ 4 (.int .i64 x0.Kind)] [] (by kernel_rfl) (fun ns_3 a w_4 hI=>?_);refine wpIn_block ?_;refine srn0_ hF hI [5,4,2,1] [e_ 5 (.bool (x0.Kind==1))] [] (by kernel_rfl) (fun ns_5 a w_6 hI=>?_);refine cond_ hI ((x0.Kind==1)) rfl (fun hc_7=>?_) (fun hc_7=>?_)
  ·replace H0:=bif_t hc_7 H0;refine srn0_ hF hI [2] [e_ 2 (.bool (x0.Depth==0))] [] (by kernel_rfl) (fun ns_8 a w_9 hI=>?_);refine wpIn_ret ?_;refine inBlock_ret ?_;refine then_ret ?_;obtain rfl:=Option.some.inj H0;exact ret1 hI rfl rfl ⟨rfl,hE.below hI⟩
  ·replace H0:=bif_f hc_7 H0;refine srn0_ hF hI [10,2,1] [e_ 10 (.bool (x0.Kind==2))] [] (by kernel_rfl) (fun ns_10 a w_11 hI=>?_);refine cond_ hI ((x0.Kind==2)) rfl (fun hc_12=>?_) (fun hc_12=>?_)
   ·replace H0:=bif_t hc_12 H0;refine srn0_ hF hI [2] [e_ 2 (.bool ((((x0.Depth==1)||(x0.Depth==2))||(x0.Depth==4))||(x0.Depth==8)))] [] (by kernel_rfl) (fun ns_13 a w_14 hI=>?_);refine wpIn_ret ?_;refine inBlock_ret ?_;refine then_ret ?_;obtain rfl:=Option.some.inj H0;exact ret1 hI rfl rfl ⟨rfl,hE.below hI⟩
   ·replace H0:=bif_f hc_12 H0;refine wpIn_skip ?_;refine inBlock_normal ?_;refine then_normal ?_;refine srn0_ hF hI [2] [e_ 2 (.bool true)] [] (by kernel_rfl) (fun ns_15 a w_16 hI=>?_);refine wpIn_ret ?_;obtain rfl:=Option.some.inj H0;exact ret1 hI rfl rfl ⟨rfl,hE.below hI⟩
def G_defect_rules_9(x0:Config)(x1:Chan):Option (Bool):=((G_defect_deep x1).bind fun t_3=>some (!t_3))
theorem G_defect_rules_9.calls(x0:Config)(x1:Chan)(sv0:SV)(sv1:SV)(w:World){S:Nat→Prop}(hx0:(kd_Config).cont S w x0 sv0)(hx1:(kd_Chan).cont S w x1 sv1)(r:Bool)(h:G_defect_rules_9 x0 x1=some r):
    Calls Tryz.prog 119 #[.agg ((kd_Config).cells x0 sv0).toArray,.agg ((kd_Chan).cells x1 (svL [])).toArray] w fun e w'=>e=.returned (.bool r)∧Below w.heap.size w w':=by
  replace hx0:=Kd.lo _ hx0;replace hx1:=Kd.lo _ hx1;unfold G_defect_rules_9 at h;have H0:=h;clear h;refine enter Tryz.func119 rfl [.agg ((kd_Config).cells x0 sv0).toArray,.agg ((kd_Chan).cells x1 (svL [])).toArray] (n:=8) rfl (Nat.le_of_ble_eq_true rfl) (fun a hI=>?_);have hF:FOpen Fence.wide:=.inl rfl;have hE:=Ep.start w;refine sr0_ hF hI (s_ [e_ 4 (.bool false),p_ 3 1 0] [((((kd_Config).cells x0 sv0).map EV.v),29),((((kd_Chan).cells x1 sv1).map EV.v),84)]) (by kernel_rfl) (fun ns_1 a w_2 hI=>?_);obtain ⟨t_3,hG_4,H0⟩:=bind_some H0;refine srn_ (orc:=[[.bool t_3]]) hF hI [4] [e_ 4 (.bool (!t_3))] [] [.call true 120 [.agg ((kd_Chan).cells x1 (svL [])).toArray] (.bool t_3)] (by kernel_rfl) ⟨ob_call (enters Tryz.func120 (by kernel_rfl) rfl) (fun hg wz hk=>G_defect_deep.calls x1 (svL []) wz (S:=fun _=>True) (Kd.any _ (Kd.keep kd_Chan (contI (S:=Lo S w w [] []) (w:=w) (d:=kd_Chan) (x:=x1) (sv:=(svL [])) trivial) (Lo.on hk))) _ hG_4),trivial⟩ (fun ns_5 a w_6 hI=>?_);refine wpIn_ret ?_;obtain rfl:=Option.some.inj H0;exact ret1 hI rfl rfl ⟨rfl,hE.below hI⟩
def G_defect_fresh(x0:Chan):Option (Bool):=(bif (x0.Kind==1) then ((G_defect_within x0.Period 0 1048576).bind fun t_8=>some t_8) else (bif (x0.Kind==2) then some (x0.Period==0) else some true))
theorem G_defect_fresh.calls(x0:Chan)(sv0:SV)(w:World){S:Nat→Prop}(hx0:(kd_Chan).cont S w x0 sv0)(r:Bool)(h:G_defect_fresh x0=some r):
    Calls Tryz.prog 122 #[.agg ((kd_Chan).cells x0 sv0).toArray] w fun e w'=>e=.returned (.bool r)∧Below w.heap.size w w':=by
  replace hx0:=Kd.lo _ hx0;unfold G_defect_fresh at h;have H0:=h;clear h;refine enter Tryz.func122 rfl [.agg ((kd_Chan).cells x0 sv0).toArray] (n:=15) rfl (Nat.le_of_ble_eq_true rfl) (fun a hI=>?_);have hF:FOpen Fence.wide:=.inl rfl;have hE:=Ep.start w;refine sr0_ hF hI (s_ [e_ 2 (.bool false),p_ 1 0 0] [((((kd_Chan).cells x0 sv0).map EV.v),84)]) (by kernel_rfl) (fun ns_1 a w_2 hI=>?_);refine wpIn_seq ?_;refine srn0_ hF hI [4,2,1] [e_ 4 (.int .i64 x0.Kind)] [] (by kernel_rfl) (fun ns_3 a w_4 hI=>?_);refine wpIn_block ?_;refine srn0_ hF hI [5,4,2,1] [e_ 5 (.bool (x0.Kind==1))] [] (by kernel_rfl) (fun ns_5 a w_6 hI=>?_);refine cond_ hI ((x0.Kind==1)) rfl (fun hc_7=>?_) (fun hc_7=>?_)
  ·replace H0:=bif_t hc_7 H0;obtain ⟨t_8,hG_9,H0⟩:=bind_some H0;refine srn_ (orc:=[[.bool t_8]]) hF hI [2] [e_ 2 (.bool t_8)] [] [.call true 108 [.int .i64 x0.Period,.int .i64 0,.int .i64 1048576] (.bool t_8)] (by kernel_rfl) ⟨ob_call (enters Tryz.func108 (by kernel_rfl) rfl) (fun hg wz hk=>G_defect_within.calls x0.Period 0 1048576 wz (S:=fun _=>True) _ hG_9),trivial⟩ (fun ns_10 a w_11 hI=>?_);refine wpIn_ret ?_;refine inBlock_ret ?_;refine then_ret ?_;obtain rfl:=Option.some.inj H0;exact ret1 hI rfl rfl ⟨rfl,hE.below hI⟩
  ·replace H0:=bif_f hc_7 H0;refine srn0_ hF hI [10,2,1] [e_ 10 (.bool (x0.Kind==2))] [] (by kernel_rfl) (fun ns_12 a w_13 hI=>?_);refine cond_ hI ((x0.Kind==2)) rfl (fun hc_14=>?_) (fun hc_14=>?_)
   ·replace H0:=bif_t hc_14 H0;refine srn0_ hF hI [2] [e_ 2 (.bool (x0.Period==0))] [] (by kernel_rfl) (fun ns_15 a w_16 hI=>?_);refine wpIn_ret ?_;refine inBlock_ret ?_;refine then_ret ?_;obtain rfl:=Option.some.inj H0;exact ret1 hI rfl rfl ⟨rfl,hE.below hI⟩
   ·replace H0:=bif_f hc_14 H0;refine wpIn_skip ?_;refine inBlock_normal ?_;refine then_normal ?_;refine srn0_ hF hI [2] [e_ 2 (.bool true)] [] (by kernel_rfl) (fun ns_17 a w_18 hI=>?_);refine wpIn_ret ?_;obtain rfl:=Option.some.inj H0;exact ret1 hI rfl rfl ⟨rfl,hE.below hI⟩
def G_defect_rules_10(x0:Config)(x1:Chan):Option (Bool):=((G_defect_fresh x1).bind fun t_3=>some (!t_3))
theorem G_defect_rules_10.calls(x0:Config)(x1:Chan)(sv0:SV)(sv1:SV)(w:World){S:Nat→Prop}(hx0:(kd_Config).cont S w x0 sv0)(hx1:(kd_Chan).cont S w x1 sv1)(r:Bool)(h:G_defect_rules_10 x0 x1=some r):
    Calls Tryz.prog 121 #[.agg ((kd_Config).cells x0 sv0).toArray,.agg ((kd_Chan).cells x1 (svL [])).toArray] w fun e w'=>e=.returned (.bool r)∧Below w.heap.size w w':=by
  replace hx0:=Kd.lo _ hx0;replace hx1:=Kd.lo _ hx1;unfold G_defect_rules_10 at h;have H0:=h;clear h;refine enter Tryz.func121 rfl [.agg ((kd_Config).cells x0 sv0).toArray,.agg ((kd_Chan).cells x1 (svL [])).toArray] (n:=8) rfl (Nat.le_of_ble_eq_true rfl) (fun a hI=>?_);have hF:FOpen Fence.wide:=.inl rfl;have hE:=Ep.start w;refine sr0_ hF hI (s_ [e_ 4 (.bool false),p_ 3 1 0] [((((kd_Config).cells x0 sv0).map EV.v),29),((((kd_Chan).cells x1 sv1).map EV.v),84)]) (by kernel_rfl) (fun ns_1 a w_2 hI=>?_);obtain ⟨t_3,hG_4,H0⟩:=bind_some H0;refine srn_ (orc:=[[.bool t_3]]) hF hI [4] [e_ 4 (.bool (!t_3))] [] [.call true 122 [.agg ((kd_Chan).cells x1 (svL [])).toArray] (.bool t_3)] (by kernel_rfl) ⟨ob_call (enters Tryz.func122 (by kernel_rfl) rfl) (fun hg wz hk=>G_defect_fresh.calls x1 (svL []) wz (S:=fun _=>True) (Kd.any _ (Kd.keep kd_Chan (contI (S:=Lo S w w [] []) (w:=w) (d:=kd_Chan) (x:=x1) (sv:=(svL [])) trivial) (Lo.on hk))) _ hG_4),trivial⟩ (fun ns_5 a w_6 hI=>?_);refine wpIn_ret ?_;obtain rfl:=Option.some.inj H0;exact ret1 hI rfl rfl ⟨rfl,hE.below hI⟩
def G_defect_rules_11(x0:Config)(x1:Chan):Option (Bool):=some ((x1.Kind==1)&&(x1.Boot !=0))
theorem G_defect_rules_11.calls(x0:Config)(x1:Chan)(sv0:SV)(sv1:SV)(w:World){S:Nat→Prop}(hx0:(kd_Config).cont S w x0 sv0)(hx1:(kd_Chan).cont S w x1 sv1)(r:Bool)(h:G_defect_rules_11 x0 x1=some r):
    Calls Tryz.prog 123 #[.agg ((kd_Config).cells x0 sv0).toArray,.agg ((kd_Chan).cells x1 sv1).toArray] w fun e w'=>e=.returned (.bool r)∧Below w.heap.size w w':=by
  replace hx0:=Kd.lo _ hx0;replace hx1:=Kd.lo _ hx1;unfold G_defect_rules_11 at h;have H0:=h;clear h;refine enter Tryz.func123 rfl [.agg ((kd_Config).cells x0 sv0).toArray,.agg ((kd_Chan).cells x1 sv1).toArray] (n:=13) rfl (Nat.le_of_ble_eq_true rfl) (fun a hI=>?_);have hF:FOpen Fence.wide:=.inl rfl;have hE:=Ep.start w;refine sr0_ hF hI (s_ [e_ 4 (.bool false),p_ 3 1 0] [((((kd_Config).cells x0 sv0).map EV.v),29),((((kd_Chan).cells x1 sv1).map EV.v),84)]) (by kernel_rfl) (fun ns_1 a w_2 hI=>?_);refine srn0_ hF hI [4] [e_ 4 (.bool ((x1.Kind==1)&&(x1.Boot !=0)))] [] (by kernel_rfl) (fun ns_3 a w_4 hI=>?_);refine wpIn_ret ?_;obtain rfl:=Option.some.inj H0;exact ret1 hI rfl rfl ⟨rfl,hE.below hI⟩
def Fn199.run(f:Fn199)(x0:Config)(x1:Chan):Option (Bool):=match f with
  | .f114=>G_defect_rules_5 x0 x1
  | .f115=>G_defect_rules_6 x0 x1
  | .f117=>G_defect_rules_7 x0 x1
  | .f118=>G_defect_rules_8 x0 x1
  | .f119=>G_defect_rules_9 x0 x1
  | .f121=>G_defect_rules_10 x0 x1
  | .f123=>G_defect_rules_11 x0 x1
theorem Fn199.ent(f:Fn199)(args:Array Value)(w:World):(callFunc (fid199 f) args).run Tryz.prog w=.ok (.enter (fid199 f) args) w:=by
  cases f with
  | f114=>exact enters Tryz.func114 (by kernel_rfl) rfl args w
  | f115=>exact enters Tryz.func115 (by kernel_rfl) rfl args w
  | f117=>exact enters Tryz.func117 (by kernel_rfl) rfl args w
  | f118=>exact enters Tryz.func118 (by kernel_rfl) rfl args w
  | f119=>exact enters Tryz.func119 (by kernel_rfl) rfl args w
  | f121=>exact enters Tryz.func121 (by kernel_rfl) rfl args w
  | f123=>exact enters Tryz.func123 (by kernel_rfl) rfl args w
theorem Fn199.calls(f:Fn199)(x0:Config)(x1:Chan)(svf:SV)(sv0:SV)(sv1:SV)(w:World){S:Nat→Prop}(hf:(kdF199).cont S w f svf)(hx0:(kd_Config).cont S w x0 sv0)(hx1:(kd_Chan).cont S w x1 sv1)(r:Bool)(h:Fn199.run f x0 x1=some r):
    Calls Tryz.prog (fid199 f) (([.agg ((kd_Config).cells x0 sv0).toArray,.agg ((kd_Chan).cells x1 sv1).toArray]:List Value)++(fca199 f svf).toList).toArray w fun e w'=>e=.returned (.bool r)∧Below w.heap.size w w':=by
  cases f with
  | f114=>exact G_defect_rules_5.calls x0 x1 sv0 sv1 w hx0 hx1 r h
  | f115=>exact G_defect_rules_6.calls x0 x1 sv0 sv1 w hx0 hx1 r h
  | f117=>exact G_defect_rules_7.calls x0 x1 sv0 sv1 w hx0 hx1 r h
  | f118=>exact G_defect_rules_8.calls x0 x1 sv0 sv1 w hx0 hx1 r h
  | f119=>exact G_defect_rules_9.calls x0 x1 sv0 sv1 w hx0 hx1 r h
  | f121=>exact G_defect_rules_10.calls x0 x1 sv0 sv1 w hx0 hx1 r h
  | f123=>exact G_defect_rules_11.calls x0 x1 sv0 sv1 w hx0 hx1 r h
def G_defect_channel_1_1(x0:Chan)(y1:Fn199)(y2:Config):Option (Bool):=((Fn199.run y1 y2 x0).bind fun t_3=>some t_3)
theorem G_defect_channel_1_1.calls(x0:Chan)(y1:Fn199)(y2:Config)(sv0:SV)(B1:Addr)(sv1:SV)(B2:Addr)(sv2:SV)(w:World){S:Nat→Prop}(hx0:(kd_Chan).cont S w x0 sv0)(hB1:El kdF199 S w B1 y1 sv1)(hB2:El kd_Config S w B2 y2 sv2)(r:Bool)(h:G_defect_channel_1_1 x0 y1 y2=some r):
    Calls Tryz.prog 141 #[.agg ((kd_Chan).cells x0 (svL [])).toArray,.pointer (some B1),.pointer (some B2)] w fun e w'=>e=.returned (.bool r)∧Below w.heap.size w w':=by
  replace hx0:=Kd.lo _ hx0;replace hB1:=El.lo hB1;replace hB2:=El.lo hB2;unfold G_defect_channel_1_1 at h;have H0:=h;clear h;refine enter Tryz.func141 rfl [.agg ((kd_Chan).cells x0 (svL [])).toArray,.pointer (some B1),.pointer (some B2)] (n:=9) rfl (Nat.le_of_ble_eq_true rfl) (fun a hI=>?_);have hF:FOpen Fence.wide:=.inl rfl;have hE:=Ep.start w;refine sr0_ hF hI (s_ [e_ 4 (.bool false),p_ 3 0 0,e_ 1 (.pointer (some B1)),e_ 2 (.pointer (some B2))] [((((kd_Chan).cells x0 sv0).map EV.v),84)]) (by kernel_rfl) (fun ns_1 a w_2 hI=>?_);obtain ⟨t_3,hG_4,H0⟩:=bind_some H0;refine srn_ (orc:=[[fnv199 y1 sv1],(kd_Config).cells y2 sv2,[.bool t_3]]) hF hI [4] [e_ 4 (.bool t_3)] [] [.cell true B1 [fnv199 y1 sv1],.cell true B2 ((kd_Config).cells y2 sv2),.call true (fid199 y1) (([.agg ((kd_Config).cells y2 sv2).toArray,.agg ((kd_Chan).cells x0 (svL [])).toArray]:List Value)++(fca199 y1 sv1).toList) (.bool t_3)] (by kernel_rfl) ⟨ob_el (fun _=>hB1) 0 [fnv199 y1 sv1] rfl,ob_el (fun _=>hB2) 0 ((kd_Config).cells y2 sv2) rfl,ob_call (Fn199.ent y1) (fun hg wz hk=>Fn199.calls y1 y2 x0 sv1 sv2 (svL []) wz (S:=fun _=>True) (Kd.any _ (Kd.keep kdF199 (hB1).cont (Lo.on hk))) (Kd.any _ (Kd.keep kd_Config (contI (S:=Lo S w w [] []) (w:=w) (d:=kd_Config) (x:=y2) (sv:=sv2) ⟨⟨(hB2).cont.1.1,(hB2).cont.1.2⟩,⟨(hB2).cont.2.1.1,(hB2).cont.2.1.2⟩,⟨(hB2).cont.2.2.1.1,(hB2).cont.2.2.1.2⟩,⟨(hB2).cont.2.2.2.1.1,(hB2).cont.2.2.2.1.2⟩,trivial⟩) (Lo.on hk))) (Kd.any _ (Kd.keep kd_Chan (contI (S:=Lo S w w [] []) (w:=w) (d:=kd_Chan) (x:=x0) (sv:=(svL [])) trivial) (Lo.on hk))) _ hG_4),trivial⟩ (fun ns_5 a w_6 hI=>?_);refine wpIn_ret ?_;obtain rfl:=Option.some.inj H0;exact ret1 hI rfl rfl ⟨rfl,hE.below hI⟩
def Fn200.run(f:Fn200)(x0:Chan):Option (Bool):=match f with
  | .f141 c0 c1=>G_defect_channel_1_1 x0 c0 c1
theorem Fn200.ent(f:Fn200)(args:Array Value)(w:World):(callFunc (fid200 f) args).run Tryz.prog w=.ok (.enter (fid200 f) args) w:=by
  cases f with
  | f141 _ _=>exact enters Tryz.func141 (by kernel_rfl) rfl args w
theorem Fn200.calls(f:Fn200)(x0:Chan)(svf:SV)(sv0:SV)(w:World){S:Nat→Prop}(hf:(kdF200).cont S w f svf)(hx0:(kd_Chan).cont S w x0 sv0)(r:Bool)(h:Fn200.run f x0=some r):
    Calls Tryz.prog (fid200 f) (([.agg ((kd_Chan).cells x0 sv0).toArray]:List Value)++(fca200 f svf).toList).toArray w fun e w'=>e=.returned (.bool r)∧Below w.heap.size w w':=by
  cases f with
  | f141 c0 c1=>exact G_defect_channel_1_1.calls x0 c0 c1 sv0 (adr (svf 0).1) (svO svf 1) (adr (svf 1).1) (svO svf 2) w hx0 hf.1 hf.2 r h
def G_api_Chan_152.b1(l0:(List Chan))(x1:Fn200)(s1:Int×Int):Option (Stp (Int×Int) (Ex (Int×Int) (Int))):=(bif decide (s1.1<(l0.length:Int)) then (req (inb s1.1 l0.length) ((Fn200.run x1 (rd l0 s1.1)).bind fun t_16=>(bif t_16 then some (.out (.ret s1.1)) else some (.next ((IntKind.i64.wrap (s1.1+1)),s1.2))))) else some (.out (.brk (s1.1,s1.2))))
def G_api_Chan_152(l0:(List Chan))(x1:Fn200):Option (Int):=((loopω (G_api_Chan_152.b1 l0 x1) (0,0)).bind fun o=>o.on (fun s1=>some (-1)) (fun r=>some r))
theorem G_api_Chan_152.calls(l0:(List Chan))(x1:Fn200)(A0:Option Addr)(c0:Nat)(sv1:SV)(w:World){S:Nat→Prop}(hr0:Arr kd_Chan S w A0 l0)(hc0:l0.length≤c0)(hx1:(kdF200).cont S w x1 sv1)(r:Int)(h:G_api_Chan_152 l0 x1=some r):
    Calls Tryz.prog 152 #[.slice A0 l0.length c0,fnv200 x1 sv1] w fun e w'=>e=.returned (.int .i64 r)∧Below w.heap.size w w':=by
  replace hr0:=Arr.lo hr0;replace hx1:=Kd.lo _ hx1;unfold G_api_Chan_152 at h;have H0:=h;clear h;refine enter Tryz.func152 rfl [.slice A0 l0.length c0,fnv200 x1 sv1] (n:=19) rfl (Nat.le_of_ble_eq_true rfl) (fun a hI=>?_);have hF:FOpen Fence.wide:=.inl rfl;have hE:=Ep.start w;refine sr0_ hF hI (s_ [e_ 4 (.int .i64 0),e_ 0 (.slice A0 l0.length c0),e_ 1 (fnv200 x1 sv1)] []) (by kernel_rfl) (fun ns_1 a w_2 hI=>?_);refine wpIn_seq ?_;refine srn0_ hF hI [8,7,4,0,1] [e_ 8 (.int .i64 0),e_ 7 (.int .i64 (l0.length:Int))] [] (by kernel_rfl) (fun ns_3 a w_4 hI=>?_);obtain ⟨o_25,hL_26,H0⟩:=bind_some H0;refine block_loop (fun (s1:Int×Int) a w_31=>∃ns,St w [] 19 (s_ [e_ 8 (.int .i64 s1.1),e_ 7 (.int .i64 (l0.length:Int)),e_ 4 (.int .i64 s1.2),e_ 0 (.slice A0 l0.length c0),e_ 1 (fnv200 x1 sv1)] []) ns a w_31) (0,0) hL_26 ⟨_,hI.pick [8,7,4,0,1] 0 _ (by kernel_rfl)⟩ ?_ ?_
  ·clear hI;rintro s1 a w_5 ⟨ns_6,hI⟩ r1 H1;unfold G_api_Chan_152.b1 at H1;refine sr0_ hF hI (s_ [e_ 9 (.bool (decide (s1.1<(l0.length:Int)))),e_ 8 (.int .i64 s1.1),e_ 7 (.int .i64 (l0.length:Int)),e_ 4 (.int .i64 s1.2),e_ 0 (.slice A0 l0.length c0),e_ 1 (fnv200 x1 sv1)] []) (by kernel_rfl) (fun ns_7 a w_8 hI=>?_);refine wpIn_seq ?_;refine cond_ hI (decide (s1.1<(l0.length:Int))) rfl (fun hc_9=>?_) (fun hc_9=>?_)
   ·replace H1:=bif_t hc_9 H1;refine wpIn_skip ?_;refine then_normal ?_;refine wpIn_seq ?_;refine wpIn_block ?_;refine srn0_ hF hI [5,8,7,4,0,1] [e_ 5 (.int .i64 s1.1)] [] (by kernel_rfl) (fun ns_10 a w_11 hI=>?_);obtain ⟨hN_12,H1⟩:=req_some H1;obtain ⟨sv_13,hE_15,hA_14⟩:=Arr.elB (d:=kd_Chan) hr0 s1.1 true (fun _=>hN_12);replace hE_15:=hE_15 rfl;replace hA_14:=fun (_:true=true)=>hA_14 rfl;obtain ⟨t_16,hG_17,H1⟩:=bind_some H1;refine srn_ (orc:=[(kd_Chan).cells (rd l0 s1.1) sv_13,[.bool t_16]]) hF hI [16,5,8,7,4,0,1] [e_ 16 (.bool t_16)] [] [.need true ((0:Int)≤s1.1∧s1.1<(l0.length:Int)),.need true (A0=some (adr A0)),.cell true ((adr A0).add ((s1.1:Int).toNat*7)) ((kd_Chan).cells (rd l0 s1.1) sv_13),.call true (fid200 x1) (([.agg ((kd_Chan).cells (rd l0 s1.1) (svL [])).toArray]:List Value)++(fca200 x1 sv1).toList) (.bool t_16)] (by kernel_rfl) ⟨ob_inb (fun _=>hN_12),hA_14,ob_el (fun _=>hE_15) 0 ((kd_Chan).cells (rd l0 s1.1) sv_13) rfl,ob_call (Fn200.ent x1) (fun hg wz hk=>Fn200.calls x1 (rd l0 s1.1) sv1 (svL []) wz (S:=fun _=>True) (Kd.any _ (Kd.keep kdF200 hx1 (Lo.on hk))) (Kd.any _ (Kd.keep kd_Chan (contI (S:=Lo S w w [] []) (w:=w) (d:=kd_Chan) (x:=(rd l0 s1.1)) (sv:=(svL [])) trivial) (Lo.on hk))) _ hG_17),trivial⟩ (fun ns_18 a w_19 hI=>?_);refine cond_ hI (t_16) rfl (fun hc_20=>?_) (fun hc_20=>?_)
    ·replace H1:=bif_t hc_20 H1;refine srn0_ hF hI [4] [e_ 4 (.int .i64 s1.1)] [] (by kernel_rfl) (fun ns_21 a w_22 hI=>?_);refine wpIn_ret ?_;refine inBlock_ret ?_;refine then_ret ?_;refine then_ret ?_;obtain rfl:=Option.some.inj H1;refine .inr ⟨_,rfl,fun ho=>?_⟩;subst ho;refine inBlock_ret ?_;refine then_ret ?_;obtain rfl:=Option.some.inj H0;exact ret1 hI rfl rfl ⟨rfl,hE.below hI⟩
    ·replace H1:=bif_f hc_20 H1;refine wpIn_skip ?_;refine inBlock_normal ?_;refine then_normal ?_;refine rgn0_ hF hI [8,7,4,0,1] [e_ 8 (.int .i64 (IntKind.i64.wrap (s1.1+1)))] [] (by kernel_rfl) (fun ns_23 a w_24 hI=>?_);refine then_normal ?_;obtain rfl:=Option.some.inj H1;exact ⟨_,rfl,⟨_,hI.pick [8,7,4,0,1] 0 _ (by kernel_rfl)⟩⟩
   ·replace H1:=bif_f hc_9 H1;refine wpIn_exit ?_;refine then_exit ?_;refine then_exit ?_;obtain rfl:=Option.some.inj H1;exact .inl ⟨_,rfl,rfl,⟨_,hI.pick [8,7,4,0,1] 0 _ (by kernel_rfl)⟩⟩
  ·clear hI;rintro s1 a w_27 ho ⟨ns_28,hI⟩;subst ho;replace H0:(some (-1):Option (Int))=_:=H0;refine then_normal ?_;refine sr0_ hF hI (s_ [e_ 4 (.int .i64 (-1))] []) (by kernel_rfl) (fun ns_29 a w_30 hI=>?_);refine wpIn_ret ?_;obtain rfl:=Option.some.inj H0;exact ret1 hI rfl rfl ⟨rfl,hE.below hI⟩
def G_api_Chan_140(l0:(List Chan))(x1:Fn200):Option (Bool):=((G_api_Chan_152 l0 x1).bind fun t_3=>some (decide (t_3≥0)))
theorem G_api_Chan_140.calls(l0:(List Chan))(x1:Fn200)(A0:Option Addr)(c0:Nat)(sv1:SV)(w:World){S:Nat→Prop}(hr0:Arr kd_Chan S w A0 l0)(hc0:l0.length≤c0)(hx1:(kdF200).cont S w x1 sv1)(r:Bool)(h:G_api_Chan_140 l0 x1=some r):
    Calls Tryz.prog 140 #[.slice A0 l0.length c0,fnv200 x1 sv1] w fun e w'=>e=.returned (.bool r)∧Below w.heap.size w w':=by
  replace hr0:=Arr.lo hr0;replace hx1:=Kd.lo _ hx1;unfold G_api_Chan_140 at h;have H0:=h;clear h;refine enter Tryz.func140 rfl [.slice A0 l0.length c0,fnv200 x1 sv1] (n:=9) rfl (Nat.le_of_ble_eq_true rfl) (fun a hI=>?_);have hF:FOpen Fence.wide:=.inl rfl;have hE:=Ep.start w;refine sr0_ hF hI (s_ [e_ 4 (.bool false),e_ 0 (.slice A0 l0.length c0),e_ 1 (fnv200 x1 sv1)] []) (by kernel_rfl) (fun ns_1 a w_2 hI=>?_);obtain ⟨t_3,hG_4,H0⟩:=bind_some H0;refine srn_ (orc:=[[.int .i64 t_3]]) hF hI [4] [e_ 4 (.bool (decide (t_3≥0)))] [] [.call true 152 [.slice A0 l0.length c0,fnv200 x1 sv1] (.int .i64 t_3)] (by kernel_rfl) ⟨ob_call (enters Tryz.func152 (by kernel_rfl) rfl) (fun hg wz hk=>G_api_Chan_152.calls l0 x1 A0 c0 sv1 wz (S:=fun _=>True) (Arr.any (Arr.keep hr0 (Lo.on hk))) hc0 (Kd.any _ (Kd.keep kdF200 (contI (S:=Lo S w w [] []) (w:=w) (d:=kdF200) (x:=x1) (sv:=sv1) hx1) (Lo.on hk))) _ hG_4),trivial⟩ (fun ns_5 a w_6 hI=>?_);refine wpIn_ret ?_;obtain rfl:=Option.some.inj H0;exact ret1 hI rfl rfl ⟨rfl,hE.below hI⟩
def G_defect_channel_1(x0:Config)(y1:Fn199):Option (Bool):=((G_api_Chan_140 x0.Chans (Fn200.f141 y1 x0)).bind fun t_11=>some t_11)
theorem G_defect_channel_1.calls(x0:Config)(y1:Fn199)(sv0:SV)(B1:Addr)(sv1:SV)(w:World){S:Nat→Prop}(hx0:(kd_Config).cont S w x0 sv0)(hB1:El kdF199 S w B1 y1 sv1)(r:Bool)(h:G_defect_channel_1 x0 y1=some r):
    Calls Tryz.prog 139 #[.agg ((kd_Config).cells x0 sv0).toArray,.pointer (some B1)] w fun e w'=>e=.returned (.bool r)∧Below w.heap.size w w':=by
  replace hx0:=Kd.lo _ hx0;replace hB1:=El.lo hB1;unfold G_defect_channel_1 at h;have H0:=h;clear h;refine enter Tryz.func139 rfl [.agg ((kd_Config).cells x0 sv0).toArray,.pointer (some B1)] (n:=8) rfl (Nat.le_of_ble_eq_true rfl) (fun a hI=>?_);have hF:FOpen Fence.wide:=.inl rfl;have hE:=Ep.start w;refine sr0_ hF hI (s_ [e_ 3 (.bool false),p_ 2 0 0,e_ 1 (.pointer (some B1))] [((((kd_Config).cells x0 sv0).map EV.v),29)]) (by kernel_rfl) (fun ns_1 a w_2 hI=>?_);refine wpIn_seq ?_;refine wpIn_region_lit ?_;refine ckn0_ hF 2 hI [5,3,2,1] [e_ 5 (.slice ((sv0 1).1) x0.Chans.length ((sv0 1).2))] [] rfl (by kernel_rfl) (fun ns_3 a w_4 hI=>?_);obtain ⟨hE',hmv,hmr⟩:=Ep.rebase hE hI;replace hx0:=kk hmv hx0;replace hB1:=ke hmv hB1;replace hE:=hE';replace hI:=hI.rebase;clear hE' hmv hmr;have hct:=contI (S:=Lo S w w_4 ns_3 []) (w:=w_4) (d:=kd_Config) (x:=x0) (sv:=sv0) ⟨⟨hx0.1.1,hx0.1.2⟩,⟨hx0.2.1.1,hx0.2.1.2⟩,⟨hx0.2.2.1.1,hx0.2.2.1.2⟩,⟨hx0.2.2.2.1.1,hx0.2.2.2.1.2⟩,trivial⟩;obtain ⟨B_5,ns_7,hE',hI',hmv,hB_6⟩:=freeze_ (d:=kd_Config) hE hI 0 x0 sv0 29 rfl;replace hB_6:=hB_6 _ hct;clear hct;have hmr:=hmr_ ([]:List (List Nat)) w_4;replace hx0:=kk hmv hx0;replace hB1:=ke hmv hB1;replace hE:=hE';replace hI:=hI';clear hE' hI' hmv hmr;obtain ⟨ns_8,hE',hI',hmv⟩:=hE.cut hI [5,3,2,1] 0 (s_ [e_ 5 (.slice ((sv0 1).1) x0.Chans.length ((sv0 1).2)),e_ 3 (.bool false),e_ 2 (.pointer (some B_5)),e_ 1 (.pointer (some B1))] []) (by kernel_rfl);have hmr:=hmr_ ([]:List (List Nat)) w_4;replace hx0:=kk hmv hx0;replace hB1:=ke hmv hB1;replace hB_6:=ke hmv hB_6;replace hE:=hE';replace hI:=hI';clear hE' hI' hmv hmr;refine ck0_ hF 1 hI (s_ [e_ 6 (.func (.func 141) #[] #[.pointer (some B1),.pointer (some B_5)]),e_ 5 (.slice ((sv0 1).1) x0.Chans.length ((sv0 1).2)),e_ 3 (.bool false),e_ 2 (.pointer (some B_5)),e_ 1 (.pointer (some B1))] []) rfl (by kernel_rfl) (fun ns_9 a w_10 hI=>?_);obtain ⟨t_11,hG_12,H0⟩:=bind_some H0;refine ckn_ (orc:=[[.bool t_11]]) hF 2 hI [3] [e_ 3 (.bool t_11)] [] [.call true 140 [.slice ((sv0 1).1) x0.Chans.length ((sv0 1).2),.func (.func 141) #[] #[.pointer (some B1),.pointer (some B_5)]] (.bool t_11)] rfl (by kernel_rfl) ⟨ob_call (enters Tryz.func140 (by kernel_rfl) rfl) (fun hg wz hk=>G_api_Chan_140.calls x0.Chans (Fn200.f141 y1 x0) ((sv0 1).1) ((sv0 1).2) (svL [(some B1,0),(some B_5,0),(sv0 0),(sv0 1),(sv0 2),(sv0 3)]) wz (S:=fun _=>True) (Arr.any (Arr.keep hx0.2.1.1 (Lo.on hk))) hx0.2.1.2 (Kd.any _ (Kd.keep kdF200 (contI (S:=Lo S w w_4 ns_8 []) (w:=w_4) (d:=kdF200) (x:=(Fn200.f141 y1 x0)) (sv:=(svL [(some B1,0),(some B_5,0),(sv0 0),(sv0 1),(sv0 2),(sv0 3)])) ⟨⟨hB1.cont,hB1.at_,hB1.cells⟩,⟨hB_6.cont,hB_6.at_,hB_6.cells⟩⟩) (Lo.on hk))) _ hG_12),trivial⟩ (fun ns_13 a w_14 hI=>?_);refine wpListIn_nil ?_;refine then_normal ?_;refine wpIn_ret ?_;obtain rfl:=Option.some.inj H0;exact ret1 hI rfl rfl ⟨rfl,hE.below hI⟩
def G_defect_channel(x0:Fn199):Option (Defect_rule):=some (⟨(Fn63.f139 x0)⟩:Defect_rule)
theorem G_defect_channel.calls(x0:Fn199)(sv0:SV)(w:World){S:Nat→Prop}(hx0:(kdF199).cont S w x0 sv0)(r:Defect_rule)(h:G_defect_channel x0=some r):
    Calls Tryz.prog 113 #[fnv199 x0 sv0] w fun e w'=>∃sv:SV,e=.returned (.agg ((kd_Defect_rule).cells r sv).toArray)∧Below w.heap.size w w'∧(kd_Defect_rule).cont (fun b=>w.heap.size≤b∨S b) w' r sv:=by
  replace hx0:=Kd.lo _ hx0;unfold G_defect_channel at h;have H0:=h;clear h;refine enter Tryz.func113 rfl [fnv199 x0 sv0] (n:=5) rfl (Nat.le_of_ble_eq_true rfl) (fun a hI=>?_);have hF:FOpen Fence.wide:=.inl rfl;have hE:=Ep.start w;refine sr0_ hF hI (s_ [p_ 2 1 0,p_ 1 0 0] [([.v (fnv199 x0 sv0)],199),([.v (.nilFunc)],183)]) (by kernel_rfl) (fun ns_1 a w_2 hI=>?_);refine wpIn_seq ?_;refine wpIn_region_lit ?_;obtain ⟨hE',hmv,hmr⟩:=Ep.rebase hE hI;replace hx0:=kk hmv hx0;replace hE:=hE';replace hI:=hI.rebase;clear hE' hmv hmr;have hct:=contI (S:=Lo S w w_2 ns_1 []) (w:=w_2) (d:=kdF199) (x:=x0) (sv:=(svL [])) hx0;obtain ⟨B_3,ns_5,hE',hI',hmv,hB_4⟩:=freeze_ (d:=kdF199) hE hI 0 x0 (svL []) 199 rfl;replace hB_4:=hB_4 _ hct;clear hct;have hmr:=hmr_ ([]:List (List Nat)) w_2;replace hx0:=kk hmv hx0;replace hE:=hE';replace hI:=hI';clear hE' hI' hmv hmr;obtain ⟨ns_6,hE',hI',hmv⟩:=hE.cut hI [2,1] 1 (s_ [p_ 2 0 0,e_ 1 (.pointer (some B_3))] [([.v (.nilFunc)],183)]) (by kernel_rfl);have hmr:=hmr_ ([]:List (List Nat)) w_2;replace hx0:=kk hmv hx0;replace hB_4:=ke hmv hB_4;replace hE:=hE';replace hI:=hI';clear hE' hI' hmv hmr;refine ck0_ hF 1 hI (s_ [e_ 3 (.func (.func 139) #[] #[.pointer (some B_3)]),p_ 2 0 0,e_ 1 (.pointer (some B_3))] [([.v (.nilFunc)],183)]) rfl (by kernel_rfl) (fun ns_7 a w_8 hI=>?_);refine ckn0_ hF 2 hI [2] [] [(0,([.v (.func (.func 139) #[] #[.pointer (some B_3)])],183))] rfl (by kernel_rfl) (fun ns_9 a w_10 hI=>?_);refine wpListIn_nil ?_;refine then_normal ?_;refine wpIn_ret ?_;obtain rfl:=Option.some.inj H0;exact retCell hI rfl rfl rfl rfl rfl rfl ⟨svL [(some B_3,0),(none,0)],rfl,hE.below hI,⟨⟨((El.keep hB_4 (hE.out hI))).cont,((El.keep hB_4 (hE.out hI))).at_,((El.keep hB_4 (hE.out hI))).cells⟩,trivial⟩⟩
def G_defect_foreign(x0:Config)(a1:Int)(x2:Window):Option (Bool):=((G_defect_strange x0 x2.Part).bind fun t_3=>(req (imp (!t_3) (inb x2.Part x0.Parts.length)) (some (t_3||(((rd x0.Parts x2.Part).Core) !=a1)))))
theorem G_defect_foreign.calls(x0:Config)(a1:Int)(x2:Window)(sv0:SV)(sv2:SV)(w:World){S:Nat→Prop}(hx0:(kd_Config).cont S w x0 sv0)(hx2:(kd_Window).cont S w x2 sv2)(r:Bool)(h:G_defect_foreign x0 a1 x2=some r):
    Calls Tryz.prog 128 #[.agg ((kd_Config).cells x0 sv0).toArray,.int .i64 a1,.agg ((kd_Window).cells x2 sv2).toArray] w fun e w'=>e=.returned (.bool r)∧Below w.heap.size w w':=by
  replace hx0:=Kd.lo _ hx0;replace hx2:=Kd.lo _ hx2;unfold G_defect_foreign at h;have H0:=h;clear h;refine enter Tryz.func128 rfl [.agg ((kd_Config).cells x0 sv0).toArray,.int .i64 a1,.agg ((kd_Window).cells x2 sv2).toArray] (n:=22) rfl (Nat.le_of_ble_eq_true rfl) (fun a hI=>?_);have hF:FOpen Fence.wide:=.inl rfl;have hE:=Ep.start w;refine sr0_ hF hI (s_ [e_ 6 (.bool false),p_ 5 1 0,p_ 3 0 0,e_ 1 (.int .i64 a1)] [((((kd_Config).cells x0 sv0).map EV.v),29),((((kd_Window).cells x2 sv2).map EV.v),91)]) (by kernel_rfl) (fun ns_1 a w_2 hI=>?_);obtain ⟨t_3,hG_4,H0⟩:=bind_some H0;obtain ⟨hN_5,H0⟩:=req_some H0;obtain ⟨sv_6,hE_8,hA_7⟩:=Arr.elB (d:=kd_Part) hx0.1.1 x2.Part (!t_3) (fun hg=>imp_spec hN_5 hg);refine srn_ (orc:=[[.bool t_3],[.int .i64 ((rd x0.Parts x2.Part).Core)]]) hF hI [6] [e_ 6 (.bool (t_3||(((rd x0.Parts x2.Part).Core) !=a1)))] [] [.call true 116 [.agg ((kd_Config).cells x0 sv0).toArray,.int .i64 x2.Part] (.bool t_3),.need (!t_3) ((0:Int)≤x2.Part∧x2.Part<(x0.Parts.length:Int)),.need (!t_3) ((sv0 0).1=some (adr ((sv0 0).1))),.cell (!t_3) ((adr ((sv0 0).1)).add ((x2.Part:Int).toNat*2)) [.int .i64 ((rd x0.Parts x2.Part).Core)]] (by kernel_rfl) ⟨ob_call (enters Tryz.func116 (by kernel_rfl) rfl) (fun hg wz hk=>G_defect_strange.calls x0 x2.Part sv0 wz (S:=fun _=>True) (Kd.any _ (Kd.keep kd_Config (contI (S:=Lo S w w [] []) (w:=w) (d:=kd_Config) (x:=x0) (sv:=sv0) ⟨⟨hx0.1.1,hx0.1.2⟩,⟨hx0.2.1.1,hx0.2.1.2⟩,⟨hx0.2.2.1.1,hx0.2.2.1.2⟩,⟨hx0.2.2.2.1.1,hx0.2.2.2.1.2⟩,trivial⟩) (Lo.on hk))) _ hG_4),ob_inb (fun hg=>imp_spec hN_5 hg),hA_7,ob_el (fun hg=>hE_8 hg) 0 [.int .i64 ((rd x0.Parts x2.Part).Core)] rfl,trivial⟩ (fun ns_9 a w_10 hI=>?_);refine wpIn_ret ?_;obtain rfl:=Option.some.inj H0;exact ret1 hI rfl rfl ⟨rfl,hE.below hI⟩
def G_defect_beyond(x0:Window)(a1:Int):Option (Bool):=some (decide (x0.Start>a1)||decide (x0.Len>(IntKind.i64.wrap (a1 - x0.Start))))
theorem G_defect_beyond.calls(x0:Window)(a1:Int)(sv0:SV)(w:World){S:Nat→Prop}(hx0:(kd_Window).cont S w x0 sv0)(r:Bool)(h:G_defect_beyond x0 a1=some r):
    Calls Tryz.prog 146 #[.agg ((kd_Window).cells x0 sv0).toArray,.int .i64 a1] w fun e w'=>e=.returned (.bool r)∧Below w.heap.size w w':=by
  replace hx0:=Kd.lo _ hx0;unfold G_defect_beyond at h;have H0:=h;clear h;refine enter Tryz.func146 rfl [.agg ((kd_Window).cells x0 sv0).toArray,.int .i64 a1] (n:=18) rfl (Nat.le_of_ble_eq_true rfl) (fun a hI=>?_);have hF:FOpen Fence.wide:=.inl rfl;have hE:=Ep.start w;refine sr0_ hF hI (s_ [e_ 4 (.bool false),p_ 2 0 0,e_ 1 (.int .i64 a1)] [((((kd_Window).cells x0 sv0).map EV.v),91)]) (by kernel_rfl) (fun ns_1 a w_2 hI=>?_);refine srn0_ hF hI [4] [e_ 4 (.bool (decide (x0.Start>a1)||decide (x0.Len>(IntKind.i64.wrap (a1 - x0.Start)))))] [] (by kernel_rfl) (fun ns_3 a w_4 hI=>?_);refine wpIn_ret ?_;obtain rfl:=Option.some.inj H0;exact ret1 hI rfl rfl ⟨rfl,hE.below hI⟩
def G_defect_outside(x0:Config)(a1:Int)(x2:Window):Option (Bool):=(req (imp (!(decide (x2.Start<0)||decide (x2.Len<1))) (inb a1 2)) ((cal (!(decide (x2.Start<0)||decide (x2.Len<1))) (G_defect_beyond x2 ((rdA_St27 x0.Frames a1).Length)) default).bind fun t_10=>some ((decide (x2.Start<0)||decide (x2.Len<1))||t_10)))
theorem G_defect_outside.calls(x0:Config)(a1:Int)(x2:Window)(sv0:SV)(sv2:SV)(w:World){S:Nat→Prop}(hx0:(kd_Config).cont S w x0 sv0)(hx2:(kd_Window).cont S w x2 sv2)(r:Bool)(h:G_defect_outside x0 a1 x2=some r):
    Calls Tryz.prog 129 #[.agg ((kd_Config).cells x0 sv0).toArray,.int .i64 a1,.agg ((kd_Window).cells x2 (svL [])).toArray] w fun e w'=>e=.returned (.bool r)∧Below w.heap.size w w':=by
  replace hx0:=Kd.lo _ hx0;replace hx2:=Kd.lo _ hx2;unfold G_defect_outside at h;have H0:=h;clear h;refine enter Tryz.func129 rfl [.agg ((kd_Config).cells x0 sv0).toArray,.int .i64 a1,.agg ((kd_Window).cells x2 (svL [])).toArray] (n:=24) rfl (Nat.le_of_ble_eq_true rfl) (fun a hI=>?_);have hF:FOpen Fence.wide:=.inl rfl;have hE:=Ep.start w;refine sr0_ hF hI (s_ [e_ 6 (.bool false),p_ 5 1 0,p_ 3 0 0,e_ 1 (.int .i64 a1)] [((((kd_Config).cells x0 sv0).map EV.v),29),((((kd_Window).cells x2 sv2).map EV.v),91)]) (by kernel_rfl) (fun ns_1 a w_2 hI=>?_);refine wpIn_seq ?_;obtain ⟨hE',hmv,hmr⟩:=Ep.rebase hE hI;replace hx0:=kk hmv hx0;replace hx2:=kk hmv hx2;replace hE:=hE';replace hI:=hI.rebase;clear hE' hmv hmr;have hct:=contI (S:=Lo S w w_2 ns_1 []) (w:=w_2) (d:=kd_Config) (x:=x0) (sv:=sv0) ⟨⟨hx0.1.1,hx0.1.2⟩,⟨hx0.2.1.1,hx0.2.1.2⟩,⟨hx0.2.2.1.1,hx0.2.2.1.2⟩,⟨hx0.2.2.2.1.1,hx0.2.2.2.1.2⟩,trivial⟩;obtain ⟨B_3,ns_5,hE',hI',hmv,hB_4⟩:=freeze_ (d:=kd_Config) hE hI 0 x0 sv0 29 rfl;replace hB_4:=hB_4 _ hct;clear hct;have hmr:=hmr_ ([]:List (List Nat)) w_2;replace hx0:=kk hmv hx0;replace hx2:=kk hmv hx2;replace hE:=hE';replace hI:=hI';clear hE' hI' hmv hmr;obtain ⟨ns_6,hE',hI',hmv⟩:=hE.cut hI [6,5,3,1] 1 (s_ [e_ 6 (.bool false),p_ 5 0 0,e_ 3 (.pointer (some B_3)),e_ 1 (.int .i64 a1)] [((((kd_Window).cells x2 sv2).map EV.v),91)]) (by kernel_rfl);have hmr:=hmr_ ([]:List (List Nat)) w_2;replace hx0:=kk hmv hx0;replace hx2:=kk hmv hx2;replace hB_4:=ke hmv hB_4;replace hE:=hE';replace hI:=hI';clear hE' hI' hmv hmr;obtain ⟨hN_7,H0⟩:=req_some H0;have hE_9:=fun (hg:(!(decide (x2.Start<0)||decide (x2.Len<1)))=true)=>elA_St27 (El.part (e:=kd_St27) hB_4 2 x0.Frames (svO sv0 2) ⟨(hB_4).cont.2.2.1,(hB_4).cont.2.2.2.1,trivial⟩ rfl) (imp_spec hN_7 hg);obtain ⟨t_10,hG_11,H0⟩:=bind_some H0;refine drawn_ (live:=[6]) (orc:=[[.int .i64 ((rdA_St27 x0.Frames a1).Length)],[.bool t_10]]) hF hI (s_ [e_ 6 (.bool ((decide (x2.Start<0)||decide (x2.Len<1))||t_10))] [((((kd_Window).cells x2 sv2).map EV.v),91)]) [.need (!(decide (x2.Start<0)||decide (x2.Len<1))) ((0:Int)≤a1∧a1<((2:Nat):Int)),.cell (!(decide (x2.Start<0)||decide (x2.Len<1))) ((B_3.add 2).add ((a1:Int).toNat*2)) [.int .i64 ((rdA_St27 x0.Frames a1).Length)],.call (!(decide (x2.Start<0)||decide (x2.Len<1))) 146 [.agg ((kd_Window).cells x2 (svL [])).toArray,.int .i64 ((rdA_St27 x0.Frames a1).Length)] (.bool t_10)] (by kernel_rfl) (by kernel_rfl) (by kernel_rfl) ⟨ob_inb (fun hg=>imp_spec hN_7 hg),ob_el (fun hg=>hE_9 hg) 0 [.int .i64 ((rdA_St27 x0.Frames a1).Length)] rfl,ob_call (enters Tryz.func146 (by kernel_rfl) rfl) (fun hg wz hk=>G_defect_beyond.calls x2 ((rdA_St27 x0.Frames a1).Length) (svL []) wz (S:=fun _=>True) (Kd.any _ (Kd.keep kd_Window (contI (S:=Lo S w w_2 ns_6 []) (w:=w_2) (d:=kd_Window) (x:=x2) (sv:=(svL [])) trivial) (Lo.on hk))) _ (cal_some hG_11 hg)),trivial⟩ (fun a w_12 hI=>?_);refine then_normal ?_;refine wpIn_ret ?_;obtain rfl:=Option.some.inj H0;exact ret1 hI rfl rfl ⟨rfl,hE.below hI⟩
def Fn203.run(f:Fn203)(x0:Config)(a1:Int)(x2:Window):Option (Bool):=match f with
  | .f128=>G_defect_foreign x0 a1 x2
  | .f129=>G_defect_outside x0 a1 x2
theorem Fn203.ent(f:Fn203)(args:Array Value)(w:World):(callFunc (fid203 f) args).run Tryz.prog w=.ok (.enter (fid203 f) args) w:=by
  cases f with
  | f128=>exact enters Tryz.func128 (by kernel_rfl) rfl args w
  | f129=>exact enters Tryz.func129 (by kernel_rfl) rfl args w
theorem Fn203.calls(f:Fn203)(x0:Config)(a1:Int)(x2:Window)(svf:SV)(sv0:SV)(sv2:SV)(w:World){S:Nat→Prop}(hf:(kdF203).cont S w f svf)(hx0:(kd_Config).cont S w x0 sv0)(hx2:(kd_Window).cont S w x2 sv2)(r:Bool)(h:Fn203.run f x0 a1 x2=some r):
    Calls Tryz.prog (fid203 f) (([.agg ((kd_Config).cells x0 sv0).toArray,.int .i64 a1,.agg ((kd_Window).cells x2 sv2).toArray]:List Value)++(fca203 f svf).toList).toArray w fun e w'=>e=.returned (.bool r)∧Below w.heap.size w w':=by
  cases f with
  | f128=>exact G_defect_foreign.calls x0 a1 x2 sv0 sv2 w hx0 hx2 r h
  | f129=>exact G_defect_outside.calls x0 a1 x2 sv0 sv2 w hx0 hx2 r h
def G_defect_window_1_1(x0:Window)(y1:Fn203)(y2:Config)(y3:Int):Option (Bool):=((Fn203.run y1 y2 y3 x0).bind fun t_3=>some t_3)
theorem G_defect_window_1_1.calls(x0:Window)(y1:Fn203)(y2:Config)(y3:Int)(sv0:SV)(B1:Addr)(sv1:SV)(B2:Addr)(sv2:SV)(B3:Addr)(sv3:SV)(w:World){S:Nat→Prop}(hx0:(kd_Window).cont S w x0 sv0)(hB1:El kdF203 S w B1 y1 sv1)(hB2:El kd_Config S w B2 y2 sv2)(hB3:El (Kd.int .i64) S w B3 y3 sv3)(r:Bool)(h:G_defect_window_1_1 x0 y1 y2 y3=some r):
    Calls Tryz.prog 145 #[.agg ((kd_Window).cells x0 (svL [])).toArray,.pointer (some B1),.pointer (some B2),.pointer (some B3)] w fun e w'=>e=.returned (.bool r)∧Below w.heap.size w w':=by
  replace hx0:=Kd.lo _ hx0;replace hB1:=El.lo hB1;replace hB2:=El.lo hB2;replace hB3:=El.lo hB3;unfold G_defect_window_1_1 at h;have H0:=h;clear h;refine enter Tryz.func145 rfl [.agg ((kd_Window).cells x0 (svL [])).toArray,.pointer (some B1),.pointer (some B2),.pointer (some B3)] (n:=11) rfl (Nat.le_of_ble_eq_true rfl) (fun a hI=>?_);have hF:FOpen Fence.wide:=.inl rfl;have hE:=Ep.start w;refine sr0_ hF hI (s_ [e_ 5 (.bool false),p_ 4 0 0,e_ 1 (.pointer (some B1)),e_ 2 (.pointer (some B2)),e_ 3 (.pointer (some B3))] [((((kd_Window).cells x0 sv0).map EV.v),91)]) (by kernel_rfl) (fun ns_1 a w_2 hI=>?_);obtain ⟨t_3,hG_4,H0⟩:=bind_some H0;refine srn_ (orc:=[[fnv203 y1 sv1],(kd_Config).cells y2 sv2,[.int .i64 y3],[.bool t_3]]) hF hI [5] [e_ 5 (.bool t_3)] [] [.cell true B1 [fnv203 y1 sv1],.cell true B2 ((kd_Config).cells y2 sv2),.cell true B3 [.int .i64 y3],.call true (fid203 y1) (([.agg ((kd_Config).cells y2 sv2).toArray,.int .i64 y3,.agg ((kd_Window).cells x0 (svL [])).toArray]:List Value)++(fca203 y1 sv1).toList) (.bool t_3)] (by kernel_rfl) ⟨ob_el (fun _=>hB1) 0 [fnv203 y1 sv1] rfl,ob_el (fun _=>hB2) 0 ((kd_Config).cells y2 sv2) rfl,ob_el (fun _=>hB3) 0 [.int .i64 y3] rfl,ob_call (Fn203.ent y1) (fun hg wz hk=>Fn203.calls y1 y2 y3 x0 sv1 sv2 (svL []) wz (S:=fun _=>True) (Kd.any _ (Kd.keep kdF203 (hB1).cont (Lo.on hk))) (Kd.any _ (Kd.keep kd_Config (contI (S:=Lo S w w [] []) (w:=w) (d:=kd_Config) (x:=y2) (sv:=sv2) ⟨⟨(hB2).cont.1.1,(hB2).cont.1.2⟩,⟨(hB2).cont.2.1.1,(hB2).cont.2.1.2⟩,⟨(hB2).cont.2.2.1.1,(hB2).cont.2.2.1.2⟩,⟨(hB2).cont.2.2.2.1.1,(hB2).cont.2.2.2.1.2⟩,trivial⟩) (Lo.on hk))) (Kd.any _ (Kd.keep kd_Window (contI (S:=Lo S w w [] []) (w:=w) (d:=kd_Window) (x:=x0) (sv:=(svL [])) trivial) (Lo.on hk))) _ hG_4),trivial⟩ (fun ns_5 a w_6 hI=>?_);refine wpIn_ret ?_;obtain rfl:=Option.some.inj H0;exact ret1 hI rfl rfl ⟨rfl,hE.below hI⟩
def G_defect_idle_1(x0:Window)(y1:Int):Option (Bool):=some (x0.Part==y1)
theorem G_defect_idle_1.calls(x0:Window)(y1:Int)(sv0:SV)(B1:Addr)(sv1:SV)(w:World){S:Nat→Prop}(hx0:(kd_Window).cont S w x0 sv0)(hB1:El (Kd.int .i64) S w B1 y1 sv1)(r:Bool)(h:G_defect_idle_1 x0 y1=some r):
    Calls Tryz.prog 148 #[.agg ((kd_Window).cells x0 sv0).toArray,.pointer (some B1)] w fun e w'=>e=.returned (.bool r)∧Below w.heap.size w w':=by
  replace hx0:=Kd.lo _ hx0;replace hB1:=El.lo hB1;unfold G_defect_idle_1 at h;have H0:=h;clear h;refine enter Tryz.func148 rfl [.agg ((kd_Window).cells x0 sv0).toArray,.pointer (some B1)] (n:=8) rfl (Nat.le_of_ble_eq_true rfl) (fun a hI=>?_);have hF:FOpen Fence.wide:=.inl rfl;have hE:=Ep.start w;refine sr0_ hF hI (s_ [e_ 3 (.bool false),p_ 2 0 0,e_ 1 (.pointer (some B1))] [((((kd_Window).cells x0 sv0).map EV.v),91)]) (by kernel_rfl) (fun ns_1 a w_2 hI=>?_);refine srn_ (orc:=[[.int .i64 y1]]) hF hI [3] [e_ 3 (.bool (x0.Part==y1))] [] [.cell true B1 [.int .i64 y1]] (by kernel_rfl) ⟨ob_el (fun _=>hB1) 0 [.int .i64 y1] rfl,trivial⟩ (fun ns_3 a w_4 hI=>?_);refine wpIn_ret ?_;obtain rfl:=Option.some.inj H0;exact ret1 hI rfl rfl ⟨rfl,hE.below hI⟩
def Fn209.run(f:Fn209)(x0:Window):Option (Bool):=match f with
  | .f145 c0 c1 c2=>G_defect_window_1_1 x0 c0 c1 c2
  | .f148 c0=>G_defect_idle_1 x0 c0
theorem Fn209.ent(f:Fn209)(args:Array Value)(w:World):(callFunc (fid209 f) args).run Tryz.prog w=.ok (.enter (fid209 f) args) w:=by
  cases f with
  | f145 _ _ _=>exact enters Tryz.func145 (by kernel_rfl) rfl args w
  | f148 _=>exact enters Tryz.func148 (by kernel_rfl) rfl args w
theorem Fn209.calls(f:Fn209)(x0:Window)(svf:SV)(sv0:SV)(w:World){S:Nat→Prop}(hf:(kdF209).cont S w f svf)(hx0:(kd_Window).cont S w x0 sv0)(r:Bool)(h:Fn209.run f x0=some r):
    Calls Tryz.prog (fid209 f) (([.agg ((kd_Window).cells x0 sv0).toArray]:List Value)++(fca209 f svf).toList).toArray w fun e w'=>e=.returned (.bool r)∧Below w.heap.size w w':=by
  cases f with
  | f145 c0 c1 c2=>exact G_defect_window_1_1.calls x0 c0 c1 c2 sv0 (adr (svf 0).1) (svO svf 1) (adr (svf 1).1) (svO svf 2) (adr (svf 6).1) (svO svf 7) w hx0 hf.1 hf.2.1 hf.2.2 r h
  | f148 c0=>exact G_defect_idle_1.calls x0 c0 sv0 (adr (svf 0).1) (svO svf 1) w hx0 hf r h
def G_api_Window_153.b1(l0:(List Window))(x1:Fn209)(s1:Int×Int):Option (Stp (Int×Int) (Ex (Int×Int) (Int))):=(bif decide (s1.1<(l0.length:Int)) then (req (inb s1.1 l0.length) ((Fn209.run x1 (rd l0 s1.1)).bind fun t_16=>(bif t_16 then some (.out (.ret s1.1)) else some (.next ((IntKind.i64.wrap (s1.1+1)),s1.2))))) else some (.out (.brk (s1.1,s1.2))))
def G_api_Window_153(l0:(List Window))(x1:Fn209):Option (Int):=((loopω (G_api_Window_153.b1 l0 x1) (0,0)).bind fun o=>o.on (fun s1=>some (-1)) (fun r=>some r))
theorem G_api_Window_153.calls(l0:(List Window))(x1:Fn209)(A0:Option Addr)(c0:Nat)(sv1:SV)(w:World){S:Nat→Prop}(hr0:Arr kd_Window S w A0 l0)(hc0:l0.length≤c0)(hx1:(kdF209).cont S w x1 sv1)(r:Int)(h:G_api_Window_153 l0 x1=some r):
    Calls Tryz.prog 153 #[.slice A0 l0.length c0,fnv209 x1 sv1] w fun e w'=>e=.returned (.int .i64 r)∧Below w.heap.size w w':=by
  replace hr0:=Arr.lo hr0;replace hx1:=Kd.lo _ hx1;unfold G_api_Window_153 at h;have H0:=h;clear h;refine enter Tryz.func153 rfl [.slice A0 l0.length c0,fnv209 x1 sv1] (n:=19) rfl (Nat.le_of_ble_eq_true rfl) (fun a hI=>?_);have hF:FOpen Fence.wide:=.inl rfl;have hE:=Ep.start w;refine sr0_ hF hI (s_ [e_ 4 (.int .i64 0),e_ 0 (.slice A0 l0.length c0),e_ 1 (fnv209 x1 sv1)] []) (by kernel_rfl) (fun ns_1 a w_2 hI=>?_);refine wpIn_seq ?_;refine srn0_ hF hI [8,7,4,0,1] [e_ 8 (.int .i64 0),e_ 7 (.int .i64 (l0.length:Int))] [] (by kernel_rfl) (fun ns_3 a w_4 hI=>?_);obtain ⟨o_25,hL_26,H0⟩:=bind_some H0;refine block_loop (fun (s1:Int×Int) a w_31=>∃ns,St w [] 19 (s_ [e_ 8 (.int .i64 s1.1),e_ 7 (.int .i64 (l0.length:Int)),e_ 4 (.int .i64 s1.2),e_ 0 (.slice A0 l0.length c0),e_ 1 (fnv209 x1 sv1)] []) ns a w_31) (0,0) hL_26 ⟨_,hI.pick [8,7,4,0,1] 0 _ (by kernel_rfl)⟩ ?_ ?_
  ·clear hI;rintro s1 a w_5 ⟨ns_6,hI⟩ r1 H1;unfold G_api_Window_153.b1 at H1;refine sr0_ hF hI (s_ [e_ 9 (.bool (decide (s1.1<(l0.length:Int)))),e_ 8 (.int .i64 s1.1),e_ 7 (.int .i64 (l0.length:Int)),e_ 4 (.int .i64 s1.2),e_ 0 (.slice A0 l0.length c0),e_ 1 (fnv209 x1 sv1)] []) (by kernel_rfl) (fun ns_7 a w_8 hI=>?_);refine wpIn_seq ?_;refine cond_ hI (decide (s1.1<(l0.length:Int))) rfl (fun hc_9=>?_) (fun hc_9=>?_)
   ·replace H1:=bif_t hc_9 H1;refine wpIn_skip ?_;refine then_normal ?_;refine wpIn_seq ?_;refine wpIn_block ?_;refine srn0_ hF hI [5,8,7,4,0,1] [e_ 5 (.int .i64 s1.1)] [] (by kernel_rfl) (fun ns_10 a w_11 hI=>?_);obtain ⟨hN_12,H1⟩:=req_some H1;obtain ⟨sv_13,hE_15,hA_14⟩:=Arr.elB (d:=kd_Window) hr0 s1.1 true (fun _=>hN_12);replace hE_15:=hE_15 rfl;replace hA_14:=fun (_:true=true)=>hA_14 rfl;obtain ⟨t_16,hG_17,H1⟩:=bind_some H1;refine srn_ (orc:=[(kd_Window).cells (rd l0 s1.1) sv_13,[.bool t_16]]) hF hI [16,5,8,7,4,0,1] [e_ 16 (.bool t_16)] [] [.need true ((0:Int)≤s1.1∧s1.1<(l0.length:Int)),.need true (A0=some (adr A0)),.cell true ((adr A0).add ((s1.1:Int).toNat*3)) ((kd_Window).cells (rd l0 s1.1) sv_13),.call true (fid209 x1) (([.agg ((kd_Window).cells (rd l0 s1.1) (svL [])).toArray]:List Value)++(fca209 x1 sv1).toList) (.bool t_16)] (by kernel_rfl) ⟨ob_inb (fun _=>hN_12),hA_14,ob_el (fun _=>hE_15) 0 ((kd_Window).cells (rd l0 s1.1) sv_13) rfl,ob_call (Fn209.ent x1) (fun hg wz hk=>Fn209.calls x1 (rd l0 s1.1) sv1 (svL []) wz (S:=fun _=>True) (Kd.any _ (Kd.keep kdF209 hx1 (Lo.on hk))) (Kd.any _ (Kd.keep kd_Window (contI (S:=Lo S w w [] []) (w:=w) (d:=kd_Window) (x:=(rd l0 s1.1)) (sv:=(svL [])) trivial) (Lo.on hk))) _ hG_17),trivial⟩ (fun ns_18 a w_19 hI=>?_);refine cond_ hI (t_16) rfl (fun hc_20=>?_) (fun hc_20=>?_)
    ·replace H1:=bif_t hc_20 H1;refine srn0_ hF hI [4] [e_ 4 (.int .i64 s1.1)] [] (by kernel_rfl) (fun ns_21 a w_22 hI=>?_);refine wpIn_ret ?_;refine inBlock_ret ?_;refine then_ret ?_;refine then_ret ?_;obtain rfl:=Option.some.inj H1;refine .inr ⟨_,rfl,fun ho=>?_⟩;subst ho;refine inBlock_ret ?_;refine then_ret ?_;obtain rfl:=Option.some.inj H0;exact ret1 hI rfl rfl ⟨rfl,hE.below hI⟩
    ·replace H1:=bif_f hc_20 H1;refine wpIn_skip ?_;refine inBlock_normal ?_;refine then_normal ?_;refine rgn0_ hF hI [8,7,4,0,1] [e_ 8 (.int .i64 (IntKind.i64.wrap (s1.1+1)))] [] (by kernel_rfl) (fun ns_23 a w_24 hI=>?_);refine then_normal ?_;obtain rfl:=Option.some.inj H1;exact ⟨_,rfl,⟨_,hI.pick [8,7,4,0,1] 0 _ (by kernel_rfl)⟩⟩
   ·replace H1:=bif_f hc_9 H1;refine wpIn_exit ?_;refine then_exit ?_;refine then_exit ?_;obtain rfl:=Option.some.inj H1;exact .inl ⟨_,rfl,rfl,⟨_,hI.pick [8,7,4,0,1] 0 _ (by kernel_rfl)⟩⟩
  ·clear hI;rintro s1 a w_27 ho ⟨ns_28,hI⟩;subst ho;replace H0:(some (-1):Option (Int))=_:=H0;refine then_normal ?_;refine sr0_ hF hI (s_ [e_ 4 (.int .i64 (-1))] []) (by kernel_rfl) (fun ns_29 a w_30 hI=>?_);refine wpIn_ret ?_;obtain rfl:=Option.some.inj H0;exact ret1 hI rfl rfl ⟨rfl,hE.below hI⟩
def G_api_Window_144(l0:(List Window))(x1:Fn209):Option (Bool):=((G_api_Window_153 l0 x1).bind fun t_3=>some (decide (t_3≥0)))
theorem G_api_Window_144.calls(l0:(List Window))(x1:Fn209)(A0:Option Addr)(c0:Nat)(sv1:SV)(w:World){S:Nat→Prop}(hr0:Arr kd_Window S w A0 l0)(hc0:l0.length≤c0)(hx1:(kdF209).cont S w x1 sv1)(r:Bool)(h:G_api_Window_144 l0 x1=some r):
    Calls Tryz.prog 144 #[.slice A0 l0.length c0,fnv209 x1 sv1] w fun e w'=>e=.returned (.bool r)∧Below w.heap.size w w':=by
  replace hr0:=Arr.lo hr0;replace hx1:=Kd.lo _ hx1;unfold G_api_Window_144 at h;have H0:=h;clear h;refine enter Tryz.func144 rfl [.slice A0 l0.length c0,fnv209 x1 sv1] (n:=9) rfl (Nat.le_of_ble_eq_true rfl) (fun a hI=>?_);have hF:FOpen Fence.wide:=.inl rfl;have hE:=Ep.start w;refine sr0_ hF hI (s_ [e_ 4 (.bool false),e_ 0 (.slice A0 l0.length c0),e_ 1 (fnv209 x1 sv1)] []) (by kernel_rfl) (fun ns_1 a w_2 hI=>?_);obtain ⟨t_3,hG_4,H0⟩:=bind_some H0;refine srn_ (orc:=[[.int .i64 t_3]]) hF hI [4] [e_ 4 (.bool (decide (t_3≥0)))] [] [.call true 153 [.slice A0 l0.length c0,fnv209 x1 sv1] (.int .i64 t_3)] (by kernel_rfl) ⟨ob_call (enters Tryz.func153 (by kernel_rfl) rfl) (fun hg wz hk=>G_api_Window_153.calls l0 x1 A0 c0 sv1 wz (S:=fun _=>True) (Arr.any (Arr.keep hr0 (Lo.on hk))) hc0 (Kd.any _ (Kd.keep kdF209 (contI (S:=Lo S w w [] []) (w:=w) (d:=kdF209) (x:=x1) (sv:=sv1) hx1) (Lo.on hk))) _ hG_4),trivial⟩ (fun ns_5 a w_6 hI=>?_);refine wpIn_ret ?_;obtain rfl:=Option.some.inj H0;exact ret1 hI rfl rfl ⟨rfl,hE.below hI⟩
def G_defect_window_1(x0:Config)(a1:Int)(y2:Fn203):Option (Bool):=(req (inb a1 2) ((G_api_Window_144 ((rdA_St27 x0.Frames a1).Windows) (Fn209.f145 y2 x0 a1)).bind fun t_18=>some t_18))
theorem G_defect_window_1.calls(x0:Config)(a1:Int)(y2:Fn203)(sv0:SV)(B2:Addr)(sv2:SV)(w:World){S:Nat→Prop}(hx0:(kd_Config).cont S w x0 sv0)(hB2:El kdF203 S w B2 y2 sv2)(r:Bool)(h:G_defect_window_1 x0 a1 y2=some r):
    Calls Tryz.prog 143 #[.agg ((kd_Config).cells x0 sv0).toArray,.int .i64 a1,.pointer (some B2)] w fun e w'=>e=.returned (.bool r)∧Below w.heap.size w w':=by
  replace hx0:=Kd.lo _ hx0;replace hB2:=El.lo hB2;unfold G_defect_window_1 at h;have H0:=h;clear h;refine enter Tryz.func143 rfl [.agg ((kd_Config).cells x0 sv0).toArray,.int .i64 a1,.pointer (some B2)] (n:=13) rfl (Nat.le_of_ble_eq_true rfl) (fun a hI=>?_);have hF:FOpen Fence.wide:=.inl rfl;have hE:=Ep.start w;refine sr0_ hF hI (s_ [e_ 5 (.bool false),p_ 4 1 0,p_ 3 0 0,e_ 2 (.pointer (some B2))] [((((kd_Config).cells x0 sv0).map EV.v),29),([.v (.int .i64 a1)],3)]) (by kernel_rfl) (fun ns_1 a w_2 hI=>?_);obtain ⟨hE',hmv,hmr⟩:=Ep.rebase hE hI;replace hx0:=kk hmv hx0;replace hB2:=ke hmv hB2;replace hE:=hE';replace hI:=hI.rebase;clear hE' hmv hmr;have hct:=contI (S:=Lo S w w_2 ns_1 []) (w:=w_2) (d:=kd_Config) (x:=x0) (sv:=sv0) ⟨⟨hx0.1.1,hx0.1.2⟩,⟨hx0.2.1.1,hx0.2.1.2⟩,⟨hx0.2.2.1.1,hx0.2.2.1.2⟩,⟨hx0.2.2.2.1.1,hx0.2.2.2.1.2⟩,trivial⟩;obtain ⟨B_3,ns_5,hE',hI',hmv,hB_4⟩:=freeze_ (d:=kd_Config) hE hI 0 x0 sv0 29 rfl;replace hB_4:=hB_4 _ hct;clear hct;have hmr:=hmr_ ([]:List (List Nat)) w_2;replace hx0:=kk hmv hx0;replace hB2:=ke hmv hB2;replace hE:=hE';replace hI:=hI';clear hE' hI' hmv hmr;obtain ⟨ns_6,hE',hI',hmv⟩:=hE.cut hI [5,4,3,2] 1 (s_ [e_ 5 (.bool false),p_ 4 0 0,e_ 3 (.pointer (some B_3)),e_ 2 (.pointer (some B2))] [([.v (.int .i64 a1)],3)]) (by kernel_rfl);have hmr:=hmr_ ([]:List (List Nat)) w_2;replace hx0:=kk hmv hx0;replace hB2:=ke hmv hB2;replace hB_4:=ke hmv hB_4;replace hE:=hE';replace hI:=hI';clear hE' hI' hmv hmr;refine wpIn_seq ?_;refine wpIn_region_lit ?_;obtain ⟨hN_7,H0⟩:=req_some H0;have hE_9:=elA_St27 (El.part (e:=kd_St27) hB_4 2 x0.Frames (svO sv0 2) ⟨(hB_4).cont.2.2.1,(hB_4).cont.2.2.2.1,trivial⟩ rfl) hN_7;refine ck_ (orc:=[[.slice (((svO (svO sv0 2) ((a1:Int).toNat*1)) 0).1) ((rdA_St27 x0.Frames a1).Windows).length (((svO (svO sv0 2) ((a1:Int).toNat*1)) 0).2)]]) hF 5 hI (s_ [e_ 10 (.slice (((svO (svO sv0 2) ((a1:Int).toNat*1)) 0).1) ((rdA_St27 x0.Frames a1).Windows).length (((svO (svO sv0 2) ((a1:Int).toNat*1)) 0).2)),e_ 5 (.bool false),p_ 4 0 0,e_ 3 (.pointer (some B_3)),e_ 2 (.pointer (some B2))] [([.v (.int .i64 a1)],3)]) [.need true ((0:Int)≤a1∧a1<((2:Nat):Int)),.cell true (((B_3.add 2).add ((a1:Int).toNat*2)).add 1) [.slice (((svO (svO sv0 2) ((a1:Int).toNat*1)) 0).1) ((rdA_St27 x0.Frames a1).Windows).length (((svO (svO sv0 2) ((a1:Int).toNat*1)) 0).2)]] rfl (by kernel_rfl) ⟨ob_inb (fun _=>hN_7),ob_el (fun _=>hE_9) 1 [.slice (((svO (svO sv0 2) ((a1:Int).toNat*1)) 0).1) ((rdA_St27 x0.Frames a1).Windows).length (((svO (svO sv0 2) ((a1:Int).toNat*1)) 0).2)] rfl,trivial⟩ (fun ns_10 a w_11 hI=>?_);obtain ⟨hE',hmv,hmr⟩:=Ep.rebase hE hI;replace hx0:=kk hmv hx0;replace hB2:=ke hmv hB2;replace hB_4:=ke hmv hB_4;replace hE_9:=ke hmv hE_9;replace hE:=hE';replace hI:=hI.rebase;clear hE' hmv hmr;have hct:=contI (S:=Lo S w w_11 ns_10 []) (w:=w_11) (d:=(Kd.int .i64)) (x:=a1) (sv:=(svL [])) trivial;obtain ⟨B_12,ns_14,hE',hI',hmv,hB_13⟩:=freeze_ (d:=(Kd.int .i64)) hE hI 0 a1 (svL []) 3 rfl;replace hB_13:=hB_13 _ hct;clear hct;have hmr:=hmr_ ([]:List (List Nat)) w_11;replace hx0:=kk hmv hx0;replace hB2:=ke hmv hB2;replace hB_4:=ke hmv hB_4;replace hE_9:=ke hmv hE_9;replace hE:=hE';replace hI:=hI';clear hE' hI' hmv hmr;obtain ⟨ns_15,hE',hI',hmv⟩:=hE.cut hI [10,5,4,3,2] 0 (s_ [e_ 10 (.slice (((svO (svO sv0 2) ((a1:Int).toNat*1)) 0).1) ((rdA_St27 x0.Frames a1).Windows).length (((svO (svO sv0 2) ((a1:Int).toNat*1)) 0).2)),e_ 5 (.bool false),e_ 4 (.pointer (some B_12)),e_ 3 (.pointer (some B_3)),e_ 2 (.pointer (some B2))] []) (by kernel_rfl);have hmr:=hmr_ ([]:List (List Nat)) w_11;replace hx0:=kk hmv hx0;replace hB2:=ke hmv hB2;replace hB_4:=ke hmv hB_4;replace hE_9:=ke hmv hE_9;replace hB_13:=ke hmv hB_13;replace hE:=hE';replace hI:=hI';clear hE' hI' hmv hmr;refine ck0_ hF 1 hI (s_ [e_ 11 (.func (.func 145) #[] #[.pointer (some B2),.pointer (some B_3),.pointer (some B_12)]),e_ 10 (.slice (((svO (svO sv0 2) ((a1:Int).toNat*1)) 0).1) ((rdA_St27 x0.Frames a1).Windows).length (((svO (svO sv0 2) ((a1:Int).toNat*1)) 0).2)),e_ 5 (.bool false),e_ 4 (.pointer (some B_12)),e_ 3 (.pointer (some B_3)),e_ 2 (.pointer (some B2))] []) rfl (by kernel_rfl) (fun ns_16 a w_17 hI=>?_);obtain ⟨t_18,hG_19,H0⟩:=bind_some H0;refine ckn_ (orc:=[[.bool t_18]]) hF 2 hI [5] [e_ 5 (.bool t_18)] [] [.call true 144 [.slice (((svO (svO sv0 2) ((a1:Int).toNat*1)) 0).1) ((rdA_St27 x0.Frames a1).Windows).length (((svO (svO sv0 2) ((a1:Int).toNat*1)) 0).2),.func (.func 145) #[] #[.pointer (some B2),.pointer (some B_3),.pointer (some B_12)]] (.bool t_18)] rfl (by kernel_rfl) ⟨ob_call (enters Tryz.func144 (by kernel_rfl) rfl) (fun hg wz hk=>G_api_Window_144.calls ((rdA_St27 x0.Frames a1).Windows) (Fn209.f145 y2 x0 a1) (((svO (svO sv0 2) ((a1:Int).toNat*1)) 0).1) (((svO (svO sv0 2) ((a1:Int).toNat*1)) 0).2) (svL [(some B2,0),(some B_3,0),(sv0 0),(sv0 1),(sv0 2),(sv0 3),(some B_12,0)]) wz (S:=fun _=>True) (Arr.any (Arr.keep (hE_9).cont.1.1 (Lo.on hk))) (hE_9).cont.1.2 (Kd.any _ (Kd.keep kdF209 (contI (S:=Lo S w w_11 ns_15 []) (w:=w_11) (d:=kdF209) (x:=(Fn209.f145 y2 x0 a1)) (sv:=(svL [(some B2,0),(some B_3,0),(sv0 0),(sv0 1),(sv0 2),(sv0 3),(some B_12,0)])) ⟨⟨hB2.cont,hB2.at_,hB2.cells⟩,⟨hB_4.cont,hB_4.at_,hB_4.cells⟩,⟨hB_13.cont,hB_13.at_,hB_13.cells⟩⟩) (Lo.on hk))) _ hG_19),trivial⟩ (fun ns_20 a w_21 hI=>?_);refine wpListIn_nil ?_;refine then_normal ?_;refine wpIn_ret ?_;obtain rfl:=Option.some.inj H0;exact ret1 hI rfl rfl ⟨rfl,hE.below hI⟩
def G_defect_rules_12(x0:Config)(a1:Int):Option (Bool):=(req (inb a1 2) ((G_defect_within ((rdA_St27 x0.Frames a1).Length) 1 64).bind fun t_10=>some (!t_10)))
theorem G_defect_rules_12.calls(x0:Config)(a1:Int)(sv0:SV)(w:World){S:Nat→Prop}(hx0:(kd_Config).cont S w x0 sv0)(r:Bool)(h:G_defect_rules_12 x0 a1=some r):
    Calls Tryz.prog 125 #[.agg ((kd_Config).cells x0 sv0).toArray,.int .i64 a1] w fun e w'=>e=.returned (.bool r)∧Below w.heap.size w w':=by
  replace hx0:=Kd.lo _ hx0;unfold G_defect_rules_12 at h;have H0:=h;clear h;refine enter Tryz.func125 rfl [.agg ((kd_Config).cells x0 sv0).toArray,.int .i64 a1] (n:=12) rfl (Nat.le_of_ble_eq_true rfl) (fun a hI=>?_);have hF:FOpen Fence.wide:=.inl rfl;have hE:=Ep.start w;refine sr0_ hF hI (s_ [e_ 4 (.bool false),p_ 2 0 0,e_ 1 (.int .i64 a1)] [((((kd_Config).cells x0 sv0).map EV.v),29)]) (by kernel_rfl) (fun ns_1 a w_2 hI=>?_);obtain ⟨hE',hmv,hmr⟩:=Ep.rebase hE hI;replace hx0:=kk hmv hx0;replace hE:=hE';replace hI:=hI.rebase;clear hE' hmv hmr;have hct:=contI (S:=Lo S w w_2 ns_1 []) (w:=w_2) (d:=kd_Config) (x:=x0) (sv:=sv0) ⟨⟨hx0.1.1,hx0.1.2⟩,⟨hx0.2.1.1,hx0.2.1.2⟩,⟨hx0.2.2.1.1,hx0.2.2.1.2⟩,⟨hx0.2.2.2.1.1,hx0.2.2.2.1.2⟩,trivial⟩;obtain ⟨B_3,ns_5,hE',hI',hmv,hB_4⟩:=freeze_ (d:=kd_Config) hE hI 0 x0 sv0 29 rfl;replace hB_4:=hB_4 _ hct;clear hct;have hmr:=hmr_ ([]:List (List Nat)) w_2;replace hx0:=kk hmv hx0;replace hE:=hE';replace hI:=hI';clear hE' hI' hmv hmr;obtain ⟨ns_6,hE',hI',hmv⟩:=hE.cut hI [4,2,1] 0 (s_ [e_ 4 (.bool false),e_ 2 (.pointer (some B_3)),e_ 1 (.int .i64 a1)] []) (by kernel_rfl);have hmr:=hmr_ ([]:List (List Nat)) w_2;replace hx0:=kk hmv hx0;replace hB_4:=ke hmv hB_4;replace hE:=hE';replace hI:=hI';clear hE' hI' hmv hmr;obtain ⟨hN_7,H0⟩:=req_some H0;have hE_9:=elA_St27 (El.part (e:=kd_St27) hB_4 2 x0.Frames (svO sv0 2) ⟨(hB_4).cont.2.2.1,(hB_4).cont.2.2.2.1,trivial⟩ rfl) hN_7;obtain ⟨t_10,hG_11,H0⟩:=bind_some H0;refine sr_ (orc:=[[.int .i64 ((rdA_St27 x0.Frames a1).Length)],[.bool t_10]]) hF hI (s_ [e_ 4 (.bool (!t_10))] []) [.need true ((0:Int)≤a1∧a1<((2:Nat):Int)),.cell true ((B_3.add 2).add ((a1:Int).toNat*2)) [.int .i64 ((rdA_St27 x0.Frames a1).Length)],.call true 108 [.int .i64 ((rdA_St27 x0.Frames a1).Length),.int .i64 1,.int .i64 64] (.bool t_10)] (by kernel_rfl) ⟨ob_inb (fun _=>hN_7),ob_el (fun _=>hE_9) 0 [.int .i64 ((rdA_St27 x0.Frames a1).Length)] rfl,ob_call (enters Tryz.func108 (by kernel_rfl) rfl) (fun hg wz hk=>G_defect_within.calls ((rdA_St27 x0.Frames a1).Length) 1 64 wz (S:=fun _=>True) _ hG_11),trivial⟩ (fun ns_12 a w_13 hI=>?_);refine wpIn_ret ?_;obtain rfl:=Option.some.inj H0;exact ret1 hI rfl rfl ⟨rfl,hE.below hI⟩
def G_defect_rules_13(x0:Config)(a1:Int):Option (Bool):=(req (inb a1 2) (some (decide ((((rdA_St27 x0.Frames a1).Windows).length:Int)>16))))
theorem G_defect_rules_13.calls(x0:Config)(a1:Int)(sv0:SV)(w:World){S:Nat→Prop}(hx0:(kd_Config).cont S w x0 sv0)(r:Bool)(h:G_defect_rules_13 x0 a1=some r):
    Calls Tryz.prog 126 #[.agg ((kd_Config).cells x0 sv0).toArray,.int .i64 a1] w fun e w'=>e=.returned (.bool r)∧Below w.heap.size w w':=by
  replace hx0:=Kd.lo _ hx0;unfold G_defect_rules_13 at h;have H0:=h;clear h;refine enter Tryz.func126 rfl [.agg ((kd_Config).cells x0 sv0).toArray,.int .i64 a1] (n:=12) rfl (Nat.le_of_ble_eq_true rfl) (fun a hI=>?_);have hF:FOpen Fence.wide:=.inl rfl;have hE:=Ep.start w;refine sr0_ hF hI (s_ [e_ 4 (.bool false),p_ 2 0 0,e_ 1 (.int .i64 a1)] [((((kd_Config).cells x0 sv0).map EV.v),29)]) (by kernel_rfl) (fun ns_1 a w_2 hI=>?_);obtain ⟨hE',hmv,hmr⟩:=Ep.rebase hE hI;replace hx0:=kk hmv hx0;replace hE:=hE';replace hI:=hI.rebase;clear hE' hmv hmr;have hct:=contI (S:=Lo S w w_2 ns_1 []) (w:=w_2) (d:=kd_Config) (x:=x0) (sv:=sv0) ⟨⟨hx0.1.1,hx0.1.2⟩,⟨hx0.2.1.1,hx0.2.1.2⟩,⟨hx0.2.2.1.1,hx0.2.2.1.2⟩,⟨hx0.2.2.2.1.1,hx0.2.2.2.1.2⟩,trivial⟩;obtain ⟨B_3,ns_5,hE',hI',hmv,hB_4⟩:=freeze_ (d:=kd_Config) hE hI 0 x0 sv0 29 rfl;replace hB_4:=hB_4 _ hct;clear hct;have hmr:=hmr_ ([]:List (List Nat)) w_2;replace hx0:=kk hmv hx0;replace hE:=hE';replace hI:=hI';clear hE' hI' hmv hmr;obtain ⟨ns_6,hE',hI',hmv⟩:=hE.cut hI [4,2,1] 0 (s_ [e_ 4 (.bool false),e_ 2 (.pointer (some B_3)),e_ 1 (.int .i64 a1)] []) (by kernel_rfl);have hmr:=hmr_ ([]:List (List Nat)) w_2;replace hx0:=kk hmv hx0;replace hB_4:=ke hmv hB_4;replace hE:=hE';replace hI:=hI';clear hE' hI' hmv hmr;obtain ⟨hN_7,H0⟩:=req_some H0;have hE_9:=elA_St27 (El.part (e:=kd_St27) hB_4 2 x0.Frames (svO sv0 2) ⟨(hB_4).cont.2.2.1,(hB_4).cont.2.2.2.1,trivial⟩ rfl) hN_7;refine sr_ (orc:=[[.slice (((svO (svO sv0 2) ((a1:Int).toNat*1)) 0).1) ((rdA_St27 x0.Frames a1).Windows).length (((svO (svO sv0 2) ((a1:Int).toNat*1)) 0).2)]]) hF hI (s_ [e_ 4 (.bool (decide ((((rdA_St27 x0.Frames a1).Windows).length:Int)>16)))] []) [.need true ((0:Int)≤a1∧a1<((2:Nat):Int)),.cell true (((B_3.add 2).add ((a1:Int).toNat*2)).add 1) [.slice (((svO (svO sv0 2) ((a1:Int).toNat*1)) 0).1) ((rdA_St27 x0.Frames a1).Windows).length (((svO (svO sv0 2) ((a1:Int).toNat*1)) 0).2)]] (by kernel_rfl) ⟨ob_inb (fun _=>hN_7),ob_el (fun _=>hE_9) 1 [.slice (((svO (svO sv0 2) ((a1:Int).toNat*1)) 0).1) ((rdA_St27 x0.Frames a1).Windows).length (((svO (svO sv0 2) ((a1:Int).toNat*1)) 0).2)] rfl,trivial⟩ (fun ns_10 a w_11 hI=>?_);refine wpIn_ret ?_;obtain rfl:=Option.some.inj H0;exact ret1 hI rfl rfl ⟨rfl,hE.below hI⟩
def G_defect_small.b1(l0:(List Int))(s1:Int×Bool):Option (Stp (Int×Bool) (Ex (Int×Bool) (Bool))):=(bif decide (s1.1<(l0.length:Int)) then (req (inb s1.1 l0.length) ((G_defect_within (rd l0 s1.1) 0 4294967295).bind fun t_16=>(bif (!t_16) then some (.out (.ret false)) else some (.next ((IntKind.i64.wrap (s1.1+1)),s1.2))))) else some (.out (.brk (s1.1,s1.2))))
def G_defect_small(l0:(List Int)):Option (Bool):=((loopω (G_defect_small.b1 l0) (0,false)).bind fun o=>o.on (fun s1=>some true) (fun r=>some r))
theorem G_defect_small.calls(l0:(List Int))(A0:Option Addr)(c0:Nat)(w:World){S:Nat→Prop}(hr0:Arr (Kd.int .i64) S w A0 l0)(hc0:l0.length≤c0)(r:Bool)(h:G_defect_small l0=some r):
    Calls Tryz.prog 147 #[.slice A0 l0.length c0] w fun e w'=>e=.returned (.bool r)∧Below w.heap.size w w':=by
  replace hr0:=Arr.lo hr0;unfold G_defect_small at h;have H0:=h;clear h;refine enter Tryz.func147 rfl [.slice A0 l0.length c0] (n:=15) rfl (Nat.le_of_ble_eq_true rfl) (fun a hI=>?_);have hF:FOpen Fence.wide:=.inl rfl;have hE:=Ep.start w;refine sr0_ hF hI (s_ [e_ 2 (.bool false),e_ 0 (.slice A0 l0.length c0)] []) (by kernel_rfl) (fun ns_1 a w_2 hI=>?_);refine wpIn_seq ?_;refine srn0_ hF hI [7,6,5,2] [e_ 7 (.int .i64 0),e_ 6 (.int .i64 (l0.length:Int)),e_ 5 (.slice A0 l0.length c0)] [] (by kernel_rfl) (fun ns_3 a w_4 hI=>?_);obtain ⟨o_25,hL_26,H0⟩:=bind_some H0;refine block_loop (fun (s1:Int×Bool) a w_31=>∃ns,St w [] 15 (s_ [e_ 7 (.int .i64 s1.1),e_ 6 (.int .i64 (l0.length:Int)),e_ 5 (.slice A0 l0.length c0),e_ 2 (.bool s1.2)] []) ns a w_31) (0,false) hL_26 ⟨_,hI.pick [7,6,5,2] 0 _ (by kernel_rfl)⟩ ?_ ?_
  ·clear hI;rintro s1 a w_5 ⟨ns_6,hI⟩ r1 H1;unfold G_defect_small.b1 at H1;refine sr0_ hF hI (s_ [e_ 8 (.bool (decide (s1.1<(l0.length:Int)))),e_ 7 (.int .i64 s1.1),e_ 6 (.int .i64 (l0.length:Int)),e_ 5 (.slice A0 l0.length c0),e_ 2 (.bool s1.2)] []) (by kernel_rfl) (fun ns_7 a w_8 hI=>?_);refine wpIn_seq ?_;refine cond_ hI (decide (s1.1<(l0.length:Int))) rfl (fun hc_9=>?_) (fun hc_9=>?_)
   ·replace H1:=bif_t hc_9 H1;refine wpIn_skip ?_;refine then_normal ?_;refine wpIn_seq ?_;refine wpIn_block ?_;obtain ⟨hN_10,H1⟩:=req_some H1;obtain ⟨sv_11,hE_13,hA_12⟩:=Arr.elB (d:=(Kd.int .i64)) hr0 s1.1 true (fun _=>hN_10);replace hE_13:=hE_13 rfl;replace hA_12:=fun (_:true=true)=>hA_12 rfl;refine srn_ (orc:=[[.int .i64 (rd l0 s1.1)]]) hF hI [4,7,6,5,2] [e_ 4 (.int .i64 (rd l0 s1.1))] [] [.need true ((0:Int)≤s1.1∧s1.1<(l0.length:Int)),.need true (A0=some (adr A0)),.cell true ((adr A0).add ((s1.1:Int).toNat*1)) [.int .i64 (rd l0 s1.1)]] (by kernel_rfl) ⟨ob_inb (fun _=>hN_10),hA_12,ob_el (fun _=>hE_13) 0 [.int .i64 (rd l0 s1.1)] rfl,trivial⟩ (fun ns_14 a w_15 hI=>?_);obtain ⟨t_16,hG_17,H1⟩:=bind_some H1;refine srn_ (orc:=[[.bool t_16]]) hF hI [13,7,6,5,2] [e_ 13 (.bool (!t_16))] [] [.call true 108 [.int .i64 (rd l0 s1.1),.int .i64 0,.int .i64 4294967295] (.bool t_16)] (by kernel_rfl) ⟨ob_call (enters Tryz.func108 (by kernel_rfl) rfl) (fun hg wz hk=>G_defect_within.calls (rd l0 s1.1) 0 4294967295 wz (S:=fun _=>True) _ hG_17),trivial⟩ (fun ns_18 a w_19 hI=>?_);refine cond_ hI ((!t_16)) rfl (fun hc_20=>?_) (fun hc_20=>?_)
    ·replace H1:=bif_t hc_20 H1;refine srn0_ hF hI [2] [e_ 2 (.bool false)] [] (by kernel_rfl) (fun ns_21 a w_22 hI=>?_);refine wpIn_ret ?_;refine inBlock_ret ?_;refine then_ret ?_;refine then_ret ?_;obtain rfl:=Option.some.inj H1;refine .inr ⟨_,rfl,fun ho=>?_⟩;subst ho;refine inBlock_ret ?_;refine then_ret ?_;obtain rfl:=Option.some.inj H0;exact ret1 hI rfl rfl ⟨rfl,hE.below hI⟩
    ·replace H1:=bif_f hc_20 H1;refine wpIn_skip ?_;refine inBlock_normal ?_;refine then_normal ?_;refine rgn0_ hF hI [7,6,5,2] [e_ 7 (.int .i64 (IntKind.i64.wrap (s1.1+1)))] [] (by kernel_rfl) (fun ns_23 a w_24 hI=>?_);refine then_normal ?_;obtain rfl:=Option.some.inj H1;exact ⟨_,rfl,⟨_,hI.pick [7,6,5,2] 0 _ (by kernel_rfl)⟩⟩
   ·replace H1:=bif_f hc_9 H1;refine wpIn_exit ?_;refine then_exit ?_;refine then_exit ?_;obtain rfl:=Option.some.inj H1;exact .inl ⟨_,rfl,rfl,⟨_,hI.pick [7,6,5,2] 0 _ (by kernel_rfl)⟩⟩
  ·clear hI;rintro s1 a w_27 ho ⟨ns_28,hI⟩;subst ho;replace H0:(some true:Option (Bool))=_:=H0;refine then_normal ?_;refine sr0_ hF hI (s_ [e_ 2 (.bool true)] []) (by kernel_rfl) (fun ns_29 a w_30 hI=>?_);refine wpIn_ret ?_;obtain rfl:=Option.some.inj H0;exact ret1 hI rfl rfl ⟨rfl,hE.below hI⟩
end
end Go.Proofs.YtdpfnklgdkigdaaGreatDoor
