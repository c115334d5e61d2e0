/- Own engine: walks of whole regions by evaluation in the kernel. No statement of the seat is proved here. Conditions: none. -/
import Derived.Lib.ConvBytes
import Derived.Lib.AppendStr
import Derived.Lib.SliceRun
import Derived.WalkKit
import Derived.OwnWalkIn
import Derived.TacticsInMore
import Derived.RangeFuncCalls
import Derived.RangeFuncNested
import Derived.RangeFuncBound
import Derived.RangeFuncLeaves
import Derived.KernelRfl
import Derived.OpenShut
import Derived.Laws.StructEq
import Derived.Maps.AppendAt
import Derived.Sort.QuietThIn
set_option linter.unusedVariables false
set_option linter.unusedSimpArgs false
namespace Go.Eng
open Go Go.RowKit
inductive EV where
  | v (x:Value)
  | p (k off:Nat)
  | s (k off n c:Nat)
  | f (fn:Fn) (first cap:List (Sum Value (Nat×Nat)))
  deriving Inhabited
def A3x(ns:List Nat):Sum Value (Nat×Nat)→Value
  | .inl x=>x
  | .inr (k,off)=>.pointer (some ⟨ns.getD k 0,off,none⟩)
def EV.den(ns:List Nat):EV→Value
  | .v x=>x
  | .p k off=>.pointer (some ⟨ns.getD k 0,off,none⟩)
  | .s k off n c=>.slice (some ⟨ns.getD k 0,off,none⟩) n c
  | .f fn a b=>.func fn (a.map (A3x ns)).toArray (b.map (A3x ns)).toArray
abbrev A0b:=List (Nat×Bool)
def eqb(c w:Bool):Bool:=match w with | true=>c | false=>!c
def K0(gv:List Bool):A0b→Bool
  | []=>true
  | [(i,w)]=>eqb (gv.getD i false) w
  | (i,w)::r=>K0 gv r&&eqb (gv.getD i false) w
theorem A35(gv:List Bool)(i:Nat)(w:Bool)(r:A0b):K0 gv ((i,w)::r)=(K0 gv r&&eqb (gv.getD i false) w):=by
  cases r<;>simp [K0]
def B2i(n:Nat)(p:A0b):Prop:=∀x∈p,x.1<n
theorem B2h(gv:List Bool)(c:Bool)(p:A0b)(h:B2i gv.length p):K0 (gv++[c]) p=K0 gv p:=by
  induction p with
  | nil=>rfl
  | cons x r ih=>
    obtain ⟨i,w⟩:=x;have hi:i<gv.length:=h (i,w) (by simp);rw [A35,A35,ih (fun y hy=>h y (List.mem_cons_of_mem _ hy))];simp [List.getD_eq_getElem?_getD,List.getElem?_append_left hi]
def A4t:A0b→A0b→Bool
  | [],[]=>true
  | (i,w)::r,(j,u)::q=>Nat.beq i j&&(match w,u with | true,true=>true | false,false=>true | _,_=>false)&&A4t r q
  | _,_=>false
theorem A60:∀ {p q:A0b},A4t p q=true→p=q
  | [],[],_=>rfl
  | (i,w)::r,(j,u)::q,h=>by
    simp only [A4t,Bool.and_eq_true] at h;obtain ⟨⟨h1,h2⟩,h3⟩:=h;have:=Nat.eq_of_beq_eq_true h1;subst this;rw [A60 h3];cases w<;>cases u<;>simp_all
  | [],_::_,h=>by simp [A4t] at h
  | _::_,[],h=>by simp [A4t] at h
def A3l(q:A0b):A0b→Bool
  | []=>A4t q []
  | x::r=>A4t q (x::r)||A3l q r
theorem A50{gv:List Bool}{q:A0b}:∀ {p:A0b},A3l q p=true→K0 gv p=true→K0 gv q=true
  | [],h,hp=>by rw [A60 h];rfl
  | x ::r,h,hp=>by
    simp only [A3l,Bool.or_eq_true] at h;rcases h with h | h
    · rw [A60 h];exact hp
    · obtain ⟨i,w⟩:=x;rw [A35,Bool.and_eq_true] at hp;exact A50 h hp.1
structure Ent where
  t:Nat
  p:A0b
  e:EV
structure S where
  env:List Ent
  gv:List Bool
  gi:List (Nat×Nat)
  bs:List (List EV×TypeId)
  lo:Option (Nat×Option (List Deferred))
  pin:Option (Nat×List Nat)
def A8s:Option (Nat×List Nat)→List Nat→Prop
  | none,_=>True
  | some (k,l),ns=>ns.take k=l∧k≤ns.length
theorem A8s.app{p:Option (Nat×List Nat)}{ns:List Nat}(h:A8s p ns)(x:List Nat):A8s p (ns++x):=by
  cases p with
  | none=>trivial
  | some q=>
    obtain ⟨k,l⟩:=q;obtain ⟨h1,h2⟩:=h;exact ⟨by rw [List.take_append_of_le_length h2];exact h1,by simp;omega⟩
def B1f(kb:Nat):Option (Nat×List Nat)→Option (Nat×List Nat)
  | none=>none
  | some (k,l)=>bif Nat.ble k kb then some (k,l) else none
def A1m(b:Nat)(w0:World)(own:List Nat)(ds:List Deferred):Prop:=
  (∀d∈ds,∃D,d.target=.collected D∧b≤D∧D∉own∧w0.heap[D]? =some (.deferred (some [])))∧ds.Pairwise (fun x y=>x.target≠y.target)
def A4k(lo:Option (Nat×Option (List Deferred)))(w0:World)(own:List Nat)(ads:List Deferred):Prop:=
  match lo with
  | none=>ads=[]
  | some (b,none)=>A1m b w0 own ads
  | some (b,some ds)=>ads=[]∧A1m b w0 own ds
def A3h:List Ent→Nat→Option Ent
  | [],_=>none
  | x::r,t=>bif Nat.beq x.t t then some x else A3h r t
theorem A5v:∀ {l:List Ent} {t:Nat} {x:Ent},A3h l t=some x→x∈l∧x.t=t
  | y::r,t,x,h=>by
    simp only [A3h] at h;cases hb:Nat.beq y.t t
    · rw [hb] at h;have:=A5v h;exact ⟨List.mem_cons_of_mem _ this.1,this.2⟩
    · rw [hb] at h;simp only [cond_true,Option.some.injEq] at h;subst h;exact ⟨by simp,Nat.eq_of_beq_eq_true hb⟩
def B24(l:List Ent)(t:Nat):List Ent:=l.filter fun x=>!Nat.beq x.t t
def B4p:List (Nat×Nat)→Nat→Option Nat
  | [],_=>none
  | (d,i)::r,t=>bif Nat.beq d t then some i else B4p r t
theorem A9y:∀ {l:List (Nat×Nat)} {t i:Nat},B4p l t=some i→(t,i)∈l
  | (d,j)::r,t,i,h=>by
    simp only [B4p] at h;cases hb:Nat.beq d t
    · rw [hb] at h;exact List.mem_cons_of_mem _ (A9y h)
    · rw [hb] at h;simp only [cond_true,Option.some.injEq] at h;subst h;rw [Nat.eq_of_beq_eq_true hb];simp
def opnd(env:List Ent):Operand→Option (A0b×EV)
  | .tmp t=>(A3h env t).map fun x=>(x.p,x.e)
  | .const v=>some ([],.v v)
  | .global g=>some ([],.v (.pointer (some ⟨g,0,none⟩)))
  | .func f=>some ([],.v (.func (.func f) #[] #[]))
inductive Ob where
  | cell (g:Bool) (p:Addr) (vs:List Value)
  | need (g:Bool) (q:Prop)
  | call (g:Bool) (f:FuncId) (args:List Value) (v:Value)
  | run (g:Bool) (s:Sem Next) (v:Value)
def Sem.val{α:Type}(P:Program):Sem α→Option α
  | .pure a=>some a
  | .program k=>Sem.val P (k P)
  | .mark _ k=>Sem.val P k
  | _=>none
theorem Sem.run_val{α:Type}{P:Program}{s:Sem α}{a:α}(h:Sem.val P s=some a)(w:World):s.run P w=.ok a w:=by
  induction s with
  | pure b=>simp only [Sem.val,Option.some.injEq] at h;subst h;rfl
  | program k ih=>exact ih P h
  | mark m k ih=>exact ih h
  | load=>simp [Sem.val] at h
  | store=>simp [Sem.val] at h
  | new=>simp [Sem.val] at h
  | shape=>simp [Sem.val] at h
  | freeze=>simp [Sem.val] at h
  | frozen=>simp [Sem.val] at h
  | getObj=>simp [Sem.val] at h
  | setObj=>simp [Sem.val] at h
  | choose=>simp [Sem.val] at h
  | sys=>simp [Sem.val] at h
  | halt=>simp [Sem.val] at h
structure H3 (own:List Nat) (w0 w:World):Prop where
  os:w.os=w0.os
  tape:w.tape=w0.tape
  output:w.output=w0.output
  size:w0.heap.size≤w.heap.size
  block:∀k,k<w0.heap.size→k∉own→w.heap[k]? =w0.heap[k]?
theorem H3.refl(own:List Nat)(w:World):H3 own w w:=⟨rfl,rfl,rfl,Nat.le_refl _,fun _ _ _=>rfl⟩
theorem H3.below{w0 w:World}(h:H3 [] w0 w):Below w0.heap.size w0 w:=⟨h.os,h.tape,h.output,h.size,fun k hk=>h.block k hk (by simp)⟩
theorem H3.trans_below{own:List Nat}{w0 w w1:World}(h:H3 own w0 w)(k:Below w.heap.size w w1):H3 own w0 w1:=
  ⟨k.os.trans h.os,k.tape.trans h.tape,k.output.trans h.output,Nat.le_trans h.size k.size,fun i hi ho=>(k.block i (Nat.lt_of_lt_of_le hi h.size)).trans (h.block i hi ho)⟩
theorem H3.setCell{own:List Nat}{w0 w:World}(h:H3 own w0 w)(p:Addr)(u:Value)(hp:p.block∈own∨w0.heap.size≤p.block):H3 own w0 (w.setCell p u):=
  ⟨h.os,h.tape,h.output,by simpa [World.setCell] using h.size,fun i hi ho=>(Below.heap_setCell _ _ _ _ (by
    rcases hp with hp | hp
    · rintro rfl;exact ho hp
    · omega)).trans (h.block i hi ho)⟩
def Ob.holds(P:Program)(w:World)(own:List Nat):Ob→Prop
  | .cell g p vs=>g=true→p.block∉own∧∀j x,vs[j]? =some x→w.cell? (p.add j)=some x
  | .need g q=>g=true→q
  | .call g f args v=>g=true→(∀args w,(callFunc f args).run P w=.ok (.enter f args) w)∧∀w1,H3 own w w1→Calls P f args.toArray w1 fun e w'=>e=.returned v∧Below w1.heap.size w1 w'
  | .run g s v=>g=true→∀w1,H3 own w w1→s.run P w1=.ok (.value v) w1
def Obs(P:Program)(w:World)(own:List Nat):List Ob→Prop
  | []=>True
  | o::r=>o.holds P w own∧Obs P w own r
theorem A2g{P:Program}{w:World}{own:List Nat}:∀ {l r:List Ob},Obs P w own (l++r)↔Obs P w own l∧Obs P w own r
  | [],r=>by simp [Obs]
  | o::l,r=>by simp [Obs,A2g,and_assoc]
structure Loc (w0:World) (own ns:List Nat) (bs:List (List EV×TypeId)) (w:World):Prop where
  len:ns.length=bs.length
  nodup:ns.Nodup
  base:H3 own w0 w
  ge:∀b∈ns,b∈own∨w0.heap.size≤b
  blk:∀k cs T,bs[k]? =some (cs,T)→w.heap[ns.getD k 0]? =some (.cells (cs.map (EV.den ns)).toArray T (0,0))
def EV.wf(m:Nat):EV→Bool
  | .v _=>true
  | .p k _=>Nat.blt k m
  | .s k _ _ _=>Nat.blt k m
  | .f _ a b=>a.all (fun x=>match x with | .inl _=>true | .inr (k,_)=>Nat.blt k m)&&b.all (fun x=>match x with | .inl _=>true | .inr (k,_)=>Nat.blt k m)
theorem A1o{ns:List Nat}{k b:Nat}(h:k<ns.length):(ns++[b]).getD k 0=ns.getD k 0:=by
  simp [List.getD_eq_getElem?_getD,List.getElem?_append_left h]
theorem A8u{ns:List Nat}{b:Nat}(x:Sum Value (Nat×Nat))(h:(match x with | .inl _=>true | .inr (k,_)=>Nat.blt k ns.length)=true):A3x (ns++[b]) x=A3x ns x:=by
  cases x with
  | inl=>rfl
  | inr p=>obtain ⟨k,off⟩:=p;simp only [A3x];rw [A1o (by simpa using h)]
theorem EV.den_append{ns:List Nat}{b:Nat}{e:EV}(h:e.wf ns.length=true):e.den (ns++[b])=e.den ns:=by
  cases e with
  | v=>rfl
  | p k off=>simp only [EV.den];rw [A1o (by simpa [EV.wf] using h)]
  | s k off n c=>simp only [EV.den];rw [A1o (by simpa [EV.wf] using h)]
  | f fn a c=>
    simp only [EV.wf,Bool.and_eq_true,List.all_eq_true] at h;simp only [EV.den];rw [List.map_congr_left (fun x hx=>A8u x (h.1 x hx)),List.map_congr_left (fun x hx=>A8u x (h.2 x hx))]
theorem Loc.lt{w0:World}{own ns:List Nat}{bs:List (List EV×TypeId)}{w:World}(h:Loc w0 own ns bs w){b:Nat}(hb:b∈ns):b<w.heap.size:=by
  obtain ⟨k,hk,rfl⟩:=List.getElem_of_mem hb;have hk':k<bs.length:=by rw [← h.len];exact hk
  have:=h.blk k bs[k].1 bs[k].2 (by simp [hk']);rw [List.getD_eq_getElem?_getD,List.getElem?_eq_getElem hk] at this;exact (Array.getElem?_eq_some_iff.1 this).1
theorem Loc.alloc{w0:World}{own ns:List Nat}{bs:List (List EV×TypeId)}{w:World}(h:Loc w0 own ns bs w)(hb:∀x∈bs,∀e∈x.1,EV.wf ns.length e=true)
    (cs:List EV) (T:TypeId) (hc:∀e∈cs,EV.wf ns.length e=true):
    Loc w0 own (ns++[w.heap.size]) (bs++[(cs,T)]) (w.alloc (.cells (cs.map (EV.den ns)).toArray T)):=by
  refine ⟨by simp [h.len],?_,h.base.trans_below ((Below.refl _ _).alloc (Nat.le_refl _) _),?_,?_⟩
  · rw [List.nodup_append];refine ⟨h.nodup,by simp,fun a ha b hb=>?_⟩;simp only [List.mem_singleton] at hb;have:=h.lt ha;omega
  · intro b hb;simp only [List.mem_append,List.mem_singleton] at hb;rcases hb with hb | rfl
    · exact h.ge b hb
    · exact .inr h.base.size
  · intro k cs' T' hk;rcases Nat.lt_or_ge k bs.length with hlt | hge
    · rw [List.getElem?_append_left hlt] at hk;have hk':k<ns.length:=by rw [h.len];exact hlt
      have hmem:=List.mem_of_getElem? hk;rw [A1o hk',List.map_congr_left (fun e he=>EV.den_append (hb _ hmem e he)),
        Below.heap_alloc _ _ _ (h.lt (b:=ns.getD k 0) (by rw [List.getD_eq_getElem?_getD,List.getElem?_eq_getElem hk'];simp))]
      exact h.blk k cs' T' hk
    · rw [List.getElem?_append_right hge] at hk;have hk0:k=bs.length:=by
        have:=(List.getElem?_eq_some_iff.1 hk).1;simp at this;omega
      subst hk0;simp only [Nat.sub_self,List.getElem?_cons_zero,Option.some.injEq,Prod.mk.injEq] at hk;obtain ⟨rfl,rfl⟩:=hk;rw [← h.len];have:(ns++[w.heap.size]).getD ns.length 0=w.heap.size:=by simp [List.getD_eq_getElem?_getD]
      rw [this,List.map_congr_left (fun e he=>EV.den_append (hc e he))];exact heap_alloc_new _ _
def B0y:Value→Bool
  | .agg _ | .tuple _=>false
  | _=>true
def EV.oneCell:EV→Bool
  | .v x=>B0y x
  | _=>true
theorem EV.den_oneCell{ns:List Nat}{e:EV}(h:e.oneCell=true):B0y (e.den ns)=true:=by
  cases e with
  | v x=>exact h
  | _=>rfl
theorem B5c{P:Program}{w:World}{p:Addr}{x u:Value}(hx:B0y x=true)(hc:w.cell? p=some u)(hf:w.frozen? p=false):
    (store p x).run P w=.ok () (w.setCell p x):=by
  unfold store;cases x<;>simp_all [Sem.run,B0y]
theorem Loc.cell{w0:World}{own ns:List Nat}{bs:List (List EV×TypeId)}{w:World}(h:Loc w0 own ns bs w){k:Nat}{cs:List EV}{T:TypeId}(hk:bs[k]? =some (cs,T))
    {off:Nat} {e:EV} (he:cs[off]? =some e):w.cell? ⟨ns.getD k 0,off,none⟩=some (e.den ns):=by
  unfold World.cell?;simp only [h.blk k cs T hk];simp [he]
theorem Loc.unfrozen{w0:World}{own ns:List Nat}{bs:List (List EV×TypeId)}{w:World}(h:Loc w0 own ns bs w){k:Nat}{cs:List EV}{T:TypeId}(hk:bs[k]? =some (cs,T))
    (off:Nat):w.frozen? ⟨ns.getD k 0,off,none⟩=false:=by
  unfold World.frozen?;simp only [h.blk k cs T hk];simp
theorem Loc.mem{w0:World}{own ns:List Nat}{bs:List (List EV×TypeId)}{w:World}(h:Loc w0 own ns bs w){k:Nat}(hk:k<bs.length):ns.getD k 0∈ns:=by
  have:k<ns.length:=by rw [h.len];exact hk
  rw [List.getD_eq_getElem?_getD,List.getElem?_eq_getElem this];simp
theorem Loc.store{w0:World}{own ns:List Nat}{bs:List (List EV×TypeId)}{w:World}(h:Loc w0 own ns bs w){k:Nat}{cs:List EV}{T:TypeId}(hk:bs[k]? =some (cs,T))
    (off:Nat) (e:EV):Loc w0 own ns (bs.set k (cs.set off e,T)) (w.setCell ⟨ns.getD k 0,off,none⟩ (e.den ns)):=by
  have hkl:k<bs.length:=(List.getElem?_eq_some_iff.1 hk).1;have hkn:k<ns.length:=by rw [h.len];exact hkl
  refine ⟨by simp [h.len],h.nodup,h.base.setCell _ _ (h.ge _ (h.mem hkl)),h.ge,?_⟩;intro j cs' T' hj;by_cases hjk:j=k
  · subst hjk;rw [List.getElem?_set_self hkl] at hj;simp only [Option.some.injEq,Prod.mk.injEq] at hj;obtain ⟨rfl,rfl⟩:=hj;have hb:=h.blk j cs T hk;have hlt:=(Array.getElem?_eq_some_iff.1 hb).1;have he:=(Array.getElem?_eq_some_iff.1 hb).2;simp only [World.setCell];rw [Array.getElem?_modify,if_pos rfl,hb];simp [List.map_set,List.set_toArray]
  · rw [List.getElem?_set_ne (Ne.symm hjk)] at hj;have hjl:j<ns.length:=by rw [h.len];exact (List.getElem?_eq_some_iff.1 hj).1
    have hne:ns.getD j 0≠ns.getD k 0:=by
      rw [List.getD_eq_getElem?_getD,List.getD_eq_getElem?_getD,List.getElem?_eq_getElem hjl,List.getElem?_eq_getElem hkn];simp only [Option.getD_some];intro hh;have hp:=List.pairwise_iff_getElem.1 h.nodup;rcases Nat.lt_or_gt_of_ne hjk with hlt | hgt
      · exact hp j k hjl hkn hlt hh
      · exact hp k j hkn hjl hgt hh.symm
    rw [← h.blk j cs' T' hj];exact Below.heap_setCell _ _ _ _ (by simpa using hne)
def A3b:List EV→Nat→List EV→List EV
  | cs,_,[]=>cs
  | cs,off,e::r=>A3b (cs.set off e) (off+1) r
theorem V8(b off j:Nat):(⟨b,off,none⟩:Addr).add j=⟨b,off+j,none⟩:=by
  unfold Addr.add;split<;>simp_all
theorem Loc.storeCells{P:Program}{w0:World}{own ns:List Nat}(es:List EV)(hone:∀e∈es,e.oneCell=true):∀(bs:List (List EV×TypeId)) (w:World) (k:Nat) (cs:List EV) (T:TypeId) (off i:Nat),
    Loc w0 own ns bs w→bs[k]? =some (cs,T)→off+i+es.length≤cs.length→
    ∃w',(Go.storeCells ⟨ns.getD k 0,off,none⟩ (es.map (EV.den ns)) i).run P w=.ok () w'∧Loc w0 own ns (bs.set k (A3b cs (off+i) es,T)) w'∧w'.heap.size=w.heap.size:=by
  induction es with
  | nil=>
    intro bs w k cs T off i h hk hl;refine ⟨w,rfl,?_,rfl⟩;have:bs.set k (A3b cs (off+i) [],T)=bs:=by
      apply List.ext_getElem?;intro j;by_cases hj:j=k
      · subst hj;rw [List.getElem?_set_self (List.getElem?_eq_some_iff.1 hk).1,hk];rfl
      · rw [List.getElem?_set_ne (Ne.symm hj)]
    rw [this];exact h
  | cons e r ih=>
    intro bs w k cs T off i h hk hl;simp only [List.length_cons] at hl;have hlt:off+i<cs.length:=by omega
    have hc:=h.cell hk (List.getElem?_eq_getElem hlt);have hf:=h.unfrozen hk (off+i);have hr:=B5c (P:=P) (x:=e.den ns) (EV.den_oneCell (ns:=ns) (hone e (by simp))) hc hf;have h1:=h.store hk (off+i) e;have hk1:(bs.set k (cs.set (off+i) e,T))[k]? =some (cs.set (off+i) e,T):=List.getElem?_set_self (List.getElem?_eq_some_iff.1 hk).1;obtain ⟨w',hrun,hL,hs⟩:=ih (fun e' he'=>hone e' (List.mem_cons_of_mem _ he')) _ _ k _ T off (i+1) h1 hk1 (by simp;omega);refine ⟨w',?_,?_,by rw [hs];simp [World.setCell]⟩
    · simp only [List.map_cons,Go.storeCells,Sem.run_bind,V8,hr,Result.andThen_ok];exact hrun
    · rw [List.set_set] at hL
      simpa [A3b,Nat.add_assoc] using hL
theorem B00{P:Program}{w:World}{a:Addr}(vs:List Value):∀(i:Nat) (acc:Array Value),(∀j x,vs[j]? =some x→w.cell? (a.add (i+j))=some x)→
    (loadCellsFrom a i vs.length acc).run P w=.ok (acc++vs.toArray) w:=by
  induction vs with
  | nil=>intro i acc _;simp [loadCellsFrom,Sem.run]
  | cons x r ih=>
    intro i acc h;have h0:=h 0 x rfl;simp only [List.length_cons,loadCellsFrom,Sem.run_bind];have:(load (a.add i)).run P w=.ok x w:=by
      unfold load;simp only [Nat.add_zero] at h0;simp [Sem.run,h0]
    rw [this];simp only [Result.andThen_ok];rw [ih (i+1) (acc.push x) (fun j y hy=>by have:=h (j+1) y (by simpa using hy);rwa [show i+(j+1)=i+1+j by omega] at this)];simp
def A2s(P:Program)(T:TypeId):Option Bool:=
  match P.underlying T with
  | some (.struct _)=>some true
  | some (.array ..)=>some true
  | some _=>some false
  | none=>none
def szT(P:Program)(T:TypeId):Option Nat:=match P.info? T with | some i=>some i.size | none=>none
theorem A8l{P:Program}{T:TypeId}{b:Bool}(h:A2s P T=some b)(w:World):(isAgg T).run P w=.ok b w:=by
  unfold A2s at h;unfold isAgg underlying;simp only [Sem.run_bind];cases hu:P.underlying T with
  | none=>rw [hu] at h;simp at h
  | some d=>
    rw [hu] at h;have:(program).run P w=.ok P w:=rfl;rw [this];simp only [Result.andThen_ok,hu];cases d<;>simp_all [Sem.run]
theorem R9{P:Program}{T:TypeId}{k:Nat}(h:szT P T=some k)(w:World):(sizeOf T).run P w=.ok k w:=by
  unfold szT at h;unfold sizeOf typeInfo;simp only [Sem.run_bind];have:(program).run P w=.ok P w:=rfl;rw [this];simp only [Result.andThen_ok];cases hi:P.info? T with
  | none=>rw [hi] at h;simp at h
  | some i=>rw [hi] at h;simp only [Option.some.injEq] at h;simp [Sem.run,h]
theorem A2d{P:Program}{T:TypeId}{a:Addr}{w:World}{vs:List Value}(h1:A2s P T=some true)(h2:szT P T=some vs.length)
    (h:∀j x,vs[j]? =some x→w.cell? (a.add j)=some x):(loadVar T a).run P w=.ok (.agg vs.toArray) w:=by
  unfold loadVar;simp only [Sem.run_bind,A8l h1 w,Result.andThen_ok,if_true,R9 h2 w,loadCells];rw [B00 vs 0 #[] (fun j x hx=>by rw [Nat.zero_add];exact h j x hx)];simp [Sem.run]
theorem A3j{P:Program}{T:TypeId}{a:Addr}{w:World}{x:Value}(h1:A2s P T=some false)
    (h:w.cell? a=some x):(loadVar T a).run P w=.ok x w:=by
  unfold loadVar;simp only [Sem.run_bind,A8l h1 w,Result.andThen_ok];simp [load,Sem.run,h]
def gvv(b:Bool)(v:Value):Value:=bif b then v else undef
structure Inv (w0:World) (own:List Nat) (n:Nat) (σ:S) (ns:List Nat) (a:Act) (w:World):Prop where
  size:a.tmps.size=n
  defers:A4k σ.lo w0 own a.defers
  env:∀x∈σ.env,a.tmps[x.t]? =some (gvv (K0 σ.gv x.p) (x.e.den ns))
  ewf:∀x∈σ.env,x.e.wf σ.bs.length=true∧B2i σ.gv.length x.p
  bwf:∀x∈σ.bs,∀e∈x.1,EV.wf σ.bs.length e=true
  gi:∀x∈σ.gi,∃y c,A3h σ.env x.1=some y∧y.e=.v (.bool c)∧σ.gv[x.2]? =some c
  loc:Loc w0 own ns σ.bs w
  pin:A8s σ.pin ns
def I9(env:List Ent)(g:A0b)(x:Operand):Option EV:=
  match opnd env x with
  | some (q,e)=>bif A3l q g then some e else none
  | none=>none
theorem A6g:∀(p:A0b),A3l [] p=true
  | []=>rfl
  | _::r=>by simp [A3l,A6g r]
theorem Inv.opnd{w0:World}{own:List Nat}{n:Nat}{σ:S}{ns:List Nat}{a:Act}{w:World}(hI:Inv w0 own n σ ns a w){g:A0b}{x:Operand}{e:EV}
    (h:I9 σ.env g x=some e) (hp:K0 σ.gv g=true):a.eval x=e.den ns:=by
  unfold I9 at h;cases x with
  | tmp t=>
    simp only [Eng.opnd] at h;cases hl:A3h σ.env t with
    | none=>rw [hl] at h;simp at h
    | some y=>
      rw [hl] at h;simp only [Option.map_some] at h;cases hb:A3l y.p g
      · rw [hb] at h;simp at h
      · rw [hb] at h;simp only [cond_true,Option.some.injEq] at h;subst h;have hm:=A5v hl;have:=hI.env y hm.1;rw [A50 hb hp,hm.2] at this;simp only [gvv,cond_true] at this;simp [Act.eval,Array.getD_eq_getD_getElem?,this]
  | const v=>simp only [Eng.opnd,A6g,cond_true,Option.some.injEq] at h;subst h;rfl
  | global gl=>simp only [Eng.opnd,A6g,cond_true,Option.some.injEq] at h;subst h;rfl
  | func f=>simp only [Eng.opnd,A6g,cond_true,Option.some.injEq] at h;subst h;rfl
inductive Res where
  | val (e:EV) (obs:List Ob) (orc:List (List Value))
  | new (cs:List EV) (T:TypeId) (sl:Option Nat)
  | upd (k:Nat) (cs:List EV) (T:TypeId)
def A7f(env:List Ent)(g:A0b)(x:Operand):Value:=match I9 env g x with | some (.v x)=>x | _=>undef
def A85(env:List Ent)(g:A0b)(xs:Array Operand):Bool:=xs.toList.all fun x=>match I9 env g x with | some (.v _)=>true | _=>false
def A2v:Op→Bool
  | .select .. =>false
  | .defer .. =>false
  | _=>true
def evD(P:Program)(σ:S)(g:A0b)(orc:List (List Value))(o:Oper):Option Res:=
  bif A85 σ.env g o.op.operands&&A2v o.op then
    match Sem.val P (execOp (A7f σ.env g) o) with
    | some (.value x)=>some (.val (.v x) [] orc)
    | _=>none
  else none
def foff(P:Program)(T:TypeId)(j:Nat):Option Nat:=
  match P.underlying T with
  | some (.struct fs)=>
    match fs[j]? with
    | some f=>match szT P f.type with | some k=>bif Nat.beq k 0 then none else some f.offset | none=>none
    | none=>none
  | _=>none
def A4v:EV→Option (List EV)
  | .v (.agg cs)=>some (cs.toList.map .v)
  | .v (.tuple _)=>none
  | e=>some [e]
def A3v:List EV→Option (List Value)
  | []=>some []
  | .v x::r=>match A3v r with | some l=>some (x::l) | none=>none
  | _::_=>none
def A9r(P:Program)(σ:S)(g:A0b)(orc:List (List Value))(T:TypeId):EV→Option Res
  | .p k off=>
    match σ.bs[k]? with
    | some (cs,_)=>
      match A2s P T with
      | some true=>
        match szT P T with
        | some m=>match A3v ((cs.drop off).take m) with | some vs=>bif Nat.beq vs.length m then some (.val (.v (.agg vs.toArray)) [] orc) else none | none=>none
        | none=>none
      | some false=>match cs[off]? with | some e=>some (.val e [] orc) | none=>none
      | none=>none
    | none=>none
  | .v (.pointer (some p))=>
    match orc with
    | vs::rest=>
      match A2s P T with
      | some true=>match szT P T with | some m=>bif Nat.beq vs.length m then some (.val (.v (.agg vs.toArray)) [.cell (K0 σ.gv g) p vs] rest) else none | none=>none
      | some false=>match vs with | [x]=>some (.val (.v x) [.cell (K0 σ.gv g) p [x]] rest) | _=>none
      | none=>none
    | []=>none
  | _=>none
def adr(A:Option Addr):Addr:=A.getD ⟨0,0,none⟩
def A7r(P:Program)(σ:S)(g:A0b)(orc:List (List Value))(T:TypeId):EV→EV→Option Res
  | .v (.slice A n _),.v (.int _ i)=>
    match P.underlying T with
    | some (.slice E)=>match szT P E with | some m=>some (.val (.v (.pointer (some ((adr A).add (i.toNat*m))))) [.need (K0 σ.gv g) (0≤i∧i<(n:Int)),.need (K0 σ.gv g) (A=some (adr A))] orc) | none=>none
    | _=>none
  | .s k off n _,.v (.int _ (.ofNat j))=>
    match P.underlying T with
    | some (.slice E)=>match szT P E with | some m=>bif Nat.blt j n then some (.val (.p k (off+j*m)) [] orc) else none | none=>none
    | _=>none
  | .p k off,.v (.int _ (.ofNat j))=>
    match P.underlying T with
    | some (.array n E)=>match szT P E with | some m=>bif Nat.blt j n then some (.val (.p k (off+j*m)) [] orc) else none | none=>none
    | _=>none
  | .v (.pointer (some A)),.v (.int _ i)=>
    match P.underlying T with
    | some (.array n E)=>match szT P E with | some m=>some (.val (.v (.pointer (some (A.add (i.toNat*m))))) [.need (K0 σ.gv g) (0≤i∧i<(n:Int))] orc) | none=>none
    | _=>none
  | _,_=>none
def B03(σ:S)(g:A0b)(orc:List (List Value))(b:BinOp):EV→EV→Option Res
  | .v (.int k x),.v (.int k' y)=>
    bif decide (k=k') then
      match b with
      | .quo=>some (.val (.v (.int k (k.wrap (x.tdiv y)))) [.need (K0 σ.gv g) (¬y=0)] orc)
      | .rem=>some (.val (.v (.int k (x.tmod y))) [.need (K0 σ.gv g) (¬y=0)] orc)
      | _=>none
    else none
  | _,_=>none
def gcOf(gi:List (Nat×Nat))(g:A0b)(u:Bool):Operand→A0b
  | .tmp t=>match B4p gi t with | some i=>(i,u)::g | none=>g
  | _=>g
def A4u:Option EV→Option Bool
  | some (.v (.bool b))=>some b
  | _=>none
theorem A4l{x:Option EV}{b:Bool}(h:A4u x=some b):x=some (.v (.bool b)):=by
  unfold A4u at h;split at h
  · simp only [Option.some.injEq] at h;rw [h]
  · simp at h
def A9f:Operand→Bool
  | .const (.bool true)=>true
  | _=>false
theorem B4t{x:Operand}(h:A9f x=true):x=.const (.bool true):=by
  unfold A9f at h;split at h<;>simp_all
def A7w:Operand→Bool
  | .const (.bool false)=>true
  | _=>false
theorem B3d{x:Operand}(h:A7w x=true):x=.const (.bool false):=by
  unfold A7w at h;split at h<;>simp_all
def A9u(σ:S)(g:A0b)(orc:List (List Value))(c x y:Operand):Option Res:=
  match A4u (I9 σ.env g c) with
  | some cb=>
    match A9f x,A7w y with
    | true,_=>match A4u (I9 σ.env (gcOf σ.gi g false c) y) with | some eb=>some (.val (.v (.bool (cb||eb))) [] orc) | none=>none
    | false,true=>match A4u (I9 σ.env (gcOf σ.gi g true c) x) with | some eb=>some (.val (.v (.bool (cb&&eb))) [] orc) | none=>none
    | false,false=>none
  | none=>none
def S9{α:Type}:List α→Bool
  | []=>true
  | _=>false
def B1s(cs:List EV):Bool:=cs.all EV.oneCell
def A9e(P:Program)(σ:S)(T:TypeId):EV→EV→Option Res
  | .p k off,x=>
    match σ.bs[k]?,A4v x,szT P T with
    | some (cs,U),some es,some m=>
      bif Nat.beq es.length m&&Nat.ble (off+m) cs.length&&B1s es then some (.upd k (A3b cs off es) U) else none
    | _,_,_=>none
  | _,_=>none
def A5n(σ:S)(g:A0b)(orc:List (List Value))(o:Oper):Option Res:=
  bif A85 σ.env g o.op.operands&&A2v o.op then
    match orc with | [v]::rest=>some (.val (.v v) [.run (K0 σ.gv g) (execOp (A7f σ.env g) o) v] rest) | _=>none
  else none
def B70:Option EV→Bool
  | some (.v (.agg _))=>true
  | some (.v (.slice _ _ _))=>true
  | _=>false
def isTmp:Operand→Bool
  | .tmp _=>true
  | _=>false
def A5b(P:Program)(σ:S)(g:A0b)(orc:List (List Value))(o:Oper):Option Res:=
  match o.op with
  | .move x | .assign x=>match I9 σ.env g x with | some e=>some (.val e [] orc) | none=>none
  | .pick c x y=>A9u σ g orc c x y
  | .fieldAddr T x j=>
    match I9 σ.env g x with
    | some (.p k off)=>match foff P T j with | some d=>some (.val (.p k (off+d)) [] orc) | none=>none
    | _=>evD P σ g orc o
  | .load T x=>match I9 σ.env g x with | some e=>A9r P σ g orc T e | none=>none
  | .indexAddr T x i=>match I9 σ.env g x,I9 σ.env g i with | some e,some f=>A7r P σ g orc T e f | _,_=>none
  | .nilCheck x=>
    match I9 σ.env g x with
    | some (.p k off)=>some (.val (.p k off) [] orc)
    | _=>evD P σ g orc o
  | .binOp .quo T x y U=>match I9 σ.env g x,I9 σ.env g y with | some e,some f=>B03 σ g orc .quo e f | _,_=>none
  | .binOp .rem T x y U=>match I9 σ.env g x,I9 σ.env g y with | some e,some f=>B03 σ g orc .rem e f | _,_=>none
  | .store T x y=>bif S9 g then (match I9 σ.env g x,I9 σ.env g y with | some e,some f=>A9e P σ T e f | _,_=>none) else none
  | .box T x=>bif S9 g then (match I9 σ.env g x with | some e=>(match A4v e with | some cs=>some (.new cs T none) | none=>none) | none=>none) else none
  | .alloc T=>bif S9 g then (match P.info? T with | some i=>(match i.zero with | some z=>some (.new (z.cells.toList.map .v) T none) | none=>none) | none=>none) else none
  | .lookup T x i ok=>A5n σ g orc o
  | .slice T x lo hi mx=>A5n σ g orc o
  | .index T x i=>A5n σ g orc o
  | .binOp .eql T x y U=>bif B70 (I9 σ.env g x) then A5n σ g orc o else evD P σ g orc o
  | .binOp .neq T x y U=>bif B70 (I9 σ.env g x) then A5n σ g orc o else evD P σ g orc o
  | .binOp .shl T x y U=>bif isTmp y then A5n σ g orc o else evD P σ g orc o
  | .binOp .shr T x y U=>bif isTmp y then A5n σ g orc o else evD P σ g orc o
  | _=>evD P σ g orc o
theorem H3.cell{own:List Nat}{w0 w:World}(h:H3 own w0 w){p:Addr}(hp:p.block∉own){x:Value}(hc:w0.cell? p=some x):w.cell? p=some x:=by
  have hlt:=World.block_lt_of_cell? w0 p hc;rw [World.cell?_of_block (w:=w0) (h.block p.block hlt hp)];exact hc
theorem S3(p:Addr)(j:Nat):(p.add j).block=p.block:=by unfold Addr.add;split<;>rfl
section
variable {P:Program} {w0:World} {own:List Nat} {n:Nat} {σ:S} {ns:List Nat} {a:Act} {w:World} {g:A0b} {o:Oper} {orc orc':List (List Value)} {e:EV} {obs:List Ob}
theorem B6m(hI:Inv w0 own n σ ns a w)(hp:K0 σ.gv g=true)(h:evD P σ g orc o=some (.val e obs orc')):
    (execOp a.eval o).run P w=.ok (.value (e.den ns)) w:=by
  unfold evD at h;cases hb:(A85 σ.env g o.op.operands&&A2v o.op)
  · rw [hb] at h;simp at h
  · rw [hb] at h;simp only [Bool.and_eq_true] at hb;obtain ⟨hall,hsel⟩:=hb;simp only [cond_true] at h;cases hv:Sem.val P (execOp (A7f σ.env g) o) with
    | none=>rw [hv] at h;simp at h
    | some r=>
      rw [hv] at h;cases r with
      | value x=>
        simp only [Option.some.injEq,Res.val.injEq] at h;obtain ⟨rfl,rfl,rfl⟩:=h;have hr:=Sem.run_val hv w;rw [execOp_congr (ρ:=a.eval) (ρ':=A7f σ.env g) o (by intro cs b hh;rw [hh] at hsel;simp [A2v] at hsel) ?_]
        · exact hr
        · intro x hx;unfold A85 at hall;rw [List.all_eq_true] at hall;have:=hall x (by simpa using hx);unfold A7f;cases ho:I9 σ.env g x with
          | none=>rw [ho] at this;simp at this
          | some y=>
            rw [ho] at this;cases y with
            | v u=>simp only;rw [hI.opnd ho hp];rfl
            | p=>simp at this
            | s=>simp at this
            | f=>simp at this
      | _=>simp at h
theorem A3s{es:List EV}{vs:List Value}(h:A3v es=some vs):es.map (EV.den ns)=vs:=by
  induction es generalizing vs with
  | nil=>simp only [A3v,Option.some.injEq] at h;subst h;rfl
  | cons x r ih=>
    cases x with
    | v u=>
      simp only [A3v] at h;cases hr:A3v r with
      | none=>rw [hr] at h;simp at h
      | some l=>rw [hr] at h;simp only [Option.some.injEq] at h;subst h;simp [ih hr,EV.den]
    | _=>simp [A3v] at h
theorem A44{T:TypeId}{p:Addr}{x:Value}(h:(loadVar T p).run P w=.ok x w):(Instr.loadAt T (.pointer (some p))).run P w=.ok x w:=by
  unfold Instr.loadAt Instr.sureAddr;simp only [Sem.run_bind,Sem.run_pure,Result.andThen_ok];exact h
theorem B1z{T:TypeId}{e0:EV}(hI:Inv w0 own n σ ns a w)(hp:K0 σ.gv g=true)(h:A9r P σ g orc T e0=some (.val e obs orc'))(hob:Obs P w0 own obs):
    (Instr.loadAt T (e0.den ns)).run P w=.ok (e.den ns) w:=by
  unfold A9r at h;cases e0 with
  | p k off =>
    simp only at h;cases hk:σ.bs[k]? with
    | none=>rw [hk] at h;simp at h
    | some ct =>
      obtain ⟨cs,U⟩:=ct;rw [hk] at h;simp only at h;cases hg:A2s P T with
      | none=>rw [hg] at h;simp at h
      | some b =>
        rw [hg] at h;cases b with
        | true =>
          simp only at h;cases hs:szT P T with
          | none=>rw [hs] at h;simp at h
          | some m=>
            rw [hs] at h;simp only at h;cases hv:A3v ((cs.drop off).take m) with
            | none=>rw [hv] at h;simp at h
            | some vs=>
              rw [hv] at h;simp only at h;cases hm:Nat.beq vs.length m
              · rw [hm] at h;simp at h
              · rw [hm] at h;simp only [cond_true,Option.some.injEq,Res.val.injEq] at h;obtain ⟨rfl,rfl,rfl⟩:=h;have hlen:=Nat.eq_of_beq_eq_true hm;refine A44 (A2d hg (by rw [hs,hlen]) ?_);intro j x hj;rw [V8];have hd:=A3s (ns:=ns) hv;rw [← hd,List.getElem?_map] at hj;obtain ⟨y,hy,rfl⟩:=Option.map_eq_some_iff.1 hj;rw [List.getElem?_take] at hy;split at hy
                · rw [List.getElem?_drop] at hy;exact hI.loc.cell hk hy
                · cases hy
        | false=>
          simp only at h;cases hc:cs[off]? with
          | none=>rw [hc] at h;simp at h
          | some e1=>
            rw [hc] at h;simp only [Option.some.injEq,Res.val.injEq] at h;obtain ⟨rfl,rfl,rfl⟩:=h;exact A44 (A3j hg (hI.loc.cell hk hc))
  | v x =>
    cases x with
    | pointer q =>
      cases q with
      | none=>simp at h
      | some p =>
        simp only at h;cases orc with
        | nil=>simp at h
        | cons vs rest=>
          simp only at h;cases hg:A2s P T with
          | none=>rw [hg] at h;simp at h
          | some b=>
            rw [hg] at h;cases b with
            | true=>
              simp only at h;cases hs:szT P T with
              | none=>rw [hs] at h;simp at h
              | some m=>
                rw [hs] at h;simp only at h;cases hm:Nat.beq vs.length m
                · rw [hm] at h;simp at h
                · rw [hm] at h;simp only [cond_true,Option.some.injEq,Res.val.injEq] at h;obtain ⟨rfl,rfl,rfl⟩:=h;have hlen:=Nat.eq_of_beq_eq_true hm;obtain ⟨hno,hcell⟩:=hob.1 hp;exact A44 (A2d hg (by rw [hs,hlen]) (fun j x hj=>hI.loc.base.cell (by rw [S3];exact hno) (hcell j x hj)))
            | false=>
              simp only at h;cases vs with
              | nil=>simp at h
              | cons x r=>
                cases r with
                | cons _ _=>simp at h
                | nil=>
                  simp only [Option.some.injEq,Res.val.injEq] at h;obtain ⟨rfl,rfl,rfl⟩:=h;obtain ⟨hno,hcell⟩:=hob.1 hp;have h0:=hcell 0 x rfl;have hz:p.add 0=p:=by unfold Addr.add;simp
                  rw [hz] at h0;exact A44 (A3j hg (hI.loc.base.cell hno h0))
    | _=>simp at h
  | s=>simp at h
  | f=>simp at h
theorem M3{P:Program}{T:TypeId}{d:TypeDesc}(h:P.underlying T=some d)(w:World):(underlying T).run P w=.ok d w:=by
  unfold underlying;simp only [Sem.run_bind];have:(program).run P w=.ok P w:=rfl;rw [this];simp only [Result.andThen_ok,h];rfl
theorem B0s{T:TypeId}{e0 e1:EV}(hI:Inv w0 own n σ ns a w)(hp:K0 σ.gv g=true)(h:A7r P σ g orc T e0 e1=some (.val e obs orc'))(hob:Obs P w0 own obs):
    (Instr.indexAt T (e0.den ns) (e1.den ns)).run P w=.ok (e.den ns) w:=by
  unfold A7r at h;split at h
  · rename_i A m c k i;cases hu:P.underlying T with
    | none=>rw [hu] at h;simp at h
    | some d=>
      rw [hu] at h;cases d with
      | slice E=>
        simp only at h;cases hs:szT P E with
        | none=>rw [hs] at h;simp at h
        | some sz=>
          rw [hs] at h;simp only [Option.some.injEq,Res.val.injEq] at h;obtain ⟨rfl,rfl,rfl⟩:=h;obtain ⟨hb,hA,_⟩:=hob;have hb:=hb hp;have hA:=hA hp;simp only [EV.den];generalize hadr:adr A=ad at*
          rw [hA];unfold Instr.indexAt asIntOf;simp only [Sem.run_bind,Sem.run_pure,Result.andThen_ok,M3 hu w];simp [Sem.run_bind,R9 hs w,M3 hu w,hb.1,hb.2,Sem.run]
      | _=>simp at h
  · rename_i k off m c kk j;cases hu:P.underlying T with
    | none=>rw [hu] at h;simp at h
    | some d=>
      rw [hu] at h;cases d with
      | slice E=>
        simp only at h;cases hs:szT P E with
        | none=>rw [hs] at h;simp at h
        | some sz=>
          rw [hs] at h;simp only at h;cases hm:Nat.blt j m
          · rw [hm] at h;simp at h
          · rw [hm] at h;simp only [cond_true,Option.some.injEq,Res.val.injEq] at h;obtain ⟨rfl,rfl,rfl⟩:=h;have hlt:j<m:=by simpa using hm
            simp only [EV.den];unfold Instr.indexAt asIntOf;simp only [Sem.run_bind,Sem.run_pure,Result.andThen_ok,M3 hu w];have h0:(0:Int)≤Int.ofNat j:=Int.natCast_nonneg j;have h1:(Int.ofNat j:Int)<(m:Int):=Int.ofNat_lt.2 hlt;simp [Sem.run_bind,R9 hs w,M3 hu w,h0,h1,Sem.run,V8,hlt]
      | _=>simp at h
  · rename_i k off kk j;cases hu:P.underlying T with
    | none=>rw [hu] at h;simp at h
    | some d=>
      rw [hu] at h;cases d with
      | array m E=>
        simp only at h;cases hs:szT P E with
        | none=>rw [hs] at h;simp at h
        | some sz=>
          rw [hs] at h;simp only at h;cases hm:Nat.blt j m
          · rw [hm] at h;simp at h
          · rw [hm] at h;simp only [cond_true,Option.some.injEq,Res.val.injEq] at h;obtain ⟨rfl,rfl,rfl⟩:=h;have hlt:j<m:=by simpa using hm
            simp only [EV.den];unfold Instr.indexAt asIntOf Instr.sureAddr;simp only [Sem.run_bind,Sem.run_pure,Result.andThen_ok,M3 hu w];have h0:(0:Int)≤Int.ofNat j:=Int.natCast_nonneg j;have h1:(Int.ofNat j:Int)<(m:Int):=Int.ofNat_lt.2 hlt;simp [Sem.run_bind,R9 hs w,M3 hu w,h0,h1,Sem.run,V8,hlt]
      | _=>simp at h
  · rename_i A k i;cases hu:P.underlying T with
    | none=>rw [hu] at h;simp at h
    | some d=>
      rw [hu] at h;cases d with
      | array m E=>
        simp only at h;cases hs:szT P E with
        | none=>rw [hs] at h;simp at h
        | some sz=>
          rw [hs] at h;simp only [Option.some.injEq,Res.val.injEq] at h;obtain ⟨rfl,rfl,rfl⟩:=h;have hb:=hob.1 hp;simp only [EV.den];unfold Instr.indexAt asIntOf Instr.sureAddr;simp only [Sem.run_bind,Sem.run_pure,Result.andThen_ok,M3 hu w];simp [Sem.run_bind,R9 hs w,M3 hu w,hb.1,hb.2,Sem.run]
      | _=>simp at h
  · simp at h
end
section
variable {P:Program} {w0:World} {own:List Nat} {n:Nat} {σ:S} {ns:List Nat} {a:Act} {w:World} {g:A0b} {o:Oper} {orc orc':List (List Value)} {e:EV} {obs:List Ob}
theorem A8x{b:BinOp}{T:TypeId}{e0 e1:EV}(hp:K0 σ.gv g=true)(h:B03 σ g orc b e0 e1=some (.val e obs orc'))(hob:Obs P w0 own obs)(x y:Operand):
    (do eqGuard b T x y (e0.den ns) (e1.den ns);binOp b T (e0.den ns) (e1.den ns)).run P w=.ok (e.den ns) w:=by
  unfold B03 at h;split at h
  · rename_i k u k' v;cases hk:decide (k=k')
    · rw [hk] at h;simp at h
    · rw [hk] at h;have hkk:k=k':=by simpa using hk
      subst hkk;simp only [cond_true] at h;split at h
      · simp only [Option.some.injEq,Res.val.injEq] at h;obtain ⟨rfl,rfl,rfl⟩:=h;have:=hob.1 hp;simp [EV.den,eqGuard,binOp,Op.intDiv,this,Sem.run_bind,Sem.run]
      · simp only [Option.some.injEq,Res.val.injEq] at h;obtain ⟨rfl,rfl,rfl⟩:=h;have:=hob.1 hp;simp [EV.den,eqGuard,binOp,Op.intDiv,this,Sem.run_bind,Sem.run]
      · simp at h
  · simp at h
theorem B06{c:Operand}{cb u:Bool}(hI:Inv w0 own n σ ns a w)(hp:K0 σ.gv g=true)(hc:I9 σ.env g c=some (.v (.bool cb)))(hu:cb=u):
    K0 σ.gv (gcOf σ.gi g u c)=true:=by
  cases c with
  | tmp t=>
    unfold gcOf;simp only;cases hi:B4p σ.gi t with
    | none=>exact hp
    | some i=>
      simp only;obtain ⟨yy,cc,hl,he,hgv⟩:=hI.gi _ (A9y hi);simp only at hl hgv;have:yy.e=.v (.bool cb):=by
        unfold I9 Eng.opnd at hc;simp only [hl,Option.map_some] at hc;cases hb:A3l yy.p g
        · rw [hb] at hc;simp at hc
        · rw [hb] at hc;simpa using hc
      rw [he] at this;simp only [EV.v.injEq,Value.bool.injEq] at this;subst this;rw [A35,hp,List.getD_eq_getElem?_getD,hgv];subst hu;cases cc<;>rfl
  | _=>exact hp
theorem B10{c x y:Operand}(hI:Inv w0 own n σ ns a w)(hp:K0 σ.gv g=true)(h:A9u σ g orc c x y=some (.val e obs orc')):
    a.eval c=.bool true∧a.eval x=e.den ns∨a.eval c=.bool false∧a.eval y=e.den ns:=by
  unfold A9u at h;cases hc:A4u (I9 σ.env g c) with
  | none=>rw [hc] at h;simp at h
  | some cb=>
    rw [hc] at h;have hc':=A4l hc;have hce:=hI.opnd hc' hp;simp only at h;cases hx:A9f x with
    | true=>
      rw [hx] at h;simp only at h;cases hy:A4u (I9 σ.env (gcOf σ.gi g false c) y) with
      | none=>rw [hy] at h;simp at h
      | some eb=>
        rw [hy] at h;simp only [Option.some.injEq,Res.val.injEq] at h;obtain ⟨rfl,rfl,rfl⟩:=h;have:=B4t hx;subst this;cases cb with
        | true=>left;exact ⟨hce,rfl⟩
        | false=>right;exact ⟨hce,by rw [hI.opnd (A4l hy) (B06 hI hp hc' rfl)];rfl⟩
    | false=>
      cases hy:A7w y with
      | false=>rw [hx,hy] at h;simp at h
      | true=>
        rw [hx,hy] at h;simp only at h;cases hxe:A4u (I9 σ.env (gcOf σ.gi g true c) x) with
        | none=>rw [hxe] at h;simp at h
        | some eb=>
          rw [hxe] at h;simp only [Option.some.injEq,Res.val.injEq] at h;obtain ⟨rfl,rfl,rfl⟩:=h;have:=B3d hy;subst this;cases cb with
          | true=>left;exact ⟨hce,by rw [hI.opnd (A4l hxe) (B06 hI hp hc' rfl)];rfl⟩
          | false=>right;exact ⟨hce,rfl⟩
theorem B4l{T:TypeId}{j d b off:Nat}(h:foff P T j=some d):(Instr.fieldAt T (.pointer (some ⟨b,off,none⟩)) j).run P w=.ok (.pointer (some ⟨b,off+d,none⟩)) w:=by
  unfold foff at h;cases hu:P.underlying T with
  | none=>rw [hu] at h;simp at h
  | some dd =>
    rw [hu] at h;cases dd with
    | struct fs=>
      simp only at h;cases hf:fs[j]? with
      | none=>rw [hf] at h;simp at h
      | some f=>
        rw [hf] at h;simp only at h;cases hs:szT P f.type with
        | none=>rw [hs] at h;simp at h
        | some k=>
          rw [hs] at h;simp only at h;cases hk:Nat.beq k 0
          · rw [hk] at h;simp only [cond_false,Option.some.injEq] at h;subst h;have hk0:¬k=0:=fun hh=>by subst hh;simp at hk
            unfold Instr.fieldAt Instr.sureAddr fieldPlace;simp [Sem.run_bind,M3 hu w,hf,Sem.run,R9 hs w,hk0,V8]
          · rw [hk] at h;simp at h
    | _=>simp at h
end
section
variable {P:Program} {w0:World} {own:List Nat} {n:Nat} {σ:S} {ns:List Nat} {a:Act} {w:World} {g:A0b} {o:Oper} {orc orc':List (List Value)} {e:EV} {obs:List Ob}
theorem B5t{r:Res}(h:evD P σ g orc o=some r):∃x,r=.val (.v x) [] orc:=by
  unfold evD at h;cases hb:(A85 σ.env g o.op.operands&&A2v o.op)
  · rw [hb] at h;simp at h
  · rw [hb] at h;simp only [cond_true] at h;split at h
    · rename_i x _;simp only [Option.some.injEq] at h;exact ⟨x,h.symm⟩
    · simp at h
def Res.isVal:Res→Bool
  | .val .. =>true
  | _=>false
theorem A7t{c x y:Operand}{r:Res}(h:A9u σ g orc c x y=some r):r.isVal=true:=by
  unfold A9u at h
  repeat' (split at h)
  all_goals first | (cases h;rfl) | (simp at h)
theorem A7s{T:TypeId}{e0:EV}{r:Res}(h:A9r P σ g orc T e0=some r):r.isVal=true:=by
  unfold A9r at h;simp only [Bool.cond_eq_ite] at h
  repeat' (split at h)
  all_goals first | (cases h;rfl) | (simp at h)
theorem A6u{T:TypeId}{e0 e1:EV}{r:Res}(h:A7r P σ g orc T e0 e1=some r):r.isVal=true:=by
  unfold A7r at h;simp only [Bool.cond_eq_ite] at h
  repeat' (split at h)
  all_goals first | (cases h;rfl) | (simp at h)
theorem A38{b:BinOp}{e0 e1:EV}{r:Res}(h:B03 σ g orc b e0 e1=some r):r.isVal=true:=by
  unfold B03 at h;simp only [Bool.cond_eq_ite] at h
  repeat' (split at h)
  all_goals first | (cases h;rfl) | (simp at h)
theorem P8{r:Res}(h:A5n σ g orc o=some r):r.isVal=true:=by
  unfold A5n at h;simp only [Bool.cond_eq_ite] at h
  repeat' (split at h)
  all_goals first | (cases h;rfl) | (simp at h)
theorem A1f(hI:Inv w0 own n σ ns a w)(hp:K0 σ.gv g=true)(h:A5n σ g orc o=some (.val e obs orc'))(hob:Obs P w0 own obs):
    (execOp a.eval o).run P w=.ok (.value (e.den ns)) w:=by
  unfold A5n at h;cases hb:(A85 σ.env g o.op.operands&&A2v o.op)
  · rw [hb] at h;simp at h
  · rw [hb] at h;simp only [Bool.and_eq_true] at hb;obtain ⟨hall,hsel⟩:=hb;simp only [cond_true] at h;split at h
    · simp only [Option.some.injEq,Res.val.injEq] at h;obtain ⟨rfl,rfl,rfl⟩:=h;rw [execOp_congr (ρ:=a.eval) (ρ':=A7f σ.env g) o (by intro cs b hh;rw [hh] at hsel;simp [A2v] at hsel) ?_]
      · exact hob.1 hp w hI.loc.base
      · intro x hx;unfold A85 at hall;rw [List.all_eq_true] at hall;have:=hall x (by simpa using hx);unfold A7f;cases ho:I9 σ.env g x with
        | none=>rw [ho] at this;simp at this
        | some y=>
          rw [ho] at this;cases y with
          | v u=>simp only;rw [hI.opnd ho hp];rfl
          | p=>simp at this
          | s=>simp at this
          | f=>simp at this
    · cases h
theorem A9t(hI:Inv w0 own n σ ns a w)(hp:K0 σ.gv g=true)(h:A5b P σ g orc o=some (.val e obs orc'))(hob:Obs P w0 own obs):
    (execOp a.eval o).run P w=.ok (.value (e.den ns)) w:=by
  have hD:evD P σ g orc o=some (.val e obs orc')→(execOp a.eval o).run P w=.ok (.value (e.den ns)) w:=fun h=>B6m hI hp h;unfold A5b at h;split at h
  · rename_i x hop;cases hx:I9 σ.env g x with
    | none=>rw [hx] at h;simp at h
    | some e1=>
      rw [hx] at h;simp only [Option.some.injEq,Res.val.injEq] at h;obtain ⟨rfl,rfl,rfl⟩:=h;unfold execOp;rw [hop];simp only [hI.opnd hx hp];rfl
  · rename_i x hop;cases hx:I9 σ.env g x with
    | none=>rw [hx] at h;simp at h
    | some e1=>
      rw [hx] at h;simp only [Option.some.injEq,Res.val.injEq] at h;obtain ⟨rfl,rfl,rfl⟩:=h;unfold execOp;rw [hop];simp only [hI.opnd hx hp];rfl
  · rename_i c x y hop;unfold execOp;rw [hop];rcases B10 hI hp h with ⟨h1,h2⟩ | ⟨h1,h2⟩
    · simp [h1,h2,asBool,Sem.run_bind,Sem.run]
    · simp [h1,h2,asBool,Sem.run_bind,Sem.run]
  · rename_i T x j hop;split at h
    · rename_i k off hx;cases hf:foff P T j with
      | none=>rw [hf] at h;simp at h
      | some d=>
        rw [hf] at h;simp only [Option.some.injEq,Res.val.injEq] at h;obtain ⟨rfl,rfl,rfl⟩:=h;unfold execOp;rw [hop];simp only [hI.opnd hx hp,EV.den,Sem.run_bind,B4l hf,Result.andThen_ok];rfl
    · exact hD h
  · rename_i T x hop;cases hx:I9 σ.env g x with
    | none=>rw [hx] at h;simp at h
    | some e1=>
      rw [hx] at h;simp only at h;unfold execOp;rw [hop];simp only [hI.opnd hx hp,Sem.run_bind,B1z hI hp h hob,Result.andThen_ok];rfl
  · rename_i T x i hop;cases hx:I9 σ.env g x with
    | none=>rw [hx] at h;simp at h
    | some e1=>
      cases hi:I9 σ.env g i with
      | none=>rw [hx,hi] at h;simp at h
      | some e2=>
        rw [hx,hi] at h;simp only at h;unfold execOp;rw [hop];simp only [hI.opnd hx hp,hI.opnd hi hp,Sem.run_bind,B0s hI hp h hob,Result.andThen_ok];rfl
  · rename_i x hop;split at h
    · rename_i k off hx;simp only [Option.some.injEq,Res.val.injEq] at h;obtain ⟨rfl,rfl,rfl⟩:=h;unfold execOp;rw [hop];simp only [hI.opnd hx hp,EV.den];rfl
    · exact hD h
  · rename_i T x y U hop;cases hx:I9 σ.env g x with
    | none=>rw [hx] at h;simp at h
    | some e1=>
      cases hi:I9 σ.env g y with
      | none=>rw [hx,hi] at h;simp at h
      | some e2=>
        rw [hx,hi] at h;simp only at h;unfold execOp;rw [hop];simp only [hI.opnd hx hp,hI.opnd hi hp,Sem.run_bind];have:=A8x (T:=T) hp h hob x y (P:=P) (w:=w) (ns:=ns);simp only [Sem.run_bind] at this;rw [this];rfl
  · rename_i T x y U hop;cases hx:I9 σ.env g x with
    | none=>rw [hx] at h;simp at h
    | some e1=>
      cases hi:I9 σ.env g y with
      | none=>rw [hx,hi] at h;simp at h
      | some e2=>
        rw [hx,hi] at h;simp only at h;unfold execOp;rw [hop];simp only [hI.opnd hx hp,hI.opnd hi hp,Sem.run_bind];have:=A8x (T:=T) hp h hob x y (P:=P) (w:=w) (ns:=ns);simp only [Sem.run_bind] at this;rw [this];rfl
  · -- store
    cases hg:S9 g
    · rw [hg] at h;simp at h
    · rw [hg] at h;simp only [cond_true] at h;split at h
      · unfold A9e at h
        repeat' (split at h)
        all_goals first | (simp at h;done) | skip
        rename_i U es m _ _ _;cases hb:(Nat.beq es.length m&&Nat.ble (_+m) _&&B1s es)<;>rw [hb] at h<;>simp at h
      · simp at h
  · cases hg:S9 g
    · rw [hg] at h;simp at h
    · rw [hg] at h;simp only [cond_true] at h
      repeat' (split at h)
      all_goals simp at h
  · cases hg:S9 g
    · rw [hg] at h;simp at h
    · rw [hg] at h;simp only [cond_true] at h
      repeat' (split at h)
      all_goals simp at h
  · exact A1f hI hp h hob
  · exact A1f hI hp h hob
  · exact A1f hI hp h hob
  · simp only [Bool.cond_eq_ite] at h;split at h
    · exact A1f hI hp h hob
    · exact hD h
  · simp only [Bool.cond_eq_ite] at h;split at h
    · exact A1f hI hp h hob
    · exact hD h
  · simp only [Bool.cond_eq_ite] at h;split at h
    · exact A1f hI hp h hob
    · exact hD h
  · simp only [Bool.cond_eq_ite] at h;split at h
    · exact A1f hI hp h hob
    · exact hD h
  · exact hD h
theorem A4w{x:EV}{es:List EV}(h:A4v x=some es):(x.den ns).cells=(es.map (EV.den ns)).toArray:=by
  unfold A4v at h;split at h
  · rename_i cs;simp only [Option.some.injEq] at h;subst h;simp only [EV.den,Value.cells,List.map_map];have:(EV.den ns∘EV.v)=id:=rfl;rw [this];simp
  · simp at h
  · rename_i h1 h2;simp only [Option.some.injEq] at h;subst h;cases x with
    | v u=>cases u<;>first | rfl | (exact (h1 _ rfl).elim) | (exact (h2 _ rfl).elim)
    | _=>rfl
theorem A9s{cs:List EV}{T:TypeId}{sl:Option Nat}(hI:Inv w0 own n σ ns a w)(h:A5b P σ g orc o=some (.new cs T sl)):
    g=[]∧sl=none∧(execOp a.eval o).run P w=.ok (.value (.pointer (some ⟨w.heap.size,0,none⟩))) (w.alloc (.cells (cs.map (EV.den ns)).toArray T)):=by
  have hD:¬evD P σ g orc o=some (.new cs T sl):=fun h=>by obtain ⟨x,hx⟩:=B5t h;cases hx
  have hN:S9 g=true→g=[]:=fun h=>by cases g<;>simp_all [S9]
  unfold A5b at h;split at h
  case h_11 T' x hop=>
    cases hg:S9 g
    · rw [hg] at h;simp at h
    · have hgn:=hN hg;rw [hg] at h;simp only [cond_true] at h;cases hx:I9 σ.env g x with
      | none=>rw [hx] at h;simp at h
      | some e1=>
        rw [hx] at h;simp only at h;cases hc:A4v e1 with
        | none=>rw [hc] at h;simp at h
        | some es=>
          rw [hc] at h;simp only [Option.some.injEq,Res.new.injEq] at h;obtain ⟨rfl,rfl,rfl⟩:=h;refine ⟨hgn,rfl,?_⟩;unfold execOp;rw [hop];simp only [hI.opnd hx (by rw [hgn];rfl),Instr.box,newVar,newRow,newObj,Sem.run_bind,A4w hc];rfl
  case h_12 T' hop=>
    cases hg:S9 g
    · rw [hg] at h;simp at h
    · have hgn:=hN hg;rw [hg] at h;simp only [cond_true] at h;cases hi:P.info? T' with
      | none=>rw [hi] at h;simp at h
      | some i=>
        rw [hi] at h;simp only at h;cases hz:i.zero with
        | none=>rw [hz] at h;simp at h
        | some z=>
          rw [hz] at h;simp only [Option.some.injEq,Res.new.injEq] at h;obtain ⟨rfl,rfl,rfl⟩:=h;refine ⟨hgn,rfl,?_⟩;unfold execOp;rw [hop];have hzv:(zeroValue T').run P w=.ok z w:=by
            unfold zeroValue typeInfo;simp only [Sem.run_bind];have:(program).run P w=.ok P w:=rfl;rw [this];simp [hi,hz,Sem.run]
          simp only [Instr.alloc,newVar,newRow,newObj,Sem.run_bind,hzv,Result.andThen_ok,List.map_map];have:(EV.den ns∘EV.v)=id:=rfl;rw [this,List.map_id];rfl
  all_goals (exfalso;revert h)
  · split<;>simp
  · split<;>simp
  · intro h;have:=A7t h;simp [Res.isVal] at this
  · split
    · split<;>simp
    · exact hD
  · split
    · intro h;have:=A7s h;simp [Res.isVal] at this
    · simp
  · split
    · intro h;have:=A6u h;simp [Res.isVal] at this
    · simp
  · split
    · simp
    · exact hD
  · split
    · intro h;have:=A38 h;simp [Res.isVal] at this
    · simp
  · split
    · intro h;have:=A38 h;simp [Res.isVal] at this
    · simp
  · cases S9 g
    · simp
    · simp only [cond_true];split
      · unfold A9e;simp only [Bool.cond_eq_ite]
        repeat' split
        all_goals simp
      · simp
  · intro h;have:=P8 h;simp [Res.isVal] at this
  · intro h;have:=P8 h;simp [Res.isVal] at this
  · intro h;have:=P8 h;simp [Res.isVal] at this
  · simp only [Bool.cond_eq_ite];split
    · intro h;have:=P8 h;simp [Res.isVal] at this
    · exact hD
  · simp only [Bool.cond_eq_ite];split
    · intro h;have:=P8 h;simp [Res.isVal] at this
    · exact hD
  · simp only [Bool.cond_eq_ite];split
    · intro h;have:=P8 h;simp [Res.isVal] at this
    · exact hD
  · simp only [Bool.cond_eq_ite];split
    · intro h;have:=P8 h;simp [Res.isVal] at this
    · exact hD
  · exact hD
theorem B27 {k :Nat}{cs:List EV}{T:TypeId}(hI:Inv w0 own n σ ns a w)(h:A5b P σ g orc o=some (.upd k cs T)):
    g=[]∧∃w',(execOp a.eval o).run P w=.ok .skip w'∧Loc w0 own ns (σ.bs.set k (cs,T)) w':=by
  have hD:¬evD P σ g orc o=some (.upd k cs T):=fun h=>by obtain ⟨x,hx⟩:=B5t h;cases hx
  have hN:S9 g=true→g=[]:=fun h=>by cases g<;>simp_all [S9]
  unfold A5b at h;split at h
  case h_10 T' x y hop=>
    cases hg:S9 g
    · rw [hg] at h;simp at h
    · have hgn := hN hg;rw [hg] at h;simp only [cond_true] at h;cases hx:I9 σ.env g x with
      | none=>rw [hx] at h;simp at h
      | some ex =>
        cases hy:I9 σ.env g y with
        | none=>rw [hx,hy] at h;simp at h
        | some ey =>
          rw [hx,hy] at h;simp only at h;unfold A9e at h;cases ex with
          | p k' off=>
            simp only at h;cases hk:σ.bs[k']? with
            | none=>rw [hk] at h;simp at h
            | some ct=>
              obtain ⟨cs0,U⟩:=ct;cases hce:A4v ey with
              | none=>rw [hk,hce] at h;simp at h
              | some es=>
                cases hsz:szT P T' with
                | none=>rw [hk,hce,hsz] at h;simp at h
                | some m=>
                  rw [hk,hce,hsz] at h;simp only at h;cases hb:(Nat.beq es.length m&&Nat.ble (off+m) cs0.length&&B1s es)
                  · rw [hb] at h;simp at h
                  · rw [hb] at h;simp only [cond_true,Option.some.injEq,Res.upd.injEq] at h;obtain ⟨rfl,rfl,rfl⟩:=h;simp only [Bool.and_eq_true] at hb;obtain ⟨⟨hb1,hb2⟩,hb3⟩:=hb;have hm:=Nat.eq_of_beq_eq_true hb1;have hle:=Nat.le_of_ble_eq_true hb2;have hone:∀e∈es,e.oneCell=true:=by simpa [B1s,List.all_eq_true] using hb3
                    obtain ⟨w',hrun,hL,_⟩:=Loc.storeCells (P:=P) es hone σ.bs w k' cs0 U off 0 hI.loc hk (by omega);refine ⟨hgn,w',?_,by simpa using hL⟩;have hpn:K0 σ.gv g=true:=by rw [hgn];rfl
                    unfold execOp;rw [hop];have hcd:=A4w (ns:=ns) hce;have hpx:EV.den ns (EV.p k' off)=.pointer (some ⟨ns.getD k' 0,off,none⟩):=rfl;simp only [hI.opnd hx hpn,hI.opnd hy hpn,hpx,Instr.storeAt,Instr.sureAddr,storeVar,Sem.run_bind,Sem.run_pure,Result.andThen_ok,R9 hsz w,hcd,List.size_toArray,List.length_map,hm,ne_eq,not_true,if_false];rw [hrun];rfl
          | _=>simp at h
  all_goals (exfalso;revert h)
  · split<;>simp
  · split<;>simp
  · intro h;have:=A7t h;simp [Res.isVal] at this
  · split
    · split<;>simp
    · exact hD
  · split
    · intro h;have:=A7s h;simp [Res.isVal] at this
    · simp
  · split
    · intro h;have:=A6u h;simp [Res.isVal] at this
    · simp
  · split
    · simp
    · exact hD
  · split
    · intro h;have:=A38 h;simp [Res.isVal] at this
    · simp
  · split
    · intro h;have:=A38 h;simp [Res.isVal] at this
    · simp
  · cases S9 g
    · simp
    · simp only [cond_true]
      repeat' split
      all_goals simp
  · cases S9 g
    · simp
    · simp only [cond_true]
      repeat' split
      all_goals simp
  · intro h;have:=P8 h;simp [Res.isVal] at this
  · intro h;have:=P8 h;simp [Res.isVal] at this
  · intro h;have:=P8 h;simp [Res.isVal] at this
  · simp only [Bool.cond_eq_ite];split
    · intro h;have:=P8 h;simp [Res.isVal] at this
    · exact hD
  · simp only [Bool.cond_eq_ite];split
    · intro h;have:=P8 h;simp [Res.isVal] at this
    · exact hD
  · simp only [Bool.cond_eq_ite];split
    · intro h;have:=P8 h;simp [Res.isVal] at this
    · exact hD
  · simp only [Bool.cond_eq_ite];split
    · intro h;have:=P8 h;simp [Res.isVal] at this
    · exact hD
  · exact hD
end
def B2a:EV→Option Bool
  | .v (.bool b)=>some b
  | _=>none
theorem B6o{e:EV}{b:Bool}(h:B2a e=some b):e=.v (.bool b):=by
  unfold B2a at h;split at h<;>simp_all
def A2r (ops:Array Oper)(σ:S)(gd:Option (Nat×Bool)):Option (S×A0b):=
  match gd with
  | none=>some (σ,[])
  | some (j,want)=>
    match ops[j]? with
    | some oj=>
      match oj.dst with
      | some d=>
        match A3h σ.env d with
        | some y=>
          match B2a y.e with
          | some c=>
            match B4p σ.gi d with
            | some i=>some (σ,(i,want)::y.p)
            | none=>some ({σ with gv:=σ.gv++[c],gi:=(d,σ.gv.length)::σ.gi},(σ.gv.length,want)::y.p)
          | none=>none
        | none=>none
      | none=>none
    | none=>none
def V0(σ:S)(n:Nat)(dst:Option Tmp)(p:A0b)(e:Option EV):Option S:=
  match dst with
  | none=>some σ
  | some d=>
    bif Nat.blt d n then
      match e with
      | some e=>bif e.wf σ.bs.length then some {σ with env:=⟨d,p,e⟩::B24 σ.env d,gi:=σ.gi.filter fun x=>!Nat.beq x.1 d} else none
      | none=>some {σ with env:=B24 σ.env d,gi:=σ.gi.filter fun x=>!Nat.beq x.1 d}
    else none
def A4y(env:List Ent)(g:A0b):List Operand→Option (List EV)
  | []=>some []
  | x::r=>match I9 env g x,A4y env g r with | some e,some l=>some (e::l) | _,_=>none
def sumE:Sum Value (Nat×Nat)→EV
  | .inl u=>.v u
  | .inr (k,off)=>.p k off
def A1e(σ:S)(g:A0b)(o:Oper):Option (FuncId×List EV×List Value):=
  match o.op with
  | .call {callee:=.value x,args:=xs,.. }=>
    match I9 σ.env g x,A4y σ.env g xs.toList with
    | some (.v (.func (.func f) first cap)),some es=>some (f,first.toList.map .v++es,cap.toList)
    | some (.f (.func f) first cap),some es=>some (f,first.map sumE++es++cap.map sumE,[])
    | _,_=>none
  | _=>none
def A23(es:List EV)(cs:List Value):Option (List Value):=match A3v es with | some l=>some (l++cs) | none=>none
theorem A3w{ns:List Nat}{es:List EV}{cs vs:List Value}(h:A23 es cs=some vs):es.map (EV.den ns)++cs=vs:=by
  unfold A23 at h;split at h
  · rename_i l hl;simp only [Option.some.injEq] at h;rw [A3s hl];exact h
  · cases h
def B6a(σ1:S)(g:A0b)(n:Nat)(orc:List (List Value))(o:Oper)(f:FuncId)(es:List EV)(cs:List Value):Option (S×List Ob×List (List Value)):=
  match A23 es cs,orc with
  | some args,[v]::orc'=>match V0 σ1 n o.dst g (some (.v v)) with | some σ2=>some (σ2,[.call (K0 σ1.gv g) f args v],orc') | none=>none
  | _,_=>none
def B59(P:Program)(ops:Array Oper)(n:Nat)(σ:S)(orc:List (List Value))(o:Oper):Option (S×List Ob×List (List Value)):=
  match A2r ops σ o.guard with
  | none=>none
  | some (σ1,g)=>
    match A1e σ1 g o with
    | some (f,es,cs)=>B6a σ1 g n orc o f es cs
    | none=>
    match A5b P σ1 g orc o with
    | some (.val e obs orc')=>match V0 σ1 n o.dst g (some e) with | some σ2=>some (σ2,obs,orc') | none=>none
    | some (.new cs T none)=>
      bif cs.all (EV.wf σ1.bs.length) then
        match V0 {σ1 with bs:=σ1.bs++[(cs,T)]} n o.dst g (some (.p σ1.bs.length 0)) with | some σ2=>some (σ2,[],orc) | none=>none
      else none
    | some (.upd k cs T)=>
      bif cs.all (EV.wf σ1.bs.length) then
        match V0 {σ1 with bs:=σ1.bs.set k (cs,T)} n o.dst g none with | some σ2=>some (σ2,[],orc) | none=>none
      else none
    | _=>none
def gdB(ops:Array Oper)(a:Act):Option (Nat×Bool)→Bool
  | none=>true
  | some (j,want)=>yielded ops a.tmps j==some want
section
variable {P:Program} {w0:World} {own:List Nat} {n:Nat} {σ σ1:S} {ns:List Nat} {a:Act} {w:World} {g:A0b} {o:Oper} {orc orc':List (List Value)} {e:EV} {obs:List Ob} {ops:Array Oper}
theorem A3a(hI:Inv w0 own n σ ns a w){gd:Option (Nat×Bool)}(h:A2r ops σ gd=some (σ1,g)):
    Inv w0 own n σ1 ns a w∧B2i σ1.gv.length g∧gdB ops a gd=K0 σ1.gv g:=by
  unfold gdB;unfold A2r at h;cases gd with
  | none=>
    simp only [Option.some.injEq,Prod.mk.injEq] at h;obtain ⟨rfl,rfl⟩:=h;exact ⟨hI,fun x hx=>by simp at hx,rfl⟩
  | some jw =>
    obtain ⟨j,want⟩:=jw;simp only at h;cases hj:ops[j]? with
    | none=>rw [hj] at h;simp at h
    | some oj =>
      rw [hj] at h;simp only at h;cases hd:oj.dst with
      | none=>rw [hd] at h;simp at h
      | some d =>
        rw [hd] at h;simp only at h;cases hl:A3h σ.env d with
        | none=>rw [hl] at h;simp at h
        | some y =>
          rw [hl] at h;simp only at h;cases hb:B2a y.e with
          | none=>rw [hb] at h;simp at h
          | some c=>
            rw [hb] at h;simp only at h;have hye:=B6o hb;have hm:=A5v hl;have henv:=hI.env y hm.1;rw [hm.2,hye] at henv;have hy:yielded ops a.tmps j=(bif K0 σ.gv y.p then some c else none):=by
              unfold yielded;simp only [hj,Option.bind_some,hd,henv];cases K0 σ.gv y.p<;>rfl
            have hval:∀gv i,K0 gv y.p=K0 σ.gv y.p→gv[i]? =some c→(yielded ops a.tmps j==some want)=K0 gv ((i,want)::y.p):=by
              intro gv i hgp hgi;rw [hy,A35,hgp,List.getD_eq_getElem?_getD,hgi];cases K0 σ.gv y.p<;>cases c<;>cases want<;>rfl
            cases hi:B4p σ.gi d with
            | some i=>
              rw [hi] at h;simp only [Option.some.injEq,Prod.mk.injEq] at h;obtain ⟨rfl,rfl⟩:=h;obtain ⟨y',c',hl',he',hg'⟩:=hI.gi _ (A9y hi);simp only at hl' hg';rw [hl] at hl';simp only [Option.some.injEq] at hl';subst hl';rw [hye] at he';simp only [EV.v.injEq,Value.bool.injEq] at he';subst he';have hil:=(List.getElem?_eq_some_iff.1 hg').1;refine ⟨hI,?_,hval _ _ rfl hg'⟩;intro x hx;simp only [List.mem_cons] at hx;rcases hx with rfl | hx
              · exact hil
              · exact (hI.ewf y hm.1).2 x hx
            | none=>
              rw [hi] at h;simp only [Option.some.injEq,Prod.mk.injEq] at h;obtain ⟨rfl,rfl⟩:=h;have happ:∀x∈σ.env,K0 (σ.gv++[c]) x.p=K0 σ.gv x.p:=fun x hx=>B2h _ _ _ (hI.ewf x hx).2;refine ⟨⟨hI.size,hI.defers,fun x hx=>?_,fun x hx=>⟨(hI.ewf x hx).1,fun z hz=>?_⟩,hI.bwf,?_,hI.loc,hI.pin⟩,?_,?_⟩
              · rw [happ x hx];exact hI.env x hx
              · have:=(hI.ewf x hx).2 z hz;simp only [List.length_append,List.length_singleton];omega
              · intro x hx;simp only [List.mem_cons] at hx;rcases hx with rfl | hx
                · exact ⟨y,c,hl,hye,by simp⟩
                · obtain ⟨y',c',h1,h2,h3⟩:=hI.gi x hx;exact ⟨y',c',h1,h2,by rw [List.getElem?_append_left (List.getElem?_eq_some_iff.1 h3).1];exact h3⟩
              · intro x hx;simp only [List.mem_cons] at hx;simp only [List.length_append,List.length_singleton];rcases hx with rfl | hx
                · simp
                · have:=(hI.ewf y hm.1).2 x hx;omega
              · exact hval _ _ (happ y hm.1) (by simp)
theorem B08{env:List Ent}{d t:Nat}(h:t≠d):A3h (B24 env d) t=A3h env t:=by
  induction env with
  | nil=>rfl
  | cons x r ih=>
    unfold B24 at*
    rw [List.filter_cons];cases hb:Nat.beq x.t d
    · simp only [Bool.not_false,if_true,A3h,ih]
    · have hx:=Nat.eq_of_beq_eq_true hb;simp only [Bool.not_true,Bool.false_eq_true,if_false];rw [ih];simp only [A3h];have:Nat.beq x.t t=false:=by
        cases hh:Nat.beq x.t t
        · rfl
        · exact absurd ((Nat.eq_of_beq_eq_true hh).symm.trans hx) h
      rw [this];rfl
theorem R8(hI:Inv w0 own n σ ns a w)(hg:B2i σ.gv.length g){dst:Option Tmp}{e:Option EV}{v:Value}{σ2:S}(h:V0 σ n dst g e=some σ2)
    (hv:∀x,e=some x→v=gvv (K0 σ.gv g) (x.den ns)):Inv w0 own n σ2 ns (a.put dst v) w:=by
  unfold V0 at h;cases dst with
  | none=>simp only [Option.some.injEq] at h;subst h;exact hI
  | some d =>
    simp only at h;cases hdn:Nat.blt d n
    · rw [hdn] at h;simp at h
    · rw [hdn] at h;have hlt:d<n:=by simpa using hdn
      simp only [cond_true] at h;have hput:∀t,(a.put (some d) v).tmps[t]? =if t=d then some v else a.tmps[t]? :=by
        intro t;simp only [Act.put,Array.getElem?_setIfInBounds];by_cases ht:d=t
        · subst ht;simp [hI.size,hlt]
        · rw [if_neg ht,if_neg (Ne.symm ht)]
      have hsz:(a.put (some d) v).tmps.size=n:=by simp [Act.put,hI.size]
      have hdrop:∀x∈B24 σ.env d,x∈σ.env∧x.t≠d:=by
        intro x hx;unfold B24 at hx;rw [List.mem_filter] at hx;exact ⟨hx.1,fun hh=>by subst hh;simp at hx⟩
      have hgi:∀(env':List Ent),(∀t,t≠d→A3h env' t=A3h σ.env t)→∀x∈σ.gi.filter (fun x=>!Nat.beq x.1 d),∃y c,A3h env' x.1=some y∧y.e=.v (.bool c)∧σ.gv[x.2]? =some c:=by
        intro env' hlk x hx;rw [List.mem_filter] at hx;obtain ⟨y,c,h1,h2,h3⟩:=hI.gi x hx.1;exact ⟨y,c,by rw [hlk _ (fun hh=>by rw [hh] at hx;simp at hx)];exact h1,h2,h3⟩
      cases e with
      | none=>
        simp only [Option.some.injEq] at h;subst h;refine ⟨hsz,hI.defers,fun x hx=>?_,fun x hx=>hI.ewf x (hdrop x hx).1,hI.bwf,hgi _ (fun t ht=>B08 ht),hI.loc,hI.pin⟩;rw [hput,if_neg (hdrop x hx).2];exact hI.env x (hdrop x hx).1
      | some x0=>
        simp only at h;cases hwf:x0.wf σ.bs.length
        · rw [hwf] at h;simp at h
        · rw [hwf] at h;simp only [cond_true,Option.some.injEq] at h;subst h;refine ⟨hsz,hI.defers,fun x hx=>?_,fun x hx=>?_,hI.bwf,hgi _ (fun t ht=>?_),hI.loc,hI.pin⟩
          · simp only [List.mem_cons] at hx;rcases hx with rfl | hx
            · rw [hput,if_pos rfl,hv x0 rfl]
            · rw [hput,if_neg (hdrop x hx).2];exact hI.env x (hdrop x hx).1
          · simp only [List.mem_cons] at hx;rcases hx with rfl | hx
            · exact ⟨hwf,hg⟩
            · exact hI.ewf x (hdrop x hx).1
          · simp only [A3h];have:Nat.beq d t=false:=by
              cases hh:Nat.beq d t
              · rfl
              · exact absurd (Nat.eq_of_beq_eq_true hh).symm ht
            rw [this];exact B08 ht
end
section
variable {F:Fence} {m:Nat} {P:Program} {w0:World} {own:List Nat} {n:Nat} {σ σ2:S} {ns:List Nat} {a:Act} {w:World} {o:Oper} {orc orc':List (List Value)} {obs:List Ob} {ops:Array Oper}
  {Q:Exit→Act→World→Prop} {rest:List Oper}
theorem A2l{g:A0b}(hI:Inv w0 own n σ ns a w)(hp:K0 σ.gv g=true):∀ {xs:List Operand} {es:List EV},A4y σ.env g xs=some es→xs.map a.eval=es.map (EV.den ns)
  | [],es,h=>by simp only [A4y,Option.some.injEq] at h;subst h;rfl
  | x ::r,es,h=>by
    simp only [A4y] at h;cases hx:I9 σ.env g x with
    | none=>rw [hx] at h;simp at h
    | some e=>
      cases hr:A4y σ.env g r with
      | none=>rw [hx,hr] at h;simp at h
      | some l=>
        rw [hx,hr] at h;simp only [Option.some.injEq] at h;subst h;simp [hI.opnd hx hp,A2l hI hp hr]
theorem Y2(l:List Value):(l.map EV.v).map (EV.den ns)=l:=by
  rw [List.map_map];have:(EV.den ns∘EV.v)=id:=rfl;rw [this,List.map_id]
theorem B3l(l:List (Sum Value (Nat×Nat))):(l.map sumE).map (EV.den ns)=l.map (A3x ns):=by
  rw [List.map_map];apply List.map_congr_left;intro y _;cases y with
  | inl=>rfl
  | inr p=>rfl
theorem A24{g:A0b}{f:FuncId}{es:List EV}{cs:List Value}(hI:Inv w0 own n σ ns a w)(hp:K0 σ.gv g=true)(h:A1e σ g o=some (f,es,cs))
    (hent:∀args w,(callFunc f args).run P w=.ok (.enter f args) w):
    (∀c,o.op≠ .defer c)∧(execOp a.eval o).run P w=.ok (.enter f (es.map (EV.den ns)++cs).toArray) w:=by
  unfold A1e at h;split at h
  · rename_i x xs ats hop;refine ⟨(fun c hc=>by rw [hop] at hc;cases hc),?_⟩;split at h
    · rename_i f' first cap es' hx hes
      simp only [Option.some.injEq,Prod.mk.injEq] at h;obtain ⟨rfl,rfl,rfl⟩:=h;unfold execOp;rw [hop];simp only [resolve,Deferred.ofValue,hI.opnd hx hp,EV.den,Sem.run_bind,Sem.run_pure,Result.andThen_ok,invoke];rw [hent];have:=A2l hI hp hes;simp only [List.map_append,Y2]
      congr 2
      apply Array.ext';simp [← this]
    · rename_i f' first cap es' hx hes
      simp only [Option.some.injEq,Prod.mk.injEq] at h;obtain ⟨rfl,rfl,rfl⟩:=h;unfold execOp;rw [hop];simp only [resolve,Deferred.ofValue,hI.opnd hx hp,EV.den,Sem.run_bind,Sem.run_pure,Result.andThen_ok,invoke];rw [hent];have:=A2l hI hp hes;simp only [List.map_append,B3l]
      congr 2
      apply Array.ext';simp [← this]
    · simp at h
  · simp at h
theorem Loc.below{bs:List (List EV×TypeId)}(h:Loc w0 own ns bs w){w1:World}(hb:Below w.heap.size w w1):Loc w0 own ns bs w1:=
  ⟨h.len,h.nodup,h.base.trans_below hb,h.ge,fun k cs T hk=>by
    have hl:ns.getD k 0∈ns:=h.mem (List.getElem?_eq_some_iff.1 hk).1;rw [hb.block _ (h.lt hl)];exact h.blk k cs T hk⟩
theorem Inv.below(hI:Inv w0 own n σ ns a w){w1:World}(hb:Below w.heap.size w w1):Inv w0 own n σ ns a w1:=
  ⟨hI.size,hI.defers,hI.env,hI.ewf,hI.bwf,hI.gi,hI.loc.below hb,hI.pin⟩
def E9(F:Fence):Prop:=F=Fence.wide∨∃l,F=Fence.wide.inRound l
theorem E9.fn{F:Fence}(h:E9 F)(f:FuncId):F.fn f:=by rcases h with rfl | ⟨l,rfl⟩<;>trivial
theorem E9.depth{F:Fence}(h:E9 F):F.depth=none:=by rcases h with rfl | ⟨l,rfl⟩<;>rfl
theorem E9.calls{F:Fence}(h:E9 F){k:Nat}{f:FuncId}{args:Array Value}{R:Ending→World→Prop}(hc:Calls P f args w R):CallsIn F k P f args w R:=by
  rcases h with rfl | ⟨l,rfl⟩
  · exact callsIn_wide.2 hc
  · exact CallsIn.inRound l (callsIn_wide.2 hc)
end
section
variable {F:Fence} {m:Nat} {P:Program} {w0:World} {own:List Nat} {n:Nat} {σ σ2:S} {ns:List Nat} {a:Act} {w:World} {o:Oper} {orc orc':List (List Value)} {obs:List Ob} {ops:Array Oper}
  {Q:Exit→Act→World→Prop} {rest:List Oper}
theorem Inv.alloc(hI:Inv w0 own n σ ns a w)(cs:List EV)(T:TypeId)(hc:∀e∈cs,EV.wf σ.bs.length e=true):
    Inv w0 own n {σ with bs:=σ.bs++[(cs,T)]} (ns++[w.heap.size]) a (w.alloc (.cells (cs.map (EV.den ns)).toArray T)):=by
  have hl:ns.length=σ.bs.length:=hI.loc.len;have hmono:∀ {e:EV},e.wf σ.bs.length=true→e.wf (σ.bs++[(cs,T)]).length=true:=by
    intro e he;have hk:∀k,Nat.blt k σ.bs.length=true→Nat.blt k (σ.bs++[(cs,T)]).length=true:=by
      intro k hk;have:k<σ.bs.length:=by simpa using hk
      simp;omega
    cases e with
    | v=>rfl
    | p k off=>exact hk _ he
    | s k off n c=>exact hk _ he
    | f fn x y=>
      simp only [EV.wf,Bool.and_eq_true,List.all_eq_true] at he ⊢;constructor
      · intro z hz;have:=he.1 z hz;cases z with | inl=>rfl | inr q=>exact hk _ this
      · intro z hz;have:=he.2 z hz;cases z with | inl=>rfl | inr q=>exact hk _ this
  refine ⟨hI.size,hI.defers,fun x hx=>?_,fun x hx=>⟨hmono (hI.ewf x hx).1,(hI.ewf x hx).2⟩,fun x hx e he=>?_,hI.gi,?_,hI.pin.app _⟩
  · rw [EV.den_append (by rw [hl];exact (hI.ewf x hx).1)];exact hI.env x hx
  · simp only [List.mem_append,List.mem_singleton] at hx;rcases hx with hx | rfl
    · exact hmono (hI.bwf x hx e he)
    · exact hmono (hc e he)
  · exact hI.loc.alloc (fun x hx e he=>by rw [hl];exact hI.bwf x hx e he) cs T (fun e he=>by rw [hl];exact hc e he)
theorem Inv.upd(hI:Inv w0 own n σ ns a w){k:Nat}{cs:List EV}{T:TypeId}{w':World}(hc:∀e∈cs,EV.wf σ.bs.length e=true)(hL:Loc w0 own ns (σ.bs.set k (cs,T)) w'):
    Inv w0 own n {σ with bs:=σ.bs.set k (cs,T)} ns a w':=
  ⟨hI.size,hI.defers,hI.env,fun x hx=>by simpa using hI.ewf x hx,fun x hx e he=>by
    have:=List.mem_or_eq_of_mem_set hx;simp only [List.length_set];rcases this with h | rfl
    · exact hI.bwf x h e he
    · exact hc e he,hI.gi,hL,hI.pin⟩
theorem B36(hF:E9 F)(hI:Inv w0 own n σ ns a w)(h:B59 P ops n σ orc o=some (σ2,obs,orc'))(hob:Obs P w0 own obs)
    (K:∀ns' a' w',Inv w0 own n σ2 ns' a' w'→ns <+: ns'→wpListIn F m P ops Q rest a' w'):wpListIn F m P ops Q (o::rest) a w:=by
  unfold B59 at h;cases hgd:A2r ops σ o.guard with
  | none=>rw [hgd] at h;simp at h
  | some sg =>
    obtain ⟨σ1,g⟩:=sg;rw [hgd] at h;simp only at h;obtain ⟨hI1,hgw,hwant⟩:=A3a hI hgd;have hw:Region.wanted o (yielded ops a.tmps)=K0 σ1.gv g:=by
      rw [← hwant];unfold Region.wanted gdB;cases o.guard<;>rfl
    have hnd:∀r,A5b P σ1 g orc o=some r→∀c,o.op≠ .defer c:=by
      intro r hr c hc;unfold A5b at hr;rw [hc] at hr;simp only at hr;unfold evD at hr;rw [hc] at hr;simp [A2v] at hr
    cases hco:A1e σ1 g o with
    | some fe=>
      obtain ⟨f,es,cs⟩:=fe;rw [hco] at h;simp only at h;unfold B6a at h;split at h
      · rename_i args v orc1 hargs;cases hp:V0 σ1 n o.dst g (some (.v v)) with
        | none=>rw [hp] at h;simp at h
        | some σ3=>
          rw [hp] at h;simp only [Option.some.injEq,Prod.mk.injEq] at h;obtain ⟨rfl,rfl,rfl⟩:=h;unfold wpListIn;rw [hw];cases hb:K0 σ1.gv g with
          | true=>
            obtain ⟨hent,hcall⟩:=hob.1 hb;simp only [if_true];obtain ⟨hnd,hrun⟩:=A24 hI1 hb hco hent;refine ⟨fun f _=>hF.fn f,?_⟩;rw [Oper.semAt_plain F _ _ hnd,hrun,Oper.uponIn_enter];refine ⟨fun hd=>by rw [hF.depth] at hd;simp at hd,?_⟩;rw [A3w hargs];refine (hF.calls (hcall w hI.loc.base)).mono ?_;rintro e w1 ⟨rfl,hbl⟩;exact K _ _ _ (R8 (hI1.below hbl) hgw hp (fun x hx=>by simp only [Option.some.injEq] at hx;subst hx;rw [hb];rfl)) (List.prefix_refl _)
          | false=>
            simp only [Bool.false_eq_true,if_false];exact ⟨fun f _=>hF.fn f,K _ _ _ (R8 hI1 hgw hp (fun x hx=>by rw [hb];rfl)) (List.prefix_refl _)⟩
      · simp at h
    | none=>
    rw [hco] at h;simp only at h;cases he:A5b P σ1 g orc o with
    | none=>rw [he] at h;simp at h
    | some r =>
      have hsem:o.semAt F.round a.eval=execOp a.eval o:=Oper.semAt_plain F _ _ (hnd r he);rw [he] at h;unfold wpListIn;rw [hw];cases r with
      | val e obs1 orc1=>
        simp only at h;cases hp:V0 σ1 n o.dst g (some e) with
        | none=>rw [hp] at h;simp at h
        | some σ3=>
          rw [hp] at h;simp only [Option.some.injEq,Prod.mk.injEq] at h;obtain ⟨rfl,rfl,rfl⟩:=h;cases hb:K0 σ1.gv g with
          | true=>
            simp only [if_true];refine ⟨fun f _=>hF.fn f,?_⟩;rw [hsem,A9t hI1 hb he hob];exact K _ _ _ (R8 hI1 hgw hp (fun x hx=>by simp only [Option.some.injEq] at hx;subst hx;rw [hb];rfl)) (List.prefix_refl _)
          | false=>
            simp only [Bool.false_eq_true,if_false];exact ⟨fun f _=>hF.fn f,K _ _ _ (R8 hI1 hgw hp (fun x hx=>by rw [hb];rfl)) (List.prefix_refl _)⟩
      | new cs T sl=>
        cases sl with
        | some _=>simp at h
        | none=>
          simp only at h;cases hall:cs.all (EV.wf σ1.bs.length)
          · rw [hall] at h;simp at h
          · rw [hall] at h;simp only [cond_true] at h;cases hp:V0 {σ1 with bs:=σ1.bs++[(cs,T)]} n o.dst g (some (.p σ1.bs.length 0)) with
            | none=>rw [hp] at h;simp at h
            | some σ3=>
              rw [hp] at h;simp only [Option.some.injEq,Prod.mk.injEq] at h;obtain ⟨rfl,rfl,rfl⟩:=h;obtain ⟨rfl,_,hrun⟩:=A9s hI1 he;simp only [K0,if_true];refine ⟨fun f _=>hF.fn f,?_⟩;rw [hsem,hrun];have hI2:=hI1.alloc cs T (by simpa [List.all_eq_true] using hall);refine K _ _ _ (R8 hI2 hgw hp (fun x hx=>?_)) (List.prefix_append _ _);simp only [Option.some.injEq] at hx;subst hx;simp only [K0,gvv,cond_true,EV.den];rw [← hI1.loc.len];simp [List.getD_eq_getElem?_getD]
      | upd k cs T=>
        simp only at h;cases hall:cs.all (EV.wf σ1.bs.length)
        · rw [hall] at h;simp at h
        · rw [hall] at h;simp only [cond_true] at h;cases hp:V0 {σ1 with bs:=σ1.bs.set k (cs,T)} n o.dst g none with
          | none=>rw [hp] at h;simp at h
          | some σ3=>
            rw [hp] at h;simp only [Option.some.injEq,Prod.mk.injEq] at h;obtain ⟨rfl,rfl,rfl⟩:=h;obtain ⟨rfl,w',hrun,hL⟩:=B27 hI1 he;simp only [K0,if_true];refine ⟨fun f _=>hF.fn f,?_⟩;rw [hsem,hrun];exact K _ _ _ (R8 (hI1.upd (by simpa [List.all_eq_true] using hall) hL) hgw hp (fun x hx=>by cases hx)) (List.prefix_refl _)
def A6z(P:Program)(ops:Array Oper)(n:Nat):Nat→List Oper→S→List (List Value)→Option (S×List Ob×List (List Value))
  | 0,_,σ,orc=>some (σ,[],orc)
  | k+1,o::l,σ,orc=>
    match B59 P ops n σ orc o with
    | some (σ1,obs,orc1)=>match A6z P ops n k l σ1 orc1 with | some (σ2,obs2,orc2)=>some (σ2,obs++obs2,orc2) | none=>none
    | none=>none
  | _,_,_,_=>none
theorem A58(hF:E9 F)(k:Nat):∀(l:List Oper) (σ σ2:S) (orc orc':List (List Value)) (obs:List Ob) (ns:List Nat) (a:Act) (w:World),Inv w0 own n σ ns a w→
    A6z P ops n k l σ orc=some (σ2,obs,orc')→Obs P w0 own obs→(∀ns' a' w',Inv w0 own n σ2 ns' a' w'→ns <+: ns'→wpListIn F m P ops Q (l.drop k) a' w')→wpListIn F m P ops Q l a w:=by
  induction k with
  | zero=>
    intro l σ σ2 orc orc' obs ns a w hI h hob K;simp only [A6z,Option.some.injEq,Prod.mk.injEq] at h;obtain ⟨rfl,rfl,rfl⟩:=h;exact K _ _ _ hI (List.prefix_refl _)
  | succ k ih=>
    intro l σ σ2 orc orc' obs ns a w hI h hob K;cases l with
    | nil=>simp [A6z] at h
    | cons o l=>
      simp only [A6z] at h;cases h1:B59 P ops n σ orc o with
      | none=>rw [h1] at h;simp at h
      | some r=>
        obtain ⟨σ1,obs1,orc1⟩:=r;rw [h1] at h;simp only at h;cases h2:A6z P ops n k l σ1 orc1 with
        | none=>rw [h2] at h;simp at h
        | some r2=>
          obtain ⟨σ3,obs3,orc3⟩:=r2;rw [h2] at h;simp only [Option.some.injEq,Prod.mk.injEq] at h;obtain ⟨rfl,rfl,rfl⟩:=h;rw [A2g] at hob;exact B36 hF hI h1 hob.1 (fun ns' a' w' hI' hp=>ih l σ1 σ3 orc1 orc3 obs3 ns' a' w' hI' h2 hob.2 (fun ns2 a2 w2 hI2 hp2=>K ns2 a2 w2 hI2 (hp.trans hp2)))
end
def B1e(env:List Ent):List Nat→Option (List Ent)
  | []=>some []
  | t::r=>match A3h env t,B1e env r with | some x,some l=>bif S9 x.p then some (x::l) else none | _,_=>none
theorem A8i{env:List Ent}:∀ {l:List Nat} {out:List Ent},B1e env l=some out→∀x∈out,x∈env∧x.p=[]
  | [],out,h,x,hx=>by simp only [B1e,Option.some.injEq] at h;subst h;simp at hx
  | t ::r,out,h,x,hx=>by
    simp only [B1e] at h;split at h
    · rename_i y l hy hl;cases hn:S9 y.p
      · rw [hn] at h;simp at h
      · rw [hn] at h;simp only [cond_true,Option.some.injEq] at h;subst h;simp only [List.mem_cons] at hx;rcases hx with rfl | hx
        · exact ⟨(A5v hy).1,by cases hh:x.p<;>simp_all [S9]⟩
        · exact A8i hl x hx
    · cases h
def fin(live:List Nat)(σ:S):Option S:=match B1e σ.env live with | some env=>some ⟨env,[],[],σ.bs,σ.lo,σ.pin⟩ | none=>none
def A0s(P:Program)(ops:List Oper)(n:Nat)(live:List Nat)(σ:S)(orc:List (List Value)):Option (S×List Ob):=
  match A6z P ops.toArray n ops.length ops σ orc with
  | some (σ1,obs,[])=>match fin live σ1 with | some σ2=>some (σ2,obs) | none=>none
  | _=>none
abbrev St(w0:World)(own:List Nat)(n:Nat)(σ:S)(ns:List Nat)(a:Act)(w:World):Prop:=Inv w0 own n σ ns a w
section
variable {F:Fence} {m:Nat} {P:Program} {w0:World} {own:List Nat} {n:Nat} {σ σ2:S} {ns:List Nat} {a:Act} {w:World} {o:Oper} {orc orc':List (List Value)} {obs:List Ob} {ops:Array Oper}
  {Q:Exit→Act→World→Prop} {rest:List Oper}
theorem B3e{α:Type}{l:List α}(h:S9 l=true):l=[]:=by cases l<;>simp_all [S9]
theorem Inv.fin(hI:Inv w0 own n σ ns a w){live:List Nat}(h:Eng.fin live σ=some σ2):Inv w0 own n σ2 ns a w:=by
  unfold Eng.fin at h;split at h
  · rename_i env henv;simp only [Option.some.injEq] at h;subst h;have hm:=A8i henv;refine ⟨hI.size,hI.defers,fun x hx=>?_,fun x hx=>?_,hI.bwf,fun x hx=>by simp at hx,hI.loc,hI.pin⟩
    · have:=hI.env x (hm x hx).1;rw [(hm x hx).2] at this ⊢;exact this
    · exact ⟨(hI.ewf x (hm x hx).1).1,by rw [(hm x hx).2];intro y hy;simp at hy⟩
  · cases h
theorem A72{id:Nat}{l:List Oper}{live:List Nat}(hF:E9 F)(hI:St w0 own n σ ns a w)(σ2:S)(obs:List Ob)(h:A0s P l n live σ orc=some (σ2,obs))(hob:Obs P w0 own obs)
    (K:∀ns' a' w',St w0 own n σ2 ns' a' w'→ns <+: ns'→Q .normal a' w'):(Code.region id l.toArray false).wpIn F m P Q a w:=by
  unfold A0s at h;cases hs:A6z P l.toArray n l.length l σ orc with
  | none=>rw [hs] at h;simp at h
  | some r=>
    obtain ⟨σ1,obs1,orc1⟩:=r;rw [hs] at h;cases orc1 with
    | cons _ _=>simp at h
    | nil=>
      simp only at h;cases hf:Eng.fin live σ1 with
      | none=>rw [hf] at h;simp at h
      | some σ3=>
        rw [hf] at h;simp only [Option.some.injEq,Prod.mk.injEq] at h;obtain ⟨rfl,rfl⟩:=h;refine wpIn_region_lit (A58 hF l.length l σ σ1 orc [] obs1 ns a w hI hs hob (fun ns' a' w' hI' hp=>?_));rw [List.drop_length];exact wpListIn_nil (K ns' a' w' (hI'.fin hf) hp)
theorem A45{id:Nat}{l:List Oper}{live:List Nat}{y:Code}(hF:E9 F)(hI:St w0 own n σ ns a w)(σ2:S)(obs:List Ob)(h:A0s P l n live σ orc=some (σ2,obs))(hob:Obs P w0 own obs)
    (K:∀ns' a' w',St w0 own n σ2 ns' a' w'→ns <+: ns'→y.wpIn F m P Q a' w'):(Code.seq (Code.region id l.toArray false) y).wpIn F m P Q a w:=
  wpIn_seq (A72 hF hI σ2 obs h hob K)
def A63:Nat→List Value→List Ent
  | _,[]=>[]
  | i,v::r=>⟨i,[],.v v⟩::A63 (i+1) r
theorem A3y:∀ {i:Nat} {l:List Value} {x:Ent},x∈A63 i l→x.p=[]∧∃v,x.e=.v v∧i≤x.t∧l[x.t - i]? =some v
  | i,v::r,x,h=>by
    simp only [A63,List.mem_cons] at h;rcases h with rfl | h
    · exact ⟨rfl,v,rfl,Nat.le_refl _,by simp⟩
    · obtain ⟨h1,u,h2,h3,h4⟩:=A3y h;refine ⟨h1,u,h2,by omega,?_⟩;rw [show x.t - i=(x.t - (i+1))+1 by omega,List.getElem?_cons_succ];exact h4
theorem enter{f:FuncId}{fn:Func}{c:Code}(hf:P.funcs[f]? =some fn)(hb:fn.body=some c)(args:List Value){w:World}{R:Ending→World→Prop}(hn:fn.ntmps=n)(hle:args.length≤n)
    (h:∀a,St w [] n ⟨A63 0 args,[],[],[],none,none⟩ [] a w→c.wpIn Fence.wide 0 P (bodyPost P fn R) a w):Calls P f args.toArray w R:=by
  refine (callsIn_wide (n:=0)).1 (callsIn_of_wp hf hb trivial (h _ ⟨?_,rfl,?_,?_,?_,?_,?_,trivial⟩))
  · simp [hn];omega
  · intro x hx;obtain ⟨h1,v,h2,h3,h4⟩:=A3y hx;rw [h1,h2];have hl:=(List.getElem?_eq_some_iff.1 h4).1;simp only [Nat.sub_zero] at h4 hl;rw [Array.getElem?_append_left (by simpa using hl)]
    simpa [gvv,K0,EV.den] using h4
  · intro x hx;obtain ⟨h1,v,h2,h3,h4⟩:=A3y hx;rw [h1,h2];exact ⟨rfl,fun y hy=>by simp at hy⟩
  · intro x hx;simp at hx
  · intro x hx;simp at hx
  · exact ⟨rfl,List.nodup_nil,H3.refl _ _,fun b hb=>by simp at hb,fun k cs T hk=>by simp at hk⟩
theorem Inv.at_(hI:Inv w0 own n σ ns a w){t:Nat}{e:EV}(h:I9 σ.env [] (.tmp t)=some e):a.tmps.getD t undef=e.den ns:=by
  have:=hI.opnd h rfl
  simpa [Act.eval] using this
theorem Inv.nodefers(hI:Inv w0 own n σ ns a w)(hlo:σ.lo=none):a.defers=[]:=by have:=hI.defers;rw [hlo] at this;exact this
theorem ret1{fn:Func}{R:Ending→World→Prop}{t:Nat}{e:EV}(hI:St w0 own n σ ns a w)(hres:fn.results= #[.tmp t])(h:I9 σ.env [] (.tmp t)=some e)(hR:R (.returned (e.den ns)) w)(hlo:σ.lo=none:=by rfl):bodyPost P fn R .ret a w:=
  ⟨hI.nodefers hlo,_,results_tmp hres a.tmps P w,by rw [hI.at_ h];exact hR⟩
theorem ret2{fn:Func}{R:Ending→World→Prop}{t u:Nat}{e f:EV}(hI:St w0 own n σ ns a w)(hres:fn.results= #[.tmp t,.tmp u])(h:I9 σ.env [] (.tmp t)=some e)(h2:I9 σ.env [] (.tmp u)=some f)
    (hR:R (.returned (.tuple #[e.den ns,f.den ns])) w) (hlo:σ.lo=none:=by rfl):bodyPost P fn R .ret a w:=
  ⟨hI.nodefers hlo,_,results_tmp2 hres a.tmps P w,by rw [hI.at_ h,hI.at_ h2];exact hR⟩
theorem Inv.eval(hI:Inv w0 own n σ ns a w){x:Operand}{e:EV}(h:I9 σ.env [] x=some e):a.eval x=e.den ns:=hI.opnd h rfl
theorem A47{c:Operand}{x y:Code}(hI:St w0 own n σ ns a w)(b:Bool)(h:I9 σ.env [] c=some (.v (.bool b)))(ht:b=true→x.wpIn F m P Q a w)(hf:b=false→y.wpIn F m P Q a w):
    (Code.cond c x y).wpIn F m P Q a w:=wpIn_cond_split (hI.eval h) ht hf
end
inductive Stp (S O:Type) where
  | next (s:S)
  | out (o:O)
inductive Ex (S R:Type) where
  | brk (s:S)
  | ret (r:R)
def Ex.on{S R T:Type}(o:Ex S R)(f:S→T)(g:R→T):T:=match o with | .brk s=>f s | .ret r=>g r
@[simp] theorem Ex.on_brk{S R T:Type}(s:S)(f:S→T)(g:R→T):(Ex.brk s:Ex S R).on f g=f s:=rfl
@[simp] theorem Ex.on_ret{S R T:Type}(r:R)(f:S→T)(g:R→T):(Ex.ret r:Ex S R).on f g=g r:=rfl
def A31{S O:Type}(B:S→Option (Stp S O)):Nat→S→Option O
  | 0,_=>none
  | k+1,s=>match B s with
    | some (.next s')=>A31 B k s'
    | some (.out o)=>some o
    | none=>none
theorem A8e{S O:Type}{B:S→Option (Stp S O)}:∀ {k:Nat} {s:S} {o:O},A31 B k s=some o→∀j,k≤j→A31 B j s=some o
  | 0,_,_,h,_,_=>by simp [A31] at h
  | k+1,s,o,h,j,hj=>by
    obtain ⟨j,rfl⟩:∃i,j=i+1:=⟨j - 1,by omega⟩;simp only [A31] at h ⊢;split at h
    · exact A8e h j (by omega)
    · exact h
    · cases h
theorem B71{S O:Type}{B:S→Option (Stp S O)}{k j:Nat}{s:S}{o o':O}(h:A31 B k s=some o)(h':A31 B j s=some o'):o=o':=by
  have h1:=A8e h (max k j) (Nat.le_max_left _ _);have h2:=A8e h' (max k j) (Nat.le_max_right _ _);rw [h1] at h2;exact Option.some.inj h2
noncomputable def F3{S O:Type}(B:S→Option (Stp S O))(s:S):Option O:=
  open Classical in if h:∃o k,A31 B k s=some o then some h.choose else none
theorem A96{S O:Type}{B:S→Option (Stp S O)}{s:S}{o:O}{k:Nat}(h:A31 B k s=some o):F3 B s=some o:=by
  unfold F3;have hex:∃o k,A31 B k s=some o:=⟨o,k,h⟩;rw [dif_pos hex];obtain ⟨j,hj⟩:=hex.choose_spec;rw [B71 hj h]
theorem A41{S O:Type}{B:S→Option (Stp S O)}{s:S}{o:O}(h:F3 B s=some o):∃k,A31 B k s=some o:=by
  unfold F3 at h;split at h
  · rename_i hex;simp only [Option.some.injEq] at h;rw [← h];exact hex.choose_spec
  · cases h
theorem L9{S O:Type}(B:S→Option (Stp S O))(s:S):F3 B s=(match B s with | some (.next s')=>F3 B s' | some (.out o)=>some o | none=>none):=by
  cases hB:B s with
  | none=>
    cases h:F3 B s with
    | none=>rfl
    | some o=>
      obtain ⟨k,hk⟩:=A41 h;cases k with
      | zero=>simp [A31] at hk
      | succ k=>simp [A31,hB] at hk
  | some r =>
    cases r with
    | out o=>exact A96 (k:=1) (by simp [A31,hB])
    | next s'=>
      simp only;cases h:F3 B s' with
      | some o=>
        obtain ⟨k,hk⟩:=A41 h;exact A96 (k:=k+1) (by simp [A31,hB,hk])
      | none=>
        cases h':F3 B s with
        | none=>rfl
        | some o=>
          obtain ⟨k,hk⟩:=A41 h';cases k with
          | zero=>simp [A31] at hk
          | succ k=>
            simp only [A31,hB] at hk;rw [A96 hk] at h;cases h
def req{α:Type}(c:Bool)(k:Option α):Option α:=bif c then k else none
def imp(g c:Bool):Bool:=!g||c
def inb(i:Int)(n:Nat):Bool:=decide (0≤i)&&decide (i<(n:Int))
theorem C0{α:Type}{c:Bool}{k:Option α}{r:α}(h:req c k=some r):c=true∧k=some r:=by
  unfold req at h;cases c
  · cases h
  · exact ⟨rfl,h⟩
theorem A0q{i:Int}{n:Nat}(h:inb i n=true):0≤i∧i<(n:Int):=by
  unfold inb at h;simpa using h
theorem W7{g c:Bool}(h:imp g c=true)(hg:g=true):c=true:=by
  unfold imp at h;subst hg;simpa using h
theorem B5o{α:Type}{c:Bool}{x y:Option α}{r:α}(hc:c=true)(h:(bif c then x else y)=some r):x=some r:=by subst hc;exact h
theorem B5n{α:Type}{c:Bool}{x y:Option α}{r:α}(hc:c=false)(h:(bif c then x else y)=some r):y=some r:=by subst hc;exact h
theorem B7{α β:Type}{x:Option α}{f:α→Option β}{r:β}(h:x.bind f=some r):∃t,x=some t∧f t=some r:=Option.bind_eq_some_iff.1 h
theorem A7u{p:Nat→Prop}(h:∃n,p n):∃n,p n∧∀j,p j→n≤j:=by
  obtain ⟨n,hn⟩:=h
  induction n using Nat.strongRecOn with
  | _ n ih=>
    by_cases hex:∃j,j<n∧p j
    · obtain ⟨j,hj,hp⟩:=hex;exact ih j hj hp
    · exact ⟨n,hn,fun j hj=>Nat.le_of_not_lt fun hlt=>hex ⟨j,hlt,hj⟩⟩
noncomputable def B3i(p:Nat→Prop):Nat:=open Classical in if h:∃n,p n then (A7u h).choose else 0
theorem A93{p:Nat→Prop}(h:∃n,p n):p (B3i p)∧∀j,p j→B3i p≤j:=by
  unfold B3i;rw [dif_pos h];exact (A7u h).choose_spec
section
variable {F:Fence} {m:Nat} {P:Program} {a:Act} {w:World} {Q:Exit→Act→World→Prop}
theorem loop_{S O:Type}{B:S→Option (Stp S O)}{o:O}{c:Code}(I:S→Act→World→Prop)(s0:S)(hL:F3 B s0=some o)(h0:I s0 a w)
    (round:∀s a w,I s a w→∀r,B s=some r→c.wpIn F m P (Exit.then (fun a w=>∃s',r=.next s'∧I s' a w) (fun e a w=>∃o',r=.out o'∧(o'=o→Q e a w))) a w):
    (Code.loop c).wpIn F m P Q a w:=by
  obtain ⟨k,hk⟩:=A41 hL;refine wpIn_loop (fun a w=>∃j s,I s a w∧A31 B j s=some o) (fun a w=>B3i fun j=>∃s,I s a w∧A31 B j s=some o) ⟨k,s0,h0,hk⟩ ?_;intro a w hI;obtain ⟨s,hIs,hit⟩:=(A93 hI).1;generalize hj:B3i (fun j=>∃s,I s a w∧A31 B j s=some o)=j at*
  cases j with
  | zero=>simp [A31] at hit
  | succ j=>
    simp only [A31] at hit;cases hB:B s with
    | none=>rw [hB] at hit;cases hit
    | some r=>
      rw [hB] at hit;refine wpIn_mono (round s a w hIs r hB) ?_;intro e a' w' hq;cases e with
      | normal=>
        obtain ⟨s',rfl,hI'⟩:=hq;simp only at hit;have hex:∃i,∃s,I s a' w'∧A31 B i s=some o:=⟨j,s',hI',hit⟩;exact ⟨hex,Nat.lt_of_le_of_lt ((A93 hex).2 j ⟨s',hI',hit⟩) (Nat.lt_succ_self j)⟩
      | _=>
        obtain ⟨o',rfl,hq⟩:=hq;simp only [Option.some.injEq] at hit;exact hq hit
theorem E0{S R:Type}{B:S→Option (Stp S (Ex S R))}{o:Ex S R}{id:Nat}{c:Code}(I:S→Act→World→Prop)(s0:S)(hL:F3 B s0=some o)(h0:I s0 a w)
    (round:∀s a w,I s a w→∀r,B s=some r→c.wpIn F m P (Exit.then (fun a w=>∃s',r=.next s'∧I s' a w)
      (fun e a w=>(∃s',r=.out (.brk s')∧e=.exit id∧I s' a w)∨(∃r1,r=.out (.ret r1)∧(o=.ret r1→Exit.inBlock id Q e a w)))) a w)
    (rest:∀s a w,o=.brk s→I s a w→Q .normal a w):(Code.block id (Code.loop c)).wpIn F m P Q a w:=by
  refine wpIn_block (loop_ I s0 hL h0 fun s a w hI r hB=>wpIn_mono (round s a w hI r hB) ?_);intro e a w hq;cases e with
  | normal=>exact hq
  | exit id'=>
    rcases hq with ⟨s',rfl,he,hI'⟩ | ⟨r1,rfl,hq⟩
    · refine ⟨_,rfl,fun ho=>?_⟩;simp only [Exit.exit.injEq] at he;subst he;simp only [Exit.inBlock,if_true];exact rest s' a w ho.symm hI'
    · exact ⟨_,rfl,fun ho=>hq ho.symm⟩
  | _=>
    rcases hq with ⟨s',rfl,he,hI'⟩ | ⟨r1,rfl,hq⟩
    · cases he
    · exact ⟨_,rfl,fun ho=>hq ho.symm⟩
end
abbrev SV:=Nat→Option Addr×Nat
def IsC(w:World)(b:Nat):Prop:=b<w.heap.size∧∃c T f,w.heap[b]? =some (.cells c T f)
theorem A81{w:World}{p:Addr}{v:Value}(h:w.cell? p=some v):IsC w p.block:=by
  refine ⟨World.block_lt_of_cell? w p h,?_⟩;unfold World.cell? at h;cases ho:w.heap[p.block]? with
  | none=>simp [ho] at h
  | some o=>cases o<;>simp_all
structure Kd (α:Type) where
  sz:Nat
  cells:α→SV→List Value
  cont:(Nat→Prop)→World→α→SV→Prop
  len:∀x sv,(cells x sv).length=sz
  pos:0<sz
  keep:∀ {S S':Nat→Prop} {w w':World} {x:α} {sv:SV},cont S w x sv→(∀b,S b→IsC w b→S' b∧w'.heap[b]? =w.heap[b]?)→cont S' w' x sv
def Arr{α:Type}(d:Kd α)(S:Nat→Prop)(w:World)(A:Option Addr)(xs:List α):Prop:=
  (0<xs.length→A=some (adr A)∧S (adr A).block)∧
    ∀(i:Nat) (x:α),xs[i]? =some x→∃sv,d.cont S w x sv∧∀(j:Nat) (v:Value),(d.cells x sv)[j]? =some v→w.cell? ((adr A).add (i*d.sz+j))=some v
theorem Arr.isC{α:Type}{d:Kd α}{S:Nat→Prop}{w:World}{A:Option Addr}{xs:List α}(h:Arr d S w A xs)(hl:0<xs.length):IsC w (adr A).block:=by
  obtain ⟨sv,_,hc⟩:=h.2 0 _ (List.getElem?_eq_getElem hl);have hj:0<(d.cells xs[0] sv).length:=by rw [d.len];exact d.pos
  have:=A81 (hc 0 _ (List.getElem?_eq_getElem hj))
  rwa [S3] at this
theorem Arr.keep{α:Type}{d:Kd α}{S S':Nat→Prop}{w w':World}{A:Option Addr}{xs:List α}(h:Arr d S w A xs)(hk:∀b,S b→IsC w b→S' b∧w'.heap[b]? =w.heap[b]?):Arr d S' w' A xs:=
  ⟨fun hl=>⟨(h.1 hl).1,(hk _ (h.1 hl).2 (h.isC hl)).1⟩,fun i x hi=>let ⟨sv,h1,h2⟩:=h.2 i x hi;⟨sv,d.keep h1 hk,fun j v hj=>by
    have hl:0<xs.length:=Nat.lt_of_le_of_lt (Nat.zero_le i) (List.getElem?_eq_some_iff.1 hi).1;rw [World.cell?_of_block (w:=w) (by rw [S3];exact (hk _ (h.1 hl).2 (h.isC hl)).2)];exact h2 j v hj⟩⟩
theorem A29(p:Addr)(m j:Nat):(p.add m).add j=p.add (m+j):=by
  unfold Addr.add;by_cases hm:m=0<;>by_cases hj:j=0<;>simp [hm,hj,Nat.add_assoc]
def rd{α:Type}[Inhabited α](xs:List α)(i:Int):α:=xs.getD i.toNat default
theorem Arr.get{α:Type}[Inhabited α]{d:Kd α}{S:Nat→Prop}{w:World}{A:Option Addr}{xs:List α}(h:Arr d S w A xs)(i:Int)(g:Bool)(hb:g=true→inb i xs.length=true):
    ∃ sv,(g=true→d.cont S w (rd xs i) sv)∧(g=true→A=some (adr A))∧
      (g=true→∀(j:Nat) (v:Value),(d.cells (rd xs i) sv)[j]? =some v→w.cell? (((adr A).add (i.toNat*d.sz)).add j)=some v):=by
  cases g with
  | false=>exact ⟨fun _=>(none,0),(by intro h;cases h),(by intro h;cases h),(by intro h;cases h)⟩
  | true=>
    obtain ⟨h0,h1⟩:=A0q (hb rfl);have hl:i.toNat<xs.length:=by omega
    obtain ⟨sv,hc,hcell⟩:=h.2 i.toNat _ (List.getElem?_eq_getElem hl);have hr:rd xs i=xs[i.toNat]:=by simp [rd,List.getD_eq_getElem?_getD,List.getElem?_eq_getElem hl]
    refine ⟨sv,fun _=>by rw [hr];exact hc,fun _=>(h.1 (by omega)).1,fun _ j v hj=>?_⟩;rw [hr] at hj;rw [A29];exact hcell j v hj
section
variable {P:Program}
theorem P5{w:World}{own:List Nat}{g:Bool}{i:Int}{n:Nat}(h:g=true→inb i n=true):(Ob.need g (0≤i∧i<(n:Int))).holds P w own:=fun hg=>A0q (h hg)
theorem L0{w:World}{own:List Nat}{g:Bool}{f:FuncId}{args:List Value}{v:Value}(hent:∀args w,(callFunc f args).run P w=.ok (.enter f args) w)
    (h:g=true→∀w1,H3 own w w1→Calls P f args.toArray w1 fun e w'=>e=.returned v∧Below w1.heap.size w1 w'):(Ob.call g f args v).holds P w own:=fun hg=>⟨hent,h hg⟩
end
def Kd.int(k:IntKind):Kd Int:=⟨1,fun x _=>[.int k x],fun _ _ _ _=>True,fun _ _=>rfl,Nat.one_pos,fun _ _=>trivial⟩
def Kd.bool:Kd Bool:=⟨1,fun x _=>[.bool x],fun _ _ _ _=>True,fun _ _=>rfl,Nat.one_pos,fun _ _=>trivial⟩
def Kd.str:Kd ByteArray:=⟨1,fun x _=>[.string x],fun _ _ _ _=>True,fun _ _=>rfl,Nat.one_pos,fun _ _=>trivial⟩
def Kd.slice{α:Type}(d:Kd α):Kd (List α):=
  ⟨1,fun xs sv=>[.slice (sv 0).1 xs.length (sv 0).2],fun S w xs sv=>Arr d S w (sv 0).1 xs∧xs.length≤(sv 0).2,fun _ _=>rfl,Nat.one_pos,fun h hk=>⟨h.1.keep hk,h.2⟩⟩
def svL(l:List (Option Addr×Nat)):SV:=fun i=>l.getD i (none,0)
def cut(live:List Nat)(kb:Nat)(σ:S):Option S:=
  match B1e σ.env live with
  | some env=>bif env.all (fun x=>x.e.wf kb)&&(σ.bs.take kb).all (fun x=>x.1.all (EV.wf kb))&&Nat.ble kb σ.bs.length then some ⟨env,[],[],σ.bs.take kb,σ.lo,B1f kb σ.pin⟩ else none
  | none=>none
theorem A5l{ns:List Nat}{kb:Nat}{e:EV}(h:e.wf kb=true):e.den (ns.take kb)=e.den ns:=by
  have hk:∀k,Nat.blt k kb=true→(ns.take kb).getD k 0=ns.getD k 0:=by
    intro k hk;have:k<kb:=by simpa using hk
    rw [List.getD_eq_getElem?_getD,List.getD_eq_getElem?_getD,List.getElem?_take,if_pos this]
  cases e with
  | v=>rfl
  | p k off=>simp only [EV.den];rw [hk k h]
  | s k off n c=>simp only [EV.den];rw [hk k h]
  | f fn a b=>
    simp only [EV.wf,Bool.and_eq_true,List.all_eq_true] at h;simp only [EV.den];have h1:∀x:Sum Value (Nat×Nat),(match x with | .inl _=>true | .inr (k,_)=>Nat.blt k kb)=true→A3x (ns.take kb) x=A3x ns x:=by
      intro x hx;cases x with
      | inl=>rfl
      | inr q=>simp only [A3x];rw [hk _ hx]
    rw [List.map_congr_left (fun x hx=>h1 x (h.1 x hx)),List.map_congr_left (fun x hx=>h1 x (h.2 x hx))]
section
variable {w0:World} {own:List Nat} {n:Nat} {σ σ2:S} {ns:List Nat} {a:Act} {w:World}
theorem B8b{p:Option (Nat×List Nat)}{ns:List Nat}{kb:Nat}(hk:kb≤ns.length)(h:A8s p ns):A8s (B1f kb p) (ns.take kb):=by
  cases p with
  | none=>trivial
  | some q=>
    obtain ⟨k,l⟩:=q;obtain ⟨h1,h2⟩:=h;simp only [B1f];cases hb:Nat.ble k kb
    · trivial
    · have:=Nat.le_of_ble_eq_true hb;exact ⟨by rw [List.take_take,Nat.min_eq_left this];exact h1,by rw [List.length_take];omega⟩
theorem Inv.pick(hI:Inv w0 own n σ ns a w)(live:List Nat)(kb:Nat)(σ2:S)(h:cut live kb σ=some σ2):Inv w0 own n σ2 (ns.take kb) a w:=by
  unfold cut at h;split at h
  case h_2=>cases h
  rename_i env henv;have hme:=A8i henv;simp only [Bool.cond_eq_ite] at h;split at h
  case isFalse=>cases h
  rename_i hb;simp only [Option.some.injEq] at h;subst h;simp only [Bool.and_eq_true,List.all_eq_true] at hb;obtain ⟨⟨he,hbs⟩,hle⟩:=hb;have hle:=Nat.le_of_ble_eq_true hle;have hlen:(σ.bs.take kb).length=kb:=by rw [List.length_take];omega
  refine ⟨hI.size,hI.defers,fun x hx=>?_,fun x hx=>?_,fun x hx e hee=>?_,fun x hx=>by simp at hx,?_,B8b (by rw [hI.loc.len];exact hle) hI.pin⟩
  · rw [A5l (he x hx)];have:=hI.env x (hme x hx).1;rw [(hme x hx).2] at this ⊢;exact this
  · refine ⟨by rw [hlen];exact he x hx,?_⟩;rw [(hme x hx).2];intro y hy;simp at hy
  · rw [hlen];exact hbs x hx e hee
  · have hL:=hI.loc;refine ⟨by rw [List.length_take,List.length_take,hL.len],List.Nodup.sublist (List.take_sublist _ _) hL.nodup,hL.base,fun b hb=>hL.ge b (List.mem_of_mem_take hb),fun k cs T hk=>?_⟩;rw [List.getElem?_take] at hk;split at hk
    · rename_i hkk;have hm:(cs,T)∈σ.bs.take kb:=List.mem_of_getElem? (by rw [List.getElem?_take,if_pos hkk];exact hk);rw [List.map_congr_left (fun e hee=>A5l (hbs _ hm e hee))];have:(ns.take kb).getD k 0=ns.getD k 0:=by
        rw [List.getD_eq_getElem?_getD,List.getD_eq_getElem?_getD,List.getElem?_take,if_pos hkk]
      rw [this];exact hL.blk k cs T hk
    · cases hk
theorem B4{K:Act→World→Prop}{Q:Exit→Act→World→Prop}(h:K a w):Exit.then K Q .normal a w:=h
theorem B6{K:Act→World→Prop}{Q:Exit→Act→World→Prop}(h:Q .ret a w):Exit.then K Q .ret a w:=h
theorem C7{id:Nat}{K:Act→World→Prop}{Q:Exit→Act→World→Prop}(h:Q (.exit id) a w):Exit.then K Q (.exit id) a w:=h
theorem B9{id:Nat}{Q:Exit→Act→World→Prop}(h:Q .normal a w):Exit.inBlock id Q .normal a w:=h
theorem B8{id:Nat}{Q:Exit→Act→World→Prop}(h:Q .ret a w):Exit.inBlock id Q .ret a w:=h
theorem A4z{id:Nat}{Q:Exit→Act→World→Prop}(h:Q .normal a w):Exit.inBlock id Q (.exit id) a w:=by simp only [Exit.inBlock,if_true];exact h
end
def cal{α:Type}(g:Bool)(x:Option α)(d:α):Option α:=bif g then x else some d
theorem J9{α:Type}{g:Bool}{x:Option α}{d t:α}(h:cal g x d=some t)(hg:g=true):x=some t:=by subst hg;exact h
section
variable {F:Fence} {m:Nat} {P:Program} {w0:World} {own:List Nat} {n:Nat} {σ:S} {ns:List Nat} {a:Act} {w:World} {Q:Exit→Act→World→Prop}
theorem Z8{c:Operand}{x y:Code}(hI:St w0 own n σ ns a w)(b:Bool)(h:I9 σ.env [] c=some (.v (.bool b)))(σt σf:S)(σm:Bool→S)(hm:∀b,σm b=bif b then σt else σf)
    (ht:b=true→x.wpIn F m P (Exit.then (fun a w=>∃ns,St w0 own n σt ns a w) (fun _ _ _=>False)) a w)
    (hf:b=false→y.wpIn F m P (Exit.then (fun a w=>∃ns,St w0 own n σf ns a w) (fun _ _ _=>False)) a w)
    (K:∀ns a w,St w0 own n (σm b) ns a w→Q .normal a w):(Code.cond c x y).wpIn F m P Q a w:=by
  refine A47 hI b h (fun hb=>wpIn_mono (ht hb) ?_) (fun hb=>wpIn_mono (hf hb) ?_)
  · intro e a w hq;cases e with
    | normal=>obtain ⟨ns,h⟩:=hq;exact K ns a w (by rw [hm,hb];exact h)
    | _=>exact hq.elim
  · intro e a w hq;cases e with
    | normal=>obtain ⟨ns,h⟩:=hq;exact K ns a w (by rw [hm,hb];exact h)
    | _=>exact hq.elim
theorem B9u{fn:Func}{R:Ending→World→Prop}{t k:Nat}{T U:TypeId}{cs:List EV}{vs:List Value}(hI:St w0 own n σ ns a w)(hres:fn.results= #[.cell t T])(h:I9 σ.env [] (.tmp t)=some (.p k 0))
    (hk:σ.bs[k]? =some (cs,U)) (hv:A3v cs=some vs) (h1:A2s P T=some true) (h2:szT P T=some vs.length) (hR:R (.returned (.agg vs.toArray)) w) (hlo:σ.lo=none:=by rfl):bodyPost P fn R .ret a w:=by
  refine ⟨hI.nodefers hlo,_,?_,hR⟩;have ha:=hI.at_ h;have hl:(loadVar T ⟨ns.getD k 0,0,none⟩).run P w=.ok (.agg vs.toArray) w:=by
    refine A2d h1 h2 (fun j x hj=>?_);rw [V8,Nat.zero_add];rw [← A3s (ns:=ns) hv,List.getElem?_map] at hj;obtain ⟨y,hy,rfl⟩:=Option.map_eq_some_iff.1 hj;exact hI.loc.cell hk hy
  have ha2:a.tmps[t]?.getD undef=.pointer (some ⟨ns.getD k 0,0,none⟩):=by rw [← Array.getD_eq_getD_getElem?];exact ha
  generalize ns.getD k 0=bb at hl ha2;simp [results,hres,ha2,asAddr,Sem.run_bind,hl]
end
def B6b(P:Program)(ops:Array Oper)(n:Nat)(σ:S)(orc:List (List Value))(o:Oper):Option (S×List Ob×List (List Value)):=
  match A2r ops σ o.guard with
  | none=>none
  | some (σ1,g)=>
    match A1e σ1 g o with
    | some (f,es,cs)=>B6a σ1 g n orc o f es cs
    | none=>
    match A5b P σ1 g orc o with
    | some (.val e obs orc')=>match V0 σ1 n o.dst g (some e) with | some σ2=>some (σ2,obs,orc') | none=>none
    | _=>none
def A8n(P:Program)(ops:Array Oper)(n:Nat):List Oper→S→List (List Value)→Option (S×List Ob×List (List Value))
  | [],σ,orc=>some (σ,[],orc)
  | o::l,σ,orc=>
    match B6b P ops n σ orc o with
    | some (σ1,obs,orc1)=>match A8n P ops n l σ1 orc1 with | some (σ2,obs2,orc2)=>some (σ2,obs++obs2,orc2) | none=>none
    | none=>none
def B2o(P:Program)(ops:List Oper)(n:Nat)(live:List Nat)(σ:S)(orc:List (List Value)):Option (S×List Ob):=
  match A8n P ops.toArray n ops σ orc with
  | some (σ1,obs,[])=>match fin live σ1 with | some σ2=>some (σ2,obs) | none=>none
  | _=>none
section
variable {F:Fence} {m:Nat} {P:Program} {w0:World} {own:List Nat} {n:Nat} {σ σ2:S} {ns:List Nat} {a:Act} {w:World} {o:Oper} {orc orc':List (List Value)} {obs:List Ob} {ops:Array Oper}
  {Q:Exit→Act→World→Prop} {C:World→Prop}
theorem B8g{K:Act→Prop}{K':Act→World→Prop}{Q':Exit→Act→World→Prop}(hw:C w)(h:∀a w',C w'→K a→K' a w')(ha:o.askedIn F P a C)(hh:o.quietIn F m P a C K):o.wpIn F m P a w K' Q':=by
  obtain ⟨v,h1,h2⟩:=hh;have h3:=h1 w hw;unfold Oper.quietAtIn at h3;have hnd:∀c,o.op≠ .defer c:=by
    intro c hc;unfold execOp at h3;rw [hc] at h3;simp only [Sem.run_bind] at h3;cases hr:(resolve a.eval c o.type).run P w with
    | ok d w'=>rw [hr] at h3;exact h3
    | halt x w'=>rw [hr] at h3;exact h3
  unfold Oper.wpIn;refine ⟨ha w hw,?_⟩;rw [Oper.semAt_plain F _ _ hnd];generalize (execOp a.eval o).run P w=r at*
  cases r with
  | ok x w'=>
    cases x<;>simp only [Oper.quietUponIn] at h3<;>simp only [Oper.uponIn]
    case value u=>obtain ⟨e1,e2⟩:=h3;rw [e1,e2];exact h _ _ hw h2
    case skip=>obtain ⟨e1,e2⟩:=h3;rw [e1,← e2];exact h _ _ hw h2
    case enter f args=>obtain ⟨e1,hd,hc⟩:=h3;rw [e1];exact ⟨hd,hc.mono fun e w'' ⟨he,hw''⟩=>by subst he;exact h _ _ hw'' h2⟩
  | halt x w'=>simp only [Oper.quietUponIn] at h3
theorem B8f{i:Nat}{K:Act→Prop}{K':Act→World→Prop}{Q':Exit→Act→World→Prop}(hC:C w)(h:∀a w',C w'→K a→K' a w')(hh:qOpIn F m P ops C i K a):wpOpIn F m P ops Q' i K' a w:=by
  unfold qOpIn at hh;unfold wpOpIn;split
  · rename_i ho;simp only [ho] at hh;exact h _ _ hC hh
  · rename_i o ho;simp only [ho] at hh;obtain ⟨ha,hh⟩:=hh;split
    · rename_i hw;simp only [hw,if_true] at hh;exact B8g hC h ha hh
    · rename_i hw;simp only [hw] at hh;exact ⟨ha w hC,h _ _ hC hh⟩
theorem B1i{md:Region.Mode}{Q:Act→Prop}{Q':Exit→Act→World→Prop}(hQ:∀a w,C w→Q a→Q' .normal a w):∀(fuel:Nat) (listed:Array Bool) (a:Act) (w:World),C w→
    wpAnyQIn F m P md ops C Q fuel listed a→wpAnyIn F m P md ops Q' fuel listed a w
  | 0,_,_,_,hw,h=>⟨h.1,hQ _ _ hw h.2⟩
  | fuel+1,_,_,_,hw,h=>⟨fun h0=>hQ _ _ hw (h.1 h0),fun i hi=>B8f hw (fun a' w' hw'=>B1i hQ fuel _ a' w' hw') (h.2 i hi)⟩
theorem B2m{id:Nat}(hm:P.follows .mixedOrders=true)(hB:Region.lexB .any ops=true)(hC:C {w with drawn:=w.drawn+1})
    (h:wpQuietIn F m P ops C (fun a'=>∀w',C w'→Q .normal a' w') ops.toList a):(Code.region id ops true).wpIn F m P Q a w:=by
  simp only [Region.lexB,Bool.and_eq_true] at hB;refine wpIn_region_any hm (B1i (Q:=fun a'=>∀w',C w'→Q .normal a' w') (fun _ w' hw' h=>h w' hw') _ _ _ _ hC ?_);have:=wpAnyQIn_lex (F:=F) (n:=m) (C:=C) (md:=.any) hB.1 ops.toList 0 (Array.replicate ops.size false) a (by simp) (by simpa using hB.2) h
  simpa using this
theorem Inv.on(hI:Inv w0 own n σ ns a w){w':World}(hL:Loc w0 own ns σ.bs w'):Inv w0 own n σ ns a w':=⟨hI.size,hI.defers,hI.env,hI.ewf,hI.bwf,hI.gi,hL,hI.pin⟩
theorem B4q{σ1:S}{g:A0b}{gd:Option (Nat×Bool)}(h:A2r ops σ gd=some (σ1,g)):σ1.bs=σ.bs:=by
  unfold A2r at h
  repeat' (split at h)
  all_goals first | (simp only [Option.some.injEq,Prod.mk.injEq] at h;rw [← h.1]) | (cases h)
theorem B55{dst:Option Tmp}{g:A0b}{e:Option EV}(h:V0 σ n dst g e=some σ2):σ2.bs=σ.bs:=by
  unfold V0 at h;simp only [Bool.cond_eq_ite] at h
  repeat' (split at h)
  all_goals first | (simp only [Option.some.injEq] at h;rw [← h]) | (cases h)
theorem B37(hF:E9 F){l:List Oper}(bs:List (List EV×TypeId))(hbs:σ.bs=bs)(hI:Inv w0 own n σ ns a w)(h:B6b P ops n σ orc o=some (σ2,obs,orc'))(hob:Obs P w0 own obs){K:Act→Prop}
    (next:∀a',σ2.bs=bs→Inv w0 own n σ2 ns a' w→wpQuietIn F m P ops (fun w'=>Loc w0 own ns bs w') K l a'):wpQuietIn F m P ops (fun w'=>Loc w0 own ns bs w') K (o::l) a:=by
  subst hbs;unfold B6b at h;cases hgd:A2r ops σ o.guard with
  | none=>rw [hgd] at h;simp at h
  | some sg =>
    obtain ⟨σ1,g⟩:=sg;rw [hgd] at h;simp only at h;obtain ⟨hI1,hgw,hwant⟩:=A3a hI hgd;have hbs1:=B4q hgd;have hw:Region.wanted o (yielded ops a.tmps)=K0 σ1.gv g:=by
      rw [← hwant];unfold Region.wanted gdB;cases o.guard<;>rfl
    refine ⟨fun w _ f _=>hF.fn f,?_⟩;rw [hw];cases hco:A1e σ1 g o with
    | some fe=>
      obtain ⟨f,es,cs⟩:=fe;rw [hco] at h;simp only at h;unfold B6a at h;split at h
      · rename_i args v orc1 hargs;cases hp:V0 σ1 n o.dst g (some (.v v)) with
        | none=>rw [hp] at h;simp at h
        | some σ3=>
          rw [hp] at h;simp only [Option.some.injEq,Prod.mk.injEq] at h;obtain ⟨rfl,rfl,rfl⟩:=h;have hbs3:=(B55 hp).trans hbs1;cases hb:K0 σ1.gv g with
          | true=>
            obtain ⟨hent,hcall⟩:=hob.1 hb;simp only [if_true];refine ⟨v,fun w' hL=>?_,next _ hbs3 (R8 hI1 hgw hp (fun x hx=>by simp only [Option.some.injEq] at hx;subst hx;rw [hb];rfl))⟩;have hI':=hI1.on (w':=w') (by rw [hbs1];exact hL);obtain ⟨hnd,hrun⟩:=A24 hI' hb hco hent;unfold Oper.quietAtIn;rw [hrun];refine ⟨rfl,fun hd=>by rw [hF.depth] at hd;simp at hd,?_⟩;rw [A3w hargs];exact (hF.calls (hcall w' hL.base)).mono fun e w2 ⟨he,hbl⟩=>⟨he,hL.below hbl⟩
          | false=>
            simp only [Bool.false_eq_true,if_false];exact next _ hbs3 (R8 hI1 hgw hp (fun x hx=>by rw [hb];rfl))
      · simp at h
    | none =>
      rw [hco] at h;simp only at h;split at h
      · rename_i e obs1 orc1 he;cases hp:V0 σ1 n o.dst g (some e) with
        | none=>rw [hp] at h;simp at h
        | some σ3=>
          rw [hp] at h;simp only [Option.some.injEq,Prod.mk.injEq] at h;obtain ⟨rfl,rfl,rfl⟩:=h;have hbs3:=(B55 hp).trans hbs1;cases hb:K0 σ1.gv g with
          | true=>
            simp only [if_true];refine ⟨e.den ns,fun w' hL=>?_,next _ hbs3 (R8 hI1 hgw hp (fun x hx=>by simp only [Option.some.injEq] at hx;subst hx;rw [hb];rfl))⟩;have hI':=hI1.on (w':=w') (by rw [hbs1];exact hL);unfold Oper.quietAtIn;rw [A9t hI' hb he hob];exact ⟨rfl,rfl⟩
          | false=>
            simp only [Bool.false_eq_true,if_false];exact next _ hbs3 (R8 hI1 hgw hp (fun x hx=>by rw [hb];rfl))
      · simp at h
theorem B2t(hF:E9 F)(bs:List (List EV×TypeId)){K:Act→Prop}:∀(l:List Oper) (σ σ2:S) (orc orc':List (List Value)) (obs:List Ob) (a:Act),σ.bs=bs→Inv w0 own n σ ns a w→
    A8n P ops n l σ orc=some (σ2,obs,orc')→Obs P w0 own obs→(∀a',σ2.bs=bs→Inv w0 own n σ2 ns a' w→K a')→wpQuietIn F m P ops (fun w'=>Loc w0 own ns bs w') K l a:=by
  intro l
  induction l with
  | nil=>
    intro σ σ2 orc orc' obs a hbs hI h hob hK;simp only [A8n,Option.some.injEq,Prod.mk.injEq] at h;obtain ⟨rfl,rfl,rfl⟩:=h;exact hK a hbs hI
  | cons o l ih=>
    intro σ σ2 orc orc' obs a hbs hI h hob hK;simp only [A8n] at h;cases h1:B6b P ops n σ orc o with
    | none=>rw [h1] at h;simp at h
    | some r=>
      obtain ⟨σ1,obs1,orc1⟩:=r;rw [h1] at h;simp only at h;cases h2:A8n P ops n l σ1 orc1 with
      | none=>rw [h2] at h;simp at h
      | some r2=>
        obtain ⟨σ3,obs3,orc3⟩:=r2;rw [h2] at h;simp only [Option.some.injEq,Prod.mk.injEq] at h;obtain ⟨rfl,rfl,rfl⟩:=h;rw [A2g] at hob;exact B37 hF bs hbs hI h1 hob.1 (fun a' hb' hI'=>ih σ1 σ3 orc1 orc3 obs3 a' hb' hI' h2 hob.2 hK)
theorem drawn_{id:Nat}{l:List Oper}{live:List Nat}(hF:E9 F)(hI:St w0 own n σ ns a w)(σ2:S)(obs:List Ob)(hm:P.follows .mixedOrders=true)(hB:Region.lexB .any l.toArray=true)
    (h:B2o P l n live σ orc=some (σ2,obs)) (hob:Obs P w0 own obs) (K:∀a' w',St w0 own n σ2 ns a' w'→Q .normal a' w'):(Code.region id l.toArray true).wpIn F m P Q a w:=by
  unfold B2o at h;split at h
  · rename_i σ1 obs1 hs;cases hf:Eng.fin live σ1 with
    | none=>rw [hf] at h;simp at h
    | some σ3=>
      rw [hf] at h;simp only [Option.some.injEq,Prod.mk.injEq] at h;obtain ⟨rfl,rfl⟩:=h;have hd:Loc w0 own ns σ.bs {w with drawn:=w.drawn+1}:=hI.loc.below ⟨rfl,rfl,rfl,Nat.le_refl _,fun _ _=>rfl⟩;refine B2m (C:=fun w'=>Loc w0 own ns σ.bs w') hm hB hd ?_;exact B2t hF σ.bs l σ σ1 orc [] obs1 a rfl hI hs hob (fun a' hb hI' w' hL=>K a' w' ((hI'.on (by rw [hb];exact hL)).fin hf))
  · cases h
end
theorem O6{P:Program}{f:FuncId}{fn:Func}{c:Code}(hf:P.funcs[f]? =some fn)(hname:(fn.name== "runtime.NumGoroutine")=false)(hb:fn.body=some c)(args:Array Value)(w:World):
    (callFunc f args).run P w=.ok (.enter f args) w:=by
  unfold callFunc;simp only [Sem.run_bind];have:(program).run P w=.ok P w:=rfl;rw [this];simp only [Result.andThen_ok,hf,hname,hb];rfl
structure Opn (P:Program) (t:TypeId) {α:Type} (d:Kd α) (wf:α→Prop):Prop where
  size:P.cellsOf t=d.sz
  opn:∀ {H:Type} {enc:TypeId×Value→H} {w:World} {spare:Nat→Bool} {held:Bool} {fuel:Nat} {cs:List Value} {x:DataW H×List MemPlace},
    DataW.trod enc P w 0 spare held fuel t cs=some x→∃v sv,cs=d.cells v sv∧d.cont (fun _=>True) w v sv∧wf v
section
variable {P:Program} {t:TypeId}
def InK(k:IntKind)(n:Int):Prop:=(Lit.int k n).wf=true
theorem Opn.int{k:IntKind}(ht:P.underlying t=some (.int k))(hs:P.cellsOf t=1):Opn P t (Kd.int k) (InK k):=
  ⟨hs,fun h=>let ⟨n,h1,_,h3⟩:=DataW.trod_intV ht h;⟨n,fun _=>(none,0),h1,trivial,h3⟩⟩
where DataW.trod_intV {H:Type} {enc:TypeId×Value→H} {w:World} {spare:Nat→Bool} {held:Bool} {fuel:Nat} {cs:List Value} {x:DataW H×List MemPlace} {k:IntKind} (ht:P.underlying t=some (.int k)) (h:DataW.trod enc P w 0 spare held fuel t cs=some x):
    ∃n,cs=[.int k n]∧x=(.lit (.int k n),[])∧(Lit.int k n).wf=true:=DataW.trod_int ht h
theorem Opn.bool(ht:P.underlying t=some .bool)(hs:P.cellsOf t=1):Opn P t Kd.bool (fun _=>True):=
  ⟨hs,fun h=>let ⟨n,h1,_⟩:=DataW.trod_bool ht h;⟨n,fun _=>(none,0),h1,trivial,trivial⟩⟩
theorem B21{α:Type}{n:Nat}{R:Nat→α→Prop}(h:∀i,i<n→∃v,R i v):∃xs:List α,xs.length=n∧∀i x,xs[i]? =some x→R i x:=by
  induction n with
  | zero=>exact ⟨[],rfl,fun i x hx=>by simp at hx⟩
  | succ n ih=>
    obtain ⟨xs,hl,hx⟩:=ih (fun i hi=>h i (by omega));obtain ⟨v,hv⟩:=h n (by omega);refine ⟨xs++[v],by simp [hl],fun i x hix=>?_⟩;rcases Nat.lt_or_ge i xs.length with hlt | hge
    · rw [List.getElem?_append_left hlt] at hix;exact hx i x hix
    · have hle:=(List.getElem?_eq_some_iff.1 hix).1;simp only [List.length_append,List.length_singleton] at hle;have:i=xs.length:=by omega
      subst this;rw [List.getElem?_append_right (Nat.le_refl _)] at hix;simp only [Nat.sub_self,List.getElem?_cons_zero,Option.some.injEq] at hix;subst hix;rw [hl];exact hv
theorem Opn.slice{e:TypeId}{α:Type}{d:Kd α}{wf:α→Prop}(o:Opn P e d wf)(ht:P.underlying t=some (.slice e))(hs:P.cellsOf t=1):Opn P t (Kd.slice d) (fun xs=>xs.length≤maxLen∧∀x∈xs,wf x):=by
  refine ⟨hs,fun {H enc w spare held fuel cs x} h=>?_⟩;rcases DataW.trod_slice ht h with ⟨rfl,_⟩ | ⟨a,len,cap,elems,rest,n,_,rfl,_,_,hlc,hcm,hel,hE,_⟩
  · exact ⟨[],fun _=>(none,0),rfl,⟨⟨fun h=>by simp at h,fun i x hi=>by simp at hi⟩,Nat.le_refl _⟩,Nat.zero_le _,fun x hx=>by simp at hx⟩
  · have h1:∀i,i<len→∃v,∃sv,d.cont (fun _=>True) w v sv∧(∀(j:Nat) (u:Value),(d.cells v sv)[j]? =some u→w.cell? (a.add (i*d.sz+j))=some u)∧wf v:=by
      intro i hi;have hx:=hE i hi;rw [List.getElem?_eq_getElem (by omega),Option.bind_eq_some_iff] at hx;obtain ⟨cs,hcs,hd⟩:=hx;obtain ⟨_,hcl,hcell⟩:=World.cells?_some hcs;obtain ⟨v,sv,hc,hcont,hw⟩:=o.opn hd;refine ⟨v,sv,hcont,fun j u hj=>?_,hw⟩;rw [← A29,← o.size];rw [← hc] at hj;rw [hcell j (by rw [← hcl];exact (List.getElem?_eq_some_iff.1 hj).1),hj]
    obtain ⟨xs,hl,hx⟩:=B21 h1;refine ⟨xs,fun _=>(some a,cap),by simp only [Kd.slice,hl],⟨⟨fun _=>⟨rfl,trivial⟩,fun i x hi=>?_⟩,by rw [hl];exact hlc⟩,by omega,fun x hm=>?_⟩
    · obtain ⟨sv,q1,q2,_⟩:=hx i x hi;exact ⟨sv,q1,q2⟩
    · obtain ⟨i,hi⟩:=List.getElem?_of_mem hm;obtain ⟨sv,_,_,q3⟩:=hx i x hi;exact q3
def A99(cs:List Value):Nat→List Nat→List Value
  | _,[]=>[]
  | off,s::l=>(cs.drop off).take s++A99 cs (off+s) l
theorem A82(cs:List Value):∀(l:List Nat) (off:Nat),cs.length=off+l.sum→cs.drop off=A99 cs off l
  | [],off,h=>by simp [A99] at *; omega
  | s::l,off,h=>by
    rw [A99,← A82 cs l (off+s) (by simp at h;omega),← List.drop_drop,List.take_append_drop]
theorem Y3{cs:List Value}(l:List Nat){n:Nat}(h:cs.length=n)(hl:Nat.beq n l.sum=true):cs=A99 cs 0 l:=by
  have:=A82 cs l 0 (by rw [h,Nat.eq_of_beq_eq_true hl];simp)
  simpa using this
theorem V9{a b a' b':List Value}(h:a=a')(k:b=b'):a++b=a'++b':=by rw [h,k]
theorem E8{H:Type}{enc:TypeId×Value→H}{w:World}{spare:Nat→Bool}{held:Bool}{fuel:Nat}{cs:List Value}{xs:List (DataW H×List MemPlace)}{fs:Array Field}
    (h:∀(i:Nat) (f:Field),fs[i]? =some f→DataW.trod enc P w 0 spare held fuel f.type ((cs.drop f.offset).take (P.cellsOf f.type))=xs[i]?) (hl:xs.length=fs.size) (i:Nat) (f:Field) (hf:fs[i]? =some f)
    {α:Type} {d:Kd α} {wf:α→Prop} (o:Opn P f.type d wf):∃v sv,(cs.drop f.offset).take d.sz=d.cells v sv∧d.cont (fun _=>True) w v sv∧wf v:=by
  have hi:i<xs.length:=by rw [hl];exact (Array.getElem?_eq_some_iff.1 hf).1
  have:=h i f hf;rw [List.getElem?_eq_getElem hi] at this;rw [← o.size];exact o.opn this
theorem B3p{H:Type}{enc:TypeId×Value→H}{w:World}{spare:Nat→Bool}{held:Bool}{fuel n:Nat}{cs:List Value}{xs:List (DataW H×List MemPlace)}{e:TypeId}
    (h:∀(i:Nat),i<n→DataW.trod enc P w 0 spare held fuel e ((cs.drop (i*P.cellsOf e)).take (P.cellsOf e))=xs[i]?) (hl:xs.length=n) (i:Nat) (hi:i<n)
    {α:Type} {d:Kd α} {wf:α→Prop} (o:Opn P e d wf):∃v sv,(cs.drop (i*d.sz)).take d.sz=d.cells v sv∧d.cont (fun _=>True) w v sv∧wf v:=by
  have:=h i hi;rw [List.getElem?_eq_getElem (by omega)] at this;rw [← o.size];exact o.opn this
theorem Opn.arg{α:Type}{d:Kd α}{wf:α→Prop}(o:Opn P t d wf){H:Type}{enc:TypeId×Value→H}{w:World}{spare:Nat→Bool}{held:Bool}{v:Value}{dd:DataW H}{ps:List MemPlace}
    (h:DataW.Trod enc P w 0 spare held t v dd ps):∃x sv,v.cells.toList=d.cells x sv∧d.cont (fun _=>True) w x sv∧wf x:=by
  obtain ⟨fuel,hf⟩:=h;exact o.opn hf
theorem B8z{v:Value}{cs:List Value}(h:∃c,v=.agg c)(hc:v.cells.toList=cs):v=.agg cs.toArray:=by
  obtain ⟨c,rfl⟩:=h;subst hc;simp [Value.cells]
theorem B64{v:Value}{cs:List Value}{n:Nat}(h:∃c,v=.agg c∧c.size=n)(hc:v.cells.toList=cs):v=.agg cs.toArray:=B8z (let ⟨c,h,_⟩:=h;⟨c,h⟩) hc
end
theorem w64{x:Int}(h1: -9223372036854775808≤x)(h2:x≤9223372036854775807):IntKind.i64.wrap x=x:=by
  simp [IntKind.wrap,IntKind.signed,IntKind.bits];omega
theorem InK.u8{x:Int}(h:InK .u8 x):0≤x∧x≤255:=by
  simp [InK,Lit.wf,IntKind.min,IntKind.max,IntKind.signed,IntKind.bits] at h;omega
theorem InK.i64{x:Int}(h:InK .i64 x): -9223372036854775808≤x∧x≤9223372036854775807:=by
  simp [InK,Lit.wf,IntKind.min,IntKind.max,IntKind.signed,IntKind.bits] at h;omega
theorem InK.u64{x:Int}(h:InK .u64 x):0≤x∧x≤18446744073709551615:=by
  simp [InK,Lit.wf,IntKind.min,IntKind.max,IntKind.signed,IntKind.bits] at h;omega
theorem A1v{i:Int}{n:Nat}(h:0≤i)(h':i<n):inb i n=true:=by simp [inb,h,h']
@[simp] theorem D7{α:Type}(k:Option α):req true k=k:=rfl
@[simp] theorem A4m{α:Type}(x:Option α)(d:α):cal true x d=x:=rfl
@[simp] theorem A7m{α:Type}(x:Option α)(d:α):cal false x d=some d:=rfl
theorem A0y{α:Type}[Inhabited α]{xs:List α}{i:Int}(h:0≤i)(h':i<xs.length):rd xs i∈xs:=by
  have:i.toNat<xs.length:=by omega
  simp [rd,List.getD_eq_getElem?_getD,List.getElem?_eq_getElem this]
end Go.Eng
