/- Own engine: walks of whole regions by evaluation in the kernel. No statement of the seat is proved here. Conditions: none. -/
import Derived.Test.YtpdflibmhchlbaaGreatDoorEngA
set_option linter.unusedVariables false
set_option linter.unusedSimpArgs false
namespace Go.Eng
open Go Go.RowKit
def Lo(S0:Nat→Prop)(w00 w:World)(own:List Nat)(mine:List (List Nat)):Nat→Prop:=fun b=>b<w.heap.size∧b∉own∧b∉mine.flatten∧(w00.heap.size≤b∨S0 b)
abbrev Mv(S:Nat→Prop)(w:World)(S':Nat→Prop)(w':World):Prop:=∀b,S b→IsC w b→S' b∧w'.heap[b]? =w.heap[b]?
def rb:Option Addr→List Nat
  | some a=>[a.block]
  | none=>[]
structure Ep (pm:List Nat) (w00 w:World) (own:List Nat) (mine:List (List Nat)):Prop where
  k:H3 pm w00 w
  ow:∀b∈own,w00.heap.size≤b∧b<w.heap.size
  mi:∀b∈mine.flatten,(w00.heap.size≤b∨b∈pm)∧b<w.heap.size∧b∉own
  dis:mine.flatten.Nodup
theorem Ep.start(w:World):Ep [] w w [] []:=⟨H3.refl _ _,fun b hb=>by simp at hb,fun b hb=>by simp at hb,by simp⟩
theorem Ep.startM(w:World)(mine:List (List Nat))(hd:mine.flatten.Nodup)(hl:∀b∈mine.flatten,b<w.heap.size):Ep mine.flatten w w [] mine:=
  ⟨H3.refl _ _,fun b hb=>by simp at hb,fun b hb=>⟨.inr hb,hl b hb,by simp⟩,hd⟩
theorem Arr.lo{α:Type}{d:Kd α}{S:Nat→Prop}{w:World}{A:Option Addr}{xs:List α}(h:Arr d S w A xs):Arr d (Lo S w w [] []) w A xs:=h.keep fun b hS hb=>⟨⟨hb.1,by simp,by simp,.inr hS⟩,rfl⟩
theorem Kd.lo{α:Type}(d:Kd α){S:Nat→Prop}{w:World}{x:α}{sv:SV}(h:d.cont S w x sv):d.cont (Lo S w w [] []) w x sv:=d.keep h fun b hS hb=>⟨⟨hb.1,by simp,by simp,.inr hS⟩,rfl⟩
theorem Arr.any{α:Type}{d:Kd α}{S:Nat→Prop}{w:World}{A:Option Addr}{xs:List α}(h:Arr d S w A xs):Arr d (fun _=>True) w A xs:=h.keep fun b hS hb=>⟨trivial,rfl⟩
theorem Kd.any{α:Type}(d:Kd α){S:Nat→Prop}{w:World}{x:α}{sv:SV}(h:d.cont S w x sv):d.cont (fun _=>True) w x sv:=d.keep h fun b hS hb=>⟨trivial,rfl⟩
section
variable {S0:Nat→Prop} {P:Program} {pm:List Nat} {w00 w0 w w1:World} {own:List Nat} {mine mine':List (List Nat)} {n:Nat} {σ σ2:S} {ns:List Nat} {a:Act} {row:List Nat}
theorem Lo.on(hk:H3 own w0 w):Mv (Lo S0 w00 w0 own mine) w0 (Lo S0 w00 w0 own mine) w:=fun b hb hlt=>⟨hb,hk.block b hlt.1 hb.2.1⟩
theorem H3.comp(h:H3 pm w0 w)(k:H3 own w w1)(ho:∀b∈own,w0.heap.size≤b∨b∈pm):H3 pm w0 w1:=
  ⟨k.os.trans h.os,k.tape.trans h.tape,k.output.trans h.output,Nat.le_trans h.size k.size,fun b hb hn=>(k.block b (Nat.lt_of_lt_of_le hb h.size) (fun hh=>by
    rcases ho b hh with h1 | h1
    · omega
    · exact hn h1)).trans (h.block b hb hn)⟩
theorem H3.of_grownBy{r:Option Nat}(h:w.grownBy w1 r):H3 r.toList w w1:=
  ⟨h.os,h.tape,h.output,h.size,fun k hk hn=>h.block k hk (fun he=>hn (by simp [← he]))⟩
theorem Ep.keeps(hE:Ep pm w00 w0 own mine)(hI:Inv w0 own n σ ns a w):H3 pm w00 w:=hE.k.comp hI.loc.base fun b hb=>.inl (hE.ow b hb).1
theorem Ep.below(hE:Ep [] w00 w0 own mine)(hI:Inv w0 own n σ ns a w):Below w00.heap.size w00 w:=(hE.keeps hI).below
theorem A1m.rebase{b:Nat}{ds:List Deferred}{bs:List (List EV×TypeId)}(h:A1m b w0 own ds)(hL:Loc w0 own ns bs w):A1m b w ns ds:=by
  refine ⟨fun d hd=>?_,h.2⟩;obtain ⟨D,h1,h2,h3,h4⟩:=h.1 d hd;have hlt:=(Array.getElem?_eq_some_iff.1 h4).1;refine ⟨D,h1,h2,fun hh=>?_,(hL.base.block D hlt h3).trans h4⟩;rcases hL.ge D hh with g | g
  · exact h3 g
  · omega
theorem A1m.grown{b:Nat}{ds:List Deferred}(h:A1m b w own ds)(hg:H3 row w w1)(hro:∀b∈row,∀q,w.heap[b]? ≠some (.deferred q)):A1m b w1 own ds:=by
  refine ⟨fun d hd=>?_,h.2⟩;obtain ⟨D,h1,h2,h3,h4⟩:=h.1 d hd;have hlt:=(Array.getElem?_eq_some_iff.1 h4).1;exact ⟨D,h1,h2,h3,(hg.block D hlt (fun e=>hro D e _ h4)).trans h4⟩
theorem A1m.sub{b:Nat}{ds:List Deferred}{own':List Nat}(h:A1m b w own ds)(hs:∀b,b∈own'→b∈own):A1m b w own' ds:=
  ⟨fun d hd=>let ⟨D,h1,h2,h3,h4⟩:=h.1 d hd;⟨D,h1,h2,fun hh=>h3 (hs D hh),h4⟩,h.2⟩
theorem A4k.to{lo:Option (Nat×Option (List Deferred))}{w0 w:World}{own own':List Nat}{ds:List Deferred}(h:A4k lo w0 own ds)(hh:∀b ds,A1m b w0 own ds→A1m b w own' ds):A4k lo w own' ds:=by
  cases lo with
  | none=>exact h
  | some p=>
    obtain ⟨b,q⟩:=p;cases q with
    | none=>exact hh _ _ h
    | some ds=>exact ⟨h.1,hh _ _ h.2⟩
theorem A4k.rebase{lo:Option (Nat×Option (List Deferred))}{ds:List Deferred}{bs:List (List EV×TypeId)}(h:A4k lo w0 own ds)(hL:Loc w0 own ns bs w):A4k lo w ns ds:=h.to fun _ _ h=>h.rebase hL
theorem A4k.grown{lo:Option (Nat×Option (List Deferred))}{ds:List Deferred}(h:A4k lo w own ds)(hg:H3 row w w1)(hro:lo=none∨∀b∈row,∀q,w.heap[b]? ≠some (.deferred q)):A4k lo w1 own ds:=by
  rcases hro with rfl | hro
  · exact h
  · exact h.to fun _ _ h=>h.grown hg hro
theorem A4k.sub{lo:Option (Nat×Option (List Deferred))}{ds:List Deferred}{own':List Nat}(h:A4k lo w own ds)(hs:∀b,b∈own'→b∈own):A4k lo w own' ds:=h.to fun _ _ h=>h.sub hs
theorem Inv.rebase(hI:Inv w0 own n σ ns a w):Inv w ns n σ ns a w:=
  ⟨hI.size,hI.defers.rebase hI.loc,hI.env,hI.ewf,hI.bwf,hI.gi,⟨hI.loc.len,hI.loc.nodup,H3.refl _ _,fun b hb=>.inl hb,hI.loc.blk⟩,hI.pin⟩
theorem Ep.rebase(hE:Ep pm w00 w0 own mine)(hI:Inv w0 own n σ ns a w):Ep pm w00 w ns mine∧(∀S0,Mv (Lo S0 w00 w0 own mine) w0 (Lo S0 w00 w ns mine) w)∧(∀b∈mine.flatten,w.heap[b]? =w0.heap[b]?):=by
  have hn:∀b,b<w0.heap.size→b∉own→b∉ns:=fun b h1 h2 h3=>by
    rcases hI.loc.ge b h3 with h | h
    · exact h2 h
    · omega
  refine ⟨⟨hE.keeps hI,fun b hb=>⟨?_,hI.loc.lt hb⟩,fun b hb=>?_,hE.dis⟩,fun S0 b hb hlt=>⟨⟨Nat.lt_of_lt_of_le hlt.1 hI.loc.base.size,hn b hlt.1 hb.2.1,hb.2.2⟩,hI.loc.base.block b hlt.1 hb.2.1⟩,fun b hb=>?_⟩
  · rcases hI.loc.ge b hb with h | h
    · exact (hE.ow b h).1
    · exact Nat.le_trans hE.k.size h
  · obtain ⟨h1,h2,h3⟩:=hE.mi b hb;exact ⟨h1,Nat.lt_of_lt_of_le h2 hI.loc.base.size,hn b h2 h3⟩
  · obtain ⟨h1,h2,h3⟩:=hE.mi b hb;exact hI.loc.base.block b h2 h3
theorem Ep.step(hE:Ep pm w00 w ns mine)(hI:Inv w ns n σ ns a w)(hg:H3 row w w1)(hrow:∀b∈row,b∈mine.flatten)(hm:∀b∈mine'.flatten,b∈mine.flatten∨(w.heap.size≤b∧b<w1.heap.size))
    (hd:mine'.flatten.Nodup) (hro:σ.lo=none∨∀b∈row,∀q,w.heap[b]? ≠some (.deferred q)):Ep pm w00 w1 ns mine'∧Inv w1 ns n σ ns a w1∧(∀S0,Mv (Lo S0 w00 w ns mine) w (Lo S0 w00 w1 ns mine') w1)∧(∀b∈mine.flatten,b∉row→w1.heap[b]? =w.heap[b]?):=by
  have hns:∀b∈ns,b∉row:=fun b hb he=>(hE.mi b (hrow b he)).2.2 hb;refine ⟨⟨hE.k.comp hg fun b hb=>(hE.mi b (hrow b hb)).1,
    fun b hb=>⟨(hE.ow b hb).1,Nat.lt_of_lt_of_le (hE.ow b hb).2 hg.size⟩,fun b hb=>?_,hd⟩,
    ⟨hI.size,hI.defers.grown hg hro,hI.env,hI.ewf,hI.bwf,hI.gi,⟨hI.loc.len,hI.loc.nodup,H3.refl _ _,fun b hb=>.inl hb,fun k cs T hk=>?_⟩,hI.pin⟩,
    fun S0 b hb hlt=>⟨⟨Nat.lt_of_lt_of_le hlt.1 hg.size,hb.2.1,fun hh=>?_,hb.2.2.2⟩,hg.block b hlt.1 (fun he=>hb.2.2.1 (hrow b he))⟩,fun b hb he=>hg.block b (hE.mi b hb).2.1 he⟩
  · rcases hm b hb with h | ⟨h1,h2⟩
    · obtain ⟨g1,g2,g3⟩:=hE.mi b h;exact ⟨g1,Nat.lt_of_lt_of_le g2 hg.size,g3⟩
    · exact ⟨.inl (Nat.le_trans hE.k.size h1),h2,fun hh=>by have:=hI.loc.lt hh;omega⟩
  · have hmem:=hI.loc.mem (List.getElem?_eq_some_iff.1 hk).1;rw [hg.block _ (hI.loc.lt hmem) (hns _ hmem)];exact hI.loc.blk k cs T hk
  · rcases hm b hh with h | ⟨h1,_⟩
    · exact hb.2.2.1 h
    · have:=hlt.1;omega
theorem A6v(h:Below w.heap.size w w1):w.grownBy w1 none:=⟨h.os,h.tape,h.output,h.size,fun k hk _=>h.block k hk⟩
theorem H3.of_below'(h:Below w.heap.size w w1):H3 [] w w1:=⟨h.os,h.tape,h.output,h.size,fun k hk _=>h.block k hk⟩
end
structure El {α:Type} (d:Kd α) (S:Nat→Prop) (w:World) (B:Addr) (x:α) (sv:SV):Prop where
  cont:d.cont S w x sv
  at_:S B.block
  cells:∀(j:Nat) (v:Value),(d.cells x sv)[j]? =some v→w.cell? (B.add j)=some v
theorem El.keep{α:Type}{d:Kd α}{S S':Nat→Prop}{w w':World}{B:Addr}{x:α}{sv:SV}(h:El d S w B x sv)(hk:Mv S w S' w'):El d S' w' B x sv:=by
  have hl:IsC w B.block:=by
    have hj:0<(d.cells x sv).length:=by rw [d.len];exact d.pos
    have:=A81 (h.cells 0 _ (List.getElem?_eq_getElem hj))
    rwa [S3] at this
  refine ⟨d.keep h.cont hk,(hk _ h.at_ hl).1,fun j v hj=>?_⟩;rw [World.cell?_of_block (w:=w) (by rw [S3];exact (hk _ h.at_ hl).2)];exact h.cells j v hj
theorem El.part{α β:Type}{d:Kd α}{e:Kd β}{S:Nat→Prop}{w:World}{B:Addr}{x:α}{sv:SV}(h:El d S w B x sv)(off:Nat)(y:β)(sv':SV)(hc:e.cont S w y sv')(hs:((d.cells x sv).drop off).take e.sz=e.cells y sv'):El e S w (B.add off) y sv':=by
  refine ⟨hc,by rw [S3];exact h.at_,fun j v hj=>?_⟩;rw [A29];refine h.cells _ _ ?_;rw [← hs,List.getElem?_take] at hj;split at hj
  · rwa [List.getElem?_drop] at hj
  · cases hj
theorem Arr.el{α:Type}[Inhabited α]{d:Kd α}{S:Nat→Prop}{w:World}{A:Option Addr}{xs:List α}(h:Arr d S w A xs)(i:Int)(g:Bool)(hb:g=true→inb i xs.length=true):
    ∃sv,(g=true→El d S w ((adr A).add (i.toNat*d.sz)) (rd xs i) sv)∧(g=true→A=some (adr A)):=by
  obtain ⟨sv,h1,h2,h3⟩:=h.get i g hb;refine ⟨sv,fun hg=>⟨h1 hg,?_,h3 hg⟩,h2⟩;rw [S3];obtain ⟨i0,i1⟩:=A0q (hb hg);exact (h.1 (by omega)).2
theorem Y7{P:Program}{S0:Nat→Prop}{w00:World}{α:Type}{d:Kd α}{w:World}{own:List Nat}{mine:List (List Nat)}{B:Addr}{x:α}{sv:SV}{g:Bool}(hE:g=true→El d (Lo S0 w00 w own mine) w B x sv)(off:Nat)(vs:List Value)
    (hs:((d.cells x sv).drop off).take vs.length=vs):(Ob.cell g (B.add off) vs).holds P w own:=by
  intro hg;have h:=hE hg;refine ⟨by rw [S3];exact h.at_.2.1,fun j y hj=>?_⟩;rw [A29];refine h.cells _ _ ?_;rw [← hs,List.getElem?_take] at hj;split at hj
  · rwa [List.getElem?_drop] at hj
  · cases hj
structure Row {α:Type} (d:Kd α) (e:TypeId) (S:Nat→Prop) (w:World) (base:Nat) (A:Option Addr) (c:Nat) (l:List α):Prop where
  own:∃xs,w.ownsRow base e d.sz (.slice A l.length c) l.length xs∧∀i x,l[i]? =some x→∃sv,d.cont S w x sv∧∀(j:Nat) (u:Value),(d.cells x sv)[j]? =some u→xs[i*d.sz+j]? =some u
section
variable {α:Type} {d:Kd α} {e:TypeId} {S S':Nat→Prop} {w w':World} {base:Nat} {A:Option Addr} {c:Nat} {l:List α}
theorem Row.nil:Row d e S w base none 0 ([]:List α):=⟨[],World.ownsRow_nil _ _ _ _,fun i x h=>by simp at h⟩
theorem Row.keep(h:Row d e S w base A c l)(hk:Mv S w S' w')(hb:∀b∈rb A,w'.heap[b]? =w.heap[b]?):Row d e S' w' base A c l:=by
  obtain ⟨xs,⟨h1,h2⟩,h3⟩:=h;refine ⟨xs,⟨h1,?_⟩,fun i x hi=>let ⟨sv,q1,q2⟩:=h3 i x hi;⟨sv,d.keep q1 hk,q2⟩⟩;rcases h2 with h2 | ⟨g,cap,cur,hv,h4,h5,h6⟩
  · exact .inl h2
  · refine .inr ⟨g,cap,cur,hv,h4,?_,h6⟩;simp only [Value.slice.injEq] at hv;rw [hb g (by rw [hv.1];simp [rb])];exact h5
theorem Row.blk(h:Row d e S w base A c l){b:Nat}(hb:b∈rb A):∃cs T f,w.heap[b]? =some (.cells cs T f):=by
  obtain ⟨xs,⟨h1,h2⟩,h3⟩:=h;rcases h2 with ⟨hv,_⟩ | ⟨g,cap,cur,hv,h4,h5,h6⟩
  · cases A<;>simp_all [rb]
  · simp only [Value.slice.injEq] at hv;obtain ⟨rfl,_,_⟩:=hv;simp only [rb,List.mem_singleton] at hb;subst hb;exact ⟨_,_,_,h5⟩
theorem Row.nd(h:Row d e S w base A c l):∀b∈rb A,∀q,w.heap[b]? ≠some (.deferred q):=fun b hb q hq=>by
  obtain ⟨cs,T,f,h1⟩:=h.blk hb;rw [h1] at hq;cases hq
theorem Row.lt(h:Row d e S w base A c l){b:Nat}(hb:b∈rb A):base≤b∧b<w.heap.size:=by
  obtain ⟨xs,h1,_⟩:=h;refine h1.lt b ?_;cases A with
  | none=>simp [rb] at hb
  | some a=>simpa [rb,Value.ownBlock,eq_comm] using hb
theorem Row.arr(h:Row d e S w base A c l)(hS:∀b,S b→S' b)(hA:∀b∈rb A,S' b):Arr d S' w A l∧l.length≤c:=by
  obtain ⟨xs,h1,h3⟩:=h;have hcells:=fun g (hg:(Value.slice A l.length c).ownBlock=some g)=>h1.cells hg;obtain ⟨hlen,h2⟩:=h1;refine ⟨⟨fun hl=>?_,fun i x hi=>?_⟩,?_⟩
  · rcases h2 with ⟨_,h2⟩ | ⟨g,cap,cur,hv,_⟩
    · omega
    · simp only [Value.slice.injEq] at hv;obtain ⟨rfl,_,_⟩:=hv;exact ⟨rfl,hA _ (by simp [rb,adr])⟩
  · obtain ⟨sv,q1,q2⟩:=h3 i x hi;refine ⟨sv,d.keep q1 (fun b hb _=>⟨hS b hb,rfl⟩),fun j v hj=>?_⟩;rcases h2 with ⟨_,h2⟩ | ⟨g,cap,cur,hv,_⟩
    · have:=List.eq_nil_of_length_eq_zero h2;subst this;simp at hi
    · simp only [Value.slice.injEq] at hv;obtain ⟨rfl,_,_⟩:=hv;exact hcells g rfl _ _ (q2 j v hj)
  · rcases h2 with ⟨hv,h2⟩ | ⟨g,cap,cur,hv,_,_,h6,_⟩
    · omega
    · simp only [Value.slice.injEq] at hv;omega
end
theorem B5w:∀(l:List (List Nat)) (i j:Nat) (r r':List Nat),l.flatten.Nodup→i≠j→l[i]? =some r→l[j]? =some r'→∀b,b∈r'→b∉r
  | [],i,j,r,r',_,_,h,_,_,_=>by simp at h
  | x ::l,i,j,r,r',hd,hij,hi,hj,b,hb=>by
    rw [List.flatten_cons,List.nodup_append] at hd;obtain ⟨_,h2,h3⟩:=hd;have mem:∀(k:Nat) (q:List Nat),l[k]? =some q→∀b∈q,b∈l.flatten:=fun k q hk b hb=>List.mem_flatten.2 ⟨q,List.mem_of_getElem? hk,hb⟩;cases i with
    | zero=>
      cases j with
      | zero=>exact absurd rfl hij
      | succ j=>
        simp only [List.getElem?_cons_zero,Option.some.injEq] at hi;subst hi;exact fun hh=>h3 b hh b (mem j r' (by simpa using hj) b hb) rfl
    | succ i=>
      cases j with
      | zero=>
        simp only [List.getElem?_cons_zero,Option.some.injEq] at hj;subst hj;exact fun hh=>h3 b hb b (mem i r (by simpa using hi) b hh) rfl
      | succ j=>exact B5w l i j r r' h2 (by omega) (by simpa using hi) (by simpa using hj) b hb
theorem R6{mine:List (List Nat)}{r:List Nat}(h:r∈mine){b:Nat}(hb:b∈r):b∈mine.flatten:=List.mem_flatten.2 ⟨r,h,hb⟩
section
variable {S0:Nat→Prop} {pm:List Nat} {w00 w0 w w1 w':World} {own ns:List Nat} {mine mine':List (List Nat)} {n:Nat} {σ:S} {a:Act}
theorem Ep.res(hE:Ep pm w00 w ns mine):Mv (fun b=>w.heap.size≤b∨Lo S0 w00 w ns mine b) w' (Lo S0 w00 w' ns mine) w':=by
  intro b hb hlt;refine ⟨?_,rfl⟩;rcases hb with hb | hb
  · exact ⟨hlt.1,fun hh=>by have:=(hE.ow b hh).2;omega,fun hh=>by have:=(hE.mi b hh).2.1;omega,.inl (Nat.le_trans hE.k.size hb)⟩
  · exact ⟨hlt.1,hb.2⟩
theorem Ep.out(hE:Ep pm w00 w0 own mine)(hI:Inv w0 own n σ ns a w):Mv (Lo S0 w00 w0 own mine) w0 (fun b=>w00.heap.size≤b∨S0 b) w:=fun b hb hlt=>⟨hb.2.2.2,hI.loc.base.block b hlt.1 hb.2.1⟩
theorem A2p{l1 l2:List (List Nat)}(h:l1.Sublist l2):l1.flatten.Sublist l2.flatten:=by
  induction h with
  | slnil=>exact List.Sublist.refl _
  | cons x _ ih=>rw [List.flatten_cons];exact ih.trans (List.sublist_append_right _ _)
  | cons_cons x _ ih=>rw [List.flatten_cons,List.flatten_cons];exact List.Sublist.append_left ih _
theorem Ep.sub(hE:Ep pm w00 w ns mine)(hs:mine'.Sublist mine):Ep pm w00 w ns mine'∧∀S0,Mv (Lo S0 w00 w ns mine) w (Lo S0 w00 w ns mine') w:=
  ⟨⟨hE.k,hE.ow,fun b hb=>hE.mi b ((A2p hs).subset hb),hE.dis.sublist (A2p hs)⟩,fun S0 b hb _=>⟨⟨hb.1,hb.2.1,fun hh=>hb.2.2.1 ((A2p hs).subset hh),hb.2.2.2⟩,rfl⟩⟩
theorem Row.on{α:Type}{d:Kd α}{e:TypeId}{base:Nat}{A:Option Addr}{c:Nat}{l:List α}(h:Row d e (Lo S0 w00 w0 own mine) w0 base A c l)(hE:Ep pm w00 w0 own mine)(hm:rb A∈mine)(hk:H3 own w0 w):
    Row d e (Lo S0 w00 w0 own mine) w base A c l:=h.keep (Lo.on hk) fun b hb=>hk.block b (hE.mi b (R6 hm hb)).2.1 (hE.mi b (R6 hm hb)).2.2
theorem Row.done{α:Type}{d:Kd α}{e:TypeId}{base:Nat}{A:Option Addr}{c:Nat}{l:List α}(h:Row d e (Lo S0 w00 w ns mine) w base A c l)(hE:Ep pm w00 w ns mine)(hbase:w00.heap.size≤base)(hm:rb A∈mine)(hs:mine'.Sublist mine)(hn:∀b∈rb A,b∉mine'.flatten):
    Arr d (Lo S0 w00 w ns mine') w A l∧l.length≤c:=by
  refine h.arr (fun b hb=>⟨hb.1,hb.2.1,fun hh=>hb.2.2.1 ((A2p hs).subset hh),hb.2.2.2⟩) (fun b hb=>?_);have:=R6 hm hb;exact ⟨(hE.mi b this).2.1,(hE.mi b this).2.2,hn b hb,.inl (Nat.le_trans hbase (h.lt hb).1)⟩
end
section
variable {F:Fence} {m:Nat} {P:Program} {w00 w0 w w1:World} {own:List Nat} {n:Nat} {σ σ1 σ2:S} {ns:List Nat} {a:Act} {o:Oper} {orc orc':List (List Value)} {obs:List Ob} {ops:Array Oper}
  {Q:Exit→Act→World→Prop} {rest:List Oper} {g:A0b}
theorem B1l(hI:Inv w0 own n σ ns a w)(h:A2r ops σ o.guard=some (σ1,g)):Region.wanted o (yielded ops a.tmps)=K0 σ1.gv g:=by
  rw [← (A3a hI h).2.2];unfold Region.wanted gdB;cases o.guard<;>rfl
theorem C2(h:o.guard=none):Region.wanted o (yielded ops a.tmps)=true:=by unfold Region.wanted;rw [h]
theorem A1r(hF:E9 F)(hw:Region.wanted o (yielded ops a.tmps)=true)(hnd:∀c,o.op≠ .defer c){v:Value}(hrun:(execOp a.eval o).run P w=.ok (.value v) w1)
    (K:wpListIn F m P ops Q rest (a.put o.dst v) w1):wpListIn F m P ops Q (o::rest) a w:=by
  unfold wpListIn;rw [hw,if_pos rfl];refine ⟨fun f _=>hF.fn f,?_⟩;rw [Oper.semAt_plain F _ _ hnd,hrun];exact K
theorem A2x(hF:E9 F)(hw:Region.wanted o (yielded ops a.tmps)=true)(hnd:∀c,o.op≠ .defer c)(hrun:(execOp a.eval o).run P w=.ok .skip w1)
    (K:wpListIn F m P ops Q rest (a.put o.dst undef) w1):wpListIn F m P ops Q (o::rest) a w:=by
  unfold wpListIn;rw [hw,if_pos rfl];refine ⟨fun f _=>hF.fn f,?_⟩;rw [Oper.semAt_plain F _ _ hnd,hrun];exact K
theorem skip1(hF:E9 F)(hI:Inv w0 own n σ ns a w)(hw:Region.wanted o (yielded ops a.tmps)=false)(σ2:S)(hp:V0 σ n o.dst [] none=some σ2)
    (K:∀a',Inv w0 own n σ2 ns a' w→wpListIn F m P ops Q rest a' w):wpListIn F m P ops Q (o::rest) a w:=by
  unfold wpListIn;rw [hw];exact ⟨fun f _=>hF.fn f,K _ (R8 hI (g:=[]) (fun x hx=>by simp at hx) hp (fun x hx=>by cases hx))⟩
theorem A21(hI:Inv w0 own n σ ns a w){dst:Option Tmp}{v:Value}(σ2:S)(hp:V0 σ n dst [] (some (.v v))=some σ2):Inv w0 own n σ2 ns (a.put dst v) w:=
  R8 hI (g:=[]) (fun x hx=>by simp at hx) hp (fun x hx=>by simp only [Option.some.injEq] at hx;subst hx;rfl)
theorem B3t(hI:Inv w0 own n σ ns a w){dst:Option Tmp}{v:Value}(σ2:S)(hp:V0 σ n dst [] none=some σ2):Inv w0 own n σ2 ns (a.put dst v) w:=
  R8 hI (g:=[]) (fun x hx=>by simp at hx) hp (fun x hx=>by cases hx)
theorem specV(hI:Inv w0 own n σ ns a w)(hall:(A85 σ.env [] o.op.operands&&A2v o.op)=true){s:Sem Value}{x:Value}
    (ho:execOp (A7f σ.env []) o=(do pure (.value (← s)))) (hs:s.run P w=.ok x w1):(execOp a.eval o).run P w=.ok (.value x) w1:=by
  rw [execOp_congr (ρ:=a.eval) (ρ':=A7f σ.env []) o (by intro cs b hh;rw [hh] at hall;simp [A2v] at hall) ?_]
  · rw [ho];simp [Sem.run_bind,hs,Sem.run_pure]
  · intro y hy;rw [Bool.and_eq_true] at hall;have hall:=hall.1;unfold A85 at hall;rw [List.all_eq_true] at hall;have:=hall y (by simpa using hy);unfold A7f;cases hoe:I9 σ.env [] y with
    | none=>rw [hoe] at this;simp at this
    | some z=>
      rw [hoe] at this;cases z with
      | v u=>simp only;rw [hI.opnd hoe rfl];rfl
      | p=>simp at this
      | s=>simp at this
      | f=>simp at this
def B54(g:A0b)(σ:S):S:={σ with env:=σ.env.map fun x=>bif A3l x.p g then {x with p:=[]} else x}
theorem A94{f:Ent→Ent}(hf:∀x,(f x).t=x.t):∀(l:List Ent) (t:Nat),A3h (l.map f) t=(A3h l t).map f
  | [],t=>rfl
  | x::r,t=>by
    simp only [List.map_cons,A3h,hf];cases Nat.beq x.t t
    · simp only [cond_false];exact A94 hf r t
    · rfl
theorem Inv.promote(hI:Inv w0 own n σ ns a w)(hb:K0 σ.gv g=true):Inv w0 own n (B54 g σ) ns a w:=by
  have ht:∀x:Ent,(bif A3l x.p g then {x with p:=[]} else x).t=x.t:=fun x=>by cases A3l x.p g<;>rfl
  have he:∀x:Ent,(bif A3l x.p g then {x with p:=[]} else x).e=x.e:=fun x=>by cases A3l x.p g<;>rfl
  refine ⟨hI.size,hI.defers,fun x hx=>?_,fun x hx=>?_,hI.bwf,fun x hx=>?_,hI.loc,hI.pin⟩
  · obtain ⟨y,hy,rfl⟩:=List.mem_map.1 hx;have:=hI.env y hy;cases hh:A3l y.p g
    · exact this
    · rw [A50 hh hb] at this;exact this
  · obtain ⟨y,hy,rfl⟩:=List.mem_map.1 hx;have:=hI.ewf y hy;cases hh:A3l y.p g
    · exact this
    · exact ⟨this.1,fun z hz=>by simp at hz⟩
  · obtain ⟨y,c,h1,h2,h3⟩:=hI.gi x hx;refine ⟨(bif A3l y.p g then {y with p:=[]} else y),c,?_,?_,h3⟩
    · show A3h (σ.env.map _) x.1=_;rw [A94 ht,h1];rfl
    · rw [he];exact h2
def B7c(P:Program)(ops:Array Oper)(n k:Nat)(gd:Option (Nat×Bool))(liveT liveF:List Nat)(l:List Oper)(σ:S)(orc:List (List Value)):Option (Bool×S×S×List Ob):=
  match A6z P ops n k l σ orc with
  | some (σ1,obs,[])=>
    match A2r ops σ1 gd with
    | some (σ2,g)=>match fin liveT (B54 g σ2),fin liveF σ2 with | some σT,some σF=>some (K0 σ2.gv g,σT,σF,obs) | _,_=>none
    | none=>none
  | _=>none
theorem B89(hF:E9 F)(k:Nat){liveT liveF:List Nat}(hI:Inv w0 own n σ ns a w)(b:Bool)(σT σF:S)(obs:List Ob){l:List Oper}(hr:l.drop k=o::rest)(h:B7c P ops n k o.guard liveT liveF l σ orc=some (b,σT,σF,obs))(hob:Obs P w0 own obs)
    (KT:b=true→∀ns' a' w',Inv w0 own n σT ns' a' w'→Region.wanted o (yielded ops a'.tmps)=true→wpListIn F m P ops Q (o::rest) a' w')
    (KF:b=false→∀ns' a' w',Inv w0 own n σF ns' a' w'→Region.wanted o (yielded ops a'.tmps)=false→wpListIn F m P ops Q (o::rest) a' w'):wpListIn F m P ops Q l a w:=by
  unfold B7c at h;split at h
  · rename_i σ1 obs1 hs;split at h
    · rename_i σ2 g hg;split at h
      · rename_i σT' σF' hT hFF;simp only [Option.some.injEq,Prod.mk.injEq] at h;obtain ⟨rfl,rfl,rfl,rfl⟩:=h;refine A58 hF k l σ σ1 orc [] obs1 ns a w hI hs hob (fun ns' a' w' hI' hp=>?_);rw [hr];have hw:=B1l hI' hg;have hI2:=(A3a hI' hg).1;cases hb:K0 σ2.gv g with
        | true=>exact KT hb ns' a' w' ((hI2.promote hb).fin hT) (hw.trans hb)
        | false=>exact KF hb ns' a' w' (hI2.fin hFF) (hw.trans hb)
      · cases h
    · cases h
  · cases h
def A3f(P:Program)(ops:Array Oper)(n k:Nat)(live:List Nat)(l:List Oper)(σ:S)(orc:List (List Value)):Option (S×List Ob):=
  match A6z P ops n k l σ orc with
  | some (σ1,obs,[])=>match fin live σ1 with | some σ2=>some (σ2,obs) | none=>none
  | _=>none
theorem A9a(hF:E9 F)(k:Nat){live:List Nat}(hI:Inv w0 own n σ ns a w)(σ2:S)(obs:List Ob){l:List Oper}(hr:l.drop k=rest)(h:A3f P ops n k live l σ orc=some (σ2,obs))(hob:Obs P w0 own obs)
    (K:∀ns' a' w',Inv w0 own n σ2 ns' a' w'→wpListIn F m P ops Q rest a' w'):wpListIn F m P ops Q l a w:=by
  unfold A3f at h;split at h
  · rename_i σ1 obs1 hs;cases hf:Eng.fin live σ1 with
    | none=>rw [hf] at h;simp at h
    | some σ3=>
      rw [hf] at h;simp only [Option.some.injEq,Prod.mk.injEq] at h;obtain ⟨rfl,rfl⟩:=h;exact A58 hF k l σ σ1 orc [] obs1 ns a w hI hs hob (fun ns' a' w' hI' hp=>by rw [hr];exact K ns' a' w' (hI'.fin hf))
  · cases h
theorem B79(hF:E9 F)(hI:Inv w0 own n σ ns a w)(hg:o.guard=none){c x y:Operand}(hop:o.op=.pick c x y)(cb want:Bool)(hc:I9 σ.env [] c=some (.v (.bool cb)))(hcb:cb=want){v:Value}
    (he:I9 σ.env [] (bif want then x else y)=some (.v v)) (σ2:S) (hp:V0 σ n o.dst [] (some (.v v))=some σ2) (K:∀a',Inv w0 own n σ2 ns a' w→wpListIn F m P ops Q rest a' w):wpListIn F m P ops Q (o::rest) a w:=by
  subst hcb;refine A1r hF (C2 hg) (by rw [hop];intro c hc;cases hc) (v:=v) ?_ (K _ (A21 hI σ2 hp));have h1:=hI.opnd hc rfl;have h2:=hI.opnd he rfl;unfold execOp;rw [hop];cases cb with
  | true=>simp only [cond_true] at h2;simp [h1,h2,EV.den,asBool,Sem.run_bind,Sem.run]
  | false=>simp only [cond_false] at h2;simp [h1,h2,EV.den,asBool,Sem.run_bind,Sem.run]
theorem B2z(hF:E9 F)(hI:Inv w0 own n σ ns a w)(hw:Region.wanted o (yielded ops a.tmps)=true){f:FuncId}{es:List EV}{cs args:List Value}(hco:A1e σ [] o=some (f,es,cs))(hv:A23 es cs=some args)
    (hent:∀args w,(callFunc f args).run P w=.ok (.enter f args) w) {X:Type} (val:X→Value) (pmc:List Nat) (Rf:X→World→Prop)
    (hc:Calls P f args.toArray w fun e w'=>∃x,e=.returned (val x)∧H3 pmc w w'∧Rf x w')
    (K:∀x w',H3 pmc w w'→Rf x w'→wpListIn F m P ops Q rest (a.put o.dst (val x)) w'):wpListIn F m P ops Q (o::rest) a w:=by
  unfold wpListIn;rw [hw,if_pos rfl];obtain ⟨hnd,hrun⟩:=A24 hI rfl hco hent;refine ⟨fun f _=>hF.fn f,?_⟩;rw [Oper.semAt_plain F _ _ hnd,hrun,Oper.uponIn_enter];refine ⟨fun hd=>by rw [hF.depth] at hd;simp at hd,?_⟩;rw [A3w hv];refine (hF.calls hc).mono ?_;rintro e w1 ⟨x,rfl,hb,hr⟩;exact K x w1 hb hr
theorem B86(hF:E9 F)(hI:Inv w0 own n σ ns a w)(hw:Region.wanted o (yielded ops a.tmps)=true){f:FuncId}{es:List EV}{cs args:List Value}(hco:A1e σ [] o=some (f,es,cs))(hv:A23 es cs=some args)
    (hent:∀args w,(callFunc f args).run P w=.ok (.enter f args) w) {X:Type} (val:X→Value) (Rf:X→World→Prop)
    (hc:Calls P f args.toArray w fun e w'=>∃x,e=.returned (val x)∧Below w.heap.size w w'∧Rf x w')
    (K:∀x w',Below w.heap.size w w'→Rf x w'→wpListIn F m P ops Q rest (a.put o.dst (val x)) w'):wpListIn F m P ops Q (o::rest) a w:=by
  unfold wpListIn;rw [hw,if_pos rfl];obtain ⟨hnd,hrun⟩:=A24 hI rfl hco hent;refine ⟨fun f _=>hF.fn f,?_⟩;rw [Oper.semAt_plain F _ _ hnd,hrun,Oper.uponIn_enter];refine ⟨fun hd=>by rw [hF.depth] at hd;simp at hd,?_⟩;rw [A3w hv];refine (hF.calls hc).mono ?_;rintro e w1 ⟨x,rfl,hb,hr⟩;exact K x w1 hb hr
end
section
variable {P:Program} {w w1:World}
end
section
variable {P:Program} {w w1:World}
theorem B3z{t:TypeId}{i:TypeInfo}(h:P.info? t=some i)(w:World):(typeInfo t).run P w=.ok i w:=by
  unfold typeInfo;simp only [Sem.run_bind];have:(program).run P w=.ok P w:=rfl;rw [this];simp [h,Sem.run]
theorem A73{t:TypeId}{i:TypeInfo}{z:Value}(h:P.info? t=some i)(hz:i.zero=some z)(w:World):(zeroValue t).run P w=.ok z w:=by
  unfold zeroValue;simp only [Sem.run_bind,B3z h w,Result.andThen_ok,hz];rfl
def bsl (P:Program)(t:TypeId)(len:Nat)(parts:Array (Nat×Value)):Option (TypeId×List Value):=
  match P.underlying t with
  | some (.slice e)=>
    match P.info? e with
    | some i=>
      match i.zero with
      | some z=>
        bif Nat.ble (len*i.size) 16777216 then
          match Instr.fill (fun k=>some (k*i.size,i.size)) ((Array.range (len*i.size)).map fun k=>z.cells[k % z.cells.size]!) parts.toList with
          | some cs=>some (e,cs.toList)
          | none=>none
        else none
      | none=>none
    | none=>none
  | _=>none
theorem B0g{t:TypeId}{d:TypeDesc}(hu:P.underlying t=some d)(w:World):(underlying t).run P w=.ok d w:=M3 hu w
theorem B83{t:TypeId}{len:Nat}{parts:Array (Nat×Value)}{e:TypeId}{cs:List Value}(h:bsl P t len parts=some (e,cs))(w:World):
    (Instr.buildSlice t len parts).run P w=.ok (.slice (some ⟨w.heap.size,0,none⟩) len len) (w.alloc (.cells cs.toArray e)):=by
  unfold bsl at h;split at h
  · rename_i e' hu;split at h
    · rename_i i hi;split at h
      · rename_i z hz;simp only [Bool.cond_eq_ite] at h;split at h
        · rename_i hb;have h1:=Nat.le_of_ble_eq_true hb;split at h
          · rename_i cs' hf;simp only [Option.some.injEq,Prod.mk.injEq] at h;obtain ⟨rfl,rfl⟩:=h;unfold Instr.buildSlice;have hsz:(sizeOf e').run P w=.ok i.size w:=by unfold sizeOf;simp [Sem.run_bind,B3z hi w,Sem.run]
            have hno:¬len*i.size>2 ^ 24:=by omega
            by_cases h2:len*i.size=0
            · have hm:∀f:Nat→Value,(Array.range (len*i.size)).map f= #[]:=fun f=>by rw [h2];simp
              rw [hm] at hf;simp only [Sem.run_bind,B0g hu w,Result.andThen_ok,hsz,hno,if_false,h2,if_true,Sem.run_pure];have hm0:∀f:Nat→Value,(Array.range 0).map f= #[]:=fun f=>by simp
              simp only [hm0,hf];simp [newRow,newObj,Sem.run_bind,Sem.run]
            simp only [Sem.run_bind,B0g hu w,Result.andThen_ok,hsz,hno,if_false,h2,A73 hi hz w,Sem.run_pure,hf];simp [newRow,newObj,Sem.run_bind,Sem.run]
          · cases h
        · cases h
      · cases h
    · cases h
  · cases h
end
section
variable {P:Program} {w w1:World} {α:Type} {d:Kd α} {e:TypeId} {S:Nat→Prop} {base:Nat} {A:Option Addr} {c:Nat} {l:List α}
theorem A08(w:World)(o:Obj):H3 [] w (w.alloc o):=H3.of_grownBy (World.grownBy_alloc w o none)
theorem Row.lit(w:World)(base:Nat)(hb:base≤w.heap.size)(xs:List α)(svs:List SV)(cs:List Value)(hl:cs.length=xs.length*d.sz)(hm:xs.length≤maxLen)
    (hc:∀i x,xs[i]? =some x→d.cont S w x (svs.getD i (fun _=>(none,0)))∧(cs.drop (i*d.sz)).take d.sz=d.cells x (svs.getD i (fun _=>(none,0)))) {S':Nat→Prop} (hk:Mv S w S' (w.alloc (.cells cs.toArray e))):
    Row d e S' (w.alloc (.cells cs.toArray e)) base (some ⟨w.heap.size,0,none⟩) xs.length xs:=by
  refine ⟨cs,⟨hl,.inr ⟨w.heap.size,xs.length,cs.toArray,rfl,hb,heap_alloc_new w _,Nat.le_refl _,hm,by simpa using hl,?_⟩⟩,fun i x hi=>?_⟩
  · rw [← hl];simp
  · obtain ⟨h1,h2⟩:=hc i x hi;refine ⟨_,d.keep h1 hk,fun j u hj=>?_⟩;rw [← h2,List.getElem?_take] at hj;split at hj
    · rwa [List.getElem?_drop] at hj
    · cases hj
theorem B2s{l1 l2:List (List Nat)}{r r':List Nat}(h:r'=r∨(r'=[w.heap.size]∧w.heap.size<w1.heap.size)):∀b∈(l1++r'::l2).flatten,b∈(l1++r::l2).flatten∨(w.heap.size≤b∧b<w1.heap.size):=by
  intro b hb;simp only [List.flatten_append,List.flatten_cons,List.mem_append] at hb ⊢;rcases h with rfl | ⟨rfl,h⟩
  · exact .inl hb
  · rcases hb with hb | hb | hb
    · exact .inl (.inl hb)
    · simp only [List.mem_singleton] at hb;exact .inr ⟨by omega,by omega⟩
    · exact .inl (.inr (.inr hb))
theorem B2r{pm:List Nat}{w00:World}{own:List Nat}{l1 l2:List (List Nat)}{r r':List Nat}(hE:Ep pm w00 w own (l1++r::l2))(h:r'=r∨(r'=[w.heap.size]∧w.heap.size<w1.heap.size)):(l1++r'::l2).flatten.Nodup:=by
  rcases h with rfl | ⟨rfl,h⟩
  · exact hE.dis
  · have hd:=hE.dis;have hlt:∀b∈(l1++r::l2).flatten,b<w.heap.size:=fun b hb=>(hE.mi b hb).2.1;simp only [List.flatten_append,List.flatten_cons] at hd hlt ⊢;have hd1:(l1.flatten++l2.flatten).Nodup:=hd.sublist (List.Sublist.append_left (List.sublist_append_right _ _) _);have hn:∀x∈l1.flatten++l2.flatten,x≠w.heap.size:=by
      intro x hx;have:=hlt x (by
        simp only [List.mem_append] at hx ⊢;rcases hx with hx | hx
        · exact .inl hx
        · exact .inr (.inr hx))
      omega
    rw [List.nodup_append] at hd1 ⊢;obtain ⟨p1,p2,p3⟩:=hd1;refine ⟨p1,List.nodup_cons.2 ⟨fun hh=>hn _ (by simp only [List.mem_append];exact .inr hh) rfl,p2⟩,fun x hx y hy=>?_⟩;rcases List.mem_cons.1 hy with rfl | hy
    · exact hn x (by simp only [List.mem_append];exact .inl hx)
    · exact p3 x hx y hy
theorem A8t{t ty:TypeId}{i:TypeInfo}{z:Value}(ht:P.underlying t=some (.slice e))(hi:P.info? e=some i)(hz:i.zero=some z)(hs:i.size=d.sz)(hzs:z.cells.size=d.sz)
    (h:Row d e S w base A c l) (hbase:base≤w.heap.size) {ad:Addr} {c2:Nat} {x:α} {sv:SV} {S2:Nat→Prop} (hx:d.cont S w x sv) (hcx:∀(j:Nat) (v:Value),(d.cells x sv)[j]? =some v→w.cell? (ad.add j)=some v)
    (h1:∀u∈d.cells x sv,u.oneCell'=true) (hb1:l.length+1≤maxLen) (hb2:(l.length+1)*i.bytes≤140737488355328):
    ∃ A' c' w1,(Builtin.append_ #[t,t] ty #[.slice A l.length c,.slice (some ad) 1 c2]).run P w=.ok (.slice A' (l++[x]).length c') w1∧H3 (rb A) w w1∧
      (rb A'=rb A∨(rb A'=[w.heap.size]∧w.heap.size<w1.heap.size))∧∀S',Mv S w S' w1→Row d e S' w1 base A' c' (l++[x]):=by
  obtain ⟨xs,hown,h3⟩:=h;obtain ⟨v',w1,hrun,q1,q2,q3,q4⟩:=run_append_own_at (P:=P) w base t ty e i z d.sz i.bytes ht hi hz hs rfl hzs d.pos _ _ xs hown ad 1 c2 (d.cells x sv) (by rw [d.len];simp) hcx h1 hb1 hb2 hbase;have hlen:(l++[x]).length=l.length+1:=by simp
  have hrb:(Value.slice A l.length c).ownBlock.toList=rb A:=by cases A<;>rfl
  have q2:=H3.of_grownBy q2;rw [hrb] at q2;obtain ⟨A',c',rfl⟩:∃A' c',v'=.slice A' (l.length+1) c':=by
    rcases q1.2 with ⟨_,hh⟩ | ⟨g,cap,cur,rfl,_⟩
    · omega
    · exact ⟨_,_,rfl⟩
  have hrb':(Value.slice A' (l.length+1) c').ownBlock.toList=rb A':=by cases A'<;>rfl
  refine ⟨A',c',w1,by rw [hlen];exact hrun,q2,?_,fun S' hk=>⟨_,by rw [hlen];exact q1,fun k y hy=>?_⟩⟩
  · rcases q4 with q4 | q4
    · exact .inl (by rw [← hrb,← hrb',q4])
    · exact .inr ⟨by rw [← hrb',q4];rfl,(q1.lt _ q4).2⟩
  · rcases Nat.lt_or_ge k l.length with hlt | hge
    · rw [List.getElem?_append_left hlt] at hy;obtain ⟨sv',g1,g2⟩:=h3 k y hy;refine ⟨sv',d.keep g1 hk,fun j u hj=>?_⟩;have:=g2 j u hj;rw [List.getElem?_append_left (List.getElem?_eq_some_iff.1 this).1];exact this
    · have hk0:k=l.length:=by
        have:=(List.getElem?_eq_some_iff.1 hy).1;simp at this;omega
      subst hk0;rw [List.getElem?_append_right (Nat.le_refl _)] at hy;simp only [Nat.sub_self,List.getElem?_cons_zero,Option.some.injEq] at hy;subst hy;refine ⟨sv,d.keep hx hk,fun j u hj=>?_⟩;rw [List.getElem?_append_right (by rw [hown.1];omega),hown.1,Nat.add_sub_cancel_left];exact hj
end
def A7h(P:Program)(e:TypeId):Option (Value×Nat×Nat):=match P.info? e with | some i=>(match i.zero with | some z=>some (z,i.size,i.bytes) | none=>none) | none=>none
theorem A28{P:Program}{e:TypeId}{zi:Value×Nat×Nat}(h:A7h P e=some zi):∃i,P.info? e=some i∧i.zero=some zi.1∧i.size=zi.2.1∧i.bytes=zi.2.2:=by
  unfold A7h at h;split at h
  · rename_i i hi;split at h
    · rename_i z hz;simp only [Option.some.injEq] at h;subst h;exact ⟨i,hi,hz,rfl,rfl⟩
    · cases h
  · cases h
def A1i{β:Type}:List (Int×β)→Int→Option β
  | [],_=>none
  | (k,v)::r,q=>if q=k then some v else A1i r q
def A33{β:Type}:List (Int×β)→Int→β→List (Int×β)
  | [],q,x=>[(q,x)]
  | (k,v)::r,q,x=>if q=k then (k,x)::r else (k,v)::A33 r q x
structure Y6 {β:Type} (k:IntKind) (enc:β→Value) (w:World) (b:Nat) (m:List (Int×β)):Prop where
  is:∃es clock,w.heap[b]? =some (.map es clock)∧es.toList.map (fun e=>(e.key,e.val))=m.map (fun p=>(.int k p.1,enc p.2))
section
variable {P:Program} {w w1:World} {β:Type} {kk:IntKind} {enc:β→Value} {b:Nat} {mm:List (Int×β)}
theorem Y6.keep(h:Y6 kk enc w b mm)(hb:w1.heap[b]? =w.heap[b]?):Y6 kk enc w1 b mm:=by
  obtain ⟨es,cl,h1,h2⟩:=h;exact ⟨es,cl,hb.trans h1,h2⟩
theorem A5p{k:Int}:∀(es:List MapEntry) (mm:List (Int×β)) (i:Nat),es.map (fun e=>(e.key,e.val))=mm.map (fun p=>(.int kk p.1,enc p.2))→
    ∃ r,Instr.findNow (.int kk) (.int kk k) es i=some r∧(A1i mm k=none→r=none)∧(∀v,A1i mm k=some v→∃j e,r=some (i+j,enc v)∧es[j]? =some e∧e.key=.int kk k∧
      ∀x,(es.modify j fun e=>{e with key:=.int kk k,val:=enc x}).map (fun e=>(e.key,e.val))=(A33 mm k x).map (fun p=>(.int kk p.1,enc p.2)))
  | [],mm,i,h=>by
    have:mm=[]:=by cases mm<;>simp_all
    subst this;exact ⟨none,rfl,fun _=>rfl,fun v hv=>by simp [A1i] at hv⟩
  | e::es,[],i,h=>by simp at h
  | e ::es,(q,v)::mm,i,h=>by
    simp only [List.map_cons,List.cons.injEq,Prod.mk.injEq] at h;obtain ⟨⟨hk,hv⟩,ht⟩:=h;by_cases hq:k=q
    · subst hq;refine ⟨some (i,e.val),?_,fun hn=>by simp [A1i] at hn,fun v' hv'=>?_⟩
      · simp [Instr.findNow,hk,Instr.sameNow]
      · simp only [A1i,if_true,Option.some.injEq] at hv';subst hv';refine ⟨0,e,by rw [hv];rfl,rfl,hk,fun x=>?_⟩;simp [A33,ht]
    · obtain ⟨r,h1,h2,h3⟩:=A5p es mm (i+1) ht;refine ⟨r,?_,fun hn=>h2 (by simpa [A1i,hq] using hn),fun v' hv'=>?_⟩
      · have:(k==q)=false:=by simpa using hq
        simp [Instr.findNow,hk,Instr.sameNow,this,h1]
      · obtain ⟨j,e',g1,g2,g3,g4⟩:=h3 v' (by simpa [A1i,hq] using hv');refine ⟨j+1,e',by rw [g1];congr 2;omega,by simpa using g2,g3,fun x=>?_⟩;have:=g4 x;simp [A33,hq,hk,hv,this]
theorem A3n{t:TypeId}{b:Bool}{v:Value}(ht:P.underlying t=some (.int kk))(w:World):(Instr.checkKey b 10000 t v).run P w=.ok () w:=by
  unfold Instr.checkKey;simp only [Sem.run_bind,M3 ht w,Result.andThen_ok];cases v<;>rfl
theorem A39{t:TypeId}{es:List MapEntry}{k:Int}{r:Option (Nat×Value)}(ht:P.underlying t=some (.int kk))(h:Instr.findNow (.int kk) (.int kk k) es 0=some r)(w:World):(Instr.findKey t (.int kk k) es).run P w=.ok r w:=by
  unfold Instr.findKey;simp only [Sem.run_bind,M3 ht w,Result.andThen_ok,h];rfl
theorem B4w{t tk te:TypeId}{zi:Value×Nat×Nat}{z:β}(ht:P.underlying t=some (.map tk te))(hk:P.underlying tk=some (.int kk))(hzi:A7h P te=some zi)(hze:zi.1=enc z)(h:Y6 kk enc w b mm)(k:Int)(ok:Bool):
    (Instr.lookup t (.map (some b)) (.int kk k) ok).run P w=.ok (if ok then .tuple #[enc ((A1i mm k).getD z),.bool (A1i mm k).isSome] else enc ((A1i mm k).getD z)) w:=by
  obtain ⟨i,hi,hz,_,_⟩:=A28 hzi;rw [hze] at hz;obtain ⟨es,cl,h1,h2⟩:=h;obtain ⟨r,hr,hn,hs⟩:=A5p (k:=k) es.toList mm 0 h2;unfold Instr.lookup;have hg:(getObj b).run P w=.ok (.map es cl) w:=by unfold getObj;simp [Sem.run,h1]
  simp only [Sem.run_bind,M3 ht w,Result.andThen_ok,hg,Sem.run_pure,A3n hk w,A39 hk hr w];cases hm:A1i mm k with
  | none=>
    rw [hn hm];simp only [Sem.run_bind,A73 hi hz w,Result.andThen_ok,Sem.run_pure];cases ok<;>simp [Sem.run_pure,Option.getD]
  | some v=>
    obtain ⟨j,e,g1,_⟩:=hs v hm;rw [g1];simp only [Sem.run_pure,Result.andThen_ok];cases ok<;>simp [Sem.run_pure,Option.getD]
theorem B0x{t tk te:TypeId}(ht:P.underlying t=some (.map tk te))(hk:P.underlying tk=some (.int kk))(h:Y6 kk enc w b mm)(k:Int)(x:β):
    ∃w1,(Instr.mapUpdate t (.map (some b)) (.int kk k) (enc x)).run P w=.ok () w1∧w.grownBy w1 (some b)∧Y6 kk enc w1 b (A33 mm k x):=by
  obtain ⟨es,cl,h1,h2⟩:=h;obtain ⟨r,hr,hn,hs⟩:=A5p (k:=k) es.toList mm 0 h2;have hbl:=(Array.getElem?_eq_some_iff.1 h1).1;have hg:(getObj b).run P w=.ok (.map es cl) w:=by unfold getObj;simp [Sem.run,h1]
  have hset:∀o,∃w1,(setObj b o).run P w=.ok () w1∧w.grownBy w1 (some b)∧w1.heap[b]? =some o:=by
    intro o;refine ⟨{w with heap:=w.heap.setIfInBounds b o},by unfold setObj;simp [Sem.run,h1],⟨rfl,rfl,rfl,by simp,fun k hk hne=>?_⟩,by simp [hbl]⟩;simp only [Array.getElem?_setIfInBounds];rw [if_neg (fun hh=>hne (by rw [hh]))]
  unfold Instr.mapUpdate;simp only [Sem.run_bind,M3 ht w,Result.andThen_ok,hg,A3n hk w,A39 hk hr w];cases hm:A1i mm k with
  | none=>
    rw [hn hm];obtain ⟨w1,g1,g2,g3⟩:=hset (.map (es.push {key:=.int kk k,val:=enc x,born:=cl}) (cl+1));refine ⟨w1,g1,g2,_,_,g3,?_⟩;have:A33 mm k x=mm++[(k,x)]:=by
      clear h2 hr hn hs hset g3
      induction mm with
      | nil=>rfl
      | cons p r ih=>
        obtain ⟨q,v⟩:=p;simp only [A1i] at hm;split at hm
        · cases hm
        · rename_i hq;simp [A33,hq,ih hm]
    rw [this];simp [h2]
  | some v=>
    obtain ⟨j,e,q1,q2,q3,q4⟩:=hs v hm;rw [q1];have hkeep:(Instr.keyThatStays e.key (.int kk k)).run P w=.ok (.int kk k) w:=by
      unfold Instr.keyThatStays;rw [q3];have:Instr.sameBits 10000 (.int kk k) (.int kk k)=true:=by simp [Instr.sameBits]
      simp [this,Sem.run_pure]
    have hj:es[0+j]? =some e:=by rw [Nat.zero_add];simpa using q2
    obtain ⟨w1,g1,g2,g3⟩:=hset (.map (es.modify (0+j) fun e=>{e with key:=.int kk k,val:=enc x}) cl);simp only [hj,Option.map_some,Option.getD_some,Sem.run_bind,hkeep,Result.andThen_ok];refine ⟨w1,g1,g2,_,_,g3,?_⟩;have:=q4 x;rw [Nat.zero_add];rw [← this];simp
theorem Instr.makeMap_run(t:TypeId)(w:World):(Instr.makeMap t none).run P w=.ok (.map (some w.heap.size)) (w.alloc (.map #[] 0)):=rfl
theorem Y6.new(w:World):Y6 kk enc (w.alloc (.map #[] 0)) w.heap.size ([]:List (Int×β)):=⟨#[],0,heap_alloc_new w _,rfl⟩
theorem A6e{mine:List (List Nat)}(h:w.heap.size<w1.heap.size):∀b∈(mine++[[w.heap.size]]).flatten,b∈mine.flatten∨(w.heap.size≤b∧b<w1.heap.size):=by
  intro b hb;simp only [List.flatten_append,List.flatten_cons,List.flatten_nil,List.append_nil,List.mem_append,List.mem_singleton] at hb;rcases hb with hb | rfl
  · exact .inl hb
  · exact .inr ⟨Nat.le_refl _,h⟩
theorem A6d{pm:List Nat}{w00:World}{own:List Nat}{mine:List (List Nat)}(hE:Ep pm w00 w own mine):(mine++[[w.heap.size]]).flatten.Nodup:=by
  simp only [List.flatten_append,List.flatten_cons,List.flatten_nil,List.append_nil];rw [List.nodup_append];refine ⟨hE.dis,by simp,fun x hx y hy=>?_⟩;simp only [List.mem_singleton] at hy;subst hy;have:=(hE.mi x hx).2.1;omega
theorem A2w{mine:List (List Nat)}:∀b∈mine.flatten,b∈mine.flatten∨(w.heap.size≤b∧b<w1.heap.size):=fun _ h=>.inl h
end
def addO(B:Addr):Nat→Addr
  | 0=>B
  | o+1=>B.add (o+1)
def frI(k j:Nat):Nat:=bif Nat.blt k j then j - 1 else j
def frS(k:Nat)(B:Addr):Sum Value (Nat×Nat)→Sum Value (Nat×Nat)
  | .inl v=>.inl v
  | .inr (j,off)=>bif Nat.beq j k then .inl (.pointer (some (addO B off))) else .inr (frI k j,off)
def frE(k:Nat)(B:Addr):EV→EV
  | .v x=>.v x
  | .p j off=>bif Nat.beq j k then .v (.pointer (some (addO B off))) else .p (frI k j) off
  | .s j off n c=>bif Nat.beq j k then .v (.slice (some (addO B off)) n c) else .s (frI k j) off n c
  | .f fn a b=>.f fn (a.map (frS k B)) (b.map (frS k B))
def frz(k:Nat)(B:Addr)(σ:S):S:=⟨σ.env.map fun x=>{x with e:=frE k B x.e},σ.gv,σ.gi,(σ.bs.eraseIdx k).map fun x=>(x.1.map (frE k B),x.2),σ.lo,B1f k σ.pin⟩
theorem B1p(b off:Nat):addO ⟨b,0,none⟩ off=⟨b,off,none⟩:=by
  cases off with
  | zero=>rfl
  | succ o=>simp only [addO,V8];congr 1;omega
theorem A9w{ns:List Nat}{k j:Nat}(h:j≠k):(ns.eraseIdx k).getD (frI k j) 0=ns.getD j 0:=by
  unfold frI;rw [List.getD_eq_getElem?_getD,List.getD_eq_getElem?_getD,List.getElem?_eraseIdx];cases hb:Nat.blt k j
  · have:¬k<j:=fun hh=>by rw [show Nat.blt k j=true by simpa using hh] at hb;cases hb
    simp only [cond_false];rw [if_pos (by omega)]
  · have:k<j:=by simpa using hb
    simp only [cond_true];rw [if_neg (by omega),show j - 1+1=j by omega]
theorem B5y{ns:List Nat}{k:Nat}{B:Addr}(hB:B=⟨ns.getD k 0,0,none⟩)(x:Sum Value (Nat×Nat)):A3x (ns.eraseIdx k) (frS k B x)=A3x ns x:=by
  cases x with
  | inl=>rfl
  | inr p=>
    obtain ⟨j,off⟩:=p;simp only [frS];cases hb:Nat.beq j k
    · have:j≠k:=fun hh=>by subst hh;simp at hb
      simp only [cond_false,A3x,A9w this]
    · have:=Nat.eq_of_beq_eq_true hb;subst this;simp only [cond_true,A3x,hB,B1p]
theorem B9f{ns:List Nat}{k:Nat}{B:Addr}(hB:B=⟨ns.getD k 0,0,none⟩)(e:EV):(frE k B e).den (ns.eraseIdx k)=e.den ns:=by
  cases e with
  | v=>rfl
  | p j off=>
    simp only [frE];cases hb:Nat.beq j k
    · have:j≠k:=fun hh=>by subst hh;simp at hb
      simp only [cond_false,EV.den,A9w this]
    · have:=Nat.eq_of_beq_eq_true hb;subst this;simp only [cond_true,EV.den,hB,B1p]
  | s j off n c=>
    simp only [frE];cases hb:Nat.beq j k
    · have:j≠k:=fun hh=>by subst hh;simp at hb
      simp only [cond_false,EV.den,A9w this]
    · have:=Nat.eq_of_beq_eq_true hb;subst this;simp only [cond_true,EV.den,hB,B1p]
  | f fn a b=>
    simp only [frE,EV.den,List.map_map];rw [List.map_congr_left (fun x _=>show (A3x (ns.eraseIdx k)∘frS k B) x=A3x ns x from B5y hB x),List.map_congr_left (l:=b) (fun x _=>show (A3x (ns.eraseIdx k)∘frS k B) x=A3x ns x from B5y hB x)]
theorem B4n{k j m:Nat}(hk:k<m)(h:j<m)(hne:j≠k):frI k j<m - 1:=by
  unfold frI;cases hb:Nat.blt k j
  · have:¬k<j:=fun hh=>by rw [show Nat.blt k j=true by simpa using hh] at hb;cases hb
    simp only [cond_false];omega
  · have:k<j:=by simpa using hb
    simp only [cond_true];omega
theorem B7u{k m:Nat}(hk:k<m){B:Addr}(x:Sum Value (Nat×Nat))(h:(match x with | .inl _=>true | .inr (k,_)=>Nat.blt k m)=true):(match frS k B x with | .inl _=>true | .inr (k,_)=>Nat.blt k (m - 1))=true:=by
  cases x with
  | inl=>rfl
  | inr p=>
    obtain ⟨j,off⟩:=p;simp only [frS];cases hb:Nat.beq j k
    · have hne:j≠k:=fun hh=>by subst hh;simp at hb
      have hj:j<m:=by simpa using h
      simpa using B4n hk hj hne
    · rfl
theorem B7t{k m:Nat}(hk:k<m){B:Addr}{e:EV}(h:e.wf m=true):(frE k B e).wf (m - 1)=true:=by
  cases e with
  | v=>rfl
  | p j off=>
    simp only [frE];cases hb:Nat.beq j k
    · have hne:j≠k:=fun hh=>by subst hh;simp at hb
      have hj:j<m:=by simpa [EV.wf] using h
      simpa [EV.wf] using B4n hk hj hne
    · rfl
  | s j off n c=>
    simp only [frE];cases hb:Nat.beq j k
    · have hne:j≠k:=fun hh=>by subst hh;simp at hb
      have hj:j<m:=by simpa [EV.wf] using h
      simpa [EV.wf] using B4n hk hj hne
    · rfl
  | f fn a b=>
    simp only [EV.wf,Bool.and_eq_true,List.all_eq_true] at h;simp only [frE,EV.wf,Bool.and_eq_true,List.all_eq_true,List.mem_map];exact ⟨fun x ⟨y,hy,e⟩=>e▸B7u hk y (h.1 y hy),fun x ⟨y,hy,e⟩=>e▸B7u hk y (h.2 y hy)⟩
section
variable {S0:Nat→Prop} {pm:List Nat} {w00 w:World} {ns:List Nat} {mine l1 l2:List (List Nat)} {n:Nat} {σ:S} {a:Act} {α:Type} {d:Kd α}
theorem B6v{p:Option (Nat×List Nat)}{ns:List Nat}{k:Nat}(hk:k<ns.length)(h:A8s p ns):A8s (B1f k p) (ns.eraseIdx k):=by
  cases p with
  | none=>trivial
  | some q=>
    obtain ⟨j,l⟩:=q;obtain ⟨h1,h2⟩:=h;simp only [B1f];cases hb:Nat.ble j k
    · trivial
    · have:=Nat.le_of_ble_eq_true hb;refine ⟨?_,by rw [List.length_eraseIdx,if_pos hk];omega⟩;rw [← h1];apply List.ext_getElem?;intro i;rw [List.getElem?_take,List.getElem?_take];split
      · rw [List.getElem?_eraseIdx,if_pos (by omega)]
      · rfl
theorem B3a(hE:Ep pm w00 w ns mine)(hI:Inv w ns n σ ns a w)(k:Nat)(x:α)(sv:SV)(T:TypeId)(hk:σ.bs[k]? =some ((d.cells x sv).map EV.v,T)):
    ∃ (b:Nat) (ns':List Nat),Ep pm w00 w ns' mine∧Inv w ns' n (frz k ⟨b,0,none⟩ σ) ns' a w∧(∀S0,Mv (Lo S0 w00 w ns mine) w (Lo S0 w00 w ns' mine) w)∧(∀S0,d.cont (Lo S0 w00 w ns mine) w x sv→El d (Lo S0 w00 w ns' mine) w ⟨b,0,none⟩ x sv)∧
      b∈ns∧w00.heap.size≤b∧b<w.heap.size∧b∉ns'∧b∉mine.flatten∧w.heap[b]? =some (.cells (d.cells x sv).toArray T (0,0)):=by
  have hkl:k<σ.bs.length:=(List.getElem?_eq_some_iff.1 hk).1;have hkn:k<ns.length:=by rw [hI.loc.len];exact hkl
  have hmem:ns.getD k 0∈ns:=hI.loc.mem hkl;have hsub:∀b,b∈ns.eraseIdx k→b∈ns:=fun b hb=>(List.eraseIdx_sublist _ _).subset hb;have hget:ns.getD k 0=ns[k]:=by rw [List.getD_eq_getElem?_getD,List.getElem?_eq_getElem hkn];rfl
  have hnot:ns.getD k 0∉ns.eraseIdx k:=by
    rw [hget];intro hh;obtain ⟨j,hj,he⟩:=List.getElem_of_mem hh;rw [List.getElem_eraseIdx] at he;have hp:=List.pairwise_iff_getElem.1 hI.loc.nodup;split at he
    · exact hp j k _ hkn (by omega) he
    · exact hp k (j+1) hkn _ (by omega) he.symm
  have hden:∀e,(frE k ⟨ns.getD k 0,0,none⟩ e).den (ns.eraseIdx k)=e.den ns:=B9f rfl;have hlen:(frz k ⟨ns.getD k 0,0,none⟩ σ).bs.length=σ.bs.length - 1:=by simp [frz,List.length_eraseIdx,hkl]
  have hMv:∀S0,Mv (Lo S0 w00 w ns mine) w (Lo S0 w00 w (ns.eraseIdx k) mine) w:=fun S0 b hb _=>⟨⟨hb.1,fun hh=>hb.2.1 (hsub b hh),hb.2.2⟩,rfl⟩;refine ⟨ns.getD k 0,ns.eraseIdx k,⟨hE.k,fun b hb=>hE.ow b (hsub b hb),fun b hb=>⟨(hE.mi b hb).1,(hE.mi b hb).2.1,fun hh=>(hE.mi b hb).2.2 (hsub b hh)⟩,hE.dis⟩,⟨hI.size,hI.defers.sub hsub,?_,?_,?_,?_,?_,B6v hkn hI.pin⟩,hMv,fun S0 hc=>?_,hmem,(hE.ow _ hmem).1,hI.loc.lt hmem,hnot,fun hh=>(hE.mi _ hh).2.2 hmem,?_⟩
  · intro y hy;obtain ⟨z,hz,rfl⟩:=List.mem_map.1 hy;simp only [hden];exact hI.env z hz
  · intro y hy;obtain ⟨z,hz,rfl⟩:=List.mem_map.1 hy;rw [hlen];exact ⟨B7t hkl (hI.ewf z hz).1,(hI.ewf z hz).2⟩
  · intro y hy e he;obtain ⟨z,hz,rfl⟩:=List.mem_map.1 hy;obtain ⟨e',he',rfl⟩:=List.mem_map.1 he;rw [hlen];exact B7t hkl (hI.bwf z ((List.eraseIdx_sublist _ _).subset hz) e' he')
  · intro y hy;obtain ⟨z,c,h1,h2,h3⟩:=hI.gi y hy;refine ⟨{z with e:=frE k ⟨ns.getD k 0,0,none⟩ z.e},c,?_,by simp only [h2,frE],h3⟩;show A3h (σ.env.map _) y.1=_;rw [A94 (f:=fun x=>{x with e:=frE k ⟨ns.getD k 0,0,none⟩ x.e}) (fun _=>rfl),h1];rfl
  · refine ⟨by rw [hlen,List.length_eraseIdx,if_pos hkn,hI.loc.len],List.Nodup.sublist (List.eraseIdx_sublist _ _) hI.loc.nodup,H3.refl _ _,fun b hb=>.inl hb,fun j cs T hj=>?_⟩;simp only [frz,List.getElem?_map,Option.map_eq_some_iff,Prod.mk.injEq] at hj;obtain ⟨⟨cs',T'⟩,hj,rfl,rfl⟩:=hj;simp only [List.map_map];rw [List.map_congr_left (fun e _=>show (EV.den (ns.eraseIdx k)∘frE k ⟨ns.getD k 0,0,none⟩) e=e.den ns from hden e)];rw [List.getElem?_eraseIdx] at hj;rw [List.getD_eq_getElem?_getD,List.getElem?_eraseIdx];split at hj
    · rename_i hlt;rw [if_pos hlt,← List.getD_eq_getElem?_getD];exact hI.loc.blk _ _ _ hj
    · rename_i hlt;rw [if_neg hlt,← List.getD_eq_getElem?_getD];exact hI.loc.blk _ _ _ hj
  · refine ⟨d.keep hc (hMv S0),⟨hI.loc.lt hmem,hnot,fun hh=>(hE.mi _ hh).2.2 hmem,.inl (hE.ow _ hmem).1⟩,fun j v hj=>?_⟩;rw [V8,Nat.zero_add];exact hI.loc.cell hk (e:=.v v) (by rw [List.getElem?_map,hj];rfl)
  · have:=hI.loc.blk _ _ _ hk;rw [Y2] at this;exact this
theorem W8(hE:Ep pm w00 w ns mine)(hI:Inv w ns n σ ns a w)(k:Nat)(x:α)(sv:SV)(T:TypeId)(hk:σ.bs[k]? =some ((d.cells x sv).map EV.v,T)):
    ∃(B:Addr) (ns':List Nat),Ep pm w00 w ns' mine∧Inv w ns' n (frz k B σ) ns' a w∧(∀S0,Mv (Lo S0 w00 w ns mine) w (Lo S0 w00 w ns' mine) w)∧(∀S0,d.cont (Lo S0 w00 w ns mine) w x sv→El d (Lo S0 w00 w ns' mine) w B x sv):=by
  obtain ⟨b,ns',h1,h2,h3,h4,_⟩:=B3a hE hI k x sv T hk;exact ⟨_,ns',h1,h2,h3,h4⟩
theorem Ep.gone{r:List Nat}{own:List Nat}(hE:Ep pm w00 w own (l1++r::l2)):∀b∈r,b∉(l1++l2).flatten:=by
  intro b hb hh;have hd:=hE.dis;simp only [List.flatten_append,List.flatten_cons] at hd hh;rw [List.nodup_append] at hd;obtain ⟨_,h2,h3⟩:=hd;rw [List.nodup_append] at h2;rcases List.mem_append.1 hh with h | h
  · exact h3 b h b (List.mem_append.2 (.inl hb)) rfl
  · exact h2.2.2 b hb b h rfl
theorem A4d(l1 l2:List (List Nat))(r:List Nat):(l1++l2).Sublist (l1++r::l2):=List.Sublist.append_left (List.sublist_cons_self _ _) _
theorem Row.still{e:TypeId}{base c:Nat}{A:Option Addr}{l:List α}(h:Row d e (Lo S0 w00 w ns (l1++rb A::l2)) w base A c l)(hbase:w00.heap.size≤base)(hE:Ep pm w00 w ns (l1++rb A::l2)):
    Ep pm w00 w ns (l1++l2)∧(∀S0,Mv (Lo S0 w00 w ns (l1++rb A::l2)) w (Lo S0 w00 w ns (l1++l2)) w)∧Arr d (Lo S0 w00 w ns (l1++l2)) w A l∧l.length≤c:=
  have h1:=hE.sub (A4d l1 l2 (rb A))
  have h2:=h.done hE hbase (by simp) (A4d l1 l2 (rb A)) hE.gone
  ⟨h1.1,h1.2,h2.1,h2.2⟩
end
section
variable {F:Fence} {m:Nat} {P:Program} {S0:Nat→Prop} {pm:List Nat} {w00 w:World} {mine l1 l2:List (List Nat)} {n:Nat} {σ:S} {ns:List Nat} {a:Act} {o:Oper} {ops:Array Oper}
  {Q:Exit→Act→World→Prop} {rest:List Oper} {α:Type} {d:Kd α} {e:TypeId}
theorem A5j(hF:E9 F)(hE:Ep pm w00 w ns mine)(hI:Inv w ns n σ ns a w)(hw:Region.wanted o (yielded ops a.tmps)=true){t:TypeId}{len:Nat}{ps:Array (Nat×Operand)}(hop:o.op=.buildSlice t len ps)
    (hall:(A85 σ.env [] o.op.operands&&A2v o.op)=true) {cs:List Value} (hb:bsl P t len (ps.map fun p=>(p.1,A7f σ.env [] p.2))=some (e,cs)) (xs:List α) (svs:List SV) (hlen:len=xs.length) (hl:cs.length=xs.length*d.sz) (hm:xs.length≤maxLen)
    (hc:∀i x,xs[i]? =some x→d.cont (Lo S0 w00 w ns mine) w x (svs.getD i (fun _=>(none,0)))∧(cs.drop (i*d.sz)).take d.sz=d.cells x (svs.getD i (fun _=>(none,0))))
    (σ2:Option Addr→S) (hput:∀A,V0 σ n o.dst [] (some (.v (.slice A xs.length xs.length)))=some (σ2 A))
    (K:∀A a' w',(∃v,a'=a.put o.dst v)→Ep pm w00 w' ns (mine++[rb A])→Inv w' ns n (σ2 A) ns a' w'→(∀S0,Mv (Lo S0 w00 w ns mine) w (Lo S0 w00 w' ns (mine++[rb A])) w')→(∀b,b∈mine.flatten→b∉([]:List Nat)→w'.heap[b]? =w.heap[b]?)→
      Row d e (Lo S0 w00 w' ns (mine++[rb A])) w' w00.heap.size A xs.length xs→wpListIn F m P ops Q rest a' w'):wpListIn F m P ops Q (o::rest) a w:=by
  subst hlen;have hrun:(execOp a.eval o).run P w=.ok (.value (.slice (some ⟨w.heap.size,0,none⟩) xs.length xs.length)) (w.alloc (.cells cs.toArray e)):=by
    have h1:=B83 hb w;generalize hs:Instr.buildSlice t xs.length (ps.map fun p=>(p.1,A7f σ.env [] p.2))=s at h1;have ho:execOp (A7f σ.env []) o=(do pure (.value (← s))):=by
      rw [← hs];unfold execOp;rw [hop]
    exact specV hI hall ho h1
  refine A1r hF hw (by rw [hop];intro c hc;cases hc) hrun ?_;obtain ⟨q1,q2,q3,q4⟩:=hE.step hI (A08 w (.cells cs.toArray e)) (mine':=mine++[[w.heap.size]]) (by intro b hb;cases hb) (A6e (by simp)) (A6d hE) (.inr (by intro b hb;cases hb));have K':=K (some ⟨w.heap.size,0,none⟩) (a.put o.dst (.slice (some ⟨w.heap.size,0,none⟩) xs.length xs.length)) (w.alloc (.cells cs.toArray e));rw [show rb (some ⟨w.heap.size,0,none⟩)=[w.heap.size] from rfl] at K';exact K' ⟨_,rfl⟩ q1 (A21 q2 _ (hput _)) q3 q4 (Row.lit (S':=Lo S0 w00 (w.alloc (.cells cs.toArray e)) ns (mine++[[w.heap.size]])) w w00.heap.size hE.k.size xs svs cs hl hm hc (q3 S0))
theorem B80(hF:E9 F){A:Option Addr}(hE:Ep pm w00 w ns (l1++rb A::l2))(hI:Inv w ns n σ ns a w)(hw:Region.wanted o (yielded ops a.tmps)=true){s x:Operand}{t:TypeId}(hop:o.op=.call {callee:=.builtin .append,args:= #[s,x],argTypes:= #[t,t]})
    {c:Nat} {l:List α} (hs:I9 σ.env [] s=some (.v (.slice A l.length c))) {A2:Option Addr} {c2:Nat} (hx:I9 σ.env [] x=some (.v (.slice A2 1 c2)))
    (hrow:Row d e (Lo S0 w00 w ns (l1++rb A::l2)) w w00.heap.size A c l) {y:α} (hy:Arr d (Lo S0 w00 w ns (l1++rb A::l2)) w A2 [y]) (hone:∀sv,∀u∈d.cells y sv,u.oneCell'=true)
    (ht:P.underlying t=some (.slice e)) {zi:Value×Nat×Nat} (hzi:A7h P e=some zi) (hsz:zi.2.1=d.sz) (hzs:Nat.beq zi.1.cells.size d.sz=true) (hb1:l.length+1≤maxLen) (hb2:(l.length+1)*zi.2.2≤140737488355328)
    (σ2:Option Addr→Nat→S) (hput:∀A' c',V0 σ n o.dst [] (some (.v (.slice A' (l++[y]).length c')))=some (σ2 A' c'))
    (K:∀A' c' a' w',(∃v,a'=a.put o.dst v)→Ep pm w00 w' ns (l1++rb A'::l2)→Inv w' ns n (σ2 A' c') ns a' w'→(∀S0,Mv (Lo S0 w00 w ns (l1++rb A::l2)) w (Lo S0 w00 w' ns (l1++rb A'::l2)) w')→(∀b,b∈(l1++rb A::l2).flatten→b∉rb A→w'.heap[b]? =w.heap[b]?)→
      Row d e (Lo S0 w00 w' ns (l1++rb A'::l2)) w' w00.heap.size A' c' (l++[y])→wpListIn F m P ops Q rest a' w'):wpListIn F m P ops Q (o::rest) a w:=by
  obtain ⟨i,hi,hz,hsz',hbb⟩:=A28 hzi;rw [← hbb] at hb2;obtain ⟨hA2,_⟩:=hy.1 (by simp);obtain ⟨sv,hc,hcell⟩:=hy.2 0 y rfl;rw [hA2] at hx;obtain ⟨A',c',w1,hrun,hg,hA',hR⟩:=A8t (P:=P) (ty:=o.type) ht hi hz (hsz'.trans hsz) (Nat.eq_of_beq_eq_true hzs) hrow hE.k.size (ad:=adr A2) (c2:=c2) (S2:=fun _=>True) hc (fun j v hj=>by have:=hcell j v hj;simpa using this) (hone sv) hb1 hb2;have hrun':(execOp a.eval o).run P w=.ok (.value (.slice A' (l++[y]).length c')) w1:=by
    have e1:=hI.opnd hs rfl;have e2:=hI.opnd hx rfl;simp only [EV.den] at e1 e2;simp [execOp,hop,resolve,invoke,builtin,e1,e2,hrun,Result.andThen]
  refine A1r hF hw (by rw [hop];intro c hc;cases hc) hrun' ?_;obtain ⟨q1,q2,q3,q4⟩:=hE.step hI hg (mine':=l1++rb A'::l2) (by intro b hb;simp [hb]) (B2s hA') (B2r hE hA') (.inr hrow.nd);exact K A' c' _ _ ⟨_,rfl⟩ q1 (A21 q2 _ (hput _ _)) q3 q4 (hR _ (q3 S0))
theorem A5y(hF:E9 F)(hE:Ep pm w00 w ns mine)(hI:Inv w ns n σ ns a w)(hw:Region.wanted o (yielded ops a.tmps)=true){t:TypeId}(hop:o.op=.makeMap t none)(β:Type)(kk:IntKind)(enc:β→Value)
    (σ2:Nat→S) (hput:∀b,V0 σ n o.dst [] (some (.v (.map (some b))))=some (σ2 b))
    (K:∀b a' w',(∃v,a'=a.put o.dst v)→Ep pm w00 w' ns (mine++[[b]])→Inv w' ns n (σ2 b) ns a' w'→(∀S0,Mv (Lo S0 w00 w ns mine) w (Lo S0 w00 w' ns (mine++[[b]])) w')→(∀b',b'∈mine.flatten→b'∉([]:List Nat)→w'.heap[b']? =w.heap[b']?)→
      Y6 kk enc w' b ([]:List (Int×β))→wpListIn F m P ops Q rest a' w'):wpListIn F m P ops Q (o::rest) a w:=by
  have hrun:(execOp a.eval o).run P w=.ok (.value (.map (some w.heap.size))) (w.alloc (.map #[] 0)):=by
    simp [execOp,hop,Sem.run_bind,Instr.makeMap_run]
  refine A1r hF hw (by rw [hop];intro c hc;cases hc) hrun ?_;obtain ⟨q1,q2,q3,q4⟩:=hE.step hI (A08 w (.map #[] 0)) (mine':=mine++[[w.heap.size]]) (by intro b hb;cases hb) (A6e (by simp)) (A6d hE) (.inr (by intro b hb;cases hb));exact K w.heap.size _ _ ⟨_,rfl⟩ q1 (A21 q2 _ (hput _)) q3 q4 (Y6.new w)
theorem B42(hF:E9 F)(hE:Ep pm w00 w ns mine)(hI:Inv w ns n σ ns a w)(hw:Region.wanted o (yielded ops a.tmps)=true){t tk te:TypeId}{mo x v:Operand}(hop:o.op=.mapUpdate t mo x v){β:Type}{kk:IntKind}{enc:β→Value}{b:Nat}{mm:List (Int×β)}
    (hmem:b∈mine.flatten) (ht:P.underlying t=some (.map tk te)) (hk:P.underlying tk=some (.int kk)) (hm:Y6 kk enc w b mm) (hmo:I9 σ.env [] mo=some (.v (.map (some b)))) (k:Int) (hx:I9 σ.env [] x=some (.v (.int kk k))) (y:β) (hv:I9 σ.env [] v=some (.v (enc y)))
    (σ2:S) (hput:V0 σ n o.dst [] none=some σ2)
    (K:∀a' w',(∃v,a'=a.put o.dst v)→Ep pm w00 w' ns mine→Inv w' ns n σ2 ns a' w'→(∀S0,Mv (Lo S0 w00 w ns mine) w (Lo S0 w00 w' ns mine) w')→(∀b',b'∈mine.flatten→b'∉[b]→w'.heap[b']? =w.heap[b']?)→
      Y6 kk enc w' b (A33 mm k y)→wpListIn F m P ops Q rest a' w'):wpListIn F m P ops Q (o::rest) a w:=by
  obtain ⟨w1,hrun,hg,hM⟩:=B0x (P:=P) ht hk hm k y;have hrun':(execOp a.eval o).run P w=.ok .skip w1:=by
    have e1:=hI.opnd hmo rfl;have e2:=hI.opnd hx rfl;have e3:=hI.opnd hv rfl;simp only [EV.den] at e1 e2 e3;simp [execOp,hop,e1,e2,e3,hrun,Sem.run_bind,Result.andThen]
  refine A2x hF hw (by rw [hop];intro c hc;cases hc) hrun' ?_;obtain ⟨q1,q2,q3,q4⟩:=hE.step hI (H3.of_grownBy hg) (mine':=mine) (by intro b' hb;simp at hb;subst hb;exact hmem) A2w hE.dis (.inr (by intro b' hb q hq;simp at hb;subst hb;obtain ⟨es,cl,h1,_⟩:=hm;rw [h1] at hq;cases hq));exact K _ _ ⟨_,rfl⟩ q1 (B3t q2 _ hput) q3 q4 hM
theorem B1v(hF:E9 F)(hE:Ep pm w00 w ns mine)(hI:Inv w ns n σ ns a w)(hw:Region.wanted o (yielded ops a.tmps)=true){f:FuncId}{es:List EV}{cs args:List Value}(hco:A1e σ [] o=some (f,es,cs))(hv:A23 es cs=some args)
    (hent:∀args w,(callFunc f args).run P w=.ok (.enter f args) w) (val:SV→Value) (Rf:SV→World→Prop)
    (hc:Calls P f args.toArray w fun e w'=>∃sv,e=.returned (val sv)∧Below w.heap.size w w'∧Rf sv w')
    (σ2:SV→S) (hput:∀sv,V0 σ n o.dst [] (some (.v (val sv)))=some (σ2 sv))
    (K:∀sv a' w',(∃v,a'=a.put o.dst v)→Ep pm w00 w' ns mine→Inv w' ns n (σ2 sv) ns a' w'→(∀S0,Mv (Lo S0 w00 w ns mine) w (Lo S0 w00 w' ns mine) w')→(∀b,b∈mine.flatten→b∉([]:List Nat)→w'.heap[b]? =w.heap[b]?)→
      (∀S0,Mv (fun b=>w.heap.size≤b∨Lo S0 w00 w ns mine b) w' (Lo S0 w00 w' ns mine) w')→Rf sv w'→wpListIn F m P ops Q rest a' w'):wpListIn F m P ops Q (o::rest) a w:=by
  refine B86 hF hI hw hco hv hent val Rf hc (fun sv w' hb hr=>?_);obtain ⟨q1,q2,q3,q4⟩:=hE.step hI (H3.of_below' hb) (mine':=mine) (by intro b' hb;cases hb) A2w hE.dis (.inr (by intro b hb;cases hb));exact K sv _ _ ⟨_,rfl⟩ q1 (A21 q2 _ (hput _)) q3 q4 (fun S0=>Ep.res hE) hr
theorem F8{w:World}{S:Nat→Prop}{x:α}{sv:SV}(h:d.cont S w x sv):d.cont S w x sv:=h
theorem Arr.elB[Inhabited α]{S:Nat→Prop}{w:World}{A:Option Addr}{xs:List α}(h:Arr d S w A xs)(i:Int)(g:Bool)(hb:g=true→inb i xs.length=true):
    ∃sv,(g=true→El d S w ((adr A).add (i.toNat*d.sz)) (rd xs i) sv)∧(g=true→A=some (adr A)):=h.el i g hb
def svO(sv:SV)(k:Nat):SV:=fun i=>sv (i+k)
def svP(e:Option Addr×Nat)(sv:SV):SV:=fun i=>match i with
  | 0=>e
  | i+1=>sv i
end
section
variable {P:Program} {pm:List Nat} {w00 w:World} {S0 S:Nat→Prop} {ns:List Nat} {mine:List (List Nat)} {α:Type} {d:Kd α}
theorem Arr.nil{α:Type}(d:Kd α)(S:Nat→Prop)(w:World)(A:Option Addr):Arr d S w A ([]:List α):=⟨fun h=>by simp at h,fun i x h=>by simp at h⟩
theorem Ep.addNil(hE:Ep pm w00 w ns mine):Ep pm w00 w ns (mine++[[]])∧∀S0,Mv (Lo S0 w00 w ns mine) w (Lo S0 w00 w ns (mine++[[]])) w:=
  have e:(mine++[[]]).flatten=mine.flatten:=by simp
  ⟨⟨hE.k,hE.ow,fun b hb=>hE.mi b (e▸hb),e▸hE.dis⟩,fun S0 b hb _=>⟨⟨hb.1,hb.2.1,e▸hb.2.2.1,hb.2.2.2⟩,rfl⟩⟩
theorem El.lo{B:Addr}{x:α}{sv:SV}(h:El d S w B x sv):El d (Lo S w w [] []) w B x sv:=h.keep fun b hS hb=>⟨⟨hb.1,by simp,by simp,.inr hS⟩,rfl⟩
theorem El.any{B:Addr}{x:α}{sv:SV}(h:El d S w B x sv):El d (fun _=>True) w B x sv:=h.keep fun b hS hb=>⟨trivial,rfl⟩
theorem U9{n b:Nat}(hb:0<b)(h:(n+1)*b≤140737488355328):n+1≤maxLen:=by
  have:n+1≤(n+1)*b:=Nat.le_mul_of_pos_right _ hb;simp only [maxLen];omega
theorem W4{k:IntKind}(x:Int)(sv:SV)(u:Value)(hu:u∈(Kd.int k).cells x sv):u.oneCell'=true:=by simp only [Kd.int,List.mem_singleton] at hu;subst hu;rfl
theorem B2d{β:Type}{e:Kd β}(x:List β)(sv:SV)(u:Value)(hu:u∈(Kd.slice e).cells x sv):u.oneCell'=true:=by simp only [Kd.slice,List.mem_singleton] at hu;subst hu;rfl
def vS(s:Sem Value):Sem Next:=do pure (.value (← s))
theorem A0a{s:Sem Value}{v:Value}{w1:World}(h:s.run P w1=.ok v w1):(vS s).run P w1=.ok (.value v) w1:=by unfold vS;simp [Sem.run_bind,h,Sem.run_pure]
theorem A6y{k:IntKind}{i:Int}{y:Nat}{code:BoundsCode}(h0:0≤i)(h1:i≤y)(w:World):(Instr.sliceBound (.int k i) y code).run P w=.ok i.toNat w:=by
  unfold Instr.sliceBound;simp [asIntOf,Sem.run_bind,Sem.run_pure,h0,h1]
theorem A1h{i:Int}{n:Nat}(h:inb i (n+1)=true):0≤i∧i≤(n:Int):=by
  have:=A0q h;omega
theorem A74{t e:TypeId}{sz:Nat}(ht:P.underlying t=some (.slice e))(hs:szT P e=some sz){A:Option Addr}{l:List α}{c:Nat}{k:IntKind}{i:Int}(h0:0≤i)(h1:i≤l.length)(hc:l.length≤c)(w:World):
    (Instr.sliceAt t (.slice A l.length c) none (some (.int k i)) none).run P w=.ok (.slice A (l.take i.toNat).length c) w:=by
  have hb:=A6y (P:=P) (k:=k) (code:=.sliceAcap) h0 (show i≤(c:Int) by omega) w;unfold Instr.sliceAt Instr.slice Instr.sliceBounds;simp only [Sem.run_bind,M3 ht w,Result.andThen_ok,Sem.run_pure,if_true,hb,R9 hs w];have hl:(l.take i.toNat).length=i.toNat:=by rw [List.length_take];omega
  have ha:(if c=0 then A else A.map (·.add (0*sz)))=A:=by
    split
    · rfl
    · cases A with
      | none=>rfl
      | some a=>simp [Addr.add]
  have ha2:Option.map (fun x:Addr=>x.add 0) A=A:=by cases A<;>simp [Addr.add]
  simp [hl,ha,ha2,hb,R9 hs w,Sem.run_bind,Sem.run_pure]
theorem Arr.take{S:Nat→Prop}{A:Option Addr}{l:List α}(h:Arr d S w A l)(n:Nat):Arr d S w A (l.take n):=
  ⟨fun hl=>h.1 (by rw [List.length_take] at hl;omega),fun i x hi=>h.2 i x (by
    rw [List.getElem?_take] at hi
    split at hi
    · exact hi
    · cases hi)⟩
theorem B8r{l:List α}{n c:Nat}(h:l.length≤c):(l.take n).length≤c:=by rw [List.length_take];omega
end
section
variable {P:Program} {w:World} {d:Nat} {xs ys:Array Value} {f:Field} {fs:List Field} {a b:Value} {r s:Bool} {t:TypeId}
theorem A2c{cs:Array Value}{off:Nat}{v:Value}(h:A2s P t=some false)(hc:cs[off]? =some v)(w:World):(part t cs off).run P w=.ok v w:=by
  unfold part;simp [Sem.run_bind,A8l h w,hc,Sem.run_pure]
theorem A7q(hn:(f.name== "_")=false)(ha:(part f.type xs f.offset).run P w=.ok a w)(hb:(part f.type ys f.offset).run P w=.ok b w)(he:(Op.equalIn d f.type a b).run P w=.ok r w)(hr:(Op.eqFields d xs ys fs).run P w=.ok s w):
    (Op.eqFields d xs ys (f::fs)).run P w=.ok (r&&s) w:=by
  have hn':f.name≠ "_" :=by simpa using hn
  rw [Op.eqFields];simp only [if_pos hn',Sem.run_bind,ha,hb,he,Result.andThen_ok];cases r
  · simp
  · simpa using hr
theorem B5s:(Op.eqFields d xs ys []).run P w=.ok true w:=by simp [Op.eqFields]
theorem B7f{fs:Array Field}(hu:P.underlying t=some (.struct fs))(hp:P.stoodInHeld t=false)(h:(Op.eqFields d xs ys fs.toList).run P w=.ok r w):(Op.equalIn (d+1) t (.agg xs) (.agg ys)).run P w=.ok r w:=by
  have hf:P.fieldsOf t=fs:=by simp [Program.fieldsOf,hu]
  rw [run_equalIn_struct (P:=P) w d t xs ys (by rw [hf];exact hu) hp,hf];exact h
theorem A9d{k k':IntKind}(h:P.underlying t=some (.int k'))(x y:Int)(d:Nat)(w:World):(Op.equalIn (d+1) t (.int k x) (.int k y)).run P w=.ok (x==y) w:=run_equalIn_int w d t k k' x y h
theorem B9d{X Y:Operand}(hm:P.eqGuardType P.depth t=false)(h:(Op.equalIn 10000 t (.agg xs) (.agg ys)).run P w=.ok r w):(do eqGuard .eql t X Y (.agg xs) (.agg ys);binOp .eql t (.agg xs) (.agg ys)).run P w=.ok (.bool r) w:=by
  simp only [Sem.run_bind,run_eqGuard_agg w .eql t X Y xs ys hm,Result.andThen_ok,run_eql_struct w t xs ys,h]
end
inductive RV where
  | one (e:EV)
  | agg (vs:List Value)
def RV.den(ns:List Nat):RV→Value
  | .one e=>e.den ns
  | .agg vs=>.agg vs.toArray
def resE (P:Program)(σ:S):ResultVar→Option RV
  | .tmp t=>match I9 σ.env [] (.tmp t) with | some e=>some (.one e) | none=>none
  | .cell t T=>
    match I9 σ.env [] (.tmp t) with
    | some (.p k off)=>
      match σ.bs[k]? with
      | some (cs,_)=>
        match A2s P T with
        | some true=>
          match szT P T with
          | some m=>match A3v ((cs.drop off).take m) with | some vs=>bif Nat.beq vs.length m then some (.agg vs) else none | none=>none
          | none=>none
        | some false=>match cs[off]? with | some e=>some (.one e) | none=>none
        | none=>none
      | none=>none
    | _=>none
def A4h(P:Program)(σ:S):List ResultVar→Option (List RV)
  | []=>some []
  | r::rs=>match resE P σ r,A4h P σ rs with | some x,some l=>some (x::l) | _,_=>none
def B2p:List Value→Value
  | [x]=>x
  | l=>.tuple l.toArray
section
variable {P:Program} {w0:World} {own:List Nat} {n:Nat} {σ:S} {ns:List Nat} {a:Act} {w:World}
theorem B8j(hI:St w0 own n σ ns a w){r:ResultVar}{x:RV}(h:resE P σ r=some x):
    (match r with | .tmp t=>(pure (a.tmps.getD t undef):Sem Value) | .cell b t=>do loadVar t (← asAddr (a.tmps.getD b undef))).run P w=.ok (x.den ns) w:=by
  cases r with
  | tmp t=>
    simp only [resE] at h;cases ho:I9 σ.env [] (.tmp t) with
    | none=>rw [ho] at h;cases h
    | some e=>
      rw [ho] at h;simp only [Option.some.injEq] at h;subst h;simp only [Sem.run_pure,hI.at_ ho];rfl
  | cell t T =>
    simp only [resE] at h;split at h
    · rename_i k off ho;split at h
      · rename_i cs U hk;have ha:=hI.at_ ho;simp only [Sem.run_bind,ha,EV.den,asAddr,Sem.run_pure,Result.andThen_ok];split at h
        · rename_i hg;split at h
          · rename_i m hs;split at h
            · rename_i vs hv;simp only [Bool.cond_eq_ite] at h;split at h
              · rename_i hm;simp only [Option.some.injEq] at h;subst h;have hlen:=Nat.eq_of_beq_eq_true hm;refine A2d hg (by rw [hs,hlen]) (fun j x hj=>?_);rw [V8];rw [← A3s (ns:=ns) hv,List.getElem?_map] at hj;obtain ⟨y,hy,rfl⟩:=Option.map_eq_some_iff.1 hj;rw [List.getElem?_take] at hy;split at hy
                · rw [List.getElem?_drop] at hy;exact hI.loc.cell hk hy
                · cases hy
              · cases h
            · cases h
          · cases h
        · rename_i hg;split at h
          · rename_i e he;simp only [Option.some.injEq] at h;subst h;exact A3j hg (hI.loc.cell hk he)
          · cases h
        · cases h
      · cases h
    · cases h
theorem B0e(hI:St w0 own n σ ns a w):∀ {rs:List ResultVar} {xs:List RV},A4h P σ rs=some xs→
    (rs.mapM fun (r:ResultVar)=>match r with | .tmp t=>(pure (a.tmps.getD t undef):Sem Value) | .cell b t=>do loadVar t (← asAddr (a.tmps.getD b undef))).run P w=.ok (xs.map (RV.den ns)) w
  | [],xs,h=>by simp only [A4h,Option.some.injEq] at h;subst h;simp [Sem.run_pure]
  | r ::rs,xs,h=>by
    simp only [A4h] at h;split at h
    · rename_i x l hx hl;simp only [Option.some.injEq] at h;subst h;rw [List.mapM_cons];simp only [Sem.run_bind,B8j hI hx,Result.andThen_ok,B0e hI hl,Sem.run_pure,List.map_cons]
    · cases h
theorem A54{fn:Func}{rs:List ResultVar}{xs:List RV}(hI:St w0 own n σ ns a w)(hres:fn.results=rs.toArray)(h:A4h P σ rs=some xs):(results fn a.tmps).run P w=.ok (B2p (xs.map (RV.den ns))) w:=by
  have h1:=B0e hI h;unfold results;rw [hres];rw [List.mapM_toArray];simp only [Sem.run_bind,Functor.map];have h2:(Sem.bind (rs.mapM fun (r:ResultVar)=>match r with | .tmp t=>(pure (a.tmps.getD t undef):Sem Value) | .cell b t=>do loadVar t (← asAddr (a.tmps.getD b undef))) (Sem.pure∘List.toArray)).run P w=.ok (xs.map (RV.den ns)).toArray w:=by
    show ((rs.mapM fun (r:ResultVar)=>match r with | .tmp t=>(pure (a.tmps.getD t undef):Sem Value) | .cell b t=>do loadVar t (← asAddr (a.tmps.getD b undef))) >>= fun l=>pure l.toArray).run P w=_;rw [Sem.run_bind,h1];simp [Sem.run_pure]
  refine Eq.trans (congrArg (fun r=>Result.andThen r _) h2) ?_;simp only [Result.andThen_ok,Sem.run_pure];cases xs with
  | nil=>rfl
  | cons x l=>
    cases l with
    | nil=>rfl
    | cons y l=>simp [B2p]
theorem A1q{fn:Func}{R:Ending→World→Prop}{rs:List ResultVar}{xs:List RV}(hI:St w0 own n σ ns a w)(hres:fn.results=rs.toArray)(h:A4h P σ rs=some xs)(hR:R (.returned (B2p (xs.map (RV.den ns)))) w)(hlo:σ.lo=none:=by rfl):bodyPost P fn R .ret a w:=by
  refine ⟨hI.nodefers hlo,_,?_,hR⟩;exact A54 hI hres h
end
inductive Ds where
  | q (prods:List Nat) (orc:List (List Value))
  | al
  | st (prod:Nat) (srcs:List Nat)
  deriving Inhabited
inductive Rs where
  | q (d:Tmp) (e:EV) (obs:List Ob)
  | al (d:Tmp) (T:TypeId) (zs:List Value)
  | st (i:Nat) (es:List Value)
def O8(o:Oper)(k:Nat):Bool:=o.after.any fun e=>Region.binds .any e&&Nat.beq e.on k
def Rs.ent:Rs→Option Ent
  | .q d e _=>some ⟨d,[],e⟩
  | _=>none
def A7n(tb:List Rs):List Nat→Option (List Ent)
  | []=>some []
  | k::r=>match tb[k]?,A7n tb r with | some x,some l=>(match x.ent with | some y=>some (y::l) | none=>none) | _,_=>none
def Rs.dst:Rs→Option Tmp
  | .q d _ _=>some d
  | .al d _ _=>some d
  | .st .. =>none
def Rs.isSt(i:Nat):Rs→Bool
  | .st j _=>Nat.beq j i
  | _=>false
def chkQ(P:Program)(σ:S)(o:Oper)(env:List Ent)(orc:List (List Value)):Option (EV×List Ob):=
  let σ1:S:=⟨env++σ.env,[],[],σ.bs,σ.lo,σ.pin⟩
  match A1e σ1 [] o with
  | some (f,es,cs)=>
    match A23 es cs,orc with
    | some args,[[v]]=>some (.v v,[.call true f args v])
    | _,_=>none
  | none=>
    match A5b P σ1 [] orc o with
    | some (.val e obs [])=>some (e,obs)
    | _=>none
def A40{α:Type}:Option α→Bool
  | none=>true
  | _=>false
def A9x(σ:S)(tb:List Rs)(d:Tmp):Bool:=σ.env.all (fun x=>!Nat.beq x.t d)&&tb.all (fun x=>match x.dst with | some d'=>!Nat.beq d' d | none=>true)
def A5a (P : Program)(σ:S)(n:Nat)(tb:List Rs)(o:Oper):Ds→Option Rs
  | .q prods orc=>
    match o.dst with
    | some d=>
      bif A40 o.guard&&Nat.blt d n&&A9x σ tb d&&prods.all (O8 o) then
        match A7n tb prods with
        | some env=>match chkQ P σ o env orc with | some (e,obs)=>bif e.wf σ.bs.length then some (.q d e obs) else none | none=>none
        | none=>none
      else none
    | none=>none
  | .al =>
    match o.dst,o.op with
    | some d,.alloc T=>
      bif A40 o.guard&&Nat.blt d n&&A9x σ tb d then
        match P.info? T with | some i=>(match i.zero with | some z=>some (.al d T z.cells.toList) | none=>none) | none=>none
      else none
    | _,_=>none
  | .st prod srcs=>
    match o.op,tb[prod]? with
    | .store T (.tmp dx) y,some (.al d U zs)=>
      bif A40 o.guard&&A40 o.dst&&Nat.beq dx d&&O8 o prod&&srcs.all (O8 o)&&tb.all (fun x=>!x.isSt prod) then
        match A7n tb srcs with
        | some env=>
          match I9 (env++σ.env) [] y with
          | some ey=>
            match A4v ey with
            | some es=>
              match A3v es,szT P T with
              | some vs,some k=>bif Nat.beq vs.length k&&Nat.beq vs.length zs.length&&vs.all B0y then some (.st prod vs) else none
              | _,_=>none
            | none=>none
          | none=>none
        | none=>none
      else none
    | _,_=>none
def A25(P:Program)(σ:S)(n:Nat):List Rs→List Oper→List Ds→Option (List Rs)
  | tb,[],[]=>some tb
  | tb,o::l,d::ds=>match A5a P σ n tb o d with | some x=>A25 P σ n (tb++[x]) l ds | none=>none
  | _,_,_=>none
theorem A4n{P:Program}{σ:S}{n:Nat}:∀ {l:List Oper} {ds:List Ds} {tb rs:List Rs},A25 P σ n tb l ds=some rs→tb <+: rs∧rs.length=tb.length+l.length∧∀i o,l[i]? =some o→∃d x,A5a P σ n (rs.take (tb.length+i)) o d=some x∧rs[tb.length+i]? =some x
  | [],[],tb,rs,h=>by
    simp only [A25,Option.some.injEq] at h;subst h;exact ⟨List.prefix_refl _,by simp,fun i o hi=>by simp at hi⟩
  | o ::l,d::ds,tb,rs,h=>by
    simp only [A25] at h;split at h
    · rename_i x hx;obtain ⟨h1,h2,h3⟩:=A4n h;obtain ⟨t,ht⟩:=h1;have hpre:tb <+: rs:=⟨x::t,by rw [← ht];simp⟩;refine ⟨hpre,by rw [h2];simp;omega,fun i o' hi=>?_⟩;cases i with
      | zero=>
        simp only [List.getElem?_cons_zero,Option.some.injEq] at hi;subst hi;refine ⟨d,x,?_,?_⟩
        · rw [← ht];simp [List.take_append_of_le_length,hx]
        · rw [← ht];simp
      | succ i=>
        obtain ⟨d',x',g1,g2⟩:=h3 i o' (by simpa using hi);have:(tb++[x]).length+i=tb.length+(i+1):=by simp;omega
        rw [this] at g1 g2;exact ⟨d',x',g1,g2⟩
    · cases h
  | [],_::_,_,_,h=>by simp [A25] at h
  | _::_,[],_,_,h=>by simp [A25] at h
section
variable {F:Fence} {m:Nat} {P:Program} {w0:World} {own:List Nat} {n:Nat} {σ:S} {ns:List Nat} {a:Act} {w:World} {o:Oper} {ops:Array Oper} {Q:Exit→Act→World→Prop}
theorem A62(hF:E9 F){env:List Ent}{orc:List (List Value)}{e:EV}{obs:List Ob}(hI:Inv w0 own n ⟨env++σ.env,[],[],σ.bs,σ.lo,σ.pin⟩ ns a w)(hg:o.guard=none)(h:chkQ P σ o env orc=some (e,obs))(hob:Obs P w0 own obs)
    {K:Act→World→Prop} (hK:∀w',Below w.heap.size w w'→K (a.put o.dst (e.den ns)) w'):(if Region.wanted o (yielded ops a.tmps)=true then o.wpIn F m P a w K Q else (∀f,o.about P w a.eval=some f→F.fn f)∧K (a.put o.dst undef) w):=by
  have hw:Region.wanted o (yielded ops a.tmps)=true:=C2 hg;rw [if_pos hw];unfold chkQ at h;simp only at h;split at h
  · rename_i f es cs hco;split at h
    · rename_i args v hargs;simp only [Option.some.injEq,Prod.mk.injEq] at h;obtain ⟨rfl,rfl⟩:=h;obtain ⟨hent,hcall⟩:=hob.1 rfl;obtain ⟨hnd,hrun⟩:=A24 hI rfl hco hent;unfold Oper.wpIn;refine ⟨fun f _=>hF.fn f,?_⟩;rw [Oper.semAt_plain F _ _ hnd,hrun,Oper.uponIn_enter];refine ⟨fun hd=>by rw [hF.depth] at hd;simp at hd,?_⟩;rw [A3w hargs];refine (hF.calls (hcall w hI.loc.base)).mono ?_;rintro e w1 ⟨rfl,hbl⟩;exact hK _ hbl
    · cases h
  · split at h
    · rename_i e1 obs1 he;simp only [Option.some.injEq,Prod.mk.injEq] at h;obtain ⟨rfl,rfl⟩:=h;have hnd:∀c,o.op≠ .defer c:=by
        intro c hc;unfold A5b at he;rw [hc] at he;simp only at he;unfold evD at he;rw [hc] at he;simp [A2v] at he
      unfold Oper.wpIn;refine ⟨fun f _=>hF.fn f,?_⟩;rw [Oper.semAt_plain F _ _ hnd,A9t hI rfl he hob];exact hK w (Below.refl _ _)
    · cases h
end
def Lst(listed:Array Bool)(i:Nat):Prop:=listed[i]? =some true
structure Cont (rs:List Rs) (listed:Array Bool) (i:Nat) (zs c:List Value):Prop where
  yes:∀s es,rs[s]? =some (.st i es)→Lst listed s→c=es
  no:(∀s es,rs[s]? =some (.st i es)→¬Lst listed s)→c=zs
  len:c.length=zs.length
structure DJ (w0:World) (own:List Nat) (n:Nat) (σ:S) (ns:List Nat) (rs:List Rs) (listed:Array Bool) (nm:Nat→Nat) (a:Act) (w:World):Prop where
  base:Inv w0 own n σ ns a w
  q:∀i d e obs,rs[i]? =some (.q d e obs)→Lst listed i→a.tmps[d]? =some (e.den ns)
  al:∀i d T zs,rs[i]? =some (.al d T zs)→Lst listed i→a.tmps[d]? =some (.pointer (some ⟨nm i,0,none⟩))∧w0.heap.size≤nm i∧nm i∉ns∧nm i<w.heap.size∧∃c,w.heap[nm i]? =some (.cells c.toArray T (0,0))∧Cont rs listed i zs c
  inj:∀i j d T zs d' T' zs',rs[i]? =some (.al d T zs)→Lst listed i→rs[j]? =some (.al d' T' zs')→Lst listed j→i≠j→nm i≠nm j
  ord:∀s i es,rs[s]? =some (.st i es)→Lst listed s→Lst listed i
theorem A6c{listed:Array Bool}{i k:Nat}(hi:i<listed.size):Lst (listed.setIfInBounds i true) k↔Lst listed k∨k=i:=by
  unfold Lst;rw [Array.getElem?_setIfInBounds];by_cases h:i=k
  · subst h;simp [hi]
  · rw [if_neg h];exact ⟨.inl,fun hh=>hh.elim id fun e=>absurd e.symm h⟩
section
variable {F:Fence} {m:Nat} {P:Program} {w0:World} {own:List Nat} {n:Nat} {σ:S} {ns:List Nat} {a:Act} {w:World} {o:Oper} {Q:Exit→Act→World→Prop}
theorem Inv.put_other(hI:Inv w0 own n σ ns a w){d:Tmp}{v:Value}(hd:∀x∈σ.env,x.t≠d):Inv w0 own n σ ns (a.put (some d) v) w:=by
  refine ⟨by simp [Act.put,hI.size],hI.defers,fun x hx=>?_,hI.ewf,hI.bwf,hI.gi,hI.loc,hI.pin⟩;simp only [Act.put,Array.getElem?_setIfInBounds];rw [if_neg (fun h=>hd x hx h.symm)];exact hI.env x hx
theorem A3i(hsz:a.tmps.size=n){d k:Nat}{v:Value}(hd:d<n):(a.put (some d) v).tmps[k]? =if k=d then some v else a.tmps[k]? :=by
  simp only [Act.put,Array.getElem?_setIfInBounds];by_cases h:d=k
  · subst h;simp [hsz,hd]
  · rw [if_neg h,if_neg (Ne.symm h)]
variable {l:List Oper} {ds:List Ds} {rs:List Rs} {listed:Array Bool} {nm:Nat→Nat}
theorem A5q{tb:List Rs}{d:Tmp}(h:A9x σ tb d=true):(∀x∈σ.env,x.t≠d)∧∀x∈tb,x.dst≠some d:=by
  unfold A9x at h;simp only [Bool.and_eq_true,List.all_eq_true] at h;refine ⟨fun x hx he=>?_,fun x hx he=>?_⟩
  · have:=h.1 x hx;rw [he] at this;simp at this
  · have:=h.2 x hx;rw [he] at this;simp at this
theorem B20{tb:List Rs}{d:Ds}{x:Rs}(h:A5a P σ n tb o d=some x):o.guard=none∧o.dst=x.dst∧∀t,x.dst=some t→t<n∧A9x σ tb t=true:=by
  have hn:∀ {α:Type} {z:Option α},A40 z=true→z=none:=fun {α z} h=>by cases z<;>simp_all [A40]
  cases d with
  | q prods orc=>
    simp only [A5a,Bool.cond_eq_ite] at h
    repeat' (split at h)
    all_goals first | (cases h;done) | skip
    rename_i t ht hb _ env henv _ e obs hq hw;simp only [Option.some.injEq] at h;subst h;simp only [Bool.and_eq_true] at hb;exact ⟨hn hb.1.1.1,ht,fun t' ht'=>by cases ht';exact ⟨by simpa using hb.1.1.2,hb.1.2⟩⟩
  | al=>
    simp only [A5a,Bool.cond_eq_ite] at h
    repeat' (split at h)
    all_goals first | (cases h;done) | skip
    rename_i t T ht hop hb _ i hi _ z hz;simp only [Option.some.injEq] at h;subst h;simp only [Bool.and_eq_true] at hb;exact ⟨hn hb.1.1,ht,fun t' ht'=>by cases ht';exact ⟨by simpa using hb.1.2,hb.2⟩⟩
  | st prod srcs=>
    simp only [A5a,Bool.cond_eq_ite] at h
    repeat' (split at h)
    all_goals first | (cases h;done) | skip
    simp only [Option.some.injEq] at h;subst h;simp only [Bool.and_eq_true] at*
    rename_i hb hb2;exact ⟨hn hb.1.1.1.1.1,hn hb.1.1.1.1.2,fun t' ht'=>by cases ht'⟩
theorem B1x(h:A25 P σ n [] l ds=some rs){i k:Nat}{x y:Rs}{t:Tmp}(hi:rs[i]? =some x)(hk:rs[k]? =some y)(hx:x.dst=some t)(hy:y.dst=some t):i=k:=by
  obtain ⟨_,hlen,hat⟩:=A4n h;have key:∀(i k:Nat) (x y:Rs),rs[i]? =some x→rs[k]? =some y→x.dst=some t→y.dst=some t→i<k→False:=by
    intro i k x y hi hk hx hy hlt;have hkl:k<l.length:=by
      have:=(List.getElem?_eq_some_iff.1 hk).1;simp at hlen;omega
    obtain ⟨d,z,h1,h2⟩:=hat k _ (List.getElem?_eq_getElem hkl);simp only [List.length_nil,Nat.zero_add] at h1 h2;rw [hk] at h2;simp only [Option.some.injEq] at h2;subst h2;obtain ⟨_,_,hf⟩:=B20 h1;have:=(A5q (hf t hy).2).2 x (List.mem_of_getElem? (i:=i) (by rw [List.getElem?_take,if_pos hlt];exact hi));exact this hx
  rcases Nat.lt_trichotomy i k with hh | hh | hh
  · exact (key i k x y hi hk hx hy hh).elim
  · exact hh
  · exact (key k i y x hk hi hy hx hh).elim
theorem A5h{i k:Nat}(hr:i∈Region.ready .any l.toArray listed)(ho:l[i]? =some o)(hb:O8 o k=true):Lst listed k:=by
  obtain ⟨_,o',ho',hall⟩:=mem_ready.1 hr;have:o'=o:=by simpa [ho] using ho'.symm
  subst this;unfold O8 at hb;rw [Array.any_eq_true'] at hb;obtain ⟨e,he,hb⟩:=hb;simp only [Bool.and_eq_true] at hb;have hk:=Nat.eq_of_beq_eq_true hb.2;subst hk;have:=hall e he hb.1;unfold Lst;rw [Array.getD_eq_getD_getElem?] at this;cases hh:listed[e.on]? with
  | none=>rw [hh] at this;cases this
  | some b=>rw [hh] at this;simp at this;rw [this]
theorem A9q{tb:List Rs}:∀ {ks:List Nat} {env:List Ent},A7n tb ks=some env→∀x∈env,∃k d e obs,k∈ks∧tb[k]? =some (.q d e obs)∧x=⟨d,[],e⟩
  | [],env,h,x,hx=>by simp only [A7n,Option.some.injEq] at h;subst h;simp at hx
  | k :: r,env,h,x,hx=>by
    simp only [A7n] at h;split at h
    · rename_i y l hy hl;split at h
      · rename_i z hz;simp only [Option.some.injEq] at h;subst h;rcases List.mem_cons.1 hx with rfl | hx
        · cases y with
          | q d e obs=>simp only [Rs.ent,Option.some.injEq] at hz;exact ⟨k,d,e,obs,by simp,hy,hz.symm⟩
          | _=>simp [Rs.ent] at hz
        · obtain ⟨k',d,e,obs,g1,g2,g3⟩:=A9q hl x hx;exact ⟨k',d,e,obs,List.mem_cons_of_mem _ g1,g2,g3⟩
      · cases h
    · cases h
end
section
variable {F:Fence} {m:Nat} {P:Program} {w0:World} {own:List Nat} {n:Nat} {σ:S} {ns:List Nat} {a:Act} {w:World} {o:Oper} {Q:Exit→Act→World→Prop}
variable {l:List Oper} {ds:List Ds} {rs:List Rs} {listed:Array Bool} {nm:Nat→Nat}
theorem B7b{tb:List Rs}{d:Ds}{t:Tmp}{e:EV}{obs:List Ob}(h:A5a P σ n tb o d=some (.q t e obs)):∃prods orc env,prods.all (O8 o)=true∧A7n tb prods=some env∧chkQ P σ o env orc=some (e,obs)∧e.wf σ.bs.length=true:=by
  cases d with
  | q prods orc=>
    simp only [A5a,Bool.cond_eq_ite] at h
    repeat' (split at h)
    all_goals first | (cases h;done) | skip
    rename_i t ht hb _ env henv _ e obs hq hw;simp only [Option.some.injEq,Rs.q.injEq] at h;obtain ⟨_,rfl,rfl⟩:=h;simp only [Bool.and_eq_true] at hb;exact ⟨prods,orc,env,hb.2,henv,hq,hw⟩
  | al=>
    simp only [A5a,Bool.cond_eq_ite] at h
    repeat' (split at h)
    all_goals first | (cases h;done) | simp at h
  | st prod srcs=>
    simp only [A5a,Bool.cond_eq_ite] at h
    repeat' (split at h)
    all_goals first | (cases h;done) | simp at h
theorem B88{tb:List Rs}{d:Ds}{t:Tmp}{T:TypeId}{zs:List Value}(h:A5a P σ n tb o d=some (.al t T zs)):∃i z,o.op=.alloc T∧P.info? T=some i∧i.zero=some z∧zs=z.cells.toList:=by
  cases d with
  | al=>
    simp only [A5a,Bool.cond_eq_ite] at h
    repeat' (split at h)
    all_goals first | (cases h;done) | skip
    rename_i t T ht hop hb _ i hi _ z hz;simp only [Option.some.injEq,Rs.al.injEq] at h;obtain ⟨_,rfl,rfl⟩:=h;exact ⟨i,z,hop,hi,hz,rfl⟩
  | q prods orc=>
    simp only [A5a,Bool.cond_eq_ite] at h
    repeat' (split at h)
    all_goals first | (cases h;done) | simp at h
  | st prod srcs=>
    simp only [A5a,Bool.cond_eq_ite] at h
    repeat' (split at h)
    all_goals first | (cases h;done) | simp at h
theorem B5p{tb:List Rs}{d:Ds}{i:Nat}{vs:List Value}(h:A5a P σ n tb o d=some (.st i vs)):∃T y t U zs srcs env ey es,o.op=.store T (.tmp t) y∧tb[i]? =some (.al t U zs)∧O8 o i=true∧srcs.all (O8 o)=true∧
    (tb.all fun x=>!x.isSt i)=true∧A7n tb srcs=some env∧I9 (env++σ.env) [] y=some ey∧A4v ey=some es∧A3v es=some vs∧szT P T=some vs.length∧vs.length=zs.length∧vs.all B0y=true:=by
  cases d with
  | st prod srcs=>
    simp only [A5a,Bool.cond_eq_ite] at h
    repeat' (split at h)
    all_goals first | (cases h;done) | skip
    rename_i T dx y t U zs hop htb hb _ env henv _ ey hey _ es hes _ _ vs k hvs hk hb2;simp only [Option.some.injEq,Rs.st.injEq] at h;obtain ⟨rfl,rfl⟩:=h;simp only [Bool.and_eq_true] at hb hb2;have h1:=Nat.eq_of_beq_eq_true hb.1.1.1.2;have h2:=Nat.eq_of_beq_eq_true hb2.1.1;have h3:=Nat.eq_of_beq_eq_true hb2.1.2;subst h1;subst h2;exact ⟨T,y,dx,U,zs,srcs,env,ey,es,hop,htb,hb.1.1.2,hb.1.2,hb.2,henv,hey,hes,hvs,hk,h3,hb2.2⟩
  | q prods orc=>
    simp only [A5a,Bool.cond_eq_ite] at h
    repeat' (split at h)
    all_goals first | (cases h;done) | simp at h
  | al=>
    simp only [A5a,Bool.cond_eq_ite] at h
    repeat' (split at h)
    all_goals first | (cases h;done) | simp at h
end
theorem B31(es:List EV):∀(cs:List EV) (off:Nat),cs.length=off+es.length→A3b cs off es=cs.take off++es:=by
  induction es with
  | nil=>intro cs off h;simp only [A3b,List.append_nil];rw [List.take_of_length_le (by simp at h;omega)]
  | cons e r ih=>
    intro cs off h;simp only [List.length_cons] at h;rw [A3b,ih (cs.set off e) (off+1) (by simp;omega)];rw [List.take_add_one];simp only [List.append_assoc]
    congr 1
    · rw [List.take_set_of_le (Nat.le_refl _)]
    · rw [List.getElem?_set_self (by omega)];rfl
section
variable {F:Fence} {m:Nat} {P:Program} {w0:World} {own:List Nat} {n:Nat} {σ:S} {ns:List Nat} {a:Act} {w:World} {o:Oper} {Q:Exit→Act→World→Prop}
variable {l:List Oper} {ds:List Ds} {rs:List Rs} {listed:Array Bool} {nm:Nat→Nat}
theorem B38{b:Nat}{c vs:List Value}{T:TypeId}(hb:w.heap[b]? =some (.cells c.toArray T (0,0)))(hl:c.length=vs.length)(h1:vs.all B0y=true):
    ∃w',(Go.storeCells ⟨b,0,none⟩ vs.toArray.toList 0).run P w=.ok () w'∧H3 [b] w w'∧w'.heap.size=w.heap.size∧w'.heap[b]? =some (.cells vs.toArray T (0,0)):=by
  have hm:∀(x:List Value),(x.map EV.v).map (EV.den [b])=x:=Y2;have hL:Loc w [b] [b] [(c.map EV.v,T)] w:=by
    refine ⟨rfl,by simp,H3.refl _ _,fun x hx=>.inl hx,fun k cs U hk=>?_⟩;cases k with
    | zero=>
      simp only [List.getElem?_cons_zero,Option.some.injEq,Prod.mk.injEq] at hk;obtain ⟨rfl,rfl⟩:=hk;rw [hm];exact hb
    | succ k=>simp at hk
  obtain ⟨w',hrun,hL',hs⟩:=Loc.storeCells (P:=P) (vs.map EV.v) (fun e he=>by
    obtain ⟨x,hx,rfl⟩:=List.mem_map.1 he;exact List.all_eq_true.1 h1 x hx) [(c.map EV.v,T)] w 0 (c.map EV.v) T 0 0 hL rfl (by simp;omega)
  rw [hm] at hrun;refine ⟨w',by simpa using hrun,hL'.base,hs,?_⟩;have:=hL'.blk 0 _ T rfl;rw [B31 _ _ _ (by simp;omega)] at this
  simpa [hm] using this
theorem DJ.inv(hJ:DJ w0 own n σ ns rs listed nm a w)(hp:∀x∈σ.env,x.p=[]){env:List Ent}(henv:∀x∈env,∃k d e obs,rs[k]? =some (.q d e obs)∧Lst listed k∧x=⟨d,[],e⟩∧e.wf σ.bs.length=true):Inv w0 own n ⟨env++σ.env,[],[],σ.bs,σ.lo,σ.pin⟩ ns a w:=by
  refine ⟨hJ.base.size,hJ.base.defers,fun x hx=>?_,fun x hx=>?_,hJ.base.bwf,fun x hx=>by simp at hx,hJ.base.loc,hJ.base.pin⟩
  · rcases List.mem_append.1 hx with hx | hx
    · obtain ⟨k,d,e,obs,h1,h2,rfl,_⟩:=henv x hx
      simpa [K0,gvv] using hJ.q k d e obs h1 h2
    · have:=hJ.base.env x hx;rw [hp x hx] at this ⊢
      simpa [K0,gvv] using this
  · rcases List.mem_append.1 hx with hx | hx
    · obtain ⟨k,d,e,obs,h1,h2,rfl,h4⟩:=henv x hx;exact ⟨h4,fun y hy=>by simp at hy⟩
    · exact ⟨(hJ.base.ewf x hx).1,by rw [hp x hx];intro y hy;simp at hy⟩
theorem B8m(h:A25 P σ n [] l ds=some rs){k:Nat}{d:Tmp}{e:EV}{obs:List Ob}(hk:rs[k]? =some (.q d e obs)):e.wf σ.bs.length=true:=by
  obtain ⟨_,hlen,hat⟩:=A4n h;have hkl:k<l.length:=by have:=(List.getElem?_eq_some_iff.1 hk).1;simp at hlen;omega
  obtain ⟨dd,z,h1,h2⟩:=hat k _ (List.getElem?_eq_getElem hkl);simp only [List.length_nil,Nat.zero_add] at h1 h2;rw [hk] at h2;simp only [Option.some.injEq] at h2;subst h2;obtain ⟨_,_,_,_,_,_,hw⟩:=B7b h1;exact hw
theorem A8w(h:A25 P σ n [] l ds=some rs){i:Nat}(hr:i∈Region.ready .any l.toArray listed)(ho:l[i]? =some o){ks:List Nat}{env:List Ent}(hb:ks.all (O8 o)=true)(he:A7n (rs.take i) ks=some env):
    ∀x∈env,∃k d e obs,rs[k]? =some (.q d e obs)∧Lst listed k∧x=⟨d,[],e⟩∧e.wf σ.bs.length=true:=by
  intro x hx;obtain ⟨k,d,e,obs,g1,g2,g3⟩:=A9q he x hx;rw [List.getElem?_take] at g2;split at g2
  · exact ⟨k,d,e,obs,g2,A5h hr ho (List.all_eq_true.1 hb k g1),g3,B8m h g2⟩
  · cases g2
end
section
variable {F:Fence} {m:Nat} {P:Program} {w0:World} {own:List Nat} {n:Nat} {σ:S} {ns:List Nat} {a:Act} {w:World} {o:Oper} {Q:Exit→Act→World→Prop}
variable {l:List Oper} {ds:List Ds} {rs:List Rs} {listed:Array Bool} {nm:Nat→Nat}
theorem Cont.same{i k:Nat}{zs c:List Value}(h:Cont rs listed k zs c)(hsz:i<listed.size)(hx:∀j es,rs[i]? ≠some (.st j es)):Cont rs (listed.setIfInBounds i true) k zs c:=by
  refine ⟨fun s es hs hl=>?_,fun hn=>h.no fun s es hs hl=>hn s es hs ((A6c hsz).2 (.inl hl)),h.len⟩;rcases (A6c hsz).1 hl with hl | rfl
  · exact h.yes s es hs hl
  · exact absurd hs (hx _ _)
theorem DJ.step(hF:E9 F)(h:A25 P σ n [] l ds=some rs)(hp:∀x∈σ.env,x.p=[])(hob:∀(i:Nat) d e obs,rs[i]? =some (.q d e obs)→Obs P w0 own obs)(hJ:DJ w0 own n σ ns rs listed nm a w){i:Nat}(hr:i∈Region.ready .any l.toArray listed)
    {K:Act→World→Prop} (hK:∀nm' a' w',DJ w0 own n σ ns rs (listed.setIfInBounds i true) nm' a' w'→K a' w'):wpOpIn F m P l.toArray Q i K a w:=by
  obtain ⟨hun,o,ho,hall⟩:=mem_ready.1 hr;have ho':l[i]? =some o:=by simpa using ho
  have hsz:i<listed.size:=by
    rw [Array.getD_eq_getD_getElem?] at hun;cases hh:listed[i]? with
    | none=>rw [hh] at hun;cases hun
    | some b=>exact (Array.getElem?_eq_some_iff.1 hh).1
  have hnl:¬Lst listed i:=by
    intro hl;unfold Lst at hl;rw [Array.getD_eq_getD_getElem?,hl] at hun;cases hun
  obtain ⟨_,hlen,hat⟩:=A4n h;obtain ⟨dd,x,h1,h2⟩:=hat i o ho';simp only [List.length_nil,Nat.zero_add] at h1 h2;obtain ⟨hg,hd,hfr⟩:=B20 h1;have hw:Region.wanted o (yielded l.toArray a.tmps)=true:=C2 hg;unfold wpOpIn;simp only [ho];have hst:∀k,Lst (listed.setIfInBounds i true) k↔Lst listed k∨k=i:=fun k=>A6c hsz;cases x with
  | q d e obs=>
    obtain ⟨prods,orc,env,g1,g2,g3,g4⟩:=B7b h1;have hI:=hJ.inv hp (A8w h hr ho' g1 g2);obtain ⟨hdn,hdf⟩:=hfr d rfl;have hdd:o.dst=some d:=hd;have hnst:∀j es,rs[i]? ≠some (.st j es):=fun j es hh=>by rw [h2] at hh;cases hh
    refine A62 hF hI hg g3 (hob i d e obs h2) (fun w' hb=>hK nm _ _ ?_);rw [hdd];refine ⟨(hJ.base.below hb).put_other (A5q hdf).1,fun k d' e' obs' hk hl=>?_,fun k d' T zs hk hl=>?_,fun k j d1 T1 z1 d2 T2 z2 hk hlk hj hlj hne=>?_,fun s k es hs hl=>?_⟩
    · rw [A3i hJ.base.size hdn];by_cases hki:k=i
      · subst hki;rw [h2] at hk;simp only [Option.some.injEq,Rs.q.injEq] at hk;obtain ⟨rfl,rfl,_⟩:=hk;rw [if_pos rfl]
      · have hne:d'≠d:=fun hh=>hki (B1x h hk h2 rfl (by rw [hh];rfl));rw [if_neg hne];exact hJ.q k d' e' obs' hk (((hst k).1 hl).resolve_right hki)
    · have hki:k≠i:=fun hh=>by subst hh;rw [h2] at hk;cases hk
      have hne:d'≠d:=fun hh=>hki (B1x h hk h2 rfl (by rw [hh];rfl));obtain ⟨q1,q2,q3,q4,c,q5,q6⟩:=hJ.al k d' T zs hk (((hst k).1 hl).resolve_right hki);exact ⟨by rw [A3i hJ.base.size hdn,if_neg hne];exact q1,q2,q3,Nat.lt_of_lt_of_le q4 hb.size,c,by rw [hb.block _ q4];exact q5,q6.same hsz hnst⟩
    · have e1:k≠i:=fun hh=>by subst hh;rw [h2] at hk;cases hk
      have e2:j≠i:=fun hh=>by subst hh;rw [h2] at hj;cases hj
      exact hJ.inj k j _ _ _ _ _ _ hk (((hst k).1 hlk).resolve_right e1) hj (((hst j).1 hlj).resolve_right e2) hne
    · have e1:s≠i:=fun hh=>by subst hh;rw [h2] at hs;cases hs
      exact (hst k).2 (.inl (hJ.ord s k es hs (((hst s).1 hl).resolve_right e1)))
  | al d T zs=>
    obtain ⟨inf,z,hop,hi,hz,rfl⟩:=B88 h1;obtain ⟨hdn,hdf⟩:=hfr d rfl;have hdd:o.dst=some d:=hd;have hnst:∀j es,rs[i]? ≠some (.st j es):=fun j es hh=>by rw [h2] at hh;cases hh
    have he:A5b P σ [] [] o=some (.new (z.cells.toList.map .v) T none):=by
      unfold A5b;rw [hop];simp [S9,hi,hz]
    obtain ⟨_,_,hrun⟩:=A9s hJ.base he;rw [Y2] at hrun;rw [if_pos hw];unfold Oper.wpIn;refine ⟨fun f _=>hF.fn f,?_⟩;rw [Oper.semAt_plain F _ _ (by rw [hop];intro c hc;cases hc),hrun];show K (a.put o.dst (.pointer (some ⟨w.heap.size,0,none⟩))) (w.alloc (.cells z.cells.toList.toArray T));rw [hdd];refine hK (fun k=>if k=i then w.heap.size else nm k) _ _ ?_;have hb:Below w.heap.size w (w.alloc (.cells z.cells.toList.toArray T)):=(Below.refl _ _).alloc (Nat.le_refl _) _;refine ⟨(hJ.base.below hb).put_other (A5q hdf).1,fun k d' e' obs' hk hl=>?_,fun k d' T' zs' hk hl=>?_,fun k j d1 T1 z1 d2 T2 z2 hk hlk hj hlj hne=>?_,fun s k es hs hl=>?_⟩
    · have hki:k≠i:=fun hh=>by subst hh;rw [h2] at hk;cases hk
      have hne:d'≠d:=fun hh=>hki (B1x h hk h2 rfl (by rw [hh];rfl));rw [A3i hJ.base.size hdn,if_neg hne];exact hJ.q k d' e' obs' hk (((hst k).1 hl).resolve_right hki)
    · by_cases hki:k=i
      · subst hki;rw [h2] at hk;simp only [Option.some.injEq,Rs.al.injEq] at hk;obtain ⟨rfl,rfl,rfl⟩:=hk;simp only [if_true];refine ⟨by rw [A3i hJ.base.size hdn,if_pos rfl],hJ.base.loc.base.size,fun hh=>by have:=hJ.base.loc.lt hh;omega,by simp,z.cells.toList,heap_alloc_new w _,?_⟩;refine ⟨fun s es hs hl=>?_,fun _=>rfl,rfl⟩;rcases (hst s).1 hl with hl | rfl
        · exact absurd (hJ.ord s k es hs hl) hnl
        · exact absurd hs (hnst _ _)
      · have hne:d'≠d:=fun hh=>hki (B1x h hk h2 rfl (by rw [hh];rfl));obtain ⟨q1,q2,q3,q4,c,q5,q6⟩:=hJ.al k d' T' zs' hk (((hst k).1 hl).resolve_right hki);simp only [if_neg hki];exact ⟨by rw [A3i hJ.base.size hdn,if_neg hne];exact q1,q2,q3,Nat.lt_of_lt_of_le q4 hb.size,c,by rw [hb.block _ q4];exact q5,q6.same hsz hnst⟩
    · by_cases e1:k=i
      · subst e1;have e2:j≠k:=fun hh=>hne hh.symm;have:=(hJ.al j _ _ _ hj (((hst j).1 hlj).resolve_right e2)).2.2.2.1;simp only [if_true,if_neg e2];omega
      · by_cases e2:j=i
        · subst e2;have:=(hJ.al k _ _ _ hk (((hst k).1 hlk).resolve_right e1)).2.2.2.1;simp only [if_true,if_neg e1];omega
        · simp only [if_neg e1,if_neg e2];exact hJ.inj k j _ _ _ _ _ _ hk (((hst k).1 hlk).resolve_right e1) hj (((hst j).1 hlj).resolve_right e2) hne
    · have e1:s≠i:=fun hh=>by subst hh;rw [h2] at hs;cases hs
      exact (hst k).2 (.inl (hJ.ord s k es hs (((hst s).1 hl).resolve_right e1)))
  | st b vs =>
    obtain ⟨T,y,t,U,zs,srcs,env,ey,es,hop,htb,hbt,hsr,hnoSt,henv,hey,hes,hvs,hk,hlz,hone⟩:=B5p h1;have hdd:o.dst=none:=hd;have hrb:rs[b]? =some (.al t U zs):=by
      rw [List.getElem?_take] at htb;split at htb
      · exact htb
      · cases htb
    have hlb:=A5h hr ho' hbt;obtain ⟨q1,q2,q3,q4,c,q5,q6⟩:=hJ.al b t U zs hrb hlb;have hI:=hJ.inv hp (A8w h hr ho' hsr henv);have hey':=hI.opnd hey rfl;have hcd:=A4w (ns:=ns) hes;rw [A3s hvs] at hcd;obtain ⟨w',hrun,hkp,hws,hbl⟩:=B38 (P:=P) q5 (by rw [q6.len,hlz]) hone;have hpt:a.eval (.tmp t)=.pointer (some ⟨nm b,0,none⟩):=by simp [Act.eval,Array.getD_eq_getD_getElem?,q1]
    have hrun':(execOp a.eval o).run P w=.ok .skip w':=by
      unfold execOp;rw [hop];have hsz:¬(vs.toArray.size≠vs.length):=by simp
      simp only [hpt,hey',Instr.storeAt,Instr.sureAddr,storeVar,Sem.run_bind,Sem.run_pure,Result.andThen_ok,R9 hk w,hcd,hsz,if_false];rw [hrun];rfl
    rw [if_pos hw];unfold Oper.wpIn;refine ⟨fun f _=>hF.fn f,?_⟩;rw [Oper.semAt_plain F _ _ (by rw [hop];intro c hc;cases hc),hrun'];show K (a.put o.dst undef) w';rw [hdd];refine hK nm _ _ ?_;have hblk:∀k,k<w.heap.size→k≠nm b→w'.heap[k]? =w.heap[k]? :=fun k hk hne=>hkp.block k hk (by simpa using hne);have hLoc:Loc w0 own ns σ.bs w':=by
      have hL:=hJ.base.loc;refine ⟨hL.len,hL.nodup,⟨hkp.os.trans hL.base.os,hkp.tape.trans hL.base.tape,hkp.output.trans hL.base.output,by rw [hws];exact hL.base.size,fun k hk hn=>(hblk k (Nat.lt_of_lt_of_le hk hL.base.size) (by omega)).trans (hL.base.block k hk hn)⟩,hL.ge,fun k cs T hk=>?_⟩;have hm:=hL.mem (List.getElem?_eq_some_iff.1 hk).1;rw [hblk _ (hL.lt hm) (fun hh=>q3 (hh▸hm))];exact hL.blk k cs T hk
    refine ⟨hJ.base.on hLoc,fun k d' e' obs' hk hl=>?_,fun k d' T' zs' hk hl=>?_,fun k j d1 T1 z1 d2 T2 z2 hk hlk hj hlj hne=>?_,fun s k es hs hl=>?_⟩
    · have hki:k≠i:=fun hh=>by subst hh;rw [h2] at hk;cases hk
      exact hJ.q k d' e' obs' hk (((hst k).1 hl).resolve_right hki)
    · have hki:k≠i:=fun hh=>by subst hh;rw [h2] at hk;cases hk
      have hlk:=((hst k).1 hl).resolve_right hki;obtain ⟨p1,p2,p3,p4,c',p5,p6⟩:=hJ.al k d' T' zs' hk hlk;refine ⟨p1,p2,p3,by rw [hws];exact p4,?_⟩;by_cases hkb:k=b
      · subst hkb;rw [hrb] at hk;simp only [Option.some.injEq,Rs.al.injEq] at hk;obtain ⟨rfl,rfl,rfl⟩:=hk;refine ⟨vs,hbl,fun s es' hs hl=>?_,fun hn=>absurd ((hst i).2 (.inr rfl)) (hn i vs h2),hlz⟩;rcases (hst s).1 hl with hl0 | rfl
        · -- an earlier store into the same block:there is none
          exfalso;obtain ⟨hlt⟩:Nonempty (s<l.length):=⟨by have:=(List.getElem?_eq_some_iff.1 hs).1;simp at hlen;omega⟩;rcases Nat.lt_trichotomy s i with hh | hh | hh
          · have:=List.all_eq_true.1 hnoSt (.st k es') (List.mem_of_getElem? (i:=s) (by rw [List.getElem?_take,if_pos hh];exact hs));simp [Rs.isSt] at this
          · subst hh;exact hnl hl0
          · obtain ⟨dd',x',g1,g2⟩:=hat s _ (List.getElem?_eq_getElem hlt);simp only [List.length_nil,Nat.zero_add] at g1 g2;rw [hs] at g2;simp only [Option.some.injEq] at g2;subst g2;obtain ⟨_,_,_,_,_,_,_,_,_,_,_,_,_,hno2,_⟩:=B5p g1;have:=List.all_eq_true.1 hno2 (.st k vs) (List.mem_of_getElem? (i:=i) (by rw [List.getElem?_take,if_pos hh];exact h2));simp [Rs.isSt] at this
        · rw [h2] at hs;simp only [Option.some.injEq,Rs.st.injEq] at hs;exact hs.2
      · refine ⟨c',by rw [hblk _ p4 (hJ.inj k b _ _ _ _ _ _ hk hlk hrb hlb hkb)];exact p5,fun s es' hs hl=>?_,fun hn=>p6.no fun s es' hs hl=>hn s es' hs ((hst s).2 (.inl hl)),p6.len⟩;rcases (hst s).1 hl with hl | rfl
        · exact p6.yes s es' hs hl
        · rw [h2] at hs;simp only [Option.some.injEq,Rs.st.injEq] at hs;exact absurd hs.1.symm hkb
    · have e1:k≠i:=fun hh=>by subst hh;rw [h2] at hk;cases hk
      have e2:j≠i:=fun hh=>by subst hh;rw [h2] at hj;cases hj
      exact hJ.inj k j _ _ _ _ _ _ hk (((hst k).1 hlk).resolve_right e1) hj (((hst j).1 hlj).resolve_right e2) hne
    · rcases (hst s).1 hl with hl | rfl
      · exact (hst k).2 (.inl (hJ.ord s k es hs hl))
      · rw [h2] at hs;simp only [Option.some.injEq,Rs.st.injEq] at hs;rw [← hs.1];exact (hst b).2 (.inl hlb)
end
def finC(rs:List Rs)(i:Nat)(zs:List Value):List Value:=match rs.find? (fun x=>x.isSt i) with | some (.st _ es)=>es | _=>zs
def X8:Nat→List Rs→List (Nat×Tmp×TypeId×List Value)
  | _,[]=>[]
  | i,.al d T zs::r=>(i,d,T,zs)::X8 (i+1) r
  | i,_::r=>X8 (i+1) r
def B5a:List Rs→List Ent
  | []=>[]
  | .q d e _::r=>⟨d,[],e⟩::B5a r
  | _::r=>B5a r
def A52:Nat→List (Nat×Tmp×TypeId×List Value)→List Ent
  | _,[]=>[]
  | k,(_,d,_,_)::r=>⟨d,[],.p k 0⟩::A52 (k+1) r
def A64(σ:S)(rs:List Rs):S:=
  ⟨B5a rs++A52 σ.bs.length (X8 0 rs)++σ.env,[],[],σ.bs++(X8 0 rs).map fun x=>((finC rs x.1 x.2.2.2).map EV.v,x.2.2.1),σ.lo,σ.pin⟩
def A8a:List Rs→List Ob
  | []=>[]
  | .q _ _ obs::r=>obs++A8a r
  | _::r=>A8a r
def A03:Nat→List Oper→Bool
  | _,[]=>true
  | i,o::r=>(o.after.all fun e=>!Region.binds .any e||Nat.blt e.on i)&&A03 (i+1) r
theorem A5f:∀ {rs:List Rs} {i:Nat} {x:Nat×Tmp×TypeId×List Value},x∈X8 i rs→i≤x.1∧rs[x.1 - i]? =some (.al x.2.1 x.2.2.1 x.2.2.2)
  | [],i,x,h=>by simp [X8] at h
  | r ::rs,i,x,h=>by
    have rec_:x∈X8 (i+1) rs→i≤x.1∧(r::rs)[x.1 - i]? =some (.al x.2.1 x.2.2.1 x.2.2.2):=fun h=>by
      obtain ⟨h1,h2⟩:=A5f h;refine ⟨by omega,?_⟩;rw [show x.1 - i=(x.1 - (i+1))+1 by omega,List.getElem?_cons_succ];exact h2
    cases r with
    | al d T zs=>
      simp only [X8,List.mem_cons] at h;rcases h with rfl | h
      · simp
      · exact rec_ h
    | q=>exact rec_ h
    | st=>exact rec_ h
theorem A2n:∀ {rs:List Rs} {i:Nat},(X8 i rs).Pairwise (fun x y=>x.1<y.1)
  | [],i=>by simp [X8]
  | r ::rs,i=>by
    cases r with
    | al d T zs=>
      simp only [X8,List.pairwise_cons];exact ⟨fun y hy=>by have:=(A5f hy).1;omega,A2n (rs:=rs) (i:=i+1)⟩
    | q=>exact A2n (rs:=rs) (i:=i+1)
    | st=>exact A2n (rs:=rs) (i:=i+1)
theorem B0d:∀ {rs:List Rs} {x:Ent},x∈B5a rs→∃(i:Nat) (d:Tmp) (e:EV) (obs:List Ob),rs[i]? =some (Rs.q d e obs)∧x=⟨d,[],e⟩
  | [],x,h=>by simp [B5a] at h
  | r ::rs,x,h=>by
    have rec_:x∈B5a rs→∃(i:Nat) (d:Tmp) (e:EV) (obs:List Ob),(r::rs)[i]? =some (Rs.q d e obs)∧x=⟨d,[],e⟩:=fun h=>by
      obtain ⟨i,d,e,obs,h1,h2⟩:=B0d h;exact ⟨i+1,d,e,obs,by simpa using h1,h2⟩
    cases r with
    | q d e obs=>
      simp only [B5a,List.mem_cons] at h;rcases h with rfl | h
      · exact ⟨0,d,e,obs,rfl,rfl⟩
      · exact rec_ h
    | al=>exact rec_ h
    | st=>exact rec_ h
theorem A42:∀ {l:List (Nat×Tmp×TypeId×List Value)} {k:Nat} {x:Ent},x∈A52 k l→∃j y,l[j]? =some y∧x=⟨y.2.1,[],.p (k+j) 0⟩
  | [],k,x,h=>by simp [A52] at h
  | (i,d,T,zs)::l,k,x,h=>by
    simp only [A52,List.mem_cons] at h;rcases h with rfl | h
    · exact ⟨0,(i,d,T,zs),rfl,rfl⟩
    · obtain ⟨j,y,h1,h2⟩:=A42 h;exact ⟨j+1,y,by simpa using h1,by rw [h2];congr 2;omega⟩
theorem A6f{P:Program}{w0:World}{own:List Nat}:∀ {rs:List Rs},Obs P w0 own (A8a rs)→∀(i:Nat) d e obs,rs[i]? =some (.q d e obs)→Obs P w0 own obs
  | [],h,i,d,e,obs,hi=>by simp at hi
  | r ::rs,h,i,d,e,obs,hi=>by
    cases i with
    | zero=>
      simp only [List.getElem?_cons_zero,Option.some.injEq] at hi;subst hi;simp only [A8a] at h;rw [A2g] at h;exact h.1
    | succ i=>
      simp only [List.getElem?_cons_succ] at hi;cases r with
      | q d' e' obs'=>simp only [A8a] at h;rw [A2g] at h;exact A6f h.2 i d e obs hi
      | al=>exact A6f (rs:=rs) h i d e obs hi
      | st=>exact A6f (rs:=rs) h i d e obs hi
theorem A6t:∀ {l:List Oper} {i:Nat},A03 i l=true→∀j o,l[j]? =some o→∀e∈o.after,Region.binds .any e=true→e.on<i+j
  | [],i,h,j,o,hj,_,_,_=>by simp at hj
  | o'::l,i,h,j,o,hj,e,he,hb=>by
    simp only [A03,Bool.and_eq_true] at h;cases j with
    | zero=>
      simp only [List.getElem?_cons_zero,Option.some.injEq] at hj;subst hj;have:=h.1;rw [Array.all_eq_true_iff_forall_mem] at this;have:=this e he;rw [hb] at this
      simpa using this
    | succ j=>
      have:=A6t h.2 j o (by simpa using hj) e he hb;omega
section
variable {F:Fence} {m:Nat} {P:Program} {w0:World} {own:List Nat} {n:Nat} {σ:S} {ns:List Nat} {a:Act} {w:World} {o:Oper} {Q:Exit→Act→World→Prop}
variable {l:List Oper} {ds:List Ds} {rs:List Rs} {listed:Array Bool} {nm:Nat→Nat}
theorem B3c{ns ms:List Nat}{j:Nat}:(ns++ms).getD (ns.length+j) 0=ms.getD j 0:=by
  rw [List.getD_eq_getElem?_getD,List.getD_eq_getElem?_getD,List.getElem?_append_right (by omega)];congr 2;omega
theorem A6h{ns ms:List Nat}{k:Nat}(h:k<ns.length):(ns++ms).getD k 0=ns.getD k 0:=by
  rw [List.getD_eq_getElem?_getD,List.getD_eq_getElem?_getD,List.getElem?_append_left h]
theorem B23{ns ms:List Nat}(x:Sum Value (Nat×Nat))(h:(match x with | .inl _=>true | .inr (k,_)=>Nat.blt k ns.length)=true):A3x (ns++ms) x=A3x ns x:=by
  cases x with
  | inl=>rfl
  | inr p=>obtain ⟨k,off⟩:=p;simp only [A3x];rw [A6h (by simpa using h)]
theorem B1w{ns ms:List Nat}{e:EV}(h:e.wf ns.length=true):e.den (ns++ms)=e.den ns:=by
  cases e with
  | v=>rfl
  | p k off=>simp only [EV.den];rw [A6h (by simpa [EV.wf] using h)]
  | s k off n c=>simp only [EV.den];rw [A6h (by simpa [EV.wf] using h)]
  | f fn a c=>
    simp only [EV.wf,Bool.and_eq_true,List.all_eq_true] at h;simp only [EV.den];rw [List.map_congr_left (fun x hx=>B23 x (h.1 x hx)),List.map_congr_left (fun x hx=>B23 x (h.2 x hx))]
theorem B2u{e:EV}{i j:Nat}(h:e.wf i=true)(hij:i≤j):e.wf j=true:=by
  have hk:∀k,Nat.blt k i=true→Nat.blt k j=true:=by
    intro k hk;have:k<i:=by simpa using hk
    simp;omega
  cases e with
  | v=>rfl
  | p k off=>exact hk _ h
  | s k off n c=>exact hk _ h
  | f fn x y=>
    simp only [EV.wf,Bool.and_eq_true,List.all_eq_true] at h ⊢;constructor
    · intro z hz;have:=h.1 z hz;cases z with | inl=>rfl | inr q=>exact hk _ this
    · intro z hz;have:=h.2 z hz;cases z with | inl=>rfl | inr q=>exact hk _ this
theorem B9e{i:Nat}{zs c:List Value}(hc:Cont rs listed i zs c)(hl:∀k,k<rs.length→Lst listed k):c=finC rs i zs:=by
  unfold finC;cases hf:rs.find? (fun x=>x.isSt i) with
  | none=>
    refine hc.no fun s es hs _=>?_;have:=List.find?_eq_none.1 hf _ (List.mem_of_getElem? hs);simp [Rs.isSt] at this
  | some x=>
    have hx:=List.find?_some hf;have hm:=List.mem_of_find?_eq_some hf;cases x with
    | st j es=>
      have hj:j=i:=by simpa [Rs.isSt] using hx
      subst hj;obtain ⟨s,hs⟩:=List.getElem?_of_mem hm;exact hc.yes s es hs (hl s (List.getElem?_eq_some_iff.1 hs).1)
    | q=>simp [Rs.isSt] at hx
    | al=>simp [Rs.isSt] at hx
theorem DJ.fin(h:A25 P σ n [] l ds=some rs)(hp:∀x∈σ.env,x.p=[])(hJ:DJ w0 own n σ ns rs listed nm a w)(hl:∀k,k<rs.length→Lst listed k):Inv w0 own n (A64 σ rs) (ns++(X8 0 rs).map fun x=>nm x.1) a w:=by
  have hn:ns.length=σ.bs.length:=hJ.base.loc.len;have hlst:∀ {k:Nat} {x:Rs},rs[k]? =some x→Lst listed k:=fun {k x} hk=>hl k (List.getElem?_eq_some_iff.1 hk).1;have hal:∀x∈X8 0 rs,rs[x.1]? =some (.al x.2.1 x.2.2.1 x.2.2.2):=fun x hx=>by have:=(A5f hx).2;simpa using this
  have hbl:σ.bs.length≤(A64 σ rs).bs.length:=by simp [A64]
  refine ⟨hJ.base.size,hJ.base.defers,fun x hx=>?_,fun x hx=>?_,fun x hx e he=>?_,fun x hx=>by simp [A64] at hx,?_,hJ.base.pin.app _⟩
  · simp only [A64,List.mem_append] at hx;rcases hx with (hx | hx) | hx
    · obtain ⟨i,d,e,obs,h1,rfl⟩:=B0d hx;have:=hJ.q i d e obs h1 (hlst h1);rw [B1w (by rw [hn];exact B8m h h1)]
      simpa [K0,gvv,A64] using this
    · obtain ⟨j,y,h1,rfl⟩:=A42 hx;have hy:=hal y (List.mem_of_getElem? h1);have:=(hJ.al y.1 _ _ _ hy (hlst hy)).1;have e1:(ns++(X8 0 rs).map fun x=>nm x.1).getD (σ.bs.length+j) 0=nm y.1:=by
        rw [← hn,B3c,List.getD_eq_getElem?_getD,List.getElem?_map,h1];rfl
      simp only [K0,gvv,cond_true,EV.den,A64,e1];exact this
    · have:=hJ.base.env x hx;rw [hp x hx] at this;simp only [A64,hp x hx];rw [B1w (by rw [hn];exact (hJ.base.ewf x hx).1)]
      simpa [K0,gvv] using this
  · simp only [A64,List.mem_append] at hx;rcases hx with (hx | hx) | hx
    · obtain ⟨i,d,e,obs,h1,rfl⟩:=B0d hx;exact ⟨B2u (B8m h h1) hbl,fun y hy=>by simp at hy⟩
    · obtain ⟨j,y,h1,rfl⟩:=A42 hx;refine ⟨?_,fun y hy=>by simp at hy⟩;have:=(List.getElem?_eq_some_iff.1 h1).1;simp [EV.wf,A64];omega
    · exact ⟨B2u (hJ.base.ewf x hx).1 hbl,by rw [hp x hx];intro y hy;simp at hy⟩
  · simp only [A64,List.mem_append,List.mem_map] at hx;rcases hx with hx | ⟨y,hy,rfl⟩
    · exact B2u (hJ.base.bwf x hx e he) hbl
    · simp only [List.mem_map] at he;obtain ⟨v,_,rfl⟩:=he;rfl
  · have hL:=hJ.base.loc;refine ⟨by simp [A64,hn],?_,hL.base,fun b hb=>?_,fun k cs T hk=>?_⟩
    · rw [List.nodup_append];refine ⟨hL.nodup,?_,fun x hx y hy=>?_⟩
      · rw [List.nodup_iff_pairwise_ne,List.pairwise_map];have hs:=A2n (rs:=rs) (i:=0);have hs2:(X8 0 rs).Pairwise (fun x y=>x∈X8 0 rs∧y∈X8 0 rs∧x.1<y.1):=hs.imp_of_mem fun hx hy h=>⟨hx,hy,h⟩;exact hs2.imp fun {x y} ⟨hx,hy,hlt⟩=>hJ.inj x.1 y.1 _ _ _ _ _ _ (hal x hx) (hlst (hal x hx)) (hal y hy) (hlst (hal y hy)) (by omega)
      · obtain ⟨z,hz,rfl⟩:=List.mem_map.1 hy;intro hh;exact (hJ.al z.1 _ _ _ (hal z hz) (hlst (hal z hz))).2.2.1 (hh▸hx)
    · rcases List.mem_append.1 hb with hb | hb
      · exact hL.ge b hb
      · obtain ⟨z,hz,rfl⟩:=List.mem_map.1 hb;exact .inr (hJ.al z.1 _ _ _ (hal z hz) (hlst (hal z hz))).2.1
    · simp only [A64] at hk;rcases Nat.lt_or_ge k σ.bs.length with hlt | hge
      · rw [List.getElem?_append_left hlt] at hk;rw [A6h (by omega),List.map_congr_left (fun e he=>B1w (by rw [hn];exact hJ.base.bwf _ (List.mem_of_getElem? hk) e he))];exact hL.blk k cs T hk
      · rw [List.getElem?_append_right hge,List.getElem?_map,Option.map_eq_some_iff] at hk;obtain ⟨y,hy,he⟩:=hk;simp only [Prod.mk.injEq] at he;obtain ⟨rfl,rfl⟩:=he;have hyr:=hal y (List.mem_of_getElem? hy);obtain ⟨_,_,_,_,c,q5,q6⟩:=hJ.al y.1 _ _ _ hyr (hlst hyr);have e1:(ns++(X8 0 rs).map fun x=>nm x.1).getD k 0=nm y.1:=by
          rw [show k=ns.length+(k - σ.bs.length) by omega,B3c,List.getD_eq_getElem?_getD,List.getElem?_map,hy];rfl
        rw [e1,Y2,q5,B9e q6 hl]
theorem B3m{i:Nat}(hback:A03 0 l=true)(hsz:listed.size=l.length)(hr:Region.ready .any l.toArray listed=[]):∀k,k<l.length→Lst listed k:=by
  intro k
  induction k using Nat.strongRecOn with
  | _ k ih=>
    intro hk;apply Classical.byContradiction;intro hn;have hmem:k∈Region.ready .any l.toArray listed:=by
      refine mem_ready.2 ⟨?_,l[k],by simp [hk],fun e he hb=>?_⟩
      · rw [Array.getD_eq_getD_getElem?];have hks:k<listed.size:=by omega
        unfold Lst at hn;rw [Array.getElem?_eq_getElem hks] at hn ⊢;simp only [Option.some.injEq,Bool.not_eq_true] at hn;simp [hn]
      · have hlt:=A6t hback k l[k] (List.getElem?_eq_getElem hk) e he hb;have:=ih e.on (by omega) (by omega);unfold Lst at this;rw [Array.getD_eq_getD_getElem?,this];rfl
    rw [hr] at hmem;simp at hmem
end
section
variable {F:Fence} {m:Nat} {P:Program} {w0:World} {own:List Nat} {n:Nat} {σ σ2:S} {ns:List Nat} {a:Act} {w:World} {o:Oper} {Q:Exit→Act→World→Prop}
variable {l:List Oper} {ds:List Ds} {rs:List Rs} {listed:Array Bool} {nm:Nat→Nat}
def unl(listed:Array Bool):Nat:=((List.range listed.size).filter fun k=>listed.getD k false==false).length
theorem A78{i:Nat}(hi:i<listed.size)(hn:¬Lst listed i):unl (listed.setIfInBounds i true)<unl listed:=by
  unfold unl;have hsz:(listed.setIfInBounds i true).size=listed.size:=by simp
  rw [hsz];have hg:∀k,(listed.setIfInBounds i true).getD k false=if k=i then true else listed.getD k false:=by
    intro k;rw [Array.getD_eq_getD_getElem?,Array.getD_eq_getD_getElem?,Array.getElem?_setIfInBounds];by_cases h:i=k
    · subst h;simp [hi]
    · rw [if_neg h,if_neg (Ne.symm h)]
  have hf:listed.getD i false=false:=by
    unfold Lst at hn;rw [Array.getD_eq_getD_getElem?];rw [Array.getElem?_eq_getElem hi] at hn ⊢
    simpa using hn
  have h1:((List.range listed.size).filter fun k=>(listed.setIfInBounds i true).getD k false==false)=((List.range listed.size).filter fun k=>listed.getD k false==false).filter fun k=>!(k==i):=by
    rw [List.filter_filter];apply List.filter_congr;intro k _;rw [hg];by_cases h:k=i
    · simp [h]
    · simp [h]
  rw [h1];refine List.length_filter_lt_length_iff_exists.2 ⟨i,List.mem_filter.2 ⟨List.mem_range.2 hi,by simp [hf]⟩,by simp⟩
theorem DJ.any(hF:E9 F)(h:A25 P σ n [] l ds=some rs)(hp:∀x∈σ.env,x.p=[])(hback:A03 0 l=true)(hob:∀(i:Nat) d e obs,rs[i]? =some (.q d e obs)→Obs P w0 own obs)
    (K:∀ns' a' w',Inv w0 own n (A64 σ rs) ns' a' w'→Q .normal a' w'):∀(fuel:Nat) (listed:Array Bool) (nm:Nat→Nat) (a:Act) (w:World),listed.size=l.length→unl listed≤fuel→DJ w0 own n σ ns rs listed nm a w→wpAnyIn F m P .any l.toArray Q fuel listed a w:=by
  have hlen:rs.length=l.length:=by have:=(A4n h).2.1;simpa using this
  have hend:∀(listed:Array Bool) (nm:Nat→Nat) (a:Act) (w:World),listed.size=l.length→DJ w0 own n σ ns rs listed nm a w→Region.ready .any l.toArray listed=[]→Q .normal a w:=fun listed nm a w hsz hJ hr=>
    K _ a w (hJ.fin h hp (fun k hk=>B3m (i:=0) hback hsz hr k (by omega)))
  have hnl:∀ {listed:Array Bool} {i:Nat},i∈Region.ready .any l.toArray listed→i<listed.size∧¬Lst listed i:=by
    intro listed i hr;obtain ⟨hun,_⟩:=mem_ready.1 hr;rw [Array.getD_eq_getD_getElem?] at hun;cases hh:listed[i]? with
    | none=>rw [hh] at hun;cases hun
    | some b=>
      rw [hh] at hun;refine ⟨(Array.getElem?_eq_some_iff.1 hh).1,fun hl=>?_⟩;unfold Lst at hl;rw [hh] at hl;simp only [Option.some.injEq] at hl;subst hl;cases hun
  intro fuel
  induction fuel with
  | zero=>
    intro listed nm a w hsz hu hJ;have hr:Region.ready .any l.toArray listed=[]:=by
      cases hh:Region.ready .any l.toArray listed with
      | nil=>rfl
      | cons i r=>
        obtain ⟨h1,h2⟩:=hnl (listed:=listed) (i:=i) (by rw [hh];simp);have:=A78 h1 h2;omega
    exact ⟨hr,hend listed nm a w hsz hJ hr⟩
  | succ fuel ih=>
    intro listed nm a w hsz hu hJ;refine ⟨hend listed nm a w hsz hJ,fun i hi=>?_⟩;obtain ⟨h1,h2⟩:=hnl hi;refine hJ.step hF h hp hob hi (fun nm' a' w' hJ'=>ih _ nm' a' w' (by simpa using hsz) ?_ hJ');have:=A78 h1 h2;omega
theorem B9a{id:Nat}{live:List Nat}(hF:E9 F)(hI:St w0 own n σ ns a w)(ds:List Ds)(rs:List Rs)(σ2:S)(hm:P.follows .mixedOrders=true)(hp:(σ.env.all fun x=>S9 x.p)=true)(hback:A03 0 l=true)
    (h:A25 P σ n [] l ds=some rs) (hf:fin live (A64 σ rs)=some σ2) (hob:Obs P w0 own (A8a rs))
    (K:∀ns' a' w',St w0 own n σ2 ns' a' w'→Q .normal a' w'):(Code.region id l.toArray true).wpIn F m P Q a w:=by
  have hp':∀x∈σ.env,x.p=[]:=fun x hx=>by
    have:=List.all_eq_true.1 hp x hx;cases hh:x.p<;>simp_all [S9]
  refine wpIn_region_any hm (DJ.any (w0:=w0) (own:=own) (ns:=ns) (σ:=σ) (rs:=rs) hF h hp' hback (A6f hob) (fun ns' a' w' hI'=>K ns' a' w' (hI'.fin hf)) _ _ (fun _=>0) _ _ (by simp) ?_ ?_)
  · unfold unl;refine Nat.le_trans (List.length_filter_le _ _) ?_;simp
  · have hno:∀k,¬Lst (Array.replicate l.toArray.size false) k:=by
      intro k hk;unfold Lst at hk;rw [Array.getElem?_replicate] at hk;split at hk<;>cases hk
    have hd:Loc w0 own ns σ.bs {w with drawn:=w.drawn+1}:=hI.loc.below ⟨rfl,rfl,rfl,Nat.le_refl _,fun _ _=>rfl⟩;exact ⟨hI.on hd,fun i d e obs _ hl=>absurd hl (hno i),fun i d T zs _ hl=>absurd hl (hno i),fun i j _ _ _ _ _ _ _ hl=>absurd hl (hno i),fun s i es _ hl=>absurd hl (hno s)⟩
end
def Stp.on{S O T:Type}(o:Stp S O)(f:S→T)(g:O→T):T:=match o with | .next s=>f s | .out r=>g r
@[simp] theorem Stp.on_next{S O T:Type}(s:S)(f:S→T)(g:O→T):(Stp.next s:Stp S O).on f g=f s:=rfl
def Tc(S:Nat→Prop)(w:World):Nat→Prop:=fun b=>S b∧IsC w b
theorem Tc.mv(S:Nat→Prop)(w:World):Mv S w (Tc S w) w:=fun _ hb hc=>⟨⟨hb,hc⟩,rfl⟩
theorem A5s{w w':World}{b:Nat}(h:IsC w b)(e:w'.heap[b]? =w.heap[b]?):IsC w' b:=by
  obtain ⟨_,c,T,f,h2⟩:=h;rw [← e] at h2;exact ⟨(Array.getElem?_eq_some_iff.1 h2).1,c,T,f,h2⟩
structure Tk (T:Nat→Prop) (w:World) (S:Nat→Prop) (w':World):Prop where
  is:∀b,T b→IsC w b∧S b∧w'.heap[b]? =w.heap[b]?
section
variable {T T' X X' X'':Nat→Prop} {w w' w'' A B:World} {ns own:List Nat} {mine:List (List Nat)} {n:Nat} {σ:S} {a:Act} {row:Option Nat} {S0:Nat→Prop} {pm:List Nat} {w00:World} {l:Nat} {P:Program}
theorem Tk.keep(h:Tk T w X w')(hk:Mv X w' X' w''):Tk T w X' w'':=
  ⟨fun b hb=>let ⟨h1,h2,h3⟩:=h.is b hb;let ⟨k1,k2⟩:=hk b h2 (A5s h1 h3);⟨h1,k1,k2.trans h3⟩⟩
theorem Tk.re(h:Tk T w X w'):Tk T w' X w':=⟨fun b hb=>let ⟨h1,h2,h3⟩:=h.is b hb;⟨A5s h1 h3,h2,rfl⟩⟩
theorem Tk.new(X:Nat→Prop)(w:World):Tk (Tc X w) w X w:=⟨fun _ hb=>⟨hb.2,hb.1,rfl⟩⟩
theorem Ep.turn(hE:Ep pm w00 A ns mine)(hI:Inv A ns n σ ns a A)(hg:A.grownBy B row)(hm:l∈mine.flatten)(hrow:row=none∨(row=some l∧∃r,A.heap[l]? =some (.loop r))):
    Ep pm w00 B ns mine∧Inv B ns n σ ns a B∧(∀S0,Mv (Lo S0 w00 A ns mine) A (Lo S0 w00 B ns mine) B)∧(∀b∈mine.flatten,b∉[l]→B.heap[b]? =A.heap[b]?):=by
  have h:=hE.step hI (H3.of_grownBy hg) (mine':=mine) (fun b hb=>by
      rcases hrow with rfl | ⟨rfl,_⟩
      · simp at hb
      · simp at hb;subst hb;exact hm) (fun _ h=>.inl h) hE.dis
    (.inr fun b hb q hq=>by
      rcases hrow with rfl | ⟨rfl,r,hr⟩
      · simp at hb
      · simp at hb;subst hb;rw [hr] at hq;cases hq)
  exact ⟨h.1,h.2.1,h.2.2.1,fun b hb hne=>h.2.2.2 b hb (by
    rcases hrow with rfl | ⟨rfl,_⟩
    · simp
    · exact hne)⟩
theorem Tk.turn(h:Tk T A (Lo S0 w00 A ns mine) A)(hmv:Mv (Lo S0 w00 A ns mine) A (Lo S0 w00 B ns mine) B)(hE:Ep pm w00 A ns mine)(hT:∀b,T' b→T b∨(A.heap.size≤b∧IsC B b)):Tk T' B (Lo S0 w00 B ns mine) B:=by
  refine ⟨fun b hb=>?_⟩;rcases hT b hb with h1 | ⟨h1,h2⟩
  · exact (h.keep hmv).re.is b h1
  · exact ⟨h2,⟨h2.1,fun hh=>by have:=(hE.ow b hh).2;omega,fun hh=>by have:=(hE.mi b hh).2.1;omega,.inl (Nat.le_trans hE.k.size h1)⟩,rfl⟩
end
def SeqEnd{σt R:Type}(J:σt→(Nat→Prop)→World→Prop)(Jx:R→World→Prop)(T:Nat→Prop)(A:World):Stp σt R→Bool→World→Prop
  | .next s,b,B=>b=true∧J s T B∧∀q,T q→B.heap[q]? =A.heap[q]?
  | .out r,b,B=>b=false∧Jx r B
def A36{σt R:Type}(J:σt→(Nat→Prop)→World→Prop)(Jx:R→World→Prop):Stp σt R→World→Prop
  | .next s,B=>∃T,J s T B
  | .out r,B=>Jx r B
structure SeqH {σt α R:Type} (P:Program) (l:Nat) (enc:α→SV→List Value) (fct:(Nat→Prop)→World→α→SV→Prop) (bd:σt→α→Option (Stp σt R))
    (J:σt→(Nat→Prop)→World→Prop) (Jx:R→World→Prop):Prop where
  new:∀s T T' A B,J s T A→Below A.heap.size A B→(∀b,T' b→T b∨(A.heap.size≤b∧IsC B b))→J s T' B
  stop:∀r A B,Jx r A→Below A.heap.size A B→Jx r B
  round:∀s x sv T A z,bd s x=some z→J s T A→fct T A x sv→YieldAt Fence.wide 0 P l (enc x sv).toArray A fun e B=>∃b,e=.returned (.bool b)∧SeqEnd J Jx T A z b B
section
variable {F:Fence} {m:Nat} {P:Program} {wk W:World} {S0:Nat→Prop} {n:Nat} {σ σT σF:S} {a:Act} {o:Oper} {ops:Array Oper} {Q:Exit→Act→World→Prop} {rest:List Oper}
variable {σt α R:Type} {l:Nat} {enc:α→SV→List Value} {fct:(Nat→Prop)→World→α→SV→Prop} {bd:σt→α→Option (Stp σt R)} {J:σt→(Nat→Prop)→World→Prop} {Jx:R→World→Prop}
theorem YieldAt.inF{l:Nat}{args:Array Value}{R:Ending→World→Prop}(hF:E9 F)(h:YieldAt Fence.wide 0 P l args W R){o:Oper}{a:Act}{next:Act→World→Prop}{Q:Exit→Act→World→Prop}
    (K:∀e B,R e B→∃v,e=.returned v∧next (a.put o.dst v) B):o.uponIn F m P a next Q ((Instr.yield l args).run P W):=by
  obtain ⟨fn,tmps,assign,body,hrun,hR⟩:=h;rw [hrun,Oper.uponIn_round];refine ⟨fun hd=>by rw [hF.depth] at hd;simp at hd,?_⟩;have h2:RoundIn F (m - 1) P l fn tmps assign body W R:=by
    rcases hF with rfl | ⟨l',rfl⟩<;>exact ⟨hR.1,fun c cs _=>hR.2 c cs (fun d hd=>by cases hd)⟩
  refine h2.mono fun e B hr=>?_;obtain ⟨v,rfl,hn⟩:=K e B hr;exact hn
theorem Inv.reset{w0:World}{own ns:List Nat}(hI:Inv w0 own n σ ns a W)(hbs:σ.bs=[])(hlo:σ.lo=none)(hp:σ.pin=none)(B:World):Inv B [] n σ [] a B:=by
  have hw:∀e:EV,e.wf σ.bs.length=true→e.den []=e.den ns:=fun e he=>by
    rw [hbs] at he;have:=A5l (ns:=ns) (kb:=0) he
    simpa using this
  refine ⟨hI.size,by have:=hI.defers;rw [hlo] at this ⊢; exact this,fun x hx=>?_,hI.ewf,hI.bwf,hI.gi,⟨by simp [hbs],List.nodup_nil,H3.refl _ _,fun b hb=>by simp at hb,fun k cs T hk=>by rw [hbs] at hk;simp at hk⟩,by rw [hp];trivial⟩;rw [hw x.e (hI.ewf x hx).1];exact hI.env x hx
theorem Tc.new{own:List Nat}{mine:List (List Nat)}:∀b,Tc (Lo S0 wk W own mine) W b→S0 b∨(wk.heap.size≤b∧IsC W b):=fun b hb=>by
  rcases hb.1.2.2.2 with h | h
  · exact .inr ⟨h,hb.2⟩
  · exact .inl h
theorem A36.nxt{B:World}{s:σt}(T:Nat→Prop)(h:J s T B):A36 J Jx (.next s) B:=⟨T,h⟩
theorem A36.fin{B:World}{r:R}(h:Jx r B):A36 J Jx (.out r) B:=h
theorem yield_(hq:SeqH P l enc fct bd J Jx)(hF:E9 F)(hE:Ep [] wk W [] [])(hI:Inv W [] n σ [] a W)(hbs:σ.bs=[])(hlo:σ.lo=none)(hp:σ.pin=none)(hw:Region.wanted o (yielded ops a.tmps)=true)
    {x:Operand} {args:Array Operand} {ats:Array TypeId} (hop:o.op=.call {callee:=.value x,args:=args,argTypes:=ats}) (hx:I9 σ.env [] x=some (.v (.func (.yield l) #[] #[])))
    {es:List EV} (hes:A4y σ.env [] args.toList=some es) {s:σt} (hJ:J s S0 wk) (y:α) (sv:SV) {z:Stp σt R} (hv:A3v es=some (enc y sv)) (hz:bd s y=some z) (hf:fct (Tc (Lo S0 wk W [] []) W) W y sv)
    (σT σF:S) (hT:V0 σ n o.dst [] (some (.v (.bool true)))=some σT) (hFF:V0 σ n o.dst [] (some (.v (.bool false)))=some σF)
    (KT:∀(T:Nat→Prop) s' a' B,z=.next s'→J s' T B→Ep [] B B [] []→Inv B [] n σT [] a' B→Mv (Lo S0 wk W [] []) W T B→wpListIn F m P ops Q rest a' B)
    (KF:∀r a' B,z=.out r→Jx r B→Ep [] B B [] []→Inv B [] n σF [] a' B→wpListIn F m P ops Q rest a' B):wpListIn F m P ops Q (o::rest) a W:=by
  have hJ':=hq.new _ _ _ _ _ hJ hE.k.below (Tc.new (own:=[]) (mine:=[]));have hr:=hq.round s y sv _ _ z hz hJ' hf;unfold wpListIn;rw [hw,if_pos rfl];refine ⟨fun f _=>hF.fn f,?_⟩;rw [Oper.semAt_plain F _ _ (by intro c hc;rw [hop] at hc;cases hc)];have e1:=hI.opnd hx rfl;have e2:=A2l hI rfl hes;rw [A3s hv] at e2;have hex:(execOp a.eval o).run P W=(Instr.yield l (enc y sv).toArray).run P W:=by
    unfold execOp;rw [hop];simp only [resolve,Deferred.ofValue,e1,EV.den,invoke,Sem.run_bind,Sem.run_pure,Result.andThen_ok];have:args.map a.eval=(enc y sv).toArray:=by
      apply Array.ext';simp [← e2]
    simp [this]
  rw [hex];refine YieldAt.inF hF hr fun e B hB=>?_;obtain ⟨b,rfl,hB⟩:=hB;refine ⟨_,rfl,?_⟩;cases z with
  | next s'=>
    obtain ⟨rfl,h1,h2⟩:=hB;exact KT _ s' _ B rfl h1 (Ep.start B) (A21 (hI.reset hbs hlo hp B) _ hT) (fun b hb hc=>⟨⟨hb,hc⟩,h2 b ⟨hb,hc⟩⟩)
  | out r=>
    obtain ⟨rfl,h1⟩:=hB;exact KF r _ B rfl h1 (Ep.start B) (A21 (hI.reset hbs hlo hp B) _ hFF)
end
structure Aft (b:Nat) (w w':World):Prop where
  below:Below b w w'
  cells:∀k,IsC w k→w'.heap[k]? =w.heap[k]?
theorem Aft.refl(b:Nat)(w:World):Aft b w w:=⟨Below.refl _ _,fun _ _=>rfl⟩
section
variable {F:Fence} {m:Nat} {P:Program} {pm:List Nat} {w00 w0 w:World} {own ns:List Nat} {mine:List (List Nat)} {S0:Nat→Prop} {n:Nat} {σ σ2:S} {a:Act} {Q:Exit→Act→World→Prop}
theorem enterM{f:FuncId}{fn:Func}{c:Code}(hf:P.funcs[f]? =some fn)(hb:fn.body=some c)(args:List Value){w:World}{R:Ending→World→Prop}(hn:fn.ntmps=n)(hle:args.length≤n)
    (h:∀a,St w [] n ⟨A63 0 args,[],[],[],some (w.heap.size,none),none⟩ [] a w→c.wpIn Fence.wide 0 P (bodyPostM Fence.wide 0 P fn R) a w):Calls P f args.toArray w R:=by
  refine (callsIn_wide (n:=0)).1 (callsIn_of_wp_marks hf hb trivial (h _ ⟨?_,⟨by simp,List.Pairwise.nil⟩,?_,?_,?_,?_,?_,trivial⟩))
  · simp [hn];omega
  · intro x hx;obtain ⟨h1,v,h2,h3,h4⟩:=A3y hx;rw [h1,h2];have hl:=(List.getElem?_eq_some_iff.1 h4).1;simp only [Nat.sub_zero] at h4 hl;rw [Array.getElem?_append_left (by simpa using hl)]
    simpa [gvv,K0,EV.den] using h4
  · intro x hx;obtain ⟨h1,v,h2,h3,h4⟩:=A3y hx;rw [h1,h2];exact ⟨rfl,fun y hy=>by simp at hy⟩
  · intro x hx;simp at hx
  · intro x hx;simp at hx
  · exact ⟨rfl,List.nodup_nil,H3.refl _ _,fun b hb=>by simp at hb,fun k cs T hk=>by simp at hk⟩
theorem A7y{fn:Func}{tmps:Array Value}{R:Ending→World→Prop}{b:Nat}:∀(ds:List Deferred) (w:World),(∀d∈ds,∃D,d.target=.collected D∧b≤D∧w.heap[D]? =some (.deferred (some [])))→ds.Pairwise (fun x y=>x.target≠y.target)→
    (∀w',Aft b w w'→∃v,(results fn tmps).run P w'=.ok v w'∧R (.returned v) w')→LeavesInM Fence.wide 0 P fn tmps R ds .returning w
  | [],w,_,_,h=>h w (Aft.refl _ _)
  | d ::ds,w,hd,hp,h=>by
    obtain ⟨D,h1,h2,h3⟩:=hd d (by simp);refine ⟨by simp,.inl ⟨D,_,h1,run_takeDeferred h3,?_⟩⟩;rw [List.pairwise_cons] at hp;refine A7y (b:=b) ds _ (fun d' hd'=>?_) hp.2 (fun w' hw'=>h w' ⟨?_,fun k hk=>?_⟩)
    · obtain ⟨D',g1,g2,g3⟩:=hd d' (by simp [hd']);refine ⟨D',g1,g2,(World.putObj_heap_other (fun e=>?_)).trans g3⟩;exact hp.1 d' hd' (by rw [h1,g1,e])
    · exact (⟨rfl,rfl,rfl,by simp,fun k hk=>World.putObj_heap_other (by omega)⟩:Below b w (w.putObj D (.deferred none))).trans hw'.below
    · have hne:k≠D:=by rintro rfl;obtain ⟨_,c,T,f,hc⟩:=hk;rw [h3] at hc;cases hc
      have e1:(w.putObj D (.deferred none)).heap[k]? =w.heap[k]? :=World.putObj_heap_other hne;exact (hw'.cells k (A5s hk e1)).trans e1
theorem Loc.isC{bs:List (List EV×TypeId)}(h:Loc w0 own ns bs w){k:Nat}{cs:List EV}{T:TypeId}(hk:bs[k]? =some (cs,T)):IsC w (ns.getD k 0):=
  ⟨h.lt (h.mem (List.getElem?_eq_some_iff.1 hk).1),_,_,_,h.blk k cs T hk⟩
theorem B6y{rs:List ResultVar}{lo:Option (Nat×Option (List Deferred))}:A4h P {σ with lo:=lo} rs=A4h P σ rs:=by
  induction rs with
  | nil=>rfl
  | cons r rs ih=>simp only [A4h,ih];cases r<;>rfl
theorem retM{fn:Func}{R:Ending→World→Prop}{rs:List ResultVar}{xs:List RV}{b:Nat}(hI:St w0 own n σ ns a w)(hlo:σ.lo=some (b,none))(hres:fn.results=rs.toArray)(h:A4h P σ rs=some xs)
    (hR:∀w',Aft b w w'→R (.returned (B2p (xs.map (RV.den ns)))) w'):bodyPostM Fence.wide 0 P fn R .ret a w:=by
  have hM:=hI.rebase.defers;rw [hlo] at hM;refine A7y (b:=b) a.defers w (fun d hd=>let ⟨D,h1,h2,_,h4⟩:=hM.1 d hd;⟨D,h1,h2,h4⟩) hM.2 (fun w' hw'=>⟨_,?_,hR w' hw'⟩);have hI':Inv w' ns n {σ with lo:=none} ns {a with defers:=[]} w':=
    ⟨hI.size,rfl,hI.env,hI.ewf,hI.bwf,hI.gi,⟨hI.loc.len,hI.loc.nodup,H3.refl _ _,fun b hb=>.inl hb,fun k cs T hk=>(hw'.cells _ (hI.loc.isC hk)).trans (hI.loc.blk k cs T hk)⟩,hI.pin⟩
  show (results fn ({a with defers:=[]}:Act).tmps).run P w'=_;exact A54 hI' hres (B6y.trans h)
def B8e:List Tmp→List Value→List Ent→List Ent
  | p::ps,v::vs,env=>B8e ps vs (⟨p,[],.v v⟩::B24 env p)
  | _,_,env=>env
def A68:List Tmp→List Value→Array Value→Array Value
  | p::ps,v::vs,t=>A68 ps vs (t.setIfInBounds p v)
  | _,_,t=>t
theorem A80:∀(ps:List Tmp) (vs:List Value) (t:Array Value),(ps.zip vs).foldl (fun t (x:Tmp×Value)=>t.setIfInBounds x.1 x.2) t=A68 ps vs t
  | [],vs,t=>by simp [A68]
  | p::ps,[],t=>by simp [A68]
  | p::ps,v::vs,t=>by simp only [List.zip_cons_cons,List.foldl_cons,A68];exact A80 ps vs _
theorem B6n(ps:List Tmp)(vs:List Value)(t:Array Value):(ps.toArray.zip vs.toArray).foldl (fun t (p,v)=>t.setIfInBounds p v) t=A68 ps vs t:=by
  rw [← A80,List.zip_toArray];simp
theorem A9p{l:List Ent}{t:Nat}{x:Ent}(h:x∈B24 l t):x∈l∧x.t≠t:=by
  unfold Eng.B24 at h;rw [List.mem_filter] at h;refine ⟨h.1,fun hh=>?_⟩;have:=h.2;rw [hh] at this;simp at this
theorem B1h{σb:List (List EV×TypeId)}{pin:Option (Nat×List Nat)}{lo:Option (Nat×Option (List Deferred))}{ds:List Deferred}:∀(ps:List Tmp) (vs:List Value) (env:List Ent) (t:Array Value),(ps.all fun p=>Nat.blt p n)=true→(env.all fun x=>S9 x.p)=true→
    Inv w0 own n ⟨env,[],[],σb,lo,pin⟩ ns ⟨t,ds⟩ w→Inv w0 own n ⟨B8e ps vs env,[],[],σb,lo,pin⟩ ns ⟨A68 ps vs t,ds⟩ w
  | [],vs,env,t,_,_,hI=>hI
  | p::ps,[],env,t,_,_,hI=>hI
  | p ::ps,v::vs,env,t,hp,hn,hI=>by
    simp only [List.all_cons,Bool.and_eq_true] at hp;have hlt:p<n:=by simpa using hp.1
    have hsz:t.size=n:=hI.size;refine B1h ps vs _ _ hp.2 ?_ ⟨by simpa using hsz,hI.defers,fun x hx=>?_,fun x hx=>?_,hI.bwf,fun x hx=>by simp at hx,hI.loc,hI.pin⟩
    · simp only [List.all_cons,S9,Bool.true_and,List.all_eq_true] at hn ⊢;exact fun x hx=>hn x (A9p hx).1
    · simp only [List.mem_cons] at hx;rcases hx with rfl | hx
      · simp [K0,gvv,EV.den,hsz,hlt]
      · obtain ⟨h1,h2⟩:=A9p hx;have:=hI.env x h1;simp only at this ⊢;rw [Array.getElem?_setIfInBounds,if_neg (Ne.symm h2)];exact this
    · simp only [List.mem_cons] at hx;rcases hx with rfl | hx
      · exact ⟨rfl,fun y hy=>by simp at hy⟩
      · exact hI.ewf x (A9p hx).1
theorem Inv.round{b0:Nat}(hI:Inv w ns n σ ns a w)(hlo:σ.lo=some (b0,none))(hgv:σ.gv=[]){kb:Nat}(hkb:σ.bs.length=kb)(ps:List Tmp)(vs:List Value)(hp:(ps.all fun p=>Nat.blt p n)=true)(hn:(σ.env.all fun x=>S9 x.p)=true)(t:Array Value)(ht:a.tmps=t):
    Inv w ns n ⟨B8e ps vs σ.env,[],[],σ.bs,some (b0,some a.defers),some (kb,ns)⟩ ns {tmps:=(ps.toArray.zip vs.toArray).foldl (fun t (p,v)=>t.setIfInBounds p v) t,defers:=[]} w:=by
  rw [B6n];subst ht;have hd:=hI.defers;rw [hlo] at hd;have hlen:ns.length=kb:=by rw [hI.loc.len,hkb]
  refine B1h ps vs σ.env a.tmps hp hn ⟨hI.size,⟨rfl,hd⟩,fun x hx=>?_,fun x hx=>?_,hI.bwf,fun x hx=>by simp at hx,hI.loc,⟨by rw [← hlen];simp,by omega⟩⟩
  · have:=hI.env x hx;rw [hgv] at this;exact this
  · have:=hI.ewf x hx;rw [hgv] at this;exact this
theorem Ep.unround{b0 kb:Nat}{A B:World}{ns':List Nat}{a':Act}{σo:S}{bs:List (List EV×TypeId)}(hO:Inv A ns n σo ns a' A)(hE:Ep pm w00 B ns' mine)(hI:Inv B ns' n σ ns' a B)(hlo:σo.lo=some (b0,none))(hlo2:σ.lo=some (b0,some a'.defers))(hpin:σ.pin=some (kb,ns))
    (hpo:σo.pin=none) (hgi:σo.gi=[]) (hk:σo.bs.length=kb) (hb:(Nat.ble kb σ.bs.length&&(σ.bs.take kb).all (fun x=>x.1.all (EV.wf kb)))=true) (hbs:σ.bs.take kb=bs):
    Ep pm w00 B ns mine∧Inv B ns n {σo with bs:=bs} ns a' B∧∀S0,Mv (Lo S0 w00 B ns' mine) B (Lo S0 w00 B ns mine) B:=by
  have hpn:=hI.pin;rw [hpin] at hpn;obtain ⟨hns,_⟩:=hpn;have hlen:ns.length=kb:=by rw [hO.loc.len,hk]
  have hss:∀b,b∈ns→b∈ns':=fun b hb=>by rw [← hns] at hb;exact List.mem_of_mem_take hb
  subst hbs;simp only [Bool.and_eq_true,List.all_eq_true] at hb;obtain ⟨hle,hbs⟩:=hb;have hle:=Nat.le_of_ble_eq_true hle;have hbl:(σ.bs.take kb).length=kb:=by rw [List.length_take];omega
  have hM:=hI.defers;rw [hlo2] at hM;have hL:=hI.loc;refine ⟨⟨hE.k,fun b hb=>hE.ow b (hss b hb),fun b hb=>⟨(hE.mi b hb).1,(hE.mi b hb).2.1,fun hh=>(hE.mi b hb).2.2 (hss b hh)⟩,hE.dis⟩,⟨hO.size,by rw [hlo];exact hM.2.sub hss,hO.env,fun x hx=>?_,fun x hx e hee=>?_,fun x hx=>by simp [hgi] at hx,?_,by simp only [hpo];trivial⟩,fun S0 b hb _=>⟨⟨hb.1,fun hh=>hb.2.1 (hss b hh),hb.2.2⟩,rfl⟩⟩
  · have:=hO.ewf x hx;rw [hk] at this;simp only [hbl];exact this
  · simp only [hbl];exact hbs x hx e hee
  · refine ⟨by simp only [hbl,hlen],hO.loc.nodup,H3.refl _ _,fun b hb=>.inl hb,fun k cs T hkk=>?_⟩;simp only at hkk;rw [List.getElem?_take] at hkk;split at hkk
    · rename_i hlt;have hm:(cs,T)∈σ.bs.take kb:=List.mem_of_getElem? (by rw [List.getElem?_take,if_pos hlt];exact hkk);rw [← hns,List.map_congr_left (fun e hee=>A5l (hbs _ hm e hee))];have:(ns'.take kb).getD k 0=ns'.getD k 0:=by
        rw [List.getD_eq_getElem?_getD,List.getD_eq_getElem?_getD,List.getElem?_take,if_pos hlt]
      rw [this];exact hL.blk k cs T hkk
    · cases hkk
theorem Ep.cut(hE:Ep pm w00 w ns mine)(hI:Inv w ns n σ ns a w)(live:List Nat)(kb:Nat)(σ2:S)(h:Eng.cut live kb σ=some σ2):∃ns',Ep pm w00 w ns' mine∧Inv w ns' n σ2 ns' a w∧∀S0,Mv (Lo S0 w00 w ns mine) w (Lo S0 w00 w ns' mine) w:=by
  have h1:=(hI.pick live kb σ2 h);have hss:∀b,b∈ns.take kb→b∈ns:=fun b hb=>List.mem_of_mem_take hb;refine ⟨ns.take kb,⟨hE.k,fun b hb=>hE.ow b (hss b hb),fun b hb=>⟨(hE.mi b hb).1,(hE.mi b hb).2.1,fun hh=>(hE.mi b hb).2.2 (hss b hh)⟩,hE.dis⟩,⟨h1.size,h1.defers.sub hss,h1.env,h1.ewf,h1.bwf,h1.gi,⟨h1.loc.len,h1.loc.nodup,H3.refl _ _,fun b hb=>.inl hb,h1.loc.blk⟩,h1.pin⟩,fun S0 b hb _=>⟨⟨hb.1,fun hh=>hb.2.1 (hss b hh),hb.2.2⟩,rfl⟩⟩
end
section
variable {P:Program} {pm:List Nat} {w00 w0 w:World} {own ns:List Nat} {mine:List (List Nat)} {S0:Nat→Prop} {n:Nat} {σ σ2:S} {a:Act} {l:Nat}
theorem begin_(hE:Ep pm w00 w ns mine)(hI:Inv w ns n σ ns a w)(hm:l∈mine.flatten){o:Loop}(hl:w.heap[l]? =some (.loop o))(ho:o.state=.ready){X:World→Prop}
    (K:∀w2,Ep pm w00 w2 ns mine→Inv w2 ns n σ ns a w2→(∀S0,Mv (Lo S0 w00 w ns mine) w (Lo S0 w00 w2 ns mine) w2)→(∀b,b∈mine.flatten→b∉[l]→w2.heap[b]? =w.heap[b]?)→w2.heap[l]? =some (.loop {o with state:=.busy})→X w2):
    ∃w2,(Instr.beginRound l).run P w=.ok () w2∧X w2:=by
  refine ⟨_,run_beginRound hl ho,?_⟩;have hlt:=(Array.getElem?_eq_some_iff.1 hl).1;obtain ⟨h1,h2,h3,h4⟩:=hE.turn hI (grownBy_putObj' w l (.loop {o with state:=.busy})) hm (.inr ⟨rfl,o,hl⟩);exact K _ h1 h2 h3 h4 (World.putObj_heap_same hlt)
def RndQ{σt R:Type}(I:σt→(Nat→Prop)→World→Prop)(Ix:R→World→Prop)(cd:R→Code)(l:Nat)(o:Loop)(T:Nat→Prop)(A:World)(z:Stp σt R):Exit→Act→World→Prop
  | .normal,_,B=>B.heap[l]? =some (.loop {o with state:=.busy})∧∃s,z=.next s∧I s T B∧∀q,T q→B.heap[q]? =A.heap[q]?
  | .ret,_,B=>B.heap[l]? =some (.loop {o with state:=.busy})∧∃r,z=.out r∧cd r=.ret∧Ix r B
  | .exit id,_,B=>B.heap[l]? =some (.loop {o with state:=.busy})∧∃r,z=.out r∧cd r=.exit id∧Ix r B
  | .goto t,_,B=>B.heap[l]? =some (.loop {o with state:=.busy})∧∃r,z=.out r∧cd r=.goto t∧Ix r B
  | .panic _,_,_=>False
  | .outgrown,_,_=>False
section
variable {σt R:Type} {I:σt→(Nat→Prop)→World→Prop} {Ix:R→World→Prop} {cd:R→Code} {o:Loop} {T:Nat→Prop} {A B:World} {z:Stp σt R}
theorem RndQ.rt{r:R}(hl:B.heap[l]? =some (.loop {o with state:=.busy}))(hz:z=.out r)(hc:cd r=.ret)(hi:Ix r B):RndQ I Ix cd l o T A z .ret a B:=⟨hl,r,hz,hc,hi⟩
end
variable {Q:Exit→Act→World→Prop}
theorem B5b{g:Operand}{ps:List Tmp}{assign body:Code}(hE:Ep pm w00 w ns mine)(hI:Inv w ns n σ ns a w){b0:Nat}(hlo:σ.lo=some (b0,none))(hb0:b0≤w00.heap.size)
    {gf:Nat} {lb:List Value} (hg:I9 σ.env [] g=some (.v (.func (.func gf) #[] lb.toArray))) (hent:∀args w,(callFunc gf args).run P w=.ok (.enter gf args) w)
    (K : ∀ (l:Nat) (a':Act) (W1:World),a'.tmps=a.tmps→Ep pm w00 W1 ns (mine++[[l]])→Inv W1 ns n σ ns a' W1→(∀S0,Mv (Lo S0 w00 w ns mine) w (Lo S0 w00 W1 ns (mine++[[l]])) W1)→(∀b,b∈mine.flatten→W1.heap[b]? =w.heap[b]?)→
      ∃ (σt :Type) (α:Type) (R:Type) (enc:α→SV→List Value) (fct:(Nat→Prop)→World→α→SV→Prop) (bd:σt→α→Option (Stp σt R)) (I:σt→(Nat→Prop)→World→Prop) (Ix:R→World→Prop) (cd:R→Code) (s0:σt) (T0:Nat→Prop) (z:Stp σt R),
        (∀x sv,(enc x sv).length=ps.length)∧
        (∀s T T' A B row,I s T A→A.grownBy B row→(row=none∨(row=some l∧∃r,A.heap[l]? =some (.loop r)))→(∀b,T' b→T b∨(A.heap.size≤b∧IsC B b))→I s T' B)∧
        (∀r A B row,Ix r A→A.grownBy B row→(row=none∨(row=some l∧∃r,A.heap[l]? =some (.loop r)))→Ix r B)∧
        (∀J Jx,SeqH P l enc fct bd J Jx→J s0 T0 W1→Calls P gf (.func (.yield l) #[] #[]::lb).toArray W1 fun e w'=>(∃v,e=.returned v)∧A36 J Jx z w')∧
        I s0 T0 W1∧
        (∀ s x sv T A z',bd s x=some z'→I s T A→fct T A x sv→∀o:Loop,o.state=.ready→A.heap[l]? =some (.loop o)→
          assign.wpIn (Fence.wide.inRound l) 0 P (Exit.then (fun a₁ w₁=>∃w₂,(Instr.beginRound l).run P w₁=.ok () w₂∧body.wpIn (Fence.wide.inRound l) 0 P (RndQ I Ix cd l o T A z') a₁ w₂) (fun _ _ _=>False))
            {tmps:=(ps.toArray.zip (enc x sv).toArray).foldl (fun t (p,v)=>t.setIfInBounds p v) a.tmps,defers:=[]} A)∧
        (∀s T B,z=.next s→I s T B→Q .normal a' B)∧
        (∀r B,z=.out r→Ix r B→(cd r).wpIn Fence.wide 0 P Q a' B)):
    (Code.rangeFunc g ps.toArray assign body).wpIn Fence.wide 0 P Q a w:=by
  refine wpIn_rangeFunc ?_;intro fn hfn;have hro:Fence.wide.round=none:=rfl;rw [hro];obtain ⟨rec,hrec⟩:∃rec:LoopState→Option Code→Loop,rec=fun st pe=>{state:=st,pending:=pe,fn,tmps:=a.tmps,params:=ps.toArray,assign,body,defers:=w.heap.size}:=⟨_,rfl⟩;have hg':=hI.opnd hg rfl;simp only [EV.den] at hg'
  -- two blocks are laid
  obtain ⟨e1,i1,m1,r1⟩:=hE.step hI (A08 w (.deferred (some []))) (mine':=mine) (by intro b hb;cases hb) (fun _ h=>.inl h) hE.dis (.inr (by intro b hb;cases hb));have hD0:(w.alloc (.deferred (some []))).heap[w.heap.size]? =some (.deferred (some [])):=World.alloc_heap_new _ _;have i1':Inv (w.alloc (.deferred (some []))) ns n σ ns {a with defers:={target:=.collected w.heap.size,args:= #[]}::a.defers} (w.alloc (.deferred (some []))):=by
    refine ⟨i1.size,?_,i1.env,i1.ewf,i1.bwf,i1.gi,i1.loc,i1.pin⟩;have hd:=i1.defers;have hd0:=hI.defers;rw [hlo] at hd hd0 ⊢;refine ⟨fun d hdm=>?_,List.pairwise_cons.2 ⟨fun d hdm he=>?_,hd.2⟩⟩
    · rcases List.mem_cons.1 hdm with rfl | h
      · exact ⟨w.heap.size,rfl,Nat.le_trans hb0 hE.k.size,fun hh=>by have:=hI.loc.lt hh;omega,hD0⟩
      · exact hd.1 d h
    · obtain ⟨D,h1,_,_,h4⟩:=hd0.1 d hdm;rw [h1] at he;simp only [Target.collected.injEq] at he;have:=(Array.getElem?_eq_some_iff.1 h4).1;omega
  obtain ⟨e2,i2,m2,r2⟩:=e1.step i1' (A08 _ (.loop (rec .ready none))) (mine':=mine++[[(w.alloc (.deferred (some []))).heap.size]]) (by intro b hb;cases hb) (A6e (by simp)) (A6d e1) (.inr (by intro b hb;cases hb));have hL1:((w.alloc (.deferred (some []))).alloc (.loop (rec .ready none))).heap[(w.alloc (.deferred (some []))).heap.size]? =some (.loop (rec .ready none)):=World.alloc_heap_new _ _;have hsz:(w.alloc (.deferred (some []))).heap.size=w.heap.size+1:=World.size_alloc _ _;rw [hsz] at e2 m2 hL1;obtain ⟨W1,hW1⟩:∃W1,(w.alloc (.deferred (some []))).alloc (.loop (rec .ready none))=W1:=⟨_,rfl⟩;rw [hW1] at e2 i2 m2 r2 hL1;obtain ⟨σt,α,R,enc,fct,bd,I,Ix,cd,s0,T0,z,hps,hab,habx,hcall,h0,hround,hdone,hstop⟩:=K (w.heap.size+1) {a with defers:={target:=.collected w.heap.size,args:= #[]}::a.defers} W1 rfl e2 i2
    (fun S0 b hb hc=>by
      obtain ⟨k1,k2⟩:=m1 S0 b hb hc;obtain ⟨k3,k4⟩:=m2 S0 b k1 (A5s hc k2);exact ⟨k3,k4.trans k2⟩)
    (fun b hb=>(r2 b hb (by simp)).trans (r1 b hb (by simp)))
  have hlt:∀ {W:World} {o:Obj},W.heap[w.heap.size+1]? =some o→w.heap.size+1<W.heap.size:=fun h=>(Array.getElem?_eq_some_iff.1 h).1;refine ⟨w.heap.size+1,[{target:=.collected w.heap.size,args:= #[]}],W1,{target:=.fn (.func gf) lb.toArray,args:= #[.func (.yield (w.heap.size+1)) #[] #[]]},W1,gf,
    #[.func (.yield (w.heap.size+1)) #[] #[]]++lb.toArray,W1,?_,?_,?_,?_,(fun h=>by simp [Fence.wide] at h),?_⟩
  · rw [← hW1,hrec];exact run_enterLoop_outer _ _ _ _ _
  · simp only [resolve,hg'];simp [go_sem]
  · intro f' _;trivial
  · simp [invoke,go_sem,hent]
  · refine callsIn_wide.2 ?_;have hcl:=hcall
      (fun s T W=>I s T W∧W.heap[w.heap.size+1]? =some (.loop (rec .ready none)))
      (fun r W=>Ix r W∧W.heap[w.heap.size+1]? =some (.loop (rec .done (some (cd r)))))
      ⟨fun s T T' A B hs hb hT=>⟨hab s T T' A B none hs.1 (A6v hb) (.inl rfl) hT,(hb.block _ (hlt hs.2)).trans hs.2⟩,
       fun r A B hs hb=>⟨habx r A B none hs.1 (A6v hb) (.inl rfl),(hb.block _ (hlt hs.2)).trans hs.2⟩,?round⟩ ⟨h0,hL1⟩
    case round=>
      rintro s x sv T A z' hz ⟨hi,hl⟩ hf;have hy:=run_yield (P:=P) (args:=(enc x sv).toArray) hl (by rw [hrec];simp [hps x sv]);rw [hrec] at hy;refine ⟨fn,_,assign,body,hy,roundIn_of_wpIn hfn (wpIn_mono (hround s x sv T A z' hz hi hf _ (by rw [hrec]) hl) ?_)⟩;rintro e a₁ w₁ hq;cases e with
      | normal=>
        obtain ⟨w₂,hb,hbody⟩:=hq;refine ⟨w₂,hb,wpIn_mono hbody ?_⟩;have fin:∀(jump:Option Code) (W3:World),W3.heap[w.heap.size+1]? =some (.loop {rec .ready none with state:=.busy})→
            (Instr.endRound (w.heap.size+1) jump).run P W3=.ok (.bool jump.isNone) (W3.putObj (w.heap.size+1) (.loop (rec (if jump.isNone then .ready else .done) jump)))∧
            (W3.putObj (w.heap.size+1) (.loop (rec (if jump.isNone then .ready else .done) jump))).heap[w.heap.size+1]? =some (.loop (rec (if jump.isNone then .ready else .done) jump)):=fun jump W3 hl3=>by
          have:=run_endRound (P:=P) jump hl3;rw [hrec] at this ⊢;exact ⟨this,World.putObj_heap_same (hlt hl3)⟩
        rintro e a3 W3 hp;cases e with
        | normal=>
          obtain ⟨hl3,s',rfl,hi',hT⟩:=hp;obtain ⟨hr,hl4⟩:=fin none W3 hl3;refine ⟨_,_,hr,true,rfl,rfl,⟨hab s' T T W3 _ _ hi' (grownBy_putObj' W3 _ _) (.inr ⟨rfl,_,hl3⟩) (fun b hb=>.inl hb),hl4⟩,fun q hq=>?_⟩;by_cases hql:q=w.heap.size+1
          · subst hql;exact hl4.trans hl.symm
          · exact (World.putObj_heap_other hql).trans (hT q hq)
        | ret=>
          obtain ⟨hl3,r,rfl,hcd,hi'⟩:=hp;obtain ⟨hr,hl4⟩:=fin (some .ret) W3 hl3;exact ⟨_,_,hr,false,rfl,rfl,habx r W3 _ _ hi' (grownBy_putObj' W3 _ _) (.inr ⟨rfl,_,hl3⟩),by rw [hcd];exact hl4⟩
        | exit id=>
          obtain ⟨hl3,r,rfl,hcd,hi'⟩:=hp;obtain ⟨hr,hl4⟩:=fin (some (.exit id)) W3 hl3;exact ⟨_,_,hr,false,rfl,rfl,habx r W3 _ _ hi' (grownBy_putObj' W3 _ _) (.inr ⟨rfl,_,hl3⟩),by rw [hcd];exact hl4⟩
        | goto t=>
          obtain ⟨hl3,r,rfl,hcd,hi'⟩:=hp;obtain ⟨hr,hl4⟩:=fin (some (.goto t)) W3 hl3;exact ⟨_,_,hr,false,rfl,rfl,habx r W3 _ _ hi' (grownBy_putObj' W3 _ _) (.inr ⟨rfl,_,hl3⟩),by rw [hcd];exact hl4⟩
        | panic ch=>exact hp.elim
        | outgrown=>exact hp.elim
      | _=>exact hq.elim
    · have harr:(Value.func (.yield (w.heap.size+1)) #[] #[]::lb).toArray= #[.func (.yield (w.heap.size+1)) #[] #[]]++lb.toArray:=by
        apply Array.ext';simp
      rw [harr] at hcl;refine hcl.mono ?_;rintro e W2 ⟨⟨v,rfl⟩,hpost⟩;cases z with
      | next s=>
        obtain ⟨T,hi,hl⟩:=hpost;exact ⟨none,_,by have:=run_endLoop (P:=P) hl (by rw [hrec];simp);rw [hrec] at this;exact this,hdone s T _ rfl (hab s T T W2 _ _ hi (grownBy_putObj' W2 _ _) (.inr ⟨rfl,_,hl⟩) (fun b hb=>.inl hb))⟩
      | out r=>
        obtain ⟨hi,hl⟩:=hpost;exact ⟨some (cd r),_,by have:=run_endLoop (P:=P) hl (by rw [hrec];simp);rw [hrec] at this;exact this,hstop r _ rfl (habx r W2 _ _ hi (grownBy_putObj' W2 _ _) (.inr ⟨rfl,_,hl⟩))⟩
end
section
variable {F:Fence} {m:Nat} {P:Program} {w0 w:World} {own:List Nat} {n:Nat} {σ σ2:S} {ns:List Nat} {a:Act} {o:Oper} {ops:Array Oper} {Q:Exit→Act→World→Prop} {rest:List Oper}
def A49(ops:Array Oper)(σ:S)(gd:Option (Nat×Bool)):Option Bool:=match A2r ops σ gd with | some (σ1,g)=>some (K0 σ1.gv g) | none=>none
theorem A2k(hI:Inv w0 own n σ ns a w){b:Bool}(h:A49 ops σ o.guard=some b):Region.wanted o (yielded ops a.tmps)=b:=by
  unfold A49 at h;split at h
  · rename_i σ1 g hg;simp only [Option.some.injEq] at h;exact (B1l hI hg).trans h
  · cases h
theorem B8v(hI:Inv w0 own n σ ns a w)(h:A49 ops σ o.guard=some true)(K:wpListIn F m P ops Q ({o with guard:=none}::rest) a w):wpListIn F m P ops Q (o::rest) a w:=by
  unfold wpListIn at K ⊢;rw [A2k hI h,if_pos rfl];rw [C2 rfl,if_pos rfl] at K;exact K
theorem B1k(hI:Inv w0 own n σ ns a w)(b:Bool)(h:A49 ops σ o.guard=some b)(hb:b=true)(K:wpListIn F m P ops Q ({o with guard:=none}::rest) a w):wpListIn F m P ops Q (o::rest) a w:=B8v hI (hb▸h) K
theorem B5i(hI:Inv w0 own n σ ns a w)(b:Bool)(h:A49 ops σ o.guard=some b)(hb:b=false):Region.wanted o (yielded ops a.tmps)=false:=A2k hI (hb▸h)
def undB(ops:Array Oper)(σ:S)(gd:Option (Nat×Bool)):Bool:=
  match gd with
  | some (j,_)=>match ops[j]? with | some oj=>(match oj.dst with | some d=>(match A3h σ.env d with | some ⟨_,[],.v (.tuple ⟨[]⟩)⟩=>true | _=>false) | none=>false) | none=>false
  | none=>false
theorem B5k(hI:Inv w0 own n σ ns a w)(h:undB ops σ o.guard=true):Region.wanted o (yielded ops a.tmps)=false:=by
  unfold undB at h;split at h
  · rename_i j b hg;split at h
    · rename_i oj hoj;split at h
      · rename_i d hd;split at h
        · rename_i t hl;obtain ⟨hm,rfl⟩:=A5v hl;have:=hI.env _ hm;simp only [K0,gvv,cond_true,EV.den] at this;unfold Region.wanted;rw [hg];simp [yielded,hoj,hd,this]
        · cases h
      · cases h
    · cases h
  · cases h
theorem B5j(hI:Inv w0 own n σ ns a w)(b:Bool)(h:A49 ops σ o.guard=some b)(hb:b=false)(K:Region.wanted o (yielded ops a.tmps)=false→wpListIn F m P ops Q (o::rest) a w):wpListIn F m P ops Q (o::rest) a w:=K (B5i hI b h hb)
theorem Ep.bare{pm:List Nat}{w00:World}{mine:List (List Nat)}(hE:Ep pm w00 w own mine):Ep pm w00 w [] []∧∀S0,Mv (Lo S0 w00 w own mine) w (Lo S0 w00 w [] []) w:=
  ⟨⟨hE.k,fun b hb=>by simp at hb,fun b hb=>by simp at hb,by simp⟩,fun S0 b hb _=>⟨⟨hb.1,by simp,by simp,hb.2.2.2⟩,rfl⟩⟩
theorem B0z{fn:Func}{R:Ending→World→Prop}(h:bodyPost P fn R .ret a w):bodyPost P fn R .normal a w:=h
end
end Go.Eng
