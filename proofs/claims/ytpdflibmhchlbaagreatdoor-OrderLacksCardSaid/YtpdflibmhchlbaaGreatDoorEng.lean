/- Own engine: walks of whole regions by evaluation in the kernel. No statement of the seat is proved here. Conditions: none. -/
import Derived.Test.YtpdflibmhchlbaaGreatDoorEngB
set_option linter.unusedVariables false
set_option linter.unusedSimpArgs false
namespace Go.Eng
open Go Go.RowKit
inductive En where
  | q (d:Tmp) (e:EV) (obs:List Ob)
  | s (d:Option Tmp)
  | t (d:Option Tmp) (e:Option EV)
  | no
  | a (d:Tmp) (T:TypeId) (zs:List Value) (p:Option Nat)
  deriving Inhabited
inductive Sp where
  | q (ks:List Nat) (orc:List (List Value))
  | p (ks:List Nat) (orc:List (List Value))
  | s (ks:List Nat)
  | t (e:Option EV)
  | no
  | l (b:Bool) (sp:Sp)
  | a (p:Option Nat)
def En.ent:En→Option Ent
  | .q d e _=>some ⟨d,[],e⟩
  | .s (some d)=>some ⟨d,[],.v (.tuple #[])⟩
  | .t (some d) (some e)=>some ⟨d,[],e⟩
  | _=>none
def En.dst:En→Option Tmp
  | .q d _ _=>some d
  | .s d=>d
  | .t d _=>d
  | .no=>none
  | .a d _ _ _=>some d
def A7o(tb:List En):List Nat→Option (List Ent)
  | []=>some []
  | k::r=>match tb[k]?,A7o tb r with | some x,some l=>(match x.ent with | some y=>some (y::l) | none=>none) | _,_=>none
def B4o(σ:S)(tb:List En)(d:Tmp):Bool:=σ.env.all (fun x=>!Nat.beq x.t d)&&tb.all (fun x=>match x.dst with | some d'=>!Nat.beq d' d | none=>true)
def A3z(σ:S)(tb:List En)(n:Nat):Option Tmp→Bool
  | some d=>Nat.blt d n&&B4o σ tb d
  | none=>true
def S.wth(σ:S)(env:List Ent):S:=⟨env++σ.env,[],[],σ.bs,σ.lo,σ.pin⟩
def B47:Option Bool→Bool
  | some true=>true
  | _=>false
def optF:Option Bool→Bool
  | some false=>true
  | _=>false
def B2j(env:List Ent)(o:Oper):Option Operand:=
  match o.op with
  | .pick c x y=>match A4u (I9 env [] c) with | some true=>some x | some false=>some y | none=>none
  | _=>none
def A1w(P:Program)(σ:S)(n:Nat)(ops:Array Oper)(tb:List En)(o:Oper):Sp→Option En
  | .q ks orc=>
    match o.dst,A7o tb ks with
    | some d,some env=>
      bif A3z σ tb n o.dst&&ks.all (O8 o)&&B47 (A49 ops (σ.wth env) o.guard) then
        match chkQ P σ {o with guard:=none} env orc with | some (e,obs)=>bif e.wf σ.bs.length then some (.q d e obs) else none | none=>none
      else none
    | _,_=>none
  | .p ks orc=>
    match o.dst,A7o tb ks with
    | some d,some env=>
      bif A3z σ tb n o.dst&&ks.all (O8 o)&&B47 (A49 ops (σ.wth env) o.guard) then
        match B2j (env++σ.env) o with
        | some x=>match chkQ P σ {o with guard:=none,op:=.move x} env orc with | some (e,obs)=>bif e.wf σ.bs.length then some (.q d e obs) else none | none=>none
        | none=>none
      else none
    | _,_=>none
  | .s ks=>
    match A7o tb ks with
    | some env=>bif A3z σ tb n o.dst&&ks.all (O8 o)&&(optF (A49 ops (σ.wth env) o.guard)||undB ops (σ.wth env) o.guard) then some (.s o.dst) else none
    | none=>none
  | .t e=>bif A3z σ tb n o.dst then some (.t o.dst e) else none
  | .no=>some .no
  | .a p=>
    match o.op,o.dst with
    | .alloc T,some d=>bif A3z σ tb n o.dst&&A40 o.guard then (match P.info? T with | some i=>(match i.zero with | some z=>some (.a d T z.cells.toList p) | none=>none) | none=>none) else none
    | _,_=>none
  | .l b sp=>match A1w P σ n ops tb o sp with | some (.q d (.v (.bool c)) obs)=>some (.q d (.v (.bool b)) (.need true (c=b)::obs)) | _=>none
def A2u(P:Program)(σ:S)(n:Nat)(ops:Array Oper):List En→List Oper→List Sp→Option (List En)
  | tb,[],[]=>some tb
  | tb,o::l,d::ds=>match A1w P σ n ops tb o d with | some x=>A2u P σ n ops (tb++[x]) l ds | none=>none
  | _,_,_=>none
theorem A4q{P:Program}{σ:S}{n:Nat}{ops:Array Oper}:∀ {l:List Oper} {ds:List Sp} {tb rs:List En},A2u P σ n ops tb l ds=some rs→tb <+: rs∧rs.length=tb.length+l.length∧∀i o,l[i]? =some o→∃d x,A1w P σ n ops (rs.take (tb.length+i)) o d=some x∧rs[tb.length+i]? =some x
  | [],[],tb,rs,h=>by
    simp only [A2u,Option.some.injEq] at h;subst h;exact ⟨List.prefix_refl _,by simp,fun i o hi=>by simp at hi⟩
  | o ::l,d::ds,tb,rs,h=>by
    simp only [A2u] at h;split at h
    · rename_i x hx;obtain ⟨h1,h2,h3⟩:=A4q h;obtain ⟨t,ht⟩:=h1;refine ⟨⟨x::t,by rw [← ht];simp⟩,by rw [h2];simp;omega,fun i o' hi=>?_⟩;cases i with
      | zero=>
        simp only [List.getElem?_cons_zero,Option.some.injEq] at hi;subst hi;refine ⟨d,x,?_,?_⟩
        · rw [← ht];simp [List.take_append_of_le_length,hx]
        · rw [← ht];simp
      | succ i=>
        obtain ⟨d',x',g1,g2⟩:=h3 i o' (by simpa using hi);have:(tb++[x]).length+i=tb.length+(i+1):=by simp;omega
        rw [this] at g1 g2;exact ⟨d',x',g1,g2⟩
    · cases h
  | [],_::_,_,_,h=>by simp [A2u] at h
  | _::_,[],_,_,h=>by simp [A2u] at h
structure DS (w0:World) (own:List Nat) (n:Nat) (σ:S) (ns:List Nat) (tb:List En) (listed:Array Bool) (a:Act) (w:World):Prop where
  base:Inv w0 own n σ ns a w
  val:∀(i:Nat) (y:En) (x:Ent),tb[i]? =some y→y.ent=some x→Lst listed i→a.tmps[x.t]? =some (x.e.den ns)
  un:∀i:Nat,tb[i]? =some .no→¬Lst listed i
  dn:∀(i:Nat) d e,tb[i]? =some (.t d e)→Lst listed i
  al:∀(i:Nat) d T zs p,tb[i]? =some (.a d T zs p)→(∀b,p=some b→Lst listed i)∧(Lst listed i→∃b,(p=some b∨(p=none∧w0.heap.size≤b))∧b<w.heap.size∧b∉ns∧a.tmps[d]? =some (.pointer (some ⟨b,0,none⟩))∧w.heap[b]? =some (.cells zs.toArray T (0,0)))
  ad:∀(i j:Nat) d T zs p d' T' zs' p',i≠j→tb[i]? =some (.a d T zs p)→tb[j]? =some (.a d' T' zs' p')→Lst listed i→Lst listed j→a.tmps[d]? ≠a.tmps[d']?
def A7d(tb:List En):List Ob:=match tb with | []=>[] | .q _ _ obs::r=>obs++A7d r | _::r=>A7d r
theorem A6j{P:Program}{w0:World}{own:List Nat}:∀ {tb:List En},Obs P w0 own (A7d tb)→∀(i:Nat) d e obs,tb[i]? =some (.q d e obs)→Obs P w0 own obs
  | [],h,i,d,e,obs,hi=>by simp at hi
  | r ::rs,h,i,d,e,obs,hi=>by
    cases i with
    | zero=>
      simp only [List.getElem?_cons_zero,Option.some.injEq] at hi;subst hi;simp only [A7d] at h;rw [A2g] at h;exact h.1
    | succ i=>
      simp only [List.getElem?_cons_succ] at hi;cases r with
      | q d' e' obs'=>simp only [A7d] at h;rw [A2g] at h;exact A6j h.2 i d e obs hi
      | s=>exact A6j (tb:=rs) h i d e obs hi
      | t=>exact A6j (tb:=rs) h i d e obs hi
      | no=>exact A6j (tb:=rs) h i d e obs hi
      | a=>exact A6j (tb:=rs) h i d e obs hi
def A3r(tb:List En)(t:List Nat):Nat→List Oper→Bool
  | _,[]=>true
  | i,o::l=>(match tb[i]? with
    | some .no=>t.any (Nat.beq i)||(List.range tb.length).any (fun k=>(match tb[k]? with | some .no=>true | _=>false)&&O8 o k)
    | _=>true)&&A3r tb t (i+1) l
theorem A71{tb:List En}{t:List Nat}:∀ {l:List Oper} {i:Nat},A3r tb t i l=true→∀(j:Nat) (o:Oper),l[j]? =some o→tb[i+j]? =some .no→(i+j)∈t∨∃k,tb[k]? =some .no∧O8 o k=true
  | [],i,h,j,o,hj,_=>by simp at hj
  | o' ::l,i,h,j,o,hj,hn=>by
    simp only [A3r,Bool.and_eq_true] at h;cases j with
    | zero=>
      simp only [List.getElem?_cons_zero,Option.some.injEq] at hj;subst hj;have h1:=h.1;rw [Nat.add_zero] at hn ⊢;rw [hn] at h1;simp only [Bool.or_eq_true] at h1;rcases h1 with h1 | h1
      · left;obtain ⟨q,hq,he⟩:=List.any_eq_true.1 h1;rw [Nat.eq_of_beq_eq_true he];exact hq
      · right;obtain ⟨k,_,hk⟩:=List.any_eq_true.1 h1;simp only [Bool.and_eq_true] at hk;refine ⟨k,?_,hk.2⟩;have:=hk.1;split at this
        · assumption
        · cases this
    | succ j=>
      have:=A71 h.2 j o (by simpa using hj) (by rw [show i+1+j=i+(j+1) by omega];exact hn)
      rwa [show i+1+j=i+(j+1) by omega] at this
section
variable {F:Fence} {m:Nat} {P:Program} {w0 w1:World} {own own1:List Nat} {n:Nat} {σ σ':S} {ns:List Nat} {a a':Act} {w w':World} {o:Oper} {Q:Exit→Act→World→Prop}
variable {l:List Oper} {ds:List Sp} {tb tb':List En} {listed:Array Bool}
theorem A7p:∀ {ks:List Nat} {env:List Ent},A7o tb ks=some env→∀x∈env,∃k y,k∈ks∧tb[k]? =some y∧y.ent=some x
  | [],env,h,x,hx=>by simp only [A7o,Option.some.injEq] at h;subst h;simp at hx
  | k :: r,env,h,x,hx=>by
    simp only [A7o] at h;split at h
    · rename_i y l hy hl;split at h
      · rename_i z hz;simp only [Option.some.injEq] at h;subst h;rcases List.mem_cons.1 hx with rfl | hx
        · exact ⟨k,y,by simp,hy,hz⟩
        · obtain ⟨k',y',h1,h2,h3⟩:=A7p hl x hx;exact ⟨k',y',by simp [h1],h2,h3⟩
      · cases h
    · cases h
theorem En.wfE(h:A2u P σ n l.toArray [] l ds=some tb){i:Nat}{y:En}{x:Ent}(hi:tb[i]? =some y)(hx:y.ent=some x)(hw:∀d e,y=.t d (some e)→e.wf σ.bs.length=true):x.e.wf σ.bs.length=true∧x.p=[]:=by
  obtain ⟨_,hlen,hat⟩:=A4q h;have hil:i<l.length:=by have:=(List.getElem?_eq_some_iff.1 hi).1;simp at hlen;omega
  obtain ⟨d,z,h1,h2⟩:=hat i _ (List.getElem?_eq_getElem hil);simp only [List.length_nil,Nat.zero_add] at h1 h2;rw [hi] at h2;simp only [Option.some.injEq] at h2;subst h2;cases y with
  | q dd e obs=>
    simp only [En.ent,Option.some.injEq] at hx;subst hx;refine ⟨?_,rfl⟩;cases d with
    | q ks orc=>
      simp only [A1w,Bool.cond_eq_ite] at h1
      repeat' (split at h1)
      all_goals first | (cases h1;done) | skip
      simp only [Option.some.injEq,En.q.injEq] at h1;obtain ⟨_,rfl,_⟩:=h1;assumption
    | p ks orc=>
      simp only [A1w,Bool.cond_eq_ite] at h1
      repeat' (split at h1)
      all_goals first | (cases h1;done) | skip
      simp only [Option.some.injEq,En.q.injEq] at h1;obtain ⟨_,rfl,_⟩:=h1;assumption
    | s ks=>simp only [A1w,Bool.cond_eq_ite] at h1;repeat' (split at h1);all_goals first | (cases h1;done) | skip
    | t e=>simp only [A1w,Bool.cond_eq_ite] at h1;split at h1<;>cases h1
    | no=>cases h1
    | a p=>simp only [A1w,Bool.cond_eq_ite] at h1;repeat' (split at h1);all_goals (first | (cases h1;done) | skip)
    | l b sp=>
      simp only [A1w] at h1;split at h1
      · simp only [Option.some.injEq,En.q.injEq] at h1;obtain ⟨_,rfl,_⟩:=h1;rfl
      · cases h1
  | s dd=>
    cases dd with
    | none=>cases hx
    | some dd=>simp only [En.ent,Option.some.injEq] at hx;subst hx;exact ⟨rfl,rfl⟩
  | t dd e=>
    cases dd with
    | none=>cases hx
    | some dd=>
      cases e with
      | none=>cases hx
      | some e=>simp only [En.ent,Option.some.injEq] at hx;subst hx;exact ⟨hw _ _ rfl,rfl⟩
  | no=>cases hx
  | a=>cases hx
def wfT(σ:S)(tb:List En):Bool:=tb.all fun x=>match x with | .t _ (some e)=>e.wf σ.bs.length | _=>true
theorem A79(h:wfT σ tb=true){i:Nat}{y:En}(hi:tb[i]? =some y):∀d e,y=.t d (some e)→e.wf σ.bs.length=true:=by
  intro d e he;subst he;exact List.all_eq_true.1 h _ (List.mem_of_getElem? hi)
theorem DS.inv(hJ:DS w0 own n σ ns tb listed a w)(hp:∀x∈σ.env,x.p=[])(hwf:∀(i:Nat) (y:En) (x:Ent),tb[i]? =some y→y.ent=some x→x.e.wf σ.bs.length=true∧x.p=[]){env:List Ent}(henv:∀x∈env,∃k y,Lst listed k∧tb[k]? =some y∧y.ent=some x):Inv w0 own n (σ.wth env) ns a w:=by
  refine ⟨hJ.base.size,hJ.base.defers,fun x hx=>?_,fun x hx=>?_,hJ.base.bwf,fun x hx=>by simp [S.wth] at hx,hJ.base.loc,hJ.base.pin⟩
  · rcases List.mem_append.1 hx with hx | hx
    · obtain ⟨k,y,h1,h2,h3⟩:=henv x hx;have:=hJ.val k y x h2 h3 h1;rw [(hwf k y x h2 h3).2]
      simpa [K0,gvv,S.wth] using this
    · have:=hJ.base.env x hx;rw [hp x hx] at this ⊢
      simpa [K0,gvv,S.wth] using this
  · rcases List.mem_append.1 hx with hx | hx
    · obtain ⟨k,y,h1,h2,h3⟩:=henv x hx;obtain ⟨g1,g2⟩:=hwf k y x h2 h3;exact ⟨g1,by rw [g2];intro y hy;simp at hy⟩
    · exact ⟨(hJ.base.ewf x hx).1,by rw [hp x hx];intro y hy;simp at hy⟩
theorem A84{o':Oper}(hd:o'.dst=o.dst){K:Act→World→Prop}(hrun:(o'.semAt F.round a.eval).run P w=(o.semAt F.round a.eval).run P w)(hF:E9 F)(h:o'.wpIn F m P a w K Q):o.wpIn F m P a w K Q:=by
  unfold Oper.wpIn at h ⊢;refine ⟨fun f _=>hF.fn f,?_⟩;have h2:=h.2;rw [hrun] at h2;generalize (o.semAt F.round a.eval).run P w=r at*
  cases r with
  | ok x w'=>cases x<;>simp only [Oper.uponIn,hd] at h2 ⊢ <;>exact h2
  | halt x w'=>cases x<;>simp only [Oper.uponIn] at h2 ⊢ <;>exact h2
theorem DS.upd(hJ:DS w0 own n σ ns tb listed a w){i:Nat}{y:En}(hy:tb[i]? =some y)(hn:y≠ .no)(hna:∀d T zs p,y≠ .a d T zs p)(hbl:Below w.heap.size w w')(hsz:i<listed.size){v:Value}(hI:Inv w0 own n σ ns (a.put o.dst v) w')(hd:∀d,o.dst=some d→d<n)(hv:∀x,y.ent=some x→o.dst=some x.t∧v=x.e.den ns)
    (hne:∀(k:Nat) (z:En),k≠i→tb[k]? =some z→∀d,z.dst=some d→o.dst≠some d) (hdst:∀(z:En) (x:Ent),z.ent=some x→z.dst=some x.t):DS w0 own n σ ns tb (listed.setIfInBounds i true) (a.put o.dst v) w':=by
  have hst:∀k,Lst (listed.setIfInBounds i true) k↔Lst listed k∨k=i:=fun k=>A6c hsz;have hki:∀ {k:Nat} {d T zs p},tb[k]? =some (.a d T zs p)→k≠i:=fun {k d T zs p} hk hh=>by subst hh;rw [hy] at hk;simp only [Option.some.injEq] at hk;exact hna _ _ _ _ hk
  have hp:∀ {k:Nat} {d T zs p},tb[k]? =some (.a d T zs p)→(a.put o.dst v).tmps[d]? =a.tmps[d]? :=fun {k d T zs p} hk=>by
    have hne':=hne k _ (hki hk) hk d rfl;cases ho:o.dst with
    | none=>rfl
    | some d'=>rw [A3i hJ.base.size (hd d' ho),if_neg (fun e=>hne' (by rw [ho,e]))]
  refine ⟨hI,fun k z x hz hx hl=>?_,fun k hk hl=>?_,fun k d e hk=>(hst k).2 (.inl (hJ.dn k d e hk)),fun k d T zs p hk=>⟨fun b hb=>(hst k).2 (.inl ((hJ.al k d T zs p hk).1 b hb)),fun hl=>?_⟩,fun k j d T zs p d' T' zs' p' hkj hk hj hlk hlj=>?_⟩
  rotate_left 2
  · obtain ⟨b,h1,h2,h3,h4,h5⟩:=(hJ.al k d T zs p hk).2 (((hst k).1 hl).resolve_right (hki hk));exact ⟨b,h1,Nat.lt_of_lt_of_le h2 hbl.size,h3,by rw [hp hk];exact h4,by rw [hbl.block _ h2];exact h5⟩
  · rw [hp hk,hp hj];exact hJ.ad k j _ _ _ _ _ _ _ _ hkj hk hj (((hst k).1 hlk).resolve_right (hki hk)) (((hst j).1 hlj).resolve_right (hki hj))
  · by_cases hki:k=i
    · subst hki;rw [hy] at hz;simp only [Option.some.injEq] at hz;subst hz;obtain ⟨h1,h2⟩:=hv x hx;rw [h1,A3i hJ.base.size (hd _ h1),if_pos rfl,h2]
    · have hlk:Lst listed k:=((hst k).1 hl).resolve_right hki;have hne':=hne k z hki hz x.t (hdst z x hx);have h0:=hJ.val k z x hz hx hlk;cases ho:o.dst with
      | none=>exact h0
      | some d=>
        rw [A3i hJ.base.size (hd d ho),if_neg (fun e=>hne' (by rw [ho,e]))];exact h0
  · rcases (hst k).1 hl with h | rfl
    · exact hJ.un k hk h
    · rw [hy] at hk;simp only [Option.some.injEq] at hk;exact hn hk
theorem A9c(z:En)(x:Ent)(h:z.ent=some x):z.dst=some x.t:=by
  cases z with
  | q d e obs=>simp only [En.ent,Option.some.injEq] at h;subst h;rfl
  | s d=>cases d<;>simp only [En.ent] at h<;>cases h;rfl
  | t d e=>cases d<;>cases e<;>simp only [En.ent] at h<;>cases h;rfl
  | no=>cases h
  | a=>cases h
theorem A5r{d:Tmp}(h:B4o σ tb d=true):(∀x∈σ.env,x.t≠d)∧∀x∈tb,x.dst≠some d:=by
  unfold B4o at h;simp only [Bool.and_eq_true,List.all_eq_true] at h;refine ⟨fun x hx he=>?_,fun x hx he=>?_⟩
  · have:=h.1 x hx;rw [he] at this;simp at this
  · have:=h.2 x hx;rw [he] at this;simp at this
theorem A7a{sp:Sp}{y:En}{ops:Array Oper}(h:A1w P σ n ops tb o sp=some y)(hn:y≠ .no):A3z σ tb n o.dst=true∧y.dst=o.dst:=by
  induction sp generalizing y with
  | q ks orc=>
    simp only [A1w,Bool.cond_eq_ite] at h
    repeat' (split at h)
    all_goals first | (cases h;done) | skip
    rename_i d env hd _ hb _ e obs _ _;simp only [Option.some.injEq] at h;subst h;simp only [Bool.and_eq_true] at hb;exact ⟨hb.1.1,hd.symm⟩
  | p ks orc=>
    simp only [A1w,Bool.cond_eq_ite] at h
    repeat' (split at h)
    all_goals first | (cases h;done) | skip
    rename_i d env hd _ hb _ _ _ _ e obs _ _;simp only [Option.some.injEq] at h;subst h;simp only [Bool.and_eq_true] at hb;exact ⟨hb.1.1,hd.symm⟩
  | s ks=>
    simp only [A1w,Bool.cond_eq_ite] at h
    repeat' (split at h)
    all_goals first | (cases h;done) | skip
    rename_i hb;simp only [Option.some.injEq] at h;subst h;simp only [Bool.and_eq_true] at hb;exact ⟨hb.1.1,rfl⟩
  | t e=>
    simp only [A1w,Bool.cond_eq_ite] at h;split at h
    · rename_i hb;simp only [Option.some.injEq] at h;subst h;exact ⟨hb,rfl⟩
    · cases h
  | no=>simp only [A1w,Option.some.injEq] at h;exact absurd h.symm hn
  | a p=>
    simp only [A1w,Bool.cond_eq_ite] at h
    repeat' (split at h)
    all_goals first | (cases h;done) | skip
    rename_i d _ hd hb _ _ _ _ _ _;simp only [Option.some.injEq] at h;subst h;simp only [Bool.and_eq_true] at hb;exact ⟨hb.1,hd.symm⟩
  | l b sp ih=>
    simp only [A1w] at h;split at h
    · rename_i d c obs hq;have h3:= @ih (.q d (.v (.bool c)) obs) hq (by intro hh;cases hh);simp only [Option.some.injEq] at h;subst h;exact h3
    · cases h
theorem B76(h:A2u P σ n l.toArray [] l ds=some tb){i k:Nat}{o:Oper}{y z:En}(ho:l[i]? =some o)(hy:tb[i]? =some y)(hyn:y≠ .no)(hki:k≠i)(hz:tb[k]? =some z)(d:Tmp)(hd:z.dst=some d):o.dst≠some d:=by
  obtain ⟨_,hlen,hat⟩:=A4q h;simp only [List.length_nil,Nat.zero_add] at hlen hat;have hkl:k<l.length:=by have:=(List.getElem?_eq_some_iff.1 hz).1;omega
  have hzn:z≠ .no:=by rintro rfl;cases hd
  obtain ⟨dk,zk,g1,g2⟩:=hat k _ (List.getElem?_eq_getElem hkl);rw [hz] at g2;simp only [Option.some.injEq] at g2;subst g2;obtain ⟨di,zi,e1,e2⟩:=hat i o ho;rw [hy] at e2;simp only [Option.some.injEq] at e2;subst e2;obtain ⟨f1,f2⟩:=A7a g1 hzn;obtain ⟨p1,p2⟩:=A7a e1 hyn;intro hoo;rcases Nat.lt_or_gt_of_ne hki with hlt | hgt
  · rw [hoo] at p1;simp only [A3z,Bool.and_eq_true] at p1;exact (A5r p1.2).2 z (List.mem_of_getElem? (i:=k) (by rw [List.getElem?_take,if_pos hlt];exact hz)) hd
  · rw [← f2,hd] at f1;simp only [A3z,Bool.and_eq_true] at f1;exact (A5r f1.2).2 y (List.mem_of_getElem? (i:=i) (by rw [List.getElem?_take,if_pos hgt];exact hy)) (p2.trans hoo)
end
section
variable {F:Fence} {m:Nat} {P:Program} {w0 w1:World} {own own1:List Nat} {n:Nat} {σ σ':S} {ns:List Nat} {a a':Act} {w w':World} {o:Oper} {Q:Exit→Act→World→Prop}
variable {l:List Oper} {ds:List Sp} {tb tb':List En} {listed:Array Bool}
theorem A9g{x:Option Bool}(h:B47 x=true):x=some true:=by
  unfold B47 at h;split at h<;>simp_all
theorem B9r{x:Option Bool}(h:optF x=true):x=some false:=by
  unfold optF at h;split at h<;>simp_all
theorem B8a{c x y z:Operand}(hI:Inv w0 own n σ ns a w)(hop:o.op=.pick c x y)(h:B2j σ.env o=some z):(execOp a.eval {o with guard:=none,op:=.move z}).run P w'=(execOp a.eval o).run P w':=by
  unfold B2j at h;rw [hop] at h;simp only at h;have e1:(execOp a.eval {o with guard:=none,op:=.move z}).run P w'=.ok (.value (a.eval z)) w':=by simp [execOp,Sem.run_pure]
  rw [e1];split at h
  · rename_i hc;simp only [Option.some.injEq] at h;subst h;have:=hI.opnd (A4l hc) rfl;simp only [EV.den] at this;unfold execOp;rw [hop];simp [this,asBool,Sem.run_bind,Sem.run]
  · rename_i hc;simp only [Option.some.injEq] at h;subst h;have:=hI.opnd (A4l hc) rfl;simp only [EV.den] at this;unfold execOp;rw [hop];simp [this,asBool,Sem.run_bind,Sem.run]
  · cases h
theorem DS.one(hF:E9 F){ops:Array Oper}{tb0:List En}(hinv:∀ {ks:List Nat} {env:List Ent},ks.all (O8 o)=true→A7o tb0 ks=some env→Inv w0 own n (σ.wth env) ns a w){K:Act→World→Prop}:
    ∀(sp:Sp) (y:En),A1w P σ n ops tb0 o sp=some y→(∀d e obs,y=.q d e obs→Obs P w0 own obs∧∀w',Below w.heap.size w w'→K (a.put o.dst (e.den ns)) w')→(∀d,y=.s d→K (a.put o.dst undef) w)→y≠ .no→(∀d e,y≠ .t d e)→(∀d T zs p,y≠ .a d T zs p)→
    (if Region.wanted o (yielded ops a.tmps)=true then o.wpIn F m P a w K Q else (∀f,o.about P w a.eval=some f→F.fn f)∧K (a.put o.dst undef) w):=by
  intro sp
  induction sp with
  | q ks orc=>
    intro y g1 hq hs hn ht hna;simp only [A1w,Bool.cond_eq_ite] at g1
    repeat' (split at g1)
    all_goals first | (cases g1;done) | skip
    rename_i d env hd henvT hb _ e obs hq' hw;simp only [Option.some.injEq] at g1;subst g1;simp only [Bool.and_eq_true] at hb;have hI':=hinv hb.1.2 henvT;rw [A2k hI' (A9g hb.2),if_pos rfl];obtain ⟨hob,hK⟩:=hq _ _ _ rfl;have hq1:=A62 (ops:=ops) (Q:=Q) (m:=m) hF (o:={o with guard:=none}) hI' rfl hq' hob (K:=K) hK;rw [if_pos (C2 rfl)] at hq1;exact A84 (o:=o) (o':={o with guard:=none}) rfl rfl hF hq1
  | p ks orc=>
    intro y g1 hq hs hn ht hna;simp only [A1w,Bool.cond_eq_ite] at g1
    repeat' (split at g1)
    all_goals first | (cases g1;done) | skip
    rename_i d env hd henvT hb _ z hz _ e obs hq' hw;simp only [Option.some.injEq] at g1;subst g1;simp only [Bool.and_eq_true] at hb;have hI':=hinv hb.1.2 henvT;rw [A2k hI' (A9g hb.2),if_pos rfl];obtain ⟨c,x,yy,hop⟩:∃c x yy,o.op=.pick c x yy:=by
      unfold B2j at hz;split at hz
      · exact ⟨_,_,_,by assumption⟩
      · cases hz
    obtain ⟨hob,hK⟩:=hq _ _ _ rfl;have hq1:=A62 (ops:=ops) (Q:=Q) (m:=m) hF (o:={o with guard:=none,op:=.move z}) hI' rfl hq' hob (K:=K) hK;rw [if_pos (C2 rfl)] at hq1;refine A84 (o:=o) (o':={o with guard:=none,op:=.move z}) rfl ?_ hF hq1;rw [Oper.semAt_plain F _ _ (by intro c hc;cases hc),Oper.semAt_plain F _ _ (by intro c hc;rw [hop] at hc;cases hc)];exact B8a hI' hop hz
  | s ks=>
    intro y g1 hq hs hn ht hna;simp only [A1w,Bool.cond_eq_ite] at g1
    repeat' (split at g1)
    all_goals first | (cases g1;done) | skip
    rename_i env henvT hb;simp only [Option.some.injEq] at g1;subst g1;simp only [Bool.and_eq_true,Bool.or_eq_true] at hb;have hI':=hinv hb.1.2 henvT;have hw:Region.wanted o (yielded ops a.tmps)=false:=by
      rcases hb.2 with hb | hb
      · exact A2k hI' (B9r hb)
      · exact B5k hI' hb
    rw [hw];exact ⟨fun f _=>hF.fn f,hs _ rfl⟩
  | t e=>
    intro y g1 hq hs hn ht hna;simp only [A1w] at g1;cases hfr:A3z σ tb0 n o.dst
    · rw [hfr] at g1;cases g1
    · rw [hfr] at g1;simp only [cond_true,Option.some.injEq] at g1;exact absurd g1.symm (ht _ _)
  | no=>intro y g1 hq hs hn ht hna;simp only [A1w,Option.some.injEq] at g1;exact absurd g1.symm hn
  | a p=>
    intro y g1 hq hs hn ht hna;simp only [A1w,Bool.cond_eq_ite] at g1
    repeat' (split at g1)
    all_goals first | (cases g1;done) | skip
    simp only [Option.some.injEq] at g1;exact absurd g1.symm (hna _ _ _ _)
  | l b sp ih=>
    intro y g1 hq hs hn ht hna;simp only [A1w] at g1;split at g1
    · rename_i d c obs hsp;simp only [Option.some.injEq] at g1;subst g1;obtain ⟨⟨hc,hob⟩,hK⟩:=hq _ _ _ rfl;have hc:=hc rfl;subst hc;exact ih _ hsp (fun d' e' obs' he=>by simp only [En.q.injEq] at he;obtain ⟨rfl,rfl,rfl⟩:=he;exact ⟨hob,hK⟩) (fun d' he=>by cases he) (by intro he;cases he) (by intro d' e' he;cases he) (by intro d' T' zs' p' he;cases he)
    · cases g1
theorem B43{ops:Array Oper}{tb0:List En}{sp:Sp}{d:Tmp}{T:TypeId}{zs:List Value}{p:Option Nat}(h:A1w P σ n ops tb0 o sp=some (.a d T zs p)):
    ∃inf z,o.op=.alloc T∧o.dst=some d∧o.guard=none∧P.info? T=some inf∧inf.zero=some z∧zs=z.cells.toList:=by
  cases sp with
  | a p=>
    simp only [A1w,Bool.cond_eq_ite] at h
    repeat' (split at h)
    all_goals first | (cases h;done) | skip
    rename_i T' d' hop hd hb _ inf hi _ z hz;simp only [Option.some.injEq,En.a.injEq] at h;obtain ⟨rfl,rfl,rfl,rfl⟩:=h;simp only [Bool.and_eq_true] at hb;exact ⟨inf,z,hop,hd,by cases hg:o.guard<;>simp_all [A40],hi,hz,rfl⟩
  | q=>simp only [A1w,Bool.cond_eq_ite] at h;repeat' (split at h);all_goals (first | (cases h;done) | skip)
  | p=>simp only [A1w,Bool.cond_eq_ite] at h;repeat' (split at h);all_goals (first | (cases h;done) | skip)
  | s=>simp only [A1w,Bool.cond_eq_ite] at h;repeat' (split at h);all_goals (first | (cases h;done) | skip)
  | t=>simp only [A1w,Bool.cond_eq_ite] at h;repeat' (split at h);all_goals (first | (cases h;done) | skip)
  | no=>cases h
  | l b sp=>
    simp only [A1w] at h;split at h
    · cases h
    · cases h
theorem DS.lay(hF:E9 F){ops:Array Oper}{tb0:List En}{sp:Sp}{i:Nat}{d:Tmp}{T:TypeId}{zs:List Value}{p:Option Nat}(hJ:DS w0 own n σ ns tb listed a w)(g1:A1w P σ n ops tb0 o sp=some (.a d T zs p))(g2:tb[i]? =some (.a d T zs p))
    (hsz:i<listed.size) (hnl:¬Lst listed i) (hdn:d<n) (hfe:∀x∈σ.env,x.t≠d) (hne:∀(k:Nat) (z:En),k≠i→tb[k]? =some z→∀d',z.dst=some d'→d≠d') {K:Act→World→Prop}
    (hK:∀a' w',DS w0 own n σ ns tb (listed.setIfInBounds i true) a' w'→K a' w'):
    (if Region.wanted o (yielded ops a.tmps)=true then o.wpIn F m P a w K Q else (∀f,o.about P w a.eval=some f→F.fn f)∧K (a.put o.dst undef) w):=by
  obtain ⟨inf,z,hop,hd,hg,hi,hz,rfl⟩:=B43 g1;rw [if_pos (C2 hg)];have he:A5b P σ [] [] o=some (.new (z.cells.toList.map .v) T none):=by
    unfold A5b;rw [hop];simp [S9,hi,hz]
  obtain ⟨_,_,hrun⟩:=A9s hJ.base he;rw [Y2] at hrun;unfold Oper.wpIn;refine ⟨fun f _=>hF.fn f,?_⟩;rw [Oper.semAt_plain F _ _ (by rw [hop];intro c hc;cases hc),hrun];show K (a.put o.dst (.pointer (some ⟨w.heap.size,0,none⟩))) (w.alloc (.cells z.cells.toList.toArray T));rw [hd];refine hK _ _ ?_;have hb:Below w.heap.size w (w.alloc (.cells z.cells.toList.toArray T)):=(Below.refl _ _).alloc (Nat.le_refl _) _;have hst:∀k,Lst (listed.setIfInBounds i true) k↔Lst listed k∨k=i:=fun k=>A6c hsz;have hput:∀ {k:Nat} {z':En} {d':Tmp},k≠i→tb[k]? =some z'→z'.dst=some d'→(a.put (some d) (Value.pointer (some ⟨w.heap.size,0,none⟩))).tmps[d']? =a.tmps[d']? :=fun {k z' d'} hki hk hd'=>by
    rw [A3i hJ.base.size hdn,if_neg (fun hh=>hne k z' hki hk d' hd' hh.symm)]
  have hself:(a.put (some d) (Value.pointer (some ⟨w.heap.size,0,none⟩))).tmps[d]? =some (.pointer (some ⟨w.heap.size,0,none⟩)):=by rw [A3i hJ.base.size hdn,if_pos rfl]
  refine ⟨(hJ.base.below hb).put_other hfe,fun k y x hk hx hl=>?_,fun k hk hl=>?_,fun k d' e hk=>(hst k).2 (.inl (hJ.dn k d' e hk)),fun k d' T' zs' p' hk=>⟨fun b hb'=>(hst k).2 (.inl ((hJ.al k d' T' zs' p' hk).1 b hb')),fun hl=>?_⟩,fun k j d1 T1 z1 p1 d2 T2 z2 p2 hkj hk hj hlk hlj=>?_⟩
  · have hki:k≠i:=fun hh=>by subst hh;rw [g2] at hk;simp only [Option.some.injEq] at hk;subst hk;cases hx
    rw [hput hki hk (A9c y x hx)];exact hJ.val k y x hk hx (((hst k).1 hl).resolve_right hki)
  · rcases (hst k).1 hl with h | rfl
    · exact hJ.un k hk h
    · rw [g2] at hk;cases hk
  · by_cases hki:k=i
    · subst hki;rw [g2] at hk;simp only [Option.some.injEq,En.a.injEq] at hk;obtain ⟨rfl,rfl,rfl,rfl⟩:=hk;refine ⟨w.heap.size,.inr ⟨?_,hJ.base.loc.base.size⟩,by simp,fun hh=>by have:=hJ.base.loc.lt hh;omega,hself,heap_alloc_new w _⟩;cases hp:p with
      | none=>rfl
      | some b=>exact absurd ((hJ.al k _ _ _ _ g2).1 b hp) hnl
    · obtain ⟨b,h1,h2,h3,h4,h5⟩:=(hJ.al k d' T' zs' p' hk).2 (((hst k).1 hl).resolve_right hki);exact ⟨b,h1,Nat.lt_of_lt_of_le h2 hb.size,h3,by rw [hput hki hk rfl];exact h4,by rw [hb.block _ h2];exact h5⟩
  · have old:∀ {k j:Nat} {d1 T1 z1 p1 d2 T2 z2 p2},k=i→j≠i→tb[k]? =some (.a d1 T1 z1 p1)→tb[j]? =some (.a d2 T2 z2 p2)→Lst (listed.setIfInBounds i true) j→(a.put (some d) (Value.pointer (some ⟨w.heap.size,0,none⟩))).tmps[d1]? ≠(a.put (some d) (Value.pointer (some ⟨w.heap.size,0,none⟩))).tmps[d2]? :=fun {k j d1 T1 z1 p1 d2 T2 z2 p2} e1 e2 hk hj hlj=>by
      subst e1;rw [g2] at hk;simp only [Option.some.injEq,En.a.injEq] at hk;obtain ⟨rfl,rfl,rfl,rfl⟩:=hk;obtain ⟨b,_,h2,_,h4,_⟩:=(hJ.al j _ _ _ _ hj).2 (((hst j).1 hlj).resolve_right e2);rw [hself,hput e2 hj rfl,h4];intro hh;simp only [Option.some.injEq,Value.pointer.injEq,Addr.mk.injEq] at hh;omega
    by_cases e1:k=i
    · exact old e1 (fun hh=>hkj (e1.trans hh.symm)) hk hj hlj
    · by_cases e2:j=i
      · exact fun hh=>old e2 e1 hj hk hlk hh.symm
      · rw [hput e1 hk rfl,hput e2 hj rfl];exact hJ.ad k j _ _ _ _ _ _ _ _ hkj hk hj (((hst k).1 hlk).resolve_right e1) (((hst j).1 hlj).resolve_right e2)
theorem DS.go(hF:E9 F)(h:A2u P σ n l.toArray [] l ds=some tb)(hp:∀x∈σ.env,x.p=[])(hwt:wfT σ tb=true)(hob:Obs P w0 own (A7d tb))(hback:A03 0 l=true)(t:List Nat)(hrd:A3r tb t 0 l=true)
    (htn:t=[]→∀i:Nat,tb[i]? ≠some .no) (htt:∀i,i∈t→tb[i]? =some .no)
    (KT:∀i o fuel listed a w,i∈t→l[i]? =some o→DS w0 own n σ ns tb listed a w→i<listed.size→¬Lst listed i→(∀k,O8 o k=true→Lst listed k)→listed.size=l.length→unl listed≤fuel+1→
      wpOpIn F m P l.toArray Q i (wpAnyIn F m P .any l.toArray Q fuel (listed.setIfInBounds i true)) a w)
    (KE:t=[]→∀listed a w,DS w0 own n σ ns tb listed a w→(∀k,k<l.length→Lst listed k)→Q .normal a w):
    ∀(fuel:Nat) (listed:Array Bool) (a:Act) (w:World),listed.size=l.length→unl listed≤fuel→DS w0 own n σ ns tb listed a w→wpAnyIn F m P .any l.toArray Q fuel listed a w:=by
  have hlen:tb.length=l.length:=by have:=(A4q h).2.1;simpa using this
  have hwf:∀(i:Nat) (y:En) (x:Ent),tb[i]? =some y→y.ent=some x→x.e.wf σ.bs.length=true∧x.p=[]:=fun i y x hi hx=>En.wfE h hi hx (A79 hwt hi);have hend:∀(listed:Array Bool) (a:Act) (w:World),listed.size=l.length→DS w0 own n σ ns tb listed a w→Region.ready .any l.toArray listed=[]→Q .normal a w:=by
    intro listed a w hsz hJ hr;have hall:=B3m (i:=0) hback hsz hr;cases ht:t with
    | nil=>exact KE ht listed a w hJ hall
    | cons i r=>
      have h1:=htt i (by rw [ht];simp);exact absurd (hall i (by rw [← hlen];exact (List.getElem?_eq_some_iff.1 h1).1)) (hJ.un i h1)
  have hnl:∀ {listed:Array Bool} {i:Nat},i∈Region.ready .any l.toArray listed→i<listed.size∧¬Lst listed i:=by
    intro listed i hr;obtain ⟨hun,_⟩:=mem_ready.1 hr;rw [Array.getD_eq_getD_getElem?] at hun;cases hh:listed[i]? with
    | none=>rw [hh] at hun;cases hun
    | some b=>
      rw [hh] at hun;refine ⟨(Array.getElem?_eq_some_iff.1 hh).1,fun hl=>?_⟩;unfold Lst at hl;rw [hh] at hl;simp only [Option.some.injEq] at hl;subst hl;cases hun
  intro fuel
  induction fuel with
  | zero=>
    intro listed a w hsz hu hJ;have hr:Region.ready .any l.toArray listed=[]:=by
      cases hh:Region.ready .any l.toArray listed with
      | nil=>rfl
      | cons i r=>
        obtain ⟨h1,h2⟩:=hnl (listed:=listed) (i:=i) (by rw [hh];simp);have:=A78 h1 h2;omega
    exact ⟨hr,hend listed a w hsz hJ hr⟩
  | succ fuel ih=>
    intro listed a w hsz hu hJ;refine ⟨hend listed a w hsz hJ,fun i hi=>?_⟩;obtain ⟨h1,h2⟩:=hnl hi;obtain ⟨_,o,ho,hall⟩:=mem_ready.1 hi;have ho':l[i]? =some o:=by simpa using ho
    have hbind:∀k,O8 o k=true→Lst listed k:=by
      intro k hk;unfold O8 at hk;rw [Array.any_eq_true'] at hk;obtain ⟨e,he,hb⟩:=hk;simp only [Bool.and_eq_true] at hb;have hon:=Nat.eq_of_beq_eq_true hb.2;subst hon;have:=hall e he hb.1;unfold Lst;rw [Array.getD_eq_getD_getElem?] at this;cases hh:listed[e.on]? with
      | none=>rw [hh] at this;cases this
      | some b=>rw [hh] at this;simp only [Option.getD_some] at this;rw [this]
    obtain ⟨sp,y,g1,g2⟩:=(A4q h).2.2 i o ho';simp only [List.length_nil,Nat.zero_add] at g1 g2;have hul:=A78 h1 h2;have hnext:∀(a':Act) (w':World),DS w0 own n σ ns tb (listed.setIfInBounds i true) a' w'→wpAnyIn F m P .any l.toArray Q fuel (listed.setIfInBounds i true) a' w':=fun a' w' hJ'=>ih _ a' w' (by simpa using hsz) (by omega) hJ';by_cases hyn:y=.no
    · subst hyn;rcases A71 hrd i o ho' (by simpa using g2) with ht | ⟨k,hk,hkb⟩
      · rw [Nat.zero_add] at ht;exact KT i o fuel listed a w ht ho' hJ h1 h2 hbind hsz hu
      · exact absurd (hbind k hkb) (hJ.un k hk)
    · obtain ⟨hfr,hdst⟩:=A7a g1 hyn;have hne:∀(k:Nat) (z:En),k≠i→tb[k]? =some z→∀d,z.dst=some d→o.dst≠some d:=fun k z hk hz d hd=>B76 h ho' g2 hyn hk hz d hd;have hdn:∀d,o.dst=some d→d<n:=fun d hd=>by rw [hd] at hfr;simp only [A3z,Bool.and_eq_true] at hfr;simpa using hfr.1
      have hfe:∀d,o.dst=some d→∀x∈σ.env,x.t≠d:=fun d hd=>by rw [hd] at hfr;simp only [A3z,Bool.and_eq_true] at hfr;exact (A5r hfr.2).1
      have hput:∀ {v:Value} {w':World},Inv w0 own n σ ns a w'→Inv w0 own n σ ns (a.put o.dst v) w':=fun {v w'} hI=>by
        cases hd:o.dst with
        | none=>exact hI
        | some d=>exact hI.put_other (hfe d hd)
      have henv:∀ {ks:List Nat} {env:List Ent},ks.all (O8 o)=true→A7o (tb.take i) ks=some env→Inv w0 own n (σ.wth env) ns a w:=fun {ks env} hks he=>by
        refine hJ.inv hp hwf fun x hx=>?_;obtain ⟨k,y,k1,k2,k3⟩:=A7p he x hx;have hki:k<i:=by have:=(List.getElem?_eq_some_iff.1 k2).1;simp at this;omega
        rw [List.getElem?_take,if_pos hki] at k2;exact ⟨k,y,hbind k (List.all_eq_true.1 hks k k1),k2,k3⟩
      unfold wpOpIn;simp only [ho];by_cases hya:∃d T zs p,y=.a d T zs p
      · obtain ⟨d,T,zs,p,rfl⟩:=hya;have hd0:o.dst=some d:=hdst.symm;exact DS.lay hF hJ g1 g2 h1 h2 (hdn d hd0) (hfe d hd0) (fun k z hk hz d' hd' hh=>hne k z hk hz d' hd' (by rw [hd0,hh])) hnext
      have hna:∀d T zs p,y≠ .a d T zs p:=fun d T zs p hh=>hya ⟨d,T,zs,p,hh⟩;refine DS.one hF henv sp y g1 (fun d e obs he=>?_) (fun d he=>?_) hyn (fun d e he=>?_) hna
      · subst he;exact ⟨A6j hob i d e obs g2,fun w' hbl=>hnext _ _ (hJ.upd g2 hyn hna hbl h1 (hput (hJ.base.below hbl)) hdn (fun x hx=>by simp only [En.ent,Option.some.injEq] at hx;subst hx;exact ⟨hdst.symm,rfl⟩) hne A9c)⟩
      · subst he;refine hnext _ _ (hJ.upd g2 hyn hna ⟨rfl,rfl,rfl,Nat.le_refl _,fun _ _=>rfl⟩ h1 (hput hJ.base) hdn (fun x hx=>?_) hne A9c);cases d with
        | none=>cases hx
        | some d=>simp only [En.ent,Option.some.injEq] at hx;subst hx;exact ⟨hdst.symm,rfl⟩
      · subst he;exact absurd (hJ.dn i _ _ g2) h2
def QA(K:Act→World→Prop)(Q:Exit→Act→World→Prop):Exit→Act→World→Prop
  | .normal,a,w=>K a w
  | .exit id,a,w=>Q (.exit id) a w
  | .goto t,a,w=>Q (.goto t) a w
  | .ret,a,w=>Q .ret a w
  | .panic c,a,w=>Q (.panic c) a w
  | .outgrown,a,w=>Q .outgrown a w
theorem A70{ops:Array Oper}{K:Act→World→Prop}{i:Nat}(ho:ops[i]? =some o)(hF:E9 F)(hw:Region.wanted o (yielded ops a.tmps)=true)(h:wpListIn F m P ops (QA K Q) [o] a w):wpOpIn F m P ops Q i K a w:=by
  unfold wpOpIn;simp only [ho];unfold wpListIn at h;rw [hw,if_pos rfl] at h ⊢;unfold Oper.wpIn at h ⊢;refine ⟨fun f _=>hF.fn f,?_⟩;have h2:=h.2;have hn:∀a w,wpListIn F m P ops (QA K Q) [] a w→K a w:=fun a w h=>h;generalize (o.semAt F.round a.eval).run P w=r at*
  cases r with
  | ok x w'=>
    cases x<;>simp only [Oper.uponIn] at h2 ⊢ <;>
      first
        | exact hn _ _ h2
        | exact ⟨h2.1,CallsIn.mono h2.2 (fun e w'' he=>by cases e<;>first | exact hn _ _ he | exact he)⟩
        | exact ⟨h2.1,RowsIn.mono h2.2 (fun _ _ he=>hn _ _ he)⟩
        | exact ⟨h2.1,RoundIn.mono h2.2 (fun e w'' he=>by cases e<;>first | exact hn _ _ he | exact he)⟩
  | halt x w'=>cases x<;>simp only [Oper.uponIn] at h2 ⊢ <;>exact h2
def A69(tb:List En)(i:Nat):Bool:=match tb[i]? with | some .no=>true | _=>false
theorem A8d{i:Nat}(h:A69 tb i=true):tb[i]? =some .no:=by
  unfold A69 at h;split at h
  · assumption
  · cases h
def B77(tb:List En):Bool:=tb.all fun x=>match x with | .no=>false | _=>true
theorem A3t(hp:(σ.env.all fun x=>S9 x.p)=true):∀x∈σ.env,x.p=[]:=fun x hx=>by
  have:=List.all_eq_true.1 hp x hx;cases hh:x.p<;>simp_all [S9]
def A8v(tb:List En):List Nat→List En
  | []=>tb
  | k::r=>A8v (match tb[k]? with | some (.q d e _)=>tb.set k (.t (some d) (some e)) | _=>tb) r
theorem DS.done:∀(dn:List Nat) {tb:List En},DS w0 own n σ ns tb listed a w→(∀k∈dn,Lst listed k)→DS w0 own n σ ns (A8v tb dn) listed a w
  | [],tb,hJ,_=>hJ
  | k :: r,tb,hJ,hk=>by
    simp only [A8v];refine DS.done r ?_ (fun j hj=>hk j (by simp [hj]));split
    · rename_i d e obs hq;have hlt:k<tb.length:=(List.getElem?_eq_some_iff.1 hq).1;have hA:∀ {i:Nat} {d' T' zs' p'},(tb.set k (.t (some d) (some e)))[i]? =some (.a d' T' zs' p')→tb[i]? =some (.a d' T' zs' p'):=fun {i d' T' zs' p'} hi=>by
        by_cases hik:i=k
        · subst hik;rw [List.getElem?_set_self hlt] at hi;cases hi
        · rwa [List.getElem?_set_ne (Ne.symm hik)] at hi
      refine ⟨hJ.base,fun i y x hy hx hl=>?_,fun i hi=>?_,fun i d' e' hi=>?_,fun i d' T' zs' p' hi=>hJ.al i d' T' zs' p' (hA hi),fun i j d1 T1 z1 p1 d2 T2 z2 p2 hij hi hj=>hJ.ad i j _ _ _ _ _ _ _ _ hij (hA hi) (hA hj)⟩
      · by_cases hik:i=k
        · subst hik;rw [List.getElem?_set_self hlt] at hy;simp only [Option.some.injEq] at hy;subst hy;exact hJ.val i _ x hq hx hl
        · rw [List.getElem?_set_ne (Ne.symm hik)] at hy;exact hJ.val i y x hy hx hl
      · by_cases hik:i=k
        · subst hik;rw [List.getElem?_set_self hlt] at hi;cases hi
        · rw [List.getElem?_set_ne (Ne.symm hik)] at hi;exact hJ.un i hi
      · by_cases hik:i=k
        · subst hik;exact hk i (by simp)
        · rw [List.getElem?_set_ne (Ne.symm hik)] at hi;exact hJ.dn i d' e' hi
    · exact hJ
theorem stage_{fuel:Nat}(hJ:DS w0 own n σ ns tb listed a w)(hF:E9 F)(hsz:listed.size=l.length)(hu:unl listed≤fuel)(ds:List Sp)(h:A2u P σ n l.toArray [] l ds=some tb)(hp:(σ.env.all fun x=>S9 x.p)=true)(hwt:wfT σ tb=true)(hback:A03 0 l=true)
    (t:Nat) {o:Oper} (ho:l[t]? =some o) (hrd:A3r tb [t] 0 l=true) (htt:A69 tb t=true) (ks:List Nat) {env:List Ent} (henv:A7o tb ks=some env) (hks:ks.all (O8 o)=true) (hwn:B47 (A49 l.toArray (σ.wth env) o.guard)=true) (hob:Obs P w0 own (A7d tb))
    (dn:List Nat) (hdn:dn.all (O8 o)=true) (tb2:List En) (htb:A8v tb dn=tb2)
    (K:∀fuel listed a w,DS w0 own n σ ns tb2 listed a w→Inv w0 own n (σ.wth env) ns a w→Region.wanted o (yielded l.toArray a.tmps)=true→t<listed.size→¬Lst listed t→listed.size=l.length→unl listed≤fuel+1→
      wpListIn F m P l.toArray (QA (wpAnyIn F m P .any l.toArray Q fuel (listed.setIfInBounds t true)) Q) [o] a w):wpAnyIn F m P .any l.toArray Q fuel listed a w:=by
  refine DS.go hF h (A3t hp) hwt hob hback [t] hrd (by intro hh;cases hh) (fun i hi=>by simp only [List.mem_singleton] at hi;subst hi;exact A8d htt) ?_ (by intro hh;cases hh) fuel listed a w hsz hu hJ;intro i o' fuel listed a w hi ho' hJ' h1 h2 hbind hsz' hu';simp only [List.mem_singleton] at hi;subst hi;rw [ho] at ho';simp only [Option.some.injEq] at ho';subst ho';have hI:=hJ'.inv (A3t hp) (fun i y x hi hx=>En.wfE h hi hx (A79 hwt hi)) (env:=env) (fun x hx=>by
    obtain ⟨k,y,k1,k2,k3⟩:=A7p henv x hx;exact ⟨k,y,hbind k (List.all_eq_true.1 hks k k1),k2,k3⟩)
  have hw:=A2k hI (A9g hwn);exact A70 (by simpa using ho) hF hw (K fuel listed a w (htb▸hJ'.done dn (fun k hk=>hbind k (List.all_eq_true.1 hdn k hk))) hI hw h1 h2 hsz' hu')
theorem end_{fuel:Nat}(hJ:DS w0 own n σ ns tb listed a w)(hF:E9 F)(hsz:listed.size=l.length)(hu:unl listed≤fuel)(ds:List Sp)(h:A2u P σ n l.toArray [] l ds=some tb)(hp:(σ.env.all fun x=>S9 x.p)=true)(hwt:wfT σ tb=true)(hback:A03 0 l=true)
    (hrd:A3r tb [] 0 l=true) (hnn:B77 tb=true) {live:List Nat} (σ2:S) (hfin:fin live (σ.wth (tb.filterMap En.ent))=some σ2) (hob:Obs P w0 own (A7d tb)) (K:∀a w,St w0 own n σ2 ns a w→Q .normal a w):wpAnyIn F m P .any l.toArray Q fuel listed a w:=by
  have hlen:tb.length=l.length:=by have:=(A4q h).2.1;simpa using this
  have hwf:∀(i:Nat) (y:En) (x:Ent),tb[i]? =some y→y.ent=some x→x.e.wf σ.bs.length=true∧x.p=[]:=fun i y x hi hx=>En.wfE h hi hx (A79 hwt hi);refine DS.go hF h (A3t hp) hwt hob hback [] hrd (fun _ i hi=>?_) (by intro i hi;cases hi) (by intro i o f l a w hi;cases hi) (fun _ listed a w hJ' hall=>?_) fuel listed a w hsz hu hJ
  · have:=List.all_eq_true.1 hnn _ (List.mem_of_getElem? hi);cases this
  · refine K a w ((hJ'.inv (A3t hp) hwf fun x hx=>?_).fin hfin);obtain ⟨y,hy,hyx⟩:=List.mem_filterMap.1 hx;obtain ⟨k,hk⟩:=List.getElem?_of_mem hy;exact ⟨k,y,hall k (by rw [← hlen];exact (List.getElem?_eq_some_iff.1 hk).1),hk,hyx⟩
def A8y(tb:List En):List (Nat×En)→List En
  | []=>tb
  | (i,e)::r=>A8y (match tb[i]? with | some .no=>tb.set i e | _=>tb) r
def notT:En→Bool
  | .t .. =>false
  | .a .. =>false
  | _=>true
def notT0:En→Bool
  | .t .. =>false
  | .a _ _ _ (some _)=>false
  | _=>true
theorem A5o:∀ {news:List (Nat×En)} {tb:List En},news.all (fun x=>notT x.2)=true→∀(i:Nat) (y:En),(A8y tb news)[i]? =some y→(tb[i]? =some y)∨(tb[i]? =some .no∧notT y=true)
  | [],tb,_,i,y,h=>.inl h
  | (j, e)::r,tb,hn,i,y,h=>by
    simp only [List.all_cons,Bool.and_eq_true] at hn;simp only [A8y] at h;rcases A5o hn.2 i y h with h1 | ⟨h1,h2⟩
    · split at h1
      · rename_i hj;by_cases hij:i=j
        · subst hij;rw [List.getElem?_set_self (List.getElem?_eq_some_iff.1 hj).1] at h1;simp only [Option.some.injEq] at h1;subst h1;exact .inr ⟨hj,hn.1⟩
        · rw [List.getElem?_set_ne (Ne.symm hij)] at h1;exact .inl h1
      · exact .inl h1
    · split at h1
      · rename_i hj;by_cases hij:i=j
        · subst hij;exact .inr ⟨hj,h2⟩
        · rw [List.getElem?_set_ne (Ne.symm hij)] at h1;exact .inr ⟨h1,h2⟩
      · exact .inr ⟨h1,h2⟩
theorem DS.more(hJ:DS w0 own n σ ns tb listed a w)(news:List (Nat×En))(tb2:List En)(hn:news.all (fun x=>notT x.2)=true)(he:A8y tb news=tb2):DS w0 own n σ ns tb2 listed a w:=by
  subst he;have hA:∀ {i:Nat} {d' T' zs' p'},(A8y tb news)[i]? =some (.a d' T' zs' p')→tb[i]? =some (.a d' T' zs' p'):=fun {i d' T' zs' p'} hi=>by
    rcases A5o hn i _ hi with h | ⟨_,h⟩
    · exact h
    · cases h
  refine ⟨hJ.base,fun i y x hy hx hl=>?_,fun i hi=>?_,fun i d e hi=>?_,fun i d' T' zs' p' hi=>hJ.al i d' T' zs' p' (hA hi),fun i j d1 T1 z1 p1 d2 T2 z2 p2 hij hi hj=>hJ.ad i j _ _ _ _ _ _ _ _ hij (hA hi) (hA hj)⟩
  · rcases A5o hn i y hy with h | ⟨h,_⟩
    · exact hJ.val i y x h hx hl
    · exact absurd hl (hJ.un i h)
  · rcases A5o hn i _ hi with h | ⟨h,_⟩<;>exact hJ.un i h
  · rcases A5o hn i _ hi with h | ⟨_,h⟩
    · exact hJ.dn i d e h
    · cases h
theorem DS.cast(hJ:DS w0 own n σ ns tb listed a w)(tb2:List En)(h:tb=tb2):DS w0 own n σ ns tb2 listed a w:=h▸hJ
theorem DS.lit(hJ:DS w0 own n σ ns tb listed a w)(j:Nat){d:Tmp}{c b:Bool}{obs:List Ob}(hj:tb[j]? =some (.q d (.v (.bool c)) obs))(hb:c=b)(tb2:List En)(h:tb.set j (.q d (.v (.bool b)) (.need true (c=b)::obs))=tb2):DS w0 own n σ ns tb2 listed a w:=by
  subst hb;subst h;have hlt:j<tb.length:=(List.getElem?_eq_some_iff.1 hj).1;have hA:∀ {i:Nat} {d' T' zs' p'},(tb.set j (.q d (.v (.bool c)) (.need true (c=c)::obs)))[i]? =some (.a d' T' zs' p')→tb[i]? =some (.a d' T' zs' p'):=fun {i d' T' zs' p'} hi=>by
    by_cases hij:i=j
    · subst hij;rw [List.getElem?_set_self hlt] at hi;cases hi
    · rwa [List.getElem?_set_ne (Ne.symm hij)] at hi
  refine ⟨hJ.base,fun i y x hy hx hl=>?_,fun i hi=>?_,fun i d' e hi=>?_,fun i d' T' zs' p' hi=>hJ.al i d' T' zs' p' (hA hi),fun i j d1 T1 z1 p1 d2 T2 z2 p2 hij hi hj=>hJ.ad i j _ _ _ _ _ _ _ _ hij (hA hi) (hA hj)⟩
  · by_cases hij:i=j
    · subst hij;rw [List.getElem?_set_self hlt] at hy;simp only [Option.some.injEq] at hy;subst hy;exact hJ.val i _ x hj hx hl
    · rw [List.getElem?_set_ne (Ne.symm hij)] at hy;exact hJ.val i y x hy hx hl
  · by_cases hij:i=j
    · subst hij;rw [List.getElem?_set_self hlt] at hi;cases hi
    · rw [List.getElem?_set_ne (Ne.symm hij)] at hi;exact hJ.un i hi
  · by_cases hij:i=j
    · subst hij;rw [List.getElem?_set_self hlt] at hi;cases hi
    · rw [List.getElem?_set_ne (Ne.symm hij)] at hi;exact hJ.dn i d' e hi
def PdOk(p:Option Nat)(T:TypeId)(zs:List Value)(w:World):Prop:=∀b,p=some b→w.heap[b]? =some (.cells zs.toArray T (0,0))
def A7k:List En→World→Prop
  | [],_=>True
  | .a _ T zs p::r,w=>PdOk p T zs w∧A7k r w
  | _::r,w=>A7k r w
theorem A7k.at_:∀ {tb:List En} {w:World},A7k tb w→∀(i:Nat) d T zs p,tb[i]? =some (.a d T zs p)→PdOk p T zs w
  | [],w,h,i,d,T,zs,p,hi=>by simp at hi
  | x::r,w,h,0,d,T,zs,p,hi=>by
    simp only [List.getElem?_cons_zero,Option.some.injEq] at hi;subst hi;exact h.1
  | x::r,w,h,i+1,d,T,zs,p,hi=>by
    simp only [List.getElem?_cons_succ] at hi;refine A7k.at_ (tb:=r) ?_ i d T zs p hi;cases x<;>first | exact h | exact h.2
def AL(tb:List En)(listed:Array Bool):Prop:=∀(i:Nat) d T zs p,tb[i]? =some (.a d T zs p)→Lst listed i→∃b,p=some b
def noA(tb:List En):Bool:=tb.all fun x=>match x with | .a .. =>false | _=>true
theorem AL.none(h:noA tb=true):AL tb listed:=fun i d T zs p hi _=>by
  have:=List.all_eq_true.1 h _ (List.mem_of_getElem? hi);cases this
def neqD:Option Tmp→Option Tmp→Bool
  | some d,some d'=>!Nat.beq d d'
  | _,_=>true
theorem next_{fuel t:Nat}(hJ:DS w0 own n σ ns tb listed a w)(h1:t<listed.size)(hnl:¬Lst listed t)(hsz:listed.size=l.length)(hu:unl listed≤fuel+1)(htt:A69 tb t=true)(hfr:(tb.all fun x=>neqD x.dst o.dst)=true)
    (hput:∃v,a'=a.put o.dst v) {σ2:S} (hI':Inv w1 own1 n σ2 ns a' w') {live:List Nat} (σ':S) (hfin:fin live σ2=some σ') (e:Option EV) (hv:(match o.dst,e with | some d,some e=>(d,some e) | _,_=>(0,none))=(match o.dst,e with | some d,some _=>(d,I9 σ2.env [] (.tmp d)) | _,_=>(0,none)))
    (news:List (Nat×En)) (tb2:List En) (hn:news.all (fun x=>notT x.2)=true) (he:A8y (tb.set t (.t o.dst e)) news=tb2) (hdn:(match o.dst with | some d=>Nat.blt d n | none=>true)=true) (hpd:A7k tb w') (hAL:AL tb listed)
    (K:DS w1 own1 n σ' ns tb2 (listed.setIfInBounds t true) a' w'→(listed.setIfInBounds t true).size=l.length→unl (listed.setIfInBounds t true)≤fuel→wpAnyIn F m P .any l.toArray Q fuel (listed.setIfInBounds t true) a' w'):
    wpListIn F m P l.toArray (QA (wpAnyIn F m P .any l.toArray Q fuel (listed.setIfInBounds t true)) Q) [] a' w':=by
  have hst:∀k,Lst (listed.setIfInBounds t true) k↔Lst listed k∨k=t:=fun k=>A6c h1;have hlt:t<tb.length:=(List.getElem?_eq_some_iff.1 (A8d htt)).1;have hul:=A78 h1 hnl;have hA:∀ {i:Nat} {d' T' zs' p'},(tb.set t (.t o.dst e))[i]? =some (.a d' T' zs' p')→tb[i]? =some (.a d' T' zs' p')∧i≠t:=fun {i d' T' zs' p'} hi=>by
    by_cases hit:i=t
    · subst hit;rw [List.getElem?_set_self hlt] at hi;cases hi
    · exact ⟨by rwa [List.getElem?_set_ne (Ne.symm hit)] at hi,hit⟩
  have hpt:∀ {i:Nat} {d' T' zs' p'},tb[i]? =some (.a d' T' zs' p')→a'.tmps[d']? =a.tmps[d']? :=fun {i d' T' zs' p'} hi=>by
    obtain ⟨v,rfl⟩:=hput;have hne:=List.all_eq_true.1 hfr _ (List.mem_of_getElem? hi);cases hd:o.dst with
    | none=>rfl
    | some d=>
      rw [hd] at hne;have hdl:d<n:=by rw [hd] at hdn;simpa using hdn
      rw [A3i hJ.base.size hdl,if_neg (fun hh=>by rw [hh] at hne;simp [En.dst,neqD] at hne)]
  refine wpListIn_nil (K (DS.more ⟨hI'.fin hfin,fun i y x hy hx hl=>?_,fun i hi hl=>?_,fun i d e' hi=>?_,fun i d T zs p hi=>⟨fun b hb=>(hst i).2 (.inl ((hJ.al i d T zs p (hA hi).1).1 b hb)),fun hl=>?_⟩,fun i j d1 T1 z1 p1 d2 T2 z2 p2 hij hi hj hli hlj=>?_⟩ news tb2 hn he) (by simpa using hsz) (by omega))
  rotate_left 3
  · obtain ⟨h0,hit⟩:=hA hi;have hl':Lst listed i:=((hst i).1 hl).resolve_right hit;obtain ⟨b,h3,h4,h5,h6,h7⟩:=(hJ.al i d T zs p h0).2 hl';obtain ⟨b',hb'⟩:=hAL i d T zs p h0 hl';have hbb:b=b':=by
      rcases h3 with h | ⟨h,_⟩
      · rw [hb'] at h;simpa using h.symm
      · rw [hb'] at h;cases h
    subst hbb;have h8:=hpd.at_ i d T zs p h0 b hb';exact ⟨b,.inl hb',(Array.getElem?_eq_some_iff.1 h8).1,h5,by rw [hpt h0];exact h6,h8⟩
  · obtain ⟨h0,hit⟩:=hA hi;obtain ⟨g0,gjt⟩:=hA hj;rw [hpt h0,hpt g0];exact hJ.ad i j _ _ _ _ _ _ _ _ hij h0 g0 (((hst i).1 hli).resolve_right hit) (((hst j).1 hlj).resolve_right gjt)
  · by_cases hit:i=t
    · subst hit;rw [List.getElem?_set_self hlt] at hy;simp only [Option.some.injEq] at hy;subst hy;cases hd:o.dst with
      | none=>rw [hd] at hx;cases e<;>cases hx
      | some d=>
        cases e with
        | none=>rw [hd] at hx;cases hx
        | some e=>
          rw [hd] at hx;simp only [En.ent,Option.some.injEq] at hx;subst hx;rw [hd] at hv;simp only [Prod.mk.injEq,true_and] at hv;have:=hI'.opnd hv.symm rfl;have hdl:d<n:=by rw [hd] at hdn;simpa using hdn
          have hdl':d<a'.tmps.size:=by rw [hI'.size];exact hdl
          simp only [Act.eval] at this;rw [Array.getD_eq_getD_getElem?,Array.getElem?_eq_getElem hdl'] at this;rw [Array.getElem?_eq_getElem hdl']
          simpa using this
    · rw [List.getElem?_set_ne (Ne.symm hit)] at hy;have hl':Lst listed i:=((hst i).1 hl).resolve_right hit;have h0:=hJ.val i y x hy hx hl';obtain ⟨v,rfl⟩:=hput;have hne:=List.all_eq_true.1 hfr y (List.mem_of_getElem? hy);rw [A9c y x hx] at hne;cases hd:o.dst with
      | none=>exact h0
      | some d=>
        rw [hd] at hne;have hdl:d<n:=by rw [hd] at hdn;simpa using hdn
        rw [A3i hJ.base.size hdl,if_neg (fun hh=>by rw [hh] at hne;simp [neqD] at hne)];exact h0
  · by_cases hit:i=t
    · subst hit;rw [List.getElem?_set_self hlt] at hi;cases hi
    · rw [List.getElem?_set_ne (Ne.symm hit)] at hi;exact hJ.un i hi (((hst i).1 hl).resolve_right hit)
  · by_cases hit:i=t
    · exact (hst i).2 (.inr hit)
    · rw [List.getElem?_set_ne (Ne.symm hit)] at hi;exact (hst i).2 (.inl (hJ.dn i d e' hi))
theorem N1{id:Nat}(hI:St w0 own n σ ns a w)(hm:P.follows .mixedOrders=true)(tb:List En)(hn:tb.all notT0=true)
    (K:∀fuel listed w',DS w0 own n σ ns tb listed a w'→listed.size=l.length→unl listed≤fuel→wpAnyIn F m P .any l.toArray Q fuel listed a w'):(Code.region id l.toArray true).wpIn F m P Q a w:=by
  have hno:∀k,¬Lst (Array.replicate l.toArray.size false) k:=by
    intro k hk;unfold Lst at hk;rw [Array.getElem?_replicate] at hk;split at hk<;>cases hk
  refine wpIn_region_any hm (K _ _ _ ⟨hI.below ⟨rfl,rfl,rfl,Nat.le_refl _,fun _ _=>rfl⟩,fun i y x _ _ hl=>absurd hl (hno i),fun i _=>hno i,fun i d e hi=>?_,fun i d T zs p hi=>⟨fun b hb=>?_,fun hl=>absurd hl (hno i)⟩,fun i j d1 T1 z1 p1 d2 T2 z2 p2 hij hi hj hli=>absurd hli (hno i)⟩ (by simp) ?_)
  · have:=List.all_eq_true.1 hn _ (List.mem_of_getElem? hi);cases this
  · subst hb;have:=List.all_eq_true.1 hn _ (List.mem_of_getElem? hi);cases this
  · unfold unl;refine Nat.le_trans (List.length_filter_le _ _) ?_;simp
theorem A2j{ops:Array Oper}{rest:List Oper}(hF:E9 F)(hI:Inv w0 own n σ ns a w)(hw:Region.wanted o (yielded ops a.tmps)=true)(hd:o.dst=none)(hnd:A40 o.dst=true){k:Nat}{cs:List EV}{T:TypeId}(he:A5b P σ [] [] o=some (.upd k cs T))(hwf:cs.all (EV.wf σ.bs.length)=true)(hop:(match o.op with | .store .. =>true | _=>false)=true)
    (K:∀a' w',(∃v,a'=a.put o.dst v)→Inv w0 own n {σ with bs:=σ.bs.set k (cs,T)} ns a' w'→wpListIn F m P ops Q rest a' w'):wpListIn F m P ops Q (o::rest) a w:=by
  obtain ⟨_,w',hrun,hL⟩:=B27 hI he;refine A2x hF hw (by intro c hc;rw [hc] at hop;cases hop) hrun (K _ _ ⟨_,rfl⟩ ?_);rw [hd];exact hI.upd (by simpa [List.all_eq_true] using hwf) hL
end
def B29{σt α R:Type}(bd:σt→α→Option (Stp σt R)):σt→List α→Option (Stp σt R)
  | s,[]=>some (.next s)
  | s,x::r=>(bd s x).bind fun z=>z.on (fun s'=>B29 bd s' r) (fun o=>some (.out o))
theorem B4m{σt α R:Type}(bd:σt→α→Option (Stp σt R))(s:σt)(x:α)(r:List α):B29 bd s (x::r)=(bd s x).bind fun z=>z.on (fun s'=>B29 bd s' r) (fun o=>some (.out o)):=rfl
section
variable {α:Type} {d:Kd α} {e:TypeId} {S0:Nat→Prop} {pm:List Nat} {w00 w w0:World} {own ns:List Nat} {mine l1 l2:List (List Nat)} {base c:Nat} {A:Option Addr} {l:List α}
theorem ob_elR{P:Program}{w:World}{own:List Nat}{B:Addr}{x:α}{sv:SV}{g:Bool}(hE:g=true→El d (fun b=>b∉own) w B x sv)(off:Nat)(vs:List Value)
    (hs:((d.cells x sv).drop off).take vs.length=vs):(Ob.cell g (B.add off) vs).holds P w own:=by
  intro hg;have h:=hE hg;refine ⟨by rw [S3];exact h.at_,fun j y hj=>?_⟩;rw [A29];refine h.cells _ _ ?_;rw [← hs,List.getElem?_take] at hj;split at hj
  · rwa [List.getElem?_drop] at hj
  · cases hj
theorem B2g{z:Array Value}{n sz i j:Nat}(hz:z.size=sz)(hi:i<n)(hj:j<sz):(madeCells z (n*sz)).toList[i*sz+j]? =z[j]? :=by
  have hlt:i*sz+j<n*sz:=by
    have:=Nat.mul_le_mul_right sz (show i+1≤n from hi);rw [Nat.succ_mul] at this;omega
  have hm:(i*sz+j) % sz=j:=by rw [Nat.mul_comm,Nat.mul_add_mod,Nat.mod_eq_of_lt hj]
  simp [madeCells,hlt,hz,hm];rw [Array.getElem?_eq_getElem (by omega)];simp [hz,hj]
variable {F:Fence} {m:Nat} {P:Program} {n:Nat} {σ:S} {a:Act} {o:Oper} {ops:Array Oper} {Q:Exit→Act→World→Prop} {rest:List Oper}
theorem B4y(hF:E9 F)(hE:Ep pm w00 w ns mine)(hI:Inv w ns n σ ns a w)(hw:Region.wanted o (yielded ops a.tmps)=true){t:TypeId}{x y:Operand}(hop:o.op=.makeSlice t x y)
    {kl kc:IntKind} {k:Int} (hx:I9 σ.env [] x=some (.v (.int kl k))) (hy:I9 σ.env [] y=some (.v (.int kc k))) (ht:P.underlying t=some (.slice e)) {zi:Value×Nat×Nat} (hzi:A7h P e=some zi) (hsz:zi.2.1=d.sz)
    (z:α) (svz:SV) (hzc:zi.1.cells.toList=d.cells z svz) (hct:d.cont (Lo S0 w00 w ns mine) w z svz) (h0:0≤k) (hk:k.toNat*(d.sz+zi.2.2)≤16777216)
    (σ2:Option Addr→S) (hput:∀A,V0 σ n o.dst [] (some (.v (.slice A (List.replicate k.toNat z).length (List.replicate k.toNat z).length)))=some (σ2 A))
    (K:∀A a' w',(∃v,a'=a.put o.dst v)→Ep pm w00 w' ns (mine++[rb A])→Inv w' ns n (σ2 A) ns a' w'→(∀S0,Mv (Lo S0 w00 w ns mine) w (Lo S0 w00 w' ns (mine++[rb A])) w')→(∀b,b∈mine.flatten→b∉([]:List Nat)→w'.heap[b]? =w.heap[b]?)→
      Row d e (Lo S0 w00 w' ns (mine++[rb A])) w' w00.heap.size A (List.replicate k.toNat z).length (List.replicate k.toNat z)→wpListIn F m P ops Q rest a' w'):wpListIn F m P ops Q (o::rest) a w:=by
  obtain ⟨i,hi,hz,hsz',hbb⟩:=A28 hzi;have hkn:((k.toNat:Nat):Int)=k:=by omega
  have hd:=d.pos;have hle1:k.toNat*d.sz≤16777216:=Nat.le_trans (Nat.mul_le_mul_left _ (by omega)) hk;have hle2:k.toNat*zi.2.2≤16777216:=Nat.le_trans (Nat.mul_le_mul_left _ (by omega)) hk;have hle3:k.toNat≤16777216:=Nat.le_trans (Nat.le_mul_of_pos_right _ (by omega)) hle1;obtain ⟨w1,hrun,hown,hg⟩:=run_makeSlice_full (P:=P) (w:=w) w00.heap.size t e i zi.1 d.sz ht hi hz (hsz'.trans hsz) kl kc k.toNat hle1 (by rw [hbb,Nat.mul_comm];omega) (by simp only [maxLen];omega) hE.k.size;have hrun':(execOp a.eval o).run P w=.ok (.value (.slice (some ⟨w.heap.size,0,none⟩) (List.replicate k.toNat z).length (List.replicate k.toNat z).length)) w1:=by
    have e1:=hI.opnd hx rfl;have e2:=hI.opnd hy rfl;simp only [EV.den] at e1 e2;rw [hkn] at hrun;unfold execOp;rw [hop];simp only [e1,e2,Sem.run_bind,hrun,Result.andThen_ok,List.length_replicate];rfl
  have hcs:zi.1.cells.size=d.sz:=by rw [← Array.length_toList,hzc,d.len]
  refine A1r hF hw (by rw [hop];intro c hc;cases hc) hrun' ?_;obtain ⟨c0,cap,hlt⟩:∃(u v:Nat),w.heap.size<w1.heap.size:=⟨0,0,(hown.lt _ rfl).2⟩;obtain ⟨q1,q2,q3,q4⟩:=hE.step hI (H3.of_grownBy hg) (mine':=mine++[[w.heap.size]]) (by intro b hb;cases hb) (A6e hlt) (A6d hE) (.inr (by intro b hb;cases hb));have K':=K (some ⟨w.heap.size,0,none⟩) (a.put o.dst (.slice (some ⟨w.heap.size,0,none⟩) (List.replicate k.toNat z).length (List.replicate k.toNat z).length)) w1;rw [show rb (some ⟨w.heap.size,0,none⟩)=[w.heap.size] from rfl] at K';refine K' ⟨_,rfl⟩ q1 (A21 q2 _ (hput _)) q3 q4 ⟨_,by simpa using hown,fun j y hy=>?_⟩;rw [List.getElem?_replicate] at hy;split at hy
  · rename_i hj;simp only [Option.some.injEq] at hy;subst hy;refine ⟨svz,d.keep hct (q3 S0),fun r u hu=>?_⟩;have hr:r<d.sz:=by rw [← d.len z svz];exact (List.getElem?_eq_some_iff.1 hu).1
    rw [B2g hcs hj hr,← Array.getElem?_toList,hzc];exact hu
  · cases hy
end
def A9b:Nat→List EV→List Ent
  | _,[]=>[]
  | i,e::r=>⟨i,[],e⟩::A9b (i+1) r
theorem A5m:∀ {i:Nat} {l:List EV} {x:Ent},x∈A9b i l→x.p=[]∧i≤x.t∧l[x.t - i]? =some x.e
  | i,v::r,x,h=>by
    simp only [A9b,List.mem_cons] at h;rcases h with rfl | h
    · exact ⟨rfl,Nat.le_refl _,by simp⟩
    · obtain ⟨h1,h3,h4⟩:=A5m h;refine ⟨h1,by omega,?_⟩;rw [show x.t - i=(x.t - (i+1))+1 by omega,List.getElem?_cons_succ];exact h4
section
variable {S0:Nat→Prop} {F:Fence} {m:Nat} {P:Program} {pm:List Nat} {w00 w:World} {mine:List (List Nat)} {n:Nat} {σ:S} {ns:List Nat} {a:Act} {o:Oper} {ops:Array Oper} {Q:Exit→Act→World→Prop} {rest:List Oper}
theorem A8c(hF:E9 F)(hI:Inv w ns n σ ns a w)(hw:Region.wanted o (yielded ops a.tmps)=true){f:FuncId}{es:List EV}{cs:List Value}(hco:A1e σ [] o=some (f,es,cs)){fn:Func}{c:Code}(hf:P.funcs[f]? =some fn)
    (hname:(fn.name== "runtime.NumGoroutine")=false) (hb:fn.body=some c) {n':Nat} (hn:fn.ntmps=n') (hle:Nat.ble (es++cs.map EV.v).length n'=true) (hwf:es.all (EV.wf σ.bs.length)=true)
    (K:∀a',Inv w ns n' ⟨A9b 0 (es++cs.map EV.v),[],[],σ.bs,none,some (σ.bs.length,ns)⟩ ns a' w→c.wpIn Fence.wide 0 P (bodyPost P fn (fun e w'=>∃v,e=.returned v∧wpListIn F m P ops Q rest (a.put o.dst v) w')) a' w):
    wpListIn F m P ops Q (o::rest) a w:=by
  unfold wpListIn;rw [hw,if_pos rfl];obtain ⟨hnd,hrun⟩:=A24 hI rfl hco (O6 hf hname hb);refine ⟨fun f _=>hF.fn f,?_⟩;rw [Oper.semAt_plain F _ _ hnd,hrun,Oper.uponIn_enter];refine ⟨fun hd=>by rw [hF.depth] at hd;simp at hd,?_⟩;have hle:=Nat.le_of_ble_eq_true hle;simp only [List.length_append,List.length_map] at hle;have hc:Calls P f (es.map (EV.den ns)++cs).toArray w (fun e w'=>∃v,e=.returned v∧wpListIn F m P ops Q rest (a.put o.dst v) w'):=by
    refine (callsIn_wide (n:=0)).1 (callsIn_of_wp hf hb trivial (K _ ⟨?_,rfl,?_,?_,hI.bwf,?_,hI.loc,?_⟩))
    · simp [hn];omega
    · intro x hx;obtain ⟨h1,h3,h4⟩:=A5m hx;rw [h1];simp only [Nat.sub_zero] at h4;have h5:(es.map (EV.den ns)++cs)[x.t]? =some (x.e.den ns):=by
        have:=congrArg (Option.map (EV.den ns)) h4;rw [← List.getElem?_map,List.map_append,List.map_map] at this;rw [show (EV.den ns∘EV.v)=id from rfl,List.map_id] at this;exact this
      have hl:=(List.getElem?_eq_some_iff.1 h5).1;rw [Array.getElem?_append_left (by simpa using hl)]
      simpa [gvv,K0,EV.den] using h5
    · intro x hx;obtain ⟨h1,h3,h4⟩:=A5m hx;rw [h1];refine ⟨?_,fun y hy=>by simp at hy⟩;have:=List.mem_of_getElem? h4;rw [List.mem_append] at this;rcases this with h | h
      · exact List.all_eq_true.1 hwf _ h
      · obtain ⟨u,_,hu⟩:=List.mem_map.1 h;rw [← hu];rfl
    · intro x hx;simp at hx
    · exact ⟨by rw [← hI.loc.len];simp,Nat.le_of_eq hI.loc.len.symm⟩
  refine (hF.calls hc).mono ?_;rintro e w1 ⟨v,rfl,h⟩;exact h
theorem Ep.uncall{n' kb:Nat}{A B:World}{ns':List Nat}{aO a':Act}{σo:S}{bs:List (List EV×TypeId)}(hO:Inv A ns n σo ns aO A)(hE:Ep pm w00 B ns' mine)(hI:Inv B ns' n' σ ns' a' B)(hlo:σo.lo=none)(hpin:σ.pin=some (kb,ns))
    (hgi:σo.gi=[]) (hk:σo.bs.length=kb) (hb:(Nat.ble kb σ.bs.length&&(σ.bs.take kb).all (fun x=>x.1.all (EV.wf kb)))=true) (hbs:σ.bs.take kb=bs):
    Ep pm w00 B ns mine∧Inv B ns n {σo with bs:=bs} ns aO B∧∀S0,Mv (Lo S0 w00 B ns' mine) B (Lo S0 w00 B ns mine) B:=by
  have hpn:=hI.pin;rw [hpin] at hpn;obtain ⟨hns,_⟩:=hpn;have hlen:ns.length=kb:=by rw [hO.loc.len,hk]
  have hss:∀b,b∈ns→b∈ns':=fun b hb=>by rw [← hns] at hb;exact List.mem_of_mem_take hb
  subst hbs;simp only [Bool.and_eq_true,List.all_eq_true] at hb;obtain ⟨hle,hbs⟩:=hb;have hle:=Nat.le_of_ble_eq_true hle;have hbl:(σ.bs.take kb).length=kb:=by rw [List.length_take];omega
  have hL:=hI.loc;have hd:=hO.defers;rw [hlo] at hd;refine ⟨⟨hE.k,fun b hb=>hE.ow b (hss b hb),fun b hb=>⟨(hE.mi b hb).1,(hE.mi b hb).2.1,fun hh=>(hE.mi b hb).2.2 (hss b hh)⟩,hE.dis⟩,⟨hO.size,by simp only [hlo];exact hd,hO.env,fun x hx=>?_,fun x hx e hee=>?_,fun x hx=>by simp [hgi] at hx,?_,?_⟩,fun S0 b hb _=>⟨⟨hb.1,fun hh=>hb.2.1 (hss b hh),hb.2.2⟩,rfl⟩⟩
  · have:=hO.ewf x hx;rw [hk] at this;simp only [hbl];exact this
  · simp only [hbl];exact hbs x hx e hee
  · refine ⟨by simp only [hbl,hlen],hO.loc.nodup,H3.refl _ _,fun b hb=>.inl hb,fun k cs T hkk=>?_⟩;simp only at hkk;rw [List.getElem?_take] at hkk;split at hkk
    · rename_i hlt;have hm:(cs,T)∈σ.bs.take kb:=List.mem_of_getElem? (by rw [List.getElem?_take,if_pos hlt];exact hkk);rw [← hns,List.map_congr_left (fun e hee=>A5l (hbs _ hm e hee))];have:(ns'.take kb).getD k 0=ns'.getD k 0:=by
        rw [List.getD_eq_getElem?_getD,List.getD_eq_getElem?_getD,List.getElem?_take,if_pos hlt]
      rw [this];exact hL.blk k cs T hkk
    · cases hkk
  · have:=hO.pin;revert this;cases σo.pin with
    | none=>exact id
    | some p=>
      exact id
theorem Y8{w0:World}{own:List Nat}{dst:Option Tmp}{v:Value}(hI:Inv w0 own n σ ns a w)(σ2:S)(hp:V0 σ n dst [] (some (.v v))=some σ2)(K:∀a',Inv w0 own n σ2 ns a' w→wpListIn F m P ops Q rest a' w):wpListIn F m P ops Q rest (a.put dst v) w:=K _ (A21 hI σ2 hp)
def A59:List EV→Option (List (Sum Value (Nat×Nat)))
  | []=>some []
  | .v u::r=>match A59 r with | some l=>some (.inl u::l) | none=>none
  | .p k off::r=>match A59 r with | some l=>some (.inr (k,off)::l) | none=>none
  | _::_=>none
theorem A6o:∀ {es:List EV} {l:List (Sum Value (Nat×Nat))},A59 es=some l→l.map (A3x ns)=es.map (EV.den ns)
  | [],l,h=>by simp only [A59,Option.some.injEq] at h;subst h;rfl
  | x ::r,l,h=>by
    cases x with
    | v u=>
      simp only [A59] at h;cases hr:A59 r with
      | none=>rw [hr] at h;simp at h
      | some q=>rw [hr] at h;simp only [Option.some.injEq] at h;subst h;simp [A6o hr,EV.den,A3x]
    | p k off=>
      simp only [A59] at h;cases hr:A59 r with
      | none=>rw [hr] at h;simp at h
      | some q=>rw [hr] at h;simp only [Option.some.injEq] at h;subst h;simp [A6o hr,EV.den,A3x]
    | _=>simp [A59] at h
theorem B4x{w0:World}{own:List Nat}(hF:E9 F)(hI:Inv w0 own n σ ns a w)(hw:Region.wanted o (yielded ops a.tmps)=true){fn:Fn}{first caps:Array Operand}(hop:o.op=.makeFunc fn first caps){es1 es2:List EV}
    (h1:A4y σ.env [] first.toList=some es1) (h2:A4y σ.env [] caps.toList=some es2) {l1 l2:List (Sum Value (Nat×Nat))} (g1:A59 es1=some l1) (g2:A59 es2=some l2) (σ2:S) (hput:V0 σ n o.dst [] (some (.f fn l1 l2))=some σ2)
    (K:∀a',Inv w0 own n σ2 ns a' w→wpListIn F m P ops Q rest a' w):wpListIn F m P ops Q (o::rest) a w:=by
  have e1:=A2l hI (g:=[]) rfl h1;have e2:=A2l hI (g:=[]) rfl h2;have hrun:(execOp a.eval o).run P w=.ok (.value ((EV.f fn l1 l2).den ns)) w:=by
    unfold execOp;rw [hop];simp only [EV.den,A6o g1,A6o g2];have f1:first.map a.eval=(es1.map (EV.den ns)).toArray:=by rw [← e1];apply Array.ext';simp
    have f2:caps.map a.eval=(es2.map (EV.den ns)).toArray:=by rw [← e2];apply Array.ext';simp
    rw [← f1,← f2];rfl
  refine A1r hF hw (by rw [hop];intro c hc;cases hc) hrun ?_;exact K _ (R8 hI (g:=[]) (fun x hx=>by simp at hx) hput (fun x hx=>by simp only [Option.some.injEq] at hx;subst hx;rfl))
end
section
variable {F:Fence} {m:Nat} {P:Program} {w00 w0 w1:World} {own own1:List Nat} {n:Nat} {σ σ':S} {ns:List Nat} {a a':Act} {w w':World} {o:Oper} {Q:Exit→Act→World→Prop}
variable {l:List Oper} {ds:List Sp} {tb tb':List En} {listed:Array Bool} {S0:Nat→Prop} {pm:List Nat} {mine l1 l2:List (List Nat)}
theorem A2y{fuel:Nat}(hJ:DS w0 own n σ ns tb listed a w)(hF:E9 F)(hsz:listed.size=l.length)(hu:unl listed≤fuel)(ds:List Sp)(h:A2u P σ n l.toArray [] l ds=some tb)(hp:(σ.env.all fun x=>S9 x.p)=true)(hwt:wfT σ tb=true)(hback:A03 0 l=true)
    (ts:List Nat) (hrd:A3r tb ts 0 l=true) (hne:ts≠[]) (htt:ts.all (A69 tb)=true) (hob:Obs P w0 own (A7d tb))
    (KT:∀i o fuel listed a w,i∈ts→l[i]? =some o→DS w0 own n σ ns tb listed a w→i<listed.size→¬Lst listed i→(∀k,O8 o k=true→Lst listed k)→listed.size=l.length→unl listed≤fuel+1→
      wpOpIn F m P l.toArray Q i (wpAnyIn F m P .any l.toArray Q fuel (listed.setIfInBounds i true)) a w):wpAnyIn F m P .any l.toArray Q fuel listed a w:=
  DS.go hF h (A3t hp) hwt hob hback ts hrd (fun hh=>absurd hh hne) (fun i hi=>A8d (List.all_eq_true.1 htt i hi)) KT (fun hh=>absurd hh hne) fuel listed a w hsz hu hJ
theorem Q7{fuel:Nat}(t:Nat){o o':Oper}(ho:l[t]? =some o)(ho':l[t]? =some o')(hJ:DS w0 own n σ ns tb listed a w)(hF:E9 F)(hbind:∀k,O8 o' k=true→Lst listed k)(ds:List Sp)(h:A2u P σ n l.toArray [] l ds=some tb)(hp:(σ.env.all fun x=>S9 x.p)=true)(hwt:wfT σ tb=true)
    (ks:List Nat) {env:List Ent} (henv:A7o tb ks=some env) (hks:ks.all (O8 o)=true) (hwn:B47 (A49 l.toArray (σ.wth env) o.guard)=true) (dn:List Nat) (hdn:dn.all (O8 o)=true) (tb2:List En) (htb:A8v tb dn=tb2)
    (K:DS w0 own n σ ns tb2 listed a w→Inv w0 own n (σ.wth env) ns a w→Region.wanted o (yielded l.toArray a.tmps)=true→(∀k,O8 o k=true→Lst listed k)→
      wpListIn F m P l.toArray (QA (wpAnyIn F m P .any l.toArray Q fuel (listed.setIfInBounds t true)) Q) [o] a w):wpOpIn F m P l.toArray Q t (wpAnyIn F m P .any l.toArray Q fuel (listed.setIfInBounds t true)) a w:=by
  rw [ho] at ho';simp only [Option.some.injEq] at ho';subst ho';have hI:=hJ.inv (A3t hp) (fun i y x hi hx=>En.wfE h hi hx (A79 hwt hi)) (env:=env) (fun x hx=>by
    obtain ⟨k,y,k1,k2,k3⟩:=A7p henv x hx;exact ⟨k,y,hbind k (List.all_eq_true.1 hks k k1),k2,k3⟩)
  have hw:=A2k hI (A9g hwn);exact A70 (by simpa using ho) hF hw (K (htb▸hJ.done dn (fun k hk=>hbind k (List.all_eq_true.1 hdn k hk))) hI hw hbind)
end
def A3k:List Value→Nat→List Value→List Value
  | cs,_,[]=>cs
  | cs,k,v::r=>A3k (cs.set k v) (k+1) r
theorem A56:∀(vs cs:List Value) (k:Nat),(A3k cs k vs).length=cs.length
  | [],cs,k=>rfl
  | v::r,cs,k=>by simp [A3k,A56 r]
theorem A4r:∀(vs cs:List Value) (k j:Nat),k+vs.length≤cs.length→(A3k cs k vs)[j]? =if k≤j∧j<k+vs.length then vs[j - k]? else cs[j]?
  | [],cs,k,j,h=>by
    simp only [A3k,List.length_nil,Nat.add_zero];rw [if_neg (by omega)]
  | v ::r,cs,k,j,h=>by
    simp only [List.length_cons] at h ⊢;rw [A3k,A4r r _ _ _ (by simp;omega)];by_cases hj:j=k
    · subst hj;rw [if_neg (by omega),if_pos (by omega),List.getElem?_set_self (by omega)];simp
    · rw [List.getElem?_set_ne (Ne.symm hj)];by_cases hk:k≤j∧j<k+(r.length+1)
      · rw [if_pos (by omega),if_pos hk,show j - k=(j - (k+1))+1 by omega,List.getElem?_cons_succ]
      · rw [if_neg (by omega),if_neg hk]
theorem A8m:∀(vs cs:List Value) (k:Nat),A3b (cs.map EV.v) k (vs.map EV.v)=(A3k cs k vs).map EV.v
  | [],cs,k=>rfl
  | v::r,cs,k=>by
    simp only [List.map_cons,A3b,A3k];rw [show (cs.map EV.v).set k (EV.v v)=(cs.set k v).map EV.v by rw [List.map_set],A8m r]
def svU(sv:SV)(j:Nat)(e:Option Addr×Nat):SV:=fun k=>if k=j then e else sv k
section
variable {α:Type} {d:Kd α} {e:TypeId} {S0 X X':Nat→Prop} {pm:List Nat} {w00 w w0 w':World} {own ns:List Nat} {mine l1 l2:List (List Nat)} {base base' c:Nat} {A:Option Addr} {l:List α}
  {F:Fence} {m:Nat} {P:Program} {n:Nat} {σ:S} {a:Act} {o:Oper} {ops:Array Oper} {Q:Exit→Act→World→Prop} {rest:List Oper}
theorem Row.raise(h:Row d e X w base' A c l)(hb:∀b∈rb A,base≤b):Row d e X w base A c l:=by
  obtain ⟨xs,⟨h1,h2⟩,h3⟩:=h;refine ⟨xs,⟨h1,?_⟩,h3⟩;rcases h2 with h2 | ⟨g,cap,cur,hv,hge,h5⟩
  · exact .inl h2
  · refine .inr ⟨g,cap,cur,hv,hb g ?_,h5⟩;simp only [Value.slice.injEq] at hv;rw [hv.1];simp [rb]
theorem Row.ge(h:Row d e X w base A c l):∀b∈rb A,base≤b:=fun b hb=>(h.lt hb).1
theorem A8o[Inhabited α](hF:E9 F)(hE:Ep pm w00 w ns mine)(hI:Inv w ns n σ ns a w)(hw:Region.wanted o (yielded ops a.tmps)=true){t:TypeId}{x y:Operand}(hop:o.op=.store t x y)(hd:o.dst=none)
    {i:Int} {off:Nat} {ad:Addr} (hx:I9 σ.env [] x=some (.v (.pointer (some ad)))) (had:ad=(adr A).add (i.toNat*d.sz+off)) {v:Value} (hy:I9 σ.env [] y=some (.v v)) {vs:List Value} (hvs:v.cells=vs.toArray) (hag:szT P t=some vs.length) (h1:Nat.ble (off+vs.length) d.sz=true)
    (hone:vs.all B0y=true) (hm:rb A∈mine) (hi:inb i l.length=true) (hrow:Row d e (Lo S0 w00 w ns mine) w base A c l) (z:α) (f:SV→SV) (hzc:∀sv,d.cells z (f sv)=A3k (d.cells (rd l i) sv) off vs)
    (hct:∀sv,d.cont (Lo S0 w00 w ns mine) w (rd l i) sv→d.cont (Lo S0 w00 w ns mine) w z (f sv))
    (K:∀a' w',(∃v,a'=a.put o.dst v)→Ep pm w00 w' ns mine→Inv w' ns n σ ns a' w'→(∀S0,Mv (Lo S0 w00 w ns mine) w (Lo S0 w00 w' ns mine) w')→(∀b∈mine.flatten,b∉rb A→w'.heap[b]? =w.heap[b]?)→
      Row d e (Lo S0 w00 w' ns mine) w' base A c (l.set i.toNat z)→wpListIn F m P ops Q rest a' w'):wpListIn F m P ops Q (o::rest) a w:=by
  obtain ⟨i0,i1⟩:=A0q hi;have h1:=Nat.le_of_ble_eq_true h1;obtain ⟨xs,⟨hlen,h2⟩,h3⟩:=hrow;rcases h2 with ⟨hv,h2⟩ | ⟨g,cap,cur,hv,hge,hblk,hnc,hcm,hcs,htk⟩
  · omega
  simp only [Value.slice.injEq] at hv;obtain ⟨rfl,_,rfl⟩:=hv;have hgm:g∈mine.flatten:=R6 hm (by simp [rb]);have hid:(List.map (EV.den [g]) (cur.toList.map EV.v))=cur.toList:=Y2 _;have hL:Loc w [g] [g] [(cur.toList.map EV.v,e)] w:=by
    refine ⟨rfl,by simp,H3.refl _ _,fun x hx=>.inl hx,fun k cs U hk=>?_⟩;cases k with
    | zero=>
      simp only [List.getElem?_cons_zero,Option.some.injEq,Prod.mk.injEq] at hk;obtain ⟨rfl,rfl⟩:=hk;rw [hid];simpa using hblk
    | succ k=>simp at hk
  have hil:i.toNat<l.length:=by omega
  have hmul:i.toNat*d.sz+d.sz≤l.length*d.sz:=by
    have:=Nat.mul_le_mul_right d.sz (show i.toNat+1≤l.length by omega);rw [Nat.succ_mul] at this;exact this
  have hmul2:l.length*d.sz≤c*d.sz:=Nat.mul_le_mul_right _ hnc;have hcl:cur.toList.length=c*d.sz:=by simpa using hcs
  have hk0: [(cur.toList.map EV.v,e)][0]? =some (cur.toList.map EV.v,e):=rfl;obtain ⟨w',hrunS,hL2,_⟩:=Loc.storeCells (P:=P) (vs.map EV.v) (by
      intro e he;obtain ⟨u,hu,rfl⟩:=List.mem_map.1 he;exact List.all_eq_true.1 hone u hu) [(cur.toList.map EV.v,e)] w 0 (cur.toList.map EV.v) e (i.toNat*d.sz+off) 0 hL hk0 (by simp at hcl ⊢; omega)
  have hL2:Loc w [g] [g] [((A3k cur.toList (i.toNat*d.sz+off) vs).map EV.v,e)] w':=by
    have:=hL2;rw [A8m] at this
    simpa using this
  have hadr:ad=⟨[g].getD 0 0,i.toNat*d.sz+off,none⟩:=by rw [had];exact (V8 g 0 _).trans (by simp)
  have hrun':(execOp a.eval o).run P w=.ok .skip w':=by
    have e1:=hI.opnd hx rfl;have e2:=hI.opnd hy rfl;simp only [EV.den,hadr] at e1 e2;have hrunS':(Go.storeCells ⟨[g].getD 0 0,i.toNat*d.sz+off,none⟩ vs 0).run P w=.ok () w':=by
      rw [← hrunS,Y2]
    unfold execOp;rw [hop];simp only [e1,e2,Instr.storeAt,Instr.sureAddr,storeVar,Sem.run_bind,Sem.run_pure,Result.andThen_ok,R9 hag w,hvs,List.size_toArray,ne_eq,not_true,if_false];rw [hrunS'];rfl
  have hg:H3 [g] w w':=⟨hL2.base.os,hL2.base.tape,hL2.base.output,hL2.base.size,fun k hk hne=>hL2.base.block k hk hne⟩;refine A2x hF hw (by rw [hop];intro c hc;cases hc) hrun' ?_;obtain ⟨q1,q2,q3,q4⟩:=hE.step hI hg (mine':=mine) (by intro b hb;simp at hb;subst hb;exact hgm) A2w hE.dis (.inr (by intro b hb q hq;simp at hb;subst hb;rw [hblk] at hq;cases hq));have hput:a.put o.dst undef=a:=by rw [hd];rfl
  refine K _ _ ⟨_,rfl⟩ q1 (by rw [hput];exact q2) q3 q4 ?_;have hb2:=hL2.blk 0 _ _ rfl;have hb2':w'.heap[g]? =some (.cells (A3k cur.toList (i.toNat*d.sz+off) vs).toArray e (0,0)):=by
    rw [Y2] at hb2
    simpa using hb2
  have htl:i.toNat*d.sz+off+vs.length≤cur.toList.length:=by omega
  have hxl:i.toNat*d.sz+off+vs.length≤xs.length:=by rw [hlen];omega
  refine ⟨A3k xs (i.toNat*d.sz+off) vs,⟨by rw [A56,hlen,List.length_set],.inr ⟨g,c,(A3k cur.toList (i.toNat*d.sz+off) vs).toArray,by rw [List.length_set],hge,hb2',by rw [List.length_set];exact hnc,hcm,by simp [A56];simpa using hcs,?_⟩⟩,fun j y hy=>?_⟩
  · rw [List.length_set];apply List.ext_getElem?;intro k;have htk':=congrArg (fun q=>q[k]?) htk;simp only [List.getElem?_take] at htk' ⊢;rw [A4r _ _ _ _ hxl,A4r _ _ _ _ (by simpa using htl)];by_cases hk:i.toNat*d.sz+off≤k∧k<i.toNat*d.sz+off+vs.length
    · rw [if_pos hk,if_pos hk];rw [if_pos (by omega)]
    · rw [if_neg hk,if_neg hk];exact htk'
  · by_cases hji:j=i.toNat
    · subst hji;rw [List.getElem?_set_self hil] at hy;simp only [Option.some.injEq] at hy;subst hy;have hrd:l[i.toNat]? =some (rd l i):=by
        simp [rd,List.getD_eq_getElem?_getD,List.getElem?_eq_getElem hil]
      obtain ⟨sv,g1,g2⟩:=h3 i.toNat (rd l i) hrd;refine ⟨f sv,d.keep (hct sv g1) (q3 S0),fun r u hu=>?_⟩;rw [hzc sv] at hu;have hdl:=d.len (rd l i) sv;rw [A4r _ _ _ _ (by rw [hdl];omega)] at hu;rw [A4r _ _ _ _ hxl];by_cases hr:off≤r∧r<off+vs.length
      · rw [if_pos hr] at hu;rw [if_pos (by omega),show i.toNat*d.sz+r - (i.toNat*d.sz+off)=r - off by omega];exact hu
      · rw [if_neg hr] at hu;rw [if_neg (by omega)];exact g2 r u hu
    · rw [List.getElem?_set_ne (Ne.symm hji)] at hy;obtain ⟨sv,g1,g2⟩:=h3 j y hy;refine ⟨sv,d.keep g1 (q3 S0),fun r u hu=>?_⟩;have hrr:r<d.sz:=by rw [← d.len y sv];exact (List.getElem?_eq_some_iff.1 hu).1
      rw [A4r _ _ _ _ hxl,if_neg ?_]
      · exact g2 r u hu
      · intro hh;rcases Nat.lt_or_gt_of_ne hji with hlt | hgt
        · have:=Nat.mul_le_mul_right d.sz (show j+1≤i.toNat by omega);rw [Nat.succ_mul] at this;omega
        · have:=Nat.mul_le_mul_right d.sz (show i.toNat+1≤j by omega);rw [Nat.succ_mul] at this;omega
theorem X1{mine:List (List Nat)}(ix:List Nat){b:Nat}(hb:b∈(ix.map fun i=>mine.getD i []).flatten):b∈mine.flatten:=by
  obtain ⟨q,hq,hbq⟩:=List.mem_flatten.1 hb;obtain ⟨i,_,rfl⟩:=List.mem_map.1 hq;rw [List.getD_eq_getElem?_getD] at hbq;cases h:mine[i]? with
  | none=>rw [h] at hbq;simp at hbq
  | some r=>rw [h] at hbq;exact R6 (List.mem_of_getElem? h) hbq
theorem A9v{mine:List (List Nat)}(hd:mine.flatten.Nodup){j:Nat}{r':List Nat}(hj:mine[j]? =some r'){b:Nat}(hb:b∈r'):∀(ix:List Nat),j∉ix→b∉(ix.map fun i=>mine.getD i []).flatten
  | [],_=>by simp
  | i::ix,hn=>by
    simp only [List.map_cons,List.flatten_cons,List.mem_append,not_or];refine ⟨?_,A9v hd hj hb ix (fun h=>hn (List.mem_cons_of_mem _ h))⟩;rw [List.getD_eq_getElem?_getD];cases h:mine[i]? with
    | none=>simp
    | some r=>exact B5w mine i j r r' hd (fun h=>hn (by simp [h])) h hj b hb
theorem Ep.nes(hE:Ep pm w00 w own mine)(ix:List Nat){j:Nat}(hn:(ix.contains j)=false){r':List Nat}(hj:mine[j]? =some r'){b:Nat}(hb:b∈r'):b∉(ix.map fun i=>mine.getD i []).flatten:=
  A9v hE.dis hj hb ix (by simpa using hn)
theorem A48{mine:List (List Nat)}(hd:mine.flatten.Nodup):∀(ix:List Nat),ix.Nodup→(ix.map fun i=>mine.getD i []).flatten.Nodup
  | [],_=>by simp
  | i ::ix,hn=>by
    obtain ⟨h1,h2⟩:=List.nodup_cons.1 hn;rw [List.map_cons,List.flatten_cons,List.nodup_append];refine ⟨?_,A48 hd ix h2,fun x hx y hy=>?_⟩
    · rw [List.getD_eq_getElem?_getD];cases h:mine[i]? with
      | none=>simp
      | some r=>exact hd.sublist (List.sublist_flatten_of_mem (List.mem_of_getElem? h))
    · rintro rfl;rw [List.getD_eq_getElem?_getD] at hx;cases h:mine[i]? with
      | none=>rw [h] at hx;simp at hx
      | some r=>rw [h] at hx;exact A9v hd h hx ix h1 hy
theorem Ep.pick(hE:Ep pm w00 w own mine)(ix:List Nat)(hn:ix.Nodup):(ix.map fun i=>mine.getD i []).flatten.Nodup:=A48 hE.dis ix hn
theorem Ep.pickLt(hE:Ep pm w00 w own mine)(ix:List Nat):∀b∈(ix.map fun i=>mine.getD i []).flatten,b<w.heap.size:=fun b hb=>(hE.mi b (X1 ix hb)).2.1
theorem Lo.pick{S0:Nat→Prop}(ix:List Nat):∀b,Lo S0 w00 w own mine b→b∉(ix.map fun i=>mine.getD i []).flatten:=fun b hb hh=>hb.2.2.1 (X1 ix hh)
theorem B7a(hF:E9 F)(hE:Ep pm w00 w ns mine)(hI:Inv w ns n σ ns a w)(hw:Region.wanted o (yielded ops a.tmps)=true){f:FuncId}{es:List EV}{cs args:List Value}(hco:A1e σ [] o=some (f,es,cs))(hv:A23 es cs=some args)
    (hent:∀args w,(callFunc f args).run P w=.ok (.enter f args) w) (val:SV→Value) (ix:List Nat) (Rf:SV→World→Prop)
    (hc:Calls P f args.toArray w fun e w'=>∃sv,e=.returned (val sv)∧H3 (ix.map fun i=>mine.getD i []).flatten w w'∧Rf sv w') (hnd:σ.lo=none∨∀b∈(ix.map fun i=>mine.getD i []).flatten,∀q,w.heap[b]? ≠some (.deferred q))
    (σ2:SV→S) (hput:∀sv,V0 σ n o.dst [] (some (.v (val sv)))=some (σ2 sv))
    (K:∀sv a' w',(∃v,a'=a.put o.dst v)→Ep pm w00 w' ns mine→Inv w' ns n (σ2 sv) ns a' w'→(∀S0,Mv (Lo S0 w00 w ns mine) w (Lo S0 w00 w' ns mine) w')→(∀b∈mine.flatten,b∉(ix.map fun i=>mine.getD i []).flatten→w'.heap[b]? =w.heap[b]?)→
      (∀S0,Mv (fun b=>w.heap.size≤b∨Lo S0 w00 w ns mine b) w' (Lo S0 w00 w' ns mine) w')→Rf sv w'→wpListIn F m P ops Q rest a' w'):wpListIn F m P ops Q (o::rest) a w:=by
  refine B2z hF hI hw hco hv hent val _ Rf hc (fun sv w' hb hr=>?_);obtain ⟨q1,q2,q3,q4⟩:=hE.step hI hb (mine':=mine) (fun b hb=>X1 ix hb) A2w hE.dis hnd;exact K sv _ _ ⟨_,rfl⟩ q1 (A21 q2 _ (hput _)) q3 q4 (fun S0=>Ep.res hE) hr
end
structure Ob1 {α:Type} (d:Kd α) (e:TypeId) (S:Nat→Prop) (w:World) (b:Nat) (x:α) (sv:SV):Prop where
  cont:d.cont S w x sv
  blk:w.heap[b]? =some (.cells (d.cells x sv).toArray e (0,0))
structure Lk (α:Type) where
  d:Kd α
  e:TypeId
  live:(Nat→Prop)→World→Nat→α→SV→List Nat→Prop
  keep:∀ {S S':Nat→Prop} {w w':World} {b:Nat} {x:α} {sv:SV} {F:List Nat},live S w b x sv F→Mv S w S' w'→(∀b∈F,w'.heap[b]? =w.heap[b]?)→live S' w' b x sv F
  nd:∀ {S:Nat→Prop} {w:World} {b:Nat} {x:α} {sv:SV} {F:List Nat},live S w b x sv F→∀b∈F,b<w.heap.size∧∀q,w.heap[b]? ≠some (.deferred q)
structure Ojt {α:Type} (k:Lk α) (S:Nat→Prop) (w:World) (b:Nat) (x:α) (F:List Nat):Prop where
  ex:∃sv F',F=b::F'∧Ob1 k.d k.e S w b x sv∧k.live S w b x sv F'
def R4{α:Type}(k:Lk α)(S:Nat→Prop)(w:World)(A:Option Addr)(x:Option α)(F:List Nat):Prop:=match x with
  | none=>A=none∧F=[]
  | some y=>∃b,A=some ⟨b,0,none⟩∧Ojt k S w b y F
section
variable {α:Type} {d:Kd α} {e:TypeId} {S S':Nat→Prop} {w w':World} {b:Nat} {x y:α} {sv:SV} {k:Lk α} {F:List Nat}
theorem Ob1.keep(h:Ob1 d e S w b x sv)(hk:Mv S w S' w')(hb:w'.heap[b]? =w.heap[b]?):Ob1 d e S' w' b x sv:=⟨d.keep h.cont hk,hb.trans h.blk⟩
theorem Ob1.cell(h:Ob1 d e S w b x sv){j:Nat}{v:Value}(hj:(d.cells x sv)[j]? =some v):w.cell? ⟨b,j,none⟩=some v:=by
  unfold World.cell?;simp only [h.blk];simp [hj]
theorem Ob1.as(h:Ob1 d e S w b x sv)(hc:d.cells x sv=d.cells y sv)(hk:d.cont S w x sv→d.cont S w y sv):Ob1 d e S w b y sv:=⟨hk h.cont,hc▸h.blk⟩
theorem Ob1.resv{sv':SV}(h:Ob1 d e S w b x sv)(hc:d.cells x sv=d.cells x sv')(hk:d.cont S w x sv→d.cont S w x sv'):Ob1 d e S w b x sv':=⟨hk h.cont,hc▸h.blk⟩
theorem Ojt.keep(h:Ojt k S w b x F)(hk:Mv S w S' w')(hb:∀b∈F,w'.heap[b]? =w.heap[b]?):Ojt k S' w' b x F:=by
  obtain ⟨sv,F',rfl,h1,h2⟩:=h.ex;exact ⟨sv,F',rfl,h1.keep hk (hb _ (by simp)),k.keep h2 hk fun b hh=>hb b (List.mem_cons_of_mem _ hh)⟩
theorem Ob1.lt(h:Ob1 d e S w b x sv):b<w.heap.size:=(Array.getElem?_eq_some_iff.1 h.blk).1
theorem Ojt.nd(h:Ojt k S w b x F):∀b∈F,b<w.heap.size∧∀q,w.heap[b]? ≠some (.deferred q):=by
  obtain ⟨sv,F',rfl,h1,h2⟩:=h.ex;intro b' hb;rcases List.mem_cons.1 hb with rfl | hb
  · exact ⟨h1.lt,fun q=>by rw [h1.blk];intro h;cases h⟩
  · exact k.nd h2 b' hb
theorem Ojt.any(h:Ojt k S w b x F):Ojt k (fun _=>True) w b x F:=h.keep (fun b hb _=>⟨trivial,rfl⟩) (fun _ _=>rfl)
theorem Row.ndl{base c:Nat}{A:Option Addr}{l:List α}(h:Row d e S w base A c l):∀b∈rb A,b<w.heap.size∧∀q,w.heap[b]? ≠some (.deferred q):=fun b hb=>⟨(h.lt hb).2,h.nd b hb⟩
theorem Ojt.mk'(sv:SV){F':List Nat}(h1:Ob1 k.d k.e S w b x sv)(h2:k.live S w b x sv F'):Ojt k S w b x (b::F'):=⟨sv,F',rfl,h1,h2⟩
theorem R4.keep{A:Option Addr}{x:Option α}(h:R4 k S w A x F)(hk:Mv S w S' w')(hb:∀b∈F,w'.heap[b]? =w.heap[b]?):R4 k S' w' A x F:=by
  cases x with
  | none=>exact h
  | some y=>
    obtain ⟨b,h1,h2⟩:=h;exact ⟨b,h1,h2.keep hk hb⟩
theorem R4.nd{A:Option Addr}{x:Option α}(h:R4 k S w A x F):∀b∈F,b<w.heap.size∧∀q,w.heap[b]? ≠some (.deferred q):=by
  cases x with
  | none=>obtain ⟨_,rfl⟩:=h;simp
  | some y=>
    obtain ⟨b,h1,h2⟩:=h;exact h2.nd
theorem Row.down{base c:Nat}{A:Option Addr}{l:List α}(h:Row d e S w base A c l):Row d e S w 0 A c l:=h.raise fun _ _=>Nat.zero_le _
theorem Ob1.el(h:Ob1 d e S w b x sv)(hb:S b):El d S w ⟨b,0,none⟩ x sv:=⟨h.cont,hb,fun j v hj=>by rw [V8,Nat.zero_add];exact h.cell hj⟩
end
section
variable {α:Type} {d:Kd α} {e:TypeId} {S0 X:Nat→Prop} {pm:List Nat} {w00 w w0 w':World} {own ns:List Nat} {mine mine' l1 l2:List (List Nat)} {b:Nat} {x:α} {sv:SV} {k:Lk α} {F0:List Nat}
  {F:Fence} {m:Nat} {P:Program} {n:Nat} {σ:S} {a:Act} {o:Oper} {ops:Array Oper} {Q:Exit→Act→World→Prop} {rest:List Oper}
theorem Ep.perm(hE:Ep pm w00 w ns mine)(hp:mine.flatten.Perm mine'.flatten):Ep pm w00 w ns mine'∧∀S0,Mv (Lo S0 w00 w ns mine) w (Lo S0 w00 w ns mine') w:=
  ⟨⟨hE.k,hE.ow,fun b hb=>hE.mi b (hp.mem_iff.2 hb),hp.nodup_iff.1 hE.dis⟩,fun S0 b hb _=>⟨⟨hb.1,hb.2.1,fun hh=>hb.2.2.1 (hp.mem_iff.2 hh),hb.2.2.2⟩,rfl⟩⟩
theorem Ep.eqv(hE:Ep pm w00 w ns mine)(hp:mine.flatten=mine'.flatten):Ep pm w00 w ns mine'∧∀S0,Mv (Lo S0 w00 w ns mine) w (Lo S0 w00 w ns mine') w:=hE.perm (hp▸ .refl _)
theorem A1c(h:Ob1 d e X w b x sv)(hE:Ep pm w00 w own mine)(hm:b∈mine.flatten)(g:Bool)(off:Nat)(vs:List Value)(hs:((d.cells x sv).drop off).take vs.length=vs):(Ob.cell g ((⟨b,0,none⟩:Addr).add off) vs).holds P w own:=by
  intro _;refine ⟨by rw [S3];exact (hE.mi b hm).2.2,fun j y hj=>?_⟩;rw [A29,V8,Nat.zero_add];refine h.cell ?_;rw [← hs,List.getElem?_take] at hj;split at hj
  · rwa [List.getElem?_drop] at hj
  · cases hj
theorem A4c(hF:E9 F)(hE:Ep pm w00 w ns mine)(hI:Inv w ns n σ ns a w)(hw:Region.wanted o (yielded ops a.tmps)=true){t:TypeId}{xo y:Operand}(hop:o.op=.store t xo y)(hd:o.dst=none)
    {off:Nat} {ad:Addr} (hx:I9 σ.env [] xo=some (.v (.pointer (some ad)))) (had:ad=(⟨b,0,none⟩:Addr).add off) {v:Value} (hy:I9 σ.env [] y=some (.v v)) {vs:List Value} (hvs:v.cells=vs.toArray) (hag:szT P t=some vs.length) (h1:Nat.ble (off+vs.length) d.sz=true)
    (hone:vs.all B0y=true) (hm: [b]∈mine) (h:Ob1 d e (Lo S0 w00 w ns mine) w b x sv) (z:α) (sv':SV) (hzc:d.cells z sv'=A3k (d.cells x sv) off vs)
    (hct:d.cont (Lo S0 w00 w ns mine) w x sv→d.cont (Lo S0 w00 w ns mine) w z sv')
    (K:∀a' w',(∃v,a'=a.put o.dst v)→Ep pm w00 w' ns mine→Inv w' ns n σ ns a' w'→(∀S0,Mv (Lo S0 w00 w ns mine) w (Lo S0 w00 w' ns mine) w')→(∀b'∈mine.flatten,b'∉[b]→w'.heap[b']? =w.heap[b']?)→
      Ob1 d e (Lo S0 w00 w' ns mine) w' b z sv'→wpListIn F m P ops Q rest a' w'):wpListIn F m P ops Q (o::rest) a w:=by
  have h1:=Nat.le_of_ble_eq_true h1;have hgm:b∈mine.flatten:=R6 hm (by simp);have hid:(List.map (EV.den [b]) ((d.cells x sv).map EV.v))=d.cells x sv:=Y2 _;have hL:Loc w [b] [b] [((d.cells x sv).map EV.v,e)] w:=by
    refine ⟨rfl,by simp,H3.refl _ _,fun x hx=>.inl hx,fun k cs U hk=>?_⟩;cases k with
    | zero=>
      simp only [List.getElem?_cons_zero,Option.some.injEq,Prod.mk.injEq] at hk;obtain ⟨rfl,rfl⟩:=hk;rw [hid];simpa using h.blk
    | succ k=>simp at hk
  have hdl:=d.len x sv;have hk0: [((d.cells x sv).map EV.v,e)][0]? =some ((d.cells x sv).map EV.v,e):=rfl;obtain ⟨w',hrunS,hL2,_⟩:=Loc.storeCells (P:=P) (vs.map EV.v) (by
      intro e he;obtain ⟨u,hu,rfl⟩:=List.mem_map.1 he;exact List.all_eq_true.1 hone u hu) [((d.cells x sv).map EV.v,e)] w 0 ((d.cells x sv).map EV.v) e off 0 hL hk0 (by simp [hdl];omega)
  have hL2:Loc w [b] [b] [((A3k (d.cells x sv) off vs).map EV.v,e)] w':=by
    have:=hL2;rw [A8m] at this
    simpa using this
  have hadr:ad=⟨[b].getD 0 0,off,none⟩:=by rw [had,V8,Nat.zero_add];rfl
  have hrun':(execOp a.eval o).run P w=.ok .skip w':=by
    have e1:=hI.opnd hx rfl;have e2:=hI.opnd hy rfl;simp only [EV.den,hadr] at e1 e2;have hrunS':(Go.storeCells ⟨[b].getD 0 0,off,none⟩ vs 0).run P w=.ok () w':=by
      rw [← hrunS,Y2]
    unfold execOp;rw [hop];simp only [e1,e2,Instr.storeAt,Instr.sureAddr,storeVar,Sem.run_bind,Sem.run_pure,Result.andThen_ok,R9 hag w,hvs,List.size_toArray,ne_eq,not_true,if_false];rw [hrunS'];rfl
  have hg:H3 [b] w w':=⟨hL2.base.os,hL2.base.tape,hL2.base.output,hL2.base.size,fun k hk hne=>hL2.base.block k hk hne⟩;refine A2x hF hw (by rw [hop];intro c hc;cases hc) hrun' ?_;obtain ⟨q1,q2,q3,q4⟩:=hE.step hI hg (mine':=mine) (by intro b' hb;simp at hb;subst hb;exact hgm) A2w hE.dis (.inr (by intro b' hb q hq;simp at hb;subst hb;rw [h.blk] at hq;cases hq));have hput:a.put o.dst undef=a:=by rw [hd];rfl
  have hb2:=hL2.blk 0 _ _ rfl;rw [Y2] at hb2;refine K _ _ ⟨_,rfl⟩ q1 (by rw [hput];exact q2) q3 q4 ⟨d.keep (hct h.cont) (q3 S0),?_⟩;rw [hzc]
  simpa using hb2
theorem B3s(hE:Ep pm w00 w ns mine)(hI:Inv w ns n σ ns a w)(kb:Nat)(x:α)(sv:SV)(T:TypeId)(hk:σ.bs[kb]? =some ((d.cells x sv).map EV.v,T)):
    ∃(b:Nat) (ns':List Nat),Ep pm w00 w ns' (mine++[[b]])∧Inv w ns' n (frz kb ⟨b,0,none⟩ σ) ns' a w∧(∀S0,Mv (Lo S0 w00 w ns mine) w (Lo S0 w00 w ns' (mine++[[b]])) w)∧w00.heap.size≤b∧(∀S0,d.cont (Lo S0 w00 w ns mine) w x sv→Ob1 d T (Lo S0 w00 w ns' (mine++[[b]])) w b x sv):=by
  obtain ⟨b,ns',h1,h2,h3,h4,h5,h6,h7,h8,h9,h10⟩:=B3a hE hI kb x sv T hk;have hfl:(mine++[[b]]).flatten=mine.flatten++[b]:=by simp
  have hMv:∀S0,Mv (Lo S0 w00 w ns mine) w (Lo S0 w00 w ns' (mine++[[b]])) w:=fun S0 c hc hi=>by
    refine ⟨⟨hc.1,(h3 S0 c hc hi).1.2.1,fun hh=>?_,hc.2.2.2⟩,rfl⟩;rw [hfl] at hh;rcases List.mem_append.1 hh with hh | hh
    · exact hc.2.2.1 hh
    · simp only [List.mem_singleton] at hh;subst hh;exact hc.2.1 h5
  refine ⟨b,ns',⟨h1.k,h1.ow,fun c hc=>?_,?_⟩,h2,hMv,h6,fun S0 hc=>⟨d.keep hc (hMv S0),h10⟩⟩
  · rw [hfl] at hc;rcases List.mem_append.1 hc with hc | hc
    · exact h1.mi c hc
    · simp only [List.mem_singleton] at hc;subst hc;exact ⟨.inl h6,h7,h8⟩
  · rw [hfl,List.nodup_append];exact ⟨h1.dis,by simp,fun c hc c' hc' he=>by
      simp only [List.mem_singleton] at hc';subst hc';subst he;exact h9 hc⟩
def M2(mine:List (List Nat))(ix:List Nat):List (List Nat):=(mine.zipIdx.filter fun p=>!ix.contains p.2).map Prod.fst
theorem A7e{mine:List (List Nat)}{ix:List Nat}{b:Nat}(h:b∈(M2 mine ix).flatten):∃j r,mine[j]? =some r∧ix.contains j=false∧b∈r:=by
  obtain ⟨r,hr,hb⟩:=List.mem_flatten.1 h;obtain ⟨⟨r',j⟩,hp,rfl⟩:=List.mem_map.1 hr;obtain ⟨h1,h2⟩:=List.mem_filter.1 hp;refine ⟨j,r',?_,by simpa using h2,hb⟩;have:=List.mem_zipIdx_iff_getElem?.1 h1
  simpa using this
theorem Ep.group(hE:Ep pm w00 w ns mine)(ix:List Nat)(hn:ix.Nodup)(G:List Nat)(hG:(ix.map fun i=>mine.getD i []).flatten=G):Ep pm w00 w ns (M2 mine ix++[G])∧∀S0,Mv (Lo S0 w00 w ns mine) w (Lo S0 w00 w ns (M2 mine ix++[G])) w:=by
  subst hG;have hsub:∀c,c∈(M2 mine ix).flatten→c∈mine.flatten:=fun c hc=>by
    obtain ⟨j,r,h1,_,h3⟩:=A7e hc;exact List.mem_flatten.2 ⟨r,List.mem_of_getElem? h1,h3⟩
  have hall:∀c,c∈(M2 mine ix++[(ix.map fun i=>mine.getD i []).flatten]).flatten→c∈mine.flatten:=fun c hc=>by
    simp only [List.flatten_append,List.flatten_cons,List.flatten_nil,List.append_nil] at hc;rcases List.mem_append.1 hc with hc | hc
    · exact hsub c hc
    · exact X1 ix hc
  have hsl:(M2 mine ix).Sublist mine:=by
    have h:(mine.zipIdx.map Prod.fst)=mine:=by simp
    unfold M2;exact (List.Sublist.map Prod.fst List.filter_sublist).trans (by rw [h];exact List.Sublist.refl _)
  refine ⟨⟨hE.k,hE.ow,fun b hb=>hE.mi b (hall b hb),?_⟩,fun S0 b hb _=>⟨⟨hb.1,hb.2.1,fun hh=>hb.2.2.1 (hall b hh),hb.2.2.2⟩,rfl⟩⟩;simp only [List.flatten_append,List.flatten_cons,List.flatten_nil,List.append_nil];rw [List.nodup_append];refine ⟨hE.dis.sublist (A2p hsl),hE.pick ix hn,fun c hc c' hc' he=>?_⟩;subst he;obtain ⟨j,r,h1,h2,h3⟩:=A7e hc;exact hE.nes ix h2 h1 h3 hc'
theorem Ep.parts(hE:Ep pm w00 w ns mine)(i:Nat)(Gs:List (List Nat))(hG:mine.getD i []=Gs.flatten):Ep pm w00 w ns (M2 mine [i]++Gs)∧∀S0,Mv (Lo S0 w00 w ns mine) w (Lo S0 w00 w ns (M2 mine [i]++Gs)) w:=by
  obtain ⟨h1,h2⟩:=hE.group [i] (by simp) (mine.getD i []) (by simp);have hf:(M2 mine [i]++[mine.getD i []]).flatten=(M2 mine [i]++Gs).flatten:=by
    rw [hG];simp
  obtain ⟨h3,h4⟩:=h1.eqv hf;exact ⟨h3,fun S0 b hb hc=>⟨(h4 S0 b (h2 S0 b hb hc).1 hc).1,rfl⟩⟩
theorem B0f(mine:List (List Nat))(ix:List Nat):(M2 mine ix).Sublist mine:=by
  have h:(mine.zipIdx.map Prod.fst)=mine:=by simp
  unfold M2;exact (List.Sublist.map Prod.fst List.filter_sublist).trans (by rw [h];exact List.Sublist.refl _)
structure A9h (w w':World) (pmc:List Nat) (Fs:List (List Nat)):Prop where
  mi:∀b∈Fs.flatten,(w.heap.size≤b∨b∈pmc)∧b<w'.heap.size
  dis:Fs.flatten.Nodup
theorem Ep.handed(hE:Ep pm w00 w own mine)(ix:List Nat)(hn:ix.Nodup):A9h w00 w pm (ix.map fun i=>mine.getD i []):=
  ⟨fun b hb=>let ⟨h1,h2,_⟩:=hE.mi b (X1 ix hb);⟨h1,h2⟩,hE.pick ix hn⟩
theorem callO_(hF:E9 F)(hE:Ep pm w00 w ns mine)(hI:Inv w ns n σ ns a w)(hw:Region.wanted o (yielded ops a.tmps)=true){f:FuncId}{es:List EV}{cs args:List Value}(hco:A1e σ [] o=some (f,es,cs))(hv:A23 es cs=some args)
    (hent:∀args w,(callFunc f args).run P w=.ok (.enter f args) w) {X:Type} (val:X→Value) (ix:List Nat) (Fs:X→List (List Nat)) (Rf:X→World→Prop)
    (hc:Calls P f args.toArray w fun e w'=>∃x,e=.returned (val x)∧H3 (ix.map fun i=>mine.getD i []).flatten w w'∧A9h w w' (ix.map fun i=>mine.getD i []).flatten (Fs x)∧Rf x w') (hnd:σ.lo=none∨∀b∈(ix.map fun i=>mine.getD i []).flatten,∀q,w.heap[b]? ≠some (.deferred q))
    (σ2:X→S) (hput:∀x,V0 σ n o.dst [] (some (.v (val x)))=some (σ2 x))
    (K:∀x a' w',(∃v,a'=a.put o.dst v)→Ep pm w00 w' ns (M2 mine ix++Fs x)→Inv w' ns n (σ2 x) ns a' w'→(∀S0,Mv (Lo S0 w00 w ns mine) w (Lo S0 w00 w' ns (M2 mine ix++Fs x)) w')→(∀b∈(M2 mine ix).flatten,w'.heap[b]? =w.heap[b]?)→
      (∀S0,(∀b∈pm,S0 b)→Mv (fun b=>b∉(Fs x).flatten∧(w.heap.size≤b∨Lo S0 w00 w ns mine b∨b∈(ix.map fun i=>mine.getD i []).flatten)) w' (Lo S0 w00 w' ns (M2 mine ix++Fs x)) w')→Rf x w'→wpListIn F m P ops Q rest a' w'):wpListIn F m P ops Q (o::rest) a w:=by
  refine B2z hF hI hw hco hv hent val _ (fun x w'=>A9h w w' (ix.map fun i=>mine.getD i []).flatten (Fs x)∧Rf x w') hc (fun x w' hb ⟨hh,hr⟩=>?_);have hfl:(M2 mine ix++Fs x).flatten=(M2 mine ix).flatten++(Fs x).flatten:=by simp
  have hsub:∀c,c∈(M2 mine ix).flatten→c∈mine.flatten:=fun c hc=>(A2p (B0f mine ix)).subset hc;have hmn:∀c∈(M2 mine ix++Fs x).flatten,c∈mine.flatten∨(w.heap.size≤c∧c<w'.heap.size):=fun c hc=>by
    rw [hfl] at hc;rcases List.mem_append.1 hc with hc | hc
    · exact .inl (hsub c hc)
    · rcases (hh.mi c hc).1 with h | h
      · exact .inr ⟨h,(hh.mi c hc).2⟩
      · exact .inl (X1 ix h)
  have hnotin:∀c∈(M2 mine ix).flatten,c∉(ix.map fun i=>mine.getD i []).flatten:=fun c hc=>by
    obtain ⟨j,r,h1,h2,h3⟩:=A7e hc;exact hE.nes ix h2 h1 h3
  have hdis:(M2 mine ix++Fs x).flatten.Nodup:=by
    rw [hfl,List.nodup_append];refine ⟨hE.dis.sublist (A2p (B0f mine ix)),hh.dis,fun c hc c' hc' he=>?_⟩;subst he;rcases (hh.mi c hc').1 with h | h
    · have:=(hE.mi c (hsub c hc)).2.1;omega
    · exact hnotin c hc h
  obtain ⟨q1,q2,q3,q4⟩:=hE.step hI hb (mine':=M2 mine ix++Fs x) (fun b hb=>X1 ix hb) hmn hdis hnd;refine K x _ _ ⟨_,rfl⟩ q1 (A21 q2 _ (hput _)) q3 (fun c hc=>q4 c (hsub c hc) (hnotin c hc)) (fun S0 hp c hc hi=>⟨?_,rfl⟩) hr;obtain ⟨hc1,hc2⟩:=hc;have hnr:c∉(M2 mine ix++Fs x).flatten:=fun hh'=>by
    rw [hfl] at hh';rcases List.mem_append.1 hh' with hh' | hh'
    · rcases hc2 with h | h | h
      · have:=(hE.mi c (hsub c hh')).2.1;omega
      · exact h.2.2.1 (hsub c hh')
      · exact hnotin c hh' h
    · exact hc1 hh'
  rcases hc2 with h | h | h
  · exact ⟨hi.1,fun hh'=>by have:=(hE.ow c hh').2;omega,hnr,.inl (Nat.le_trans hE.k.size h)⟩
  · exact ⟨hi.1,h.2.1,hnr,h.2.2.2⟩
  · obtain ⟨h1,_,h3⟩:=hE.mi c (X1 ix h);exact ⟨hi.1,h3,hnr,h1.imp id (hp c)⟩
end
def A34{α:Type}(d:Kd α)(svs:Nat→SV):Nat→List α→List Value
  | _,[]=>[]
  | k,y::r=>d.cells y (svs k)++A34 d svs (k+1) r
section
variable {α:Type} {d:Kd α} {svs:Nat→SV}
theorem A98:∀(k:Nat) (ys:List α),(A34 d svs k ys).length=ys.length*d.sz
  | _,[]=>by simp [A34]
  | k,y::r=>by rw [A34,List.length_append,d.len,A98 (k+1) r,List.length_cons,Nat.succ_mul,Nat.add_comm]
theorem A7c:∀(k:Nat) (ys:List α) (q:Nat) (u:Value),(A34 d svs k ys)[q]? =some u→∃i j y,ys[i]? =some y∧(d.cells y (svs (k+i)))[j]? =some u∧q=i*d.sz+j
  | _,[],q,u,h=>by simp [A34] at h
  | k,y::r,q,u,h=>by
    rw [A34] at h;by_cases hq:q<d.sz
    · rw [List.getElem?_append_left (by rw [d.len];exact hq)] at h;exact ⟨0,q,y,rfl,h,by simp⟩
    · rw [List.getElem?_append_right (by rw [d.len];omega),d.len] at h;obtain ⟨i,j,z,h1,h2,h3⟩:=A7c (k+1) r _ u h;refine ⟨i+1,j,z,h1,by rw [show k+(i+1)=k+1+i by omega];exact h2,?_⟩;rw [Nat.succ_mul];omega
theorem B1d:∀(k:Nat) (ys:List α) (i j:Nat) (y:α) (u:Value),ys[i]? =some y→(d.cells y (svs (k+i)))[j]? =some u→(A34 d svs k ys)[i*d.sz+j]? =some u
  | _,[],i,j,y,u,h,_=>by simp at h
  | k,z::r,0,j,y,u,h,h2=>by
    simp only [List.getElem?_cons_zero,Option.some.injEq] at h;subst h;have hj:j<d.sz:=by rw [← d.len z (svs (k+0))];exact (List.getElem?_eq_some_iff.1 h2).1
    rw [A34,Nat.zero_mul,Nat.zero_add,List.getElem?_append_left (by rw [d.len];exact hj)];exact h2
  | k,z::r,i+1,j,y,u,h,h2=>by
    rw [A34,List.getElem?_append_right (by rw [d.len,Nat.succ_mul];omega),d.len,Nat.succ_mul,show i*d.sz+d.sz+j - d.sz=i*d.sz+j by omega];exact B1d (k+1) r i j y u (by simpa using h) (by rw [show k+1+i=k+(i+1) by omega];exact h2)
end
section
variable {α:Type} {d:Kd α}
theorem Arr.svsOf{S:Nat→Prop}{w:World}{A:Option Addr}{ys:List α}(h:Arr d S w A ys):∃svs:Nat→SV,∀i x,ys[i]? =some x→d.cont S w x (svs i)∧∀(j:Nat) (v:Value),(d.cells x (svs i))[j]? =some v→w.cell? ((adr A).add (i*d.sz+j))=some v:=by
  have:∀i,∃sv,∀x,ys[i]? =some x→d.cont S w x sv∧∀(j:Nat) (v:Value),(d.cells x sv)[j]? =some v→w.cell? ((adr A).add (i*d.sz+j))=some v:=fun i=>by
    cases hx:ys[i]? with
    | none=>exact ⟨svL [],fun x hh=>by cases hh⟩
    | some y=>
      obtain ⟨sv,h1,h2⟩:=h.2 i y hx;exact ⟨sv,fun x hh=>by cases hh;exact ⟨h1,h2⟩⟩
  exact ⟨fun i=>Classical.choose (this i),fun i x hx=>Classical.choose_spec (this i) x hx⟩
theorem Arr.nil_of{S:Nat→Prop}{w:World}{ys:List α}(h:Arr d S w none ys):ys=[]:=by
  cases ys with
  | nil=>rfl
  | cons y r=>have:=(h.1 (by simp)).1;cases this
end
section
variable {P:Program} {α:Type} {d:Kd α} {e:TypeId} {S:Nat→Prop} {w:World} {base c:Nat} {A:Option Addr} {l:List α}
theorem A86{t ty:TypeId}{i:TypeInfo}(ht:P.underlying t=some (.slice e))(hi:P.info? e=some i)(v:Value)(n:Nat)(xs:List Value){size:Nat}(hown:w.ownsRow base e size v n xs)(c2:Nat):
    (Builtin.append_ #[t,t] ty #[v,.slice none 0 c2]).run P w=.ok v w:=by
  rcases hown.2 with ⟨rfl,rfl⟩ | ⟨g,cap,cur,rfl,_,_,hnc,_⟩
  · simp [Builtin.append_,run_underlying ht,sizeOf,typeInfo,hi,Builtin.lenOf,Builtin.firstCells]
  · simp [Builtin.append_,run_underlying ht,sizeOf,typeInfo,hi,Builtin.lenOf,Builtin.firstCells,hnc,storeCells]
theorem B2y{t ty:TypeId}{i:TypeInfo}{z:Value}(ht:P.underlying t=some (.slice e))(hi:P.info? e=some i)(hz:i.zero=some z)(hs:i.size=d.sz)(hzs:z.cells.size=d.sz)
    (h:Row d e S w base A c l) (hbase:base≤w.heap.size) {A2:Option Addr} {c2:Nat} {ys:List α} (hy:Arr d S w A2 ys)
    (h1:∀y sv,∀u∈d.cells y sv,u.oneCell'=true) (hb1:l.length+ys.length≤maxLen) (hb2:(l.length+ys.length)*i.bytes≤140737488355328):
    ∃ A' c' w1,(Builtin.append_ #[t,t] ty #[.slice A l.length c,.slice A2 ys.length c2]).run P w=.ok (.slice A' (l++ys).length c') w1∧H3 (rb A) w w1∧
      (rb A'=rb A∨(rb A'=[w.heap.size]∧w.heap.size<w1.heap.size))∧∀S',Mv S w S' w1→Row d e S' w1 base A' c' (l++ys):=by
  cases A2 with
  | none=>
    have:=hy.nil_of;subst this;obtain ⟨xs,hown,h3⟩:=h;have hr:(Builtin.append_ #[t,t] ty #[.slice A l.length c,.slice none 0 c2]).run P w=.ok (.slice A l.length c) w:=A86 ht hi _ _ xs hown c2;refine ⟨A,c,w,by simpa using hr,H3.refl _ _,.inl rfl,fun S' hk=>?_⟩;rw [List.append_nil];exact Row.keep ⟨xs,hown,h3⟩ hk (fun _ _=>rfl)
  | some ad=>
    obtain ⟨svs,hsv⟩:=hy.svsOf;obtain ⟨xs,hown,h3⟩:=h;obtain ⟨v',w1,hrun,q1,q2,q3,q4⟩:=run_append_own_at (P:=P) w base t ty e i z d.sz i.bytes ht hi hz hs rfl hzs d.pos _ _ xs hown ad ys.length c2 (A34 d svs 0 ys) (A98 0 ys) (fun q u hu=>by
      obtain ⟨i,j,y,e1,e2,rfl⟩:=A7c 0 ys q u hu;rw [Nat.zero_add] at e2;exact (hsv i y e1).2 j u e2) (fun u hu=>by
      obtain ⟨q,hq⟩:=List.getElem?_of_mem hu;obtain ⟨i,j,y,e1,e2,rfl⟩:=A7c 0 ys q u hq;exact h1 y _ u (List.mem_of_getElem? e2)) hb1 hb2 hbase
    have hlen:(l++ys).length=l.length+ys.length:=by simp
    have hrb:(Value.slice A l.length c).ownBlock.toList=rb A:=by cases A<;>rfl
    have q2:=H3.of_grownBy q2;rw [hrb] at q2;obtain ⟨A',c',rfl⟩:∃A' c',v'=.slice A' (l.length+ys.length) c':=by
      rcases q1.2 with ⟨hv,hh⟩ | ⟨g,cap,cur,rfl,_⟩
      · exact ⟨none,0,by rw [hv,hh]⟩
      · exact ⟨_,_,rfl⟩
    have hrb':(Value.slice A' (l.length+ys.length) c').ownBlock.toList=rb A':=by cases A'<;>rfl
    refine ⟨A',c',w1,by rw [hlen];exact hrun,q2,?_,fun S' hk=>⟨_,by rw [hlen];exact q1,fun k y hy=>?_⟩⟩
    · rcases q4 with q4 | q4
      · exact .inl (by rw [← hrb,← hrb',q4])
      · exact .inr ⟨by rw [← hrb',q4];rfl,(q1.lt _ q4).2⟩
    · rcases Nat.lt_or_ge k l.length with hlt | hge
      · rw [List.getElem?_append_left hlt] at hy;obtain ⟨sv',g1,g2⟩:=h3 k y hy;refine ⟨sv',d.keep g1 hk,fun j u hj=>?_⟩;have:=g2 j u hj;rw [List.getElem?_append_left (List.getElem?_eq_some_iff.1 this).1];exact this
      · rw [List.getElem?_append_right hge] at hy;refine ⟨svs (k - l.length),d.keep (hsv _ y hy).1 hk,fun j u hj=>?_⟩;have hxl:=hown.1;have hm:k*d.sz=l.length*d.sz+(k - l.length)*d.sz:=by rw [← Nat.add_mul];congr 1;omega
        rw [List.getElem?_append_right (by rw [hxl,hm];omega),hxl,show k*d.sz+j - l.length*d.sz=(k - l.length)*d.sz+j by omega];exact B1d 0 ys _ j y u hy (by rw [Nat.zero_add];exact hj)
end
section
variable {F:Fence} {m:Nat} {P:Program} {S0:Nat→Prop} {pm:List Nat} {w00 w:World} {mine l1 l2:List (List Nat)} {n:Nat} {σ:S} {ns:List Nat} {a:Act} {o:Oper} {ops:Array Oper}
  {Q:Exit→Act→World→Prop} {rest:List Oper} {α:Type} {d:Kd α} {e:TypeId} {base:Nat}
theorem B2x(hF:E9 F){A:Option Addr}(hE:Ep pm w00 w ns (l1++rb A::l2))(hI:Inv w ns n σ ns a w)(hw:Region.wanted o (yielded ops a.tmps)=true){s x:Operand}{t:TypeId}(hop:o.op=.call {callee:=.builtin .append,args:= #[s,x],argTypes:= #[t,t]})
    {c:Nat} {l:List α} (hs:I9 σ.env [] s=some (.v (.slice A l.length c))) {A2:Option Addr} {c2:Nat} {ys:List α} (hx:I9 σ.env [] x=some (.v (.slice A2 ys.length c2)))
    (hrow:Row d e (Lo S0 w00 w ns (l1++rb A::l2)) w base A c l) (hbase:base≤w.heap.size) (hy:Arr d (Lo S0 w00 w ns (l1++rb A::l2)) w A2 ys) (hone:∀y sv,∀u∈d.cells y sv,u.oneCell'=true)
    (ht:P.underlying t=some (.slice e)) {zi:Value×Nat×Nat} (hzi:A7h P e=some zi) (hsz:zi.2.1=d.sz) (hzs:Nat.beq zi.1.cells.size d.sz=true) (hb1:l.length+ys.length≤maxLen) (hb2:(l.length+ys.length)*zi.2.2≤140737488355328)
    (σ2:Option Addr→Nat→S) (hput:∀A' c',V0 σ n o.dst [] (some (.v (.slice A' (l++ys).length c')))=some (σ2 A' c'))
    (K:∀A' c' a' w',(∃v,a'=a.put o.dst v)→Ep pm w00 w' ns (l1++rb A'::l2)→Inv w' ns n (σ2 A' c') ns a' w'→(∀S0,Mv (Lo S0 w00 w ns (l1++rb A::l2)) w (Lo S0 w00 w' ns (l1++rb A'::l2)) w')→(∀b,b∈(l1++rb A::l2).flatten→b∉rb A→w'.heap[b]? =w.heap[b]?)→
      Row d e (Lo S0 w00 w' ns (l1++rb A'::l2)) w' base A' c' (l++ys)→wpListIn F m P ops Q rest a' w'):wpListIn F m P ops Q (o::rest) a w:=by
  obtain ⟨i,hi,hz,hsz',hbb⟩:=A28 hzi;rw [← hbb] at hb2;obtain ⟨A',c',w1,hrun,hg,hA',hR⟩:=B2y (P:=P) (ty:=o.type) (c2:=c2) ht hi hz (hsz'.trans hsz) (Nat.eq_of_beq_eq_true hzs) hrow hbase hy hone hb1 hb2;have hrun':(execOp a.eval o).run P w=.ok (.value (.slice A' (l++ys).length c')) w1:=by
    have e1:=hI.opnd hs rfl;have e2:=hI.opnd hx rfl;simp only [EV.den] at e1 e2;generalize (l++ys).length=q at hrun ⊢;generalize ys.length=q2 at hrun e2;simp [execOp,hop,resolve,invoke,builtin,e1,e2,Result.andThen];rw [hrun]
  refine A1r hF hw (by rw [hop];intro c hc;cases hc) hrun' ?_;obtain ⟨q1,q2,q3,q4⟩:=hE.step hI hg (mine':=l1++rb A'::l2) (by intro b hb;simp [hb]) (B2s hA') (B2r hE hA') (.inr hrow.nd);exact K A' c' _ _ ⟨_,rfl⟩ q1 (A21 q2 _ (hput _ _)) q3 q4 (hR _ (q3 S0))
def A1t(s:ByteArray):List Int:=s.data.toList.map fun b=>(b.toNat:Int)
theorem A61(s:ByteArray):(A1t s).length=s.size:=by
  unfold A1t;rw [List.length_map,Array.length_toList];rfl
theorem B69(hF:E9 F)(hE:Ep pm w00 w ns mine)(hI:Inv w ns n σ ns a w)(hw:Region.wanted o (yielded ops a.tmps)=true){src dst eT:TypeId}{x:Operand}(hop:o.op=.convert src dst x){u:TypeDesc}(hs:P.underlying src=some u)(hd:P.underlying dst=some (.slice eT))(he:P.underlying eT=some (.int .u8))
    {s:ByteArray} (hx:I9 σ.env [] x=some (.v (.string s))) (σ2:Option Addr→Nat→S) (hput:∀A c,V0 σ n o.dst [] (some (.v (.slice A (A1t s).length c)))=some (σ2 A c))
    (K:∀A c a' w',(∃v,a'=a.put o.dst v)→Ep pm w00 w' ns mine→Inv w' ns n (σ2 A c) ns a' w'→(∀S0,Mv (Lo S0 w00 w ns mine) w (Lo S0 w00 w' ns mine) w')→(∀b,b∈mine.flatten→b∉([]:List Nat)→w'.heap[b]? =w.heap[b]?)→
      Arr (Kd.int .u8) (Lo S0 w00 w' ns mine) w' A (A1t s)→(A1t s).length≤c→wpListIn F m P ops Q rest a' w'):wpListIn F m P ops Q (o::rest) a w:=by
  have hr:=Lib.run_convert_string_bytes (P:=P) w src dst eT s hs hd he;have hrun':(execOp a.eval o).run P w=.ok (.value (.slice (some ⟨w.heap.size,0,none⟩) (A1t s).length (grownCap w s.size 0 eT))) (Lib.bytesWorld w eT s):=by
    have e1:=hI.opnd hx rfl;simp only [EV.den] at e1;rw [A61];simp [execOp,hop,e1,hr,Sem.run_bind,Result.andThen]
  have hk:H3 [] w (Lib.bytesWorld w eT s):=⟨by simp [Lib.bytesWorld,World.freeze,World.alloc,World.drew,-World.alloc_eq,-World.drew_eq],by simp [Lib.bytesWorld,World.freeze,World.alloc,World.drew,-World.alloc_eq,-World.drew_eq],by simp [Lib.bytesWorld,World.freeze,World.alloc,World.drew,-World.alloc_eq,-World.drew_eq],by rw [Lib.bytesWorld_size];omega,fun k hk _=>Lib.bytesWorld_at_old w eT s k hk⟩;refine A1r hF hw (by rw [hop];intro c hc;cases hc) hrun' ?_;obtain ⟨q1,q2,q3,q4⟩:=hE.step hI hk (mine':=mine) (by intro b hb;cases hb) A2w hE.dis (.inr (by intro b hb;cases hb));refine K _ _ _ _ ⟨_,rfl⟩ q1 (A21 q2 _ (hput _ _)) q3 q4 ⟨fun _=>⟨rfl,?_⟩,fun i x hx=>⟨svL [],trivial,fun j v hj=>?_⟩⟩ ?_
  · refine ⟨by rw [Lib.bytesWorld_size];exact Nat.lt_succ_self _,fun hh=>?_,fun hh=>?_,.inl hE.k.size⟩
    · have:=(hE.ow _ hh).2;simp [adr] at this
    · have:=(hE.mi _ hh).2.1;simp [adr] at this
  · have hj0:j=0:=by
      have:=(List.getElem?_eq_some_iff.1 hj).1;simp [Kd.int] at this;omega
    subst hj0;simp only [Kd.int,List.getElem?_cons_zero,Option.some.injEq] at hj;subst hj;have hi:i<s.size:=by rw [← A61];exact (List.getElem?_eq_some_iff.1 hx).1
    have:=Lib.bytesWorld_cell w eT s i hi;simp only [adr,Option.getD_some];rw [V8];have hz:0+(i*(Kd.int .u8).sz+0)=i:=by simp [Kd.int]
    rw [hz,this]
    congr 2
    simp only [A1t,List.getElem?_map,Option.map_eq_some_iff] at hx;obtain ⟨b,hb,rfl⟩:=hx;rw [List.getD_eq_getElem?_getD,hb];rfl
  · rw [A61];exact grownCap_ge _ _ _ _
end
def A9n(k:IntKind)(x y:Int):Int:=k.wrap ((BitVec.ofInt k.bits x &&& BitVec.ofInt k.bits y).toNat:Int)
def B1t(k:IntKind)(x y:Int):Int:=k.wrap ((BitVec.ofInt k.bits x ||| BitVec.ofInt k.bits y).toNat:Int)
def A5i(k:IntKind)(x y:Int):Int:=k.wrap ((BitVec.ofInt k.bits x &&& ~~~ BitVec.ofInt k.bits y).toNat:Int)
def A57(k:IntKind)(x y:Int):Int:=k.wrap (x*2 ^ min y.toNat k.bits)
def B0i(k:IntKind)(x y:Int):Int:=x.fdiv (2 ^ min y.toNat k.bits)
theorem B58{P:Program}{k yk:IntKind}{x y:Int}(h:0≤y)(t:TypeId)(X Y:Operand)(w:World):(do eqGuard .shl t X Y (.int k x) (.int yk y);binOp .shl t (.int k x) (.int yk y)).run P w=.ok (.int k (A57 k x y)) w:=by
  have hg:(eqGuard .shl t X Y (.int k x) (.int yk y)).run P w=.ok () w:=rfl;rw [Sem.run_bind,hg,Result.andThen_ok];simp only [binOp,Op.shift];rw [if_neg (by omega)];rfl
theorem B9w{P:Program}{k yk:IntKind}{x y:Int}(h:0≤y)(t:TypeId)(X Y:Operand)(w:World):(do eqGuard .shr t X Y (.int k x) (.int yk y);binOp .shr t (.int k x) (.int yk y)).run P w=.ok (.int k (B0i k x y)) w:=by
  have hg:(eqGuard .shr t X Y (.int k x) (.int yk y)).run P w=.ok () w:=rfl;rw [Sem.run_bind,hg,Result.andThen_ok];simp only [binOp,Op.shift];rw [if_neg (by omega)];rfl
def A1j(A:Option Addr)(c lo sz:Nat):Option Addr:=if c=lo then A else A.map (·.add (lo*sz))
section
variable {P:Program} {w:World} {S:Nat→Prop} {α:Type} {d:Kd α}
theorem Arr.drop{A:Option Addr}{l:List α}(h:Arr d S w A l)(lo c:Nat)(hc:l.length≤c):Arr d S w (A1j A c lo d.sz) (l.drop lo):=by
  refine ⟨fun hl=>?_,fun i x hi=>?_⟩
  · rw [List.length_drop] at hl;obtain ⟨h1,h2⟩:=h.1 (by omega);unfold A1j;rw [if_neg (by omega),h1];exact ⟨rfl,by simp only [Option.map_some,adr,Option.getD_some];rw [S3];exact h2⟩
  · rw [List.getElem?_drop] at hi;obtain ⟨sv,q1,q2⟩:=h.2 (lo+i) x hi;have hlt:=(List.getElem?_eq_some_iff.1 hi).1;refine ⟨sv,q1,fun j v hj=>?_⟩;have:=q2 j v hj;obtain ⟨h1,_⟩:=h.1 (by omega);unfold A1j;rw [if_neg (by omega),h1];simp only [Option.map_some,adr,Option.getD_some];rw [A29];have e:lo*d.sz+(i*d.sz+j)=(lo+i)*d.sz+j:=by rw [Nat.add_mul];omega
    rw [e];exact this
theorem A75{t e:TypeId}{sz:Nat}(ht:P.underlying t=some (.slice e))(hs:szT P e=some sz){A:Option Addr}{l:List α}{c:Nat}{k:IntKind}{i:Int}(h0:0≤i)(h1:i≤l.length)(w:World):
    (Instr.sliceAt t (.slice A l.length c) (some (.int k i)) none none).run P w=.ok (.slice (A1j A c i.toNat sz) (l.drop i.toNat).length (c - i.toNat)) w:=by
  have hb2:=A6y (P:=P) (k:=k) (y:=l.length) (code:=.sliceB) h0 h1 w;unfold Instr.sliceAt Instr.slice Instr.sliceBounds;simp only [Sem.run_bind,M3 ht w,Result.andThen_ok,Sem.run_pure,if_true,hb2,R9 hs w,List.length_drop,A1j];rw [show (if (none:Option Value).isSome=true then BoundsCode.slice3C else BoundsCode.sliceB)=BoundsCode.sliceB from rfl,hb2];simp only [Result.andThen_ok,R9 hs w]
theorem A05{n b:Nat}(hb:0<b)(h:n*b≤140737488355328):n≤maxLen:=by
  have:n≤n*b:=Nat.le_mul_of_pos_right _ hb;simp only [maxLen];omega
theorem A37{t e:TypeId}(ht:P.underlying t=some (.slice e))(A:Option Addr)(n c:Nat)(X Y:Operand)(w:World):(do eqGuard .eql t X Y (.slice A n c) (.slice none 0 0);binOp .eql t (.slice A n c) (.slice none 0 0)).run P w=.ok (.bool A.isNone) w:=by
  have h:(eqGuard .eql t X Y (.slice A n c) (.slice none 0 0)).run P w=.ok () w:=rfl;rw [Sem.run_bind,h,Result.andThen_ok];exact Lib.run_eql_slice_nil w t e A n c 0 0 ht
theorem Ep.outO{pm:List Nat}{w00:World}{own:List Nat}{mine:List (List Nat)}(hE:Ep pm w00 w own mine)(ix:List Nat):∀S0,Mv (Lo S0 w00 w own mine) w (fun b=>b∉(ix.map fun i=>mine.getD i []).flatten∧(w00.heap.size≤b∨S0 b)) w:=
  fun S0 b hb _=>⟨⟨fun hh=>hb.2.2.1 (X1 ix hh),hb.2.2.2⟩,rfl⟩
theorem Mv.startP{S0:Nat→Prop}{pm:List Nat}(w:World){mine:List (List Nat)}(hd:S=fun b=>S0 b∨b∈pm)(hS:∀b,S0 b→b∉mine.flatten):Mv S0 w (Lo S w w [] mine) w:=fun b hb hc=>⟨⟨hc.1,by simp,hS b hb,.inr (by rw [hd];exact .inl hb)⟩,rfl⟩
theorem Row.stillP{pm:List Nat}{w00:World}{ns:List Nat}{l1 l2:List (List Nat)}{e:TypeId}{base c:Nat}{A:Option Addr}{l:List α}{S0:Nat→Prop}(h:Row d e (Lo S0 w00 w ns (l1++rb A::l2)) w base A c l)(hp:∀b∈pm,S0 b)(hE:Ep pm w00 w ns (l1++rb A::l2)):
    Ep pm w00 w ns (l1++l2)∧(∀S0,Mv (Lo S0 w00 w ns (l1++rb A::l2)) w (Lo S0 w00 w ns (l1++l2)) w)∧Arr d (Lo S0 w00 w ns (l1++l2)) w A l∧l.length≤c:=by
  have h1:=hE.sub (A4d l1 l2 (rb A));have h2:=h.arr (S':=Lo S0 w00 w ns (l1++l2)) (fun b hb=>⟨hb.1,hb.2.1,fun hh=>hb.2.2.1 ((A2p (A4d l1 l2 (rb A))).subset hh),hb.2.2.2⟩) (fun b hb=>by
    obtain ⟨q1,q2,q3⟩:=hE.mi b (R6 (by simp) hb);exact ⟨q2,q3,hE.gone b hb,q1.imp id (hp b)⟩)
  exact ⟨h1.1,h1.2,h2.1,h2.2⟩
theorem Row.low{e:TypeId}{base base' c:Nat}{A:Option Addr}{l:List α}(h:Row d e S w base A c l)(hb:base'≤base):Row d e S w base' A c l:=h.raise fun b hh=>Nat.le_trans hb (h.ge b hh)
end
def opt{α β:Type}(x:Option α)(a:β)(f:α→β):β:=match x with
  | none=>a
  | some y=>f y
theorem A3u{α β:Type}{x:Option α}{a b:β}{f:α→β}(h:opt x a f=b):(x=none∧a=b)∨∃y,x=some y∧f y=b:=by
  cases x with
  | none=>exact .inl ⟨rfl,h⟩
  | some y=>exact .inr ⟨y,rfl,h⟩
theorem Inv.cast{w0 w:World}{own:List Nat}{n:Nat}{ns:List Nat}{a:Act}{β:Type}{σf:β→S}{p q:β}(h:p=q)(hI:Inv w0 own n (σf p) ns a w):Inv w0 own n (σf q) ns a w:=h▸hI
theorem R4.none_of{α:Type}{k:Lk α}{S:Nat→Prop}{w:World}{A:Option Addr}{x:Option α}{F:List Nat}(h:R4 k S w A x F)(hx:x=none):A=none∧F=[]:=by subst hx;exact h
theorem R4.some_of{α:Type}{k:Lk α}{S:Nat→Prop}{w:World}{A:Option Addr}{x:Option α}{F:List Nat}(h:R4 k S w A x F){y:α}(hx:x=some y):∃b,A=some ⟨b,0,none⟩∧Ojt k S w b y F:=by subst hx;exact h
theorem R4.of{α:Type}{k:Lk α}{S:Nat→Prop}{w:World}{b:Nat}{x:α}{F:List Nat}(h:Ojt k S w b x F):R4 k S w (some ⟨b,0,none⟩) (some x) F:=⟨b,rfl,h⟩
theorem R4.nil{α:Type}(k:Lk α)(S:Nat→Prop)(w:World):R4 k S w none none []:=⟨rfl,rfl⟩
section
variable {P:Program} {α:Type} {d:Kd α} {e:TypeId} {S:Nat→Prop} {w:World} {base c:Nat} {A:Option Addr} {l:List α}
end
section
variable {F:Fence} {m:Nat} {P:Program} {S0:Nat→Prop} {pm:List Nat} {w00 w:World} {mine l1 l2:List (List Nat)} {n:Nat} {σ:S} {ns:List Nat} {a:Act} {o:Oper} {ops:Array Oper}
  {Q:Exit→Act→World→Prop} {rest:List Oper} {α:Type} {d:Kd α} {e:TypeId} {base:Nat}
end
theorem B02{ρ:Type}{b:Bool}{x y:Option ρ}{r:ρ}(h:(bif b then x else y)=some r):(b=true∧x=some r)∨(b=false∧y=some r):=by
  cases b with
  | true=>exact .inl ⟨rfl,h⟩
  | false=>exact .inr ⟨rfl,h⟩
theorem Ep.reord{pm:List Nat}{w00 w:World}{ns:List Nat}{mine:List (List Nat)}(hE:Ep pm w00 w ns mine)(ix:List Nat)(hp:ix.isPerm (List.range mine.length)=true):
    Ep pm w00 w ns (ix.map fun i=>mine.getD i [])∧∀S0,Mv (Lo S0 w00 w ns mine) w (Lo S0 w00 w ns (ix.map fun i=>mine.getD i [])) w:=by
  have h:(ix.map fun i=>mine.getD i []).Perm ((List.range mine.length).map fun i=>mine.getD i []):=(List.isPerm_iff.1 hp).map _;have e:((List.range mine.length).map fun i=>mine.getD i [])=mine:=by
    apply List.ext_getElem
    · simp
    · intro i h1 h2;simp [List.getD_eq_getElem?_getD,h2]
  rw [e] at h;exact hE.perm h.symm.flatten
section
variable {S0:Nat→Prop} {F:Fence} {m:Nat} {P:Program} {pm:List Nat} {w00 w:World} {mine:List (List Nat)} {n:Nat} {σ:S} {ns:List Nat} {a:Act} {o:Oper} {ops:Array Oper} {Q:Exit→Act→World→Prop} {rest:List Oper}
end
theorem B90{P:Program}{n:Nat}{t e:TypeId}(ht:P.underlying t=some (.array n e))(he:P.underlying e=some .string)(hs:P.cellsOf e=1∧P.cellsOf t=n){w:World}{held:Bool}{fuel:Nat}{cs:List Value}{p:List MemPlace}(l:List (List UInt8))(hl:l.length=n)
    (h:DataW.trod (fun _=>()) P w 0 (fun _=>true) held fuel t cs=some (.agg (l.map fun s=>.lit (.string s)),p)):cs=l.map fun s=>Value.string ⟨s.toArray⟩:=by
  obtain ⟨xs,m,_,hx,hlen,hn,hel⟩:=DataW.trod_array ht h;rw [hs.2] at hlen;have hx1:l.map (fun s=>(DataW.lit (.string s):DataW Unit))=xs.map (·.1):=by
    have:=congrArg Prod.fst hx
    simpa using this
  apply List.ext_getElem?;intro i;by_cases hi:i<n
  · have h1:=hel i hi;rw [hs.1,Nat.mul_one,List.getElem?_eq_getElem (by omega)] at h1;obtain ⟨s,e1,e2,_⟩:=DataW.trod_string he h1;have h2:cs[i]? =some (.string s):=by
      have:=congrArg (fun q=>q[0]?) e1;simp only [List.getElem?_take,List.getElem?_drop] at this
      simpa using this
    have h3:(l.map (fun s=>(DataW.lit (.string s):DataW Unit)))[i]? =some (.lit (.string s.data.toList)):=by
      rw [hx1,List.getElem?_map,List.getElem?_eq_getElem (by omega),e2];rfl
    rw [List.getElem?_map,List.getElem?_eq_getElem (by omega)] at h3;simp only [Option.map_some,Option.some.injEq,DataW.lit.injEq,Lit.string.injEq] at h3;rw [h2,List.getElem?_map,List.getElem?_eq_getElem (by omega),h3];simp
  · rw [List.getElem?_eq_none (by omega),List.getElem?_eq_none (by simp;omega)]
theorem b_nf{c:Bool}(h:(!c)=false):c=true:=by cases c;cases h;rfl
theorem b_nt{c:Bool}(h:(!c)=true):c=false:=by cases c;rfl;cases h
theorem b_fn{c:Bool}(h:c=false):(!c)=true:=by subst h;rfl
theorem b_tn{c:Bool}(h:c=true):(!c)=false:=by subst h;rfl
abbrev e_(t:Nat)(v:Value):Ent:=⟨t,[],.v v⟩
abbrev p_(t k off:Nat):Ent:=⟨t,[],.p k off⟩
abbrev s_(env:List Ent)(bs:List (List EV×TypeId)):S:=⟨env,[],[],bs,none,none⟩
theorem A26(l:List (List Nat))(w:World):∀b∈l.flatten,w.heap[b]? =w.heap[b]? :=fun _ _=>rfl
section
variable {F:Fence} {m:Nat} {P:Program} {w0:World} {own:List Nat} {n:Nat} {σ:S} {ns:List Nat} {a:Act} {w:World} {Q:Exit→Act→World→Prop} {ops:Array Oper} {rest:List Oper} {orc:List (List Value)}
theorem sr_{id:Nat}{l:List Oper}{y:Code}(hF:E9 F)(hI:St w0 own n σ ns a w)(σ2:S)(obs:List Ob)(h:A0s P l n (σ2.env.map Ent.t) σ orc=some (σ2,obs))(hob:Obs P w0 own obs)
    (K:∀ns' a' w',St w0 own n σ2 ns' a' w'→y.wpIn F m P Q a' w'):(Code.seq (Code.region id l.toArray false) y).wpIn F m P Q a w:=
  A45 hF hI σ2 obs h hob (fun ns' a' w' h _=>K ns' a' w' h)
theorem sr0_{id:Nat}{l:List Oper}{y:Code}(hF:E9 F)(hI:St w0 own n σ ns a w)(σ2:S)(h:A0s P l n (σ2.env.map Ent.t) σ []=some (σ2,[]))
    (K:∀ns' a' w',St w0 own n σ2 ns' a' w'→y.wpIn F m P Q a' w'):(Code.seq (Code.region id l.toArray false) y).wpIn F m P Q a w:=
  A45 hF hI σ2 [] h trivial (fun ns' a' w' h _=>K ns' a' w' h)
theorem rg_{id:Nat}{l:List Oper}(hF:E9 F)(hI:St w0 own n σ ns a w)(σ2:S)(obs:List Ob)(h:A0s P l n (σ2.env.map Ent.t) σ orc=some (σ2,obs))(hob:Obs P w0 own obs)
    (K:∀ns' a' w',St w0 own n σ2 ns' a' w'→Q .normal a' w'):(Code.region id l.toArray false).wpIn F m P Q a w:=
  A72 hF hI σ2 obs h hob (fun ns' a' w' h _=>K ns' a' w' h)
theorem rg0_{id:Nat}{l:List Oper}(hF:E9 F)(hI:St w0 own n σ ns a w)(σ2:S)(h:A0s P l n (σ2.env.map Ent.t) σ []=some (σ2,[]))
    (K:∀ns' a' w',St w0 own n σ2 ns' a' w'→Q .normal a' w'):(Code.region id l.toArray false).wpIn F m P Q a w:=
  A72 hF hI σ2 [] h trivial (fun ns' a' w' h _=>K ns' a' w' h)
theorem ck_(hF:E9 F)(k:Nat)(hI:Inv w0 own n σ ns a w)(σ2:S)(obs:List Ob){l:List Oper}(hr:l.drop k=rest)(h:A3f P ops n k (σ2.env.map Ent.t) l σ orc=some (σ2,obs))(hob:Obs P w0 own obs)
    (K:∀ns' a' w',Inv w0 own n σ2 ns' a' w'→wpListIn F m P ops Q rest a' w'):wpListIn F m P ops Q l a w:=A9a hF k hI σ2 obs hr h hob K
theorem ck0_(hF:E9 F)(k:Nat)(hI:Inv w0 own n σ ns a w)(σ2:S){l:List Oper}(hr:l.drop k=rest)(h:A3f P ops n k (σ2.env.map Ent.t) l σ []=some (σ2,[]))
    (K:∀ns' a' w',Inv w0 own n σ2 ns' a' w'→wpListIn F m P ops Q rest a' w'):wpListIn F m P ops Q l a w:=A9a hF k hI σ2 [] hr h trivial K
end
def lk_(l:List Ent)(t:Nat):Option Ent:=l.find? fun x=>Nat.beq x.t t
def nx(σ:S)(live:List Nat)(new:List Ent)(ch:List (Nat×(List EV×TypeId))):S:=
  {σ with env:=live.map fun t=>match lk_ new t with | some x=>x | none=>match lk_ σ.env t with | some x=>x | none=>⟨t,[],.v (.tuple #[])⟩,bs:=ch.foldl (fun bs p=>bif Nat.ble bs.length p.1 then bs++[p.2] else bs.set p.1 p.2) σ.bs}
section
variable {F:Fence} {m:Nat} {P:Program} {w0:World} {own:List Nat} {n:Nat} {σ:S} {ns:List Nat} {a:Act} {w:World} {Q:Exit→Act→World→Prop} {ops:Array Oper} {rest:List Oper} {orc:List (List Value)}
theorem srn_{id:Nat}{l:List Oper}{y:Code}(hF:E9 F)(hI:St w0 own n σ ns a w)(live:List Nat)(new:List Ent)(ch:List (Nat×(List EV×TypeId)))(obs:List Ob)(h:A0s P l n live σ orc=some (nx σ live new ch,obs))(hob:Obs P w0 own obs)
    (K:∀ns' a' w',St w0 own n (nx σ live new ch) ns' a' w'→y.wpIn F m P Q a' w'):(Code.seq (Code.region id l.toArray false) y).wpIn F m P Q a w:=
  A45 hF hI _ obs h hob (fun ns' a' w' h _=>K ns' a' w' h)
theorem srn0_{id:Nat}{l:List Oper}{y:Code}(hF:E9 F)(hI:St w0 own n σ ns a w)(live:List Nat)(new:List Ent)(ch:List (Nat×(List EV×TypeId)))(h:A0s P l n live σ []=some (nx σ live new ch,[]))
    (K:∀ns' a' w',St w0 own n (nx σ live new ch) ns' a' w'→y.wpIn F m P Q a' w'):(Code.seq (Code.region id l.toArray false) y).wpIn F m P Q a w:=
  A45 hF hI _ [] h trivial (fun ns' a' w' h _=>K ns' a' w' h)
theorem rgn_{id:Nat}{l:List Oper}(hF:E9 F)(hI:St w0 own n σ ns a w)(live:List Nat)(new:List Ent)(ch:List (Nat×(List EV×TypeId)))(obs:List Ob)(h:A0s P l n live σ orc=some (nx σ live new ch,obs))(hob:Obs P w0 own obs)
    (K:∀ns' a' w',St w0 own n (nx σ live new ch) ns' a' w'→Q .normal a' w'):(Code.region id l.toArray false).wpIn F m P Q a w:=
  A72 hF hI _ obs h hob (fun ns' a' w' h _=>K ns' a' w' h)
theorem rgn0_{id:Nat}{l:List Oper}(hF:E9 F)(hI:St w0 own n σ ns a w)(live:List Nat)(new:List Ent)(ch:List (Nat×(List EV×TypeId)))(h:A0s P l n live σ []=some (nx σ live new ch,[]))
    (K:∀ns' a' w',St w0 own n (nx σ live new ch) ns' a' w'→Q .normal a' w'):(Code.region id l.toArray false).wpIn F m P Q a w:=
  A72 hF hI _ [] h trivial (fun ns' a' w' h _=>K ns' a' w' h)
theorem ckn_(hF:E9 F)(k:Nat)(hI:Inv w0 own n σ ns a w)(live:List Nat)(new:List Ent)(ch:List (Nat×(List EV×TypeId)))(obs:List Ob){l:List Oper}(hr:l.drop k=rest)(h:A3f P ops n k live l σ orc=some (nx σ live new ch,obs))(hob:Obs P w0 own obs)
    (K:∀ns' a' w',Inv w0 own n (nx σ live new ch) ns' a' w'→wpListIn F m P ops Q rest a' w'):wpListIn F m P ops Q l a w:=A9a hF k hI _ obs hr h hob K
theorem ckn0_(hF:E9 F)(k:Nat)(hI:Inv w0 own n σ ns a w)(live:List Nat)(new:List Ent)(ch:List (Nat×(List EV×TypeId))){l:List Oper}(hr:l.drop k=rest)(h:A3f P ops n k live l σ []=some (nx σ live new ch,[]))
    (K:∀ns' a' w',Inv w0 own n (nx σ live new ch) ns' a' w'→wpListIn F m P ops Q rest a' w'):wpListIn F m P ops Q l a w:=A9a hF k hI _ [] hr h trivial K
end
section
variable {P:Program} {e:TypeId} {S:Nat→Prop} {w:World} {base c:Nat} {A:Option Addr} {l:List Int}
end
section
variable {F:Fence} {m:Nat} {P:Program} {S0:Nat→Prop} {pm:List Nat} {w00 w w0:World} {own:List Nat} {mine l1 l2:List (List Nat)} {n:Nat} {σ:S} {ns:List Nat} {a:Act} {o:Oper} {ops:Array Oper}
  {Q:Exit→Act→World→Prop} {rest:List Oper} {e:TypeId} {base:Nat}
end
section
variable {P:Program} {e:TypeId} {S:Nat→Prop} {w:World} {base c:Nat} {A:Option Addr} {l:List Int} {kk:IntKind}
end
section
variable {F:Fence} {m:Nat} {P:Program} {S0:Nat→Prop} {pm:List Nat} {w00 w w0:World} {own:List Nat} {mine l1 l2:List (List Nat)} {n:Nat} {σ:S} {ns:List Nat} {a:Act} {o:Oper} {ops:Array Oper}
  {Q:Exit→Act→World→Prop} {rest:List Oper} {e:TypeId} {base:Nat} {kk:IntKind}
end
section
variable {F:Fence} {m:Nat} {P:Program} {w w0:World} {own:List Nat} {n:Nat} {σ:S} {ns:List Nat} {a:Act} {o:Oper} {ops:Array Oper} {Q:Exit→Act→World→Prop} {rest:List Oper}
end
section
variable {α:Type}
def kdP(d:Kd α):Kd (α×SV):=⟨d.sz,fun x _=>d.cells x.1 x.2,fun S w x _=>d.cont S w x.1 x.2,fun x _=>d.len x.1 x.2,d.pos,fun h hk=>d.keep h hk⟩
def A6q(pre:List Value)(d:Kd α)(post:List Value):Kd α:=⟨pre.length+d.sz+post.length,fun x sv=>pre++(d.cells x sv++post),d.cont,fun x sv=>by simp [d.len,Nat.add_assoc],by have:=d.pos;omega,fun h hk=>d.keep h hk⟩
structure J1 (k:Lk α) (S:Nat→Prop) (w:World) (A:Option Addr) (c:Nat) (l:List α) (F:List Nat):Prop where
  ex:∃(l':List (α×SV)) (Fs:List (List Nat)),l'.map Prod.fst=l∧Row (kdP k.d) k.e S w 0 A c l'∧Fs.length=l'.length∧F.Perm (rb A++Fs.flatten)∧
    ∀(i:Nat) (x:α×SV) (G:List Nat),l'[i]? =some x→Fs[i]? =some G→k.live S w 0 x.1 x.2 G
structure A1n (k:Lk α) (S:Nat→Prop) (w:World) (A:Option Addr) (c:Nat) (l:List α) (i:Int) (pre post:List Value) (G':List Nat):Prop where
  ex:∃(l':List (α×SV)) (Fs:List (List Nat)),l'.map Prod.fst=l∧Fs.length=l'.length∧inb i l.length=true∧l.length≤c∧c≤maxLen∧pre.length=i.toNat*k.d.sz∧pre.length+k.d.sz+post.length=c*k.d.sz∧G'=(Fs.eraseIdx i.toNat).flatten∧
    ∀(j:Nat) (x:α×SV) (G:List Nat),j≠i.toNat→l'[j]? =some x→Fs[j]? =some G→k.d.cont S w x.1 x.2∧k.live S w 0 x.1 x.2 G∧∀mid:List Value,mid.length=k.d.sz→∀(r:Nat) (u:Value),(k.d.cells x.1 x.2)[r]? =some u→(pre++(mid++post))[j*k.d.sz+r]? =some u
section
variable {k:Lk α} {S S':Nat→Prop} {w w':World} {A:Option Addr} {c b:Nat} {l:List α} {F G G':List Nat} {i:Int} {pre post:List Value}
theorem J1.keep(h:J1 k S w A c l F)(hk:Mv S w S' w')(hb:∀b∈F,w'.heap[b]? =w.heap[b]?):J1 k S' w' A c l F:=by
  obtain ⟨l',Fs,h1,h2,h3,h4,h5⟩:=h;refine ⟨l',Fs,h1,h2.keep hk (fun b hh=>hb b (h4.mem_iff.2 (List.mem_append_left _ hh))),h3,h4,fun i x G hx hG=>k.keep (h5 i x G hx hG) hk (fun b hh=>hb b (h4.mem_iff.2 (List.mem_append_right _ (List.mem_flatten.2 ⟨G,List.mem_of_getElem? hG,hh⟩))))⟩
theorem J1.nd(h:J1 k S w A c l F):∀b∈F,b<w.heap.size∧∀q,w.heap[b]? ≠some (.deferred q):=by
  obtain ⟨l',Fs,h1,h2,h3,h4,h5⟩:=h;intro b hb;rcases List.mem_append.1 (h4.mem_iff.1 hb) with hb | hb
  · exact h2.ndl b hb
  · obtain ⟨G,hG,hb⟩:=List.mem_flatten.1 hb;obtain ⟨i,hi⟩:=List.mem_iff_getElem?.1 hG;have hil:i<l'.length:=h3▸(List.getElem?_eq_some_iff.1 hi).1;exact k.nd (h5 i _ G (List.getElem?_eq_getElem hil) hi) b hb
theorem J1.nil(k:Lk α)(S:Nat→Prop)(w:World):J1 k S w none 0 ([]:List α) []:=⟨[],[],rfl,Row.nil,rfl,.refl _,fun i x G h=>by simp at h⟩
theorem A1n.keep(h:A1n k S w A c l i pre post G')(hk:Mv S w S' w')(hb:∀b∈G',w'.heap[b]? =w.heap[b]?):A1n k S' w' A c l i pre post G':=by
  obtain ⟨l',Fs,h1,h3,h4,h5,h6,h7,h8,h9,h10⟩:=h;refine ⟨l',Fs,h1,h3,h4,h5,h6,h7,h8,h9,fun j x G hj hx hG=>?_⟩;obtain ⟨q1,q2,q3⟩:=h10 j x G hj hx hG;refine ⟨k.d.keep q1 hk,k.keep q2 hk (fun b hh=>hb b ?_),q3⟩;rw [h9];refine List.mem_flatten.2 ⟨G,?_,hh⟩;rw [List.mem_eraseIdx_iff_getElem?];exact ⟨j,hj,hG⟩
theorem A65:∀(Fs:List (List Nat)) (i:Nat) (G:List Nat),Fs[i]? =some G→Fs.flatten.Perm (G++(Fs.eraseIdx i).flatten)
  | [],i,G,h=>by simp at h
  | x::r,0,G,h=>by
    simp only [List.getElem?_cons_zero,Option.some.injEq] at h;subst h;simp
  | x::r,i+1,G,h=>by
    have ih:=A65 r i G (by simpa using h);simp only [List.flatten_cons,List.eraseIdx_cons_succ];refine (ih.append_left x).trans ?_;rw [← List.append_assoc,← List.append_assoc];exact List.perm_append_comm.append_right _
theorem J1.focus[Inhabited α](h:J1 k S w A c l F)(i:Int)(hi:inb i l.length=true):
    ∃ (b:Nat) (pre post:List Value) (sv:SV) (G G':List Nat),A=some ⟨b,0,none⟩∧F.Perm ([[b],G,G']:List (List Nat)).flatten∧(adr A).add (i.toNat*k.d.sz)=⟨b,i.toNat*k.d.sz,none⟩∧pre.length=i.toNat*k.d.sz∧
      Ob1 (A6q pre k.d post) k.e S w b (rd l i) sv∧k.live S w 0 (rd l i) sv G∧A1n k S w A c l i pre post G':=by
  obtain ⟨l',Fs,h1,⟨xs,⟨hlen,h2⟩,hel⟩,h3,h4,h5⟩:=h;obtain ⟨i0,i1⟩:=A0q hi;have hll:l'.length=l.length:=by rw [← h1];simp
  have hil:i.toNat<l'.length:=by omega
  rcases h2 with ⟨hv,h2⟩ | ⟨g,cap,cur,hv,hge,hblk,hnc,hcm,hcs,htk⟩
  · omega
  simp only [Value.slice.injEq] at hv;obtain ⟨rfl,_,rfl⟩:=hv;have hsz:(kdP k.d).sz=k.d.sz:=rfl;rw [hsz] at hlen hcs htk;have hx:l'[i.toNat]? =some l'[i.toNat]:=List.getElem?_eq_getElem hil;obtain ⟨sv0,q1,q2⟩:=hel i.toNat _ hx;have hrd:rd l i=(l'[i.toNat]).1:=by
    unfold rd;rw [← h1,List.getD_eq_getElem?_getD,List.getElem?_map,hx];rfl
  have hmul:i.toNat*k.d.sz+k.d.sz≤l'.length*k.d.sz:=by
    have:=Nat.mul_le_mul_right k.d.sz (show i.toNat+1≤l'.length by omega);rw [Nat.succ_mul] at this;exact this
  have hmul2:l'.length*k.d.sz≤c*k.d.sz:=Nat.mul_le_mul_right _ hnc;have hcl:cur.toList.length=c*k.d.sz:=by simpa using hcs
  have hG:Fs[i.toNat]? =some Fs[i.toNat]:=List.getElem?_eq_getElem (h3▸hil);have hxs:∀(r:Nat) (u:Value),xs[r]? =some u→cur.toList[r]? =some u:=fun r u hu=>by
    rw [← htk,List.getElem?_take] at hu;split at hu
    · exact hu
    · cases hu
  have hpl:(cur.toList.take (i.toNat*k.d.sz)).length=i.toNat*k.d.sz:=by rw [List.length_take,hcl];omega
  have hmid:∀x:α×SV,(k.d.cells x.1 x.2).length=k.d.sz:=fun x=>k.d.len _ _;have hsplit:cur.toList=cur.toList.take (i.toNat*k.d.sz)++(k.d.cells (l'[i.toNat]).1 (l'[i.toNat]).2++cur.toList.drop (i.toNat*k.d.sz+k.d.sz)):=by
    apply List.ext_getElem?;intro r;by_cases hr:r<i.toNat*k.d.sz
    · rw [List.getElem?_append_left (by rw [hpl];exact hr),List.getElem?_take,if_pos hr]
    · rw [List.getElem?_append_right (by rw [hpl];omega),hpl];by_cases hr2:r<i.toNat*k.d.sz+k.d.sz
      · rw [List.getElem?_append_left (by rw [hmid];omega)];have hlt:r - i.toNat*k.d.sz<(k.d.cells (l'[i.toNat]).1 (l'[i.toNat]).2).length:=by rw [hmid];omega
        have:=hxs _ _ (q2 (r - i.toNat*k.d.sz) _ (List.getElem?_eq_getElem hlt));rw [hsz,show i.toNat*k.d.sz+(r - i.toNat*k.d.sz)=r by omega] at this;rw [this];exact (List.getElem?_eq_getElem hlt).symm
      · rw [List.getElem?_append_right (by rw [hmid];omega),hmid,List.getElem?_drop]
        congr 1;omega
  refine ⟨g,cur.toList.take (i.toNat*k.d.sz),cur.toList.drop (i.toNat*k.d.sz+k.d.sz),(l'[i.toNat]).2,Fs[i.toNat],(Fs.eraseIdx i.toNat).flatten,rfl,?_,?_,hpl,⟨?_,?_⟩,?_,⟨l',Fs,h1,h3,hi,by omega,hcm,hpl,?_,rfl,fun j x G hj hx hG=>⟨?_,h5 j x G hx hG,fun mid hm r u hu=>?_⟩⟩⟩
  · refine h4.trans ?_;simp only [rb,List.flatten_cons,List.flatten_nil,List.append_nil];exact (A65 Fs _ _ hG).append_left _
  · exact (V8 g 0 _).trans (by simp)
  · rw [hrd];exact q1
  · rw [hblk];have:(A6q (cur.toList.take (i.toNat*k.d.sz)) k.d (cur.toList.drop (i.toNat*k.d.sz+k.d.sz))).cells (rd l i) (l'[i.toNat]).2=cur.toList:=by rw [hrd];exact hsplit.symm
    rw [this]
  · rw [hrd];exact h5 _ _ _ hx hG
  · rw [hpl,List.length_drop,hcl];omega
  · exact (hel j x hx).choose_spec.1
  · have hjl:j<l'.length:=(List.getElem?_eq_some_iff.1 hx).1;obtain ⟨sv1,_,p2⟩:=hel j x hx;have hu':=hxs _ _ (p2 r u hu);rw [hsz] at hu';have hr:r<k.d.sz:=by rw [← hmid x];exact (List.getElem?_eq_some_iff.1 hu).1
    rcases Nat.lt_or_gt_of_ne hj with hlt | hgt
    · have:j*k.d.sz+k.d.sz≤i.toNat*k.d.sz:=by
        have:=Nat.mul_le_mul_right k.d.sz (show j+1≤i.toNat by omega);rw [Nat.succ_mul] at this;exact this
      rw [List.getElem?_append_left (by rw [hpl];omega),List.getElem?_take,if_pos (by omega)];exact hu'
    · have:i.toNat*k.d.sz+k.d.sz≤j*k.d.sz:=by
        have:=Nat.mul_le_mul_right k.d.sz (show i.toNat+1≤j by omega);rw [Nat.succ_mul] at this;exact this
      rw [List.getElem?_append_right (by rw [hpl];omega),hpl,List.getElem?_append_right (by rw [hm];omega),hm,List.getElem?_drop];rw [show i.toNat*k.d.sz+k.d.sz+(j*k.d.sz+r - i.toNat*k.d.sz - k.d.sz)=j*k.d.sz+r by omega];exact hu'
theorem A1n.back{y:α}{sv:SV}(h:A1n k S w A c l i pre post G')(ho:Ob1 (A6q pre k.d post) k.e S w b y sv)(hA:A=some ⟨b,0,none⟩)(hl:k.live S w 0 y sv G):J1 k S w A c (l.set i.toNat y) ([[b],G,G']:List (List Nat)).flatten:=by
  obtain ⟨l',Fs,h1,h3,hi,h5,h6,h7,h8,h9,h10⟩:=h;subst hA;have hll:l'.length=l.length:=by rw [← h1];simp
  obtain ⟨i0,i1⟩:=A0q hi;have hil:i.toNat<l'.length:=by omega
  have hcl:(A6q pre k.d post).cells y sv=pre++(k.d.cells y sv++post):=rfl;have hdl:=k.d.len y sv;have hmul2:l'.length*k.d.sz≤c*k.d.sz:=Nat.mul_le_mul_right _ (by omega);refine ⟨l'.set i.toNat (y,sv),Fs.set i.toNat G,by rw [List.map_set,h1],⟨(pre++(k.d.cells y sv++post)).take (l'.length*k.d.sz),⟨?_,.inr ⟨b,c,(pre++(k.d.cells y sv++post)).toArray,by rw [List.length_set],Nat.zero_le _,by rw [ho.blk,hcl],by rw [List.length_set];omega,h6,?_,?_⟩⟩,fun j x hx=>?_⟩,by simp [h3],?_,fun j x Gj hx hG=>?_⟩
  · show _=_*k.d.sz;rw [List.length_take,List.length_set];simp only [List.length_append,hdl];omega
  · show _=c*k.d.sz;simp [hdl];omega
  · show List.take ((l'.set i.toNat (y,sv)).length*k.d.sz) _=_;rw [List.length_set]
  · show ∃sv',k.d.cont S w x.1 x.2∧∀(j_1:Nat) (u:Value),(k.d.cells x.1 x.2)[j_1]? =some u→((pre++(k.d.cells y sv++post)).take (l'.length*k.d.sz))[j*k.d.sz+j_1]? =some u;refine ⟨sv,?_,fun r u hu=>?_⟩
    · by_cases hj:j=i.toNat
      · subst hj;rw [List.getElem?_set_self hil] at hx;cases hx;exact ho.cont
      · rw [List.getElem?_set_ne (Ne.symm hj)] at hx;have hjl:j<Fs.length:=h3▸(List.getElem?_eq_some_iff.1 hx).1;exact (h10 j x _ hj hx (List.getElem?_eq_getElem hjl)).1
    · have hr:r<k.d.sz:=by rw [← k.d.len x.1 x.2];exact (List.getElem?_eq_some_iff.1 hu).1
      have hjl:j<l'.length:=by simpa using (List.getElem?_eq_some_iff.1 hx).1
      have hjm:j*k.d.sz+k.d.sz≤l'.length*k.d.sz:=by
        have:=Nat.mul_le_mul_right k.d.sz (show j+1≤l'.length by omega);rw [Nat.succ_mul] at this;exact this
      rw [List.getElem?_take,if_pos (by omega)];by_cases hj:j=i.toNat
      · subst hj;rw [List.getElem?_set_self hil] at hx;cases hx;rw [List.getElem?_append_right (by omega),h7,List.getElem?_append_left (by rw [hdl];omega)];rw [show i.toNat*k.d.sz+r - i.toNat*k.d.sz=r by omega];exact hu
      · rw [List.getElem?_set_ne (Ne.symm hj)] at hx;exact (h10 j x _ hj hx (List.getElem?_eq_getElem (h3▸hjl))).2.2 _ hdl r u hu
  · simp only [rb,List.flatten_cons,List.flatten_nil,List.append_nil,List.singleton_append];refine List.Perm.cons _ ?_;have hG:(Fs.set i.toNat G)[i.toNat]? =some G:=List.getElem?_set_self (h3▸hil);refine List.Perm.symm ((A65 _ _ _ hG).trans ?_);rw [List.eraseIdx_set_eq,h9]
  · by_cases hj:j=i.toNat
    · subst hj;rw [List.getElem?_set_self hil] at hx;rw [List.getElem?_set_self (h3▸hil)] at hG;cases hx;cases hG;exact hl
    · rw [List.getElem?_set_ne (Ne.symm hj)] at hx hG;exact (h10 j x Gj hj hx hG).2.1
theorem Ep.partsP{pm:List Nat}{w00:World}{ns:List Nat}{mine:List (List Nat)}(hE:Ep pm w00 w ns mine)(i:Nat)(Gs:List (List Nat))(hG:(mine.getD i []).Perm Gs.flatten):Ep pm w00 w ns (M2 mine [i]++Gs)∧∀S0,Mv (Lo S0 w00 w ns mine) w (Lo S0 w00 w ns (M2 mine [i]++Gs)) w:=by
  obtain ⟨h1,h2⟩:=hE.group [i] (by simp) (mine.getD i []) (by simp);have hf:(M2 mine [i]++[mine.getD i []]).flatten.Perm (M2 mine [i]++Gs).flatten:=by
    simp only [List.flatten_append,List.flatten_cons,List.flatten_nil,List.append_nil];exact hG.append_left _
  obtain ⟨h3,h4⟩:=h1.perm hf;exact ⟨h3,fun S0 b hb hc=>⟨(h4 S0 b (h2 S0 b hb hc).1 hc).1,rfl⟩⟩
theorem B82{d:Kd α}{x:α}{sv:SV}{off:Nat}{vs:List Value}(hs:((d.cells x sv).drop off).take vs.length=vs):(((A6q pre d post).cells x sv).drop (pre.length+off)).take vs.length=vs:=by
  show ((pre++(d.cells x sv++post)).drop (pre.length+off)).take vs.length=vs;have hl:vs.length≤(d.cells x sv).length - off:=by
    have:=congrArg List.length hs;rw [List.length_take,List.length_drop] at this;omega
  rw [← List.drop_drop,List.drop_left,List.drop_append,List.take_append];rw [hs,List.length_drop,show vs.length - ((d.cells x sv).length - off)=0 by omega];simp
theorem B2q{a b:List Value}{j:Nat}{v:Value}:(a++b).set (a.length+j) v=a++b.set j v:=by
  rw [List.set_append_right _ _ (by omega)];congr 2;omega
theorem B32:∀(vs a b:List Value) (j:Nat),A3k (a++b) (a.length+j) vs=a++A3k b j vs
  | [],a,b,j=>rfl
  | v::r,a,b,j=>by
    simp only [A3k];rw [B2q,show a.length+j+1=a.length+(j+1) by omega,B32 r a (b.set j v) (j+1)]
theorem B0h:∀(vs a b:List Value) (j:Nat),j+vs.length≤a.length→A3k (a++b) j vs=A3k a j vs++b
  | [],a,b,j,h=>rfl
  | v::r,a,b,j,h=>by
    simp only [List.length_cons] at h;simp only [A3k];rw [List.set_append_left _ _ (by omega),B0h r (a.set j v) b (j+1) (by simp;omega)]
theorem at_set{d:Kd α}{x z:α}{sv sv':SV}{off:Nat}{vs:List Value}(hl:Nat.ble (off+vs.length) d.sz=true)(hs:d.cells z sv'=A3k (d.cells x sv) off vs):(A6q pre d post).cells z sv'=A3k ((A6q pre d post).cells x sv) (pre.length+off) vs:=by
  show pre++(d.cells z sv'++post)=A3k (pre++(d.cells x sv++post)) (pre.length+off) vs;rw [B32,B0h _ _ _ _ (by rw [d.len];exact Nat.le_of_ble_eq_true hl),hs]
end
end
section
variable {α:Type} {d:Kd α} {e:TypeId} {S0 X:Nat→Prop} {pm:List Nat} {w00 w w0 w':World} {own ns:List Nat} {mine:List (List Nat)} {b:Nat} {x:α} {sv:SV} {pre post:List Value} {o0:Nat} {ad:Addr}
  {F:Fence} {m:Nat} {P:Program} {n:Nat} {σ:S} {a:Act} {o:Oper} {ops:Array Oper} {Q:Exit→Act→World→Prop} {rest:List Oper}
theorem ob_oF(h:Ob1 (A6q pre d post) e X w b x sv)(hE:Ep pm w00 w own mine)(hm:b∈mine.flatten)(hb:ad=⟨b,o0,none⟩)(hp:pre.length=o0)(g:Bool)(off:Nat)(vs:List Value)(hs:((d.cells x sv).drop off).take vs.length=vs):(Ob.cell g (ad.add off) vs).holds P w own:=by
  have:=A1c (P:=P) h hE hm g (o0+off) vs (by rw [← hp];exact B82 hs)
  rwa [show ad.add off=(⟨b,0,none⟩:Addr).add (o0+off) by rw [hb,V8,V8,Nat.zero_add]]
theorem A46(hF:E9 F)(hE:Ep pm w00 w ns mine)(hI:Inv w ns n σ ns a w)(hw:Region.wanted o (yielded ops a.tmps)=true){t:TypeId}{xo y:Operand}(hop:o.op=.store t xo y)(hd:o.dst=none)
    {off:Nat} {ad':Addr} (hx:I9 σ.env [] xo=some (.v (.pointer (some ad')))) (hb:ad=⟨b,o0,none⟩) (hp:pre.length=o0) (had:ad'=ad.add off) {v:Value} (hy:I9 σ.env [] y=some (.v v)) {vs:List Value} (hvs:v.cells=vs.toArray) (hag:szT P t=some vs.length) (h1:Nat.ble (off+vs.length) d.sz=true)
    (hone:vs.all B0y=true) (hm: [b]∈mine) (h:Ob1 (A6q pre d post) e (Lo S0 w00 w ns mine) w b x sv) (z:α) (sv':SV) (hzc:d.cells z sv'=A3k (d.cells x sv) off vs)
    (hct:d.cont (Lo S0 w00 w ns mine) w x sv→d.cont (Lo S0 w00 w ns mine) w z sv')
    (K:∀a' w',(∃v,a'=a.put o.dst v)→Ep pm w00 w' ns mine→Inv w' ns n σ ns a' w'→(∀S0,Mv (Lo S0 w00 w ns mine) w (Lo S0 w00 w' ns mine) w')→(∀b'∈mine.flatten,b'∉[b]→w'.heap[b']? =w.heap[b']?)→
      Ob1 (A6q pre d post) e (Lo S0 w00 w' ns mine) w' b z sv'→wpListIn F m P ops Q rest a' w'):wpListIn F m P ops Q (o::rest) a w:=by
  refine A4c (d:=A6q pre d post) (e:=e) (off:=o0+off) hF hE hI hw hop hd hx (by rw [had,hb,V8,V8,Nat.zero_add]) hy hvs hag ?_ hone hm h z sv' (by rw [← hp];exact at_set h1 hzc) hct K;have:=Nat.le_of_ble_eq_true h1;refine Nat.ble_eq_true_of_le ?_;show o0+off+vs.length≤pre.length+d.sz+post.length;omega
end
def hd1(S:Nat→Prop)(w:World)(A:Option Addr)(v:Value):Prop:=∃b,A=some ⟨b,0,none⟩∧S b∧w.cell? ⟨b,0,none⟩=some v
section
variable {pm:List Nat} {w00 w w0:World} {own ns:List Nat} {mine:List (List Nat)} {n:Nat} {σ:S} {a:Act}
end
section
variable {S0:Nat→Prop} {F:Fence} {m:Nat} {P:Program} {pm:List Nat} {w00 w:World} {mine:List (List Nat)} {n:Nat} {σ:S} {ns:List Nat} {a:Act} {o:Oper} {ops:Array Oper} {Q:Exit→Act→World→Prop} {rest:List Oper}
end
def A5d(σ:S)(n:Nat)(d:Option Tmp)(e:Option EV):S:=(V0 σ n d [] e).getD σ
theorem A6l{σ:S}{n:Nat}{d:Option Tmp}{e:Option EV}(h:(V0 σ n d [] e).isSome=true):V0 σ n d [] e=some (A5d σ n d e):=by
  unfold A5d;cases hp:V0 σ n d [] e with
  | none=>rw [hp] at h;cases h
  | some x=>rfl
def finD(live:List Nat)(σ:S):S:=(Eng.fin live σ).getD σ
theorem B5v{live:List Nat}{σ:S}(h:(Eng.fin live σ).isSome=true):Eng.fin live σ=some (finD live σ):=by
  unfold finD;cases hp:Eng.fin live σ with
  | none=>rw [hp] at h;cases h
  | some x=>rfl
theorem Inv.finD{w0 w:World}{own:List Nat}{n:Nat}{σ:S}{ns:List Nat}{a:Act}(hI:Inv w0 own n σ ns a w)(live:List Nat)(h:(Eng.fin live σ).isSome=true):Inv w0 own n (Eng.finD live σ) ns a w:=hI.fin (B5v h)
section
variable {F:Fence} {m:Nat} {P:Program} {S0:Nat→Prop} {pm:List Nat} {w00 w:World} {mine l1 l2:List (List Nat)} {n:Nat} {σ:S} {ns:List Nat} {a:Act} {o:Oper} {ops:Array Oper}
  {Q:Exit→Act→World→Prop} {rest:List Oper} {α:Type} {d:Kd α} {e:TypeId} {base:Nat} {w':World}
theorem B1u(hF:E9 F)(hE:Ep pm w00 w ns mine)(hI:Inv w ns n σ ns a w)(hw:Region.wanted o (yielded ops a.tmps)=true){t:TypeId}{len:Nat}{ps:Array (Nat×Operand)}(hop:o.op=.buildSlice t len ps)
    (hall:(A85 σ.env [] o.op.operands&&A2v o.op)=true) {cs:List Value} (hb:bsl P t len (ps.map fun p=>(p.1,A7f σ.env [] p.2))=some (e,cs)) (xs:List α) (svs:List SV) (hlen:len=xs.length) (hl:cs.length=xs.length*d.sz) (hm:xs.length≤maxLen)
    (hc:∀i x,xs[i]? =some x→d.cont (Lo S0 w00 w ns mine) w x (svs.getD i (fun _=>(none,0)))∧(cs.drop (i*d.sz)).take d.sz=d.cells x (svs.getD i (fun _=>(none,0))))
    (hput:∀A,(V0 σ n o.dst [] (some (.v (.slice A xs.length xs.length)))).isSome=true)
    (K:∀A a' w',(∃v,a'=a.put o.dst v)→Ep pm w00 w' ns (mine++[rb A])→Inv w' ns n (A5d σ n o.dst (some (.v (.slice A xs.length xs.length)))) ns a' w'→(∀S0,Mv (Lo S0 w00 w ns mine) w (Lo S0 w00 w' ns (mine++[rb A])) w')→(∀b,b∈mine.flatten→b∉([]:List Nat)→w'.heap[b]? =w.heap[b]?)→
      Row d e (Lo S0 w00 w' ns (mine++[rb A])) w' w00.heap.size A xs.length xs→wpListIn F m P ops Q rest a' w'):wpListIn F m P ops Q (o::rest) a w:=
  A5j hF hE hI hw hop hall hb xs svs hlen hl hm hc (fun A=>A5d σ n o.dst (some (.v (.slice A xs.length xs.length)))) (fun A=>A6l (hput A)) K
theorem B65(hF:E9 F){A:Option Addr}(hE:Ep pm w00 w ns (l1++rb A::l2))(hI:Inv w ns n σ ns a w)(hw:Region.wanted o (yielded ops a.tmps)=true){s x:Operand}{t:TypeId}(hop:o.op=.call {callee:=.builtin .append,args:= #[s,x],argTypes:= #[t,t]})
    {c:Nat} {l:List α} (hs:I9 σ.env [] s=some (.v (.slice A l.length c))) {A2:Option Addr} {c2:Nat} (hx:I9 σ.env [] x=some (.v (.slice A2 1 c2)))
    (hrow:Row d e (Lo S0 w00 w ns (l1++rb A::l2)) w w00.heap.size A c l) {y:α} (hy:Arr d (Lo S0 w00 w ns (l1++rb A::l2)) w A2 [y]) (hone:∀sv,∀u∈d.cells y sv,u.oneCell'=true)
    (ht:P.underlying t=some (.slice e)) {zi:Value×Nat×Nat} (hzi:A7h P e=some zi) (hsz:zi.2.1=d.sz) (hzs:Nat.beq zi.1.cells.size d.sz=true) (hb1:l.length+1≤maxLen) (hb2:(l.length+1)*zi.2.2≤140737488355328)
    (hput:∀A' c',(V0 σ n o.dst [] (some (.v (.slice A' (l++[y]).length c')))).isSome=true)
    (K:∀A' c' a' w',(∃v,a'=a.put o.dst v)→Ep pm w00 w' ns (l1++rb A'::l2)→Inv w' ns n (A5d σ n o.dst (some (.v (.slice A' (l++[y]).length c')))) ns a' w'→(∀S0,Mv (Lo S0 w00 w ns (l1++rb A::l2)) w (Lo S0 w00 w' ns (l1++rb A'::l2)) w')→(∀b,b∈(l1++rb A::l2).flatten→b∉rb A→w'.heap[b]? =w.heap[b]?)→
      Row d e (Lo S0 w00 w' ns (l1++rb A'::l2)) w' w00.heap.size A' c' (l++[y])→wpListIn F m P ops Q rest a' w'):wpListIn F m P ops Q (o::rest) a w:=
  B80 hF hE hI hw hop hs hx hrow hy hone ht hzi hsz hzs hb1 hb2 (fun A' c'=>A5d σ n o.dst (some (.v (.slice A' (l++[y]).length c')))) (fun A' c'=>A6l (hput A' c')) K
theorem B84(hF:E9 F)(hE:Ep pm w00 w ns mine)(hI:Inv w ns n σ ns a w)(hw:Region.wanted o (yielded ops a.tmps)=true){f:FuncId}{es:List EV}{cs args:List Value}(hco:A1e σ [] o=some (f,es,cs))(hv:A23 es cs=some args)
    (hent:∀args w,(callFunc f args).run P w=.ok (.enter f args) w) (val:SV→Value) (Rf:SV→World→Prop)
    (hc:Calls P f args.toArray w fun e w'=>∃sv,e=.returned (val sv)∧Below w.heap.size w w'∧Rf sv w')
    (hput:∀sv,(V0 σ n o.dst [] (some (.v (val sv)))).isSome=true)
    (K:∀sv a' w',(∃v,a'=a.put o.dst v)→Ep pm w00 w' ns mine→Inv w' ns n (A5d σ n o.dst (some (.v (val sv)))) ns a' w'→(∀S0,Mv (Lo S0 w00 w ns mine) w (Lo S0 w00 w' ns mine) w')→(∀b,b∈mine.flatten→b∉([]:List Nat)→w'.heap[b]? =w.heap[b]?)→
      (∀S0,Mv (fun b=>w.heap.size≤b∨Lo S0 w00 w ns mine b) w' (Lo S0 w00 w' ns mine) w')→Rf sv w'→wpListIn F m P ops Q rest a' w'):wpListIn F m P ops Q (o::rest) a w:=
  B1v hF hE hI hw hco hv hent val Rf hc (fun sv=>A5d σ n o.dst (some (.v (val sv)))) (fun sv=>A6l (hput sv)) K
theorem Y1(hF:E9 F){A:Option Addr}(hE:Ep pm w00 w ns (l1++rb A::l2))(hI:Inv w ns n σ ns a w)(hw:Region.wanted o (yielded ops a.tmps)=true){s x:Operand}{t:TypeId}(hop:o.op=.call {callee:=.builtin .append,args:= #[s,x],argTypes:= #[t,t]})
    {c:Nat} {l:List α} (hs:I9 σ.env [] s=some (.v (.slice A l.length c))) {A2:Option Addr} {c2:Nat} {ys:List α} (hx:I9 σ.env [] x=some (.v (.slice A2 ys.length c2)))
    (hrow:Row d e (Lo S0 w00 w ns (l1++rb A::l2)) w base A c l) (hbase:base≤w.heap.size) (hy:Arr d (Lo S0 w00 w ns (l1++rb A::l2)) w A2 ys) (hone:∀y sv,∀u∈d.cells y sv,u.oneCell'=true)
    (ht:P.underlying t=some (.slice e)) {zi:Value×Nat×Nat} (hzi:A7h P e=some zi) (hsz:zi.2.1=d.sz) (hzs:Nat.beq zi.1.cells.size d.sz=true) (hb1:l.length+ys.length≤maxLen) (hb2:(l.length+ys.length)*zi.2.2≤140737488355328)
    (hput:∀A' c',(V0 σ n o.dst [] (some (.v (.slice A' (l++ys).length c')))).isSome=true)
    (K:∀A' c' a' w',(∃v,a'=a.put o.dst v)→Ep pm w00 w' ns (l1++rb A'::l2)→Inv w' ns n (A5d σ n o.dst (some (.v (.slice A' (l++ys).length c')))) ns a' w'→(∀S0,Mv (Lo S0 w00 w ns (l1++rb A::l2)) w (Lo S0 w00 w' ns (l1++rb A'::l2)) w')→(∀b,b∈(l1++rb A::l2).flatten→b∉rb A→w'.heap[b]? =w.heap[b]?)→
      Row d e (Lo S0 w00 w' ns (l1++rb A'::l2)) w' base A' c' (l++ys)→wpListIn F m P ops Q rest a' w'):wpListIn F m P ops Q (o::rest) a w:=
  B2x hF hE hI hw hop hs hx hrow hbase hy hone ht hzi hsz hzs hb1 hb2 (fun A' c'=>A5d σ n o.dst (some (.v (.slice A' (l++ys).length c')))) (fun A' c'=>A6l (hput A' c')) K
theorem V5(hF:E9 F)(hE:Ep pm w00 w ns mine)(hI:Inv w ns n σ ns a w)(hw:Region.wanted o (yielded ops a.tmps)=true){t:TypeId}{x y:Operand}(hop:o.op=.makeSlice t x y)
    {kl kc:IntKind} {k:Int} (hx:I9 σ.env [] x=some (.v (.int kl k))) (hy:I9 σ.env [] y=some (.v (.int kc k))) (ht:P.underlying t=some (.slice e)) {zi:Value×Nat×Nat} (hzi:A7h P e=some zi) (hsz:zi.2.1=d.sz)
    (z:α) (svz:SV) (hzc:zi.1.cells.toList=d.cells z svz) (hct:d.cont (Lo S0 w00 w ns mine) w z svz) (h0:0≤k) (hk:k.toNat*(d.sz+zi.2.2)≤16777216)
    (hput:∀A,(V0 σ n o.dst [] (some (.v (.slice A (List.replicate k.toNat z).length (List.replicate k.toNat z).length)))).isSome=true)
    (K:∀A a' w',(∃v,a'=a.put o.dst v)→Ep pm w00 w' ns (mine++[rb A])→Inv w' ns n (A5d σ n o.dst (some (.v (.slice A (List.replicate k.toNat z).length (List.replicate k.toNat z).length)))) ns a' w'→(∀S0,Mv (Lo S0 w00 w ns mine) w (Lo S0 w00 w' ns (mine++[rb A])) w')→(∀b,b∈mine.flatten→b∉([]:List Nat)→w'.heap[b]? =w.heap[b]?)→
      Row d e (Lo S0 w00 w' ns (mine++[rb A])) w' w00.heap.size A (List.replicate k.toNat z).length (List.replicate k.toNat z)→wpListIn F m P ops Q rest a' w'):wpListIn F m P ops Q (o::rest) a w:=
  B4y hF hE hI hw hop hx hy ht hzi hsz z svz hzc hct h0 hk (fun A=>A5d σ n o.dst (some (.v (.slice A (List.replicate k.toNat z).length (List.replicate k.toNat z).length)))) (fun A=>A6l (hput A)) K
theorem B85(hF:E9 F)(hE:Ep pm w00 w ns mine)(hI:Inv w ns n σ ns a w)(hw:Region.wanted o (yielded ops a.tmps)=true){f:FuncId}{es:List EV}{cs args:List Value}(hco:A1e σ [] o=some (f,es,cs))(hv:A23 es cs=some args)
    (hent:∀args w,(callFunc f args).run P w=.ok (.enter f args) w) {X:Type} (val:X→Value) (ix:List Nat) (Fs:X→List (List Nat)) (Rf:X→World→Prop)
    (hc:Calls P f args.toArray w fun e w'=>∃x,e=.returned (val x)∧H3 (ix.map fun i=>mine.getD i []).flatten w w'∧A9h w w' (ix.map fun i=>mine.getD i []).flatten (Fs x)∧Rf x w') (hnd:σ.lo=none∨∀b∈(ix.map fun i=>mine.getD i []).flatten,∀q,w.heap[b]? ≠some (.deferred q))
    (hput:∀x,(V0 σ n o.dst [] (some (.v (val x)))).isSome=true)
    (K:∀x a' w',(∃v,a'=a.put o.dst v)→Ep pm w00 w' ns (M2 mine ix++Fs x)→Inv w' ns n (A5d σ n o.dst (some (.v (val x)))) ns a' w'→(∀S0,Mv (Lo S0 w00 w ns mine) w (Lo S0 w00 w' ns (M2 mine ix++Fs x)) w')→(∀b∈(M2 mine ix).flatten,w'.heap[b]? =w.heap[b]?)→
      (∀S0,(∀b∈pm,S0 b)→Mv (fun b=>b∉(Fs x).flatten∧(w.heap.size≤b∨Lo S0 w00 w ns mine b∨b∈(ix.map fun i=>mine.getD i []).flatten)) w' (Lo S0 w00 w' ns (M2 mine ix++Fs x)) w')→Rf x w'→wpListIn F m P ops Q rest a' w'):wpListIn F m P ops Q (o::rest) a w:=
  callO_ hF hE hI hw hco hv hent val ix Fs Rf hc hnd (fun x=>A5d σ n o.dst (some (.v (val x)))) (fun x=>A6l (hput x)) K
end
def tmpsK(o:Oper):List Tmp:=o.op.operands.toList.filterMap fun x=>match x with
  | .tmp t=>some t
  | _=>none
def B8d:List Oper→Nat→Nat→Tmp→Option Nat
  | _,_,0,_=>none
  | [],_,_,_=>none
  | o::l,i,k+1,t=>match o.dst with
    | some d=>bif Nat.beq d t then some i else B8d l (i+1) k t
    | none=>B8d l (i+1) k t
def grdK(o:Oper):List Nat:=match o.guard with
  | some (j,_)=>[j]
  | none=>[]
def orcK:Ob→Option (List Value)
  | .cell _ _ vs=>some vs
  | .need _ _=>none
  | .call _ _ _ v=>some [v]
  | .run _ _ v=>some [v]
def spK(l:List Oper)(i:Nat)(o:Oper):En→Sp
  | .q _ _ obs=>.q (grdK o++(tmpsK o).filterMap (B8d l 0 i)) (obs.filterMap orcK)
  | .s _=>.s (grdK o)
  | .t _ e=>.t e
  | .no=>.no
  | .a _ _ _ p=>.a p
def dsK(l:List Oper):Nat→List Oper→List En→List Sp
  | i,o::os,e::es=>spK l i o e::dsK l (i+1) os es
  | _,_,_=>[]
section
variable {F:Fence} {m:Nat} {P:Program} {w0 w1:World} {own own1:List Nat} {n:Nat} {σ:S} {ns:List Nat} {a a':Act} {w w':World} {o:Oper} {Q:Exit→Act→World→Prop}
variable {l:List Oper} {tb:List En} {listed:Array Bool}
def chkS(σ:S)(l:List Oper)(tb:List En)(t:Nat)(o:Oper)(env:List Ent)(ks dn:List Nat):Bool:=
  (σ.env.all fun x=>S9 x.p)&&(wfT σ tb&&(A03 0 l&&(A3r tb [t] 0 l&&(A69 tb t&&(ks.all (O8 o)&&(B47 (A49 l.toArray (σ.wth env) o.guard)&&dn.all (O8 o)))))))
theorem A3c{fuel:Nat}(hJ:DS w0 own n σ ns tb listed a w)(hF:E9 F)(hsz:listed.size=l.length)(hu:unl listed≤fuel)(ds:List Sp)(t:Nat){o:Oper}(ho:l[t]? =some o)(ks:List Nat)(env:List Ent)(hob:Obs P w0 own (A7d tb))(dn:List Nat)
    (K:∀fuel listed a w,DS w0 own n σ ns (A8v tb dn) listed a w→Inv w0 own n (σ.wth env) ns a w→Region.wanted o (yielded l.toArray a.tmps)=true→t<listed.size→¬Lst listed t→listed.size=l.length→unl listed≤fuel+1→
      wpListIn F m P l.toArray (QA (wpAnyIn F m P .any l.toArray Q fuel (listed.setIfInBounds t true)) Q) [o] a w)
    (h:A2u P σ n l.toArray [] l ds=some tb:=by kernel_rfl) (hc:chkS σ l tb t o env ks dn=true:=by kernel_rfl) (he:A7o tb ks=some env:=by kernel_rfl):wpAnyIn F m P .any l.toArray Q fuel listed a w:=by
  simp only [chkS,Bool.and_eq_true] at hc;obtain ⟨c1,c2,c3,c4,c5,c7,c8,c9⟩:=hc;exact stage_ hJ hF hsz hu ds h c1 c2 c3 t ho c4 c5 ks he c7 c8 hob dn c9 _ rfl K
theorem K7{fuel:Nat}(hJ:DS w0 own n σ ns tb listed a w)(hF:E9 F)(hsz:listed.size=l.length)(hu:unl listed≤fuel)(t:Nat){o:Oper}(ho:l[t]? =some o)(ks:List Nat)(env:List Ent)(hob:Obs P w0 own (A7d tb))(dn:List Nat)
    (K:∀fuel listed a w,DS w0 own n σ ns (A8v tb dn) listed a w→Inv w0 own n (σ.wth env) ns a w→Region.wanted o (yielded l.toArray a.tmps)=true→t<listed.size→¬Lst listed t→listed.size=l.length→unl listed≤fuel+1→
      wpListIn F m P l.toArray (QA (wpAnyIn F m P .any l.toArray Q fuel (listed.setIfInBounds t true)) Q) [o] a w)
    (h:A2u P σ n l.toArray [] l (dsK l 0 l tb)=some tb:=by kernel_rfl) (hc:chkS σ l tb t o env ks dn=true:=by kernel_rfl) (he:A7o tb ks=some env:=by kernel_rfl):wpAnyIn F m P .any l.toArray Q fuel listed a w:=
  A3c hJ hF hsz hu (dsK l 0 l tb) t ho ks env hob dn K h hc he
theorem K2{fuel:Nat}(hJ:DS w0 own n σ ns tb listed a w)(hF:E9 F)(hsz:listed.size=l.length)(hu:unl listed≤fuel)(t:Nat){o:Oper}(ho:l[t]? =some o)(ks:List Nat)(env:List Ent)(dn:List Nat)
    (K:∀fuel listed a w,DS w0 own n σ ns (A8v tb dn) listed a w→Inv w0 own n (σ.wth env) ns a w→Region.wanted o (yielded l.toArray a.tmps)=true→t<listed.size→¬Lst listed t→listed.size=l.length→unl listed≤fuel+1→
      wpListIn F m P l.toArray (QA (wpAnyIn F m P .any l.toArray Q fuel (listed.setIfInBounds t true)) Q) [o] a w)
    (h:A2u P σ n l.toArray [] l (dsK l 0 l tb)=some tb:=by kernel_rfl) (hn:S9 (A7d tb)=true:=by kernel_rfl) (hc:chkS σ l tb t o env ks dn=true:=by kernel_rfl) (he:A7o tb ks=some env:=by kernel_rfl):wpAnyIn F m P .any l.toArray Q fuel listed a w:=
  A3c hJ hF hsz hu (dsK l 0 l tb) t ho ks env (by rw [B3e hn];trivial) dn K h hc he
theorem A7k.none(h:noA tb=true):A7k tb w:=by
  induction tb with
  | nil=>trivial
  | cons x r ih=>
    simp only [noA,List.all_cons,Bool.and_eq_true] at h;have:=ih h.2;cases x<;>first | exact this | cases h.1
def chkN(σ2:S)(n:Nat)(tb:List En)(t:Nat)(o:Oper)(live:List Nat)(news:List (Nat×En)):Bool:=
  A69 tb t&&((tb.all fun x=>neqD x.dst o.dst)&&((Eng.fin live σ2).isSome&&(news.all (fun x=>notT x.2)&&((match o.dst with | some d=>Nat.blt d n | none=>true)&&noA tb))))
def eK(o:Oper)(σ2:S):Option EV:=match o.dst with
  | some d=>I9 σ2.env [] (.tmp d)
  | none=>none
theorem E2{fuel t:Nat}(hJ:DS w0 own n σ ns tb listed a w)(h1:t<listed.size)(hnl:¬Lst listed t)(hsz:listed.size=l.length)(hu:unl listed≤fuel+1)
    (hput:∃v,a'=a.put o.dst v) {σ2:S} (hI':Inv w1 own1 n σ2 ns a' w') (live:List Nat) (news:List (Nat×En))
    (K:DS w1 own1 n (Eng.finD live σ2) ns (A8y (tb.set t (.t o.dst (eK o σ2))) news) (listed.setIfInBounds t true) a' w'→(listed.setIfInBounds t true).size=l.length→unl (listed.setIfInBounds t true)≤fuel→wpAnyIn F m P .any l.toArray Q fuel (listed.setIfInBounds t true) a' w')
    (hc:chkN σ2 n tb t o live news=true:=by kernel_rfl):
    wpListIn F m P l.toArray (QA (wpAnyIn F m P .any l.toArray Q fuel (listed.setIfInBounds t true)) Q) [] a' w':=by
  simp only [chkN,Bool.and_eq_true] at hc;obtain ⟨c1,c2,c3,c4,c5,c6⟩:=hc;refine next_ hJ h1 hnl hsz hu c1 c2 hput hI' _ (B5v c3) (eK o σ2) ?_ news _ c4 rfl c5 (A7k.none c6) (AL.none c6) K;unfold eK;cases o.dst with
  | none=>rfl
  | some d=>
    cases h:I9 σ2.env [] (.tmp d) with
    | none=>simp only [h]
    | some e=>simp only [h]
def chkE(σ:S)(l:List Oper)(tb:List En):Bool:=
  (σ.env.all fun x=>S9 x.p)&&(wfT σ tb&&(A03 0 l&&(A3r tb [] 0 l&&B77 tb)))
theorem B25{fuel:Nat}(hJ:DS w0 own n σ ns tb listed a w)(hF:E9 F)(hsz:listed.size=l.length)(hu:unl listed≤fuel)(ds:List Sp)(live:List Nat)(σ2:S)(hob:Obs P w0 own (A7d tb))
    (K:∀a w,St w0 own n σ2 ns a w→Q .normal a w) (h:A2u P σ n l.toArray [] l ds=some tb:=by kernel_rfl) (hc:chkE σ l tb=true:=by kernel_rfl) (hs:Eng.fin live (σ.wth (tb.filterMap En.ent))=some σ2:=by kernel_rfl):wpAnyIn F m P .any l.toArray Q fuel listed a w:=by
  simp only [chkE,Bool.and_eq_true] at hc;obtain ⟨c1,c2,c3,c4,c5⟩:=hc;exact end_ hJ hF hsz hu ds h c1 c2 c3 c4 c5 _ hs hob K
theorem B5r{fuel:Nat}(hJ:DS w0 own n σ ns tb listed a w)(hF:E9 F)(hsz:listed.size=l.length)(hu:unl listed≤fuel)(live:List Nat)(σ2:S)(hob:Obs P w0 own (A7d tb))
    (K:∀a w,St w0 own n σ2 ns a w→Q .normal a w) (h:A2u P σ n l.toArray [] l (dsK l 0 l tb)=some tb:=by kernel_rfl) (hc:chkE σ l tb=true:=by kernel_rfl) (hs:Eng.fin live (σ.wth (tb.filterMap En.ent))=some σ2:=by kernel_rfl):wpAnyIn F m P .any l.toArray Q fuel listed a w:=
  B25 hJ hF hsz hu _ live σ2 hob K h hc hs
theorem V4{fuel:Nat}(hJ:DS w0 own n σ ns tb listed a w)(hF:E9 F)(hsz:listed.size=l.length)(hu:unl listed≤fuel)(live:List Nat)(σ2:S)
    (K:∀a w,St w0 own n σ2 ns a w→Q .normal a w) (h:A2u P σ n l.toArray [] l (dsK l 0 l tb)=some tb:=by kernel_rfl) (hn:S9 (A7d tb)=true:=by kernel_rfl) (hc:chkE σ l tb=true:=by kernel_rfl) (hs:Eng.fin live (σ.wth (tb.filterMap En.ent))=some σ2:=by kernel_rfl):wpAnyIn F m P .any l.toArray Q fuel listed a w:=
  B25 hJ hF hsz hu _ live σ2 (by rw [B3e hn];trivial) K h hc hs
theorem DS.moreA(hJ:DS w0 own n σ ns tb listed a w)(news:List (Nat×En))(hn:news.all (fun x=>notT x.2)=true:=by kernel_rfl):DS w0 own n σ ns (A8y tb news) listed a w:=hJ.more news _ hn rfl
end
section
variable {X X':(Nat→Prop)→Nat→Prop} {S0:Nat→Prop} {w w':World} {l:List (List Nat)}
theorem kk{α:Type}{d:Kd α}{x:α}{sv:SV}(m:∀S0,Mv (X S0) w (X' S0) w')(h:d.cont (X S0) w x sv):d.cont (X' S0) w' x sv:=Kd.keep _ h (m _)
theorem kb{α:Type}{d:Kd α}{e:TypeId}{b:Nat}{x:α}{sv:SV}(m:∀S0,Mv (X S0) w (X' S0) w')(r:∀b∈l.flatten,w'.heap[b]? =w.heap[b]?)(h:Ob1 d e (X S0) w b x sv)(z:b∈l.flatten:=by simp):Ob1 d e (X' S0) w' b x sv:=
  Ob1.keep h (m _) (r _ z)
end
theorem B8h(A:Option Addr)(c lo sz:Nat):rb (A1j A c lo sz)=rb A:=by
  unfold A1j;split
  · rfl
  · cases A with
    | none=>rfl
    | some a=>simp [rb,Option.map_some,S3]
structure A0o {α:Type} (d:Kd α) (e:TypeId) (S:Nat→Prop) (w:World) (base:Nat) (A:Option Addr) (c:Nat) (l:List α):Prop where
  ex:(A=none∧c=0∧l=[])∨∃g k cap cur,A=some ⟨g,k*d.sz,none⟩∧base≤g∧w.heap[g]? =some (.cells cur e (0,0))∧k+c≤cap∧l.length≤c∧cap≤maxLen∧cur.size=cap*d.sz
  el:∀(i:Nat) (x:α),l[i]? =some x→∃sv,d.cont S w x sv∧∀(j:Nat) (v:Value),(d.cells x sv)[j]? =some v→w.cell? ((adr A).add (i*d.sz+j))=some v
section
variable {α:Type} {d:Kd α} {e:TypeId} {S S':Nat→Prop} {w w':World} {base:Nat} {A:Option Addr} {c:Nat} {l:List α}
theorem A0o.nil:A0o d e S w base none 0 ([]:List α):=⟨.inl ⟨rfl,rfl,rfl⟩,fun i x h=>by simp at h⟩
theorem A0o.len(h:A0o d e S w base A c l):l.length≤c:=by
  rcases h.ex with ⟨_,_,rfl⟩ | ⟨g,k,cap,cur,_,_,_,_,h5,_⟩
  · exact Nat.zero_le _
  · exact h5
theorem A0o.adrb(h:A0o d e S w base A c l){i:Nat}{x:α}(hx:l[i]? =some x):rb A=[(adr A).block]:=by
  rcases h.ex with ⟨_,_,rfl⟩ | ⟨g,k,cap,cur,rfl,_⟩
  · simp at hx
  · rfl
theorem A0o.keep(h:A0o d e S w base A c l)(hk:Mv S w S' w')(hb:∀b∈rb A,w'.heap[b]? =w.heap[b]?):A0o d e S' w' base A c l:=by
  refine ⟨?_,fun i x hx=>let ⟨sv,q1,q2⟩:=h.el i x hx;⟨sv,d.keep q1 hk,fun j v hj=>?_⟩⟩
  · rcases h.ex with h1 | ⟨g,k,cap,cur,rfl,h2,h3,h4⟩
    · exact .inl h1
    · exact .inr ⟨g,k,cap,cur,rfl,h2,by rw [hb g (by simp [rb])];exact h3,h4⟩
  · rw [World.cell?_of_block (w:=w) (by rw [S3];exact hb _ (by rw [h.adrb hx];simp))];exact q2 j v hj
theorem A0o.ndl(h:A0o d e S w base A c l):∀b∈rb A,b<w.heap.size∧∀q,w.heap[b]? ≠some (.deferred q):=by
  intro b hb;rcases h.ex with ⟨rfl,_⟩ | ⟨g,k,cap,cur,rfl,h2,h3,_⟩
  · simp [rb] at hb
  · simp [rb] at hb;subst hb;exact ⟨(Array.getElem?_eq_some_iff.1 h3).1,fun q hq=>by rw [h3] at hq;cases hq⟩
theorem A0o.ge(h:A0o d e S w base A c l):∀b∈rb A,base≤b:=by
  intro b hb;rcases h.ex with ⟨rfl,_⟩ | ⟨g,k,cap,cur,rfl,h2,h3,_⟩
  · simp [rb] at hb
  · simp [rb] at hb;subst hb;exact h2
theorem A0o.arr(h:A0o d e S w base A c l)(hS:∀b,S b→S' b)(hA:∀b∈rb A,S' b):Arr d S' w A l∧l.length≤c:=by
  refine ⟨⟨fun hl=>?_,fun i x hi=>let ⟨sv,q1,q2⟩:=h.el i x hi;⟨sv,d.keep q1 fun b hb _=>⟨hS b hb,rfl⟩,q2⟩⟩,h.len⟩;rcases h.ex with ⟨_,_,rfl⟩ | ⟨g,k,cap,cur,rfl,h2,h3,_⟩
  · simp at hl
  · exact ⟨rfl,hA _ (by simp [rb,adr])⟩
theorem A0o.cut(h:A0o d e S w base A c l)(lo:Nat)(hlo:lo≤l.length):A0o d e S w base (A1j A c lo d.sz) (c - lo) (l.drop lo):=by
  have hlc:=h.len;refine ⟨?_,fun i x hx=>?_⟩
  · rcases h.ex with ⟨rfl,rfl,rfl⟩ | ⟨g,k,cap,cur,rfl,h2,h3,h4,h5,h6,h7⟩
    · exact .inl ⟨by unfold A1j;split<;>rfl,by simp,by simp⟩
    · unfold A1j;split
      · rename_i hc;exact .inr ⟨g,k,cap,cur,rfl,h2,h3,by omega,by rw [List.length_drop];omega,h6,h7⟩
      · exact .inr ⟨g,k+lo,cap,cur,by simp only [Option.map_some];rw [V8,Nat.add_mul],h2,h3,by omega,by rw [List.length_drop];omega,h6,h7⟩
  · rw [List.getElem?_drop] at hx;obtain ⟨sv,q1,q2⟩:=h.el (lo+i) x hx;have hlt:=(List.getElem?_eq_some_iff.1 hx).1;refine ⟨sv,q1,fun j v hj=>?_⟩;have:=q2 j v hj;rcases h.ex with ⟨_,_,rfl⟩ | ⟨g,k,cap,cur,rfl,h2,h3,h4,h5,h6,h7⟩
    · simp at hx
    · unfold A1j;rw [if_neg (by omega)];simp only [Option.map_some,adr,Option.getD_some] at this ⊢;rw [A29];have e:lo*d.sz+(i*d.sz+j)=(lo+i)*d.sz+j:=by rw [Nat.add_mul];omega
      rw [e];exact this
end
theorem A6s{P:Program}{w:World}{t ty e:TypeId}{i:TypeInfo}(ht:P.underlying t=some (.slice e))(hi:P.info? e=some i)
    (g off sLen sCap:Nat) (cur:Array Value) (hg:w.heap[g]? =some (.cells cur e (0,0)))
    (a:Addr) (m c:Nat) (news:List Value) (hl:news.length=m*i.size) (hnews:∀j u,news[j]? =some u→w.cell? (a.add j)=some u) (h1:∀u∈news,u.oneCell'=true)
    (hroom:sLen+m≤sCap) (hfit:off+sLen*i.size+news.length≤cur.size):
    (Builtin.append_ #[t,t] ty #[.slice (some ⟨g,off,none⟩) sLen sCap,.slice (some a) m c]).run P w=
      .ok (.slice (some ⟨g,off,none⟩) (sLen+m) sCap) (w.setRow g (cur.toList.take (off+sLen*i.size)++news++cur.toList.drop (off+sLen*i.size+news.length)).toArray):=by
  have hf:=run_firstCells_some (P:=P) w i.size m a m c news hl hnews;have hst:=run_storeCells_at P g (off+sLen*i.size) e news 0 cur w hg (by simpa using hfit) h1;simp only [Nat.add_zero] at hst;simp [Builtin.append_,run_underlying ht,sizeOf,typeInfo,hi,Builtin.lenOf,hroom,hf,Addr.add_lit,hst]
section
variable {α:Type} {P:Program} {d:Kd α} {e:TypeId} {S:Nat→Prop} {w:World} {base:Nat} {A:Option Addr} {c:Nat} {l:List α}
theorem A0o.of(h:Row d e S w base A c l):A0o d e S w base A c l:=by
  have ha:=(h.arr (S':=fun _=>True) (fun _ _=>trivial) (fun _ _=>trivial));obtain ⟨xs,⟨h1,h2⟩,h3⟩:=h;refine ⟨?_,fun i x hx=>?_⟩
  · rcases h2 with ⟨hv,h4⟩ | ⟨g,cap,cur,hv,q1,q2,q3,q4,q5,q6⟩
    · simp only [Value.slice.injEq] at hv;exact .inl ⟨hv.1,hv.2.2,List.eq_nil_of_length_eq_zero hv.2.1⟩
    · simp only [Value.slice.injEq] at hv;obtain ⟨rfl,_,rfl⟩:=hv;exact .inr ⟨g,0,c,cur,by simp,q1,q2,by omega,q3,q4,q5⟩
  · obtain ⟨sv,q1,q2⟩:=h3 i x hx;refine ⟨sv,q1,fun j v hj=>?_⟩;rcases h2 with ⟨hv,h4⟩ | ⟨g,cap,cur,hv,p1,p2,p3,p4,p5,p6⟩
    · rw [List.eq_nil_of_length_eq_zero h4] at hx;simp at hx
    · have:=q2 j v hj;have hc:w.cell? ((⟨g,0,none⟩:Addr).add (i*d.sz+j))=some v:=World.ownsRow.cells (v:=.slice A l.length c) ⟨h1,.inr ⟨g,cap,cur,hv,p1,p2,p3,p4,p5,p6⟩⟩ (by rw [hv];rfl) _ _ this;simp only [Value.slice.injEq] at hv;rw [hv.1];exact hc
theorem A0o.append1{t ty:TypeId}{i:TypeInfo}{z:Value}(ht:P.underlying t=some (.slice e))(hi:P.info? e=some i)(hz:i.zero=some z)(hs:i.size=d.sz)(hzs:z.cells.size=d.sz)
    (h:A0o d e S w base A c l) (hbase:base≤w.heap.size) {ad:Addr} {c2:Nat} {x:α} {sv:SV} (hx:d.cont S w x sv) (hcx:∀(j:Nat) (v:Value),(d.cells x sv)[j]? =some v→w.cell? (ad.add j)=some v)
    (h1:∀u∈d.cells x sv,u.oneCell'=true) (hb1:l.length+1≤maxLen) (hb2:(l.length+1)*i.bytes≤140737488355328):
    ∃ A' c' w1,(Builtin.append_ #[t,t] ty #[.slice A l.length c,.slice (some ad) 1 c2]).run P w=.ok (.slice A' (l++[x]).length c') w1∧H3 (rb A) w w1∧
      (rb A'=rb A∨(rb A'=[w.heap.size]∧w.heap.size<w1.heap.size))∧∀S',Mv S w S' w1→A0o d e S' w1 base A' c' (l++[x]):=by
  have hsz:=d.pos;have hcl:(d.cells x sv).length=1*d.sz:=by rw [d.len];simp
  have nilcase:∀A0,A0=none→c=0→l=[]→A=A0→∃A' c' w1,(Builtin.append_ #[t,t] ty #[.slice A l.length c,.slice (some ad) 1 c2]).run P w=.ok (.slice A' (l++[x]).length c') w1∧H3 (rb A) w w1∧
      (rb A'=rb A∨(rb A'=[w.heap.size]∧w.heap.size<w1.heap.size))∧∀S',Mv S w S' w1→A0o d e S' w1 base A' c' (l++[x]):=by
    intro A0 hA0 hc hl hA;subst hA0;subst hc;subst hl;subst hA;obtain ⟨A',c',w1,r1,r2,r3,r4⟩:=A8t (P:=P) (ty:=ty) (A:=none) (c:=0) (l:=([]:List α)) ht hi hz hs hzs (Row.nil (d:=d) (e:=e) (S:=S) (w:=w) (base:=base)) hbase (S2:=fun _=>True) (c2:=c2) hx hcx h1 hb1 hb2;exact ⟨A',c',w1,r1,r2,r3,fun S' hk=>A0o.of (r4 S' hk)⟩
  rcases h.ex with ⟨hA,hc,hl⟩ | ⟨g,k,cap,cur,hA,hbg,hg,hkc,hlc,hcm,hcs⟩
  · exact nilcase none rfl hc hl hA
  · subst hA;have hcl2:cur.toList.length=cap*d.sz:=by rw [Array.length_toList,hcs]
    have hoc:∀(q:Nat) (y:α),l[q]? =some y→∃sv,d.cont S w y sv∧∀(j:Nat) (v:Value),(d.cells y sv)[j]? =some v→cur[k*d.sz+(q*d.sz+j)]? =some v:=by
      intro q y hy;obtain ⟨sv',p1,p2⟩:=h.el q y hy;refine ⟨sv',p1,fun j v hj=>?_⟩;have:=p2 j v hj;simp only [adr,Option.getD_some] at this;rw [V8] at this
      simpa [World.cell?,hg] using this
    by_cases hroom:l.length+1≤c
    · have hmul:(k+(l.length+1))*d.sz≤cap*d.sz:=Nat.mul_le_mul_right _ (by omega);have e1:(k+(l.length+1))*d.sz=k*d.sz+l.length*d.sz+d.sz:=by rw [Nat.add_mul,Nat.succ_mul];omega
      have hr:=A6s (P:=P) (w:=w) (t:=t) (ty:=ty) ht hi g (k*d.sz) l.length c cur hg ad 1 c2 (d.cells x sv) (by rw [hcl,hs]) hcx h1 hroom (by rw [hs,hcl,hcs];omega);rw [hs] at hr;have hlen:(l++[x]).length=l.length+1:=by simp
      generalize hnc:(cur.toList.take (k*d.sz+l.length*d.sz)++d.cells x sv++cur.toList.drop (k*d.sz+l.length*d.sz+(d.cells x sv).length)).toArray=nc at hr;have hkeep:H3 [g] w (w.setRow g nc):=⟨rfl,rfl,rfl,by simp,fun b _ hb=>setRow_other w g b _ (fun e=>hb (by simp [e]))⟩;have hgn:=setRow_heap w g cur nc e _ hg;have hpl:(cur.toList.take (k*d.sz+l.length*d.sz)).length=k*d.sz+l.length*d.sz:=by rw [List.length_take,hcl2];omega
      have hcell:∀q u,nc[q]? =some u→(w.setRow g nc).cell? ⟨g,q,none⟩=some u:=fun q u hq=>by simp [World.cell?,hgn,hq]
      refine ⟨some ⟨g,k*d.sz,none⟩,c,_,by rw [hlen];exact hr,hkeep,.inl rfl,fun S' hk=>⟨.inr ⟨g,k,cap,nc,rfl,hbg,hgn,hkc,by rw [hlen];exact hroom,hcm,?_⟩,fun q y hy=>?_⟩⟩
      · rw [← hnc];simp only [List.size_toArray,List.length_append,List.length_drop,hpl,hcl,Array.length_toList,hcs];omega
      · rcases Nat.lt_or_ge q l.length with hlt | hge
        · rw [List.getElem?_append_left hlt] at hy;obtain ⟨sv',p1,p2⟩:=hoc q y hy;refine ⟨sv',d.keep p1 hk,fun j v hj=>?_⟩;simp only [adr,Option.getD_some];rw [V8];refine hcell _ _ ?_;have hjl:j<d.sz:=by have:=(List.getElem?_eq_some_iff.1 hj).1;rwa [d.len] at this
          have:q*d.sz+d.sz≤l.length*d.sz:=by have:=Nat.mul_le_mul_right d.sz (show q+1≤l.length by omega);rw [Nat.succ_mul] at this;exact this
          rw [← hnc,List.getElem?_toArray,List.append_assoc,List.getElem?_append_left (by rw [hpl];omega),List.getElem?_take,if_pos (by omega),Array.getElem?_toList];exact p2 j v hj
        · have hk0:q=l.length:=by have:=(List.getElem?_eq_some_iff.1 hy).1;simp at this;omega
          subst hk0;rw [List.getElem?_append_right (Nat.le_refl _)] at hy;simp only [Nat.sub_self,List.getElem?_cons_zero,Option.some.injEq] at hy;subst hy;refine ⟨sv,d.keep hx hk,fun j v hj=>?_⟩;simp only [adr,Option.getD_some];rw [V8];refine hcell _ _ ?_;have hjl:j<(d.cells x sv).length:=(List.getElem?_eq_some_iff.1 hj).1;rw [← hnc,List.getElem?_toArray,List.append_assoc,List.getElem?_append_right (by rw [hpl];omega),hpl,List.getElem?_append_left (by omega)];rw [show k*d.sz+(l.length*d.sz+j) - (k*d.sz+l.length*d.sz)=j by omega];exact hj
    · have hlc':c<l.length+1:=by omega
      have holds:∀(j:Nat) (u:Value),((cur.toList.drop (k*d.sz)).take (l.length*d.sz))[j]? =some u→w.cell? ((⟨g,k*d.sz,none⟩:Addr).add j)=some u:=by
        intro j u hj;rw [List.getElem?_take] at hj;split at hj
        · rw [List.getElem?_drop,Array.getElem?_toList] at hj;rw [V8]
          simpa [World.cell?,hg] using hj
        · cases hj
      have hmul:(k+l.length)*d.sz≤cap*d.sz:=Nat.mul_le_mul_right _ (by omega);rw [Nat.add_mul] at hmul;have hol:((cur.toList.drop (k*d.sz)).take (l.length*d.sz)).length=l.length*d.sz:=by rw [List.length_take,List.length_drop,hcl2];omega
      have hsmall:l.length+1≤9223372036854775807:=by simp only [maxLen] at hb1;omega
      have hr2:=run_append_grow (P:=P) w t ty e i z ht hi hz ⟨g,k*d.sz,none⟩ l.length c _ (by rw [hol,hs]) holds ad 1 c2 (d.cells x sv) (by rw [hcl,hs]) hcx hlc' (by omega) (growslice_fits hlc' hb2);obtain ⟨v',w1,hr,ho,hgb⟩:=run_append_arg_grows (P:=P) w t ty e i z d.sz i.bytes ht hi hz hs rfl hzs hsz ⟨g,k*d.sz,none⟩ l.length c _ hol holds ad 1 c2 (d.cells x sv) hcl hcx hlc' hb1 hb2;obtain ⟨A',c',rfl⟩:∃A' c',v'=.slice A' (l.length+1) c':=by
        rcases ho.2 with ⟨_,hh⟩ | ⟨g',cap',cur',rfl,_⟩
        · omega
        · exact ⟨_,_,rfl⟩
      have hlen:(l++[x]).length=l.length+1:=by simp
      have hrow:∀S',Mv S w S' w1→Row d e S' w1 base A' c' (l++[x]):=fun S' hk=>by
        have hbb:w1.ownsRow base e d.sz (.slice A' (l.length+1) c') (l.length+1) ((cur.toList.drop (k*d.sz)).take (l.length*d.sz)++d.cells x sv):=by
          refine ⟨ho.1,?_⟩;rcases ho.2 with ⟨_,hh⟩ | ⟨g',cap',cur',q1,q2,q3⟩
          · omega
          · exact .inr ⟨g',cap',cur',q1,Nat.le_trans hbase q2,q3⟩
        refine ⟨_,by rw [hlen];exact hbb,fun q y hy=>?_⟩
        · rcases Nat.lt_or_ge q l.length with hlt | hge
          · rw [List.getElem?_append_left hlt] at hy;obtain ⟨sv',p1,p2⟩:=hoc q y hy;refine ⟨sv',d.keep p1 hk,fun j v hj=>?_⟩;have hjl:j<d.sz:=by have:=(List.getElem?_eq_some_iff.1 hj).1;rwa [d.len] at this
            have hq:q*d.sz+d.sz≤l.length*d.sz:=by have:=Nat.mul_le_mul_right d.sz (show q+1≤l.length by omega);rw [Nat.succ_mul] at this;exact this
            rw [List.getElem?_append_left (by rw [hol];omega),List.getElem?_take,if_pos (by omega),List.getElem?_drop,Array.getElem?_toList];exact p2 j v hj
          · have hk0:q=l.length:=by have:=(List.getElem?_eq_some_iff.1 hy).1;simp at this;omega
            subst hk0;rw [List.getElem?_append_right (Nat.le_refl _)] at hy;simp only [Nat.sub_self,List.getElem?_cons_zero,Option.some.injEq] at hy;subst hy;refine ⟨sv,d.keep hx hk,fun j v hj=>?_⟩;rw [List.getElem?_append_right (by rw [hol];omega),hol,Nat.add_sub_cancel_left];exact hj
      have hrbA:rb A'=[w.heap.size]∧w.heap.size<w1.heap.size:=by
        rw [hr] at hr2;simp only [Result.ok.injEq,Value.slice.injEq] at hr2;obtain ⟨⟨rfl,_,_⟩,rfl⟩:=hr2;exact ⟨rfl,by simp⟩
      refine ⟨A',c',w1,by rw [hlen];exact hr,?_,.inr hrbA,fun S' hk=>A0o.of (hrow S' hk)⟩;have hk0:=H3.of_grownBy hgb;exact ⟨hk0.os,hk0.tape,hk0.output,hk0.size,fun b hb hh=>hk0.block b hb (by simp)⟩
end
section
variable {F:Fence} {m:Nat} {P:Program} {S0:Nat→Prop} {pm:List Nat} {w00 w w0:World} {mine l1 l2:List (List Nat)} {n:Nat} {σ:S} {ns own:List Nat} {a:Act} {o:Oper} {ops:Array Oper}
  {Q:Exit→Act→World→Prop} {rest:List Oper} {α:Type} {d:Kd α} {e:TypeId}
theorem B67(hF:E9 F){A:Option Addr}(hE:Ep pm w00 w ns (l1++rb A::l2))(hI:Inv w ns n σ ns a w)(hw:Region.wanted o (yielded ops a.tmps)=true){s x:Operand}{t:TypeId}(hop:o.op=.call {callee:=.builtin .append,args:= #[s,x],argTypes:= #[t,t]})
    {c:Nat} {l:List α} (hs:I9 σ.env [] s=some (.v (.slice A l.length c))) {A2:Option Addr} {c2:Nat} (hx:I9 σ.env [] x=some (.v (.slice A2 1 c2)))
    (hrow:A0o d e (Lo S0 w00 w ns (l1++rb A::l2)) w w00.heap.size A c l) {y:α} (hy:Arr d (Lo S0 w00 w ns (l1++rb A::l2)) w A2 [y]) (hone:∀sv,∀u∈d.cells y sv,u.oneCell'=true)
    (ht:P.underlying t=some (.slice e)) {zi:Value×Nat×Nat} (hzi:A7h P e=some zi) (hsz:zi.2.1=d.sz) (hzs:Nat.beq zi.1.cells.size d.sz=true) (hb1:l.length+1≤maxLen) (hb2:(l.length+1)*zi.2.2≤140737488355328)
    (σ2:Option Addr→Nat→S) (hput:∀A' c',V0 σ n o.dst [] (some (.v (.slice A' (l++[y]).length c')))=some (σ2 A' c'))
    (K:∀A' c' a' w',(∃v,a'=a.put o.dst v)→Ep pm w00 w' ns (l1++rb A'::l2)→Inv w' ns n (σ2 A' c') ns a' w'→(∀S0,Mv (Lo S0 w00 w ns (l1++rb A::l2)) w (Lo S0 w00 w' ns (l1++rb A'::l2)) w')→(∀b,b∈(l1++rb A::l2).flatten→b∉rb A→w'.heap[b]? =w.heap[b]?)→
      A0o d e (Lo S0 w00 w' ns (l1++rb A'::l2)) w' w00.heap.size A' c' (l++[y])→wpListIn F m P ops Q rest a' w'):wpListIn F m P ops Q (o::rest) a w:=by
  obtain ⟨i,hi,hz,hsz',hbb⟩:=A28 hzi;rw [← hbb] at hb2;obtain ⟨hA2,_⟩:=hy.1 (by simp);obtain ⟨sv,hc,hcell⟩:=hy.2 0 y rfl;rw [hA2] at hx;obtain ⟨A',c',w1,hrun,hg,hA',hR⟩:=A0o.append1 (P:=P) (ty:=o.type) ht hi hz (hsz'.trans hsz) (Nat.eq_of_beq_eq_true hzs) hrow hE.k.size (ad:=adr A2) (c2:=c2) hc (fun j v hj=>by have:=hcell j v hj;simpa using this) (hone sv) hb1 hb2;have hrun':(execOp a.eval o).run P w=.ok (.value (.slice A' (l++[y]).length c')) w1:=by
    have e1:=hI.opnd hs rfl;have e2:=hI.opnd hx rfl;simp only [EV.den] at e1 e2;simp [execOp,hop,resolve,invoke,builtin,e1,e2,hrun,Result.andThen]
  refine A1r hF hw (by rw [hop];intro c hc;cases hc) hrun' ?_;obtain ⟨q1,q2,q3,q4⟩:=hE.step hI hg (mine':=l1++rb A'::l2) (by intro b hb;simp [hb]) (B2s hA') (B2r hE hA') (.inr (fun b hb=>(hrow.ndl b hb).2));exact K A' c' _ _ ⟨_,rfl⟩ q1 (A21 q2 _ (hput _ _)) q3 q4 (hR _ (q3 S0))
theorem A0o.still{base c:Nat}{A:Option Addr}{l:List α}(h:A0o d e (Lo S0 w00 w ns (l1++rb A::l2)) w base A c l)(hbase:w00.heap.size≤base)(hE:Ep pm w00 w ns (l1++rb A::l2)):
    Ep pm w00 w ns (l1++l2)∧(∀S0,Mv (Lo S0 w00 w ns (l1++rb A::l2)) w (Lo S0 w00 w ns (l1++l2)) w)∧Arr d (Lo S0 w00 w ns (l1++l2)) w A l∧l.length≤c:=by
  have h1:=hE.sub (A4d l1 l2 (rb A));have h2:=h.arr (S':=Lo S0 w00 w ns (l1++l2)) (fun b hb=>⟨hb.1,hb.2.1,fun hh=>hb.2.2.1 ((A2p (A4d l1 l2 (rb A))).subset hh),hb.2.2.2⟩) (fun b hb=>by
    have:=R6 (mine:=l1++rb A::l2) (r:=rb A) (by simp) hb;exact ⟨(hE.mi b this).2.1,(hE.mi b this).2.2,hE.gone b hb,.inl (Nat.le_trans hbase (h.ge b hb))⟩)
  exact ⟨h1.1,h1.2,h2.1,h2.2⟩
end
def B4u(α:Type):Kd (Option α):=⟨1,fun _ sv=>[.pointer (sv 0).1],fun _ _ x sv=>x.isSome=false→(sv 0).1=none,fun _ _=>rfl,Nat.one_pos,fun h _=>h⟩
def A6r{α:Type}(k:Lk α)(e:TypeId):Lk (Option α):=⟨B4u α,e,fun S w _ x sv F=>R4 k S w (sv 0).1 x F,fun h hk hb=>R4.keep h hk hb,fun h=>R4.nd h⟩
theorem R4.nilA{α:Type}{k:Lk α}{S:Nat→Prop}{w:World}{A:Option Addr}{x:Option α}{F:List Nat}(h:R4 k S w A x F):x.isSome=false→A=none:=by
  cases x with
  | none=>exact fun _=>h.1
  | some y=>exact fun hs=>Bool.noConfusion hs
theorem A0w{ad:Addr}{b o0:Nat}(h:ad=⟨b,o0,none⟩):ad=ad.add 0:=by rw [h,V8];rfl
theorem A4i{A:Option Addr}{b:Nat}(h:A=some ⟨b,0,none⟩):A=some (adr A):=by rw [h];rfl
theorem set_rd{α:Type}[Inhabited α]{l:List α}{i:Int}(h:inb i l.length=true):l.set i.toNat (rd l i)=l:=by
  obtain ⟨h0,h1⟩:=A0q h;apply List.ext_getElem?;intro j;by_cases hj:j=i.toNat
  · subst hj;have hl:i.toNat<l.length:=by omega
    rw [List.getElem?_set_self hl];unfold rd;rw [List.getD_eq_getElem?_getD,List.getElem?_eq_getElem hl];rfl
  · rw [List.getElem?_set_ne (Ne.symm hj)]
section
variable {α:Type} {k:Lk α} {S:Nat→Prop} {w:World} {A:Option Addr} {c:Nat} {l:List α} {F:List Nat}
theorem J1.same[Inhabited α]{i:Int}(h:J1 k S w A c (l.set i.toNat (rd l i)) F)(hi:inb i l.length=true):J1 k S w A c l F:=by rwa [set_rd hi] at h
theorem Ob1.pt{e:TypeId}{b B:Nat}{pre post:List Value}{x:Option α}{y:α}{sv:SV}(hx:x=some y)(hA:(sv 0).1=some ⟨B,0,none⟩)(h:Ob1 (A6q pre (B4u α) post) e S w b x sv):
    Ob1 (A6q pre (B4u α) post) e S w b (some y) (svL [(some ⟨B,0,none⟩,0)]):=by
  subst hx;refine ⟨fun hs=>Bool.noConfusion hs,?_⟩;rw [h.blk];show some (Obj.cells (pre++([Value.pointer (sv 0).1]++post)).toArray e)=some (Obj.cells (pre++([Value.pointer (some ⟨B,0,none⟩)]++post)).toArray e);rw [hA]
theorem Ob1.ptn{e:TypeId}{b:Nat}{pre post:List Value}{x:Option α}{sv:SV}(hx:x=none)(h:Ob1 (A6q pre (B4u α) post) e S w b x sv):Ob1 (A6q pre (B4u α) post) e S w b none (svL []):=by
  subst hx;have hn:(sv 0).1=none:=h.cont rfl;refine ⟨fun _=>rfl,?_⟩;rw [h.blk];show some (Obj.cells (pre++([Value.pointer (sv 0).1]++post)).toArray e)=some (Obj.cells (pre++([Value.pointer none]++post)).toArray e);rw [hn]
end
section
variable {α:Type} {d:Kd α} {e:TypeId} {X:Nat→Prop} {P:Program} {pm:List Nat} {w00 w:World} {own:List Nat} {mine:List (List Nat)} {b:Nat} {x:α} {sv:SV} {pre post:List Value} {o0:Nat} {ad ad2:Addr}
theorem A20(h:Ob1 (A6q pre d post) e X w b x sv)(hE:Ep pm w00 w own mine)(hm:b∈mine.flatten)(hb:ad=⟨b,o0,none⟩)(hp:pre.length=o0){off:Nat}(h2:ad2=ad.add off)(g:Bool)(vs:List Value)(hs:((d.cells x sv).drop off).take vs.length=vs):(Ob.cell g ad2 vs).holds P w own:=by
  rw [h2];exact ob_oF h hE hm hb hp g off vs hs
end
theorem J1.perm{α:Type}{k:Lk α}{S:Nat→Prop}{w:World}{A:Option Addr}{c:Nat}{l:List α}{F F':List Nat}(h:J1 k S w A c l F)(hp:F'.Perm F):J1 k S w A c l F':=by
  obtain ⟨l',Fs,h1,h2,h3,h4,h5⟩:=h;exact ⟨l',Fs,h1,h2,h3,hp.trans h4,h5⟩
theorem Y6.nd{β:Type}{kk:IntKind}{enc:β→Value}{w:World}{b:Nat}{m:List (Int×β)}(h:Y6 kk enc w b m):b<w.heap.size∧∀q,w.heap[b]? ≠some (.deferred q):=by
  obtain ⟨es,cl,h1,_⟩:=h;exact ⟨(Array.getElem?_eq_some_iff.1 h1).1,fun q hq=>by rw [h1] at hq;cases hq⟩
theorem Row.elK{α:Type}[Inhabited α]{d:Kd α}{e:TypeId}{S0:Nat→Prop}{pm:List Nat}{w00 w:World}{own:List Nat}{mine:List (List Nat)}{base c:Nat}{A:Option Addr}{l:List α}(h:Row d e (Lo S0 w00 w own mine) w base A c l)(hE:Ep pm w00 w own mine)(hm:rb A∈mine)(i:Int)(hi:inb i l.length=true):
    ∃sv,(true=true→El d (fun b=>b∉own) w ((adr A).add (i.toNat*d.sz)) (rd l i) sv)∧(true=true→A=some (adr A))∧d.cont (Lo S0 w00 w own mine) w (rd l i) sv:=by
  obtain ⟨h0,h1⟩:=A0q hi;have hx:l[i.toNat]? =some (rd l i):=by
    unfold rd;rw [List.getD_eq_getElem?_getD,List.getElem?_eq_getElem (by omega)];rfl
  have ht:=A0o.of h;obtain ⟨sv,q1,q2⟩:=ht.el _ _ hx;have hA:A=some (adr A):=by
    rcases ht.ex with ⟨_,_,rfl⟩ | ⟨g,k,cap,cur,rfl,_⟩
    · simp at hx
    · rfl
  refine ⟨sv,fun _=>⟨d.keep q1 fun b hb _=>⟨hb.2.1,rfl⟩,?_,fun j v hj=>?_⟩,fun _=>hA,q1⟩
  · rw [S3];exact (hE.mi _ (R6 hm (by rw [ht.adrb hx];simp))).2.2
  · rw [A29];exact q2 j v hj
def A5z{β:Type}:List (Int×β)→Int→List (Int×β)
  | [],_=>[]
  | (k,v)::r,q=>if q=k then r else (k,v)::A5z r q
section
variable {P:Program} {w w1:World} {β:Type} {kk:IntKind} {enc:β→Value} {b:Nat} {mm:List (Int×β)}
theorem A8z{k:Int}:∀(es:List MapEntry) (mm:List (Int×β)) (i:Nat),es.map (fun e=>(e.key,e.val))=mm.map (fun p=>(.int kk p.1,enc p.2))→
    ∃r,Instr.findNow (.int kk) (.int kk k) es i=some r∧(r=none→A5z mm k=mm)∧∀x,r=some x→∃j,x.1=i+j∧j<es.length∧(es.eraseIdx j).map (fun e=>(e.key,e.val))=(A5z mm k).map (fun p=>(.int kk p.1,enc p.2))
  | [],mm,i,h=>by
    have:mm=[]:=by cases mm<;>simp_all
    subst this;exact ⟨none,rfl,fun _=>rfl,fun x hx=>by cases hx⟩
  | e::es,[],i,h=>by simp at h
  | e ::es,(q,v)::mm,i,h=>by
    simp only [List.map_cons,List.cons.injEq,Prod.mk.injEq] at h;obtain ⟨⟨hk,hv⟩,ht⟩:=h;by_cases hq:k=q
    · subst hq;refine ⟨some (i,e.val),by simp [Instr.findNow,hk,Instr.sameNow],(fun hn=>nomatch hn),fun x hx=>?_⟩;obtain rfl:=Option.some.inj hx;exact ⟨0,rfl,by simp,by simp [A5z,ht]⟩
    · obtain ⟨r,h1,h2,h3⟩:=A8z (k:=k) es mm (i+1) ht;have:(k==q)=false:=by simpa using hq
      refine ⟨r,by simp [Instr.findNow,hk,Instr.sameNow,this,h1],fun hn=>by simp [A5z,hq,h2 hn],fun x hx=>?_⟩;obtain ⟨j,g1,g2,g3⟩:=h3 x hx;exact ⟨j+1,by omega,by simpa using g2,by simp [A5z,hq,hk,hv,g3]⟩
theorem B4d{t tk te ty tk2:TypeId}(ht:P.underlying t=some (.map tk te))(hk:P.underlying tk=some (.int kk))(h:Y6 kk enc w b mm)(k:Int):
    ∃w1,(Builtin.delete_ #[t,tk2] ty #[.map (some b),.int kk k]).run P w=.ok (.tuple #[]) w1∧w.grownBy w1 (some b)∧Y6 kk enc w1 b (A5z mm k):=by
  obtain ⟨es,cl,h1,h2⟩:=h;obtain ⟨r,hr,hn,hs⟩:=A8z (k:=k) es.toList mm 0 h2;have hbl:=(Array.getElem?_eq_some_iff.1 h1).1;have hg:(getObj b).run P w=.ok (.map es cl) w:=by unfold getObj;simp [Sem.run,h1]
  have hset:∀o,∃w1,(setObj b o).run P w=.ok () w1∧w.grownBy w1 (some b)∧w1.heap[b]? =some o:=by
    intro o;refine ⟨{w with heap:=w.heap.setIfInBounds b o},by unfold setObj;simp [Sem.run,h1],⟨rfl,rfl,rfl,by simp,fun k hk hne=>?_⟩,by simp [hbl]⟩;simp only [Array.getElem?_setIfInBounds];rw [if_neg (fun hh=>hne (by rw [hh]))]
  unfold Builtin.delete_;cases r with
  | none=>
    obtain ⟨w1,g1,g2,g3⟩:=hset (.map es cl);refine ⟨w1,?_,g2,es,cl,g3,by rw [hn rfl];exact h2⟩;simp [Sem.run_bind,M3 ht w,hg,A3n hk w,A39 hk hr w,g1,Sem.run_pure]
  | some x=>
    obtain ⟨j,q1,q2,q3⟩:=hs x rfl;rw [Nat.zero_add] at q1;obtain ⟨w1,g1,g2,g3⟩:=hset (.map (es.eraseIdxIfInBounds x.1) cl);refine ⟨w1,?_,g2,_,cl,g3,?_⟩
    · simp [Sem.run_bind,M3 ht w,hg,A3n hk w,A39 hk hr w,g1,Sem.run_pure]
    · rw [q1,Array.toList_eraseIdxIfInBounds];exact q3
end
section
variable {F:Fence} {m:Nat} {P:Program} {S0:Nat→Prop} {pm:List Nat} {w00 w:World} {mine:List (List Nat)} {n:Nat} {σ:S} {ns:List Nat} {a:Act} {o:Oper} {ops:Array Oper} {Q:Exit→Act→World→Prop} {rest:List Oper}
theorem B4z(hF:E9 F)(hE:Ep pm w00 w ns mine)(hI:Inv w ns n σ ns a w)(hw:Region.wanted o (yielded ops a.tmps)=true){t tk te tk2:TypeId}{mo x:Operand}(hop:o.op=.call {callee:=.builtin .delete,args:= #[mo,x],argTypes:= #[t,tk2]}){β:Type}{kk:IntKind}{enc:β→Value}{b:Nat}{mm:List (Int×β)}
    (hmem:b∈mine.flatten) (ht:P.underlying t=some (.map tk te)) (hk:P.underlying tk=some (.int kk)) (hm:Y6 kk enc w b mm) (hmo:I9 σ.env [] mo=some (.v (.map (some b)))) (k:Int) (hx:I9 σ.env [] x=some (.v (.int kk k)))
    (σ2:S) (hput:V0 σ n o.dst [] (some (.v (.tuple #[])))=some σ2)
    (K:∀a' w',(∃v,a'=a.put o.dst v)→Ep pm w00 w' ns mine→Inv w' ns n σ2 ns a' w'→(∀S0,Mv (Lo S0 w00 w ns mine) w (Lo S0 w00 w' ns mine) w')→(∀b',b'∈mine.flatten→b'∉[b]→w'.heap[b']? =w.heap[b']?)→
      Y6 kk enc w' b (A5z mm k)→wpListIn F m P ops Q rest a' w'):wpListIn F m P ops Q (o::rest) a w:=by
  obtain ⟨w1,hrun,hg,hM⟩:=B4d (P:=P) (ty:=o.type) (tk2:=tk2) ht hk hm k;have hrun':(execOp a.eval o).run P w=.ok (.value (.tuple #[])) w1:=by
    have e1:=hI.opnd hmo rfl;have e2:=hI.opnd hx rfl;simp only [EV.den] at e1 e2;simp [execOp,hop,resolve,invoke,builtin,e1,e2,hrun,Result.andThen]
  refine A1r hF hw (by rw [hop];intro c hc;cases hc) hrun' ?_;obtain ⟨q1,q2,q3,q4⟩:=hE.step hI (H3.of_grownBy hg) (mine':=mine) (by intro b' hb;simp at hb;subst hb;exact hmem) A2w hE.dis (.inr (by intro b' hb q hq;simp at hb;subst hb;obtain ⟨es,cl,h1,_⟩:=hm;rw [h1] at hq;cases hq));exact K _ _ ⟨_,rfl⟩ q1 (A21 q2 _ hput) q3 q4 hM
end
def U5{α:Type}(d:Kd α)(X S:Nat→Prop)(w:World)(A:Option Addr)(xs:List α):Prop:=
  (0<xs.length→A=some (adr A)∧X (adr A).block)∧
    ∀(i:Nat) (x:α),xs[i]? =some x→∃sv,d.cont S w x sv∧∀(j:Nat) (v:Value),(d.cells x sv)[j]? =some v→w.cell? ((adr A).add (i*d.sz+j))=some v
section
variable {α:Type} {d:Kd α} {X X' S S':Nat→Prop} {w w':World} {A:Option Addr} {xs:List α}
theorem U5.arr(h:U5 d X S w A xs):Arr d (fun _=>True) w A xs:=⟨fun hl=>⟨(h.1 hl).1,trivial⟩,fun i x hi=>let ⟨sv,q1,q2⟩:=h.2 i x hi;⟨sv,d.keep q1 fun b hb _=>⟨trivial,rfl⟩,q2⟩⟩
theorem U5.keep(h:U5 d X S w A xs)(hx:Mv X w X' w')(hk:Mv S w S' w'):U5 d X' S' w' A xs:=by
  refine ⟨fun hl=>⟨(h.1 hl).1,(hx _ (h.1 hl).2 (h.arr.isC hl)).1⟩,fun i x hi=>?_⟩;obtain ⟨sv,q1,q2⟩:=h.2 i x hi;refine ⟨sv,d.keep q1 hk,fun j v hj=>?_⟩;have hl:0<xs.length:=by have:=(List.getElem?_eq_some_iff.1 hi).1;omega
  rw [World.cell?_of_block (w:=w) (by rw [S3];exact (hx _ (h.1 hl).2 (h.arr.isC hl)).2)];exact q2 j v hj
theorem U5.top(h:U5 d X S w A xs):U5 d (fun _=>True) S w A xs:=⟨fun hl=>⟨(h.1 hl).1,trivial⟩,h.2⟩
theorem U5.lo(h:U5 d X S w A xs):U5 d (Lo X w w [] []) (Lo S w w [] []) w A xs:=
  h.keep (fun b hS hb=>⟨⟨hb.1,by simp,by simp,.inr hS⟩,rfl⟩) fun b hS hb=>⟨⟨hb.1,by simp,by simp,.inr hS⟩,rfl⟩
theorem Row.arrX{e:TypeId}{base c:Nat}(h:Row d e S w base A c xs):U5 d (fun _=>True) S w A xs:=by
  have hl:=(h.arr (S':=fun _=>True) (fun _ _=>trivial) (fun _ _=>trivial)).1;refine ⟨fun hl'=>⟨(hl.1 hl').1,trivial⟩,fun i x hi=>?_⟩;obtain ⟨ys,h1,h3⟩:=h;have hcells:=fun g (hg:(Value.slice A xs.length c).ownBlock=some g)=>h1.cells hg;obtain ⟨hlen,h2⟩:=h1;obtain ⟨sv,q1,q2⟩:=h3 i x hi;refine ⟨sv,q1,fun j v hj=>?_⟩;rcases h2 with ⟨_,h2⟩ | ⟨g,cap,cur,hv,_⟩
  · have:=List.eq_nil_of_length_eq_zero h2;subst this;simp at hi
  · simp only [Value.slice.injEq] at hv;obtain ⟨rfl,_,_⟩:=hv;exact hcells g rfl _ _ (q2 j v hj)
theorem U5.elB[Inhabited α]{S0 S1:Nat→Prop}{w00:World}{own:List Nat}{mine:List (List Nat)}(h:U5 d (Lo S1 w00 w own mine) (Lo S0 w00 w own mine) w A xs)(i:Int)(g:Bool)(hb:g=true→inb i xs.length=true):
    ∃sv,(g=true→El d (fun b=>b∉own) w ((adr A).add (i.toNat*d.sz)) (rd xs i) sv)∧(g=true→A=some (adr A)):=
  Arr.elB (S:=fun b=>b∉own) ⟨fun hl=>⟨(h.1 hl).1,(h.1 hl).2.2.1⟩,fun i x hi=>let ⟨sv,q1,q2⟩:=h.2 i x hi;⟨sv,d.keep q1 fun b hb _=>⟨hb.2.1,rfl⟩,q2⟩⟩ i g hb
theorem U5.elK[Inhabited α]{S0 S1:Nat→Prop}{w00:World}{own:List Nat}{mine:List (List Nat)}(h:U5 d (Lo S1 w00 w own mine) (Lo S0 w00 w own mine) w A xs)(i:Int)(hi:inb i xs.length=true):
    ∃sv,(true=true→El d (fun b=>b∉own) w ((adr A).add (i.toNat*d.sz)) (rd xs i) sv)∧(true=true→A=some (adr A))∧d.cont (Lo S0 w00 w own mine) w (rd xs i) sv:=by
  obtain ⟨h0,h1⟩:=A0q hi;have hx:xs[i.toNat]? =some (rd xs i):=by
    unfold rd;rw [List.getD_eq_getElem?_getD,List.getElem?_eq_getElem (by omega)];rfl
  obtain ⟨sv,q1,q2⟩:=h.2 _ _ hx;have hA:=h.1 (by omega);refine ⟨sv,fun _=>⟨d.keep q1 fun b hb _=>⟨hb.2.1,rfl⟩,?_,fun j v hj=>?_⟩,fun _=>hA.1,q1⟩
  · rw [S3];exact hA.2.2.1
  · rw [A29];exact q2 j v hj
end
theorem J1.ofNil{α:Type}{k:Lk α}{e:TypeId}{S:Nat→Prop}{w:World}{base c:Nat}{A:Option Addr}{l:List (Option α)}(h:Row (B4u α) e S w base A c l)(hl:∀x∈l,x=none):J1 (A6r k e) S w A c l (rb A):=by
  obtain ⟨xs,h1,h3⟩:=h.low (Nat.zero_le _);refine ⟨l.map (fun x=>(x,svL [])),l.map fun _=>[],by simp [Function.comp_def],⟨xs,?_,fun i x hx=>?_⟩,by simp,?_,fun i x G hx hG=>?_⟩
  · rw [List.length_map];exact h1
  · rw [List.getElem?_map] at hx;obtain ⟨y,hy,rfl⟩:=Option.map_eq_some_iff.1 hx;obtain rfl:=hl y (List.mem_of_getElem? hy);obtain ⟨sv,q1,q2⟩:=h3 i _ hy;refine ⟨sv,fun _=>rfl,fun j u hu=>q2 j u ?_⟩;rw [← hu];show [Value.pointer (sv 0).1][j]? =_;rw [q1 rfl];rfl
  · rw [show (l.map fun _=>([]:List Nat)).flatten=[] by simp];simp
  · rw [List.getElem?_map] at hx hG;obtain ⟨y,hy,rfl⟩:=Option.map_eq_some_iff.1 hx;obtain rfl:=hl y (List.mem_of_getElem? hy);obtain ⟨_,_,rfl⟩:=Option.map_eq_some_iff.1 hG;exact ⟨rfl,rfl⟩
section
variable {F:Fence} {m:Nat} {P:Program} {S0:Nat→Prop} {pm:List Nat} {w00 w:World} {l1 l2:List (List Nat)} {n:Nat} {σ:S} {ns:List Nat} {a:Act} {o:Oper} {ops:Array Oper} {Q:Exit→Act→World→Prop} {rest:List Oper} {α:Type}
theorem B66(hF:E9 F){G:List Nat}(hE:Ep pm w00 w ns (l1++G::l2))(hI:Inv w ns n σ ns a w)(hw:Region.wanted o (yielded ops a.tmps)=true){s x:Operand}{t:TypeId}(hop:o.op=.call {callee:=.builtin .append,args:= #[s,x],argTypes:= #[t,t]})
    {A:Option Addr} {c:Nat} {l:List α} (hs:I9 σ.env [] s=some (.v (.slice A l.length c))) {A2:Option Addr} {c2:Nat} (hx:I9 σ.env [] x=some (.v (.slice A2 1 c2)))
    {k:Lk α} (hrow:J1 k (Lo S0 w00 w ns (l1++G::l2)) w A c l G) {y:α} {sv:SV} (hy:Arr (kdP k.d) (Lo S0 w00 w ns (l1++G::l2)) w A2 [(y,sv)]) (hlv:∀S w,k.live S w 0 y sv []) (hone:∀y sv,∀u∈k.d.cells y sv,u.oneCell'=true)
    (ht:P.underlying t=some (.slice k.e)) {zi:Value×Nat×Nat} (hzi:A7h P k.e=some zi) (hsz:zi.2.1=k.d.sz) (hzs:Nat.beq zi.1.cells.size k.d.sz=true) (hb1:l.length+1≤maxLen) (hb2:(l.length+1)*zi.2.2≤140737488355328)
    (σ2:Option Addr→Nat→S) (hput:∀A' c',V0 σ n o.dst [] (some (.v (.slice A' (l++[y]).length c')))=some (σ2 A' c'))
    (K:∀A' c' G' a' w',(∃v,a'=a.put o.dst v)→Ep pm w00 w' ns (l1++G'::l2)→Inv w' ns n (σ2 A' c') ns a' w'→(∀S0,Mv (Lo S0 w00 w ns (l1++G::l2)) w (Lo S0 w00 w' ns (l1++G'::l2)) w')→(∀b,b∈(l1++G::l2).flatten→b∉G→w'.heap[b]? =w.heap[b]?)→
      J1 k (Lo S0 w00 w' ns (l1++G'::l2)) w' A' c' (l++[y]) G'→wpListIn F m P ops Q rest a' w'):wpListIn F m P ops Q (o::rest) a w:=by
  obtain ⟨l',Fs,rfl,h2,h3,h4,h5⟩:=hrow;have hp:(l1++G::l2).flatten.Perm (l1++rb A::(Fs.flatten::l2)).flatten:=by
    simp only [List.flatten_append,List.flatten_cons];rw [← List.append_assoc (rb A)];exact (h4.append_right _).append_left _
  obtain ⟨hE',hm'⟩:=hE.perm hp;have hpb:∀A':Option Addr,(l1++rb A'::(Fs.flatten::l2)).flatten.Perm (l1++(rb A'++Fs.flatten)::l2).flatten:=fun A'=>by
    simp only [List.flatten_append,List.flatten_cons,List.append_assoc];exact .refl _
  rw [List.length_map] at hb1 hb2;refine B2x (S0:=S0) (d:=kdP k.d) (e:=k.e) (l:=l') (ys:=[(y,sv)]) (base:=0) hF hE' hI hw hop (by rw [List.length_map] at hs;exact hs) hx (h2.keep (hm' S0) fun _ _=>rfl) (Nat.zero_le _) (hy.keep (hm' S0)) (fun y' _ u hu=>hone y'.1 y'.2 u hu) ht hzi hsz hzs hb1 hb2 σ2 (fun A' c'=>by have:=hput A' c';simpa using this) ?_;intro A' c' a' w' e1 e2 e3 e4 e5 e6;obtain ⟨hE2,hm2⟩:=e2.perm (hpb A');have hmm:∀S0,Mv (Lo S0 w00 w ns (l1++G::l2)) w (Lo S0 w00 w' ns (l1++(rb A'++Fs.flatten)::l2)) w':=fun S0 b hb hc=>by
    obtain ⟨q1,q2⟩:=hm' S0 b hb hc;obtain ⟨q3,q4⟩:=e4 S0 b q1 hc;exact ⟨(hm2 S0 b q3 (A5s hc q4)).1,q4⟩
  have hG:∀b∈Fs.flatten,w'.heap[b]? =w.heap[b]? :=fun b hb=>by
    refine e5 b (by simp [hb]) fun hh=>?_;have hd:=hE'.dis;simp only [List.flatten_append,List.flatten_cons] at hd;have hd2:=(List.nodup_append.1 hd).2.1;exact (List.nodup_append.1 hd2).2.2 b hh b (List.mem_append_left _ hb) rfl
  refine K A' c' (rb A'++Fs.flatten) a' w' e1 hE2 e3 hmm (fun b hb hn=>?_) ?_
  · have hb':=hp.mem_iff.1 hb;exact e5 b hb' fun hh=>hn (h4.mem_iff.2 (List.mem_append_left _ hh))
  · refine ⟨l'++[(y,sv)],Fs++[[]],by simp,e6.keep (hm2 S0) (fun _ _=>rfl),by simp [h3],by simp,fun i x G' hx' hG'=>?_⟩;by_cases hi:i<l'.length
    · rw [List.getElem?_append_left hi] at hx';rw [List.getElem?_append_left (by omega)] at hG';exact k.keep (h5 i x G' hx' hG') (hmm S0) fun b hb=>hG b (List.mem_flatten.2 ⟨_,List.mem_of_getElem? hG',hb⟩)
    · have hl:i=l'.length:=by
        have:=(List.getElem?_eq_some_iff.1 hx').1;simp at this;omega
      subst hl;rw [List.getElem?_append_right (Nat.le_refl _)] at hx';rw [← h3,List.getElem?_append_right (Nat.le_refl _)] at hG';simp only [Nat.sub_self,List.getElem?_cons_zero,Option.some.injEq] at hx' hG';subst hx' hG';exact hlv _ _
end
section
variable {F:Fence} {m:Nat} {P:Program} {S0:Nat→Prop} {pm:List Nat} {w00 w:World} {mine:List (List Nat)} {n:Nat} {σ:S} {ns:List Nat} {a:Act} {o:Oper} {ops:Array Oper} {Q:Exit→Act→World→Prop} {rest:List Oper} {α:Type}
theorem boxO_(hF:E9 F)(hE:Ep pm w00 w ns mine)(hI:Inv w ns n σ ns a w)(hw:Region.wanted o (yielded ops a.tmps)=true){t:TypeId}{xo:Operand}(hop:o.op=.box t xo){ev:EV}(hx:I9 σ.env [] xo=some ev){d:Kd α}{x:α}{sv:SV}
    (hcs:A4v ev=some ((d.cells x sv).map EV.v)) (hct:d.cont (Lo S0 w00 w ns mine) w x sv)
    (σ2:Nat→S) (hput:∀B,V0 σ n o.dst [] (some (.v (.pointer (some ⟨B,0,none⟩))))=some (σ2 B))
    (K:∀B a' w',(∃v,a'=a.put o.dst v)→Ep pm w00 w' ns (mine++[[B]])→Inv w' ns n (σ2 B) ns a' w'→(∀S0,Mv (Lo S0 w00 w ns mine) w (Lo S0 w00 w' ns (mine++[[B]])) w')→(∀b',b'∈mine.flatten→b'∉([]:List Nat)→w'.heap[b']? =w.heap[b']?)→
      Ob1 d t (Lo S0 w00 w' ns (mine++[[B]])) w' B x sv→wpListIn F m P ops Q rest a' w'):wpListIn F m P ops Q (o::rest) a w:=by
  have hrun:(execOp a.eval o).run P w=.ok (.value (.pointer (some ⟨w.heap.size,0,none⟩))) (w.alloc (.cells (d.cells x sv).toArray t)):=by
    have hd:=A4w (ns:=ns) hcs;have h2:((d.cells x sv).map EV.v).map (EV.den ns)=d.cells x sv:=by rw [List.map_map];exact List.map_id'' (fun _=>rfl) _
    unfold execOp;rw [hop];simp only [hI.opnd hx rfl,Instr.box,newVar,newRow,newObj,Sem.run_bind,hd,h2];rfl
  refine A1r hF hw (by rw [hop];intro c hc;cases hc) hrun ?_;obtain ⟨q1,q2,q3,q4⟩:=hE.step hI (A08 w (.cells (d.cells x sv).toArray t)) (mine':=mine++[[w.heap.size]]) (by intro b hb;cases hb) (A6e (by simp)) (A6d hE) (.inr (by intro b hb;cases hb));exact K w.heap.size _ _ ⟨_,rfl⟩ q1 (A21 q2 _ (hput _)) q3 q4 ⟨d.keep hct (q3 S0),by show (w.heap.push _)[w.heap.size]? =_;simp⟩
end
set_option linter.unusedSectionVars false
section
variable {κ:Type} [DecidableEq κ] {β:Type}
def Z9:List (κ×β)→κ→Option β
  | [],_=>none
  | (k,v)::r,q=>if q=k then some v else Z9 r q
def A2a:List (κ×β)→κ→β→List (κ×β)
  | [],q,x=>[(q,x)]
  | (k,v)::r,q,x=>if q=k then (k,x)::r else (k,v)::A2a r q x
structure B01 (P:Program) (tk:TypeId) (ek:κ→Value):Prop where
  chk:∀(w:World) (b:Bool) (x:κ),(Instr.checkKey b 10000 tk (ek x)).run P w=.ok () w
  eq:∀(w:World) (x y:κ),(Op.equal tk (ek x) (ek y)).run P w=.ok (decide (x=y)) w
  und:∃fs,P.underlying tk=some (.struct fs)
  bits:∀x,Instr.sameBits 10000 (ek x) (ek x)=true
structure A5e (ek:κ→Value) (enc:β→Value) (w:World) (b:Nat) (mm:List (κ×β)):Prop where
  is:∃(es:Array MapEntry) (clock:Nat),w.heap[b]? =some (.map es clock)∧es.toList.map (fun e=>(e.key,e.val))=mm.map (fun p=>(ek p.1,enc p.2))∧(∀e∈es.toList,e.born<clock)∧(es.toList.map MapEntry.born).Nodup
structure A7j (ek:κ→Value) (enc:β→Value) (w:World) (b:Nat) (mm:List (κ×β)) (k:κ) (n:Nat):Prop where
  is:∃(es:Array MapEntry) (clock:Nat),w.heap[b]? =some (.map es clock)∧es.toList.map (fun e=>(e.key,e.val))=mm.map (fun p=>(ek p.1,enc p.2))∧(∀e∈es.toList,e.born<clock)∧(es.toList.map MapEntry.born).Nodup∧
    ∃(j:Nat) (e:MapEntry),es[j]? =some e∧e.born=n∧∀x,(es.toList.modify j fun e=>{e with val:=enc x}).map (fun e=>(e.key,e.val))=(A2a mm k x).map (fun p=>(ek p.1,enc p.2))
variable {P:Program} {w w1:World} {ek:κ→Value} {enc:β→Value} {b:Nat} {mm:List (κ×β)} {tk:TypeId}
theorem A5e.keep(h:A5e ek enc w b mm)(hb:w1.heap[b]? =w.heap[b]?):A5e ek enc w1 b mm:=by
  obtain ⟨es,cl,h1,h2⟩:=h;exact ⟨es,cl,hb.trans h1,h2⟩
theorem A7j.keep{k:κ}{n:Nat}(h:A7j ek enc w b mm k n)(hb:w1.heap[b]? =w.heap[b]?):A7j ek enc w1 b mm k n:=by
  obtain ⟨es,cl,h1,h2⟩:=h;exact ⟨es,cl,hb.trans h1,h2⟩
theorem A7j.k{k:κ}{n:Nat}(h:A7j ek enc w b mm k n):A5e ek enc w b mm:=by
  obtain ⟨es,cl,h1,h2,h3,h4,_⟩:=h;exact ⟨es,cl,h1,h2,h3,h4⟩
theorem A7v(ho:B01 P tk ek)(k:κ)(w:World):∀(es:List MapEntry) (mm:List (κ×β)) (i:Nat),es.map (fun e=>(e.key,e.val))=mm.map (fun p=>(ek p.1,enc p.2))→
    ∃ r,(Instr.findAsking tk (ek k) es i).run P w=.ok r w∧(Z9 mm k=none→r=none)∧(∀v,Z9 mm k=some v→∃j e,r=some (i+j,enc v)∧es[j]? =some e∧e.key=ek k∧
      ∀x,(es.modify j fun e=>{e with val:=enc x}).map (fun e=>(e.key,e.val))=(A2a mm k x).map (fun p=>(ek p.1,enc p.2)))
  | [],mm,i,h=>by
    have:mm=[]:=by cases mm<;>simp_all
    subst this;exact ⟨none,rfl,fun _=>rfl,fun v hv=>by simp [Z9] at hv⟩
  | e::es,[],i,h=>by simp at h
  | e ::es,(q,v)::mm,i,h=>by
    simp only [List.map_cons,List.cons.injEq,Prod.mk.injEq] at h;obtain ⟨⟨hk,hv⟩,ht⟩:=h;by_cases hq:k=q
    · subst hq;refine ⟨some (i,e.val),?_,fun hn=>by simp [Z9] at hn,fun v' hv'=>?_⟩
      · unfold Instr.findAsking;simp only [Sem.run_bind,hk,ho.eq,Result.andThen_ok,decide_true,if_true];rfl
      · simp only [Z9,if_true,Option.some.injEq] at hv';subst hv';refine ⟨0,e,by rw [hv];rfl,rfl,hk,fun x=>?_⟩;simp [A2a,ht,hk]
    · obtain ⟨r,h1,h2,h3⟩:=A7v ho k w es mm (i+1) ht;refine ⟨r,?_,fun hn=>h2 (by simpa [Z9,hq] using hn),fun v' hv'=>?_⟩
      · unfold Instr.findAsking;simp only [Sem.run_bind,hk,ho.eq,Result.andThen_ok,hq,decide_false,Bool.false_eq_true,if_false];exact h1
      · obtain ⟨j,e',g1,g2,g3,g4⟩:=h3 v' (by simpa [Z9,hq] using hv');refine ⟨j+1,e',by rw [g1];congr 2;omega,by simpa using g2,g3,fun x=>?_⟩;have:=g4 x;simp [A2a,hq,hk,hv,this]
theorem B04(ho:B01 P tk ek)(k:κ)(w:World)(es:List MapEntry)(mm:List (κ×β))(h:es.map (fun e=>(e.key,e.val))=mm.map (fun p=>(ek p.1,enc p.2))):
    ∃ r,(Instr.findKey tk (ek k) es).run P w=.ok r w∧(Z9 mm k=none→r=none)∧(∀v,Z9 mm k=some v→∃j e,r=some (j,enc v)∧es[j]? =some e∧e.key=ek k∧
      ∀x,(es.modify j fun e=>{e with val:=enc x}).map (fun e=>(e.key,e.val))=(A2a mm k x).map (fun p=>(ek p.1,enc p.2))):=by
  obtain ⟨fs,hu⟩:=ho.und;obtain ⟨r,h1,h2,h3⟩:=A7v ho k w es mm 0 h;refine ⟨r,?_,h2,fun v hv=>?_⟩
  · unfold Instr.findKey;simp only [Sem.run_bind,M3 hu w,Result.andThen_ok];cases es with
    | nil=>
      have:r=none:=by
        unfold Instr.findAsking at h1;simp [Sem.run_pure] at h1;exact h1.symm
      subst this;rfl
    | cons e es=>exact h1
  · obtain ⟨j,e,g1,g2⟩:=h3 v hv;exact ⟨j,e,by rw [g1,Nat.zero_add],g2⟩
theorem A4a(ho:B01 P tk ek){t te:TypeId}{zi:Value×Nat×Nat}{z v:β}(ht:P.underlying t=some (.map tk te))(hzi:A7h P te=some zi)(hze:zi.1=enc z)(h:A5e ek enc w b mm)(k:κ)(hv:(Z9 mm k).getD z=v):
    (Instr.lookup t (.map (some b)) (ek k) false).run P w=.ok (enc v) w:=by
  subst hv;obtain ⟨i,hi,hz,_,_⟩:=A28 hzi;rw [hze] at hz;obtain ⟨es,cl,h1,h2,_⟩:=h;obtain ⟨r,hr,hn,hs⟩:=B04 ho k w es.toList mm h2;unfold Instr.lookup;have hg:(getObj b).run P w=.ok (.map es cl) w:=by unfold getObj;simp [Sem.run,h1]
  simp only [Sem.run_bind,M3 ht w,Result.andThen_ok,hg,Sem.run_pure,ho.chk,hr];cases hm:Z9 mm k with
  | none=>
    rw [hn hm];simp only [Sem.run_bind,A73 hi hz w,Result.andThen_ok,Sem.run_pure];simp [Sem.run_pure,Option.getD]
  | some v=>
    obtain ⟨j,e,g1,_⟩:=hs v hm;rw [g1];simp [Sem.run_pure,Result.andThen_ok,Option.getD]
theorem A92:∀ {mm:List (κ×β)} {k:κ},Z9 mm k=none→∀x,A2a mm k x=mm++[(k,x)]
  | [],k,_,x=>rfl
  | (q,v)::r,k,h,x=>by
    simp only [Z9] at h;split at h
    · cases h
    · rename_i hq;simp [A2a,hq,A92 h x]
theorem B07:∀ {mm:List (κ×β)} {k:κ} {v:β},Z9 mm k=some v→A2a mm k v=mm
  | [],k,v,h=>by simp [Z9] at h
  | (q,u)::r,k,v,h=>by
    simp only [Z9] at h;split at h
    · rename_i hq;simp at h;subst h;simp [A2a,hq]
    · rename_i hq;simp [A2a,hq,B07 h]
theorem A7x:∀(mm:List (κ×β)) (k:κ) (v u:β),A2a (A2a mm k v) k u=A2a mm k u
  | [],k,v,u=>by simp [A2a]
  | (q,x)::r,k,v,u=>by
    by_cases hq:k=q
    · simp [A2a,hq]
    · simp [A2a,hq,A7x r k v u]
theorem B3h:∀(mm:List (κ×β)) (k:κ) (v:β),Z9 (A2a mm k v) k=some v
  | [],k,v=>by simp [A2a,Z9]
  | (q,x)::r,k,v=>by
    by_cases hq:k=q
    · simp [A2a,Z9,hq]
    · simp [A2a,Z9,hq,B3h r k v]
def A91(mm:List (κ×β))(k:κ)(z:β):List (κ×β):=A2a mm k ((Z9 mm k).getD z)
theorem B74(mm:List (κ×β))(k:κ)(z:β):(Z9 (A91 mm k z) k).getD z=(Z9 mm k).getD z:=by unfold A91;rw [B3h];rfl
theorem A97{α:Type}(f:α→α)(a:α):∀l:List α,(l++[a]).modify l.length f=l++[f a]
  | []=>rfl
  | x::l=>by simp [A97 f a l]
theorem B0w(ho:B01 P tk ek){t te:TypeId}{zi:Value×Nat×Nat}{z:β}(ht:P.underlying t=some (.map tk te))(hzi:A7h P te=some zi)(hze:zi.1=enc z)(h:A5e ek enc w b mm)(k:κ):
    ∃(n:Nat) (w1:World),(Instr.mapEntry t (.map (some b)) (ek k)).run P w=.ok (.tuple #[enc ((Z9 mm k).getD z),goInt n]) w1∧w.grownBy w1 (some b)∧A7j ek enc w1 b (A91 mm k z) k n:=by
  obtain ⟨i,hi,hz,_,_⟩:=A28 hzi;rw [hze] at hz;obtain ⟨es,cl,h1,h2,h3,h4⟩:=h;obtain ⟨r,hr,hn,hs⟩:=B04 ho k w es.toList mm h2;have hbl:=(Array.getElem?_eq_some_iff.1 h1).1;have hg:(getObj b).run P w=.ok (.map es cl) w:=by unfold getObj;simp [Sem.run,h1]
  have hset:∀o,∃w1,(setObj b o).run P w=.ok () w1∧w.grownBy w1 (some b)∧w1.heap[b]? =some o:=by
    intro o;refine ⟨{w with heap:=w.heap.setIfInBounds b o},by unfold setObj;simp [Sem.run,h1],⟨rfl,rfl,rfl,by simp,fun k hk hne=>?_⟩,by simp [hbl]⟩;simp only [Array.getElem?_setIfInBounds];rw [if_neg (fun hh=>hne (by rw [hh]))]
  unfold Instr.mapEntry;simp only [Sem.run_bind,M3 ht w,Result.andThen_ok,hg,ho.chk,hr];cases hm:Z9 mm k with
  | none=>
    rw [hn hm];obtain ⟨w1,g1,g2,g3⟩:=hset (.map (es.push {key:=ek k,val:=enc z,born:=cl}) (cl+1));refine ⟨cl,w1,?_,g2,_,_,g3,?_,?_,?_,es.size,{key:=ek k,val:=enc z,born:=cl},by simp,rfl,fun x=>?_⟩
    · simp only [Sem.run_bind,A73 hi hz w,Result.andThen_ok,g1,Sem.run_pure,Option.getD]
    · unfold A91;rw [hm,A92 hm];simp [h2]
    · intro e he;simp only [Array.toList_push,List.mem_append,List.mem_singleton] at he;rcases he with he | rfl
      · exact Nat.lt_succ_of_lt (h3 e he)
      · exact Nat.lt_succ_self _
    · simp only [Array.toList_push,List.map_append,List.map_cons,List.map_nil];rw [List.nodup_append];refine ⟨h4,by simp,fun a ha b' hb'=>?_⟩;simp only [List.mem_singleton] at hb';obtain ⟨e,he,rfl⟩:=List.mem_map.1 ha;have:=h3 e he;omega
    · unfold A91;rw [A7x,A92 hm,Array.toList_push,← Array.length_toList,A97];simp [h2]
  | some v=>
    obtain ⟨j,e,q1,q2,q3,q4⟩:=hs v hm;rw [q1];have hkeep:(Instr.keyThatStays e.key (ek k)).run P w=.ok (ek k) w:=by
      unfold Instr.keyThatStays;rw [q3,ho.bits];simp [Sem.run_pure]
    have hj:es[j]? =some e:=by simpa using q2
    obtain ⟨w1,g1,g2,g3⟩:=hset (.map (es.modify j fun e=>{e with key:=ek k}) cl);have hmod:(es.modify j fun e=>{e with key:=ek k})=es:=by
      apply Array.ext_getElem?;intro i;rw [Array.getElem?_modify];split
      · rename_i hh;subst hh;rw [hj];simp [← q3]
      · rfl
    rw [hmod] at g1 g3;refine ⟨e.born,w1,?_,g2,_,_,g3,?_,h3,h4,j,e,hj,rfl,fun x=>?_⟩
    · simp only [hj,Option.map_some,Option.getD_some,Sem.run_bind,hkeep,Result.andThen_ok,hmod,g1,Sem.run_pure,Option.getD]
    · unfold A91;rw [hm];show _=(A2a mm k v).map _;rw [B07 hm];exact h2
    · unfold A91;rw [A7x];exact q4 x
theorem A87{t:TypeId}{k:κ}{n:Nat}{z:β}(h:A7j ek enc w b (A91 mm k z) k n)(x:β):
    ∃w1,(Instr.entryStore t (.map (some b)) (goInt n) (enc x)).run P w=.ok () w1∧w.grownBy w1 (some b)∧A5e ek enc w1 b (A2a mm k x):=by
  obtain ⟨es,cl,h1,h2,h3,h4,j,e,hj,hb,hm⟩:=h;have hbl:=(Array.getElem?_eq_some_iff.1 h1).1;have hg:(getObj b).run P w=.ok (.map es cl) w:=by unfold getObj;simp [Sem.run,h1]
  have hset:∀o,∃w1,(setObj b o).run P w=.ok () w1∧w.grownBy w1 (some b)∧w1.heap[b]? =some o:=by
    intro o;refine ⟨{w with heap:=w.heap.setIfInBounds b o},by unfold setObj;simp [Sem.run,h1],⟨rfl,rfl,rfl,by simp,fun k hk hne=>?_⟩,by simp [hbl]⟩;simp only [Array.getElem?_setIfInBounds];rw [if_neg (fun hh=>hne (by rw [hh]))]
  have hjs:j<es.size:=(Array.getElem?_eq_some_iff.1 hj).1;have hje:es[j]=e:=(Array.getElem?_eq_some_iff.1 hj).2;have hf:es.findIdx? (fun e=>(e.born:Int)==(n:Int))=some j:=by
    rw [Array.findIdx?_eq_some_iff_getElem];refine ⟨hjs,by rw [hje,hb];simp,fun i hi hh=>?_⟩;have hil:i<es.size:=by omega
    have hbi:es[i].born=e.born:=by rw [hb];exact Int.ofNat.inj (beq_iff_eq.1 hh)
    have:=List.pairwise_iff_getElem.1 h4 i j (by simpa using hil) (by simpa using hjs) hi;simp [hbi,hje] at this
  obtain ⟨w1,g1,g2,g3⟩:=hset (.map (es.modify j fun e=>{e with val:=enc x}) cl);refine ⟨w1,?_,g2,_,_,g3,?_,?_,?_⟩
  · unfold Instr.entryStore;simp [Sem.run_bind,hg,asInt,asIntOf,goInt,hf,g1,Sem.run_pure]
  · rw [Array.toList_modify,hm x];unfold A91;rw [A7x]
  · intro e' he';rw [Array.toList_modify] at he';obtain ⟨i,hi⟩:=List.mem_iff_getElem?.1 he';rw [List.getElem?_modify] at hi;obtain ⟨e2,h5,h6⟩:=Option.map_eq_some_iff.1 hi;have:=h3 e2 (List.mem_of_getElem? h5);split at h6<;>(subst h6;exact this)
  · rw [Array.toList_modify];have:((es.toList.modify j fun e=>{e with val:=enc x}).map MapEntry.born)=es.toList.map MapEntry.born:=by
      apply List.ext_getElem?;intro i;rw [List.getElem?_map,List.getElem?_map,List.getElem?_modify];cases es.toList[i]? with
      | none=>rfl
      | some v=>simp only [Option.map_some];split<;>rfl
    rw [this];exact h4
end
theorem A5u{κ:Type}[DecidableEq κ]{P:Program}{tk:TypeId}{f1 f2:Field}{k1 k2:IntKind}(hu:P.underlying tk=some (.struct #[f1,f2]))(hp:P.stoodInHeld tk=false)(h1:P.underlying f1.type=some (.int k1))(h2:P.underlying f2.type=some (.int k2))
    (n1:(f1.name== "_")=false) (n2:(f2.name== "_")=false) (o1:f1.offset=0) (o2:f2.offset=1) (a1:A2s P f1.type=some false) (a2:A2s P f2.type=some false) {p q:κ→Int} (hinj:∀x y,p x=p y→q x=q y→x=y):B01 P tk (fun x=>.agg #[.int k1 (p x),.int k2 (q x)]):=by
  refine ⟨fun w b x=>?_,fun w x y=>?_,⟨_,hu⟩,fun x=>by simp [Instr.sameBits]⟩
  · unfold Instr.checkKey;have e1:(f1.name≠ "_"):=by simpa using n1
    have e2:(f2.name≠ "_"):=by simpa using n2
    have p1:=A2c (cs:= #[.int k1 (p x),.int k2 (q x)]) (off:=f1.offset) (v:=.int k1 (p x)) a1 (by rw [o1];rfl) w;have p2:=A2c (cs:= #[.int k1 (p x),.int k2 (q x)]) (off:=f2.offset) (v:=.int k2 (q x)) a2 (by rw [o2];rfl) w;have c1:∀n,(Instr.checkKey b (n+1) f1.type (.int k1 (p x))).run P w=.ok () w:=fun n=>by unfold Instr.checkKey;simp [Sem.run_bind,M3 h1 w,Sem.run_pure]
    have c2:∀n,(Instr.checkKey b (n+1) f2.type (.int k2 (q x))).run P w=.ok () w:=fun n=>by unfold Instr.checkKey;simp [Sem.run_bind,M3 h2 w,Sem.run_pure]
    have c1':=c1 9998;have c2':=c2 9998;simp [Sem.run_bind,M3 hu w,e1,e2,p1,p2,c1',c2',Sem.run_pure]
  · show (Op.equalIn 10000 tk _ _).run P w=_;have:=B7f (d:=9999) hu hp (A7q (f:=f1) (fs:=[f2]) (xs:= #[.int k1 (p x),.int k2 (q x)]) (ys:= #[.int k1 (p y),.int k2 (q y)]) (w:=w) n1 (A2c a1 (by rw [o1];rfl) w) (A2c a1 (by rw [o1];rfl) w) (A9d h1 (p x) (p y) 9998 w)
      (A7q n2 (A2c a2 (by rw [o2];rfl) w) (A2c a2 (by rw [o2];rfl) w) (A9d h2 (q x) (q y) 9998 w) B5s))
    rw [this]
    congr 1
    by_cases hxy:x=y
    · subst hxy;simp
    · simp only [hxy,decide_false,Bool.and_true];by_cases hp':p x=p y
      · have:¬q x=q y:=fun hq=>hxy (hinj x y hp' hq);simp [this]
      · simp [hp']
section
variable {F:Fence} {m:Nat} {P:Program} {S0:Nat→Prop} {pm:List Nat} {w00 w:World} {mine:List (List Nat)} {n:Nat} {σ:S} {ns:List Nat} {a:Act} {o:Oper} {ops:Array Oper} {Q:Exit→Act→World→Prop} {rest:List Oper}
theorem B6q(hF:E9 F)(hE:Ep pm w00 w ns mine)(hI:Inv w ns n σ ns a w)(hw:Region.wanted o (yielded ops a.tmps)=true){t:TypeId}(hop:o.op=.makeMap t none)(κ β:Type)(ek:κ→Value)(enc:β→Value)
    (σ2:Nat→S) (hput:∀b,V0 σ n o.dst [] (some (.v (.map (some b))))=some (σ2 b))
    (K:∀b a' w',(∃v,a'=a.put o.dst v)→Ep pm w00 w' ns (mine++[[b]])→Inv w' ns n (σ2 b) ns a' w'→(∀S0,Mv (Lo S0 w00 w ns mine) w (Lo S0 w00 w' ns (mine++[[b]])) w')→(∀b',b'∈mine.flatten→b'∉([]:List Nat)→w'.heap[b']? =w.heap[b']?)→
      A5e ek enc w' b ([]:List (κ×β))→wpListIn F m P ops Q rest a' w'):wpListIn F m P ops Q (o::rest) a w:=by
  have hrun:(execOp a.eval o).run P w=.ok (.value (.map (some w.heap.size))) (w.alloc (.map #[] 0)):=by
    simp [execOp,hop,Sem.run_bind,Instr.makeMap_run]
  refine A1r hF hw (by rw [hop];intro c hc;cases hc) hrun ?_;obtain ⟨q1,q2,q3,q4⟩:=hE.step hI (A08 w (.map #[] 0)) (mine':=mine++[[w.heap.size]]) (by intro b hb;cases hb) (A6e (by simp)) (A6d hE) (.inr (by intro b hb;cases hb));exact K w.heap.size _ _ ⟨_,rfl⟩ q1 (A21 q2 _ (hput _)) q3 q4 ⟨#[],0,heap_alloc_new w _,rfl,by simp,by simp⟩
theorem B41(hF:E9 F)(hE:Ep pm w00 w ns mine)(hI:Inv w ns n σ ns a w)(hw:Region.wanted o (yielded ops a.tmps)=true){t tk te:TypeId}{mo x:Operand}(hop:o.op=.mapEntry t mo x){κ β:Type}[DecidableEq κ]{ek:κ→Value}{enc:β→Value}{b:Nat}{mm:List (κ×β)}
    (hmem:b∈mine.flatten) (ho:B01 P tk ek) (ht:P.underlying t=some (.map tk te)) {zi:Value×Nat×Nat} {z:β} (hzi:A7h P te=some zi) (hze:zi.1=enc z) (hm:A5e ek enc w b mm) (hmo:I9 σ.env [] mo=some (.v (.map (some b)))) (k:κ) {ev:EV} (hx:I9 σ.env [] x=some ev) (hev:∀ns,ev.den ns=ek k)
    (σ2:Nat→S) (hput:∀i:Nat,V0 σ n o.dst [] (some (.v (.tuple #[enc ((Z9 mm k).getD z),.int .i64 (i:Int)])))=some (σ2 i))
    (K:∀(i:Nat) a' w',(∃v,a'=a.put o.dst v)→Ep pm w00 w' ns mine→Inv w' ns n (σ2 i) ns a' w'→(∀S0,Mv (Lo S0 w00 w ns mine) w (Lo S0 w00 w' ns mine) w')→(∀b',b'∈mine.flatten→b'∉[b]→w'.heap[b']? =w.heap[b']?)→
      A7j ek enc w' b (A91 mm k z) k i→wpListIn F m P ops Q rest a' w'):wpListIn F m P ops Q (o::rest) a w:=by
  obtain ⟨i,w1,hrun,hg,hM⟩:=B0w (P:=P) ho ht hzi hze hm k;have hrun':(execOp a.eval o).run P w=.ok (.value (.tuple #[enc ((Z9 mm k).getD z),.int .i64 (i:Int)])) w1:=by
    have e1:=hI.opnd hmo rfl;have e2:=hI.opnd hx rfl;rw [hev] at e2;simp only [EV.den] at e1;simp [execOp,hop,e1,e2,hrun,Sem.run_bind,Sem.run_pure,goInt]
  refine A1r hF hw (by rw [hop];intro c hc;cases hc) hrun' ?_;obtain ⟨q1,q2,q3,q4⟩:=hE.step hI (H3.of_grownBy hg) (mine':=mine) (by intro b' hb;simp at hb;subst hb;exact hmem) A2w hE.dis (.inr (by intro b' hb q hq;simp at hb;subst hb;obtain ⟨es,cl,h1,_⟩:=hm;rw [h1] at hq;cases hq));exact K i _ _ ⟨_,rfl⟩ q1 (A21 q2 _ (hput _)) q3 q4 hM
theorem B1y(hF:E9 F)(hE:Ep pm w00 w ns mine)(hI:Inv w ns n σ ns a w)(hw:Region.wanted o (yielded ops a.tmps)=true){t:TypeId}{mo s x:Operand}(hop:o.op=.entryStore t mo s x){κ β:Type}[DecidableEq κ]{ek:κ→Value}{enc:β→Value}{b:Nat}{mm:List (κ×β)}{z:β}{k:κ}{i:Nat}
    (hmem:b∈mine.flatten) (hm:A7j ek enc w b (A91 mm k z) k i) (hmo:I9 σ.env [] mo=some (.v (.map (some b)))) (hs:I9 σ.env [] s=some (.v (.int .i64 (i:Int)))) (y:β) (hx:I9 σ.env [] x=some (.v (enc y)))
    (σ2:S) (hput:V0 σ n o.dst [] none=some σ2)
    (K:∀a' w',(∃v,a'=a.put o.dst v)→Ep pm w00 w' ns mine→Inv w' ns n σ2 ns a' w'→(∀S0,Mv (Lo S0 w00 w ns mine) w (Lo S0 w00 w' ns mine) w')→(∀b',b'∈mine.flatten→b'∉[b]→w'.heap[b']? =w.heap[b']?)→
      A5e ek enc w' b (A2a mm k y)→wpListIn F m P ops Q rest a' w'):wpListIn F m P ops Q (o::rest) a w:=by
  obtain ⟨w1,hrun,hg,hM⟩:=A87 (P:=P) (t:=t) hm y;have hrun':(execOp a.eval o).run P w=.ok .skip w1:=by
    have e1:=hI.opnd hmo rfl;have e2:=hI.opnd hs rfl;have e3:=hI.opnd hx rfl;simp only [EV.den] at e1 e2 e3;simp only [goInt] at hrun;simp [execOp,hop,e1,e2,e3,hrun,Sem.run_bind,Sem.run_pure]
  refine A2x hF hw (by rw [hop];intro c hc;cases hc) hrun' ?_;obtain ⟨q1,q2,q3,q4⟩:=hE.step hI (H3.of_grownBy hg) (mine':=mine) (by intro b' hb;simp at hb;subst hb;exact hmem) A2w hE.dis (.inr (by intro b' hb q hq;simp at hb;subst hb;obtain ⟨es,cl,h1,_⟩:=hm;rw [h1] at hq;cases hq));exact K _ _ ⟨_,rfl⟩ q1 (B3t q2 _ hput) q3 q4 hM
end
theorem key_{F:Fence}{m:Nat}{P:Program}{l:Array Oper}{Q:Exit→Act→World→Prop}(J:Nat→Array Bool→Act→World→Prop){fuel0:Nat}{listed0:Array Bool}{a0:Act}{w0:World}
    (K:∀fuel listed a w,J fuel listed a w→wpAnyIn F m P .any l Q fuel listed a w) (h:(∀fuel listed a w,J fuel listed a w→wpAnyIn F m P .any l Q fuel listed a w)→wpAnyIn F m P .any l Q fuel0 listed0 a0 w0):wpAnyIn F m P .any l Q fuel0 listed0 a0 w0:=h K
theorem DS.cast2{w0 w:World}{own ns:List Nat}{n:Nat}{σ σ2:S}{tb tb2:List En}{listed:Array Bool}{a:Act}(hJ:DS w0 own n σ ns tb listed a w)(hs:σ=σ2)(ht:tb=tb2):DS w0 own n σ2 ns tb2 listed a w:=hs▸ht▸hJ
section
class Nr (l:List (List Nat)) (l':outParam (List (List Nat))):Prop where e:l=l'
instance:Nr [] []:=⟨rfl⟩
instance (priority:=low) {l:List (List Nat)}:Nr l l:=⟨rfl⟩
instance {a:List Nat} {l l':List (List Nat)} [h:Nr l l']:Nr (a::l) (a::l'):=⟨by rw [h.e]⟩
instance {l l':List (List Nat)} [h:Nr l l']:Nr ([]++l) l':=⟨h.e⟩
instance {a:List Nat} {l1 l2 l':List (List Nat)} [h:Nr (l1++l2) l']:Nr (a::l1++l2) (a::l'):=⟨by rw [← h.e];rfl⟩
instance {x y z l':List (List Nat)} [h:Nr (x++(y++z)) l']:Nr (x++y++z) l':=⟨by rw [List.append_assoc];exact h.e⟩
instance (priority:=high) {l l':List (List Nat)} [h:Nr l l']:Nr (rb none::l) ([]::l'):=⟨by rw [h.e];rfl⟩
class Er (i:Nat) (l:List (List Nat)) (l':outParam (List (List Nat))):Prop where e:l.eraseIdx i=l'
instance {a:List Nat} {l:List (List Nat)}:Er 0 (a::l) l:=⟨rfl⟩
instance {i:Nat} {a:List Nat} {l l':List (List Nat)} [h:Er i l l']:Er (i+1) (a::l) (a::l'):=⟨by rw [← h.e];rfl⟩
theorem rest0(l:List (List Nat)):M2 l []=l:=by
  have h:∀k,((l.zipIdx k).filter fun p=>!([]:List Nat).contains p.2).map Prod.fst=l:=by
    induction l with
    | nil=>intro k;rfl
    | cons a l ih=>intro k;exact congrArg (a:: ·) (ih (k+1))
  exact h 0
theorem rest1(l:List (List Nat))(i:Nat):M2 l [i]=l.eraseIdx i:=by
  have h0:∀(l:List (List Nat)) (j k:Nat),j<k→((l.zipIdx k).filter fun p=>!([j]:List Nat).contains p.2).map Prod.fst=l:=by
    intro l j;induction l with
    | nil=>intro k _;rfl
    | cons a l ih=>
      intro k hk;have e:(!([j]:List Nat).contains k)=true:=by simp;omega
      simp only [List.zipIdx_cons,List.filter_cons,e,if_true,List.map_cons];exact congrArg (a:: ·) (ih (k+1) (by omega))
  have h:∀(l:List (List Nat)) (i k:Nat),((l.zipIdx k).filter fun p=>!([i+k]:List Nat).contains p.2).map Prod.fst=l.eraseIdx i:=by
    intro l;induction l with
    | nil=>intro i k;rfl
    | cons a l ih=>
      intro i k;cases i with
      | zero=>
        have e:(!([0+k]:List Nat).contains k)=false:=by simp
        simp only [List.zipIdx_cons,List.filter_cons,e,List.eraseIdx_cons_zero];exact h0 l (0+k) (k+1) (by omega)
      | succ i=>
        have e:(!([i+1+k]:List Nat).contains k)=true:=by simp
        simp only [List.zipIdx_cons,List.filter_cons,e,if_true,List.map_cons,List.eraseIdx_cons_succ];have:=ih i (k+1);rw [show i+(k+1)=i+1+k by omega] at this;exact congrArg (a:: ·) this
  exact h l i 0
instance {x y l':List (List Nat)} [h:Nr (x++y) l']:Nr (M2 x []++y) l':=⟨by rw [rest0];exact h.e⟩
instance {i:Nat} {x x' y z l':List (List Nat)} [f:Nr x x'] [g:Er i x' z] [h:Nr (z++y) l']:Nr (M2 x [i]++y) l':=⟨by rw [rest1,f.e,g.e];exact h.e⟩
instance {x l':List (List Nat)} [h:Nr x l']:Nr (M2 x []) l':=⟨by rw [rest0];exact h.e⟩
instance {i:Nat} {x x' z l':List (List Nat)} [f:Nr x x'] [g:Er i x' z] [h:Nr z l']:Nr (M2 x [i]) l':=⟨by rw [rest1,f.e,g.e];exact h.e⟩
class Gt (i:Nat) (l:List (List Nat)) (a:outParam (List Nat)) (l':outParam (List (List Nat))):Prop where p:l.flatten.Perm (a++l'.flatten)
instance {a:List Nat} {l:List (List Nat)}:Gt 0 (a::l) a l:=⟨.refl _⟩
instance {i:Nat} {a x:List Nat} {l l':List (List Nat)} [h:Gt i l a l']:Gt (i+1) (x::l) a (x::l'):=⟨by
  simp only [List.flatten_cons];exact (h.p.append_left x).trans (by rw [← List.append_assoc,← List.append_assoc];exact (List.perm_append_comm).append_right _)⟩
class Pk (ix:List Nat) (l:List (List Nat)) (g:outParam (List Nat)) (r:outParam (List (List Nat))):Prop where p:l.flatten.Perm (g++r.flatten)
instance {l:List (List Nat)}:Pk [] l [] l:=⟨.refl _⟩
instance {i:Nat} {ix a g:List Nat} {l l' r:List (List Nat)} [h:Gt i l a l'] [k:Pk ix l' g r]:Pk (i::ix) l (a++g) r:=⟨by rw [List.append_assoc];exact h.p.trans (k.p.append_left a)⟩
class Mb (F:List Nat) (l:List (List Nat)):Prop where m:∀b∈F,b∈l.flatten
instance {F:List Nat} {l:List (List Nat)}:Mb F (F::l):=⟨fun b h=>List.mem_flatten.2 ⟨F,by simp,h⟩⟩
instance (priority:=low) {F x:List Nat} {l:List (List Nat)} [h:Mb F l]:Mb F (x::l):=⟨fun b hb=>by simp only [List.flatten_cons,List.mem_append];exact .inr (h.m b hb)⟩
instance {l:List (List Nat)}:Mb [] l:=⟨fun b h=>by simp at h⟩
instance {l:List (List Nat)}:Mb (rb none) l:=⟨fun b h=>by simp [rb] at h⟩
class Mx (F R:List Nat) (l:List (List Nat)):Prop where x:(R=[]∨l.flatten.Nodup)→∀b∈F,b∈l.flatten∧b∉R
instance {F:List Nat} {l:List (List Nat)} [h:Mb F l]:Mx F [] l:=⟨fun _ b hb=>⟨h.m b hb,by simp⟩⟩
instance {R:List Nat} {l:List (List Nat)}:Mx [] R l:=⟨fun _ b hb=>by simp at hb⟩
instance {R:List Nat} {l:List (List Nat)}:Mx (rb none) R l:=⟨fun _ b hb=>by simp [rb] at hb⟩
instance {F R:List Nat} {l:List (List Nat)} [h:Mb R l]:Mx F R (F::l):=⟨fun hd b hb=>⟨by simp [hb],fun hr=>by
  rcases hd with rfl | hd
  · simp at hr
  · rw [List.flatten_cons,List.nodup_append] at hd;exact hd.2.2 b hb b (h.m b hr) rfl⟩⟩
instance {F R:List Nat} {l:List (List Nat)} [h:Mb F l]:Mx F R (R::l):=⟨fun hd b hb=>⟨by simp only [List.flatten_cons,List.mem_append];exact .inr (h.m b hb),fun hr=>by
  rcases hd with rfl | hd
  · simp at hr
  · rw [List.flatten_cons,List.nodup_append] at hd;exact hd.2.2 b hr b (h.m b hb) rfl⟩⟩
instance (priority:=low) {F R x:List Nat} {l:List (List Nat)} [h:Mx F R l]:Mx F R (x::l):=⟨fun hd b hb=>by
  have h1:=h.x (hd.imp id fun hd=>by rw [List.flatten_cons,List.nodup_append] at hd;exact hd.2.1) b hb;exact ⟨by simp only [List.flatten_cons,List.mem_append];exact .inr h1.1,h1.2⟩⟩
class Kp (w00 w:World) (own:List Nat) (mine:List (List Nat)) (w':World) (own':List Nat) (mine' l:List (List Nat)) (R:List Nat) (P:Prop) (Q:outParam Prop):Prop where
  k:(∀S0,Mv (Lo S0 w00 w own mine) w (Lo S0 w00 w' own' mine') w')→(∀b∈l.flatten,b∉R→w'.heap[b]? =w.heap[b]?)→(R=[]∨l.flatten.Nodup)→P→Q
variable {w00 w w':World} {own own' R F:List Nat} {mine mine' m0 m0' l l0 m1:List (List Nat)} {S X:Nat→Prop}
instance {P Q P' Q':Prop} [p:Kp w00 w own mine w' own' mine' l R P P'] [q:Kp w00 w own mine w' own' mine' l R Q Q']:Kp w00 w own mine w' own' mine' l R (P∧Q) (P'∧Q'):=⟨fun a b c h=>⟨p.k a b c h.1,q.k a b c h.2⟩⟩
instance {α:Type} {d:Kd α} {x:α} {sv:SV} [z:Nr m1 mine]:Kp w00 w own mine w' own' mine' l R (d.cont (Lo S w00 w own m1) w x sv) (d.cont (Lo S w00 w' own' mine') w' x sv):=⟨fun a b c h=>by cases z.e;exact Kd.keep _ h (a _)⟩
instance {α:Type} {d:Kd α} {A:Option Addr} {xs:List α} [z:Nr m1 mine]:Kp w00 w own mine w' own' mine' l R (Arr d (Lo S w00 w own m1) w A xs) (Arr d (Lo S w00 w' own' mine') w' A xs):=⟨fun a b c h=>by cases z.e;exact Arr.keep h (a _)⟩
instance {m2:List (List Nat)} {α:Type} {d:Kd α} {A:Option Addr} {xs:List α} [z:Nr m1 mine] [z2:Nr m2 mine]:Kp w00 w own mine w' own' mine' l R (U5 d (Lo X w00 w own m2) (Lo S w00 w own m1) w A xs) (U5 d (Lo X w00 w' own' mine') (Lo S w00 w' own' mine') w' A xs):=⟨fun a b c h=>by cases z.e;cases z2.e;exact U5.keep h (a _) (a _)⟩
instance {α:Type} {d:Kd α} {B:Addr} {x:α} {sv:SV} [z:Nr m1 mine]:Kp w00 w own mine w' own' mine' l R (El d (Lo S w00 w own m1) w B x sv) (El d (Lo S w00 w' own' mine') w' B x sv):=⟨fun a b c h=>by cases z.e;exact El.keep h (a _)⟩
instance {T:Nat→Prop} {w0:World} [z:Nr m1 mine]:Kp w00 w own mine w' own' mine' l R (Tk T w0 (Lo S w00 w own m1) w) (Tk T w0 (Lo S w00 w' own' mine') w'):=⟨fun a b c h=>by cases z.e;exact Tk.keep h (a _)⟩
instance {α:Type} {d:Kd α} {e:TypeId} {base:Nat} {A:Option Addr} {n:Nat} {xs:List α} [z:Nr m1 mine] [y:Mx (rb A) R l]:Kp w00 w own mine w' own' mine' l R (Row d e (Lo S w00 w own m1) w base A n xs) (Row d e (Lo S w00 w' own' mine') w' base A n xs):=⟨fun a b c h=>by cases z.e;exact Row.keep h (a _) (fun q hq=>have t:=y.x c q hq;b q t.1 t.2)⟩
instance {α:Type} {d:Kd α} {e:TypeId} {base:Nat} {A:Option Addr} {n:Nat} {xs:List α} [z:Nr m1 mine] [y:Mx (rb A) R l]:Kp w00 w own mine w' own' mine' l R (A0o d e (Lo S w00 w own m1) w base A n xs) (A0o d e (Lo S w00 w' own' mine') w' base A n xs):=⟨fun a b c h=>by cases z.e;exact A0o.keep h (a _) (fun q hq=>have t:=y.x c q hq;b q t.1 t.2)⟩
instance {α:Type} {k:Lk α} {A:Option Addr} {n:Nat} {xs:List α} [z:Nr m1 mine] [y:Mx F R l]:Kp w00 w own mine w' own' mine' l R (J1 k (Lo S w00 w own m1) w A n xs F) (J1 k (Lo S w00 w' own' mine') w' A n xs F):=⟨fun a b c h=>by cases z.e;exact J1.keep h (a _) (fun q hq=>have t:=y.x c q hq;b q t.1 t.2)⟩
instance {α:Type} {k:Lk α} {A:Option Addr} {n:Nat} {xs:List α} {i:Int} {pre post:List Value} [z:Nr m1 mine] [y:Mx F R l]:Kp w00 w own mine w' own' mine' l R (A1n k (Lo S w00 w own m1) w A n xs i pre post F) (A1n k (Lo S w00 w' own' mine') w' A n xs i pre post F):=⟨fun a b c h=>by cases z.e;exact A1n.keep h (a _) (fun q hq=>have t:=y.x c q hq;b q t.1 t.2)⟩
instance {α:Type} {k:Lk α} {B:Nat} {x:α} [z:Nr m1 mine] [y:Mx F R l]:Kp w00 w own mine w' own' mine' l R (Ojt k (Lo S w00 w own m1) w B x F) (Ojt k (Lo S w00 w' own' mine') w' B x F):=⟨fun a b c h=>by cases z.e;exact Ojt.keep h (a _) (fun q hq=>have t:=y.x c q hq;b q t.1 t.2)⟩
instance {α:Type} {k:Lk α} {A:Option Addr} {x:Option α} [z:Nr m1 mine] [y:Mx F R l]:Kp w00 w own mine w' own' mine' l R (R4 k (Lo S w00 w own m1) w A x F) (R4 k (Lo S w00 w' own' mine') w' A x F):=⟨fun a b c h=>by cases z.e;exact R4.keep h (a _) (fun q hq=>have t:=y.x c q hq;b q t.1 t.2)⟩
instance {α:Type} {d:Kd α} {e:TypeId} {B:Nat} {x:α} {sv:SV} [z:Nr m1 mine] [y:Mx [B] R l]:Kp w00 w own mine w' own' mine' l R (Ob1 d e (Lo S w00 w own m1) w B x sv) (Ob1 d e (Lo S w00 w' own' mine') w' B x sv):=⟨fun a b c h=>by cases z.e;exact Ob1.keep h (a _) (have t:=y.x c _ (List.mem_singleton.2 rfl);b _ t.1 t.2)⟩
instance {β:Type} {kk:IntKind} {enc:β→Value} {B:Nat} {mm:List (Int×β)} [y:Mx [B] R l]:Kp w00 w own mine w' own' mine' l R (Y6 kk enc w B mm) (Y6 kk enc w' B mm):=⟨fun a b c h=>Y6.keep h (have t:=y.x c _ (List.mem_singleton.2 rfl);b _ t.1 t.2)⟩
instance {κ β:Type} [DecidableEq κ] {ek:κ→Value} {enc:β→Value} {B:Nat} {mm:List (κ×β)} [y:Mx [B] R l]:Kp w00 w own mine w' own' mine' l R (A5e ek enc w B mm) (A5e ek enc w' B mm):=⟨fun a b c h=>A5e.keep h (have t:=y.x c _ (List.mem_singleton.2 rfl);b _ t.1 t.2)⟩
instance {κ β:Type} [DecidableEq κ] {ek:κ→Value} {enc:β→Value} {B:Nat} {mm:List (κ×β)} {k:κ} {n:Nat} [y:Mx [B] R l]:Kp w00 w own mine w' own' mine' l R (A7j ek enc w B mm k n) (A7j ek enc w' B mm k n):=⟨fun a b c h=>A7j.keep h (have t:=y.x c _ (List.mem_singleton.2 rfl);b _ t.1 t.2)⟩
variable {A1 A2 A3 A4 A5 A6 A7 A8 A9 A10 A11 A12 A13 A14 A15 A16 Q:Prop} {pm:List Nat} {n:Nat} {σ:Eng.S} {ns:List Nat} {a:Act} {mp mp':List (List Nat)} [zm:Nr mp mine] [zm':Nr mp' mine'] [zl:Nr l0 l]
theorem yz(hE':Ep pm w00 w' own' mp')(m:∀S0,Mv (Lo S0 w00 w own mp) w (Lo S0 w00 w' own' mp') w')(r:∀b∈l0.flatten,w'.heap[b]? =w.heap[b]?)(h:A1)[i:Kp w00 w own mine w' own' mine' l [] A1 Q]:Ep pm w00 w' own' mine'∧Q:=by cases zm.e;cases zm'.e;cases zl.e;exact ⟨hE',i.k m (fun b hb _=>r b hb) (.inl rfl) h⟩
theorem nz(m:∀S0,Mv (Lo S0 w00 w own mp) w (Lo S0 w00 w' own' mp') w')(h:A1)[i:Kp w00 w own mine w' own' mine' [] [] A1 Q]:Q:=by cases zm.e;cases zm'.e;exact i.k m (fun _ hb _=>by simp at hb) (.inl rfl) h
theorem xz(hE:Ep pm w00 w own mp)(hE':Ep pm w00 w' own' mp')(m:∀S0,Mv (Lo S0 w00 w own mp) w (Lo S0 w00 w' own' mp') w')(r:∀b∈mp.flatten,b∉R→w'.heap[b]? =w.heap[b]?)(h:A1)[i:Kp w00 w own mine w' own' mine' mine R A1 Q]:Ep pm w00 w' own' mine'∧Q:=by cases zm.e;cases zm'.e;exact ⟨hE',i.k m r (.inr hE.dis) h⟩
theorem rz(hE:Ep pm w00 w own mp)(hI:Inv w own n σ ns a w')(h:A1)[i:Kp w00 w own mine w' ns mine mine [] A1 Q]:Ep pm w00 w' ns mine∧Inv w' ns n σ ns a w'∧Q:=by
  cases zm.e;obtain ⟨hE',hmv,hmr⟩:=Ep.rebase hE hI;exact ⟨hE',hI.rebase,i.k hmv (fun b hb _=>hmr b hb) (.inl rfl) h⟩
theorem sz(m:∀S0,Mv (Lo S0 w00 w own mp) w (Lo S0 w00 w own' mp') w)(h:A1)[i:Kp w00 w own mine w own' mine' mine' [] A1 Q]:Q:=by cases zm.e;cases zm'.e;exact i.k m (fun _ _ _=>rfl) (.inl rfl) h
theorem ez(mp':List (List Nat))[zm':Nr mp' mine'](m:Ep pm w00 w own' mp'∧∀S0,Mv (Lo S0 w00 w own mp) w (Lo S0 w00 w own' mp') w)(h:A1)[i:Kp w00 w own mine w own' mine' mine' [] A1 Q]:Ep pm w00 w own' mine'∧Q:=by cases zm.e;cases zm'.e;exact ⟨m.1,i.k m.2 (fun _ _ _=>rfl) (.inl rfl) h⟩
theorem gz_{g G:List Nat}{r:List (List Nat)}{ix:List Nat}(hE:Ep pm w00 w own mine)(z:Pk ix mine g r)(e:g=G):Ep pm w00 w own (r++[G])∧∀S0,Mv (Lo S0 w00 w own mine) w (Lo S0 w00 w own (r++[G])) w:=
  hE.perm (by rw [List.flatten_append,List.flatten_singleton,← e];exact z.p.trans List.perm_append_comm)
theorem ge{g:List Nat}{r mine':List (List Nat)}(hE:Ep pm w00 w own mp)(ix G:List Nat)(h:A1)[z:Pk ix mine g r][zn:Nr (r++[G]) mine'][i:Kp w00 w own mine w own mine' mine' [] A1 Q](e:g=G:=by first | rfl | simp):Ep pm w00 w own mine'∧Q:=by
  cases zm.e;have t:=gz_ hE z e;rw [zn.e] at t;exact ⟨t.1,i.k t.2 (fun _ _ _=>rfl) (.inl rfl) h⟩
theorem go{α:Type}{k:Lk α}{B:Nat}{x:α}{g G:List Nat}{r mine':List (List Nat)}(hE:Ep pm w00 w own mp)(ix:List Nat)(ho:Ojt k (Lo S w00 w own mp) w B x G)(h:A1)[z:Pk ix mine g r][zn:Nr (r++[G]) mine'][i:Kp w00 w own mine w own mine' mine' [] A1 Q](e:g=G:=by first | rfl | simp):Ep pm w00 w own mine'∧Ojt k (Lo S w00 w own mine') w B x G∧Q:=by
  cases zm.e;have t:=gz_ hE z e;rw [zn.e] at t;exact ⟨t.1,Ojt.keep ho (t.2 _) (fun _ _=>rfl),i.k t.2 (fun _ _ _=>rfl) (.inl rfl) h⟩
theorem gw{α:Type}{k:Lk α}{A:Option Addr}{c:Nat}{l:List α}{g G:List Nat}{r mine':List (List Nat)}(hE:Ep pm w00 w own mp)(ix:List Nat)(ho:J1 k (Lo S w00 w own mp) w A c l G)(h:A1)[z:Pk ix mine g r][zn:Nr (r++[G]) mine'][i:Kp w00 w own mine w own mine' mine' [] A1 Q](e:g=G:=by first | rfl | simp):Ep pm w00 w own mine'∧J1 k (Lo S w00 w own mine') w A c l G∧Q:=by
  cases zm.e;have t:=gz_ hE z e;rw [zn.e] at t;exact ⟨t.1,J1.keep ho (t.2 _) (fun _ _=>rfl),i.k t.2 (fun _ _ _=>rfl) (.inl rfl) h⟩
theorem t2(a1:A1)(a2:A2):A1∧A2:=⟨a1,a2⟩
theorem t3(a1:A1)(a2:A2)(a3:A3):A1∧A2∧A3:=⟨a1,a2,a3⟩
theorem t4(a1:A1)(a2:A2)(a3:A3)(a4:A4):A1∧A2∧A3∧A4:=⟨a1,a2,a3,a4⟩
theorem t5(a1:A1)(a2:A2)(a3:A3)(a4:A4)(a5:A5):A1∧A2∧A3∧A4∧A5:=⟨a1,a2,a3,a4,a5⟩
theorem t6(a1:A1)(a2:A2)(a3:A3)(a4:A4)(a5:A5)(a6:A6):A1∧A2∧A3∧A4∧A5∧A6:=⟨a1,a2,a3,a4,a5,a6⟩
theorem t7(a1:A1)(a2:A2)(a3:A3)(a4:A4)(a5:A5)(a6:A6)(a7:A7):A1∧A2∧A3∧A4∧A5∧A6∧A7:=⟨a1,a2,a3,a4,a5,a6,a7⟩
theorem t8(a1:A1)(a2:A2)(a3:A3)(a4:A4)(a5:A5)(a6:A6)(a7:A7)(a8:A8):A1∧A2∧A3∧A4∧A5∧A6∧A7∧A8:=⟨a1,a2,a3,a4,a5,a6,a7,a8⟩
theorem t9(a1:A1)(a2:A2)(a3:A3)(a4:A4)(a5:A5)(a6:A6)(a7:A7)(a8:A8)(a9:A9):A1∧A2∧A3∧A4∧A5∧A6∧A7∧A8∧A9:=⟨a1,a2,a3,a4,a5,a6,a7,a8,a9⟩
theorem t10(a1:A1)(a2:A2)(a3:A3)(a4:A4)(a5:A5)(a6:A6)(a7:A7)(a8:A8)(a9:A9)(a10:A10):A1∧A2∧A3∧A4∧A5∧A6∧A7∧A8∧A9∧A10:=⟨a1,a2,a3,a4,a5,a6,a7,a8,a9,a10⟩
theorem t11(a1:A1)(a2:A2)(a3:A3)(a4:A4)(a5:A5)(a6:A6)(a7:A7)(a8:A8)(a9:A9)(a10:A10)(a11:A11):A1∧A2∧A3∧A4∧A5∧A6∧A7∧A8∧A9∧A10∧A11:=⟨a1,a2,a3,a4,a5,a6,a7,a8,a9,a10,a11⟩
theorem t12(a1:A1)(a2:A2)(a3:A3)(a4:A4)(a5:A5)(a6:A6)(a7:A7)(a8:A8)(a9:A9)(a10:A10)(a11:A11)(a12:A12):A1∧A2∧A3∧A4∧A5∧A6∧A7∧A8∧A9∧A10∧A11∧A12:=⟨a1,a2,a3,a4,a5,a6,a7,a8,a9,a10,a11,a12⟩
theorem t13(a1:A1)(a2:A2)(a3:A3)(a4:A4)(a5:A5)(a6:A6)(a7:A7)(a8:A8)(a9:A9)(a10:A10)(a11:A11)(a12:A12)(a13:A13):A1∧A2∧A3∧A4∧A5∧A6∧A7∧A8∧A9∧A10∧A11∧A12∧A13:=⟨a1,a2,a3,a4,a5,a6,a7,a8,a9,a10,a11,a12,a13⟩
theorem t14(a1:A1)(a2:A2)(a3:A3)(a4:A4)(a5:A5)(a6:A6)(a7:A7)(a8:A8)(a9:A9)(a10:A10)(a11:A11)(a12:A12)(a13:A13)(a14:A14):A1∧A2∧A3∧A4∧A5∧A6∧A7∧A8∧A9∧A10∧A11∧A12∧A13∧A14:=⟨a1,a2,a3,a4,a5,a6,a7,a8,a9,a10,a11,a12,a13,a14⟩
theorem t15(a1:A1)(a2:A2)(a3:A3)(a4:A4)(a5:A5)(a6:A6)(a7:A7)(a8:A8)(a9:A9)(a10:A10)(a11:A11)(a12:A12)(a13:A13)(a14:A14)(a15:A15):A1∧A2∧A3∧A4∧A5∧A6∧A7∧A8∧A9∧A10∧A11∧A12∧A13∧A14∧A15:=⟨a1,a2,a3,a4,a5,a6,a7,a8,a9,a10,a11,a12,a13,a14,a15⟩
end
abbrev iv(x:Int):Value:=.int .i64 x
abbrev i_(t:Nat)(x:Int):Ent:=e_ t (.int .i64 x)
abbrev b_(t:Nat)(x:Bool):Ent:=e_ t (.bool x)
section
variable {F:Fence} {m:Nat} {P:Program} {w0:World} {own:List Nat} {n:Nat} {σ:S} {ns:List Nat} {a:Act} {w:World} {Q:Exit→Act→World→Prop} {ops:Array Oper} {rest:List Oper}
theorem en'{f:FuncId}{fn:Func}{c:Code}(hf:P.funcs[f]? =some fn){args:List Value}{R:Ending→World→Prop}(h:∀a,St w [] n ⟨A63 0 args,[],[],[],none,none⟩ [] a w→E9 Fence.wide→c.wpIn Fence.wide 0 P (bodyPost P fn R) a w)
    (hb:fn.body=some c:=by rfl) (hn:fn.ntmps=n:=by rfl) (hle:args.length≤n:=by exact Nat.le_of_ble_eq_true rfl):Calls P f args.toArray w R:=enter hf hb args hn hle fun a hI=>h a hI (.inl rfl)
theorem en_{f:FuncId}{fn:Func}{c:Code}(hf:P.funcs[f]? =some fn){args:List Value}{R:Ending→World→Prop}(h:∀a,St w [] n ⟨A63 0 args,[],[],[],none,none⟩ [] a w→E9 Fence.wide→Ep [] w w [] []→c.wpIn Fence.wide 0 P (bodyPost P fn R) a w)
    (hb:fn.body=some c:=by rfl) (hn:fn.ntmps=n:=by rfl) (hle:args.length≤n:=by exact Nat.le_of_ble_eq_true rfl):Calls P f args.toArray w R:=enter hf hb args hn hle fun a hI=>h a hI (.inl rfl) (Ep.start w)
theorem zo{f:FuncId}{fn:Func}{c:Code}(hf:P.funcs[f]? =some fn)(hname:(fn.name== "runtime.NumGoroutine")=false:=by kernel_rfl)(hb:fn.body=some c:=by rfl)(args:Array Value)(w:World):
    (callFunc f args).run P w=.ok (.enter f args) w:=O6 hf hname hb args w
theorem cb{c:Operand}{x y:Code}{α:Type}{b:Bool}{u v:Option α}{r:α}(hI:St w0 own n σ ns a w)(H:(bif b then u else v)=some r)(ht:b=true→u=some r→x.wpIn F m P Q a w)(hf:b=false→v=some r→y.wpIn F m P Q a w)
    (h:I9 σ.env [] c=some (.v (.bool b)):=by rfl):(Code.cond c x y).wpIn F m P Q a w:=A47 hI b h (fun hc=>ht hc (B5o hc H)) (fun hc=>hf hc (B5n hc H))
theorem Inv.pi(hI:Inv w0 own n σ ns a w)(live:List Nat)(kb:Nat){σ2:S}(h:cut live kb σ=some σ2:=by kernel_rfl):Inv w0 own n σ2 (ns.take kb) a w:=hI.pick live kb σ2 h
theorem za{id:Nat}{l:List Oper}{y:Code}(hF:E9 F)(hI:St w0 own n σ ns a w)(σ2:S)
    (K:∀ns' a' w',St w0 own n σ2 ns' a' w'→y.wpIn F m P Q a' w') (h:A0s P l n (σ2.env.map Ent.t) σ []=some (σ2,[]):=by kernel_rfl):(Code.seq (Code.region id l.toArray false) y).wpIn F m P Q a w:=sr0_ hF hI σ2 h K
theorem zf{id:Nat}{l:List Oper}(hF:E9 F)(hI:St w0 own n σ ns a w)(σ2:S)
    (K:∀ns' a' w',St w0 own n σ2 ns' a' w'→Q .normal a' w') (h:A0s P l n (σ2.env.map Ent.t) σ []=some (σ2,[]):=by kernel_rfl):(Code.region id l.toArray false).wpIn F m P Q a w:=rg0_ hF hI σ2 h K
theorem zk(orc:List (List Value))(hF:E9 F)(k:Nat)(hI:Inv w0 own n σ ns a w)(σ2:S)(obs:List Ob){l:List Oper}(hob:Obs P w0 own obs)
    (K:∀ns' a' w',Inv w0 own n σ2 ns' a' w'→wpListIn F m P ops Q rest a' w') (hr:l.drop k=rest:=by rfl) (h:A3f P ops n k (σ2.env.map Ent.t) l σ orc=some (σ2,obs):=by kernel_rfl):wpListIn F m P ops Q l a w:=ck_ hF k hI σ2 obs hr h hob K
theorem zj(hF:E9 F)(k:Nat)(hI:Inv w0 own n σ ns a w)(σ2:S){l:List Oper}
    (K:∀ns' a' w',Inv w0 own n σ2 ns' a' w'→wpListIn F m P ops Q rest a' w') (hr:l.drop k=rest:=by rfl) (h:A3f P ops n k (σ2.env.map Ent.t) l σ []=some (σ2,[]):=by kernel_rfl):wpListIn F m P ops Q l a w:=ck0_ hF k hI σ2 hr h K
theorem zc{id:Nat}{l:List Oper}{y:Code}(hF:E9 F)(hI:St w0 own n σ ns a w)(live:List Nat)(new:List Ent)(ch:List (Nat×(List EV×TypeId)))
    (K:∀ns' a' w',St w0 own n (nx σ live new ch) ns' a' w'→y.wpIn F m P Q a' w') (h:A0s P l n live σ []=some (nx σ live new ch,[]):=by kernel_rfl):(Code.seq (Code.region id l.toArray false) y).wpIn F m P Q a w:=srn0_ hF hI live new ch h K
theorem zi{id:Nat}{l:List Oper}(orc:List (List Value))(hF:E9 F)(hI:St w0 own n σ ns a w)(live:List Nat)(new:List Ent)(ch:List (Nat×(List EV×TypeId)))(obs:List Ob)(hob:Obs P w0 own obs)
    (K:∀ns' a' w',St w0 own n (nx σ live new ch) ns' a' w'→Q .normal a' w') (h:A0s P l n live σ orc=some (nx σ live new ch,obs):=by kernel_rfl):(Code.region id l.toArray false).wpIn F m P Q a w:=rgn_ hF hI live new ch obs h hob K
theorem zh{id:Nat}{l:List Oper}(hF:E9 F)(hI:St w0 own n σ ns a w)(live:List Nat)(new:List Ent)(ch:List (Nat×(List EV×TypeId)))
    (K:∀ns' a' w',St w0 own n (nx σ live new ch) ns' a' w'→Q .normal a' w') (h:A0s P l n live σ []=some (nx σ live new ch,[]):=by kernel_rfl):(Code.region id l.toArray false).wpIn F m P Q a w:=rgn0_ hF hI live new ch h K
theorem zm(orc:List (List Value))(hF:E9 F)(k:Nat)(hI:Inv w0 own n σ ns a w)(live:List Nat)(new:List Ent)(ch:List (Nat×(List EV×TypeId)))(obs:List Ob){l:List Oper}(hob:Obs P w0 own obs)
    (K:∀ns' a' w',Inv w0 own n (nx σ live new ch) ns' a' w'→wpListIn F m P ops Q rest a' w') (hr:l.drop k=rest:=by rfl) (h:A3f P ops n k live l σ orc=some (nx σ live new ch,obs):=by kernel_rfl):wpListIn F m P ops Q l a w:=ckn_ hF k hI live new ch obs hr h hob K
theorem zl(hF:E9 F)(k:Nat)(hI:Inv w0 own n σ ns a w)(live:List Nat)(new:List Ent)(ch:List (Nat×(List EV×TypeId))){l:List Oper}
    (K:∀ns' a' w',Inv w0 own n (nx σ live new ch) ns' a' w'→wpListIn F m P ops Q rest a' w') (hr:l.drop k=rest:=by rfl) (h:A3f P ops n k live l σ []=some (nx σ live new ch,[]):=by kernel_rfl):wpListIn F m P ops Q l a w:=ckn0_ hF k hI live new ch hr h K
end
theorem B9i{P:Program}{t:TypeId}{f0 f1:Field}{k:IntKind}(ht:P.underlying t=some (.struct #[f0,f1]))(he:P.underlying f0.type=some (.int k))(he1:P.underlying f1.type=some (.int k))(ho:f0.offset=0∧f1.offset=1∧P.cellsOf f0.type=1∧P.cellsOf f1.type=1∧P.cellsOf t=2)
    {w:World} {held:Bool} {fuel:Nat} {cs:List Value} {p:List MemPlace} (x y:Int) (h:DataW.trod (fun _=>()) P w 0 (fun _=>true) held fuel t cs=some (.agg [.lit (.int k x),.lit (.int k y)],p)):cs=[.int k x,.int k y]:=by
  obtain ⟨xs,n,_,e,hl,hlen,hf⟩:=DataW.trod_struct ht h
  match xs,hlen with
  | [y0,y1],_=>
  have h0:=hf 0 f0 rfl;have h1:=hf 1 f1 rfl;rw [ho.1,ho.2.2.1] at h0;rw [ho.2.1,ho.2.2.2.1] at h1;obtain ⟨a,ha,rfl,_⟩:=DataW.trod_int he h0;obtain ⟨b,hb,rfl,_⟩:=DataW.trod_int he1 h1;simp only [List.map_cons,List.map_nil,Prod.mk.injEq,DataW.agg.injEq,List.cons.injEq,DataW.lit.injEq,Lit.int.injEq,true_and,and_true] at e;obtain ⟨⟨rfl,rfl⟩,_⟩:=e;rw [ho.2.2.2.2] at hl
  match cs,hl with
  | [u,v],_=>simp at ha hb;rw [ha,hb]
def Ob.orc:Ob→List (List Value)
  | .cell _ _ vs=>[vs]
  | .need _ _=>[]
  | .call _ _ _ v=>[[v]]
  | .run _ _ v=>[[v]]
def B3q:List Ob→List (List Value)
  | []=>[]
  | o::r=>o.orc++B3q r
section
variable {P:Program} {w:World} {own:List Nat} {l:List Ob} {g:Bool} {S0:Nat→Prop} {w00 wz:World} {mine:List (List Nat)} {A ad ad2:Addr} {B:Addr}
theorem oG(o:Ob)(h:o.holds P w own)(r:Obs P w own l):Obs P w own (o::l):=⟨h,r⟩
theorem oZ:Obs P w own []:=trivial
theorem oI{i:Int}{n:Nat}(h:inb i n=true)(r:Obs P w own l):Obs P w own (.need true (0≤i∧i<(n:Int))::l):=⟨P5 fun _=>h,r⟩
theorem oJ{i:Int}{n:Nat}(h:imp g (inb i n)=true)(r:Obs P w own l):Obs P w own (.need g (0≤i∧i<(n:Int))::l):=⟨P5 fun hg=>W7 h hg,r⟩
theorem oA{q:Prop}(h:g=true→q)(r:Obs P w own l):Obs P w own (.need g q::l):=⟨h,r⟩
theorem oB{q:Prop}(h:q)(r:Obs P w own l):Obs P w own (.need true q::l):=⟨fun _=>h,r⟩
theorem oC{f:FuncId}{args:List Value}{v:Value}(hent:∀args w,(callFunc f args).run P w=.ok (.enter f args) w)
    (h:∀w1,H3 own w w1→Calls P f args.toArray w1 fun e w'=>e=.returned v∧Below w1.heap.size w1 w') (r:Obs P w own l):Obs P w own (.call true f args v::l):=⟨L0 hent fun _=>h,r⟩
theorem oD(g:Bool){f:FuncId}{args:List Value}{v:Value}(hent:∀args w,(callFunc f args).run P w=.ok (.enter f args) w)
    (h:g=true→∀w1,H3 own w w1→Calls P f args.toArray w1 fun e w'=>e=.returned v∧Below w1.heap.size w1 w') (r:Obs P w own l):Obs P w own (.call g f args v::l):=⟨L0 hent h,r⟩
variable {α:Type} {d:Kd α} {x:α} {sv:SV}
theorem oE(h:El d (Lo S0 w00 w own mine) w B x sv)(off:Nat)(vs:List Value)(r:Obs P w own l)(hs:((d.cells x sv).drop off).take vs.length=vs:=by rfl):Obs P w own (.cell true (B.add off) vs::l):=⟨Y7 (fun _=>h) off vs hs,r⟩
theorem oF(h:g=true→El d (Lo S0 w00 w own mine) w B x sv)(off:Nat)(vs:List Value)(r:Obs P w own l)(hs:((d.cells x sv).drop off).take vs.length=vs:=by rfl):Obs P w own (.cell g (B.add off) vs::l):=⟨Y7 h off vs hs,r⟩
theorem oW(h:El d (Lo S0 w00 w own mine) w B x sv)(r:Obs P w own l):Obs P w own (.cell true (B.add 0) (d.cells x sv)::l):=⟨Y7 (fun _=>h) 0 _ (by simp),r⟩
theorem oV(h:g=true→El d (Lo S0 w00 w own mine) w B x sv)(r:Obs P w own l):Obs P w own (.cell g (B.add 0) (d.cells x sv)::l):=⟨Y7 h 0 _ (by simp),r⟩
theorem oR(h:g=true→El d (fun b=>b∉own) w B x sv)(off:Nat)(vs:List Value)(r:Obs P w own l)(hs:((d.cells x sv).drop off).take vs.length=vs:=by rfl):Obs P w own (.cell g (B.add off) vs::l):=⟨ob_elR h off vs hs,r⟩
section
variable {X:Nat→Prop} {e:TypeId} {b:Nat} {pm:List Nat} {pre post:List Value} {o0:Nat}
theorem oO(h:Ob1 d e X w b x sv)(hE:Ep pm w00 w own mine)(off:Nat)(vs:List Value)(r:Obs P w own l)(hm:b∈mine.flatten:=by simp)(hs:((d.cells x sv).drop off).take vs.length=vs:=by rfl):Obs P w own (.cell true ((⟨b,0,none⟩:Addr).add off) vs::l):=
  ⟨A1c h hE hm true off vs hs,r⟩
end
theorem kA(h:d.cont (Lo S0 w00 w own mine) w x sv)(hk:H3 own w wz):d.cont (fun _=>True) wz x sv:=Kd.any _ (Kd.keep _ h (Lo.on hk))
theorem aA{A:Option Addr}{xs:List α}(h:Arr d (Lo S0 w00 w own mine) w A xs)(hk:H3 own w wz):Arr d (fun _=>True) wz A xs:=Arr.any (Arr.keep h (Lo.on hk))
section
variable {F:Fence} {m:Nat} {w0:World} {n:Nat} {σ:S} {ns:List Nat} {a:Act} {Q:Exit→Act→World→Prop} {ops:Array Oper} {rest:List Oper} {obs:List Ob}
theorem zB{id:Nat}{l:List Oper}{y:Code}(hF:E9 F)(hI:St w0 own n σ ns a w)(σ2:S)(hob:Obs P w0 own obs)
    (K:∀ns' a' w',St w0 own n σ2 ns' a' w'→y.wpIn F m P Q a' w') (h:A0s P l n (σ2.env.map Ent.t) σ (B3q obs)=some (σ2,obs):=by kernel_rfl):(Code.seq (Code.region id l.toArray false) y).wpIn F m P Q a w:=sr_ hF hI σ2 obs h hob K
theorem zG{id:Nat}{l:List Oper}(hF:E9 F)(hI:St w0 own n σ ns a w)(σ2:S)(hob:Obs P w0 own obs)
    (K:∀ns' a' w',St w0 own n σ2 ns' a' w'→Q .normal a' w') (h:A0s P l n (σ2.env.map Ent.t) σ (B3q obs)=some (σ2,obs):=by kernel_rfl):(Code.region id l.toArray false).wpIn F m P Q a w:=rg_ hF hI σ2 obs h hob K
theorem zK(hF:E9 F)(k:Nat)(hI:Inv w0 own n σ ns a w)(σ2:S){l:List Oper}(hob:Obs P w0 own obs)
    (K:∀ns' a' w',Inv w0 own n σ2 ns' a' w'→wpListIn F m P ops Q rest a' w') (hr:l.drop k=rest:=by rfl) (h:A3f P ops n k (σ2.env.map Ent.t) l σ (B3q obs)=some (σ2,obs):=by kernel_rfl):wpListIn F m P ops Q l a w:=ck_ hF k hI σ2 obs hr h hob K
theorem zD{id:Nat}{l:List Oper}{y:Code}(hF:E9 F)(hI:St w0 own n σ ns a w)(live:List Nat)(new:List Ent)(ch:List (Nat×(List EV×TypeId)))(hob:Obs P w0 own obs)
    (K:∀ns' a' w',St w0 own n (nx σ live new ch) ns' a' w'→y.wpIn F m P Q a' w') (h:A0s P l n live σ (B3q obs)=some (nx σ live new ch,obs):=by kernel_rfl):(Code.seq (Code.region id l.toArray false) y).wpIn F m P Q a w:=srn_ hF hI live new ch obs h hob K
theorem zI{id:Nat}{l:List Oper}(hF:E9 F)(hI:St w0 own n σ ns a w)(live:List Nat)(new:List Ent)(ch:List (Nat×(List EV×TypeId)))(hob:Obs P w0 own obs)
    (K:∀ns' a' w',St w0 own n (nx σ live new ch) ns' a' w'→Q .normal a' w') (h:A0s P l n live σ (B3q obs)=some (nx σ live new ch,obs):=by kernel_rfl):(Code.region id l.toArray false).wpIn F m P Q a w:=rgn_ hF hI live new ch obs h hob K
theorem zM(hF:E9 F)(k:Nat)(hI:Inv w0 own n σ ns a w)(live:List Nat)(new:List Ent)(ch:List (Nat×(List EV×TypeId))){l:List Oper}(hob:Obs P w0 own obs)
    (K:∀ns' a' w',Inv w0 own n (nx σ live new ch) ns' a' w'→wpListIn F m P ops Q rest a' w') (hr:l.drop k=rest:=by rfl) (h:A3f P ops n k live l σ (B3q obs)=some (nx σ live new ch,obs):=by kernel_rfl):wpListIn F m P ops Q l a w:=ckn_ hF k hI live new ch obs hr h hob K
end
end
abbrev Rv(w:World)(v:Value)(e:Ending)(w':World):Prop:=e=.returned v∧Below w.heap.size w w'
section
variable {α:Type} {d:Kd α}
theorem eT[Inhabited α]{S:Nat→Prop}{w:World}{A:Option Addr}{xs:List α}{i:Int}(h:Arr d S w A xs)(hb:inb i xs.length=true):
    ∃sv,El d S w ((adr A).add (i.toNat*d.sz)) (rd xs i) sv∧(true=true→A=some (adr A)):=by
  obtain ⟨sv,h1,h2⟩:=h.el i true fun _=>hb;exact ⟨sv,h1 rfl,h2⟩
theorem eG[Inhabited α]{S:Nat→Prop}{w:World}{A:Option Addr}{xs:List α}{i:Int}{g:Bool}(h:Arr d S w A xs)(hb:imp g (inb i xs.length)=true):
    ∃sv,(g=true→El d S w ((adr A).add (i.toNat*d.sz)) (rd xs i) sv)∧(g=true→A=some (adr A)):=h.el i g fun hg=>W7 hb hg
theorem eq1{S:Nat→Prop}{w:World}{x0:α}{cs:List Value}{svs:List SV}(h:d.cont S w x0 (svs.getD 0 (fun _=>(none,0)))∧(cs.drop (0*d.sz)).take d.sz=d.cells x0 (svs.getD 0 (fun _=>(none,0))))(i:Nat)(x:α)(hi: [x0][i]? =some x):
    d.cont S w x (svs.getD i (fun _=>(none,0)))∧(cs.drop (i*d.sz)).take d.sz=d.cells x (svs.getD i (fun _=>(none,0))):=by
  cases i with
  | zero=>simp only [List.getElem?_cons_zero,Option.some.injEq] at hi;subst hi;exact h
  | succ i=>simp at hi
end
section
variable {P:Program} {pm:List Nat} {w00 w0 w:World} {own:List Nat} {mine:List (List Nat)} {n:Nat} {σ:S} {ns:List Nat} {a:Act} {fn:Func} {R:Ending→World→Prop}
theorem r0{t:Nat}{e:EV}(hI:St w0 own n σ ns a w)(hR:R (.returned (e.den ns)) w)(hres:fn.results= #[.tmp t]:=by rfl)(h:I9 σ.env [] (.tmp t)=some e:=by rfl)(hlo:σ.lo=none:=by rfl):bodyPost P fn R .ret a w:=ret1 hI hres h hR hlo
theorem r1{t:Nat}{e:EV}{v:Value}(hE:Ep [] w00 w0 own mine)(hI:St w0 own n σ ns a w)(hres:fn.results= #[.tmp t]:=by rfl)(h:I9 σ.env [] (.tmp t)=some e:=by rfl)(hv:e.den ns=v:=by rfl)(hlo:σ.lo=none:=by rfl):bodyPost P fn (Rv w00 v) .ret a w:=
  ret1 hI hres h ⟨congrArg _ hv,hE.below hI⟩ hlo
theorem r2{t k:Nat}{T U:TypeId}{cs:List EV}{vs:List Value}(hI:St w0 own n σ ns a w)(hR:R (.returned (.agg vs.toArray)) w)(hres:fn.results= #[.cell t T]:=by rfl)(h:I9 σ.env [] (.tmp t)=some (.p k 0):=by rfl)
    (hk:σ.bs[k]? =some (cs,U):=by rfl) (hv:A3v cs=some vs:=by rfl) (h1:A2s P T=some true:=by rfl) (h2:szT P T=some vs.length:=by rfl) (hlo:σ.lo=none:=by rfl):bodyPost P fn R .ret a w:=B9u hI hres h hk hv h1 h2 hR hlo
end
section
variable {F:Fence} {m:Nat} {P:Program} {pm:List Nat} {w00 w:World} {mine l1 l2:List (List Nat)} {own:List Nat} {n:Nat} {σ:S} {ns:List Nat} {a:Act} {Q:Exit→Act→World→Prop} {ops:Array Oper} {rest:List Oper} {o:Oper} {S0:Nat→Prop}
theorem dW{id:Nat}{l:List Oper}{w0:World}{obs:List Ob}(live:List Nat)(hF:E9 F)(hI:St w0 own n σ ns a w)(σ2:S)(hob:Obs P w0 own obs)(K:∀a' w',St w0 own n σ2 ns a' w'→Q .normal a' w')
    (hm:P.follows .mixedOrders=true:=by kernel_rfl) (hB:Region.lexB .any l.toArray=true:=by kernel_rfl) (h:B2o P l n live σ (B3q obs)=some (σ2,obs):=by kernel_rfl):(Code.region id l.toArray true).wpIn F m P Q a w:=drawn_ hF hI σ2 obs hm hB h hob K
variable {α:Type} {d:Kd α} {e:TypeId}
theorem bS(hF:E9 F)(hE:Ep pm w00 w ns mine)(hI:Inv w ns n σ ns a w)(hw:Region.wanted o (yielded ops a.tmps)=true)(cs:List Value)(xs:List α)(svs:List SV)
    (hc:∀i x,xs[i]? =some x→d.cont (Lo S0 w00 w ns mine) w x (svs.getD i (fun _=>(none,0)))∧(cs.drop (i*d.sz)).take d.sz=d.cells x (svs.getD i (fun _=>(none,0))))
    (K:∀A a' w',(∃v,a'=a.put o.dst v)→Ep pm w00 w' ns (mine++[rb A])→Inv w' ns n (A5d σ n o.dst (some (.v (.slice A xs.length xs.length)))) ns a' w'→(∀S0,Mv (Lo S0 w00 w ns mine) w (Lo S0 w00 w' ns (mine++[rb A])) w')→(∀b,b∈mine.flatten→b∉([]:List Nat)→w'.heap[b]? =w.heap[b]?)→
      Row d e (Lo S0 w00 w' ns (mine++[rb A])) w' w00.heap.size A xs.length xs→wpListIn F m P ops Q rest a' w')
    {t:TypeId} {len:Nat} {ps:Array (Nat×Operand)} (hop:o.op=.buildSlice t len ps:=by rfl) (hall:(A85 σ.env [] o.op.operands&&A2v o.op)=true:=by kernel_rfl) (hb:bsl P t len (ps.map fun p=>(p.1,A7f σ.env [] p.2))=some (e,cs):=by kernel_rfl)
    (hlen:len=xs.length:=by rfl) (hl:cs.length=xs.length*d.sz:=by rfl) (hm:xs.length≤maxLen:=by simp [maxLen]) (hput:∀A,(V0 σ n o.dst [] (some (.v (.slice A xs.length xs.length)))).isSome=true:=by exact fun _=>by kernel_rfl):wpListIn F m P ops Q (o::rest) a w:=
  B1u hF hE hI hw hop hall hb xs svs hlen hl hm hc hput K
theorem aP{A:Option Addr}(hF:E9 F)(hE:Ep pm w00 w ns (l1++rb A::l2))(hI:Inv w ns n σ ns a w)(hw:Region.wanted o (yielded ops a.tmps)=true)
    {c:Nat} {l:List α} {A2:Option Addr} {c2:Nat} (hrow:Row d e (Lo S0 w00 w ns (l1++rb A::l2)) w w00.heap.size A c l) {y:α} (hy:Arr d (Lo S0 w00 w ns (l1++rb A::l2)) w A2 [y]) (hone:∀sv,∀u∈d.cells y sv,u.oneCell'=true)
    {t:TypeId} (ht:P.underlying t=some (.slice e)) (zi:Value×Nat×Nat) (hb1:l.length+1≤maxLen) (hb2:(l.length+1)*zi.2.2≤140737488355328)
    (K:∀A' c' a' w',(∃v,a'=a.put o.dst v)→Ep pm w00 w' ns (l1++rb A'::l2)→Inv w' ns n (A5d σ n o.dst (some (.v (.slice A' (l++[y]).length c')))) ns a' w'→(∀S0,Mv (Lo S0 w00 w ns (l1++rb A::l2)) w (Lo S0 w00 w' ns (l1++rb A'::l2)) w')→(∀b,b∈(l1++rb A::l2).flatten→b∉rb A→w'.heap[b]? =w.heap[b]?)→
      Row d e (Lo S0 w00 w' ns (l1++rb A'::l2)) w' w00.heap.size A' c' (l++[y])→wpListIn F m P ops Q rest a' w')
    {s x:Operand} (hop:o.op=.call {callee:=.builtin .append,args:= #[s,x],argTypes:= #[t,t]}:=by rfl) (hs:I9 σ.env [] s=some (.v (.slice A l.length c)):=by kernel_rfl) (hx:I9 σ.env [] x=some (.v (.slice A2 1 c2)):=by kernel_rfl)
    (hzi:A7h P e=some zi:=by kernel_rfl) (hsz:zi.2.1=d.sz:=by rfl) (hzs:Nat.beq zi.1.cells.size d.sz=true:=by kernel_rfl) (hput:∀A' c',(V0 σ n o.dst [] (some (.v (.slice A' (l++[y]).length c')))).isSome=true:=by exact fun _ _=>by kernel_rfl):wpListIn F m P ops Q (o::rest) a w:=
  B65 hF hE hI hw hop hs hx hrow hy hone ht hzi hsz hzs hb1 hb2 hput K
theorem cH(hF:E9 F)(hE:Ep pm w00 w ns mine)(hI:Inv w ns n σ ns a w)(hw:Region.wanted o (yielded ops a.tmps)=true){f:FuncId}{args:List Value}
    (hent:∀args w,(callFunc f args).run P w=.ok (.enter f args) w) (val:SV→Value) {Rf:SV→World→Prop}
    (hc:Calls P f args.toArray w fun e w'=>∃sv,e=.returned (val sv)∧Below w.heap.size w w'∧Rf sv w')
    (K:∀sv a' w',(∃v,a'=a.put o.dst v)→Ep pm w00 w' ns mine→Inv w' ns n (A5d σ n o.dst (some (.v (val sv)))) ns a' w'→(∀S0,Mv (Lo S0 w00 w ns mine) w (Lo S0 w00 w' ns mine) w')→(∀b,b∈mine.flatten→b∉([]:List Nat)→w'.heap[b]? =w.heap[b]?)→
      (∀S0,Mv (fun b=>w.heap.size≤b∨Lo S0 w00 w ns mine b) w' (Lo S0 w00 w' ns mine) w')→Rf sv w'→wpListIn F m P ops Q rest a' w')
    {es:List EV} {cs:List Value} (hco:A1e σ [] o=some (f,es,cs):=by rfl) (hv:A23 es cs=some args:=by rfl) (hput:∀sv,(V0 σ n o.dst [] (some (.v (val sv)))).isSome=true:=by exact fun _=>by kernel_rfl):wpListIn F m P ops Q (o::rest) a w:=
  B84 hF hE hI hw hco hv hent val Rf hc hput K
theorem cO(hF:E9 F)(hE:Ep pm w00 w ns mine)(hI:Inv w ns n σ ns a w)(hw:Region.wanted o (yielded ops a.tmps)=true){f:FuncId}{args:List Value}
    (hent:∀args w,(callFunc f args).run P w=.ok (.enter f args) w) {X:Type} (val:X→Value) (ix:List Nat) (Fs:X→List (List Nat)) {Rf:X→World→Prop}
    (hc:Calls P f args.toArray w fun e w'=>∃x,e=.returned (val x)∧H3 (ix.map fun i=>mine.getD i []).flatten w w'∧A9h w w' (ix.map fun i=>mine.getD i []).flatten (Fs x)∧Rf x w') (hnd:σ.lo=none∨∀b∈(ix.map fun i=>mine.getD i []).flatten,∀q,w.heap[b]? ≠some (.deferred q))
    (K:∀x a' w',(∃v,a'=a.put o.dst v)→Ep pm w00 w' ns (M2 mine ix++Fs x)→Inv w' ns n (A5d σ n o.dst (some (.v (val x)))) ns a' w'→(∀S0,Mv (Lo S0 w00 w ns mine) w (Lo S0 w00 w' ns (M2 mine ix++Fs x)) w')→(∀b∈(M2 mine ix).flatten,w'.heap[b]? =w.heap[b]?)→
      (∀S0,(∀b∈pm,S0 b)→Mv (fun b=>b∉(Fs x).flatten∧(w.heap.size≤b∨Lo S0 w00 w ns mine b∨b∈(ix.map fun i=>mine.getD i []).flatten)) w' (Lo S0 w00 w' ns (M2 mine ix++Fs x)) w')→Rf x w'→wpListIn F m P ops Q rest a' w')
    {es:List EV} {cs:List Value} (hco:A1e σ [] o=some (f,es,cs):=by rfl) (hv:A23 es cs=some args:=by rfl) (hput:∀x,(V0 σ n o.dst [] (some (.v (val x)))).isSome=true:=by exact fun _=>by kernel_rfl):wpListIn F m P ops Q (o::rest) a w:=
  B85 hF hE hI hw hco hv hent val ix Fs Rf hc hnd hput K
end
theorem Kz{α:Sort _}{a b:α}(h:a=b:=by kernel_rfl):a=b:=h
theorem eqN{α:Type}{Q:Nat→α→Prop}(i:Nat)(x:α)(h:([]:List α)[i]? =some x):Q i x:=by simp at h
theorem eqC{α:Type}{Q:Nat→α→Prop}{x0:α}{xs:List α}(h:Q 0 x0)(r:∀i x,xs[i]? =some x→Q (i+1) x)(i:Nat)(x:α)(hi:(x0::xs)[i]? =some x):Q i x:=by
  cases i with
  | zero=>simp only [List.getElem?_cons_zero,Option.some.injEq] at hi;subst hi;exact h
  | succ i=>exact r i x (by simpa using hi)
theorem rq{P:Program}{w00 w0 w:World}{own:List Nat}{mine:List (List Nat)}{n:Nat}{σ:S}{ns:List Nat}{a:Act}{fn:Func}{β:Type}{x r:β}{val:β→Value}{t:Nat}{e:EV}(h:some x=some r)(hE:Ep [] w00 w0 own mine)(hI:St w0 own n σ ns a w)
    (hres:fn.results= #[.tmp t]:=by rfl) (h1:I9 σ.env [] (.tmp t)=some e:=by rfl) (hv:e.den ns=val x:=by rfl) (hlo:σ.lo=none:=by rfl):bodyPost P fn (Rv w00 (val r)) .ret a w:=by
  obtain rfl:=Option.some.inj h;exact r1 hE hI hres h1 hv hlo
end Go.Eng
