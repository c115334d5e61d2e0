/- Own engine: walks of whole regions by evaluation in the kernel. No statement of the seat is proved here. Conditions: none. -/
import Derived.Test.YtdpfnklgdkigdaaGreatDoorEngB
set_option linter.unusedVariables false
set_option linter.unusedSimpArgs false
namespace Go.Eng
open Go Go.RowKit
inductive En where
  | q (d:Tmp) (e:EV) (obs:List Ob)
  | s (d:Option Tmp)
  | t (d:Option Tmp) (e:Option EV)
  | no
  | a (d:Tmp) (T:TypeId) (zs:List Value) (p:Option Nat)
  deriving Inhabited
inductive Sp where
  | q (ks:List Nat) (orc:List (List Value))
  | p (ks:List Nat) (orc:List (List Value))
  | s (ks:List Nat)
  | t (e:Option EV)
  | no
  | l (b:Bool) (sp:Sp)
  | a (p:Option Nat)
def En.ent:En→Option Ent
  | .q d e _=>some ⟨d,[],e⟩
  | .s (some d)=>some ⟨d,[],.v (.tuple #[])⟩
  | .t (some d) (some e)=>some ⟨d,[],e⟩
  | _=>none
def En.dst:En→Option Tmp
  | .q d _ _=>some d
  | .s d=>d
  | .t d _=>d
  | .no=>none
  | .a d _ _ _=>some d
def envT(tb:List En):List Nat→Option (List Ent)
  | []=>some []
  | k::r=>match tb[k]?,envT tb r with | some x,some l=>(match x.ent with | some y=>some (y::l) | none=>none) | _,_=>none
def freshE(σ:S)(tb:List En)(d:Tmp):Bool:=σ.env.all (fun x=>!Nat.beq x.t d)&&tb.all (fun x=>match x.dst with | some d'=>!Nat.beq d' d | none=>true)
def freshO(σ:S)(tb:List En)(n:Nat):Option Tmp→Bool
  | some d=>Nat.blt d n&&freshE σ tb d
  | none=>true
def S.wth(σ:S)(env:List Ent):S:=⟨env++σ.env,[],[],σ.bs,σ.lo,σ.pin⟩
def optT:Option Bool→Bool
  | some true=>true
  | _=>false
def optF:Option Bool→Bool
  | some false=>true
  | _=>false
def pickOf(env:List Ent)(o:Oper):Option Operand:=
  match o.op with
  | .pick c x y=>match boolOf (oEnv env [] c) with | some true=>some x | some false=>some y | none=>none
  | _=>none
def mkEn(P:Program)(σ:S)(n:Nat)(ops:Array Oper)(tb:List En)(o:Oper):Sp→Option En
  | .q ks orc=>
    match o.dst,envT tb ks with
    | some d,some env=>
      bif freshO σ tb n o.dst&&ks.all (bindsTo o)&&optT (wantB ops (σ.wth env) o.guard) then
        match chkQ P σ {o with guard:=none} env orc with | some (e,obs)=>bif e.wf σ.bs.length then some (.q d e obs) else none | none=>none
      else none
    | _,_=>none
  | .p ks orc=>
    match o.dst,envT tb ks with
    | some d,some env=>
      bif freshO σ tb n o.dst&&ks.all (bindsTo o)&&optT (wantB ops (σ.wth env) o.guard) then
        match pickOf (env++σ.env) o with
        | some x=>match chkQ P σ {o with guard:=none,op:=.move x} env orc with | some (e,obs)=>bif e.wf σ.bs.length then some (.q d e obs) else none | none=>none
        | none=>none
      else none
    | _,_=>none
  | .s ks=>
    match envT tb ks with
    | some env=>bif freshO σ tb n o.dst&&ks.all (bindsTo o)&&(optF (wantB ops (σ.wth env) o.guard)||undB ops (σ.wth env) o.guard) then some (.s o.dst) else none
    | none=>none
  | .t e=>bif freshO σ tb n o.dst then some (.t o.dst e) else none
  | .no=>some .no
  | .a p=>
    match o.op,o.dst with
    | .alloc T,some d=>bif freshO σ tb n o.dst&&isNone o.guard then (match P.info? T with | some i=>(match i.zero with | some z=>some (.a d T z.cells.toList p) | none=>none) | none=>none) else none
    | _,_=>none
  | .l b sp=>match mkEn P σ n ops tb o sp with | some (.q d (.v (.bool c)) obs)=>some (.q d (.v (.bool b)) (.need true (c=b)::obs)) | _=>none
def mkAll(P:Program)(σ:S)(n:Nat)(ops:Array Oper):List En→List Oper→List Sp→Option (List En)
  | tb,[],[]=>some tb
  | tb,o::l,d::ds=>match mkEn P σ n ops tb o d with | some x=>mkAll P σ n ops (tb++[x]) l ds | none=>none
  | _,_,_=>none
theorem mkAll_at{P:Program}{σ:S}{n:Nat}{ops:Array Oper}:∀ {l:List Oper} {ds:List Sp} {tb rs:List En},mkAll P σ n ops tb l ds=some rs→tb <+: rs∧rs.length=tb.length+l.length∧∀i o,l[i]? =some o→∃d x,mkEn P σ n ops (rs.take (tb.length+i)) o d=some x∧rs[tb.length+i]? =some x
  | [],[],tb,rs,h=>by
    simp only [mkAll,Option.some.injEq] at h;subst h;exact ⟨List.prefix_refl _,by simp,fun i o hi=>by simp at hi⟩
  | o ::l,d::ds,tb,rs,h=>by
    simp only [mkAll] at h;split at h
    · rename_i x hx;obtain ⟨h1,h2,h3⟩:=mkAll_at h;obtain ⟨t,ht⟩:=h1;refine ⟨⟨x::t,by rw [← ht];simp⟩,by rw [h2];simp;omega,fun i o' hi=>?_⟩;cases i with
      | zero=>
        simp only [List.getElem?_cons_zero,Option.some.injEq] at hi;subst hi;refine ⟨d,x,?_,?_⟩
        · rw [← ht];simp [List.take_append_of_le_length,hx]
        · rw [← ht];simp
      | succ i=>
        obtain ⟨d',x',g1,g2⟩:=h3 i o' (by simpa using hi);have:(tb++[x]).length+i=tb.length+(i+1):=by simp;omega
        rw [this] at g1 g2;exact ⟨d',x',g1,g2⟩
    · cases h
  | [],_::_,_,_,h=>by simp [mkAll] at h
  | _::_,[],_,_,h=>by simp [mkAll] at h
structure DS (w0:World) (own:List Nat) (n:Nat) (σ:S) (ns:List Nat) (tb:List En) (listed:Array Bool) (a:Act) (w:World):Prop where
  base:Inv w0 own n σ ns a w
  val:∀(i:Nat) (y:En) (x:Ent),tb[i]? =some y→y.ent=some x→Lst listed i→a.tmps[x.t]? =some (x.e.den ns)
  un:∀i:Nat,tb[i]? =some .no→¬Lst listed i
  dn:∀(i:Nat) d e,tb[i]? =some (.t d e)→Lst listed i
  al:∀(i:Nat) d T zs p,tb[i]? =some (.a d T zs p)→(∀b,p=some b→Lst listed i)∧(Lst listed i→∃b,(p=some b∨(p=none∧w0.heap.size≤b))∧b<w.heap.size∧b∉ns∧a.tmps[d]? =some (.pointer (some ⟨b,0,none⟩))∧w.heap[b]? =some (.cells zs.toArray T (0,0)))
  ad:∀(i j:Nat) d T zs p d' T' zs' p',i≠j→tb[i]? =some (.a d T zs p)→tb[j]? =some (.a d' T' zs' p')→Lst listed i→Lst listed j→a.tmps[d]? ≠a.tmps[d']?
def obsE(tb:List En):List Ob:=match tb with | []=>[] | .q _ _ obs::r=>obs++obsE r | _::r=>obsE r
theorem obsE_at{P:Program}{w0:World}{own:List Nat}:∀ {tb:List En},Obs P w0 own (obsE tb)→∀(i:Nat) d e obs,tb[i]? =some (.q d e obs)→Obs P w0 own obs
  | [],h,i,d,e,obs,hi=>by simp at hi
  | r ::rs,h,i,d,e,obs,hi=>by
    cases i with
    | zero=>
      simp only [List.getElem?_cons_zero,Option.some.injEq] at hi;subst hi;simp only [obsE] at h;rw [Obs_append] at h;exact h.1
    | succ i=>
      simp only [List.getElem?_cons_succ] at hi;cases r with
      | q d' e' obs'=>simp only [obsE] at h;rw [Obs_append] at h;exact obsE_at h.2 i d e obs hi
      | s=>exact obsE_at (tb:=rs) h i d e obs hi
      | t=>exact obsE_at (tb:=rs) h i d e obs hi
      | no=>exact obsE_at (tb:=rs) h i d e obs hi
      | a=>exact obsE_at (tb:=rs) h i d e obs hi
def rdyFrom(tb:List En)(t:List Nat):Nat→List Oper→Bool
  | _,[]=>true
  | i,o::l=>(match tb[i]? with
    | some .no=>t.any (Nat.beq i)||(List.range tb.length).any (fun k=>(match tb[k]? with | some .no=>true | _=>false)&&bindsTo o k)
    | _=>true)&&rdyFrom tb t (i+1) l
theorem rdyFrom_spec{tb:List En}{t:List Nat}:∀ {l:List Oper} {i:Nat},rdyFrom tb t i l=true→∀(j:Nat) (o:Oper),l[j]? =some o→tb[i+j]? =some .no→(i+j)∈t∨∃k,tb[k]? =some .no∧bindsTo o k=true
  | [],i,h,j,o,hj,_=>by simp at hj
  | o' ::l,i,h,j,o,hj,hn=>by
    simp only [rdyFrom,Bool.and_eq_true] at h;cases j with
    | zero=>
      simp only [List.getElem?_cons_zero,Option.some.injEq] at hj;subst hj;have h1:=h.1;rw [Nat.add_zero] at hn ⊢;rw [hn] at h1;simp only [Bool.or_eq_true] at h1;rcases h1 with h1 | h1
      · left;obtain ⟨q,hq,he⟩:=List.any_eq_true.1 h1;rw [Nat.eq_of_beq_eq_true he];exact hq
      · right;obtain ⟨k,_,hk⟩:=List.any_eq_true.1 h1;simp only [Bool.and_eq_true] at hk;refine ⟨k,?_,hk.2⟩;have:=hk.1;split at this
        · assumption
        · cases this
    | succ j=>
      have:=rdyFrom_spec h.2 j o (by simpa using hj) (by rw [show i+1+j=i+(j+1) by omega];exact hn)
      rwa [show i+1+j=i+(j+1) by omega] at this
section
variable {F:Fence} {m:Nat} {P:Program} {w0 w1:World} {own own1:List Nat} {n:Nat} {σ σ':S} {ns:List Nat} {a a':Act} {w w':World} {o:Oper} {Q:Exit→Act→World→Prop}
variable {l:List Oper} {ds:List Sp} {tb tb':List En} {listed:Array Bool}
theorem envT_mem:∀ {ks:List Nat} {env:List Ent},envT tb ks=some env→∀x∈env,∃k y,k∈ks∧tb[k]? =some y∧y.ent=some x
  | [],env,h,x,hx=>by simp only [envT,Option.some.injEq] at h;subst h;simp at hx
  | k :: r,env,h,x,hx=>by
    simp only [envT] at h;split at h
    · rename_i y l hy hl;split at h
      · rename_i z hz;simp only [Option.some.injEq] at h;subst h;rcases List.mem_cons.1 hx with rfl | hx
        · exact ⟨k,y,by simp,hy,hz⟩
        · obtain ⟨k',y',h1,h2,h3⟩:=envT_mem hl x hx;exact ⟨k',y',by simp [h1],h2,h3⟩
      · cases h
    · cases h
theorem En.wfE(h:mkAll P σ n l.toArray [] l ds=some tb){i:Nat}{y:En}{x:Ent}(hi:tb[i]? =some y)(hx:y.ent=some x)(hw:∀d e,y=.t d (some e)→e.wf σ.bs.length=true):x.e.wf σ.bs.length=true∧x.p=[]:=by
  obtain ⟨_,hlen,hat⟩:=mkAll_at h;have hil:i<l.length:=by have:=(List.getElem?_eq_some_iff.1 hi).1;simp at hlen;omega
  obtain ⟨d,z,h1,h2⟩:=hat i _ (List.getElem?_eq_getElem hil);simp only [List.length_nil,Nat.zero_add] at h1 h2;rw [hi] at h2;simp only [Option.some.injEq] at h2;subst h2;cases y with
  | q dd e obs=>
    simp only [En.ent,Option.some.injEq] at hx;subst hx;refine ⟨?_,rfl⟩;cases d with
    | q ks orc=>
      simp only [mkEn,Bool.cond_eq_ite] at h1
      repeat' (split at h1)
      all_goals first | (cases h1;done) | skip
      simp only [Option.some.injEq,En.q.injEq] at h1;obtain ⟨_,rfl,_⟩:=h1;assumption
    | p ks orc=>
      simp only [mkEn,Bool.cond_eq_ite] at h1
      repeat' (split at h1)
      all_goals first | (cases h1;done) | skip
      simp only [Option.some.injEq,En.q.injEq] at h1;obtain ⟨_,rfl,_⟩:=h1;assumption
    | s ks=>simp only [mkEn,Bool.cond_eq_ite] at h1;repeat' (split at h1);all_goals first | (cases h1;done) | skip
    | t e=>simp only [mkEn,Bool.cond_eq_ite] at h1;split at h1<;>cases h1
    | no=>cases h1
    | a p=>simp only [mkEn,Bool.cond_eq_ite] at h1;repeat' (split at h1);all_goals (first | (cases h1;done) | skip)
    | l b sp=>
      simp only [mkEn] at h1;split at h1
      · simp only [Option.some.injEq,En.q.injEq] at h1;obtain ⟨_,rfl,_⟩:=h1;rfl
      · cases h1
  | s dd=>
    cases dd with
    | none=>cases hx
    | some dd=>simp only [En.ent,Option.some.injEq] at hx;subst hx;exact ⟨rfl,rfl⟩
  | t dd e=>
    cases dd with
    | none=>cases hx
    | some dd=>
      cases e with
      | none=>cases hx
      | some e=>simp only [En.ent,Option.some.injEq] at hx;subst hx;exact ⟨hw _ _ rfl,rfl⟩
  | no=>cases hx
  | a=>cases hx
def wfT(σ:S)(tb:List En):Bool:=tb.all fun x=>match x with | .t _ (some e)=>e.wf σ.bs.length | _=>true
theorem wfT_spec(h:wfT σ tb=true){i:Nat}{y:En}(hi:tb[i]? =some y):∀d e,y=.t d (some e)→e.wf σ.bs.length=true:=by
  intro d e he;subst he;exact List.all_eq_true.1 h _ (List.mem_of_getElem? hi)
theorem DS.inv(hJ:DS w0 own n σ ns tb listed a w)(hp:∀x∈σ.env,x.p=[])(hwf:∀(i:Nat) (y:En) (x:Ent),tb[i]? =some y→y.ent=some x→x.e.wf σ.bs.length=true∧x.p=[]){env:List Ent}(henv:∀x∈env,∃k y,Lst listed k∧tb[k]? =some y∧y.ent=some x):Inv w0 own n (σ.wth env) ns a w:=by
  refine ⟨hJ.base.size,hJ.base.defers,fun x hx=>?_,fun x hx=>?_,hJ.base.bwf,fun x hx=>by simp [S.wth] at hx,hJ.base.loc,hJ.base.pin⟩
  · rcases List.mem_append.1 hx with hx | hx
    · obtain ⟨k,y,h1,h2,h3⟩:=henv x hx;have:=hJ.val k y x h2 h3 h1;rw [(hwf k y x h2 h3).2]
      simpa [pathB,gvv,S.wth] using this
    · have:=hJ.base.env x hx;rw [hp x hx] at this ⊢
      simpa [pathB,gvv,S.wth] using this
  · rcases List.mem_append.1 hx with hx | hx
    · obtain ⟨k,y,h1,h2,h3⟩:=henv x hx;obtain ⟨g1,g2⟩:=hwf k y x h2 h3;exact ⟨g1,by rw [g2];intro y hy;simp at hy⟩
    · exact ⟨(hJ.base.ewf x hx).1,by rw [hp x hx];intro y hy;simp at hy⟩
theorem wpIn_of_run{o':Oper}(hd:o'.dst=o.dst){K:Act→World→Prop}(hrun:(o'.semAt F.round a.eval).run P w=(o.semAt F.round a.eval).run P w)(hF:FOpen F)(h:o'.wpIn F m P a w K Q):o.wpIn F m P a w K Q:=by
  unfold Oper.wpIn at h ⊢;refine ⟨fun f _=>hF.fn f,?_⟩;have h2:=h.2;rw [hrun] at h2;generalize (o.semAt F.round a.eval).run P w=r at*
  cases r with
  | ok x w'=>cases x<;>simp only [Oper.uponIn,hd] at h2 ⊢ <;>exact h2
  | halt x w'=>cases x<;>simp only [Oper.uponIn] at h2 ⊢ <;>exact h2
theorem DS.upd(hJ:DS w0 own n σ ns tb listed a w){i:Nat}{y:En}(hy:tb[i]? =some y)(hn:y≠ .no)(hna:∀d T zs p,y≠ .a d T zs p)(hbl:Below w.heap.size w w')(hsz:i<listed.size){v:Value}(hI:Inv w0 own n σ ns (a.put o.dst v) w')(hd:∀d,o.dst=some d→d<n)(hv:∀x,y.ent=some x→o.dst=some x.t∧v=x.e.den ns)
    (hne:∀(k:Nat) (z:En),k≠i→tb[k]? =some z→∀d,z.dst=some d→o.dst≠some d) (hdst:∀(z:En) (x:Ent),z.ent=some x→z.dst=some x.t):DS w0 own n σ ns tb (listed.setIfInBounds i true) (a.put o.dst v) w':=by
  have hst:∀k,Lst (listed.setIfInBounds i true) k↔Lst listed k∨k=i:=fun k=>Lst_set hsz;have hki:∀ {k:Nat} {d T zs p},tb[k]? =some (.a d T zs p)→k≠i:=fun {k d T zs p} hk hh=>by subst hh;rw [hy] at hk;simp only [Option.some.injEq] at hk;exact hna _ _ _ _ hk
  have hp:∀ {k:Nat} {d T zs p},tb[k]? =some (.a d T zs p)→(a.put o.dst v).tmps[d]? =a.tmps[d]? :=fun {k d T zs p} hk=>by
    have hne':=hne k _ (hki hk) hk d rfl;cases ho:o.dst with
    | none=>rfl
    | some d'=>rw [put_at hJ.base.size (hd d' ho),if_neg (fun e=>hne' (by rw [ho,e]))]
  refine ⟨hI,fun k z x hz hx hl=>?_,fun k hk hl=>?_,fun k d e hk=>(hst k).2 (.inl (hJ.dn k d e hk)),fun k d T zs p hk=>⟨fun b hb=>(hst k).2 (.inl ((hJ.al k d T zs p hk).1 b hb)),fun hl=>?_⟩,fun k j d T zs p d' T' zs' p' hkj hk hj hlk hlj=>?_⟩
  rotate_left 2
  · obtain ⟨b,h1,h2,h3,h4,h5⟩:=(hJ.al k d T zs p hk).2 (((hst k).1 hl).resolve_right (hki hk));exact ⟨b,h1,Nat.lt_of_lt_of_le h2 hbl.size,h3,by rw [hp hk];exact h4,by rw [hbl.block _ h2];exact h5⟩
  · rw [hp hk,hp hj];exact hJ.ad k j _ _ _ _ _ _ _ _ hkj hk hj (((hst k).1 hlk).resolve_right (hki hk)) (((hst j).1 hlj).resolve_right (hki hj))
  · by_cases hki:k=i
    · subst hki;rw [hy] at hz;simp only [Option.some.injEq] at hz;subst hz;obtain ⟨h1,h2⟩:=hv x hx;rw [h1,put_at hJ.base.size (hd _ h1),if_pos rfl,h2]
    · have hlk:Lst listed k:=((hst k).1 hl).resolve_right hki;have hne':=hne k z hki hz x.t (hdst z x hx);have h0:=hJ.val k z x hz hx hlk;cases ho:o.dst with
      | none=>exact h0
      | some d=>
        rw [put_at hJ.base.size (hd d ho),if_neg (fun e=>hne' (by rw [ho,e]))];exact h0
  · rcases (hst k).1 hl with h | rfl
    · exact hJ.un k hk h
    · rw [hy] at hk;simp only [Option.some.injEq] at hk;exact hn hk
theorem ent_dst(z:En)(x:Ent)(h:z.ent=some x):z.dst=some x.t:=by
  cases z with
  | q d e obs=>simp only [En.ent,Option.some.injEq] at h;subst h;rfl
  | s d=>cases d<;>simp only [En.ent] at h<;>cases h;rfl
  | t d e=>cases d<;>cases e<;>simp only [En.ent] at h<;>cases h;rfl
  | no=>cases h
  | a=>cases h
theorem freshE_spec{d:Tmp}(h:freshE σ tb d=true):(∀x∈σ.env,x.t≠d)∧∀x∈tb,x.dst≠some d:=by
  unfold freshE at h;simp only [Bool.and_eq_true,List.all_eq_true] at h;refine ⟨fun x hx he=>?_,fun x hx he=>?_⟩
  · have:=h.1 x hx;rw [he] at this;simp at this
  · have:=h.2 x hx;rw [he] at this;simp at this
theorem mkEn_fresh{sp:Sp}{y:En}{ops:Array Oper}(h:mkEn P σ n ops tb o sp=some y)(hn:y≠ .no):freshO σ tb n o.dst=true∧y.dst=o.dst:=by
  induction sp generalizing y with
  | q ks orc=>
    simp only [mkEn,Bool.cond_eq_ite] at h
    repeat' (split at h)
    all_goals first | (cases h;done) | skip
    rename_i d env hd _ hb _ e obs _ _;simp only [Option.some.injEq] at h;subst h;simp only [Bool.and_eq_true] at hb;exact ⟨hb.1.1,hd.symm⟩
  | p ks orc=>
    simp only [mkEn,Bool.cond_eq_ite] at h
    repeat' (split at h)
    all_goals first | (cases h;done) | skip
    rename_i d env hd _ hb _ _ _ _ e obs _ _;simp only [Option.some.injEq] at h;subst h;simp only [Bool.and_eq_true] at hb;exact ⟨hb.1.1,hd.symm⟩
  | s ks=>
    simp only [mkEn,Bool.cond_eq_ite] at h
    repeat' (split at h)
    all_goals first | (cases h;done) | skip
    rename_i hb;simp only [Option.some.injEq] at h;subst h;simp only [Bool.and_eq_true] at hb;exact ⟨hb.1.1,rfl⟩
  | t e=>
    simp only [mkEn,Bool.cond_eq_ite] at h;split at h
    · rename_i hb;simp only [Option.some.injEq] at h;subst h;exact ⟨hb,rfl⟩
    · cases h
  | no=>simp only [mkEn,Option.some.injEq] at h;exact absurd h.symm hn
  | a p=>
    simp only [mkEn,Bool.cond_eq_ite] at h
    repeat' (split at h)
    all_goals first | (cases h;done) | skip
    rename_i d _ hd hb _ _ _ _ _ _;simp only [Option.some.injEq] at h;subst h;simp only [Bool.and_eq_true] at hb;exact ⟨hb.1,hd.symm⟩
  | l b sp ih=>
    simp only [mkEn] at h;split at h
    · rename_i d c obs hq;have h3:= @ih (.q d (.v (.bool c)) obs) hq (by intro hh;cases hh);simp only [Option.some.injEq] at h;subst h;exact h3
    · cases h
theorem mkAll_ne(h:mkAll P σ n l.toArray [] l ds=some tb){i k:Nat}{o:Oper}{y z:En}(ho:l[i]? =some o)(hy:tb[i]? =some y)(hyn:y≠ .no)(hki:k≠i)(hz:tb[k]? =some z)(d:Tmp)(hd:z.dst=some d):o.dst≠some d:=by
  obtain ⟨_,hlen,hat⟩:=mkAll_at h;simp only [List.length_nil,Nat.zero_add] at hlen hat;have hkl:k<l.length:=by have:=(List.getElem?_eq_some_iff.1 hz).1;omega
  have hzn:z≠ .no:=by rintro rfl;cases hd
  obtain ⟨dk,zk,g1,g2⟩:=hat k _ (List.getElem?_eq_getElem hkl);rw [hz] at g2;simp only [Option.some.injEq] at g2;subst g2;obtain ⟨di,zi,e1,e2⟩:=hat i o ho;rw [hy] at e2;simp only [Option.some.injEq] at e2;subst e2;obtain ⟨f1,f2⟩:=mkEn_fresh g1 hzn;obtain ⟨p1,p2⟩:=mkEn_fresh e1 hyn;intro hoo;rcases Nat.lt_or_gt_of_ne hki with hlt | hgt
  · rw [hoo] at p1;simp only [freshO,Bool.and_eq_true] at p1;exact (freshE_spec p1.2).2 z (List.mem_of_getElem? (i:=k) (by rw [List.getElem?_take,if_pos hlt];exact hz)) hd
  · rw [← f2,hd] at f1;simp only [freshO,Bool.and_eq_true] at f1;exact (freshE_spec f1.2).2 y (List.mem_of_getElem? (i:=i) (by rw [List.getElem?_take,if_pos hgt];exact hy)) (p2.trans hoo)
end
section
variable {F:Fence} {m:Nat} {P:Program} {w0 w1:World} {own own1:List Nat} {n:Nat} {σ σ':S} {ns:List Nat} {a a':Act} {w w':World} {o:Oper} {Q:Exit→Act→World→Prop}
variable {l:List Oper} {ds:List Sp} {tb tb':List En} {listed:Array Bool}
theorem optT_eq{x:Option Bool}(h:optT x=true):x=some true:=by
  unfold optT at h;split at h<;>simp_all
theorem optF_eq{x:Option Bool}(h:optF x=true):x=some false:=by
  unfold optF at h;split at h<;>simp_all
theorem pick_run{c x y z:Operand}(hI:Inv w0 own n σ ns a w)(hop:o.op=.pick c x y)(h:pickOf σ.env o=some z):(execOp a.eval {o with guard:=none,op:=.move z}).run P w'=(execOp a.eval o).run P w':=by
  unfold pickOf at h;rw [hop] at h;simp only at h;have e1:(execOp a.eval {o with guard:=none,op:=.move z}).run P w'=.ok (.value (a.eval z)) w':=by simp [execOp,Sem.run_pure]
  rw [e1];split at h
  · rename_i hc;simp only [Option.some.injEq] at h;subst h;have:=hI.opnd (boolOf_eq hc) rfl;simp only [EV.den] at this;unfold execOp;rw [hop];simp [this,asBool,Sem.run_bind,Sem.run]
  · rename_i hc;simp only [Option.some.injEq] at h;subst h;have:=hI.opnd (boolOf_eq hc) rfl;simp only [EV.den] at this;unfold execOp;rw [hop];simp [this,asBool,Sem.run_bind,Sem.run]
  · cases h
theorem DS.one(hF:FOpen F){ops:Array Oper}{tb0:List En}(hinv:∀ {ks:List Nat} {env:List Ent},ks.all (bindsTo o)=true→envT tb0 ks=some env→Inv w0 own n (σ.wth env) ns a w){K:Act→World→Prop}:
    ∀(sp:Sp) (y:En),mkEn P σ n ops tb0 o sp=some y→(∀d e obs,y=.q d e obs→Obs P w0 own obs∧∀w',Below w.heap.size w w'→K (a.put o.dst (e.den ns)) w')→(∀d,y=.s d→K (a.put o.dst undef) w)→y≠ .no→(∀d e,y≠ .t d e)→(∀d T zs p,y≠ .a d T zs p)→
    (if Region.wanted o (yielded ops a.tmps)=true then o.wpIn F m P a w K Q else (∀f,o.about P w a.eval=some f→F.fn f)∧K (a.put o.dst undef) w):=by
  intro sp
  induction sp with
  | q ks orc=>
    intro y g1 hq hs hn ht hna;simp only [mkEn,Bool.cond_eq_ite] at g1
    repeat' (split at g1)
    all_goals first | (cases g1;done) | skip
    rename_i d env hd henvT hb _ e obs hq' hw;simp only [Option.some.injEq] at g1;subst g1;simp only [Bool.and_eq_true] at hb;have hI':=hinv hb.1.2 henvT;rw [wantB_spec hI' (optT_eq hb.2),if_pos rfl];obtain ⟨hob,hK⟩:=hq _ _ _ rfl;have hq1:=chkQ_sound (ops:=ops) (Q:=Q) (m:=m) hF (o:={o with guard:=none}) hI' rfl hq' hob (K:=K) hK;rw [if_pos (wanted_none rfl)] at hq1;exact wpIn_of_run (o:=o) (o':={o with guard:=none}) rfl rfl hF hq1
  | p ks orc=>
    intro y g1 hq hs hn ht hna;simp only [mkEn,Bool.cond_eq_ite] at g1
    repeat' (split at g1)
    all_goals first | (cases g1;done) | skip
    rename_i d env hd henvT hb _ z hz _ e obs hq' hw;simp only [Option.some.injEq] at g1;subst g1;simp only [Bool.and_eq_true] at hb;have hI':=hinv hb.1.2 henvT;rw [wantB_spec hI' (optT_eq hb.2),if_pos rfl];obtain ⟨c,x,yy,hop⟩:∃c x yy,o.op=.pick c x yy:=by
      unfold pickOf at hz;split at hz
      · exact ⟨_,_,_,by assumption⟩
      · cases hz
    obtain ⟨hob,hK⟩:=hq _ _ _ rfl;have hq1:=chkQ_sound (ops:=ops) (Q:=Q) (m:=m) hF (o:={o with guard:=none,op:=.move z}) hI' rfl hq' hob (K:=K) hK;rw [if_pos (wanted_none rfl)] at hq1;refine wpIn_of_run (o:=o) (o':={o with guard:=none,op:=.move z}) rfl ?_ hF hq1;rw [Oper.semAt_plain F _ _ (by intro c hc;cases hc),Oper.semAt_plain F _ _ (by intro c hc;rw [hop] at hc;cases hc)];exact pick_run hI' hop hz
  | s ks=>
    intro y g1 hq hs hn ht hna;simp only [mkEn,Bool.cond_eq_ite] at g1
    repeat' (split at g1)
    all_goals first | (cases g1;done) | skip
    rename_i env henvT hb;simp only [Option.some.injEq] at g1;subst g1;simp only [Bool.and_eq_true,Bool.or_eq_true] at hb;have hI':=hinv hb.1.2 henvT;have hw:Region.wanted o (yielded ops a.tmps)=false:=by
      rcases hb.2 with hb | hb
      · exact wantB_spec hI' (optF_eq hb)
      · exact wantU_spec hI' hb
    rw [hw];exact ⟨fun f _=>hF.fn f,hs _ rfl⟩
  | t e=>
    intro y g1 hq hs hn ht hna;simp only [mkEn] at g1;cases hfr:freshO σ tb0 n o.dst
    · rw [hfr] at g1;cases g1
    · rw [hfr] at g1;simp only [cond_true,Option.some.injEq] at g1;exact absurd g1.symm (ht _ _)
  | no=>intro y g1 hq hs hn ht hna;simp only [mkEn,Option.some.injEq] at g1;exact absurd g1.symm hn
  | a p=>
    intro y g1 hq hs hn ht hna;simp only [mkEn,Bool.cond_eq_ite] at g1
    repeat' (split at g1)
    all_goals first | (cases g1;done) | skip
    simp only [Option.some.injEq] at g1;exact absurd g1.symm (hna _ _ _ _)
  | l b sp ih=>
    intro y g1 hq hs hn ht hna;simp only [mkEn] at g1;split at g1
    · rename_i d c obs hsp;simp only [Option.some.injEq] at g1;subst g1;obtain ⟨⟨hc,hob⟩,hK⟩:=hq _ _ _ rfl;have hc:=hc rfl;subst hc;exact ih _ hsp (fun d' e' obs' he=>by simp only [En.q.injEq] at he;obtain ⟨rfl,rfl,rfl⟩:=he;exact ⟨hob,hK⟩) (fun d' he=>by cases he) (by intro he;cases he) (by intro d' e' he;cases he) (by intro d' T' zs' p' he;cases he)
    · cases g1
theorem mkEn_alloc{ops:Array Oper}{tb0:List En}{sp:Sp}{d:Tmp}{T:TypeId}{zs:List Value}{p:Option Nat}(h:mkEn P σ n ops tb0 o sp=some (.a d T zs p)):
    ∃inf z,o.op=.alloc T∧o.dst=some d∧o.guard=none∧P.info? T=some inf∧inf.zero=some z∧zs=z.cells.toList:=by
  cases sp with
  | a p=>
    simp only [mkEn,Bool.cond_eq_ite] at h
    repeat' (split at h)
    all_goals first | (cases h;done) | skip
    rename_i T' d' hop hd hb _ inf hi _ z hz;simp only [Option.some.injEq,En.a.injEq] at h;obtain ⟨rfl,rfl,rfl,rfl⟩:=h;simp only [Bool.and_eq_true] at hb;exact ⟨inf,z,hop,hd,by cases hg:o.guard<;>simp_all [isNone],hi,hz,rfl⟩
  | q=>simp only [mkEn,Bool.cond_eq_ite] at h;repeat' (split at h);all_goals (first | (cases h;done) | skip)
  | p=>simp only [mkEn,Bool.cond_eq_ite] at h;repeat' (split at h);all_goals (first | (cases h;done) | skip)
  | s=>simp only [mkEn,Bool.cond_eq_ite] at h;repeat' (split at h);all_goals (first | (cases h;done) | skip)
  | t=>simp only [mkEn,Bool.cond_eq_ite] at h;repeat' (split at h);all_goals (first | (cases h;done) | skip)
  | no=>cases h
  | l b sp=>
    simp only [mkEn] at h;split at h
    · cases h
    · cases h
theorem DS.lay(hF:FOpen F){ops:Array Oper}{tb0:List En}{sp:Sp}{i:Nat}{d:Tmp}{T:TypeId}{zs:List Value}{p:Option Nat}(hJ:DS w0 own n σ ns tb listed a w)(g1:mkEn P σ n ops tb0 o sp=some (.a d T zs p))(g2:tb[i]? =some (.a d T zs p))
    (hsz:i<listed.size) (hnl:¬Lst listed i) (hdn:d<n) (hfe:∀x∈σ.env,x.t≠d) (hne:∀(k:Nat) (z:En),k≠i→tb[k]? =some z→∀d',z.dst=some d'→d≠d') {K:Act→World→Prop}
    (hK:∀a' w',DS w0 own n σ ns tb (listed.setIfInBounds i true) a' w'→K a' w'):
    (if Region.wanted o (yielded ops a.tmps)=true then o.wpIn F m P a w K Q else (∀f,o.about P w a.eval=some f→F.fn f)∧K (a.put o.dst undef) w):=by
  obtain ⟨inf,z,hop,hd,hg,hi,hz,rfl⟩:=mkEn_alloc g1;rw [if_pos (wanted_none hg)];have he:evOp P σ [] [] o=some (.new (z.cells.toList.map .v) T none):=by
    unfold evOp;rw [hop];simp [isNil,hi,hz]
  obtain ⟨_,_,hrun⟩:=evOp_new hJ.base he;rw [map_den_v] at hrun;unfold Oper.wpIn;refine ⟨fun f _=>hF.fn f,?_⟩;rw [Oper.semAt_plain F _ _ (by rw [hop];intro c hc;cases hc),hrun];show K (a.put o.dst (.pointer (some ⟨w.heap.size,0,none⟩))) (w.alloc (.cells z.cells.toList.toArray T));rw [hd];refine hK _ _ ?_;have hb:Below w.heap.size w (w.alloc (.cells z.cells.toList.toArray T)):=(Below.refl _ _).alloc (Nat.le_refl _) _;have hst:∀k,Lst (listed.setIfInBounds i true) k↔Lst listed k∨k=i:=fun k=>Lst_set hsz;have hput:∀ {k:Nat} {z':En} {d':Tmp},k≠i→tb[k]? =some z'→z'.dst=some d'→(a.put (some d) (Value.pointer (some ⟨w.heap.size,0,none⟩))).tmps[d']? =a.tmps[d']? :=fun {k z' d'} hki hk hd'=>by
    rw [put_at hJ.base.size hdn,if_neg (fun hh=>hne k z' hki hk d' hd' hh.symm)]
  have hself:(a.put (some d) (Value.pointer (some ⟨w.heap.size,0,none⟩))).tmps[d]? =some (.pointer (some ⟨w.heap.size,0,none⟩)):=by rw [put_at hJ.base.size hdn,if_pos rfl]
  refine ⟨(hJ.base.below hb).put_other hfe,fun k y x hk hx hl=>?_,fun k hk hl=>?_,fun k d' e hk=>(hst k).2 (.inl (hJ.dn k d' e hk)),fun k d' T' zs' p' hk=>⟨fun b hb'=>(hst k).2 (.inl ((hJ.al k d' T' zs' p' hk).1 b hb')),fun hl=>?_⟩,fun k j d1 T1 z1 p1 d2 T2 z2 p2 hkj hk hj hlk hlj=>?_⟩
  · have hki:k≠i:=fun hh=>by subst hh;rw [g2] at hk;simp only [Option.some.injEq] at hk;subst hk;cases hx
    rw [hput hki hk (ent_dst y x hx)];exact hJ.val k y x hk hx (((hst k).1 hl).resolve_right hki)
  · rcases (hst k).1 hl with h | rfl
    · exact hJ.un k hk h
    · rw [g2] at hk;cases hk
  · by_cases hki:k=i
    · subst hki;rw [g2] at hk;simp only [Option.some.injEq,En.a.injEq] at hk;obtain ⟨rfl,rfl,rfl,rfl⟩:=hk;refine ⟨w.heap.size,.inr ⟨?_,hJ.base.loc.base.size⟩,by simp,fun hh=>by have:=hJ.base.loc.lt hh;omega,hself,heap_alloc_new w _⟩;cases hp:p with
      | none=>rfl
      | some b=>exact absurd ((hJ.al k _ _ _ _ g2).1 b hp) hnl
    · obtain ⟨b,h1,h2,h3,h4,h5⟩:=(hJ.al k d' T' zs' p' hk).2 (((hst k).1 hl).resolve_right hki);exact ⟨b,h1,Nat.lt_of_lt_of_le h2 hb.size,h3,by rw [hput hki hk rfl];exact h4,by rw [hb.block _ h2];exact h5⟩
  · have old:∀ {k j:Nat} {d1 T1 z1 p1 d2 T2 z2 p2},k=i→j≠i→tb[k]? =some (.a d1 T1 z1 p1)→tb[j]? =some (.a d2 T2 z2 p2)→Lst (listed.setIfInBounds i true) j→(a.put (some d) (Value.pointer (some ⟨w.heap.size,0,none⟩))).tmps[d1]? ≠(a.put (some d) (Value.pointer (some ⟨w.heap.size,0,none⟩))).tmps[d2]? :=fun {k j d1 T1 z1 p1 d2 T2 z2 p2} e1 e2 hk hj hlj=>by
      subst e1;rw [g2] at hk;simp only [Option.some.injEq,En.a.injEq] at hk;obtain ⟨rfl,rfl,rfl,rfl⟩:=hk;obtain ⟨b,_,h2,_,h4,_⟩:=(hJ.al j _ _ _ _ hj).2 (((hst j).1 hlj).resolve_right e2);rw [hself,hput e2 hj rfl,h4];intro hh;simp only [Option.some.injEq,Value.pointer.injEq,Addr.mk.injEq] at hh;omega
    by_cases e1:k=i
    · exact old e1 (fun hh=>hkj (e1.trans hh.symm)) hk hj hlj
    · by_cases e2:j=i
      · exact fun hh=>old e2 e1 hj hk hlk hh.symm
      · rw [hput e1 hk rfl,hput e2 hj rfl];exact hJ.ad k j _ _ _ _ _ _ _ _ hkj hk hj (((hst k).1 hlk).resolve_right e1) (((hst j).1 hlj).resolve_right e2)
theorem DS.go(hF:FOpen F)(h:mkAll P σ n l.toArray [] l ds=some tb)(hp:∀x∈σ.env,x.p=[])(hwt:wfT σ tb=true)(hob:Obs P w0 own (obsE tb))(hback:backFrom 0 l=true)(t:List Nat)(hrd:rdyFrom tb t 0 l=true)
    (htn:t=[]→∀i:Nat,tb[i]? ≠some .no) (htt:∀i,i∈t→tb[i]? =some .no)
    (KT:∀i o fuel listed a w,i∈t→l[i]? =some o→DS w0 own n σ ns tb listed a w→i<listed.size→¬Lst listed i→(∀k,bindsTo o k=true→Lst listed k)→listed.size=l.length→unl listed≤fuel+1→
      wpOpIn F m P l.toArray Q i (wpAnyIn F m P .any l.toArray Q fuel (listed.setIfInBounds i true)) a w)
    (KE:t=[]→∀listed a w,DS w0 own n σ ns tb listed a w→(∀k,k<l.length→Lst listed k)→Q .normal a w):
    ∀(fuel:Nat) (listed:Array Bool) (a:Act) (w:World),listed.size=l.length→unl listed≤fuel→DS w0 own n σ ns tb listed a w→wpAnyIn F m P .any l.toArray Q fuel listed a w:=by
  have hlen:tb.length=l.length:=by have:=(mkAll_at h).2.1;simpa using this
  have hwf:∀(i:Nat) (y:En) (x:Ent),tb[i]? =some y→y.ent=some x→x.e.wf σ.bs.length=true∧x.p=[]:=fun i y x hi hx=>En.wfE h hi hx (wfT_spec hwt hi);have hend:∀(listed:Array Bool) (a:Act) (w:World),listed.size=l.length→DS w0 own n σ ns tb listed a w→Region.ready .any l.toArray listed=[]→Q .normal a w:=by
    intro listed a w hsz hJ hr;have hall:=not_done (i:=0) hback hsz hr;cases ht:t with
    | nil=>exact KE ht listed a w hJ hall
    | cons i r=>
      have h1:=htt i (by rw [ht];simp);exact absurd (hall i (by rw [← hlen];exact (List.getElem?_eq_some_iff.1 h1).1)) (hJ.un i h1)
  have hnl:∀ {listed:Array Bool} {i:Nat},i∈Region.ready .any l.toArray listed→i<listed.size∧¬Lst listed i:=by
    intro listed i hr;obtain ⟨hun,_⟩:=mem_ready.1 hr;rw [Array.getD_eq_getD_getElem?] at hun;cases hh:listed[i]? with
    | none=>rw [hh] at hun;cases hun
    | some b=>
      rw [hh] at hun;refine ⟨(Array.getElem?_eq_some_iff.1 hh).1,fun hl=>?_⟩;unfold Lst at hl;rw [hh] at hl;simp only [Option.some.injEq] at hl;subst hl;cases hun
  intro fuel
  induction fuel with
  | zero=>
    intro listed a w hsz hu hJ;have hr:Region.ready .any l.toArray listed=[]:=by
      cases hh:Region.ready .any l.toArray listed with
      | nil=>rfl
      | cons i r=>
        obtain ⟨h1,h2⟩:=hnl (listed:=listed) (i:=i) (by rw [hh];simp);have:=unl_set h1 h2;omega
    exact ⟨hr,hend listed a w hsz hJ hr⟩
  | succ fuel ih=>
    intro listed a w hsz hu hJ;refine ⟨hend listed a w hsz hJ,fun i hi=>?_⟩;obtain ⟨h1,h2⟩:=hnl hi;obtain ⟨_,o,ho,hall⟩:=mem_ready.1 hi;have ho':l[i]? =some o:=by simpa using ho
    have hbind:∀k,bindsTo o k=true→Lst listed k:=by
      intro k hk;unfold bindsTo at hk;rw [Array.any_eq_true'] at hk;obtain ⟨e,he,hb⟩:=hk;simp only [Bool.and_eq_true] at hb;have hon:=Nat.eq_of_beq_eq_true hb.2;subst hon;have:=hall e he hb.1;unfold Lst;rw [Array.getD_eq_getD_getElem?] at this;cases hh:listed[e.on]? with
      | none=>rw [hh] at this;cases this
      | some b=>rw [hh] at this;simp only [Option.getD_some] at this;rw [this]
    obtain ⟨sp,y,g1,g2⟩:=(mkAll_at h).2.2 i o ho';simp only [List.length_nil,Nat.zero_add] at g1 g2;have hul:=unl_set h1 h2;have hnext:∀(a':Act) (w':World),DS w0 own n σ ns tb (listed.setIfInBounds i true) a' w'→wpAnyIn F m P .any l.toArray Q fuel (listed.setIfInBounds i true) a' w':=fun a' w' hJ'=>ih _ a' w' (by simpa using hsz) (by omega) hJ';by_cases hyn:y=.no
    · subst hyn;rcases rdyFrom_spec hrd i o ho' (by simpa using g2) with ht | ⟨k,hk,hkb⟩
      · rw [Nat.zero_add] at ht;exact KT i o fuel listed a w ht ho' hJ h1 h2 hbind hsz hu
      · exact absurd (hbind k hkb) (hJ.un k hk)
    · obtain ⟨hfr,hdst⟩:=mkEn_fresh g1 hyn;have hne:∀(k:Nat) (z:En),k≠i→tb[k]? =some z→∀d,z.dst=some d→o.dst≠some d:=fun k z hk hz d hd=>mkAll_ne h ho' g2 hyn hk hz d hd;have hdn:∀d,o.dst=some d→d<n:=fun d hd=>by rw [hd] at hfr;simp only [freshO,Bool.and_eq_true] at hfr;simpa using hfr.1
      have hfe:∀d,o.dst=some d→∀x∈σ.env,x.t≠d:=fun d hd=>by rw [hd] at hfr;simp only [freshO,Bool.and_eq_true] at hfr;exact (freshE_spec hfr.2).1
      have hput:∀ {v:Value} {w':World},Inv w0 own n σ ns a w'→Inv w0 own n σ ns (a.put o.dst v) w':=fun {v w'} hI=>by
        cases hd:o.dst with
        | none=>exact hI
        | some d=>exact hI.put_other (hfe d hd)
      have henv:∀ {ks:List Nat} {env:List Ent},ks.all (bindsTo o)=true→envT (tb.take i) ks=some env→Inv w0 own n (σ.wth env) ns a w:=fun {ks env} hks he=>by
        refine hJ.inv hp hwf fun x hx=>?_;obtain ⟨k,y,k1,k2,k3⟩:=envT_mem he x hx;have hki:k<i:=by have:=(List.getElem?_eq_some_iff.1 k2).1;simp at this;omega
        rw [List.getElem?_take,if_pos hki] at k2;exact ⟨k,y,hbind k (List.all_eq_true.1 hks k k1),k2,k3⟩
      unfold wpOpIn;simp only [ho];by_cases hya:∃d T zs p,y=.a d T zs p
      · obtain ⟨d,T,zs,p,rfl⟩:=hya;have hd0:o.dst=some d:=hdst.symm;exact DS.lay hF hJ g1 g2 h1 h2 (hdn d hd0) (hfe d hd0) (fun k z hk hz d' hd' hh=>hne k z hk hz d' hd' (by rw [hd0,hh])) hnext
      have hna:∀d T zs p,y≠ .a d T zs p:=fun d T zs p hh=>hya ⟨d,T,zs,p,hh⟩;refine DS.one hF henv sp y g1 (fun d e obs he=>?_) (fun d he=>?_) hyn (fun d e he=>?_) hna
      · subst he;exact ⟨obsE_at hob i d e obs g2,fun w' hbl=>hnext _ _ (hJ.upd g2 hyn hna hbl h1 (hput (hJ.base.below hbl)) hdn (fun x hx=>by simp only [En.ent,Option.some.injEq] at hx;subst hx;exact ⟨hdst.symm,rfl⟩) hne ent_dst)⟩
      · subst he;refine hnext _ _ (hJ.upd g2 hyn hna ⟨rfl,rfl,rfl,Nat.le_refl _,fun _ _=>rfl⟩ h1 (hput hJ.base) hdn (fun x hx=>?_) hne ent_dst);cases d with
        | none=>cases hx
        | some d=>simp only [En.ent,Option.some.injEq] at hx;subst hx;exact ⟨hdst.symm,rfl⟩
      · subst he;exact absurd (hJ.dn i _ _ g2) h2
def QA(K:Act→World→Prop)(Q:Exit→Act→World→Prop):Exit→Act→World→Prop
  | .normal,a,w=>K a w
  | .exit id,a,w=>Q (.exit id) a w
  | .goto t,a,w=>Q (.goto t) a w
  | .ret,a,w=>Q .ret a w
  | .panic c,a,w=>Q (.panic c) a w
  | .outgrown,a,w=>Q .outgrown a w
theorem opIn_of_list{ops:Array Oper}{K:Act→World→Prop}{i:Nat}(ho:ops[i]? =some o)(hF:FOpen F)(hw:Region.wanted o (yielded ops a.tmps)=true)(h:wpListIn F m P ops (QA K Q) [o] a w):wpOpIn F m P ops Q i K a w:=by
  unfold wpOpIn;simp only [ho];unfold wpListIn at h;rw [hw,if_pos rfl] at h ⊢;unfold Oper.wpIn at h ⊢;refine ⟨fun f _=>hF.fn f,?_⟩;have h2:=h.2;have hn:∀a w,wpListIn F m P ops (QA K Q) [] a w→K a w:=fun a w h=>h;generalize (o.semAt F.round a.eval).run P w=r at*
  cases r with
  | ok x w'=>
    cases x<;>simp only [Oper.uponIn] at h2 ⊢ <;>
      first
        | exact hn _ _ h2
        | exact ⟨h2.1,CallsIn.mono h2.2 (fun e w'' he=>by cases e<;>first | exact hn _ _ he | exact he)⟩
        | exact ⟨h2.1,RowsIn.mono h2.2 (fun _ _ he=>hn _ _ he)⟩
        | exact ⟨h2.1,RoundIn.mono h2.2 (fun e w'' he=>by cases e<;>first | exact hn _ _ he | exact he)⟩
  | halt x w'=>cases x<;>simp only [Oper.uponIn] at h2 ⊢ <;>exact h2
def isNoAt(tb:List En)(i:Nat):Bool:=match tb[i]? with | some .no=>true | _=>false
theorem isNoAt_eq{i:Nat}(h:isNoAt tb i=true):tb[i]? =some .no:=by
  unfold isNoAt at h;split at h
  · assumption
  · cases h
def noneNo(tb:List En):Bool:=tb.all fun x=>match x with | .no=>false | _=>true
theorem isNil_all(hp:(σ.env.all fun x=>isNil x.p)=true):∀x∈σ.env,x.p=[]:=fun x hx=>by
  have:=List.all_eq_true.1 hp x hx;cases hh:x.p<;>simp_all [isNil]
def doneE(tb:List En):List Nat→List En
  | []=>tb
  | k::r=>doneE (match tb[k]? with | some (.q d e _)=>tb.set k (.t (some d) (some e)) | _=>tb) r
theorem DS.done:∀(dn:List Nat) {tb:List En},DS w0 own n σ ns tb listed a w→(∀k∈dn,Lst listed k)→DS w0 own n σ ns (doneE tb dn) listed a w
  | [],tb,hJ,_=>hJ
  | k :: r,tb,hJ,hk=>by
    simp only [doneE];refine DS.done r ?_ (fun j hj=>hk j (by simp [hj]));split
    · rename_i d e obs hq;have hlt:k<tb.length:=(List.getElem?_eq_some_iff.1 hq).1;have hA:∀ {i:Nat} {d' T' zs' p'},(tb.set k (.t (some d) (some e)))[i]? =some (.a d' T' zs' p')→tb[i]? =some (.a d' T' zs' p'):=fun {i d' T' zs' p'} hi=>by
        by_cases hik:i=k
        · subst hik;rw [List.getElem?_set_self hlt] at hi;cases hi
        · rwa [List.getElem?_set_ne (Ne.symm hik)] at hi
      refine ⟨hJ.base,fun i y x hy hx hl=>?_,fun i hi=>?_,fun i d' e' hi=>?_,fun i d' T' zs' p' hi=>hJ.al i d' T' zs' p' (hA hi),fun i j d1 T1 z1 p1 d2 T2 z2 p2 hij hi hj=>hJ.ad i j _ _ _ _ _ _ _ _ hij (hA hi) (hA hj)⟩
      · by_cases hik:i=k
        · subst hik;rw [List.getElem?_set_self hlt] at hy;simp only [Option.some.injEq] at hy;subst hy;exact hJ.val i _ x hq hx hl
        · rw [List.getElem?_set_ne (Ne.symm hik)] at hy;exact hJ.val i y x hy hx hl
      · by_cases hik:i=k
        · subst hik;rw [List.getElem?_set_self hlt] at hi;cases hi
        · rw [List.getElem?_set_ne (Ne.symm hik)] at hi;exact hJ.un i hi
      · by_cases hik:i=k
        · subst hik;exact hk i (by simp)
        · rw [List.getElem?_set_ne (Ne.symm hik)] at hi;exact hJ.dn i d' e' hi
    · exact hJ
theorem stage_{fuel:Nat}(hJ:DS w0 own n σ ns tb listed a w)(hF:FOpen F)(hsz:listed.size=l.length)(hu:unl listed≤fuel)(ds:List Sp)(h:mkAll P σ n l.toArray [] l ds=some tb)(hp:(σ.env.all fun x=>isNil x.p)=true)(hwt:wfT σ tb=true)(hback:backFrom 0 l=true)
    (t:Nat) {o:Oper} (ho:l[t]? =some o) (hrd:rdyFrom tb [t] 0 l=true) (htt:isNoAt tb t=true) (ks:List Nat) {env:List Ent} (henv:envT tb ks=some env) (hks:ks.all (bindsTo o)=true) (hwn:optT (wantB l.toArray (σ.wth env) o.guard)=true) (hob:Obs P w0 own (obsE tb))
    (dn:List Nat) (hdn:dn.all (bindsTo o)=true) (tb2:List En) (htb:doneE tb dn=tb2)
    (K:∀fuel listed a w,DS w0 own n σ ns tb2 listed a w→Inv w0 own n (σ.wth env) ns a w→Region.wanted o (yielded l.toArray a.tmps)=true→t<listed.size→¬Lst listed t→listed.size=l.length→unl listed≤fuel+1→
      wpListIn F m P l.toArray (QA (wpAnyIn F m P .any l.toArray Q fuel (listed.setIfInBounds t true)) Q) [o] a w):wpAnyIn F m P .any l.toArray Q fuel listed a w:=by
  refine DS.go hF h (isNil_all hp) hwt hob hback [t] hrd (by intro hh;cases hh) (fun i hi=>by simp only [List.mem_singleton] at hi;subst hi;exact isNoAt_eq htt) ?_ (by intro hh;cases hh) fuel listed a w hsz hu hJ;intro i o' fuel listed a w hi ho' hJ' h1 h2 hbind hsz' hu';simp only [List.mem_singleton] at hi;subst hi;rw [ho] at ho';simp only [Option.some.injEq] at ho';subst ho';have hI:=hJ'.inv (isNil_all hp) (fun i y x hi hx=>En.wfE h hi hx (wfT_spec hwt hi)) (env:=env) (fun x hx=>by
    obtain ⟨k,y,k1,k2,k3⟩:=envT_mem henv x hx;exact ⟨k,y,hbind k (List.all_eq_true.1 hks k k1),k2,k3⟩)
  have hw:=wantB_spec hI (optT_eq hwn);exact opIn_of_list (by simpa using ho) hF hw (K fuel listed a w (htb▸hJ'.done dn (fun k hk=>hbind k (List.all_eq_true.1 hdn k hk))) hI hw h1 h2 hsz' hu')
theorem end_{fuel:Nat}(hJ:DS w0 own n σ ns tb listed a w)(hF:FOpen F)(hsz:listed.size=l.length)(hu:unl listed≤fuel)(ds:List Sp)(h:mkAll P σ n l.toArray [] l ds=some tb)(hp:(σ.env.all fun x=>isNil x.p)=true)(hwt:wfT σ tb=true)(hback:backFrom 0 l=true)
    (hrd:rdyFrom tb [] 0 l=true) (hnn:noneNo tb=true) {live:List Nat} (σ2:S) (hfin:fin live (σ.wth (tb.filterMap En.ent))=some σ2) (hob:Obs P w0 own (obsE tb)) (K:∀a w,St w0 own n σ2 ns a w→Q .normal a w):wpAnyIn F m P .any l.toArray Q fuel listed a w:=by
  have hlen:tb.length=l.length:=by have:=(mkAll_at h).2.1;simpa using this
  have hwf:∀(i:Nat) (y:En) (x:Ent),tb[i]? =some y→y.ent=some x→x.e.wf σ.bs.length=true∧x.p=[]:=fun i y x hi hx=>En.wfE h hi hx (wfT_spec hwt hi);refine DS.go hF h (isNil_all hp) hwt hob hback [] hrd (fun _ i hi=>?_) (by intro i hi;cases hi) (by intro i o f l a w hi;cases hi) (fun _ listed a w hJ' hall=>?_) fuel listed a w hsz hu hJ
  · have:=List.all_eq_true.1 hnn _ (List.mem_of_getElem? hi);cases this
  · refine K a w ((hJ'.inv (isNil_all hp) hwf fun x hx=>?_).fin hfin);obtain ⟨y,hy,hyx⟩:=List.mem_filterMap.1 hx;obtain ⟨k,hk⟩:=List.getElem?_of_mem hy;exact ⟨k,y,hall k (by rw [← hlen];exact (List.getElem?_eq_some_iff.1 hk).1),hk,hyx⟩
def fillE(tb:List En):List (Nat×En)→List En
  | []=>tb
  | (i,e)::r=>fillE (match tb[i]? with | some .no=>tb.set i e | _=>tb) r
def notT:En→Bool
  | .t .. =>false
  | .a .. =>false
  | _=>true
def notT0:En→Bool
  | .t .. =>false
  | .a _ _ _ (some _)=>false
  | _=>true
theorem fillE_at:∀ {news:List (Nat×En)} {tb:List En},news.all (fun x=>notT x.2)=true→∀(i:Nat) (y:En),(fillE tb news)[i]? =some y→(tb[i]? =some y)∨(tb[i]? =some .no∧notT y=true)
  | [],tb,_,i,y,h=>.inl h
  | (j, e)::r,tb,hn,i,y,h=>by
    simp only [List.all_cons,Bool.and_eq_true] at hn;simp only [fillE] at h;rcases fillE_at hn.2 i y h with h1 | ⟨h1,h2⟩
    · split at h1
      · rename_i hj;by_cases hij:i=j
        · subst hij;rw [List.getElem?_set_self (List.getElem?_eq_some_iff.1 hj).1] at h1;simp only [Option.some.injEq] at h1;subst h1;exact .inr ⟨hj,hn.1⟩
        · rw [List.getElem?_set_ne (Ne.symm hij)] at h1;exact .inl h1
      · exact .inl h1
    · split at h1
      · rename_i hj;by_cases hij:i=j
        · subst hij;exact .inr ⟨hj,h2⟩
        · rw [List.getElem?_set_ne (Ne.symm hij)] at h1;exact .inr ⟨h1,h2⟩
      · exact .inr ⟨h1,h2⟩
theorem DS.more(hJ:DS w0 own n σ ns tb listed a w)(news:List (Nat×En))(tb2:List En)(hn:news.all (fun x=>notT x.2)=true)(he:fillE tb news=tb2):DS w0 own n σ ns tb2 listed a w:=by
  subst he;have hA:∀ {i:Nat} {d' T' zs' p'},(fillE tb news)[i]? =some (.a d' T' zs' p')→tb[i]? =some (.a d' T' zs' p'):=fun {i d' T' zs' p'} hi=>by
    rcases fillE_at hn i _ hi with h | ⟨_,h⟩
    · exact h
    · cases h
  refine ⟨hJ.base,fun i y x hy hx hl=>?_,fun i hi=>?_,fun i d e hi=>?_,fun i d' T' zs' p' hi=>hJ.al i d' T' zs' p' (hA hi),fun i j d1 T1 z1 p1 d2 T2 z2 p2 hij hi hj=>hJ.ad i j _ _ _ _ _ _ _ _ hij (hA hi) (hA hj)⟩
  · rcases fillE_at hn i y hy with h | ⟨h,_⟩
    · exact hJ.val i y x h hx hl
    · exact absurd hl (hJ.un i h)
  · rcases fillE_at hn i _ hi with h | ⟨h,_⟩<;>exact hJ.un i h
  · rcases fillE_at hn i _ hi with h | ⟨_,h⟩
    · exact hJ.dn i d e h
    · cases h
theorem DS.cast(hJ:DS w0 own n σ ns tb listed a w)(tb2:List En)(h:tb=tb2):DS w0 own n σ ns tb2 listed a w:=h▸hJ
def PdOk(p:Option Nat)(T:TypeId)(zs:List Value)(w:World):Prop:=∀b,p=some b→w.heap[b]? =some (.cells zs.toArray T (0,0))
def PdAll:List En→World→Prop
  | [],_=>True
  | .a _ T zs p::r,w=>PdOk p T zs w∧PdAll r w
  | _::r,w=>PdAll r w
theorem PdAll.at_:∀ {tb:List En} {w:World},PdAll tb w→∀(i:Nat) d T zs p,tb[i]? =some (.a d T zs p)→PdOk p T zs w
  | [],w,h,i,d,T,zs,p,hi=>by simp at hi
  | x::r,w,h,0,d,T,zs,p,hi=>by
    simp only [List.getElem?_cons_zero,Option.some.injEq] at hi;subst hi;exact h.1
  | x::r,w,h,i+1,d,T,zs,p,hi=>by
    simp only [List.getElem?_cons_succ] at hi;refine PdAll.at_ (tb:=r) ?_ i d T zs p hi;cases x<;>first | exact h | exact h.2
def AL(tb:List En)(listed:Array Bool):Prop:=∀(i:Nat) d T zs p,tb[i]? =some (.a d T zs p)→Lst listed i→∃b,p=some b
def noA(tb:List En):Bool:=tb.all fun x=>match x with | .a .. =>false | _=>true
theorem AL.none(h:noA tb=true):AL tb listed:=fun i d T zs p hi _=>by
  have:=List.all_eq_true.1 h _ (List.mem_of_getElem? hi);cases this
def neqD:Option Tmp→Option Tmp→Bool
  | some d,some d'=>!Nat.beq d d'
  | _,_=>true
theorem next_{fuel t:Nat}(hJ:DS w0 own n σ ns tb listed a w)(h1:t<listed.size)(hnl:¬Lst listed t)(hsz:listed.size=l.length)(hu:unl listed≤fuel+1)(htt:isNoAt tb t=true)(hfr:(tb.all fun x=>neqD x.dst o.dst)=true)
    (hput:∃v,a'=a.put o.dst v) {σ2:S} (hI':Inv w1 own1 n σ2 ns a' w') {live:List Nat} (σ':S) (hfin:fin live σ2=some σ') (e:Option EV) (hv:(match o.dst,e with | some d,some e=>(d,some e) | _,_=>(0,none))=(match o.dst,e with | some d,some _=>(d,oEnv σ2.env [] (.tmp d)) | _,_=>(0,none)))
    (news:List (Nat×En)) (tb2:List En) (hn:news.all (fun x=>notT x.2)=true) (he:fillE (tb.set t (.t o.dst e)) news=tb2) (hdn:(match o.dst with | some d=>Nat.blt d n | none=>true)=true) (hpd:PdAll tb w') (hAL:AL tb listed)
    (K:DS w1 own1 n σ' ns tb2 (listed.setIfInBounds t true) a' w'→(listed.setIfInBounds t true).size=l.length→unl (listed.setIfInBounds t true)≤fuel→wpAnyIn F m P .any l.toArray Q fuel (listed.setIfInBounds t true) a' w'):
    wpListIn F m P l.toArray (QA (wpAnyIn F m P .any l.toArray Q fuel (listed.setIfInBounds t true)) Q) [] a' w':=by
  have hst:∀k,Lst (listed.setIfInBounds t true) k↔Lst listed k∨k=t:=fun k=>Lst_set h1;have hlt:t<tb.length:=(List.getElem?_eq_some_iff.1 (isNoAt_eq htt)).1;have hul:=unl_set h1 hnl;have hA:∀ {i:Nat} {d' T' zs' p'},(tb.set t (.t o.dst e))[i]? =some (.a d' T' zs' p')→tb[i]? =some (.a d' T' zs' p')∧i≠t:=fun {i d' T' zs' p'} hi=>by
    by_cases hit:i=t
    · subst hit;rw [List.getElem?_set_self hlt] at hi;cases hi
    · exact ⟨by rwa [List.getElem?_set_ne (Ne.symm hit)] at hi,hit⟩
  have hpt:∀ {i:Nat} {d' T' zs' p'},tb[i]? =some (.a d' T' zs' p')→a'.tmps[d']? =a.tmps[d']? :=fun {i d' T' zs' p'} hi=>by
    obtain ⟨v,rfl⟩:=hput;have hne:=List.all_eq_true.1 hfr _ (List.mem_of_getElem? hi);cases hd:o.dst with
    | none=>rfl
    | some d=>
      rw [hd] at hne;have hdl:d<n:=by rw [hd] at hdn;simpa using hdn
      rw [put_at hJ.base.size hdl,if_neg (fun hh=>by rw [hh] at hne;simp [En.dst,neqD] at hne)]
  refine wpListIn_nil (K (DS.more ⟨hI'.fin hfin,fun i y x hy hx hl=>?_,fun i hi hl=>?_,fun i d e' hi=>?_,fun i d T zs p hi=>⟨fun b hb=>(hst i).2 (.inl ((hJ.al i d T zs p (hA hi).1).1 b hb)),fun hl=>?_⟩,fun i j d1 T1 z1 p1 d2 T2 z2 p2 hij hi hj hli hlj=>?_⟩ news tb2 hn he) (by simpa using hsz) (by omega))
  rotate_left 3
  · obtain ⟨h0,hit⟩:=hA hi;have hl':Lst listed i:=((hst i).1 hl).resolve_right hit;obtain ⟨b,h3,h4,h5,h6,h7⟩:=(hJ.al i d T zs p h0).2 hl';obtain ⟨b',hb'⟩:=hAL i d T zs p h0 hl';have hbb:b=b':=by
      rcases h3 with h | ⟨h,_⟩
      · rw [hb'] at h;simpa using h.symm
      · rw [hb'] at h;cases h
    subst hbb;have h8:=hpd.at_ i d T zs p h0 b hb';exact ⟨b,.inl hb',(Array.getElem?_eq_some_iff.1 h8).1,h5,by rw [hpt h0];exact h6,h8⟩
  · obtain ⟨h0,hit⟩:=hA hi;obtain ⟨g0,gjt⟩:=hA hj;rw [hpt h0,hpt g0];exact hJ.ad i j _ _ _ _ _ _ _ _ hij h0 g0 (((hst i).1 hli).resolve_right hit) (((hst j).1 hlj).resolve_right gjt)
  · by_cases hit:i=t
    · subst hit;rw [List.getElem?_set_self hlt] at hy;simp only [Option.some.injEq] at hy;subst hy;cases hd:o.dst with
      | none=>rw [hd] at hx;cases e<;>cases hx
      | some d=>
        cases e with
        | none=>rw [hd] at hx;cases hx
        | some e=>
          rw [hd] at hx;simp only [En.ent,Option.some.injEq] at hx;subst hx;rw [hd] at hv;simp only [Prod.mk.injEq,true_and] at hv;have:=hI'.opnd hv.symm rfl;have hdl:d<n:=by rw [hd] at hdn;simpa using hdn
          have hdl':d<a'.tmps.size:=by rw [hI'.size];exact hdl
          simp only [Act.eval] at this;rw [Array.getD_eq_getD_getElem?,Array.getElem?_eq_getElem hdl'] at this;rw [Array.getElem?_eq_getElem hdl']
          simpa using this
    · rw [List.getElem?_set_ne (Ne.symm hit)] at hy;have hl':Lst listed i:=((hst i).1 hl).resolve_right hit;have h0:=hJ.val i y x hy hx hl';obtain ⟨v,rfl⟩:=hput;have hne:=List.all_eq_true.1 hfr y (List.mem_of_getElem? hy);rw [ent_dst y x hx] at hne;cases hd:o.dst with
      | none=>exact h0
      | some d=>
        rw [hd] at hne;have hdl:d<n:=by rw [hd] at hdn;simpa using hdn
        rw [put_at hJ.base.size hdl,if_neg (fun hh=>by rw [hh] at hne;simp [neqD] at hne)];exact h0
  · by_cases hit:i=t
    · subst hit;rw [List.getElem?_set_self hlt] at hi;cases hi
    · rw [List.getElem?_set_ne (Ne.symm hit)] at hi;exact hJ.un i hi (((hst i).1 hl).resolve_right hit)
  · by_cases hit:i=t
    · exact (hst i).2 (.inr hit)
    · rw [List.getElem?_set_ne (Ne.symm hit)] at hi;exact (hst i).2 (.inl (hJ.dn i d e' hi))
theorem drawnS_{id:Nat}(hI:St w0 own n σ ns a w)(hm:P.follows .mixedOrders=true)(tb:List En)(hn:tb.all notT0=true)
    (K:∀fuel listed w',DS w0 own n σ ns tb listed a w'→listed.size=l.length→unl listed≤fuel→wpAnyIn F m P .any l.toArray Q fuel listed a w'):(Code.region id l.toArray true).wpIn F m P Q a w:=by
  have hno:∀k,¬Lst (Array.replicate l.toArray.size false) k:=by
    intro k hk;unfold Lst at hk;rw [Array.getElem?_replicate] at hk;split at hk<;>cases hk
  refine wpIn_region_any hm (K _ _ _ ⟨hI.below ⟨rfl,rfl,rfl,Nat.le_refl _,fun _ _=>rfl⟩,fun i y x _ _ hl=>absurd hl (hno i),fun i _=>hno i,fun i d e hi=>?_,fun i d T zs p hi=>⟨fun b hb=>?_,fun hl=>absurd hl (hno i)⟩,fun i j d1 T1 z1 p1 d2 T2 z2 p2 hij hi hj hli=>absurd hli (hno i)⟩ (by simp) ?_)
  · have:=List.all_eq_true.1 hn _ (List.mem_of_getElem? hi);cases this
  · subst hb;have:=List.all_eq_true.1 hn _ (List.mem_of_getElem? hi);cases this
  · unfold unl;refine Nat.le_trans (List.length_filter_le _ _) ?_;simp
theorem store_{ops:Array Oper}{rest:List Oper}(hF:FOpen F)(hI:Inv w0 own n σ ns a w)(hw:Region.wanted o (yielded ops a.tmps)=true)(hd:o.dst=none)(hnd:isNone o.dst=true){k:Nat}{cs:List EV}{T:TypeId}(he:evOp P σ [] [] o=some (.upd k cs T))(hwf:cs.all (EV.wf σ.bs.length)=true)(hop:(match o.op with | .store .. =>true | _=>false)=true)
    (K:∀a' w',(∃v,a'=a.put o.dst v)→Inv w0 own n {σ with bs:=σ.bs.set k (cs,T)} ns a' w'→wpListIn F m P ops Q rest a' w'):wpListIn F m P ops Q (o::rest) a w:=by
  obtain ⟨_,w',hrun,hL⟩:=evOp_upd hI he;refine special_skip hF hw (by intro c hc;rw [hc] at hop;cases hop) hrun (K _ _ ⟨_,rfl⟩ ?_);rw [hd];exact hI.upd (by simpa [List.all_eq_true] using hwf) hL
end
def foldS{σt α R:Type}(bd:σt→α→Option (Stp σt R)):σt→List α→Option (Stp σt R)
  | s,[]=>some (.next s)
  | s,x::r=>(bd s x).bind fun z=>z.on (fun s'=>foldS bd s' r) (fun o=>some (.out o))
theorem foldS_cons{σt α R:Type}(bd:σt→α→Option (Stp σt R))(s:σt)(x:α)(r:List α):foldS bd s (x::r)=(bd s x).bind fun z=>z.on (fun s'=>foldS bd s' r) (fun o=>some (.out o)):=rfl
section
variable {α:Type} {d:Kd α} {e:TypeId} {S0:Nat→Prop} {pm:List Nat} {w00 w w0:World} {own ns:List Nat} {mine l1 l2:List (List Nat)} {base c:Nat} {A:Option Addr} {l:List α}
theorem Row.elB[Inhabited α](h:Row d e (Lo S0 w00 w own mine) w base A c l)(hE:Ep pm w00 w own mine)(hm:rb A∈mine)(i:Int)(g:Bool)(hb:g=true→inb i l.length=true):
    ∃sv,(g=true→El d (fun b=>b∉own) w ((adr A).add (i.toNat*d.sz)) (rd l i) sv)∧(g=true→A=some (adr A)):=
  ((h.arr (S':=fun b=>b∉own) (fun b hb=>hb.2.1) (fun b hb=>(hE.mi b (flat_mem hm hb)).2.2)).1).elB i g hb
theorem madeCells_at{z:Array Value}{n sz i j:Nat}(hz:z.size=sz)(hi:i<n)(hj:j<sz):(madeCells z (n*sz)).toList[i*sz+j]? =z[j]? :=by
  have hlt:i*sz+j<n*sz:=by
    have:=Nat.mul_le_mul_right sz (show i+1≤n from hi);rw [Nat.succ_mul] at this;omega
  have hm:(i*sz+j) % sz=j:=by rw [Nat.mul_comm,Nat.mul_add_mod,Nat.mod_eq_of_lt hj]
  simp [madeCells,hlt,hz,hm];rw [Array.getElem?_eq_getElem (by omega)];simp [hz,hj]
variable {F:Fence} {m:Nat} {P:Program} {n:Nat} {σ:S} {a:Act} {o:Oper} {ops:Array Oper} {Q:Exit→Act→World→Prop} {rest:List Oper}
theorem makeSlice_(hF:FOpen F)(hE:Ep pm w00 w ns mine)(hI:Inv w ns n σ ns a w)(hw:Region.wanted o (yielded ops a.tmps)=true){t:TypeId}{x y:Operand}(hop:o.op=.makeSlice t x y)
    {kl kc:IntKind} {k:Int} (hx:oEnv σ.env [] x=some (.v (.int kl k))) (hy:oEnv σ.env [] y=some (.v (.int kc k))) (ht:P.underlying t=some (.slice e)) {zi:Value×Nat×Nat} (hzi:zinf P e=some zi) (hsz:zi.2.1=d.sz)
    (z:α) (svz:SV) (hzc:zi.1.cells.toList=d.cells z svz) (hct:d.cont (Lo S0 w00 w ns mine) w z svz) (h0:0≤k) (hk:k.toNat*(d.sz+zi.2.2)≤16777216)
    (σ2:Option Addr→S) (hput:∀A,put1 σ n o.dst [] (some (.v (.slice A (List.replicate k.toNat z).length (List.replicate k.toNat z).length)))=some (σ2 A))
    (K:∀A a' w',(∃v,a'=a.put o.dst v)→Ep pm w00 w' ns (mine++[rb A])→Inv w' ns n (σ2 A) ns a' w'→(∀S0,Mv (Lo S0 w00 w ns mine) w (Lo S0 w00 w' ns (mine++[rb A])) w')→(∀b,b∈mine.flatten→b∉([]:List Nat)→w'.heap[b]? =w.heap[b]?)→
      Row d e (Lo S0 w00 w' ns (mine++[rb A])) w' w00.heap.size A (List.replicate k.toNat z).length (List.replicate k.toNat z)→wpListIn F m P ops Q rest a' w'):wpListIn F m P ops Q (o::rest) a w:=by
  obtain ⟨i,hi,hz,hsz',hbb⟩:=zinf_spec hzi;have hkn:((k.toNat:Nat):Int)=k:=by omega
  have hd:=d.pos;have hle1:k.toNat*d.sz≤16777216:=Nat.le_trans (Nat.mul_le_mul_left _ (by omega)) hk;have hle2:k.toNat*zi.2.2≤16777216:=Nat.le_trans (Nat.mul_le_mul_left _ (by omega)) hk;have hle3:k.toNat≤16777216:=Nat.le_trans (Nat.le_mul_of_pos_right _ (by omega)) hle1;obtain ⟨w1,hrun,hown,hg⟩:=run_makeSlice_full (P:=P) (w:=w) w00.heap.size t e i zi.1 d.sz ht hi hz (hsz'.trans hsz) kl kc k.toNat hle1 (by rw [hbb,Nat.mul_comm];omega) (by simp only [maxLen];omega) hE.k.size;have hrun':(execOp a.eval o).run P w=.ok (.value (.slice (some ⟨w.heap.size,0,none⟩) (List.replicate k.toNat z).length (List.replicate k.toNat z).length)) w1:=by
    have e1:=hI.opnd hx rfl;have e2:=hI.opnd hy rfl;simp only [EV.den] at e1 e2;rw [hkn] at hrun;unfold execOp;rw [hop];simp only [e1,e2,Sem.run_bind,hrun,Result.andThen_ok,List.length_replicate];rfl
  have hcs:zi.1.cells.size=d.sz:=by rw [← Array.length_toList,hzc,d.len]
  refine special hF hw (by rw [hop];intro c hc;cases hc) hrun' ?_;obtain ⟨c0,cap,hlt⟩:∃(u v:Nat),w.heap.size<w1.heap.size:=⟨0,0,(hown.lt _ rfl).2⟩;obtain ⟨q1,q2,q3,q4⟩:=hE.step hI (Keeps.of_grownBy hg) (mine':=mine++[[w.heap.size]]) (by intro b hb;cases hb) (add_mem hlt) (add_dis hE) (.inr (by intro b hb;cases hb));have K':=K (some ⟨w.heap.size,0,none⟩) (a.put o.dst (.slice (some ⟨w.heap.size,0,none⟩) (List.replicate k.toNat z).length (List.replicate k.toNat z).length)) w1;rw [show rb (some ⟨w.heap.size,0,none⟩)=[w.heap.size] from rfl] at K';refine K' ⟨_,rfl⟩ q1 (put_v q2 _ (hput _)) q3 q4 ⟨_,by simpa using hown,fun j y hy=>?_⟩;rw [List.getElem?_replicate] at hy;split at hy
  · rename_i hj;simp only [Option.some.injEq] at hy;subst hy;refine ⟨svz,d.keep hct (q3 S0),fun r u hu=>?_⟩;have hr:r<d.sz:=by rw [← d.len z svz];exact (List.getElem?_eq_some_iff.1 hu).1
    rw [madeCells_at hcs hj hr,← Array.getElem?_toList,hzc];exact hu
  · cases hy
end
def entEnvE:Nat→List EV→List Ent
  | _,[]=>[]
  | i,e::r=>⟨i,[],e⟩::entEnvE (i+1) r
theorem entEnvE_mem:∀ {i:Nat} {l:List EV} {x:Ent},x∈entEnvE i l→x.p=[]∧i≤x.t∧l[x.t - i]? =some x.e
  | i,v::r,x,h=>by
    simp only [entEnvE,List.mem_cons] at h;rcases h with rfl | h
    · exact ⟨rfl,Nat.le_refl _,by simp⟩
    · obtain ⟨h1,h3,h4⟩:=entEnvE_mem h;refine ⟨h1,by omega,?_⟩;rw [show x.t - i=(x.t - (i+1))+1 by omega,List.getElem?_cons_succ];exact h4
section
variable {S0:Nat→Prop} {F:Fence} {m:Nat} {P:Program} {pm:List Nat} {w00 w:World} {mine:List (List Nat)} {n:Nat} {σ:S} {ns:List Nat} {a:Act} {o:Oper} {ops:Array Oper} {Q:Exit→Act→World→Prop} {rest:List Oper}
theorem callI_(hF:FOpen F)(hI:Inv w ns n σ ns a w)(hw:Region.wanted o (yielded ops a.tmps)=true){f:FuncId}{es:List EV}{cs:List Value}(hco:callOf σ [] o=some (f,es,cs)){fn:Func}{c:Code}(hf:P.funcs[f]? =some fn)
    (hname:(fn.name== "runtime.NumGoroutine")=false) (hb:fn.body=some c) {n':Nat} (hn:fn.ntmps=n') (hle:Nat.ble (es++cs.map EV.v).length n'=true) (hwf:es.all (EV.wf σ.bs.length)=true)
    (K:∀a',Inv w ns n' ⟨entEnvE 0 (es++cs.map EV.v),[],[],σ.bs,none,some (σ.bs.length,ns)⟩ ns a' w→c.wpIn Fence.wide 0 P (bodyPost P fn (fun e w'=>∃v,e=.returned v∧wpListIn F m P ops Q rest (a.put o.dst v) w')) a' w):
    wpListIn F m P ops Q (o::rest) a w:=by
  unfold wpListIn;rw [hw,if_pos rfl];obtain ⟨hnd,hrun⟩:=callOf_run hI rfl hco (enters hf hname hb);refine ⟨fun f _=>hF.fn f,?_⟩;rw [Oper.semAt_plain F _ _ hnd,hrun,Oper.uponIn_enter];refine ⟨fun hd=>by rw [hF.depth] at hd;simp at hd,?_⟩;have hle:=Nat.le_of_ble_eq_true hle;simp only [List.length_append,List.length_map] at hle;have hc:Calls P f (es.map (EV.den ns)++cs).toArray w (fun e w'=>∃v,e=.returned v∧wpListIn F m P ops Q rest (a.put o.dst v) w'):=by
    refine (callsIn_wide (n:=0)).1 (callsIn_of_wp hf hb trivial (K _ ⟨?_,rfl,?_,?_,hI.bwf,?_,hI.loc,?_⟩))
    · simp [hn];omega
    · intro x hx;obtain ⟨h1,h3,h4⟩:=entEnvE_mem hx;rw [h1];simp only [Nat.sub_zero] at h4;have h5:(es.map (EV.den ns)++cs)[x.t]? =some (x.e.den ns):=by
        have:=congrArg (Option.map (EV.den ns)) h4;rw [← List.getElem?_map,List.map_append,List.map_map] at this;rw [show (EV.den ns∘EV.v)=id from rfl,List.map_id] at this;exact this
      have hl:=(List.getElem?_eq_some_iff.1 h5).1;rw [Array.getElem?_append_left (by simpa using hl)]
      simpa [gvv,pathB,EV.den] using h5
    · intro x hx;obtain ⟨h1,h3,h4⟩:=entEnvE_mem hx;rw [h1];refine ⟨?_,fun y hy=>by simp at hy⟩;have:=List.mem_of_getElem? h4;rw [List.mem_append] at this;rcases this with h | h
      · exact List.all_eq_true.1 hwf _ h
      · obtain ⟨u,_,hu⟩:=List.mem_map.1 h;rw [← hu];rfl
    · intro x hx;simp at hx
    · exact ⟨by rw [← hI.loc.len];simp,Nat.le_of_eq hI.loc.len.symm⟩
  refine (hF.calls hc).mono ?_;rintro e w1 ⟨v,rfl,h⟩;exact h
theorem Ep.uncall{n' kb:Nat}{A B:World}{ns':List Nat}{aO a':Act}{σo:S}{bs:List (List EV×TypeId)}(hO:Inv A ns n σo ns aO A)(hE:Ep pm w00 B ns' mine)(hI:Inv B ns' n' σ ns' a' B)(hlo:σo.lo=none)(hpin:σ.pin=some (kb,ns))
    (hgi:σo.gi=[]) (hk:σo.bs.length=kb) (hb:(Nat.ble kb σ.bs.length&&(σ.bs.take kb).all (fun x=>x.1.all (EV.wf kb)))=true) (hbs:σ.bs.take kb=bs):
    Ep pm w00 B ns mine∧Inv B ns n {σo with bs:=bs} ns aO B∧∀S0,Mv (Lo S0 w00 B ns' mine) B (Lo S0 w00 B ns mine) B:=by
  have hpn:=hI.pin;rw [hpin] at hpn;obtain ⟨hns,_⟩:=hpn;have hlen:ns.length=kb:=by rw [hO.loc.len,hk]
  have hss:∀b,b∈ns→b∈ns':=fun b hb=>by rw [← hns] at hb;exact List.mem_of_mem_take hb
  subst hbs;simp only [Bool.and_eq_true,List.all_eq_true] at hb;obtain ⟨hle,hbs⟩:=hb;have hle:=Nat.le_of_ble_eq_true hle;have hbl:(σ.bs.take kb).length=kb:=by rw [List.length_take];omega
  have hL:=hI.loc;have hd:=hO.defers;rw [hlo] at hd;refine ⟨⟨hE.k,fun b hb=>hE.ow b (hss b hb),fun b hb=>⟨(hE.mi b hb).1,(hE.mi b hb).2.1,fun hh=>(hE.mi b hb).2.2 (hss b hh)⟩,hE.dis⟩,⟨hO.size,by simp only [hlo];exact hd,hO.env,fun x hx=>?_,fun x hx e hee=>?_,fun x hx=>by simp [hgi] at hx,?_,?_⟩,fun S0 b hb _=>⟨⟨hb.1,fun hh=>hb.2.1 (hss b hh),hb.2.2⟩,rfl⟩⟩
  · have:=hO.ewf x hx;rw [hk] at this;simp only [hbl];exact this
  · simp only [hbl];exact hbs x hx e hee
  · refine ⟨by simp only [hbl,hlen],hO.loc.nodup,Keeps.refl _ _,fun b hb=>.inl hb,fun k cs T hkk=>?_⟩;simp only at hkk;rw [List.getElem?_take] at hkk;split at hkk
    · rename_i hlt;have hm:(cs,T)∈σ.bs.take kb:=List.mem_of_getElem? (by rw [List.getElem?_take,if_pos hlt];exact hkk);rw [← hns,List.map_congr_left (fun e hee=>den_take (hbs _ hm e hee))];have:(ns'.take kb).getD k 0=ns'.getD k 0:=by
        rw [List.getD_eq_getElem?_getD,List.getD_eq_getElem?_getD,List.getElem?_take,if_pos hlt]
      rw [this];exact hL.blk k cs T hkk
    · cases hkk
  · have:=hO.pin;revert this;cases σo.pin with
    | none=>exact id
    | some p=>
      exact id
theorem putI_{w0:World}{own:List Nat}{dst:Option Tmp}{v:Value}(hI:Inv w0 own n σ ns a w)(σ2:S)(hp:put1 σ n dst [] (some (.v v))=some σ2)(K:∀a',Inv w0 own n σ2 ns a' w→wpListIn F m P ops Q rest a' w):wpListIn F m P ops Q rest (a.put dst v) w:=K _ (put_v hI σ2 hp)
def sumsE:List EV→Option (List (Sum Value (Nat×Nat)))
  | []=>some []
  | .v u::r=>match sumsE r with | some l=>some (.inl u::l) | none=>none
  | .p k off::r=>match sumsE r with | some l=>some (.inr (k,off)::l) | none=>none
  | _::_=>none
theorem sumsE_den:∀ {es:List EV} {l:List (Sum Value (Nat×Nat))},sumsE es=some l→l.map (den1 ns)=es.map (EV.den ns)
  | [],l,h=>by simp only [sumsE,Option.some.injEq] at h;subst h;rfl
  | x ::r,l,h=>by
    cases x with
    | v u=>
      simp only [sumsE] at h;cases hr:sumsE r with
      | none=>rw [hr] at h;simp at h
      | some q=>rw [hr] at h;simp only [Option.some.injEq] at h;subst h;simp [sumsE_den hr,EV.den,den1]
    | p k off=>
      simp only [sumsE] at h;cases hr:sumsE r with
      | none=>rw [hr] at h;simp at h
      | some q=>rw [hr] at h;simp only [Option.some.injEq] at h;subst h;simp [sumsE_den hr,EV.den,den1]
    | _=>simp [sumsE] at h
theorem makeFuncP_{w0:World}{own:List Nat}(hF:FOpen F)(hI:Inv w0 own n σ ns a w)(hw:Region.wanted o (yielded ops a.tmps)=true){fn:Fn}{first caps:Array Operand}(hop:o.op=.makeFunc fn first caps){es1 es2:List EV}
    (h1:evArgs σ.env [] first.toList=some es1) (h2:evArgs σ.env [] caps.toList=some es2) {l1 l2:List (Sum Value (Nat×Nat))} (g1:sumsE es1=some l1) (g2:sumsE es2=some l2) (σ2:S) (hput:put1 σ n o.dst [] (some (.f fn l1 l2))=some σ2)
    (K:∀a',Inv w0 own n σ2 ns a' w→wpListIn F m P ops Q rest a' w):wpListIn F m P ops Q (o::rest) a w:=by
  have e1:=evArgs_eval hI (g:=[]) rfl h1;have e2:=evArgs_eval hI (g:=[]) rfl h2;have hrun:(execOp a.eval o).run P w=.ok (.value ((EV.f fn l1 l2).den ns)) w:=by
    unfold execOp;rw [hop];simp only [EV.den,sumsE_den g1,sumsE_den g2];have f1:first.map a.eval=(es1.map (EV.den ns)).toArray:=by rw [← e1];apply Array.ext';simp
    have f2:caps.map a.eval=(es2.map (EV.den ns)).toArray:=by rw [← e2];apply Array.ext';simp
    rw [← f1,← f2];rfl
  refine special hF hw (by rw [hop];intro c hc;cases hc) hrun ?_;exact K _ (put1_sound hI (g:=[]) (fun x hx=>by simp at hx) hput (fun x hx=>by simp only [Option.some.injEq] at hx;subst hx;rfl))
end
section
variable {F:Fence} {m:Nat} {P:Program} {w00 w0 w1:World} {own own1:List Nat} {n:Nat} {σ σ':S} {ns:List Nat} {a a':Act} {w w':World} {o:Oper} {Q:Exit→Act→World→Prop}
variable {l:List Oper} {ds:List Sp} {tb tb':List En} {listed:Array Bool} {S0:Nat→Prop} {pm:List Nat} {mine l1 l2:List (List Nat)}
end
def setV:List Value→Nat→List Value→List Value
  | cs,_,[]=>cs
  | cs,k,v::r=>setV (cs.set k v) (k+1) r
theorem setV_length:∀(vs cs:List Value) (k:Nat),(setV cs k vs).length=cs.length
  | [],cs,k=>rfl
  | v::r,cs,k=>by simp [setV,setV_length r]
theorem setV_get:∀(vs cs:List Value) (k j:Nat),k+vs.length≤cs.length→(setV cs k vs)[j]? =if k≤j∧j<k+vs.length then vs[j - k]? else cs[j]?
  | [],cs,k,j,h=>by
    simp only [setV,List.length_nil,Nat.add_zero];rw [if_neg (by omega)]
  | v ::r,cs,k,j,h=>by
    simp only [List.length_cons] at h ⊢;rw [setV,setV_get r _ _ _ (by simp;omega)];by_cases hj:j=k
    · subst hj;rw [if_neg (by omega),if_pos (by omega),List.getElem?_set_self (by omega)];simp
    · rw [List.getElem?_set_ne (Ne.symm hj)];by_cases hk:k≤j∧j<k+(r.length+1)
      · rw [if_pos (by omega),if_pos hk,show j - k=(j - (k+1))+1 by omega,List.getElem?_cons_succ]
      · rw [if_neg (by omega),if_neg hk]
theorem setMany_v:∀(vs cs:List Value) (k:Nat),setMany (cs.map EV.v) k (vs.map EV.v)=(setV cs k vs).map EV.v
  | [],cs,k=>rfl
  | v::r,cs,k=>by
    simp only [List.map_cons,setMany,setV];rw [show (cs.map EV.v).set k (EV.v v)=(cs.set k v).map EV.v by rw [List.map_set],setMany_v r]
def svU(sv:SV)(j:Nat)(e:Option Addr×Nat):SV:=fun k=>if k=j then e else sv k
section
variable {α:Type} {d:Kd α} {e:TypeId} {S0 X X':Nat→Prop} {pm:List Nat} {w00 w w0 w':World} {own ns:List Nat} {mine l1 l2:List (List Nat)} {base base' c:Nat} {A:Option Addr} {l:List α}
  {F:Fence} {m:Nat} {P:Program} {n:Nat} {σ:S} {a:Act} {o:Oper} {ops:Array Oper} {Q:Exit→Act→World→Prop} {rest:List Oper}
theorem Row.raise(h:Row d e X w base' A c l)(hb:∀b∈rb A,base≤b):Row d e X w base A c l:=by
  obtain ⟨xs,⟨h1,h2⟩,h3⟩:=h;refine ⟨xs,⟨h1,?_⟩,h3⟩;rcases h2 with h2 | ⟨g,cap,cur,hv,hge,h5⟩
  · exact .inl h2
  · refine .inr ⟨g,cap,cur,hv,hb g ?_,h5⟩;simp only [Value.slice.injEq] at hv;rw [hv.1];simp [rb]
theorem Row.ge(h:Row d e X w base A c l):∀b∈rb A,base≤b:=fun b hb=>(h.lt hb).1
theorem storeSeg_[Inhabited α](hF:FOpen F)(hE:Ep pm w00 w ns mine)(hI:Inv w ns n σ ns a w)(hw:Region.wanted o (yielded ops a.tmps)=true){t:TypeId}{x y:Operand}(hop:o.op=.store t x y)(hd:o.dst=none)
    {i:Int} {off:Nat} {ad:Addr} (hx:oEnv σ.env [] x=some (.v (.pointer (some ad)))) (had:ad=(adr A).add (i.toNat*d.sz+off)) {v:Value} (hy:oEnv σ.env [] y=some (.v v)) {vs:List Value} (hvs:v.cells=vs.toArray) (hag:szT P t=some vs.length) (h1:Nat.ble (off+vs.length) d.sz=true)
    (hone:vs.all one1=true) (hm:rb A∈mine) (hi:inb i l.length=true) (hrow:Row d e (Lo S0 w00 w ns mine) w base A c l) (z:α) (f:SV→SV) (hzc:∀sv,d.cells z (f sv)=setV (d.cells (rd l i) sv) off vs)
    (hct:∀sv,d.cont (Lo S0 w00 w ns mine) w (rd l i) sv→d.cont (Lo S0 w00 w ns mine) w z (f sv))
    (K:∀a' w',(∃v,a'=a.put o.dst v)→Ep pm w00 w' ns mine→Inv w' ns n σ ns a' w'→(∀S0,Mv (Lo S0 w00 w ns mine) w (Lo S0 w00 w' ns mine) w')→(∀b∈mine.flatten,b∉rb A→w'.heap[b]? =w.heap[b]?)→
      Row d e (Lo S0 w00 w' ns mine) w' base A c (l.set i.toNat z)→wpListIn F m P ops Q rest a' w'):wpListIn F m P ops Q (o::rest) a w:=by
  obtain ⟨i0,i1⟩:=inb_spec hi;have h1:=Nat.le_of_ble_eq_true h1;obtain ⟨xs,⟨hlen,h2⟩,h3⟩:=hrow;rcases h2 with ⟨hv,h2⟩ | ⟨g,cap,cur,hv,hge,hblk,hnc,hcm,hcs,htk⟩
  · omega
  simp only [Value.slice.injEq] at hv;obtain ⟨rfl,_,rfl⟩:=hv;have hgm:g∈mine.flatten:=flat_mem hm (by simp [rb]);have hid:(List.map (EV.den [g]) (cur.toList.map EV.v))=cur.toList:=map_den_v _;have hL:Loc w [g] [g] [(cur.toList.map EV.v,e)] w:=by
    refine ⟨rfl,by simp,Keeps.refl _ _,fun x hx=>.inl hx,fun k cs U hk=>?_⟩;cases k with
    | zero=>
      simp only [List.getElem?_cons_zero,Option.some.injEq,Prod.mk.injEq] at hk;obtain ⟨rfl,rfl⟩:=hk;rw [hid];simpa using hblk
    | succ k=>simp at hk
  have hil:i.toNat<l.length:=by omega
  have hmul:i.toNat*d.sz+d.sz≤l.length*d.sz:=by
    have:=Nat.mul_le_mul_right d.sz (show i.toNat+1≤l.length by omega);rw [Nat.succ_mul] at this;exact this
  have hmul2:l.length*d.sz≤c*d.sz:=Nat.mul_le_mul_right _ hnc;have hcl:cur.toList.length=c*d.sz:=by simpa using hcs
  have hk0: [(cur.toList.map EV.v,e)][0]? =some (cur.toList.map EV.v,e):=rfl;obtain ⟨w',hrunS,hL2,_⟩:=Loc.storeCells (P:=P) (vs.map EV.v) (by
      intro e he;obtain ⟨u,hu,rfl⟩:=List.mem_map.1 he;exact List.all_eq_true.1 hone u hu) [(cur.toList.map EV.v,e)] w 0 (cur.toList.map EV.v) e (i.toNat*d.sz+off) 0 hL hk0 (by simp at hcl ⊢; omega)
  have hL2:Loc w [g] [g] [((setV cur.toList (i.toNat*d.sz+off) vs).map EV.v,e)] w':=by
    have:=hL2;rw [setMany_v] at this
    simpa using this
  have hadr:ad=⟨[g].getD 0 0,i.toNat*d.sz+off,none⟩:=by rw [had];exact (add_at g 0 _).trans (by simp)
  have hrun':(execOp a.eval o).run P w=.ok .skip w':=by
    have e1:=hI.opnd hx rfl;have e2:=hI.opnd hy rfl;simp only [EV.den,hadr] at e1 e2;have hrunS':(Go.storeCells ⟨[g].getD 0 0,i.toNat*d.sz+off,none⟩ vs 0).run P w=.ok () w':=by
      rw [← hrunS,map_den_v]
    unfold execOp;rw [hop];simp only [e1,e2,Instr.storeAt,Instr.sureAddr,storeVar,Sem.run_bind,Sem.run_pure,Result.andThen_ok,run_sizeOf hag w,hvs,List.size_toArray,ne_eq,not_true,if_false];rw [hrunS'];rfl
  have hg:Keeps [g] w w':=⟨hL2.base.os,hL2.base.tape,hL2.base.output,hL2.base.size,fun k hk hne=>hL2.base.block k hk hne⟩;refine special_skip hF hw (by rw [hop];intro c hc;cases hc) hrun' ?_;obtain ⟨q1,q2,q3,q4⟩:=hE.step hI hg (mine':=mine) (by intro b hb;simp at hb;subst hb;exact hgm) same_mem hE.dis (.inr (by intro b hb q hq;simp at hb;subst hb;rw [hblk] at hq;cases hq));have hput:a.put o.dst undef=a:=by rw [hd];rfl
  refine K _ _ ⟨_,rfl⟩ q1 (by rw [hput];exact q2) q3 q4 ?_;have hb2:=hL2.blk 0 _ _ rfl;have hb2':w'.heap[g]? =some (.cells (setV cur.toList (i.toNat*d.sz+off) vs).toArray e (0,0)):=by
    rw [map_den_v] at hb2
    simpa using hb2
  have htl:i.toNat*d.sz+off+vs.length≤cur.toList.length:=by omega
  have hxl:i.toNat*d.sz+off+vs.length≤xs.length:=by rw [hlen];omega
  refine ⟨setV xs (i.toNat*d.sz+off) vs,⟨by rw [setV_length,hlen,List.length_set],.inr ⟨g,c,(setV cur.toList (i.toNat*d.sz+off) vs).toArray,by rw [List.length_set],hge,hb2',by rw [List.length_set];exact hnc,hcm,by simp [setV_length];simpa using hcs,?_⟩⟩,fun j y hy=>?_⟩
  · rw [List.length_set];apply List.ext_getElem?;intro k;have htk':=congrArg (fun q=>q[k]?) htk;simp only [List.getElem?_take] at htk' ⊢;rw [setV_get _ _ _ _ hxl,setV_get _ _ _ _ (by simpa using htl)];by_cases hk:i.toNat*d.sz+off≤k∧k<i.toNat*d.sz+off+vs.length
    · rw [if_pos hk,if_pos hk];rw [if_pos (by omega)]
    · rw [if_neg hk,if_neg hk];exact htk'
  · by_cases hji:j=i.toNat
    · subst hji;rw [List.getElem?_set_self hil] at hy;simp only [Option.some.injEq] at hy;subst hy;have hrd:l[i.toNat]? =some (rd l i):=by
        simp [rd,List.getD_eq_getElem?_getD,List.getElem?_eq_getElem hil]
      obtain ⟨sv,g1,g2⟩:=h3 i.toNat (rd l i) hrd;refine ⟨f sv,d.keep (hct sv g1) (q3 S0),fun r u hu=>?_⟩;rw [hzc sv] at hu;have hdl:=d.len (rd l i) sv;rw [setV_get _ _ _ _ (by rw [hdl];omega)] at hu;rw [setV_get _ _ _ _ hxl];by_cases hr:off≤r∧r<off+vs.length
      · rw [if_pos hr] at hu;rw [if_pos (by omega),show i.toNat*d.sz+r - (i.toNat*d.sz+off)=r - off by omega];exact hu
      · rw [if_neg hr] at hu;rw [if_neg (by omega)];exact g2 r u hu
    · rw [List.getElem?_set_ne (Ne.symm hji)] at hy;obtain ⟨sv,g1,g2⟩:=h3 j y hy;refine ⟨sv,d.keep g1 (q3 S0),fun r u hu=>?_⟩;have hrr:r<d.sz:=by rw [← d.len y sv];exact (List.getElem?_eq_some_iff.1 hu).1
      rw [setV_get _ _ _ _ hxl,if_neg ?_]
      · exact g2 r u hu
      · intro hh;rcases Nat.lt_or_gt_of_ne hji with hlt | hgt
        · have:=Nat.mul_le_mul_right d.sz (show j+1≤i.toNat by omega);rw [Nat.succ_mul] at this;omega
        · have:=Nat.mul_le_mul_right d.sz (show i.toNat+1≤j by omega);rw [Nat.succ_mul] at this;omega
theorem flat_pick{mine:List (List Nat)}(ix:List Nat){b:Nat}(hb:b∈(ix.map fun i=>mine.getD i []).flatten):b∈mine.flatten:=by
  obtain ⟨q,hq,hbq⟩:=List.mem_flatten.1 hb;obtain ⟨i,_,rfl⟩:=List.mem_map.1 hq;rw [List.getD_eq_getElem?_getD] at hbq;cases h:mine[i]? with
  | none=>rw [h] at hbq;simp at hbq
  | some r=>rw [h] at hbq;exact flat_mem (List.mem_of_getElem? h) hbq
theorem flat_nes{mine:List (List Nat)}(hd:mine.flatten.Nodup){j:Nat}{r':List Nat}(hj:mine[j]? =some r'){b:Nat}(hb:b∈r'):∀(ix:List Nat),j∉ix→b∉(ix.map fun i=>mine.getD i []).flatten
  | [],_=>by simp
  | i::ix,hn=>by
    simp only [List.map_cons,List.flatten_cons,List.mem_append,not_or];refine ⟨?_,flat_nes hd hj hb ix (fun h=>hn (List.mem_cons_of_mem _ h))⟩;rw [List.getD_eq_getElem?_getD];cases h:mine[i]? with
    | none=>simp
    | some r=>exact flat_ne mine i j r r' hd (fun h=>hn (by simp [h])) h hj b hb
theorem Ep.nes(hE:Ep pm w00 w own mine)(ix:List Nat){j:Nat}(hn:(ix.contains j)=false){r':List Nat}(hj:mine[j]? =some r'){b:Nat}(hb:b∈r'):b∉(ix.map fun i=>mine.getD i []).flatten:=
  flat_nes hE.dis hj hb ix (by simpa using hn)
theorem flat_pick_nodup{mine:List (List Nat)}(hd:mine.flatten.Nodup):∀(ix:List Nat),ix.Nodup→(ix.map fun i=>mine.getD i []).flatten.Nodup
  | [],_=>by simp
  | i ::ix,hn=>by
    obtain ⟨h1,h2⟩:=List.nodup_cons.1 hn;rw [List.map_cons,List.flatten_cons,List.nodup_append];refine ⟨?_,flat_pick_nodup hd ix h2,fun x hx y hy=>?_⟩
    · rw [List.getD_eq_getElem?_getD];cases h:mine[i]? with
      | none=>simp
      | some r=>exact hd.sublist (List.sublist_flatten_of_mem (List.mem_of_getElem? h))
    · rintro rfl;rw [List.getD_eq_getElem?_getD] at hx;cases h:mine[i]? with
      | none=>rw [h] at hx;simp at hx
      | some r=>rw [h] at hx;exact flat_nes hd h hx ix h1 hy
theorem Ep.pick(hE:Ep pm w00 w own mine)(ix:List Nat)(hn:ix.Nodup):(ix.map fun i=>mine.getD i []).flatten.Nodup:=flat_pick_nodup hE.dis ix hn
theorem Ep.pickLt(hE:Ep pm w00 w own mine)(ix:List Nat):∀b∈(ix.map fun i=>mine.getD i []).flatten,b<w.heap.size:=fun b hb=>(hE.mi b (flat_pick ix hb)).2.1
theorem Lo.pick{S0:Nat→Prop}(ix:List Nat):∀b,Lo S0 w00 w own mine b→b∉(ix.map fun i=>mine.getD i []).flatten:=fun b hb hh=>hb.2.2.1 (flat_pick ix hh)
end
structure Ob1 {α:Type} (d:Kd α) (e:TypeId) (S:Nat→Prop) (w:World) (b:Nat) (x:α) (sv:SV):Prop where
  cont:d.cont S w x sv
  blk:w.heap[b]? =some (.cells (d.cells x sv).toArray e (0,0))
structure Lk (α:Type) where
  d:Kd α
  e:TypeId
  live:(Nat→Prop)→World→Nat→α→SV→List Nat→Prop
  keep:∀ {S S':Nat→Prop} {w w':World} {b:Nat} {x:α} {sv:SV} {F:List Nat},live S w b x sv F→Mv S w S' w'→(∀b∈F,w'.heap[b]? =w.heap[b]?)→live S' w' b x sv F
  nd:∀ {S:Nat→Prop} {w:World} {b:Nat} {x:α} {sv:SV} {F:List Nat},live S w b x sv F→∀b∈F,b<w.heap.size∧∀q,w.heap[b]? ≠some (.deferred q)
structure Ojt {α:Type} (k:Lk α) (S:Nat→Prop) (w:World) (b:Nat) (x:α) (F:List Nat):Prop where
  ex:∃sv F',F=b::F'∧Ob1 k.d k.e S w b x sv∧k.live S w b x sv F'
def OjtN{α:Type}(k:Lk α)(S:Nat→Prop)(w:World)(A:Option Addr)(x:Option α)(F:List Nat):Prop:=match x with
  | none=>A=none∧F=[]
  | some y=>∃b,A=some ⟨b,0,none⟩∧Ojt k S w b y F
section
variable {α:Type} {d:Kd α} {e:TypeId} {S S':Nat→Prop} {w w':World} {b:Nat} {x y:α} {sv:SV} {k:Lk α} {F:List Nat}
theorem Ob1.keep(h:Ob1 d e S w b x sv)(hk:Mv S w S' w')(hb:w'.heap[b]? =w.heap[b]?):Ob1 d e S' w' b x sv:=⟨d.keep h.cont hk,hb.trans h.blk⟩
theorem Ob1.cell(h:Ob1 d e S w b x sv){j:Nat}{v:Value}(hj:(d.cells x sv)[j]? =some v):w.cell? ⟨b,j,none⟩=some v:=by
  unfold World.cell?;simp only [h.blk];simp [hj]
theorem Ob1.as(h:Ob1 d e S w b x sv)(hc:d.cells x sv=d.cells y sv)(hk:d.cont S w x sv→d.cont S w y sv):Ob1 d e S w b y sv:=⟨hk h.cont,hc▸h.blk⟩
theorem Ojt.keep(h:Ojt k S w b x F)(hk:Mv S w S' w')(hb:∀b∈F,w'.heap[b]? =w.heap[b]?):Ojt k S' w' b x F:=by
  obtain ⟨sv,F',rfl,h1,h2⟩:=h.ex;exact ⟨sv,F',rfl,h1.keep hk (hb _ (by simp)),k.keep h2 hk fun b hh=>hb b (List.mem_cons_of_mem _ hh)⟩
theorem Ob1.lt(h:Ob1 d e S w b x sv):b<w.heap.size:=(Array.getElem?_eq_some_iff.1 h.blk).1
theorem Ojt.nd(h:Ojt k S w b x F):∀b∈F,b<w.heap.size∧∀q,w.heap[b]? ≠some (.deferred q):=by
  obtain ⟨sv,F',rfl,h1,h2⟩:=h.ex;intro b' hb;rcases List.mem_cons.1 hb with rfl | hb
  · exact ⟨h1.lt,fun q=>by rw [h1.blk];intro h;cases h⟩
  · exact k.nd h2 b' hb
theorem Ojt.any(h:Ojt k S w b x F):Ojt k (fun _=>True) w b x F:=h.keep (fun b hb _=>⟨trivial,rfl⟩) (fun _ _=>rfl)
theorem Row.ndl{base c:Nat}{A:Option Addr}{l:List α}(h:Row d e S w base A c l):∀b∈rb A,b<w.heap.size∧∀q,w.heap[b]? ≠some (.deferred q):=fun b hb=>⟨(h.lt hb).2,h.nd b hb⟩
theorem Ojt.mk'(sv:SV){F':List Nat}(h1:Ob1 k.d k.e S w b x sv)(h2:k.live S w b x sv F'):Ojt k S w b x (b::F'):=⟨sv,F',rfl,h1,h2⟩
theorem OjtN.keep{A:Option Addr}{x:Option α}(h:OjtN k S w A x F)(hk:Mv S w S' w')(hb:∀b∈F,w'.heap[b]? =w.heap[b]?):OjtN k S' w' A x F:=by
  cases x with
  | none=>exact h
  | some y=>
    obtain ⟨b,h1,h2⟩:=h;exact ⟨b,h1,h2.keep hk hb⟩
theorem OjtN.nd{A:Option Addr}{x:Option α}(h:OjtN k S w A x F):∀b∈F,b<w.heap.size∧∀q,w.heap[b]? ≠some (.deferred q):=by
  cases x with
  | none=>obtain ⟨_,rfl⟩:=h;simp
  | some y=>
    obtain ⟨b,h1,h2⟩:=h;exact h2.nd
theorem Row.down{base c:Nat}{A:Option Addr}{l:List α}(h:Row d e S w base A c l):Row d e S w 0 A c l:=h.raise fun _ _=>Nat.zero_le _
theorem Ob1.el(h:Ob1 d e S w b x sv)(hb:S b):El d S w ⟨b,0,none⟩ x sv:=⟨h.cont,hb,fun j v hj=>by rw [add_at,Nat.zero_add];exact h.cell hj⟩
end
section
variable {α:Type} {d:Kd α} {e:TypeId} {S0 X:Nat→Prop} {pm:List Nat} {w00 w w0 w':World} {own ns:List Nat} {mine mine' l1 l2:List (List Nat)} {b:Nat} {x:α} {sv:SV} {k:Lk α} {F0:List Nat}
  {F:Fence} {m:Nat} {P:Program} {n:Nat} {σ:S} {a:Act} {o:Oper} {ops:Array Oper} {Q:Exit→Act→World→Prop} {rest:List Oper}
theorem Ep.perm(hE:Ep pm w00 w ns mine)(hp:mine.flatten.Perm mine'.flatten):Ep pm w00 w ns mine'∧∀S0,Mv (Lo S0 w00 w ns mine) w (Lo S0 w00 w ns mine') w:=
  ⟨⟨hE.k,hE.ow,fun b hb=>hE.mi b (hp.mem_iff.2 hb),hp.nodup_iff.1 hE.dis⟩,fun S0 b hb _=>⟨⟨hb.1,hb.2.1,fun hh=>hb.2.2.1 (hp.mem_iff.2 hh),hb.2.2.2⟩,rfl⟩⟩
theorem Ep.eqv(hE:Ep pm w00 w ns mine)(hp:mine.flatten=mine'.flatten):Ep pm w00 w ns mine'∧∀S0,Mv (Lo S0 w00 w ns mine) w (Lo S0 w00 w ns mine') w:=hE.perm (hp▸ .refl _)
theorem ob_o1(h:Ob1 d e X w b x sv)(hE:Ep pm w00 w own mine)(hm:b∈mine.flatten)(g:Bool)(off:Nat)(vs:List Value)(hs:((d.cells x sv).drop off).take vs.length=vs):(Ob.cell g ((⟨b,0,none⟩:Addr).add off) vs).holds P w own:=by
  intro _;refine ⟨by rw [add_block];exact (hE.mi b hm).2.2,fun j y hj=>?_⟩;rw [add_add,add_at,Nat.zero_add];refine h.cell ?_;rw [← hs,List.getElem?_take] at hj;split at hj
  · rwa [List.getElem?_drop] at hj
  · cases hj
theorem storeO_(hF:FOpen F)(hE:Ep pm w00 w ns mine)(hI:Inv w ns n σ ns a w)(hw:Region.wanted o (yielded ops a.tmps)=true){t:TypeId}{xo y:Operand}(hop:o.op=.store t xo y)(hd:o.dst=none)
    {off:Nat} {ad:Addr} (hx:oEnv σ.env [] xo=some (.v (.pointer (some ad)))) (had:ad=(⟨b,0,none⟩:Addr).add off) {v:Value} (hy:oEnv σ.env [] y=some (.v v)) {vs:List Value} (hvs:v.cells=vs.toArray) (hag:szT P t=some vs.length) (h1:Nat.ble (off+vs.length) d.sz=true)
    (hone:vs.all one1=true) (hm: [b]∈mine) (h:Ob1 d e (Lo S0 w00 w ns mine) w b x sv) (z:α) (sv':SV) (hzc:d.cells z sv'=setV (d.cells x sv) off vs)
    (hct:d.cont (Lo S0 w00 w ns mine) w x sv→d.cont (Lo S0 w00 w ns mine) w z sv')
    (K:∀a' w',(∃v,a'=a.put o.dst v)→Ep pm w00 w' ns mine→Inv w' ns n σ ns a' w'→(∀S0,Mv (Lo S0 w00 w ns mine) w (Lo S0 w00 w' ns mine) w')→(∀b'∈mine.flatten,b'∉[b]→w'.heap[b']? =w.heap[b']?)→
      Ob1 d e (Lo S0 w00 w' ns mine) w' b z sv'→wpListIn F m P ops Q rest a' w'):wpListIn F m P ops Q (o::rest) a w:=by
  have h1:=Nat.le_of_ble_eq_true h1;have hgm:b∈mine.flatten:=flat_mem hm (by simp);have hid:(List.map (EV.den [b]) ((d.cells x sv).map EV.v))=d.cells x sv:=map_den_v _;have hL:Loc w [b] [b] [((d.cells x sv).map EV.v,e)] w:=by
    refine ⟨rfl,by simp,Keeps.refl _ _,fun x hx=>.inl hx,fun k cs U hk=>?_⟩;cases k with
    | zero=>
      simp only [List.getElem?_cons_zero,Option.some.injEq,Prod.mk.injEq] at hk;obtain ⟨rfl,rfl⟩:=hk;rw [hid];simpa using h.blk
    | succ k=>simp at hk
  have hdl:=d.len x sv;have hk0: [((d.cells x sv).map EV.v,e)][0]? =some ((d.cells x sv).map EV.v,e):=rfl;obtain ⟨w',hrunS,hL2,_⟩:=Loc.storeCells (P:=P) (vs.map EV.v) (by
      intro e he;obtain ⟨u,hu,rfl⟩:=List.mem_map.1 he;exact List.all_eq_true.1 hone u hu) [((d.cells x sv).map EV.v,e)] w 0 ((d.cells x sv).map EV.v) e off 0 hL hk0 (by simp [hdl];omega)
  have hL2:Loc w [b] [b] [((setV (d.cells x sv) off vs).map EV.v,e)] w':=by
    have:=hL2;rw [setMany_v] at this
    simpa using this
  have hadr:ad=⟨[b].getD 0 0,off,none⟩:=by rw [had,add_at,Nat.zero_add];rfl
  have hrun':(execOp a.eval o).run P w=.ok .skip w':=by
    have e1:=hI.opnd hx rfl;have e2:=hI.opnd hy rfl;simp only [EV.den,hadr] at e1 e2;have hrunS':(Go.storeCells ⟨[b].getD 0 0,off,none⟩ vs 0).run P w=.ok () w':=by
      rw [← hrunS,map_den_v]
    unfold execOp;rw [hop];simp only [e1,e2,Instr.storeAt,Instr.sureAddr,storeVar,Sem.run_bind,Sem.run_pure,Result.andThen_ok,run_sizeOf hag w,hvs,List.size_toArray,ne_eq,not_true,if_false];rw [hrunS'];rfl
  have hg:Keeps [b] w w':=⟨hL2.base.os,hL2.base.tape,hL2.base.output,hL2.base.size,fun k hk hne=>hL2.base.block k hk hne⟩;refine special_skip hF hw (by rw [hop];intro c hc;cases hc) hrun' ?_;obtain ⟨q1,q2,q3,q4⟩:=hE.step hI hg (mine':=mine) (by intro b' hb;simp at hb;subst hb;exact hgm) same_mem hE.dis (.inr (by intro b' hb q hq;simp at hb;subst hb;rw [h.blk] at hq;cases hq));have hput:a.put o.dst undef=a:=by rw [hd];rfl
  have hb2:=hL2.blk 0 _ _ rfl;rw [map_den_v] at hb2;refine K _ _ ⟨_,rfl⟩ q1 (by rw [hput];exact q2) q3 q4 ⟨d.keep (hct h.cont) (q3 S0),?_⟩;rw [hzc]
  simpa using hb2
theorem publish_(hE:Ep pm w00 w ns mine)(hI:Inv w ns n σ ns a w)(kb:Nat)(x:α)(sv:SV)(T:TypeId)(hk:σ.bs[kb]? =some ((d.cells x sv).map EV.v,T)):
    ∃(b:Nat) (ns':List Nat),Ep pm w00 w ns' (mine++[[b]])∧Inv w ns' n (frz kb ⟨b,0,none⟩ σ) ns' a w∧(∀S0,Mv (Lo S0 w00 w ns mine) w (Lo S0 w00 w ns' (mine++[[b]])) w)∧w00.heap.size≤b∧(∀S0,d.cont (Lo S0 w00 w ns mine) w x sv→Ob1 d T (Lo S0 w00 w ns' (mine++[[b]])) w b x sv):=by
  obtain ⟨b,ns',h1,h2,h3,h4,h5,h6,h7,h8,h9,h10⟩:=freezeB_ hE hI kb x sv T hk;have hfl:(mine++[[b]]).flatten=mine.flatten++[b]:=by simp
  have hMv:∀S0,Mv (Lo S0 w00 w ns mine) w (Lo S0 w00 w ns' (mine++[[b]])) w:=fun S0 c hc hi=>by
    refine ⟨⟨hc.1,(h3 S0 c hc hi).1.2.1,fun hh=>?_,hc.2.2.2⟩,rfl⟩;rw [hfl] at hh;rcases List.mem_append.1 hh with hh | hh
    · exact hc.2.2.1 hh
    · simp only [List.mem_singleton] at hh;subst hh;exact hc.2.1 h5
  refine ⟨b,ns',⟨h1.k,h1.ow,fun c hc=>?_,?_⟩,h2,hMv,h6,fun S0 hc=>⟨d.keep hc (hMv S0),h10⟩⟩
  · rw [hfl] at hc;rcases List.mem_append.1 hc with hc | hc
    · exact h1.mi c hc
    · simp only [List.mem_singleton] at hc;subst hc;exact ⟨.inl h6,h7,h8⟩
  · rw [hfl,List.nodup_append];exact ⟨h1.dis,by simp,fun c hc c' hc' he=>by
      simp only [List.mem_singleton] at hc';subst hc';subst he;exact h9 hc⟩
def restAt(mine:List (List Nat))(ix:List Nat):List (List Nat):=(mine.zipIdx.filter fun p=>!ix.contains p.2).map Prod.fst
theorem restAt_mem{mine:List (List Nat)}{ix:List Nat}{b:Nat}(h:b∈(restAt mine ix).flatten):∃j r,mine[j]? =some r∧ix.contains j=false∧b∈r:=by
  obtain ⟨r,hr,hb⟩:=List.mem_flatten.1 h;obtain ⟨⟨r',j⟩,hp,rfl⟩:=List.mem_map.1 hr;obtain ⟨h1,h2⟩:=List.mem_filter.1 hp;refine ⟨j,r',?_,by simpa using h2,hb⟩;have:=List.mem_zipIdx_iff_getElem?.1 h1
  simpa using this
theorem Ep.ro(hE:Ep [] w00 w own mine)(h:Ojt k (fun _=>True) w00 b x F0):Ojt k (fun _=>True) w b x F0:=
  h.keep (fun c _ hc=>⟨trivial,hE.k.block c hc.1 (by simp)⟩) (fun c hc=>hE.k.block c (h.nd c hc).1 (by simp))
theorem Ep.roOn(hE:Ep [] w00 w0 own mine)(hk:Keeps own w0 w)(h:Ojt k (fun _=>True) w00 b x F0):Ojt k (fun _=>True) w b x F0:=by
  have h1:=hE.ro h;have hb:∀c,c<w00.heap.size→w.heap[c]? =w0.heap[c]? :=fun c hc=>hk.block c (Nat.lt_of_lt_of_le hc hE.k.size) (fun hh=>by have:=(hE.ow c hh).1;omega);refine h.keep (fun c _ hc=>⟨trivial,(hb c hc.1).trans (hE.k.block c hc.1 (by simp))⟩) (fun c hc=>(hb c (h.nd c hc).1).trans (hE.k.block c (h.nd c hc).1 (by simp)))
theorem Ep.group(hE:Ep pm w00 w ns mine)(ix:List Nat)(hn:ix.Nodup)(G:List Nat)(hG:(ix.map fun i=>mine.getD i []).flatten=G):Ep pm w00 w ns (restAt mine ix++[G])∧∀S0,Mv (Lo S0 w00 w ns mine) w (Lo S0 w00 w ns (restAt mine ix++[G])) w:=by
  subst hG;have hsub:∀c,c∈(restAt mine ix).flatten→c∈mine.flatten:=fun c hc=>by
    obtain ⟨j,r,h1,_,h3⟩:=restAt_mem hc;exact List.mem_flatten.2 ⟨r,List.mem_of_getElem? h1,h3⟩
  have hall:∀c,c∈(restAt mine ix++[(ix.map fun i=>mine.getD i []).flatten]).flatten→c∈mine.flatten:=fun c hc=>by
    simp only [List.flatten_append,List.flatten_cons,List.flatten_nil,List.append_nil] at hc;rcases List.mem_append.1 hc with hc | hc
    · exact hsub c hc
    · exact flat_pick ix hc
  have hsl:(restAt mine ix).Sublist mine:=by
    have h:(mine.zipIdx.map Prod.fst)=mine:=by simp
    unfold restAt;exact (List.Sublist.map Prod.fst List.filter_sublist).trans (by rw [h];exact List.Sublist.refl _)
  refine ⟨⟨hE.k,hE.ow,fun b hb=>hE.mi b (hall b hb),?_⟩,fun S0 b hb _=>⟨⟨hb.1,hb.2.1,fun hh=>hb.2.2.1 (hall b hh),hb.2.2.2⟩,rfl⟩⟩;simp only [List.flatten_append,List.flatten_cons,List.flatten_nil,List.append_nil];rw [List.nodup_append];refine ⟨hE.dis.sublist (flat_sub hsl),hE.pick ix hn,fun c hc c' hc' he=>?_⟩;subst he;obtain ⟨j,r,h1,h2,h3⟩:=restAt_mem hc;exact hE.nes ix h2 h1 h3 hc'
theorem Ep.parts(hE:Ep pm w00 w ns mine)(i:Nat)(Gs:List (List Nat))(hG:mine.getD i []=Gs.flatten):Ep pm w00 w ns (restAt mine [i]++Gs)∧∀S0,Mv (Lo S0 w00 w ns mine) w (Lo S0 w00 w ns (restAt mine [i]++Gs)) w:=by
  obtain ⟨h1,h2⟩:=hE.group [i] (by simp) (mine.getD i []) (by simp);have hf:(restAt mine [i]++[mine.getD i []]).flatten=(restAt mine [i]++Gs).flatten:=by
    rw [hG];simp
  obtain ⟨h3,h4⟩:=h1.eqv hf;exact ⟨h3,fun S0 b hb hc=>⟨(h4 S0 b (h2 S0 b hb hc).1 hc).1,rfl⟩⟩
theorem restAt_sub(mine:List (List Nat))(ix:List Nat):(restAt mine ix).Sublist mine:=by
  have h:(mine.zipIdx.map Prod.fst)=mine:=by simp
  unfold restAt;exact (List.Sublist.map Prod.fst List.filter_sublist).trans (by rw [h];exact List.Sublist.refl _)
structure Handed (w w':World) (pmc:List Nat) (Fs:List (List Nat)):Prop where
  mi:∀b∈Fs.flatten,(w.heap.size≤b∨b∈pmc)∧b<w'.heap.size
  dis:Fs.flatten.Nodup
theorem Ep.handed(hE:Ep pm w00 w own mine)(ix:List Nat)(hn:ix.Nodup):Handed w00 w pm (ix.map fun i=>mine.getD i []):=
  ⟨fun b hb=>let ⟨h1,h2,_⟩:=hE.mi b (flat_pick ix hb);⟨h1,h2⟩,hE.pick ix hn⟩
theorem callO_(hF:FOpen F)(hE:Ep pm w00 w ns mine)(hI:Inv w ns n σ ns a w)(hw:Region.wanted o (yielded ops a.tmps)=true){f:FuncId}{es:List EV}{cs args:List Value}(hco:callOf σ [] o=some (f,es,cs))(hv:argsOf es cs=some args)
    (hent:∀args w,(callFunc f args).run P w=.ok (.enter f args) w) {X:Type} (val:X→Value) (ix:List Nat) (Fs:X→List (List Nat)) (Rf:X→World→Prop)
    (hc:Calls P f args.toArray w fun e w'=>∃x,e=.returned (val x)∧Keeps (ix.map fun i=>mine.getD i []).flatten w w'∧Handed w w' (ix.map fun i=>mine.getD i []).flatten (Fs x)∧Rf x w') (hnd:σ.lo=none∨∀b∈(ix.map fun i=>mine.getD i []).flatten,∀q,w.heap[b]? ≠some (.deferred q))
    (σ2:X→S) (hput:∀x,put1 σ n o.dst [] (some (.v (val x)))=some (σ2 x))
    (K:∀x a' w',(∃v,a'=a.put o.dst v)→Ep pm w00 w' ns (restAt mine ix++Fs x)→Inv w' ns n (σ2 x) ns a' w'→(∀S0,Mv (Lo S0 w00 w ns mine) w (Lo S0 w00 w' ns (restAt mine ix++Fs x)) w')→(∀b∈(restAt mine ix).flatten,w'.heap[b]? =w.heap[b]?)→
      (∀S0,(∀b∈pm,S0 b)→Mv (fun b=>b∉(Fs x).flatten∧(w.heap.size≤b∨Lo S0 w00 w ns mine b∨b∈(ix.map fun i=>mine.getD i []).flatten)) w' (Lo S0 w00 w' ns (restAt mine ix++Fs x)) w')→Rf x w'→wpListIn F m P ops Q rest a' w'):wpListIn F m P ops Q (o::rest) a w:=by
  refine call_epK hF hI hw hco hv hent val _ (fun x w'=>Handed w w' (ix.map fun i=>mine.getD i []).flatten (Fs x)∧Rf x w') hc (fun x w' hb ⟨hh,hr⟩=>?_);have hfl:(restAt mine ix++Fs x).flatten=(restAt mine ix).flatten++(Fs x).flatten:=by simp
  have hsub:∀c,c∈(restAt mine ix).flatten→c∈mine.flatten:=fun c hc=>(flat_sub (restAt_sub mine ix)).subset hc;have hmn:∀c∈(restAt mine ix++Fs x).flatten,c∈mine.flatten∨(w.heap.size≤c∧c<w'.heap.size):=fun c hc=>by
    rw [hfl] at hc;rcases List.mem_append.1 hc with hc | hc
    · exact .inl (hsub c hc)
    · rcases (hh.mi c hc).1 with h | h
      · exact .inr ⟨h,(hh.mi c hc).2⟩
      · exact .inl (flat_pick ix h)
  have hnotin:∀c∈(restAt mine ix).flatten,c∉(ix.map fun i=>mine.getD i []).flatten:=fun c hc=>by
    obtain ⟨j,r,h1,h2,h3⟩:=restAt_mem hc;exact hE.nes ix h2 h1 h3
  have hdis:(restAt mine ix++Fs x).flatten.Nodup:=by
    rw [hfl,List.nodup_append];refine ⟨hE.dis.sublist (flat_sub (restAt_sub mine ix)),hh.dis,fun c hc c' hc' he=>?_⟩;subst he;rcases (hh.mi c hc').1 with h | h
    · have:=(hE.mi c (hsub c hc)).2.1;omega
    · exact hnotin c hc h
  obtain ⟨q1,q2,q3,q4⟩:=hE.step hI hb (mine':=restAt mine ix++Fs x) (fun b hb=>flat_pick ix hb) hmn hdis hnd;refine K x _ _ ⟨_,rfl⟩ q1 (put_v q2 _ (hput _)) q3 (fun c hc=>q4 c (hsub c hc) (hnotin c hc)) (fun S0 hp c hc hi=>⟨?_,rfl⟩) hr;obtain ⟨hc1,hc2⟩:=hc;have hnr:c∉(restAt mine ix++Fs x).flatten:=fun hh'=>by
    rw [hfl] at hh';rcases List.mem_append.1 hh' with hh' | hh'
    · rcases hc2 with h | h | h
      · have:=(hE.mi c (hsub c hh')).2.1;omega
      · exact h.2.2.1 (hsub c hh')
      · exact hnotin c hh' h
    · exact hc1 hh'
  rcases hc2 with h | h | h
  · exact ⟨hi.1,fun hh'=>by have:=(hE.ow c hh').2;omega,hnr,.inl (Nat.le_trans hE.k.size h)⟩
  · exact ⟨hi.1,h.2.1,hnr,h.2.2.2⟩
  · obtain ⟨h1,_,h3⟩:=hE.mi c (flat_pick ix h);exact ⟨hi.1,h3,hnr,h1.imp id (hp c)⟩
end
def newsOf{α:Type}(d:Kd α)(svs:Nat→SV):Nat→List α→List Value
  | _,[]=>[]
  | k,y::r=>d.cells y (svs k)++newsOf d svs (k+1) r
section
variable {α:Type} {d:Kd α} {svs:Nat→SV}
theorem newsOf_len:∀(k:Nat) (ys:List α),(newsOf d svs k ys).length=ys.length*d.sz
  | _,[]=>by simp [newsOf]
  | k,y::r=>by rw [newsOf,List.length_append,d.len,newsOf_len (k+1) r,List.length_cons,Nat.succ_mul,Nat.add_comm]
theorem newsOf_get:∀(k:Nat) (ys:List α) (q:Nat) (u:Value),(newsOf d svs k ys)[q]? =some u→∃i j y,ys[i]? =some y∧(d.cells y (svs (k+i)))[j]? =some u∧q=i*d.sz+j
  | _,[],q,u,h=>by simp [newsOf] at h
  | k,y::r,q,u,h=>by
    rw [newsOf] at h;by_cases hq:q<d.sz
    · rw [List.getElem?_append_left (by rw [d.len];exact hq)] at h;exact ⟨0,q,y,rfl,h,by simp⟩
    · rw [List.getElem?_append_right (by rw [d.len];omega),d.len] at h;obtain ⟨i,j,z,h1,h2,h3⟩:=newsOf_get (k+1) r _ u h;refine ⟨i+1,j,z,h1,by rw [show k+(i+1)=k+1+i by omega];exact h2,?_⟩;rw [Nat.succ_mul];omega
theorem newsOf_at:∀(k:Nat) (ys:List α) (i j:Nat) (y:α) (u:Value),ys[i]? =some y→(d.cells y (svs (k+i)))[j]? =some u→(newsOf d svs k ys)[i*d.sz+j]? =some u
  | _,[],i,j,y,u,h,_=>by simp at h
  | k,z::r,0,j,y,u,h,h2=>by
    simp only [List.getElem?_cons_zero,Option.some.injEq] at h;subst h;have hj:j<d.sz:=by rw [← d.len z (svs (k+0))];exact (List.getElem?_eq_some_iff.1 h2).1
    rw [newsOf,Nat.zero_mul,Nat.zero_add,List.getElem?_append_left (by rw [d.len];exact hj)];exact h2
  | k,z::r,i+1,j,y,u,h,h2=>by
    rw [newsOf,List.getElem?_append_right (by rw [d.len,Nat.succ_mul];omega),d.len,Nat.succ_mul,show i*d.sz+d.sz+j - d.sz=i*d.sz+j by omega];exact newsOf_at (k+1) r i j y u (by simpa using h) (by rw [show k+1+i=k+(i+1) by omega];exact h2)
end
section
variable {α:Type} {d:Kd α}
theorem Arr.svsOf{S:Nat→Prop}{w:World}{A:Option Addr}{ys:List α}(h:Arr d S w A ys):∃svs:Nat→SV,∀i x,ys[i]? =some x→d.cont S w x (svs i)∧∀(j:Nat) (v:Value),(d.cells x (svs i))[j]? =some v→w.cell? ((adr A).add (i*d.sz+j))=some v:=by
  have:∀i,∃sv,∀x,ys[i]? =some x→d.cont S w x sv∧∀(j:Nat) (v:Value),(d.cells x sv)[j]? =some v→w.cell? ((adr A).add (i*d.sz+j))=some v:=fun i=>by
    cases hx:ys[i]? with
    | none=>exact ⟨svL [],fun x hh=>by cases hh⟩
    | some y=>
      obtain ⟨sv,h1,h2⟩:=h.2 i y hx;exact ⟨sv,fun x hh=>by cases hh;exact ⟨h1,h2⟩⟩
  exact ⟨fun i=>Classical.choose (this i),fun i x hx=>Classical.choose_spec (this i) x hx⟩
theorem Arr.nil_of{S:Nat→Prop}{w:World}{ys:List α}(h:Arr d S w none ys):ys=[]:=by
  cases ys with
  | nil=>rfl
  | cons y r=>have:=(h.1 (by simp)).1;cases this
end
section
variable {P:Program} {α:Type} {d:Kd α} {e:TypeId} {S:Nat→Prop} {w:World} {base c:Nat} {A:Option Addr} {l:List α}
theorem append_none_run{t ty:TypeId}{i:TypeInfo}(ht:P.underlying t=some (.slice e))(hi:P.info? e=some i)(v:Value)(n:Nat)(xs:List Value){size:Nat}(hown:w.ownsRow base e size v n xs)(c2:Nat):
    (Builtin.append_ #[t,t] ty #[v,.slice none 0 c2]).run P w=.ok v w:=by
  rcases hown.2 with ⟨rfl,rfl⟩ | ⟨g,cap,cur,rfl,_,_,hnc,_⟩
  · simp [Builtin.append_,run_underlying ht,sizeOf,typeInfo,hi,Builtin.lenOf,Builtin.firstCells]
  · simp [Builtin.append_,run_underlying ht,sizeOf,typeInfo,hi,Builtin.lenOf,Builtin.firstCells,hnc,storeCells]
theorem appendN_run{t ty:TypeId}{i:TypeInfo}{z:Value}(ht:P.underlying t=some (.slice e))(hi:P.info? e=some i)(hz:i.zero=some z)(hs:i.size=d.sz)(hzs:z.cells.size=d.sz)
    (h:Row d e S w base A c l) (hbase:base≤w.heap.size) {A2:Option Addr} {c2:Nat} {ys:List α} (hy:Arr d S w A2 ys)
    (h1:∀y sv,∀u∈d.cells y sv,u.oneCell'=true) (hb1:l.length+ys.length≤maxLen) (hb2:(l.length+ys.length)*i.bytes≤140737488355328):
    ∃ A' c' w1,(Builtin.append_ #[t,t] ty #[.slice A l.length c,.slice A2 ys.length c2]).run P w=.ok (.slice A' (l++ys).length c') w1∧Keeps (rb A) w w1∧
      (rb A'=rb A∨(rb A'=[w.heap.size]∧w.heap.size<w1.heap.size))∧∀S',Mv S w S' w1→Row d e S' w1 base A' c' (l++ys):=by
  cases A2 with
  | none=>
    have:=hy.nil_of;subst this;obtain ⟨xs,hown,h3⟩:=h;have hr:(Builtin.append_ #[t,t] ty #[.slice A l.length c,.slice none 0 c2]).run P w=.ok (.slice A l.length c) w:=append_none_run ht hi _ _ xs hown c2;refine ⟨A,c,w,by simpa using hr,Keeps.refl _ _,.inl rfl,fun S' hk=>?_⟩;rw [List.append_nil];exact Row.keep ⟨xs,hown,h3⟩ hk (fun _ _=>rfl)
  | some ad=>
    obtain ⟨svs,hsv⟩:=hy.svsOf;obtain ⟨xs,hown,h3⟩:=h;obtain ⟨v',w1,hrun,q1,q2,q3,q4⟩:=run_append_own_at (P:=P) w base t ty e i z d.sz i.bytes ht hi hz hs rfl hzs d.pos _ _ xs hown ad ys.length c2 (newsOf d svs 0 ys) (newsOf_len 0 ys) (fun q u hu=>by
      obtain ⟨i,j,y,e1,e2,rfl⟩:=newsOf_get 0 ys q u hu;rw [Nat.zero_add] at e2;exact (hsv i y e1).2 j u e2) (fun u hu=>by
      obtain ⟨q,hq⟩:=List.getElem?_of_mem hu;obtain ⟨i,j,y,e1,e2,rfl⟩:=newsOf_get 0 ys q u hq;exact h1 y _ u (List.mem_of_getElem? e2)) hb1 hb2 hbase
    have hlen:(l++ys).length=l.length+ys.length:=by simp
    have hrb:(Value.slice A l.length c).ownBlock.toList=rb A:=by cases A<;>rfl
    have q2:=Keeps.of_grownBy q2;rw [hrb] at q2;obtain ⟨A',c',rfl⟩:∃A' c',v'=.slice A' (l.length+ys.length) c':=by
      rcases q1.2 with ⟨hv,hh⟩ | ⟨g,cap,cur,rfl,_⟩
      · exact ⟨none,0,by rw [hv,hh]⟩
      · exact ⟨_,_,rfl⟩
    have hrb':(Value.slice A' (l.length+ys.length) c').ownBlock.toList=rb A':=by cases A'<;>rfl
    refine ⟨A',c',w1,by rw [hlen];exact hrun,q2,?_,fun S' hk=>⟨_,by rw [hlen];exact q1,fun k y hy=>?_⟩⟩
    · rcases q4 with q4 | q4
      · exact .inl (by rw [← hrb,← hrb',q4])
      · exact .inr ⟨by rw [← hrb',q4];rfl,(q1.lt _ q4).2⟩
    · rcases Nat.lt_or_ge k l.length with hlt | hge
      · rw [List.getElem?_append_left hlt] at hy;obtain ⟨sv',g1,g2⟩:=h3 k y hy;refine ⟨sv',d.keep g1 hk,fun j u hj=>?_⟩;have:=g2 j u hj;rw [List.getElem?_append_left (List.getElem?_eq_some_iff.1 this).1];exact this
      · rw [List.getElem?_append_right hge] at hy;refine ⟨svs (k - l.length),d.keep (hsv _ y hy).1 hk,fun j u hj=>?_⟩;have hxl:=hown.1;have hm:k*d.sz=l.length*d.sz+(k - l.length)*d.sz:=by rw [← Nat.add_mul];congr 1;omega
        rw [List.getElem?_append_right (by rw [hxl,hm];omega),hxl,show k*d.sz+j - l.length*d.sz=(k - l.length)*d.sz+j by omega];exact newsOf_at 0 ys _ j y u hy (by rw [Nat.zero_add];exact hj)
end
section
variable {F:Fence} {m:Nat} {P:Program} {S0:Nat→Prop} {pm:List Nat} {w00 w:World} {mine l1 l2:List (List Nat)} {n:Nat} {σ:S} {ns:List Nat} {a:Act} {o:Oper} {ops:Array Oper}
  {Q:Exit→Act→World→Prop} {rest:List Oper} {α:Type} {d:Kd α} {e:TypeId} {base:Nat}
theorem appendN_(hF:FOpen F){A:Option Addr}(hE:Ep pm w00 w ns (l1++rb A::l2))(hI:Inv w ns n σ ns a w)(hw:Region.wanted o (yielded ops a.tmps)=true){s x:Operand}{t:TypeId}(hop:o.op=.call {callee:=.builtin .append,args:= #[s,x],argTypes:= #[t,t]})
    {c:Nat} {l:List α} (hs:oEnv σ.env [] s=some (.v (.slice A l.length c))) {A2:Option Addr} {c2:Nat} {ys:List α} (hx:oEnv σ.env [] x=some (.v (.slice A2 ys.length c2)))
    (hrow:Row d e (Lo S0 w00 w ns (l1++rb A::l2)) w base A c l) (hbase:base≤w.heap.size) (hy:Arr d (Lo S0 w00 w ns (l1++rb A::l2)) w A2 ys) (hone:∀y sv,∀u∈d.cells y sv,u.oneCell'=true)
    (ht:P.underlying t=some (.slice e)) {zi:Value×Nat×Nat} (hzi:zinf P e=some zi) (hsz:zi.2.1=d.sz) (hzs:Nat.beq zi.1.cells.size d.sz=true) (hb1:l.length+ys.length≤maxLen) (hb2:(l.length+ys.length)*zi.2.2≤140737488355328)
    (σ2:Option Addr→Nat→S) (hput:∀A' c',put1 σ n o.dst [] (some (.v (.slice A' (l++ys).length c')))=some (σ2 A' c'))
    (K:∀A' c' a' w',(∃v,a'=a.put o.dst v)→Ep pm w00 w' ns (l1++rb A'::l2)→Inv w' ns n (σ2 A' c') ns a' w'→(∀S0,Mv (Lo S0 w00 w ns (l1++rb A::l2)) w (Lo S0 w00 w' ns (l1++rb A'::l2)) w')→(∀b,b∈(l1++rb A::l2).flatten→b∉rb A→w'.heap[b]? =w.heap[b]?)→
      Row d e (Lo S0 w00 w' ns (l1++rb A'::l2)) w' base A' c' (l++ys)→wpListIn F m P ops Q rest a' w'):wpListIn F m P ops Q (o::rest) a w:=by
  obtain ⟨i,hi,hz,hsz',hbb⟩:=zinf_spec hzi;rw [← hbb] at hb2;obtain ⟨A',c',w1,hrun,hg,hA',hR⟩:=appendN_run (P:=P) (ty:=o.type) (c2:=c2) ht hi hz (hsz'.trans hsz) (Nat.eq_of_beq_eq_true hzs) hrow hbase hy hone hb1 hb2;have hrun':(execOp a.eval o).run P w=.ok (.value (.slice A' (l++ys).length c')) w1:=by
    have e1:=hI.opnd hs rfl;have e2:=hI.opnd hx rfl;simp only [EV.den] at e1 e2;generalize (l++ys).length=q at hrun ⊢;generalize ys.length=q2 at hrun e2;simp [execOp,hop,resolve,invoke,builtin,e1,e2,Result.andThen];rw [hrun]
  refine special hF hw (by rw [hop];intro c hc;cases hc) hrun' ?_;obtain ⟨q1,q2,q3,q4⟩:=hE.step hI hg (mine':=l1++rb A'::l2) (by intro b hb;simp [hb]) (set_mem hA') (set_dis hE hA') (.inr hrow.nd);exact K A' c' _ _ ⟨_,rfl⟩ q1 (put_v q2 _ (hput _ _)) q3 q4 (hR _ (q3 S0))
def bytesI(s:ByteArray):List Int:=s.data.toList.map fun b=>(b.toNat:Int)
theorem bytesI_len(s:ByteArray):(bytesI s).length=s.size:=by
  unfold bytesI;rw [List.length_map,Array.length_toList];rfl
theorem bytes_(hF:FOpen F)(hE:Ep pm w00 w ns mine)(hI:Inv w ns n σ ns a w)(hw:Region.wanted o (yielded ops a.tmps)=true){src dst eT:TypeId}{x:Operand}(hop:o.op=.convert src dst x){u:TypeDesc}(hs:P.underlying src=some u)(hd:P.underlying dst=some (.slice eT))(he:P.underlying eT=some (.int .u8))
    {s:ByteArray} (hx:oEnv σ.env [] x=some (.v (.string s))) (σ2:Option Addr→Nat→S) (hput:∀A c,put1 σ n o.dst [] (some (.v (.slice A (bytesI s).length c)))=some (σ2 A c))
    (K:∀A c a' w',(∃v,a'=a.put o.dst v)→Ep pm w00 w' ns mine→Inv w' ns n (σ2 A c) ns a' w'→(∀S0,Mv (Lo S0 w00 w ns mine) w (Lo S0 w00 w' ns mine) w')→(∀b,b∈mine.flatten→b∉([]:List Nat)→w'.heap[b]? =w.heap[b]?)→
      Arr (Kd.int .u8) (Lo S0 w00 w' ns mine) w' A (bytesI s)→(bytesI s).length≤c→wpListIn F m P ops Q rest a' w'):wpListIn F m P ops Q (o::rest) a w:=by
  have hr:=Lib.run_convert_string_bytes (P:=P) w src dst eT s hs hd he;have hrun':(execOp a.eval o).run P w=.ok (.value (.slice (some ⟨w.heap.size,0,none⟩) (bytesI s).length (grownCap w s.size 0 eT))) (Lib.bytesWorld w eT s):=by
    have e1:=hI.opnd hx rfl;simp only [EV.den] at e1;rw [bytesI_len];simp [execOp,hop,e1,hr,Sem.run_bind,Result.andThen]
  have hk:Keeps [] w (Lib.bytesWorld w eT s):=⟨by simp [Lib.bytesWorld,World.freeze,World.alloc,World.drew,-World.alloc_eq,-World.drew_eq],by simp [Lib.bytesWorld,World.freeze,World.alloc,World.drew,-World.alloc_eq,-World.drew_eq],by simp [Lib.bytesWorld,World.freeze,World.alloc,World.drew,-World.alloc_eq,-World.drew_eq],by rw [Lib.bytesWorld_size];omega,fun k hk _=>Lib.bytesWorld_at_old w eT s k hk⟩;refine special hF hw (by rw [hop];intro c hc;cases hc) hrun' ?_;obtain ⟨q1,q2,q3,q4⟩:=hE.step hI hk (mine':=mine) (by intro b hb;cases hb) same_mem hE.dis (.inr (by intro b hb;cases hb));refine K _ _ _ _ ⟨_,rfl⟩ q1 (put_v q2 _ (hput _ _)) q3 q4 ⟨fun _=>⟨rfl,?_⟩,fun i x hx=>⟨svL [],trivial,fun j v hj=>?_⟩⟩ ?_
  · refine ⟨by rw [Lib.bytesWorld_size];exact Nat.lt_succ_self _,fun hh=>?_,fun hh=>?_,.inl hE.k.size⟩
    · have:=(hE.ow _ hh).2;simp [adr] at this
    · have:=(hE.mi _ hh).2.1;simp [adr] at this
  · have hj0:j=0:=by
      have:=(List.getElem?_eq_some_iff.1 hj).1;simp [Kd.int] at this;omega
    subst hj0;simp only [Kd.int,List.getElem?_cons_zero,Option.some.injEq] at hj;subst hj;have hi:i<s.size:=by rw [← bytesI_len];exact (List.getElem?_eq_some_iff.1 hx).1
    have:=Lib.bytesWorld_cell w eT s i hi;simp only [adr,Option.getD_some];rw [add_at];have hz:0+(i*(Kd.int .u8).sz+0)=i:=by simp [Kd.int]
    rw [hz,this]
    congr 2
    simp only [bytesI,List.getElem?_map,Option.map_eq_some_iff] at hx;obtain ⟨b,hb,rfl⟩:=hx;rw [List.getD_eq_getElem?_getD,hb];rfl
  · rw [bytesI_len];exact grownCap_ge _ _ _ _
end
section
variable {P:Program} {w:World} {S:Nat→Prop} {α:Type} {d:Kd α}
theorem len_maxN{n b:Nat}(hb:0<b)(h:n*b≤140737488355328):n≤maxLen:=by
  have:n≤n*b:=Nat.le_mul_of_pos_right _ hb;simp only [maxLen];omega
theorem eql_nil_run{t e:TypeId}(ht:P.underlying t=some (.slice e))(A:Option Addr)(n c:Nat)(X Y:Operand)(w:World):(do eqGuard .eql t X Y (.slice A n c) (.slice none 0 0);binOp .eql t (.slice A n c) (.slice none 0 0)).run P w=.ok (.bool A.isNone) w:=by
  have h:(eqGuard .eql t X Y (.slice A n c) (.slice none 0 0)).run P w=.ok () w:=rfl;rw [Sem.run_bind,h,Result.andThen_ok];exact Lib.run_eql_slice_nil w t e A n c 0 0 ht
theorem Ep.outO{pm:List Nat}{w00:World}{own:List Nat}{mine:List (List Nat)}(hE:Ep pm w00 w own mine)(ix:List Nat):∀S0,Mv (Lo S0 w00 w own mine) w (fun b=>b∉(ix.map fun i=>mine.getD i []).flatten∧(w00.heap.size≤b∨S0 b)) w:=
  fun S0 b hb _=>⟨⟨fun hh=>hb.2.2.1 (flat_pick ix hh),hb.2.2.2⟩,rfl⟩
theorem Mv.startP{S0:Nat→Prop}{pm:List Nat}(w:World){mine:List (List Nat)}(hd:S=fun b=>S0 b∨b∈pm)(hS:∀b,S0 b→b∉mine.flatten):Mv S0 w (Lo S w w [] mine) w:=fun b hb hc=>⟨⟨hc.1,by simp,hS b hb,.inr (by rw [hd];exact .inl hb)⟩,rfl⟩
theorem Row.stillP{pm:List Nat}{w00:World}{ns:List Nat}{l1 l2:List (List Nat)}{e:TypeId}{base c:Nat}{A:Option Addr}{l:List α}{S0:Nat→Prop}(h:Row d e (Lo S0 w00 w ns (l1++rb A::l2)) w base A c l)(hp:∀b∈pm,S0 b)(hE:Ep pm w00 w ns (l1++rb A::l2)):
    Ep pm w00 w ns (l1++l2)∧(∀S0,Mv (Lo S0 w00 w ns (l1++rb A::l2)) w (Lo S0 w00 w ns (l1++l2)) w)∧Arr d (Lo S0 w00 w ns (l1++l2)) w A l∧l.length≤c:=by
  have h1:=hE.sub (sub_one l1 l2 (rb A));have h2:=h.arr (S':=Lo S0 w00 w ns (l1++l2)) (fun b hb=>⟨hb.1,hb.2.1,fun hh=>hb.2.2.1 ((flat_sub (sub_one l1 l2 (rb A))).subset hh),hb.2.2.2⟩) (fun b hb=>by
    obtain ⟨q1,q2,q3⟩:=hE.mi b (flat_mem (by simp) hb);exact ⟨q2,q3,hE.gone b hb,q1.imp id (hp b)⟩)
  exact ⟨h1.1,h1.2,h2.1,h2.2⟩
theorem Row.low{e:TypeId}{base base' c:Nat}{A:Option Addr}{l:List α}(h:Row d e S w base A c l)(hb:base'≤base):Row d e S w base' A c l:=h.raise fun b hh=>Nat.le_trans hb (h.ge b hh)
end
def opt{α β:Type}(x:Option α)(a:β)(f:α→β):β:=match x with
  | none=>a
  | some y=>f y
theorem opt_split{α β:Type}{x:Option α}{a b:β}{f:α→β}(h:opt x a f=b):(x=none∧a=b)∨∃y,x=some y∧f y=b:=by
  cases x with
  | none=>exact .inl ⟨rfl,h⟩
  | some y=>exact .inr ⟨y,rfl,h⟩
theorem Inv.cast{w0 w:World}{own:List Nat}{n:Nat}{ns:List Nat}{a:Act}{β:Type}{σf:β→S}{p q:β}(h:p=q)(hI:Inv w0 own n (σf p) ns a w):Inv w0 own n (σf q) ns a w:=h▸hI
theorem OjtN.none_of{α:Type}{k:Lk α}{S:Nat→Prop}{w:World}{A:Option Addr}{x:Option α}{F:List Nat}(h:OjtN k S w A x F)(hx:x=none):A=none∧F=[]:=by subst hx;exact h
theorem OjtN.some_of{α:Type}{k:Lk α}{S:Nat→Prop}{w:World}{A:Option Addr}{x:Option α}{F:List Nat}(h:OjtN k S w A x F){y:α}(hx:x=some y):∃b,A=some ⟨b,0,none⟩∧Ojt k S w b y F:=by subst hx;exact h
theorem OjtN.of{α:Type}{k:Lk α}{S:Nat→Prop}{w:World}{b:Nat}{x:α}{F:List Nat}(h:Ojt k S w b x F):OjtN k S w (some ⟨b,0,none⟩) (some x) F:=⟨b,rfl,h⟩
theorem OjtN.nil{α:Type}(k:Lk α)(S:Nat→Prop)(w:World):OjtN k S w none none []:=⟨rfl,rfl⟩
section
variable {P:Program} {α:Type} {d:Kd α} {e:TypeId} {S:Nat→Prop} {w:World} {base c:Nat} {A:Option Addr} {l:List α}
end
section
variable {F:Fence} {m:Nat} {P:Program} {S0:Nat→Prop} {pm:List Nat} {w00 w:World} {mine l1 l2:List (List Nat)} {n:Nat} {σ:S} {ns:List Nat} {a:Act} {o:Oper} {ops:Array Oper}
  {Q:Exit→Act→World→Prop} {rest:List Oper} {α:Type} {d:Kd α} {e:TypeId} {base:Nat}
end
theorem Ep.reord{pm:List Nat}{w00 w:World}{ns:List Nat}{mine:List (List Nat)}(hE:Ep pm w00 w ns mine)(ix:List Nat)(hp:ix.isPerm (List.range mine.length)=true):
    Ep pm w00 w ns (ix.map fun i=>mine.getD i [])∧∀S0,Mv (Lo S0 w00 w ns mine) w (Lo S0 w00 w ns (ix.map fun i=>mine.getD i [])) w:=by
  have h:(ix.map fun i=>mine.getD i []).Perm ((List.range mine.length).map fun i=>mine.getD i []):=(List.isPerm_iff.1 hp).map _;have e:((List.range mine.length).map fun i=>mine.getD i [])=mine:=by
    apply List.ext_getElem
    · simp
    · intro i h1 h2;simp [List.getD_eq_getElem?_getD,h2]
  rw [e] at h;exact hE.perm h.symm.flatten
def callOfM(P:Program)(σ:S)(o:Oper):Option (FuncId×List EV×List Value):=
  match o.op with
  | .call {callee:=.invoke x name,args:=xs,.. }=>
    match oEnv σ.env [] x,evArgs σ.env [] xs.toList with
    | some (.v (.iface t v)),some es=>match Sem.val P (Go.method (P.types.size+Made.depth) t v name) with | some r=>some (r.1,.v r.2::es,[]) | none=>none
    | _,_=>none
  | _=>none
theorem callOfM_run{P:Program}{w0 w:World}{own:List Nat}{n:Nat}{σ:S}{ns:List Nat}{a:Act}{o:Oper}{f:FuncId}{es:List EV}{cs:List Value}(hI:Inv w0 own n σ ns a w)(h:callOfM P σ o=some (f,es,cs))
    (hent:∀args w,(callFunc f args).run P w=.ok (.enter f args) w):
    (∀c,o.op≠ .defer c)∧(execOp a.eval o).run P w=.ok (.enter f (es.map (EV.den ns)++cs).toArray) w:=by
  unfold callOfM at h;split at h
  · rename_i x name xs ats hop;refine ⟨(fun c hc=>by rw [hop] at hc;cases hc),?_⟩;split at h
    · rename_i t v es' hx hes;split at h
      · rename_i r hr;simp only [Option.some.injEq,Prod.mk.injEq] at h;obtain ⟨rfl,rfl,rfl⟩:=h;have hx':=hI.opnd hx rfl;simp only [EV.den] at hx';have hm:=Sem.run_val (P:=P) hr w;unfold execOp;rw [hop];simp only [resolve,hx',Sem.run_bind,Sem.run_pure,Result.andThen_ok,invoke];have e0:(#[Value.iface t v]++Array.map a.eval xs)[0]? =some (.iface t v):=by rw [Array.getElem?_append_left (by simp)];rfl
        have e1:(#[Value.iface t v]++Array.map a.eval xs).extract 1 (#[Value.iface t v]++Array.map a.eval xs).size=Array.map a.eval xs:=by
          apply Array.ext';simp;exact List.take_of_length_le (by simp)
        simp only [e0,e1,callMethod,Sem.run_bind];show ((Go.method (P.types.size+Made.depth) t v name).run P w).andThen _=_;rw [hm];simp only [Result.andThen_ok];rw [hent];have:=evArgs_eval hI rfl hes
        congr 2
        apply Array.ext';simp [← this,EV.den]
      · simp at h
    · simp at h
  · simp at h
section
variable {S0:Nat→Prop} {F:Fence} {m:Nat} {P:Program} {pm:List Nat} {w00 w:World} {mine:List (List Nat)} {n:Nat} {σ:S} {ns:List Nat} {a:Act} {o:Oper} {ops:Array Oper} {Q:Exit→Act→World→Prop} {rest:List Oper}
theorem callIm_(hF:FOpen F)(hI:Inv w ns n σ ns a w)(hw:Region.wanted o (yielded ops a.tmps)=true){f:FuncId}{es:List EV}{cs:List Value}(hco:callOfM P σ o=some (f,es,cs)){fn:Func}{c:Code}(hf:P.funcs[f]? =some fn)
    (hname:(fn.name== "runtime.NumGoroutine")=false) (hb:fn.body=some c) {n':Nat} (hn:fn.ntmps=n') (hle:Nat.ble (es++cs.map EV.v).length n'=true) (hwf:es.all (EV.wf σ.bs.length)=true)
    (K:∀a',Inv w ns n' ⟨entEnvE 0 (es++cs.map EV.v),[],[],σ.bs,none,some (σ.bs.length,ns)⟩ ns a' w→c.wpIn Fence.wide 0 P (bodyPost P fn (fun e w'=>∃v,e=.returned v∧wpListIn F m P ops Q rest (a.put o.dst v) w')) a' w):
    wpListIn F m P ops Q (o::rest) a w:=by
  unfold wpListIn;rw [hw,if_pos rfl];obtain ⟨hnd,hrun⟩:=callOfM_run hI hco (enters hf hname hb);refine ⟨fun f _=>hF.fn f,?_⟩;rw [Oper.semAt_plain F _ _ hnd,hrun,Oper.uponIn_enter];refine ⟨fun hd=>by rw [hF.depth] at hd;simp at hd,?_⟩;have hle:=Nat.le_of_ble_eq_true hle;simp only [List.length_append,List.length_map] at hle;have hc:Calls P f (es.map (EV.den ns)++cs).toArray w (fun e w'=>∃v,e=.returned v∧wpListIn F m P ops Q rest (a.put o.dst v) w'):=by
    refine (callsIn_wide (n:=0)).1 (callsIn_of_wp hf hb trivial (K _ ⟨?_,rfl,?_,?_,hI.bwf,?_,hI.loc,?_⟩))
    · simp [hn];omega
    · intro x hx;obtain ⟨h1,h3,h4⟩:=entEnvE_mem hx;rw [h1];simp only [Nat.sub_zero] at h4;have h5:(es.map (EV.den ns)++cs)[x.t]? =some (x.e.den ns):=by
        have:=congrArg (Option.map (EV.den ns)) h4;rw [← List.getElem?_map,List.map_append,List.map_map] at this;rw [show (EV.den ns∘EV.v)=id from rfl,List.map_id] at this;exact this
      have hl:=(List.getElem?_eq_some_iff.1 h5).1;rw [Array.getElem?_append_left (by simpa using hl)]
      simpa [gvv,pathB,EV.den] using h5
    · intro x hx;obtain ⟨h1,h3,h4⟩:=entEnvE_mem hx;rw [h1];refine ⟨?_,fun y hy=>by simp at hy⟩;have:=List.mem_of_getElem? h4;rw [List.mem_append] at this;rcases this with h | h
      · exact List.all_eq_true.1 hwf _ h
      · obtain ⟨u,_,hu⟩:=List.mem_map.1 h;rw [← hu];rfl
    · intro x hx;simp at hx
    · exact ⟨by rw [← hI.loc.len];simp,Nat.le_of_eq hI.loc.len.symm⟩
  refine (hF.calls hc).mono ?_;rintro e w1 ⟨v,rfl,h⟩;exact h
end
theorem strs_of{P:Program}{n:Nat}{t e:TypeId}(ht:P.underlying t=some (.array n e))(he:P.underlying e=some .string)(hs:P.cellsOf e=1∧P.cellsOf t=n){w:World}{held:Bool}{fuel:Nat}{cs:List Value}{p:List MemPlace}(l:List (List UInt8))(hl:l.length=n)
    (h:DataW.trod (fun _=>()) P w 0 (fun _=>true) held fuel t cs=some (.agg (l.map fun s=>.lit (.string s)),p)):cs=l.map fun s=>Value.string ⟨s.toArray⟩:=by
  obtain ⟨xs,m,_,hx,hlen,hn,hel⟩:=DataW.trod_array ht h;rw [hs.2] at hlen;have hx1:l.map (fun s=>(DataW.lit (.string s):DataW Unit))=xs.map (·.1):=by
    have:=congrArg Prod.fst hx
    simpa using this
  apply List.ext_getElem?;intro i;by_cases hi:i<n
  · have h1:=hel i hi;rw [hs.1,Nat.mul_one,List.getElem?_eq_getElem (by omega)] at h1;obtain ⟨s,e1,e2,_⟩:=DataW.trod_string he h1;have h2:cs[i]? =some (.string s):=by
      have:=congrArg (fun q=>q[0]?) e1;simp only [List.getElem?_take,List.getElem?_drop] at this
      simpa using this
    have h3:(l.map (fun s=>(DataW.lit (.string s):DataW Unit)))[i]? =some (.lit (.string s.data.toList)):=by
      rw [hx1,List.getElem?_map,List.getElem?_eq_getElem (by omega),e2];rfl
    rw [List.getElem?_map,List.getElem?_eq_getElem (by omega)] at h3;simp only [Option.map_some,Option.some.injEq,DataW.lit.injEq,Lit.string.injEq] at h3;rw [h2,List.getElem?_map,List.getElem?_eq_getElem (by omega),h3];simp
  · rw [List.getElem?_eq_none (by omega),List.getElem?_eq_none (by simp;omega)]
theorem b_nf{c:Bool}(h:(!c)=false):c=true:=by cases c;cases h;rfl
theorem b_nt{c:Bool}(h:(!c)=true):c=false:=by cases c;rfl;cases h
theorem b_fn{c:Bool}(h:c=false):(!c)=true:=by subst h;rfl
theorem b_tn{c:Bool}(h:c=true):(!c)=false:=by subst h;rfl
abbrev e_(t:Nat)(v:Value):Ent:=⟨t,[],.v v⟩
abbrev p_(t k off:Nat):Ent:=⟨t,[],.p k off⟩
abbrev s_(env:List Ent)(bs:List (List EV×TypeId)):S:=⟨env,[],[],bs,none,none⟩
theorem hmr_(l:List (List Nat))(w:World):∀b∈l.flatten,w.heap[b]? =w.heap[b]? :=fun _ _=>rfl
section
variable {F:Fence} {m:Nat} {P:Program} {w0:World} {own:List Nat} {n:Nat} {σ:S} {ns:List Nat} {a:Act} {w:World} {Q:Exit→Act→World→Prop} {ops:Array Oper} {rest:List Oper} {orc:List (List Value)}
theorem sr_{id:Nat}{l:List Oper}{y:Code}(hF:FOpen F)(hI:St w0 own n σ ns a w)(σ2:S)(obs:List Ob)(h:region P l n (σ2.env.map Ent.t) σ orc=some (σ2,obs))(hob:Obs P w0 own obs)
    (K:∀ns' a' w',St w0 own n σ2 ns' a' w'→y.wpIn F m P Q a' w'):(Code.seq (Code.region id l.toArray false) y).wpIn F m P Q a w:=
  seq_region hF hI σ2 obs h hob (fun ns' a' w' h _=>K ns' a' w' h)
theorem sr0_{id:Nat}{l:List Oper}{y:Code}(hF:FOpen F)(hI:St w0 own n σ ns a w)(σ2:S)(h:region P l n (σ2.env.map Ent.t) σ []=some (σ2,[]))
    (K:∀ns' a' w',St w0 own n σ2 ns' a' w'→y.wpIn F m P Q a' w'):(Code.seq (Code.region id l.toArray false) y).wpIn F m P Q a w:=
  seq_region hF hI σ2 [] h trivial (fun ns' a' w' h _=>K ns' a' w' h)
theorem rg0_{id:Nat}{l:List Oper}(hF:FOpen F)(hI:St w0 own n σ ns a w)(σ2:S)(h:region P l n (σ2.env.map Ent.t) σ []=some (σ2,[]))
    (K:∀ns' a' w',St w0 own n σ2 ns' a' w'→Q .normal a' w'):(Code.region id l.toArray false).wpIn F m P Q a w:=
  region_ hF hI σ2 [] h trivial (fun ns' a' w' h _=>K ns' a' w' h)
theorem ck_(hF:FOpen F)(k:Nat)(hI:Inv w0 own n σ ns a w)(σ2:S)(obs:List Ob){l:List Oper}(hr:l.drop k=rest)(h:chunkL P ops n k (σ2.env.map Ent.t) l σ orc=some (σ2,obs))(hob:Obs P w0 own obs)
    (K:∀ns' a' w',Inv w0 own n σ2 ns' a' w'→wpListIn F m P ops Q rest a' w'):wpListIn F m P ops Q l a w:=chunkL_ hF k hI σ2 obs hr h hob K
theorem ck0_(hF:FOpen F)(k:Nat)(hI:Inv w0 own n σ ns a w)(σ2:S){l:List Oper}(hr:l.drop k=rest)(h:chunkL P ops n k (σ2.env.map Ent.t) l σ []=some (σ2,[]))
    (K:∀ns' a' w',Inv w0 own n σ2 ns' a' w'→wpListIn F m P ops Q rest a' w'):wpListIn F m P ops Q l a w:=chunkL_ hF k hI σ2 [] hr h trivial K
end
def lk_(l:List Ent)(t:Nat):Option Ent:=l.find? fun x=>Nat.beq x.t t
def nx(σ:S)(live:List Nat)(new:List Ent)(ch:List (Nat×(List EV×TypeId))):S:=
  {σ with env:=live.map fun t=>match lk_ new t with | some x=>x | none=>match lk_ σ.env t with | some x=>x | none=>⟨t,[],.v (.tuple #[])⟩,bs:=ch.foldl (fun bs p=>bif Nat.ble bs.length p.1 then bs++[p.2] else bs.set p.1 p.2) σ.bs}
section
variable {F:Fence} {m:Nat} {P:Program} {w0:World} {own:List Nat} {n:Nat} {σ:S} {ns:List Nat} {a:Act} {w:World} {Q:Exit→Act→World→Prop} {ops:Array Oper} {rest:List Oper} {orc:List (List Value)}
theorem srn_{id:Nat}{l:List Oper}{y:Code}(hF:FOpen F)(hI:St w0 own n σ ns a w)(live:List Nat)(new:List Ent)(ch:List (Nat×(List EV×TypeId)))(obs:List Ob)(h:region P l n live σ orc=some (nx σ live new ch,obs))(hob:Obs P w0 own obs)
    (K:∀ns' a' w',St w0 own n (nx σ live new ch) ns' a' w'→y.wpIn F m P Q a' w'):(Code.seq (Code.region id l.toArray false) y).wpIn F m P Q a w:=
  seq_region hF hI _ obs h hob (fun ns' a' w' h _=>K ns' a' w' h)
theorem srn0_{id:Nat}{l:List Oper}{y:Code}(hF:FOpen F)(hI:St w0 own n σ ns a w)(live:List Nat)(new:List Ent)(ch:List (Nat×(List EV×TypeId)))(h:region P l n live σ []=some (nx σ live new ch,[]))
    (K:∀ns' a' w',St w0 own n (nx σ live new ch) ns' a' w'→y.wpIn F m P Q a' w'):(Code.seq (Code.region id l.toArray false) y).wpIn F m P Q a w:=
  seq_region hF hI _ [] h trivial (fun ns' a' w' h _=>K ns' a' w' h)
theorem rgn_{id:Nat}{l:List Oper}(hF:FOpen F)(hI:St w0 own n σ ns a w)(live:List Nat)(new:List Ent)(ch:List (Nat×(List EV×TypeId)))(obs:List Ob)(h:region P l n live σ orc=some (nx σ live new ch,obs))(hob:Obs P w0 own obs)
    (K:∀ns' a' w',St w0 own n (nx σ live new ch) ns' a' w'→Q .normal a' w'):(Code.region id l.toArray false).wpIn F m P Q a w:=
  region_ hF hI _ obs h hob (fun ns' a' w' h _=>K ns' a' w' h)
theorem rgn0_{id:Nat}{l:List Oper}(hF:FOpen F)(hI:St w0 own n σ ns a w)(live:List Nat)(new:List Ent)(ch:List (Nat×(List EV×TypeId)))(h:region P l n live σ []=some (nx σ live new ch,[]))
    (K:∀ns' a' w',St w0 own n (nx σ live new ch) ns' a' w'→Q .normal a' w'):(Code.region id l.toArray false).wpIn F m P Q a w:=
  region_ hF hI _ [] h trivial (fun ns' a' w' h _=>K ns' a' w' h)
theorem ckn_(hF:FOpen F)(k:Nat)(hI:Inv w0 own n σ ns a w)(live:List Nat)(new:List Ent)(ch:List (Nat×(List EV×TypeId)))(obs:List Ob){l:List Oper}(hr:l.drop k=rest)(h:chunkL P ops n k live l σ orc=some (nx σ live new ch,obs))(hob:Obs P w0 own obs)
    (K:∀ns' a' w',Inv w0 own n (nx σ live new ch) ns' a' w'→wpListIn F m P ops Q rest a' w'):wpListIn F m P ops Q l a w:=chunkL_ hF k hI _ obs hr h hob K
theorem ckn0_(hF:FOpen F)(k:Nat)(hI:Inv w0 own n σ ns a w)(live:List Nat)(new:List Ent)(ch:List (Nat×(List EV×TypeId))){l:List Oper}(hr:l.drop k=rest)(h:chunkL P ops n k live l σ []=some (nx σ live new ch,[]))
    (K:∀ns' a' w',Inv w0 own n (nx σ live new ch) ns' a' w'→wpListIn F m P ops Q rest a' w'):wpListIn F m P ops Q l a w:=chunkL_ hF k hI _ [] hr h trivial K
end
section
variable {P:Program} {e:TypeId} {S:Nat→Prop} {w:World} {base c:Nat} {A:Option Addr} {l:List Int}
end
section
variable {F:Fence} {m:Nat} {P:Program} {S0:Nat→Prop} {pm:List Nat} {w00 w w0:World} {own:List Nat} {mine l1 l2:List (List Nat)} {n:Nat} {σ:S} {ns:List Nat} {a:Act} {o:Oper} {ops:Array Oper}
  {Q:Exit→Act→World→Prop} {rest:List Oper} {e:TypeId} {base:Nat}
end
section
variable {P:Program} {e:TypeId} {S:Nat→Prop} {w:World} {base c:Nat} {A:Option Addr} {l:List Int} {kk:IntKind}
end
section
variable {F:Fence} {m:Nat} {P:Program} {S0:Nat→Prop} {pm:List Nat} {w00 w w0:World} {own:List Nat} {mine l1 l2:List (List Nat)} {n:Nat} {σ:S} {ns:List Nat} {a:Act} {o:Oper} {ops:Array Oper}
  {Q:Exit→Act→World→Prop} {rest:List Oper} {e:TypeId} {base:Nat} {kk:IntKind}
end
section
variable {F:Fence} {m:Nat} {P:Program} {w w0:World} {own:List Nat} {n:Nat} {σ:S} {ns:List Nat} {a:Act} {o:Oper} {ops:Array Oper} {Q:Exit→Act→World→Prop} {rest:List Oper}
end
def kdJ:Kd (Nat×List Value):=⟨1,fun x _=>[.func (.func x.1) #[] x.2.toArray],fun _ _ _ _=>True,fun _ _=>rfl,Nat.one_pos,fun _ _=>trivial⟩
theorem kd_one_J(x:Nat×List Value)(sv:SV)(u:Value)(hu:u∈kdJ.cells x sv):u.oneCell'=true:=by
  simp only [kdJ,List.mem_singleton] at hu;subst hu;rfl
def kdV1(v:Value):Kd Unit:=⟨1,fun _ _=>[v],fun _ _ _ _=>True,fun _ _=>rfl,Nat.one_pos,fun _ _=>trivial⟩
def hd1(S:Nat→Prop)(w:World)(A:Option Addr)(v:Value):Prop:=∃b,A=some ⟨b,0,none⟩∧S b∧w.cell? ⟨b,0,none⟩=some v
theorem hd1.keep{S S':Nat→Prop}{w w':World}{A:Option Addr}{v:Value}(h:hd1 S w A v)(hk:∀b,S b→IsC w b→S' b∧w'.heap[b]? =w.heap[b]?):hd1 S' w' A v:=by
  obtain ⟨b,h1,h2,h3⟩:=h;obtain ⟨q1,q2⟩:=hk b h2 (isC_of_cell h3);exact ⟨b,h1,q1,by rw [World.cell?_of_block (w:=w) q2];exact h3⟩
theorem hd1.el{S:Nat→Prop}{w:World}{A:Option Addr}{v:Value}(h:hd1 S w A v):A=some (adr A)∧El (kdV1 v) S w (adr A) () (fun _=>(none,0)):=by
  obtain ⟨b,rfl,h2,h3⟩:=h;refine ⟨rfl,trivial,h2,fun j u hj=>?_⟩;cases j with
  | zero=>
    simp only [kdV1,List.getElem?_cons_zero,Option.some.injEq] at hj;subst hj;rw [show (adr (some ⟨b,0,none⟩)).add 0=⟨b,0,none⟩ from rfl];exact h3
  | succ j=>simp [kdV1] at hj
theorem Ob1.hd{α:Type}{d:Kd α}{e:TypeId}{X S:Nat→Prop}{w:World}{b:Nat}{x:α}{sv:SV}{v:Value}(h:Ob1 d e X w b x sv)(hv:(d.cells x sv)[0]? =some v)(hb:S b):hd1 S w (some ⟨b,0,none⟩) v:=⟨b,rfl,hb,h.cell hv⟩
section
variable {pm:List Nat} {w00 w w0:World} {own ns:List Nat} {mine:List (List Nat)} {n:Nat} {σ:S} {a:Act}
theorem Inv.hd{S:Nat→Prop}(hE:Ep pm w00 w ns mine)(hI:Inv w ns n σ ns a w0)(k:Nat){v:Value}{cs:List EV}{T:TypeId}(hk:σ.bs[k]? =some (.v v::cs,T)):hd1 (fun b=>w00.heap.size≤b∨S b) w0 (some ⟨ns.getD k 0,0,none⟩) v:=by
  have hkl:k<σ.bs.length:=(List.getElem?_eq_some_iff.1 hk).1;refine ⟨_,rfl,.inl (hE.ow _ (hI.loc.mem hkl)).1,?_⟩;have:=hI.loc.blk k _ _ hk;unfold World.cell?;simp only [this];simp [EV.den]
end
section
variable {S0:Nat→Prop} {F:Fence} {m:Nat} {P:Program} {pm:List Nat} {w00 w:World} {mine:List (List Nat)} {n:Nat} {σ:S} {ns:List Nat} {a:Act} {o:Oper} {ops:Array Oper} {Q:Exit→Act→World→Prop} {rest:List Oper}
theorem callN_(hF:FOpen F)(hE:Ep pm w00 w ns mine)(hI:Inv w ns n σ ns a w)(hw:Region.wanted o (yielded ops a.tmps)=true){f:FuncId}{es:List EV}{cs args:List Value}(hco:callOfM P σ o=some (f,es,cs))(hv:argsOf es cs=some args)
    (hent:∀args w,(callFunc f args).run P w=.ok (.enter f args) w) (v:Value) (hc:Calls P f args.toArray w fun e w'=>e=.returned v∧Below w.heap.size w w')
    (σ2:S) (hput:put1 σ n o.dst [] (some (.v v))=some σ2)
    (K:∀a' w',(∃v,a'=a.put o.dst v)→Ep pm w00 w' ns mine→Inv w' ns n σ2 ns a' w'→(∀S0,Mv (Lo S0 w00 w ns mine) w (Lo S0 w00 w' ns mine) w')→(∀b,b∈mine.flatten→b∉([]:List Nat)→w'.heap[b]? =w.heap[b]?)→wpListIn F m P ops Q rest a' w'):wpListIn F m P ops Q (o::rest) a w:=by
  unfold wpListIn;rw [hw,if_pos rfl];obtain ⟨hnd,hrun⟩:=callOfM_run hI hco hent;refine ⟨fun f _=>hF.fn f,?_⟩;rw [Oper.semAt_plain F _ _ hnd,hrun,Oper.uponIn_enter];refine ⟨fun hd=>by rw [hF.depth] at hd;simp at hd,?_⟩;rw [argsOf_den hv];refine (hF.calls hc).mono ?_;rintro e w1 ⟨rfl,hb⟩;obtain ⟨q1,q2,q3,q4⟩:=hE.step hI (Keeps.of_below' hb) (mine':=mine) (by intro b' hb;cases hb) same_mem hE.dis (.inr (by intro b hb;cases hb));exact K _ _ ⟨_,rfl⟩ q1 (put_v q2 _ hput) q3 q4
end
def putD(σ:S)(n:Nat)(d:Option Tmp)(e:Option EV):S:=(put1 σ n d [] e).getD σ
theorem putD_eq{σ:S}{n:Nat}{d:Option Tmp}{e:Option EV}(h:(put1 σ n d [] e).isSome=true):put1 σ n d [] e=some (putD σ n d e):=by
  unfold putD;cases hp:put1 σ n d [] e with
  | none=>rw [hp] at h;cases h
  | some x=>rfl
def finD(live:List Nat)(σ:S):S:=(Eng.fin live σ).getD σ
theorem finD_eq{live:List Nat}{σ:S}(h:(Eng.fin live σ).isSome=true):Eng.fin live σ=some (finD live σ):=by
  unfold finD;cases hp:Eng.fin live σ with
  | none=>rw [hp] at h;cases h
  | some x=>rfl
theorem Inv.finD{w0 w:World}{own:List Nat}{n:Nat}{σ:S}{ns:List Nat}{a:Act}(hI:Inv w0 own n σ ns a w)(live:List Nat)(h:(Eng.fin live σ).isSome=true):Inv w0 own n (Eng.finD live σ) ns a w:=hI.fin (finD_eq h)
section
variable {F:Fence} {m:Nat} {P:Program} {S0:Nat→Prop} {pm:List Nat} {w00 w:World} {mine l1 l2:List (List Nat)} {n:Nat} {σ:S} {ns:List Nat} {a:Act} {o:Oper} {ops:Array Oper}
  {Q:Exit→Act→World→Prop} {rest:List Oper} {α:Type} {d:Kd α} {e:TypeId} {base:Nat} {w':World}
theorem buildSliceD_(hF:FOpen F)(hE:Ep pm w00 w ns mine)(hI:Inv w ns n σ ns a w)(hw:Region.wanted o (yielded ops a.tmps)=true){t:TypeId}{len:Nat}{ps:Array (Nat×Operand)}(hop:o.op=.buildSlice t len ps)
    (hall:(allV σ.env [] o.op.operands&&notSel o.op)=true) {cs:List Value} (hb:bsl P t len (ps.map fun p=>(p.1,rhoV σ.env [] p.2))=some (e,cs)) (xs:List α) (svs:List SV) (hlen:len=xs.length) (hl:cs.length=xs.length*d.sz) (hm:xs.length≤maxLen)
    (hc:∀i x,xs[i]? =some x→d.cont (Lo S0 w00 w ns mine) w x (svs.getD i (fun _=>(none,0)))∧(cs.drop (i*d.sz)).take d.sz=d.cells x (svs.getD i (fun _=>(none,0))))
    (hput:∀A,(put1 σ n o.dst [] (some (.v (.slice A xs.length xs.length)))).isSome=true)
    (K:∀A a' w',(∃v,a'=a.put o.dst v)→Ep pm w00 w' ns (mine++[rb A])→Inv w' ns n (putD σ n o.dst (some (.v (.slice A xs.length xs.length)))) ns a' w'→(∀S0,Mv (Lo S0 w00 w ns mine) w (Lo S0 w00 w' ns (mine++[rb A])) w')→(∀b,b∈mine.flatten→b∉([]:List Nat)→w'.heap[b]? =w.heap[b]?)→
      Row d e (Lo S0 w00 w' ns (mine++[rb A])) w' w00.heap.size A xs.length xs→wpListIn F m P ops Q rest a' w'):wpListIn F m P ops Q (o::rest) a w:=
  buildSlice_ hF hE hI hw hop hall hb xs svs hlen hl hm hc (fun A=>putD σ n o.dst (some (.v (.slice A xs.length xs.length)))) (fun A=>putD_eq (hput A)) K
theorem appendD_(hF:FOpen F){A:Option Addr}(hE:Ep pm w00 w ns (l1++rb A::l2))(hI:Inv w ns n σ ns a w)(hw:Region.wanted o (yielded ops a.tmps)=true){s x:Operand}{t:TypeId}(hop:o.op=.call {callee:=.builtin .append,args:= #[s,x],argTypes:= #[t,t]})
    {c:Nat} {l:List α} (hs:oEnv σ.env [] s=some (.v (.slice A l.length c))) {A2:Option Addr} {c2:Nat} (hx:oEnv σ.env [] x=some (.v (.slice A2 1 c2)))
    (hrow:Row d e (Lo S0 w00 w ns (l1++rb A::l2)) w w00.heap.size A c l) {y:α} (hy:Arr d (Lo S0 w00 w ns (l1++rb A::l2)) w A2 [y]) (hone:∀sv,∀u∈d.cells y sv,u.oneCell'=true)
    (ht:P.underlying t=some (.slice e)) {zi:Value×Nat×Nat} (hzi:zinf P e=some zi) (hsz:zi.2.1=d.sz) (hzs:Nat.beq zi.1.cells.size d.sz=true) (hb1:l.length+1≤maxLen) (hb2:(l.length+1)*zi.2.2≤140737488355328)
    (hput:∀A' c',(put1 σ n o.dst [] (some (.v (.slice A' (l++[y]).length c')))).isSome=true)
    (K:∀A' c' a' w',(∃v,a'=a.put o.dst v)→Ep pm w00 w' ns (l1++rb A'::l2)→Inv w' ns n (putD σ n o.dst (some (.v (.slice A' (l++[y]).length c')))) ns a' w'→(∀S0,Mv (Lo S0 w00 w ns (l1++rb A::l2)) w (Lo S0 w00 w' ns (l1++rb A'::l2)) w')→(∀b,b∈(l1++rb A::l2).flatten→b∉rb A→w'.heap[b]? =w.heap[b]?)→
      Row d e (Lo S0 w00 w' ns (l1++rb A'::l2)) w' w00.heap.size A' c' (l++[y])→wpListIn F m P ops Q rest a' w'):wpListIn F m P ops Q (o::rest) a w:=
  append_ hF hE hI hw hop hs hx hrow hy hone ht hzi hsz hzs hb1 hb2 (fun A' c'=>putD σ n o.dst (some (.v (.slice A' (l++[y]).length c')))) (fun A' c'=>putD_eq (hput A' c')) K
theorem callHD_(hF:FOpen F)(hE:Ep pm w00 w ns mine)(hI:Inv w ns n σ ns a w)(hw:Region.wanted o (yielded ops a.tmps)=true){f:FuncId}{es:List EV}{cs args:List Value}(hco:callOf σ [] o=some (f,es,cs))(hv:argsOf es cs=some args)
    (hent:∀args w,(callFunc f args).run P w=.ok (.enter f args) w) (val:SV→Value) (Rf:SV→World→Prop)
    (hc:Calls P f args.toArray w fun e w'=>∃sv,e=.returned (val sv)∧Below w.heap.size w w'∧Rf sv w')
    (hput:∀sv,(put1 σ n o.dst [] (some (.v (val sv)))).isSome=true)
    (K:∀sv a' w',(∃v,a'=a.put o.dst v)→Ep pm w00 w' ns mine→Inv w' ns n (putD σ n o.dst (some (.v (val sv)))) ns a' w'→(∀S0,Mv (Lo S0 w00 w ns mine) w (Lo S0 w00 w' ns mine) w')→(∀b,b∈mine.flatten→b∉([]:List Nat)→w'.heap[b]? =w.heap[b]?)→
      (∀S0,Mv (fun b=>w.heap.size≤b∨Lo S0 w00 w ns mine b) w' (Lo S0 w00 w' ns mine) w')→Rf sv w'→wpListIn F m P ops Q rest a' w'):wpListIn F m P ops Q (o::rest) a w:=
  callH_ hF hE hI hw hco hv hent val Rf hc (fun sv=>putD σ n o.dst (some (.v (val sv)))) (fun sv=>putD_eq (hput sv)) K
theorem appendND_(hF:FOpen F){A:Option Addr}(hE:Ep pm w00 w ns (l1++rb A::l2))(hI:Inv w ns n σ ns a w)(hw:Region.wanted o (yielded ops a.tmps)=true){s x:Operand}{t:TypeId}(hop:o.op=.call {callee:=.builtin .append,args:= #[s,x],argTypes:= #[t,t]})
    {c:Nat} {l:List α} (hs:oEnv σ.env [] s=some (.v (.slice A l.length c))) {A2:Option Addr} {c2:Nat} {ys:List α} (hx:oEnv σ.env [] x=some (.v (.slice A2 ys.length c2)))
    (hrow:Row d e (Lo S0 w00 w ns (l1++rb A::l2)) w base A c l) (hbase:base≤w.heap.size) (hy:Arr d (Lo S0 w00 w ns (l1++rb A::l2)) w A2 ys) (hone:∀y sv,∀u∈d.cells y sv,u.oneCell'=true)
    (ht:P.underlying t=some (.slice e)) {zi:Value×Nat×Nat} (hzi:zinf P e=some zi) (hsz:zi.2.1=d.sz) (hzs:Nat.beq zi.1.cells.size d.sz=true) (hb1:l.length+ys.length≤maxLen) (hb2:(l.length+ys.length)*zi.2.2≤140737488355328)
    (hput:∀A' c',(put1 σ n o.dst [] (some (.v (.slice A' (l++ys).length c')))).isSome=true)
    (K:∀A' c' a' w',(∃v,a'=a.put o.dst v)→Ep pm w00 w' ns (l1++rb A'::l2)→Inv w' ns n (putD σ n o.dst (some (.v (.slice A' (l++ys).length c')))) ns a' w'→(∀S0,Mv (Lo S0 w00 w ns (l1++rb A::l2)) w (Lo S0 w00 w' ns (l1++rb A'::l2)) w')→(∀b,b∈(l1++rb A::l2).flatten→b∉rb A→w'.heap[b]? =w.heap[b]?)→
      Row d e (Lo S0 w00 w' ns (l1++rb A'::l2)) w' base A' c' (l++ys)→wpListIn F m P ops Q rest a' w'):wpListIn F m P ops Q (o::rest) a w:=
  appendN_ hF hE hI hw hop hs hx hrow hbase hy hone ht hzi hsz hzs hb1 hb2 (fun A' c'=>putD σ n o.dst (some (.v (.slice A' (l++ys).length c')))) (fun A' c'=>putD_eq (hput A' c')) K
theorem makeSliceD_(hF:FOpen F)(hE:Ep pm w00 w ns mine)(hI:Inv w ns n σ ns a w)(hw:Region.wanted o (yielded ops a.tmps)=true){t:TypeId}{x y:Operand}(hop:o.op=.makeSlice t x y)
    {kl kc:IntKind} {k:Int} (hx:oEnv σ.env [] x=some (.v (.int kl k))) (hy:oEnv σ.env [] y=some (.v (.int kc k))) (ht:P.underlying t=some (.slice e)) {zi:Value×Nat×Nat} (hzi:zinf P e=some zi) (hsz:zi.2.1=d.sz)
    (z:α) (svz:SV) (hzc:zi.1.cells.toList=d.cells z svz) (hct:d.cont (Lo S0 w00 w ns mine) w z svz) (h0:0≤k) (hk:k.toNat*(d.sz+zi.2.2)≤16777216)
    (hput:∀A,(put1 σ n o.dst [] (some (.v (.slice A (List.replicate k.toNat z).length (List.replicate k.toNat z).length)))).isSome=true)
    (K:∀A a' w',(∃v,a'=a.put o.dst v)→Ep pm w00 w' ns (mine++[rb A])→Inv w' ns n (putD σ n o.dst (some (.v (.slice A (List.replicate k.toNat z).length (List.replicate k.toNat z).length)))) ns a' w'→(∀S0,Mv (Lo S0 w00 w ns mine) w (Lo S0 w00 w' ns (mine++[rb A])) w')→(∀b,b∈mine.flatten→b∉([]:List Nat)→w'.heap[b]? =w.heap[b]?)→
      Row d e (Lo S0 w00 w' ns (mine++[rb A])) w' w00.heap.size A (List.replicate k.toNat z).length (List.replicate k.toNat z)→wpListIn F m P ops Q rest a' w'):wpListIn F m P ops Q (o::rest) a w:=
  makeSlice_ hF hE hI hw hop hx hy ht hzi hsz z svz hzc hct h0 hk (fun A=>putD σ n o.dst (some (.v (.slice A (List.replicate k.toNat z).length (List.replicate k.toNat z).length)))) (fun A=>putD_eq (hput A)) K
theorem callOD_(hF:FOpen F)(hE:Ep pm w00 w ns mine)(hI:Inv w ns n σ ns a w)(hw:Region.wanted o (yielded ops a.tmps)=true){f:FuncId}{es:List EV}{cs args:List Value}(hco:callOf σ [] o=some (f,es,cs))(hv:argsOf es cs=some args)
    (hent:∀args w,(callFunc f args).run P w=.ok (.enter f args) w) {X:Type} (val:X→Value) (ix:List Nat) (Fs:X→List (List Nat)) (Rf:X→World→Prop)
    (hc:Calls P f args.toArray w fun e w'=>∃x,e=.returned (val x)∧Keeps (ix.map fun i=>mine.getD i []).flatten w w'∧Handed w w' (ix.map fun i=>mine.getD i []).flatten (Fs x)∧Rf x w') (hnd:σ.lo=none∨∀b∈(ix.map fun i=>mine.getD i []).flatten,∀q,w.heap[b]? ≠some (.deferred q))
    (hput:∀x,(put1 σ n o.dst [] (some (.v (val x)))).isSome=true)
    (K:∀x a' w',(∃v,a'=a.put o.dst v)→Ep pm w00 w' ns (restAt mine ix++Fs x)→Inv w' ns n (putD σ n o.dst (some (.v (val x)))) ns a' w'→(∀S0,Mv (Lo S0 w00 w ns mine) w (Lo S0 w00 w' ns (restAt mine ix++Fs x)) w')→(∀b∈(restAt mine ix).flatten,w'.heap[b]? =w.heap[b]?)→
      (∀S0,(∀b∈pm,S0 b)→Mv (fun b=>b∉(Fs x).flatten∧(w.heap.size≤b∨Lo S0 w00 w ns mine b∨b∈(ix.map fun i=>mine.getD i []).flatten)) w' (Lo S0 w00 w' ns (restAt mine ix++Fs x)) w')→Rf x w'→wpListIn F m P ops Q rest a' w'):wpListIn F m P ops Q (o::rest) a w:=
  callO_ hF hE hI hw hco hv hent val ix Fs Rf hc hnd (fun x=>putD σ n o.dst (some (.v (val x)))) (fun x=>putD_eq (hput x)) K
end
def tmpsK(o:Oper):List Tmp:=o.op.operands.toList.filterMap fun x=>match x with
  | .tmp t=>some t
  | _=>none
def prodK:List Oper→Nat→Nat→Tmp→Option Nat
  | _,_,0,_=>none
  | [],_,_,_=>none
  | o::l,i,k+1,t=>match o.dst with
    | some d=>bif Nat.beq d t then some i else prodK l (i+1) k t
    | none=>prodK l (i+1) k t
def grdK(o:Oper):List Nat:=match o.guard with
  | some (j,_)=>[j]
  | none=>[]
def orcK:Ob→Option (List Value)
  | .cell _ _ vs=>some vs
  | .need _ _=>none
  | .call _ _ _ v=>some [v]
  | .run _ _ v=>some [v]
def spK(l:List Oper)(i:Nat)(o:Oper):En→Sp
  | .q _ _ obs=>.q (grdK o++(tmpsK o).filterMap (prodK l 0 i)) (obs.filterMap orcK)
  | .s _=>.s (grdK o)
  | .t _ e=>.t e
  | .no=>.no
  | .a _ _ _ p=>.a p
def dsK(l:List Oper):Nat→List Oper→List En→List Sp
  | i,o::os,e::es=>spK l i o e::dsK l (i+1) os es
  | _,_,_=>[]
section
variable {F:Fence} {m:Nat} {P:Program} {w0 w1:World} {own own1:List Nat} {n:Nat} {σ:S} {ns:List Nat} {a a':Act} {w w':World} {o:Oper} {Q:Exit→Act→World→Prop}
variable {l:List Oper} {tb:List En} {listed:Array Bool}
def chkS(σ:S)(l:List Oper)(tb:List En)(t:Nat)(o:Oper)(env:List Ent)(ks dn:List Nat):Bool:=
  (σ.env.all fun x=>isNil x.p)&&(wfT σ tb&&(backFrom 0 l&&(rdyFrom tb [t] 0 l&&(isNoAt tb t&&(ks.all (bindsTo o)&&(optT (wantB l.toArray (σ.wth env) o.guard)&&dn.all (bindsTo o)))))))
theorem stageX_{fuel:Nat}(hJ:DS w0 own n σ ns tb listed a w)(hF:FOpen F)(hsz:listed.size=l.length)(hu:unl listed≤fuel)(ds:List Sp)(t:Nat){o:Oper}(ho:l[t]? =some o)(ks:List Nat)(env:List Ent)(hob:Obs P w0 own (obsE tb))(dn:List Nat)
    (K:∀fuel listed a w,DS w0 own n σ ns (doneE tb dn) listed a w→Inv w0 own n (σ.wth env) ns a w→Region.wanted o (yielded l.toArray a.tmps)=true→t<listed.size→¬Lst listed t→listed.size=l.length→unl listed≤fuel+1→
      wpListIn F m P l.toArray (QA (wpAnyIn F m P .any l.toArray Q fuel (listed.setIfInBounds t true)) Q) [o] a w)
    (h:mkAll P σ n l.toArray [] l ds=some tb:=by kernel_rfl) (hc:chkS σ l tb t o env ks dn=true:=by kernel_rfl) (he:envT tb ks=some env:=by kernel_rfl):wpAnyIn F m P .any l.toArray Q fuel listed a w:=by
  simp only [chkS,Bool.and_eq_true] at hc;obtain ⟨c1,c2,c3,c4,c5,c7,c8,c9⟩:=hc;exact stage_ hJ hF hsz hu ds h c1 c2 c3 t ho c4 c5 ks he c7 c8 hob dn c9 _ rfl K
theorem stageA_{fuel:Nat}(hJ:DS w0 own n σ ns tb listed a w)(hF:FOpen F)(hsz:listed.size=l.length)(hu:unl listed≤fuel)(t:Nat){o:Oper}(ho:l[t]? =some o)(ks:List Nat)(env:List Ent)(hob:Obs P w0 own (obsE tb))(dn:List Nat)
    (K:∀fuel listed a w,DS w0 own n σ ns (doneE tb dn) listed a w→Inv w0 own n (σ.wth env) ns a w→Region.wanted o (yielded l.toArray a.tmps)=true→t<listed.size→¬Lst listed t→listed.size=l.length→unl listed≤fuel+1→
      wpListIn F m P l.toArray (QA (wpAnyIn F m P .any l.toArray Q fuel (listed.setIfInBounds t true)) Q) [o] a w)
    (h:mkAll P σ n l.toArray [] l (dsK l 0 l tb)=some tb:=by kernel_rfl) (hc:chkS σ l tb t o env ks dn=true:=by kernel_rfl) (he:envT tb ks=some env:=by kernel_rfl):wpAnyIn F m P .any l.toArray Q fuel listed a w:=
  stageX_ hJ hF hsz hu (dsK l 0 l tb) t ho ks env hob dn K h hc he
theorem stageA0_{fuel:Nat}(hJ:DS w0 own n σ ns tb listed a w)(hF:FOpen F)(hsz:listed.size=l.length)(hu:unl listed≤fuel)(t:Nat){o:Oper}(ho:l[t]? =some o)(ks:List Nat)(env:List Ent)(dn:List Nat)
    (K:∀fuel listed a w,DS w0 own n σ ns (doneE tb dn) listed a w→Inv w0 own n (σ.wth env) ns a w→Region.wanted o (yielded l.toArray a.tmps)=true→t<listed.size→¬Lst listed t→listed.size=l.length→unl listed≤fuel+1→
      wpListIn F m P l.toArray (QA (wpAnyIn F m P .any l.toArray Q fuel (listed.setIfInBounds t true)) Q) [o] a w)
    (h:mkAll P σ n l.toArray [] l (dsK l 0 l tb)=some tb:=by kernel_rfl) (hn:isNil (obsE tb)=true:=by kernel_rfl) (hc:chkS σ l tb t o env ks dn=true:=by kernel_rfl) (he:envT tb ks=some env:=by kernel_rfl):wpAnyIn F m P .any l.toArray Q fuel listed a w:=
  stageX_ hJ hF hsz hu (dsK l 0 l tb) t ho ks env (by rw [isNil_eq hn];trivial) dn K h hc he
theorem PdAll.none(h:noA tb=true):PdAll tb w:=by
  induction tb with
  | nil=>trivial
  | cons x r ih=>
    simp only [noA,List.all_cons,Bool.and_eq_true] at h;have:=ih h.2;cases x<;>first | exact this | cases h.1
def chkN(σ2:S)(n:Nat)(tb:List En)(t:Nat)(o:Oper)(live:List Nat)(news:List (Nat×En)):Bool:=
  isNoAt tb t&&((tb.all fun x=>neqD x.dst o.dst)&&((Eng.fin live σ2).isSome&&(news.all (fun x=>notT x.2)&&((match o.dst with | some d=>Nat.blt d n | none=>true)&&noA tb))))
def eK(o:Oper)(σ2:S):Option EV:=match o.dst with
  | some d=>oEnv σ2.env [] (.tmp d)
  | none=>none
theorem nextA_{fuel t:Nat}(hJ:DS w0 own n σ ns tb listed a w)(h1:t<listed.size)(hnl:¬Lst listed t)(hsz:listed.size=l.length)(hu:unl listed≤fuel+1)
    (hput:∃v,a'=a.put o.dst v) {σ2:S} (hI':Inv w1 own1 n σ2 ns a' w') (live:List Nat) (news:List (Nat×En))
    (K:DS w1 own1 n (Eng.finD live σ2) ns (fillE (tb.set t (.t o.dst (eK o σ2))) news) (listed.setIfInBounds t true) a' w'→(listed.setIfInBounds t true).size=l.length→unl (listed.setIfInBounds t true)≤fuel→wpAnyIn F m P .any l.toArray Q fuel (listed.setIfInBounds t true) a' w')
    (hc:chkN σ2 n tb t o live news=true:=by kernel_rfl):
    wpListIn F m P l.toArray (QA (wpAnyIn F m P .any l.toArray Q fuel (listed.setIfInBounds t true)) Q) [] a' w':=by
  simp only [chkN,Bool.and_eq_true] at hc;obtain ⟨c1,c2,c3,c4,c5,c6⟩:=hc;refine next_ hJ h1 hnl hsz hu c1 c2 hput hI' _ (finD_eq c3) (eK o σ2) ?_ news _ c4 rfl c5 (PdAll.none c6) (AL.none c6) K;unfold eK;cases o.dst with
  | none=>rfl
  | some d=>
    cases h:oEnv σ2.env [] (.tmp d) with
    | none=>simp only [h]
    | some e=>simp only [h]
def chkE(σ:S)(l:List Oper)(tb:List En):Bool:=
  (σ.env.all fun x=>isNil x.p)&&(wfT σ tb&&(backFrom 0 l&&(rdyFrom tb [] 0 l&&noneNo tb)))
theorem endX_{fuel:Nat}(hJ:DS w0 own n σ ns tb listed a w)(hF:FOpen F)(hsz:listed.size=l.length)(hu:unl listed≤fuel)(ds:List Sp)(live:List Nat)(σ2:S)(hob:Obs P w0 own (obsE tb))
    (K:∀a w,St w0 own n σ2 ns a w→Q .normal a w) (h:mkAll P σ n l.toArray [] l ds=some tb:=by kernel_rfl) (hc:chkE σ l tb=true:=by kernel_rfl) (hs:Eng.fin live (σ.wth (tb.filterMap En.ent))=some σ2:=by kernel_rfl):wpAnyIn F m P .any l.toArray Q fuel listed a w:=by
  simp only [chkE,Bool.and_eq_true] at hc;obtain ⟨c1,c2,c3,c4,c5⟩:=hc;exact end_ hJ hF hsz hu ds h c1 c2 c3 c4 c5 _ hs hob K
theorem endA_{fuel:Nat}(hJ:DS w0 own n σ ns tb listed a w)(hF:FOpen F)(hsz:listed.size=l.length)(hu:unl listed≤fuel)(live:List Nat)(σ2:S)(hob:Obs P w0 own (obsE tb))
    (K:∀a w,St w0 own n σ2 ns a w→Q .normal a w) (h:mkAll P σ n l.toArray [] l (dsK l 0 l tb)=some tb:=by kernel_rfl) (hc:chkE σ l tb=true:=by kernel_rfl) (hs:Eng.fin live (σ.wth (tb.filterMap En.ent))=some σ2:=by kernel_rfl):wpAnyIn F m P .any l.toArray Q fuel listed a w:=
  endX_ hJ hF hsz hu _ live σ2 hob K h hc hs
theorem endA0_{fuel:Nat}(hJ:DS w0 own n σ ns tb listed a w)(hF:FOpen F)(hsz:listed.size=l.length)(hu:unl listed≤fuel)(live:List Nat)(σ2:S)
    (K:∀a w,St w0 own n σ2 ns a w→Q .normal a w) (h:mkAll P σ n l.toArray [] l (dsK l 0 l tb)=some tb:=by kernel_rfl) (hn:isNil (obsE tb)=true:=by kernel_rfl) (hc:chkE σ l tb=true:=by kernel_rfl) (hs:Eng.fin live (σ.wth (tb.filterMap En.ent))=some σ2:=by kernel_rfl):wpAnyIn F m P .any l.toArray Q fuel listed a w:=
  endX_ hJ hF hsz hu _ live σ2 (by rw [isNil_eq hn];trivial) K h hc hs
end
section
variable {X X':(Nat→Prop)→Nat→Prop} {S0:Nat→Prop} {w w':World} {l:List (List Nat)}
theorem kk{α:Type}{d:Kd α}{x:α}{sv:SV}(m:∀S0,Mv (X S0) w (X' S0) w')(h:d.cont (X S0) w x sv):d.cont (X' S0) w' x sv:=Kd.keep _ h (m _)
theorem ka{α:Type}{d:Kd α}{A:Option Addr}{xs:List α}(m:∀S0,Mv (X S0) w (X' S0) w')(h:Arr d (X S0) w A xs):Arr d (X' S0) w' A xs:=Arr.keep h (m _)
theorem ke{α:Type}{d:Kd α}{B:Addr}{x:α}{sv:SV}(m:∀S0,Mv (X S0) w (X' S0) w')(h:El d (X S0) w B x sv):El d (X' S0) w' B x sv:=El.keep h (m _)
theorem kt{T:Nat→Prop}{w0:World}(m:∀S0,Mv (X S0) w (X' S0) w')(h:Tk T w0 (X S0) w):Tk T w0 (X' S0) w':=Tk.keep h (m _)
theorem ko{α:Type}{k:Lk α}{b:Nat}{x:α}{F:List Nat}(m:∀S0,Mv (X S0) w (X' S0) w')(r:∀b∈l.flatten,w'.heap[b]? =w.heap[b]?)(h:Ojt k (X S0) w b x F)(z:F∈l:=by simp):Ojt k (X' S0) w' b x F:=
  Ojt.keep h (m _) fun b hb=>r b (flat_mem z hb)
theorem kn{α:Type}{k:Lk α}{A:Option Addr}{x:Option α}{F:List Nat}(m:∀S0,Mv (X S0) w (X' S0) w')(r:∀b∈l.flatten,w'.heap[b]? =w.heap[b]?)(h:OjtN k (X S0) w A x F)(z:F∈l:=by simp):OjtN k (X' S0) w' A x F:=
  OjtN.keep h (m _) fun b hb=>r b (flat_mem z hb)
theorem kb{α:Type}{d:Kd α}{e:TypeId}{b:Nat}{x:α}{sv:SV}(m:∀S0,Mv (X S0) w (X' S0) w')(r:∀b∈l.flatten,w'.heap[b]? =w.heap[b]?)(h:Ob1 d e (X S0) w b x sv)(z:b∈l.flatten:=by simp):Ob1 d e (X' S0) w' b x sv:=
  Ob1.keep h (m _) (r _ z)
theorem kr{α:Type}{d:Kd α}{e:TypeId}{base:Nat}{A:Option Addr}{c:Nat}{xs:List α}(m:∀S0,Mv (X S0) w (X' S0) w')(r:∀b∈l.flatten,w'.heap[b]? =w.heap[b]?)(h:Row d e (X S0) w base A c xs)(z:∀b,b∈rb A→b∈l.flatten:=by intro b hb;simp [hb]):Row d e (X' S0) w' base A c xs:=
  Row.keep h (m _) fun b hb=>r b (z b hb)
end
end Go.Eng
