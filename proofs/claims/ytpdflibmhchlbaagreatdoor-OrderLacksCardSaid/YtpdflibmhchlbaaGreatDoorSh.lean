/- Contracts of the library's functions at this program: the kit's shelf laid here. No statement is proved here. Conditions: none. -/
import Derived.Shelf.Slices.Delete
import Derived.Test.YtpdflibmhchlbaaGreatDoorProg
import Derived.Test.YtpdflibmhchlbaaGreatDoorEng
set_option linter.unusedVariables false
set_option linter.unusedSimpArgs false
namespace Go.Proofs
open Go.Shelf
def Tryz.laysNm223_ren:Go.Shelf.Ren:=⟨fun | 23=>93 | n=>n,fun | 22=>54 | 3=>3 | 4=>4 | 0=>0 | n=>n,fun | n=>n⟩
theorem Tryz.laysNm223:Go.Proofs.Lays2.n23 Tryz.prog Tryz.laysNm223_ren:={
  mixed:=by kernel_rfl
  f23:=Tryz.func93.trans (congrArg some (by kernel_rfl))
  t0:=Tryz.underlying0
  a0:=Tryz.isAgg0
  z0:=Tryz.sizeOf0
  v0:=Tryz.zeroValue0
  t3:=Tryz.underlying3
  a3:=Tryz.isAgg3
  z3:=Tryz.sizeOf3
  v3:=Tryz.zeroValue3
  t4:=Tryz.underlying4
  a4:=Tryz.isAgg4
  z4:=Tryz.sizeOf4
  v4:=Tryz.zeroValue4
  t22:=Tryz.underlying54
  a22:=Tryz.isAgg54
  z22:=Tryz.sizeOf54
  v22:=Tryz.zeroValue54
  i3:=by kernel_rfl}
open Go.RowKit Go.Lib Go.Sort in
theorem Tryz.slices_Delete_int(blk off cap i j:Nat)(zs:List Int)(w:World)(hH:Holds (Value.int .i64) w blk off zs.toArray)(hcap:zs.length≤cap)(hm:cap≤9223372036854775807)(hij:i≤j)(hj:j≤zs.length):
    Calls Tryz.prog 93 #[.slice (some ⟨blk,off,none⟩) zs.length cap,.int .i64 i,.int .i64 j] w fun e w'=>e=.returned (.slice (some ⟨blk,off,none⟩) (zs.length - (j - i)) cap)∧∃q,w'=putRow (Value.int .i64) (Sort.ahead w q) blk off (zs.take i++zs.drop j++List.replicate (j - i) 0).toArray:=Any.slices_Delete_int Tryz.laysNm223 blk off cap i j zs w hH hcap hm hij hj
section
open Go.Eng Go.Sort Go.RowKit
theorem Row.scalar{kk:IntKind}{e:TypeId}{S S':Nat→Prop}{w:World}{base c:Nat}{A:Option Addr}{l:List Int}(h:Row (Kd.int kk) e S w base A c l):Row (Kd.int kk) e S' w base A c l:=by
  obtain ⟨xs,h1,h3⟩:=h;exact ⟨xs,h1,fun i x hx=>let ⟨sv,_,q⟩:=h3 i x hx;⟨sv,trivial,q⟩⟩
theorem B2k{w:World}{g:Nat}{cur:Array Value}{e:TypeId}{fz:Nat×Nat}(q:Nat)(ys:Array Int)(hg:w.heap[g]? =some (.cells cur e fz)):
    (putRow (Value.int .i64) (Sort.ahead w q) g 0 ys).heap[g]? =some (.cells (putCells (Value.int .i64) 0 ys cur) e fz):=by
  show ((w.heap).modify g (onCells (putCells (Value.int .i64) 0 ys)))[g]? =_;rw [Array.getElem?_modify,if_pos rfl,hg];rfl
theorem B2l{w:World}{g b:Nat}(q:Nat)(ys:Array Int)(hb:b≠g):(putRow (Value.int .i64) (Sort.ahead w q) g 0 ys).heap[b]? =w.heap[b]? :=by
  show ((w.heap).modify g (onCells (putCells (Value.int .i64) 0 ys)))[b]? =_;rw [Array.getElem?_modify,if_neg (Ne.symm hb)]
theorem B7e{S:Nat→Prop}{w:World}{base c:Nat}{A:Option Addr}{l:List Int}(h:Row (Kd.int .i64) 3 S w base A c l)(i:Int)(hi:inb i l.length=true):
    Calls Tryz.prog 93 #[.slice A l.length c,.int .i64 i,.int .i64 (IntKind.i64.wrap (i+1))] w fun e w'=>∃sv:SV,e=.returned (.slice A (l.eraseIdx i.toNat).length c)∧H3 (rb A) w w'∧Row (Kd.int .i64) 3 (fun _=>True) w' base A c (l.eraseIdx i.toNat):=by
  obtain ⟨h0,h1⟩:=A0q hi;obtain ⟨xs,⟨hl,h2⟩,h3⟩:=h;rcases h2 with ⟨_,h2⟩ | ⟨g,cap,cur,hv,hbg,hg,hnc,hcm,hcs,htk⟩
  · omega
  simp only [Value.slice.injEq] at hv;obtain ⟨rfl,_,rfl⟩:=hv;have hsz:(Kd.int IntKind.i64).sz=1:=rfl;rw [hsz,Nat.mul_one] at hl hcs htk;have hcell:∀(j:Nat) (x:Int),l[j]? =some x→cur[j]? =some (.int .i64 x):=by
    intro j x hx;obtain ⟨sv,_,q⟩:=h3 j x hx;have:=q 0 (.int .i64 x) rfl;rw [hsz,Nat.mul_one,Nat.add_zero,← htk,List.getElem?_take] at this;split at this
    · rwa [Array.getElem?_toList] at this
    · cases this
  have hw:IntKind.i64.wrap (i+1)=i+1:=w64 (by simp only [maxLen] at hcm;omega) (by simp only [maxLen] at hcm;omega);obtain ⟨k,rfl⟩:∃k:Nat,i=(k:Int):=⟨i.toNat,by omega⟩;have hk:k<l.length:=by omega
  have hH:Holds (Value.int .i64) w g 0 l.toArray:=by
    intro j hj;have hj':j<l.length:=by simpa using hj
    refine ⟨?_,by simp [World.frozen?,hg]⟩;have:=hcell j l[j] (List.getElem?_eq_getElem hj');simp [World.cell?,hg,this,hj']
  have hc:=Tryz.slices_Delete_int g 0 c k (k+1) l w hH hnc (by simpa [maxLen] using hcm) (by omega) (by omega);rw [hw,show ((k:Int)+1)=((k+1:Nat):Int) by simp];refine hc.mono ?_;rintro e w' ⟨rfl,q,rfl⟩;have hel:(l.eraseIdx k).length=l.length - 1:=List.length_eraseIdx_of_lt hk;have hks:k+1 - k=1:=by omega
  have her:l.take k++l.drop (k+1)=l.eraseIdx k:=(List.eraseIdx_eq_take_drop_succ l k).symm;rw [hks,her];refine ⟨fun _=>(none,0),by simp [hel],⟨rfl,rfl,rfl,by simp,fun b _ hb=>B2l q _ (by simpa [rb] using hb)⟩,?_⟩;have hnb:=B2k q (l.eraseIdx k++List.replicate 1 0).toArray hg;have hcs2:(putCells (Value.int .i64) 0 (l.eraseIdx k++List.replicate 1 0).toArray cur).size=c:=by simp [putCells,hcs]
  have hk2:(((k:Nat):Int)).toNat=k:=by simp
  rw [hk2];refine ⟨_,⟨?_,.inr ⟨g,c,_,rfl,hbg,hnb,by omega,hcm,by rw [hcs2,hsz,Nat.mul_one],rfl⟩⟩,fun j x hx=>⟨fun _=>(none,0),trivial,fun r u hu=>?_⟩⟩
  · have hpl:(putCells (Value.int .i64) 0 (l.eraseIdx k++List.replicate 1 0).toArray cur).toList.length=c:=hcs2;rw [List.length_take,hpl,hsz,Nat.mul_one];omega
  · have hr:r=0:=by
      have:=(List.getElem?_eq_some_iff.1 hu).1
      simpa [Kd.int] using this
    subst hr;simp only [Kd.int,List.getElem?_cons_zero,Option.some.injEq] at hu;subst hu;have hjl:=(List.getElem?_eq_some_iff.1 hx).1;rw [hsz,Nat.mul_one,Nat.mul_one,Nat.add_zero,List.getElem?_take,if_pos hjl,Array.getElem?_toList];have hjc:j<cur.size:=by omega
    rw [putCells,Array.getElem?_mapIdx,Array.getElem?_eq_getElem hjc];have hx':=(List.getElem?_eq_some_iff.1 hx).2;simp [hx',hjl,List.getElem_append_left,show j<(l.eraseIdx k).length+1 by omega]
end
end Go.Proofs
