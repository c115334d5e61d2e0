/- Orders that lack an item, or have one twice. No statement is proved here. Conditions: none. -/
import Derived.Test.YtpdflibmhchlbaaGreatDoorPureOrderValid
set_option linter.unusedVariables false
set_option linter.unusedSimpArgs false
namespace Go.Proofs.YtpdflibmhchlbaaGreatDoor
open Go Go.RowKit Go.Eng
section
variable {c:C1} {C:List I5} {B:List J0} {l:List D8}
theorem B52(h:Dom c C B l)(ht:tim C B l=false):C6 c C B l=some false:=by
  obtain ⟨b,h1,h2⟩:=A6a h;unfold E3 at h2;rw [A27 h.C40 h.B40 l (by have:=h.l100;omega),ht] at h2;rw [h1];exact h2.symm▸rfl
theorem is_tim(h:Dom c C B l)(hv:E3 ⟨c,C,B⟩ l=some true):tim C B l=true:=by
  unfold E3 at hv;rw [A27 h.C40 h.B40 l (by have:=h.l100;omega)] at hv;cases ht:tim C B l
  · rw [ht] at hv;cases hv
  · rfl
theorem B91(h:tim C B l=true)(i:Nat)(hi:i<l.length):bad C B l i=false:=by
  unfold tim at h;simp only [Bool.and_eq_true,Bool.not_eq_true',List.any_eq_false,List.mem_range] at h;have:=h.1 i hi;cases hb:bad C B l i
  · rfl
  · exact absurd hb this
theorem B6c(h:tim C B l=true)(i:Nat)(hi:i<l.length):rd l (i:Int)∉l.take i:=by
  have:=B91 h i hi;unfold bad A0p at this;simp only [Bool.or_eq_false_iff,decide_eq_false_iff_not] at this;exact this.1.2
theorem B8i{i:Nat}(hi:i<l.length):rd l (i:Int)=l[i]:=by
  unfold rd;rw [List.getD_eq_getElem?_getD,show ((i:Int)).toNat=i by omega,List.getElem?_eq_getElem hi];rfl
theorem B8t(h:tim C B l=true)(i:Nat)(hi:i<l.length):rd l (i:Int)∉l.take i++l.drop (i+1):=by
  intro hm;rcases List.mem_append.1 hm with hm | hm
  · exact B6c h i hi hm
  · obtain ⟨j,hj,he⟩:=List.getElem_of_mem hm;rw [List.length_drop] at hj;rw [List.getElem_drop] at he;have h2:=B6c h (i+1+j) (by omega);rw [B8i (by omega),he,B8i hi] at h2;exact h2 (List.mem_take_iff_getElem.2 ⟨i,by omega,rfl⟩)
theorem B9c{x:D8}(hB:isB C B x=true)(hd:((x.u6 !=1)||(rd C x.Of).kt)=true)(hn:x∉l):tim C B l=false:=by
  unfold tim B4f;have hh:A0p l x=false:=by unfold A0p;simp [hn]
  obtain ⟨k,o⟩:=x;rcases A3d hB with ⟨h3,_,h5,h6⟩ | ⟨_,h5,h6,h7⟩
  · simp only at h3 h5 h6;subst h3;obtain ⟨n,rfl⟩:=Int.eq_ofNat_of_zero_le h5;have:(List.range B.length).any (fun i=>!A0p l ⟨3,(i:Int)⟩)=true:=List.any_eq_true.2 ⟨n,List.mem_range.2 (by omega),by rw [hh];rfl⟩;rw [this];simp
  · simp only at h5 h6 h7 hd;obtain ⟨n,rfl⟩:=Int.eq_ofNat_of_zero_le h5;have:(List.range C.length).any (fun i=>((rd C (i:Int)).kt&&!A0p l ⟨1,(i:Int)⟩)||(decide ((rd C (i:Int)).qe≥0)&&!A0p l ⟨2,(i:Int)⟩))=true:=by
      refine List.any_eq_true.2 ⟨n,List.mem_range.2 (by omega),?_⟩;rcases h7 with ⟨rfl,_⟩ | ⟨rfl,h8⟩
      · simp only [bne_self_eq_false,Bool.false_or] at hd;rw [hh,hd];rfl
      · rw [hh,decide_eq_true h8];simp
    rw [this];simp
theorem B63{x:D8}(hn:x∈l):tim C B (l++[x])=false:=by
  unfold tim;have:(List.range (l++[x]).length).any (bad C B (l++[x]))=true:=by
    refine List.any_eq_true.2 ⟨l.length,List.mem_range.2 (by simp),?_⟩;unfold bad;have hr:rd (l++[x]) (l.length:Int)=x:=by
      rw [B8i (by simp)];simp
    rw [hr,List.take_left,show A0p l x=true by unfold A0p;simp [hn]];simp
  rw [this];rfl
end
end Go.Proofs.YtpdflibmhchlbaaGreatDoor
