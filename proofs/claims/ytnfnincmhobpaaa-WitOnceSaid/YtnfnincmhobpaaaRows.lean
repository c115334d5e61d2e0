/-
  No cell of these rows narrows 'for every input' (looked for: loops, veiled, ifaces, maps, wideKeys, modest, calm, conditions, laid).
  DERIVED. THE GIVEN ROWS OF THIS SEAT. 9 by the template 'for every input the law returns true; each argument reads behind the call as it read before'; 0 by the template 'total and deterministic' (their statements: YtnfnincmhobpaaaTotals.lean).
  GIVEN WITH THE SEED: the statements are not yours to turn. If you find one false, say at which input.
  Laid BY PROGRAM, IN A SANDBOX (cutbox-rows.mjs): the forced cells as the released guide's own fill.sh prints them over the translation f19301133ee5c3c2… (all of the seat's roots in one cut). By AI agents, Wed Nov 11 2026. No macro, syntax, notation, axiom, sorry.
-/
import Derived.Test.YtnfnincmhobpaaaChecked
import GoSem.Claim
import GoSem.ClaimJoined
import GoSem.ClaimMapViews
import Derived.JoinedTies
import Derived.KernelRfl
namespace Go.Proofs.Ytnfnincmhobpaaa
/- THE CELL 'sum', in the pinned program and in every row, IS THE sha256 OF THE DUMP (.gsa) THAT YtnfnincmhobpaaaProg.lean LOADS. Nothing in Lean hashes anything: it is a label: what it is worth is what the hold of that sum in a sandbox is worth. -/
noncomputable def Try.pinned : Pinned := { name := "ytnfnincmhobpaaa", sum := "f19301133ee5c3c2ad9688da213a0170fe30f70a52d0357a83d257d3a475c3f3", checked := Try.checked }
namespace Rows
def none {H : Type} : Left H := { results := [], args := [] }

/-- 'portholelaw24.StampGrows': WHATEVER THE INPUT: true; the input reads as it did. -/
def stampGrowsSpec : ChangeSpec := { name := "stampGrows", fn := fun _ => fun
  | [d] => { results := [.lit (.bool true)], args := [d] }
  | _ => none }
def stampGrowsRow : OpenClaim := { program := "ytnfnincmhobpaaa", sum := "f19301133ee5c3c2ad9688da213a0170fe30f70a52d0357a83d257d3a475c3f3", func := "porthole/portholelaw24.StampGrows", spec := "stampGrows", apart := false }
def StampGrowsSaid : Prop := stampGrowsRow.holds Try.pinned (OpenSpec.ofChange stampGrowsSpec)

/-- ITS FALSE NEIGHBOUR: 'it returns false'. Refute it at one input. -/
def stampGrowsWrong : ChangeSpec := { name := "stampGrows", fn := fun _ => fun
  | [d] => { results := [.lit (.bool false)], args := [d] }
  | _ => none }
def StampGrowsWrongFalsely : Prop := stampGrowsRow.holds Try.pinned (OpenSpec.ofChange stampGrowsWrong)

/-- 'portholelaw24.StampLast': WHATEVER THE INPUT: true; the input reads as it did. -/
def stampLastSpec : ChangeSpec := { name := "stampLast", fn := fun _ => fun
  | [d1, d2, d3] => { results := [.lit (.bool true)], args := [d1, d2, d3] }
  | _ => none }
def stampLastRow : OpenClaim := { program := "ytnfnincmhobpaaa", sum := "f19301133ee5c3c2ad9688da213a0170fe30f70a52d0357a83d257d3a475c3f3", func := "porthole/portholelaw24.StampLast", spec := "stampLast", apart := false }
def StampLastSaid : Prop := stampLastRow.holds Try.pinned (OpenSpec.ofChange stampLastSpec)

/-- ITS FALSE NEIGHBOUR: 'it returns false'. Refute it at one input. -/
def stampLastWrong : ChangeSpec := { name := "stampLast", fn := fun _ => fun
  | [d1, d2, d3] => { results := [.lit (.bool false)], args := [d1, d2, d3] }
  | _ => none }
def StampLastWrongFalsely : Prop := stampLastRow.holds Try.pinned (OpenSpec.ofChange stampLastWrong)

/-- 'portholelaw17.HistSound': WHATEVER THE INPUT: true; the input reads as it did. -/
def histSoundSpec : ChangeSpec := { name := "histSound", fn := fun _ => fun
  | [d1, d2, d3] => { results := [.lit (.bool true)], args := [d1, d2, d3] }
  | _ => none }
def histSoundRow : OpenClaim := { program := "ytnfnincmhobpaaa", sum := "f19301133ee5c3c2ad9688da213a0170fe30f70a52d0357a83d257d3a475c3f3", func := "porthole/portholelaw17.HistSound", spec := "histSound", unfollowed := true, recurses := true, apart := false }
def HistSoundSaid : Prop := histSoundRow.holds Try.pinned (OpenSpec.ofChange histSoundSpec)

/-- ITS FALSE NEIGHBOUR: 'it returns false'. Refute it at one input. -/
def histSoundWrong : ChangeSpec := { name := "histSound", fn := fun _ => fun
  | [d1, d2, d3] => { results := [.lit (.bool false)], args := [d1, d2, d3] }
  | _ => none }
def HistSoundWrongFalsely : Prop := histSoundRow.holds Try.pinned (OpenSpec.ofChange histSoundWrong)

/-- 'portholelaw17.HistApart': WHATEVER THE INPUT: true; the input reads as it did. -/
def histApartSpec : ChangeSpec := { name := "histApart", fn := fun _ => fun
  | [d] => { results := [.lit (.bool true)], args := [d] }
  | _ => none }
def histApartRow : OpenClaim := { program := "ytnfnincmhobpaaa", sum := "f19301133ee5c3c2ad9688da213a0170fe30f70a52d0357a83d257d3a475c3f3", func := "porthole/portholelaw17.HistApart", spec := "histApart", unfollowed := true, recurses := true, apart := false }
def HistApartSaid : Prop := histApartRow.holds Try.pinned (OpenSpec.ofChange histApartSpec)

/-- ITS FALSE NEIGHBOUR: 'it returns false'. Refute it at one input. -/
def histApartWrong : ChangeSpec := { name := "histApart", fn := fun _ => fun
  | [d] => { results := [.lit (.bool false)], args := [d] }
  | _ => none }
def HistApartWrongFalsely : Prop := histApartRow.holds Try.pinned (OpenSpec.ofChange histApartWrong)

/-- 'portholelaw17.HistOf': WHATEVER THE INPUT: true; the input reads as it did. -/
def histOfSpec : ChangeSpec := { name := "histOf", fn := fun _ => fun
  | [d1, d2, d3] => { results := [.lit (.bool true)], args := [d1, d2, d3] }
  | _ => none }
def histOfRow : OpenClaim := { program := "ytnfnincmhobpaaa", sum := "f19301133ee5c3c2ad9688da213a0170fe30f70a52d0357a83d257d3a475c3f3", func := "porthole/portholelaw17.HistOf", spec := "histOf", unfollowed := true, recurses := true, apart := false }
def HistOfSaid : Prop := histOfRow.holds Try.pinned (OpenSpec.ofChange histOfSpec)

/-- ITS FALSE NEIGHBOUR: 'it returns false'. Refute it at one input. -/
def histOfWrong : ChangeSpec := { name := "histOf", fn := fun _ => fun
  | [d1, d2, d3] => { results := [.lit (.bool false)], args := [d1, d2, d3] }
  | _ => none }
def HistOfWrongFalsely : Prop := histOfRow.holds Try.pinned (OpenSpec.ofChange histOfWrong)

/-- 'portholelaw17.HistPlace': WHATEVER THE INPUT: true; the input reads as it did. -/
def histPlaceSpec : ChangeSpec := { name := "histPlace", fn := fun _ => fun
  | [d1, d2] => { results := [.lit (.bool true)], args := [d1, d2] }
  | _ => none }
def histPlaceRow : OpenClaim := { program := "ytnfnincmhobpaaa", sum := "f19301133ee5c3c2ad9688da213a0170fe30f70a52d0357a83d257d3a475c3f3", func := "porthole/portholelaw17.HistPlace", spec := "histPlace", unfollowed := true, recurses := true, apart := false }
def HistPlaceSaid : Prop := histPlaceRow.holds Try.pinned (OpenSpec.ofChange histPlaceSpec)

/-- ITS FALSE NEIGHBOUR: 'it returns false'. Refute it at one input. -/
def histPlaceWrong : ChangeSpec := { name := "histPlace", fn := fun _ => fun
  | [d1, d2] => { results := [.lit (.bool false)], args := [d1, d2] }
  | _ => none }
def HistPlaceWrongFalsely : Prop := histPlaceRow.holds Try.pinned (OpenSpec.ofChange histPlaceWrong)

/-- 'portholelaw19.WitOrder': WHATEVER THE INPUT: true; the input reads as it did. -/
def witOrderSpec : ChangeSpec := { name := "witOrder", fn := fun _ => fun
  | [d1, d2] => { results := [.lit (.bool true)], args := [d1, d2] }
  | _ => none }
def witOrderRow : OpenClaim := { program := "ytnfnincmhobpaaa", sum := "f19301133ee5c3c2ad9688da213a0170fe30f70a52d0357a83d257d3a475c3f3", func := "porthole/portholelaw19.WitOrder", spec := "witOrder", unfollowed := true, recurses := true, apart := false }
def WitOrderSaid : Prop := witOrderRow.holds Try.pinned (OpenSpec.ofChange witOrderSpec)

/-- ITS FALSE NEIGHBOUR: 'it returns false'. Refute it at one input. -/
def witOrderWrong : ChangeSpec := { name := "witOrder", fn := fun _ => fun
  | [d1, d2] => { results := [.lit (.bool false)], args := [d1, d2] }
  | _ => none }
def WitOrderWrongFalsely : Prop := witOrderRow.holds Try.pinned (OpenSpec.ofChange witOrderWrong)

/-- 'portholelaw19.WitAll': WHATEVER THE INPUT: true; the input reads as it did. -/
def witAllSpec : ChangeSpec := { name := "witAll", fn := fun _ => fun
  | [d1, d2, d3] => { results := [.lit (.bool true)], args := [d1, d2, d3] }
  | _ => none }
def witAllRow : OpenClaim := { program := "ytnfnincmhobpaaa", sum := "f19301133ee5c3c2ad9688da213a0170fe30f70a52d0357a83d257d3a475c3f3", func := "porthole/portholelaw19.WitAll", spec := "witAll", unfollowed := true, recurses := true, apart := false }
def WitAllSaid : Prop := witAllRow.holds Try.pinned (OpenSpec.ofChange witAllSpec)

/-- ITS FALSE NEIGHBOUR: 'it returns false'. Refute it at one input. -/
def witAllWrong : ChangeSpec := { name := "witAll", fn := fun _ => fun
  | [d1, d2, d3] => { results := [.lit (.bool false)], args := [d1, d2, d3] }
  | _ => none }
def WitAllWrongFalsely : Prop := witAllRow.holds Try.pinned (OpenSpec.ofChange witAllWrong)

/-- 'portholelaw19.WitOnce': WHATEVER THE INPUT: true; the input reads as it did. -/
def witOnceSpec : ChangeSpec := { name := "witOnce", fn := fun _ => fun
  | [d1, d2] => { results := [.lit (.bool true)], args := [d1, d2] }
  | _ => none }
def witOnceRow : OpenClaim := { program := "ytnfnincmhobpaaa", sum := "f19301133ee5c3c2ad9688da213a0170fe30f70a52d0357a83d257d3a475c3f3", func := "porthole/portholelaw19.WitOnce", spec := "witOnce", unfollowed := true, recurses := true, apart := false }
def WitOnceSaid : Prop := witOnceRow.holds Try.pinned (OpenSpec.ofChange witOnceSpec)

/-- ITS FALSE NEIGHBOUR: 'it returns false'. Refute it at one input. -/
def witOnceWrong : ChangeSpec := { name := "witOnce", fn := fun _ => fun
  | [d1, d2] => { results := [.lit (.bool false)], args := [d1, d2] }
  | _ => none }
def WitOnceWrongFalsely : Prop := witOnceRow.holds Try.pinned (OpenSpec.ofChange witOnceWrong)

/- THE SECOND FORM. 'bulk': how many values and letters a reading holds, each counted each time it is reached (what is shared counts as often as it is met; a slice's spare places count too). A statement '..UptoSaid' is the law's where the arguments, and the package variables that the reading takes, are together of bulk at most 1048576: NARROWER than '..Said'. Prove '..Said' where nothing that the law and all that it calls make is longer than what came in: it says more and counts as full. Else prove '..UptoSaid'. A law counts once. -/
mutual
def uptoBulk {H : Type} : DataW H → Nat
  | .lit (.string bytes) => bytes.length + 1
  | .lit _ => 1
  | .nil => 1
  | .ptr d => uptoBulk d + 1
  | .slice elems spare => uptoBulkAll elems + uptoBulkAll spare + 1
  | .agg parts => uptoBulkAll parts + 1
  | .iface _ d => uptoBulk d + 1
  | .map entries => uptoBulkEntries entries + 1
  | .held _ => 1
def uptoBulkAll {H : Type} : List (DataW H) → Nat
  | [] => 0
  | d :: r => uptoBulk d + uptoBulkAll r
def uptoBulkEntries {H : Type} : List (Lit × DataW H) → Nat
  | [] => 0
  | x :: r => uptoBulkEntry x + uptoBulkEntries r
def uptoBulkEntry {H : Type} : Lit × DataW H → Nat
  | (.string bytes, d) => bytes.length + uptoBulk d + 1
  | (_, d) => uptoBulk d + 1
 end
def uptoSmall : (H : Type) → List (DataW H) → Bool := fun _ ds => decide (uptoBulkAll ds ≤ 1048576)
def OpenSpec.upto (s : _root_.Go.ChangeSpec) : _root_.Go.OpenSpec := { _root_.Go.OpenSpec.ofChange s with cond := some uptoSmall }

/-- 'portholelaw24.StampGrows', WHERE WHAT IT READS IS OF BULK AT MOST 1048576: true; the input reads as it did. -/
def stampGrowsUptoRow : OpenClaim := { program := "ytnfnincmhobpaaa", sum := "f19301133ee5c3c2ad9688da213a0170fe30f70a52d0357a83d257d3a475c3f3", func := "porthole/portholelaw24.StampGrows", spec := "stampGrows", apart := false, narrowed := true }
def StampGrowsUptoSaid : Prop := stampGrowsUptoRow.holds Try.pinned (OpenSpec.upto stampGrowsSpec)

/-- 'portholelaw24.StampLast', WHERE WHAT IT READS IS OF BULK AT MOST 1048576: true; the input reads as it did. -/
def stampLastUptoRow : OpenClaim := { program := "ytnfnincmhobpaaa", sum := "f19301133ee5c3c2ad9688da213a0170fe30f70a52d0357a83d257d3a475c3f3", func := "porthole/portholelaw24.StampLast", spec := "stampLast", apart := false, narrowed := true }
def StampLastUptoSaid : Prop := stampLastUptoRow.holds Try.pinned (OpenSpec.upto stampLastSpec)

/-- 'portholelaw17.HistSound', WHERE WHAT IT READS IS OF BULK AT MOST 1048576: true; the input reads as it did. -/
def histSoundUptoRow : OpenClaim := { program := "ytnfnincmhobpaaa", sum := "f19301133ee5c3c2ad9688da213a0170fe30f70a52d0357a83d257d3a475c3f3", func := "porthole/portholelaw17.HistSound", spec := "histSound", unfollowed := true, recurses := true, apart := false, narrowed := true }
def HistSoundUptoSaid : Prop := histSoundUptoRow.holds Try.pinned (OpenSpec.upto histSoundSpec)

/-- 'portholelaw17.HistApart', WHERE WHAT IT READS IS OF BULK AT MOST 1048576: true; the input reads as it did. -/
def histApartUptoRow : OpenClaim := { program := "ytnfnincmhobpaaa", sum := "f19301133ee5c3c2ad9688da213a0170fe30f70a52d0357a83d257d3a475c3f3", func := "porthole/portholelaw17.HistApart", spec := "histApart", unfollowed := true, recurses := true, apart := false, narrowed := true }
def HistApartUptoSaid : Prop := histApartUptoRow.holds Try.pinned (OpenSpec.upto histApartSpec)

/-- 'portholelaw17.HistOf', WHERE WHAT IT READS IS OF BULK AT MOST 1048576: true; the input reads as it did. -/
def histOfUptoRow : OpenClaim := { program := "ytnfnincmhobpaaa", sum := "f19301133ee5c3c2ad9688da213a0170fe30f70a52d0357a83d257d3a475c3f3", func := "porthole/portholelaw17.HistOf", spec := "histOf", unfollowed := true, recurses := true, apart := false, narrowed := true }
def HistOfUptoSaid : Prop := histOfUptoRow.holds Try.pinned (OpenSpec.upto histOfSpec)

/-- 'portholelaw17.HistPlace', WHERE WHAT IT READS IS OF BULK AT MOST 1048576: true; the input reads as it did. -/
def histPlaceUptoRow : OpenClaim := { program := "ytnfnincmhobpaaa", sum := "f19301133ee5c3c2ad9688da213a0170fe30f70a52d0357a83d257d3a475c3f3", func := "porthole/portholelaw17.HistPlace", spec := "histPlace", unfollowed := true, recurses := true, apart := false, narrowed := true }
def HistPlaceUptoSaid : Prop := histPlaceUptoRow.holds Try.pinned (OpenSpec.upto histPlaceSpec)

/-- 'portholelaw19.WitOrder', WHERE WHAT IT READS IS OF BULK AT MOST 1048576: true; the input reads as it did. -/
def witOrderUptoRow : OpenClaim := { program := "ytnfnincmhobpaaa", sum := "f19301133ee5c3c2ad9688da213a0170fe30f70a52d0357a83d257d3a475c3f3", func := "porthole/portholelaw19.WitOrder", spec := "witOrder", unfollowed := true, recurses := true, apart := false, narrowed := true }
def WitOrderUptoSaid : Prop := witOrderUptoRow.holds Try.pinned (OpenSpec.upto witOrderSpec)

/-- 'portholelaw19.WitAll', WHERE WHAT IT READS IS OF BULK AT MOST 1048576: true; the input reads as it did. -/
def witAllUptoRow : OpenClaim := { program := "ytnfnincmhobpaaa", sum := "f19301133ee5c3c2ad9688da213a0170fe30f70a52d0357a83d257d3a475c3f3", func := "porthole/portholelaw19.WitAll", spec := "witAll", unfollowed := true, recurses := true, apart := false, narrowed := true }
def WitAllUptoSaid : Prop := witAllUptoRow.holds Try.pinned (OpenSpec.upto witAllSpec)

/-- 'portholelaw19.WitOnce', WHERE WHAT IT READS IS OF BULK AT MOST 1048576: true; the input reads as it did. -/
def witOnceUptoRow : OpenClaim := { program := "ytnfnincmhobpaaa", sum := "f19301133ee5c3c2ad9688da213a0170fe30f70a52d0357a83d257d3a475c3f3", func := "porthole/portholelaw19.WitOnce", spec := "witOnce", unfollowed := true, recurses := true, apart := false, narrowed := true }
def WitOnceUptoSaid : Prop := witOnceUptoRow.holds Try.pinned (OpenSpec.upto witOnceSpec)

end Rows
end Go.Proofs.Ytnfnincmhobpaaa
