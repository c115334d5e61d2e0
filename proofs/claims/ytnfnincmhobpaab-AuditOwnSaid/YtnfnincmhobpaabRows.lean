/-
  No cell of these rows narrows 'for every input' (looked for: loops, veiled, ifaces, maps, wideKeys, modest, calm, conditions, laid).
  DERIVED. THE GIVEN ROWS OF THIS SEAT. 9 by the template 'for every input the law returns true; each argument reads behind the call as it read before'; 0 by the template 'total and deterministic' (their statements: YtnfnincmhobpaabTotals.lean).
  GIVEN WITH THE SEED: the statements are not yours to turn. If you find one false, say at which input.
  Laid BY PROGRAM, IN A SANDBOX (cutbox-rows.mjs): the forced cells as the released guide's own fill.sh prints them over the translation 4d52b7c805878ff5… (all of the seat's roots in one cut). By AI agents, Wed Nov 11 2026. No macro, syntax, notation, axiom, sorry.
-/
import Derived.Test.YtnfnincmhobpaabChecked
import GoSem.Claim
import GoSem.ClaimJoined
import GoSem.ClaimMapViews
import Derived.JoinedTies
import Derived.KernelRfl
namespace Go.Proofs.Ytnfnincmhobpaab
/- THE CELL 'sum', in the pinned program and in every row, IS THE sha256 OF THE DUMP (.gsa) THAT YtnfnincmhobpaabProg.lean LOADS. Nothing in Lean hashes anything: it is a label: what it is worth is what the hold of that sum in a sandbox is worth. -/
noncomputable def Try.pinned : Pinned := { name := "ytnfnincmhobpaab", sum := "4d52b7c805878ff56541089105153a5f85a3d5b3e7ad09becb83fdf9f38d672a", checked := Try.checked }
namespace Rows
def none {H : Type} : Left H := { results := [], args := [] }

/-- 'portholelaw21.FlowInto': WHATEVER THE INPUT: true; the input reads as it did. -/
def flowIntoSpec : ChangeSpec := { name := "flowInto", fn := fun _ => fun
  | [d1, d2, d3] => { results := [.lit (.bool true)], args := [d1, d2, d3] }
  | _ => none }
def flowIntoRow : OpenClaim := { program := "ytnfnincmhobpaab", sum := "4d52b7c805878ff56541089105153a5f85a3d5b3e7ad09becb83fdf9f38d672a", func := "porthole/portholelaw21.FlowInto", spec := "flowInto", unfollowed := true, recurses := true, apart := false }
def FlowIntoSaid : Prop := flowIntoRow.holds Try.pinned (OpenSpec.ofChange flowIntoSpec)

/-- ITS FALSE NEIGHBOUR: 'it returns false'. Refute it at one input. -/
def flowIntoWrong : ChangeSpec := { name := "flowInto", fn := fun _ => fun
  | [d1, d2, d3] => { results := [.lit (.bool false)], args := [d1, d2, d3] }
  | _ => none }
def FlowIntoWrongFalsely : Prop := flowIntoRow.holds Try.pinned (OpenSpec.ofChange flowIntoWrong)

/-- 'portholelaw21.FlowClosed': WHATEVER THE INPUT: true; the input reads as it did. -/
def flowClosedSpec : ChangeSpec := { name := "flowClosed", fn := fun _ => fun
  | [d1, d2, d3] => { results := [.lit (.bool true)], args := [d1, d2, d3] }
  | _ => none }
def flowClosedRow : OpenClaim := { program := "ytnfnincmhobpaab", sum := "4d52b7c805878ff56541089105153a5f85a3d5b3e7ad09becb83fdf9f38d672a", func := "porthole/portholelaw21.FlowClosed", spec := "flowClosed", unfollowed := true, recurses := true, apart := false }
def FlowClosedSaid : Prop := flowClosedRow.holds Try.pinned (OpenSpec.ofChange flowClosedSpec)

/-- ITS FALSE NEIGHBOUR: 'it returns false'. Refute it at one input. -/
def flowClosedWrong : ChangeSpec := { name := "flowClosed", fn := fun _ => fun
  | [d1, d2, d3] => { results := [.lit (.bool false)], args := [d1, d2, d3] }
  | _ => none }
def FlowClosedWrongFalsely : Prop := flowClosedRow.holds Try.pinned (OpenSpec.ofChange flowClosedWrong)

/-- 'portholelaw21.FlowSame': WHATEVER THE INPUT: true; the input reads as it did. -/
def flowSameSpec : ChangeSpec := { name := "flowSame", fn := fun _ => fun
  | [d1, d2] => { results := [.lit (.bool true)], args := [d1, d2] }
  | _ => none }
def flowSameRow : OpenClaim := { program := "ytnfnincmhobpaab", sum := "4d52b7c805878ff56541089105153a5f85a3d5b3e7ad09becb83fdf9f38d672a", func := "porthole/portholelaw21.FlowSame", spec := "flowSame", unfollowed := true, recurses := true, apart := false }
def FlowSameSaid : Prop := flowSameRow.holds Try.pinned (OpenSpec.ofChange flowSameSpec)

/-- ITS FALSE NEIGHBOUR: 'it returns false'. Refute it at one input. -/
def flowSameWrong : ChangeSpec := { name := "flowSame", fn := fun _ => fun
  | [d1, d2] => { results := [.lit (.bool false)], args := [d1, d2] }
  | _ => none }
def FlowSameWrongFalsely : Prop := flowSameRow.holds Try.pinned (OpenSpec.ofChange flowSameWrong)

/-- 'portholelaw23.BoundSteps': WHATEVER THE INPUT: true; the input reads as it did. -/
def boundStepsSpec : ChangeSpec := { name := "boundSteps", fn := fun _ => fun
  | [d1, d2, d3] => { results := [.lit (.bool true)], args := [d1, d2, d3] }
  | _ => none }
def boundStepsRow : OpenClaim := { program := "ytnfnincmhobpaab", sum := "4d52b7c805878ff56541089105153a5f85a3d5b3e7ad09becb83fdf9f38d672a", func := "porthole/portholelaw23.BoundSteps", spec := "boundSteps", unfollowed := true, recurses := true, apart := false }
def BoundStepsSaid : Prop := boundStepsRow.holds Try.pinned (OpenSpec.ofChange boundStepsSpec)

/-- ITS FALSE NEIGHBOUR: 'it returns false'. Refute it at one input. -/
def boundStepsWrong : ChangeSpec := { name := "boundSteps", fn := fun _ => fun
  | [d1, d2, d3] => { results := [.lit (.bool false)], args := [d1, d2, d3] }
  | _ => none }
def BoundStepsWrongFalsely : Prop := boundStepsRow.holds Try.pinned (OpenSpec.ofChange boundStepsWrong)

/-- 'portholelaw23.BoundLeast': WHATEVER THE INPUT: true; the input reads as it did. -/
def boundLeastSpec : ChangeSpec := { name := "boundLeast", fn := fun _ => fun
  | [d1, d2, d3] => { results := [.lit (.bool true)], args := [d1, d2, d3] }
  | _ => none }
def boundLeastRow : OpenClaim := { program := "ytnfnincmhobpaab", sum := "4d52b7c805878ff56541089105153a5f85a3d5b3e7ad09becb83fdf9f38d672a", func := "porthole/portholelaw23.BoundLeast", spec := "boundLeast", unfollowed := true, recurses := true, apart := false }
def BoundLeastSaid : Prop := boundLeastRow.holds Try.pinned (OpenSpec.ofChange boundLeastSpec)

/-- ITS FALSE NEIGHBOUR: 'it returns false'. Refute it at one input. -/
def boundLeastWrong : ChangeSpec := { name := "boundLeast", fn := fun _ => fun
  | [d1, d2, d3] => { results := [.lit (.bool false)], args := [d1, d2, d3] }
  | _ => none }
def BoundLeastWrongFalsely : Prop := boundLeastRow.holds Try.pinned (OpenSpec.ofChange boundLeastWrong)

/-- 'portholelaw23.BoundKept': WHATEVER THE INPUT: true; the input reads as it did. -/
def boundKeptSpec : ChangeSpec := { name := "boundKept", fn := fun _ => fun
  | [d1, d2] => { results := [.lit (.bool true)], args := [d1, d2] }
  | _ => none }
def boundKeptRow : OpenClaim := { program := "ytnfnincmhobpaab", sum := "4d52b7c805878ff56541089105153a5f85a3d5b3e7ad09becb83fdf9f38d672a", func := "porthole/portholelaw23.BoundKept", spec := "boundKept", unfollowed := true, recurses := true, apart := false }
def BoundKeptSaid : Prop := boundKeptRow.holds Try.pinned (OpenSpec.ofChange boundKeptSpec)

/-- ITS FALSE NEIGHBOUR: 'it returns false'. Refute it at one input. -/
def boundKeptWrong : ChangeSpec := { name := "boundKept", fn := fun _ => fun
  | [d1, d2] => { results := [.lit (.bool false)], args := [d1, d2] }
  | _ => none }
def BoundKeptWrongFalsely : Prop := boundKeptRow.holds Try.pinned (OpenSpec.ofChange boundKeptWrong)

/-- 'portholelaw22.AuditChanged': WHATEVER THE INPUT: true; the input reads as it did. -/
def auditChangedSpec : ChangeSpec := { name := "auditChanged", fn := fun _ => fun
  | [d1, d2, d3] => { results := [.lit (.bool true)], args := [d1, d2, d3] }
  | _ => none }
def auditChangedRow : OpenClaim := { program := "ytnfnincmhobpaab", sum := "4d52b7c805878ff56541089105153a5f85a3d5b3e7ad09becb83fdf9f38d672a", func := "porthole/portholelaw22.AuditChanged", spec := "auditChanged", unfollowed := true, recurses := true, apart := false }
def AuditChangedSaid : Prop := auditChangedRow.holds Try.pinned (OpenSpec.ofChange auditChangedSpec)

/-- ITS FALSE NEIGHBOUR: 'it returns false'. Refute it at one input. -/
def auditChangedWrong : ChangeSpec := { name := "auditChanged", fn := fun _ => fun
  | [d1, d2, d3] => { results := [.lit (.bool false)], args := [d1, d2, d3] }
  | _ => none }
def AuditChangedWrongFalsely : Prop := auditChangedRow.holds Try.pinned (OpenSpec.ofChange auditChangedWrong)

/-- 'portholelaw22.AuditApart': WHATEVER THE INPUT: true; the input reads as it did. -/
def auditApartSpec : ChangeSpec := { name := "auditApart", fn := fun _ => fun
  | [d1, d2, d3] => { results := [.lit (.bool true)], args := [d1, d2, d3] }
  | _ => none }
def auditApartRow : OpenClaim := { program := "ytnfnincmhobpaab", sum := "4d52b7c805878ff56541089105153a5f85a3d5b3e7ad09becb83fdf9f38d672a", func := "porthole/portholelaw22.AuditApart", spec := "auditApart", unfollowed := true, recurses := true, apart := false }
def AuditApartSaid : Prop := auditApartRow.holds Try.pinned (OpenSpec.ofChange auditApartSpec)

/-- ITS FALSE NEIGHBOUR: 'it returns false'. Refute it at one input. -/
def auditApartWrong : ChangeSpec := { name := "auditApart", fn := fun _ => fun
  | [d1, d2, d3] => { results := [.lit (.bool false)], args := [d1, d2, d3] }
  | _ => none }
def AuditApartWrongFalsely : Prop := auditApartRow.holds Try.pinned (OpenSpec.ofChange auditApartWrong)

/-- 'portholelaw22.AuditOwn': WHATEVER THE INPUT: true; the input reads as it did. -/
def auditOwnSpec : ChangeSpec := { name := "auditOwn", fn := fun _ => fun
  | [d1, d2, d3] => { results := [.lit (.bool true)], args := [d1, d2, d3] }
  | _ => none }
def auditOwnRow : OpenClaim := { program := "ytnfnincmhobpaab", sum := "4d52b7c805878ff56541089105153a5f85a3d5b3e7ad09becb83fdf9f38d672a", func := "porthole/portholelaw22.AuditOwn", spec := "auditOwn", unfollowed := true, recurses := true, apart := false }
def AuditOwnSaid : Prop := auditOwnRow.holds Try.pinned (OpenSpec.ofChange auditOwnSpec)

/-- ITS FALSE NEIGHBOUR: 'it returns false'. Refute it at one input. -/
def auditOwnWrong : ChangeSpec := { name := "auditOwn", fn := fun _ => fun
  | [d1, d2, d3] => { results := [.lit (.bool false)], args := [d1, d2, d3] }
  | _ => none }
def AuditOwnWrongFalsely : Prop := auditOwnRow.holds Try.pinned (OpenSpec.ofChange auditOwnWrong)

/- THE SECOND FORM. 'bulk': how many values and letters a reading holds, each counted each time it is reached (what is shared counts as often as it is met; a slice's spare places count too). A statement '..UptoSaid' is the law's where the arguments, and the package variables that the reading takes, are together of bulk at most 1048576: NARROWER than '..Said'. Prove '..Said' where nothing that the law and all that it calls make is longer than what came in: it says more and counts as full. Else prove '..UptoSaid'. A law counts once. -/
mutual
def uptoBulk {H : Type} : DataW H → Nat
  | .lit (.string bytes) => bytes.length + 1
  | .lit _ => 1
  | .nil => 1
  | .ptr d => uptoBulk d + 1
  | .slice elems spare => uptoBulkAll elems + uptoBulkAll spare + 1
  | .agg parts => uptoBulkAll parts + 1
  | .iface _ d => uptoBulk d + 1
  | .map entries => uptoBulkEntries entries + 1
  | .held _ => 1
def uptoBulkAll {H : Type} : List (DataW H) → Nat
  | [] => 0
  | d :: r => uptoBulk d + uptoBulkAll r
def uptoBulkEntries {H : Type} : List (Lit × DataW H) → Nat
  | [] => 0
  | x :: r => uptoBulkEntry x + uptoBulkEntries r
def uptoBulkEntry {H : Type} : Lit × DataW H → Nat
  | (.string bytes, d) => bytes.length + uptoBulk d + 1
  | (_, d) => uptoBulk d + 1
 end
def uptoSmall : (H : Type) → List (DataW H) → Bool := fun _ ds => decide (uptoBulkAll ds ≤ 1048576)
def OpenSpec.upto (s : _root_.Go.ChangeSpec) : _root_.Go.OpenSpec := { _root_.Go.OpenSpec.ofChange s with cond := some uptoSmall }

/-- 'portholelaw21.FlowInto', WHERE WHAT IT READS IS OF BULK AT MOST 1048576: true; the input reads as it did. -/
def flowIntoUptoRow : OpenClaim := { program := "ytnfnincmhobpaab", sum := "4d52b7c805878ff56541089105153a5f85a3d5b3e7ad09becb83fdf9f38d672a", func := "porthole/portholelaw21.FlowInto", spec := "flowInto", unfollowed := true, recurses := true, apart := false, narrowed := true }
def FlowIntoUptoSaid : Prop := flowIntoUptoRow.holds Try.pinned (OpenSpec.upto flowIntoSpec)

/-- 'portholelaw21.FlowClosed', WHERE WHAT IT READS IS OF BULK AT MOST 1048576: true; the input reads as it did. -/
def flowClosedUptoRow : OpenClaim := { program := "ytnfnincmhobpaab", sum := "4d52b7c805878ff56541089105153a5f85a3d5b3e7ad09becb83fdf9f38d672a", func := "porthole/portholelaw21.FlowClosed", spec := "flowClosed", unfollowed := true, recurses := true, apart := false, narrowed := true }
def FlowClosedUptoSaid : Prop := flowClosedUptoRow.holds Try.pinned (OpenSpec.upto flowClosedSpec)

/-- 'portholelaw21.FlowSame', WHERE WHAT IT READS IS OF BULK AT MOST 1048576: true; the input reads as it did. -/
def flowSameUptoRow : OpenClaim := { program := "ytnfnincmhobpaab", sum := "4d52b7c805878ff56541089105153a5f85a3d5b3e7ad09becb83fdf9f38d672a", func := "porthole/portholelaw21.FlowSame", spec := "flowSame", unfollowed := true, recurses := true, apart := false, narrowed := true }
def FlowSameUptoSaid : Prop := flowSameUptoRow.holds Try.pinned (OpenSpec.upto flowSameSpec)

/-- 'portholelaw23.BoundSteps', WHERE WHAT IT READS IS OF BULK AT MOST 1048576: true; the input reads as it did. -/
def boundStepsUptoRow : OpenClaim := { program := "ytnfnincmhobpaab", sum := "4d52b7c805878ff56541089105153a5f85a3d5b3e7ad09becb83fdf9f38d672a", func := "porthole/portholelaw23.BoundSteps", spec := "boundSteps", unfollowed := true, recurses := true, apart := false, narrowed := true }
def BoundStepsUptoSaid : Prop := boundStepsUptoRow.holds Try.pinned (OpenSpec.upto boundStepsSpec)

/-- 'portholelaw23.BoundLeast', WHERE WHAT IT READS IS OF BULK AT MOST 1048576: true; the input reads as it did. -/
def boundLeastUptoRow : OpenClaim := { program := "ytnfnincmhobpaab", sum := "4d52b7c805878ff56541089105153a5f85a3d5b3e7ad09becb83fdf9f38d672a", func := "porthole/portholelaw23.BoundLeast", spec := "boundLeast", unfollowed := true, recurses := true, apart := false, narrowed := true }
def BoundLeastUptoSaid : Prop := boundLeastUptoRow.holds Try.pinned (OpenSpec.upto boundLeastSpec)

/-- 'portholelaw23.BoundKept', WHERE WHAT IT READS IS OF BULK AT MOST 1048576: true; the input reads as it did. -/
def boundKeptUptoRow : OpenClaim := { program := "ytnfnincmhobpaab", sum := "4d52b7c805878ff56541089105153a5f85a3d5b3e7ad09becb83fdf9f38d672a", func := "porthole/portholelaw23.BoundKept", spec := "boundKept", unfollowed := true, recurses := true, apart := false, narrowed := true }
def BoundKeptUptoSaid : Prop := boundKeptUptoRow.holds Try.pinned (OpenSpec.upto boundKeptSpec)

/-- 'portholelaw22.AuditChanged', WHERE WHAT IT READS IS OF BULK AT MOST 1048576: true; the input reads as it did. -/
def auditChangedUptoRow : OpenClaim := { program := "ytnfnincmhobpaab", sum := "4d52b7c805878ff56541089105153a5f85a3d5b3e7ad09becb83fdf9f38d672a", func := "porthole/portholelaw22.AuditChanged", spec := "auditChanged", unfollowed := true, recurses := true, apart := false, narrowed := true }
def AuditChangedUptoSaid : Prop := auditChangedUptoRow.holds Try.pinned (OpenSpec.upto auditChangedSpec)

/-- 'portholelaw22.AuditApart', WHERE WHAT IT READS IS OF BULK AT MOST 1048576: true; the input reads as it did. -/
def auditApartUptoRow : OpenClaim := { program := "ytnfnincmhobpaab", sum := "4d52b7c805878ff56541089105153a5f85a3d5b3e7ad09becb83fdf9f38d672a", func := "porthole/portholelaw22.AuditApart", spec := "auditApart", unfollowed := true, recurses := true, apart := false, narrowed := true }
def AuditApartUptoSaid : Prop := auditApartUptoRow.holds Try.pinned (OpenSpec.upto auditApartSpec)

/-- 'portholelaw22.AuditOwn', WHERE WHAT IT READS IS OF BULK AT MOST 1048576: true; the input reads as it did. -/
def auditOwnUptoRow : OpenClaim := { program := "ytnfnincmhobpaab", sum := "4d52b7c805878ff56541089105153a5f85a3d5b3e7ad09becb83fdf9f38d672a", func := "porthole/portholelaw22.AuditOwn", spec := "auditOwn", unfollowed := true, recurses := true, apart := false, narrowed := true }
def AuditOwnUptoSaid : Prop := auditOwnUptoRow.holds Try.pinned (OpenSpec.upto auditOwnSpec)

end Rows
end Go.Proofs.Ytnfnincmhobpaab
