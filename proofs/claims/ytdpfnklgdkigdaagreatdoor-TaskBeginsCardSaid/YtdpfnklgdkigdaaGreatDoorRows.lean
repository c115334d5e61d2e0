/-
  NARROWER THAN 'FOR EVERY INPUT', by the rows' own cells (each row's printed sentence says how): TaskBegins: laid.
  DERIVED. THE GIVEN ROWS OF THIS SEAT. 1 by the template 'for every input the law returns true; each argument reads behind the call as it read before'; 0 by the template 'total and deterministic' (their statements: YtdpfnklgdkigdaaGreatDoorTotals.lean).
  GIVEN WITH THE SEED: the statements are not yours to turn. If you find one false, say at which input.
  Laid BY PROGRAM, IN A SANDBOX (cutbox-rows.mjs): the forced cells as the released guide's own fill.sh prints them over the translation a06fd9fd145d1aee… (all of the seat's roots in one cut). By AI agents, Wed Nov 11 2026. No macro, syntax, notation, axiom, sorry.
-/
import Derived.Test.YtdpfnklgdkigdaaGreatDoorChecked
import GoSem.Claim
import GoSem.ClaimJoined
import GoSem.ClaimMapViews
import Derived.JoinedTies
import Derived.KernelRfl
namespace Go.Proofs.YtdpfnklgdkigdaaGreatDoor
/- THE CELL 'sum', in the pinned program and in every row, IS THE sha256 OF THE DUMP (.gsa) THAT YtdpfnklgdkigdaaGreatDoorProg.lean LOADS. Nothing in Lean hashes anything: it is a label: what it is worth is what the hold of that sum in a sandbox is worth. -/
noncomputable def Tryz.pinned : Pinned := { name := "ytdpfnklgdkigdaagreatdoor", sum := "a06fd9fd145d1aeeb1248a9165c8b924b705dfe8769c1ef9ec2eb099bf5c254b", checked := Tryz.checked }
namespace Rows
def none {H : Type} : Left H := { results := [], args := [] }

/- WHAT THE LISTED PACKAGE-LEVEL VARIABLES READ AS WHEN THE CALL BEGINS. Each datum BY PROGRAM (the guide's laid-datum.mjs) off the statement by which the dump's own 'gosem.cut.vars' lays the variable. In a bare row this is a premise. The card (YtdpfnklgdkigdaaGreatDoorCards.lean) ties it to the program's text. -/
def laid_porthole_sign_names {H : Type} : DataW H := .agg [.lit (.string []), .lit (.string [99, 114, 101, 97, 116, 101]), .lit (.string [110, 111, 114, 109, 97, 108]), .lit (.string [119, 114, 105, 116, 101]), .lit (.string [114, 101, 97, 100]), .lit (.string [115, 101, 110, 100]), .lit (.string [114, 101, 99, 101, 105, 118, 101]), .lit (.string [115, 116, 97, 116, 117, 115]), .lit (.string [112, 101, 101, 107]), .lit (.string [112, 111, 107, 101])]

/-- 'portholelaw13.TaskBegins': WHATEVER THE INPUT: true; the input reads as it did. -/
def taskBeginsSpec : ChangeSpec := { name := "taskBegins", fn := fun _ => fun
  | [d1, d2, d3] => { results := [.lit (.bool true)], args := [d1, d2, d3] }
  | _ => none }
def taskBeginsRow : OpenClaim := { program := "ytdpfnklgdkigdaagreatdoor", sum := "a06fd9fd145d1aeeb1248a9165c8b924b705dfe8769c1ef9ec2eb099bf5c254b", func := "porthole/portholelaw13.TaskBegins", spec := "taskBegins", unfollowed := true, recurses := true, named := ["porthole/sign.names"], apart := false, laid := [("porthole/sign.names", laid_porthole_sign_names)] }
def TaskBeginsSaid : Prop := taskBeginsRow.holds Tryz.pinned (OpenSpec.ofChange taskBeginsSpec)

/-- ITS FALSE NEIGHBOUR: 'it returns false'. Refute it at one input. -/
def taskBeginsWrong : ChangeSpec := { name := "taskBegins", fn := fun _ => fun
  | [d1, d2, d3] => { results := [.lit (.bool false)], args := [d1, d2, d3] }
  | _ => none }
def TaskBeginsWrongFalsely : Prop := taskBeginsRow.holds Tryz.pinned (OpenSpec.ofChange taskBeginsWrong)

/- THE SECOND FORM. 'bulk': how many values and letters a reading holds, each counted each time it is reached (what is shared counts as often as it is met; a slice's spare places count too). A statement '..UptoSaid' is the law's where the arguments, and the package variables that the reading takes, are together of bulk at most 1048576: NARROWER than '..Said'. Prove '..Said' where nothing that the law and all that it calls make is longer than what came in: it says more and counts as full. Else prove '..UptoSaid'. A law counts once. -/
mutual
def uptoBulk {H : Type} : DataW H → Nat
  | .lit (.string bytes) => bytes.length + 1
  | .lit _ => 1
  | .nil => 1
  | .ptr d => uptoBulk d + 1
  | .slice elems spare => uptoBulkAll elems + uptoBulkAll spare + 1
  | .agg parts => uptoBulkAll parts + 1
  | .iface _ d => uptoBulk d + 1
  | .map entries => uptoBulkEntries entries + 1
  | .held _ => 1
def uptoBulkAll {H : Type} : List (DataW H) → Nat
  | [] => 0
  | d :: r => uptoBulk d + uptoBulkAll r
def uptoBulkEntries {H : Type} : List (Lit × DataW H) → Nat
  | [] => 0
  | x :: r => uptoBulkEntry x + uptoBulkEntries r
def uptoBulkEntry {H : Type} : Lit × DataW H → Nat
  | (.string bytes, d) => bytes.length + uptoBulk d + 1
  | (_, d) => uptoBulk d + 1
 end
def uptoSmall : (H : Type) → List (DataW H) → Bool := fun _ ds => decide (uptoBulkAll ds ≤ 1048576)
def OpenSpec.upto (s : _root_.Go.ChangeSpec) : _root_.Go.OpenSpec := { _root_.Go.OpenSpec.ofChange s with cond := some uptoSmall }

/-- 'portholelaw13.TaskBegins', WHERE WHAT IT READS IS OF BULK AT MOST 1048576: true; the input reads as it did. -/
def taskBeginsUptoRow : OpenClaim := { program := "ytdpfnklgdkigdaagreatdoor", sum := "a06fd9fd145d1aeeb1248a9165c8b924b705dfe8769c1ef9ec2eb099bf5c254b", func := "porthole/portholelaw13.TaskBegins", spec := "taskBegins", unfollowed := true, recurses := true, named := ["porthole/sign.names"], apart := false, laid := [("porthole/sign.names", laid_porthole_sign_names)], narrowed := true }
def TaskBeginsUptoSaid : Prop := taskBeginsUptoRow.holds Tryz.pinned (OpenSpec.upto taskBeginsSpec)

end Rows
end Go.Proofs.YtdpfnklgdkigdaaGreatDoor
