/-
  NARROWER THAN 'FOR EVERY INPUT', by the rows' own cells (each row's printed sentence says how): OrderValid: laid · OrderLacks: laid · OrderSwaps: laid.
  DERIVED. THE GIVEN ROWS OF THIS SEAT. 3 by the template 'for every input the law returns true; each argument reads behind the call as it read before'; 0 by the template 'total and deterministic' (their statements: YtpdflibmhchlbaaGreatDoorTotals.lean).
  GIVEN WITH THE SEED: the statements are not yours to turn. If you find one false, say at which input.
  Laid BY PROGRAM, IN A SANDBOX (cutbox-rows.mjs): the forced cells as the released guide's own fill.sh prints them over the translation 65b6a2fab4148ac8… (all of the seat's roots in one cut). By AI agents, Wed Nov 11 2026. No macro, syntax, notation, axiom, sorry.
-/
import Derived.Test.YtpdflibmhchlbaaGreatDoorChecked
import GoSem.Claim
import GoSem.ClaimJoined
import GoSem.ClaimMapViews
import Derived.JoinedTies
import Derived.KernelRfl
namespace Go.Proofs.YtpdflibmhchlbaaGreatDoor
/- THE CELL 'sum', in the pinned program and in every row, IS THE sha256 OF THE DUMP (.gsa) THAT YtpdflibmhchlbaaGreatDoorProg.lean LOADS. Nothing in Lean hashes anything: it is a label: what it is worth is what the hold of that sum in a sandbox is worth. -/
noncomputable def Tryz.pinned : Pinned := { name := "ytpdflibmhchlbaagreatdoor", sum := "65b6a2fab4148ac8e78dea7ff7873559c8a787abf09d9bcbf9df6e54422f0f84", checked := Tryz.checked }
namespace Rows
def none {H : Type} : Left H := { results := [], args := [] }

/- WHAT THE LISTED PACKAGE-LEVEL VARIABLES READ AS WHEN THE CALL BEGINS. Each datum BY PROGRAM (the guide's laid-datum.mjs) off the statement by which the dump's own 'gosem.cut.vars' lays the variable. In a bare row this is a premise. The card (YtpdflibmhchlbaaGreatDoorCards.lean) ties it to the program's text. -/
def laid_porthole_sign_names {H : Type} : DataW H := .agg [.lit (.string []), .lit (.string [99, 114, 101, 97, 116, 101]), .lit (.string [110, 111, 114, 109, 97, 108]), .lit (.string [119, 114, 105, 116, 101]), .lit (.string [114, 101, 97, 100]), .lit (.string [115, 101, 110, 100]), .lit (.string [114, 101, 99, 101, 105, 118, 101]), .lit (.string [115, 116, 97, 116, 117, 115]), .lit (.string [112, 101, 101, 107]), .lit (.string [112, 111, 107, 101])]
def laid_porthole_order_never {H : Type} : DataW H := .agg [.lit (.int .i64 (-1)), .lit (.int .i64 (-1))]

/-- 'portholelaw20.OrderValid': WHATEVER THE INPUT: true; the input reads as it did. -/
def orderValidSpec : ChangeSpec := { name := "orderValid", fn := fun _ => fun
  | [d1, d2] => { results := [.lit (.bool true)], args := [d1, d2] }
  | _ => none }
def orderValidRow : OpenClaim := { program := "ytpdflibmhchlbaagreatdoor", sum := "65b6a2fab4148ac8e78dea7ff7873559c8a787abf09d9bcbf9df6e54422f0f84", func := "porthole/portholelaw20.OrderValid", spec := "orderValid", unfollowed := true, recurses := true, named := ["porthole/order.never", "porthole/sign.names"], plainKeys := false, apart := false, laid := [("porthole/sign.names", laid_porthole_sign_names), ("porthole/order.never", laid_porthole_order_never)] }
def OrderValidSaid : Prop := orderValidRow.holds Tryz.pinned (OpenSpec.ofChange orderValidSpec)

/-- ITS FALSE NEIGHBOUR: 'it returns false'. Refute it at one input. -/
def orderValidWrong : ChangeSpec := { name := "orderValid", fn := fun _ => fun
  | [d1, d2] => { results := [.lit (.bool false)], args := [d1, d2] }
  | _ => none }
def OrderValidWrongFalsely : Prop := orderValidRow.holds Tryz.pinned (OpenSpec.ofChange orderValidWrong)

/-- 'portholelaw20.OrderLacks': WHATEVER THE INPUT: true; the input reads as it did. -/
def orderLacksSpec : ChangeSpec := { name := "orderLacks", fn := fun _ => fun
  | [d1, d2, d3] => { results := [.lit (.bool true)], args := [d1, d2, d3] }
  | _ => none }
def orderLacksRow : OpenClaim := { program := "ytpdflibmhchlbaagreatdoor", sum := "65b6a2fab4148ac8e78dea7ff7873559c8a787abf09d9bcbf9df6e54422f0f84", func := "porthole/portholelaw20.OrderLacks", spec := "orderLacks", unfollowed := true, recurses := true, named := ["porthole/order.never", "porthole/sign.names"], plainKeys := false, apart := false, laid := [("porthole/sign.names", laid_porthole_sign_names), ("porthole/order.never", laid_porthole_order_never)] }
def OrderLacksSaid : Prop := orderLacksRow.holds Tryz.pinned (OpenSpec.ofChange orderLacksSpec)

/-- ITS FALSE NEIGHBOUR: 'it returns false'. Refute it at one input. -/
def orderLacksWrong : ChangeSpec := { name := "orderLacks", fn := fun _ => fun
  | [d1, d2, d3] => { results := [.lit (.bool false)], args := [d1, d2, d3] }
  | _ => none }
def OrderLacksWrongFalsely : Prop := orderLacksRow.holds Tryz.pinned (OpenSpec.ofChange orderLacksWrong)

/-- 'portholelaw20.OrderSwaps': WHATEVER THE INPUT: true; the input reads as it did. -/
def orderSwapsSpec : ChangeSpec := { name := "orderSwaps", fn := fun _ => fun
  | [d1, d2, d3] => { results := [.lit (.bool true)], args := [d1, d2, d3] }
  | _ => none }
def orderSwapsRow : OpenClaim := { program := "ytpdflibmhchlbaagreatdoor", sum := "65b6a2fab4148ac8e78dea7ff7873559c8a787abf09d9bcbf9df6e54422f0f84", func := "porthole/portholelaw20.OrderSwaps", spec := "orderSwaps", unfollowed := true, recurses := true, named := ["porthole/order.never", "porthole/sign.names"], plainKeys := false, apart := false, laid := [("porthole/sign.names", laid_porthole_sign_names), ("porthole/order.never", laid_porthole_order_never)] }
def OrderSwapsSaid : Prop := orderSwapsRow.holds Tryz.pinned (OpenSpec.ofChange orderSwapsSpec)

/-- ITS FALSE NEIGHBOUR: 'it returns false'. Refute it at one input. -/
def orderSwapsWrong : ChangeSpec := { name := "orderSwaps", fn := fun _ => fun
  | [d1, d2, d3] => { results := [.lit (.bool false)], args := [d1, d2, d3] }
  | _ => none }
def OrderSwapsWrongFalsely : Prop := orderSwapsRow.holds Tryz.pinned (OpenSpec.ofChange orderSwapsWrong)

/- THE SECOND FORM. 'bulk': how many values and letters a reading holds, each counted each time it is reached (what is shared counts as often as it is met; a slice's spare places count too). A statement '..UptoSaid' is the law's where the arguments, and the package variables that the reading takes, are together of bulk at most 1048576: NARROWER than '..Said'. Prove '..Said' where nothing that the law and all that it calls make is longer than what came in: it says more and counts as full. Else prove '..UptoSaid'. A law counts once. -/
mutual
def uptoBulk {H : Type} : DataW H → Nat
  | .lit (.string bytes) => bytes.length + 1
  | .lit _ => 1
  | .nil => 1
  | .ptr d => uptoBulk d + 1
  | .slice elems spare => uptoBulkAll elems + uptoBulkAll spare + 1
  | .agg parts => uptoBulkAll parts + 1
  | .iface _ d => uptoBulk d + 1
  | .map entries => uptoBulkEntries entries + 1
  | .held _ => 1
def uptoBulkAll {H : Type} : List (DataW H) → Nat
  | [] => 0
  | d :: r => uptoBulk d + uptoBulkAll r
def uptoBulkEntries {H : Type} : List (Lit × DataW H) → Nat
  | [] => 0
  | x :: r => uptoBulkEntry x + uptoBulkEntries r
def uptoBulkEntry {H : Type} : Lit × DataW H → Nat
  | (.string bytes, d) => bytes.length + uptoBulk d + 1
  | (_, d) => uptoBulk d + 1
 end
def uptoSmall : (H : Type) → List (DataW H) → Bool := fun _ ds => decide (uptoBulkAll ds ≤ 1048576)
def OpenSpec.upto (s : _root_.Go.ChangeSpec) : _root_.Go.OpenSpec := { _root_.Go.OpenSpec.ofChange s with cond := some uptoSmall }

/-- 'portholelaw20.OrderValid', WHERE WHAT IT READS IS OF BULK AT MOST 1048576: true; the input reads as it did. -/
def orderValidUptoRow : OpenClaim := { program := "ytpdflibmhchlbaagreatdoor", sum := "65b6a2fab4148ac8e78dea7ff7873559c8a787abf09d9bcbf9df6e54422f0f84", func := "porthole/portholelaw20.OrderValid", spec := "orderValid", unfollowed := true, recurses := true, named := ["porthole/order.never", "porthole/sign.names"], plainKeys := false, apart := false, laid := [("porthole/sign.names", laid_porthole_sign_names), ("porthole/order.never", laid_porthole_order_never)], narrowed := true }
def OrderValidUptoSaid : Prop := orderValidUptoRow.holds Tryz.pinned (OpenSpec.upto orderValidSpec)

/-- 'portholelaw20.OrderLacks', WHERE WHAT IT READS IS OF BULK AT MOST 1048576: true; the input reads as it did. -/
def orderLacksUptoRow : OpenClaim := { program := "ytpdflibmhchlbaagreatdoor", sum := "65b6a2fab4148ac8e78dea7ff7873559c8a787abf09d9bcbf9df6e54422f0f84", func := "porthole/portholelaw20.OrderLacks", spec := "orderLacks", unfollowed := true, recurses := true, named := ["porthole/order.never", "porthole/sign.names"], plainKeys := false, apart := false, laid := [("porthole/sign.names", laid_porthole_sign_names), ("porthole/order.never", laid_porthole_order_never)], narrowed := true }
def OrderLacksUptoSaid : Prop := orderLacksUptoRow.holds Tryz.pinned (OpenSpec.upto orderLacksSpec)

/-- 'portholelaw20.OrderSwaps', WHERE WHAT IT READS IS OF BULK AT MOST 1048576: true; the input reads as it did. -/
def orderSwapsUptoRow : OpenClaim := { program := "ytpdflibmhchlbaagreatdoor", sum := "65b6a2fab4148ac8e78dea7ff7873559c8a787abf09d9bcbf9df6e54422f0f84", func := "porthole/portholelaw20.OrderSwaps", spec := "orderSwaps", unfollowed := true, recurses := true, named := ["porthole/order.never", "porthole/sign.names"], plainKeys := false, apart := false, laid := [("porthole/sign.names", laid_porthole_sign_names), ("porthole/order.never", laid_porthole_order_never)], narrowed := true }
def OrderSwapsUptoSaid : Prop := orderSwapsUptoRow.holds Tryz.pinned (OpenSpec.upto orderSwapsSpec)

end Rows
end Go.Proofs.YtpdflibmhchlbaaGreatDoor
