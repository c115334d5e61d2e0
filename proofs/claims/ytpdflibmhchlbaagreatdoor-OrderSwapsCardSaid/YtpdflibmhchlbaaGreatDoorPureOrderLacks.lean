/- Plain law: of an order that could have been none that lacks an item that is due could have been, nor one that has an item twice. Conditions: none. -/
import Derived.Test.YtpdflibmhchlbaaGreatDoorPOG
set_option linter.unusedVariables false
set_option linter.unusedSimpArgs false
namespace Go.Proofs.YtpdflibmhchlbaaGreatDoor
open Go Go.RowKit Go.Eng Go.IntKind
theorem tmod_n{a:Int}(h0:0≤a)(h1:a<256){n:Nat}(hn:0<n):∃k:Nat,k<n∧Int.tmod (i64.wrap a) (n:Int)=(k:Int):=by
  rw [w64 (by omega) (by omega),Int.tmod_eq_emod_of_nonneg h0];have h2:=Int.emod_nonneg a (show (n:Int)≠0 by omega);have h3:=Int.emod_lt_of_pos a (show (0:Int)<n by omega);exact ⟨(a % n).toNat,by omega,by omega⟩
end Go.Proofs.YtpdflibmhchlbaaGreatDoor
