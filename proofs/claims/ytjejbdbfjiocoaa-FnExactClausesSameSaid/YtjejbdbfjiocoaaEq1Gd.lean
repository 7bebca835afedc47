/-
  Contract of eqGuard at equal arguments. Conditions: both stand for the same.
-/
import Derived.Test.YtjejbdbfjiocoaaGd
import Derived.Test.YtjejbdbfjiocoaaChecked
namespace Go.Proofs.Ytjejbdbfjiocoaa
open Go.RowKit

set_option maxHeartbeats 400000 in
theorem eqGuard_any (x : Gd) (w : World) (cs ds : List Value) (F F2 : List Nat) (hv : GdR w x cs F) (hv2 : GdR w x ds F2) (hF : Under w.heap.size F) (hF2 : Under w.heap.size F2) :
    Calls Try.prog 97 #[.agg cs.toArray, .agg ds.toArray] w fun e w' => e = .returned (.bool true) ∧ Below w.heap.size w w' := by
  have ne_op : (x.op != x.op) = false := by simp
  have ne_va : (x.va != x.va) = false := by simp
  have ne_n : (x.n != x.n) = false := by simp
  obtain rfl := GdR_form hv
  obtain rfl := GdR_form hv2
  clear hv hv2 hF hF2
  go_enter Try.func97, Try.ntmps97
  go_wp2
  go_ret
  exact ⟨rfl, ((Below.refl _ _).alloc (Nat.le_refl _) _).alloc (by simp) _⟩
end Go.Proofs.Ytjejbdbfjiocoaa
