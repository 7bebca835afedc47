/-
  Contract of eqType at equal arguments. Conditions: both stand for the same.
-/
import Derived.Test.YtddjhneoacnkgaaTy
import Derived.Test.YtddjhneoacnkgaaChecked
namespace Go.Proofs.Ytddjhneoacnkgaa
open Go.RowKit

set_option maxHeartbeats 400000 in
theorem eqType_any (x : Ty) (w : World) (cs ds : List Value) (F F2 : List Nat) (hv : TyR w x cs F) (hv2 : TyR w x ds F2) (hF : Under w.heap.size F) (hF2 : Under w.heap.size F2) :
    Calls Try.prog 69 #[.agg cs.toArray, .agg ds.toArray] w fun e w' => e = .returned (.bool true) ∧ Below w.heap.size w w' := by
  have ne_d : (x.d != x.d) = false := by simp
  have ne_i : (x.i != x.i) = false := by simp
  obtain rfl := TyR_form hv
  obtain rfl := TyR_form hv2
  clear hv hv2 hF hF2
  go_enter Try.func69, Try.ntmps69
  go_wp2
  go_ret
  exact ⟨rfl, ((Below.refl _ _).alloc (Nat.le_refl _) _).alloc (by simp) _⟩
end Go.Proofs.Ytddjhneoacnkgaa
