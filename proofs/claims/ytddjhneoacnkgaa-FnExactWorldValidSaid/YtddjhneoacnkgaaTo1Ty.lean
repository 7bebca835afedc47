/-
  Contract of toType (a deep copy). Conditions: no more than 1048576 parts.
-/
import Derived.Test.YtddjhneoacnkgaaTy
import Derived.Test.YtddjhneoacnkgaaChecked
namespace Go.Proofs.Ytddjhneoacnkgaa
open Go.RowKit

def MadeTy (w : World) (v : Ty) (e : Ending) (w' : World) : Prop := ∃ (cs : List Value) (F : List Nat), e = .returned (.agg cs.toArray) ∧ Below w.heap.size w w' ∧ TyR w' v cs F ∧ Free w' F ∧ Fresh w w' F

set_option maxHeartbeats 400000 in
theorem toType_any (x : Ty) (w : World) (cs : List Value) (F : List Nat) (hv : TyR w x cs F) (hF : Under w.heap.size F) (hz : x.size ≤ 1048576) : Calls Try.prog 19 #[.agg cs.toArray] w (MadeTy w x) := by
  obtain rfl := TyR_form hv
  clear hF hz hv
  go_enter Try.func19, Try.ntmps19
  go_wp2
  refine bodyPost_ret (v := .agg #[.int .i64 x.d, .int .i64 x.i]) (by simp [results, Try.results19, go_sem]) rfl ?_
  exact ⟨[.int .i64 x.d, .int .i64 x.i], [], rfl, by repeat (first | exact Below.refl _ _ | refine Below.alloc ?_ (by simp <;> omega) _ | refine Below.setCell ?_ (by simp <;> omega) _), ⟨rfl, rfl⟩, Free.nil _, Fresh.nil _ _⟩
end Go.Proofs.Ytddjhneoacnkgaa
