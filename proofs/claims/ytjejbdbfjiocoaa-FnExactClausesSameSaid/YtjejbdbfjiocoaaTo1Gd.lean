/-
  Contract of toGuard (a deep copy). Conditions: no more than 1048576 parts.
-/
import Derived.Test.YtjejbdbfjiocoaaGd
import Derived.Test.YtjejbdbfjiocoaaChecked
namespace Go.Proofs.Ytjejbdbfjiocoaa
open Go.RowKit

def MadeGd (w : World) (v : Gd) (e : Ending) (w' : World) : Prop := ∃ (cs : List Value) (F : List Nat), e = .returned (.agg cs.toArray) ∧ Below w.heap.size w w' ∧ GdR w' v cs F ∧ Free w' F ∧ Fresh w w' F

set_option maxHeartbeats 400000 in
theorem toGuard_any (x : Gd) (w : World) (cs : List Value) (F : List Nat) (hv : GdR w x cs F) (hF : Under w.heap.size F) (hz : x.size ≤ 1048576) : Calls Try.prog 95 #[.agg cs.toArray] w (MadeGd w x) := by
  obtain rfl := GdR_form hv
  clear hF hz hv
  go_enter Try.func95, Try.ntmps95
  go_wp2
  refine bodyPost_ret (v := .agg #[.int .i64 x.op, .int .i64 x.va, .int .i64 x.n]) (by simp [results, Try.results95, go_sem]) rfl ?_
  exact ⟨[.int .i64 x.op, .int .i64 x.va, .int .i64 x.n], [], rfl, by repeat (first | exact Below.refl _ _ | refine Below.alloc ?_ (by simp <;> omega) _ | refine Below.setCell ?_ (by simp <;> omega) _), ⟨rfl, rfl⟩, Free.nil _, Fresh.nil _ _⟩
end Go.Proofs.Ytjejbdbfjiocoaa
