/-
  Contract of eqData at equal arguments. Conditions: both stand for the same.
-/
import Derived.Test.YtddjhneoacnkgaaDt
import Derived.Test.YtddjhneoacnkgaaEqKt
import Derived.Test.YtddjhneoacnkgaaChecked
namespace Go.Proofs.Ytddjhneoacnkgaa
open Go.RowKit

set_option maxHeartbeats 400000 in
theorem eqData_any (x : Dt) (w : World) (cs ds : List Value) (F F2 : List Nat) (hv : DtR w x cs F) (hv2 : DtR w x ds F2) (hF : Under w.heap.size F) (hF2 : Under w.heap.size F2) :
    Calls Try.prog 49 #[.agg cs.toArray, .agg ds.toArray] w fun e w' => e = .returned (.bool true) ∧ Below w.heap.size w w' := by
  obtain ⟨kv, rfl, ha, hs0⟩ := hv
  have HA := Lib.hid ha
  obtain ⟨A, cap, rfl, -, -⟩ := ha.form
  clear ha
  obtain ⟨kv', rfl, hb, hs20⟩ := hv2
  have HA2 := Lib.hid hb
  obtain ⟨A', cap', rfl, -, -⟩ := hb.form
  clear hb
  have HF := Lib.hid hF
  have HF2 := Lib.hid hF2
  clear hF hF2
  go_enter Try.func49, Try.ntmps49
  go_wp2_with fail
  obtain ⟨W2, hW2⟩ : ∃ W2, W2 = (w.alloc (.cells #[.string x.name, .slice A x.ctors.length cap] 65)).alloc (.cells #[.string x.name, .slice A' x.ctors.length cap'] 65) := ⟨_, rfl⟩
  have hB2 : Below w.heap.size w W2 := by rw [hW2]; exact ((Below.refl _ _).alloc (Nat.le_refl _) _).alloc (by simp) _
  have hz2 : w.heap.size + 2 ≤ W2.heap.size := by rw [hW2]; simp
  have b0 : Blk W2 w.heap.size 65 #[.string x.name, .slice A x.ctors.length cap] := by rw [hW2]; exact (Blk.new w _ _).same (Below.heap_alloc _ _ _ (by simp))
  have b1 : Blk W2 (w.heap.size + 1) 65 #[.string x.name, .slice A' x.ctors.length cap'] := by rw [hW2]; have := Blk.new (w.alloc (.cells #[.string x.name, .slice A x.ctors.length cap] 65)) 65 #[.string x.name, .slice A' x.ctors.length cap']; simpa using this
  rw [← hW2]
  clear hW2
  refine (eqCtorS_any x.ctors W2 F F2 _ _ (ArrKt.below HA.out hB2 HF.out) (ArrKt.below HA2.out hB2 HF2.out) (HF.out.mono hB2.size) (HF2.out.mono hB2.size)).mono ?_
  rintro e V0 ⟨rfl, hb0⟩
  have hB3 := hB2.trans (hb0.mono hB2.size)
  have m0 := b0.same (hb0.block _ b0.lt)
  have m1 := b1.same (hb0.block _ b1.lt)
  clear b0 b1
  have b0 := m0
  have b1 := m1
  clear m0 m1 hb0
  have a0 : V0.cell? ⟨w.heap.size, 0, none⟩ = some (.string x.name) := (b0.cell 0).trans (by simp)
  have c0 : V0.cell? ⟨w.heap.size + 1, 0, none⟩ = some (.string x.name) := (b1.cell 0).trans (by simp)
  have a1 : V0.cell? ⟨w.heap.size, 1, none⟩ = some (.slice A x.ctors.length cap) := (b0.cell 1).trans (by simp)
  have c1 : V0.cell? ⟨w.heap.size + 1, 1, none⟩ = some (.slice A' x.ctors.length cap') := (b1.cell 1).trans (by simp)
  clear b0 b1
  go_wp2
  go_ret
  exact ⟨rfl, hB3⟩
end Go.Proofs.Ytddjhneoacnkgaa
