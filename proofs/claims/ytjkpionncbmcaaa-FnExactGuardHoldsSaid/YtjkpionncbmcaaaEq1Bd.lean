/-
  Contract of eqBind at equal arguments. Conditions: both stand for the same.
-/
import Derived.Test.YtjkpionncbmcaaaBd
import Derived.Test.YtjkpionncbmcaaaEqV
import Derived.Test.YtjkpionncbmcaaaChecked
namespace Go.Proofs.Ytjkpionncbmcaaa
open Go.RowKit

set_option maxHeartbeats 400000 in
theorem eqBind_any (x : Bd) (w : World) (cs ds : List Value) (F F2 : List Nat) (hv : BdR w x cs F) (hv2 : BdR w x ds F2) (hF : Under w.heap.size F) (hF2 : Under w.heap.size F2) :
    Calls Try.prog 50 #[.agg cs.toArray, .agg ds.toArray] w fun e w' => e = .returned (.bool true) ∧ Below w.heap.size w w' := by
  obtain ⟨kv, rfl, ha⟩ := hv
  have HA := Lib.hid ha
  obtain ⟨kw, rfl, ha2⟩ := (VR_iff _ _ _).1 ha
  obtain ⟨A, cap, rfl, -, -⟩ := ha2.form
  clear ha ha2
  obtain ⟨kv', rfl, hb⟩ := hv2
  have HA2 := Lib.hid hb
  obtain ⟨kw', rfl, hb2⟩ := (VR_iff _ _ _).1 hb
  obtain ⟨A', cap', rfl, -, -⟩ := hb2.form
  clear hb hb2
  have ne_var : (x.var != x.var) = false := by simp
  have HF := Lib.hid hF
  have HF2 := Lib.hid hF2
  clear hF hF2
  go_enter Try.func50, Try.ntmps50
  go_wp2_with fail
  obtain ⟨W2, hW2⟩ : ∃ W2, W2 = (w.alloc (.cells #[.int .i64 x.var, .int .i64 x.val.c, .int .i64 x.val.n, .slice A x.val.ks.length cap] 75)).alloc (.cells #[.int .i64 x.var, .int .i64 x.val.c, .int .i64 x.val.n, .slice A' x.val.ks.length cap'] 75) := ⟨_, rfl⟩
  have hB2 : Below w.heap.size w W2 := by rw [hW2]; exact ((Below.refl _ _).alloc (Nat.le_refl _) _).alloc (by simp) _
  have hz2 : w.heap.size + 2 ≤ W2.heap.size := by rw [hW2]; simp
  have b0 : Blk W2 w.heap.size 75 #[.int .i64 x.var, .int .i64 x.val.c, .int .i64 x.val.n, .slice A x.val.ks.length cap] := by rw [hW2]; exact (Blk.new w _ _).same (Below.heap_alloc _ _ _ (by simp))
  have b1 : Blk W2 (w.heap.size + 1) 75 #[.int .i64 x.var, .int .i64 x.val.c, .int .i64 x.val.n, .slice A' x.val.ks.length cap'] := by rw [hW2]; have := Blk.new (w.alloc (.cells #[.int .i64 x.var, .int .i64 x.val.c, .int .i64 x.val.n, .slice A x.val.ks.length cap] 75)) 75 #[.int .i64 x.var, .int .i64 x.val.c, .int .i64 x.val.n, .slice A' x.val.ks.length cap']; simpa using this
  rw [← hW2]
  clear hW2
  refine (eqValue_any x.val W2 _ _ F F2 (HA.out.below hB2 HF.out) (HA2.out.below hB2 HF2.out) (HF.out.mono hB2.size) (HF2.out.mono hB2.size)).mono ?_
  rintro e V0 ⟨rfl, hb0⟩
  have hB3 := hB2.trans (hb0.mono hB2.size)
  have m0 := b0.same (hb0.block _ b0.lt)
  have m1 := b1.same (hb0.block _ b1.lt)
  clear b0 b1
  have b0 := m0
  have b1 := m1
  clear m0 m1 hb0
  have a0 : V0.cell? ⟨w.heap.size, 0, none⟩ = some (.int .i64 x.var) := (b0.cell 0).trans (by simp)
  have c0 : V0.cell? ⟨w.heap.size + 1, 0, none⟩ = some (.int .i64 x.var) := (b1.cell 0).trans (by simp)
  have a1 : V0.cell? ⟨w.heap.size, 1, none⟩ = some (.int .i64 x.val.c) := (b0.cell 1).trans (by simp)
  have c1 : V0.cell? ⟨w.heap.size + 1, 1, none⟩ = some (.int .i64 x.val.c) := (b1.cell 1).trans (by simp)
  have a2 : V0.cell? ⟨w.heap.size, 2, none⟩ = some (.int .i64 x.val.n) := (b0.cell 2).trans (by simp)
  have c2 : V0.cell? ⟨w.heap.size + 1, 2, none⟩ = some (.int .i64 x.val.n) := (b1.cell 2).trans (by simp)
  have a3 : V0.cell? ⟨w.heap.size, 3, none⟩ = some (.slice A x.val.ks.length cap) := (b0.cell 3).trans (by simp)
  have c3 : V0.cell? ⟨w.heap.size + 1, 3, none⟩ = some (.slice A' x.val.ks.length cap') := (b1.cell 3).trans (by simp)
  clear b0 b1
  go_wp2
  go_ret
  exact ⟨rfl, hB3⟩
end Go.Proofs.Ytjkpionncbmcaaa
