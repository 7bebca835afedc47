/-
  Contract of eqClause at equal arguments. Conditions: both stand for the same.
-/
import Derived.Test.YtjejbdbfjiocoaaCl
import Derived.Test.YtjejbdbfjiocoaaEqP
import Derived.Test.YtjejbdbfjiocoaaEq1Gd
import Derived.Test.YtjejbdbfjiocoaaChecked
namespace Go.Proofs.Ytjejbdbfjiocoaa
open Go.RowKit

set_option maxHeartbeats 400000 in
theorem eqClause_any (x : Cl) (w : World) (cs ds : List Value) (F F2 : List Nat) (hv : ClR w x cs F) (hv2 : ClR w x ds F2) (hF : Under w.heap.size F) (hF2 : Under w.heap.size F2) :
    Calls Try.prog 47 #[.agg cs.toArray, .agg ds.toArray] w fun e w' => e = .returned (.bool true) ∧ Below w.heap.size w w' := by
  obtain ⟨kv, rfl, ha⟩ := hv
  have HA := Lib.hid ha
  obtain ⟨kw, rfl, ha2⟩ := (PR_iff _ _ _).1 ha
  obtain ⟨A, cap, rfl, -, -⟩ := ha2.form
  clear ha ha2
  obtain ⟨kv', rfl, hb⟩ := hv2
  have HA2 := Lib.hid hb
  obtain ⟨kw', rfl, hb2⟩ := (PR_iff _ _ _).1 hb
  obtain ⟨A', cap', rfl, -, -⟩ := hb2.form
  clear hb hb2
  have HF := Lib.hid hF
  have HF2 := Lib.hid hF2
  clear hF hF2
  go_enter Try.func47, Try.ntmps47
  go_wp2_with fail
  obtain ⟨W2, hW2⟩ : ∃ W2, W2 = (w.alloc (.cells #[.int .i64 x.pat.op, .int .i64 x.pat.ct, .int .i64 x.pat.n, .int .i64 x.pat.m, .int .i64 x.pat.va, .slice A x.pat.ks.length cap, .int .i64 x.gd.op, .int .i64 x.gd.va, .int .i64 x.gd.n] 79)).alloc (.cells #[.int .i64 x.pat.op, .int .i64 x.pat.ct, .int .i64 x.pat.n, .int .i64 x.pat.m, .int .i64 x.pat.va, .slice A' x.pat.ks.length cap', .int .i64 x.gd.op, .int .i64 x.gd.va, .int .i64 x.gd.n] 79) := ⟨_, rfl⟩
  have hB2 : Below w.heap.size w W2 := by rw [hW2]; exact ((Below.refl _ _).alloc (Nat.le_refl _) _).alloc (by simp) _
  have hz2 : w.heap.size + 2 ≤ W2.heap.size := by rw [hW2]; simp
  have b0 : Blk W2 w.heap.size 79 #[.int .i64 x.pat.op, .int .i64 x.pat.ct, .int .i64 x.pat.n, .int .i64 x.pat.m, .int .i64 x.pat.va, .slice A x.pat.ks.length cap, .int .i64 x.gd.op, .int .i64 x.gd.va, .int .i64 x.gd.n] := by rw [hW2]; exact (Blk.new w _ _).same (Below.heap_alloc _ _ _ (by simp))
  have b1 : Blk W2 (w.heap.size + 1) 79 #[.int .i64 x.pat.op, .int .i64 x.pat.ct, .int .i64 x.pat.n, .int .i64 x.pat.m, .int .i64 x.pat.va, .slice A' x.pat.ks.length cap', .int .i64 x.gd.op, .int .i64 x.gd.va, .int .i64 x.gd.n] := by rw [hW2]; have := Blk.new (w.alloc (.cells #[.int .i64 x.pat.op, .int .i64 x.pat.ct, .int .i64 x.pat.n, .int .i64 x.pat.m, .int .i64 x.pat.va, .slice A x.pat.ks.length cap, .int .i64 x.gd.op, .int .i64 x.gd.va, .int .i64 x.gd.n] 79)) 79 #[.int .i64 x.pat.op, .int .i64 x.pat.ct, .int .i64 x.pat.n, .int .i64 x.pat.m, .int .i64 x.pat.va, .slice A' x.pat.ks.length cap', .int .i64 x.gd.op, .int .i64 x.gd.va, .int .i64 x.gd.n]; simpa using this
  rw [← hW2]
  clear hW2
  refine (eqPattern_any x.pat W2 _ _ F F2 (HA.out.below hB2 HF.out) (HA2.out.below hB2 HF2.out) (HF.out.mono hB2.size) (HF2.out.mono hB2.size)).mono ?_
  rintro e V0 ⟨rfl, hb0⟩
  have hB3 := hB2.trans (hb0.mono hB2.size)
  have m0 := b0.same (hb0.block _ b0.lt)
  have m1 := b1.same (hb0.block _ b1.lt)
  clear b0 b1
  have b0 := m0
  have b1 := m1
  clear m0 m1 hb0
  have a0 : V0.cell? ⟨w.heap.size, 0, none⟩ = some (.int .i64 x.pat.op) := (b0.cell 0).trans (by simp)
  have c0 : V0.cell? ⟨w.heap.size + 1, 0, none⟩ = some (.int .i64 x.pat.op) := (b1.cell 0).trans (by simp)
  have a1 : V0.cell? ⟨w.heap.size, 1, none⟩ = some (.int .i64 x.pat.ct) := (b0.cell 1).trans (by simp)
  have c1 : V0.cell? ⟨w.heap.size + 1, 1, none⟩ = some (.int .i64 x.pat.ct) := (b1.cell 1).trans (by simp)
  have a2 : V0.cell? ⟨w.heap.size, 2, none⟩ = some (.int .i64 x.pat.n) := (b0.cell 2).trans (by simp)
  have c2 : V0.cell? ⟨w.heap.size + 1, 2, none⟩ = some (.int .i64 x.pat.n) := (b1.cell 2).trans (by simp)
  have a3 : V0.cell? ⟨w.heap.size, 3, none⟩ = some (.int .i64 x.pat.m) := (b0.cell 3).trans (by simp)
  have c3 : V0.cell? ⟨w.heap.size + 1, 3, none⟩ = some (.int .i64 x.pat.m) := (b1.cell 3).trans (by simp)
  have a4 : V0.cell? ⟨w.heap.size, 4, none⟩ = some (.int .i64 x.pat.va) := (b0.cell 4).trans (by simp)
  have c4 : V0.cell? ⟨w.heap.size + 1, 4, none⟩ = some (.int .i64 x.pat.va) := (b1.cell 4).trans (by simp)
  have a5 : V0.cell? ⟨w.heap.size, 5, none⟩ = some (.slice A x.pat.ks.length cap) := (b0.cell 5).trans (by simp)
  have c5 : V0.cell? ⟨w.heap.size + 1, 5, none⟩ = some (.slice A' x.pat.ks.length cap') := (b1.cell 5).trans (by simp)
  have a6 : V0.cell? ⟨w.heap.size, 6, none⟩ = some (.int .i64 x.gd.op) := (b0.cell 6).trans (by simp)
  have c6 : V0.cell? ⟨w.heap.size + 1, 6, none⟩ = some (.int .i64 x.gd.op) := (b1.cell 6).trans (by simp)
  have a7 : V0.cell? ⟨w.heap.size, 7, none⟩ = some (.int .i64 x.gd.va) := (b0.cell 7).trans (by simp)
  have c7 : V0.cell? ⟨w.heap.size + 1, 7, none⟩ = some (.int .i64 x.gd.va) := (b1.cell 7).trans (by simp)
  have a8 : V0.cell? ⟨w.heap.size, 8, none⟩ = some (.int .i64 x.gd.n) := (b0.cell 8).trans (by simp)
  have c8 : V0.cell? ⟨w.heap.size + 1, 8, none⟩ = some (.int .i64 x.gd.n) := (b1.cell 8).trans (by simp)
  have B0 := Lib.hid b0
  have B1 := Lib.hid b1
  clear b0 b1
  go_wp2_with fail
  have b0 := B0.out
  have b1 := B1.out
  clear B0 B1 a0 c0 a1 c1 a2 c2 a3 c3 a4 c4 a5 c5 a6 c6 a7 c7 a8 c8
  refine (eqGuard_any x.gd V0 _ _ [] [] ⟨rfl, rfl⟩ ⟨rfl, rfl⟩ (Under.nil _) (Under.nil _)).mono ?_
  rintro e V1 ⟨rfl, hb1⟩
  have hB4 := hB3.trans (hb1.mono hB3.size)
  have m0 := b0.same (hb1.block _ b0.lt)
  have m1 := b1.same (hb1.block _ b1.lt)
  clear b0 b1
  have b0 := m0
  have b1 := m1
  clear m0 m1 hb1
  have a0 : V1.cell? ⟨w.heap.size, 0, none⟩ = some (.int .i64 x.pat.op) := (b0.cell 0).trans (by simp)
  have c0 : V1.cell? ⟨w.heap.size + 1, 0, none⟩ = some (.int .i64 x.pat.op) := (b1.cell 0).trans (by simp)
  have a1 : V1.cell? ⟨w.heap.size, 1, none⟩ = some (.int .i64 x.pat.ct) := (b0.cell 1).trans (by simp)
  have c1 : V1.cell? ⟨w.heap.size + 1, 1, none⟩ = some (.int .i64 x.pat.ct) := (b1.cell 1).trans (by simp)
  have a2 : V1.cell? ⟨w.heap.size, 2, none⟩ = some (.int .i64 x.pat.n) := (b0.cell 2).trans (by simp)
  have c2 : V1.cell? ⟨w.heap.size + 1, 2, none⟩ = some (.int .i64 x.pat.n) := (b1.cell 2).trans (by simp)
  have a3 : V1.cell? ⟨w.heap.size, 3, none⟩ = some (.int .i64 x.pat.m) := (b0.cell 3).trans (by simp)
  have c3 : V1.cell? ⟨w.heap.size + 1, 3, none⟩ = some (.int .i64 x.pat.m) := (b1.cell 3).trans (by simp)
  have a4 : V1.cell? ⟨w.heap.size, 4, none⟩ = some (.int .i64 x.pat.va) := (b0.cell 4).trans (by simp)
  have c4 : V1.cell? ⟨w.heap.size + 1, 4, none⟩ = some (.int .i64 x.pat.va) := (b1.cell 4).trans (by simp)
  have a5 : V1.cell? ⟨w.heap.size, 5, none⟩ = some (.slice A x.pat.ks.length cap) := (b0.cell 5).trans (by simp)
  have c5 : V1.cell? ⟨w.heap.size + 1, 5, none⟩ = some (.slice A' x.pat.ks.length cap') := (b1.cell 5).trans (by simp)
  have a6 : V1.cell? ⟨w.heap.size, 6, none⟩ = some (.int .i64 x.gd.op) := (b0.cell 6).trans (by simp)
  have c6 : V1.cell? ⟨w.heap.size + 1, 6, none⟩ = some (.int .i64 x.gd.op) := (b1.cell 6).trans (by simp)
  have a7 : V1.cell? ⟨w.heap.size, 7, none⟩ = some (.int .i64 x.gd.va) := (b0.cell 7).trans (by simp)
  have c7 : V1.cell? ⟨w.heap.size + 1, 7, none⟩ = some (.int .i64 x.gd.va) := (b1.cell 7).trans (by simp)
  have a8 : V1.cell? ⟨w.heap.size, 8, none⟩ = some (.int .i64 x.gd.n) := (b0.cell 8).trans (by simp)
  have c8 : V1.cell? ⟨w.heap.size + 1, 8, none⟩ = some (.int .i64 x.gd.n) := (b1.cell 8).trans (by simp)
  clear b0 b1
  go_wp2
  go_ret
  exact ⟨rfl, hB4⟩
end Go.Proofs.Ytjejbdbfjiocoaa
