/-
  Contract of toBind (a deep copy). Conditions: no more than 1048576 parts.
-/
import Derived.Test.YtjkpionncbmcaaaBd
import Derived.Test.YtjkpionncbmcaaaToV
import Derived.Test.YtjkpionncbmcaaaChecked
namespace Go.Proofs.Ytjkpionncbmcaaa
open Go.RowKit

def MadeBd (w : World) (v : Bd) (e : Ending) (w' : World) : Prop := ∃ (cs : List Value) (F : List Nat), e = .returned (.agg cs.toArray) ∧ Below w.heap.size w w' ∧ BdR w' v cs F ∧ Free w' F ∧ Fresh w w' F

set_option maxHeartbeats 400000 in
theorem toBind_any (x : Bd) (w : World) (cs : List Value) (F : List Nat) (hv : BdR w x cs F) (hF : Under w.heap.size F) (hz : x.size ≤ 1048576) : Calls Try.prog 47 #[.agg cs.toArray] w (MadeBd w x) := by
  obtain ⟨kv, rfl, ha⟩ := hv
  have HA := Lib.hid ha
  obtain ⟨kw, rfl, ha2⟩ := (VR_iff _ _ _).1 ha
  obtain ⟨A, cap, rfl, -, -⟩ := ha2.form
  clear ha ha2
  have HF := Lib.hid hF
  clear hF
  have HZ := Lib.hid hz
  clear hz
  go_enter Try.func47, Try.ntmps47
  go_wp2_with fail
  obtain ⟨W3, hW3⟩ : ∃ W3, W3 = (((w.alloc (.cells #[.int .i64 x.var, .int .i64 x.val.c, .int .i64 x.val.n, .slice A x.val.ks.length cap] 73)).alloc (.cells #[.int .i64 0, .int .i64 0, .int .i64 0, .slice none 0 0] 75)).alloc (.cells #[.int .i64 x.var, .int .i64 0, .int .i64 0, .slice none 0 0] 75)) := ⟨_, rfl⟩
  have hB3 : Below w.heap.size w W3 := by rw [hW3]; exact (((Below.refl _ _).alloc (Nat.le_refl _) _).alloc (by simp) _).alloc (by simp; omega) _
  have hsz : w.heap.size + 3 ≤ W3.heap.size := by rw [hW3]; simp
  have b0 : Blk W3 w.heap.size 73 #[.int .i64 x.var, .int .i64 x.val.c, .int .i64 x.val.n, .slice A x.val.ks.length cap] := by
    rw [hW3]
    exact ((Blk.new w 73 #[.int .i64 x.var, .int .i64 x.val.c, .int .i64 x.val.n, .slice A x.val.ks.length cap]).same (Below.heap_alloc _ _ _ (by simp))).same (Below.heap_alloc _ _ _ (by simp; omega))
  have b1 : Blk W3 (w.heap.size + 1) 75 #[.int .i64 0, .int .i64 0, .int .i64 0, .slice none 0 0] := by
    rw [hW3]
    have := Blk.new (w.alloc (.cells #[.int .i64 x.var, .int .i64 x.val.c, .int .i64 x.val.n, .slice A x.val.ks.length cap] 73)) 75 #[.int .i64 0, .int .i64 0, .int .i64 0, .slice none 0 0]
    rw [World.size_alloc] at this
    exact this.same (Below.heap_alloc _ _ _ (by simp))
  have b2 : Blk W3 (w.heap.size + 2) 75 #[.int .i64 x.var, .int .i64 0, .int .i64 0, .slice none 0 0] := by
    rw [hW3]
    have := Blk.new ((w.alloc (.cells #[.int .i64 x.var, .int .i64 x.val.c, .int .i64 x.val.n, .slice A x.val.ks.length cap] 73)).alloc (.cells #[.int .i64 0, .int .i64 0, .int .i64 0, .slice none 0 0] 75)) 75 #[.int .i64 x.var, .int .i64 0, .int .i64 0, .slice none 0 0]
    simpa using this
  rw [← hW3]
  clear hW3
  have hF1 := HF.out.mono hB3.size
  refine (toValue_any x.val W3 _ F (HA.out.below hB3 HF.out) hF1 (by have := HZ.out; unfold Bd.size at this; omega)).mono ?_
  rintro e V1 ⟨cs1, G1, rfl, hb1, hv1, hfr1, hfs1⟩
  obtain ⟨kw1, rfl, hw1⟩ := (VR_iff _ _ _).1 hv1
  obtain ⟨A1, cap1, rfl, -, -⟩ := hw1.form
  clear hw1
  have hbz1 := hb1.size
  have m0 := b0.same (hb1.block _ b0.lt)
  have m1 := b1.same (hb1.block _ b1.lt)
  have m2 := b2.same (hb1.block _ b2.lt)
  clear b0 b1 b2
  have b0 := m0
  have b1 := m1
  have b2 := m2
  clear m0 m1 m2
  have hB4 := hB3.trans (hb1.mono hB3.size)
  have a0 : V1.cell? ⟨w.heap.size, 0, none⟩ = some (.int .i64 x.var) := (b0.cell 0).trans (by simp)
  have d0 : V1.cell? ⟨w.heap.size + 1, 0, none⟩ = some (.int .i64 0) := (b1.cell 0).trans (by simp)
  have f0 := b1.frozen 0
  have e0 : V1.cell? ⟨w.heap.size + 2, 0, none⟩ = some (.int .i64 x.var) := (b2.cell 0).trans (by simp)
  have g0 := b2.frozen 0
  have a1 : V1.cell? ⟨w.heap.size, 1, none⟩ = some (.int .i64 x.val.c) := (b0.cell 1).trans (by simp)
  have d1 : V1.cell? ⟨w.heap.size + 1, 1, none⟩ = some (.int .i64 0) := (b1.cell 1).trans (by simp)
  have f1 := b1.frozen 1
  have e1 : V1.cell? ⟨w.heap.size + 2, 1, none⟩ = some (.int .i64 0) := (b2.cell 1).trans (by simp)
  have g1 := b2.frozen 1
  have a2 : V1.cell? ⟨w.heap.size, 2, none⟩ = some (.int .i64 x.val.n) := (b0.cell 2).trans (by simp)
  have d2 : V1.cell? ⟨w.heap.size + 1, 2, none⟩ = some (.int .i64 0) := (b1.cell 2).trans (by simp)
  have f2 := b1.frozen 2
  have e2 : V1.cell? ⟨w.heap.size + 2, 2, none⟩ = some (.int .i64 0) := (b2.cell 2).trans (by simp)
  have g2 := b2.frozen 2
  have a3 : V1.cell? ⟨w.heap.size, 3, none⟩ = some (.slice A x.val.ks.length cap) := (b0.cell 3).trans (by simp)
  have d3 : V1.cell? ⟨w.heap.size + 1, 3, none⟩ = some (.slice none 0 0) := (b1.cell 3).trans (by simp)
  have f3 := b1.frozen 3
  have e3 : V1.cell? ⟨w.heap.size + 2, 3, none⟩ = some (.slice none 0 0) := (b2.cell 3).trans (by simp)
  have g3 := b2.frozen 3
  have HV1 := Lib.hid hv1
  have HFr1 := Lib.hid hfr1
  have HFs1 := Lib.hid hfs1
  clear hv1 hfr1 hfs1
  clear b0 b1 b2
  go_wp2
  refine bodyPost_ret (v := .agg #[.int .i64 x.var, .int .i64 x.val.c, .int .i64 x.val.n, .slice A1 x.val.ks.length cap1]) (by simp [results, Try.results47, go_sem, d0, d1, d2, d3]) rfl ?_
  have hkeep : Kept G1 V1 (((((((V1.setCell ⟨w.heap.size + 1 + 1, 1, none⟩ (.int .i64 x.val.c)).setCell ⟨w.heap.size + 1 + 1, 2, none⟩ (.int .i64 x.val.n)).setCell ⟨w.heap.size + 1 + 1, 3, none⟩ (.slice A1 x.val.ks.length cap1)).setCell ⟨w.heap.size + 1, 0, none⟩ (.int .i64 x.var)).setCell ⟨w.heap.size + 1, 1, none⟩ (.int .i64 x.val.c)).setCell ⟨w.heap.size + 1, 2, none⟩ (.int .i64 x.val.n)).setCell ⟨w.heap.size + 1, 3, none⟩ (.slice A1 x.val.ks.length cap1)) := fun b hb => by
    have h1 := (HFs1.out b hb).1
    rw [Below.heap_setCell _ _ _ _ (by simp; omega), Below.heap_setCell _ _ _ _ (by simp; omega), Below.heap_setCell _ _ _ _ (by simp; omega), Below.heap_setCell _ _ _ _ (by simp; omega), Below.heap_setCell _ _ _ _ (by simp; omega), Below.heap_setCell _ _ _ _ (by simp; omega), Below.heap_setCell _ _ _ _ (by simp; omega)]
  exact ⟨[.int .i64 x.var, .int .i64 x.val.c, .int .i64 x.val.n, .slice A1 x.val.ks.length cap1], G1, rfl, (((((((hB4.setCell (by simp; omega) _).setCell (by simp; omega) _).setCell (by simp; omega) _).setCell (by simp) _).setCell (by simp) _).setCell (by simp) _).setCell (by simp) _), ⟨_, rfl, VR.mono _ _ _ hkeep HV1.out⟩, HFr1.out.kept hkeep, fun b hb => ⟨by have := (HFs1.out b hb).1; omega, by simpa [World.setCell] using (HFs1.out b hb).2⟩⟩
end Go.Proofs.Ytjkpionncbmcaaa
