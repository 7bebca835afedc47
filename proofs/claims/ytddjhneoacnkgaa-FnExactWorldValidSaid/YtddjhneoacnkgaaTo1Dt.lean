/-
  Contract of toData (a deep copy). Conditions: no more than 1048576 parts.
-/
import Derived.Test.YtddjhneoacnkgaaDt
import Derived.Test.YtddjhneoacnkgaaToKt
import Derived.Test.YtddjhneoacnkgaaChecked
namespace Go.Proofs.Ytddjhneoacnkgaa
open Go.RowKit

def MadeDt (w : World) (v : Dt) (e : Ending) (w' : World) : Prop := ∃ (cs : List Value) (F : List Nat), e = .returned (.agg cs.toArray) ∧ Below w.heap.size w w' ∧ DtR w' v cs F ∧ Free w' F ∧ Fresh w w' F

set_option maxHeartbeats 400000 in
theorem toData_any (x : Dt) (w : World) (cs : List Value) (F : List Nat) (hv : DtR w x cs F) (hF : Under w.heap.size F) (hz : x.size ≤ 1048576) : Calls Try.prog 43 #[.agg cs.toArray] w (MadeDt w x) := by
  obtain ⟨kv, rfl, ha, hs0⟩ := hv
  have HA := Lib.hid ha
  obtain ⟨A, cap, rfl, -, -⟩ := ha.form
  clear ha
  have HF := Lib.hid hF
  clear hF
  have HZ := Lib.hid hz
  clear hz
  go_enter Try.func43, Try.ntmps43
  go_wp2_with fail
  obtain ⟨W3, hW3⟩ : ∃ W3, W3 = (((w.alloc (.cells #[.string x.name, .slice A x.ctors.length cap] 62)).alloc (.cells #[.string ⟨#[]⟩, .slice none 0 0] 65)).alloc (.cells #[.string x.name, .slice none 0 0] 65)) := ⟨_, rfl⟩
  have hB3 : Below w.heap.size w W3 := by rw [hW3]; exact (((Below.refl _ _).alloc (Nat.le_refl _) _).alloc (by simp) _).alloc (by simp; omega) _
  have hsz : w.heap.size + 3 ≤ W3.heap.size := by rw [hW3]; simp
  have b0 : Blk W3 w.heap.size 62 #[.string x.name, .slice A x.ctors.length cap] := by
    rw [hW3]
    exact ((Blk.new w 62 #[.string x.name, .slice A x.ctors.length cap]).same (Below.heap_alloc _ _ _ (by simp))).same (Below.heap_alloc _ _ _ (by simp; omega))
  have b1 : Blk W3 (w.heap.size + 1) 65 #[.string ⟨#[]⟩, .slice none 0 0] := by
    rw [hW3]
    have := Blk.new (w.alloc (.cells #[.string x.name, .slice A x.ctors.length cap] 62)) 65 #[.string ⟨#[]⟩, .slice none 0 0]
    rw [World.size_alloc] at this
    exact this.same (Below.heap_alloc _ _ _ (by simp))
  have b2 : Blk W3 (w.heap.size + 2) 65 #[.string x.name, .slice none 0 0] := by
    rw [hW3]
    have := Blk.new ((w.alloc (.cells #[.string x.name, .slice A x.ctors.length cap] 62)).alloc (.cells #[.string ⟨#[]⟩, .slice none 0 0] 65)) 65 #[.string x.name, .slice none 0 0]
    simpa using this
  rw [← hW3]
  clear hW3
  have hF1 := HF.out.mono hB3.size
  refine (toCtorS_any x.ctors W3 F _ (ArrKt.below HA.out hB3 HF.out) hF1 (by have := HZ.out; unfold Dt.size at this; omega)).mono ?_
  rintro e V1 ⟨y1, G1, rfl, hb1, hv1, hfr1, hfs1⟩
  obtain ⟨A1, cap1, rfl, -, -⟩ := hv1.form
  have hbz1 := hb1.size
  have m0 := b0.same (hb1.block _ b0.lt)
  have m1 := b1.same (hb1.block _ b1.lt)
  have m2 := b2.same (hb1.block _ b2.lt)
  clear b0 b1 b2
  have b0 := m0
  have b1 := m1
  have b2 := m2
  clear m0 m1 m2
  have hB4 := hB3.trans (hb1.mono hB3.size)
  have a0 : V1.cell? ⟨w.heap.size, 0, none⟩ = some (.string x.name) := (b0.cell 0).trans (by simp)
  have d0 : V1.cell? ⟨w.heap.size + 1, 0, none⟩ = some (.string ⟨#[]⟩) := (b1.cell 0).trans (by simp)
  have f0 := b1.frozen 0
  have e0 : V1.cell? ⟨w.heap.size + 2, 0, none⟩ = some (.string x.name) := (b2.cell 0).trans (by simp)
  have g0 := b2.frozen 0
  have a1 : V1.cell? ⟨w.heap.size, 1, none⟩ = some (.slice A x.ctors.length cap) := (b0.cell 1).trans (by simp)
  have d1 : V1.cell? ⟨w.heap.size + 1, 1, none⟩ = some (.slice none 0 0) := (b1.cell 1).trans (by simp)
  have f1 := b1.frozen 1
  have e1 : V1.cell? ⟨w.heap.size + 2, 1, none⟩ = some (.slice none 0 0) := (b2.cell 1).trans (by simp)
  have g1 := b2.frozen 1
  have HV1 := Lib.hid hv1
  have HFr1 := Lib.hid hfr1
  have HFs1 := Lib.hid hfs1
  clear hv1 hfr1 hfs1
  clear b0 b1 b2
  go_wp2
  refine bodyPost_ret (v := .agg #[.string x.name, .slice A1 x.ctors.length cap1]) (by simp [results, Try.results43, go_sem, d0, d1]) rfl ?_
  have hkeep : Kept G1 V1 (((V1.setCell ⟨w.heap.size + 1 + 1, 1, none⟩ (.slice A1 x.ctors.length cap1)).setCell ⟨w.heap.size + 1, 0, none⟩ (.string x.name)).setCell ⟨w.heap.size + 1, 1, none⟩ (.slice A1 x.ctors.length cap1)) := fun b hb => by
    have h1 := (HFs1.out b hb).1
    rw [Below.heap_setCell _ _ _ _ (by simp; omega), Below.heap_setCell _ _ _ _ (by simp; omega), Below.heap_setCell _ _ _ _ (by simp; omega)]
  exact ⟨[.string x.name, .slice A1 x.ctors.length cap1], G1, rfl, (((hB4.setCell (by simp; omega) _).setCell (by simp) _).setCell (by simp) _), ⟨_, rfl, ArrKt.mono HV1.out hkeep, hs0⟩, HFr1.out.kept hkeep, fun b hb => ⟨by have := (HFs1.out b hb).1; omega, by simpa [World.setCell] using (HFs1.out b hb).2⟩⟩
end Go.Proofs.Ytddjhneoacnkgaa
