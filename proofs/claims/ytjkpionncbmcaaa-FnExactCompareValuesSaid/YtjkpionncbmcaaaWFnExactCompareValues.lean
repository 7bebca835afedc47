/-
  FnExactCompareValues: the walk: the law returns true and leaves what was there alone. Conditions: the arguments lie in memory as plain data.
-/
import Derived.Test.YtjkpionncbmcaaaSzV
import Derived.Test.YtjkpionncbmcaaaToV
import Derived.Test.YtjkpionncbmcaaaEqV
import Derived.Test.YtjkpionncbmcaaaCmpS
import Derived.Test.YtjkpionncbmcaaaCmpI
import Derived.Deep.RegionWith
import Derived.Deep.RegionHeld3
import Derived.BigQuiet
namespace Go.Proofs.Ytjkpionncbmcaaa.fnExactCompareValues
open Go.RowKit

set_option maxRecDepth 100000 in
set_option maxHeartbeats 1600000 in
theorem walk {W : World} (x0 : V) (cs0 : List Value) (F0 : List Nat) (hR0 : VR W x0 cs0 F0) (hU0 : Under W.heap.size F0) (x1 : V) (cs1 : List Value) (F1 : List Nat) (hR1 : VR W x1 cs1 F1) (hU1 : Under W.heap.size F1) (w : World) (hw : w = W) :
    Calls Try.prog 8 #[.agg cs0.toArray, .agg cs1.toArray] w fun e w' => e = .returned (.bool true) ∧ Below w.heap.size w w' := by
  subst hw
  obtain ⟨kv0, rfl, ha0⟩ := (VR_iff _ _ _).1 hR0
  obtain ⟨A0, cap0, rfl, -, -⟩ := ha0.form
  clear ha0
  obtain ⟨kv1, rfl, ha1⟩ := (VR_iff _ _ _).1 hR1
  obtain ⟨A1, cap1, rfl, -, -⟩ := ha1.form
  clear ha1
  have HR0 := Lib.hid hR0
  have HU0 := Lib.hid hU0
  clear hR0 hU0
  have HR1 := Lib.hid hR1
  have HU1 := Lib.hid hU1
  clear hR1 hU1
  go_enter Try.func8, Try.ntmps8
  go_wp2_with fail
  have hB0 : Below w.heap.size w w := Below.refl _ _
  obtain ⟨W1, hW⟩ : ∃ X, X = ((w.alloc (.cells #[.int .i64 x0.c, .int .i64 x0.n, .slice A0 x0.ks.length cap0] 26)).alloc (.cells #[.int .i64 x1.c, .int .i64 x1.n, .slice A1 x1.ks.length cap1] 26)) := ⟨_, rfl⟩
  have hb1 : Below w.heap.size w W1 := by rw [hW]; exact (((Below.refl w.heap.size w).alloc (by simp <;> omega) _).alloc (by simp <;> omega) _)
  have bx0 : Hid (Blk W1 (w.heap.size) 26 #[.int .i64 x0.c, .int .i64 x0.n, .slice A0 x0.ks.length cap0]) := by
    rw [hW]
    have h0 := Blk.new w 26 #[.int .i64 x0.c, .int .i64 x0.n, .slice A0 x0.ks.length cap0]
    exact (h0).same (Below.heap_alloc _ _ _ (by simp <;> omega))
  have bx1 : Hid (Blk W1 (w.heap.size + 1) 26 #[.int .i64 x1.c, .int .i64 x1.n, .slice A1 x1.ks.length cap1]) := by
    rw [hW]
    have h0 := Blk.new (w.alloc (.cells #[.int .i64 x0.c, .int .i64 x0.n, .slice A0 x0.ks.length cap0] 26)) 26 #[.int .i64 x1.c, .int .i64 x1.n, .slice A1 x1.ks.length cap1]
    rw [show ((w.alloc (.cells #[.int .i64 x0.c, .int .i64 x0.n, .slice A0 x0.ks.length cap0] 26))).heap.size = w.heap.size + 1 from by simp] at h0
    exact (h0)
  rw [← hW]
  clear hW
  have hB2 := hB0.trans (hb1.mono hB0.size)
  refine (szValue_any x0 W1 _ F0 (1048576) (HR0.out.below hB2 HU0.out) (HU0.out.mono hB2.size) (by omega) (by omega)).mono ?_
  rintro e W3 ⟨rfl, hb3⟩
  have hB4 := hB2.trans (hb3.mono hB2.size)
  have bx0n : Hid (Blk W3 (w.heap.size) 26 #[.int .i64 x0.c, .int .i64 x0.n, .slice A0 x0.ks.length cap0]) := bx0.out.same (hb3.block _ bx0.out.lt)
  clear bx0
  have bx0 := bx0n
  clear bx0n
  have bx1n : Hid (Blk W3 (w.heap.size + 1) 26 #[.int .i64 x1.c, .int .i64 x1.n, .slice A1 x1.ks.length cap1]) := bx1.out.same (hb3.block _ bx1.out.lt)
  clear bx1
  have bx1 := bx1n
  clear bx1n
  by_cases hz0 : (x0.size : Int) ≤ 1048576
  · rw [show szLeft x0.size (1048576) = 1048576 - (x0.size : Int) from if_pos hz0]
    have hnn0 : 0 ≤ 1048576 - (x0.size : Int) := by omega
    have bx0c0 : W3.cell? ⟨w.heap.size, 0, none⟩ = some (.int .i64 x0.c) := (bx0.out.cell 0).trans (by simp)
    have bx0c1 : W3.cell? ⟨w.heap.size, 1, none⟩ = some (.int .i64 x0.n) := (bx0.out.cell 1).trans (by simp)
    have bx0c2 : W3.cell? ⟨w.heap.size, 2, none⟩ = some (.slice A0 x0.ks.length cap0) := (bx0.out.cell 2).trans (by simp)
    have bx0lt : w.heap.size < W3.heap.size := bx0.out.lt
    have bx1c0 : W3.cell? ⟨w.heap.size + 1, 0, none⟩ = some (.int .i64 x1.c) := (bx1.out.cell 0).trans (by simp)
    have bx1c1 : W3.cell? ⟨w.heap.size + 1, 1, none⟩ = some (.int .i64 x1.n) := (bx1.out.cell 1).trans (by simp)
    have bx1c2 : W3.cell? ⟨w.heap.size + 1, 2, none⟩ = some (.slice A1 x1.ks.length cap1) := (bx1.out.cell 2).trans (by simp)
    have bx1lt : w.heap.size + 1 < W3.heap.size := bx1.out.lt
    go_wp2_with fail
    clear bx0c0 bx0c1 bx0c2 bx1c0 bx1c1 bx1c2 bx0lt bx1lt
    refine (szValue_any x1 W3 _ F1 (1048576 - (x0.size : Int)) (HR1.out.below hB4 HU1.out) (HU1.out.mono hB4.size) (by omega) (by omega)).mono ?_
    rintro e W5 ⟨rfl, hb5⟩
    have hB6 := hB4.trans (hb5.mono hB4.size)
    have bx0n : Hid (Blk W5 (w.heap.size) 26 #[.int .i64 x0.c, .int .i64 x0.n, .slice A0 x0.ks.length cap0]) := bx0.out.same (hb5.block _ bx0.out.lt)
    clear bx0
    have bx0 := bx0n
    clear bx0n
    have bx1n : Hid (Blk W5 (w.heap.size + 1) 26 #[.int .i64 x1.c, .int .i64 x1.n, .slice A1 x1.ks.length cap1]) := bx1.out.same (hb5.block _ bx1.out.lt)
    clear bx1
    have bx1 := bx1n
    clear bx1n
    by_cases hz1 : (x1.size : Int) ≤ 1048576 - (x0.size : Int)
    · rw [show szLeft x1.size (1048576 - (x0.size : Int)) = 1048576 - (x0.size : Int) - (x1.size : Int) from if_pos hz1]
      have hnn1 : 0 ≤ 1048576 - (x0.size : Int) - (x1.size : Int) := by omega
      have hs0 : x0.size ≤ 1048576 := by omega
      have hs1 : x1.size ≤ 1048576 := by omega
      have bx0c0 : W5.cell? ⟨w.heap.size, 0, none⟩ = some (.int .i64 x0.c) := (bx0.out.cell 0).trans (by simp)
      have bx0c1 : W5.cell? ⟨w.heap.size, 1, none⟩ = some (.int .i64 x0.n) := (bx0.out.cell 1).trans (by simp)
      have bx0c2 : W5.cell? ⟨w.heap.size, 2, none⟩ = some (.slice A0 x0.ks.length cap0) := (bx0.out.cell 2).trans (by simp)
      have bx0lt : w.heap.size < W5.heap.size := bx0.out.lt
      have bx1c0 : W5.cell? ⟨w.heap.size + 1, 0, none⟩ = some (.int .i64 x1.c) := (bx1.out.cell 0).trans (by simp)
      have bx1c1 : W5.cell? ⟨w.heap.size + 1, 1, none⟩ = some (.int .i64 x1.n) := (bx1.out.cell 1).trans (by simp)
      have bx1c2 : W5.cell? ⟨w.heap.size + 1, 2, none⟩ = some (.slice A1 x1.ks.length cap1) := (bx1.out.cell 2).trans (by simp)
      have bx1lt : w.heap.size + 1 < W5.heap.size := bx1.out.lt
      go_wp2_with fail
      have hkeep : ∀ U U' : World, (U.cell? ⟨w.heap.size, 0, none⟩ = some (.int .i64 x0.c) ∧ U.cell? ⟨w.heap.size, 1, none⟩ = some (.int .i64 x0.n) ∧ U.cell? ⟨w.heap.size, 2, none⟩ = some (.slice A0 x0.ks.length cap0) ∧ U.cell? ⟨w.heap.size + 1, 0, none⟩ = some (.int .i64 x1.c) ∧ U.cell? ⟨w.heap.size + 1, 1, none⟩ = some (.int .i64 x1.n) ∧ U.cell? ⟨w.heap.size + 1, 2, none⟩ = some (.slice A1 x1.ks.length cap1)) → Below U.heap.size U U' → W5.heap.size ≤ U.heap.size → (U'.cell? ⟨w.heap.size, 0, none⟩ = some (.int .i64 x0.c) ∧ U'.cell? ⟨w.heap.size, 1, none⟩ = some (.int .i64 x0.n) ∧ U'.cell? ⟨w.heap.size, 2, none⟩ = some (.slice A0 x0.ks.length cap0) ∧ U'.cell? ⟨w.heap.size + 1, 0, none⟩ = some (.int .i64 x1.c) ∧ U'.cell? ⟨w.heap.size + 1, 1, none⟩ = some (.int .i64 x1.n) ∧ U'.cell? ⟨w.heap.size + 1, 2, none⟩ = some (.slice A1 x1.ks.length cap1)) := fun U U' h hb hU => ⟨(hb.cell (Nat.lt_of_lt_of_le (bx0lt) hU)).trans h.1, (hb.cell (Nat.lt_of_lt_of_le (bx0lt) hU)).trans h.2.1, (hb.cell (Nat.lt_of_lt_of_le (bx0lt) hU)).trans h.2.2.1, (hb.cell (Nat.lt_of_lt_of_le (bx1lt) hU)).trans h.2.2.2.1, (hb.cell (Nat.lt_of_lt_of_le (bx1lt) hU)).trans h.2.2.2.2.1, (hb.cell (Nat.lt_of_lt_of_le (bx1lt) hU)).trans h.2.2.2.2.2⟩
      have HKeep := Lib.hid hkeep
      clear hkeep
      go_region_held3 (fun w' => w'.cell? ⟨w.heap.size, 0, none⟩ = some (.int .i64 x0.c) ∧ w'.cell? ⟨w.heap.size, 1, none⟩ = some (.int .i64 x0.n) ∧ w'.cell? ⟨w.heap.size, 2, none⟩ = some (.slice A0 x0.ks.length cap0) ∧ w'.cell? ⟨w.heap.size + 1, 0, none⟩ = some (.int .i64 x1.c) ∧ w'.cell? ⟨w.heap.size + 1, 1, none⟩ = some (.int .i64 x1.n) ∧ w'.cell? ⟨w.heap.size + 1, 2, none⟩ = some (.slice A1 x1.ks.length cap1)) (first | assumption | (exact ⟨bx0c0, bx0c1, bx0c2, bx1c0, bx1c1, bx1c2⟩) | (exact HKeep.out W5.drew W7 ⟨bx0c0, bx0c1, bx0c2, bx1c0, bx1c1, bx1c2⟩ hb7 (Nat.le_refl _)) | (exact HKeep.out W7 W8 (by assumption) hb8 hleW7) | (exact HKeep.out W8 W9 (by assumption) hb9 hleW8)) (first | (go_at_call 14; ((with_reducible refine (toValue_any x0 _ _ F0 (HR0.out.below hB6.drew HU0.out) (HU0.out.mono hB6.drew.size) hs0).mono ?_); rintro e W7 ⟨ds7, G7, rfl, hb7, hv7, hfr7, hfs7⟩); have hB7 := hB6.drew.trans (hb7.mono hB6.drew.size); have hleW7 : W5.heap.size ≤ W7.heap.size := hb7.size) | (go_at_call 14; ((with_reducible refine (toValue_any x1 _ _ F1 (HR1.out.below hB7 HU1.out) (HU1.out.mono hB7.size) hs1).mono ?_); rintro e W8 ⟨ds8, G8, rfl, hb8, hv8, hfr8, hfs8⟩); have hB8 := hB7.trans (hb8.mono hB7.size); have hleW8 : W5.heap.size ≤ W8.heap.size := Nat.le_trans hleW7 hb8.size) | (go_at_call 24; ((with_reducible refine (spec_CompareValues x0 x1 _ _ _ G7 G8 (hv7.below hb8 hfs7.under) hv8 (hfs7.under.mono hb8.size) hfs8.under).mono ?_); rintro e W9 ⟨rfl, hb9⟩)))
      have hbt10_0 := hb7
      have hbt10_1 := hbt10_0.trans (hb8.mono hbt10_0.size)
      have hbt10_2 := hbt10_1.trans (hb9.mono hbt10_1.size)
      clear bx0c0 bx0c1 bx0c2 bx1c0 bx1c1 bx1c2 bx0lt bx1lt
      have hB11 := hB6.drew.trans (hbt10_2.mono hB6.size)
      have bx0n : Hid (Blk W9 (w.heap.size) 26 #[.int .i64 x0.c, .int .i64 x0.n, .slice A0 x0.ks.length cap0]) := bx0.out.same (hbt10_2.block _ bx0.out.lt)
      clear bx0
      have bx0 := bx0n
      clear bx0n
      have bx1n : Hid (Blk W9 (w.heap.size + 1) 26 #[.int .i64 x1.c, .int .i64 x1.n, .slice A1 x1.ks.length cap1]) := bx1.out.same (hbt10_2.block _ bx1.out.lt)
      clear bx1
      have bx1 := bx1n
      clear bx1n
      generalize hres : V.cmp x0 x1 = r0
      have HRes := Lib.hid hres
      clear hres
      have bx0c0 : W9.cell? ⟨w.heap.size, 0, none⟩ = some (.int .i64 x0.c) := (bx0.out.cell 0).trans (by simp)
      have bx0c1 : W9.cell? ⟨w.heap.size, 1, none⟩ = some (.int .i64 x0.n) := (bx0.out.cell 1).trans (by simp)
      have bx0c2 : W9.cell? ⟨w.heap.size, 2, none⟩ = some (.slice A0 x0.ks.length cap0) := (bx0.out.cell 2).trans (by simp)
      have bx0lt : w.heap.size < W9.heap.size := bx0.out.lt
      have bx1c0 : W9.cell? ⟨w.heap.size + 1, 0, none⟩ = some (.int .i64 x1.c) := (bx1.out.cell 0).trans (by simp)
      have bx1c1 : W9.cell? ⟨w.heap.size + 1, 1, none⟩ = some (.int .i64 x1.n) := (bx1.out.cell 1).trans (by simp)
      have bx1c2 : W9.cell? ⟨w.heap.size + 1, 2, none⟩ = some (.slice A1 x1.ks.length cap1) := (bx1.out.cell 2).trans (by simp)
      have bx1lt : w.heap.size + 1 < W9.heap.size := bx1.out.lt
      go_wp2_with fail
      clear bx0c0 bx0c1 bx0c2 bx1c0 bx1c1 bx1c2 bx0lt bx1lt
      refine (toValue_any x0 W9 _ F0 (HR0.out.below hB11 HU0.out) (HU0.out.mono hB11.size) hs0).mono ?_
      rintro e W12 ⟨ds12, G12, rfl, hb12, hv12, hfr12, hfs12⟩
      have hB13 := hB11.trans (hb12.mono hB11.size)
      have bx0n : Hid (Blk W12 (w.heap.size) 26 #[.int .i64 x0.c, .int .i64 x0.n, .slice A0 x0.ks.length cap0]) := bx0.out.same (hb12.block _ bx0.out.lt)
      clear bx0
      have bx0 := bx0n
      clear bx0n
      have bx1n : Hid (Blk W12 (w.heap.size + 1) 26 #[.int .i64 x1.c, .int .i64 x1.n, .slice A1 x1.ks.length cap1]) := bx1.out.same (hb12.block _ bx1.out.lt)
      clear bx1
      have bx1 := bx1n
      clear bx1n
      obtain ⟨kw12, rfl, hw12⟩ := (VR_iff _ _ _).1 hv12
      obtain ⟨B0, bap0, rfl, -, -⟩ := hw12.form
      clear hw12
      have X0 := Lib.hid hv12
      have Y0 := Lib.hid hfs12.under
      clear hv12 hfr12 hfs12
      have bx0c0 : W12.cell? ⟨w.heap.size, 0, none⟩ = some (.int .i64 x0.c) := (bx0.out.cell 0).trans (by simp)
      have bx0c1 : W12.cell? ⟨w.heap.size, 1, none⟩ = some (.int .i64 x0.n) := (bx0.out.cell 1).trans (by simp)
      have bx0c2 : W12.cell? ⟨w.heap.size, 2, none⟩ = some (.slice A0 x0.ks.length cap0) := (bx0.out.cell 2).trans (by simp)
      have bx0lt : w.heap.size < W12.heap.size := bx0.out.lt
      have bx1c0 : W12.cell? ⟨w.heap.size + 1, 0, none⟩ = some (.int .i64 x1.c) := (bx1.out.cell 0).trans (by simp)
      have bx1c1 : W12.cell? ⟨w.heap.size + 1, 1, none⟩ = some (.int .i64 x1.n) := (bx1.out.cell 1).trans (by simp)
      have bx1c2 : W12.cell? ⟨w.heap.size + 1, 2, none⟩ = some (.slice A1 x1.ks.length cap1) := (bx1.out.cell 2).trans (by simp)
      have bx1lt : w.heap.size + 1 < W12.heap.size := bx1.out.lt
      go_wp2_with fail
      clear bx0c0 bx0c1 bx0c2 bx1c0 bx1c1 bx1c2 bx0lt bx1lt
      obtain ⟨W14, hW⟩ : ∃ X, X = W12.alloc (.cells #[.int .i64 x0.c, .int .i64 x0.n, .slice B0 x0.ks.length bap0] 31) := ⟨_, rfl⟩
      have hb14 : Below W12.heap.size W12 W14 := by rw [hW]; exact (Below.refl _ _).alloc (Nat.le_refl _) _
      have xb0 : Hid (Blk W14 W12.heap.size 31 #[.int .i64 x0.c, .int .i64 x0.n, .slice B0 x0.ks.length bap0]) := by rw [hW]; exact Blk.new _ _ _
      rw [← hW]
      clear hW
      have hB15 := hB13.trans (hb14.mono hB13.size)
      have bx0n : Hid (Blk W14 (w.heap.size) 26 #[.int .i64 x0.c, .int .i64 x0.n, .slice A0 x0.ks.length cap0]) := bx0.out.same (hb14.block _ bx0.out.lt)
      clear bx0
      have bx0 := bx0n
      clear bx0n
      have bx1n : Hid (Blk W14 (w.heap.size + 1) 26 #[.int .i64 x1.c, .int .i64 x1.n, .slice A1 x1.ks.length cap1]) := bx1.out.same (hb14.block _ bx1.out.lt)
      clear bx1
      have bx1 := bx1n
      clear bx1n
      have X0n := Lib.hid (X0.out.below hb14 Y0.out)
      have Y0n := Lib.hid (Y0.out.mono hb14.size)
      clear X0 Y0
      have X0 := X0n
      have Y0 := Y0n
      clear X0n Y0n
      have bx0c0 : W14.cell? ⟨w.heap.size, 0, none⟩ = some (.int .i64 x0.c) := (bx0.out.cell 0).trans (by simp)
      have bx0c1 : W14.cell? ⟨w.heap.size, 1, none⟩ = some (.int .i64 x0.n) := (bx0.out.cell 1).trans (by simp)
      have bx0c2 : W14.cell? ⟨w.heap.size, 2, none⟩ = some (.slice A0 x0.ks.length cap0) := (bx0.out.cell 2).trans (by simp)
      have bx0lt : w.heap.size < W14.heap.size := bx0.out.lt
      have bx1c0 : W14.cell? ⟨w.heap.size + 1, 0, none⟩ = some (.int .i64 x1.c) := (bx1.out.cell 0).trans (by simp)
      have bx1c1 : W14.cell? ⟨w.heap.size + 1, 1, none⟩ = some (.int .i64 x1.n) := (bx1.out.cell 1).trans (by simp)
      have bx1c2 : W14.cell? ⟨w.heap.size + 1, 2, none⟩ = some (.slice A1 x1.ks.length cap1) := (bx1.out.cell 2).trans (by simp)
      have bx1lt : w.heap.size + 1 < W14.heap.size := bx1.out.lt
      have xb0c0 : W14.cell? ⟨W12.heap.size, 0, none⟩ = some (.int .i64 x0.c) := (xb0.out.cell 0).trans (by simp)
      have xb0c1 : W14.cell? ⟨W12.heap.size, 1, none⟩ = some (.int .i64 x0.n) := (xb0.out.cell 1).trans (by simp)
      have xb0c2 : W14.cell? ⟨W12.heap.size, 2, none⟩ = some (.slice B0 x0.ks.length bap0) := (xb0.out.cell 2).trans (by simp)
      have xb0lt : W12.heap.size < W14.heap.size := xb0.out.lt
      go_wp2_with fail
      clear bx0c0 bx0c1 bx0c2 bx1c0 bx1c1 bx1c2 xb0c0 xb0c1 xb0c2 bx0lt bx1lt xb0lt
      refine (toValue_any x1 W14 _ F1 (HR1.out.below hB15 HU1.out) (HU1.out.mono hB15.size) hs1).mono ?_
      rintro e W16 ⟨ds16, G16, rfl, hb16, hv16, hfr16, hfs16⟩
      have hB17 := hB15.trans (hb16.mono hB15.size)
      have bx0n : Hid (Blk W16 (w.heap.size) 26 #[.int .i64 x0.c, .int .i64 x0.n, .slice A0 x0.ks.length cap0]) := bx0.out.same (hb16.block _ bx0.out.lt)
      clear bx0
      have bx0 := bx0n
      clear bx0n
      have bx1n : Hid (Blk W16 (w.heap.size + 1) 26 #[.int .i64 x1.c, .int .i64 x1.n, .slice A1 x1.ks.length cap1]) := bx1.out.same (hb16.block _ bx1.out.lt)
      clear bx1
      have bx1 := bx1n
      clear bx1n
      have xb0n : Hid (Blk W16 (W12.heap.size) 31 #[.int .i64 x0.c, .int .i64 x0.n, .slice B0 x0.ks.length bap0]) := xb0.out.same (hb16.block _ xb0.out.lt)
      clear xb0
      have xb0 := xb0n
      clear xb0n
      have X0n := Lib.hid (X0.out.below hb16 Y0.out)
      have Y0n := Lib.hid (Y0.out.mono hb16.size)
      clear X0 Y0
      have X0 := X0n
      have Y0 := Y0n
      clear X0n Y0n
      obtain ⟨kw16, rfl, hw16⟩ := (VR_iff _ _ _).1 hv16
      obtain ⟨B1, bap1, rfl, -, -⟩ := hw16.form
      clear hw16
      have X1 := Lib.hid hv16
      have Y1 := Lib.hid hfs16.under
      clear hv16 hfr16 hfs16
      have bx0c0 : W16.cell? ⟨w.heap.size, 0, none⟩ = some (.int .i64 x0.c) := (bx0.out.cell 0).trans (by simp)
      have bx0c1 : W16.cell? ⟨w.heap.size, 1, none⟩ = some (.int .i64 x0.n) := (bx0.out.cell 1).trans (by simp)
      have bx0c2 : W16.cell? ⟨w.heap.size, 2, none⟩ = some (.slice A0 x0.ks.length cap0) := (bx0.out.cell 2).trans (by simp)
      have bx0lt : w.heap.size < W16.heap.size := bx0.out.lt
      have bx1c0 : W16.cell? ⟨w.heap.size + 1, 0, none⟩ = some (.int .i64 x1.c) := (bx1.out.cell 0).trans (by simp)
      have bx1c1 : W16.cell? ⟨w.heap.size + 1, 1, none⟩ = some (.int .i64 x1.n) := (bx1.out.cell 1).trans (by simp)
      have bx1c2 : W16.cell? ⟨w.heap.size + 1, 2, none⟩ = some (.slice A1 x1.ks.length cap1) := (bx1.out.cell 2).trans (by simp)
      have bx1lt : w.heap.size + 1 < W16.heap.size := bx1.out.lt
      have xb0c0 : W16.cell? ⟨W12.heap.size, 0, none⟩ = some (.int .i64 x0.c) := (xb0.out.cell 0).trans (by simp)
      have xb0c1 : W16.cell? ⟨W12.heap.size, 1, none⟩ = some (.int .i64 x0.n) := (xb0.out.cell 1).trans (by simp)
      have xb0c2 : W16.cell? ⟨W12.heap.size, 2, none⟩ = some (.slice B0 x0.ks.length bap0) := (xb0.out.cell 2).trans (by simp)
      have xb0lt : W12.heap.size < W16.heap.size := xb0.out.lt
      go_wp2_with fail
      clear bx0c0 bx0c1 bx0c2 bx1c0 bx1c1 bx1c2 xb0c0 xb0c1 xb0c2 bx0lt bx1lt xb0lt
      obtain ⟨W18, hW⟩ : ∃ X, X = W16.alloc (.cells #[.int .i64 x1.c, .int .i64 x1.n, .slice B1 x1.ks.length bap1] 31) := ⟨_, rfl⟩
      have hb18 : Below W16.heap.size W16 W18 := by rw [hW]; exact (Below.refl _ _).alloc (Nat.le_refl _) _
      have xb1 : Hid (Blk W18 W16.heap.size 31 #[.int .i64 x1.c, .int .i64 x1.n, .slice B1 x1.ks.length bap1]) := by rw [hW]; exact Blk.new _ _ _
      rw [← hW]
      clear hW
      have hB19 := hB17.trans (hb18.mono hB17.size)
      have bx0n : Hid (Blk W18 (w.heap.size) 26 #[.int .i64 x0.c, .int .i64 x0.n, .slice A0 x0.ks.length cap0]) := bx0.out.same (hb18.block _ bx0.out.lt)
      clear bx0
      have bx0 := bx0n
      clear bx0n
      have bx1n : Hid (Blk W18 (w.heap.size + 1) 26 #[.int .i64 x1.c, .int .i64 x1.n, .slice A1 x1.ks.length cap1]) := bx1.out.same (hb18.block _ bx1.out.lt)
      clear bx1
      have bx1 := bx1n
      clear bx1n
      have xb0n : Hid (Blk W18 (W12.heap.size) 31 #[.int .i64 x0.c, .int .i64 x0.n, .slice B0 x0.ks.length bap0]) := xb0.out.same (hb18.block _ xb0.out.lt)
      clear xb0
      have xb0 := xb0n
      clear xb0n
      have X0n := Lib.hid (X0.out.below hb18 Y0.out)
      have Y0n := Lib.hid (Y0.out.mono hb18.size)
      clear X0 Y0
      have X0 := X0n
      have Y0 := Y0n
      clear X0n Y0n
      have X1n := Lib.hid (X1.out.below hb18 Y1.out)
      have Y1n := Lib.hid (Y1.out.mono hb18.size)
      clear X1 Y1
      have X1 := X1n
      have Y1 := Y1n
      clear X1n Y1n
      have bx0c0 : W18.cell? ⟨w.heap.size, 0, none⟩ = some (.int .i64 x0.c) := (bx0.out.cell 0).trans (by simp)
      have bx0c1 : W18.cell? ⟨w.heap.size, 1, none⟩ = some (.int .i64 x0.n) := (bx0.out.cell 1).trans (by simp)
      have bx0c2 : W18.cell? ⟨w.heap.size, 2, none⟩ = some (.slice A0 x0.ks.length cap0) := (bx0.out.cell 2).trans (by simp)
      have bx0lt : w.heap.size < W18.heap.size := bx0.out.lt
      have bx1c0 : W18.cell? ⟨w.heap.size + 1, 0, none⟩ = some (.int .i64 x1.c) := (bx1.out.cell 0).trans (by simp)
      have bx1c1 : W18.cell? ⟨w.heap.size + 1, 1, none⟩ = some (.int .i64 x1.n) := (bx1.out.cell 1).trans (by simp)
      have bx1c2 : W18.cell? ⟨w.heap.size + 1, 2, none⟩ = some (.slice A1 x1.ks.length cap1) := (bx1.out.cell 2).trans (by simp)
      have bx1lt : w.heap.size + 1 < W18.heap.size := bx1.out.lt
      have xb0c0 : W18.cell? ⟨W12.heap.size, 0, none⟩ = some (.int .i64 x0.c) := (xb0.out.cell 0).trans (by simp)
      have xb0c1 : W18.cell? ⟨W12.heap.size, 1, none⟩ = some (.int .i64 x0.n) := (xb0.out.cell 1).trans (by simp)
      have xb0c2 : W18.cell? ⟨W12.heap.size, 2, none⟩ = some (.slice B0 x0.ks.length bap0) := (xb0.out.cell 2).trans (by simp)
      have xb0lt : W12.heap.size < W18.heap.size := xb0.out.lt
      have xb1c0 : W18.cell? ⟨W16.heap.size, 0, none⟩ = some (.int .i64 x1.c) := (xb1.out.cell 0).trans (by simp)
      have xb1c1 : W18.cell? ⟨W16.heap.size, 1, none⟩ = some (.int .i64 x1.n) := (xb1.out.cell 1).trans (by simp)
      have xb1c2 : W18.cell? ⟨W16.heap.size, 2, none⟩ = some (.slice B1 x1.ks.length bap1) := (xb1.out.cell 2).trans (by simp)
      have xb1lt : W16.heap.size < W18.heap.size := xb1.out.lt
      go_wp2_with fail
      clear bx0c0 bx0c1 bx0c2 bx1c0 bx1c1 bx1c2 xb0c0 xb0c1 xb0c2 xb1c0 xb1c1 xb1c2 bx0lt bx1lt xb0lt xb1lt
      refine (impl_CompareValues x0 x1 _ _ _ G12 G16 X0.out X1.out Y0.out Y1.out).mono ?_
      rintro e W20 ⟨rfl, hb20⟩
      have hB21 := hB19.trans (hb20.mono hB19.size)
      have bx0n : Hid (Blk W20 (w.heap.size) 26 #[.int .i64 x0.c, .int .i64 x0.n, .slice A0 x0.ks.length cap0]) := bx0.out.same (hb20.block _ bx0.out.lt)
      clear bx0
      have bx0 := bx0n
      clear bx0n
      have bx1n : Hid (Blk W20 (w.heap.size + 1) 26 #[.int .i64 x1.c, .int .i64 x1.n, .slice A1 x1.ks.length cap1]) := bx1.out.same (hb20.block _ bx1.out.lt)
      clear bx1
      have bx1 := bx1n
      clear bx1n
      have xb0n : Hid (Blk W20 (W12.heap.size) 31 #[.int .i64 x0.c, .int .i64 x0.n, .slice B0 x0.ks.length bap0]) := xb0.out.same (hb20.block _ xb0.out.lt)
      clear xb0
      have xb0 := xb0n
      clear xb0n
      have xb1n : Hid (Blk W20 (W16.heap.size) 31 #[.int .i64 x1.c, .int .i64 x1.n, .slice B1 x1.ks.length bap1]) := xb1.out.same (hb20.block _ xb1.out.lt)
      clear xb1
      have xb1 := xb1n
      clear xb1n
      have X0n := Lib.hid (X0.out.below hb20 Y0.out)
      have Y0n := Lib.hid (Y0.out.mono hb20.size)
      clear X0 Y0
      have X0 := X0n
      have Y0 := Y0n
      clear X0n Y0n
      have X1n := Lib.hid (X1.out.below hb20 Y1.out)
      have Y1n := Lib.hid (Y1.out.mono hb20.size)
      clear X1 Y1
      have X1 := X1n
      have Y1 := Y1n
      clear X1n Y1n
      rw [HRes.out]
      have hne : (r0 != r0) = false := by simp
      have bx0c0 : W20.cell? ⟨w.heap.size, 0, none⟩ = some (.int .i64 x0.c) := (bx0.out.cell 0).trans (by simp)
      have bx0c1 : W20.cell? ⟨w.heap.size, 1, none⟩ = some (.int .i64 x0.n) := (bx0.out.cell 1).trans (by simp)
      have bx0c2 : W20.cell? ⟨w.heap.size, 2, none⟩ = some (.slice A0 x0.ks.length cap0) := (bx0.out.cell 2).trans (by simp)
      have bx0lt : w.heap.size < W20.heap.size := bx0.out.lt
      have bx1c0 : W20.cell? ⟨w.heap.size + 1, 0, none⟩ = some (.int .i64 x1.c) := (bx1.out.cell 0).trans (by simp)
      have bx1c1 : W20.cell? ⟨w.heap.size + 1, 1, none⟩ = some (.int .i64 x1.n) := (bx1.out.cell 1).trans (by simp)
      have bx1c2 : W20.cell? ⟨w.heap.size + 1, 2, none⟩ = some (.slice A1 x1.ks.length cap1) := (bx1.out.cell 2).trans (by simp)
      have bx1lt : w.heap.size + 1 < W20.heap.size := bx1.out.lt
      have xb0c0 : W20.cell? ⟨W12.heap.size, 0, none⟩ = some (.int .i64 x0.c) := (xb0.out.cell 0).trans (by simp)
      have xb0c1 : W20.cell? ⟨W12.heap.size, 1, none⟩ = some (.int .i64 x0.n) := (xb0.out.cell 1).trans (by simp)
      have xb0c2 : W20.cell? ⟨W12.heap.size, 2, none⟩ = some (.slice B0 x0.ks.length bap0) := (xb0.out.cell 2).trans (by simp)
      have xb0lt : W12.heap.size < W20.heap.size := xb0.out.lt
      have xb1c0 : W20.cell? ⟨W16.heap.size, 0, none⟩ = some (.int .i64 x1.c) := (xb1.out.cell 0).trans (by simp)
      have xb1c1 : W20.cell? ⟨W16.heap.size, 1, none⟩ = some (.int .i64 x1.n) := (xb1.out.cell 1).trans (by simp)
      have xb1c2 : W20.cell? ⟨W16.heap.size, 2, none⟩ = some (.slice B1 x1.ks.length bap1) := (xb1.out.cell 2).trans (by simp)
      have xb1lt : W16.heap.size < W20.heap.size := xb1.out.lt
      go_wp2_with fail
      have hkeep : ∀ U U' : World, (U.cell? ⟨W12.heap.size, 0, none⟩ = some (.int .i64 x0.c) ∧ U.cell? ⟨W12.heap.size, 1, none⟩ = some (.int .i64 x0.n) ∧ U.cell? ⟨W12.heap.size, 2, none⟩ = some (.slice B0 x0.ks.length bap0) ∧ U.cell? ⟨w.heap.size, 0, none⟩ = some (.int .i64 x0.c) ∧ U.cell? ⟨w.heap.size, 1, none⟩ = some (.int .i64 x0.n) ∧ U.cell? ⟨w.heap.size, 2, none⟩ = some (.slice A0 x0.ks.length cap0)) → Below U.heap.size U U' → W20.heap.size ≤ U.heap.size → (U'.cell? ⟨W12.heap.size, 0, none⟩ = some (.int .i64 x0.c) ∧ U'.cell? ⟨W12.heap.size, 1, none⟩ = some (.int .i64 x0.n) ∧ U'.cell? ⟨W12.heap.size, 2, none⟩ = some (.slice B0 x0.ks.length bap0) ∧ U'.cell? ⟨w.heap.size, 0, none⟩ = some (.int .i64 x0.c) ∧ U'.cell? ⟨w.heap.size, 1, none⟩ = some (.int .i64 x0.n) ∧ U'.cell? ⟨w.heap.size, 2, none⟩ = some (.slice A0 x0.ks.length cap0)) := fun U U' h hb hU => ⟨(hb.cell (Nat.lt_of_lt_of_le (xb0lt) hU)).trans h.1, (hb.cell (Nat.lt_of_lt_of_le (xb0lt) hU)).trans h.2.1, (hb.cell (Nat.lt_of_lt_of_le (xb0lt) hU)).trans h.2.2.1, (hb.cell (Nat.lt_of_lt_of_le (bx0lt) hU)).trans h.2.2.2.1, (hb.cell (Nat.lt_of_lt_of_le (bx0lt) hU)).trans h.2.2.2.2.1, (hb.cell (Nat.lt_of_lt_of_le (bx0lt) hU)).trans h.2.2.2.2.2⟩
      have HKeep := Lib.hid hkeep
      clear hkeep
      go_region_held3 (fun w' => w'.cell? ⟨W12.heap.size, 0, none⟩ = some (.int .i64 x0.c) ∧ w'.cell? ⟨W12.heap.size, 1, none⟩ = some (.int .i64 x0.n) ∧ w'.cell? ⟨W12.heap.size, 2, none⟩ = some (.slice B0 x0.ks.length bap0) ∧ w'.cell? ⟨w.heap.size, 0, none⟩ = some (.int .i64 x0.c) ∧ w'.cell? ⟨w.heap.size, 1, none⟩ = some (.int .i64 x0.n) ∧ w'.cell? ⟨w.heap.size, 2, none⟩ = some (.slice A0 x0.ks.length cap0)) (first | assumption | (exact ⟨xb0c0, xb0c1, xb0c2, bx0c0, bx0c1, bx0c2⟩) | (exact HKeep.out W20.drew W22 ⟨xb0c0, xb0c1, xb0c2, bx0c0, bx0c1, bx0c2⟩ hb22 (Nat.le_refl _)) | (exact HKeep.out W22 W23 (by assumption) hb23 hleW22)) (first | (go_at_call 14; ((with_reducible refine (toValue_any x0 _ _ F0 (HR0.out.below hB21.drew HU0.out) (HU0.out.mono hB21.drew.size) hs0).mono ?_); rintro e W22 ⟨ds22, G22, rfl, hb22, hv22, hfr22, hfs22⟩); have hleW22 : W20.heap.size ≤ W22.heap.size := hb22.size) | (go_at_call 16; ((with_reducible refine (eqValue_any x0 _ _ _ G12 G22 (X0.out.drew.below hb22 (Under.drew Y0.out)) hv22 ((Under.drew Y0.out).mono hb22.size) hfs22.under).mono ?_); rintro e W23 ⟨rfl, hb23⟩)))
      have hbt23 := hb22.trans (hb23.mono hb22.size)
      clear bx0c0 bx0c1 bx0c2 bx1c0 bx1c1 bx1c2 xb0c0 xb0c1 xb0c2 xb1c0 xb1c1 xb1c2 bx0lt bx1lt xb0lt xb1lt
      have hB24 := hB21.drew.trans (hbt23.mono hB21.size)
      have bx0n : Hid (Blk W23 (w.heap.size) 26 #[.int .i64 x0.c, .int .i64 x0.n, .slice A0 x0.ks.length cap0]) := bx0.out.same (hbt23.block _ bx0.out.lt)
      clear bx0
      have bx0 := bx0n
      clear bx0n
      have bx1n : Hid (Blk W23 (w.heap.size + 1) 26 #[.int .i64 x1.c, .int .i64 x1.n, .slice A1 x1.ks.length cap1]) := bx1.out.same (hbt23.block _ bx1.out.lt)
      clear bx1
      have bx1 := bx1n
      clear bx1n
      have xb0n : Hid (Blk W23 (W12.heap.size) 31 #[.int .i64 x0.c, .int .i64 x0.n, .slice B0 x0.ks.length bap0]) := xb0.out.same (hbt23.block _ xb0.out.lt)
      clear xb0
      have xb0 := xb0n
      clear xb0n
      have xb1n : Hid (Blk W23 (W16.heap.size) 31 #[.int .i64 x1.c, .int .i64 x1.n, .slice B1 x1.ks.length bap1]) := xb1.out.same (hbt23.block _ xb1.out.lt)
      clear xb1
      have xb1 := xb1n
      clear xb1n
      have X0n := Lib.hid (X0.out.drew.below hbt23 Y0.out)
      have Y0n := Lib.hid (Y0.out.mono hbt23.size)
      clear X0 Y0
      have X0 := X0n
      have Y0 := Y0n
      clear X0n Y0n
      have X1n := Lib.hid (X1.out.drew.below hbt23 Y1.out)
      have Y1n := Lib.hid (Y1.out.mono hbt23.size)
      clear X1 Y1
      have X1 := X1n
      have Y1 := Y1n
      clear X1n Y1n
      have bx0c0 : W23.cell? ⟨w.heap.size, 0, none⟩ = some (.int .i64 x0.c) := (bx0.out.cell 0).trans (by simp)
      have bx0c1 : W23.cell? ⟨w.heap.size, 1, none⟩ = some (.int .i64 x0.n) := (bx0.out.cell 1).trans (by simp)
      have bx0c2 : W23.cell? ⟨w.heap.size, 2, none⟩ = some (.slice A0 x0.ks.length cap0) := (bx0.out.cell 2).trans (by simp)
      have bx0lt : w.heap.size < W23.heap.size := bx0.out.lt
      have bx1c0 : W23.cell? ⟨w.heap.size + 1, 0, none⟩ = some (.int .i64 x1.c) := (bx1.out.cell 0).trans (by simp)
      have bx1c1 : W23.cell? ⟨w.heap.size + 1, 1, none⟩ = some (.int .i64 x1.n) := (bx1.out.cell 1).trans (by simp)
      have bx1c2 : W23.cell? ⟨w.heap.size + 1, 2, none⟩ = some (.slice A1 x1.ks.length cap1) := (bx1.out.cell 2).trans (by simp)
      have bx1lt : w.heap.size + 1 < W23.heap.size := bx1.out.lt
      have xb0c0 : W23.cell? ⟨W12.heap.size, 0, none⟩ = some (.int .i64 x0.c) := (xb0.out.cell 0).trans (by simp)
      have xb0c1 : W23.cell? ⟨W12.heap.size, 1, none⟩ = some (.int .i64 x0.n) := (xb0.out.cell 1).trans (by simp)
      have xb0c2 : W23.cell? ⟨W12.heap.size, 2, none⟩ = some (.slice B0 x0.ks.length bap0) := (xb0.out.cell 2).trans (by simp)
      have xb0lt : W12.heap.size < W23.heap.size := xb0.out.lt
      have xb1c0 : W23.cell? ⟨W16.heap.size, 0, none⟩ = some (.int .i64 x1.c) := (xb1.out.cell 0).trans (by simp)
      have xb1c1 : W23.cell? ⟨W16.heap.size, 1, none⟩ = some (.int .i64 x1.n) := (xb1.out.cell 1).trans (by simp)
      have xb1c2 : W23.cell? ⟨W16.heap.size, 2, none⟩ = some (.slice B1 x1.ks.length bap1) := (xb1.out.cell 2).trans (by simp)
      have xb1lt : W16.heap.size < W23.heap.size := xb1.out.lt
      go_wp2_with fail
      have hkeep : ∀ U U' : World, (U.cell? ⟨W16.heap.size, 0, none⟩ = some (.int .i64 x1.c) ∧ U.cell? ⟨W16.heap.size, 1, none⟩ = some (.int .i64 x1.n) ∧ U.cell? ⟨W16.heap.size, 2, none⟩ = some (.slice B1 x1.ks.length bap1) ∧ U.cell? ⟨w.heap.size + 1, 0, none⟩ = some (.int .i64 x1.c) ∧ U.cell? ⟨w.heap.size + 1, 1, none⟩ = some (.int .i64 x1.n) ∧ U.cell? ⟨w.heap.size + 1, 2, none⟩ = some (.slice A1 x1.ks.length cap1)) → Below U.heap.size U U' → W23.heap.size ≤ U.heap.size → (U'.cell? ⟨W16.heap.size, 0, none⟩ = some (.int .i64 x1.c) ∧ U'.cell? ⟨W16.heap.size, 1, none⟩ = some (.int .i64 x1.n) ∧ U'.cell? ⟨W16.heap.size, 2, none⟩ = some (.slice B1 x1.ks.length bap1) ∧ U'.cell? ⟨w.heap.size + 1, 0, none⟩ = some (.int .i64 x1.c) ∧ U'.cell? ⟨w.heap.size + 1, 1, none⟩ = some (.int .i64 x1.n) ∧ U'.cell? ⟨w.heap.size + 1, 2, none⟩ = some (.slice A1 x1.ks.length cap1)) := fun U U' h hb hU => ⟨(hb.cell (Nat.lt_of_lt_of_le (xb1lt) hU)).trans h.1, (hb.cell (Nat.lt_of_lt_of_le (xb1lt) hU)).trans h.2.1, (hb.cell (Nat.lt_of_lt_of_le (xb1lt) hU)).trans h.2.2.1, (hb.cell (Nat.lt_of_lt_of_le (bx1lt) hU)).trans h.2.2.2.1, (hb.cell (Nat.lt_of_lt_of_le (bx1lt) hU)).trans h.2.2.2.2.1, (hb.cell (Nat.lt_of_lt_of_le (bx1lt) hU)).trans h.2.2.2.2.2⟩
      have HKeep := Lib.hid hkeep
      clear hkeep
      go_region_held3 (fun w' => w'.cell? ⟨W16.heap.size, 0, none⟩ = some (.int .i64 x1.c) ∧ w'.cell? ⟨W16.heap.size, 1, none⟩ = some (.int .i64 x1.n) ∧ w'.cell? ⟨W16.heap.size, 2, none⟩ = some (.slice B1 x1.ks.length bap1) ∧ w'.cell? ⟨w.heap.size + 1, 0, none⟩ = some (.int .i64 x1.c) ∧ w'.cell? ⟨w.heap.size + 1, 1, none⟩ = some (.int .i64 x1.n) ∧ w'.cell? ⟨w.heap.size + 1, 2, none⟩ = some (.slice A1 x1.ks.length cap1)) (first | assumption | (exact ⟨xb1c0, xb1c1, xb1c2, bx1c0, bx1c1, bx1c2⟩) | (exact HKeep.out W23.drew W25 ⟨xb1c0, xb1c1, xb1c2, bx1c0, bx1c1, bx1c2⟩ hb25 (Nat.le_refl _)) | (exact HKeep.out W25 W26 (by assumption) hb26 hleW25)) (first | (go_at_call 14; ((with_reducible refine (toValue_any x1 _ _ F1 (HR1.out.below hB24.drew HU1.out) (HU1.out.mono hB24.drew.size) hs1).mono ?_); rintro e W25 ⟨ds25, G25, rfl, hb25, hv25, hfr25, hfs25⟩); have hleW25 : W23.heap.size ≤ W25.heap.size := hb25.size) | (go_at_call 16; ((with_reducible refine (eqValue_any x1 _ _ _ G16 G25 (X1.out.drew.below hb25 (Under.drew Y1.out)) hv25 ((Under.drew Y1.out).mono hb25.size) hfs25.under).mono ?_); rintro e W26 ⟨rfl, hb26⟩)))
      have hbt26 := hb25.trans (hb26.mono hb25.size)
      clear bx0c0 bx0c1 bx0c2 bx1c0 bx1c1 bx1c2 xb0c0 xb0c1 xb0c2 xb1c0 xb1c1 xb1c2 bx0lt bx1lt xb0lt xb1lt
      have hB27 := hB24.drew.trans (hbt26.mono hB24.size)
      have bx0n : Hid (Blk W26 (w.heap.size) 26 #[.int .i64 x0.c, .int .i64 x0.n, .slice A0 x0.ks.length cap0]) := bx0.out.same (hbt26.block _ bx0.out.lt)
      clear bx0
      have bx0 := bx0n
      clear bx0n
      have bx1n : Hid (Blk W26 (w.heap.size + 1) 26 #[.int .i64 x1.c, .int .i64 x1.n, .slice A1 x1.ks.length cap1]) := bx1.out.same (hbt26.block _ bx1.out.lt)
      clear bx1
      have bx1 := bx1n
      clear bx1n
      have xb0n : Hid (Blk W26 (W12.heap.size) 31 #[.int .i64 x0.c, .int .i64 x0.n, .slice B0 x0.ks.length bap0]) := xb0.out.same (hbt26.block _ xb0.out.lt)
      clear xb0
      have xb0 := xb0n
      clear xb0n
      have xb1n : Hid (Blk W26 (W16.heap.size) 31 #[.int .i64 x1.c, .int .i64 x1.n, .slice B1 x1.ks.length bap1]) := xb1.out.same (hbt26.block _ xb1.out.lt)
      clear xb1
      have xb1 := xb1n
      clear xb1n
      have X0n := Lib.hid (X0.out.drew.below hbt26 Y0.out)
      have Y0n := Lib.hid (Y0.out.mono hbt26.size)
      clear X0 Y0
      have X0 := X0n
      have Y0 := Y0n
      clear X0n Y0n
      have X1n := Lib.hid (X1.out.drew.below hbt26 Y1.out)
      have Y1n := Lib.hid (Y1.out.mono hbt26.size)
      clear X1 Y1
      have X1 := X1n
      have Y1 := Y1n
      clear X1n Y1n
      go_wp2
      go_ret
      exact ⟨rfl, hB27⟩
    · rw [show szLeft x1.size (1048576 - (x0.size : Int)) = -1 from if_neg hz1]
      go_wp2
      go_ret
      exact ⟨rfl, hB6⟩
  · rw [show szLeft x0.size (1048576) = -1 from if_neg hz0]
    go_wp2
    go_ret
    exact ⟨rfl, hB4⟩
end Go.Proofs.Ytjkpionncbmcaaa.fnExactCompareValues
