/-
  FnExactFormatPattern: for every argument the law returns true; the card. Conditions: the listed package-level variables hold what the card ties to the program's text.
-/
import Derived.Test.YtilndhmegaccmaaGreatDoorKAA
import Derived.Test.YtilndhmegaccmaaGreatDoorKAI
import Derived.Deep.RegionWith
import Derived.Deep.RegionHeld3
import Derived.BigQuiet
import Derived.Test.YtilndhmegaccmaaGreatDoorRows
import Derived.Test.YtilndhmegaccmaaGreatDoorCards
import Derived.Test.YtilndhmegaccmaaGreatDoorTie
import Derived.ProofKit
import Derived.LaidMore
import Derived.OpenShut
import Derived.ShutString
import Derived.ChangeOld
import Derived.Below
import Derived.SevenTiedAt

set_option linter.unusedVariables false
set_option linter.unusedSimpArgs false

namespace Go.Proofs.YtilndhmegaccmaaGreatDoor.fnExactFormatPattern
open Go.RowKit

set_option maxRecDepth 100000 in
set_option maxHeartbeats 1600000 in
theorem walk {W : World} (x0 : List Dt) (v0 : Value) (F0 : List Nat) (hR0 : Arr W (DtR W) x0 v0 F0) (hU0 : Under W.heap.size F0) (x1 : Ty) (cs1 : List Value) (F1 : List Nat) (hR1 : TyR W x1 cs1 F1) (hU1 : Under W.heap.size F1) (x2 : P) (cs2 : List Value) (F2 : List Nat) (hR2 : PR W x2 cs2 F2) (hU2 : Under W.heap.size F2) (w : World) (hw : w = W) :
    Calls Tryz.prog 3 #[v0, .agg cs1.toArray, .agg cs2.toArray] w fun e w' => e = .returned (.bool true) ∧ Below w.heap.size w w' := by
  subst hw
  obtain ⟨A0, cap0, rfl, -, -⟩ := hR0.form
  obtain ⟨rfl, rfl⟩ := hR1
  obtain ⟨kv2, rfl, ha2⟩ := (PR_iff _ _ _).1 hR2
  obtain ⟨A2, cap2, rfl, -, -⟩ := ha2.form
  clear ha2
  have HR0 := Lib.hid hR0
  have HU0 := Lib.hid hU0
  clear hR0 hU0
  have HR2 := Lib.hid hR2
  have HU2 := Lib.hid hU2
  clear hR2 hU2
  go_enter Tryz.func3, Tryz.ntmps3
  go_wp2_with fail
  have hB0 : Below w.heap.size w w := Below.refl _ _
  obtain ⟨W1, hW⟩ : ∃ X, X = ((w.alloc (.cells #[.int .i64 x1.d, .int .i64 x1.i] 24)).alloc (.cells #[.int .i64 x2.op, .int .i64 x2.ct, .int .i64 x2.n, .int .i64 x2.m, .int .i64 x2.va, .slice A2 x2.ks.length cap2] 27)) := ⟨_, rfl⟩
  have hb1 : Below w.heap.size w W1 := by rw [hW]; exact (((Below.refl w.heap.size w).alloc (by simp <;> omega) _).alloc (by simp <;> omega) _)
  have bx1 : Hid (Blk W1 (w.heap.size) 24 #[.int .i64 x1.d, .int .i64 x1.i]) := by
    rw [hW]
    have h0 := Blk.new w 24 #[.int .i64 x1.d, .int .i64 x1.i]
    exact (h0).same (Below.heap_alloc _ _ _ (by simp <;> omega))
  have bx2 : Hid (Blk W1 (w.heap.size + 1) 27 #[.int .i64 x2.op, .int .i64 x2.ct, .int .i64 x2.n, .int .i64 x2.m, .int .i64 x2.va, .slice A2 x2.ks.length cap2]) := by
    rw [hW]
    have h0 := Blk.new (w.alloc (.cells #[.int .i64 x1.d, .int .i64 x1.i] 24)) 27 #[.int .i64 x2.op, .int .i64 x2.ct, .int .i64 x2.n, .int .i64 x2.m, .int .i64 x2.va, .slice A2 x2.ks.length cap2]
    rw [show ((w.alloc (.cells #[.int .i64 x1.d, .int .i64 x1.i] 24))).heap.size = w.heap.size + 1 from by simp] at h0
    exact (h0)
  rw [← hW]
  clear hW
  have hB2 := hB0.trans (hb1.mono hB0.size)
  refine (szDataS_any x0 W1 F0 _ (1048576) (ArrDt.below HR0.out hB2 HU0.out) (HU0.out.mono hB2.size) (by omega) (by omega)).mono ?_
  rintro e W3 ⟨rfl, hb3⟩
  have hB4 := hB2.trans (hb3.mono hB2.size)
  have bx1n : Hid (Blk W3 (w.heap.size) 24 #[.int .i64 x1.d, .int .i64 x1.i]) := bx1.out.same (hb3.block _ bx1.out.lt)
  clear bx1
  have bx1 := bx1n
  clear bx1n
  have bx2n : Hid (Blk W3 (w.heap.size + 1) 27 #[.int .i64 x2.op, .int .i64 x2.ct, .int .i64 x2.n, .int .i64 x2.m, .int .i64 x2.va, .slice A2 x2.ks.length cap2]) := bx2.out.same (hb3.block _ bx2.out.lt)
  clear bx2
  have bx2 := bx2n
  clear bx2n
  by_cases hz0 : ((Dt.sizes x0) : Int) ≤ 1048576
  · rw [show szLeft (Dt.sizes x0) (1048576) = 1048576 - ((Dt.sizes x0) : Int) from if_pos hz0]
    have hnn0 : 0 ≤ 1048576 - ((Dt.sizes x0) : Int) := by omega
    have bx1c0 : W3.cell? ⟨w.heap.size, 0, none⟩ = some (.int .i64 x1.d) := (bx1.out.cell 0).trans (by simp)
    have bx1c1 : W3.cell? ⟨w.heap.size, 1, none⟩ = some (.int .i64 x1.i) := (bx1.out.cell 1).trans (by simp)
    have bx1lt : w.heap.size < W3.heap.size := bx1.out.lt
    have bx2c0 : W3.cell? ⟨w.heap.size + 1, 0, none⟩ = some (.int .i64 x2.op) := (bx2.out.cell 0).trans (by simp)
    have bx2c1 : W3.cell? ⟨w.heap.size + 1, 1, none⟩ = some (.int .i64 x2.ct) := (bx2.out.cell 1).trans (by simp)
    have bx2c2 : W3.cell? ⟨w.heap.size + 1, 2, none⟩ = some (.int .i64 x2.n) := (bx2.out.cell 2).trans (by simp)
    have bx2c3 : W3.cell? ⟨w.heap.size + 1, 3, none⟩ = some (.int .i64 x2.m) := (bx2.out.cell 3).trans (by simp)
    have bx2c4 : W3.cell? ⟨w.heap.size + 1, 4, none⟩ = some (.int .i64 x2.va) := (bx2.out.cell 4).trans (by simp)
    have bx2c5 : W3.cell? ⟨w.heap.size + 1, 5, none⟩ = some (.slice A2 x2.ks.length cap2) := (bx2.out.cell 5).trans (by simp)
    have bx2lt : w.heap.size + 1 < W3.heap.size := bx2.out.lt
    go_wp2_with fail
    clear bx1c0 bx1c1 bx2c0 bx2c1 bx2c2 bx2c3 bx2c4 bx2c5 bx1lt bx2lt
    refine (szPattern_any x2 W3 _ F2 (1048576 - ((Dt.sizes x0) : Int)) (HR2.out.below hB4 HU2.out) (HU2.out.mono hB4.size) (by omega) (by omega)).mono ?_
    rintro e W5 ⟨rfl, hb5⟩
    have hB6 := hB4.trans (hb5.mono hB4.size)
    have bx1n : Hid (Blk W5 (w.heap.size) 24 #[.int .i64 x1.d, .int .i64 x1.i]) := bx1.out.same (hb5.block _ bx1.out.lt)
    clear bx1
    have bx1 := bx1n
    clear bx1n
    have bx2n : Hid (Blk W5 (w.heap.size + 1) 27 #[.int .i64 x2.op, .int .i64 x2.ct, .int .i64 x2.n, .int .i64 x2.m, .int .i64 x2.va, .slice A2 x2.ks.length cap2]) := bx2.out.same (hb5.block _ bx2.out.lt)
    clear bx2
    have bx2 := bx2n
    clear bx2n
    by_cases hz2 : (x2.size : Int) ≤ 1048576 - ((Dt.sizes x0) : Int)
    · rw [show szLeft x2.size (1048576 - ((Dt.sizes x0) : Int)) = 1048576 - ((Dt.sizes x0) : Int) - (x2.size : Int) from if_pos hz2]
      have hnn2 : 0 ≤ 1048576 - ((Dt.sizes x0) : Int) - (x2.size : Int) := by omega
      have hs0 : (Dt.sizes x0) ≤ 1048576 := by omega
      have hs2 : x2.size ≤ 1048576 := by omega
      have bx1c0 : W5.cell? ⟨w.heap.size, 0, none⟩ = some (.int .i64 x1.d) := (bx1.out.cell 0).trans (by simp)
      have bx1c1 : W5.cell? ⟨w.heap.size, 1, none⟩ = some (.int .i64 x1.i) := (bx1.out.cell 1).trans (by simp)
      have bx1lt : w.heap.size < W5.heap.size := bx1.out.lt
      have bx2c0 : W5.cell? ⟨w.heap.size + 1, 0, none⟩ = some (.int .i64 x2.op) := (bx2.out.cell 0).trans (by simp)
      have bx2c1 : W5.cell? ⟨w.heap.size + 1, 1, none⟩ = some (.int .i64 x2.ct) := (bx2.out.cell 1).trans (by simp)
      have bx2c2 : W5.cell? ⟨w.heap.size + 1, 2, none⟩ = some (.int .i64 x2.n) := (bx2.out.cell 2).trans (by simp)
      have bx2c3 : W5.cell? ⟨w.heap.size + 1, 3, none⟩ = some (.int .i64 x2.m) := (bx2.out.cell 3).trans (by simp)
      have bx2c4 : W5.cell? ⟨w.heap.size + 1, 4, none⟩ = some (.int .i64 x2.va) := (bx2.out.cell 4).trans (by simp)
      have bx2c5 : W5.cell? ⟨w.heap.size + 1, 5, none⟩ = some (.slice A2 x2.ks.length cap2) := (bx2.out.cell 5).trans (by simp)
      have bx2lt : w.heap.size + 1 < W5.heap.size := bx2.out.lt
      go_wp2_with fail
      have hkeep : ∀ U U' : World, (U.cell? ⟨w.heap.size, 0, none⟩ = some (.int .i64 x1.d) ∧ U.cell? ⟨w.heap.size, 1, none⟩ = some (.int .i64 x1.i) ∧ U.cell? ⟨w.heap.size + 1, 0, none⟩ = some (.int .i64 x2.op) ∧ U.cell? ⟨w.heap.size + 1, 1, none⟩ = some (.int .i64 x2.ct) ∧ U.cell? ⟨w.heap.size + 1, 2, none⟩ = some (.int .i64 x2.n) ∧ U.cell? ⟨w.heap.size + 1, 3, none⟩ = some (.int .i64 x2.m) ∧ U.cell? ⟨w.heap.size + 1, 4, none⟩ = some (.int .i64 x2.va) ∧ U.cell? ⟨w.heap.size + 1, 5, none⟩ = some (.slice A2 x2.ks.length cap2)) → Below U.heap.size U U' → W5.heap.size ≤ U.heap.size → (U'.cell? ⟨w.heap.size, 0, none⟩ = some (.int .i64 x1.d) ∧ U'.cell? ⟨w.heap.size, 1, none⟩ = some (.int .i64 x1.i) ∧ U'.cell? ⟨w.heap.size + 1, 0, none⟩ = some (.int .i64 x2.op) ∧ U'.cell? ⟨w.heap.size + 1, 1, none⟩ = some (.int .i64 x2.ct) ∧ U'.cell? ⟨w.heap.size + 1, 2, none⟩ = some (.int .i64 x2.n) ∧ U'.cell? ⟨w.heap.size + 1, 3, none⟩ = some (.int .i64 x2.m) ∧ U'.cell? ⟨w.heap.size + 1, 4, none⟩ = some (.int .i64 x2.va) ∧ U'.cell? ⟨w.heap.size + 1, 5, none⟩ = some (.slice A2 x2.ks.length cap2)) := fun U U' h hb hU => ⟨(hb.cell (Nat.lt_of_lt_of_le (bx1lt) hU)).trans h.1, (hb.cell (Nat.lt_of_lt_of_le (bx1lt) hU)).trans h.2.1, (hb.cell (Nat.lt_of_lt_of_le (bx2lt) hU)).trans h.2.2.1, (hb.cell (Nat.lt_of_lt_of_le (bx2lt) hU)).trans h.2.2.2.1, (hb.cell (Nat.lt_of_lt_of_le (bx2lt) hU)).trans h.2.2.2.2.1, (hb.cell (Nat.lt_of_lt_of_le (bx2lt) hU)).trans h.2.2.2.2.2.1, (hb.cell (Nat.lt_of_lt_of_le (bx2lt) hU)).trans h.2.2.2.2.2.2.1, (hb.cell (Nat.lt_of_lt_of_le (bx2lt) hU)).trans h.2.2.2.2.2.2.2⟩
      have HKeep := Lib.hid hkeep
      clear hkeep
      go_region_held3 (fun w' => w'.cell? ⟨w.heap.size, 0, none⟩ = some (.int .i64 x1.d) ∧ w'.cell? ⟨w.heap.size, 1, none⟩ = some (.int .i64 x1.i) ∧ w'.cell? ⟨w.heap.size + 1, 0, none⟩ = some (.int .i64 x2.op) ∧ w'.cell? ⟨w.heap.size + 1, 1, none⟩ = some (.int .i64 x2.ct) ∧ w'.cell? ⟨w.heap.size + 1, 2, none⟩ = some (.int .i64 x2.n) ∧ w'.cell? ⟨w.heap.size + 1, 3, none⟩ = some (.int .i64 x2.m) ∧ w'.cell? ⟨w.heap.size + 1, 4, none⟩ = some (.int .i64 x2.va) ∧ w'.cell? ⟨w.heap.size + 1, 5, none⟩ = some (.slice A2 x2.ks.length cap2)) (first | assumption | (exact ⟨bx1c0, bx1c1, bx2c0, bx2c1, bx2c2, bx2c3, bx2c4, bx2c5⟩) | (exact HKeep.out W5.drew W7 ⟨bx1c0, bx1c1, bx2c0, bx2c1, bx2c2, bx2c3, bx2c4, bx2c5⟩ hb7 (Nat.le_refl _)) | (exact HKeep.out W7 W8 (by assumption) hb8 hleW7) | (exact HKeep.out W8 W9 (by assumption) hb9 hleW8) | (exact HKeep.out W9 W10 (by assumption) hb10 hleW9)) (first | (go_at_call 7; ((with_reducible refine (toDataS_any x0 _ F0 _ (ArrDt.below HR0.out hB6.drew HU0.out) (HU0.out.mono hB6.drew.size) hs0).mono ?_); rintro e W7 ⟨y7, G7, rfl, hb7, hv7, hfr7, hfs7⟩); have hB7 := hB6.drew.trans (hb7.mono hB6.drew.size); have hleW7 : W5.heap.size ≤ W7.heap.size := hb7.size) | (go_at_call 8; ((with_reducible refine (toType_any x1 _ _ [] (TyR.mk0 _ x1) (Under.nil _) (Ty.size_le x1)).mono ?_); rintro e W8 ⟨ds8, G8, rfl, hb8, ⟨rfl, rfl⟩, hfr8, hfs8⟩); have hB8 := hB7.trans (hb8.mono hB7.size); have hleW8 : W5.heap.size ≤ W8.heap.size := Nat.le_trans hleW7 hb8.size) | (go_at_call 9; ((with_reducible refine (toPattern_any x2 _ _ F2 (HR2.out.below hB8 HU2.out) (HU2.out.mono hB8.size) hs2).mono ?_); rintro e W9 ⟨ds9, G9, rfl, hb9, hv9, hfr9, hfs9⟩); have hB9 := hB8.trans (hb9.mono hB8.size); have hleW9 : W5.heap.size ≤ W9.heap.size := Nat.le_trans hleW8 hb9.size) | (go_at_call 6; ((with_reducible refine (spec_FormatPattern x0 x1 x2 hs2 _ _ G7 _ G9 (ArrDt.below (ArrDt.below hv7 hb8 hfs7.under) hb9 (hfs7.under.mono hb8.size)) ((hfs7.under.mono hb8.size).mono hb9.size) hv9 hfs9.under).mono ?_); rintro e W10 ⟨rfl, hb10⟩)))
      have hbt11_0 := hb7
      have hbt11_1 := hbt11_0.trans (hb8.mono hbt11_0.size)
      have hbt11_2 := hbt11_1.trans (hb9.mono hbt11_1.size)
      have hbt11_3 := hbt11_2.trans (hb10.mono hbt11_2.size)
      clear bx1c0 bx1c1 bx2c0 bx2c1 bx2c2 bx2c3 bx2c4 bx2c5 bx1lt bx2lt
      have hB12 := hB6.drew.trans (hbt11_3.mono hB6.size)
      have bx1n : Hid (Blk W10 (w.heap.size) 24 #[.int .i64 x1.d, .int .i64 x1.i]) := bx1.out.same (hbt11_3.block _ bx1.out.lt)
      clear bx1
      have bx1 := bx1n
      clear bx1n
      have bx2n : Hid (Blk W10 (w.heap.size + 1) 27 #[.int .i64 x2.op, .int .i64 x2.ct, .int .i64 x2.n, .int .i64 x2.m, .int .i64 x2.va, .slice A2 x2.ks.length cap2]) := bx2.out.same (hbt11_3.block _ bx2.out.lt)
      clear bx2
      have bx2 := bx2n
      clear bx2n
      generalize hres : fmtP x0 x1 x2 = r0
      have HRes := Lib.hid hres
      clear hres
      have bx1c0 : W10.cell? ⟨w.heap.size, 0, none⟩ = some (.int .i64 x1.d) := (bx1.out.cell 0).trans (by simp)
      have bx1c1 : W10.cell? ⟨w.heap.size, 1, none⟩ = some (.int .i64 x1.i) := (bx1.out.cell 1).trans (by simp)
      have bx1lt : w.heap.size < W10.heap.size := bx1.out.lt
      have bx2c0 : W10.cell? ⟨w.heap.size + 1, 0, none⟩ = some (.int .i64 x2.op) := (bx2.out.cell 0).trans (by simp)
      have bx2c1 : W10.cell? ⟨w.heap.size + 1, 1, none⟩ = some (.int .i64 x2.ct) := (bx2.out.cell 1).trans (by simp)
      have bx2c2 : W10.cell? ⟨w.heap.size + 1, 2, none⟩ = some (.int .i64 x2.n) := (bx2.out.cell 2).trans (by simp)
      have bx2c3 : W10.cell? ⟨w.heap.size + 1, 3, none⟩ = some (.int .i64 x2.m) := (bx2.out.cell 3).trans (by simp)
      have bx2c4 : W10.cell? ⟨w.heap.size + 1, 4, none⟩ = some (.int .i64 x2.va) := (bx2.out.cell 4).trans (by simp)
      have bx2c5 : W10.cell? ⟨w.heap.size + 1, 5, none⟩ = some (.slice A2 x2.ks.length cap2) := (bx2.out.cell 5).trans (by simp)
      have bx2lt : w.heap.size + 1 < W10.heap.size := bx2.out.lt
      go_wp2_with fail
      clear bx1c0 bx1c1 bx2c0 bx2c1 bx2c2 bx2c3 bx2c4 bx2c5 bx1lt bx2lt
      refine (toDataS_any x0 W10 F0 _ (ArrDt.below HR0.out hB12 HU0.out) (HU0.out.mono hB12.size) hs0).mono ?_
      rintro e W13 ⟨y13, G13, rfl, hb13, hv13, hfr13, hfs13⟩
      have hB14 := hB12.trans (hb13.mono hB12.size)
      have bx1n : Hid (Blk W13 (w.heap.size) 24 #[.int .i64 x1.d, .int .i64 x1.i]) := bx1.out.same (hb13.block _ bx1.out.lt)
      clear bx1
      have bx1 := bx1n
      clear bx1n
      have bx2n : Hid (Blk W13 (w.heap.size + 1) 27 #[.int .i64 x2.op, .int .i64 x2.ct, .int .i64 x2.n, .int .i64 x2.m, .int .i64 x2.va, .slice A2 x2.ks.length cap2]) := bx2.out.same (hb13.block _ bx2.out.lt)
      clear bx2
      have bx2 := bx2n
      clear bx2n
      obtain ⟨B0, bap0, rfl, -, -⟩ := hv13.form
      have X0 := Lib.hid hv13
      have Y0 := Lib.hid hfs13.under
      clear hv13 hfr13 hfs13
      have bx1c0 : W13.cell? ⟨w.heap.size, 0, none⟩ = some (.int .i64 x1.d) := (bx1.out.cell 0).trans (by simp)
      have bx1c1 : W13.cell? ⟨w.heap.size, 1, none⟩ = some (.int .i64 x1.i) := (bx1.out.cell 1).trans (by simp)
      have bx1lt : w.heap.size < W13.heap.size := bx1.out.lt
      have bx2c0 : W13.cell? ⟨w.heap.size + 1, 0, none⟩ = some (.int .i64 x2.op) := (bx2.out.cell 0).trans (by simp)
      have bx2c1 : W13.cell? ⟨w.heap.size + 1, 1, none⟩ = some (.int .i64 x2.ct) := (bx2.out.cell 1).trans (by simp)
      have bx2c2 : W13.cell? ⟨w.heap.size + 1, 2, none⟩ = some (.int .i64 x2.n) := (bx2.out.cell 2).trans (by simp)
      have bx2c3 : W13.cell? ⟨w.heap.size + 1, 3, none⟩ = some (.int .i64 x2.m) := (bx2.out.cell 3).trans (by simp)
      have bx2c4 : W13.cell? ⟨w.heap.size + 1, 4, none⟩ = some (.int .i64 x2.va) := (bx2.out.cell 4).trans (by simp)
      have bx2c5 : W13.cell? ⟨w.heap.size + 1, 5, none⟩ = some (.slice A2 x2.ks.length cap2) := (bx2.out.cell 5).trans (by simp)
      have bx2lt : w.heap.size + 1 < W13.heap.size := bx2.out.lt
      go_wp2_with fail
      clear bx1c0 bx1c1 bx2c0 bx2c1 bx2c2 bx2c3 bx2c4 bx2c5 bx1lt bx2lt
      refine (toPattern_any x2 W13 _ F2 (HR2.out.below hB14 HU2.out) (HU2.out.mono hB14.size) hs2).mono ?_
      rintro e W15 ⟨ds15, G15, rfl, hb15, hv15, hfr15, hfs15⟩
      have hB16 := hB14.trans (hb15.mono hB14.size)
      have bx1n : Hid (Blk W15 (w.heap.size) 24 #[.int .i64 x1.d, .int .i64 x1.i]) := bx1.out.same (hb15.block _ bx1.out.lt)
      clear bx1
      have bx1 := bx1n
      clear bx1n
      have bx2n : Hid (Blk W15 (w.heap.size + 1) 27 #[.int .i64 x2.op, .int .i64 x2.ct, .int .i64 x2.n, .int .i64 x2.m, .int .i64 x2.va, .slice A2 x2.ks.length cap2]) := bx2.out.same (hb15.block _ bx2.out.lt)
      clear bx2
      have bx2 := bx2n
      clear bx2n
      have X0n := Lib.hid (ArrDt.below X0.out hb15 Y0.out)
      have Y0n := Lib.hid (Y0.out.mono hb15.size)
      clear X0 Y0
      have X0 := X0n
      have Y0 := Y0n
      clear X0n Y0n
      obtain ⟨kw15, rfl, hw15⟩ := (PR_iff _ _ _).1 hv15
      obtain ⟨B2, bap2, rfl, -, -⟩ := hw15.form
      clear hw15
      have X2 := Lib.hid hv15
      have Y2 := Lib.hid hfs15.under
      clear hv15 hfr15 hfs15
      have bx1c0 : W15.cell? ⟨w.heap.size, 0, none⟩ = some (.int .i64 x1.d) := (bx1.out.cell 0).trans (by simp)
      have bx1c1 : W15.cell? ⟨w.heap.size, 1, none⟩ = some (.int .i64 x1.i) := (bx1.out.cell 1).trans (by simp)
      have bx1lt : w.heap.size < W15.heap.size := bx1.out.lt
      have bx2c0 : W15.cell? ⟨w.heap.size + 1, 0, none⟩ = some (.int .i64 x2.op) := (bx2.out.cell 0).trans (by simp)
      have bx2c1 : W15.cell? ⟨w.heap.size + 1, 1, none⟩ = some (.int .i64 x2.ct) := (bx2.out.cell 1).trans (by simp)
      have bx2c2 : W15.cell? ⟨w.heap.size + 1, 2, none⟩ = some (.int .i64 x2.n) := (bx2.out.cell 2).trans (by simp)
      have bx2c3 : W15.cell? ⟨w.heap.size + 1, 3, none⟩ = some (.int .i64 x2.m) := (bx2.out.cell 3).trans (by simp)
      have bx2c4 : W15.cell? ⟨w.heap.size + 1, 4, none⟩ = some (.int .i64 x2.va) := (bx2.out.cell 4).trans (by simp)
      have bx2c5 : W15.cell? ⟨w.heap.size + 1, 5, none⟩ = some (.slice A2 x2.ks.length cap2) := (bx2.out.cell 5).trans (by simp)
      have bx2lt : w.heap.size + 1 < W15.heap.size := bx2.out.lt
      go_wp2_with fail
      clear bx1c0 bx1c1 bx2c0 bx2c1 bx2c2 bx2c3 bx2c4 bx2c5 bx1lt bx2lt
      obtain ⟨W17, hW⟩ : ∃ X, X = W15.alloc (.cells #[.int .i64 x2.op, .int .i64 x2.ct, .int .i64 x2.n, .int .i64 x2.m, .int .i64 x2.va, .slice B2 x2.ks.length bap2] 37) := ⟨_, rfl⟩
      have hb17 : Below W15.heap.size W15 W17 := by rw [hW]; exact (Below.refl _ _).alloc (Nat.le_refl _) _
      have xb2 : Hid (Blk W17 W15.heap.size 37 #[.int .i64 x2.op, .int .i64 x2.ct, .int .i64 x2.n, .int .i64 x2.m, .int .i64 x2.va, .slice B2 x2.ks.length bap2]) := by rw [hW]; exact Blk.new _ _ _
      rw [← hW]
      clear hW
      have hB18 := hB16.trans (hb17.mono hB16.size)
      have bx1n : Hid (Blk W17 (w.heap.size) 24 #[.int .i64 x1.d, .int .i64 x1.i]) := bx1.out.same (hb17.block _ bx1.out.lt)
      clear bx1
      have bx1 := bx1n
      clear bx1n
      have bx2n : Hid (Blk W17 (w.heap.size + 1) 27 #[.int .i64 x2.op, .int .i64 x2.ct, .int .i64 x2.n, .int .i64 x2.m, .int .i64 x2.va, .slice A2 x2.ks.length cap2]) := bx2.out.same (hb17.block _ bx2.out.lt)
      clear bx2
      have bx2 := bx2n
      clear bx2n
      have X0n := Lib.hid (ArrDt.below X0.out hb17 Y0.out)
      have Y0n := Lib.hid (Y0.out.mono hb17.size)
      clear X0 Y0
      have X0 := X0n
      have Y0 := Y0n
      clear X0n Y0n
      have X2n := Lib.hid (X2.out.below hb17 Y2.out)
      have Y2n := Lib.hid (Y2.out.mono hb17.size)
      clear X2 Y2
      have X2 := X2n
      have Y2 := Y2n
      clear X2n Y2n
      have bx1c0 : W17.cell? ⟨w.heap.size, 0, none⟩ = some (.int .i64 x1.d) := (bx1.out.cell 0).trans (by simp)
      have bx1c1 : W17.cell? ⟨w.heap.size, 1, none⟩ = some (.int .i64 x1.i) := (bx1.out.cell 1).trans (by simp)
      have bx1lt : w.heap.size < W17.heap.size := bx1.out.lt
      have bx2c0 : W17.cell? ⟨w.heap.size + 1, 0, none⟩ = some (.int .i64 x2.op) := (bx2.out.cell 0).trans (by simp)
      have bx2c1 : W17.cell? ⟨w.heap.size + 1, 1, none⟩ = some (.int .i64 x2.ct) := (bx2.out.cell 1).trans (by simp)
      have bx2c2 : W17.cell? ⟨w.heap.size + 1, 2, none⟩ = some (.int .i64 x2.n) := (bx2.out.cell 2).trans (by simp)
      have bx2c3 : W17.cell? ⟨w.heap.size + 1, 3, none⟩ = some (.int .i64 x2.m) := (bx2.out.cell 3).trans (by simp)
      have bx2c4 : W17.cell? ⟨w.heap.size + 1, 4, none⟩ = some (.int .i64 x2.va) := (bx2.out.cell 4).trans (by simp)
      have bx2c5 : W17.cell? ⟨w.heap.size + 1, 5, none⟩ = some (.slice A2 x2.ks.length cap2) := (bx2.out.cell 5).trans (by simp)
      have bx2lt : w.heap.size + 1 < W17.heap.size := bx2.out.lt
      have xb2c0 : W17.cell? ⟨W15.heap.size, 0, none⟩ = some (.int .i64 x2.op) := (xb2.out.cell 0).trans (by simp)
      have xb2c1 : W17.cell? ⟨W15.heap.size, 1, none⟩ = some (.int .i64 x2.ct) := (xb2.out.cell 1).trans (by simp)
      have xb2c2 : W17.cell? ⟨W15.heap.size, 2, none⟩ = some (.int .i64 x2.n) := (xb2.out.cell 2).trans (by simp)
      have xb2c3 : W17.cell? ⟨W15.heap.size, 3, none⟩ = some (.int .i64 x2.m) := (xb2.out.cell 3).trans (by simp)
      have xb2c4 : W17.cell? ⟨W15.heap.size, 4, none⟩ = some (.int .i64 x2.va) := (xb2.out.cell 4).trans (by simp)
      have xb2c5 : W17.cell? ⟨W15.heap.size, 5, none⟩ = some (.slice B2 x2.ks.length bap2) := (xb2.out.cell 5).trans (by simp)
      have xb2lt : W15.heap.size < W17.heap.size := xb2.out.lt
      go_wp2_with fail
      have hkeep : ∀ U U' : World, (U.cell? ⟨w.heap.size, 0, none⟩ = some (.int .i64 x1.d) ∧ U.cell? ⟨w.heap.size, 1, none⟩ = some (.int .i64 x1.i) ∧ U.cell? ⟨W15.heap.size, 0, none⟩ = some (.int .i64 x2.op) ∧ U.cell? ⟨W15.heap.size, 1, none⟩ = some (.int .i64 x2.ct) ∧ U.cell? ⟨W15.heap.size, 2, none⟩ = some (.int .i64 x2.n) ∧ U.cell? ⟨W15.heap.size, 3, none⟩ = some (.int .i64 x2.m) ∧ U.cell? ⟨W15.heap.size, 4, none⟩ = some (.int .i64 x2.va) ∧ U.cell? ⟨W15.heap.size, 5, none⟩ = some (.slice B2 x2.ks.length bap2)) → Below U.heap.size U U' → W17.heap.size ≤ U.heap.size → (U'.cell? ⟨w.heap.size, 0, none⟩ = some (.int .i64 x1.d) ∧ U'.cell? ⟨w.heap.size, 1, none⟩ = some (.int .i64 x1.i) ∧ U'.cell? ⟨W15.heap.size, 0, none⟩ = some (.int .i64 x2.op) ∧ U'.cell? ⟨W15.heap.size, 1, none⟩ = some (.int .i64 x2.ct) ∧ U'.cell? ⟨W15.heap.size, 2, none⟩ = some (.int .i64 x2.n) ∧ U'.cell? ⟨W15.heap.size, 3, none⟩ = some (.int .i64 x2.m) ∧ U'.cell? ⟨W15.heap.size, 4, none⟩ = some (.int .i64 x2.va) ∧ U'.cell? ⟨W15.heap.size, 5, none⟩ = some (.slice B2 x2.ks.length bap2)) := fun U U' h hb hU => ⟨(hb.cell (Nat.lt_of_lt_of_le (bx1lt) hU)).trans h.1, (hb.cell (Nat.lt_of_lt_of_le (bx1lt) hU)).trans h.2.1, (hb.cell (Nat.lt_of_lt_of_le (xb2lt) hU)).trans h.2.2.1, (hb.cell (Nat.lt_of_lt_of_le (xb2lt) hU)).trans h.2.2.2.1, (hb.cell (Nat.lt_of_lt_of_le (xb2lt) hU)).trans h.2.2.2.2.1, (hb.cell (Nat.lt_of_lt_of_le (xb2lt) hU)).trans h.2.2.2.2.2.1, (hb.cell (Nat.lt_of_lt_of_le (xb2lt) hU)).trans h.2.2.2.2.2.2.1, (hb.cell (Nat.lt_of_lt_of_le (xb2lt) hU)).trans h.2.2.2.2.2.2.2⟩
      have HKeep := Lib.hid hkeep
      clear hkeep
      go_region_held3 (fun w' => w'.cell? ⟨w.heap.size, 0, none⟩ = some (.int .i64 x1.d) ∧ w'.cell? ⟨w.heap.size, 1, none⟩ = some (.int .i64 x1.i) ∧ w'.cell? ⟨W15.heap.size, 0, none⟩ = some (.int .i64 x2.op) ∧ w'.cell? ⟨W15.heap.size, 1, none⟩ = some (.int .i64 x2.ct) ∧ w'.cell? ⟨W15.heap.size, 2, none⟩ = some (.int .i64 x2.n) ∧ w'.cell? ⟨W15.heap.size, 3, none⟩ = some (.int .i64 x2.m) ∧ w'.cell? ⟨W15.heap.size, 4, none⟩ = some (.int .i64 x2.va) ∧ w'.cell? ⟨W15.heap.size, 5, none⟩ = some (.slice B2 x2.ks.length bap2)) (first | assumption | (exact ⟨bx1c0, bx1c1, xb2c0, xb2c1, xb2c2, xb2c3, xb2c4, xb2c5⟩) | (exact HKeep.out W17.drew W19 ⟨bx1c0, bx1c1, xb2c0, xb2c1, xb2c2, xb2c3, xb2c4, xb2c5⟩ hb19 (Nat.le_refl _)) | (exact HKeep.out W19 W20 (by assumption) hb20 hleW19)) (first | (go_at_call 8; ((with_reducible refine (toType_any x1 _ _ [] (TyR.mk0 _ x1) (Under.nil _) (Ty.size_le x1)).mono ?_); rintro e W19 ⟨ds19, G19, rfl, hb19, ⟨rfl, rfl⟩, hfr19, hfs19⟩); have hB19 := hB18.drew.trans (hb19.mono hB18.drew.size); have hleW19 : W17.heap.size ≤ W19.heap.size := hb19.size) | (go_at_call 10; ((with_reducible refine (impl_FormatPattern x0 x1 x2 hs2 _ _ G13 _ G15 (ArrDt.below (ArrDt.drew X0.out) hb19 (Under.drew Y0.out)) ((Under.drew Y0.out).mono hb19.size) (X2.out.drew.below hb19 (Under.drew Y2.out)) ((Under.drew Y2.out).mono hb19.size)).mono ?_); rintro e W20 ⟨rfl, hb20⟩)))
      have hbt21_0 := hb19
      have hbt21_1 := hbt21_0.trans (hb20.mono hbt21_0.size)
      clear bx1c0 bx1c1 bx2c0 bx2c1 bx2c2 bx2c3 bx2c4 bx2c5 xb2c0 xb2c1 xb2c2 xb2c3 xb2c4 xb2c5 bx1lt bx2lt xb2lt
      have hB22 := hB18.drew.trans (hbt21_1.mono hB18.size)
      have bx1n : Hid (Blk W20 (w.heap.size) 24 #[.int .i64 x1.d, .int .i64 x1.i]) := bx1.out.same (hbt21_1.block _ bx1.out.lt)
      clear bx1
      have bx1 := bx1n
      clear bx1n
      have bx2n : Hid (Blk W20 (w.heap.size + 1) 27 #[.int .i64 x2.op, .int .i64 x2.ct, .int .i64 x2.n, .int .i64 x2.m, .int .i64 x2.va, .slice A2 x2.ks.length cap2]) := bx2.out.same (hbt21_1.block _ bx2.out.lt)
      clear bx2
      have bx2 := bx2n
      clear bx2n
      have xb2n : Hid (Blk W20 (W15.heap.size) 37 #[.int .i64 x2.op, .int .i64 x2.ct, .int .i64 x2.n, .int .i64 x2.m, .int .i64 x2.va, .slice B2 x2.ks.length bap2]) := xb2.out.same (hbt21_1.block _ xb2.out.lt)
      clear xb2
      have xb2 := xb2n
      clear xb2n
      have X0n := Lib.hid (ArrDt.below (ArrDt.drew X0.out) hbt21_1 Y0.out)
      have Y0n := Lib.hid (Y0.out.mono hbt21_1.size)
      clear X0 Y0
      have X0 := X0n
      have Y0 := Y0n
      clear X0n Y0n
      have X2n := Lib.hid (X2.out.drew.below hbt21_1 Y2.out)
      have Y2n := Lib.hid (Y2.out.mono hbt21_1.size)
      clear X2 Y2
      have X2 := X2n
      have Y2 := Y2n
      clear X2n Y2n
      rw [HRes.out]
      have hne : (r0.toList != r0.toList) = false := by simp
      have bx1c0 : W20.cell? ⟨w.heap.size, 0, none⟩ = some (.int .i64 x1.d) := (bx1.out.cell 0).trans (by simp)
      have bx1c1 : W20.cell? ⟨w.heap.size, 1, none⟩ = some (.int .i64 x1.i) := (bx1.out.cell 1).trans (by simp)
      have bx1lt : w.heap.size < W20.heap.size := bx1.out.lt
      have bx2c0 : W20.cell? ⟨w.heap.size + 1, 0, none⟩ = some (.int .i64 x2.op) := (bx2.out.cell 0).trans (by simp)
      have bx2c1 : W20.cell? ⟨w.heap.size + 1, 1, none⟩ = some (.int .i64 x2.ct) := (bx2.out.cell 1).trans (by simp)
      have bx2c2 : W20.cell? ⟨w.heap.size + 1, 2, none⟩ = some (.int .i64 x2.n) := (bx2.out.cell 2).trans (by simp)
      have bx2c3 : W20.cell? ⟨w.heap.size + 1, 3, none⟩ = some (.int .i64 x2.m) := (bx2.out.cell 3).trans (by simp)
      have bx2c4 : W20.cell? ⟨w.heap.size + 1, 4, none⟩ = some (.int .i64 x2.va) := (bx2.out.cell 4).trans (by simp)
      have bx2c5 : W20.cell? ⟨w.heap.size + 1, 5, none⟩ = some (.slice A2 x2.ks.length cap2) := (bx2.out.cell 5).trans (by simp)
      have bx2lt : w.heap.size + 1 < W20.heap.size := bx2.out.lt
      have xb2c0 : W20.cell? ⟨W15.heap.size, 0, none⟩ = some (.int .i64 x2.op) := (xb2.out.cell 0).trans (by simp)
      have xb2c1 : W20.cell? ⟨W15.heap.size, 1, none⟩ = some (.int .i64 x2.ct) := (xb2.out.cell 1).trans (by simp)
      have xb2c2 : W20.cell? ⟨W15.heap.size, 2, none⟩ = some (.int .i64 x2.n) := (xb2.out.cell 2).trans (by simp)
      have xb2c3 : W20.cell? ⟨W15.heap.size, 3, none⟩ = some (.int .i64 x2.m) := (xb2.out.cell 3).trans (by simp)
      have xb2c4 : W20.cell? ⟨W15.heap.size, 4, none⟩ = some (.int .i64 x2.va) := (xb2.out.cell 4).trans (by simp)
      have xb2c5 : W20.cell? ⟨W15.heap.size, 5, none⟩ = some (.slice B2 x2.ks.length bap2) := (xb2.out.cell 5).trans (by simp)
      have xb2lt : W15.heap.size < W20.heap.size := xb2.out.lt
      go_wp2_with fail
      clear bx1c0 bx1c1 bx2c0 bx2c1 bx2c2 bx2c3 bx2c4 bx2c5 xb2c0 xb2c1 xb2c2 xb2c3 xb2c4 xb2c5 bx1lt bx2lt xb2lt
      refine (toDataS_any x0 W20 F0 _ (ArrDt.below HR0.out hB22 HU0.out) (HU0.out.mono hB22.size) hs0).mono ?_
      rintro e W23 ⟨y23, G23, rfl, hb23, hv23, hfr23, hfs23⟩
      have hB25 := hB22.trans (hb23.mono hB22.size)
      have bx1n : Hid (Blk W23 (w.heap.size) 24 #[.int .i64 x1.d, .int .i64 x1.i]) := bx1.out.same (hb23.block _ bx1.out.lt)
      clear bx1
      have bx1 := bx1n
      clear bx1n
      have bx2n : Hid (Blk W23 (w.heap.size + 1) 27 #[.int .i64 x2.op, .int .i64 x2.ct, .int .i64 x2.n, .int .i64 x2.m, .int .i64 x2.va, .slice A2 x2.ks.length cap2]) := bx2.out.same (hb23.block _ bx2.out.lt)
      clear bx2
      have bx2 := bx2n
      clear bx2n
      have xb2n : Hid (Blk W23 (W15.heap.size) 37 #[.int .i64 x2.op, .int .i64 x2.ct, .int .i64 x2.n, .int .i64 x2.m, .int .i64 x2.va, .slice B2 x2.ks.length bap2]) := xb2.out.same (hb23.block _ xb2.out.lt)
      clear xb2
      have xb2 := xb2n
      clear xb2n
      have X0n := Lib.hid (ArrDt.below X0.out hb23 Y0.out)
      have Y0n := Lib.hid (Y0.out.mono hb23.size)
      clear X0 Y0
      have X0 := X0n
      have Y0 := Y0n
      clear X0n Y0n
      have X2n := Lib.hid (X2.out.below hb23 Y2.out)
      have Y2n := Lib.hid (Y2.out.mono hb23.size)
      clear X2 Y2
      have X2 := X2n
      have Y2 := Y2n
      clear X2n Y2n
      have bx1c0 : W23.cell? ⟨w.heap.size, 0, none⟩ = some (.int .i64 x1.d) := (bx1.out.cell 0).trans (by simp)
      have bx1c1 : W23.cell? ⟨w.heap.size, 1, none⟩ = some (.int .i64 x1.i) := (bx1.out.cell 1).trans (by simp)
      have bx1lt : w.heap.size < W23.heap.size := bx1.out.lt
      have bx2c0 : W23.cell? ⟨w.heap.size + 1, 0, none⟩ = some (.int .i64 x2.op) := (bx2.out.cell 0).trans (by simp)
      have bx2c1 : W23.cell? ⟨w.heap.size + 1, 1, none⟩ = some (.int .i64 x2.ct) := (bx2.out.cell 1).trans (by simp)
      have bx2c2 : W23.cell? ⟨w.heap.size + 1, 2, none⟩ = some (.int .i64 x2.n) := (bx2.out.cell 2).trans (by simp)
      have bx2c3 : W23.cell? ⟨w.heap.size + 1, 3, none⟩ = some (.int .i64 x2.m) := (bx2.out.cell 3).trans (by simp)
      have bx2c4 : W23.cell? ⟨w.heap.size + 1, 4, none⟩ = some (.int .i64 x2.va) := (bx2.out.cell 4).trans (by simp)
      have bx2c5 : W23.cell? ⟨w.heap.size + 1, 5, none⟩ = some (.slice A2 x2.ks.length cap2) := (bx2.out.cell 5).trans (by simp)
      have bx2lt : w.heap.size + 1 < W23.heap.size := bx2.out.lt
      have xb2c0 : W23.cell? ⟨W15.heap.size, 0, none⟩ = some (.int .i64 x2.op) := (xb2.out.cell 0).trans (by simp)
      have xb2c1 : W23.cell? ⟨W15.heap.size, 1, none⟩ = some (.int .i64 x2.ct) := (xb2.out.cell 1).trans (by simp)
      have xb2c2 : W23.cell? ⟨W15.heap.size, 2, none⟩ = some (.int .i64 x2.n) := (xb2.out.cell 2).trans (by simp)
      have xb2c3 : W23.cell? ⟨W15.heap.size, 3, none⟩ = some (.int .i64 x2.m) := (xb2.out.cell 3).trans (by simp)
      have xb2c4 : W23.cell? ⟨W15.heap.size, 4, none⟩ = some (.int .i64 x2.va) := (xb2.out.cell 4).trans (by simp)
      have xb2c5 : W23.cell? ⟨W15.heap.size, 5, none⟩ = some (.slice B2 x2.ks.length bap2) := (xb2.out.cell 5).trans (by simp)
      have xb2lt : W15.heap.size < W23.heap.size := xb2.out.lt
      go_wp2_with fail
      clear bx1c0 bx1c1 bx2c0 bx2c1 bx2c2 bx2c3 bx2c4 bx2c5 xb2c0 xb2c1 xb2c2 xb2c3 xb2c4 xb2c5 bx1lt bx2lt xb2lt
      refine (eqDataS_any x0 W23 G13 G23 _ _ X0.out hv23 Y0.out hfs23.under).mono ?_
      rintro e W24 ⟨rfl, hb24⟩
      have hB26 := hB25.trans (hb24.mono hB25.size)
      have bx1n : Hid (Blk W24 (w.heap.size) 24 #[.int .i64 x1.d, .int .i64 x1.i]) := bx1.out.same (hb24.block _ bx1.out.lt)
      clear bx1
      have bx1 := bx1n
      clear bx1n
      have bx2n : Hid (Blk W24 (w.heap.size + 1) 27 #[.int .i64 x2.op, .int .i64 x2.ct, .int .i64 x2.n, .int .i64 x2.m, .int .i64 x2.va, .slice A2 x2.ks.length cap2]) := bx2.out.same (hb24.block _ bx2.out.lt)
      clear bx2
      have bx2 := bx2n
      clear bx2n
      have xb2n : Hid (Blk W24 (W15.heap.size) 37 #[.int .i64 x2.op, .int .i64 x2.ct, .int .i64 x2.n, .int .i64 x2.m, .int .i64 x2.va, .slice B2 x2.ks.length bap2]) := xb2.out.same (hb24.block _ xb2.out.lt)
      clear xb2
      have xb2 := xb2n
      clear xb2n
      have X0n := Lib.hid (ArrDt.below X0.out hb24 Y0.out)
      have Y0n := Lib.hid (Y0.out.mono hb24.size)
      clear X0 Y0
      have X0 := X0n
      have Y0 := Y0n
      clear X0n Y0n
      have X2n := Lib.hid (X2.out.below hb24 Y2.out)
      have Y2n := Lib.hid (Y2.out.mono hb24.size)
      clear X2 Y2
      have X2 := X2n
      have Y2 := Y2n
      clear X2n Y2n
      have bx1c0 : W24.cell? ⟨w.heap.size, 0, none⟩ = some (.int .i64 x1.d) := (bx1.out.cell 0).trans (by simp)
      have bx1c1 : W24.cell? ⟨w.heap.size, 1, none⟩ = some (.int .i64 x1.i) := (bx1.out.cell 1).trans (by simp)
      have bx1lt : w.heap.size < W24.heap.size := bx1.out.lt
      have bx2c0 : W24.cell? ⟨w.heap.size + 1, 0, none⟩ = some (.int .i64 x2.op) := (bx2.out.cell 0).trans (by simp)
      have bx2c1 : W24.cell? ⟨w.heap.size + 1, 1, none⟩ = some (.int .i64 x2.ct) := (bx2.out.cell 1).trans (by simp)
      have bx2c2 : W24.cell? ⟨w.heap.size + 1, 2, none⟩ = some (.int .i64 x2.n) := (bx2.out.cell 2).trans (by simp)
      have bx2c3 : W24.cell? ⟨w.heap.size + 1, 3, none⟩ = some (.int .i64 x2.m) := (bx2.out.cell 3).trans (by simp)
      have bx2c4 : W24.cell? ⟨w.heap.size + 1, 4, none⟩ = some (.int .i64 x2.va) := (bx2.out.cell 4).trans (by simp)
      have bx2c5 : W24.cell? ⟨w.heap.size + 1, 5, none⟩ = some (.slice A2 x2.ks.length cap2) := (bx2.out.cell 5).trans (by simp)
      have bx2lt : w.heap.size + 1 < W24.heap.size := bx2.out.lt
      have xb2c0 : W24.cell? ⟨W15.heap.size, 0, none⟩ = some (.int .i64 x2.op) := (xb2.out.cell 0).trans (by simp)
      have xb2c1 : W24.cell? ⟨W15.heap.size, 1, none⟩ = some (.int .i64 x2.ct) := (xb2.out.cell 1).trans (by simp)
      have xb2c2 : W24.cell? ⟨W15.heap.size, 2, none⟩ = some (.int .i64 x2.n) := (xb2.out.cell 2).trans (by simp)
      have xb2c3 : W24.cell? ⟨W15.heap.size, 3, none⟩ = some (.int .i64 x2.m) := (xb2.out.cell 3).trans (by simp)
      have xb2c4 : W24.cell? ⟨W15.heap.size, 4, none⟩ = some (.int .i64 x2.va) := (xb2.out.cell 4).trans (by simp)
      have xb2c5 : W24.cell? ⟨W15.heap.size, 5, none⟩ = some (.slice B2 x2.ks.length bap2) := (xb2.out.cell 5).trans (by simp)
      have xb2lt : W15.heap.size < W24.heap.size := xb2.out.lt
      go_wp2_with fail
      have hkeep : ∀ U U' : World, (U.cell? ⟨W15.heap.size, 0, none⟩ = some (.int .i64 x2.op) ∧ U.cell? ⟨W15.heap.size, 1, none⟩ = some (.int .i64 x2.ct) ∧ U.cell? ⟨W15.heap.size, 2, none⟩ = some (.int .i64 x2.n) ∧ U.cell? ⟨W15.heap.size, 3, none⟩ = some (.int .i64 x2.m) ∧ U.cell? ⟨W15.heap.size, 4, none⟩ = some (.int .i64 x2.va) ∧ U.cell? ⟨W15.heap.size, 5, none⟩ = some (.slice B2 x2.ks.length bap2) ∧ U.cell? ⟨w.heap.size + 1, 0, none⟩ = some (.int .i64 x2.op) ∧ U.cell? ⟨w.heap.size + 1, 1, none⟩ = some (.int .i64 x2.ct) ∧ U.cell? ⟨w.heap.size + 1, 2, none⟩ = some (.int .i64 x2.n) ∧ U.cell? ⟨w.heap.size + 1, 3, none⟩ = some (.int .i64 x2.m) ∧ U.cell? ⟨w.heap.size + 1, 4, none⟩ = some (.int .i64 x2.va) ∧ U.cell? ⟨w.heap.size + 1, 5, none⟩ = some (.slice A2 x2.ks.length cap2)) → Below U.heap.size U U' → W24.heap.size ≤ U.heap.size → (U'.cell? ⟨W15.heap.size, 0, none⟩ = some (.int .i64 x2.op) ∧ U'.cell? ⟨W15.heap.size, 1, none⟩ = some (.int .i64 x2.ct) ∧ U'.cell? ⟨W15.heap.size, 2, none⟩ = some (.int .i64 x2.n) ∧ U'.cell? ⟨W15.heap.size, 3, none⟩ = some (.int .i64 x2.m) ∧ U'.cell? ⟨W15.heap.size, 4, none⟩ = some (.int .i64 x2.va) ∧ U'.cell? ⟨W15.heap.size, 5, none⟩ = some (.slice B2 x2.ks.length bap2) ∧ U'.cell? ⟨w.heap.size + 1, 0, none⟩ = some (.int .i64 x2.op) ∧ U'.cell? ⟨w.heap.size + 1, 1, none⟩ = some (.int .i64 x2.ct) ∧ U'.cell? ⟨w.heap.size + 1, 2, none⟩ = some (.int .i64 x2.n) ∧ U'.cell? ⟨w.heap.size + 1, 3, none⟩ = some (.int .i64 x2.m) ∧ U'.cell? ⟨w.heap.size + 1, 4, none⟩ = some (.int .i64 x2.va) ∧ U'.cell? ⟨w.heap.size + 1, 5, none⟩ = some (.slice A2 x2.ks.length cap2)) := fun U U' h hb hU => ⟨(hb.cell (Nat.lt_of_lt_of_le (xb2lt) hU)).trans h.1, (hb.cell (Nat.lt_of_lt_of_le (xb2lt) hU)).trans h.2.1, (hb.cell (Nat.lt_of_lt_of_le (xb2lt) hU)).trans h.2.2.1, (hb.cell (Nat.lt_of_lt_of_le (xb2lt) hU)).trans h.2.2.2.1, (hb.cell (Nat.lt_of_lt_of_le (xb2lt) hU)).trans h.2.2.2.2.1, (hb.cell (Nat.lt_of_lt_of_le (xb2lt) hU)).trans h.2.2.2.2.2.1, (hb.cell (Nat.lt_of_lt_of_le (bx2lt) hU)).trans h.2.2.2.2.2.2.1, (hb.cell (Nat.lt_of_lt_of_le (bx2lt) hU)).trans h.2.2.2.2.2.2.2.1, (hb.cell (Nat.lt_of_lt_of_le (bx2lt) hU)).trans h.2.2.2.2.2.2.2.2.1, (hb.cell (Nat.lt_of_lt_of_le (bx2lt) hU)).trans h.2.2.2.2.2.2.2.2.2.1, (hb.cell (Nat.lt_of_lt_of_le (bx2lt) hU)).trans h.2.2.2.2.2.2.2.2.2.2.1, (hb.cell (Nat.lt_of_lt_of_le (bx2lt) hU)).trans h.2.2.2.2.2.2.2.2.2.2.2⟩
      have HKeep := Lib.hid hkeep
      clear hkeep
      go_region_held3 (fun w' => w'.cell? ⟨W15.heap.size, 0, none⟩ = some (.int .i64 x2.op) ∧ w'.cell? ⟨W15.heap.size, 1, none⟩ = some (.int .i64 x2.ct) ∧ w'.cell? ⟨W15.heap.size, 2, none⟩ = some (.int .i64 x2.n) ∧ w'.cell? ⟨W15.heap.size, 3, none⟩ = some (.int .i64 x2.m) ∧ w'.cell? ⟨W15.heap.size, 4, none⟩ = some (.int .i64 x2.va) ∧ w'.cell? ⟨W15.heap.size, 5, none⟩ = some (.slice B2 x2.ks.length bap2) ∧ w'.cell? ⟨w.heap.size + 1, 0, none⟩ = some (.int .i64 x2.op) ∧ w'.cell? ⟨w.heap.size + 1, 1, none⟩ = some (.int .i64 x2.ct) ∧ w'.cell? ⟨w.heap.size + 1, 2, none⟩ = some (.int .i64 x2.n) ∧ w'.cell? ⟨w.heap.size + 1, 3, none⟩ = some (.int .i64 x2.m) ∧ w'.cell? ⟨w.heap.size + 1, 4, none⟩ = some (.int .i64 x2.va) ∧ w'.cell? ⟨w.heap.size + 1, 5, none⟩ = some (.slice A2 x2.ks.length cap2)) (first | assumption | (exact ⟨xb2c0, xb2c1, xb2c2, xb2c3, xb2c4, xb2c5, bx2c0, bx2c1, bx2c2, bx2c3, bx2c4, bx2c5⟩) | (exact HKeep.out W24.drew W27 ⟨xb2c0, xb2c1, xb2c2, xb2c3, xb2c4, xb2c5, bx2c0, bx2c1, bx2c2, bx2c3, bx2c4, bx2c5⟩ hb27 (Nat.le_refl _)) | (exact HKeep.out W27 W28 (by assumption) hb28 hleW27)) (first | (go_at_call 9; ((with_reducible refine (toPattern_any x2 _ _ F2 (HR2.out.below hB26.drew HU2.out) (HU2.out.mono hB26.drew.size) hs2).mono ?_); rintro e W27 ⟨ds27, G27, rfl, hb27, hv27, hfr27, hfs27⟩); have hleW27 : W24.heap.size ≤ W27.heap.size := hb27.size) | (go_at_call 12; ((with_reducible refine (eqPattern_any x2 _ _ _ G15 G27 (X2.out.drew.below hb27 (Under.drew Y2.out)) hv27 ((Under.drew Y2.out).mono hb27.size) hfs27.under).mono ?_); rintro e W28 ⟨rfl, hb28⟩)))
      have hbt28 := hb27.trans (hb28.mono hb27.size)
      clear bx1c0 bx1c1 bx2c0 bx2c1 bx2c2 bx2c3 bx2c4 bx2c5 xb2c0 xb2c1 xb2c2 xb2c3 xb2c4 xb2c5 bx1lt bx2lt xb2lt
      have hB29 := hB26.drew.trans (hbt28.mono hB26.size)
      have bx1n : Hid (Blk W28 (w.heap.size) 24 #[.int .i64 x1.d, .int .i64 x1.i]) := bx1.out.same (hbt28.block _ bx1.out.lt)
      clear bx1
      have bx1 := bx1n
      clear bx1n
      have bx2n : Hid (Blk W28 (w.heap.size + 1) 27 #[.int .i64 x2.op, .int .i64 x2.ct, .int .i64 x2.n, .int .i64 x2.m, .int .i64 x2.va, .slice A2 x2.ks.length cap2]) := bx2.out.same (hbt28.block _ bx2.out.lt)
      clear bx2
      have bx2 := bx2n
      clear bx2n
      have xb2n : Hid (Blk W28 (W15.heap.size) 37 #[.int .i64 x2.op, .int .i64 x2.ct, .int .i64 x2.n, .int .i64 x2.m, .int .i64 x2.va, .slice B2 x2.ks.length bap2]) := xb2.out.same (hbt28.block _ xb2.out.lt)
      clear xb2
      have xb2 := xb2n
      clear xb2n
      have X0n := Lib.hid (ArrDt.below (ArrDt.drew X0.out) hbt28 Y0.out)
      have Y0n := Lib.hid (Y0.out.mono hbt28.size)
      clear X0 Y0
      have X0 := X0n
      have Y0 := Y0n
      clear X0n Y0n
      have X2n := Lib.hid (X2.out.drew.below hbt28 Y2.out)
      have Y2n := Lib.hid (Y2.out.mono hbt28.size)
      clear X2 Y2
      have X2 := X2n
      have Y2 := Y2n
      clear X2n Y2n
      go_wp2
      go_ret
      exact ⟨rfl, hB29⟩
    · rw [show szLeft x2.size (1048576 - ((Dt.sizes x0) : Int)) = -1 from if_neg hz2]
      go_wp2
      go_ret
      exact ⟨rfl, hB6⟩
  · rw [show szLeft (Dt.sizes x0) (1048576) = -1 from if_neg hz0]
    go_wp2
    go_ret
    exact ⟨rfl, hB4⟩
end Go.Proofs.YtilndhmegaccmaaGreatDoor.fnExactFormatPattern

namespace Go.Proofs.YtilndhmegaccmaaGreatDoor.fnExactFormatPattern
open Go.ChangeShapes Go.WideShapes Go.ChangeAt Go.RowKit
open Go.ChangeMaps (open_string shut_string)
set_option linter.unusedVariables false

theorem own : ownKnob Tryz.prog.godebug = none := by kernel_rfl
theorem laidOut : laidOutB Tryz.prog = true := by kernel_rfl
theorem door_met (os : Os) (args : Array Value) : laidMetH Tryz.prog Rows.fnExactFormatPatternRow.laid ((World.doorLaid Tryz.prog 24 os).forCall (fun _ _ => 0) ⟨#[], args, []⟩).memory :=
  laidMetH_of_parts3 (fuel := 8) (laidMet_of_run' 8 (by kernel_rfl) (by kernel_rfl)) (by kernel_rfl) (by kernel_rfl)

set_option maxRecDepth 100000 in
theorem lifted (os : Os) (started : os.Started) (H : Type) (enc : TypeId × Value → H) :
    ReturnsInHanded {} Tryz.checked os 3 .any (fun w args => (Rows.fnExactFormatPatternSpec.pre enc Tryz.prog Tryz.f3 [] false w args ∧ laidMetH Tryz.prog Rows.fnExactFormatPatternRow.laid w) ∧ sizedMet enc Tryz.prog Tryz.f3 (OpenSpec.ofChange Rows.fnExactFormatPatternSpec) false w args)
      (Rows.fnExactFormatPatternSpec.post enc Tryz.prog Tryz.f3 false true false false) := by
  refine returnsInHanded_of_change_and (C := Tryz.checked) (X := fun w _ => laidMetH Tryz.prog Rows.fnExactFormatPatternRow.laid w) (fun _ _ _ hh h => h.of_heap hh) own started (by kernel_rfl) Tryz.func3
    (ChangeSpec.witness_shaped (enc := enc) (C := Tryz.checked) (os := os) (X := fun w _ => laidMetH Tryz.prog Rows.fnExactFormatPatternRow.laid w) false (World.doorLaid Tryz.prog 24 os) #[.slice none 0 0, .agg #[.int .i64 0, .int .i64 0], .agg #[.int .i64 0, .int .i64 0, .int .i64 0, .int .i64 0, .int .i64 0, .slice none 0 0]] 8 rfl (World.shaped_of_RefB (by kernel_rfl) (by kernel_rfl)) (by kernel_rfl) (by kernel_rfl) (by kernel_rfl) (door_met os _)) ?_
  intro W base args ds gs before hval0 hW _ _ _ _
  have hval : ∀ (j : Nat) t v, Tryz.f3.params[j]? = some t → args[j]? = some v → Value.okWide Tryz.prog W .any base t v := hval0
  have hW' := hW
  obtain ⟨p, q, hA0, hV, rfl, hfz, hnd⟩ := hW
  have hA : DataW.TrodAll enc Tryz.prog W 0 (fun _ => true) true Tryz.f3.params.toList args.toList ds p := hA0
  rw [Tryz.params3] at hA hval
  obtain ⟨v0, vs0, d0, ds0, p0, q0, hargs, rfl, rfl, h0, r0⟩ := trodAll_cons hA
  obtain ⟨v1, vs1, d1, ds1, p1, q1, rfl, rfl, rfl, h1, r1⟩ := trodAll_cons r0
  obtain ⟨v2, vs2, d2, ds2, p2, q2, rfl, rfl, rfl, h2, r2⟩ := trodAll_cons r1
  obtain ⟨rfl, rfl, rfl⟩ := trodAll_nil r2
  obtain rfl : args = #[v0, v1, v2] := by cases args; simp_all
  obtain ⟨rfl, rfl⟩ := trodVars_none hV
  have k0 := h0
  have lt0 : ∀ x ∈ p0, x.block < W.heap.size := by obtain ⟨m, hm⟩ := k0; exact DataW.trod_lt m _ _ _ hm
  have k1 := h1
  have lt1 : ∀ x ∈ p1, x.block < W.heap.size := by obtain ⟨m, hm⟩ := k1; exact DataW.trod_lt m _ _ _ hm
  have k2 := h2
  have lt2 : ∀ x ∈ p2, x.block < W.heap.size := by obtain ⟨m, hm⟩ := k2; exact DataW.trod_lt m _ _ _ hm
  obtain ⟨x0, F0, hR0, hU0⟩ := open_Dts (hval 0 22 v0 rfl rfl) h0
  obtain ⟨x1, cs1, F1, rfl, hR1, hU1⟩ := open_Ty (hval 1 24 v1 rfl rfl) h1
  obtain ⟨x2, cs2, F2, rfl, hR2, hU2⟩ := open_P (hval 2 27 v2 rfl rfl) h2
  clear hA0 hval0
  refine (walk x0 v0 F0 hR0 hU0 x1 cs1 F1 hR1 hU1 x2 cs2 F2 hR2 hU2 W rfl).mono fun e W' ⟨he, bel⟩ => ?_
  subst he
  exact ⟨_, rfl, _, _, _, [], _, [], hW', trodAll_mk1 (shut_bool Tryz.underlying4 _), (trodAll_cons_mk (Below.trod laidOut (by kernel_rfl) (of_decide_eq_true (by kernel_rfl)) k0 bel lt0) (trodAll_cons_mk (Below.trod laidOut (by kernel_rfl) (of_decide_eq_true (by kernel_rfl)) k1 bel lt1) (trodAll_cons_mk (Below.trod laidOut (by kernel_rfl) (of_decide_eq_true (by kernel_rfl)) k2 bel lt2) trodAll_mk0))), rfl, bel.frame _, fun h => by cases h⟩

theorem over : Rows.fnExactFormatPatternRow.holds Tryz.pinned (OpenSpec.ofChange Rows.fnExactFormatPatternSpec) :=
  OpenClaim.holds_of_wide 3 Tryz.f3 rfl rfl rfl rfl rfl rfl rfl ⟨rfl, rfl, rfl, rfl, rfl⟩ rfl rfl rfl rfl rfl (by kernel_rfl) Tryz.func3 (by kernel_rfl)
    (of_decide_eq_true (by kernel_rfl)) (by unfold Func.isWrapper; first | (rw [if_pos (by decide +kernel)]; kernel_rfl) | (rw [if_neg (by decide +kernel)]; exact ⟨rfl, rfl⟩))
    (fun os started H enc _ => lifted os started H enc)

theorem proved : Rows.FnExactFormatPatternCardSaid :=
  Claim7.holds_tied_plain_at .later _ _ _ _ _
    over (fun _ h => by cases h) (by kernel_rfl) (fun _ h => by cases h) fnExactFormatPattern_row_tie rfl ⟨rfl, rfl⟩ (by kernel_rfl) rfl
    (fun f fn hf hfn => by
      obtain rfl : f = 3 := Option.some.inj ((show Tryz.prog.funcNamed "loop.example/matchcompiler/laws.FnExactFormatPattern" = some 3 by kernel_rfl).symm.trans hf) |>.symm
      obtain rfl : fn = Tryz.f3 := (Option.some.inj (Tryz.func3.symm.trans hfn)).symm
      exact ⟨by kernel_rfl, fun j t ht => by
        rw [Tryz.params3] at ht
        have hm : t ∈ [22, 24, 27] := by simpa using Array.mem_of_getElem? ht
        have hall : ([22, 24, 27].all fun u => !Tryz.prog.wantsStandIn u) = true := by kernel_rfl
        exact (show Tryz.prog.wantsStandIn t = false by simpa using List.all_eq_true.1 hall t hm)⟩)
    (by kernel_rfl)
end Go.Proofs.YtilndhmegaccmaaGreatDoor.fnExactFormatPattern
