/-
  FnExactValuesUpTo: for every argument the law returns true. Conditions: none.
-/
import Derived.Test.YtilndhmegaccmaaKAA
import Derived.Test.YtilndhmegaccmaaKAF
import Derived.Test.YtilndhmegaccmaaKAG
import Derived.Test.YtilndhmegaccmaaKAH
import Derived.Deep.RegionWith
import Derived.Deep.RegionHeld3
import Derived.BigQuiet
import Derived.Test.YtilndhmegaccmaaRows
import Derived.ProofKit
import Derived.OpenShut
import Derived.ShutString
import Derived.ChangeOld
import Derived.Below

set_option linter.unusedVariables false
set_option linter.unusedSimpArgs false

namespace Go.Proofs.Ytilndhmegaccmaa.fnExactValuesUpTo
open Go.RowKit

set_option maxRecDepth 100000 in
set_option maxHeartbeats 3200000 in
theorem walk {W : World} (x0 : List Dt) (v0 : Value) (F0 : List Nat) (hR0 : Arr W (DtR W) x0 v0 F0) (hU0 : Under W.heap.size F0) (x1 : Ty) (cs1 : List Value) (F1 : List Nat) (hR1 : TyR W x1 cs1 F1) (hU1 : Under W.heap.size F1) (x2 : Int) (wf2 : (Lit.int .i64 x2).wf = true) (w : World) (hw : w = W) :
    Calls Try.prog 5 #[v0, .agg cs1.toArray, .int .i64 x2] w fun e w' => e = .returned (.bool true) ∧ Below w.heap.size w w' := by
  subst hw
  obtain ⟨A0, cap0, rfl, -, -⟩ := hR0.form
  obtain ⟨rfl, rfl⟩ := hR1
  have HR0 := Lib.hid hR0
  have HU0 := Lib.hid hU0
  clear hR0 hU0
  go_enter Try.func5, Try.ntmps5
  go_wp2_with fail
  have hB0 : Below w.heap.size w w := Below.refl _ _
  obtain ⟨W1, hW⟩ : ∃ X, X = (w.alloc (.cells #[.int .i64 x1.d, .int .i64 x1.i] 37)) := ⟨_, rfl⟩
  have hb1 : Below w.heap.size w W1 := by rw [hW]; exact ((Below.refl w.heap.size w).alloc (by simp <;> omega) _)
  have bx1 : Hid (Blk W1 (w.heap.size) 37 #[.int .i64 x1.d, .int .i64 x1.i]) := by
    rw [hW]
    have h0 := Blk.new w 37 #[.int .i64 x1.d, .int .i64 x1.i]
    exact (h0)
  rw [← hW]
  clear hW
  have hB2 := hB0.trans (hb1.mono hB0.size)
  refine (szDataS_any x0 W1 F0 _ (1048576) (ArrDt.below HR0.out hB2 HU0.out) (HU0.out.mono hB2.size) (by omega) (by omega)).mono ?_
  rintro e W3 ⟨rfl, hb3⟩
  have hB4 := hB2.trans (hb3.mono hB2.size)
  have bx1n : Hid (Blk W3 (w.heap.size) 37 #[.int .i64 x1.d, .int .i64 x1.i]) := bx1.out.same (hb3.block _ bx1.out.lt)
  clear bx1
  have bx1 := bx1n
  clear bx1n
  by_cases hz0 : ((Dt.sizes x0) : Int) ≤ 1048576
  · rw [show szLeft (Dt.sizes x0) (1048576) = 1048576 - ((Dt.sizes x0) : Int) from if_pos hz0]
    have hnn0 : 0 ≤ 1048576 - ((Dt.sizes x0) : Int) := by omega
    have hs0 : (Dt.sizes x0) ≤ 1048576 := by omega
    have bx1c0 : W3.cell? ⟨w.heap.size, 0, none⟩ = some (.int .i64 x1.d) := (bx1.out.cell 0).trans (by simp)
    have bx1c1 : W3.cell? ⟨w.heap.size, 1, none⟩ = some (.int .i64 x1.i) := (bx1.out.cell 1).trans (by simp)
    have bx1lt : w.heap.size < W3.heap.size := bx1.out.lt
    go_wp2_with fail
    have SB5_bx1 := Lib.hid bx1.out.lt
    have hkeep : ∀ U U' : World, (U.cell? ⟨w.heap.size, 0, none⟩ = some (.int .i64 x1.d) ∧ U.cell? ⟨w.heap.size, 1, none⟩ = some (.int .i64 x1.i)) → Below U.heap.size U U' → W3.heap.size ≤ U.heap.size → (U'.cell? ⟨w.heap.size, 0, none⟩ = some (.int .i64 x1.d) ∧ U'.cell? ⟨w.heap.size, 1, none⟩ = some (.int .i64 x1.i)) := fun U U' h hb hU => ⟨(hb.cell (Nat.lt_of_lt_of_le (bx1lt) hU)).trans h.1, (hb.cell (Nat.lt_of_lt_of_le (bx1lt) hU)).trans h.2⟩
    have HKeep := Lib.hid hkeep
    clear hkeep
    go_region_held3 (fun w' => w'.cell? ⟨w.heap.size, 0, none⟩ = some (.int .i64 x1.d) ∧ w'.cell? ⟨w.heap.size, 1, none⟩ = some (.int .i64 x1.i)) (first | assumption | (exact ⟨bx1c0, bx1c1⟩) | (exact HKeep.out W3.drew W6 ⟨bx1c0, bx1c1⟩ hb6 (Nat.le_refl _)) | (exact HKeep.out W6 W7 (by assumption) hb7 hleW6) | (exact HKeep.out W7 W8 (by assumption) hb8 hleW7)) (first | (go_at_call 19; ((with_reducible refine (toDataS_any x0 _ F0 _ (ArrDt.below HR0.out hB4.drew HU0.out) (HU0.out.mono hB4.drew.size) hs0).mono ?_); rintro e W6 ⟨y6, G6, rfl, hb6, hv6, hfr6, hfs6⟩); have hB6 := hB4.drew.trans (hb6.mono hB4.drew.size); have hleW6 : W3.heap.size ≤ W6.heap.size := hb6.size) | (go_at_call 20; ((with_reducible refine (toType_any x1 _ _ [] (TyR.mk0 _ x1) (Under.nil _) (Ty.size_le x1)).mono ?_); rintro e W7 ⟨ds7, G7, rfl, hb7, ⟨rfl, rfl⟩, hfr7, hfs7⟩); have hB7 := hB6.trans (hb7.mono hB6.size); have hleW7 : W3.heap.size ≤ W7.heap.size := Nat.le_trans hleW6 hb7.size) | (go_at_call 18; ((with_reducible refine (spec_ValuesUpTo x0 x1 x2 _ _ G6 (ArrDt.below hv6 hb7 hfs6.under) (hfs6.under.mono hb7.size)).mono ?_); rintro e W8 ⟨vr_w0, F_w0, rfl, hb8, ha_w0, hfr_w0, hfs_w0⟩)))
    have hbt9_0 := hb6
    have hbt9_1 := hbt9_0.trans (hb7.mono hbt9_0.size)
    have hbt9_2 := hbt9_1.trans (hb8.mono hbt9_1.size)
    clear bx1c0 bx1c1 bx1lt
    have hfz_w0 : Fresh W3 W8 F_w0 := fun b hb => ⟨Nat.le_trans hbt9_1.size (hfs_w0 b hb).1, (hfs_w0 b hb).2⟩
    have nb_bx1_w0 := Lib.hid (fun (hj : _ ∈ F_w0) => Nat.lt_irrefl _ (Nat.lt_of_lt_of_le SB5_bx1.out (hfz_w0 _ hj).1))
    have LB_w0 := Lib.hid (fun b (hj : b ∈ F_w0) => Nat.le_trans hB4.size (hfz_w0 b hj).1)
    have X_w0 := Lib.hid ha_w0
    have Y_w0 := Lib.hid hfs_w0.under
    have Z_w0 := Lib.hid hfr_w0
    obtain ⟨A_w0, cap_w0, rfl, -, -⟩ := X_w0.out.form
    clear ha_w0 hfr_w0 hfs_w0 hfz_w0
    have hB10 := hB4.drew.trans (hbt9_2.mono hB4.size)
    have bx1n : Hid (Blk W8 (w.heap.size) 37 #[.int .i64 x1.d, .int .i64 x1.i]) := bx1.out.same (hbt9_2.block _ bx1.out.lt)
    clear bx1
    have bx1 := bx1n
    clear bx1n
    generalize hres : uptoV x0 x1 x2 = r0 at *
    have HRes := Lib.hid hres
    clear hres
    generalize hresb : uptoB x0 x1 x2 = rb at *
    have HResb := Lib.hid hresb
    clear hresb
    have bx1c0 : W8.cell? ⟨w.heap.size, 0, none⟩ = some (.int .i64 x1.d) := (bx1.out.cell 0).trans (by simp)
    have bx1c1 : W8.cell? ⟨w.heap.size, 1, none⟩ = some (.int .i64 x1.i) := (bx1.out.cell 1).trans (by simp)
    have bx1lt : w.heap.size < W8.heap.size := bx1.out.lt
    go_wp2_with fail
    clear bx1c0 bx1c1 bx1lt
    have SU11_w0 := Y_w0
    have SB11_bx1 := Lib.hid bx1.out.lt
    refine (toDataS_any x0 W8 F0 _ (ArrDt.below HR0.out hB10 HU0.out) (HU0.out.mono hB10.size) hs0).mono ?_
    rintro e W12 ⟨y12, G12, rfl, hb12, hv12, hfr12, hfs12⟩
    have hB13 := hB10.trans (hb12.mono hB10.size)
    have bx1n : Hid (Blk W12 (w.heap.size) 37 #[.int .i64 x1.d, .int .i64 x1.i]) := bx1.out.same (hb12.block _ bx1.out.lt)
    clear bx1
    have bx1 := bx1n
    clear bx1n
    have KP := Lib.hid (show Kept F_w0 W8 W12 from (Kept.of_below (w := W8) hb12 Y_w0.out))
    have X_w0n := Lib.hid (X_w0.out.mono KP.out (fun x _ cs G hk h => (fun w w' x cs G hk h => VR.mono (w := w) (w' := w') x cs G hk h) _ _ x cs G hk h))
    have Y_w0n := Lib.hid (Y_w0.out.mono hb12.size)
    have Z_w0n := Lib.hid (Z_w0.out.kept KP.out)
    clear X_w0 Y_w0 KP Z_w0
    have X_w0 := X_w0n
    have Y_w0 := Y_w0n
    have Z_w0 := Z_w0n
    clear X_w0n Y_w0n Z_w0n
    obtain ⟨B0, bap0, rfl, -, -⟩ := hv12.form
    have X0 := Lib.hid hv12
    have Y0 := Lib.hid hfs12.under
    have Z_x0 := Lib.hid hfr12
    have dj_w0_x0 := Lib.hid (fun b (hb : b ∈ F_w0) (hj : b ∈ G12) => Nat.lt_irrefl _ (Nat.lt_of_lt_of_le (SU11_w0.out b hb) (hfs12 b hj).1))
    have dj_x0_w0 := Lib.hid (fun b (hj : b ∈ G12) (hb : b ∈ F_w0) => Nat.lt_irrefl _ (Nat.lt_of_lt_of_le (SU11_w0.out b hb) (hfs12 b hj).1))
    have nb_bx1_x0 := Lib.hid (fun (hj : _ ∈ G12) => Nat.lt_irrefl _ (Nat.lt_of_lt_of_le SB11_bx1.out (hfs12 _ hj).1))
    have LB_x0 := Lib.hid (fun b (hj : b ∈ G12) => Nat.le_trans hB10.size (hfs12 b hj).1)
    clear hv12 hfr12 hfs12
    have bx1c0 : W12.cell? ⟨w.heap.size, 0, none⟩ = some (.int .i64 x1.d) := (bx1.out.cell 0).trans (by simp)
    have bx1c1 : W12.cell? ⟨w.heap.size, 1, none⟩ = some (.int .i64 x1.i) := (bx1.out.cell 1).trans (by simp)
    have bx1lt : w.heap.size < W12.heap.size := bx1.out.lt
    go_wp2_with fail
    have SU14_w0 := Y_w0
    have SU14_x0 := Y0
    have SB14_bx1 := Lib.hid bx1.out.lt
    clear bx1c0 bx1c1 bx1lt
    refine (toType_any x1 _ _ [] (TyR.mk0 _ x1) (Under.nil _) (Ty.size_le x1)).mono ?_
    rintro e W15 ⟨ds15, G15, rfl, hb15, ⟨rfl, rfl⟩, hfr15, hfs15⟩
    have hB15 := hB13.trans (hb15.mono hB13.size)
    have bx1c0 : W15.cell? ⟨w.heap.size, 0, none⟩ = some (.int .i64 x1.d) := ((bx1.out.same (hb15.block _ (bx1.out).lt)).cell 0).trans (by simp)
    have bx1c1 : W15.cell? ⟨w.heap.size, 1, none⟩ = some (.int .i64 x1.i) := ((bx1.out.same (hb15.block _ (bx1.out).lt)).cell 1).trans (by simp)
    have bx1lt : w.heap.size < W15.heap.size := (bx1.out.same (hb15.block _ (bx1.out).lt)).lt
    go_wp2_with fail
    refine (upto_rw HResb.out (impl_ValuesUpTo x0 x1 x2 _ _ G12 (ArrDt.below X0.out hb15 Y0.out) (Y0.out.mono hb15.size))).mono ?_
    rintro e W16 ⟨vr_g0, F_g0, rfl, hb16, ha_g0, hfr_g0, hfs_g0⟩
    have hbt17_0 := hb15
    have hbt17_1 := hbt17_0.trans (hb16.mono hbt17_0.size)
    have hfz_g0 : Fresh W12 W16 F_g0 := fun b hb => ⟨Nat.le_trans hbt17_0.size (hfs_g0 b hb).1, (hfs_g0 b hb).2⟩
    have dj_w0_g0 := Lib.hid (fun b (hb : b ∈ F_w0) (hj : b ∈ F_g0) => Nat.lt_irrefl _ (Nat.lt_of_lt_of_le (SU14_w0.out b hb) (hfz_g0 b hj).1))
    have dj_g0_w0 := Lib.hid (fun b (hj : b ∈ F_g0) (hb : b ∈ F_w0) => Nat.lt_irrefl _ (Nat.lt_of_lt_of_le (SU14_w0.out b hb) (hfz_g0 b hj).1))
    have dj_x0_g0 := Lib.hid (fun b (hb : b ∈ G12) (hj : b ∈ F_g0) => Nat.lt_irrefl _ (Nat.lt_of_lt_of_le (SU14_x0.out b hb) (hfz_g0 b hj).1))
    have dj_g0_x0 := Lib.hid (fun b (hj : b ∈ F_g0) (hb : b ∈ G12) => Nat.lt_irrefl _ (Nat.lt_of_lt_of_le (SU14_x0.out b hb) (hfz_g0 b hj).1))
    have nb_bx1_g0 := Lib.hid (fun (hj : _ ∈ F_g0) => Nat.lt_irrefl _ (Nat.lt_of_lt_of_le SB14_bx1.out (hfz_g0 _ hj).1))
    have LB_g0 := Lib.hid (fun b (hj : b ∈ F_g0) => Nat.le_trans hB13.size (hfz_g0 b hj).1)
    have X_g0 := Lib.hid ha_g0
    have Y_g0 := Lib.hid hfs_g0.under
    have Z_g0 := Lib.hid hfr_g0
    have X_g0 := (show Hid (Arr W16 (VR W16) r0 vr_g0 F_g0) from by rw [← HRes.out]; exact X_g0.out)
    obtain ⟨A_g0, cap_g0, rfl, -, -⟩ := X_g0.out.form
    clear ha_g0 hfr_g0 hfs_g0 hfz_g0
    have hB18 := hB13.trans (hbt17_1.mono hB13.size)
    have bx1n : Hid (Blk W16 (w.heap.size) 37 #[.int .i64 x1.d, .int .i64 x1.i]) := bx1.out.same (hbt17_1.block _ bx1.out.lt)
    clear bx1
    have bx1 := bx1n
    clear bx1n
    have KP := Lib.hid (show Kept F_w0 W12 W16 from (Kept.of_below (w := W12) hbt17_1 Y_w0.out))
    have X_w0n := Lib.hid (X_w0.out.mono KP.out (fun x _ cs G hk h => (fun w w' x cs G hk h => VR.mono (w := w) (w' := w') x cs G hk h) _ _ x cs G hk h))
    have Y_w0n := Lib.hid (Y_w0.out.mono hbt17_1.size)
    have Z_w0n := Lib.hid (Z_w0.out.kept KP.out)
    clear X_w0 Y_w0 KP Z_w0
    have X_w0 := X_w0n
    have Y_w0 := Y_w0n
    have Z_w0 := Z_w0n
    clear X_w0n Y_w0n Z_w0n
    have KP := Lib.hid (show Kept G12 W12 W16 from (Kept.of_below (w := W12) hbt17_1 Y0.out))
    have X0n := Lib.hid (ArrDt.mono X0.out KP.out)
    have Y0n := Lib.hid (Y0.out.mono hbt17_1.size)
    have Z_x0n := Lib.hid (Z_x0.out.kept KP.out)
    clear X0 Y0 KP Z_x0
    have X0 := X0n
    have Y0 := Y0n
    have Z_x0 := Z_x0n
    clear X0n Y0n Z_x0n
    have hne : True := trivial
    clear hne
    have hneb : (rb != rb) = false := by simp
    have bx1c0 : W16.cell? ⟨w.heap.size, 0, none⟩ = some (.int .i64 x1.d) := (bx1.out.cell 0).trans (by simp)
    have bx1c1 : W16.cell? ⟨w.heap.size, 1, none⟩ = some (.int .i64 x1.i) := (bx1.out.cell 1).trans (by simp)
    have bx1lt : w.heap.size < W16.heap.size := bx1.out.lt
    go_wp2_with fail
    clear bx1c0 bx1c1 bx1lt
    refine (eqValueS_any r0 W16 F_g0 F_w0 _ _ X_g0.out X_w0.out Y_g0.out Y_w0.out).mono ?_
    rintro e W19 ⟨rfl, hb19⟩
    have hB20 := hB18.trans (hb19.mono hB18.size)
    have bx1n : Hid (Blk W19 (w.heap.size) 37 #[.int .i64 x1.d, .int .i64 x1.i]) := bx1.out.same (hb19.block _ bx1.out.lt)
    clear bx1
    have bx1 := bx1n
    clear bx1n
    have KP := Lib.hid (show Kept F_w0 W16 W19 from (Kept.of_below (w := W16) hb19 Y_w0.out))
    have X_w0n := Lib.hid (X_w0.out.mono KP.out (fun x _ cs G hk h => (fun w w' x cs G hk h => VR.mono (w := w) (w' := w') x cs G hk h) _ _ x cs G hk h))
    have Y_w0n := Lib.hid (Y_w0.out.mono hb19.size)
    have Z_w0n := Lib.hid (Z_w0.out.kept KP.out)
    clear X_w0 Y_w0 KP Z_w0
    have X_w0 := X_w0n
    have Y_w0 := Y_w0n
    have Z_w0 := Z_w0n
    clear X_w0n Y_w0n Z_w0n
    have KP := Lib.hid (show Kept G12 W16 W19 from (Kept.of_below (w := W16) hb19 Y0.out))
    have X0n := Lib.hid (ArrDt.mono X0.out KP.out)
    have Y0n := Lib.hid (Y0.out.mono hb19.size)
    have Z_x0n := Lib.hid (Z_x0.out.kept KP.out)
    clear X0 Y0 KP Z_x0
    have X0 := X0n
    have Y0 := Y0n
    have Z_x0 := Z_x0n
    clear X0n Y0n Z_x0n
    have KP := Lib.hid (show Kept F_g0 W16 W19 from (Kept.of_below (w := W16) hb19 Y_g0.out))
    have X_g0n := Lib.hid (X_g0.out.mono KP.out (fun x _ cs G hk h => (fun w w' x cs G hk h => VR.mono (w := w) (w' := w') x cs G hk h) _ _ x cs G hk h))
    have Y_g0n := Lib.hid (Y_g0.out.mono hb19.size)
    have Z_g0n := Lib.hid (Z_g0.out.kept KP.out)
    clear X_g0 Y_g0 KP Z_g0
    have X_g0 := X_g0n
    have Y_g0 := Y_g0n
    have Z_g0 := Z_g0n
    clear X_g0n Y_g0n Z_g0n
    have bx1c0 : W19.cell? ⟨w.heap.size, 0, none⟩ = some (.int .i64 x1.d) := (bx1.out.cell 0).trans (by simp)
    have bx1c1 : W19.cell? ⟨w.heap.size, 1, none⟩ = some (.int .i64 x1.i) := (bx1.out.cell 1).trans (by simp)
    have bx1lt : w.heap.size < W19.heap.size := bx1.out.lt
    go_wp2_with fail
    clear bx1c0 bx1c1 bx1lt
    refine (toDataS_any x0 W19 F0 _ (ArrDt.below HR0.out hB20 HU0.out) (HU0.out.mono hB20.size) hs0).mono ?_
    rintro e W21 ⟨y21, G21, rfl, hb21, hv21, hfr21, hfs21⟩
    have hB23 := hB20.trans (hb21.mono hB20.size)
    have bx1n : Hid (Blk W21 (w.heap.size) 37 #[.int .i64 x1.d, .int .i64 x1.i]) := bx1.out.same (hb21.block _ bx1.out.lt)
    clear bx1
    have bx1 := bx1n
    clear bx1n
    have KP := Lib.hid (show Kept F_w0 W19 W21 from (Kept.of_below (w := W19) hb21 Y_w0.out))
    have X_w0n := Lib.hid (X_w0.out.mono KP.out (fun x _ cs G hk h => (fun w w' x cs G hk h => VR.mono (w := w) (w' := w') x cs G hk h) _ _ x cs G hk h))
    have Y_w0n := Lib.hid (Y_w0.out.mono hb21.size)
    have Z_w0n := Lib.hid (Z_w0.out.kept KP.out)
    clear X_w0 Y_w0 KP Z_w0
    have X_w0 := X_w0n
    have Y_w0 := Y_w0n
    have Z_w0 := Z_w0n
    clear X_w0n Y_w0n Z_w0n
    have KP := Lib.hid (show Kept G12 W19 W21 from (Kept.of_below (w := W19) hb21 Y0.out))
    have X0n := Lib.hid (ArrDt.mono X0.out KP.out)
    have Y0n := Lib.hid (Y0.out.mono hb21.size)
    have Z_x0n := Lib.hid (Z_x0.out.kept KP.out)
    clear X0 Y0 KP Z_x0
    have X0 := X0n
    have Y0 := Y0n
    have Z_x0 := Z_x0n
    clear X0n Y0n Z_x0n
    have KP := Lib.hid (show Kept F_g0 W19 W21 from (Kept.of_below (w := W19) hb21 Y_g0.out))
    have X_g0n := Lib.hid (X_g0.out.mono KP.out (fun x _ cs G hk h => (fun w w' x cs G hk h => VR.mono (w := w) (w' := w') x cs G hk h) _ _ x cs G hk h))
    have Y_g0n := Lib.hid (Y_g0.out.mono hb21.size)
    have Z_g0n := Lib.hid (Z_g0.out.kept KP.out)
    clear X_g0 Y_g0 KP Z_g0
    have X_g0 := X_g0n
    have Y_g0 := Y_g0n
    have Z_g0 := Z_g0n
    clear X_g0n Y_g0n Z_g0n
    have bx1c0 : W21.cell? ⟨w.heap.size, 0, none⟩ = some (.int .i64 x1.d) := (bx1.out.cell 0).trans (by simp)
    have bx1c1 : W21.cell? ⟨w.heap.size, 1, none⟩ = some (.int .i64 x1.i) := (bx1.out.cell 1).trans (by simp)
    have bx1lt : w.heap.size < W21.heap.size := bx1.out.lt
    go_wp2_with fail
    clear bx1c0 bx1c1 bx1lt
    refine (eqDataS_any x0 W21 G12 G21 _ _ X0.out hv21 Y0.out hfs21.under).mono ?_
    rintro e W22 ⟨rfl, hb22⟩
    have hB24 := hB23.trans (hb22.mono hB23.size)
    have bx1n : Hid (Blk W22 (w.heap.size) 37 #[.int .i64 x1.d, .int .i64 x1.i]) := bx1.out.same (hb22.block _ bx1.out.lt)
    clear bx1
    have bx1 := bx1n
    clear bx1n
    have KP := Lib.hid (show Kept F_w0 W21 W22 from (Kept.of_below (w := W21) hb22 Y_w0.out))
    have X_w0n := Lib.hid (X_w0.out.mono KP.out (fun x _ cs G hk h => (fun w w' x cs G hk h => VR.mono (w := w) (w' := w') x cs G hk h) _ _ x cs G hk h))
    have Y_w0n := Lib.hid (Y_w0.out.mono hb22.size)
    have Z_w0n := Lib.hid (Z_w0.out.kept KP.out)
    clear X_w0 Y_w0 KP Z_w0
    have X_w0 := X_w0n
    have Y_w0 := Y_w0n
    have Z_w0 := Z_w0n
    clear X_w0n Y_w0n Z_w0n
    have KP := Lib.hid (show Kept G12 W21 W22 from (Kept.of_below (w := W21) hb22 Y0.out))
    have X0n := Lib.hid (ArrDt.mono X0.out KP.out)
    have Y0n := Lib.hid (Y0.out.mono hb22.size)
    have Z_x0n := Lib.hid (Z_x0.out.kept KP.out)
    clear X0 Y0 KP Z_x0
    have X0 := X0n
    have Y0 := Y0n
    have Z_x0 := Z_x0n
    clear X0n Y0n Z_x0n
    have KP := Lib.hid (show Kept F_g0 W21 W22 from (Kept.of_below (w := W21) hb22 Y_g0.out))
    have X_g0n := Lib.hid (X_g0.out.mono KP.out (fun x _ cs G hk h => (fun w w' x cs G hk h => VR.mono (w := w) (w' := w') x cs G hk h) _ _ x cs G hk h))
    have Y_g0n := Lib.hid (Y_g0.out.mono hb22.size)
    have Z_g0n := Lib.hid (Z_g0.out.kept KP.out)
    clear X_g0 Y_g0 KP Z_g0
    have X_g0 := X_g0n
    have Y_g0 := Y_g0n
    have Z_g0 := Z_g0n
    clear X_g0n Y_g0n Z_g0n
    have bx1c0 : W22.cell? ⟨w.heap.size, 0, none⟩ = some (.int .i64 x1.d) := (bx1.out.cell 0).trans (by simp)
    have bx1c1 : W22.cell? ⟨w.heap.size, 1, none⟩ = some (.int .i64 x1.i) := (bx1.out.cell 1).trans (by simp)
    have bx1lt : w.heap.size < W22.heap.size := bx1.out.lt
    go_wp2_with fail
    clear bx1c0 bx1c1 bx1lt
    have hcn0 : sumBy cntDt x0 ≤ 16777216 := by have := cntsDt_le x0; omega
    refine (markDataS_any x0 W22 _ G12 (1) (by omega) (by omega) X0.out Z_x0.out Y0.out).mono ?_
    rintro e W25 ⟨rfl, hg25, hm25, hfr25⟩
    clear hm25 hfr25
    have hB26 := hB24.trans (hg25.below LB_x0.out hB24.size)
    have bx1n : Hid (Blk W25 (w.heap.size) 37 #[.int .i64 x1.d, .int .i64 x1.i]) := bx1.out.same (hg25.block _ bx1.out.lt nb_bx1_x0.out)
    clear bx1
    have bx1 := bx1n
    clear bx1n
    have KP := Lib.hid (show Kept F_w0 W22 W25 from (hg25.kept Y_w0.out dj_w0_x0.out))
    have X_w0n := Lib.hid (X_w0.out.mono KP.out (fun x _ cs G hk h => (fun w w' x cs G hk h => VR.mono (w := w) (w' := w') x cs G hk h) _ _ x cs G hk h))
    have Y_w0n := Lib.hid (Y_w0.out.mono hg25.size)
    have Z_w0n := Lib.hid (Z_w0.out.kept KP.out)
    clear X_w0 Y_w0 KP Z_w0
    have X_w0 := X_w0n
    have Y_w0 := Y_w0n
    have Z_w0 := Z_w0n
    clear X_w0n Y_w0n Z_w0n
    have KP := Lib.hid (show Kept F_g0 W22 W25 from (hg25.kept Y_g0.out dj_g0_x0.out))
    have X_g0n := Lib.hid (X_g0.out.mono KP.out (fun x _ cs G hk h => (fun w w' x cs G hk h => VR.mono (w := w) (w' := w') x cs G hk h) _ _ x cs G hk h))
    have Y_g0n := Lib.hid (Y_g0.out.mono hg25.size)
    have Z_g0n := Lib.hid (Z_g0.out.kept KP.out)
    clear X_g0 Y_g0 KP Z_g0
    have X_g0 := X_g0n
    have Y_g0 := Y_g0n
    have Z_g0 := Z_g0n
    clear X_g0n Y_g0n Z_g0n
    generalize hkk0 : sumBy cntDt x0 = kk0 at *
    clear hkk0
    have hkp : ¬ (1 + (kk0 : Int) < 0) := by omega
    have bx1c0 : W25.cell? ⟨w.heap.size, 0, none⟩ = some (.int .i64 x1.d) := (bx1.out.cell 0).trans (by simp)
    have bx1c1 : W25.cell? ⟨w.heap.size, 1, none⟩ = some (.int .i64 x1.i) := (bx1.out.cell 1).trans (by simp)
    have bx1lt : w.heap.size < W25.heap.size := bx1.out.lt
    go_wp2_with fail
    clear bx1c0 bx1c1 bx1lt
    refine (eqValueS_any r0 W25 F_g0 F_w0 _ _ X_g0.out X_w0.out Y_g0.out Y_w0.out).mono ?_
    rintro e W27 ⟨rfl, hb27⟩
    have hB28 := hB26.trans (hb27.mono hB26.size)
    have bx1n : Hid (Blk W27 (w.heap.size) 37 #[.int .i64 x1.d, .int .i64 x1.i]) := bx1.out.same (hb27.block _ bx1.out.lt)
    clear bx1
    have bx1 := bx1n
    clear bx1n
    have KP := Lib.hid (show Kept F_w0 W25 W27 from (Kept.of_below (w := W25) hb27 Y_w0.out))
    have X_w0n := Lib.hid (X_w0.out.mono KP.out (fun x _ cs G hk h => (fun w w' x cs G hk h => VR.mono (w := w) (w' := w') x cs G hk h) _ _ x cs G hk h))
    have Y_w0n := Lib.hid (Y_w0.out.mono hb27.size)
    have Z_w0n := Lib.hid (Z_w0.out.kept KP.out)
    clear X_w0 Y_w0 KP Z_w0
    have X_w0 := X_w0n
    have Y_w0 := Y_w0n
    have Z_w0 := Z_w0n
    clear X_w0n Y_w0n Z_w0n
    have KP := Lib.hid (show Kept F_g0 W25 W27 from (Kept.of_below (w := W25) hb27 Y_g0.out))
    have X_g0n := Lib.hid (X_g0.out.mono KP.out (fun x _ cs G hk h => (fun w w' x cs G hk h => VR.mono (w := w) (w' := w') x cs G hk h) _ _ x cs G hk h))
    have Y_g0n := Lib.hid (Y_g0.out.mono hb27.size)
    have Z_g0n := Lib.hid (Z_g0.out.kept KP.out)
    clear X_g0 Y_g0 KP Z_g0
    have X_g0 := X_g0n
    have Y_g0 := Y_g0n
    have Z_g0 := Z_g0n
    clear X_g0n Y_g0n Z_g0n
    have bx1c0 : W27.cell? ⟨w.heap.size, 0, none⟩ = some (.int .i64 x1.d) := (bx1.out.cell 0).trans (by simp)
    have bx1c1 : W27.cell? ⟨w.heap.size, 1, none⟩ = some (.int .i64 x1.i) := (bx1.out.cell 1).trans (by simp)
    have bx1lt : w.heap.size < W27.heap.size := bx1.out.lt
    go_wp2_with fail
    clear bx1c0 bx1c1 bx1lt
    have hcg : sumBy cntV r0 ≤ 16777216 := by rw [← HRes.out]; exact upto_bound x0 x1 x2
    refine (markValueS_any r0 W27 _ F_g0 1 (by omega) (by omega) X_g0.out Z_g0.out Y_g0.out).mono ?_
    rintro e W29 ⟨rfl, hg29, hm29, hfr29⟩
    have hB30 := hB28.trans (hg29.below LB_g0.out hB28.size)
    have bx1n : Hid (Blk W29 (w.heap.size) 37 #[.int .i64 x1.d, .int .i64 x1.i]) := bx1.out.same (hg29.block _ bx1.out.lt nb_bx1_g0.out)
    clear bx1
    have bx1 := bx1n
    clear bx1n
    have KP := Lib.hid (show Kept F_w0 W27 W29 from (hg29.kept Y_w0.out dj_w0_g0.out))
    have X_w0n := Lib.hid (X_w0.out.mono KP.out (fun x _ cs G hk h => (fun w w' x cs G hk h => VR.mono (w := w) (w' := w') x cs G hk h) _ _ x cs G hk h))
    have Y_w0n := Lib.hid (Y_w0.out.mono hg29.size)
    have Z_w0n := Lib.hid (Z_w0.out.kept KP.out)
    clear X_w0 Y_w0 KP Z_w0
    have X_w0 := X_w0n
    have Y_w0 := Y_w0n
    have Z_w0 := Z_w0n
    clear X_w0n Y_w0n Z_w0n
    clear X_g0
    have X_g0 := Lib.hid hm29
    have Y_g0n := Lib.hid (Y_g0.out.mono hg29.size)
    clear Y_g0
    have Y_g0 := Y_g0n
    clear Z_g0
    have Z_g0 := Lib.hid hfr29
    clear Y_g0n hm29 hfr29
    have bx1c0 : W29.cell? ⟨w.heap.size, 0, none⟩ = some (.int .i64 x1.d) := (bx1.out.cell 0).trans (by simp)
    have bx1c1 : W29.cell? ⟨w.heap.size, 1, none⟩ = some (.int .i64 x1.i) := (bx1.out.cell 1).trans (by simp)
    have bx1lt : w.heap.size < W29.heap.size := bx1.out.lt
    go_wp2_with fail
    clear bx1c0 bx1c1 bx1lt
    refine (heldValueS_any r0 W29 _ F_g0 1 (by omega) (by omega) X_g0.out Y_g0.out).mono ?_
    rintro e W31 ⟨rfl, hb31⟩
    have hB32 := hB30.trans (hb31.mono hB30.size)
    have bx1n : Hid (Blk W31 (w.heap.size) 37 #[.int .i64 x1.d, .int .i64 x1.i]) := bx1.out.same (hb31.block _ bx1.out.lt)
    clear bx1
    have bx1 := bx1n
    clear bx1n
    have KP := Lib.hid (show Kept F_w0 W29 W31 from (Kept.of_below (w := W29) hb31 Y_w0.out))
    have X_w0n := Lib.hid (X_w0.out.mono KP.out (fun x _ cs G hk h => (fun w w' x cs G hk h => VR.mono (w := w) (w' := w') x cs G hk h) _ _ x cs G hk h))
    have Y_w0n := Lib.hid (Y_w0.out.mono hb31.size)
    have Z_w0n := Lib.hid (Z_w0.out.kept KP.out)
    clear X_w0 Y_w0 KP Z_w0
    have X_w0 := X_w0n
    have Y_w0 := Y_w0n
    have Z_w0 := Z_w0n
    clear X_w0n Y_w0n Z_w0n
    have KP := Lib.hid (show Kept F_g0 W29 W31 from (Kept.of_below (w := W29) hb31 Y_g0.out))
    have X_g0n := Lib.hid (X_g0.out.mono KP.out (fun x _ cs G hk h => (fun w w' x cs G hk h => VR.mono (w := w) (w' := w') x cs G hk h) _ _ x cs G hk h))
    have Y_g0n := Lib.hid (Y_g0.out.mono hb31.size)
    have Z_g0n := Lib.hid (Z_g0.out.kept KP.out)
    clear X_g0 Y_g0 KP Z_g0
    have X_g0 := X_g0n
    have Y_g0 := Y_g0n
    have Z_g0 := Z_g0n
    clear X_g0n Y_g0n Z_g0n
    have bx1c0 : W31.cell? ⟨w.heap.size, 0, none⟩ = some (.int .i64 x1.d) := (bx1.out.cell 0).trans (by simp)
    have bx1c1 : W31.cell? ⟨w.heap.size, 1, none⟩ = some (.int .i64 x1.i) := (bx1.out.cell 1).trans (by simp)
    have bx1lt : w.heap.size < W31.heap.size := bx1.out.lt
    go_wp2_with fail
    have SU33_w0 := Y_w0
    have SU33_g0 := Y_g0
    have SB33_bx1 := Lib.hid bx1.out.lt
    have hkeep : ∀ U U' : World, (U.cell? ⟨w.heap.size, 0, none⟩ = some (.int .i64 x1.d) ∧ U.cell? ⟨w.heap.size, 1, none⟩ = some (.int .i64 x1.i)) → Below U.heap.size U U' → W31.heap.size ≤ U.heap.size → (U'.cell? ⟨w.heap.size, 0, none⟩ = some (.int .i64 x1.d) ∧ U'.cell? ⟨w.heap.size, 1, none⟩ = some (.int .i64 x1.i)) := fun U U' h hb hU => ⟨(hb.cell (Nat.lt_of_lt_of_le (bx1lt) hU)).trans h.1, (hb.cell (Nat.lt_of_lt_of_le (bx1lt) hU)).trans h.2⟩
    have HKeep := Lib.hid hkeep
    clear hkeep
    go_region_held3 (fun w' => w'.cell? ⟨w.heap.size, 0, none⟩ = some (.int .i64 x1.d) ∧ w'.cell? ⟨w.heap.size, 1, none⟩ = some (.int .i64 x1.i)) (first | assumption | (exact ⟨bx1c0, bx1c1⟩) | (exact HKeep.out W31.drew W34 ⟨bx1c0, bx1c1⟩ hb34 (Nat.le_refl _)) | (exact HKeep.out W34 W35 (by assumption) hb35 hleW34) | (exact HKeep.out W35 W36 (by assumption) hb36 hleW35)) (first | (go_at_call 19; ((with_reducible refine (toDataS_any x0 _ F0 _ (ArrDt.below HR0.out hB32.drew HU0.out) (HU0.out.mono hB32.drew.size) hs0).mono ?_); rintro e W34 ⟨y34, G34, rfl, hb34, hv34, hfr34, hfs34⟩); have hB34 := hB32.drew.trans (hb34.mono hB32.drew.size); have hleW34 : W31.heap.size ≤ W34.heap.size := hb34.size) | (go_at_call 20; ((with_reducible refine (toType_any x1 _ _ [] (TyR.mk0 _ x1) (Under.nil _) (Ty.size_le x1)).mono ?_); rintro e W35 ⟨ds35, G35, rfl, hb35, ⟨rfl, rfl⟩, hfr35, hfs35⟩); have hB35 := hB34.trans (hb35.mono hB34.size); have hleW35 : W31.heap.size ≤ W35.heap.size := Nat.le_trans hleW34 hb35.size) | (go_at_call 21; ((with_reducible refine (upto_rw HResb.out (impl_ValuesUpTo x0 x1 x2 _ _ G34 (ArrDt.below hv34 hb35 hfs34.under) (hfs34.under.mono hb35.size))).mono ?_); rintro e W36 ⟨vr_h0, F_h0, rfl, hb36, ha_h0, hfr_h0, hfs_h0⟩)))
    have hbt37_0 := hb34
    have hbt37_1 := hbt37_0.trans (hb35.mono hbt37_0.size)
    have hbt37_2 := hbt37_1.trans (hb36.mono hbt37_1.size)
    clear bx1c0 bx1c1 bx1lt
    have hfz_h0 : Fresh W31 W36 F_h0 := fun b hb => ⟨Nat.le_trans hbt37_1.size (hfs_h0 b hb).1, (hfs_h0 b hb).2⟩
    have dj_w0_h0 := Lib.hid (fun b (hb : b ∈ F_w0) (hj : b ∈ F_h0) => Nat.lt_irrefl _ (Nat.lt_of_lt_of_le (SU33_w0.out b hb) (hfz_h0 b hj).1))
    have dj_h0_w0 := Lib.hid (fun b (hj : b ∈ F_h0) (hb : b ∈ F_w0) => Nat.lt_irrefl _ (Nat.lt_of_lt_of_le (SU33_w0.out b hb) (hfz_h0 b hj).1))
    have dj_g0_h0 := Lib.hid (fun b (hb : b ∈ F_g0) (hj : b ∈ F_h0) => Nat.lt_irrefl _ (Nat.lt_of_lt_of_le (SU33_g0.out b hb) (hfz_h0 b hj).1))
    have dj_h0_g0 := Lib.hid (fun b (hj : b ∈ F_h0) (hb : b ∈ F_g0) => Nat.lt_irrefl _ (Nat.lt_of_lt_of_le (SU33_g0.out b hb) (hfz_h0 b hj).1))
    have nb_bx1_h0 := Lib.hid (fun (hj : _ ∈ F_h0) => Nat.lt_irrefl _ (Nat.lt_of_lt_of_le SB33_bx1.out (hfz_h0 _ hj).1))
    have LB_h0 := Lib.hid (fun b (hj : b ∈ F_h0) => Nat.le_trans hB32.size (hfz_h0 b hj).1)
    have X_h0 := Lib.hid ha_h0
    have Y_h0 := Lib.hid hfs_h0.under
    have Z_h0 := Lib.hid hfr_h0
    have X_h0 := (show Hid (Arr W36 (VR W36) r0 vr_h0 F_h0) from by rw [← HRes.out]; exact X_h0.out)
    obtain ⟨A_h0, cap_h0, rfl, -, -⟩ := X_h0.out.form
    clear ha_h0 hfr_h0 hfs_h0 hfz_h0
    have hB38 := hB32.drew.trans (hbt37_2.mono hB32.size)
    have bx1n : Hid (Blk W36 (w.heap.size) 37 #[.int .i64 x1.d, .int .i64 x1.i]) := bx1.out.same (hbt37_2.block _ bx1.out.lt)
    clear bx1
    have bx1 := bx1n
    clear bx1n
    have KP := Lib.hid (show Kept F_w0 W31 W36 from (Kept.of_below (w := W31) (below_undrew hbt37_2) Y_w0.out))
    have X_w0n := Lib.hid (X_w0.out.mono KP.out (fun x _ cs G hk h => (fun w w' x cs G hk h => VR.mono (w := w) (w' := w') x cs G hk h) _ _ x cs G hk h))
    have Y_w0n := Lib.hid (Y_w0.out.mono hbt37_2.size)
    have Z_w0n := Lib.hid (Z_w0.out.kept KP.out)
    clear X_w0 Y_w0 KP Z_w0
    have X_w0 := X_w0n
    have Y_w0 := Y_w0n
    have Z_w0 := Z_w0n
    clear X_w0n Y_w0n Z_w0n
    have KP := Lib.hid (show Kept F_g0 W31 W36 from (Kept.of_below (w := W31) (below_undrew hbt37_2) Y_g0.out))
    have X_g0n := Lib.hid (X_g0.out.mono KP.out (fun x _ cs G hk h => (fun w w' x cs G hk h => VR.mono (w := w) (w' := w') x cs G hk h) _ _ x cs G hk h))
    have Y_g0n := Lib.hid (Y_g0.out.mono hbt37_2.size)
    have Z_g0n := Lib.hid (Z_g0.out.kept KP.out)
    clear X_g0 Y_g0 KP Z_g0
    have X_g0 := X_g0n
    have Y_g0 := Y_g0n
    have Z_g0 := Z_g0n
    clear X_g0n Y_g0n Z_g0n
    have bx1c0 : W36.cell? ⟨w.heap.size, 0, none⟩ = some (.int .i64 x1.d) := (bx1.out.cell 0).trans (by simp)
    have bx1c1 : W36.cell? ⟨w.heap.size, 1, none⟩ = some (.int .i64 x1.i) := (bx1.out.cell 1).trans (by simp)
    have bx1lt : w.heap.size < W36.heap.size := bx1.out.lt
    go_wp2_with fail
    clear bx1c0 bx1c1 bx1lt
    refine (eqValueS_any r0 W36 F_h0 F_w0 _ _ X_h0.out X_w0.out Y_h0.out Y_w0.out).mono ?_
    rintro e W39 ⟨rfl, hb39⟩
    have hB40 := hB38.trans (hb39.mono hB38.size)
    have bx1n : Hid (Blk W39 (w.heap.size) 37 #[.int .i64 x1.d, .int .i64 x1.i]) := bx1.out.same (hb39.block _ bx1.out.lt)
    clear bx1
    have bx1 := bx1n
    clear bx1n
    have KP := Lib.hid (show Kept F_w0 W36 W39 from (Kept.of_below (w := W36) hb39 Y_w0.out))
    have X_w0n := Lib.hid (X_w0.out.mono KP.out (fun x _ cs G hk h => (fun w w' x cs G hk h => VR.mono (w := w) (w' := w') x cs G hk h) _ _ x cs G hk h))
    have Y_w0n := Lib.hid (Y_w0.out.mono hb39.size)
    have Z_w0n := Lib.hid (Z_w0.out.kept KP.out)
    clear X_w0 Y_w0 KP Z_w0
    have X_w0 := X_w0n
    have Y_w0 := Y_w0n
    have Z_w0 := Z_w0n
    clear X_w0n Y_w0n Z_w0n
    have KP := Lib.hid (show Kept F_g0 W36 W39 from (Kept.of_below (w := W36) hb39 Y_g0.out))
    have X_g0n := Lib.hid (X_g0.out.mono KP.out (fun x _ cs G hk h => (fun w w' x cs G hk h => VR.mono (w := w) (w' := w') x cs G hk h) _ _ x cs G hk h))
    have Y_g0n := Lib.hid (Y_g0.out.mono hb39.size)
    have Z_g0n := Lib.hid (Z_g0.out.kept KP.out)
    clear X_g0 Y_g0 KP Z_g0
    have X_g0 := X_g0n
    have Y_g0 := Y_g0n
    have Z_g0 := Z_g0n
    clear X_g0n Y_g0n Z_g0n
    have KP := Lib.hid (show Kept F_h0 W36 W39 from (Kept.of_below (w := W36) hb39 Y_h0.out))
    have X_h0n := Lib.hid (X_h0.out.mono KP.out (fun x _ cs G hk h => (fun w w' x cs G hk h => VR.mono (w := w) (w' := w') x cs G hk h) _ _ x cs G hk h))
    have Y_h0n := Lib.hid (Y_h0.out.mono hb39.size)
    have Z_h0n := Lib.hid (Z_h0.out.kept KP.out)
    clear X_h0 Y_h0 KP Z_h0
    have X_h0 := X_h0n
    have Y_h0 := Y_h0n
    have Z_h0 := Z_h0n
    clear X_h0n Y_h0n Z_h0n
    have bx1c0 : W39.cell? ⟨w.heap.size, 0, none⟩ = some (.int .i64 x1.d) := (bx1.out.cell 0).trans (by simp)
    have bx1c1 : W39.cell? ⟨w.heap.size, 1, none⟩ = some (.int .i64 x1.i) := (bx1.out.cell 1).trans (by simp)
    have bx1lt : w.heap.size < W39.heap.size := bx1.out.lt
    go_wp2_with fail
    clear bx1c0 bx1c1 bx1lt
    refine (heldValueS_any r0 W39 _ F_g0 1 (by omega) (by omega) X_g0.out Y_g0.out).mono ?_
    rintro e W41 ⟨rfl, hb41⟩
    have hB42 := hB40.trans (hb41.mono hB40.size)
    have bx1n : Hid (Blk W41 (w.heap.size) 37 #[.int .i64 x1.d, .int .i64 x1.i]) := bx1.out.same (hb41.block _ bx1.out.lt)
    clear bx1
    have bx1 := bx1n
    clear bx1n
    have KP := Lib.hid (show Kept F_w0 W39 W41 from (Kept.of_below (w := W39) hb41 Y_w0.out))
    have X_w0n := Lib.hid (X_w0.out.mono KP.out (fun x _ cs G hk h => (fun w w' x cs G hk h => VR.mono (w := w) (w' := w') x cs G hk h) _ _ x cs G hk h))
    have Y_w0n := Lib.hid (Y_w0.out.mono hb41.size)
    have Z_w0n := Lib.hid (Z_w0.out.kept KP.out)
    clear X_w0 Y_w0 KP Z_w0
    have X_w0 := X_w0n
    have Y_w0 := Y_w0n
    have Z_w0 := Z_w0n
    clear X_w0n Y_w0n Z_w0n
    have KP := Lib.hid (show Kept F_g0 W39 W41 from (Kept.of_below (w := W39) hb41 Y_g0.out))
    have X_g0n := Lib.hid (X_g0.out.mono KP.out (fun x _ cs G hk h => (fun w w' x cs G hk h => VR.mono (w := w) (w' := w') x cs G hk h) _ _ x cs G hk h))
    have Y_g0n := Lib.hid (Y_g0.out.mono hb41.size)
    have Z_g0n := Lib.hid (Z_g0.out.kept KP.out)
    clear X_g0 Y_g0 KP Z_g0
    have X_g0 := X_g0n
    have Y_g0 := Y_g0n
    have Z_g0 := Z_g0n
    clear X_g0n Y_g0n Z_g0n
    go_wp2
    go_ret
    exact ⟨rfl, hB42⟩
  · rw [show szLeft (Dt.sizes x0) (1048576) = -1 from if_neg hz0]
    go_wp2
    go_ret
    exact ⟨rfl, hB4⟩
end Go.Proofs.Ytilndhmegaccmaa.fnExactValuesUpTo

namespace Go.Proofs.Ytilndhmegaccmaa.fnExactValuesUpTo
open Go.ChangeShapes Go.WideShapes Go.ChangeAt Go.RowKit
open Go.ChangeMaps (open_string shut_string)
set_option linter.unusedVariables false

theorem own : ownKnob Try.prog.godebug = none := by kernel_rfl
theorem laidOut : laidOutB Try.prog = true := by kernel_rfl

set_option maxRecDepth 100000 in
theorem lifted (os : Os) (started : os.Started) (H : Type) (enc : TypeId × Value → H) :
    ReturnsInHanded {} Try.checked os 5 .any (Rows.fnExactValuesUpToSpec.pre6 enc Try.prog Try.f5 Rows.fnExactValuesUpToRow.domain false) (Rows.fnExactValuesUpToSpec.post enc Try.prog Try.f5 false true false false) := by
  refine returnsInHanded_of_change (C := Try.checked) own started (by kernel_rfl) Try.func5
    (ChangeSpec.witness6 (enc := enc) (C := Try.checked) false ⟨#[], #[.slice none 0 0, .agg #[.int .i64 0, .int .i64 0], .int .i64 0], []⟩ 8 (by kernel_rfl) (by kernel_rfl) (by kernel_rfl) (by kernel_rfl)) ?_
  intro W base args ds gs before hval0 hW hcnd _
  have hval : ∀ (j : Nat) t v, Try.f5.params[j]? = some t → args[j]? = some v → Value.okWide Try.prog W .any base t v := hval0
  have hW' := hW
  obtain ⟨p, q, hA0, hV, rfl, hfz, hnd⟩ := hW
  have hA : DataW.TrodAll enc Try.prog W 0 (fun _ => true) true Try.f5.params.toList args.toList ds p := hA0
  rw [Try.params5] at hA hval
  obtain ⟨v0, vs0, d0, ds0, p0, q0, hargs, rfl, rfl, h0, r0⟩ := trodAll_cons hA
  obtain ⟨v1, vs1, d1, ds1, p1, q1, rfl, rfl, rfl, h1, r1⟩ := trodAll_cons r0
  obtain ⟨v2, vs2, d2, ds2, p2, q2, rfl, rfl, rfl, h2, r2⟩ := trodAll_cons r1
  obtain ⟨rfl, rfl, rfl⟩ := trodAll_nil r2
  obtain rfl : args = #[v0, v1, v2] := by cases args; simp_all
  obtain ⟨rfl, rfl⟩ := trodVars_none hV
  have k0 := h0
  have lt0 : ∀ x ∈ p0, x.block < W.heap.size := by obtain ⟨m, hm⟩ := k0; exact DataW.trod_lt m _ _ _ hm
  have k1 := h1
  have lt1 : ∀ x ∈ p1, x.block < W.heap.size := by obtain ⟨m, hm⟩ := k1; exact DataW.trod_lt m _ _ _ hm
  have k2 := h2
  have lt2 : ∀ x ∈ p2, x.block < W.heap.size := by obtain ⟨m, hm⟩ := k2; exact DataW.trod_lt m _ _ _ hm
  obtain ⟨x0, F0, hR0, hU0⟩ := open_Dts (hval 0 36 v0 rfl rfl) h0
  obtain ⟨x1, cs1, F1, rfl, hR1, hU1⟩ := open_Ty (hval 1 37 v1 rfl rfl) h1
  obtain ⟨a2, rfl, rfl, rfl, w2⟩ := open_int Try.underlying3 (hval 2 3 v2 rfl rfl) h2
  clear hA0 hval0
  refine (walk x0 v0 F0 hR0 hU0 x1 cs1 F1 hR1 hU1 a2 w2 W rfl).mono fun e W' ⟨he, bel⟩ => ?_
  subst he
  exact ⟨_, rfl, _, _, _, [], _, [], hW', trodAll_mk1 (shut_bool Try.underlying4 _), (trodAll_cons_mk (Below.trod laidOut (by kernel_rfl) (of_decide_eq_true (by kernel_rfl)) k0 bel lt0) (trodAll_cons_mk (Below.trod laidOut (by kernel_rfl) (of_decide_eq_true (by kernel_rfl)) k1 bel lt1) (trodAll_cons_mk (Below.trod laidOut (by kernel_rfl) (of_decide_eq_true (by kernel_rfl)) k2 bel lt2) trodAll_mk0))), rfl, bel.frame _, fun h => by cases h⟩

set_option maxHeartbeats 4000000 in
theorem closed : joinedFacts Try.pinned.checked.prog 5 Try.f5 Rows.fnExactValuesUpToSpec Rows.fnExactValuesUpToRow = true := by
  unfold joinedFacts
  have key : ∀ a b : Bool, a = true → b = true → (a && b) = true := fun a b h1 h2 => by rw [h1, h2]; rfl
  repeat' (with_reducible refine key _ _ ?_ ?_)
  all_goals as_aux_lemma => kernel_rfl

theorem over : Rows.fnExactValuesUpToRow.holds Try.pinned (OpenSpec.ofChange Rows.fnExactValuesUpToSpec) :=
  OpenClaim.holds_of_wide 5 Try.f5 rfl rfl rfl rfl rfl rfl rfl ⟨rfl, rfl, rfl, rfl, rfl⟩ rfl rfl rfl rfl rfl (by kernel_rfl) Try.func5 closed
    (of_decide_eq_true (by kernel_rfl)) (by unfold Func.isWrapper; first | (rw [if_pos (by decide +kernel)]; kernel_rfl) | (rw [if_neg (by decide +kernel)]; exact ⟨rfl, rfl⟩))
    (fun os started H enc _ => lifted os started H enc)

theorem proved : Rows.FnExactValuesUpToSaid := over
end Go.Proofs.Ytilndhmegaccmaa.fnExactValuesUpTo
