/-
  FnExactClausesValid: for every argument the law returns true. Conditions: none.
-/
import Derived.Test.YtbffkgfhcmigaaaKAA
import Derived.Test.YtbffkgfhcmigaaaKAM
import Derived.Deep.RegionWith
import Derived.Deep.RegionHeld3
import Derived.BigQuiet
import Derived.Test.YtbffkgfhcmigaaaRows
import Derived.Test.YtbffkgfhcmigaaaKAH
import Derived.Test.YtbffkgfhcmigaaaKAL
import Derived.ProofKit
import Derived.OpenShut
import Derived.ShutString
import Derived.ChangeOld
import Derived.Below

set_option linter.unusedVariables false
set_option linter.unusedSimpArgs false

namespace Go.Proofs.Ytbffkgfhcmigaaa.fnExactClausesValid
open Go.RowKit

set_option maxRecDepth 100000 in
set_option maxHeartbeats 1600000 in
theorem walk {W : World} (x0 : List Dt) (v0 : Value) (F0 : List Nat) (hR0 : Arr W (DtR W) x0 v0 F0) (hU0 : Under W.heap.size F0) (x1 : Ty) (cs1 : List Value) (F1 : List Nat) (hR1 : TyR W x1 cs1 F1) (hU1 : Under W.heap.size F1) (x2 : List Cl) (v2 : Value) (F2 : List Nat) (hR2 : Arr W (ClR W) x2 v2 F2) (hU2 : Under W.heap.size F2) (w : World) (hw : w = W) :
    Calls Try.prog 7 #[v0, .agg cs1.toArray, v2] w fun e w' => e = .returned (.bool true) ∧ Below w.heap.size w w' := by
  subst hw
  obtain ⟨A0, cap0, rfl, -, -⟩ := hR0.form
  obtain ⟨rfl, rfl⟩ := hR1
  obtain ⟨A2, cap2, rfl, -, -⟩ := hR2.form
  have HR0 := Lib.hid hR0
  have HU0 := Lib.hid hU0
  clear hR0 hU0
  have HR2 := Lib.hid hR2
  have HU2 := Lib.hid hU2
  clear hR2 hU2
  go_enter Try.func7, Try.ntmps7
  go_wp2_with fail
  have hB0 : Below w.heap.size w w := Below.refl _ _
  obtain ⟨W1, hW⟩ : ∃ X, X = (w.alloc (.cells #[.int .i64 x1.d, .int .i64 x1.i] 24)) := ⟨_, rfl⟩
  have hb1 : Below w.heap.size w W1 := by rw [hW]; exact ((Below.refl w.heap.size w).alloc (by simp <;> omega) _)
  have bx1 : Hid (Blk W1 (w.heap.size) 24 #[.int .i64 x1.d, .int .i64 x1.i]) := by
    rw [hW]
    have h0 := Blk.new w 24 #[.int .i64 x1.d, .int .i64 x1.i]
    exact (h0)
  rw [← hW]
  clear hW
  have hB2 := hB0.trans (hb1.mono hB0.size)
  refine (szDataS_any x0 W1 F0 _ (1048576) (ArrDt.below HR0.out hB2 HU0.out) (HU0.out.mono hB2.size) (by omega) (by omega)).mono ?_
  rintro e W3 ⟨rfl, hb3⟩
  have hB4 := hB2.trans (hb3.mono hB2.size)
  have bx1n : Hid (Blk W3 (w.heap.size) 24 #[.int .i64 x1.d, .int .i64 x1.i]) := bx1.out.same (hb3.block _ bx1.out.lt)
  clear bx1
  have bx1 := bx1n
  clear bx1n
  by_cases hz0 : ((Dt.sizes x0) : Int) ≤ 1048576
  · rw [show szLeft (Dt.sizes x0) (1048576) = 1048576 - ((Dt.sizes x0) : Int) from if_pos hz0]
    have hnn0 : 0 ≤ 1048576 - ((Dt.sizes x0) : Int) := by omega
    have bx1c0 : W3.cell? ⟨w.heap.size, 0, none⟩ = some (.int .i64 x1.d) := (bx1.out.cell 0).trans (by simp)
    have bx1c1 : W3.cell? ⟨w.heap.size, 1, none⟩ = some (.int .i64 x1.i) := (bx1.out.cell 1).trans (by simp)
    have bx1lt : w.heap.size < W3.heap.size := bx1.out.lt
    go_wp2_with fail
    clear bx1c0 bx1c1 bx1lt
    refine (szClauseS_any x2 W3 F2 _ (1048576 - ((Dt.sizes x0) : Int)) (ArrCl.below HR2.out hB4 HU2.out) (HU2.out.mono hB4.size) (by omega) (by omega)).mono ?_
    rintro e W5 ⟨rfl, hb5⟩
    have hB6 := hB4.trans (hb5.mono hB4.size)
    have bx1n : Hid (Blk W5 (w.heap.size) 24 #[.int .i64 x1.d, .int .i64 x1.i]) := bx1.out.same (hb5.block _ bx1.out.lt)
    clear bx1
    have bx1 := bx1n
    clear bx1n
    by_cases hz2 : ((Cl.sizes x2) : Int) ≤ 1048576 - ((Dt.sizes x0) : Int)
    · rw [show szLeft (Cl.sizes x2) (1048576 - ((Dt.sizes x0) : Int)) = 1048576 - ((Dt.sizes x0) : Int) - ((Cl.sizes x2) : Int) from if_pos hz2]
      have hnn2 : 0 ≤ 1048576 - ((Dt.sizes x0) : Int) - ((Cl.sizes x2) : Int) := by omega
      have hs0 : (Dt.sizes x0) ≤ 1048576 := by omega
      have hs2 : (Cl.sizes x2) ≤ 1048576 := by omega
      have bx1c0 : W5.cell? ⟨w.heap.size, 0, none⟩ = some (.int .i64 x1.d) := (bx1.out.cell 0).trans (by simp)
      have bx1c1 : W5.cell? ⟨w.heap.size, 1, none⟩ = some (.int .i64 x1.i) := (bx1.out.cell 1).trans (by simp)
      have bx1lt : w.heap.size < W5.heap.size := bx1.out.lt
      go_wp2_with fail
      have hkeep : ∀ U U' : World, (U.cell? ⟨w.heap.size, 0, none⟩ = some (.int .i64 x1.d) ∧ U.cell? ⟨w.heap.size, 1, none⟩ = some (.int .i64 x1.i)) → Below U.heap.size U U' → W5.heap.size ≤ U.heap.size → (U'.cell? ⟨w.heap.size, 0, none⟩ = some (.int .i64 x1.d) ∧ U'.cell? ⟨w.heap.size, 1, none⟩ = some (.int .i64 x1.i)) := fun U U' h hb hU => ⟨(hb.cell (Nat.lt_of_lt_of_le (bx1lt) hU)).trans h.1, (hb.cell (Nat.lt_of_lt_of_le (bx1lt) hU)).trans h.2⟩
      have HKeep := Lib.hid hkeep
      clear hkeep
      go_region_held3 (fun w' => w'.cell? ⟨w.heap.size, 0, none⟩ = some (.int .i64 x1.d) ∧ w'.cell? ⟨w.heap.size, 1, none⟩ = some (.int .i64 x1.i)) (first | assumption | (exact ⟨bx1c0, bx1c1⟩) | (exact HKeep.out W5.drew W7 ⟨bx1c0, bx1c1⟩ hb7 (Nat.le_refl _)) | (exact HKeep.out W7 W8 (by assumption) hb8 hleW7) | (exact HKeep.out W8 W9 (by assumption) hb9 hleW8) | (exact HKeep.out W9 W10 (by assumption) hb10 hleW9)) (first | (go_at_call 18; ((with_reducible refine (toDataS_any x0 _ F0 _ (ArrDt.below HR0.out hB6.drew HU0.out) (HU0.out.mono hB6.drew.size) hs0).mono ?_); rintro e W7 ⟨y7, G7, rfl, hb7, hv7, hfr7, hfs7⟩); have hB7 := hB6.drew.trans (hb7.mono hB6.drew.size); have hleW7 : W5.heap.size ≤ W7.heap.size := hb7.size) | (go_at_call 19; ((with_reducible refine (toType_any x1 _ _ [] (TyR.mk0 _ x1) (Under.nil _) (Ty.size_le x1)).mono ?_); rintro e W8 ⟨ds8, G8, rfl, hb8, ⟨rfl, rfl⟩, hfr8, hfs8⟩); have hB8 := hB7.trans (hb8.mono hB7.size); have hleW8 : W5.heap.size ≤ W8.heap.size := Nat.le_trans hleW7 hb8.size) | (go_at_call 43; ((with_reducible refine (toClauseS_any x2 _ F2 _ (ArrCl.below HR2.out hB8 HU2.out) (HU2.out.mono hB8.size) hs2).mono ?_); rintro e W9 ⟨y9, G9, rfl, hb9, hv9, hfr9, hfs9⟩); have hB9 := hB8.trans (hb9.mono hB8.size); have hleW9 : W5.heap.size ≤ W9.heap.size := Nat.le_trans hleW8 hb9.size) | (go_at_call 42; ((with_reducible refine (spec_ClausesValid x0 x1 x2 hs2 _ _ _ G7 G9 (ArrDt.below (ArrDt.below hv7 hb8 hfs7.under) hb9 (hfs7.under.mono hb8.size)) ((hfs7.under.mono hb8.size).mono hb9.size) hv9 hfs9.under).mono ?_); rintro e W10 ⟨rfl, hb10⟩)))
      have hbt11_0 := hb7
      have hbt11_1 := hbt11_0.trans (hb8.mono hbt11_0.size)
      have hbt11_2 := hbt11_1.trans (hb9.mono hbt11_1.size)
      have hbt11_3 := hbt11_2.trans (hb10.mono hbt11_2.size)
      clear bx1c0 bx1c1 bx1lt
      have hB12 := hB6.drew.trans (hbt11_3.mono hB6.size)
      have bx1n : Hid (Blk W10 (w.heap.size) 24 #[.int .i64 x1.d, .int .i64 x1.i]) := bx1.out.same (hbt11_3.block _ bx1.out.lt)
      clear bx1
      have bx1 := bx1n
      clear bx1n
      generalize hres : clausesValidB x0 x1 x2 = r0
      have HRes := Lib.hid hres
      clear hres
      have bx1c0 : W10.cell? ⟨w.heap.size, 0, none⟩ = some (.int .i64 x1.d) := (bx1.out.cell 0).trans (by simp)
      have bx1c1 : W10.cell? ⟨w.heap.size, 1, none⟩ = some (.int .i64 x1.i) := (bx1.out.cell 1).trans (by simp)
      have bx1lt : w.heap.size < W10.heap.size := bx1.out.lt
      go_wp2_with fail
      clear bx1c0 bx1c1 bx1lt
      refine (toDataS_any x0 W10 F0 _ (ArrDt.below HR0.out hB12 HU0.out) (HU0.out.mono hB12.size) hs0).mono ?_
      rintro e W13 ⟨y13, G13, rfl, hb13, hv13, hfr13, hfs13⟩
      have hB14 := hB12.trans (hb13.mono hB12.size)
      have bx1n : Hid (Blk W13 (w.heap.size) 24 #[.int .i64 x1.d, .int .i64 x1.i]) := bx1.out.same (hb13.block _ bx1.out.lt)
      clear bx1
      have bx1 := bx1n
      clear bx1n
      obtain ⟨B0, bap0, rfl, -, -⟩ := hv13.form
      have X0 := Lib.hid hv13
      have Y0 := Lib.hid hfs13.under
      clear hv13 hfr13 hfs13
      have bx1c0 : W13.cell? ⟨w.heap.size, 0, none⟩ = some (.int .i64 x1.d) := (bx1.out.cell 0).trans (by simp)
      have bx1c1 : W13.cell? ⟨w.heap.size, 1, none⟩ = some (.int .i64 x1.i) := (bx1.out.cell 1).trans (by simp)
      have bx1lt : w.heap.size < W13.heap.size := bx1.out.lt
      go_wp2_with fail
      clear bx1c0 bx1c1 bx1lt
      refine (toClauseS_any x2 W13 F2 _ (ArrCl.below HR2.out hB14 HU2.out) (HU2.out.mono hB14.size) hs2).mono ?_
      rintro e W15 ⟨y15, G15, rfl, hb15, hv15, hfr15, hfs15⟩
      have hB16 := hB14.trans (hb15.mono hB14.size)
      have bx1n : Hid (Blk W15 (w.heap.size) 24 #[.int .i64 x1.d, .int .i64 x1.i]) := bx1.out.same (hb15.block _ bx1.out.lt)
      clear bx1
      have bx1 := bx1n
      clear bx1n
      have X0n := Lib.hid (ArrDt.below X0.out hb15 Y0.out)
      have Y0n := Lib.hid (Y0.out.mono hb15.size)
      clear X0 Y0
      have X0 := X0n
      have Y0 := Y0n
      clear X0n Y0n
      obtain ⟨B2, bap2, rfl, -, -⟩ := hv15.form
      have X2 := Lib.hid hv15
      have Y2 := Lib.hid hfs15.under
      clear hv15 hfr15 hfs15
      have bx1c0 : W15.cell? ⟨w.heap.size, 0, none⟩ = some (.int .i64 x1.d) := (bx1.out.cell 0).trans (by simp)
      have bx1c1 : W15.cell? ⟨w.heap.size, 1, none⟩ = some (.int .i64 x1.i) := (bx1.out.cell 1).trans (by simp)
      have bx1lt : w.heap.size < W15.heap.size := bx1.out.lt
      go_wp2_with fail
      clear bx1c0 bx1c1 bx1lt
      refine (toType_any x1 W15 _ [] (TyR.mk0 _ x1) (Under.nil _) (Ty.size_le x1)).mono ?_
      rintro e W17 ⟨ds17, G17, rfl, hb17, ⟨rfl, rfl⟩, hfr17, hfs17⟩
      have hB18 := hB16.trans (hb17.mono hB16.size)
      have bx1n : Hid (Blk W17 (w.heap.size) 24 #[.int .i64 x1.d, .int .i64 x1.i]) := bx1.out.same (hb17.block _ bx1.out.lt)
      clear bx1
      have bx1 := bx1n
      clear bx1n
      have X0n := Lib.hid (ArrDt.below X0.out hb17 Y0.out)
      have Y0n := Lib.hid (Y0.out.mono hb17.size)
      clear X0 Y0
      have X0 := X0n
      have Y0 := Y0n
      clear X0n Y0n
      have X2n := Lib.hid (ArrCl.below X2.out hb17 Y2.out)
      have Y2n := Lib.hid (Y2.out.mono hb17.size)
      clear X2 Y2
      have X2 := X2n
      have Y2 := Y2n
      clear X2n Y2n
      have bx1c0 : W17.cell? ⟨w.heap.size, 0, none⟩ = some (.int .i64 x1.d) := (bx1.out.cell 0).trans (by simp)
      have bx1c1 : W17.cell? ⟨w.heap.size, 1, none⟩ = some (.int .i64 x1.i) := (bx1.out.cell 1).trans (by simp)
      have bx1lt : w.heap.size < W17.heap.size := bx1.out.lt
      go_wp2_with fail
      clear bx1c0 bx1c1 bx1lt
      refine (impl_ClausesValid x0 x1 x2 hs2 _ _ _ G13 G15 X0.out Y0.out X2.out Y2.out).mono ?_
      rintro e W19 ⟨rfl, hb19⟩
      have hB20 := hB18.trans (hb19.mono hB18.size)
      have bx1n : Hid (Blk W19 (w.heap.size) 24 #[.int .i64 x1.d, .int .i64 x1.i]) := bx1.out.same (hb19.block _ bx1.out.lt)
      clear bx1
      have bx1 := bx1n
      clear bx1n
      have X0n := Lib.hid (ArrDt.below X0.out hb19 Y0.out)
      have Y0n := Lib.hid (Y0.out.mono hb19.size)
      clear X0 Y0
      have X0 := X0n
      have Y0 := Y0n
      clear X0n Y0n
      have X2n := Lib.hid (ArrCl.below X2.out hb19 Y2.out)
      have Y2n := Lib.hid (Y2.out.mono hb19.size)
      clear X2 Y2
      have X2 := X2n
      have Y2 := Y2n
      clear X2n Y2n
      rw [HRes.out]
      have hne : (r0 != r0) = false := by simp
      have bx1c0 : W19.cell? ⟨w.heap.size, 0, none⟩ = some (.int .i64 x1.d) := (bx1.out.cell 0).trans (by simp)
      have bx1c1 : W19.cell? ⟨w.heap.size, 1, none⟩ = some (.int .i64 x1.i) := (bx1.out.cell 1).trans (by simp)
      have bx1lt : w.heap.size < W19.heap.size := bx1.out.lt
      go_wp2_with fail
      clear bx1c0 bx1c1 bx1lt
      refine (toDataS_any x0 W19 F0 _ (ArrDt.below HR0.out hB20 HU0.out) (HU0.out.mono hB20.size) hs0).mono ?_
      rintro e W21 ⟨y21, G21, rfl, hb21, hv21, hfr21, hfs21⟩
      have hB23 := hB20.trans (hb21.mono hB20.size)
      have bx1n : Hid (Blk W21 (w.heap.size) 24 #[.int .i64 x1.d, .int .i64 x1.i]) := bx1.out.same (hb21.block _ bx1.out.lt)
      clear bx1
      have bx1 := bx1n
      clear bx1n
      have X0n := Lib.hid (ArrDt.below X0.out hb21 Y0.out)
      have Y0n := Lib.hid (Y0.out.mono hb21.size)
      clear X0 Y0
      have X0 := X0n
      have Y0 := Y0n
      clear X0n Y0n
      have X2n := Lib.hid (ArrCl.below X2.out hb21 Y2.out)
      have Y2n := Lib.hid (Y2.out.mono hb21.size)
      clear X2 Y2
      have X2 := X2n
      have Y2 := Y2n
      clear X2n Y2n
      have bx1c0 : W21.cell? ⟨w.heap.size, 0, none⟩ = some (.int .i64 x1.d) := (bx1.out.cell 0).trans (by simp)
      have bx1c1 : W21.cell? ⟨w.heap.size, 1, none⟩ = some (.int .i64 x1.i) := (bx1.out.cell 1).trans (by simp)
      have bx1lt : w.heap.size < W21.heap.size := bx1.out.lt
      go_wp2_with fail
      clear bx1c0 bx1c1 bx1lt
      refine (eqDataS_any x0 W21 G13 G21 _ _ X0.out hv21 Y0.out hfs21.under).mono ?_
      rintro e W22 ⟨rfl, hb22⟩
      have hB24 := hB23.trans (hb22.mono hB23.size)
      have bx1n : Hid (Blk W22 (w.heap.size) 24 #[.int .i64 x1.d, .int .i64 x1.i]) := bx1.out.same (hb22.block _ bx1.out.lt)
      clear bx1
      have bx1 := bx1n
      clear bx1n
      have X0n := Lib.hid (ArrDt.below X0.out hb22 Y0.out)
      have Y0n := Lib.hid (Y0.out.mono hb22.size)
      clear X0 Y0
      have X0 := X0n
      have Y0 := Y0n
      clear X0n Y0n
      have X2n := Lib.hid (ArrCl.below X2.out hb22 Y2.out)
      have Y2n := Lib.hid (Y2.out.mono hb22.size)
      clear X2 Y2
      have X2 := X2n
      have Y2 := Y2n
      clear X2n Y2n
      have bx1c0 : W22.cell? ⟨w.heap.size, 0, none⟩ = some (.int .i64 x1.d) := (bx1.out.cell 0).trans (by simp)
      have bx1c1 : W22.cell? ⟨w.heap.size, 1, none⟩ = some (.int .i64 x1.i) := (bx1.out.cell 1).trans (by simp)
      have bx1lt : w.heap.size < W22.heap.size := bx1.out.lt
      go_wp2_with fail
      clear bx1c0 bx1c1 bx1lt
      refine (toClauseS_any x2 W22 F2 _ (ArrCl.below HR2.out hB24 HU2.out) (HU2.out.mono hB24.size) hs2).mono ?_
      rintro e W25 ⟨y25, G25, rfl, hb25, hv25, hfr25, hfs25⟩
      have hB27 := hB24.trans (hb25.mono hB24.size)
      have bx1n : Hid (Blk W25 (w.heap.size) 24 #[.int .i64 x1.d, .int .i64 x1.i]) := bx1.out.same (hb25.block _ bx1.out.lt)
      clear bx1
      have bx1 := bx1n
      clear bx1n
      have X0n := Lib.hid (ArrDt.below X0.out hb25 Y0.out)
      have Y0n := Lib.hid (Y0.out.mono hb25.size)
      clear X0 Y0
      have X0 := X0n
      have Y0 := Y0n
      clear X0n Y0n
      have X2n := Lib.hid (ArrCl.below X2.out hb25 Y2.out)
      have Y2n := Lib.hid (Y2.out.mono hb25.size)
      clear X2 Y2
      have X2 := X2n
      have Y2 := Y2n
      clear X2n Y2n
      have bx1c0 : W25.cell? ⟨w.heap.size, 0, none⟩ = some (.int .i64 x1.d) := (bx1.out.cell 0).trans (by simp)
      have bx1c1 : W25.cell? ⟨w.heap.size, 1, none⟩ = some (.int .i64 x1.i) := (bx1.out.cell 1).trans (by simp)
      have bx1lt : w.heap.size < W25.heap.size := bx1.out.lt
      go_wp2_with fail
      clear bx1c0 bx1c1 bx1lt
      refine (eqClauseS_any x2 W25 G15 G25 _ _ X2.out hv25 Y2.out hfs25.under).mono ?_
      rintro e W26 ⟨rfl, hb26⟩
      have hB28 := hB27.trans (hb26.mono hB27.size)
      have bx1n : Hid (Blk W26 (w.heap.size) 24 #[.int .i64 x1.d, .int .i64 x1.i]) := bx1.out.same (hb26.block _ bx1.out.lt)
      clear bx1
      have bx1 := bx1n
      clear bx1n
      have X0n := Lib.hid (ArrDt.below X0.out hb26 Y0.out)
      have Y0n := Lib.hid (Y0.out.mono hb26.size)
      clear X0 Y0
      have X0 := X0n
      have Y0 := Y0n
      clear X0n Y0n
      have X2n := Lib.hid (ArrCl.below X2.out hb26 Y2.out)
      have Y2n := Lib.hid (Y2.out.mono hb26.size)
      clear X2 Y2
      have X2 := X2n
      have Y2 := Y2n
      clear X2n Y2n
      go_wp2
      go_ret
      exact ⟨rfl, hB28⟩
    · rw [show szLeft (Cl.sizes x2) (1048576 - ((Dt.sizes x0) : Int)) = -1 from if_neg hz2]
      go_wp2
      go_ret
      exact ⟨rfl, hB6⟩
  · rw [show szLeft (Dt.sizes x0) (1048576) = -1 from if_neg hz0]
    go_wp2
    go_ret
    exact ⟨rfl, hB4⟩
end Go.Proofs.Ytbffkgfhcmigaaa.fnExactClausesValid

namespace Go.Proofs.Ytbffkgfhcmigaaa.fnExactClausesValid
open Go.ChangeShapes Go.WideShapes Go.ChangeAt Go.RowKit
open Go.ChangeMaps (open_string shut_string)
set_option linter.unusedVariables false

theorem own : ownKnob Try.prog.godebug = none := by kernel_rfl
theorem laidOut : laidOutB Try.prog = true := by kernel_rfl

set_option maxRecDepth 100000 in
theorem lifted (os : Os) (started : os.Started) (H : Type) (enc : TypeId × Value → H) :
    ReturnsInHanded {} Try.checked os 7 .any (Rows.fnExactClausesValidSpec.pre6 enc Try.prog Try.f7 Rows.fnExactClausesValidRow.domain false) (Rows.fnExactClausesValidSpec.post enc Try.prog Try.f7 false true false false) := by
  refine returnsInHanded_of_change (C := Try.checked) own started (by kernel_rfl) Try.func7
    (ChangeSpec.witness6 (enc := enc) (C := Try.checked) false ⟨#[], #[.slice none 0 0, .agg #[.int .i64 0, .int .i64 0], .slice none 0 0], []⟩ 8 (by kernel_rfl) (by kernel_rfl) (by kernel_rfl) (by kernel_rfl)) ?_
  intro W base args ds gs before hval0 hW hcnd _
  have hval : ∀ (j : Nat) t v, Try.f7.params[j]? = some t → args[j]? = some v → Value.okWide Try.prog W .any base t v := hval0
  have hW' := hW
  obtain ⟨p, q, hA0, hV, rfl, hfz, hnd⟩ := hW
  have hA : DataW.TrodAll enc Try.prog W 0 (fun _ => true) true Try.f7.params.toList args.toList ds p := hA0
  rw [Try.params7] at hA hval
  obtain ⟨v0, vs0, d0, ds0, p0, q0, hargs, rfl, rfl, h0, r0⟩ := trodAll_cons hA
  obtain ⟨v1, vs1, d1, ds1, p1, q1, rfl, rfl, rfl, h1, r1⟩ := trodAll_cons r0
  obtain ⟨v2, vs2, d2, ds2, p2, q2, rfl, rfl, rfl, h2, r2⟩ := trodAll_cons r1
  obtain ⟨rfl, rfl, rfl⟩ := trodAll_nil r2
  obtain rfl : args = #[v0, v1, v2] := by cases args; simp_all
  obtain ⟨rfl, rfl⟩ := trodVars_none hV
  have k0 := h0
  have lt0 : ∀ x ∈ p0, x.block < W.heap.size := by obtain ⟨m, hm⟩ := k0; exact DataW.trod_lt m _ _ _ hm
  have k1 := h1
  have lt1 : ∀ x ∈ p1, x.block < W.heap.size := by obtain ⟨m, hm⟩ := k1; exact DataW.trod_lt m _ _ _ hm
  have k2 := h2
  have lt2 : ∀ x ∈ p2, x.block < W.heap.size := by obtain ⟨m, hm⟩ := k2; exact DataW.trod_lt m _ _ _ hm
  obtain ⟨x0, F0, hR0, hU0⟩ := open_Dts (hval 0 22 v0 rfl rfl) h0
  obtain ⟨x1, cs1, F1, rfl, hR1, hU1⟩ := open_Ty (hval 1 24 v1 rfl rfl) h1
  obtain ⟨x2, F2, hR2, hU2⟩ := open_Cls (hval 2 72 v2 rfl rfl) h2
  clear hA0 hval0
  refine (walk x0 v0 F0 hR0 hU0 x1 cs1 F1 hR1 hU1 x2 v2 F2 hR2 hU2 W rfl).mono fun e W' ⟨he, bel⟩ => ?_
  subst he
  exact ⟨_, rfl, _, _, _, [], _, [], hW', trodAll_mk1 (shut_bool Try.underlying4 _), (trodAll_cons_mk (Below.trod laidOut (by kernel_rfl) (of_decide_eq_true (by kernel_rfl)) k0 bel lt0) (trodAll_cons_mk (Below.trod laidOut (by kernel_rfl) (of_decide_eq_true (by kernel_rfl)) k1 bel lt1) (trodAll_cons_mk (Below.trod laidOut (by kernel_rfl) (of_decide_eq_true (by kernel_rfl)) k2 bel lt2) trodAll_mk0))), rfl, bel.frame _, fun h => by cases h⟩

set_option maxHeartbeats 4000000 in
theorem closed : joinedFacts Try.pinned.checked.prog 7 Try.f7 Rows.fnExactClausesValidSpec Rows.fnExactClausesValidRow = true := by
  unfold joinedFacts
  have key : ∀ a b : Bool, a = true → b = true → (a && b) = true := fun a b h1 h2 => by rw [h1, h2]; rfl
  repeat' (with_reducible refine key _ _ ?_ ?_)
  all_goals as_aux_lemma => kernel_rfl

theorem over : Rows.fnExactClausesValidRow.holds Try.pinned (OpenSpec.ofChange Rows.fnExactClausesValidSpec) :=
  OpenClaim.holds_of_wide 7 Try.f7 rfl rfl rfl rfl rfl rfl rfl ⟨rfl, rfl, rfl, rfl, rfl⟩ rfl rfl rfl rfl rfl (by kernel_rfl) Try.func7 closed
    (of_decide_eq_true (by kernel_rfl)) (by unfold Func.isWrapper; first | (rw [if_pos (by decide +kernel)]; kernel_rfl) | (rw [if_neg (by decide +kernel)]; exact ⟨rfl, rfl⟩))
    (fun os started H enc _ => lifted os started H enc)

theorem proved : Rows.FnExactClausesValidSaid := over
end Go.Proofs.Ytbffkgfhcmigaaa.fnExactClausesValid
