/-
  FnExactClausesSame: the walk: the law returns true and leaves what was there alone. Conditions: the arguments lie in memory as plain data.
-/
import Derived.Test.YtjejbdbfjiocoaaSameCl
import Derived.Test.YtjejbdbfjiocoaaSameClS
import Derived.Test.YtjejbdbfjiocoaaSzCl
import Derived.Test.YtjejbdbfjiocoaaToCl
import Derived.Test.YtjejbdbfjiocoaaEqCl
import Derived.Deep.RegionWith
import Derived.Deep.RegionHeld3
import Derived.BigQuiet
namespace Go.Proofs.Ytjejbdbfjiocoaa.fnExactClausesSame
open Go.RowKit

set_option maxRecDepth 100000 in
set_option maxHeartbeats 1600000 in
theorem walk {W : World} (x0 : List Cl) (v0 : Value) (F0 : List Nat) (hR0 : Arr W (ClR W) x0 v0 F0) (hU0 : Under W.heap.size F0) (x1 : List Cl) (v1 : Value) (F1 : List Nat) (hR1 : Arr W (ClR W) x1 v1 F1) (hU1 : Under W.heap.size F1) (w : World) (hw : w = W) :
    Calls Try.prog 3 #[v0, v1] w fun e w' => e = .returned (.bool true) ∧ Below w.heap.size w w' := by
  subst hw
  obtain ⟨A0, cap0, rfl, -, -⟩ := hR0.form
  obtain ⟨A1, cap1, rfl, -, -⟩ := hR1.form
  have HR0 := Lib.hid hR0
  have HU0 := Lib.hid hU0
  clear hR0 hU0
  have HR1 := Lib.hid hR1
  have HU1 := Lib.hid hU1
  clear hR1 hU1
  go_enter Try.func3, Try.ntmps3
  go_wp2_with fail
  have hB0 : Below w.heap.size w w := Below.refl _ _
  refine (szClauseS_any x0 w F0 _ (1048576) (ArrCl.below HR0.out hB0 HU0.out) (HU0.out.mono hB0.size) (by omega) (by omega)).mono ?_
  rintro e W1 ⟨rfl, hb1⟩
  have hB2 := hB0.trans (hb1.mono hB0.size)
  by_cases hz0 : ((Cl.sizes x0) : Int) ≤ 1048576
  · rw [show szLeft (Cl.sizes x0) (1048576) = 1048576 - ((Cl.sizes x0) : Int) from if_pos hz0]
    have hnn0 : 0 ≤ 1048576 - ((Cl.sizes x0) : Int) := by omega
    go_wp2_with fail
    refine (szClauseS_any x1 W1 F1 _ (1048576 - ((Cl.sizes x0) : Int)) (ArrCl.below HR1.out hB2 HU1.out) (HU1.out.mono hB2.size) (by omega) (by omega)).mono ?_
    rintro e W3 ⟨rfl, hb3⟩
    have hB4 := hB2.trans (hb3.mono hB2.size)
    by_cases hz1 : ((Cl.sizes x1) : Int) ≤ 1048576 - ((Cl.sizes x0) : Int)
    · rw [show szLeft (Cl.sizes x1) (1048576 - ((Cl.sizes x0) : Int)) = 1048576 - ((Cl.sizes x0) : Int) - ((Cl.sizes x1) : Int) from if_pos hz1]
      have hnn1 : 0 ≤ 1048576 - ((Cl.sizes x0) : Int) - ((Cl.sizes x1) : Int) := by omega
      have hs0 : (Cl.sizes x0) ≤ 1048576 := by omega
      have hs1 : (Cl.sizes x1) ≤ 1048576 := by omega
      go_wp2_with fail
      refine (toClauseS_any x0 W3 F0 _ (ArrCl.below HR0.out hB4 HU0.out) (HU0.out.mono hB4.size) hs0).mono ?_
      rintro e W5 ⟨y5, G5, rfl, hb5, hv5, hfr5, hfs5⟩
      have hB6 := hB4.trans (hb5.mono hB4.size)
      have T0 := Lib.hid hv5
      have TU0 := Lib.hid hfs5.under
      clear hv5 hfr5 hfs5
      go_wp2_with fail
      refine (toClauseS_any x1 W5 F1 _ (ArrCl.below HR1.out hB6 HU1.out) (HU1.out.mono hB6.size) hs1).mono ?_
      rintro e W7 ⟨y7, G7, rfl, hb7, hv7, hfr7, hfs7⟩
      have hB8 := hB6.trans (hb7.mono hB6.size)
      have T0n := Lib.hid (ArrCl.below T0.out hb7 TU0.out)
      have TU0n := Lib.hid (TU0.out.mono hb7.size)
      clear T0 TU0
      have T0 := T0n
      have TU0 := TU0n
      clear T0n TU0n
      have T1 := Lib.hid hv7
      have TU1 := Lib.hid hfs7.under
      clear hv7 hfr7 hfs7
      go_wp2_with fail
      refine (spec_ClausesSame x0 x1 _ _ _ G5 G7 T0.out T1.out TU0.out TU1.out).mono ?_
      rintro e W9 ⟨rfl, hb9⟩
      have hB10 := hB8.trans (hb9.mono hB8.size)
      generalize hres : sameBy Cl.same x0 x1 = r0
      have HRes := Lib.hid hres
      clear hres
      go_wp2_with fail
      refine (toClauseS_any x0 W9 F0 _ (ArrCl.below HR0.out hB10 HU0.out) (HU0.out.mono hB10.size) hs0).mono ?_
      rintro e W11 ⟨y11, G11, rfl, hb11, hv11, hfr11, hfs11⟩
      have hB12 := hB10.trans (hb11.mono hB10.size)
      obtain ⟨B0, bap0, rfl, -, -⟩ := hv11.form
      have X0 := Lib.hid hv11
      have Y0 := Lib.hid hfs11.under
      clear hv11 hfr11 hfs11
      go_wp2_with fail
      refine (toClauseS_any x1 W11 F1 _ (ArrCl.below HR1.out hB12 HU1.out) (HU1.out.mono hB12.size) hs1).mono ?_
      rintro e W13 ⟨y13, G13, rfl, hb13, hv13, hfr13, hfs13⟩
      have hB14 := hB12.trans (hb13.mono hB12.size)
      have X0n := Lib.hid (ArrCl.below X0.out hb13 Y0.out)
      have Y0n := Lib.hid (Y0.out.mono hb13.size)
      clear X0 Y0
      have X0 := X0n
      have Y0 := Y0n
      clear X0n Y0n
      obtain ⟨B1, bap1, rfl, -, -⟩ := hv13.form
      have X1 := Lib.hid hv13
      have Y1 := Lib.hid hfs13.under
      clear hv13 hfr13 hfs13
      go_wp2_with fail
      refine (impl_ClausesSame x0 x1 _ _ _ G11 G13 X0.out X1.out Y0.out Y1.out).mono ?_
      rintro e W15 ⟨rfl, hb15⟩
      have hB16 := hB14.trans (hb15.mono hB14.size)
      have X0n := Lib.hid (ArrCl.below X0.out hb15 Y0.out)
      have Y0n := Lib.hid (Y0.out.mono hb15.size)
      clear X0 Y0
      have X0 := X0n
      have Y0 := Y0n
      clear X0n Y0n
      have X1n := Lib.hid (ArrCl.below X1.out hb15 Y1.out)
      have Y1n := Lib.hid (Y1.out.mono hb15.size)
      clear X1 Y1
      have X1 := X1n
      have Y1 := Y1n
      clear X1n Y1n
      rw [HRes.out]
      have hne : (r0 != r0) = false := by simp
      go_wp2_with fail
      refine (toClauseS_any x0 W15 F0 _ (ArrCl.below HR0.out hB16 HU0.out) (HU0.out.mono hB16.size) hs0).mono ?_
      rintro e W17 ⟨y17, G17, rfl, hb17, hv17, hfr17, hfs17⟩
      have hB19 := hB16.trans (hb17.mono hB16.size)
      have X0n := Lib.hid (ArrCl.below X0.out hb17 Y0.out)
      have Y0n := Lib.hid (Y0.out.mono hb17.size)
      clear X0 Y0
      have X0 := X0n
      have Y0 := Y0n
      clear X0n Y0n
      have X1n := Lib.hid (ArrCl.below X1.out hb17 Y1.out)
      have Y1n := Lib.hid (Y1.out.mono hb17.size)
      clear X1 Y1
      have X1 := X1n
      have Y1 := Y1n
      clear X1n Y1n
      go_wp2_with fail
      refine (eqClauseS_any x0 W17 G11 G17 _ _ X0.out hv17 Y0.out hfs17.under).mono ?_
      rintro e W18 ⟨rfl, hb18⟩
      have hB20 := hB19.trans (hb18.mono hB19.size)
      have X0n := Lib.hid (ArrCl.below X0.out hb18 Y0.out)
      have Y0n := Lib.hid (Y0.out.mono hb18.size)
      clear X0 Y0
      have X0 := X0n
      have Y0 := Y0n
      clear X0n Y0n
      have X1n := Lib.hid (ArrCl.below X1.out hb18 Y1.out)
      have Y1n := Lib.hid (Y1.out.mono hb18.size)
      clear X1 Y1
      have X1 := X1n
      have Y1 := Y1n
      clear X1n Y1n
      go_wp2_with fail
      refine (toClauseS_any x1 W18 F1 _ (ArrCl.below HR1.out hB20 HU1.out) (HU1.out.mono hB20.size) hs1).mono ?_
      rintro e W21 ⟨y21, G21, rfl, hb21, hv21, hfr21, hfs21⟩
      have hB23 := hB20.trans (hb21.mono hB20.size)
      have X0n := Lib.hid (ArrCl.below X0.out hb21 Y0.out)
      have Y0n := Lib.hid (Y0.out.mono hb21.size)
      clear X0 Y0
      have X0 := X0n
      have Y0 := Y0n
      clear X0n Y0n
      have X1n := Lib.hid (ArrCl.below X1.out hb21 Y1.out)
      have Y1n := Lib.hid (Y1.out.mono hb21.size)
      clear X1 Y1
      have X1 := X1n
      have Y1 := Y1n
      clear X1n Y1n
      go_wp2_with fail
      refine (eqClauseS_any x1 W21 G13 G21 _ _ X1.out hv21 Y1.out hfs21.under).mono ?_
      rintro e W22 ⟨rfl, hb22⟩
      have hB24 := hB23.trans (hb22.mono hB23.size)
      have X0n := Lib.hid (ArrCl.below X0.out hb22 Y0.out)
      have Y0n := Lib.hid (Y0.out.mono hb22.size)
      clear X0 Y0
      have X0 := X0n
      have Y0 := Y0n
      clear X0n Y0n
      have X1n := Lib.hid (ArrCl.below X1.out hb22 Y1.out)
      have Y1n := Lib.hid (Y1.out.mono hb22.size)
      clear X1 Y1
      have X1 := X1n
      have Y1 := Y1n
      clear X1n Y1n
      go_wp2
      go_ret
      exact ⟨rfl, hB24⟩
    · rw [show szLeft (Cl.sizes x1) (1048576 - ((Cl.sizes x0) : Int)) = -1 from if_neg hz1]
      go_wp2
      go_ret
      exact ⟨rfl, hB4⟩
  · rw [show szLeft (Cl.sizes x0) (1048576) = -1 from if_neg hz0]
    go_wp2
    go_ret
    exact ⟨rfl, hB2⟩
end Go.Proofs.Ytjejbdbfjiocoaa.fnExactClausesSame
