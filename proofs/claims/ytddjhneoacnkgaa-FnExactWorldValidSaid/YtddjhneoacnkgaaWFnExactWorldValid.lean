/-
  FnExactWorldValid: the walk: the law returns true and leaves what was there alone. Conditions: the arguments lie in memory as plain data.
-/
import Derived.Test.YtddjhneoacnkgaaSzDt
import Derived.Test.YtddjhneoacnkgaaToDt
import Derived.Test.YtddjhneoacnkgaaEqDt
import Derived.Test.YtddjhneoacnkgaaWorldVS
import Derived.Test.YtddjhneoacnkgaaWorldVI
import Derived.Deep.RegionWith
import Derived.Deep.RegionHeld3
import Derived.BigQuiet
namespace Go.Proofs.Ytddjhneoacnkgaa.fnExactWorldValid
open Go.RowKit

set_option maxRecDepth 100000 in
set_option maxHeartbeats 1600000 in
theorem walk {W : World} (x0 : List Dt) (v0 : Value) (F0 : List Nat) (hR0 : Arr W (DtR W) x0 v0 F0) (hU0 : Under W.heap.size F0) (w : World) (hw : w = W) :
    Calls Try.prog 4 #[v0] w fun e w' => e = .returned (.bool true) ∧ Below w.heap.size w w' := by
  subst hw
  obtain ⟨A0, cap0, rfl, -, -⟩ := hR0.form
  have HR0 := Lib.hid hR0
  have HU0 := Lib.hid hU0
  clear hR0 hU0
  go_enter Try.func4, Try.ntmps4
  go_wp2_with fail
  have hB0 : Below w.heap.size w w := Below.refl _ _
  refine (szDataS_any x0 w F0 _ (1048576) (ArrDt.below HR0.out hB0 HU0.out) (HU0.out.mono hB0.size) (by omega) (by omega)).mono ?_
  rintro e W1 ⟨rfl, hb1⟩
  have hB2 := hB0.trans (hb1.mono hB0.size)
  by_cases hz0 : ((Dt.sizes x0) : Int) ≤ 1048576
  · rw [show szLeft (Dt.sizes x0) (1048576) = 1048576 - ((Dt.sizes x0) : Int) from if_pos hz0]
    have hnn0 : 0 ≤ 1048576 - ((Dt.sizes x0) : Int) := by omega
    have hs0 : (Dt.sizes x0) ≤ 1048576 := by omega
    go_wp2_with fail
    refine (toDataS_any x0 W1 F0 _ (ArrDt.below HR0.out hB2 HU0.out) (HU0.out.mono hB2.size) hs0).mono ?_
    rintro e W3 ⟨y3, G3, rfl, hb3, hv3, hfr3, hfs3⟩
    have hB4 := hB2.trans (hb3.mono hB2.size)
    have T0 := Lib.hid hv3
    have TU0 := Lib.hid hfs3.under
    clear hv3 hfr3 hfs3
    go_wp2_with fail
    refine (spec_WorldValid x0 _ _ G3 T0.out TU0.out).mono ?_
    rintro e W5 ⟨rfl, hb5⟩
    have hB6 := hB4.trans (hb5.mono hB4.size)
    generalize hres : worldOk x0 = r0
    have HRes := Lib.hid hres
    clear hres
    go_wp2_with fail
    refine (toDataS_any x0 W5 F0 _ (ArrDt.below HR0.out hB6 HU0.out) (HU0.out.mono hB6.size) hs0).mono ?_
    rintro e W7 ⟨y7, G7, rfl, hb7, hv7, hfr7, hfs7⟩
    have hB8 := hB6.trans (hb7.mono hB6.size)
    obtain ⟨B0, bap0, rfl, -, -⟩ := hv7.form
    have X0 := Lib.hid hv7
    have Y0 := Lib.hid hfs7.under
    clear hv7 hfr7 hfs7
    go_wp2_with fail
    refine (impl_WorldValid x0 _ _ G7 X0.out Y0.out).mono ?_
    rintro e W9 ⟨rfl, hb9⟩
    have hB10 := hB8.trans (hb9.mono hB8.size)
    have X0n := Lib.hid (ArrDt.below X0.out hb9 Y0.out)
    have Y0n := Lib.hid (Y0.out.mono hb9.size)
    clear X0 Y0
    have X0 := X0n
    have Y0 := Y0n
    clear X0n Y0n
    rw [HRes.out]
    have hne : (r0 != r0) = false := by simp
    go_wp2_with fail
    refine (toDataS_any x0 W9 F0 _ (ArrDt.below HR0.out hB10 HU0.out) (HU0.out.mono hB10.size) hs0).mono ?_
    rintro e W11 ⟨y11, G11, rfl, hb11, hv11, hfr11, hfs11⟩
    have hB13 := hB10.trans (hb11.mono hB10.size)
    have X0n := Lib.hid (ArrDt.below X0.out hb11 Y0.out)
    have Y0n := Lib.hid (Y0.out.mono hb11.size)
    clear X0 Y0
    have X0 := X0n
    have Y0 := Y0n
    clear X0n Y0n
    go_wp2_with fail
    refine (eqDataS_any x0 W11 G7 G11 _ _ X0.out hv11 Y0.out hfs11.under).mono ?_
    rintro e W12 ⟨rfl, hb12⟩
    have hB14 := hB13.trans (hb12.mono hB13.size)
    have X0n := Lib.hid (ArrDt.below X0.out hb12 Y0.out)
    have Y0n := Lib.hid (Y0.out.mono hb12.size)
    clear X0 Y0
    have X0 := X0n
    have Y0 := Y0n
    clear X0n Y0n
    go_wp2
    go_ret
    exact ⟨rfl, hB14⟩
  · rw [show szLeft (Dt.sizes x0) (1048576) = -1 from if_neg hz0]
    go_wp2
    go_ret
    exact ⟨rfl, hB2⟩
end Go.Proofs.Ytddjhneoacnkgaa.fnExactWorldValid
