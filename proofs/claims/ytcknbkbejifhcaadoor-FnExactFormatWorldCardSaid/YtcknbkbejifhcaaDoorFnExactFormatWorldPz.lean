/-
  FnExactFormatWorld: for every argument the law returns true; the card. Conditions: the listed package-level variables hold what the card ties to the program's text.
-/
import Derived.Test.YtcknbkbejifhcaaDoorFnExactFormatWorldPa
import Derived.Test.YtcknbkbejifhcaaDoorFnExactFormatWorldPb
import Derived.Deep.RegionWith
import Derived.Deep.RegionHeld3
import Derived.BigQuiet
import Derived.Test.YtcknbkbejifhcaaDoorRows
import Derived.Test.YtcknbkbejifhcaaDoorCards
import Derived.Test.YtcknbkbejifhcaaDoorTie
import Derived.ProofKit
import Derived.LaidMore
import Derived.OpenShut
import Derived.ShutString
import Derived.ChangeOld
import Derived.Below
import Derived.SevenTiedAt

set_option linter.unusedVariables false
set_option linter.unusedSimpArgs false

namespace Go.Proofs.YtcknbkbejifhcaaDoor.fnExactFormatWorld
open Go.RowKit

set_option maxRecDepth 100000 in
set_option maxHeartbeats 1600000 in
theorem walk {W : World} (x0 : List Dt) (v0 : Value) (F0 : List Nat) (hR0 : Arr W (DtR W) x0 v0 F0) (hU0 : Under W.heap.size F0) (w : World) (hw : w = W) :
    Calls Tryd.prog 6 #[v0] w fun e w' => e = .returned (.bool true) ∧ Below w.heap.size w w' := by
  subst hw
  obtain ⟨A0, cap0, rfl, -, -⟩ := hR0.form
  have HR0 := Lib.hid hR0
  have HU0 := Lib.hid hU0
  clear hR0 hU0
  go_enter Tryd.func6, Tryd.ntmps6
  go_wp2_with fail
  have hB0 : Below w.heap.size w w := Below.refl _ _
  refine (szDataS_any x0 w F0 _ (1048576) (ArrDt.below HR0.out hB0 HU0.out) (HU0.out.mono hB0.size) (by omega) (by omega)).mono ?_
  rintro e W1 ⟨rfl, hb1⟩
  have hB2 := hB0.trans (hb1.mono hB0.size)
  by_cases hz0 : ((Dt.sizes x0) : Int) ≤ 1048576
  · rw [show szLeft (Dt.sizes x0) (1048576) = 1048576 - ((Dt.sizes x0) : Int) from if_pos hz0]
    have hnn0 : 0 ≤ 1048576 - ((Dt.sizes x0) : Int) := by omega
    have hs0 : (Dt.sizes x0) ≤ 1048576 := by omega
    go_wp2_with fail
    refine (toDataS_any x0 W1 F0 _ (ArrDt.below HR0.out hB2 HU0.out) (HU0.out.mono hB2.size) hs0).mono ?_
    rintro e W3 ⟨y3, G3, rfl, hb3, hv3, hfr3, hfs3⟩
    have hB4 := hB2.trans (hb3.mono hB2.size)
    have T0 := Lib.hid hv3
    have TU0 := Lib.hid hfs3.under
    clear hv3 hfr3 hfs3
    go_wp2_with fail
    refine (spec_FormatWorld x0 _ _ G3 T0.out TU0.out).mono ?_
    rintro e W5 ⟨rfl, hb5⟩
    have hB6 := hB4.trans (hb5.mono hB4.size)
    generalize hres : fmtW x0 = r0
    have HRes := Lib.hid hres
    clear hres
    go_wp2_with fail
    refine (toDataS_any x0 W5 F0 _ (ArrDt.below HR0.out hB6 HU0.out) (HU0.out.mono hB6.size) hs0).mono ?_
    rintro e W7 ⟨y7, G7, rfl, hb7, hv7, hfr7, hfs7⟩
    have hB8 := hB6.trans (hb7.mono hB6.size)
    obtain ⟨B0, bap0, rfl, -, -⟩ := hv7.form
    have X0 := Lib.hid hv7
    have Y0 := Lib.hid hfs7.under
    clear hv7 hfr7 hfs7
    go_wp2_with fail
    refine (impl_FormatWorld x0 _ _ G7 X0.out Y0.out).mono ?_
    rintro e W9 ⟨rfl, hb9⟩
    have hB10 := hB8.trans (hb9.mono hB8.size)
    have X0n := Lib.hid (ArrDt.below X0.out hb9 Y0.out)
    have Y0n := Lib.hid (Y0.out.mono hb9.size)
    clear X0 Y0
    have X0 := X0n
    have Y0 := Y0n
    clear X0n Y0n
    rw [HRes.out]
    have hne : (r0.toList != r0.toList) = false := by simp
    go_wp2_with fail
    refine (toDataS_any x0 W9 F0 _ (ArrDt.below HR0.out hB10 HU0.out) (HU0.out.mono hB10.size) hs0).mono ?_
    rintro e W11 ⟨y11, G11, rfl, hb11, hv11, hfr11, hfs11⟩
    have hB13 := hB10.trans (hb11.mono hB10.size)
    have X0n := Lib.hid (ArrDt.below X0.out hb11 Y0.out)
    have Y0n := Lib.hid (Y0.out.mono hb11.size)
    clear X0 Y0
    have X0 := X0n
    have Y0 := Y0n
    clear X0n Y0n
    go_wp2_with fail
    refine (eqDataS_any x0 W11 G7 G11 _ _ X0.out hv11 Y0.out hfs11.under).mono ?_
    rintro e W12 ⟨rfl, hb12⟩
    have hB14 := hB13.trans (hb12.mono hB13.size)
    have X0n := Lib.hid (ArrDt.below X0.out hb12 Y0.out)
    have Y0n := Lib.hid (Y0.out.mono hb12.size)
    clear X0 Y0
    have X0 := X0n
    have Y0 := Y0n
    clear X0n Y0n
    go_wp2
    go_ret
    exact ⟨rfl, hB14⟩
  · rw [show szLeft (Dt.sizes x0) (1048576) = -1 from if_neg hz0]
    go_wp2
    go_ret
    exact ⟨rfl, hB2⟩
end Go.Proofs.YtcknbkbejifhcaaDoor.fnExactFormatWorld

namespace Go.Proofs.YtcknbkbejifhcaaDoor.fnExactFormatWorld
open Go.ChangeShapes Go.WideShapes Go.ChangeAt Go.RowKit
open Go.ChangeMaps (open_string shut_string)
set_option linter.unusedVariables false

theorem own : ownKnob Tryd.prog.godebug = none := by kernel_rfl
theorem laidOut : laidOutB Tryd.prog = true := by kernel_rfl
theorem door_met (os : Os) (args : Array Value) : laidMetH Tryd.prog Rows.fnExactFormatWorldRow.laid ((World.doorLaid Tryd.prog 24 os).forCall (fun _ _ => 0) ⟨#[], args, []⟩).memory :=
  laidMetH_of_parts3 (fuel := 8) (laidMet_of_run' 8 (by kernel_rfl) (by kernel_rfl)) (by kernel_rfl) (by kernel_rfl)

set_option maxRecDepth 100000 in
theorem lifted (os : Os) (started : os.Started) (H : Type) (enc : TypeId × Value → H) :
    ReturnsInHanded {} Tryd.checked os 6 .any (fun w args => (Rows.fnExactFormatWorldSpec.pre enc Tryd.prog Tryd.f6 [] false w args ∧ laidMetH Tryd.prog Rows.fnExactFormatWorldRow.laid w) ∧ sizedMet enc Tryd.prog Tryd.f6 (OpenSpec.ofChange Rows.fnExactFormatWorldSpec) false w args)
      (Rows.fnExactFormatWorldSpec.post enc Tryd.prog Tryd.f6 false true false false) := by
  refine returnsInHanded_of_change_and (C := Tryd.checked) (X := fun w _ => laidMetH Tryd.prog Rows.fnExactFormatWorldRow.laid w) (fun _ _ _ hh h => h.of_heap hh) own started (by kernel_rfl) Tryd.func6
    (ChangeSpec.witness_shaped (enc := enc) (C := Tryd.checked) (os := os) (X := fun w _ => laidMetH Tryd.prog Rows.fnExactFormatWorldRow.laid w) false (World.doorLaid Tryd.prog 24 os) #[.slice none 0 0] 8 rfl (World.shaped_of_RefB (by kernel_rfl) (by kernel_rfl)) (by kernel_rfl) (by kernel_rfl) (by kernel_rfl) (door_met os _)) ?_
  intro W base args ds gs before hval0 hW _ _ _ _
  have hval : ∀ (j : Nat) t v, Tryd.f6.params[j]? = some t → args[j]? = some v → Value.okWide Tryd.prog W .any base t v := hval0
  have hW' := hW
  obtain ⟨p, q, hA0, hV, rfl, hfz, hnd⟩ := hW
  have hA : DataW.TrodAll enc Tryd.prog W 0 (fun _ => true) true Tryd.f6.params.toList args.toList ds p := hA0
  rw [Tryd.params6] at hA hval
  obtain ⟨v0, vs0, d0, ds0, p0, q0, hargs, rfl, rfl, h0, r0⟩ := trodAll_cons hA
  obtain ⟨rfl, rfl, rfl⟩ := trodAll_nil r0
  obtain rfl : args = #[v0] := by cases args; simp_all
  obtain ⟨rfl, rfl⟩ := trodVars_none hV
  have k0 := h0
  have lt0 : ∀ x ∈ p0, x.block < W.heap.size := by obtain ⟨m, hm⟩ := k0; exact DataW.trod_lt m _ _ _ hm
  obtain ⟨x0, F0, hR0, hU0⟩ := open_Dts (hval 0 38 v0 rfl rfl) h0
  clear hA0 hval0
  refine (walk x0 v0 F0 hR0 hU0 W rfl).mono fun e W' ⟨he, bel⟩ => ?_
  subst he
  exact ⟨_, rfl, _, _, _, [], _, [], hW', trodAll_mk1 (shut_bool Tryd.underlying4 _), (trodAll_cons_mk (Below.trod laidOut (by kernel_rfl) (of_decide_eq_true (by kernel_rfl)) k0 bel lt0) trodAll_mk0), rfl, bel.frame _, fun h => by cases h⟩

theorem over : Rows.fnExactFormatWorldRow.holds Tryd.pinned (OpenSpec.ofChange Rows.fnExactFormatWorldSpec) :=
  OpenClaim.holds_of_wide 6 Tryd.f6 rfl rfl rfl rfl rfl rfl rfl ⟨rfl, rfl, rfl, rfl, rfl⟩ rfl rfl rfl rfl rfl (by kernel_rfl) Tryd.func6 (by kernel_rfl)
    (of_decide_eq_true (by kernel_rfl)) (by unfold Func.isWrapper; first | (rw [if_pos (by decide +kernel)]; kernel_rfl) | (rw [if_neg (by decide +kernel)]; exact ⟨rfl, rfl⟩))
    (fun os started H enc _ => lifted os started H enc)

theorem proved : Rows.FnExactFormatWorldCardSaid :=
  Claim7.holds_tied_plain_at .later _ _ _ _ _
    over (fun _ h => by cases h) (by kernel_rfl) (fun _ h => by cases h) fnExactFormatWorld_row_tie rfl ⟨rfl, rfl⟩ (by kernel_rfl) rfl
    (fun f fn hf hfn => by
      obtain rfl : f = 6 := Option.some.inj ((show Tryd.prog.funcNamed "loop.example/matchcompiler/laws.FnExactFormatWorld" = some 6 by kernel_rfl).symm.trans hf) |>.symm
      obtain rfl : fn = Tryd.f6 := (Option.some.inj (Tryd.func6.symm.trans hfn)).symm
      exact ⟨by kernel_rfl, fun j t ht => by
        rw [Tryd.params6] at ht
        have hm : t ∈ [38] := by simpa using Array.mem_of_getElem? ht
        have hall : ([38].all fun u => !Tryd.prog.wantsStandIn u) = true := by kernel_rfl
        exact (show Tryd.prog.wantsStandIn t = false by simpa using List.all_eq_true.1 hall t hm)⟩)
    (by kernel_rfl)
end Go.Proofs.YtcknbkbejifhcaaDoor.fnExactFormatWorld
