/-
  FnExactFormatType: for every argument the law returns true; the card. Conditions: the listed package-level variables hold what the card ties to the program's text.
-/
import Derived.Test.YtcknbkbejifhcaaDoorFnExactFormatTypePa
import Derived.Test.YtcknbkbejifhcaaDoorFnExactFormatTypePb
import Derived.Deep.RegionWith
import Derived.Deep.RegionHeld3
import Derived.BigQuiet
import Derived.Test.YtcknbkbejifhcaaDoorRows
import Derived.Test.YtcknbkbejifhcaaDoorCards
import Derived.Test.YtcknbkbejifhcaaDoorTie
import Derived.ProofKit
import Derived.LaidMore
import Derived.OpenShut
import Derived.ShutString
import Derived.ChangeOld
import Derived.Below
import Derived.SevenTiedAt

set_option linter.unusedVariables false
set_option linter.unusedSimpArgs false

namespace Go.Proofs.YtcknbkbejifhcaaDoor.fnExactFormatType
open Go.RowKit

set_option maxRecDepth 100000 in
set_option maxHeartbeats 1600000 in
theorem walk {W : World} (x0 : List Dt) (v0 : Value) (F0 : List Nat) (hR0 : Arr W (DtR W) x0 v0 F0) (hU0 : Under W.heap.size F0) (x1 : Ty) (cs1 : List Value) (F1 : List Nat) (hR1 : TyR W x1 cs1 F1) (hU1 : Under W.heap.size F1) (w : World) (hw : w = W) :
    Calls Tryd.prog 5 #[v0, .agg cs1.toArray] w fun e w' => e = .returned (.bool true) ∧ Below w.heap.size w w' := by
  subst hw
  obtain ⟨A0, cap0, rfl, -, -⟩ := hR0.form
  obtain ⟨rfl, rfl⟩ := hR1
  have HR0 := Lib.hid hR0
  have HU0 := Lib.hid hU0
  clear hR0 hU0
  go_enter Tryd.func5, Tryd.ntmps5
  go_wp2_with fail
  have hB0 : Below w.heap.size w w := Below.refl _ _
  obtain ⟨W1, hW⟩ : ∃ X, X = (w.alloc (.cells #[.int .i64 x1.d, .int .i64 x1.i] 40)) := ⟨_, rfl⟩
  have hb1 : Below w.heap.size w W1 := by rw [hW]; exact ((Below.refl w.heap.size w).alloc (by simp <;> omega) _)
  have bx1 : Hid (Blk W1 (w.heap.size) 40 #[.int .i64 x1.d, .int .i64 x1.i]) := by
    rw [hW]
    have h0 := Blk.new w 40 #[.int .i64 x1.d, .int .i64 x1.i]
    exact (h0)
  rw [← hW]
  clear hW
  have hB2 := hB0.trans (hb1.mono hB0.size)
  refine (szDataS_any x0 W1 F0 _ (1048576) (ArrDt.below HR0.out hB2 HU0.out) (HU0.out.mono hB2.size) (by omega) (by omega)).mono ?_
  rintro e W3 ⟨rfl, hb3⟩
  have hB4 := hB2.trans (hb3.mono hB2.size)
  have bx1n : Hid (Blk W3 (w.heap.size) 40 #[.int .i64 x1.d, .int .i64 x1.i]) := bx1.out.same (hb3.block _ bx1.out.lt)
  clear bx1
  have bx1 := bx1n
  clear bx1n
  by_cases hz0 : ((Dt.sizes x0) : Int) ≤ 1048576
  · rw [show szLeft (Dt.sizes x0) (1048576) = 1048576 - ((Dt.sizes x0) : Int) from if_pos hz0]
    have hnn0 : 0 ≤ 1048576 - ((Dt.sizes x0) : Int) := by omega
    have hs0 : (Dt.sizes x0) ≤ 1048576 := by omega
    have bx1c0 : W3.cell? ⟨w.heap.size, 0, none⟩ = some (.int .i64 x1.d) := (bx1.out.cell 0).trans (by simp)
    have bx1c1 : W3.cell? ⟨w.heap.size, 1, none⟩ = some (.int .i64 x1.i) := (bx1.out.cell 1).trans (by simp)
    have bx1lt : w.heap.size < W3.heap.size := bx1.out.lt
    go_wp2_with fail
    have hkeep : ∀ U U' : World, (U.cell? ⟨w.heap.size, 0, none⟩ = some (.int .i64 x1.d) ∧ U.cell? ⟨w.heap.size, 1, none⟩ = some (.int .i64 x1.i)) → Below U.heap.size U U' → W3.heap.size ≤ U.heap.size → (U'.cell? ⟨w.heap.size, 0, none⟩ = some (.int .i64 x1.d) ∧ U'.cell? ⟨w.heap.size, 1, none⟩ = some (.int .i64 x1.i)) := fun U U' h hb hU => ⟨(hb.cell (Nat.lt_of_lt_of_le (bx1lt) hU)).trans h.1, (hb.cell (Nat.lt_of_lt_of_le (bx1lt) hU)).trans h.2⟩
    have HKeep := Lib.hid hkeep
    clear hkeep
    go_region_held3 (fun w' => w'.cell? ⟨w.heap.size, 0, none⟩ = some (.int .i64 x1.d) ∧ w'.cell? ⟨w.heap.size, 1, none⟩ = some (.int .i64 x1.i)) (first | assumption | (exact ⟨bx1c0, bx1c1⟩) | (exact HKeep.out W3.drew W5 ⟨bx1c0, bx1c1⟩ hb5 (Nat.le_refl _)) | (exact HKeep.out W5 W6 (by assumption) hb6 hleW5) | (exact HKeep.out W6 W7 (by assumption) hb7 hleW6)) (first | (go_at_call 17; ((with_reducible refine (toDataS_any x0 _ F0 _ (ArrDt.below HR0.out hB4.drew HU0.out) (HU0.out.mono hB4.drew.size) hs0).mono ?_); rintro e W5 ⟨y5, G5, rfl, hb5, hv5, hfr5, hfs5⟩); have hB5 := hB4.drew.trans (hb5.mono hB4.drew.size); have hleW5 : W3.heap.size ≤ W5.heap.size := hb5.size) | (go_at_call 18; ((with_reducible refine (toType_any x1 _ _ [] (TyR.mk0 _ x1) (Under.nil _) (Ty.size_le x1)).mono ?_); rintro e W6 ⟨ds6, G6, rfl, hb6, ⟨rfl, rfl⟩, hfr6, hfs6⟩); have hB6 := hB5.trans (hb6.mono hB5.size); have hleW6 : W3.heap.size ≤ W6.heap.size := Nat.le_trans hleW5 hb6.size) | (go_at_call 16; ((with_reducible refine (spec_FormatType x0 x1 _ _ G5 (ArrDt.below hv5 hb6 hfs5.under) (hfs5.under.mono hb6.size)).mono ?_); rintro e W7 ⟨rfl, hb7⟩)))
    have hbt8_0 := hb5
    have hbt8_1 := hbt8_0.trans (hb6.mono hbt8_0.size)
    have hbt8_2 := hbt8_1.trans (hb7.mono hbt8_1.size)
    clear bx1c0 bx1c1 bx1lt
    have hB9 := hB4.drew.trans (hbt8_2.mono hB4.size)
    have bx1n : Hid (Blk W7 (w.heap.size) 40 #[.int .i64 x1.d, .int .i64 x1.i]) := bx1.out.same (hbt8_2.block _ bx1.out.lt)
    clear bx1
    have bx1 := bx1n
    clear bx1n
    generalize hres : fmtTy x0 x1 = r0
    have HRes := Lib.hid hres
    clear hres
    have bx1c0 : W7.cell? ⟨w.heap.size, 0, none⟩ = some (.int .i64 x1.d) := (bx1.out.cell 0).trans (by simp)
    have bx1c1 : W7.cell? ⟨w.heap.size, 1, none⟩ = some (.int .i64 x1.i) := (bx1.out.cell 1).trans (by simp)
    have bx1lt : w.heap.size < W7.heap.size := bx1.out.lt
    go_wp2_with fail
    clear bx1c0 bx1c1 bx1lt
    refine (toDataS_any x0 W7 F0 _ (ArrDt.below HR0.out hB9 HU0.out) (HU0.out.mono hB9.size) hs0).mono ?_
    rintro e W10 ⟨y10, G10, rfl, hb10, hv10, hfr10, hfs10⟩
    have hB11 := hB9.trans (hb10.mono hB9.size)
    have bx1n : Hid (Blk W10 (w.heap.size) 40 #[.int .i64 x1.d, .int .i64 x1.i]) := bx1.out.same (hb10.block _ bx1.out.lt)
    clear bx1
    have bx1 := bx1n
    clear bx1n
    obtain ⟨B0, bap0, rfl, -, -⟩ := hv10.form
    have X0 := Lib.hid hv10
    have Y0 := Lib.hid hfs10.under
    clear hv10 hfr10 hfs10
    have bx1c0 : W10.cell? ⟨w.heap.size, 0, none⟩ = some (.int .i64 x1.d) := (bx1.out.cell 0).trans (by simp)
    have bx1c1 : W10.cell? ⟨w.heap.size, 1, none⟩ = some (.int .i64 x1.i) := (bx1.out.cell 1).trans (by simp)
    have bx1lt : w.heap.size < W10.heap.size := bx1.out.lt
    go_wp2_with fail
    clear bx1c0 bx1c1 bx1lt
    refine (toType_any x1 W10 _ [] (TyR.mk0 _ x1) (Under.nil _) (Ty.size_le x1)).mono ?_
    rintro e W12 ⟨ds12, G12, rfl, hb12, ⟨rfl, rfl⟩, hfr12, hfs12⟩
    have hB13 := hB11.trans (hb12.mono hB11.size)
    have bx1n : Hid (Blk W12 (w.heap.size) 40 #[.int .i64 x1.d, .int .i64 x1.i]) := bx1.out.same (hb12.block _ bx1.out.lt)
    clear bx1
    have bx1 := bx1n
    clear bx1n
    have X0n := Lib.hid (ArrDt.below X0.out hb12 Y0.out)
    have Y0n := Lib.hid (Y0.out.mono hb12.size)
    clear X0 Y0
    have X0 := X0n
    have Y0 := Y0n
    clear X0n Y0n
    have bx1c0 : W12.cell? ⟨w.heap.size, 0, none⟩ = some (.int .i64 x1.d) := (bx1.out.cell 0).trans (by simp)
    have bx1c1 : W12.cell? ⟨w.heap.size, 1, none⟩ = some (.int .i64 x1.i) := (bx1.out.cell 1).trans (by simp)
    have bx1lt : w.heap.size < W12.heap.size := bx1.out.lt
    go_wp2_with fail
    clear bx1c0 bx1c1 bx1lt
    refine (impl_FormatType x0 x1 _ _ G10 X0.out Y0.out).mono ?_
    rintro e W14 ⟨rfl, hb14⟩
    have hB15 := hB13.trans (hb14.mono hB13.size)
    have bx1n : Hid (Blk W14 (w.heap.size) 40 #[.int .i64 x1.d, .int .i64 x1.i]) := bx1.out.same (hb14.block _ bx1.out.lt)
    clear bx1
    have bx1 := bx1n
    clear bx1n
    have X0n := Lib.hid (ArrDt.below X0.out hb14 Y0.out)
    have Y0n := Lib.hid (Y0.out.mono hb14.size)
    clear X0 Y0
    have X0 := X0n
    have Y0 := Y0n
    clear X0n Y0n
    rw [HRes.out]
    have hne : (r0.toList != r0.toList) = false := by simp
    have bx1c0 : W14.cell? ⟨w.heap.size, 0, none⟩ = some (.int .i64 x1.d) := (bx1.out.cell 0).trans (by simp)
    have bx1c1 : W14.cell? ⟨w.heap.size, 1, none⟩ = some (.int .i64 x1.i) := (bx1.out.cell 1).trans (by simp)
    have bx1lt : w.heap.size < W14.heap.size := bx1.out.lt
    go_wp2_with fail
    clear bx1c0 bx1c1 bx1lt
    refine (toDataS_any x0 W14 F0 _ (ArrDt.below HR0.out hB15 HU0.out) (HU0.out.mono hB15.size) hs0).mono ?_
    rintro e W16 ⟨y16, G16, rfl, hb16, hv16, hfr16, hfs16⟩
    have hB18 := hB15.trans (hb16.mono hB15.size)
    have bx1n : Hid (Blk W16 (w.heap.size) 40 #[.int .i64 x1.d, .int .i64 x1.i]) := bx1.out.same (hb16.block _ bx1.out.lt)
    clear bx1
    have bx1 := bx1n
    clear bx1n
    have X0n := Lib.hid (ArrDt.below X0.out hb16 Y0.out)
    have Y0n := Lib.hid (Y0.out.mono hb16.size)
    clear X0 Y0
    have X0 := X0n
    have Y0 := Y0n
    clear X0n Y0n
    have bx1c0 : W16.cell? ⟨w.heap.size, 0, none⟩ = some (.int .i64 x1.d) := (bx1.out.cell 0).trans (by simp)
    have bx1c1 : W16.cell? ⟨w.heap.size, 1, none⟩ = some (.int .i64 x1.i) := (bx1.out.cell 1).trans (by simp)
    have bx1lt : w.heap.size < W16.heap.size := bx1.out.lt
    go_wp2_with fail
    clear bx1c0 bx1c1 bx1lt
    refine (eqDataS_any x0 W16 G10 G16 _ _ X0.out hv16 Y0.out hfs16.under).mono ?_
    rintro e W17 ⟨rfl, hb17⟩
    have hB19 := hB18.trans (hb17.mono hB18.size)
    have bx1n : Hid (Blk W17 (w.heap.size) 40 #[.int .i64 x1.d, .int .i64 x1.i]) := bx1.out.same (hb17.block _ bx1.out.lt)
    clear bx1
    have bx1 := bx1n
    clear bx1n
    have X0n := Lib.hid (ArrDt.below X0.out hb17 Y0.out)
    have Y0n := Lib.hid (Y0.out.mono hb17.size)
    clear X0 Y0
    have X0 := X0n
    have Y0 := Y0n
    clear X0n Y0n
    go_wp2
    go_ret
    exact ⟨rfl, hB19⟩
  · rw [show szLeft (Dt.sizes x0) (1048576) = -1 from if_neg hz0]
    go_wp2
    go_ret
    exact ⟨rfl, hB4⟩
end Go.Proofs.YtcknbkbejifhcaaDoor.fnExactFormatType

namespace Go.Proofs.YtcknbkbejifhcaaDoor.fnExactFormatType
open Go.ChangeShapes Go.WideShapes Go.ChangeAt Go.RowKit
open Go.ChangeMaps (open_string shut_string)
set_option linter.unusedVariables false

theorem own : ownKnob Tryd.prog.godebug = none := by kernel_rfl
theorem laidOut : laidOutB Tryd.prog = true := by kernel_rfl
theorem door_met (os : Os) (args : Array Value) : laidMetH Tryd.prog Rows.fnExactFormatTypeRow.laid ((World.doorLaid Tryd.prog 24 os).forCall (fun _ _ => 0) ⟨#[], args, []⟩).memory :=
  laidMetH_of_parts3 (fuel := 8) (laidMet_of_run' 8 (by kernel_rfl) (by kernel_rfl)) (by kernel_rfl) (by kernel_rfl)

set_option maxRecDepth 100000 in
theorem lifted (os : Os) (started : os.Started) (H : Type) (enc : TypeId × Value → H) :
    ReturnsInHanded {} Tryd.checked os 5 .any (fun w args => (Rows.fnExactFormatTypeSpec.pre enc Tryd.prog Tryd.f5 [] false w args ∧ laidMetH Tryd.prog Rows.fnExactFormatTypeRow.laid w) ∧ sizedMet enc Tryd.prog Tryd.f5 (OpenSpec.ofChange Rows.fnExactFormatTypeSpec) false w args)
      (Rows.fnExactFormatTypeSpec.post enc Tryd.prog Tryd.f5 false true false false) := by
  refine returnsInHanded_of_change_and (C := Tryd.checked) (X := fun w _ => laidMetH Tryd.prog Rows.fnExactFormatTypeRow.laid w) (fun _ _ _ hh h => h.of_heap hh) own started (by kernel_rfl) Tryd.func5
    (ChangeSpec.witness_shaped (enc := enc) (C := Tryd.checked) (os := os) (X := fun w _ => laidMetH Tryd.prog Rows.fnExactFormatTypeRow.laid w) false (World.doorLaid Tryd.prog 24 os) #[.slice none 0 0, .agg #[.int .i64 0, .int .i64 0]] 8 rfl (World.shaped_of_RefB (by kernel_rfl) (by kernel_rfl)) (by kernel_rfl) (by kernel_rfl) (by kernel_rfl) (door_met os _)) ?_
  intro W base args ds gs before hval0 hW _ _ _ _
  have hval : ∀ (j : Nat) t v, Tryd.f5.params[j]? = some t → args[j]? = some v → Value.okWide Tryd.prog W .any base t v := hval0
  have hW' := hW
  obtain ⟨p, q, hA0, hV, rfl, hfz, hnd⟩ := hW
  have hA : DataW.TrodAll enc Tryd.prog W 0 (fun _ => true) true Tryd.f5.params.toList args.toList ds p := hA0
  rw [Tryd.params5] at hA hval
  obtain ⟨v0, vs0, d0, ds0, p0, q0, hargs, rfl, rfl, h0, r0⟩ := trodAll_cons hA
  obtain ⟨v1, vs1, d1, ds1, p1, q1, rfl, rfl, rfl, h1, r1⟩ := trodAll_cons r0
  obtain ⟨rfl, rfl, rfl⟩ := trodAll_nil r1
  obtain rfl : args = #[v0, v1] := by cases args; simp_all
  obtain ⟨rfl, rfl⟩ := trodVars_none hV
  have k0 := h0
  have lt0 : ∀ x ∈ p0, x.block < W.heap.size := by obtain ⟨m, hm⟩ := k0; exact DataW.trod_lt m _ _ _ hm
  have k1 := h1
  have lt1 : ∀ x ∈ p1, x.block < W.heap.size := by obtain ⟨m, hm⟩ := k1; exact DataW.trod_lt m _ _ _ hm
  obtain ⟨x0, F0, hR0, hU0⟩ := open_Dts (hval 0 38 v0 rfl rfl) h0
  obtain ⟨x1, cs1, F1, rfl, hR1, hU1⟩ := open_Ty (hval 1 40 v1 rfl rfl) h1
  clear hA0 hval0
  refine (walk x0 v0 F0 hR0 hU0 x1 cs1 F1 hR1 hU1 W rfl).mono fun e W' ⟨he, bel⟩ => ?_
  subst he
  exact ⟨_, rfl, _, _, _, [], _, [], hW', trodAll_mk1 (shut_bool Tryd.underlying4 _), (trodAll_cons_mk (Below.trod laidOut (by kernel_rfl) (of_decide_eq_true (by kernel_rfl)) k0 bel lt0) (trodAll_cons_mk (Below.trod laidOut (by kernel_rfl) (of_decide_eq_true (by kernel_rfl)) k1 bel lt1) trodAll_mk0)), rfl, bel.frame _, fun h => by cases h⟩

theorem over : Rows.fnExactFormatTypeRow.holds Tryd.pinned (OpenSpec.ofChange Rows.fnExactFormatTypeSpec) :=
  OpenClaim.holds_of_wide 5 Tryd.f5 rfl rfl rfl rfl rfl rfl rfl ⟨rfl, rfl, rfl, rfl, rfl⟩ rfl rfl rfl rfl rfl (by kernel_rfl) Tryd.func5 (by kernel_rfl)
    (of_decide_eq_true (by kernel_rfl)) (by unfold Func.isWrapper; first | (rw [if_pos (by decide +kernel)]; kernel_rfl) | (rw [if_neg (by decide +kernel)]; exact ⟨rfl, rfl⟩))
    (fun os started H enc _ => lifted os started H enc)

theorem proved : Rows.FnExactFormatTypeCardSaid :=
  Claim7.holds_tied_plain_at .later _ _ _ _ _
    over (fun _ h => by cases h) (by kernel_rfl) (fun _ h => by cases h) fnExactFormatType_row_tie rfl ⟨rfl, rfl⟩ (by kernel_rfl) rfl
    (fun f fn hf hfn => by
      obtain rfl : f = 5 := Option.some.inj ((show Tryd.prog.funcNamed "loop.example/matchcompiler/laws.FnExactFormatType" = some 5 by kernel_rfl).symm.trans hf) |>.symm
      obtain rfl : fn = Tryd.f5 := (Option.some.inj (Tryd.func5.symm.trans hfn)).symm
      exact ⟨by kernel_rfl, fun j t ht => by
        rw [Tryd.params5] at ht
        have hm : t ∈ [38, 40] := by simpa using Array.mem_of_getElem? ht
        have hall : ([38, 40].all fun u => !Tryd.prog.wantsStandIn u) = true := by kernel_rfl
        exact (show Tryd.prog.wantsStandIn t = false by simpa using List.all_eq_true.1 hall t hm)⟩)
    (by kernel_rfl)
end Go.Proofs.YtcknbkbejifhcaaDoor.fnExactFormatType
