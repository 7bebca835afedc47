/-
  FnWorldSame: for every argument the law returns true; the card. Conditions: the listed package-level variables hold what the card ties to the program's text.
-/
import Derived.Test.YtcknbkbejifhcaaDoorFnWorldSamePc
import Derived.Test.YtcknbkbejifhcaaDoorFnWorldSamePd
import Derived.Deep.RegionWith
import Derived.Deep.RegionHeld3
import Derived.BigQuiet
import Derived.Test.YtcknbkbejifhcaaDoorRows
import Derived.Test.YtcknbkbejifhcaaDoorCards
import Derived.Test.YtcknbkbejifhcaaDoorTie
import Derived.ProofKit
import Derived.LaidMore
import Derived.OpenShut
import Derived.ShutString
import Derived.ChangeOld
import Derived.Below
import Derived.SevenTiedAt

set_option linter.unusedVariables false
set_option linter.unusedSimpArgs false

namespace Go.Proofs.YtcknbkbejifhcaaDoor.fnWorldSame
open Go.RowKit

theorem same_sym (xs ys : List Dt) : sameBy Dt.same ys xs = sameBy Dt.same xs ys := by
  rw [Bool.eq_iff_iff, sameBy_iff Dt.same_iff, sameBy_iff Dt.same_iff]
  exact eq_comm
theorem same_self (xs : List Dt) : sameBy Dt.same xs xs = true := (sameBy_iff Dt.same_iff xs xs).2 rfl
theorem same_text {xs ys : List Dt} (hx : worldOk xs = true) (hy : worldOk ys = true) : ((fmtW xs).toList == (fmtW ys).toList) = sameBy Dt.same xs ys := by
  rw [Bool.eq_iff_iff, bytes_beq_iff, sameBy_iff Dt.same_iff]
  unfold fmtW
  rw [if_pos hx, if_pos hy]
  constructor
  · intro h
    have h2 := congrArg tl h
    rw [tl_bs, tl_bs] at h2
    exact textT_inj hx hy h2
  · intro h; rw [h]
set_option maxRecDepth 100000 in
set_option maxHeartbeats 1600000 in
theorem walk {W : World} (x0 : List Int) (v0 : Value) (F0 : List Nat) (hR0 : Arr W (ByR W) x0 v0 F0) (hU0 : Under W.heap.size F0) (w : World) (hw : w = W) :
    Calls Tryd.prog 4 #[v0] w fun e w' => e = .returned (.bool true) ∧ Below w.heap.size w w' := by
  subst hw
  obtain ⟨A0, cap0, rfl, -, -⟩ := hR0.form
  have HR0 := Lib.hid hR0
  have HU0 := Lib.hid hU0
  clear hR0 hU0
  by_cases hlen : 1048576 < x0.length
  · have t0 : decide ((x0.length : Int) > 1048576) = true := decide_eq_true (by omega)
    go_enter Tryd.func4, Tryd.ntmps4
    go_wp2
    go_ret
    exact ⟨rfl, Below.refl _ _⟩
  have t0 : decide ((x0.length : Int) > 1048576) = false := decide_eq_false (by omega)
  clear hlen
  go_enter Tryd.func4, Tryd.ntmps4
  go_wp2_with fail
  refine (spec_DrawWorldSame x0 w _ F0 HR0.out HU0.out).mono ?_
  rintro e w1 ⟨xs, v1, FX, ys, v2, FY, rfl, hB1, hx1, ux1, hy1, uy1⟩
  have HX1 := Lib.hid hx1
  have UX1 := Lib.hid ux1
  have HY1 := Lib.hid hy1
  have UY1 := Lib.hid uy1
  clear hx1 ux1 hy1 uy1 HR0 HU0
  obtain ⟨S, hS⟩ : ∃ s, sameBy Dt.same xs ys = s := ⟨_, rfl⟩
  have HS := Lib.hid hS
  clear hS
  go_wp2_with fail
  refine (impl_WorldSame xs ys w1 _ _ FX FY HX1.out HY1.out UX1.out UY1.out).mono ?_
  rintro e w2 ⟨rfl, hb2⟩
  have hB2 := hB1.trans (hb2.mono hB1.size)
  have HX2 : Hid (Arr w2 (DtR w2) xs v1 FX) := ArrDt.below HX1.out hb2 UX1.out
  have UX2 : Hid (Under w2.heap.size FX) := UX1.out.mono hb2.size
  have HY2 : Hid (Arr w2 (DtR w2) ys v2 FY) := ArrDt.below HY1.out hb2 UY1.out
  have UY2 : Hid (Under w2.heap.size FY) := UY1.out.mono hb2.size
  clear hB1 HX1 UX1 HY1 UY1 hb2
  rw [HS.out]
  go_wp2_with fail
  refine (spec_WorldSame xs ys w2 _ _ FX FY HX2.out HY2.out UX2.out UY2.out).mono ?_
  rintro e w3 ⟨rfl, hb3⟩
  have hB3 := hB2.trans (hb3.mono hB2.size)
  have HX3 : Hid (Arr w3 (DtR w3) xs v1 FX) := ArrDt.below HX2.out hb3 UX2.out
  have UX3 : Hid (Under w3.heap.size FX) := UX2.out.mono hb3.size
  have HY3 : Hid (Arr w3 (DtR w3) ys v2 FY) := ArrDt.below HY2.out hb3 UY2.out
  have UY3 : Hid (Under w3.heap.size FY) := UY2.out.mono hb3.size
  clear hB2 HX2 UX2 HY2 UY2 hb3
  rw [HS.out]
  go_wp2_with fail
  refine (impl_WorldSame ys xs w3 _ _ FY FX HY3.out HX3.out UY3.out UX3.out).mono ?_
  rintro e w4 ⟨rfl, hb4⟩
  have hB4 := hB3.trans (hb4.mono hB3.size)
  have HX4 : Hid (Arr w4 (DtR w4) xs v1 FX) := ArrDt.below HX3.out hb4 UX3.out
  have UX4 : Hid (Under w4.heap.size FX) := UX3.out.mono hb4.size
  have HY4 : Hid (Arr w4 (DtR w4) ys v2 FY) := ArrDt.below HY3.out hb4 UY3.out
  have UY4 : Hid (Under w4.heap.size FY) := UY3.out.mono hb4.size
  clear hB3 HX3 UX3 HY3 UY3 hb4
  rw [same_sym, HS.out]
  go_wp2_with fail
  refine (impl_WorldSame xs xs w4 _ _ FX FX HX4.out HX4.out UX4.out UX4.out).mono ?_
  rintro e w5 ⟨rfl, hb5⟩
  have hB5 := hB4.trans (hb5.mono hB4.size)
  have HX5 : Hid (Arr w5 (DtR w5) xs v1 FX) := ArrDt.below HX4.out hb5 UX4.out
  have UX5 : Hid (Under w5.heap.size FX) := UX4.out.mono hb5.size
  have HY5 : Hid (Arr w5 (DtR w5) ys v2 FY) := ArrDt.below HY4.out hb5 UY4.out
  have UY5 : Hid (Under w5.heap.size FY) := UY4.out.mono hb5.size
  clear hB4 HX4 UX4 HY4 UY4 hb5
  rw [same_self]
  go_wp2_with fail
  refine (impl_WorldValid xs w5 _ FX HX5.out UX5.out).mono ?_
  rintro e w6 ⟨rfl, hb6⟩
  have hB6 := hB5.trans (hb6.mono hB5.size)
  have HX6 : Hid (Arr w6 (DtR w6) xs v1 FX) := ArrDt.below HX5.out hb6 UX5.out
  have UX6 : Hid (Under w6.heap.size FX) := UX5.out.mono hb6.size
  have HY6 : Hid (Arr w6 (DtR w6) ys v2 FY) := ArrDt.below HY5.out hb6 UY5.out
  have UY6 : Hid (Under w6.heap.size FY) := UY5.out.mono hb6.size
  clear hB5 HX5 UX5 HY5 UY5 hb6
  cases q1 : worldOk xs with
  | false =>
    go_wp2
    go_ret
    exact ⟨rfl, hB6⟩
  | true =>
    go_wp2_with fail
    refine (impl_WorldValid ys w6 _ FY HY6.out UY6.out).mono ?_
    rintro e w7 ⟨rfl, hb7⟩
    have hB7 := hB6.trans (hb7.mono hB6.size)
    have HX7 : Hid (Arr w7 (DtR w7) xs v1 FX) := ArrDt.below HX6.out hb7 UX6.out
    have UX7 : Hid (Under w7.heap.size FX) := UX6.out.mono hb7.size
    have HY7 : Hid (Arr w7 (DtR w7) ys v2 FY) := ArrDt.below HY6.out hb7 UY6.out
    have UY7 : Hid (Under w7.heap.size FY) := UY6.out.mono hb7.size
    clear hB6 HX6 UX6 HY6 UY6 hb7
    cases q2 : worldOk ys with
    | false =>
      go_wp2
      go_ret
      exact ⟨rfl, hB7⟩
    | true =>
      have hst := same_text q1 q2
      rw [HS.out] at hst
      go_wp2_with fail
      refine (impl_FormatWorld xs w7 _ FX HX7.out UX7.out).mono ?_
      rintro e w8 ⟨rfl, hb8⟩
      have hB8 := hB7.trans (hb8.mono hB7.size)
      have HX8 : Hid (Arr w8 (DtR w8) xs v1 FX) := ArrDt.below HX7.out hb8 UX7.out
      have UX8 : Hid (Under w8.heap.size FX) := UX7.out.mono hb8.size
      have HY8 : Hid (Arr w8 (DtR w8) ys v2 FY) := ArrDt.below HY7.out hb8 UY7.out
      have UY8 : Hid (Under w8.heap.size FY) := UY7.out.mono hb8.size
      clear hB7 HX7 UX7 HY7 UY7 hb8
      go_wp2_with fail
      refine (impl_FormatWorld ys w8 _ FY HY8.out UY8.out).mono ?_
      rintro e w9 ⟨rfl, hb9⟩
      have hB9 := hB8.trans (hb9.mono hB8.size)
      have HX9 : Hid (Arr w9 (DtR w9) xs v1 FX) := ArrDt.below HX8.out hb9 UX8.out
      have UX9 : Hid (Under w9.heap.size FX) := UX8.out.mono hb9.size
      have HY9 : Hid (Arr w9 (DtR w9) ys v2 FY) := ArrDt.below HY8.out hb9 UY8.out
      have UY9 : Hid (Under w9.heap.size FY) := UY8.out.mono hb9.size
      clear hB8 HX8 UX8 HY8 UY8 hb9
      go_wp2
      go_ret
      exact ⟨rfl, hB9⟩
end Go.Proofs.YtcknbkbejifhcaaDoor.fnWorldSame

namespace Go.Proofs.YtcknbkbejifhcaaDoor.fnWorldSame
open Go.ChangeShapes Go.WideShapes Go.ChangeAt Go.RowKit
open Go.ChangeMaps (open_string shut_string)
set_option linter.unusedVariables false

theorem own : ownKnob Tryd.prog.godebug = none := by kernel_rfl
theorem laidOut : laidOutB Tryd.prog = true := by kernel_rfl
theorem door_met (os : Os) (args : Array Value) : laidMetH Tryd.prog Rows.fnWorldSameRow.laid ((World.doorLaid Tryd.prog 24 os).forCall (fun _ _ => 0) ⟨#[], args, []⟩).memory :=
  laidMetH_of_parts3 (fuel := 8) (laidMet_of_run' 8 (by kernel_rfl) (by kernel_rfl)) (by kernel_rfl) (by kernel_rfl)

set_option maxRecDepth 100000 in
theorem lifted (os : Os) (started : os.Started) (H : Type) (enc : TypeId × Value → H) :
    ReturnsInHanded {} Tryd.checked os 4 .any (fun w args => (Rows.fnWorldSameSpec.pre enc Tryd.prog Tryd.f4 [] false w args ∧ laidMetH Tryd.prog Rows.fnWorldSameRow.laid w) ∧ sizedMet enc Tryd.prog Tryd.f4 (OpenSpec.ofChange Rows.fnWorldSameSpec) false w args)
      (Rows.fnWorldSameSpec.post enc Tryd.prog Tryd.f4 false true false false) := by
  refine returnsInHanded_of_change_and (C := Tryd.checked) (X := fun w _ => laidMetH Tryd.prog Rows.fnWorldSameRow.laid w) (fun _ _ _ hh h => h.of_heap hh) own started (by kernel_rfl) Tryd.func4
    (ChangeSpec.witness_shaped (enc := enc) (C := Tryd.checked) (os := os) (X := fun w _ => laidMetH Tryd.prog Rows.fnWorldSameRow.laid w) false (World.doorLaid Tryd.prog 24 os) #[.slice none 0 0] 8 rfl (World.shaped_of_RefB (by kernel_rfl) (by kernel_rfl)) (by kernel_rfl) (by kernel_rfl) (by kernel_rfl) (door_met os _)) ?_
  intro W base args ds gs before hval0 hW _ _ _ _
  have hval : ∀ (j : Nat) t v, Tryd.f4.params[j]? = some t → args[j]? = some v → Value.okWide Tryd.prog W .any base t v := hval0
  have hW' := hW
  obtain ⟨p, q, hA0, hV, rfl, hfz, hnd⟩ := hW
  have hA : DataW.TrodAll enc Tryd.prog W 0 (fun _ => true) true Tryd.f4.params.toList args.toList ds p := hA0
  rw [Tryd.params4] at hA hval
  obtain ⟨v0, vs0, d0, ds0, p0, q0, hargs, rfl, rfl, h0, r0⟩ := trodAll_cons hA
  obtain ⟨rfl, rfl, rfl⟩ := trodAll_nil r0
  obtain rfl : args = #[v0] := by cases args; simp_all
  obtain ⟨rfl, rfl⟩ := trodVars_none hV
  have k0 := h0
  have lt0 : ∀ x ∈ p0, x.block < W.heap.size := by obtain ⟨m, hm⟩ := k0; exact DataW.trod_lt m _ _ _ hm
  obtain ⟨x0, F0, hR0, hU0⟩ := open_Bytes (hval 0 22 v0 rfl rfl) h0
  clear hA0 hval0
  refine (walk x0 v0 F0 hR0 hU0 W rfl).mono fun e W' ⟨he, bel⟩ => ?_
  subst he
  exact ⟨_, rfl, _, _, _, [], _, [], hW', trodAll_mk1 (shut_bool Tryd.underlying4 _), (trodAll_cons_mk (Below.trod laidOut (by kernel_rfl) (of_decide_eq_true (by kernel_rfl)) k0 bel lt0) trodAll_mk0), rfl, bel.frame _, fun h => by cases h⟩

theorem over : Rows.fnWorldSameRow.holds Tryd.pinned (OpenSpec.ofChange Rows.fnWorldSameSpec) :=
  OpenClaim.holds_of_wide 4 Tryd.f4 rfl rfl rfl rfl rfl rfl rfl ⟨rfl, rfl, rfl, rfl, rfl⟩ rfl rfl rfl rfl rfl (by kernel_rfl) Tryd.func4 (by kernel_rfl)
    (of_decide_eq_true (by kernel_rfl)) (by unfold Func.isWrapper; first | (rw [if_pos (by decide +kernel)]; kernel_rfl) | (rw [if_neg (by decide +kernel)]; exact ⟨rfl, rfl⟩))
    (fun os started H enc _ => lifted os started H enc)

theorem proved : Rows.FnWorldSameCardSaid :=
  Claim7.holds_tied_plain_at .later _ _ _ _ _
    over (fun _ h => by cases h) (by kernel_rfl) (fun _ h => by cases h) fnWorldSame_row_tie rfl ⟨rfl, rfl⟩ (by kernel_rfl) rfl
    (fun f fn hf hfn => by
      obtain rfl : f = 4 := Option.some.inj ((show Tryd.prog.funcNamed "loop.example/matchcompiler/laws.FnWorldSame" = some 4 by kernel_rfl).symm.trans hf) |>.symm
      obtain rfl : fn = Tryd.f4 := (Option.some.inj (Tryd.func4.symm.trans hfn)).symm
      exact ⟨by kernel_rfl, fun j t ht => by
        rw [Tryd.params4] at ht
        have hm : t ∈ [22] := by simpa using Array.mem_of_getElem? ht
        have hall : ([22].all fun u => !Tryd.prog.wantsStandIn u) = true := by kernel_rfl
        exact (show Tryd.prog.wantsStandIn t = false by simpa using List.all_eq_true.1 hall t hm)⟩)
    (by kernel_rfl)
end Go.Proofs.YtcknbkbejifhcaaDoor.fnWorldSame
