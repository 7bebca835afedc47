/-
  FnValueWide: for every argument the law returns true; the card. Conditions: the listed package-level variables hold what the card ties to the program's text.
-/
import Derived.Test.YtgckkiencmickaaDoorKAH
import Derived.Test.YtgckkiencmickaaDoorKAI
import Derived.Deep.RegionWith
import Derived.Deep.RegionHeld3
import Derived.BigQuiet
import Derived.Test.YtgckkiencmickaaDoorRows
import Derived.Test.YtgckkiencmickaaDoorCards
import Derived.Test.YtgckkiencmickaaDoorTie
import Derived.ProofKit
import Derived.LaidMore
import Derived.OpenShut
import Derived.ShutString
import Derived.ChangeOld
import Derived.Below
import Derived.SevenTiedAt

set_option linter.unusedVariables false
set_option linter.unusedSimpArgs false

namespace Go.Proofs.YtgckkiencmickaaDoor.fnValueWide
open Go.RowKit

set_option maxRecDepth 100000 in
set_option maxHeartbeats 6400000 in
theorem walk {W : World} (x0 : List Int) (v0 : Value) (F0 : List Nat) (hR0 : Arr W (ByR W) x0 v0 F0) (hU0 : Under W.heap.size F0) (w : World) (hw : w = W) :
    Calls Tryd.prog 3 #[v0] w fun e w' => e = .returned (.bool true) ∧ Below w.heap.size w w' := by
  subst hw
  obtain ⟨A0, cap0, rfl, -, -⟩ := hR0.form
  have HR0 := Lib.hid hR0
  have HU0 := Lib.hid hU0
  clear hR0 hU0
  by_cases hlen : 1048576 < x0.length
  · have t0 : decide ((x0.length : Int) > 1048576) = true := decide_eq_true (by omega)
    go_enter Tryd.func3, Tryd.ntmps3
    go_wp2
    go_ret
    exact ⟨rfl, Below.refl _ _⟩
  have t0 : decide ((x0.length : Int) > 1048576) = false := decide_eq_false (by omega)
  go_enter Tryd.func3, Tryd.ntmps3
  go_wp2_with fail
  refine (spec_DrawFormatValue x0 w _ F0 HR0.out HU0.out).mono ?_
  rintro e w1 ⟨xs, v1, FX, t, a, csa, FA, rfl, hb1, hx, hfx, hpa, hfa, hna⟩
  obtain ⟨kva, rfl, haa⟩ := (VR_iff _ _ _).1 hpa
  obtain ⟨aA, acap, rfl, -, -⟩ := haa.form
  obtain ⟨xA, xcap, rfl, -, -⟩ := hx.form
  have HSZ : Hid (a.size ≤ 1048576) := by unfold nodes at hna; unfold Hid; omega
  have hb2 : Below w1.heap.size w1 ((w1.alloc (.cells #[.int .i64 t.d, .int .i64 t.i] 25)).alloc (.cells #[.int .i64 a.c, .int .i64 a.n, .slice aA a.ks.length acap] 28)) := ((Below.refl _ _).alloc (Nat.le_refl _) _).alloc (by simp) _
  have hB2 : Below w.heap.size w ((w1.alloc (.cells #[.int .i64 t.d, .int .i64 t.i] 25)).alloc (.cells #[.int .i64 a.c, .int .i64 a.n, .slice aA a.ks.length acap] 28)) := hb1.trans (hb2.mono hb1.size)
  have KT2 : Hid (Blk ((w1.alloc (.cells #[.int .i64 t.d, .int .i64 t.i] 25)).alloc (.cells #[.int .i64 a.c, .int .i64 a.n, .slice aA a.ks.length acap] 28)) w1.heap.size 25 #[.int .i64 t.d, .int .i64 t.i]) := (Blk.new w1 _ _).same (Below.heap_alloc _ _ _ (by simp))
  have KA2 : Hid (Blk ((w1.alloc (.cells #[.int .i64 t.d, .int .i64 t.i] 25)).alloc (.cells #[.int .i64 a.c, .int .i64 a.n, .slice aA a.ks.length acap] 28)) (w1.heap.size + 1) 28 #[.int .i64 a.c, .int .i64 a.n, .slice aA a.ks.length acap]) := blk_second w1 _ 28 _
  have HX2 := Lib.hid (ArrDt.below hx hb2 hfx.under)
  have UX2 : Hid (Under (((w1.alloc (.cells #[.int .i64 t.d, .int .i64 t.i] 25)).alloc (.cells #[.int .i64 a.c, .int .i64 a.n, .slice aA a.ks.length acap] 28))).heap.size FX) := hfx.under.mono hb2.size
  have HA2 := Lib.hid (hpa.below hb2 hfa.under)
  have UA2 : Hid (Under (((w1.alloc (.cells #[.int .i64 t.d, .int .i64 t.i] 25)).alloc (.cells #[.int .i64 a.c, .int .i64 a.n, .slice aA a.ks.length acap] 28))).heap.size FA) := hfa.under.mono hb2.size
  clear hx hfx hpa hfa hna haa hb1 hb2 HR0 HU0
  go_wp2_with fail
  obtain ⟨w2, hw2⟩ : ∃ X, X = ((w1.alloc (.cells #[.int .i64 t.d, .int .i64 t.i] 25)).alloc (.cells #[.int .i64 a.c, .int .i64 a.n, .slice aA a.ks.length acap] 28)) := ⟨_, rfl⟩
  rw [← hw2] at hB2 KT2 KA2 HX2 UX2 HA2 UA2 ⊢
  clear hw2
  have cT0 : w2.cell? ⟨w1.heap.size, 0, none⟩ = some (.int .i64 t.d) := (KT2.out.cell 0).trans (by simp)
  have cT1 : w2.cell? ⟨w1.heap.size, 1, none⟩ = some (.int .i64 t.i) := (KT2.out.cell 1).trans (by simp)
  have lT := KT2.out.lt
  have cA0 : w2.cell? ⟨w1.heap.size + 1, 0, none⟩ = some (.int .i64 a.c) := (KA2.out.cell 0).trans (by simp)
  have cA1 : w2.cell? ⟨w1.heap.size + 1, 1, none⟩ = some (.int .i64 a.n) := (KA2.out.cell 1).trans (by simp)
  have cA2 : w2.cell? ⟨w1.heap.size + 1, 2, none⟩ = some (.slice aA a.ks.length acap) := (KA2.out.cell 2).trans (by simp)
  have lA := KA2.out.lt
  go_wp2_with fail
  clear cT0 cT1 lT cA0 cA1 cA2 lA
  refine (impl_FormatValue xs t a w2 _ FX _ FA HX2.out UX2.out HA2.out UA2.out HSZ.out).mono ?_
  rintro e w3 ⟨rfl, hb3⟩
  have hB3 := hB2.trans (hb3.mono hB2.size)
  have KT3 := Lib.hid (KT2.out.same (hb3.block _ KT2.out.lt))
  have KA3 := Lib.hid (KA2.out.same (hb3.block _ KA2.out.lt))
  have HX3 := Lib.hid (ArrDt.below HX2.out hb3 UX2.out)
  have UX3 := Lib.hid (UX2.out.mono hb3.size)
  have HA3 := Lib.hid (HA2.out.below hb3 UA2.out)
  have UA3 := Lib.hid (UA2.out.mono hb3.size)
  clear hB2 KT2 KA2 HX2 UX2 HA2 UA2 hb3
  have hwd : valueValidB xs t a = true → fmtV xs ⟨t.d, 0⟩ a = fmtV xs t a := fmtV_wide
  have hno : valueValidB xs t a = false → fmtV xs t a = ⟨#[]⟩ := fmtV_no
  obtain ⟨s, hs⟩ : ∃ s, fmtV xs t a = s := ⟨_, rfl⟩
  rw [hs] at hwd hno ⊢
  have HWD := Lib.hid hwd
  have HNO := Lib.hid hno
  have HS := Lib.hid hs
  clear hs hwd hno
  have hbw : Below w3.heap.size w3 (w3.alloc (.cells #[.int .i64 t.d, .int .i64 0] 25)) := (Below.refl _ _).alloc (Nat.le_refl _) _
  have cT0 : w3.cell? ⟨w1.heap.size, 0, none⟩ = some (.int .i64 t.d) := (KT3.out.cell 0).trans (by simp)
  have cT1 : w3.cell? ⟨w1.heap.size, 1, none⟩ = some (.int .i64 t.i) := (KT3.out.cell 1).trans (by simp)
  have lT := KT3.out.lt
  have cA0 : w3.cell? ⟨w1.heap.size + 1, 0, none⟩ = some (.int .i64 a.c) := (KA3.out.cell 0).trans (by simp)
  have cA1 : w3.cell? ⟨w1.heap.size + 1, 1, none⟩ = some (.int .i64 a.n) := (KA3.out.cell 1).trans (by simp)
  have cA2 : w3.cell? ⟨w1.heap.size + 1, 2, none⟩ = some (.slice aA a.ks.length acap) := (KA3.out.cell 2).trans (by simp)
  have lA := KA3.out.lt
  go_wp2_with fail
  clear cT0 cT1 lT cA0 cA1 cA2 lA
  obtain ⟨w4, hw4⟩ : ∃ X, X = (w3.alloc (.cells #[.int .i64 t.d, .int .i64 0] 25)) := ⟨_, rfl⟩
  have KW4 : Hid (Blk w4 w3.heap.size 25 #[.int .i64 t.d, .int .i64 0]) := by rw [hw4]; exact Blk.new _ _ _
  have hb4 : Below w3.heap.size w3 w4 := by rw [hw4]; exact hbw
  rw [← hw4]
  clear hw4 hbw
  have hB4 := hB3.trans (hb4.mono hB3.size)
  have KT4 := Lib.hid (KT3.out.same (hb4.block _ KT3.out.lt))
  have KA4 := Lib.hid (KA3.out.same (hb4.block _ KA3.out.lt))
  have HX4 := Lib.hid (ArrDt.below HX3.out hb4 UX3.out)
  have UX4 := Lib.hid (UX3.out.mono hb4.size)
  have HA4 := Lib.hid (HA3.out.below hb4 UA3.out)
  have UA4 := Lib.hid (UA3.out.mono hb4.size)
  clear hB3 KT3 KA3 HX3 UX3 HA3 UA3 hb4
  have cT0 : w4.cell? ⟨w1.heap.size, 0, none⟩ = some (.int .i64 t.d) := (KT4.out.cell 0).trans (by simp)
  have cT1 : w4.cell? ⟨w1.heap.size, 1, none⟩ = some (.int .i64 t.i) := (KT4.out.cell 1).trans (by simp)
  have lT := KT4.out.lt
  have cA0 : w4.cell? ⟨w1.heap.size + 1, 0, none⟩ = some (.int .i64 a.c) := (KA4.out.cell 0).trans (by simp)
  have cA1 : w4.cell? ⟨w1.heap.size + 1, 1, none⟩ = some (.int .i64 a.n) := (KA4.out.cell 1).trans (by simp)
  have cA2 : w4.cell? ⟨w1.heap.size + 1, 2, none⟩ = some (.slice aA a.ks.length acap) := (KA4.out.cell 2).trans (by simp)
  have lA := KA4.out.lt
  go_wp2_with fail
  clear cT0 cT1 lT cA0 cA1 cA2 lA
  refine (spec_FormatValue xs t a w4 _ FX _ FA HX4.out UX4.out HA4.out UA4.out HSZ.out).mono ?_
  rintro e w5 ⟨rfl, hb5⟩
  have KW5 := Lib.hid (KW4.out.same (hb5.block _ KW4.out.lt))
  have hB5 := hB4.trans (hb5.mono hB4.size)
  have KT5 := Lib.hid (KT4.out.same (hb5.block _ KT4.out.lt))
  have KA5 := Lib.hid (KA4.out.same (hb5.block _ KA4.out.lt))
  have HX5 := Lib.hid (ArrDt.below HX4.out hb5 UX4.out)
  have UX5 := Lib.hid (UX4.out.mono hb5.size)
  have HA5 := Lib.hid (HA4.out.below hb5 UA4.out)
  have UA5 := Lib.hid (UA4.out.mono hb5.size)
  clear hB4 KT4 KA4 HX4 UX4 HA4 UA4 hb5
  rw [HS.out]
  cases he : s.toList.isEmpty with
  | true =>
    have he2 : s.toList = [] := List.isEmpty_iff.1 he
    go_wp2
    go_ret
    exact ⟨rfl, hB5⟩
  | false =>
    have hv : valueValidB xs t a = true := by
      cases h : valueValidB xs t a with
      | true => rfl
      | false =>
        have := HNO.out h
        rw [this] at he
        have e0 : ((⟨#[]⟩ : ByteArray).toList) = [] := by first | rfl | decide | simp
        rw [e0] at he
        cases he
    have HW2 := Lib.hid (HWD.out hv)
    have he2 : ¬ s.toList = [] := fun h => by rw [h] at he; cases he
    clear hv
    have cT0 : w5.cell? ⟨w1.heap.size, 0, none⟩ = some (.int .i64 t.d) := (KT5.out.cell 0).trans (by simp)
    have cT1 : w5.cell? ⟨w1.heap.size, 1, none⟩ = some (.int .i64 t.i) := (KT5.out.cell 1).trans (by simp)
    have lT := KT5.out.lt
    have cA0 : w5.cell? ⟨w1.heap.size + 1, 0, none⟩ = some (.int .i64 a.c) := (KA5.out.cell 0).trans (by simp)
    have cA1 : w5.cell? ⟨w1.heap.size + 1, 1, none⟩ = some (.int .i64 a.n) := (KA5.out.cell 1).trans (by simp)
    have cA2 : w5.cell? ⟨w1.heap.size + 1, 2, none⟩ = some (.slice aA a.ks.length acap) := (KA5.out.cell 2).trans (by simp)
    have lA := KA5.out.lt
    have cW0 : w5.cell? ⟨w3.heap.size, 0, none⟩ = some (.int .i64 t.d) := (KW5.out.cell 0).trans (by simp)
    have cW1 : w5.cell? ⟨w3.heap.size, 1, none⟩ = some (.int .i64 0) := (KW5.out.cell 1).trans (by simp)
    have lW := KW5.out.lt
    go_wp2_with fail
    clear cT0 cT1 lT cA0 cA1 cA2 lA
    clear cW0 cW1 lW
    refine (impl_FormatValue xs ⟨t.d, 0⟩ a w5 _ FX _ FA HX5.out UX5.out HA5.out UA5.out HSZ.out).mono ?_
    rintro e w6 ⟨rfl, hb6⟩
    rw [HW2.out]
    have hB6 := hB5.trans (hb6.mono hB5.size)
    go_wp2
    go_ret
    exact ⟨rfl, hB6⟩
end Go.Proofs.YtgckkiencmickaaDoor.fnValueWide

namespace Go.Proofs.YtgckkiencmickaaDoor.fnValueWide
open Go.ChangeShapes Go.WideShapes Go.ChangeAt Go.RowKit
open Go.ChangeMaps (open_string shut_string)
set_option linter.unusedVariables false

theorem own : ownKnob Tryd.prog.godebug = none := by kernel_rfl
theorem laidOut : laidOutB Tryd.prog = true := by kernel_rfl
theorem door_met (os : Os) (args : Array Value) : laidMetH Tryd.prog Rows.fnValueWideRow.laid ((World.doorLaid Tryd.prog 24 os).forCall (fun _ _ => 0) ⟨#[], args, []⟩).memory :=
  laidMetH_of_parts3 (fuel := 8) (laidMet_of_run' 8 (by kernel_rfl) (by kernel_rfl)) (by kernel_rfl) (by kernel_rfl)

set_option maxRecDepth 100000 in
theorem lifted (os : Os) (started : os.Started) (H : Type) (enc : TypeId × Value → H) :
    ReturnsInHanded {} Tryd.checked os 3 .any (fun w args => (Rows.fnValueWideSpec.pre enc Tryd.prog Tryd.f3 [] false w args ∧ laidMetH Tryd.prog Rows.fnValueWideRow.laid w) ∧ sizedMet enc Tryd.prog Tryd.f3 (OpenSpec.ofChange Rows.fnValueWideSpec) false w args)
      (Rows.fnValueWideSpec.post enc Tryd.prog Tryd.f3 false true false false) := by
  refine returnsInHanded_of_change_and (C := Tryd.checked) (X := fun w _ => laidMetH Tryd.prog Rows.fnValueWideRow.laid w) (fun _ _ _ hh h => h.of_heap hh) own started (by kernel_rfl) Tryd.func3
    (ChangeSpec.witness_shaped (enc := enc) (C := Tryd.checked) (os := os) (X := fun w _ => laidMetH Tryd.prog Rows.fnValueWideRow.laid w) false (World.doorLaid Tryd.prog 24 os) #[.slice none 0 0] 8 rfl (World.shaped_of_RefB (by kernel_rfl) (by kernel_rfl)) (by kernel_rfl) (by kernel_rfl) (by kernel_rfl) (door_met os _)) ?_
  intro W base args ds gs before hval0 hW _ _ _ _
  have hval : ∀ (j : Nat) t v, Tryd.f3.params[j]? = some t → args[j]? = some v → Value.okWide Tryd.prog W .any base t v := hval0
  have hW' := hW
  obtain ⟨p, q, hA0, hV, rfl, hfz, hnd⟩ := hW
  have hA : DataW.TrodAll enc Tryd.prog W 0 (fun _ => true) true Tryd.f3.params.toList args.toList ds p := hA0
  rw [Tryd.params3] at hA hval
  obtain ⟨v0, vs0, d0, ds0, p0, q0, hargs, rfl, rfl, h0, r0⟩ := trodAll_cons hA
  obtain ⟨rfl, rfl, rfl⟩ := trodAll_nil r0
  obtain rfl : args = #[v0] := by cases args; simp_all
  obtain ⟨rfl, rfl⟩ := trodVars_none hV
  have k0 := h0
  have lt0 : ∀ x ∈ p0, x.block < W.heap.size := by obtain ⟨m, hm⟩ := k0; exact DataW.trod_lt m _ _ _ hm
  obtain ⟨x0, F0, hR0, hU0⟩ := open_Bytes (hval 0 22 v0 rfl rfl) h0
  clear hA0 hval0
  refine (walk x0 v0 F0 hR0 hU0 W rfl).mono fun e W' ⟨he, bel⟩ => ?_
  subst he
  exact ⟨_, rfl, _, _, _, [], _, [], hW', trodAll_mk1 (shut_bool Tryd.underlying4 _), (trodAll_cons_mk (Below.trod laidOut (by kernel_rfl) (of_decide_eq_true (by kernel_rfl)) k0 bel lt0) trodAll_mk0), rfl, bel.frame _, fun h => by cases h⟩

theorem over : Rows.fnValueWideRow.holds Tryd.pinned (OpenSpec.ofChange Rows.fnValueWideSpec) :=
  OpenClaim.holds_of_wide 3 Tryd.f3 rfl rfl rfl rfl rfl rfl rfl ⟨rfl, rfl, rfl, rfl, rfl⟩ rfl rfl rfl rfl rfl (by kernel_rfl) Tryd.func3 (by kernel_rfl)
    (of_decide_eq_true (by kernel_rfl)) (by unfold Func.isWrapper; first | (rw [if_pos (by decide +kernel)]; kernel_rfl) | (rw [if_neg (by decide +kernel)]; exact ⟨rfl, rfl⟩))
    (fun os started H enc _ => lifted os started H enc)

theorem proved : Rows.FnValueWideCardSaid :=
  Claim7.holds_tied_plain_at .later _ _ _ _ _
    over (fun _ h => by cases h) (by kernel_rfl) (fun _ h => by cases h) fnValueWide_row_tie rfl ⟨rfl, rfl⟩ (by kernel_rfl) rfl
    (fun f fn hf hfn => by
      obtain rfl : f = 3 := Option.some.inj ((show Tryd.prog.funcNamed "loop.example/matchcompiler/laws.FnValueWide" = some 3 by kernel_rfl).symm.trans hf) |>.symm
      obtain rfl : fn = Tryd.f3 := (Option.some.inj (Tryd.func3.symm.trans hfn)).symm
      exact ⟨by kernel_rfl, fun j t ht => by
        rw [Tryd.params3] at ht
        have hm : t ∈ [22] := by simpa using Array.mem_of_getElem? ht
        have hall : ([22].all fun u => !Tryd.prog.wantsStandIn u) = true := by kernel_rfl
        exact (show Tryd.prog.wantsStandIn t = false by simpa using List.all_eq_true.1 hall t hm)⟩)
    (by kernel_rfl)
end Go.Proofs.YtgckkiencmickaaDoor.fnValueWide
