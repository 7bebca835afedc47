/-
  FnArgTypes: for every argument the law returns true. Conditions: none.
-/
import Derived.Test.YtbejcgknjnhdpaaFnArgTypesPc
import Derived.Test.YtbejcgknjnhdpaaFnArgTypesPa
import Derived.Deep.RegionWith
import Derived.Deep.RegionHeld3
import Derived.BigQuiet
import Derived.Test.YtbejcgknjnhdpaaRows
import Derived.ProofKit
import Derived.OpenShut
import Derived.ShutString
import Derived.ChangeOld
import Derived.Below

set_option linter.unusedVariables false
set_option linter.unusedSimpArgs false

namespace Go.Proofs.Ytbejcgknjnhdpaa.fnArgTypes
open Go.RowKit

set_option maxRecDepth 100000 in
set_option maxHeartbeats 1600000 in
theorem walk {W : World} (x0 : List Int) (v0 : Value) (F0 : List Nat) (hR0 : Arr W (ByR W) x0 v0 F0) (hU0 : Under W.heap.size F0) (w : World) (hw : w = W) :
    Calls Try.prog 7 #[v0] w fun e w' => e = .returned (.bool true) ∧ Below w.heap.size w w' := by
  subst hw
  obtain ⟨A0, cap0, rfl, -, -⟩ := hR0.form
  have HR0 := Lib.hid hR0
  have HU0 := Lib.hid hU0
  clear hR0 hU0
  by_cases hlen : 1048576 < x0.length
  · have t0 : decide ((x0.length : Int) > 1048576) = true := decide_eq_true (by omega)
    go_enter Try.func7, Try.ntmps7
    go_wp2
    go_ret
    exact ⟨rfl, Below.refl _ _⟩
  have t0 : decide ((x0.length : Int) > 1048576) = false := decide_eq_false (by omega)
  go_enter Try.func7, Try.ntmps7
  go_wp2_with fail
  refine (spec_DrawArgTypes x0 w _ F0 HR0.out HU0.out).mono ?_
  rintro e w1 ⟨xs, v1, F1, t, n, rfl, hb1, ha1, hf1⟩
  obtain ⟨A1, cap1, rfl, hc1, hc2⟩ := ha1.form
  have hb2 : Below w1.heap.size w1 (w1.alloc (.cells #[.int .i64 t.d, .int .i64 t.i] 33)) := (Below.refl _ _).alloc (Nat.le_refl _) _
  have hB2 : Below w.heap.size w (w1.alloc (.cells #[.int .i64 t.d, .int .i64 t.i] 33)) := hb1.trans (hb2.mono hb1.size)
  have HA2 : Hid (Arr (w1.alloc (.cells #[.int .i64 t.d, .int .i64 t.i] 33)) (DtR (w1.alloc (.cells #[.int .i64 t.d, .int .i64 t.i] 33))) xs (.slice A1 xs.length cap1) F1) := ArrDt.below ha1 hb2 hf1.under
  have HU2 : Hid (Under (w1.alloc (.cells #[.int .i64 t.d, .int .i64 t.i] 33)).heap.size F1) := hf1.under.mono hb2.size
  have KT2 : Hid (Blk (w1.alloc (.cells #[.int .i64 t.d, .int .i64 t.i] 33)) w1.heap.size 33 #[.int .i64 t.d, .int .i64 t.i]) := Blk.new _ _ _
  clear ha1 hf1 hb1 HR0 HU0 hb2
  go_wp2_with fail
  generalize (w1.alloc (.cells #[.int .i64 t.d, .int .i64 t.i] 33)) = w2 at *
  generalize w1.heap.size = k at *
  obtain ⟨ts, hts⟩ : ∃ l, argTypesL xs t n = l := ⟨_, rfl⟩
  have HTS := Lib.hid hts
  clear hts
  have c02 : w2.cell? ⟨k, 0, none⟩ = some (.int .i64 t.d) := (KT2.out.cell 0).trans (by simp)
  have c12 : w2.cell? ⟨k, 1, none⟩ = some (.int .i64 t.i) := (KT2.out.cell 1).trans (by simp)
  have cl2 := KT2.out.lt
  refine (impl_ArgTypes xs t n w2 _ F1 HA2.out HU2.out).mono ?_
  rintro e w3 ⟨vL, FL, rfl, hb3, haL, -, hfL⟩
  have hB3 := hB2.trans (hb3.mono hB2.size)
  have HA3 : Hid (Arr w3 (DtR w3) xs (.slice A1 xs.length cap1) F1) := ArrDt.below HA2.out hb3 HU2.out
  have HU3 : Hid (Under w3.heap.size F1) := HU2.out.mono hb3.size
  have KT3 : Hid (Blk w3 k 33 #[.int .i64 t.d, .int .i64 t.i]) := KT2.out.same (hb3.block _ KT2.out.lt)
  clear hB2 HA2 HU2 hb3 KT2
  rw [HTS.out] at haL
  obtain ⟨AL, capL, rfl, -, -⟩ := haL.form
  have HL3 : Hid (Arr w3 (TyR w3) ts (.slice AL ts.length capL) FL) := haL
  have UL3 := Lib.hid hfL.under
  clear haL hfL
  clear c02 c12 cl2
  have c03 : w3.cell? ⟨k, 0, none⟩ = some (.int .i64 t.d) := (KT3.out.cell 0).trans (by simp)
  have c13 : w3.cell? ⟨k, 1, none⟩ = some (.int .i64 t.i) := (KT3.out.cell 1).trans (by simp)
  have cl3 := KT3.out.lt
  go_wp2_with fail
  refine (spec_ArgTypes xs t n w3 _ F1 HA3.out HU3.out).mono ?_
  rintro e w4 ⟨vS, FZ, rfl, hb4, haS, -, hfS⟩
  have HL4 : Hid (Arr w4 (TyR w4) ts (.slice AL ts.length capL) FL) := HL3.out.mono (.of_below hb4 UL3.out) fun _ _ _ _ _ h => h
  have UL4 : Hid (Under w4.heap.size FL) := UL3.out.mono hb4.size
  clear HL3 UL3
  have hB4 := hB3.trans (hb4.mono hB3.size)
  have HA4 : Hid (Arr w4 (DtR w4) xs (.slice A1 xs.length cap1) F1) := ArrDt.below HA3.out hb4 HU3.out
  have HU4 : Hid (Under w4.heap.size F1) := HU3.out.mono hb4.size
  have KT4 : Hid (Blk w4 k 33 #[.int .i64 t.d, .int .i64 t.i]) := KT3.out.same (hb4.block _ KT3.out.lt)
  clear hB3 HA3 HU3 hb4 KT3
  rw [HTS.out] at haS
  obtain ⟨AS, capS, rfl, -, -⟩ := haS.form
  have HS4 : Hid (Arr w4 (TyR w4) ts (.slice AS ts.length capS) FZ) := haS
  have US4 := Lib.hid hfS.under
  clear haS hfS
  clear c03 c13 cl3
  have HV : Hid (∀ a ∈ ts, typeValidB xs a = true) := fun a ha => argTypesL_valid (by rw [HTS.out]; exact ha)
  have hlm : ts.length ≤ 3 := by rw [← HTS.out]; exact argTypesL_len xs t n
  go_wp2
  go_loopw [8] (fun iv wr => ∃ i : Nat, i ≤ ts.length ∧ iv = .int .i64 i ∧ Below w4.heap.size w4 wr) (fun iv _ => ts.length - (intOf iv).toNat)
  case atStart => exact ⟨0, Nat.zero_le _, rfl, Below.refl _ _⟩
  case round =>
    obtain ⟨i, hi, rfl, hB⟩ := hrel
    by_cases hil : i < ts.length
    · obtain ⟨bl, offl, rfl⟩ := HL4.out.ptr (by omega)
      obtain ⟨bs, offs, rfl⟩ := HS4.out.ptr (by omega)
      obtain ⟨hbl, y0, y1⟩ := ArrTy.at HL4.out UL4.out hB i hil
      obtain ⟨hbs, y2, y3⟩ := ArrTy.at HS4.out US4.out hB i hil
      have g1 : (0 : Int) ≤ (i : Int) := by omega
      have g2 : (i : Int) < (ts.length : Int) := by omega
      have HAr : Hid (Arr wr.drew (DtR wr.drew) xs (.slice A1 xs.length cap1) F1) := ArrDt.below HA4.out hB.drew HU4.out
      have HUr : Hid (Under wr.drew.heap.size F1) := HU4.out.mono hB.drew.size
      have HV1 := Lib.hid (HV.out _ (List.getElem_mem hil))
      have e1 : decide (i < ts.length) = true := by simpa using hil
      go_wp2_with fail
      refine wp_region_B (S := fun w' => w'.cell? ⟨bl, offl + i * 2, none⟩ = some (.int .i64 ts[i].d) ∧ w'.cell? ⟨bl, offl + i * 2 + 1, none⟩ = some (.int .i64 ts[i].i) ∧ w'.cell? ⟨bs, offs + i * 2, none⟩ = some (.int .i64 ts[i].d) ∧ w'.cell? ⟨bs, offs + i * 2 + 1, none⟩ = some (.int .i64 ts[i].i)) (T := fun _ => True) (d := 99) (by kernel_rfl) ?_
      have hS1 : wr.drew.cell? ⟨bl, offl + i * 2, none⟩ = some (.int .i64 ts[i].d) ∧ wr.drew.cell? ⟨bl, offl + i * 2 + 1, none⟩ = some (.int .i64 ts[i].i) ∧ wr.drew.cell? ⟨bs, offs + i * 2, none⟩ = some (.int .i64 ts[i].d) ∧ wr.drew.cell? ⟨bs, offs + i * 2 + 1, none⟩ = some (.int .i64 ts[i].i) := ⟨y0, y1, y2, y3⟩
      have hT1 : True := trivial
      refine wpAnyB_take (i := 0) (v := ?_) rfl (by decide) (by kernel_rfl) (by kernel_rfl) (by kernel_rfl) (fun _ _ _ h => h) (Or.inl ⟨by rfl, ?hy0⟩) hS1 (fun _ => hT1) ?_
      case hy0 => (intro W hSw; obtain ⟨hSa, hSb, hSc, hSd⟩ := hSw; (try dsimp only at hSa hSb hSc hSd); go_simp; try with_reducible rfl)
      (try simp only [Act.put, List.getElem_toArray, List.getElem_cons_zero, List.getElem_cons_succ, List.setIfInBounds_toArray, List.set_cons_zero, List.set_cons_succ])
      refine wpAnyB_take (i := 1) (v := ?_) rfl (by decide) (by kernel_rfl) (by kernel_rfl) (by kernel_rfl) (fun _ _ _ h => h) (Or.inl ⟨by rfl, ?hy1⟩) hS1 (fun _ => hT1) ?_
      case hy1 => (intro W hSw; obtain ⟨hSa, hSb, hSc, hSd⟩ := hSw; (try dsimp only at hSa hSb hSc hSd); go_simp; try with_reducible rfl)
      (try simp only [Act.put, List.getElem_toArray, List.getElem_cons_zero, List.getElem_cons_succ, List.setIfInBounds_toArray, List.set_cons_zero, List.set_cons_succ])
      refine wpAnyB_take (i := 2) (v := ?_) rfl (by decide) (by kernel_rfl) (by kernel_rfl) (by kernel_rfl) (fun _ _ _ h => h) (Or.inl ⟨by rfl, ?hy2⟩) hS1 (fun _ => hT1) ?_
      case hy2 => (intro W hSw; obtain ⟨hSa, hSb, hSc, hSd⟩ := hSw; (try dsimp only at hSa hSb hSc hSd); go_simp; try with_reducible rfl)
      (try simp only [Act.put, List.getElem_toArray, List.getElem_cons_zero, List.getElem_cons_succ, List.setIfInBounds_toArray, List.set_cons_zero, List.set_cons_succ])
      refine wpAnyB_take (i := 3) (v := ?_) rfl (by decide) (by kernel_rfl) (by kernel_rfl) (by kernel_rfl) (fun _ _ _ h => h) (Or.inl ⟨by rfl, ?hy3⟩) hS1 (fun _ => hT1) ?_
      case hy3 => (intro W hSw; obtain ⟨hSa, hSb, hSc, hSd⟩ := hSw; (try dsimp only at hSa hSb hSc hSd); go_simp; try with_reducible rfl)
      (try simp only [Act.put, List.getElem_toArray, List.getElem_cons_zero, List.getElem_cons_succ, List.setIfInBounds_toArray, List.set_cons_zero, List.set_cons_succ])
      refine wpAnyB_take (i := 4) (v := ?_) rfl (by decide) (by kernel_rfl) (by kernel_rfl) (by kernel_rfl) (fun _ _ _ h => h) (Or.inl ⟨by rfl, ?hy4⟩) hS1 (fun _ => hT1) ?_
      case hy4 => (intro W hSw; obtain ⟨hSa, hSb, hSc, hSd⟩ := hSw; (try dsimp only at hSa hSb hSc hSd); go_simp; try with_reducible rfl)
      (try simp only [Act.put, List.getElem_toArray, List.getElem_cons_zero, List.getElem_cons_succ, List.setIfInBounds_toArray, List.set_cons_zero, List.set_cons_succ])
      refine wpAnyB_take (i := 5) (v := ?_) rfl (by decide) (by kernel_rfl) (by kernel_rfl) (by kernel_rfl) (fun _ _ _ h => h) (Or.inl ⟨by rfl, ?hy5⟩) hS1 (fun _ => hT1) ?_
      case hy5 => (intro W hSw; obtain ⟨hSa, hSb, hSc, hSd⟩ := hSw; (try dsimp only at hSa hSb hSc hSd); go_simp; try with_reducible rfl)
      (try simp only [Act.put, List.getElem_toArray, List.getElem_cons_zero, List.getElem_cons_succ, List.setIfInBounds_toArray, List.set_cons_zero, List.set_cons_succ])
      refine wpAnyB_take (i := 6) (v := ?_) rfl (by decide) (by kernel_rfl) (by kernel_rfl) (by kernel_rfl) (fun _ _ _ h => h) (Or.inl ⟨by rfl, ?hy6⟩) hS1 (fun _ => hT1) ?_
      case hy6 => (intro W hSw; obtain ⟨hSa, hSb, hSc, hSd⟩ := hSw; (try dsimp only at hSa hSb hSc hSd); go_simp; try with_reducible rfl)
      (try simp only [Act.put, List.getElem_toArray, List.getElem_cons_zero, List.getElem_cons_succ, List.setIfInBounds_toArray, List.set_cons_zero, List.set_cons_succ])
      refine wpAnyB_take (i := 7) (v := ?_) rfl (by decide) (by kernel_rfl) (by kernel_rfl) (by kernel_rfl) (fun _ _ _ h => h) (Or.inl ⟨by rfl, ?hy7⟩) hS1 (fun _ => hT1) ?_
      case hy7 => (intro W hSw; obtain ⟨hSa, hSb, hSc, hSd⟩ := hSw; (try dsimp only at hSa hSb hSc hSd); go_simp; try with_reducible rfl)
      (try simp only [Act.put, List.getElem_toArray, List.getElem_cons_zero, List.getElem_cons_succ, List.setIfInBounds_toArray, List.set_cons_zero, List.set_cons_succ])
      refine wpAnyB_take (i := 8) (v := ?_) rfl (by decide) (by kernel_rfl) (by kernel_rfl) (by kernel_rfl) (fun _ _ _ h => h) (Or.inl ⟨by rfl, ?hy8⟩) hS1 (fun _ => hT1) ?_
      case hy8 => (intro W hSw; obtain ⟨hSa, hSb, hSc, hSd⟩ := hSw; (try dsimp only at hSa hSb hSc hSd); go_simp; try with_reducible rfl)
      (try simp only [Act.put, List.getElem_toArray, List.getElem_cons_zero, List.getElem_cons_succ, List.setIfInBounds_toArray, List.set_cons_zero, List.set_cons_succ])
      refine wpAnyB_take (i := 9) (v := ?_) rfl (by decide) (by kernel_rfl) (by kernel_rfl) (by kernel_rfl) (fun _ _ _ h => h) (Or.inl ⟨by rfl, ?hy9⟩) hS1 (fun _ => hT1) ?_
      case hy9 => (intro W hSw; obtain ⟨hSa, hSb, hSc, hSd⟩ := hSw; (try dsimp only at hSa hSb hSc hSd); go_simp; try with_reducible rfl)
      (try simp only [Act.put, List.getElem_toArray, List.getElem_cons_zero, List.getElem_cons_succ, List.setIfInBounds_toArray, List.set_cons_zero, List.set_cons_succ])
      refine wpAnyB_take (i := 10) (v := ?_) rfl (by decide) (by kernel_rfl) (by kernel_rfl) (by kernel_rfl) (fun _ _ _ h => h) (Or.inl ⟨by rfl, ?hy10⟩) hS1 (fun _ => hT1) ?_
      case hy10 => (intro W hSw; obtain ⟨hSa, hSb, hSc, hSd⟩ := hSw; (try dsimp only at hSa hSb hSc hSd); go_simp; try with_reducible rfl)
      (try simp only [Act.put, List.getElem_toArray, List.getElem_cons_zero, List.getElem_cons_succ, List.setIfInBounds_toArray, List.set_cons_zero, List.set_cons_succ])
      refine wpAnyB_take (i := 11) (v := ?_) rfl (by decide) (by kernel_rfl) (by kernel_rfl) (by kernel_rfl) (fun _ _ _ h => h) (Or.inl ⟨by rfl, ?hy11⟩) hS1 (fun _ => hT1) ?_
      case hy11 => (intro W hSw; obtain ⟨hSa, hSb, hSc, hSd⟩ := hSw; (try dsimp only at hSa hSb hSc hSd); go_simp; try with_reducible rfl)
      (try simp only [Act.put, List.getElem_toArray, List.getElem_cons_zero, List.getElem_cons_succ, List.setIfInBounds_toArray, List.set_cons_zero, List.set_cons_succ])
      refine wpAnyB_take (i := 12) (v := ?_) rfl (by decide) (by kernel_rfl) (by kernel_rfl) (by kernel_rfl) (fun _ _ _ h => h) (Or.inl ⟨by rfl, ?hy12⟩) hS1 (fun _ => hT1) ?_
      case hy12 => (intro W hSw; obtain ⟨hSa, hSb, hSc, hSd⟩ := hSw; (try dsimp only at hSa hSb hSc hSd); go_simp; try with_reducible rfl)
      (try simp only [Act.put, List.getElem_toArray, List.getElem_cons_zero, List.getElem_cons_succ, List.setIfInBounds_toArray, List.set_cons_zero, List.set_cons_succ])
      refine wpAnyB_take (i := 13) (v := ?_) rfl (by decide) (by kernel_rfl) (by kernel_rfl) (by kernel_rfl) (fun _ _ _ h => h) (Or.inl ⟨by rfl, ?hy13⟩) hS1 (fun _ => hT1) ?_
      case hy13 => (intro W hSw; obtain ⟨hSa, hSb, hSc, hSd⟩ := hSw; (try dsimp only at hSa hSb hSc hSd); go_simp; try with_reducible rfl)
      (try simp only [Act.put, List.getElem_toArray, List.getElem_cons_zero, List.getElem_cons_succ, List.setIfInBounds_toArray, List.set_cons_zero, List.set_cons_succ])
      refine wpAnyB_take (i := 14) (v := ?_) rfl (by decide) (by kernel_rfl) (by kernel_rfl) (by kernel_rfl) (fun _ _ _ h => h) (Or.inl ⟨by rfl, ?hy14⟩) hS1 (fun _ => hT1) ?_
      case hy14 => (intro W hSw; obtain ⟨hSa, hSb, hSc, hSd⟩ := hSw; (try dsimp only at hSa hSb hSc hSd); go_simp; try with_reducible rfl)
      (try simp only [Act.put, List.getElem_toArray, List.getElem_cons_zero, List.getElem_cons_succ, List.setIfInBounds_toArray, List.set_cons_zero, List.set_cons_succ])
      refine wpAnyB_ready (rs := [15]) (by kernel_rfl) (by simp) ?_
      refine AllReadyB.cons rfl (fun K hK => ?_) AllReadyB.nil
      go_simp
      go_at_call 17
      with_reducible refine (impl_TypeValid xs ts[i] wr.drew _ F1 HAr.out HUr.out).mono ?_
      rintro e w' ⟨rfl, hB'⟩
      have hS2 : w'.cell? ⟨bl, offl + i * 2, none⟩ = some (.int .i64 ts[i].d) ∧ w'.cell? ⟨bl, offl + i * 2 + 1, none⟩ = some (.int .i64 ts[i].i) ∧ w'.cell? ⟨bs, offs + i * 2, none⟩ = some (.int .i64 ts[i].d) ∧ w'.cell? ⟨bs, offs + i * 2 + 1, none⟩ = some (.int .i64 ts[i].i) := ⟨(hB'.cell hbl).trans y0, (hB'.cell hbl).trans y1, (hB'.cell hbs).trans y2, (hB'.cell hbs).trans y3⟩
      rw [HV1.out]
      dsimp only
      refine hK.out _ _ hS2 (fun _ => trivial) ?_
      clear hK K
      (try simp only [Act.put, List.getElem_toArray, List.getElem_cons_zero, List.getElem_cons_succ, List.setIfInBounds_toArray, List.set_cons_zero, List.set_cons_succ])
      refine wpAnyB_take (i := 16) (v := ?_) rfl (by decide) (by kernel_rfl) (by kernel_rfl) (by kernel_rfl) (fun _ _ _ h => h) (Or.inl ⟨by rfl, ?hy16⟩) hS2 (fun _ => hT1) ?_
      case hy16 => (intro W hSw; obtain ⟨hSa, hSb, hSc, hSd⟩ := hSw; (try dsimp only at hSa hSb hSc hSd); go_simp; try with_reducible rfl)
      (try simp only [Act.put, List.getElem_toArray, List.getElem_cons_zero, List.getElem_cons_succ, List.setIfInBounds_toArray, List.set_cons_zero, List.set_cons_succ])
      refine wpAnyB_take (i := 17) (v := ?_) rfl (by decide) (by kernel_rfl) (by kernel_rfl) (by kernel_rfl) (fun _ _ _ h => h) (Or.inl ⟨by rfl, ?hy17⟩) hS2 (fun _ => hT1) ?_
      case hy17 => (intro W hSw; obtain ⟨hSa, hSb, hSc, hSd⟩ := hSw; (try dsimp only at hSa hSb hSc hSd); go_simp; try with_reducible rfl)
      (try simp only [Act.put, List.getElem_toArray, List.getElem_cons_zero, List.getElem_cons_succ, List.setIfInBounds_toArray, List.set_cons_zero, List.set_cons_succ])
      refine wpAnyB_end (by kernel_rfl) ?_
      clear hS1 hT1 hS2
      have hB1 : Below w4.heap.size w4 w' := hB.drew.trans (hB'.mono hB.drew.size)
      clear y0 y1 y2 y3
      go_wp2
      go_roundw
      case rel => exact ⟨i + 1, hil, by go_num, hB1⟩
      case measure => (simp [intOf] <;> omega)
    · have e1 : decide (i < ts.length) = false := by simpa using hil
      have z0 : wr.cell? ⟨k, 0, none⟩ = some (.int .i64 t.d) := (hB.cell KT4.out.lt).trans ((KT4.out.cell 0).trans (by simp))
      have z1 : wr.cell? ⟨k, 1, none⟩ = some (.int .i64 t.i) := (hB.cell KT4.out.lt).trans ((KT4.out.cell 1).trans (by simp))
      have hBr : Below w.heap.size w wr := hB4.trans (hB.mono hB4.size)
      go_wp2_with fail
      refine (impl_CtorsOf xs t wr _ F1 (ArrDt.below HA4.out hB HU4.out) (HU4.out.mono hB.size)).mono ?_
      rintro e w6 ⟨v6, F6, rfl, hb6, ha6, -, hf6⟩
      have hB6 := hBr.trans (hb6.mono hBr.size)
      obtain ⟨A6, cap6, rfl, -, -⟩ := ha6.form
      have H6 := Lib.hid ha6
      have U6 := Lib.hid hf6.under
      clear ha6 hf6 hb6 z0 z1
      go_wp2_with fail
      refine (ptIn_any (ctorsOfL xs t) n w6 _ F6 H6.out U6.out).mono ?_
      rintro e w7 ⟨rfl, hb7⟩
      have hB7 := hB6.trans (hb7.mono hB6.size)
      cases q3 : hasB (ctorsOfL xs t) n with
      | true =>
        go_wp2
        go_ret
        exact ⟨rfl, hB7⟩
      | false =>
        have z2 : ((ts.length : Int) == 0) = true := by rw [← HTS.out, argTypesL_no q3]; rfl
        clear q3
        go_wp2
        go_ret
        exact ⟨rfl, hB7⟩
end Go.Proofs.Ytbejcgknjnhdpaa.fnArgTypes

namespace Go.Proofs.Ytbejcgknjnhdpaa.fnArgTypes
open Go.ChangeShapes Go.WideShapes Go.ChangeAt Go.RowKit
open Go.ChangeMaps (open_string shut_string)
set_option linter.unusedVariables false

theorem own : ownKnob Try.prog.godebug = none := by kernel_rfl
theorem laidOut : laidOutB Try.prog = true := by kernel_rfl

set_option maxRecDepth 100000 in
theorem lifted (os : Os) (started : os.Started) (H : Type) (enc : TypeId × Value → H) :
    ReturnsInHanded {} Try.checked os 7 .any (Rows.fnArgTypesSpec.pre6 enc Try.prog Try.f7 Rows.fnArgTypesRow.domain false) (Rows.fnArgTypesSpec.post enc Try.prog Try.f7 false true false false) := by
  refine returnsInHanded_of_change (C := Try.checked) own started (by kernel_rfl) Try.func7
    (ChangeSpec.witness6 (enc := enc) (C := Try.checked) false ⟨#[], #[.slice none 0 0], []⟩ 8 (by kernel_rfl) (by kernel_rfl) (by kernel_rfl) (by kernel_rfl)) ?_
  intro W base args ds gs before hval0 hW hcnd _
  have hval : ∀ (j : Nat) t v, Try.f7.params[j]? = some t → args[j]? = some v → Value.okWide Try.prog W .any base t v := hval0
  have hW' := hW
  obtain ⟨p, q, hA0, hV, rfl, hfz, hnd⟩ := hW
  have hA : DataW.TrodAll enc Try.prog W 0 (fun _ => true) true Try.f7.params.toList args.toList ds p := hA0
  rw [Try.params7] at hA hval
  obtain ⟨v0, vs0, d0, ds0, p0, q0, hargs, rfl, rfl, h0, r0⟩ := trodAll_cons hA
  obtain ⟨rfl, rfl, rfl⟩ := trodAll_nil r0
  obtain rfl : args = #[v0] := by cases args; simp_all
  obtain ⟨rfl, rfl⟩ := trodVars_none hV
  have k0 := h0
  have lt0 : ∀ x ∈ p0, x.block < W.heap.size := by obtain ⟨m, hm⟩ := k0; exact DataW.trod_lt m _ _ _ hm
  obtain ⟨x0, F0, hR0, hU0⟩ := open_Bytes (hval 0 22 v0 rfl rfl) h0
  clear hA0 hval0
  refine (walk x0 v0 F0 hR0 hU0 W rfl).mono fun e W' ⟨he, bel⟩ => ?_
  subst he
  exact ⟨_, rfl, _, _, _, [], _, [], hW', trodAll_mk1 (shut_bool Try.underlying4 _), (trodAll_cons_mk (Below.trod laidOut (by kernel_rfl) (of_decide_eq_true (by kernel_rfl)) k0 bel lt0) trodAll_mk0), rfl, bel.frame _, fun h => by cases h⟩

theorem over : Rows.fnArgTypesRow.holds Try.pinned (OpenSpec.ofChange Rows.fnArgTypesSpec) :=
  OpenClaim.holds_of_wide 7 Try.f7 rfl rfl rfl rfl rfl rfl rfl ⟨rfl, rfl, rfl, rfl, rfl⟩ rfl rfl rfl rfl rfl (by kernel_rfl) Try.func7 (by kernel_rfl)
    (of_decide_eq_true (by kernel_rfl)) (by unfold Func.isWrapper; first | (rw [if_pos (by decide +kernel)]; kernel_rfl) | (rw [if_neg (by decide +kernel)]; exact ⟨rfl, rfl⟩))
    (fun os started H enc _ => lifted os started H enc)

theorem proved : Rows.FnArgTypesSaid := over
end Go.Proofs.Ytbejcgknjnhdpaa.fnArgTypes
