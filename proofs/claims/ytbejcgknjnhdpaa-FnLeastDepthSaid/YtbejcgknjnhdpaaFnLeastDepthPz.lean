/-
  FnLeastDepth: for every argument the law returns true. Conditions: none.
-/
import Derived.Test.YtbejcgknjnhdpaaFnLeastDepthPc
import Derived.Test.YtbejcgknjnhdpaaFnLeastDepthPa
import Derived.Test.YtbejcgknjnhdpaaFnLeastDepthPd
import Derived.Deep.RegionWith
import Derived.Deep.RegionHeld3
import Derived.BigQuiet
import Derived.Test.YtbejcgknjnhdpaaRows
import Derived.ProofKit
import Derived.OpenShut
import Derived.ShutString
import Derived.ChangeOld
import Derived.Below

set_option linter.unusedVariables false
set_option linter.unusedSimpArgs false

namespace Go.Proofs.Ytbejcgknjnhdpaa.fnLeastDepth
open Go.RowKit

set_option maxRecDepth 100000 in
set_option maxHeartbeats 6400000 in
theorem walk {W : World} (x0 : List Int) (v0 : Value) (F0 : List Nat) (hR0 : Arr W (ByR W) x0 v0 F0) (hU0 : Under W.heap.size F0) (w : World) (hw : w = W) :
    Calls Try.prog 9 #[v0] w fun e w' => e = .returned (.bool true) ∧ Below w.heap.size w w' := by
  subst hw
  obtain ⟨A0, cap0, rfl, -, -⟩ := hR0.form
  have HR0 := Lib.hid hR0
  have HU0 := Lib.hid hU0
  clear hR0 hU0
  by_cases hlen : 1048576 < x0.length
  · have t0 : decide ((x0.length : Int) > 1048576) = true := decide_eq_true (by omega)
    go_enter Try.func9, Try.ntmps9
    go_wp2
    go_ret
    exact ⟨rfl, Below.refl _ _⟩
  have t0 : decide ((x0.length : Int) > 1048576) = false := decide_eq_false (by omega)
  go_enter Try.func9, Try.ntmps9
  go_wp2_with fail
  refine (spec_DrawLeastDepth x0 w _ F0 HR0.out HU0.out).mono ?_
  rintro e w1 ⟨xs, v1, F1, t, rfl, hb1, ha1, hf1⟩
  obtain ⟨A1, cap1, rfl, hc1, hc2⟩ := ha1.form
  have hb2 : Below w1.heap.size w1 (w1.alloc (.cells #[.int .i64 t.d, .int .i64 t.i] 33)) := (Below.refl _ _).alloc (Nat.le_refl _) _
  have hB2 : Below w.heap.size w (w1.alloc (.cells #[.int .i64 t.d, .int .i64 t.i] 33)) := hb1.trans (hb2.mono hb1.size)
  have HA2 : Hid (Arr (w1.alloc (.cells #[.int .i64 t.d, .int .i64 t.i] 33)) (DtR (w1.alloc (.cells #[.int .i64 t.d, .int .i64 t.i] 33))) xs (.slice A1 xs.length cap1) F1) := ArrDt.below ha1 hb2 hf1.under
  have HU2 : Hid (Under (w1.alloc (.cells #[.int .i64 t.d, .int .i64 t.i] 33)).heap.size F1) := hf1.under.mono hb2.size
  have KT2 : Hid (Blk (w1.alloc (.cells #[.int .i64 t.d, .int .i64 t.i] 33)) w1.heap.size 33 #[.int .i64 t.d, .int .i64 t.i]) := Blk.new _ _ _
  clear ha1 hf1 hb1 HR0 HU0 hb2
  go_wp2_with fail
  generalize (w1.alloc (.cells #[.int .i64 t.d, .int .i64 t.i] 33)) = w2 at *
  generalize w1.heap.size = k at *
  obtain ⟨nD, hnd⟩ : ∃ n, depthL xs t = n := ⟨_, rfl⟩
  have HND := Lib.hid hnd
  clear hnd
  have c02 : w2.cell? ⟨k, 0, none⟩ = some (.int .i64 t.d) := (KT2.out.cell 0).trans (by simp)
  have c12 : w2.cell? ⟨k, 1, none⟩ = some (.int .i64 t.i) := (KT2.out.cell 1).trans (by simp)
  have cl2 := KT2.out.lt
  refine (impl_LeastDepth xs t w2 _ F1 HA2.out HU2.out).mono ?_
  rintro e w3 ⟨rfl, hb3⟩
  have hB3 := hB2.trans (hb3.mono hB2.size)
  have HA3 : Hid (Arr w3 (DtR w3) xs (.slice A1 xs.length cap1) F1) := ArrDt.below HA2.out hb3 HU2.out
  have HU3 : Hid (Under w3.heap.size F1) := HU2.out.mono hb3.size
  have KT3 : Hid (Blk w3 k 33 #[.int .i64 t.d, .int .i64 t.i]) := KT2.out.same (hb3.block _ KT2.out.lt)
  clear hB2 HA2 HU2 hb3 KT2
  clear c02 c12 cl2
  rw [HND.out]
  have c03 : w3.cell? ⟨k, 0, none⟩ = some (.int .i64 t.d) := (KT3.out.cell 0).trans (by simp)
  have c13 : w3.cell? ⟨k, 1, none⟩ = some (.int .i64 t.i) := (KT3.out.cell 1).trans (by simp)
  have cl3 := KT3.out.lt
  go_wp2_with fail
  refine (spec_LeastDepth xs t w3 _ F1 HA3.out HU3.out).mono ?_
  rintro e w4 ⟨rfl, hb4⟩
  have hB4 := hB3.trans (hb4.mono hB3.size)
  have HA4 : Hid (Arr w4 (DtR w4) xs (.slice A1 xs.length cap1) F1) := ArrDt.below HA3.out hb4 HU3.out
  have HU4 : Hid (Under w4.heap.size F1) := HU3.out.mono hb4.size
  have KT4 : Hid (Blk w4 k 33 #[.int .i64 t.d, .int .i64 t.i]) := KT3.out.same (hb4.block _ KT3.out.lt)
  clear hB3 HA3 HU3 hb4 KT3
  clear c03 c13 cl3
  rw [HND.out]
  have c04 : w4.cell? ⟨k, 0, none⟩ = some (.int .i64 t.d) := (KT4.out.cell 0).trans (by simp)
  have c14 : w4.cell? ⟨k, 1, none⟩ = some (.int .i64 t.i) := (KT4.out.cell 1).trans (by simp)
  have cl4 := KT4.out.lt
  go_wp2_with fail
  refine (impl_Inhabited xs t w4 _ F1 HA4.out HU4.out).mono ?_
  rintro e w5 ⟨rfl, hb5⟩
  have hB5 := hB4.trans (hb5.mono hB4.size)
  have HA5 : Hid (Arr w5 (DtR w5) xs (.slice A1 xs.length cap1) F1) := ArrDt.below HA4.out hb5 HU4.out
  have HU5 : Hid (Under w5.heap.size F1) := HU4.out.mono hb5.size
  have KT5 : Hid (Blk w5 k 33 #[.int .i64 t.d, .int .i64 t.i]) := KT4.out.same (hb5.block _ KT4.out.lt)
  clear hB4 HA4 HU4 hb5 KT4
  clear c04 c14 cl4
  rw [HND.out]
  have c05 : w5.cell? ⟨k, 0, none⟩ = some (.int .i64 t.d) := (KT5.out.cell 0).trans (by simp)
  have c15 : w5.cell? ⟨k, 1, none⟩ = some (.int .i64 t.i) := (KT5.out.cell 1).trans (by simp)
  have cl5 := KT5.out.lt
  go_wp2_with fail
  refine (impl_TypeValid xs t w5 _ F1 HA5.out HU5.out).mono ?_
  rintro e w6 ⟨rfl, hb6⟩
  have hB6 := hB5.trans (hb6.mono hB5.size)
  have HA6 : Hid (Arr w6 (DtR w6) xs (.slice A1 xs.length cap1) F1) := ArrDt.below HA5.out hb6 HU5.out
  have HU6 : Hid (Under w6.heap.size F1) := HU5.out.mono hb6.size
  have KT6 : Hid (Blk w6 k 33 #[.int .i64 t.d, .int .i64 t.i]) := KT5.out.same (hb6.block _ KT5.out.lt)
  clear hB5 HA5 HU5 hb6 KT5
  clear c05 c15 cl5
  have c06 : w6.cell? ⟨k, 0, none⟩ = some (.int .i64 t.d) := (KT6.out.cell 0).trans (by simp)
  have c16 : w6.cell? ⟨k, 1, none⟩ = some (.int .i64 t.i) := (KT6.out.cell 1).trans (by simp)
  have cl6 := KT6.out.lt
  cases q0 : typeValidB xs t with
  | false =>
    go_wp2_with fail
    refine (impl_Inhabited xs t w6 _ F1 HA6.out HU6.out).mono ?_
    rintro e w7 ⟨rfl, hb7⟩
    have hB7 := hB6.trans (hb7.mono hB6.size)
    rw [HND.out]
    go_wp2
    go_ret
    exact ⟨rfl, hB7⟩
  | true =>
    cases q1 : (t.d == -1) with
    | true =>
      go_wp2_with fail
      refine (impl_Inhabited xs t w6 _ F1 HA6.out HU6.out).mono ?_
      rintro e w7 ⟨rfl, hb7⟩
      have hB7 := hB6.trans (hb7.mono hB6.size)
      rw [HND.out]
      go_wp2
      go_ret
      exact ⟨rfl, hB7⟩
    | false =>
      have hv := q0
      obtain ⟨hw, hto⟩ := typeValid_split q0
      have hlc : ctorsOfL xs t = ctorsL xs t := by unfold ctorsOfL; rw [if_pos q0]
      have HBL : Hid (bestTo ((ctorsOfL xs t).map (mostIn xs (tableL xs) t)) = nD) := by
        have h := best_least hw (typeOkB_tyIn hto) (by rw [beq_eq_false_iff_ne] at q1; exact q1)
        unfold Hid
        rw [hlc, h, ← HND.out, depthL_yes hv]
      have HARG : Hid (∀ n ∈ ctorsOfL xs t, argTypesL xs t n = argsOf xs t n) := fun n hn => (argTypesL_yes (by rw [hasB_iff]; exact hn)).1
      clear hv hw hto hlc
      go_wp2_with fail
      refine (impl_CtorsOf xs t w6 _ F1 HA6.out HU6.out).mono ?_
      rintro e w7 ⟨vM, FM, rfl, hb7, haM, -, hfM⟩
      have hB7 := hB6.trans (hb7.mono hB6.size)
      have HA7 : Hid (Arr w7 (DtR w7) xs (.slice A1 xs.length cap1) F1) := ArrDt.below HA6.out hb7 HU6.out
      have HU7 : Hid (Under w7.heap.size F1) := HU6.out.mono hb7.size
      have KT7 : Hid (Blk w7 k 33 #[.int .i64 t.d, .int .i64 t.i]) := KT6.out.same (hb7.block _ KT6.out.lt)
      clear hB6 HA6 HU6 hb7 KT6
      obtain ⟨AM, capM, rfl, -, -⟩ := haM.form
      have HM7 : Hid (Arr w7 (NatR w7) (ctorsOfL xs t) (.slice AM (ctorsOfL xs t).length capM) FM) := haM
      have UM7 := Lib.hid hfM.under
      clear haM hfM
      clear c06 c16 cl6 q0 q1
      obtain ⟨ls, hls⟩ : ∃ l, ctorsOfL xs t = l := ⟨_, rfl⟩
      rw [hls] at HBL HARG HM7 ⊢
      clear hls
      have hlm : ls.length ≤ 9223372036854775807 := by obtain ⟨_, _, _, h1, h2⟩ := HM7.out.form; omega
      go_wp2
      go_loopw [9, 11] (fun bv iv wr => ∃ i : Nat, ∃ best : Int, i ≤ ls.length ∧ iv = .int .i64 i ∧ bv = .int .i64 best ∧ Hid (BInv (mostIn xs (tableL xs) t) ls i best) ∧ Below w7.heap.size w7 wr) (fun _ iv _ => ls.length - (intOf iv).toNat)
      case atStart => exact ⟨0, 0, Nat.zero_le _, rfl, rfl, (show BInv _ ls 0 0 from rfl), Below.refl _ _⟩
      case round =>
        obtain ⟨i, best, hi, rfl, rfl, HBI, hB⟩ := hrel
        have hBr : Below w.heap.size w wr := hB7.trans (hB.mono hB7.size)
        by_cases hil : i < ls.length
        · have z0 : wr.cell? ⟨k, 0, none⟩ = some (.int .i64 t.d) := (hB.cell KT7.out.lt).trans ((KT7.out.cell 0).trans (by simp))
          have z1 : wr.cell? ⟨k, 1, none⟩ = some (.int .i64 t.i) := (hB.cell KT7.out.lt).trans ((KT7.out.cell 1).trans (by simp))
          have klt : k < wr.heap.size := Nat.lt_of_lt_of_le KT7.out.lt hB.size
          obtain ⟨bl, offl, rfl⟩ := HM7.out.ptr (by omega)
          obtain ⟨hbl, y0⟩ := ArrNat.at HM7.out UM7.out hB i hil
          have g1 : (0 : Int) ≤ (i : Int) := by omega
          have g2 : (i : Int) < (ls.length : Int) := by omega
          have HAr : Hid (Arr wr.drew (DtR wr.drew) xs (.slice A1 xs.length cap1) F1) := ArrDt.below HA7.out hB.drew HU7.out
          have HUr : Hid (Under wr.drew.heap.size F1) := HU7.out.mono hB.drew.size
          have e1 : decide (i < ls.length) = true := by simpa using hil
          go_wp2_with fail
          refine wp_region_B (S := fun w' => w'.cell? ⟨k, 0, none⟩ = some (.int .i64 t.d) ∧ w'.cell? ⟨k, 1, none⟩ = some (.int .i64 t.i) ∧ w'.cell? ⟨bl, offl + i, none⟩ = some (.int .i64 ls[i])) (T := fun _ => True) (d := 99) (by kernel_rfl) ?_
          have hS1 : wr.drew.cell? ⟨k, 0, none⟩ = some (.int .i64 t.d) ∧ wr.drew.cell? ⟨k, 1, none⟩ = some (.int .i64 t.i) ∧ wr.drew.cell? ⟨bl, offl + i, none⟩ = some (.int .i64 ls[i]) := ⟨z0, z1, y0⟩
          have hT1 : True := trivial
          refine wpAnyB_take (i := 0) (v := ?_) rfl (by decide) (by kernel_rfl) (by kernel_rfl) (by kernel_rfl) (fun _ _ _ h => h) (Or.inl ⟨by rfl, ?hy0⟩) hS1 (fun _ => hT1) ?_
          case hy0 => (intro W hSw; obtain ⟨hSa, hSb, hSc⟩ := hSw; (try dsimp only at hSa hSb hSc); go_simp; try with_reducible rfl)
          (try simp only [Act.put, List.getElem_toArray, List.getElem_cons_zero, List.getElem_cons_succ, List.setIfInBounds_toArray, List.set_cons_zero, List.set_cons_succ])
          refine wpAnyB_take (i := 1) (v := ?_) rfl (by decide) (by kernel_rfl) (by kernel_rfl) (by kernel_rfl) (fun _ _ _ h => h) (Or.inl ⟨by rfl, ?hy1⟩) hS1 (fun _ => hT1) ?_
          case hy1 => (intro W hSw; obtain ⟨hSa, hSb, hSc⟩ := hSw; (try dsimp only at hSa hSb hSc); go_simp; try with_reducible rfl)
          (try simp only [Act.put, List.getElem_toArray, List.getElem_cons_zero, List.getElem_cons_succ, List.setIfInBounds_toArray, List.set_cons_zero, List.set_cons_succ])
          refine wpAnyB_take (i := 2) (v := ?_) rfl (by decide) (by kernel_rfl) (by kernel_rfl) (by kernel_rfl) (fun _ _ _ h => h) (Or.inl ⟨by rfl, ?hy2⟩) hS1 (fun _ => hT1) ?_
          case hy2 => (intro W hSw; obtain ⟨hSa, hSb, hSc⟩ := hSw; (try dsimp only at hSa hSb hSc); go_simp; try with_reducible rfl)
          (try simp only [Act.put, List.getElem_toArray, List.getElem_cons_zero, List.getElem_cons_succ, List.setIfInBounds_toArray, List.set_cons_zero, List.set_cons_succ])
          refine wpAnyB_take (i := 3) (v := ?_) rfl (by decide) (by kernel_rfl) (by kernel_rfl) (by kernel_rfl) (fun _ _ _ h => h) (Or.inl ⟨by rfl, ?hy3⟩) hS1 (fun _ => hT1) ?_
          case hy3 => (intro W hSw; obtain ⟨hSa, hSb, hSc⟩ := hSw; (try dsimp only at hSa hSb hSc); go_simp; try with_reducible rfl)
          (try simp only [Act.put, List.getElem_toArray, List.getElem_cons_zero, List.getElem_cons_succ, List.setIfInBounds_toArray, List.set_cons_zero, List.set_cons_succ])
          refine wpAnyB_take (i := 4) (v := ?_) rfl (by decide) (by kernel_rfl) (by kernel_rfl) (by kernel_rfl) (fun _ _ _ h => h) (Or.inl ⟨by rfl, ?hy4⟩) hS1 (fun _ => hT1) ?_
          case hy4 => (intro W hSw; obtain ⟨hSa, hSb, hSc⟩ := hSw; (try dsimp only at hSa hSb hSc); go_simp; try with_reducible rfl)
          (try simp only [Act.put, List.getElem_toArray, List.getElem_cons_zero, List.getElem_cons_succ, List.setIfInBounds_toArray, List.set_cons_zero, List.set_cons_succ])
          refine wpAnyB_take (i := 5) (v := ?_) rfl (by decide) (by kernel_rfl) (by kernel_rfl) (by kernel_rfl) (fun _ _ _ h => h) (Or.inl ⟨by rfl, ?hy5⟩) hS1 (fun _ => hT1) ?_
          case hy5 => (intro W hSw; obtain ⟨hSa, hSb, hSc⟩ := hSw; (try dsimp only at hSa hSb hSc); go_simp; try with_reducible rfl)
          (try simp only [Act.put, List.getElem_toArray, List.getElem_cons_zero, List.getElem_cons_succ, List.setIfInBounds_toArray, List.set_cons_zero, List.set_cons_succ])
          refine wpAnyB_ready (rs := [6]) (by kernel_rfl) (by simp) ?_
          refine AllReadyB.cons rfl (fun K hK => ?_) AllReadyB.nil
          go_simp
          go_at_call 20
          with_reducible refine (impl_ArgTypes xs t ls[i] wr.drew _ F1 HAr.out HUr.out).mono ?_
          rintro e w' ⟨v7, F7, rfl, hB', ha7, -, hf7⟩
          have hS2 : w'.cell? ⟨k, 0, none⟩ = some (.int .i64 t.d) ∧ w'.cell? ⟨k, 1, none⟩ = some (.int .i64 t.i) ∧ w'.cell? ⟨bl, offl + i, none⟩ = some (.int .i64 ls[i]) := ⟨(hB'.cell klt).trans z0, (hB'.cell klt).trans z1, (hB'.cell hbl).trans y0⟩
          dsimp only
          refine hK.out _ _ hS2 (fun _ => trivial) ?_
          clear hK K
          (try simp only [Act.put, List.getElem_toArray, List.getElem_cons_zero, List.getElem_cons_succ, List.setIfInBounds_toArray, List.set_cons_zero, List.set_cons_succ])
          refine wpAnyB_take (i := 7) (v := ?_) rfl (by decide) (by kernel_rfl) (by kernel_rfl) (by kernel_rfl) (fun _ _ _ h => h) (Or.inl ⟨by rfl, ?hy7⟩) hS2 (fun _ => hT1) ?_
          case hy7 => (intro W hSw; obtain ⟨hSa, hSb, hSc⟩ := hSw; (try dsimp only at hSa hSb hSc); go_simp; try with_reducible rfl)
          (try simp only [Act.put, List.getElem_toArray, List.getElem_cons_zero, List.getElem_cons_succ, List.setIfInBounds_toArray, List.set_cons_zero, List.set_cons_succ])
          refine wpAnyB_end (by kernel_rfl) ?_
          clear hS1 hT1 hS2 z0 z1 y0
          have hBq : Below w7.heap.size w7 w' := hB.drew.trans (hB'.mono hB.size)
          obtain ⟨ar, har⟩ : ∃ l, argTypesL xs t ls[i] = l := ⟨_, rfl⟩
          rw [har] at ha7
          obtain ⟨A7, cap7, rfl, hc7, hc8⟩ := ha7.form
          have H7 := Lib.hid ha7
          have U7 := Lib.hid hf7.under
          have HAD : Hid (∀ a ∈ ar, depthL xs a = depthIn (tableL xs) a ∧ 0 ≤ depthL xs a ∧ depthL xs a ≤ 100000) := fun a ha => argDepth (by rw [har]; exact ha)
          have HMO : Hid (mostIn xs (tableL xs) t ls[i] = mostGo (tableL xs) 0 ar) := by
            have h := HARG.out ls[i] (List.getElem_mem hil)
            rw [← har, h]; rfl
          have hBw' : Below w.heap.size w w' := hB7.trans (hBq.mono hB7.size)
          clear ha7 hf7 har hB' hBr hB klt hbl HAr HUr
          go_wp2
          obtain ⟨wo, hwo⟩ : ∃ wo : World, wo = w' := ⟨_, rfl⟩
          go_loopw [13, 14, 15] (fun mv fv jv ws => ∃ j : Nat, ∃ f : Bool, ∃ mst : Int, j ≤ ar.length ∧ jv = .int .i64 j ∧ fv = .bool f ∧ mv = .int .i64 mst ∧ Hid (MInv (tableL xs) ar j f mst) ∧ Below w'.heap.size w' ws) (fun _ _ jv _ => ar.length - (intOf jv).toNat)
          case atStart => exact ⟨0, true, 0, Nat.zero_le _, rfl, rfl, rfl, MInv.zero _ _, Below.refl _ _⟩
          case round =>
            clear hwo
            obtain ⟨j, f, mst, hj, rfl, rfl, rfl, HI, hB⟩ := hrel
            have hB2 : Below w7.heap.size w7 wr := hBq.trans (hB.mono hBq.size)
            by_cases hjl : j < ar.length
            · obtain ⟨b7, off7, rfl⟩ := H7.out.ptr (by omega)
              obtain ⟨hb7, x0, x1⟩ := ArrTy.at H7.out U7.out hB j hjl
              have g3 : (0 : Int) ≤ (j : Int) := by omega
              have g4 : (j : Int) < (ar.length : Int) := by omega
              have HD := Lib.hid (HAD.out _ (List.getElem_mem hjl))
              go_wp2_with fail
              refine (impl_LeastDepth xs ar[j] wr _ F1 (ArrDt.below HA7.out hB2 HU7.out) (HU7.out.mono hB2.size)).mono ?_
              rintro e w8 ⟨rfl, hb8⟩
              have hB8 : Below w'.heap.size w' w8 := hB.trans (hb8.mono hB.size)
              clear x0 x1 hb7 hb8 hB hB2
              cases qf : f with
              | false =>
                rw [qf] at HI
                clear qf
                cases qp : posB (depthL xs ar[j]) with
                | false =>
                  cases qd : decide (depthL xs ar[j] > mst) with
                  | false =>
                    have HI2 := Lib.hid (HI.out.next (f' := false) (m' := mst) hjl HD.out.1 HD.out.2.1 HD.out.2.2 (by rw [qp]; rfl) (by rw [if_neg (by simpa using qd)]))
                    go_wp2
                    go_roundw
                    case rel => exact ⟨j + 1, false, mst, hjl, by go_num, rfl, rfl, HI2, hB8⟩
                    case measure => (simp [intOf] <;> omega)
                  | true =>
                    have HI2 := Lib.hid (HI.out.next (f' := false) (m' := (depthL xs ar[j])) hjl HD.out.1 HD.out.2.1 HD.out.2.2 (by rw [qp]; rfl) (by rw [if_pos (by simpa using qd)]))
                    go_wp2
                    go_roundw
                    case rel => exact ⟨j + 1, false, (depthL xs ar[j]), hjl, by go_num, rfl, rfl, HI2, hB8⟩
                    case measure => (simp [intOf] <;> omega)
                | true =>
                  cases qd : decide (depthL xs ar[j] > mst) with
                  | false =>
                    have HI2 := Lib.hid (HI.out.next (f' := false) (m' := mst) hjl HD.out.1 HD.out.2.1 HD.out.2.2 (by rw [qp]; rfl) (by rw [if_neg (by simpa using qd)]))
                    go_wp2
                    go_roundw
                    case rel => exact ⟨j + 1, false, mst, hjl, by go_num, rfl, rfl, HI2, hB8⟩
                    case measure => (simp [intOf] <;> omega)
                  | true =>
                    have HI2 := Lib.hid (HI.out.next (f' := false) (m' := (depthL xs ar[j])) hjl HD.out.1 HD.out.2.1 HD.out.2.2 (by rw [qp]; rfl) (by rw [if_pos (by simpa using qd)]))
                    go_wp2
                    go_roundw
                    case rel => exact ⟨j + 1, false, (depthL xs ar[j]), hjl, by go_num, rfl, rfl, HI2, hB8⟩
                    case measure => (simp [intOf] <;> omega)
              | true =>
                rw [qf] at HI
                clear qf
                cases qp : posB (depthL xs ar[j]) with
                | false =>
                  cases qd : decide (depthL xs ar[j] > mst) with
                  | false =>
                    have HI2 := Lib.hid (HI.out.next (f' := false) (m' := mst) hjl HD.out.1 HD.out.2.1 HD.out.2.2 (by rw [qp]; rfl) (by rw [if_neg (by simpa using qd)]))
                    go_wp2
                    go_roundw
                    case rel => exact ⟨j + 1, false, mst, hjl, by go_num, rfl, rfl, HI2, hB8⟩
                    case measure => (simp [intOf] <;> omega)
                  | true =>
                    have HI2 := Lib.hid (HI.out.next (f' := false) (m' := (depthL xs ar[j])) hjl HD.out.1 HD.out.2.1 HD.out.2.2 (by rw [qp]; rfl) (by rw [if_pos (by simpa using qd)]))
                    go_wp2
                    go_roundw
                    case rel => exact ⟨j + 1, false, (depthL xs ar[j]), hjl, by go_num, rfl, rfl, HI2, hB8⟩
                    case measure => (simp [intOf] <;> omega)
                | true =>
                  cases qd : decide (depthL xs ar[j] > mst) with
                  | false =>
                    have HI2 := Lib.hid (HI.out.next (f' := true) (m' := mst) hjl HD.out.1 HD.out.2.1 HD.out.2.2 (by rw [qp]; rfl) (by rw [if_neg (by simpa using qd)]))
                    go_wp2
                    go_roundw
                    case rel => exact ⟨j + 1, true, mst, hjl, by go_num, rfl, rfl, HI2, hB8⟩
                    case measure => (simp [intOf] <;> omega)
                  | true =>
                    have HI2 := Lib.hid (HI.out.next (f' := true) (m' := (depthL xs ar[j])) hjl HD.out.1 HD.out.2.1 HD.out.2.2 (by rw [qp]; rfl) (by rw [if_pos (by simpa using qd)]))
                    go_wp2
                    go_roundw
                    case rel => exact ⟨j + 1, true, (depthL xs ar[j]), hjl, by go_num, rfl, rfl, HI2, hB8⟩
                    case measure => (simp [intOf] <;> omega)
            · have hdone := HI.out.done (by omega)
              have hmr : 0 ≤ mst ∧ mst ≤ 100000 := ⟨HI.out.1, HI.out.2.1⟩
              have hmw : IntKind.i64.wrap (mst + 1) = mst + 1 := IntWalk.i64_in _ (by omega)
              rw [← HMO.out] at hdone
              have HDN := Lib.hid hdone
              clear hdone
              cases qf : f with
              | false =>
                have HB2 := Lib.hid (HBI.out.next (b' := best) hil HDN.out (by rw [qf, if_neg (by simp), bestOf_none]))
                clear qf
                go_wp2
                go_roundw
                case rel => exact ⟨i + 1, best, hil, by go_num, rfl, HB2, hB2⟩
                case measure => (simp [intOf] <;> omega)
              | true =>
                cases qb : (best == 0) with
                | true =>
                  have HB2 := Lib.hid (HBI.out.next (b' := mst + 1) hil HDN.out (by rw [qf, if_pos rfl, show best = 0 from beq_iff_eq.1 qb, bestOf_first (by omega)]))
                  clear qf
                  go_wp2
                  go_roundw
                  case rel => exact ⟨i + 1, mst + 1, hil, by go_num, by go_num, HB2, hB2⟩
                  case measure => (simp [intOf] <;> omega)
                | false =>
                  have hbn : best ≠ 0 := by rw [beq_eq_false_iff_ne] at qb; exact qb
                  cases qm : decide (mst + 1 < best) with
                  | true =>
                    have HB2 := Lib.hid (HBI.out.next (b' := mst + 1) hil HDN.out (by rw [qf, if_pos rfl, bestOf_less (by omega) (by simpa using qm)]))
                    clear qf hbn
                    go_wp2
                    go_roundw
                    case rel => exact ⟨i + 1, mst + 1, hil, by go_num, by go_num, HB2, hB2⟩
                    case measure => (simp [intOf] <;> omega)
                  | false =>
                    have HB2 := Lib.hid (HBI.out.next (b' := best) hil HDN.out (by rw [qf, if_pos rfl, bestOf_more hbn (by simpa using qm)]))
                    clear qf hbn
                    go_wp2
                    go_roundw
                    case rel => exact ⟨i + 1, best, hil, by go_num, rfl, HB2, hB2⟩
                    case measure => (simp [intOf] <;> omega)
        · have hbd : best = nD := by rw [HBI.out.done (by omega)]; exact HBL.out
          subst hbd
          have e1 : decide (i < ls.length) = false := by simpa using hil
          cases qp : posB best with
          | true =>
            have qd : decide (best > 0) = true := by simpa [posB] using qp
            go_wp2
            go_ret
            exact ⟨rfl, hBr⟩
          | false =>
            have qd : decide (best > 0) = false := by simpa [posB] using qp
            go_wp2
            go_ret
            exact ⟨rfl, hBr⟩
end Go.Proofs.Ytbejcgknjnhdpaa.fnLeastDepth

namespace Go.Proofs.Ytbejcgknjnhdpaa.fnLeastDepth
open Go.ChangeShapes Go.WideShapes Go.ChangeAt Go.RowKit
open Go.ChangeMaps (open_string shut_string)
set_option linter.unusedVariables false

theorem own : ownKnob Try.prog.godebug = none := by kernel_rfl
theorem laidOut : laidOutB Try.prog = true := by kernel_rfl

set_option maxRecDepth 100000 in
theorem lifted (os : Os) (started : os.Started) (H : Type) (enc : TypeId × Value → H) :
    ReturnsInHanded {} Try.checked os 9 .any (Rows.fnLeastDepthSpec.pre6 enc Try.prog Try.f9 Rows.fnLeastDepthRow.domain false) (Rows.fnLeastDepthSpec.post enc Try.prog Try.f9 false true false false) := by
  refine returnsInHanded_of_change (C := Try.checked) own started (by kernel_rfl) Try.func9
    (ChangeSpec.witness6 (enc := enc) (C := Try.checked) false ⟨#[], #[.slice none 0 0], []⟩ 8 (by kernel_rfl) (by kernel_rfl) (by kernel_rfl) (by kernel_rfl)) ?_
  intro W base args ds gs before hval0 hW hcnd _
  have hval : ∀ (j : Nat) t v, Try.f9.params[j]? = some t → args[j]? = some v → Value.okWide Try.prog W .any base t v := hval0
  have hW' := hW
  obtain ⟨p, q, hA0, hV, rfl, hfz, hnd⟩ := hW
  have hA : DataW.TrodAll enc Try.prog W 0 (fun _ => true) true Try.f9.params.toList args.toList ds p := hA0
  rw [Try.params9] at hA hval
  obtain ⟨v0, vs0, d0, ds0, p0, q0, hargs, rfl, rfl, h0, r0⟩ := trodAll_cons hA
  obtain ⟨rfl, rfl, rfl⟩ := trodAll_nil r0
  obtain rfl : args = #[v0] := by cases args; simp_all
  obtain ⟨rfl, rfl⟩ := trodVars_none hV
  have k0 := h0
  have lt0 : ∀ x ∈ p0, x.block < W.heap.size := by obtain ⟨m, hm⟩ := k0; exact DataW.trod_lt m _ _ _ hm
  obtain ⟨x0, F0, hR0, hU0⟩ := open_Bytes (hval 0 22 v0 rfl rfl) h0
  clear hA0 hval0
  refine (walk x0 v0 F0 hR0 hU0 W rfl).mono fun e W' ⟨he, bel⟩ => ?_
  subst he
  exact ⟨_, rfl, _, _, _, [], _, [], hW', trodAll_mk1 (shut_bool Try.underlying4 _), (trodAll_cons_mk (Below.trod laidOut (by kernel_rfl) (of_decide_eq_true (by kernel_rfl)) k0 bel lt0) trodAll_mk0), rfl, bel.frame _, fun h => by cases h⟩

theorem over : Rows.fnLeastDepthRow.holds Try.pinned (OpenSpec.ofChange Rows.fnLeastDepthSpec) :=
  OpenClaim.holds_of_wide 9 Try.f9 rfl rfl rfl rfl rfl rfl rfl ⟨rfl, rfl, rfl, rfl, rfl⟩ rfl rfl rfl rfl rfl (by kernel_rfl) Try.func9 (by kernel_rfl)
    (of_decide_eq_true (by kernel_rfl)) (by unfold Func.isWrapper; first | (rw [if_pos (by decide +kernel)]; kernel_rfl) | (rw [if_neg (by decide +kernel)]; exact ⟨rfl, rfl⟩))
    (fun os started H enc _ => lifted os started H enc)

theorem proved : Rows.FnLeastDepthSaid := over
end Go.Proofs.Ytbejcgknjnhdpaa.fnLeastDepth
