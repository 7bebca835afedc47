/-
  FnValuesGrow: for every argument the law returns true. Conditions: none.
-/
import Derived.Test.YtilndhmegaccmaaKAJ
import Derived.Test.YtilndhmegaccmaaKAF
import Derived.Test.YtilndhmegaccmaaKAG
import Derived.Test.YtilndhmegaccmaaKAK
import Derived.Test.YtilndhmegaccmaaKAA
import Derived.Deep.RegionWith
import Derived.Deep.RegionHeld3
import Derived.BigQuiet
import Derived.Test.YtilndhmegaccmaaRows
import Derived.Test.YtilndhmegaccmaaKAH
import Derived.ProofKit
import Derived.OpenShut
import Derived.ShutString
import Derived.ChangeOld
import Derived.Below

set_option linter.unusedVariables false
set_option linter.unusedSimpArgs false

namespace Go.Proofs.Ytilndhmegaccmaa.fnValuesGrow
open Go.RowKit

set_option maxRecDepth 100000 in
set_option maxHeartbeats 6400000 in
theorem walk {W : World} (x0 : List Int) (v0 : Value) (F0 : List Nat) (hR0 : Arr W (ByR W) x0 v0 F0) (hU0 : Under W.heap.size F0) (w : World) (hw : w = W) :
    Calls Try.prog 7 #[v0] w fun e w' => e = .returned (.bool true) ∧ Below w.heap.size w w' := by
  subst hw
  obtain ⟨A0, cap0, rfl, -, -⟩ := hR0.form
  have HR0 := Lib.hid hR0
  have HU0 := Lib.hid hU0
  clear hR0 hU0
  by_cases hlen : 1048576 < x0.length
  · have t0 : decide ((x0.length : Int) > 1048576) = true := decide_eq_true (by omega)
    go_enter Try.func7, Try.ntmps7
    go_wp2
    go_ret
    exact ⟨rfl, Below.refl _ _⟩
  have t0 : decide ((x0.length : Int) > 1048576) = false := decide_eq_false (by omega)
  go_enter Try.func7, Try.ntmps7
  go_wp2_with fail
  refine (spec_DrawValuesUpTo x0 w _ F0 HR0.out HU0.out).mono ?_
  rintro e w1 ⟨xs, v1, F1, t, n, rfl, hb1, ha1, hf1⟩
  obtain ⟨A1, cap1, rfl, hc1, hc2⟩ := ha1.form
  have hb2 : Below w1.heap.size w1 (w1.alloc (.cells #[.int .i64 t.d, .int .i64 t.i] 32)) := (Below.refl _ _).alloc (Nat.le_refl _) _
  have hB2 : Below w.heap.size w (w1.alloc (.cells #[.int .i64 t.d, .int .i64 t.i] 32)) := hb1.trans (hb2.mono hb1.size)
  have HA2 : Hid (Arr (w1.alloc (.cells #[.int .i64 t.d, .int .i64 t.i] 32)) (DtR (w1.alloc (.cells #[.int .i64 t.d, .int .i64 t.i] 32))) xs (.slice A1 xs.length cap1) F1) := ArrDt.below ha1 hb2 hf1.under
  have HU2 : Hid (Under (w1.alloc (.cells #[.int .i64 t.d, .int .i64 t.i] 32)).heap.size F1) := hf1.under.mono hb2.size
  have KT2 : Hid (Blk (w1.alloc (.cells #[.int .i64 t.d, .int .i64 t.i] 32)) w1.heap.size 32 #[.int .i64 t.d, .int .i64 t.i]) := Blk.new _ _ _
  clear ha1 hf1 hb1 HR0 HU0 hb2
  go_wp2_with fail
  generalize (w1.alloc (.cells #[.int .i64 t.d, .int .i64 t.i] 32)) = w2 at *
  generalize w1.heap.size = k at *
  have hfl := uptoV_len xs t n
  obtain ⟨ls, hls⟩ : ∃ l, uptoV xs t n = l := ⟨_, rfl⟩
  obtain ⟨fb, hfb⟩ : ∃ b, uptoB xs t n = b := ⟨_, rfl⟩
  rw [hls] at hfl
  have HLS := Lib.hid hls
  have HFB := Lib.hid hfb
  clear hls hfb
  have c02 : w2.cell? ⟨k, 0, none⟩ = some (.int .i64 t.d) := (KT2.out.cell 0).trans (by simp)
  have c12 : w2.cell? ⟨k, 1, none⟩ = some (.int .i64 t.i) := (KT2.out.cell 1).trans (by simp)
  have cl2 := KT2.out.lt
  refine (impl_ValuesUpTo xs t n w2 _ F1 HA2.out HU2.out).mono ?_
  rintro e w3 ⟨vL, FL, rfl, hb3, haL, hfrL, hfsL⟩
  have hB3 := hB2.trans (hb3.mono hB2.size)
  have HA3 : Hid (Arr w3 (DtR w3) xs (.slice A1 xs.length cap1) F1) := ArrDt.below HA2.out hb3 HU2.out
  have HU3 : Hid (Under w3.heap.size F1) := HU2.out.mono hb3.size
  have KT3 : Hid (Blk w3 k 32 #[.int .i64 t.d, .int .i64 t.i]) := KT2.out.same (hb3.block _ KT2.out.lt)
  clear hB2 HA2 HU2 hb3 KT2
  clear c02 c12 cl2
  rw [HLS.out] at haL
  rw [HFB.out]
  obtain ⟨AL, capL, rfl, -, -⟩ := haL.form
  have HL3 : Hid (Arr w3 (VR w3) ls (.slice AL ls.length capL) FL) := haL
  have UL3 := Lib.hid hfsL.under
  clear haL hfrL hfsL
  have c03 : w3.cell? ⟨k, 0, none⟩ = some (.int .i64 t.d) := (KT3.out.cell 0).trans (by simp)
  have c13 : w3.cell? ⟨k, 1, none⟩ = some (.int .i64 t.i) := (KT3.out.cell 1).trans (by simp)
  have cl3 := KT3.out.lt
  go_wp2_with fail
  clear c03 c13 cl3
  refine (spec_ValuesUpTo xs t n w3 _ F1 HA3.out HU3.out).mono ?_
  rintro e w4 ⟨vM, FM, rfl, hb4, haM, hfrM, hfsM⟩
  have HL4 : Hid (Arr w4 (VR w4) ls (.slice AL ls.length capL) FL) := ArrV.below HL3.out hb4 UL3.out
  have UL4 : Hid (Under w4.heap.size FL) := UL3.out.mono hb4.size
  clear HL3 UL3
  have hB4 := hB3.trans (hb4.mono hB3.size)
  have HA4 : Hid (Arr w4 (DtR w4) xs (.slice A1 xs.length cap1) F1) := ArrDt.below HA3.out hb4 HU3.out
  have HU4 : Hid (Under w4.heap.size F1) := HU3.out.mono hb4.size
  have KT4 : Hid (Blk w4 k 32 #[.int .i64 t.d, .int .i64 t.i]) := KT3.out.same (hb4.block _ KT3.out.lt)
  clear hB3 HA3 HU3 hb4 KT3
  rw [HLS.out] at haM
  rw [HFB.out]
  obtain ⟨AM, capM, rfl, -, -⟩ := haM.form
  have HM4 : Hid (Arr w4 (VR w4) ls (.slice AM ls.length capM) FM) := haM
  have UM4 := Lib.hid hfsM.under
  clear haM hfrM hfsM
  have hne : (fb != fb) = false := by simp
  have heq : (fb == fb) = true := by simp
  have hne2 : ((ls.length : Int) != (ls.length : Int)) = false := by simp
  have heq2 : ((ls.length : Int) == (ls.length : Int)) = true := by simp
  cases fb with
  | false =>
    have hne : (false != false) = false := rfl
    have heq : (false == false) = true := rfl
    go_wp2
    go_ret
    exact ⟨rfl, hB4⟩
  | true =>
    have hne : (true != true) = false := rfl
    by_cases h0 : n = 0
    · have e0 : (n == 0) = true := by simp [h0]
      have HN0 := Lib.hid h0
      clear h0
      go_wp2
      go_ret
      exact ⟨rfl, hB4⟩
    · have e0 : (n == 0) = false := by simpa using h0
      have hul := upto_less HFB.out h0
      have hn4 := (upto_split HFB.out).2.2.1
      rw [HLS.out] at hul
      obtain ⟨hu1, hu2⟩ := hul
      obtain ⟨nn, hnn, hnn4⟩ := hn4
      have hnb : 0 ≤ n ∧ n ≤ 4 := by omega
      have hwn : IntKind.i64.wrap (n - 1) = n - 1 := IntWalk.i64_in _ (by omega)
      have hml := hu2.length_le
      obtain ⟨ms, hms⟩ : ∃ l, uptoV xs t (n - 1) = l := ⟨_, rfl⟩
      rw [hms] at hu2 hml
      have HMS := Lib.hid hms
      have HU1 := Lib.hid hu1
      have HSUB := Lib.hid hu2
      clear hms hu1 hu2 hnn h0
      have c04 : w4.cell? ⟨k, 0, none⟩ = some (.int .i64 t.d) := (KT4.out.cell 0).trans (by simp)
      have c14 : w4.cell? ⟨k, 1, none⟩ = some (.int .i64 t.i) := (KT4.out.cell 1).trans (by simp)
      have cl4 := KT4.out.lt
      have c04 : w4.cell? ⟨k, 0, none⟩ = some (.int .i64 t.d) := (KT4.out.cell 0).trans (by simp)
      have c14 : w4.cell? ⟨k, 1, none⟩ = some (.int .i64 t.i) := (KT4.out.cell 1).trans (by simp)
      have cl4 := KT4.out.lt
      go_wp2_with fail
      clear c04 c14 cl4
      refine (impl_ValuesUpTo xs t (n - 1) w4 _ F1 HA4.out HU4.out).mono ?_
      rintro e w5 ⟨vK, FK, rfl, hb5, haK, hfrK, hfsK⟩
      have HL5 : Hid (Arr w5 (VR w5) ls (.slice AL ls.length capL) FL) := ArrV.below HL4.out hb5 UL4.out
      have UL5 : Hid (Under w5.heap.size FL) := UL4.out.mono hb5.size
      clear HL4 UL4
      have HM5 : Hid (Arr w5 (VR w5) ls (.slice AM ls.length capM) FM) := ArrV.below HM4.out hb5 UM4.out
      have UM5 : Hid (Under w5.heap.size FM) := UM4.out.mono hb5.size
      clear HM4 UM4
      have hB5 := hB4.trans (hb5.mono hB4.size)
      have HA5 : Hid (Arr w5 (DtR w5) xs (.slice A1 xs.length cap1) F1) := ArrDt.below HA4.out hb5 HU4.out
      have HU5 : Hid (Under w5.heap.size F1) := HU4.out.mono hb5.size
      have KT5 : Hid (Blk w5 k 32 #[.int .i64 t.d, .int .i64 t.i]) := KT4.out.same (hb5.block _ KT4.out.lt)
      clear hB4 HA4 HU4 hb5 KT4
      clear c04 c14 cl4
      rw [HMS.out] at haK
      rw [HU1.out]
      obtain ⟨AK, capK, rfl, -, -⟩ := haK.form
      have HK5 : Hid (Arr w5 (VR w5) ms (.slice AK ms.length capK) FK) := haK
      have UK5 := Lib.hid hfsK.under
      clear haK hfrK hfsK
      go_wp2
      clear hnb hwn e0
      go_loopw [12, 13] (fun kv iv wr => ∃ k i : Nat, k ≤ ms.length ∧ i ≤ ls.length ∧ kv = .int .i64 k ∧ iv = .int .i64 i ∧ Hid ((ms.drop k).Sublist (ls.drop i)) ∧ Below w5.heap.size w5 wr) (fun _ iv _ => ls.length - (intOf iv).toNat)
      case atStart => exact ⟨0, 0, Nat.zero_le _, Nat.zero_le _, rfl, rfl, HSUB.out, Below.refl _ _⟩
      case round =>
        obtain ⟨k, i, hk, hi, rfl, rfl, HS, hB⟩ := hrel
        have hBr : Below w.heap.size w wr := hB5.trans (hB.mono hB5.size)
        by_cases hik : i < ls.length ∧ k < ms.length
        · obtain ⟨hil, hkl⟩ := hik
          have t1 : decide ((i : Int) < (ls.length : Int)) = true := by simp; omega
          have t2 : decide ((k : Int) < (ms.length : Int)) = true := by simp; omega
          have g1 : (0 : Int) ≤ (i : Int) := by omega
          have g2 : (i : Int) < (ls.length : Int) := by omega
          have g3 : (0 : Int) ≤ (k : Int) := by omega
          have g4 : (k : Int) < (ms.length : Int) := by omega
          obtain ⟨b9, off9, rfl⟩ := HL5.out.ptr (by omega)
          obtain ⟨nA, ncap, G9, lt9, n0, n1, n2, HV9, HG9, -, -, -⟩ := ArrV.at HL5.out UL5.out hB i hil
          obtain ⟨b8, off8, rfl⟩ := HK5.out.ptr (by omega)
          obtain ⟨pA, pcap, G8, lt8, p0, p1, p2, HV8, HG8, -, -, -⟩ := ArrV.at HK5.out UK5.out hB k hkl
          have HIF := Lib.hid (V.same_iff ls[i] ms[k])
          have HHIT := Lib.hid (fun e => sub_hit HS.out hkl hil e)
          have HMIS := Lib.hid (fun e => sub_miss HS.out hkl hil e)
          obtain ⟨kq, hkq⟩ : ∃ u, u = ls[i] := ⟨_, rfl⟩
          obtain ⟨kp, hkp⟩ : ∃ u, u = ms[k] := ⟨_, rfl⟩
          rw [← hkq] at n0 n1 n2 HV9 HIF HHIT HMIS
          rw [← hkp] at p0 p1 p2 HV8 HIF HHIT HMIS
          clear hkq hkp
          go_wp2_with fail
          have HS : Hid (∀ C : World, Below wr.heap.size wr C → (C.cell? ⟨b9, off9 + i * 3, none⟩ = some (.int .i64 kq.c) ∧ C.cell? ⟨b9, off9 + i * 3 + 1, none⟩ = some (.int .i64 kq.n) ∧ C.cell? ⟨b9, off9 + i * 3 + 2, none⟩ = some (.slice nA kq.ks.length ncap) ∧ C.cell? ⟨b8, off8 + k * 3, none⟩ = some (.int .i64 kp.c) ∧ C.cell? ⟨b8, off8 + k * 3 + 1, none⟩ = some (.int .i64 kp.n) ∧ C.cell? ⟨b8, off8 + k * 3 + 2, none⟩ = some (.slice pA kp.ks.length pcap))) := fun C hb => ⟨(hb.cell (lt9)).trans n0, (hb.cell (lt9)).trans n1, (hb.cell (lt9)).trans n2, (hb.cell (lt8)).trans p0, (hb.cell (lt8)).trans p1, (hb.cell (lt8)).trans p2⟩
          have hC0 : Below wr.heap.size wr wr.drew := (Below.refl _ _).drew
          refine wp_region_B (S := fun w' => w'.cell? ⟨b9, off9 + i * 3, none⟩ = some (.int .i64 kq.c) ∧ w'.cell? ⟨b9, off9 + i * 3 + 1, none⟩ = some (.int .i64 kq.n) ∧ w'.cell? ⟨b9, off9 + i * 3 + 2, none⟩ = some (.slice nA kq.ks.length ncap) ∧ w'.cell? ⟨b8, off8 + k * 3, none⟩ = some (.int .i64 kp.c) ∧ w'.cell? ⟨b8, off8 + k * 3 + 1, none⟩ = some (.int .i64 kp.n) ∧ w'.cell? ⟨b8, off8 + k * 3 + 2, none⟩ = some (.slice pA kp.ks.length pcap)) (T := fun _ => True) (d := 99) (by kernel_rfl) ?_
          obtain ⟨wd, hwd⟩ : ∃ X, X = wr.drew := ⟨_, rfl⟩
          rw [← hwd] at hC0  ⊢
          clear hwd
          have hS0 := HS.out _ hC0
          have hT0 : True := trivial
          refine wpAnyB_take (i := 0) (v := ?_) rfl (by decide) (by kernel_rfl) (by kernel_rfl) (by kernel_rfl) (fun _ _ _ h => h) (Or.inl ⟨by rfl, ?hy0⟩) hS0 (fun _ => hT0) ?_
          case hy0 => (intro W hSw; (try dsimp only at hSw); (try obtain ⟨hSw0, hSw1, hSw2, hSw3, hSw4, hSw5⟩ := hSw); go_simp; try with_reducible rfl)
          (try simp only [Act.put, List.getElem_toArray, List.getElem_cons_zero, List.getElem_cons_succ, List.setIfInBounds_toArray, List.set_cons_zero, List.set_cons_succ])
          refine wpAnyB_take (i := 1) (v := ?_) rfl (by decide) (by kernel_rfl) (by kernel_rfl) (by kernel_rfl) (fun _ _ _ h => h) (Or.inl ⟨by rfl, ?hy1⟩) hS0 (fun _ => hT0) ?_
          case hy1 => (intro W hSw; (try dsimp only at hSw); (try obtain ⟨hSw0, hSw1, hSw2, hSw3, hSw4, hSw5⟩ := hSw); go_simp; try with_reducible rfl)
          (try simp only [Act.put, List.getElem_toArray, List.getElem_cons_zero, List.getElem_cons_succ, List.setIfInBounds_toArray, List.set_cons_zero, List.set_cons_succ])
          refine wpAnyB_take (i := 2) (v := ?_) rfl (by decide) (by kernel_rfl) (by kernel_rfl) (by kernel_rfl) (fun _ _ _ h => h) (Or.inl ⟨by rfl, ?hy2⟩) hS0 (fun _ => hT0) ?_
          case hy2 => (intro W hSw; (try dsimp only at hSw); (try obtain ⟨hSw0, hSw1, hSw2, hSw3, hSw4, hSw5⟩ := hSw); go_simp; try with_reducible rfl)
          (try simp only [Act.put, List.getElem_toArray, List.getElem_cons_zero, List.getElem_cons_succ, List.setIfInBounds_toArray, List.set_cons_zero, List.set_cons_succ])
          refine wpAnyB_take (i := 3) (v := ?_) rfl (by decide) (by kernel_rfl) (by kernel_rfl) (by kernel_rfl) (fun _ _ _ h => h) (Or.inl ⟨by rfl, ?hy3⟩) hS0 (fun _ => hT0) ?_
          case hy3 => (intro W hSw; (try dsimp only at hSw); (try obtain ⟨hSw0, hSw1, hSw2, hSw3, hSw4, hSw5⟩ := hSw); go_simp; try with_reducible rfl)
          (try simp only [Act.put, List.getElem_toArray, List.getElem_cons_zero, List.getElem_cons_succ, List.setIfInBounds_toArray, List.set_cons_zero, List.set_cons_succ])
          refine wpAnyB_take (i := 4) (v := ?_) rfl (by decide) (by kernel_rfl) (by kernel_rfl) (by kernel_rfl) (fun _ _ _ h => h) (Or.inl ⟨by rfl, ?hy4⟩) hS0 (fun _ => hT0) ?_
          case hy4 => (intro W hSw; (try dsimp only at hSw); (try obtain ⟨hSw0, hSw1, hSw2, hSw3, hSw4, hSw5⟩ := hSw); go_simp; try with_reducible rfl)
          (try simp only [Act.put, List.getElem_toArray, List.getElem_cons_zero, List.getElem_cons_succ, List.setIfInBounds_toArray, List.set_cons_zero, List.set_cons_succ])
          refine wpAnyB_take (i := 5) (v := ?_) rfl (by decide) (by kernel_rfl) (by kernel_rfl) (by kernel_rfl) (fun _ _ _ h => h) (Or.inl ⟨by rfl, ?hy5⟩) hS0 (fun _ => hT0) ?_
          case hy5 => (intro W hSw; (try dsimp only at hSw); (try obtain ⟨hSw0, hSw1, hSw2, hSw3, hSw4, hSw5⟩ := hSw); go_simp; try with_reducible rfl)
          (try simp only [Act.put, List.getElem_toArray, List.getElem_cons_zero, List.getElem_cons_succ, List.setIfInBounds_toArray, List.set_cons_zero, List.set_cons_succ])
          refine wpAnyB_take (i := 6) (v := ?_) rfl (by decide) (by kernel_rfl) (by kernel_rfl) (by kernel_rfl) (fun _ _ _ h => h) (Or.inl ⟨by rfl, ?hy6⟩) hS0 (fun _ => hT0) ?_
          case hy6 => (intro W hSw; (try dsimp only at hSw); (try obtain ⟨hSw0, hSw1, hSw2, hSw3, hSw4, hSw5⟩ := hSw); go_simp; try with_reducible rfl)
          (try simp only [Act.put, List.getElem_toArray, List.getElem_cons_zero, List.getElem_cons_succ, List.setIfInBounds_toArray, List.set_cons_zero, List.set_cons_succ])
          refine wpAnyB_take (i := 7) (v := ?_) rfl (by decide) (by kernel_rfl) (by kernel_rfl) (by kernel_rfl) (fun _ _ _ h => h) (Or.inl ⟨by rfl, ?hy7⟩) hS0 (fun _ => hT0) ?_
          case hy7 => (intro W hSw; (try dsimp only at hSw); (try obtain ⟨hSw0, hSw1, hSw2, hSw3, hSw4, hSw5⟩ := hSw); go_simp; try with_reducible rfl)
          (try simp only [Act.put, List.getElem_toArray, List.getElem_cons_zero, List.getElem_cons_succ, List.setIfInBounds_toArray, List.set_cons_zero, List.set_cons_succ])
          refine wpAnyB_ready (rs := [8]) (by kernel_rfl) (by simp) ?_
          refine AllReadyB.cons rfl (fun K hK => ?_) AllReadyB.nil
          go_simp
          go_at_call 28
          refine (impl_ValueSame kq kp wd _ _ G9 G8 ((HV9.out.below hB HG9.out).below hC0 (HG9.out.mono hB.size)) ((HV8.out.below hB HG8.out).below hC0 (HG8.out.mono hB.size)) (HG9.out.mono (Nat.le_trans hB.size hC0.size)) (HG8.out.mono (Nat.le_trans hB.size hC0.size))).mono ?_
          rintro e wS ⟨rfl, hbS⟩
          have hC1 : Below wr.heap.size wr wS := hC0.trans (hbS.mono hC0.size)
          have hS1 := HS.out _ hC1
          (try dsimp only)
          refine hK.out _ _ hS1 (fun _ => trivial) ?_
          clear hK K
          (try simp only [Act.put, List.getElem_toArray, List.getElem_cons_zero, List.getElem_cons_succ, List.setIfInBounds_toArray, List.set_cons_zero, List.set_cons_succ])
          refine wpAnyB_end (by kernel_rfl) ?_
          clear hS0 hS1 hT0
          have hBS : Below w5.heap.size w5 wS := hB.trans (hC1.mono hB.size)
          clear hC0 hC1 hbS n0 n1 n2 p0 p1 p2 lt8 lt9 hB hBr
          cases hs : V.same kq kp with
          | true =>
            have HN2 := Lib.hid (HHIT.out (HIF.out.1 hs))
            clear hs
            go_wp2
            go_roundw
            case rel => exact ⟨k + 1, i + 1, hkl, hil, by go_num, by go_num, HN2.out, hBS⟩
            case measure => (simp [intOf] <;> omega)
          | false =>
            have HN2 := Lib.hid (HMIS.out (fun e => by rw [HIF.out.2 e] at hs; cases hs))
            clear hs
            go_wp2
            go_roundw
            case rel => exact ⟨k, i + 1, hk, hil, rfl, by go_num, HN2.out, hBS⟩
            case measure => (simp [intOf] <;> omega)
        · have hkm : k = ms.length := by
            rcases Nat.lt_or_ge k ms.length with h | h
            · have := sub_end HS.out (show ls.length ≤ i by omega)
              omega
            · omega
          subst hkm
          have heq3 : ((ms.length : Int) == (ms.length : Int)) = true := by simp
          by_cases hil : i < ls.length
          · have t1 : decide ((i : Int) < (ls.length : Int)) = true := by simp; omega
            have t2 : decide ((ms.length : Int) < (ms.length : Int)) = false := by simp
            go_wp2
            go_ret
            exact ⟨rfl, hBr⟩
          · have t1 : decide ((i : Int) < (ls.length : Int)) = false := by simp; omega
            go_wp2
            go_ret
            exact ⟨rfl, hBr⟩
end Go.Proofs.Ytilndhmegaccmaa.fnValuesGrow

namespace Go.Proofs.Ytilndhmegaccmaa.fnValuesGrow
open Go.ChangeShapes Go.WideShapes Go.ChangeAt Go.RowKit
open Go.ChangeMaps (open_string shut_string)
set_option linter.unusedVariables false

theorem own : ownKnob Try.prog.godebug = none := by kernel_rfl
theorem laidOut : laidOutB Try.prog = true := by kernel_rfl

set_option maxRecDepth 100000 in
theorem lifted (os : Os) (started : os.Started) (H : Type) (enc : TypeId × Value → H) :
    ReturnsInHanded {} Try.checked os 7 .any (Rows.fnValuesGrowSpec.pre6 enc Try.prog Try.f7 Rows.fnValuesGrowRow.domain false) (Rows.fnValuesGrowSpec.post enc Try.prog Try.f7 false true false false) := by
  refine returnsInHanded_of_change (C := Try.checked) own started (by kernel_rfl) Try.func7
    (ChangeSpec.witness6 (enc := enc) (C := Try.checked) false ⟨#[], #[.slice none 0 0], []⟩ 8 (by kernel_rfl) (by kernel_rfl) (by kernel_rfl) (by kernel_rfl)) ?_
  intro W base args ds gs before hval0 hW hcnd _
  have hval : ∀ (j : Nat) t v, Try.f7.params[j]? = some t → args[j]? = some v → Value.okWide Try.prog W .any base t v := hval0
  have hW' := hW
  obtain ⟨p, q, hA0, hV, rfl, hfz, hnd⟩ := hW
  have hA : DataW.TrodAll enc Try.prog W 0 (fun _ => true) true Try.f7.params.toList args.toList ds p := hA0
  rw [Try.params7] at hA hval
  obtain ⟨v0, vs0, d0, ds0, p0, q0, hargs, rfl, rfl, h0, r0⟩ := trodAll_cons hA
  obtain ⟨rfl, rfl, rfl⟩ := trodAll_nil r0
  obtain rfl : args = #[v0] := by cases args; simp_all
  obtain ⟨rfl, rfl⟩ := trodVars_none hV
  have k0 := h0
  have lt0 : ∀ x ∈ p0, x.block < W.heap.size := by obtain ⟨m, hm⟩ := k0; exact DataW.trod_lt m _ _ _ hm
  obtain ⟨x0, F0, hR0, hU0⟩ := open_Bytes (hval 0 22 v0 rfl rfl) h0
  clear hA0 hval0
  refine (walk x0 v0 F0 hR0 hU0 W rfl).mono fun e W' ⟨he, bel⟩ => ?_
  subst he
  exact ⟨_, rfl, _, _, _, [], _, [], hW', trodAll_mk1 (shut_bool Try.underlying4 _), (trodAll_cons_mk (Below.trod laidOut (by kernel_rfl) (of_decide_eq_true (by kernel_rfl)) k0 bel lt0) trodAll_mk0), rfl, bel.frame _, fun h => by cases h⟩

set_option maxHeartbeats 4000000 in
theorem closed : joinedFacts Try.pinned.checked.prog 7 Try.f7 Rows.fnValuesGrowSpec Rows.fnValuesGrowRow = true := by
  unfold joinedFacts
  have key : ∀ a b : Bool, a = true → b = true → (a && b) = true := fun a b h1 h2 => by rw [h1, h2]; rfl
  repeat' (with_reducible refine key _ _ ?_ ?_)
  all_goals as_aux_lemma => kernel_rfl

theorem over : Rows.fnValuesGrowRow.holds Try.pinned (OpenSpec.ofChange Rows.fnValuesGrowSpec) :=
  OpenClaim.holds_of_wide 7 Try.f7 rfl rfl rfl rfl rfl rfl rfl ⟨rfl, rfl, rfl, rfl, rfl⟩ rfl rfl rfl rfl rfl (by kernel_rfl) Try.func7 closed
    (of_decide_eq_true (by kernel_rfl)) (by unfold Func.isWrapper; first | (rw [if_pos (by decide +kernel)]; kernel_rfl) | (rw [if_neg (by decide +kernel)]; exact ⟨rfl, rfl⟩))
    (fun os started H enc _ => lifted os started H enc)

theorem proved : Rows.FnValuesGrowSaid := over
end Go.Proofs.Ytilndhmegaccmaa.fnValuesGrow
