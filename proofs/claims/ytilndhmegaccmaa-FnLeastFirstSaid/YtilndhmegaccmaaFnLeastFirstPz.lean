/-
  FnLeastFirst: for every argument the law returns true. Conditions: none.
-/
import Derived.Test.YtilndhmegaccmaaKAD
import Derived.Test.YtilndhmegaccmaaKAI
import Derived.Test.YtilndhmegaccmaaKAF
import Derived.Test.YtilndhmegaccmaaKAG
import Derived.Test.YtilndhmegaccmaaKAA
import Derived.Deep.RegionWith
import Derived.Deep.RegionHeld3
import Derived.BigQuiet
import Derived.Test.YtilndhmegaccmaaRows
import Derived.Test.YtilndhmegaccmaaKAH
import Derived.ProofKit
import Derived.OpenShut
import Derived.ShutString
import Derived.ChangeOld
import Derived.Below

set_option linter.unusedVariables false
set_option linter.unusedSimpArgs false

namespace Go.Proofs.Ytilndhmegaccmaa.fnLeastFirst
open Go.RowKit

set_option maxRecDepth 100000 in
set_option maxHeartbeats 6400000 in
theorem walk {W : World} (x0 : List Int) (v0 : Value) (F0 : List Nat) (hR0 : Arr W (ByR W) x0 v0 F0) (hU0 : Under W.heap.size F0) (w : World) (hw : w = W) :
    Calls Try.prog 8 #[v0] w fun e w' => e = .returned (.bool true) ∧ Below w.heap.size w w' := by
  subst hw
  obtain ⟨A0, cap0, rfl, -, -⟩ := hR0.form
  have HR0 := Lib.hid hR0
  have HU0 := Lib.hid hU0
  clear hR0 hU0
  by_cases hlen : 1048576 < x0.length
  · have t0 : decide ((x0.length : Int) > 1048576) = true := decide_eq_true (by omega)
    go_enter Try.func8, Try.ntmps8
    go_wp2
    go_ret
    exact ⟨rfl, Below.refl _ _⟩
  have t0 : decide ((x0.length : Int) > 1048576) = false := decide_eq_false (by omega)
  go_enter Try.func8, Try.ntmps8
  go_wp2_with fail
  refine (spec_DrawLeastValue x0 w _ F0 HR0.out HU0.out).mono ?_
  rintro e w1 ⟨xs, v1, F1, t, rfl, hb1, ha1, hf1⟩
  obtain ⟨A1, cap1, rfl, hc1, hc2⟩ := ha1.form
  have hb2 : Below w1.heap.size w1 (w1.alloc (.cells #[.int .i64 t.d, .int .i64 t.i] 32)) := (Below.refl _ _).alloc (Nat.le_refl _) _
  have hB2 : Below w.heap.size w (w1.alloc (.cells #[.int .i64 t.d, .int .i64 t.i] 32)) := hb1.trans (hb2.mono hb1.size)
  have HA2 : Hid (Arr (w1.alloc (.cells #[.int .i64 t.d, .int .i64 t.i] 32)) (DtR (w1.alloc (.cells #[.int .i64 t.d, .int .i64 t.i] 32))) xs (.slice A1 xs.length cap1) F1) := ArrDt.below ha1 hb2 hf1.under
  have HU2 : Hid (Under (w1.alloc (.cells #[.int .i64 t.d, .int .i64 t.i] 32)).heap.size F1) := hf1.under.mono hb2.size
  have KT2 : Hid (Blk (w1.alloc (.cells #[.int .i64 t.d, .int .i64 t.i] 32)) w1.heap.size 32 #[.int .i64 t.d, .int .i64 t.i]) := Blk.new _ _ _
  clear ha1 hf1 hb1 HR0 HU0 hb2
  go_wp2_with fail
  generalize (w1.alloc (.cells #[.int .i64 t.d, .int .i64 t.i] 32)) = w2 at *
  generalize w1.heap.size = k at *
  have hlf := fun h => (leastFine_facts (xs := xs) (t := t) h).2.2
  have hlm := fun h h2 => least_mem (xs := xs) (t := t) h h2
  have hsz := leastR_size xs t
  obtain ⟨v, hv⟩ : ∃ v, leastR xs t = v := ⟨_, rfl⟩
  obtain ⟨fb, hfb⟩ : ∃ b, leastFine xs t = b := ⟨_, rfl⟩
  rw [hv, hfb] at hlm
  rw [hv] at hsz
  have HV := Lib.hid hv
  have HFB := Lib.hid hfb
  have HLM := Lib.hid hlm
  have HSZ : Hid (v.size ≤ 1048576) := by unfold Hid; omega
  have HSM := Lib.hid (V.same_refl v)
  clear hv hfb hlf hsz hlm
  have c02 : w2.cell? ⟨k, 0, none⟩ = some (.int .i64 t.d) := (KT2.out.cell 0).trans (by simp)
  have c12 : w2.cell? ⟨k, 1, none⟩ = some (.int .i64 t.i) := (KT2.out.cell 1).trans (by simp)
  have cl2 := KT2.out.lt
  go_wp2_with fail
  clear c02 c12 cl2
  refine (impl_LeastValue xs t w2 _ F1 HA2.out HU2.out).mono ?_
  rintro e w3 ⟨csX, FX, rfl, hb3, hpX, hfrX, hfsX⟩
  have hB3 := hB2.trans (hb3.mono hB2.size)
  have HA3 : Hid (Arr w3 (DtR w3) xs (.slice A1 xs.length cap1) F1) := ArrDt.below HA2.out hb3 HU2.out
  have HU3 : Hid (Under w3.heap.size F1) := HU2.out.mono hb3.size
  have KT3 : Hid (Blk w3 k 32 #[.int .i64 t.d, .int .i64 t.i]) := KT2.out.same (hb3.block _ KT2.out.lt)
  clear hB2 HA2 HU2 hb3 KT2
  rw [HV.out] at hpX
  rw [HFB.out]
  obtain ⟨kvX, rfl, haX⟩ := (VR_iff _ _ _).1 hpX
  obtain ⟨AX, capX, rfl, -, -⟩ := haX.form
  have HX3 : Hid (VR w3 v [.int .i64 v.c, .int .i64 v.n, .slice AX v.ks.length capX] FX) := hpX
  have UX3 := Lib.hid hfsX.under
  clear hpX hfrX hfsX haX
  have c03 : w3.cell? ⟨k, 0, none⟩ = some (.int .i64 t.d) := (KT3.out.cell 0).trans (by simp)
  have c13 : w3.cell? ⟨k, 1, none⟩ = some (.int .i64 t.i) := (KT3.out.cell 1).trans (by simp)
  have cl3 := KT3.out.lt
  go_wp2_with fail
  clear c03 c13 cl3
  obtain ⟨w4, hX⟩ : ∃ X, X = (w3.alloc (.cells #[.int .i64 v.c, .int .i64 v.n, .slice AX v.ks.length capX] 53)) := ⟨_, rfl⟩
  have hb4 : Below w3.heap.size w3 w4 := by rw [hX]; exact (Below.refl _ _).alloc (Nat.le_refl _) _
  have KBX4 : Hid (Blk w4 w3.heap.size 53 #[.int .i64 v.c, .int .i64 v.n, .slice AX v.ks.length capX]) := by rw [hX]; exact Blk.new _ _ _
  rw [← hX]
  clear hX
  have HX4 : Hid (VR w4 v [.int .i64 v.c, .int .i64 v.n, .slice AX v.ks.length capX] FX) := VR.below HX3.out hb4 UX3.out
  have UX4 : Hid (Under w4.heap.size FX) := UX3.out.mono hb4.size
  clear HX3 UX3
  have hB4 := hB3.trans (hb4.mono hB3.size)
  have HA4 : Hid (Arr w4 (DtR w4) xs (.slice A1 xs.length cap1) F1) := ArrDt.below HA3.out hb4 HU3.out
  have HU4 : Hid (Under w4.heap.size F1) := HU3.out.mono hb4.size
  have KT4 : Hid (Blk w4 k 32 #[.int .i64 t.d, .int .i64 t.i]) := KT3.out.same (hb4.block _ KT3.out.lt)
  clear hB3 HA3 HU3 hb4 KT3
  have hne : (fb != fb) = false := by simp
  have heq : (fb == fb) = true := by simp
  have c04 : w4.cell? ⟨k, 0, none⟩ = some (.int .i64 t.d) := (KT4.out.cell 0).trans (by simp)
  have c14 : w4.cell? ⟨k, 1, none⟩ = some (.int .i64 t.i) := (KT4.out.cell 1).trans (by simp)
  have cl4 := KT4.out.lt
  have cBX0 : w4.cell? ⟨w3.heap.size, 0, none⟩ = some (.int .i64 v.c) := (KBX4.out.cell 0).trans (by simp)
  have cBX1 : w4.cell? ⟨w3.heap.size, 1, none⟩ = some (.int .i64 v.n) := (KBX4.out.cell 1).trans (by simp)
  have cBX2 : w4.cell? ⟨w3.heap.size, 2, none⟩ = some (.slice AX v.ks.length capX) := (KBX4.out.cell 2).trans (by simp)
  have lBX := KBX4.out.lt
  go_wp2_with fail
  clear c04 c14 cl4
  clear cBX0 cBX1 cBX2 lBX
  refine (spec_LeastValue xs t w4 _ F1 HA4.out HU4.out).mono ?_
  rintro e w5 ⟨csY, FY, rfl, hb5, hpY, hfrY, hfsY⟩
  have HX5 : Hid (VR w5 v [.int .i64 v.c, .int .i64 v.n, .slice AX v.ks.length capX] FX) := VR.below HX4.out hb5 UX4.out
  have UX5 : Hid (Under w5.heap.size FX) := UX4.out.mono hb5.size
  clear HX4 UX4
  have KBX5 : Hid (Blk w5 (w3.heap.size) 53 #[.int .i64 v.c, .int .i64 v.n, .slice AX v.ks.length capX]) := KBX4.out.same (hb5.block _ KBX4.out.lt)
  clear KBX4
  have hB5 := hB4.trans (hb5.mono hB4.size)
  have HA5 : Hid (Arr w5 (DtR w5) xs (.slice A1 xs.length cap1) F1) := ArrDt.below HA4.out hb5 HU4.out
  have HU5 : Hid (Under w5.heap.size F1) := HU4.out.mono hb5.size
  have KT5 : Hid (Blk w5 k 32 #[.int .i64 t.d, .int .i64 t.i]) := KT4.out.same (hb5.block _ KT4.out.lt)
  clear hB4 HA4 HU4 hb5 KT4
  rw [HV.out] at hpY
  rw [HFB.out]
  obtain ⟨kvY, rfl, haY⟩ := (VR_iff _ _ _).1 hpY
  obtain ⟨AY, capY, rfl, -, -⟩ := haY.form
  have HY5 : Hid (VR w5 v [.int .i64 v.c, .int .i64 v.n, .slice AY v.ks.length capY] FY) := hpY
  have UY5 := Lib.hid hfsY.under
  clear hpY hfrY hfsY haY
  have c05 : w5.cell? ⟨k, 0, none⟩ = some (.int .i64 t.d) := (KT5.out.cell 0).trans (by simp)
  have c15 : w5.cell? ⟨k, 1, none⟩ = some (.int .i64 t.i) := (KT5.out.cell 1).trans (by simp)
  have cl5 := KT5.out.lt
  have cBX0 : w5.cell? ⟨w3.heap.size, 0, none⟩ = some (.int .i64 v.c) := (KBX5.out.cell 0).trans (by simp)
  have cBX1 : w5.cell? ⟨w3.heap.size, 1, none⟩ = some (.int .i64 v.n) := (KBX5.out.cell 1).trans (by simp)
  have cBX2 : w5.cell? ⟨w3.heap.size, 2, none⟩ = some (.slice AX v.ks.length capX) := (KBX5.out.cell 2).trans (by simp)
  have lBX := KBX5.out.lt
  go_wp2_with fail
  clear c05 c15 cl5
  clear cBX0 cBX1 cBX2 lBX
  obtain ⟨w6, hX⟩ : ∃ X, X = (w5.alloc (.cells #[.int .i64 v.c, .int .i64 v.n, .slice AY v.ks.length capY] 53)) := ⟨_, rfl⟩
  have hb6 : Below w5.heap.size w5 w6 := by rw [hX]; exact (Below.refl _ _).alloc (Nat.le_refl _) _
  have KBY6 : Hid (Blk w6 w5.heap.size 53 #[.int .i64 v.c, .int .i64 v.n, .slice AY v.ks.length capY]) := by rw [hX]; exact Blk.new _ _ _
  rw [← hX]
  clear hX
  have HX6 : Hid (VR w6 v [.int .i64 v.c, .int .i64 v.n, .slice AX v.ks.length capX] FX) := VR.below HX5.out hb6 UX5.out
  have UX6 : Hid (Under w6.heap.size FX) := UX5.out.mono hb6.size
  clear HX5 UX5
  have HY6 : Hid (VR w6 v [.int .i64 v.c, .int .i64 v.n, .slice AY v.ks.length capY] FY) := VR.below HY5.out hb6 UY5.out
  have UY6 : Hid (Under w6.heap.size FY) := UY5.out.mono hb6.size
  clear HY5 UY5
  have KBX6 : Hid (Blk w6 (w3.heap.size) 53 #[.int .i64 v.c, .int .i64 v.n, .slice AX v.ks.length capX]) := KBX5.out.same (hb6.block _ KBX5.out.lt)
  clear KBX5
  have hB6 := hB5.trans (hb6.mono hB5.size)
  have HA6 : Hid (Arr w6 (DtR w6) xs (.slice A1 xs.length cap1) F1) := ArrDt.below HA5.out hb6 HU5.out
  have HU6 : Hid (Under w6.heap.size F1) := HU5.out.mono hb6.size
  have KT6 : Hid (Blk w6 k 32 #[.int .i64 t.d, .int .i64 t.i]) := KT5.out.same (hb6.block _ KT5.out.lt)
  clear hB5 HA5 HU5 hb6 KT5
  have c06 : w6.cell? ⟨k, 0, none⟩ = some (.int .i64 t.d) := (KT6.out.cell 0).trans (by simp)
  have c16 : w6.cell? ⟨k, 1, none⟩ = some (.int .i64 t.i) := (KT6.out.cell 1).trans (by simp)
  have cl6 := KT6.out.lt
  have cBX0 : w6.cell? ⟨w3.heap.size, 0, none⟩ = some (.int .i64 v.c) := (KBX6.out.cell 0).trans (by simp)
  have cBX1 : w6.cell? ⟨w3.heap.size, 1, none⟩ = some (.int .i64 v.n) := (KBX6.out.cell 1).trans (by simp)
  have cBX2 : w6.cell? ⟨w3.heap.size, 2, none⟩ = some (.slice AX v.ks.length capX) := (KBX6.out.cell 2).trans (by simp)
  have lBX := KBX6.out.lt
  have cBY0 : w6.cell? ⟨w5.heap.size, 0, none⟩ = some (.int .i64 v.c) := (KBY6.out.cell 0).trans (by simp)
  have cBY1 : w6.cell? ⟨w5.heap.size, 1, none⟩ = some (.int .i64 v.n) := (KBY6.out.cell 1).trans (by simp)
  have cBY2 : w6.cell? ⟨w5.heap.size, 2, none⟩ = some (.slice AY v.ks.length capY) := (KBY6.out.cell 2).trans (by simp)
  have lBY := KBY6.out.lt
  go_wp2_with fail
  clear c06 c16 cl6
  clear cBX0 cBX1 cBX2 cBY0 cBY1 cBY2 lBX lBY
  refine (impl_ValueSame v v w6 _ _ FX FY HX6.out HY6.out UX6.out UY6.out).mono ?_
  rintro e w7 ⟨rfl, hb7⟩
  have HX7 : Hid (VR w7 v [.int .i64 v.c, .int .i64 v.n, .slice AX v.ks.length capX] FX) := VR.below HX6.out hb7 UX6.out
  have UX7 : Hid (Under w7.heap.size FX) := UX6.out.mono hb7.size
  clear HX6 UX6
  have HY7 : Hid (VR w7 v [.int .i64 v.c, .int .i64 v.n, .slice AY v.ks.length capY] FY) := VR.below HY6.out hb7 UY6.out
  have UY7 : Hid (Under w7.heap.size FY) := UY6.out.mono hb7.size
  clear HY6 UY6
  have KBX7 : Hid (Blk w7 (w3.heap.size) 53 #[.int .i64 v.c, .int .i64 v.n, .slice AX v.ks.length capX]) := KBX6.out.same (hb7.block _ KBX6.out.lt)
  clear KBX6
  have KBY7 : Hid (Blk w7 (w5.heap.size) 53 #[.int .i64 v.c, .int .i64 v.n, .slice AY v.ks.length capY]) := KBY6.out.same (hb7.block _ KBY6.out.lt)
  clear KBY6
  have hB7 := hB6.trans (hb7.mono hB6.size)
  have HA7 : Hid (Arr w7 (DtR w7) xs (.slice A1 xs.length cap1) F1) := ArrDt.below HA6.out hb7 HU6.out
  have HU7 : Hid (Under w7.heap.size F1) := HU6.out.mono hb7.size
  have KT7 : Hid (Blk w7 k 32 #[.int .i64 t.d, .int .i64 t.i]) := KT6.out.same (hb7.block _ KT6.out.lt)
  clear hB6 HA6 HU6 hb7 KT6
  rw [HSM.out]
  clear hne heq
  cases fb with
  | false =>
    have hne : (false != false) = false := rfl
    have heq : (false == false) = true := rfl
    have c07 : w7.cell? ⟨k, 0, none⟩ = some (.int .i64 t.d) := (KT7.out.cell 0).trans (by simp)
    have c17 : w7.cell? ⟨k, 1, none⟩ = some (.int .i64 t.i) := (KT7.out.cell 1).trans (by simp)
    have cl7 := KT7.out.lt
    have cBX0 : w7.cell? ⟨w3.heap.size, 0, none⟩ = some (.int .i64 v.c) := (KBX7.out.cell 0).trans (by simp)
    have cBX1 : w7.cell? ⟨w3.heap.size, 1, none⟩ = some (.int .i64 v.n) := (KBX7.out.cell 1).trans (by simp)
    have cBX2 : w7.cell? ⟨w3.heap.size, 2, none⟩ = some (.slice AX v.ks.length capX) := (KBX7.out.cell 2).trans (by simp)
    have lBX := KBX7.out.lt
    have cBY0 : w7.cell? ⟨w5.heap.size, 0, none⟩ = some (.int .i64 v.c) := (KBY7.out.cell 0).trans (by simp)
    have cBY1 : w7.cell? ⟨w5.heap.size, 1, none⟩ = some (.int .i64 v.n) := (KBY7.out.cell 1).trans (by simp)
    have cBY2 : w7.cell? ⟨w5.heap.size, 2, none⟩ = some (.slice AY v.ks.length capY) := (KBY7.out.cell 2).trans (by simp)
    have lBY := KBY7.out.lt
    go_wp2_with fail
    clear c07 c17 cl7
    clear cBX0 cBX1 cBX2 cBY0 cBY1 cBY2 lBX lBY
    refine (impl_ValueSame v v w7 _ _ FX FY HX7.out HY7.out UX7.out UY7.out).mono ?_
    rintro e w8 ⟨rfl, hb8⟩
    have HX8 : Hid (VR w8 v [.int .i64 v.c, .int .i64 v.n, .slice AX v.ks.length capX] FX) := VR.below HX7.out hb8 UX7.out
    have UX8 : Hid (Under w8.heap.size FX) := UX7.out.mono hb8.size
    clear HX7 UX7
    have HY8 : Hid (VR w8 v [.int .i64 v.c, .int .i64 v.n, .slice AY v.ks.length capY] FY) := VR.below HY7.out hb8 UY7.out
    have UY8 : Hid (Under w8.heap.size FY) := UY7.out.mono hb8.size
    clear HY7 UY7
    have KBX8 : Hid (Blk w8 (w3.heap.size) 53 #[.int .i64 v.c, .int .i64 v.n, .slice AX v.ks.length capX]) := KBX7.out.same (hb8.block _ KBX7.out.lt)
    clear KBX7
    have KBY8 : Hid (Blk w8 (w5.heap.size) 53 #[.int .i64 v.c, .int .i64 v.n, .slice AY v.ks.length capY]) := KBY7.out.same (hb8.block _ KBY7.out.lt)
    clear KBY7
    have hB8 := hB7.trans (hb8.mono hB7.size)
    have HA8 : Hid (Arr w8 (DtR w8) xs (.slice A1 xs.length cap1) F1) := ArrDt.below HA7.out hb8 HU7.out
    have HU8 : Hid (Under w8.heap.size F1) := HU7.out.mono hb8.size
    have KT8 : Hid (Blk w8 k 32 #[.int .i64 t.d, .int .i64 t.i]) := KT7.out.same (hb8.block _ KT7.out.lt)
    clear hB7 HA7 HU7 hb8 KT7
    rw [HSM.out]
    go_wp2
    go_ret
    exact ⟨rfl, hB8⟩
  | true =>
    have hne : (true != true) = false := rfl
    have HLF := Lib.hid (fun h => HLM.out rfl h)
    have c07 : w7.cell? ⟨k, 0, none⟩ = some (.int .i64 t.d) := (KT7.out.cell 0).trans (by simp)
    have c17 : w7.cell? ⟨k, 1, none⟩ = some (.int .i64 t.i) := (KT7.out.cell 1).trans (by simp)
    have cl7 := KT7.out.lt
    have cBX0 : w7.cell? ⟨w3.heap.size, 0, none⟩ = some (.int .i64 v.c) := (KBX7.out.cell 0).trans (by simp)
    have cBX1 : w7.cell? ⟨w3.heap.size, 1, none⟩ = some (.int .i64 v.n) := (KBX7.out.cell 1).trans (by simp)
    have cBX2 : w7.cell? ⟨w3.heap.size, 2, none⟩ = some (.slice AX v.ks.length capX) := (KBX7.out.cell 2).trans (by simp)
    have lBX := KBX7.out.lt
    have cBY0 : w7.cell? ⟨w5.heap.size, 0, none⟩ = some (.int .i64 v.c) := (KBY7.out.cell 0).trans (by simp)
    have cBY1 : w7.cell? ⟨w5.heap.size, 1, none⟩ = some (.int .i64 v.n) := (KBY7.out.cell 1).trans (by simp)
    have cBY2 : w7.cell? ⟨w5.heap.size, 2, none⟩ = some (.slice AY v.ks.length capY) := (KBY7.out.cell 2).trans (by simp)
    have lBY := KBY7.out.lt
    go_wp2_with fail
    have HS : Hid (∀ C : World, Below w7.heap.size w7 C → (C.cell? ⟨k, 0, none⟩ = some (.int .i64 t.d) ∧ C.cell? ⟨k, 1, none⟩ = some (.int .i64 t.i) ∧ C.cell? ⟨w3.heap.size, 0, none⟩ = some (.int .i64 v.c) ∧ C.cell? ⟨w3.heap.size, 1, none⟩ = some (.int .i64 v.n) ∧ C.cell? ⟨w3.heap.size, 2, none⟩ = some (.slice AX v.ks.length capX))) := fun C hb => ⟨(hb.cell (cl7)).trans c07, (hb.cell (cl7)).trans c17, (hb.cell (lBX)).trans cBX0, (hb.cell (lBX)).trans cBX1, (hb.cell (lBX)).trans cBX2⟩
    have hC0 : Below w7.heap.size w7 w7.drew := (Below.refl _ _).drew
    refine wp_region_B (S := fun w' => w'.cell? ⟨k, 0, none⟩ = some (.int .i64 t.d) ∧ w'.cell? ⟨k, 1, none⟩ = some (.int .i64 t.i) ∧ w'.cell? ⟨w3.heap.size, 0, none⟩ = some (.int .i64 v.c) ∧ w'.cell? ⟨w3.heap.size, 1, none⟩ = some (.int .i64 v.n) ∧ w'.cell? ⟨w3.heap.size, 2, none⟩ = some (.slice AX v.ks.length capX)) (T := fun _ => True) (d := 99) (by kernel_rfl) ?_
    obtain ⟨wd, hwd⟩ : ∃ X, X = w7.drew := ⟨_, rfl⟩
    rw [← hwd] at hC0  ⊢
    clear hwd
    have hS0 := HS.out _ hC0
    have hT0 : True := trivial
    refine wpAnyB_take (i := 0) (v := ?_) rfl (by decide) (by kernel_rfl) (by kernel_rfl) (by kernel_rfl) (fun _ _ _ h => h) (Or.inl ⟨by rfl, ?hy0⟩) hS0 (fun _ => hT0) ?_
    case hy0 => (intro W hSw; (try dsimp only at hSw); (try obtain ⟨hSw0, hSw1, hSw2, hSw3, hSw4⟩ := hSw); go_simp; try with_reducible rfl)
    (try simp only [Act.put, List.getElem_toArray, List.getElem_cons_zero, List.getElem_cons_succ, List.setIfInBounds_toArray, List.set_cons_zero, List.set_cons_succ])
    refine wpAnyB_take (i := 1) (v := ?_) rfl (by decide) (by kernel_rfl) (by kernel_rfl) (by kernel_rfl) (fun _ _ _ h => h) (Or.inl ⟨by rfl, ?hy1⟩) hS0 (fun _ => hT0) ?_
    case hy1 => (intro W hSw; (try dsimp only at hSw); (try obtain ⟨hSw0, hSw1, hSw2, hSw3, hSw4⟩ := hSw); go_simp; try with_reducible rfl)
    (try simp only [Act.put, List.getElem_toArray, List.getElem_cons_zero, List.getElem_cons_succ, List.setIfInBounds_toArray, List.set_cons_zero, List.set_cons_succ])
    refine wpAnyB_take (i := 2) (v := ?_) rfl (by decide) (by kernel_rfl) (by kernel_rfl) (by kernel_rfl) (fun _ _ _ h => h) (Or.inl ⟨by rfl, ?hy2⟩) hS0 (fun _ => hT0) ?_
    case hy2 => (intro W hSw; (try dsimp only at hSw); (try obtain ⟨hSw0, hSw1, hSw2, hSw3, hSw4⟩ := hSw); go_simp; try with_reducible rfl)
    (try simp only [Act.put, List.getElem_toArray, List.getElem_cons_zero, List.getElem_cons_succ, List.setIfInBounds_toArray, List.set_cons_zero, List.set_cons_succ])
    refine wpAnyB_ready (rs := [3]) (by kernel_rfl) (by simp) ?_
    refine AllReadyB.cons rfl (fun K hK => ?_) AllReadyB.nil
    go_simp
    go_at_call 30
    refine (impl_DepthOf v wd _ FX (HX7.out.below hC0 UX7.out) (UX7.out.mono hC0.size) HSZ.out).mono ?_
    rintro e wD ⟨rfl, hbD⟩
    have hC1 : Below w7.heap.size w7 wD := hC0.trans (hbD.mono hC0.size)
    have hS1 := HS.out _ hC1
    (try dsimp only)
    refine hK.out _ _ hS1 (fun _ => trivial) ?_
    clear hK K
    (try simp only [Act.put, List.getElem_toArray, List.getElem_cons_zero, List.getElem_cons_succ, List.setIfInBounds_toArray, List.set_cons_zero, List.set_cons_succ])
    refine wpAnyB_ready (rs := [4]) (by kernel_rfl) (by simp) ?_
    refine AllReadyB.cons rfl (fun K hK => ?_) AllReadyB.nil
    go_simp
    go_at_call 21
    refine (impl_ValuesUpTo xs t ((v.depth : Nat) : Int) wD _ F1 (ArrDt.below HA7.out hC1 HU7.out) (HU7.out.mono hC1.size)).mono ?_
    rintro e w8 ⟨vl, FL, rfl, hbE, hal, hfrl, hfsl⟩
    have hC2 : Below w7.heap.size w7 w8 := hC1.trans (hbE.mono hC1.size)
    have hS2 := HS.out _ hC2
    (try dsimp only)
    refine hK.out _ _ hS2 (fun _ => trivial) ?_
    clear hK K
    (try simp only [Act.put, List.getElem_toArray, List.getElem_cons_zero, List.getElem_cons_succ, List.setIfInBounds_toArray, List.set_cons_zero, List.set_cons_succ])
    refine wpAnyB_take (i := 5) (v := ?_) rfl (by decide) (by kernel_rfl) (by kernel_rfl) (by kernel_rfl) (fun _ _ _ h => h) (Or.inl ⟨by rfl, ?hy5⟩) hS2 (fun _ => hT0) ?_
    case hy5 => (intro W hSw; (try dsimp only at hSw); (try obtain ⟨hSw0, hSw1, hSw2, hSw3, hSw4⟩ := hSw); go_simp; try with_reducible rfl)
    (try simp only [Act.put, List.getElem_toArray, List.getElem_cons_zero, List.getElem_cons_succ, List.setIfInBounds_toArray, List.set_cons_zero, List.set_cons_succ])
    refine wpAnyB_take (i := 6) (v := ?_) rfl (by decide) (by kernel_rfl) (by kernel_rfl) (by kernel_rfl) (fun _ _ _ h => h) (Or.inl ⟨by rfl, ?hy6⟩) hS2 (fun _ => hT0) ?_
    case hy6 => (intro W hSw; (try dsimp only at hSw); (try obtain ⟨hSw0, hSw1, hSw2, hSw3, hSw4⟩ := hSw); go_simp; try with_reducible rfl)
    (try simp only [Act.put, List.getElem_toArray, List.getElem_cons_zero, List.getElem_cons_succ, List.setIfInBounds_toArray, List.set_cons_zero, List.set_cons_succ])
    refine wpAnyB_take (i := 7) (v := ?_) rfl (by decide) (by kernel_rfl) (by kernel_rfl) (by kernel_rfl) (fun _ _ _ h => h) (Or.inl ⟨by rfl, ?hy7⟩) hS2 (fun _ => hT0) ?_
    case hy7 => (intro W hSw; (try dsimp only at hSw); (try obtain ⟨hSw0, hSw1, hSw2, hSw3, hSw4⟩ := hSw); go_simp; try with_reducible rfl)
    (try simp only [Act.put, List.getElem_toArray, List.getElem_cons_zero, List.getElem_cons_succ, List.setIfInBounds_toArray, List.set_cons_zero, List.set_cons_succ])
    refine wpAnyB_take (i := 8) (v := ?_) rfl (by decide) (by kernel_rfl) (by kernel_rfl) (by kernel_rfl) (fun _ _ _ h => h) (Or.inl ⟨by rfl, ?hy8⟩) hS2 (fun _ => hT0) ?_
    case hy8 => (intro W hSw; (try dsimp only at hSw); (try obtain ⟨hSw0, hSw1, hSw2, hSw3, hSw4⟩ := hSw); go_simp; try with_reducible rfl)
    (try simp only [Act.put, List.getElem_toArray, List.getElem_cons_zero, List.getElem_cons_succ, List.setIfInBounds_toArray, List.set_cons_zero, List.set_cons_succ])
    refine wpAnyB_take (i := 9) (v := ?_) rfl (by decide) (by kernel_rfl) (by kernel_rfl) (by kernel_rfl) (fun _ _ _ h => h) (Or.inl ⟨by rfl, ?hy9⟩) hS2 (fun _ => hT0) ?_
    case hy9 => (intro W hSw; (try dsimp only at hSw); (try obtain ⟨hSw0, hSw1, hSw2, hSw3, hSw4⟩ := hSw); go_simp; try with_reducible rfl)
    (try simp only [Act.put, List.getElem_toArray, List.getElem_cons_zero, List.getElem_cons_succ, List.setIfInBounds_toArray, List.set_cons_zero, List.set_cons_succ])
    refine wpAnyB_end (by kernel_rfl) ?_
    clear hS0 hS1 hS2 hT0
    clear c07 c17 cl7
    clear cBX0 cBX1 cBX2 cBY0 cBY1 cBY2 lBX lBY
    have hb8 : Below w7.heap.size w7 w8 := hC2
    have HAL := Lib.hid hal
    have HUL := Lib.hid hfsl.under
    obtain ⟨lA, lcap, rfl, -, -⟩ := hal.form
    have hll := uptoV_len xs t ((v.depth : Nat) : Int)
    generalize uptoV xs t ((v.depth : Nat) : Int) = ls at *
    generalize uptoB xs t ((v.depth : Nat) : Int) = fi at *
    clear hal hfrl hfsl hbD hbE hC0 hC1 hC2
    have HX8 : Hid (VR w8 v [.int .i64 v.c, .int .i64 v.n, .slice AX v.ks.length capX] FX) := VR.below HX7.out hb8 UX7.out
    have UX8 : Hid (Under w8.heap.size FX) := UX7.out.mono hb8.size
    clear HX7 UX7
    have HY8 : Hid (VR w8 v [.int .i64 v.c, .int .i64 v.n, .slice AY v.ks.length capY] FY) := VR.below HY7.out hb8 UY7.out
    have UY8 : Hid (Under w8.heap.size FY) := UY7.out.mono hb8.size
    clear HY7 UY7
    have KBX8 : Hid (Blk w8 (w3.heap.size) 53 #[.int .i64 v.c, .int .i64 v.n, .slice AX v.ks.length capX]) := KBX7.out.same (hb8.block _ KBX7.out.lt)
    clear KBX7
    have KBY8 : Hid (Blk w8 (w5.heap.size) 53 #[.int .i64 v.c, .int .i64 v.n, .slice AY v.ks.length capY]) := KBY7.out.same (hb8.block _ KBY7.out.lt)
    clear KBY7
    have hB8 := hB7.trans (hb8.mono hB7.size)
    have HA8 : Hid (Arr w8 (DtR w8) xs (.slice A1 xs.length cap1) F1) := ArrDt.below HA7.out hb8 HU7.out
    have HU8 : Hid (Under w8.heap.size F1) := HU7.out.mono hb8.size
    have KT8 : Hid (Blk w8 k 32 #[.int .i64 t.d, .int .i64 t.i]) := KT7.out.same (hb8.block _ KT7.out.lt)
    clear hB7 HA7 HU7 hb8 KT7
    go_wp2
    go_loopw [11] (fun iv wr => ∃ i : Nat, i ≤ ls.length ∧ iv = .int .i64 i ∧ Hid (∀ j (h : j < ls.length), j < i → ls[j] ≠ v) ∧ Below w8.heap.size w8 wr) (fun iv _ => ls.length - (intOf iv).toNat)
    case atStart => exact ⟨0, Nat.zero_le _, rfl, fun j h hj => absurd hj (by omega), Below.refl _ _⟩
    case round =>
      obtain ⟨i, hi, rfl, HNO, hB⟩ := hrel
      have hBr : Below w.heap.size w wr := hB8.trans (hB.mono hB8.size)
      by_cases hil : i < ls.length
      · have g1 : (0 : Int) ≤ (i : Int) := by omega
        have g2 : (i : Int) < (ls.length : Int) := by omega
        obtain ⟨b9, off9, rfl⟩ := HAL.out.ptr (by omega)
        obtain ⟨nA, ncap, G9, lt9, n0, n1, n2, HV9, HG9, -, -, -⟩ := ArrV.at HAL.out HUL.out hB i hil
        have HIF := Lib.hid (V.same_iff ls[i] v)
        have HGT : Hid (∀ j (h : j < ls.length), j < i + 1 → ls[i] ≠ v → ls[j] ≠ v) := fun j h hj hne => by
          by_cases hji : j < i
          · exact HNO.out j h hji
          · obtain rfl : j = i := by omega
            exact hne
        obtain ⟨kq, hkq⟩ : ∃ u, u = ls[i] := ⟨_, rfl⟩
        rw [← hkq] at n0 n1 n2 HV9 HIF HGT
        have KBr : Hid (Blk wr (w3.heap.size) 53 #[.int .i64 v.c, .int .i64 v.n, .slice AX v.ks.length capX]) := KBX8.out.same (hB.block _ KBX8.out.lt)
        have lBX := KBr.out.lt
        clear hkq
        have cBX0 : wr.cell? ⟨w3.heap.size, 0, none⟩ = some (.int .i64 v.c) := (KBr.out.cell 0).trans (by simp)
        have cBX1 : wr.cell? ⟨w3.heap.size, 1, none⟩ = some (.int .i64 v.n) := (KBr.out.cell 1).trans (by simp)
        have cBX2 : wr.cell? ⟨w3.heap.size, 2, none⟩ = some (.slice AX v.ks.length capX) := (KBr.out.cell 2).trans (by simp)
        go_wp2_with fail
        have HS : Hid (∀ C : World, Below wr.heap.size wr C → (C.cell? ⟨b9, off9 + i * 3, none⟩ = some (.int .i64 kq.c) ∧ C.cell? ⟨b9, off9 + i * 3 + 1, none⟩ = some (.int .i64 kq.n) ∧ C.cell? ⟨b9, off9 + i * 3 + 2, none⟩ = some (.slice nA kq.ks.length ncap) ∧ C.cell? ⟨w3.heap.size, 0, none⟩ = some (.int .i64 v.c) ∧ C.cell? ⟨w3.heap.size, 1, none⟩ = some (.int .i64 v.n) ∧ C.cell? ⟨w3.heap.size, 2, none⟩ = some (.slice AX v.ks.length capX))) := fun C hb => ⟨(hb.cell (lt9)).trans n0, (hb.cell (lt9)).trans n1, (hb.cell (lt9)).trans n2, (hb.cell (lBX)).trans cBX0, (hb.cell (lBX)).trans cBX1, (hb.cell (lBX)).trans cBX2⟩
        have hC0 : Below wr.heap.size wr wr.drew := (Below.refl _ _).drew
        refine wp_region_B (S := fun w' => w'.cell? ⟨b9, off9 + i * 3, none⟩ = some (.int .i64 kq.c) ∧ w'.cell? ⟨b9, off9 + i * 3 + 1, none⟩ = some (.int .i64 kq.n) ∧ w'.cell? ⟨b9, off9 + i * 3 + 2, none⟩ = some (.slice nA kq.ks.length ncap) ∧ w'.cell? ⟨w3.heap.size, 0, none⟩ = some (.int .i64 v.c) ∧ w'.cell? ⟨w3.heap.size, 1, none⟩ = some (.int .i64 v.n) ∧ w'.cell? ⟨w3.heap.size, 2, none⟩ = some (.slice AX v.ks.length capX)) (T := fun _ => True) (d := 99) (by kernel_rfl) ?_
        obtain ⟨wd, hwd⟩ : ∃ X, X = wr.drew := ⟨_, rfl⟩
        rw [← hwd] at hC0  ⊢
        clear hwd
        have hS0 := HS.out _ hC0
        have hT0 : True := trivial
        refine wpAnyB_take (i := 0) (v := ?_) rfl (by decide) (by kernel_rfl) (by kernel_rfl) (by kernel_rfl) (fun _ _ _ h => h) (Or.inl ⟨by rfl, ?hy0⟩) hS0 (fun _ => hT0) ?_
        case hy0 => (intro W hSw; (try dsimp only at hSw); (try obtain ⟨hSw0, hSw1, hSw2, hSw3, hSw4, hSw5⟩ := hSw); go_simp; try with_reducible rfl)
        (try simp only [Act.put, List.getElem_toArray, List.getElem_cons_zero, List.getElem_cons_succ, List.setIfInBounds_toArray, List.set_cons_zero, List.set_cons_succ])
        refine wpAnyB_take (i := 1) (v := ?_) rfl (by decide) (by kernel_rfl) (by kernel_rfl) (by kernel_rfl) (fun _ _ _ h => h) (Or.inl ⟨by rfl, ?hy1⟩) hS0 (fun _ => hT0) ?_
        case hy1 => (intro W hSw; (try dsimp only at hSw); (try obtain ⟨hSw0, hSw1, hSw2, hSw3, hSw4, hSw5⟩ := hSw); go_simp; try with_reducible rfl)
        (try simp only [Act.put, List.getElem_toArray, List.getElem_cons_zero, List.getElem_cons_succ, List.setIfInBounds_toArray, List.set_cons_zero, List.set_cons_succ])
        refine wpAnyB_take (i := 2) (v := ?_) rfl (by decide) (by kernel_rfl) (by kernel_rfl) (by kernel_rfl) (fun _ _ _ h => h) (Or.inl ⟨by rfl, ?hy2⟩) hS0 (fun _ => hT0) ?_
        case hy2 => (intro W hSw; (try dsimp only at hSw); (try obtain ⟨hSw0, hSw1, hSw2, hSw3, hSw4, hSw5⟩ := hSw); go_simp; try with_reducible rfl)
        (try simp only [Act.put, List.getElem_toArray, List.getElem_cons_zero, List.getElem_cons_succ, List.setIfInBounds_toArray, List.set_cons_zero, List.set_cons_succ])
        refine wpAnyB_take (i := 3) (v := ?_) rfl (by decide) (by kernel_rfl) (by kernel_rfl) (by kernel_rfl) (fun _ _ _ h => h) (Or.inl ⟨by rfl, ?hy3⟩) hS0 (fun _ => hT0) ?_
        case hy3 => (intro W hSw; (try dsimp only at hSw); (try obtain ⟨hSw0, hSw1, hSw2, hSw3, hSw4, hSw5⟩ := hSw); go_simp; try with_reducible rfl)
        (try simp only [Act.put, List.getElem_toArray, List.getElem_cons_zero, List.getElem_cons_succ, List.setIfInBounds_toArray, List.set_cons_zero, List.set_cons_succ])
        refine wpAnyB_take (i := 4) (v := ?_) rfl (by decide) (by kernel_rfl) (by kernel_rfl) (by kernel_rfl) (fun _ _ _ h => h) (Or.inl ⟨by rfl, ?hy4⟩) hS0 (fun _ => hT0) ?_
        case hy4 => (intro W hSw; (try dsimp only at hSw); (try obtain ⟨hSw0, hSw1, hSw2, hSw3, hSw4, hSw5⟩ := hSw); go_simp; try with_reducible rfl)
        (try simp only [Act.put, List.getElem_toArray, List.getElem_cons_zero, List.getElem_cons_succ, List.setIfInBounds_toArray, List.set_cons_zero, List.set_cons_succ])
        refine wpAnyB_ready (rs := [5]) (by kernel_rfl) (by simp) ?_
        refine AllReadyB.cons rfl (fun K hK => ?_) AllReadyB.nil
        go_simp
        go_at_call 28
        refine (impl_ValueSame kq v wd _ _ G9 FX ((HV9.out.below hB HG9.out).below hC0 (HG9.out.mono hB.size)) ((HX8.out.below hB UX8.out).below hC0 (UX8.out.mono hB.size)) (HG9.out.mono (Nat.le_trans hB.size hC0.size)) (UX8.out.mono (Nat.le_trans hB.size hC0.size))).mono ?_
        rintro e wS ⟨rfl, hbS⟩
        have hC1 : Below wr.heap.size wr wS := hC0.trans (hbS.mono hC0.size)
        have hS1 := HS.out _ hC1
        (try dsimp only)
        refine hK.out _ _ hS1 (fun _ => trivial) ?_
        clear hK K
        (try simp only [Act.put, List.getElem_toArray, List.getElem_cons_zero, List.getElem_cons_succ, List.setIfInBounds_toArray, List.set_cons_zero, List.set_cons_succ])
        refine wpAnyB_end (by kernel_rfl) ?_
        clear hS0 hS1 hT0
        have hBS : Below w8.heap.size w8 wS := hB.trans (hC1.mono hB.size)
        have hBS2 : Below w.heap.size w wS := hB8.trans (hBS.mono hB8.size)
        clear hC0 hC1 hbS n0 n1 n2 cBX0 cBX1 cBX2 lBX lt9
        cases hs : V.same kq v with
        | true =>
          clear hs
          go_wp2
          go_ret
          exact ⟨rfl, hBS2⟩
        | false =>
          have hne : kq ≠ v := fun e => by rw [HIF.out.2 e] at hs; cases hs
          have HN2 : Hid (∀ j (h : j < ls.length), j < i + 1 → ls[j] ≠ v) := fun j h hj => HGT.out j h hj hne
          clear hs hne
          go_wp2
          go_roundw
          case rel => exact ⟨i + 1, hil, by go_num, HN2, hBS⟩
          case measure => (simp [intOf] <;> omega)
      · have hff : fi = false := by
          cases hfi : fi with
          | false => rfl
          | true =>
            obtain ⟨j, hj, e⟩ := List.getElem_of_mem (HLF.out hfi)
            exact absurd e (HNO.out j hj (by omega))
        subst hff
        go_wp2
        go_ret
        exact ⟨rfl, hBr⟩
end Go.Proofs.Ytilndhmegaccmaa.fnLeastFirst

namespace Go.Proofs.Ytilndhmegaccmaa.fnLeastFirst
open Go.ChangeShapes Go.WideShapes Go.ChangeAt Go.RowKit
open Go.ChangeMaps (open_string shut_string)
set_option linter.unusedVariables false

theorem own : ownKnob Try.prog.godebug = none := by kernel_rfl
theorem laidOut : laidOutB Try.prog = true := by kernel_rfl

set_option maxRecDepth 100000 in
theorem lifted (os : Os) (started : os.Started) (H : Type) (enc : TypeId × Value → H) :
    ReturnsInHanded {} Try.checked os 8 .any (Rows.fnLeastFirstSpec.pre6 enc Try.prog Try.f8 Rows.fnLeastFirstRow.domain false) (Rows.fnLeastFirstSpec.post enc Try.prog Try.f8 false true false false) := by
  refine returnsInHanded_of_change (C := Try.checked) own started (by kernel_rfl) Try.func8
    (ChangeSpec.witness6 (enc := enc) (C := Try.checked) false ⟨#[], #[.slice none 0 0], []⟩ 8 (by kernel_rfl) (by kernel_rfl) (by kernel_rfl) (by kernel_rfl)) ?_
  intro W base args ds gs before hval0 hW hcnd _
  have hval : ∀ (j : Nat) t v, Try.f8.params[j]? = some t → args[j]? = some v → Value.okWide Try.prog W .any base t v := hval0
  have hW' := hW
  obtain ⟨p, q, hA0, hV, rfl, hfz, hnd⟩ := hW
  have hA : DataW.TrodAll enc Try.prog W 0 (fun _ => true) true Try.f8.params.toList args.toList ds p := hA0
  rw [Try.params8] at hA hval
  obtain ⟨v0, vs0, d0, ds0, p0, q0, hargs, rfl, rfl, h0, r0⟩ := trodAll_cons hA
  obtain ⟨rfl, rfl, rfl⟩ := trodAll_nil r0
  obtain rfl : args = #[v0] := by cases args; simp_all
  obtain ⟨rfl, rfl⟩ := trodVars_none hV
  have k0 := h0
  have lt0 : ∀ x ∈ p0, x.block < W.heap.size := by obtain ⟨m, hm⟩ := k0; exact DataW.trod_lt m _ _ _ hm
  obtain ⟨x0, F0, hR0, hU0⟩ := open_Bytes (hval 0 22 v0 rfl rfl) h0
  clear hA0 hval0
  refine (walk x0 v0 F0 hR0 hU0 W rfl).mono fun e W' ⟨he, bel⟩ => ?_
  subst he
  exact ⟨_, rfl, _, _, _, [], _, [], hW', trodAll_mk1 (shut_bool Try.underlying4 _), (trodAll_cons_mk (Below.trod laidOut (by kernel_rfl) (of_decide_eq_true (by kernel_rfl)) k0 bel lt0) trodAll_mk0), rfl, bel.frame _, fun h => by cases h⟩

set_option maxHeartbeats 4000000 in
theorem closed : joinedFacts Try.pinned.checked.prog 8 Try.f8 Rows.fnLeastFirstSpec Rows.fnLeastFirstRow = true := by
  unfold joinedFacts
  have key : ∀ a b : Bool, a = true → b = true → (a && b) = true := fun a b h1 h2 => by rw [h1, h2]; rfl
  repeat' (with_reducible refine key _ _ ?_ ?_)
  all_goals as_aux_lemma => kernel_rfl

theorem over : Rows.fnLeastFirstRow.holds Try.pinned (OpenSpec.ofChange Rows.fnLeastFirstSpec) :=
  OpenClaim.holds_of_wide 8 Try.f8 rfl rfl rfl rfl rfl rfl rfl ⟨rfl, rfl, rfl, rfl, rfl⟩ rfl rfl rfl rfl rfl (by kernel_rfl) Try.func8 closed
    (of_decide_eq_true (by kernel_rfl)) (by unfold Func.isWrapper; first | (rw [if_pos (by decide +kernel)]; kernel_rfl) | (rw [if_neg (by decide +kernel)]; exact ⟨rfl, rfl⟩))
    (fun os started H enc _ => lifted os started H enc)

theorem proved : Rows.FnLeastFirstSaid := over
end Go.Proofs.Ytilndhmegaccmaa.fnLeastFirst
