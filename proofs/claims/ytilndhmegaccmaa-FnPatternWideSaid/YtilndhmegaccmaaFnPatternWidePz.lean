/-
  FnPatternWide: for every argument the law returns true. Conditions: none.
-/
import Derived.Test.YtilndhmegaccmaaKAJ
import Derived.Test.YtilndhmegaccmaaKAL
import Derived.Test.YtilndhmegaccmaaKAH
import Derived.Deep.RegionWith
import Derived.Deep.RegionHeld3
import Derived.BigQuiet
import Derived.Test.YtilndhmegaccmaaRows
import Derived.ProofKit
import Derived.OpenShut
import Derived.ShutString
import Derived.ChangeOld
import Derived.Below

set_option linter.unusedVariables false
set_option linter.unusedSimpArgs false
set_option maxRecDepth 100000
set_option maxHeartbeats 1600000

namespace Go.Proofs.Ytilndhmegaccmaa.fnPatternWide
open Go.RowKit
set_option maxHeartbeats 6400000 in
theorem walk {W : World} (x0 : List Int) (v0 : Value) (F0 : List Nat) (hR0 : Arr W (ByR W) x0 v0 F0) (hU0 : Under W.heap.size F0) (w : World) (hw : w = W) :
  Calls Try.prog 4 #[v0] w fun e w' => e = .returned (.bool true) ∧ Below w.heap.size w w' := by
 subst hw
 obtain ⟨A0, cap0, rfl, -, -⟩ := hR0.form
 have HR0 := jj hR0
 have HU0 := jj hU0
 clear hR0 hU0
 by_cases hlen : 1048576 < x0.length
 ·have t0 : decide ((x0.length : Int) > 1048576) = true := decide_eq_true (by omega)
  go_enter Try.func4, Try.ntmps4
  go_wp2
  go_ret
  exact ⟨rfl, Below.refl _ _⟩
 have t0 : decide ((x0.length : Int) > 1048576) = false := decide_eq_false (by omega)
 go_enter Try.func4, Try.ntmps4
 go_wp2_with fail
 refine (spec_DrawPatternValid x0 w _ F0 HR0.out HU0.out).mono ?_
 rintro e w1 ⟨xs, vx, FX, t, a, csa, FA, rfl, hb1, hax, hux, hpa, hua, hna⟩
 obtain ⟨kva, rfl, haa⟩ := (PR_iff _ _ _).1 hpa
 obtain ⟨aA, acap, rfl, -, -⟩ := haa.form
 obtain ⟨A1, cap1, rfl, -, -⟩ := hax.form
 have hb2 : Below w1.heap.size w1 ((w1.alloc (.cells #[.int .i64 t.d, .int .i64 t.i] 32)).alloc (.cells #[.int .i64 a.op, .int .i64 a.ct, .int .i64 a.n, .int .i64 a.m, .int .i64 a.va, .slice aA a.ks.length acap] 25)) := ((Below.refl _ _).alloc (Nat.le_refl _) _).alloc (by simp) _
 have hB2 : Below w.heap.size w ((w1.alloc (.cells #[.int .i64 t.d, .int .i64 t.i] 32)).alloc (.cells #[.int .i64 a.op, .int .i64 a.ct, .int .i64 a.n, .int .i64 a.m, .int .i64 a.va, .slice aA a.ks.length acap] 25)) := hb1.trans (hb2.mono hb1.size)
 have KT2 : Hid (Blk ((w1.alloc (.cells #[.int .i64 t.d, .int .i64 t.i] 32)).alloc (.cells #[.int .i64 a.op, .int .i64 a.ct, .int .i64 a.n, .int .i64 a.m, .int .i64 a.va, .slice aA a.ks.length acap] 25)) w1.heap.size 32 #[.int .i64 t.d, .int .i64 t.i]) := (Blk.new w1 _ _).same (Below.heap_alloc _ _ _ (by simp))
 have KA2 : Hid (Blk ((w1.alloc (.cells #[.int .i64 t.d, .int .i64 t.i] 32)).alloc (.cells #[.int .i64 a.op, .int .i64 a.ct, .int .i64 a.n, .int .i64 a.m, .int .i64 a.va, .slice aA a.ks.length acap] 25)) (w1.heap.size + 1) 25 #[.int .i64 a.op, .int .i64 a.ct, .int .i64 a.n, .int .i64 a.m, .int .i64 a.va, .slice aA a.ks.length acap]) := blk_second w1 _ 25 _
 have HX2 := jj (ArrDt.below hax hb2 hux)
 have UX2 : Hid (Under (((w1.alloc (.cells #[.int .i64 t.d, .int .i64 t.i] 32)).alloc (.cells #[.int .i64 a.op, .int .i64 a.ct, .int .i64 a.n, .int .i64 a.m, .int .i64 a.va, .slice aA a.ks.length acap] 25))).heap.size FX) := hux.mono hb2.size
 have HA2 := jj (hpa.below hb2 hua)
 have UA2 : Hid (Under (((w1.alloc (.cells #[.int .i64 t.d, .int .i64 t.i] 32)).alloc (.cells #[.int .i64 a.op, .int .i64 a.ct, .int .i64 a.n, .int .i64 a.m, .int .i64 a.va, .slice aA a.ks.length acap] 25))).heap.size FA) := hua.mono hb2.size
 have HSZ : Hid (a.size ≤ 1048576) := by unfold nodesP at hna; unfold Hid; omega
 have hlf := fun h ho => pat_leaf (xs := xs) (t := t) (p := a) h ho
 obtain ⟨pv, hpv⟩ : ∃ b, patternValidB xs t a = b := ⟨_, rfl⟩
 rw [hpv] at hlf
 have HLF := jj hlf
 have HPV := jj hpv
 clear hax hux hpa hua hna haa hb1 hb2 HR0 HU0 hlf hpv
 go_wp2_with fail
 obtain ⟨w2, hw2⟩ : ∃ X, X = ((w1.alloc (.cells #[.int .i64 t.d, .int .i64 t.i] 32)).alloc (.cells #[.int .i64 a.op, .int .i64 a.ct, .int .i64 a.n, .int .i64 a.m, .int .i64 a.va, .slice aA a.ks.length acap] 25)) := ⟨_, rfl⟩
 rw [← hw2] at hB2 KT2 KA2 HX2 UX2 HA2 UA2 ⊢
 clear hw2
 have ct0 : w2.cell? ⟨w1.heap.size, 0, none⟩ = some (.int .i64 t.d) := (KT2.out.cell 0).trans (by simp)
 have ct1 : w2.cell? ⟨w1.heap.size, 1, none⟩ = some (.int .i64 t.i) := (KT2.out.cell 1).trans (by simp)
 have ca0 : w2.cell? ⟨w1.heap.size + 1, 0, none⟩ = some (.int .i64 a.op) := (KA2.out.cell 0).trans (by simp)
 have ca1 : w2.cell? ⟨w1.heap.size + 1, 1, none⟩ = some (.int .i64 a.ct) := (KA2.out.cell 1).trans (by simp)
 have ca2 : w2.cell? ⟨w1.heap.size + 1, 2, none⟩ = some (.int .i64 a.n) := (KA2.out.cell 2).trans (by simp)
 have ca3 : w2.cell? ⟨w1.heap.size + 1, 3, none⟩ = some (.int .i64 a.m) := (KA2.out.cell 3).trans (by simp)
 have ca4 : w2.cell? ⟨w1.heap.size + 1, 4, none⟩ = some (.int .i64 a.va) := (KA2.out.cell 4).trans (by simp)
 have ca5 : w2.cell? ⟨w1.heap.size + 1, 5, none⟩ = some (.slice aA a.ks.length acap) := (KA2.out.cell 5).trans (by simp)
 have lt := KT2.out.lt
 have la := KA2.out.lt
 go_wp2_with fail
 clear ct0 ct1 ca0 ca1 ca2 ca3 ca4 ca5 lt la
 refine (impl_PatternValid xs t a HSZ.out w2 _ FX _ FA HX2.out UX2.out HA2.out UA2.out).mono ?_
 rintro e w3 ⟨rfl, hb3⟩
 have hB3 := hB2.trans (hb3.mono hB2.size)
 have KT3 := jj (KT2.out.same (hb3.block _ KT2.out.lt))
 have KA3 := jj (KA2.out.same (hb3.block _ KA2.out.lt))
 have HX3 := jj (ArrDt.below HX2.out hb3 UX2.out)
 have UX3 := jj (UX2.out.mono hb3.size)
 have HA3 := jj (HA2.out.below hb3 UA2.out)
 have UA3 := jj (UA2.out.mono hb3.size)
 clear hB2 KT2 KA2 HX2 UX2 HA2 UA2 hb3
 rw [HPV.out]
 have hne : (pv != pv) = false := by simp
 have heq : (pv == pv) = true := by simp
 have ct0 : w3.cell? ⟨w1.heap.size, 0, none⟩ = some (.int .i64 t.d) := (KT3.out.cell 0).trans (by simp)
 have ct1 : w3.cell? ⟨w1.heap.size, 1, none⟩ = some (.int .i64 t.i) := (KT3.out.cell 1).trans (by simp)
 have ca0 : w3.cell? ⟨w1.heap.size + 1, 0, none⟩ = some (.int .i64 a.op) := (KA3.out.cell 0).trans (by simp)
 have ca1 : w3.cell? ⟨w1.heap.size + 1, 1, none⟩ = some (.int .i64 a.ct) := (KA3.out.cell 1).trans (by simp)
 have ca2 : w3.cell? ⟨w1.heap.size + 1, 2, none⟩ = some (.int .i64 a.n) := (KA3.out.cell 2).trans (by simp)
 have ca3 : w3.cell? ⟨w1.heap.size + 1, 3, none⟩ = some (.int .i64 a.m) := (KA3.out.cell 3).trans (by simp)
 have ca4 : w3.cell? ⟨w1.heap.size + 1, 4, none⟩ = some (.int .i64 a.va) := (KA3.out.cell 4).trans (by simp)
 have ca5 : w3.cell? ⟨w1.heap.size + 1, 5, none⟩ = some (.slice aA a.ks.length acap) := (KA3.out.cell 5).trans (by simp)
 have lt := KT3.out.lt
 have la := KA3.out.lt
 go_wp2_with fail
 clear ct0 ct1 ca0 ca1 ca2 ca3 ca4 ca5 lt la
 refine (spec_PatternValid xs t a HSZ.out w3 _ FX _ FA HX3.out UX3.out HA3.out UA3.out).mono ?_
 rintro e w4 ⟨rfl, hb4⟩
 have hB4 := hB3.trans (hb4.mono hB3.size)
 have KT4 := jj (KT3.out.same (hb4.block _ KT3.out.lt))
 have KA4 := jj (KA3.out.same (hb4.block _ KA3.out.lt))
 have HX4 := jj (ArrDt.below HX3.out hb4 UX3.out)
 have UX4 := jj (UX3.out.mono hb4.size)
 have HA4 := jj (HA3.out.below hb4 UA3.out)
 have UA4 := jj (UA3.out.mono hb4.size)
 clear hB3 KT3 KA3 HX3 UX3 HA3 UA3 hb4
 rw [HPV.out]
 cases pv with
 |false =>
  have hne : (false != false) = false := rfl
  have heq : (false == false) = true := rfl
  have ct0 : w4.cell? ⟨w1.heap.size, 0, none⟩ = some (.int .i64 t.d) := (KT4.out.cell 0).trans (by simp)
  have ct1 : w4.cell? ⟨w1.heap.size, 1, none⟩ = some (.int .i64 t.i) := (KT4.out.cell 1).trans (by simp)
  have ca0 : w4.cell? ⟨w1.heap.size + 1, 0, none⟩ = some (.int .i64 a.op) := (KA4.out.cell 0).trans (by simp)
  have ca1 : w4.cell? ⟨w1.heap.size + 1, 1, none⟩ = some (.int .i64 a.ct) := (KA4.out.cell 1).trans (by simp)
  have ca2 : w4.cell? ⟨w1.heap.size + 1, 2, none⟩ = some (.int .i64 a.n) := (KA4.out.cell 2).trans (by simp)
  have ca3 : w4.cell? ⟨w1.heap.size + 1, 3, none⟩ = some (.int .i64 a.m) := (KA4.out.cell 3).trans (by simp)
  have ca4 : w4.cell? ⟨w1.heap.size + 1, 4, none⟩ = some (.int .i64 a.va) := (KA4.out.cell 4).trans (by simp)
  have ca5 : w4.cell? ⟨w1.heap.size + 1, 5, none⟩ = some (.slice aA a.ks.length acap) := (KA4.out.cell 5).trans (by simp)
  have lt := KT4.out.lt
  have la := KA4.out.lt
  go_wp2_with fail
  clear ct0 ct1 ca0 ca1 ca2 ca3 ca4 ca5 lt la
  refine (spec_PatternValid xs t a HSZ.out w4 _ FX _ FA HX4.out UX4.out HA4.out UA4.out).mono ?_
  rintro e w5 ⟨rfl, hb5⟩
  have hB5 := hB4.trans (hb5.mono hB4.size)
  have KT5 := jj (KT4.out.same (hb5.block _ KT4.out.lt))
  have KA5 := jj (KA4.out.same (hb5.block _ KA4.out.lt))
  have HX5 := jj (ArrDt.below HX4.out hb5 UX4.out)
  have UX5 := jj (UX4.out.mono hb5.size)
  have HA5 := jj (HA4.out.below hb5 UA4.out)
  have UA5 := jj (UA4.out.mono hb5.size)
  clear hB4 KT4 KA4 HX4 UX4 HA4 UA4 hb5
  rw [HPV.out]
  go_wp2
  go_ret
  exact ⟨rfl, hB5⟩
 |true =>
  have hne : (true != true) = false := rfl
  have heq : (true == true) = true := rfl
  by_cases h1 : a.op = 1
  ·have HO1 := jj h1
   have b1 : (a.op != 1) = false := by simp [h1]
   clear h1
   have HL := jj (HLF.out rfl (.inl HO1.out))
   have ct0 : w4.cell? ⟨w1.heap.size, 0, none⟩ = some (.int .i64 t.d) := (KT4.out.cell 0).trans (by simp)
   have ct1 : w4.cell? ⟨w1.heap.size, 1, none⟩ = some (.int .i64 t.i) := (KT4.out.cell 1).trans (by simp)
   have ca0 : w4.cell? ⟨w1.heap.size + 1, 0, none⟩ = some (.int .i64 a.op) := (KA4.out.cell 0).trans (by simp)
   have ca1 : w4.cell? ⟨w1.heap.size + 1, 1, none⟩ = some (.int .i64 a.ct) := (KA4.out.cell 1).trans (by simp)
   have ca2 : w4.cell? ⟨w1.heap.size + 1, 2, none⟩ = some (.int .i64 a.n) := (KA4.out.cell 2).trans (by simp)
   have ca3 : w4.cell? ⟨w1.heap.size + 1, 3, none⟩ = some (.int .i64 a.m) := (KA4.out.cell 3).trans (by simp)
   have ca4 : w4.cell? ⟨w1.heap.size + 1, 4, none⟩ = some (.int .i64 a.va) := (KA4.out.cell 4).trans (by simp)
   have ca5 : w4.cell? ⟨w1.heap.size + 1, 5, none⟩ = some (.slice aA a.ks.length acap) := (KA4.out.cell 5).trans (by simp)
   have lt := KT4.out.lt
   have la := KA4.out.lt
   go_wp2_with fail
   clear ct0 ct1 ca0 ca1 ca2 ca3 ca4 ca5 lt la
   refine (impl_PatternValid xs ⟨t.d, 0⟩ a HSZ.out w4 _ FX _ FA HX4.out UX4.out HA4.out UA4.out).mono ?_
   rintro e w5 ⟨rfl, hb5⟩
   have hB5 := hB4.trans (hb5.mono hB4.size)
   have KT5 := jj (KT4.out.same (hb5.block _ KT4.out.lt))
   have KA5 := jj (KA4.out.same (hb5.block _ KA4.out.lt))
   have HX5 := jj (ArrDt.below HX4.out hb5 UX4.out)
   have UX5 := jj (UX4.out.mono hb5.size)
   have HA5 := jj (HA4.out.below hb5 UA4.out)
   have UA5 := jj (UA4.out.mono hb5.size)
   clear hB4 KT4 KA4 HX4 UX4 HA4 UA4 hb5
   rw [HL.out]
   go_wp2
   go_ret
   exact ⟨rfl, hB5⟩
  ·have b1 : (a.op != 1) = true := by simpa using h1
   by_cases h2 : a.op = 2
   ·have HO2 := jj h2
    have b2 : (a.op != 2) = false := by simp [h2]
    clear h2 h1
    have HL := jj (HLF.out rfl (.inr (.inl HO2.out)))
    have ct0 : w4.cell? ⟨w1.heap.size, 0, none⟩ = some (.int .i64 t.d) := (KT4.out.cell 0).trans (by simp)
    have ct1 : w4.cell? ⟨w1.heap.size, 1, none⟩ = some (.int .i64 t.i) := (KT4.out.cell 1).trans (by simp)
    have ca0 : w4.cell? ⟨w1.heap.size + 1, 0, none⟩ = some (.int .i64 a.op) := (KA4.out.cell 0).trans (by simp)
    have ca1 : w4.cell? ⟨w1.heap.size + 1, 1, none⟩ = some (.int .i64 a.ct) := (KA4.out.cell 1).trans (by simp)
    have ca2 : w4.cell? ⟨w1.heap.size + 1, 2, none⟩ = some (.int .i64 a.n) := (KA4.out.cell 2).trans (by simp)
    have ca3 : w4.cell? ⟨w1.heap.size + 1, 3, none⟩ = some (.int .i64 a.m) := (KA4.out.cell 3).trans (by simp)
    have ca4 : w4.cell? ⟨w1.heap.size + 1, 4, none⟩ = some (.int .i64 a.va) := (KA4.out.cell 4).trans (by simp)
    have ca5 : w4.cell? ⟨w1.heap.size + 1, 5, none⟩ = some (.slice aA a.ks.length acap) := (KA4.out.cell 5).trans (by simp)
    have lt := KT4.out.lt
    have la := KA4.out.lt
    go_wp2_with fail
    clear ct0 ct1 ca0 ca1 ca2 ca3 ca4 ca5 lt la
    refine (impl_PatternValid xs ⟨t.d, 0⟩ a HSZ.out w4 _ FX _ FA HX4.out UX4.out HA4.out UA4.out).mono ?_
    rintro e w5 ⟨rfl, hb5⟩
    have hB5 := hB4.trans (hb5.mono hB4.size)
    have KT5 := jj (KT4.out.same (hb5.block _ KT4.out.lt))
    have KA5 := jj (KA4.out.same (hb5.block _ KA4.out.lt))
    have HX5 := jj (ArrDt.below HX4.out hb5 UX4.out)
    have UX5 := jj (UX4.out.mono hb5.size)
    have HA5 := jj (HA4.out.below hb5 UA4.out)
    have UA5 := jj (UA4.out.mono hb5.size)
    clear hB4 KT4 KA4 HX4 UX4 HA4 UA4 hb5
    rw [HL.out]
    go_wp2
    go_ret
    exact ⟨rfl, hB5⟩
   ·have b2 : (a.op != 2) = true := by simpa using h2
    by_cases h3 : a.op = 3
    ·have HO3 := jj h3
     have b3 : (a.op != 3) = false := by simp [h3]
     clear h3 h2 h1
     have HL := jj (HLF.out rfl (.inr (.inr HO3.out)))
     have ct0 : w4.cell? ⟨w1.heap.size, 0, none⟩ = some (.int .i64 t.d) := (KT4.out.cell 0).trans (by simp)
     have ct1 : w4.cell? ⟨w1.heap.size, 1, none⟩ = some (.int .i64 t.i) := (KT4.out.cell 1).trans (by simp)
     have ca0 : w4.cell? ⟨w1.heap.size + 1, 0, none⟩ = some (.int .i64 a.op) := (KA4.out.cell 0).trans (by simp)
     have ca1 : w4.cell? ⟨w1.heap.size + 1, 1, none⟩ = some (.int .i64 a.ct) := (KA4.out.cell 1).trans (by simp)
     have ca2 : w4.cell? ⟨w1.heap.size + 1, 2, none⟩ = some (.int .i64 a.n) := (KA4.out.cell 2).trans (by simp)
     have ca3 : w4.cell? ⟨w1.heap.size + 1, 3, none⟩ = some (.int .i64 a.m) := (KA4.out.cell 3).trans (by simp)
     have ca4 : w4.cell? ⟨w1.heap.size + 1, 4, none⟩ = some (.int .i64 a.va) := (KA4.out.cell 4).trans (by simp)
     have ca5 : w4.cell? ⟨w1.heap.size + 1, 5, none⟩ = some (.slice aA a.ks.length acap) := (KA4.out.cell 5).trans (by simp)
     have lt := KT4.out.lt
     have la := KA4.out.lt
     go_wp2_with fail
     clear ct0 ct1 ca0 ca1 ca2 ca3 ca4 ca5 lt la
     refine (impl_PatternValid xs ⟨t.d, 0⟩ a HSZ.out w4 _ FX _ FA HX4.out UX4.out HA4.out UA4.out).mono ?_
     rintro e w5 ⟨rfl, hb5⟩
     have hB5 := hB4.trans (hb5.mono hB4.size)
     have KT5 := jj (KT4.out.same (hb5.block _ KT4.out.lt))
     have KA5 := jj (KA4.out.same (hb5.block _ KA4.out.lt))
     have HX5 := jj (ArrDt.below HX4.out hb5 UX4.out)
     have UX5 := jj (UX4.out.mono hb5.size)
     have HA5 := jj (HA4.out.below hb5 UA4.out)
     have UA5 := jj (UA4.out.mono hb5.size)
     clear hB4 KT4 KA4 HX4 UX4 HA4 UA4 hb5
     rw [HL.out]
     go_wp2
     go_ret
     exact ⟨rfl, hB5⟩
    ·have b3 : (a.op != 3) = true := by simpa using h3
     clear h3 h2 h1
     have ct0 : w4.cell? ⟨w1.heap.size, 0, none⟩ = some (.int .i64 t.d) := (KT4.out.cell 0).trans (by simp)
     have ct1 : w4.cell? ⟨w1.heap.size, 1, none⟩ = some (.int .i64 t.i) := (KT4.out.cell 1).trans (by simp)
     have ca0 : w4.cell? ⟨w1.heap.size + 1, 0, none⟩ = some (.int .i64 a.op) := (KA4.out.cell 0).trans (by simp)
     have ca1 : w4.cell? ⟨w1.heap.size + 1, 1, none⟩ = some (.int .i64 a.ct) := (KA4.out.cell 1).trans (by simp)
     have ca2 : w4.cell? ⟨w1.heap.size + 1, 2, none⟩ = some (.int .i64 a.n) := (KA4.out.cell 2).trans (by simp)
     have ca3 : w4.cell? ⟨w1.heap.size + 1, 3, none⟩ = some (.int .i64 a.m) := (KA4.out.cell 3).trans (by simp)
     have ca4 : w4.cell? ⟨w1.heap.size + 1, 4, none⟩ = some (.int .i64 a.va) := (KA4.out.cell 4).trans (by simp)
     have ca5 : w4.cell? ⟨w1.heap.size + 1, 5, none⟩ = some (.slice aA a.ks.length acap) := (KA4.out.cell 5).trans (by simp)
     have lt := KT4.out.lt
     have la := KA4.out.lt
     go_wp2_with fail
     clear ct0 ct1 ca0 ca1 ca2 ca3 ca4 ca5 lt la
     refine (spec_PatternValid xs t a HSZ.out w4 _ FX _ FA HX4.out UX4.out HA4.out UA4.out).mono ?_
     rintro e w5 ⟨rfl, hb5⟩
     have hB5 := hB4.trans (hb5.mono hB4.size)
     have KT5 := jj (KT4.out.same (hb5.block _ KT4.out.lt))
     have KA5 := jj (KA4.out.same (hb5.block _ KA4.out.lt))
     have HX5 := jj (ArrDt.below HX4.out hb5 UX4.out)
     have UX5 := jj (UX4.out.mono hb5.size)
     have HA5 := jj (HA4.out.below hb5 UA4.out)
     have UA5 := jj (UA4.out.mono hb5.size)
     clear hB4 KT4 KA4 HX4 UX4 HA4 UA4 hb5
     rw [HPV.out]
     go_wp2
     go_ret
     exact ⟨rfl, hB5⟩
end Go.Proofs.Ytilndhmegaccmaa.fnPatternWide
namespace Go.Proofs.Ytilndhmegaccmaa.fnPatternWide
open Go.ChangeShapes Go.WideShapes Go.ChangeAt Go.RowKit
open Go.ChangeMaps (open_string shut_string)
set_option linter.unusedVariables false

theorem own : ownKnob Try.prog.godebug = none := by kernel_rfl
theorem laidOut : laidOutB Try.prog = true := by kernel_rfl

set_option maxRecDepth 100000 in
theorem lifted (os : Os) (started : os.Started) (H : Type) (enc : TypeId × Value → H) :
    ReturnsInHanded {} Try.checked os 4 .any (Rows.fnPatternWideSpec.pre6 enc Try.prog Try.f4 Rows.fnPatternWideRow.domain false) (Rows.fnPatternWideSpec.post enc Try.prog Try.f4 false true false false) := by
  refine returnsInHanded_of_change (C := Try.checked) own started (by kernel_rfl) Try.func4
    (ChangeSpec.witness6 (enc := enc) (C := Try.checked) false ⟨#[], #[.slice none 0 0], []⟩ 8 (by kernel_rfl) (by kernel_rfl) (by kernel_rfl) (by kernel_rfl)) ?_
  intro W base args ds gs before hval0 hW hcnd _
  have hval : ∀ (j : Nat) t v, Try.f4.params[j]? = some t → args[j]? = some v → Value.okWide Try.prog W .any base t v := hval0
  have hW' := hW
  obtain ⟨p, q, hA0, hV, rfl, hfz, hnd⟩ := hW
  have hA : DataW.TrodAll enc Try.prog W 0 (fun _ => true) true Try.f4.params.toList args.toList ds p := hA0
  rw [Try.params4] at hA hval
  obtain ⟨v0, vs0, d0, ds0, p0, q0, hargs, rfl, rfl, h0, r0⟩ := trodAll_cons hA
  obtain ⟨rfl, rfl, rfl⟩ := trodAll_nil r0
  obtain rfl : args = #[v0] := by cases args; simp_all
  obtain ⟨rfl, rfl⟩ := trodVars_none hV
  have k0 := h0
  have lt0 : ∀ x ∈ p0, x.block < W.heap.size := by obtain ⟨m, hm⟩ := k0; exact DataW.trod_lt m _ _ _ hm
  obtain ⟨x0, F0, hR0, hU0⟩ := open_Bytes (hval 0 22 v0 rfl rfl) h0
  clear hA0 hval0
  refine (walk x0 v0 F0 hR0 hU0 W rfl).mono fun e W' ⟨he, bel⟩ => ?_
  subst he
  exact ⟨_, rfl, _, _, _, [], _, [], hW', trodAll_mk1 (shut_bool Try.underlying4 _), (trodAll_cons_mk (Below.trod laidOut (by kernel_rfl) (of_decide_eq_true (by kernel_rfl)) k0 bel lt0) trodAll_mk0), rfl, bel.frame _, fun h => by cases h⟩

set_option maxHeartbeats 4000000 in
theorem closed : joinedFacts Try.pinned.checked.prog 4 Try.f4 Rows.fnPatternWideSpec Rows.fnPatternWideRow = true := by
  unfold joinedFacts
  have key : ∀ a b : Bool, a = true → b = true → (a && b) = true := fun a b h1 h2 => by rw [h1, h2]; rfl
  repeat' (with_reducible refine key _ _ ?_ ?_)
  all_goals as_aux_lemma => kernel_rfl

theorem over : Rows.fnPatternWideRow.holds Try.pinned (OpenSpec.ofChange Rows.fnPatternWideSpec) :=
  OpenClaim.holds_of_wide 4 Try.f4 rfl rfl rfl rfl rfl rfl rfl ⟨rfl, rfl, rfl, rfl, rfl⟩ rfl rfl rfl rfl rfl (by kernel_rfl) Try.func4 closed
    (of_decide_eq_true (by kernel_rfl)) (by unfold Func.isWrapper; first | (rw [if_pos (by decide +kernel)]; kernel_rfl) | (rw [if_neg (by decide +kernel)]; exact ⟨rfl, rfl⟩))
    (fun os started H enc _ => lifted os started H enc)

theorem proved : Rows.FnPatternWideSaid := over
end Go.Proofs.Ytilndhmegaccmaa.fnPatternWide
