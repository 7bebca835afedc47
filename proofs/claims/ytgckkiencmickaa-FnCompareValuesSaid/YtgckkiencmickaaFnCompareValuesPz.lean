/-
  FnCompareValues: for every argument the law returns true. Conditions: none.
-/
import Derived.Test.YtgckkiencmickaaKAI
import Derived.Test.YtgckkiencmickaaKAC
import Derived.Deep.RegionWith
import Derived.Deep.RegionHeld3
import Derived.BigQuiet
import Derived.Test.YtgckkiencmickaaRows
import Derived.Test.YtgckkiencmickaaKAH
import Derived.ProofKit
import Derived.OpenShut
import Derived.ShutString
import Derived.ChangeOld
import Derived.Below

set_option linter.unusedVariables false
set_option linter.unusedSimpArgs false

namespace Go.Proofs.Ytgckkiencmickaa.fnCompareValues
open Go.RowKit

set_option maxRecDepth 100000 in
set_option maxHeartbeats 6400000 in
theorem walk {W : World} (x0 : List Int) (v0 : Value) (F0 : List Nat) (hR0 : Arr W (ByR W) x0 v0 F0) (hU0 : Under W.heap.size F0) (x1 : List Int) (v1 : Value) (F1 : List Nat) (hR1 : Arr W (ByR W) x1 v1 F1) (hU1 : Under W.heap.size F1) (w : World) (hw : w = W) :
    Calls Try.prog 4 #[v0, v1] w fun e w' => e = .returned (.bool true) ∧ Below w.heap.size w w' := by
  subst hw
  obtain ⟨A0, cap0, rfl, -, -⟩ := hR0.form
  have HR0 := Lib.hid hR0
  have HU0 := Lib.hid hU0
  clear hR0 hU0
  obtain ⟨A1, cap1, rfl, -, -⟩ := hR1.form
  have HR1 := Lib.hid hR1
  have HU1 := Lib.hid hU1
  clear hR1 hU1
  by_cases hlen : 1048576 < x0.length
  · have t0 : decide ((x0.length : Int) > 1048576) = true := decide_eq_true (by omega)
    go_enter Try.func4, Try.ntmps4
    go_wp2
    go_ret
    exact ⟨rfl, Below.refl _ _⟩
  have t0 : decide ((x0.length : Int) > 1048576) = false := decide_eq_false (by omega)
  by_cases hlen1 : 1048576 < x1.length
  · have t1 : decide ((x1.length : Int) > 1048576) = true := decide_eq_true (by omega)
    go_enter Try.func4, Try.ntmps4
    go_wp2
    go_ret
    exact ⟨rfl, Below.refl _ _⟩
  have t1 : decide ((x1.length : Int) > 1048576) = false := decide_eq_false (by omega)
  go_enter Try.func4, Try.ntmps4
  go_wp2_with fail
  refine (spec_DrawCompareValues x0 w _ F0 HR0.out HU0.out).mono ?_
  rintro e w1 ⟨a, b, csa, csb, FA, FB, rfl, hb1, hpa, hfa, hpb, hfb, -, -⟩
  obtain ⟨kva, rfl, haa⟩ := (VR_iff _ _ _).1 hpa
  obtain ⟨aA, acap, rfl, -, -⟩ := haa.form
  obtain ⟨kvb, rfl, hbb⟩ := (VR_iff _ _ _).1 hpb
  obtain ⟨bA, bcap, rfl, -, -⟩ := hbb.form
  clear haa hbb
  have hbn : Below w1.heap.size w1 ((w1.alloc (.cells #[.int .i64 a.c, .int .i64 a.n, .slice aA a.ks.length acap] 25)).alloc (.cells #[.int .i64 b.c, .int .i64 b.n, .slice bA b.ks.length bcap] 25)) := ((Below.refl _ _).alloc (Nat.le_refl _) _).alloc (by simp) _
  have KA2 : Hid (Blk ((w1.alloc (.cells #[.int .i64 a.c, .int .i64 a.n, .slice aA a.ks.length acap] 25)).alloc (.cells #[.int .i64 b.c, .int .i64 b.n, .slice bA b.ks.length bcap] 25)) (w1.heap.size) 25 #[.int .i64 a.c, .int .i64 a.n, .slice aA a.ks.length acap]) := (Blk.new w1 _ _).same (Below.heap_alloc _ _ _ (by simp))
  have KB2 : Hid (Blk ((w1.alloc (.cells #[.int .i64 a.c, .int .i64 a.n, .slice aA a.ks.length acap] 25)).alloc (.cells #[.int .i64 b.c, .int .i64 b.n, .slice bA b.ks.length bcap] 25)) (w1.heap.size + 1) 25 #[.int .i64 b.c, .int .i64 b.n, .slice bA b.ks.length bcap]) := blk_second w1 _ 25 _
  have HA2 := Lib.hid (hpa.below hbn hfa.under)
  have HB2 := Lib.hid (hpb.below hbn hfb.under)
  have UA2 : Hid (Under (((w1.alloc (.cells #[.int .i64 a.c, .int .i64 a.n, .slice aA a.ks.length acap] 25)).alloc (.cells #[.int .i64 b.c, .int .i64 b.n, .slice bA b.ks.length bcap] 25))).heap.size FA) := hfa.under.mono hbn.size
  have UB2 : Hid (Under (((w1.alloc (.cells #[.int .i64 a.c, .int .i64 a.n, .slice aA a.ks.length acap] 25)).alloc (.cells #[.int .i64 b.c, .int .i64 b.n, .slice bA b.ks.length bcap] 25))).heap.size FB) := hfb.under.mono hbn.size
  have hB2 : Below w.heap.size w ((w1.alloc (.cells #[.int .i64 a.c, .int .i64 a.n, .slice aA a.ks.length acap] 25)).alloc (.cells #[.int .i64 b.c, .int .i64 b.n, .slice bA b.ks.length bcap] 25)) := hb1.trans (hbn.mono hb1.size)
  have HR2 : Hid (Arr ((w1.alloc (.cells #[.int .i64 a.c, .int .i64 a.n, .slice aA a.ks.length acap] 25)).alloc (.cells #[.int .i64 b.c, .int .i64 b.n, .slice bA b.ks.length bcap] 25)) (ByR ((w1.alloc (.cells #[.int .i64 a.c, .int .i64 a.n, .slice aA a.ks.length acap] 25)).alloc (.cells #[.int .i64 b.c, .int .i64 b.n, .slice bA b.ks.length bcap] 25))) x1 (.slice A1 x1.length cap1) F1) := ArrBy.mono HR1.out (.of_below hB2 HU1.out)
  have HU2 : Hid (Under (((w1.alloc (.cells #[.int .i64 a.c, .int .i64 a.n, .slice aA a.ks.length acap] 25)).alloc (.cells #[.int .i64 b.c, .int .i64 b.n, .slice bA b.ks.length bcap] 25))).heap.size F1) := HU1.out.mono hB2.size
  clear hpa hpb hfa hfb hb1 hbn HR0 HU0 HR1 HU1
  go_wp2_with fail
  obtain ⟨w2, hw2⟩ : ∃ X, X = ((w1.alloc (.cells #[.int .i64 a.c, .int .i64 a.n, .slice aA a.ks.length acap] 25)).alloc (.cells #[.int .i64 b.c, .int .i64 b.n, .slice bA b.ks.length bcap] 25)) := ⟨_, rfl⟩
  rw [← hw2] at hB2 KA2 KB2 HA2 HB2 UA2 UB2 HR2 HU2 ⊢
  clear hw2
  have cA0 : w2.cell? ⟨w1.heap.size, 0, none⟩ = some (.int .i64 a.c) := (KA2.out.cell 0).trans (by simp)
  have cA1 : w2.cell? ⟨w1.heap.size, 1, none⟩ = some (.int .i64 a.n) := (KA2.out.cell 1).trans (by simp)
  have cA2 : w2.cell? ⟨w1.heap.size, 2, none⟩ = some (.slice aA a.ks.length acap) := (KA2.out.cell 2).trans (by simp)
  have lA := KA2.out.lt
  have cB0 : w2.cell? ⟨w1.heap.size + 1, 0, none⟩ = some (.int .i64 b.c) := (KB2.out.cell 0).trans (by simp)
  have cB1 : w2.cell? ⟨w1.heap.size + 1, 1, none⟩ = some (.int .i64 b.n) := (KB2.out.cell 1).trans (by simp)
  have cB2 : w2.cell? ⟨w1.heap.size + 1, 2, none⟩ = some (.slice bA b.ks.length bcap) := (KB2.out.cell 2).trans (by simp)
  have lB := KB2.out.lt
  go_wp2_with fail
  clear cA0 cA1 cA2 lA cB0 cB1 cB2 lB
  refine (impl_CompareValues a b w2 _ _ FA FB HA2.out HB2.out UA2.out UB2.out).mono ?_
  rintro e w3 ⟨rfl, hb3⟩
  have hB3 := hB2.trans (hb3.mono hB2.size)
  have KA3 := Lib.hid (KA2.out.same (hb3.block _ KA2.out.lt))
  have HA3 := Lib.hid (HA2.out.below hb3 UA2.out)
  have UA3 := Lib.hid (UA2.out.mono hb3.size)
  clear KA2 HA2 UA2
  have KB3 := Lib.hid (KB2.out.same (hb3.block _ KB2.out.lt))
  have HB3 := Lib.hid (HB2.out.below hb3 UB2.out)
  have UB3 := Lib.hid (UB2.out.mono hb3.size)
  clear KB2 HB2 UB2
  have HR3 : Hid (Arr w3 (ByR w3) x1 (.slice A1 x1.length cap1) F1) := ArrBy.mono HR2.out (.of_below hb3 HU2.out)
  have HU3 := Lib.hid (HU2.out.mono hb3.size)
  clear HR2 HU2
  clear hB2 hb3
  obtain ⟨c, hc⟩ : ∃ s, V.cmp a b = s := ⟨_, rfl⟩
  rw [hc]
  have HC := Lib.hid hc
  clear hc
  go_wp2_with fail
  refine (spec_DrawCompareValues x1 w3 _ F1 HR3.out HU3.out).mono ?_
  rintro e w4 ⟨x, y, csx, csy, FX, FY, rfl, hb4, hpx, hfx, hpy, hfy, -, -⟩
  obtain ⟨kvx, rfl, hxx⟩ := (VR_iff _ _ _).1 hpx
  obtain ⟨xA, xcap, rfl, -, -⟩ := hxx.form
  obtain ⟨kvy, rfl, hyy⟩ := (VR_iff _ _ _).1 hpy
  obtain ⟨yA, ycap, rfl, -, -⟩ := hyy.form
  clear hxx hyy HR3 HU3
  have hbn : Below w4.heap.size w4 ((w4.alloc (.cells #[.int .i64 x.c, .int .i64 x.n, .slice xA x.ks.length xcap] 25)).alloc (.cells #[.int .i64 y.c, .int .i64 y.n, .slice yA y.ks.length ycap] 25)) := ((Below.refl _ _).alloc (Nat.le_refl _) _).alloc (by simp) _
  have KX5 : Hid (Blk ((w4.alloc (.cells #[.int .i64 x.c, .int .i64 x.n, .slice xA x.ks.length xcap] 25)).alloc (.cells #[.int .i64 y.c, .int .i64 y.n, .slice yA y.ks.length ycap] 25)) (w4.heap.size) 25 #[.int .i64 x.c, .int .i64 x.n, .slice xA x.ks.length xcap]) := (Blk.new w4 _ _).same (Below.heap_alloc _ _ _ (by simp))
  have KY5 : Hid (Blk ((w4.alloc (.cells #[.int .i64 x.c, .int .i64 x.n, .slice xA x.ks.length xcap] 25)).alloc (.cells #[.int .i64 y.c, .int .i64 y.n, .slice yA y.ks.length ycap] 25)) (w4.heap.size + 1) 25 #[.int .i64 y.c, .int .i64 y.n, .slice yA y.ks.length ycap]) := blk_second w4 _ 25 _
  have HX5 := Lib.hid (hpx.below hbn hfx.under)
  have HY5 := Lib.hid (hpy.below hbn hfy.under)
  have UX5 : Hid (Under (((w4.alloc (.cells #[.int .i64 x.c, .int .i64 x.n, .slice xA x.ks.length xcap] 25)).alloc (.cells #[.int .i64 y.c, .int .i64 y.n, .slice yA y.ks.length ycap] 25))).heap.size FX) := hfx.under.mono hbn.size
  have UY5 : Hid (Under (((w4.alloc (.cells #[.int .i64 x.c, .int .i64 x.n, .slice xA x.ks.length xcap] 25)).alloc (.cells #[.int .i64 y.c, .int .i64 y.n, .slice yA y.ks.length ycap] 25))).heap.size FY) := hfy.under.mono hbn.size
  have hb5 : Below w3.heap.size w3 ((w4.alloc (.cells #[.int .i64 x.c, .int .i64 x.n, .slice xA x.ks.length xcap] 25)).alloc (.cells #[.int .i64 y.c, .int .i64 y.n, .slice yA y.ks.length ycap] 25)) := hb4.trans (hbn.mono hb4.size)
  have hB5 : Below w.heap.size w ((w4.alloc (.cells #[.int .i64 x.c, .int .i64 x.n, .slice xA x.ks.length xcap] 25)).alloc (.cells #[.int .i64 y.c, .int .i64 y.n, .slice yA y.ks.length ycap] 25)) := hB3.trans (hb5.mono hB3.size)
  have KA5 := Lib.hid (KA3.out.same (hb5.block _ KA3.out.lt))
  have HA5 := Lib.hid (HA3.out.below hb5 UA3.out)
  have UA5 := Lib.hid (UA3.out.mono hb5.size)
  have KB5 := Lib.hid (KB3.out.same (hb5.block _ KB3.out.lt))
  have HB5 := Lib.hid (HB3.out.below hb5 UB3.out)
  have UB5 := Lib.hid (UB3.out.mono hb5.size)
  clear hpx hpy hfx hfy hb4 hb5 hbn hB3 KA3 KB3 HA3 HB3 UA3 UB3
  have cB0 : ((w4.alloc (.cells #[.int .i64 x.c, .int .i64 x.n, .slice xA x.ks.length xcap] 25)).alloc (.cells #[.int .i64 y.c, .int .i64 y.n, .slice yA y.ks.length ycap] 25)).cell? ⟨w1.heap.size + 1, 0, none⟩ = some (.int .i64 b.c) := (KB5.out.cell 0).trans (by simp)
  have cB1 : ((w4.alloc (.cells #[.int .i64 x.c, .int .i64 x.n, .slice xA x.ks.length xcap] 25)).alloc (.cells #[.int .i64 y.c, .int .i64 y.n, .slice yA y.ks.length ycap] 25)).cell? ⟨w1.heap.size + 1, 1, none⟩ = some (.int .i64 b.n) := (KB5.out.cell 1).trans (by simp)
  have cB2 : ((w4.alloc (.cells #[.int .i64 x.c, .int .i64 x.n, .slice xA x.ks.length xcap] 25)).alloc (.cells #[.int .i64 y.c, .int .i64 y.n, .slice yA y.ks.length ycap] 25)).cell? ⟨w1.heap.size + 1, 2, none⟩ = some (.slice bA b.ks.length bcap) := (KB5.out.cell 2).trans (by simp)
  have lB := KB5.out.lt
  have cX0 : ((w4.alloc (.cells #[.int .i64 x.c, .int .i64 x.n, .slice xA x.ks.length xcap] 25)).alloc (.cells #[.int .i64 y.c, .int .i64 y.n, .slice yA y.ks.length ycap] 25)).cell? ⟨w4.heap.size, 0, none⟩ = some (.int .i64 x.c) := (KX5.out.cell 0).trans (by simp)
  have cX1 : ((w4.alloc (.cells #[.int .i64 x.c, .int .i64 x.n, .slice xA x.ks.length xcap] 25)).alloc (.cells #[.int .i64 y.c, .int .i64 y.n, .slice yA y.ks.length ycap] 25)).cell? ⟨w4.heap.size, 1, none⟩ = some (.int .i64 x.n) := (KX5.out.cell 1).trans (by simp)
  have cX2 : ((w4.alloc (.cells #[.int .i64 x.c, .int .i64 x.n, .slice xA x.ks.length xcap] 25)).alloc (.cells #[.int .i64 y.c, .int .i64 y.n, .slice yA y.ks.length ycap] 25)).cell? ⟨w4.heap.size, 2, none⟩ = some (.slice xA x.ks.length xcap) := (KX5.out.cell 2).trans (by simp)
  have lX := KX5.out.lt
  go_wp2_with fail
  clear cB0 cB1 cB2 lB cX0 cX1 cX2 lX
  obtain ⟨w5, hw5⟩ : ∃ X, X = ((w4.alloc (.cells #[.int .i64 x.c, .int .i64 x.n, .slice xA x.ks.length xcap] 25)).alloc (.cells #[.int .i64 y.c, .int .i64 y.n, .slice yA y.ks.length ycap] 25)) := ⟨_, rfl⟩
  rw [← hw5] at hB5 KA5 KB5 HA5 HB5 UA5 UB5 KX5 KY5 HX5 HY5 UX5 UY5 ⊢
  clear hw5 KY5 HY5 UY5
  refine (impl_CompareValues b x w5 _ _ FB FX HB5.out HX5.out UB5.out UX5.out).mono ?_
  rintro e w6 ⟨rfl, hb6⟩
  have hB6 := hB5.trans (hb6.mono hB5.size)
  have KA6 := Lib.hid (KA5.out.same (hb6.block _ KA5.out.lt))
  have HA6 := Lib.hid (HA5.out.below hb6 UA5.out)
  have UA6 := Lib.hid (UA5.out.mono hb6.size)
  clear KA5 HA5 UA5
  have KB6 := Lib.hid (KB5.out.same (hb6.block _ KB5.out.lt))
  have HB6 := Lib.hid (HB5.out.below hb6 UB5.out)
  have UB6 := Lib.hid (UB5.out.mono hb6.size)
  clear KB5 HB5 UB5
  have KX6 := Lib.hid (KX5.out.same (hb6.block _ KX5.out.lt))
  have HX6 := Lib.hid (HX5.out.below hb6 UX5.out)
  have UX6 := Lib.hid (UX5.out.mono hb6.size)
  clear KX5 HX5 UX5
  clear hB5 hb6
  obtain ⟨d, hd⟩ : ∃ s, V.cmp b x = s := ⟨_, rfl⟩
  rw [hd]
  have HD := Lib.hid hd
  clear hd
  obtain ⟨f, hf⟩ : ∃ s, V.cmp b a = s := ⟨_, rfl⟩
  obtain ⟨sm, hsm⟩ : ∃ s, V.same a b = s := ⟨_, rfl⟩
  have hr := V.cmp_range a b
  have hfc := V.cmp_anti a b
  have hs0 : (c == 0) = sm := by
    rw [← hsm, ← cmp_same, HC.out]
    rfl
  rw [HC.out] at hr
  rw [HC.out, hf] at hfc
  have hwn : IntKind.i64.wrap (-f) = c := by
    have e : -f = c := by omega
    rw [e]
    exact IntWalk.i64_in _ (by omega)
  have HF := Lib.hid hf
  have HSM := Lib.hid hsm
  clear hf hsm hfc hr
  go_wp2_with fail
  have HS : Hid (∀ C : World, Below w6.heap.size w6 C → (C.cell? ⟨w1.heap.size, 0, none⟩ = some (.int .i64 a.c) ∧ C.cell? ⟨w1.heap.size, 1, none⟩ = some (.int .i64 a.n) ∧ C.cell? ⟨w1.heap.size, 2, none⟩ = some (.slice aA a.ks.length acap) ∧ C.cell? ⟨w1.heap.size + 1, 0, none⟩ = some (.int .i64 b.c) ∧ C.cell? ⟨w1.heap.size + 1, 1, none⟩ = some (.int .i64 b.n) ∧ C.cell? ⟨w1.heap.size + 1, 2, none⟩ = some (.slice bA b.ks.length bcap))) := fun C hb => ⟨(hb.cell (KA6.out.lt)).trans ((KA6.out.cell 0).trans (by simp)), (hb.cell (KA6.out.lt)).trans ((KA6.out.cell 1).trans (by simp)), (hb.cell (KA6.out.lt)).trans ((KA6.out.cell 2).trans (by simp)), (hb.cell (KB6.out.lt)).trans ((KB6.out.cell 0).trans (by simp)), (hb.cell (KB6.out.lt)).trans ((KB6.out.cell 1).trans (by simp)), (hb.cell (KB6.out.lt)).trans ((KB6.out.cell 2).trans (by simp))⟩
  have hC0 : Below w6.heap.size w6 w6.drew := (Below.refl _ _).drew
  have HAd := HA6
  have HBd := HB6
  have UAd := UA6
  have UBd := UB6
  refine wp_region_B (S := fun w' => w'.cell? ⟨w1.heap.size, 0, none⟩ = some (.int .i64 a.c) ∧ w'.cell? ⟨w1.heap.size, 1, none⟩ = some (.int .i64 a.n) ∧ w'.cell? ⟨w1.heap.size, 2, none⟩ = some (.slice aA a.ks.length acap) ∧ w'.cell? ⟨w1.heap.size + 1, 0, none⟩ = some (.int .i64 b.c) ∧ w'.cell? ⟨w1.heap.size + 1, 1, none⟩ = some (.int .i64 b.n) ∧ w'.cell? ⟨w1.heap.size + 1, 2, none⟩ = some (.slice bA b.ks.length bcap)) (T := fun _ => True) (d := 99) (by kernel_rfl) ?_
  obtain ⟨wd, hwd⟩ : ∃ X, X = w6.drew := ⟨_, rfl⟩
  rw [← hwd] at hC0  ⊢
  clear hwd
  have hS0 := HS.out _ hC0
  have hT0 : True := trivial
  refine wpAnyB_take (i := 0) (v := ?_) rfl (by decide) (by kernel_rfl) (by kernel_rfl) (by kernel_rfl) (fun _ _ _ h => h) (Or.inl ⟨by rfl, ?hy0⟩) hS0 (fun _ => hT0) ?_
  case hy0 => (intro W hSw; (try dsimp only at hSw); (try obtain ⟨hSw0, hSw1, hSw2, hSw3, hSw4, hSw5⟩ := hSw); go_simp; try with_reducible rfl)
  (try simp only [Act.put, List.getElem_toArray, List.getElem_cons_zero, List.getElem_cons_succ, List.setIfInBounds_toArray, List.set_cons_zero, List.set_cons_succ])
  refine wpAnyB_take (i := 1) (v := ?_) rfl (by decide) (by kernel_rfl) (by kernel_rfl) (by kernel_rfl) (fun _ _ _ h => h) (Or.inl ⟨by rfl, ?hy1⟩) hS0 (fun _ => hT0) ?_
  case hy1 => (intro W hSw; (try dsimp only at hSw); (try obtain ⟨hSw0, hSw1, hSw2, hSw3, hSw4, hSw5⟩ := hSw); go_simp; try with_reducible rfl)
  (try simp only [Act.put, List.getElem_toArray, List.getElem_cons_zero, List.getElem_cons_succ, List.setIfInBounds_toArray, List.set_cons_zero, List.set_cons_succ])
  refine wpAnyB_take (i := 2) (v := ?_) rfl (by decide) (by kernel_rfl) (by kernel_rfl) (by kernel_rfl) (fun _ _ _ h => h) (Or.inl ⟨by rfl, ?hy2⟩) hS0 (fun _ => hT0) ?_
  case hy2 => (intro W hSw; (try dsimp only at hSw); (try obtain ⟨hSw0, hSw1, hSw2, hSw3, hSw4, hSw5⟩ := hSw); go_simp; try with_reducible rfl)
  (try simp only [Act.put, List.getElem_toArray, List.getElem_cons_zero, List.getElem_cons_succ, List.setIfInBounds_toArray, List.set_cons_zero, List.set_cons_succ])
  have HH : Hid (Below w6.heap.size w6 wd) := hC0
  refine wpAnyB_ready (rs := [3]) (by kernel_rfl) (by simp) ?_
  refine AllReadyB.cons rfl (fun K hK => ?_) AllReadyB.nil
  go_simp
  go_at_call 15
  refine (spec_CompareValues a b wd _ _ FA FB (HA6.out.below HH.out UA6.out) (HB6.out.below HH.out UB6.out) (UA6.out.mono HH.out.size) (UB6.out.mono HH.out.size)).mono ?_
  rintro e C11 ⟨rfl, hb11⟩
  have hC1 : Below w6.heap.size w6 C11 := hC0.trans (hb11.mono hC0.size)
  have hS1 := HS.out _ hC1
  rw [HC.out]
  clear HH
  (try dsimp only)
  refine hK.out _ _ hS1 (fun _ => trivial) ?_
  clear hK K
  (try simp only [Act.put, List.getElem_toArray, List.getElem_cons_zero, List.getElem_cons_succ, List.setIfInBounds_toArray, List.set_cons_zero, List.set_cons_succ])
  refine wpAnyB_take (i := 4) (v := ?_) rfl (by decide) (by kernel_rfl) (by kernel_rfl) (by kernel_rfl) (fun _ _ _ h => h) (Or.inl ⟨by rfl, ?hy4⟩) hS1 (fun _ => hT0) ?_
  case hy4 => (intro W hSw; (try dsimp only at hSw); (try obtain ⟨hSw0, hSw1, hSw2, hSw3, hSw4, hSw5⟩ := hSw); go_simp; try with_reducible rfl)
  (try simp only [Act.put, List.getElem_toArray, List.getElem_cons_zero, List.getElem_cons_succ, List.setIfInBounds_toArray, List.set_cons_zero, List.set_cons_succ])
  refine wpAnyB_take (i := 5) (v := ?_) rfl (by decide) (by kernel_rfl) (by kernel_rfl) (by kernel_rfl) (fun _ _ _ h => h) (Or.inl ⟨by rfl, ?hy5⟩) hS1 (fun _ => hT0) ?_
  case hy5 => (intro W hSw; (try dsimp only at hSw); (try obtain ⟨hSw0, hSw1, hSw2, hSw3, hSw4, hSw5⟩ := hSw); go_simp; try with_reducible rfl)
  (try simp only [Act.put, List.getElem_toArray, List.getElem_cons_zero, List.getElem_cons_succ, List.setIfInBounds_toArray, List.set_cons_zero, List.set_cons_succ])
  refine wpAnyB_take (i := 6) (v := ?_) rfl (by decide) (by kernel_rfl) (by kernel_rfl) (by kernel_rfl) (fun _ _ _ h => h) (Or.inl ⟨by rfl, ?hy6⟩) hS1 (fun _ => hT0) ?_
  case hy6 => (intro W hSw; (try dsimp only at hSw); (try obtain ⟨hSw0, hSw1, hSw2, hSw3, hSw4, hSw5⟩ := hSw); go_simp; try with_reducible rfl)
  (try simp only [Act.put, List.getElem_toArray, List.getElem_cons_zero, List.getElem_cons_succ, List.setIfInBounds_toArray, List.set_cons_zero, List.set_cons_succ])
  refine wpAnyB_take (i := 7) (v := ?_) rfl (by decide) (by kernel_rfl) (by kernel_rfl) (by kernel_rfl) (fun _ _ _ h => h) (Or.inl ⟨by rfl, ?hy7⟩) hS1 (fun _ => hT0) ?_
  case hy7 => (intro W hSw; (try dsimp only at hSw); (try obtain ⟨hSw0, hSw1, hSw2, hSw3, hSw4, hSw5⟩ := hSw); go_simp; try with_reducible rfl)
  (try simp only [Act.put, List.getElem_toArray, List.getElem_cons_zero, List.getElem_cons_succ, List.setIfInBounds_toArray, List.set_cons_zero, List.set_cons_succ])
  refine wpAnyB_take (i := 8) (v := ?_) rfl (by decide) (by kernel_rfl) (by kernel_rfl) (by kernel_rfl) (fun _ _ _ h => h) (Or.inl ⟨by rfl, ?hy8⟩) hS1 (fun _ => hT0) ?_
  case hy8 => (intro W hSw; (try dsimp only at hSw); (try obtain ⟨hSw0, hSw1, hSw2, hSw3, hSw4, hSw5⟩ := hSw); go_simp; try with_reducible rfl)
  (try simp only [Act.put, List.getElem_toArray, List.getElem_cons_zero, List.getElem_cons_succ, List.setIfInBounds_toArray, List.set_cons_zero, List.set_cons_succ])
  have HH : Hid (Below w6.heap.size w6 C11) := hC1
  refine wpAnyB_ready (rs := [9]) (by kernel_rfl) (by simp) ?_
  refine AllReadyB.cons rfl (fun K hK => ?_) AllReadyB.nil
  go_simp
  go_at_call 14
  refine (impl_CompareValues b a C11 _ _ FB FA (HB6.out.below HH.out UB6.out) (HA6.out.below HH.out UA6.out) (UB6.out.mono HH.out.size) (UA6.out.mono HH.out.size)).mono ?_
  rintro e C12 ⟨rfl, hb12⟩
  have hC2 : Below w6.heap.size w6 C12 := hC1.trans (hb12.mono hC1.size)
  have hS2 := HS.out _ hC2
  rw [HF.out]
  clear HH
  (try dsimp only)
  refine hK.out _ _ hS2 (fun _ => trivial) ?_
  clear hK K
  (try simp only [Act.put, List.getElem_toArray, List.getElem_cons_zero, List.getElem_cons_succ, List.setIfInBounds_toArray, List.set_cons_zero, List.set_cons_succ])
  refine wpAnyB_take (i := 10) (v := ?_) rfl (by decide) (by kernel_rfl) (by kernel_rfl) (by kernel_rfl) (fun _ _ _ h => h) (Or.inl ⟨by rfl, ?hy10⟩) hS2 (fun _ => hT0) ?_
  case hy10 => (intro W hSw; (try dsimp only at hSw); (try obtain ⟨hSw0, hSw1, hSw2, hSw3, hSw4, hSw5⟩ := hSw); go_simp; try with_reducible rfl)
  (try simp only [Act.put, List.getElem_toArray, List.getElem_cons_zero, List.getElem_cons_succ, List.setIfInBounds_toArray, List.set_cons_zero, List.set_cons_succ])
  refine wpAnyB_take (i := 11) (v := ?_) rfl (by decide) (by kernel_rfl) (by kernel_rfl) (by kernel_rfl) (fun _ _ _ h => h) (Or.inl ⟨by rfl, ?hy11⟩) hS2 (fun _ => hT0) ?_
  case hy11 => (intro W hSw; (try dsimp only at hSw); (try obtain ⟨hSw0, hSw1, hSw2, hSw3, hSw4, hSw5⟩ := hSw); go_simp; try with_reducible rfl)
  (try simp only [Act.put, List.getElem_toArray, List.getElem_cons_zero, List.getElem_cons_succ, List.setIfInBounds_toArray, List.set_cons_zero, List.set_cons_succ])
  refine wpAnyB_take (i := 12) (v := ?_) rfl (by decide) (by kernel_rfl) (by kernel_rfl) (by kernel_rfl) (fun _ _ _ h => h) (Or.inl ⟨by rfl, ?hy12⟩) hS2 (fun _ => hT0) ?_
  case hy12 => (intro W hSw; (try dsimp only at hSw); (try obtain ⟨hSw0, hSw1, hSw2, hSw3, hSw4, hSw5⟩ := hSw); go_simp; try with_reducible rfl)
  (try simp only [Act.put, List.getElem_toArray, List.getElem_cons_zero, List.getElem_cons_succ, List.setIfInBounds_toArray, List.set_cons_zero, List.set_cons_succ])
  refine wpAnyB_take (i := 13) (v := ?_) rfl (by decide) (by kernel_rfl) (by kernel_rfl) (by kernel_rfl) (fun _ _ _ h => h) (Or.inl ⟨by rfl, ?hy13⟩) hS2 (fun _ => hT0) ?_
  case hy13 => (intro W hSw; (try dsimp only at hSw); (try obtain ⟨hSw0, hSw1, hSw2, hSw3, hSw4, hSw5⟩ := hSw); go_simp; try with_reducible rfl)
  (try simp only [Act.put, List.getElem_toArray, List.getElem_cons_zero, List.getElem_cons_succ, List.setIfInBounds_toArray, List.set_cons_zero, List.set_cons_succ])
  refine wpAnyB_take (i := 14) (v := ?_) rfl (by decide) (by kernel_rfl) (by kernel_rfl) (by kernel_rfl) (fun _ _ _ h => h) (Or.inl ⟨by rfl, ?hy14⟩) hS2 (fun _ => hT0) ?_
  case hy14 => (intro W hSw; (try dsimp only at hSw); (try obtain ⟨hSw0, hSw1, hSw2, hSw3, hSw4, hSw5⟩ := hSw); go_simp; try with_reducible rfl)
  (try simp only [Act.put, List.getElem_toArray, List.getElem_cons_zero, List.getElem_cons_succ, List.setIfInBounds_toArray, List.set_cons_zero, List.set_cons_succ])
  refine wpAnyB_take (i := 15) (v := ?_) rfl (by decide) (by kernel_rfl) (by kernel_rfl) (by kernel_rfl) (fun _ _ _ h => h) (Or.inl ⟨by rfl, ?hy15⟩) hS2 (fun _ => hT0) ?_
  case hy15 => (intro W hSw; (try dsimp only at hSw); (try obtain ⟨hSw0, hSw1, hSw2, hSw3, hSw4, hSw5⟩ := hSw); go_simp; try with_reducible rfl)
  (try simp only [Act.put, List.getElem_toArray, List.getElem_cons_zero, List.getElem_cons_succ, List.setIfInBounds_toArray, List.set_cons_zero, List.set_cons_succ])
  refine wpAnyB_take (i := 16) (v := ?_) rfl (by decide) (by kernel_rfl) (by kernel_rfl) (by kernel_rfl) (fun _ _ _ h => h) (Or.inl ⟨by rfl, ?hy16⟩) hS2 (fun _ => hT0) ?_
  case hy16 => (intro W hSw; (try dsimp only at hSw); (try obtain ⟨hSw0, hSw1, hSw2, hSw3, hSw4, hSw5⟩ := hSw); go_simp; try with_reducible rfl)
  (try simp only [Act.put, List.getElem_toArray, List.getElem_cons_zero, List.getElem_cons_succ, List.setIfInBounds_toArray, List.set_cons_zero, List.set_cons_succ])
  refine wpAnyB_take (i := 17) (v := ?_) rfl (by decide) (by kernel_rfl) (by kernel_rfl) (by kernel_rfl) (fun _ _ _ h => h) (Or.inl ⟨by rfl, ?hy17⟩) hS2 (fun _ => hT0) ?_
  case hy17 => (intro W hSw; (try dsimp only at hSw); (try obtain ⟨hSw0, hSw1, hSw2, hSw3, hSw4, hSw5⟩ := hSw); go_simp; try with_reducible rfl)
  (try simp only [Act.put, List.getElem_toArray, List.getElem_cons_zero, List.getElem_cons_succ, List.setIfInBounds_toArray, List.set_cons_zero, List.set_cons_succ])
  have HH : Hid (Below w6.heap.size w6 C12) := hC2
  refine wpAnyB_ready (rs := [18]) (by kernel_rfl) (by simp) ?_
  refine AllReadyB.cons rfl (fun K hK => ?_) AllReadyB.nil
  go_simp
  go_at_call 16
  refine (impl_ValueSame a b C12 _ _ FA FB (HA6.out.below HH.out UA6.out) (HB6.out.below HH.out UB6.out) (UA6.out.mono HH.out.size) (UB6.out.mono HH.out.size)).mono ?_
  rintro e C13 ⟨rfl, hb13⟩
  have hC3 : Below w6.heap.size w6 C13 := hC2.trans (hb13.mono hC2.size)
  have hS3 := HS.out _ hC3
  rw [HSM.out]
  clear HH
  (try dsimp only)
  refine hK.out _ _ hS3 (fun _ => trivial) ?_
  clear hK K
  (try simp only [Act.put, List.getElem_toArray, List.getElem_cons_zero, List.getElem_cons_succ, List.setIfInBounds_toArray, List.set_cons_zero, List.set_cons_succ])
  refine wpAnyB_take (i := 19) (v := ?_) rfl (by decide) (by kernel_rfl) (by kernel_rfl) (by kernel_rfl) (fun _ _ _ h => h) (Or.inl ⟨by rfl, ?hy19⟩) hS3 (fun _ => hT0) ?_
  case hy19 => (intro W hSw; (try dsimp only at hSw); (try obtain ⟨hSw0, hSw1, hSw2, hSw3, hSw4, hSw5⟩ := hSw); go_simp; try with_reducible rfl)
  (try simp only [Act.put, List.getElem_toArray, List.getElem_cons_zero, List.getElem_cons_succ, List.setIfInBounds_toArray, List.set_cons_zero, List.set_cons_succ])
  refine wpAnyB_take (i := 20) (v := ?_) rfl (by decide) (by kernel_rfl) (by kernel_rfl) (by kernel_rfl) (fun _ _ _ h => h) (Or.inl ⟨by rfl, ?hy20⟩) hS3 (fun _ => hT0) ?_
  case hy20 => (intro W hSw; (try dsimp only at hSw); (try obtain ⟨hSw0, hSw1, hSw2, hSw3, hSw4, hSw5⟩ := hSw); go_simp; try with_reducible rfl)
  (try simp only [Act.put, List.getElem_toArray, List.getElem_cons_zero, List.getElem_cons_succ, List.setIfInBounds_toArray, List.set_cons_zero, List.set_cons_succ])
  refine wpAnyB_take (i := 21) (v := ?_) rfl (by decide) (by kernel_rfl) (by kernel_rfl) (by kernel_rfl) (fun _ _ _ h => h) (Or.inl ⟨by rfl, ?hy21⟩) hS3 (fun _ => hT0) ?_
  case hy21 => (intro W hSw; (try dsimp only at hSw); (try obtain ⟨hSw0, hSw1, hSw2, hSw3, hSw4, hSw5⟩ := hSw); go_simp; try with_reducible rfl)
  (try simp only [Act.put, List.getElem_toArray, List.getElem_cons_zero, List.getElem_cons_succ, List.setIfInBounds_toArray, List.set_cons_zero, List.set_cons_succ])
  refine wpAnyB_take (i := 22) (v := ?_) rfl (by decide) (by kernel_rfl) (by kernel_rfl) (by kernel_rfl) (fun _ _ _ h => h) (Or.inl ⟨by rfl, ?hy22⟩) hS3 (fun _ => hT0) ?_
  case hy22 => (intro W hSw; (try dsimp only at hSw); (try obtain ⟨hSw0, hSw1, hSw2, hSw3, hSw4, hSw5⟩ := hSw); go_simp; try with_reducible rfl)
  (try simp only [Act.put, List.getElem_toArray, List.getElem_cons_zero, List.getElem_cons_succ, List.setIfInBounds_toArray, List.set_cons_zero, List.set_cons_succ])
  refine wpAnyB_take (i := 23) (v := ?_) rfl (by decide) (by kernel_rfl) (by kernel_rfl) (by kernel_rfl) (fun _ _ _ h => h) (Or.inl ⟨by rfl, ?hy23⟩) hS3 (fun _ => hT0) ?_
  case hy23 => (intro W hSw; (try dsimp only at hSw); (try obtain ⟨hSw0, hSw1, hSw2, hSw3, hSw4, hSw5⟩ := hSw); go_simp; try with_reducible rfl)
  (try simp only [Act.put, List.getElem_toArray, List.getElem_cons_zero, List.getElem_cons_succ, List.setIfInBounds_toArray, List.set_cons_zero, List.set_cons_succ])
  refine wpAnyB_take (i := 25) (v := ?_) rfl (by decide) (by kernel_rfl) (by kernel_rfl) (by kernel_rfl) (fun _ _ _ h => h) (Or.inl ⟨by rfl, ?hy25⟩) hS3 (fun _ => hT0) ?_
  case hy25 => (intro W hSw; (try dsimp only at hSw); (try obtain ⟨hSw0, hSw1, hSw2, hSw3, hSw4, hSw5⟩ := hSw); go_simp; try with_reducible rfl)
  (try simp only [Act.put, List.getElem_toArray, List.getElem_cons_zero, List.getElem_cons_succ, List.setIfInBounds_toArray, List.set_cons_zero, List.set_cons_succ])
  refine wpAnyB_take (i := 26) (v := ?_) rfl (by decide) (by kernel_rfl) (by kernel_rfl) (by kernel_rfl) (fun _ _ _ h => h) (Or.inl ⟨by rfl, ?hy26⟩) hS3 (fun _ => hT0) ?_
  case hy26 => (intro W hSw; (try dsimp only at hSw); (try obtain ⟨hSw0, hSw1, hSw2, hSw3, hSw4, hSw5⟩ := hSw); go_simp; try with_reducible rfl)
  (try simp only [Act.put, List.getElem_toArray, List.getElem_cons_zero, List.getElem_cons_succ, List.setIfInBounds_toArray, List.set_cons_zero, List.set_cons_succ])
  have HH : Hid (Below w6.heap.size w6 C13) := hC3
  refine wpAnyB_ready (rs := [24]) (by kernel_rfl) (by simp) ?_
  refine AllReadyB.cons rfl (fun K hK => ?_) AllReadyB.nil
  go_simp
  go_at_call 16
  refine (impl_ValueSame a b C13 _ _ FA FB (HA6.out.below HH.out UA6.out) (HB6.out.below HH.out UB6.out) (UA6.out.mono HH.out.size) (UB6.out.mono HH.out.size)).mono ?_
  rintro e C14 ⟨rfl, hb14⟩
  have hC4 : Below w6.heap.size w6 C14 := hC3.trans (hb14.mono hC3.size)
  have hS4 := HS.out _ hC4
  rw [HSM.out]
  clear HH
  (try dsimp only)
  refine hK.out _ _ hS4 (fun _ => trivial) ?_
  clear hK K
  (try simp only [Act.put, List.getElem_toArray, List.getElem_cons_zero, List.getElem_cons_succ, List.setIfInBounds_toArray, List.set_cons_zero, List.set_cons_succ])
  have HH : Hid (Below w6.heap.size w6 C14) := hC4
  refine wpAnyB_ready (rs := [27]) (by kernel_rfl) (by simp) ?_
  refine AllReadyB.cons rfl (fun K hK => ?_) AllReadyB.nil
  go_simp
  go_at_call 17
  refine (spec_ValueSame a b C14 _ _ FA FB (HA6.out.below HH.out UA6.out) (HB6.out.below HH.out UB6.out) (UA6.out.mono HH.out.size) (UB6.out.mono HH.out.size)).mono ?_
  rintro e C15 ⟨rfl, hb15⟩
  have hC5 : Below w6.heap.size w6 C15 := hC4.trans (hb15.mono hC4.size)
  have hS5 := HS.out _ hC5
  rw [HSM.out]
  clear HH
  (try dsimp only)
  refine hK.out _ _ hS5 (fun _ => trivial) ?_
  clear hK K
  (try simp only [Act.put, List.getElem_toArray, List.getElem_cons_zero, List.getElem_cons_succ, List.setIfInBounds_toArray, List.set_cons_zero, List.set_cons_succ])
  refine wpAnyB_take (i := 28) (v := ?_) rfl (by decide) (by kernel_rfl) (by kernel_rfl) (by kernel_rfl) (fun _ _ _ h => h) (Or.inl ⟨by rfl, ?hy28⟩) hS5 (fun _ => hT0) ?_
  case hy28 => (intro W hSw; (try dsimp only at hSw); (try obtain ⟨hSw0, hSw1, hSw2, hSw3, hSw4, hSw5⟩ := hSw); go_simp; try with_reducible rfl)
  (try simp only [Act.put, List.getElem_toArray, List.getElem_cons_zero, List.getElem_cons_succ, List.setIfInBounds_toArray, List.set_cons_zero, List.set_cons_succ])
  refine wpAnyB_take (i := 29) (v := ?_) rfl (by decide) (by kernel_rfl) (by kernel_rfl) (by kernel_rfl) (fun _ _ _ h => h) (Or.inl ⟨by rfl, ?hy29⟩) hS5 (fun _ => hT0) ?_
  case hy29 => (intro W hSw; (try dsimp only at hSw); (try obtain ⟨hSw0, hSw1, hSw2, hSw3, hSw4, hSw5⟩ := hSw); go_simp; try with_reducible rfl)
  (try simp only [Act.put, List.getElem_toArray, List.getElem_cons_zero, List.getElem_cons_succ, List.setIfInBounds_toArray, List.set_cons_zero, List.set_cons_succ])
  refine wpAnyB_end (by kernel_rfl) ?_
  clear hS0 hS1 hS2 hS3 hS4 hS5 hT0
  have hb7 := hC5
  obtain ⟨w7, hw7⟩ : ∃ X, X = C15 := ⟨_, rfl⟩
  rw [← hw7] at hb7 ⊢
  clear hw7
  have hB7 := hB6.trans (hb7.mono hB6.size)
  have KA7 := Lib.hid (KA6.out.same (hb7.block _ KA6.out.lt))
  have HA7 := Lib.hid (HA6.out.below hb7 UA6.out)
  have UA7 := Lib.hid (UA6.out.mono hb7.size)
  clear KA6 HA6 UA6
  have KX7 := Lib.hid (KX6.out.same (hb7.block _ KX6.out.lt))
  have HX7 := Lib.hid (HX6.out.below hb7 UX6.out)
  have UX7 := Lib.hid (UX6.out.mono hb7.size)
  clear KX6 HX6 UX6
  clear hB6 hb7
  cases gc : decide (0 < c) with
  | true =>
    go_wp2
    go_ret
    exact ⟨rfl, hB7⟩
  | false =>
    cases gd : decide (0 < d) with
    | true =>
      go_wp2
      go_ret
      exact ⟨rfl, hB7⟩
    | false =>
      have hle := cmp_law a b x (by rw [HC.out]; exact of_decide_eq_false gc) (by rw [HD.out]; exact of_decide_eq_false gd)
      have cA0 : w7.cell? ⟨w1.heap.size, 0, none⟩ = some (.int .i64 a.c) := (KA7.out.cell 0).trans (by simp)
      have cA1 : w7.cell? ⟨w1.heap.size, 1, none⟩ = some (.int .i64 a.n) := (KA7.out.cell 1).trans (by simp)
      have cA2 : w7.cell? ⟨w1.heap.size, 2, none⟩ = some (.slice aA a.ks.length acap) := (KA7.out.cell 2).trans (by simp)
      have lA := KA7.out.lt
      have cX0 : w7.cell? ⟨w4.heap.size, 0, none⟩ = some (.int .i64 x.c) := (KX7.out.cell 0).trans (by simp)
      have cX1 : w7.cell? ⟨w4.heap.size, 1, none⟩ = some (.int .i64 x.n) := (KX7.out.cell 1).trans (by simp)
      have cX2 : w7.cell? ⟨w4.heap.size, 2, none⟩ = some (.slice xA x.ks.length xcap) := (KX7.out.cell 2).trans (by simp)
      have lX := KX7.out.lt
      go_wp2_with fail
      clear cA0 cA1 cA2 lA cX0 cX1 cX2 lX
      refine (impl_CompareValues a x w7 _ _ FA FX HA7.out HX7.out UA7.out UX7.out).mono ?_
      rintro e w8 ⟨rfl, hb8⟩
      have hB8 := hB7.trans (hb8.mono hB7.size)
      have gl : decide (V.cmp a x ≤ 0) = true := decide_eq_true hle
      generalize V.cmp a x = u at gl ⊢
      clear hle
      go_wp2
      go_ret
      exact ⟨rfl, hB8⟩
end Go.Proofs.Ytgckkiencmickaa.fnCompareValues

namespace Go.Proofs.Ytgckkiencmickaa.fnCompareValues
open Go.ChangeShapes Go.WideShapes Go.ChangeAt Go.RowKit
open Go.ChangeMaps (open_string shut_string)
set_option linter.unusedVariables false

theorem own : ownKnob Try.prog.godebug = none := by kernel_rfl
theorem laidOut : laidOutB Try.prog = true := by kernel_rfl

set_option maxRecDepth 100000 in
theorem lifted (os : Os) (started : os.Started) (H : Type) (enc : TypeId × Value → H) :
    ReturnsInHanded {} Try.checked os 4 .any (Rows.fnCompareValuesSpec.pre6 enc Try.prog Try.f4 Rows.fnCompareValuesRow.domain false) (Rows.fnCompareValuesSpec.post enc Try.prog Try.f4 false true false false) := by
  refine returnsInHanded_of_change (C := Try.checked) own started (by kernel_rfl) Try.func4
    (ChangeSpec.witness6 (enc := enc) (C := Try.checked) false ⟨#[], #[.slice none 0 0, .slice none 0 0], []⟩ 8 (by kernel_rfl) (by kernel_rfl) (by kernel_rfl) (by kernel_rfl)) ?_
  intro W base args ds gs before hval0 hW hcnd _
  have hval : ∀ (j : Nat) t v, Try.f4.params[j]? = some t → args[j]? = some v → Value.okWide Try.prog W .any base t v := hval0
  have hW' := hW
  obtain ⟨p, q, hA0, hV, rfl, hfz, hnd⟩ := hW
  have hA : DataW.TrodAll enc Try.prog W 0 (fun _ => true) true Try.f4.params.toList args.toList ds p := hA0
  rw [Try.params4] at hA hval
  obtain ⟨v0, vs0, d0, ds0, p0, q0, hargs, rfl, rfl, h0, r0⟩ := trodAll_cons hA
  obtain ⟨v1, vs1, d1, ds1, p1, q1, rfl, rfl, rfl, h1, r1⟩ := trodAll_cons r0
  obtain ⟨rfl, rfl, rfl⟩ := trodAll_nil r1
  obtain rfl : args = #[v0, v1] := by cases args; simp_all
  obtain ⟨rfl, rfl⟩ := trodVars_none hV
  have k0 := h0
  have lt0 : ∀ x ∈ p0, x.block < W.heap.size := by obtain ⟨m, hm⟩ := k0; exact DataW.trod_lt m _ _ _ hm
  have k1 := h1
  have lt1 : ∀ x ∈ p1, x.block < W.heap.size := by obtain ⟨m, hm⟩ := k1; exact DataW.trod_lt m _ _ _ hm
  obtain ⟨x0, F0, hR0, hU0⟩ := open_Bytes (hval 0 22 v0 rfl rfl) h0
  obtain ⟨x1, F1, hR1, hU1⟩ := open_Bytes (hval 1 22 v1 rfl rfl) h1
  clear hA0 hval0
  refine (walk x0 v0 F0 hR0 hU0 x1 v1 F1 hR1 hU1 W rfl).mono fun e W' ⟨he, bel⟩ => ?_
  subst he
  exact ⟨_, rfl, _, _, _, [], _, [], hW', trodAll_mk1 (shut_bool Try.underlying4 _), (trodAll_cons_mk (Below.trod laidOut (by kernel_rfl) (of_decide_eq_true (by kernel_rfl)) k0 bel lt0) (trodAll_cons_mk (Below.trod laidOut (by kernel_rfl) (of_decide_eq_true (by kernel_rfl)) k1 bel lt1) trodAll_mk0)), rfl, bel.frame _, fun h => by cases h⟩

set_option maxHeartbeats 4000000 in
theorem closed : joinedFacts Try.pinned.checked.prog 4 Try.f4 Rows.fnCompareValuesSpec Rows.fnCompareValuesRow = true := by
  unfold joinedFacts
  have key : ∀ a b : Bool, a = true → b = true → (a && b) = true := fun a b h1 h2 => by rw [h1, h2]; rfl
  repeat' (with_reducible refine key _ _ ?_ ?_)
  all_goals as_aux_lemma => kernel_rfl

theorem over : Rows.fnCompareValuesRow.holds Try.pinned (OpenSpec.ofChange Rows.fnCompareValuesSpec) :=
  OpenClaim.holds_of_wide 4 Try.f4 rfl rfl rfl rfl rfl rfl rfl ⟨rfl, rfl, rfl, rfl, rfl⟩ rfl rfl rfl rfl rfl (by kernel_rfl) Try.func4 closed
    (of_decide_eq_true (by kernel_rfl)) (by unfold Func.isWrapper; first | (rw [if_pos (by decide +kernel)]; kernel_rfl) | (rw [if_neg (by decide +kernel)]; exact ⟨rfl, rfl⟩))
    (fun os started H enc _ => lifted os started H enc)

theorem proved : Rows.FnCompareValuesSaid := over
end Go.Proofs.Ytgckkiencmickaa.fnCompareValues
