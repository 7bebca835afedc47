/-
  FnValueFound: for every argument the law returns true. Conditions: none.
-/
import Derived.Test.YtgckkiencmickaaKAH
import Derived.Test.YtgckkiencmickaaKAJ
import Derived.Test.YtgckkiencmickaaKAL
import Derived.Test.YtgckkiencmickaaKAI
import Derived.Test.YtgckkiencmickaaKAC
import Derived.Deep.RegionWith
import Derived.Deep.RegionHeld3
import Derived.BigQuiet
import Derived.Test.YtgckkiencmickaaRows
import Derived.ProofKit
import Derived.OpenShut
import Derived.ShutString
import Derived.ChangeOld
import Derived.Below

set_option linter.unusedVariables false
set_option linter.unusedSimpArgs false

namespace Go.Proofs.Ytgckkiencmickaa.fnValueFound
open Go.RowKit

set_option maxRecDepth 100000 in
set_option maxHeartbeats 6400000 in
theorem walk {W : World} (x0 : List Int) (v0 : Value) (F0 : List Nat) (hR0 : Arr W (ByR W) x0 v0 F0) (hU0 : Under W.heap.size F0) (w : World) (hw : w = W) :
    Calls Try.prog 6 #[v0] w fun e w' => e = .returned (.bool true) ∧ Below w.heap.size w w' := by
  subst hw
  obtain ⟨A0, cap0, rfl, -, -⟩ := hR0.form
  have HR0 := Lib.hid hR0
  have HU0 := Lib.hid hU0
  clear hR0 hU0
  by_cases hlen : 1048576 < x0.length
  · have t0 : decide ((x0.length : Int) > 1048576) = true := decide_eq_true (by omega)
    go_enter Try.func6, Try.ntmps6
    go_wp2
    go_ret
    exact ⟨rfl, Below.refl _ _⟩
  have t0 : decide ((x0.length : Int) > 1048576) = false := decide_eq_false (by omega)
  go_enter Try.func6, Try.ntmps6
  go_wp2_with fail
  refine (spec_DrawValueValid x0 w _ F0 HR0.out HU0.out).mono ?_
  rintro e w1 ⟨xs, v1, FX, t, a, csa, FA, rfl, hb1, hx, hfx, hpa, hfa, hna⟩
  obtain ⟨kva, rfl, haa⟩ := (VR_iff _ _ _).1 hpa
  obtain ⟨aA, acap, rfl, -, -⟩ := haa.form
  obtain ⟨xA, xcap, rfl, -, -⟩ := hx.form
  have HSZ : Hid (a.size ≤ 1048576) := by unfold nodes at hna; unfold Hid; omega
  have hb2 : Below w1.heap.size w1 ((w1.alloc (.cells #[.int .i64 t.d, .int .i64 t.i] 36)).alloc (.cells #[.int .i64 a.c, .int .i64 a.n, .slice aA a.ks.length acap] 25)) := ((Below.refl _ _).alloc (Nat.le_refl _) _).alloc (by simp) _
  have hB2 : Below w.heap.size w ((w1.alloc (.cells #[.int .i64 t.d, .int .i64 t.i] 36)).alloc (.cells #[.int .i64 a.c, .int .i64 a.n, .slice aA a.ks.length acap] 25)) := hb1.trans (hb2.mono hb1.size)
  have KT2 : Hid (Blk ((w1.alloc (.cells #[.int .i64 t.d, .int .i64 t.i] 36)).alloc (.cells #[.int .i64 a.c, .int .i64 a.n, .slice aA a.ks.length acap] 25)) w1.heap.size 36 #[.int .i64 t.d, .int .i64 t.i]) := (Blk.new w1 _ _).same (Below.heap_alloc _ _ _ (by simp))
  have KA2 : Hid (Blk ((w1.alloc (.cells #[.int .i64 t.d, .int .i64 t.i] 36)).alloc (.cells #[.int .i64 a.c, .int .i64 a.n, .slice aA a.ks.length acap] 25)) (w1.heap.size + 1) 25 #[.int .i64 a.c, .int .i64 a.n, .slice aA a.ks.length acap]) := blk_second w1 _ 25 _
  have HX2 := Lib.hid (ArrDt.below hx hb2 hfx.under)
  have UX2 : Hid (Under (((w1.alloc (.cells #[.int .i64 t.d, .int .i64 t.i] 36)).alloc (.cells #[.int .i64 a.c, .int .i64 a.n, .slice aA a.ks.length acap] 25))).heap.size FX) := hfx.under.mono hb2.size
  have HA2 := Lib.hid (hpa.below hb2 hfa.under)
  have UA2 : Hid (Under (((w1.alloc (.cells #[.int .i64 t.d, .int .i64 t.i] 36)).alloc (.cells #[.int .i64 a.c, .int .i64 a.n, .slice aA a.ks.length acap] 25))).heap.size FA) := hfa.under.mono hb2.size
  clear hx hfx hpa hfa hna haa hb1 hb2 HR0 HU0
  go_wp2_with fail
  obtain ⟨w2, hw2⟩ : ∃ X, X = ((w1.alloc (.cells #[.int .i64 t.d, .int .i64 t.i] 36)).alloc (.cells #[.int .i64 a.c, .int .i64 a.n, .slice aA a.ks.length acap] 25)) := ⟨_, rfl⟩
  rw [← hw2] at hB2 KT2 KA2 HX2 UX2 HA2 UA2 ⊢
  clear hw2
  have cT0 : w2.cell? ⟨w1.heap.size, 0, none⟩ = some (.int .i64 t.d) := (KT2.out.cell 0).trans (by simp)
  have cT1 : w2.cell? ⟨w1.heap.size, 1, none⟩ = some (.int .i64 t.i) := (KT2.out.cell 1).trans (by simp)
  have lT := KT2.out.lt
  have cA0 : w2.cell? ⟨w1.heap.size + 1, 0, none⟩ = some (.int .i64 a.c) := (KA2.out.cell 0).trans (by simp)
  have cA1 : w2.cell? ⟨w1.heap.size + 1, 1, none⟩ = some (.int .i64 a.n) := (KA2.out.cell 1).trans (by simp)
  have cA2 : w2.cell? ⟨w1.heap.size + 1, 2, none⟩ = some (.slice aA a.ks.length acap) := (KA2.out.cell 2).trans (by simp)
  have lA := KA2.out.lt
  go_wp2_with fail
  clear cT0 cT1 lT cA0 cA1 cA2 lA
  refine (impl_ValueValid xs t a w2 _ FX _ FA HX2.out UX2.out HA2.out UA2.out HSZ.out).mono ?_
  rintro e w3 ⟨rfl, hb3⟩
  have hB3 := hB2.trans (hb3.mono hB2.size)
  have KT3 := Lib.hid (KT2.out.same (hb3.block _ KT2.out.lt))
  have KA3 := Lib.hid (KA2.out.same (hb3.block _ KA2.out.lt))
  have HX3 := Lib.hid (ArrDt.below HX2.out hb3 UX2.out)
  have UX3 := Lib.hid (UX2.out.mono hb3.size)
  have HA3 := Lib.hid (HA2.out.below hb3 UA2.out)
  have UA3 := Lib.hid (UA2.out.mono hb3.size)
  clear hB2 KT2 KA2 HX2 UX2 HA2 UA2 hb3
  obtain ⟨ok, hok⟩ : ∃ s, valueValidB xs t a = s := ⟨_, rfl⟩
  rw [hok]
  have HOK := Lib.hid hok
  clear hok
  have cT0 : w3.cell? ⟨w1.heap.size, 0, none⟩ = some (.int .i64 t.d) := (KT3.out.cell 0).trans (by simp)
  have cT1 : w3.cell? ⟨w1.heap.size, 1, none⟩ = some (.int .i64 t.i) := (KT3.out.cell 1).trans (by simp)
  have lT := KT3.out.lt
  have cA0 : w3.cell? ⟨w1.heap.size + 1, 0, none⟩ = some (.int .i64 a.c) := (KA3.out.cell 0).trans (by simp)
  have cA1 : w3.cell? ⟨w1.heap.size + 1, 1, none⟩ = some (.int .i64 a.n) := (KA3.out.cell 1).trans (by simp)
  have cA2 : w3.cell? ⟨w1.heap.size + 1, 2, none⟩ = some (.slice aA a.ks.length acap) := (KA3.out.cell 2).trans (by simp)
  have lA := KA3.out.lt
  go_wp2_with fail
  clear cT0 cT1 lT cA0 cA1 cA2 lA
  refine (spec_ValueValid xs t a w3 _ FX _ FA HX3.out UX3.out HA3.out UA3.out HSZ.out).mono ?_
  rintro e w4 ⟨rfl, hb4⟩
  rw [HOK.out]
  have hB4 := hB3.trans (hb4.mono hB3.size)
  have KT4 := Lib.hid (KT3.out.same (hb4.block _ KT3.out.lt))
  have KA4 := Lib.hid (KA3.out.same (hb4.block _ KA3.out.lt))
  have HX4 := Lib.hid (ArrDt.below HX3.out hb4 UX3.out)
  have UX4 := Lib.hid (UX3.out.mono hb4.size)
  have HA4 := Lib.hid (HA3.out.below hb4 UA3.out)
  have UA4 := Lib.hid (UA3.out.mono hb4.size)
  clear hB3 KT3 KA3 HX3 UX3 HA3 UA3 hb4
  have heq : (ok == ok) = true := by cases ok <;> rfl
  have hne : (ok != ok) = false := by cases ok <;> rfl
  cases ok with
  | false =>
    have cT0 : w4.cell? ⟨w1.heap.size, 0, none⟩ = some (.int .i64 t.d) := (KT4.out.cell 0).trans (by simp)
    have cT1 : w4.cell? ⟨w1.heap.size, 1, none⟩ = some (.int .i64 t.i) := (KT4.out.cell 1).trans (by simp)
    have lT := KT4.out.lt
    have cA0 : w4.cell? ⟨w1.heap.size + 1, 0, none⟩ = some (.int .i64 a.c) := (KA4.out.cell 0).trans (by simp)
    have cA1 : w4.cell? ⟨w1.heap.size + 1, 1, none⟩ = some (.int .i64 a.n) := (KA4.out.cell 1).trans (by simp)
    have cA2 : w4.cell? ⟨w1.heap.size + 1, 2, none⟩ = some (.slice aA a.ks.length acap) := (KA4.out.cell 2).trans (by simp)
    have lA := KA4.out.lt
    go_wp2_with fail
    clear cT0 cT1 lT cA0 cA1 cA2 lA
    refine (spec_ValueValid xs t a w4 _ FX _ FA HX4.out UX4.out HA4.out UA4.out HSZ.out).mono ?_
    rintro e w5 ⟨rfl, hb5⟩
    rw [HOK.out]
    have hB5 := hB4.trans (hb5.mono hB4.size)
    go_wp2
    go_ret
    exact ⟨rfl, hB5⟩
  | true =>
    have hdl : a.depth ≤ 1048577 := by have := V.depth_le a; have := HSZ.out; omega
    have HFM : Hid (uptoB xs t (a.depth : Int) = true → a ∈ uptoV xs t (a.depth : Int)) := fun h => found_mem HOK.out h
    have hvl : (uptoV xs t (a.depth : Int)).length ≤ 400 := upto_len
    obtain ⟨N, hN⟩ : ∃ N, N = a.depth := ⟨_, rfl⟩
    rw [← hN] at HFM hvl
    have HN := Lib.hid hN
    clear hN hdl
    have cT0 : w4.cell? ⟨w1.heap.size, 0, none⟩ = some (.int .i64 t.d) := (KT4.out.cell 0).trans (by simp)
    have cT1 : w4.cell? ⟨w1.heap.size, 1, none⟩ = some (.int .i64 t.i) := (KT4.out.cell 1).trans (by simp)
    have lT := KT4.out.lt
    have cA0 : w4.cell? ⟨w1.heap.size + 1, 0, none⟩ = some (.int .i64 a.c) := (KA4.out.cell 0).trans (by simp)
    have cA1 : w4.cell? ⟨w1.heap.size + 1, 1, none⟩ = some (.int .i64 a.n) := (KA4.out.cell 1).trans (by simp)
    have cA2 : w4.cell? ⟨w1.heap.size + 1, 2, none⟩ = some (.slice aA a.ks.length acap) := (KA4.out.cell 2).trans (by simp)
    have lA := KA4.out.lt
    go_wp2_with fail
    have HS : Hid (∀ C : World, Below w4.heap.size w4 C → (C.cell? ⟨w1.heap.size, 0, none⟩ = some (.int .i64 t.d) ∧ C.cell? ⟨w1.heap.size, 1, none⟩ = some (.int .i64 t.i) ∧ C.cell? ⟨w1.heap.size + 1, 0, none⟩ = some (.int .i64 a.c) ∧ C.cell? ⟨w1.heap.size + 1, 1, none⟩ = some (.int .i64 a.n) ∧ C.cell? ⟨w1.heap.size + 1, 2, none⟩ = some (.slice aA a.ks.length acap))) := fun C hb => ⟨(hb.cell (lT)).trans cT0, (hb.cell (lT)).trans cT1, (hb.cell (lA)).trans cA0, (hb.cell (lA)).trans cA1, (hb.cell (lA)).trans cA2⟩
    have hC0 : Below w4.heap.size w4 w4.drew := (Below.refl _ _).drew
    refine wp_region_B (S := fun w' => w'.cell? ⟨w1.heap.size, 0, none⟩ = some (.int .i64 t.d) ∧ w'.cell? ⟨w1.heap.size, 1, none⟩ = some (.int .i64 t.i) ∧ w'.cell? ⟨w1.heap.size + 1, 0, none⟩ = some (.int .i64 a.c) ∧ w'.cell? ⟨w1.heap.size + 1, 1, none⟩ = some (.int .i64 a.n) ∧ w'.cell? ⟨w1.heap.size + 1, 2, none⟩ = some (.slice aA a.ks.length acap)) (T := fun _ => True) (d := 99) (by kernel_rfl) ?_
    obtain ⟨wd, hwd⟩ : ∃ X, X = w4.drew := ⟨_, rfl⟩
    rw [← hwd] at hC0  ⊢
    clear hwd
    have hS0 := HS.out _ hC0
    have hT0 : True := trivial
    refine wpAnyB_take (i := 0) (v := ?_) rfl (by decide) (by kernel_rfl) (by kernel_rfl) (by kernel_rfl) (fun _ _ _ h => h) (Or.inl ⟨by rfl, ?hy0⟩) hS0 (fun _ => hT0) ?_
    case hy0 => (intro W hSw; (try dsimp only at hSw); (try obtain ⟨hSw0, hSw1, hSw2, hSw3, hSw4⟩ := hSw); go_simp; try with_reducible rfl)
    (try simp only [Act.put, List.getElem_toArray, List.getElem_cons_zero, List.getElem_cons_succ, List.setIfInBounds_toArray, List.set_cons_zero, List.set_cons_succ])
    refine wpAnyB_take (i := 1) (v := ?_) rfl (by decide) (by kernel_rfl) (by kernel_rfl) (by kernel_rfl) (fun _ _ _ h => h) (Or.inl ⟨by rfl, ?hy1⟩) hS0 (fun _ => hT0) ?_
    case hy1 => (intro W hSw; (try dsimp only at hSw); (try obtain ⟨hSw0, hSw1, hSw2, hSw3, hSw4⟩ := hSw); go_simp; try with_reducible rfl)
    (try simp only [Act.put, List.getElem_toArray, List.getElem_cons_zero, List.getElem_cons_succ, List.setIfInBounds_toArray, List.set_cons_zero, List.set_cons_succ])
    refine wpAnyB_take (i := 2) (v := ?_) rfl (by decide) (by kernel_rfl) (by kernel_rfl) (by kernel_rfl) (fun _ _ _ h => h) (Or.inl ⟨by rfl, ?hy2⟩) hS0 (fun _ => hT0) ?_
    case hy2 => (intro W hSw; (try dsimp only at hSw); (try obtain ⟨hSw0, hSw1, hSw2, hSw3, hSw4⟩ := hSw); go_simp; try with_reducible rfl)
    (try simp only [Act.put, List.getElem_toArray, List.getElem_cons_zero, List.getElem_cons_succ, List.setIfInBounds_toArray, List.set_cons_zero, List.set_cons_succ])
    have HAd := Lib.hid (HA4.out.below hC0 UA4.out)
    have UAd := Lib.hid (UA4.out.mono hC0.size)
    refine wpAnyB_ready (rs := [3]) (by kernel_rfl) (by simp) ?_
    refine AllReadyB.cons rfl (fun K hK => ?_) AllReadyB.nil
    go_simp
    go_at_call 11
    refine (impl_DepthOf a wd _ FA HAd.out UAd.out HSZ.out).mono ?_
    rintro e C5 ⟨rfl, hb5⟩
    have hC1 : Below w4.heap.size w4 C5 := hC0.trans (hb5.mono hC0.size)
    have hS1 := HS.out _ hC1
    rw [← HN.out]
    (try dsimp only)
    refine hK.out _ _ hS1 (fun _ => trivial) ?_
    clear hK K
    (try simp only [Act.put, List.getElem_toArray, List.getElem_cons_zero, List.getElem_cons_succ, List.setIfInBounds_toArray, List.set_cons_zero, List.set_cons_succ])
    have HXd := Lib.hid (ArrDt.below HX4.out hC1 UX4.out)
    have UXd := Lib.hid (UX4.out.mono hC1.size)
    refine wpAnyB_ready (rs := [4]) (by kernel_rfl) (by simp) ?_
    refine AllReadyB.cons rfl (fun K hK => ?_) AllReadyB.nil
    go_simp
    go_at_call 22
    refine (impl_ValuesUpTo xs t (N : Int) C5 _ FX HXd.out UXd.out).mono ?_
    rintro e C6 ⟨vL, FL, rfl, hb6, hls, -, hfl⟩
    have hC2 : Below w4.heap.size w4 C6 := hC1.trans (hb6.mono hC1.size)
    have hS2 := HS.out _ hC2
    (try dsimp only)
    refine hK.out _ _ hS2 (fun _ => trivial) ?_
    clear hK K
    (try simp only [Act.put, List.getElem_toArray, List.getElem_cons_zero, List.getElem_cons_succ, List.setIfInBounds_toArray, List.set_cons_zero, List.set_cons_succ])
    refine wpAnyB_take (i := 5) (v := ?_) rfl (by decide) (by kernel_rfl) (by kernel_rfl) (by kernel_rfl) (fun _ _ _ h => h) (Or.inl ⟨by rfl, ?hy5⟩) hS2 (fun _ => hT0) ?_
    case hy5 => (intro W hSw; (try dsimp only at hSw); (try obtain ⟨hSw0, hSw1, hSw2, hSw3, hSw4⟩ := hSw); go_simp; try with_reducible rfl)
    (try simp only [Act.put, List.getElem_toArray, List.getElem_cons_zero, List.getElem_cons_succ, List.setIfInBounds_toArray, List.set_cons_zero, List.set_cons_succ])
    refine wpAnyB_take (i := 6) (v := ?_) rfl (by decide) (by kernel_rfl) (by kernel_rfl) (by kernel_rfl) (fun _ _ _ h => h) (Or.inl ⟨by rfl, ?hy6⟩) hS2 (fun _ => hT0) ?_
    case hy6 => (intro W hSw; (try dsimp only at hSw); (try obtain ⟨hSw0, hSw1, hSw2, hSw3, hSw4⟩ := hSw); go_simp; try with_reducible rfl)
    (try simp only [Act.put, List.getElem_toArray, List.getElem_cons_zero, List.getElem_cons_succ, List.setIfInBounds_toArray, List.set_cons_zero, List.set_cons_succ])
    refine wpAnyB_take (i := 7) (v := ?_) rfl (by decide) (by kernel_rfl) (by kernel_rfl) (by kernel_rfl) (fun _ _ _ h => h) (Or.inl ⟨by rfl, ?hy7⟩) hS2 (fun _ => hT0) ?_
    case hy7 => (intro W hSw; (try dsimp only at hSw); (try obtain ⟨hSw0, hSw1, hSw2, hSw3, hSw4⟩ := hSw); go_simp; try with_reducible rfl)
    (try simp only [Act.put, List.getElem_toArray, List.getElem_cons_zero, List.getElem_cons_succ, List.setIfInBounds_toArray, List.set_cons_zero, List.set_cons_succ])
    refine wpAnyB_take (i := 8) (v := ?_) rfl (by decide) (by kernel_rfl) (by kernel_rfl) (by kernel_rfl) (fun _ _ _ h => h) (Or.inl ⟨by rfl, ?hy8⟩) hS2 (fun _ => hT0) ?_
    case hy8 => (intro W hSw; (try dsimp only at hSw); (try obtain ⟨hSw0, hSw1, hSw2, hSw3, hSw4⟩ := hSw); go_simp; try with_reducible rfl)
    (try simp only [Act.put, List.getElem_toArray, List.getElem_cons_zero, List.getElem_cons_succ, List.setIfInBounds_toArray, List.set_cons_zero, List.set_cons_succ])
    refine wpAnyB_take (i := 9) (v := ?_) rfl (by decide) (by kernel_rfl) (by kernel_rfl) (by kernel_rfl) (fun _ _ _ h => h) (Or.inl ⟨by rfl, ?hy9⟩) hS2 (fun _ => hT0) ?_
    case hy9 => (intro W hSw; (try dsimp only at hSw); (try obtain ⟨hSw0, hSw1, hSw2, hSw3, hSw4⟩ := hSw); go_simp; try with_reducible rfl)
    (try simp only [Act.put, List.getElem_toArray, List.getElem_cons_zero, List.getElem_cons_succ, List.setIfInBounds_toArray, List.set_cons_zero, List.set_cons_succ])
    refine wpAnyB_end (by kernel_rfl) ?_
    clear hS0 hS1 hS2 hT0
    clear cT0 cT1 cA0 cA1 cA2 lT lA
    obtain ⟨w5, hw5⟩ : ∃ X, X = C6 := ⟨_, rfl⟩
    have hb5 := hC2
    rw [← hw5] at hb5 hls hfl ⊢
    clear hw5 hC0 hC1 hC2
    have hB5 := hB4.trans (hb5.mono hB4.size)
    have KT5 := Lib.hid (KT4.out.same (hb5.block _ KT4.out.lt))
    have KA5 := Lib.hid (KA4.out.same (hb5.block _ KA4.out.lt))
    have HX5 := Lib.hid (ArrDt.below HX4.out hb5 UX4.out)
    have UX5 := Lib.hid (UX4.out.mono hb5.size)
    have HA5 := Lib.hid (HA4.out.below hb5 UA4.out)
    have UA5 := Lib.hid (UA4.out.mono hb5.size)
    clear hB4 KT4 KA4 HX4 UX4 HA4 UA4 hb5
    obtain ⟨vs, hvs⟩ : ∃ l, l = uptoV xs t (N : Int) := ⟨_, rfl⟩
    obtain ⟨fb, hfb⟩ : ∃ b, b = uptoB xs t (N : Int) := ⟨_, rfl⟩
    rw [← hvs] at hls hvl HFM
    rw [← hfb] at HFM
    rw [← hfb]
    clear hvs hfb
    obtain ⟨vA, vcap, rfl, -, -⟩ := hls.form
    have HL5 := Lib.hid hls
    have UL5 := Lib.hid hfl.under
    clear hls hfl heq hne
    go_wp2
    go_loopw [9] (fun iv wr => ∃ j : Nat, j ≤ vs.length ∧ iv = .int .i64 j ∧ Hid (∀ (m : Nat) (h : m < vs.length), m < j → vs[m] ≠ a) ∧ Below w5.heap.size w5 wr) (fun iv _ => vs.length - (intOf iv).toNat)
    case atStart => exact ⟨0, Nat.zero_le _, rfl, (fun m h hm => absurd hm (Nat.not_lt_zero m)), Below.refl _ _⟩
    case round =>
      obtain ⟨j, hj, rfl, HNO, hbr⟩ := hrel
      by_cases hlt : j < vs.length
      · obtain ⟨bl, offl, rfl⟩ := HL5.out.ptr (by omega)
        obtain ⟨A9, cap9, G, hlb, l0, l1, l2, HV, HG, hGF, -, -⟩ := ArrV.at HL5.out UL5.out hbr j hlt
        have KAr := Lib.hid (KA5.out.same (hbr.block _ KA5.out.lt))
        have cA0 : wr.cell? ⟨w1.heap.size + 1, 0, none⟩ = some (.int .i64 a.c) := (KAr.out.cell 0).trans (by simp)
        have cA1 : wr.cell? ⟨w1.heap.size + 1, 1, none⟩ = some (.int .i64 a.n) := (KAr.out.cell 1).trans (by simp)
        have cA2 : wr.cell? ⟨w1.heap.size + 1, 2, none⟩ = some (.slice aA a.ks.length acap) := (KAr.out.cell 2).trans (by simp)
        have lA := KAr.out.lt
        have g1 : (0 : Int) ≤ (j : Int) := by omega
        have g2 : (j : Int) < (vs.length : Int) := by omega
        have HAr := Lib.hid (HA5.out.below hbr UA5.out)
        have UAr := Lib.hid (UA5.out.mono hbr.size)
        have HVr := Lib.hid (HV.out.below hbr HG.out)
        have UVr := Lib.hid (HG.out.mono hbr.size)
        obtain ⟨kj, hkj⟩ : ∃ k, k = vs[j] := ⟨_, rfl⟩
        rw [← hkj] at HVr HV l0 l1 l2
        have HKJ := Lib.hid hkj
        clear hkj hGF HV HG
        go_wp2_with fail
        have HS : Hid (∀ C : World, Below wr.heap.size wr C → (C.cell? ⟨bl, offl + j * 3, none⟩ = some (.int .i64 kj.c) ∧ C.cell? ⟨bl, offl + j * 3 + 1, none⟩ = some (.int .i64 kj.n) ∧ C.cell? ⟨bl, offl + j * 3 + 2, none⟩ = some (.slice A9 kj.ks.length cap9) ∧ C.cell? ⟨w1.heap.size + 1, 0, none⟩ = some (.int .i64 a.c) ∧ C.cell? ⟨w1.heap.size + 1, 1, none⟩ = some (.int .i64 a.n) ∧ C.cell? ⟨w1.heap.size + 1, 2, none⟩ = some (.slice aA a.ks.length acap))) := fun C hb => ⟨(hb.cell (hlb)).trans l0, (hb.cell (hlb)).trans l1, (hb.cell (hlb)).trans l2, (hb.cell (lA)).trans cA0, (hb.cell (lA)).trans cA1, (hb.cell (lA)).trans cA2⟩
        have hC0 : Below wr.heap.size wr wr.drew := (Below.refl _ _).drew
        refine wp_region_B (S := fun w' => w'.cell? ⟨bl, offl + j * 3, none⟩ = some (.int .i64 kj.c) ∧ w'.cell? ⟨bl, offl + j * 3 + 1, none⟩ = some (.int .i64 kj.n) ∧ w'.cell? ⟨bl, offl + j * 3 + 2, none⟩ = some (.slice A9 kj.ks.length cap9) ∧ w'.cell? ⟨w1.heap.size + 1, 0, none⟩ = some (.int .i64 a.c) ∧ w'.cell? ⟨w1.heap.size + 1, 1, none⟩ = some (.int .i64 a.n) ∧ w'.cell? ⟨w1.heap.size + 1, 2, none⟩ = some (.slice aA a.ks.length acap)) (T := fun _ => True) (d := 99) (by kernel_rfl) ?_
        obtain ⟨wd, hwd⟩ : ∃ X, X = wr.drew := ⟨_, rfl⟩
        rw [← hwd] at hC0  ⊢
        clear hwd
        have hS0 := HS.out _ hC0
        have hT0 : True := trivial
        refine wpAnyB_take (i := 0) (v := ?_) rfl (by decide) (by kernel_rfl) (by kernel_rfl) (by kernel_rfl) (fun _ _ _ h => h) (Or.inl ⟨by rfl, ?hy0⟩) hS0 (fun _ => hT0) ?_
        case hy0 => (intro W hSw; (try dsimp only at hSw); (try obtain ⟨hSw0, hSw1, hSw2, hSw3, hSw4, hSw5⟩ := hSw); go_simp; try with_reducible rfl)
        (try simp only [Act.put, List.getElem_toArray, List.getElem_cons_zero, List.getElem_cons_succ, List.setIfInBounds_toArray, List.set_cons_zero, List.set_cons_succ])
        refine wpAnyB_take (i := 1) (v := ?_) rfl (by decide) (by kernel_rfl) (by kernel_rfl) (by kernel_rfl) (fun _ _ _ h => h) (Or.inl ⟨by rfl, ?hy1⟩) hS0 (fun _ => hT0) ?_
        case hy1 => (intro W hSw; (try dsimp only at hSw); (try obtain ⟨hSw0, hSw1, hSw2, hSw3, hSw4, hSw5⟩ := hSw); go_simp; try with_reducible rfl)
        (try simp only [Act.put, List.getElem_toArray, List.getElem_cons_zero, List.getElem_cons_succ, List.setIfInBounds_toArray, List.set_cons_zero, List.set_cons_succ])
        refine wpAnyB_take (i := 2) (v := ?_) rfl (by decide) (by kernel_rfl) (by kernel_rfl) (by kernel_rfl) (fun _ _ _ h => h) (Or.inl ⟨by rfl, ?hy2⟩) hS0 (fun _ => hT0) ?_
        case hy2 => (intro W hSw; (try dsimp only at hSw); (try obtain ⟨hSw0, hSw1, hSw2, hSw3, hSw4, hSw5⟩ := hSw); go_simp; try with_reducible rfl)
        (try simp only [Act.put, List.getElem_toArray, List.getElem_cons_zero, List.getElem_cons_succ, List.setIfInBounds_toArray, List.set_cons_zero, List.set_cons_succ])
        refine wpAnyB_take (i := 3) (v := ?_) rfl (by decide) (by kernel_rfl) (by kernel_rfl) (by kernel_rfl) (fun _ _ _ h => h) (Or.inl ⟨by rfl, ?hy3⟩) hS0 (fun _ => hT0) ?_
        case hy3 => (intro W hSw; (try dsimp only at hSw); (try obtain ⟨hSw0, hSw1, hSw2, hSw3, hSw4, hSw5⟩ := hSw); go_simp; try with_reducible rfl)
        (try simp only [Act.put, List.getElem_toArray, List.getElem_cons_zero, List.getElem_cons_succ, List.setIfInBounds_toArray, List.set_cons_zero, List.set_cons_succ])
        refine wpAnyB_take (i := 4) (v := ?_) rfl (by decide) (by kernel_rfl) (by kernel_rfl) (by kernel_rfl) (fun _ _ _ h => h) (Or.inl ⟨by rfl, ?hy4⟩) hS0 (fun _ => hT0) ?_
        case hy4 => (intro W hSw; (try dsimp only at hSw); (try obtain ⟨hSw0, hSw1, hSw2, hSw3, hSw4, hSw5⟩ := hSw); go_simp; try with_reducible rfl)
        (try simp only [Act.put, List.getElem_toArray, List.getElem_cons_zero, List.getElem_cons_succ, List.setIfInBounds_toArray, List.set_cons_zero, List.set_cons_succ])
        have HAd := Lib.hid (HAr.out.below hC0 UAr.out)
        have UAd := Lib.hid (UAr.out.mono hC0.size)
        have HVd := Lib.hid (HVr.out.below hC0 UVr.out)
        have UVd := Lib.hid (UVr.out.mono hC0.size)
        obtain ⟨sm, hsm⟩ : ∃ s, V.same kj a = s := ⟨_, rfl⟩
        have HSM := Lib.hid hsm
        clear hsm
        refine wpAnyB_ready (rs := [5]) (by kernel_rfl) (by simp) ?_
        refine AllReadyB.cons rfl (fun K hK => ?_) AllReadyB.nil
        go_simp
        go_at_call 16
        refine (impl_ValueSame kj a wd _ _ G FA HVd.out HAd.out UVd.out UAd.out).mono ?_
        rintro e C9 ⟨rfl, hb9⟩
        have hC1 : Below wr.heap.size wr C9 := hC0.trans (hb9.mono hC0.size)
        have hS1 := HS.out _ hC1
        rw [HSM.out]
        (try dsimp only)
        refine hK.out _ _ hS1 (fun _ => trivial) ?_
        clear hK K
        (try simp only [Act.put, List.getElem_toArray, List.getElem_cons_zero, List.getElem_cons_succ, List.setIfInBounds_toArray, List.set_cons_zero, List.set_cons_succ])
        refine wpAnyB_end (by kernel_rfl) ?_
        clear hS0 hS1 hT0
        have hbr9 := hbr.trans (hC1.mono hbr.size)
        clear cA0 cA1 cA2 lA l0 l1 l2 hlb hC0 hC1
        cases sm with
        | true =>
          have hB9 := hB5.trans (hbr9.mono hB5.size)
          go_wp2
          go_ret
          exact ⟨rfl, hB9⟩
        | false =>
          have hno2 : ∀ (m : Nat) (h : m < vs.length), m < j + 1 → vs[m] ≠ a := fun m h hm e => by
            rcases Nat.lt_or_ge m j with h1 | h1
            · exact HNO.out m h h1 e
            · have e2 : m = j := by omega
              subst e2
              have h2 := HSM.out
              rw [HKJ.out, (V.same_iff _ _).2 e] at h2
              cases h2
          have HNO2 := Lib.hid hno2
          clear hno2
          go_wp2
          go_roundw
          case rel => exact ⟨j + 1, by omega, by go_num, HNO2, hbr9⟩
          case measure => (simp [intOf] <;> omega)
      · have hB9 := hB5.trans (hbr.mono hB5.size)
        cases fb with
        | true =>
          obtain ⟨m, hm, e⟩ := List.getElem_of_mem (HFM.out rfl)
          exact absurd e (HNO.out m hm (by omega))
        | false =>
          go_wp2
          go_ret
          exact ⟨rfl, hB9⟩
end Go.Proofs.Ytgckkiencmickaa.fnValueFound

namespace Go.Proofs.Ytgckkiencmickaa.fnValueFound
open Go.ChangeShapes Go.WideShapes Go.ChangeAt Go.RowKit
open Go.ChangeMaps (open_string shut_string)
set_option linter.unusedVariables false

theorem own : ownKnob Try.prog.godebug = none := by kernel_rfl
theorem laidOut : laidOutB Try.prog = true := by kernel_rfl

set_option maxRecDepth 100000 in
theorem lifted (os : Os) (started : os.Started) (H : Type) (enc : TypeId × Value → H) :
    ReturnsInHanded {} Try.checked os 6 .any (Rows.fnValueFoundSpec.pre6 enc Try.prog Try.f6 Rows.fnValueFoundRow.domain false) (Rows.fnValueFoundSpec.post enc Try.prog Try.f6 false true false false) := by
  refine returnsInHanded_of_change (C := Try.checked) own started (by kernel_rfl) Try.func6
    (ChangeSpec.witness6 (enc := enc) (C := Try.checked) false ⟨#[], #[.slice none 0 0], []⟩ 8 (by kernel_rfl) (by kernel_rfl) (by kernel_rfl) (by kernel_rfl)) ?_
  intro W base args ds gs before hval0 hW hcnd _
  have hval : ∀ (j : Nat) t v, Try.f6.params[j]? = some t → args[j]? = some v → Value.okWide Try.prog W .any base t v := hval0
  have hW' := hW
  obtain ⟨p, q, hA0, hV, rfl, hfz, hnd⟩ := hW
  have hA : DataW.TrodAll enc Try.prog W 0 (fun _ => true) true Try.f6.params.toList args.toList ds p := hA0
  rw [Try.params6] at hA hval
  obtain ⟨v0, vs0, d0, ds0, p0, q0, hargs, rfl, rfl, h0, r0⟩ := trodAll_cons hA
  obtain ⟨rfl, rfl, rfl⟩ := trodAll_nil r0
  obtain rfl : args = #[v0] := by cases args; simp_all
  obtain ⟨rfl, rfl⟩ := trodVars_none hV
  have k0 := h0
  have lt0 : ∀ x ∈ p0, x.block < W.heap.size := by obtain ⟨m, hm⟩ := k0; exact DataW.trod_lt m _ _ _ hm
  obtain ⟨x0, F0, hR0, hU0⟩ := open_Bytes (hval 0 22 v0 rfl rfl) h0
  clear hA0 hval0
  refine (walk x0 v0 F0 hR0 hU0 W rfl).mono fun e W' ⟨he, bel⟩ => ?_
  subst he
  exact ⟨_, rfl, _, _, _, [], _, [], hW', trodAll_mk1 (shut_bool Try.underlying4 _), (trodAll_cons_mk (Below.trod laidOut (by kernel_rfl) (of_decide_eq_true (by kernel_rfl)) k0 bel lt0) trodAll_mk0), rfl, bel.frame _, fun h => by cases h⟩

set_option maxHeartbeats 4000000 in
theorem closed : joinedFacts Try.pinned.checked.prog 6 Try.f6 Rows.fnValueFoundSpec Rows.fnValueFoundRow = true := by
  unfold joinedFacts
  have key : ∀ a b : Bool, a = true → b = true → (a && b) = true := fun a b h1 h2 => by rw [h1, h2]; rfl
  repeat' (with_reducible refine key _ _ ?_ ?_)
  all_goals as_aux_lemma => kernel_rfl

theorem over : Rows.fnValueFoundRow.holds Try.pinned (OpenSpec.ofChange Rows.fnValueFoundSpec) :=
  OpenClaim.holds_of_wide 6 Try.f6 rfl rfl rfl rfl rfl rfl rfl ⟨rfl, rfl, rfl, rfl, rfl⟩ rfl rfl rfl rfl rfl (by kernel_rfl) Try.func6 closed
    (of_decide_eq_true (by kernel_rfl)) (by unfold Func.isWrapper; first | (rw [if_pos (by decide +kernel)]; kernel_rfl) | (rw [if_neg (by decide +kernel)]; exact ⟨rfl, rfl⟩))
    (fun os started H enc _ => lifted os started H enc)

theorem proved : Rows.FnValueFoundSaid := over
end Go.Proofs.Ytgckkiencmickaa.fnValueFound
