/-
  FnPatternSame: for every argument the law returns true. Conditions: none.
-/
import Derived.Test.YtilndhmegaccmaaKAI
import Derived.Deep.RegionWith
import Derived.Deep.RegionHeld3
import Derived.BigQuiet
import Derived.Test.YtilndhmegaccmaaRows
import Derived.Test.YtilndhmegaccmaaKAJ
import Derived.ProofKit
import Derived.OpenShut
import Derived.ShutString
import Derived.ChangeOld
import Derived.Below

set_option linter.unusedVariables false
set_option linter.unusedSimpArgs false

namespace Go.Proofs.Ytilndhmegaccmaa.fnPatternSame
open Go.RowKit

set_option maxRecDepth 100000 in
set_option maxHeartbeats 6400000 in
theorem walk {W : World} (x0 : List Int) (v0 : Value) (F0 : List Nat) (hR0 : Arr W (ByR W) x0 v0 F0) (hU0 : Under W.heap.size F0) (w : World) (hw : w = W) :
    Calls Try.prog 3 #[v0] w fun e w' => e = .returned (.bool true) ∧ Below w.heap.size w w' := by
  subst hw
  obtain ⟨A0, cap0, rfl, -, -⟩ := hR0.form
  have HR0 := Lib.hid hR0
  have HU0 := Lib.hid hU0
  clear hR0 hU0
  by_cases hlen : 1048576 < x0.length
  · have t0 : decide ((x0.length : Int) > 1048576) = true := decide_eq_true (by omega)
    go_enter Try.func3, Try.ntmps3
    go_wp2
    go_ret
    exact ⟨rfl, Below.refl _ _⟩
  have t0 : decide ((x0.length : Int) > 1048576) = false := decide_eq_false (by omega)
  go_enter Try.func3, Try.ntmps3
  go_wp2_with fail
  refine (spec_DrawPatternSame x0 w _ F0 HR0.out HU0.out).mono ?_
  rintro e w1 ⟨a, b, csa, csb, FA, FB, rfl, hb1, hpa, hua, hpb, hub, hna, hnb⟩
  obtain ⟨kva, rfl, haa⟩ := (PR_iff _ _ _).1 hpa
  obtain ⟨aA, acap, rfl, -, -⟩ := haa.form
  obtain ⟨kvb, rfl, hbb⟩ := (PR_iff _ _ _).1 hpb
  obtain ⟨bA, bcap, rfl, -, -⟩ := hbb.form
  have hb2 : Below w1.heap.size w1 ((w1.alloc (.cells #[.int .i64 a.op, .int .i64 a.ct, .int .i64 a.n, .int .i64 a.m, .int .i64 a.va, .slice aA a.ks.length acap] 25)).alloc (.cells #[.int .i64 b.op, .int .i64 b.ct, .int .i64 b.n, .int .i64 b.m, .int .i64 b.va, .slice bA b.ks.length bcap] 25)) := ((Below.refl _ _).alloc (Nat.le_refl _) _).alloc (by simp) _
  have hB2 : Below w.heap.size w ((w1.alloc (.cells #[.int .i64 a.op, .int .i64 a.ct, .int .i64 a.n, .int .i64 a.m, .int .i64 a.va, .slice aA a.ks.length acap] 25)).alloc (.cells #[.int .i64 b.op, .int .i64 b.ct, .int .i64 b.n, .int .i64 b.m, .int .i64 b.va, .slice bA b.ks.length bcap] 25)) := hb1.trans (hb2.mono hb1.size)
  have KA2 : Hid (Blk ((w1.alloc (.cells #[.int .i64 a.op, .int .i64 a.ct, .int .i64 a.n, .int .i64 a.m, .int .i64 a.va, .slice aA a.ks.length acap] 25)).alloc (.cells #[.int .i64 b.op, .int .i64 b.ct, .int .i64 b.n, .int .i64 b.m, .int .i64 b.va, .slice bA b.ks.length bcap] 25)) w1.heap.size 25 #[.int .i64 a.op, .int .i64 a.ct, .int .i64 a.n, .int .i64 a.m, .int .i64 a.va, .slice aA a.ks.length acap]) := (Blk.new w1 _ _).same (Below.heap_alloc _ _ _ (by simp))
  have KB2 : Hid (Blk ((w1.alloc (.cells #[.int .i64 a.op, .int .i64 a.ct, .int .i64 a.n, .int .i64 a.m, .int .i64 a.va, .slice aA a.ks.length acap] 25)).alloc (.cells #[.int .i64 b.op, .int .i64 b.ct, .int .i64 b.n, .int .i64 b.m, .int .i64 b.va, .slice bA b.ks.length bcap] 25)) (w1.heap.size + 1) 25 #[.int .i64 b.op, .int .i64 b.ct, .int .i64 b.n, .int .i64 b.m, .int .i64 b.va, .slice bA b.ks.length bcap]) := blk_second w1 _ 25 _
  have HA2 := Lib.hid (hpa.below hb2 hua)
  have HB2 := Lib.hid (hpb.below hb2 hub)
  have UA2 : Hid (Under (((w1.alloc (.cells #[.int .i64 a.op, .int .i64 a.ct, .int .i64 a.n, .int .i64 a.m, .int .i64 a.va, .slice aA a.ks.length acap] 25)).alloc (.cells #[.int .i64 b.op, .int .i64 b.ct, .int .i64 b.n, .int .i64 b.m, .int .i64 b.va, .slice bA b.ks.length bcap] 25))).heap.size FA) := hua.mono hb2.size
  have UB2 : Hid (Under (((w1.alloc (.cells #[.int .i64 a.op, .int .i64 a.ct, .int .i64 a.n, .int .i64 a.m, .int .i64 a.va, .slice aA a.ks.length acap] 25)).alloc (.cells #[.int .i64 b.op, .int .i64 b.ct, .int .i64 b.n, .int .i64 b.m, .int .i64 b.va, .slice bA b.ks.length bcap] 25))).heap.size FB) := hub.mono hb2.size
  have hsy : P.same b a = P.same a b := by
    rw [Bool.eq_iff_iff, P.same_iff, P.same_iff]
    exact ⟨fun h => h.symm, fun h => h.symm⟩
  have HSY := Lib.hid hsy
  have HSA : Hid (P.same a a = true) := (P.same_iff a a).2 rfl
  clear hpa hua hpb hub hna hnb haa hbb hsy hb1 hb2 HR0 HU0
  go_wp2_with fail
  obtain ⟨w2, hw2⟩ : ∃ X, X = ((w1.alloc (.cells #[.int .i64 a.op, .int .i64 a.ct, .int .i64 a.n, .int .i64 a.m, .int .i64 a.va, .slice aA a.ks.length acap] 25)).alloc (.cells #[.int .i64 b.op, .int .i64 b.ct, .int .i64 b.n, .int .i64 b.m, .int .i64 b.va, .slice bA b.ks.length bcap] 25)) := ⟨_, rfl⟩
  rw [← hw2] at hB2 KA2 KB2 HA2 HB2 UA2 UB2 ⊢
  clear hw2
  have ca0 : w2.cell? ⟨w1.heap.size, 0, none⟩ = some (.int .i64 a.op) := (KA2.out.cell 0).trans (by simp)
  have ca1 : w2.cell? ⟨w1.heap.size, 1, none⟩ = some (.int .i64 a.ct) := (KA2.out.cell 1).trans (by simp)
  have ca2 : w2.cell? ⟨w1.heap.size, 2, none⟩ = some (.int .i64 a.n) := (KA2.out.cell 2).trans (by simp)
  have ca3 : w2.cell? ⟨w1.heap.size, 3, none⟩ = some (.int .i64 a.m) := (KA2.out.cell 3).trans (by simp)
  have ca4 : w2.cell? ⟨w1.heap.size, 4, none⟩ = some (.int .i64 a.va) := (KA2.out.cell 4).trans (by simp)
  have ca5 : w2.cell? ⟨w1.heap.size, 5, none⟩ = some (.slice aA a.ks.length acap) := (KA2.out.cell 5).trans (by simp)
  have cb0 : w2.cell? ⟨w1.heap.size + 1, 0, none⟩ = some (.int .i64 b.op) := (KB2.out.cell 0).trans (by simp)
  have cb1 : w2.cell? ⟨w1.heap.size + 1, 1, none⟩ = some (.int .i64 b.ct) := (KB2.out.cell 1).trans (by simp)
  have cb2 : w2.cell? ⟨w1.heap.size + 1, 2, none⟩ = some (.int .i64 b.n) := (KB2.out.cell 2).trans (by simp)
  have cb3 : w2.cell? ⟨w1.heap.size + 1, 3, none⟩ = some (.int .i64 b.m) := (KB2.out.cell 3).trans (by simp)
  have cb4 : w2.cell? ⟨w1.heap.size + 1, 4, none⟩ = some (.int .i64 b.va) := (KB2.out.cell 4).trans (by simp)
  have cb5 : w2.cell? ⟨w1.heap.size + 1, 5, none⟩ = some (.slice bA b.ks.length bcap) := (KB2.out.cell 5).trans (by simp)
  have la := KA2.out.lt
  have lb := KB2.out.lt
  go_wp2_with fail
  clear ca0 cb0 ca1 cb1 ca2 cb2 ca3 cb3 ca4 cb4 ca5 cb5 la lb
  refine (impl_PatternSame a b w2 _ _ FA FB HA2.out HB2.out UA2.out UB2.out).mono ?_
  rintro e w3 ⟨rfl, hb3⟩
  have hB3 := hB2.trans (hb3.mono hB2.size)
  have KA3 := Lib.hid (KA2.out.same (hb3.block _ KA2.out.lt))
  have KB3 := Lib.hid (KB2.out.same (hb3.block _ KB2.out.lt))
  have HA3 := Lib.hid (HA2.out.below hb3 UA2.out)
  have HB3 := Lib.hid (HB2.out.below hb3 UB2.out)
  have UA3 := Lib.hid (UA2.out.mono hb3.size)
  have UB3 := Lib.hid (UB2.out.mono hb3.size)
  clear hB2 KA2 KB2 HA2 HB2 UA2 UB2 hb3
  obtain ⟨sm, hsm⟩ : ∃ s, P.same a b = s := ⟨_, rfl⟩
  rw [hsm] at HSY
  have HSM := Lib.hid hsm
  rw [hsm]
  clear hsm
  have heq : (sm == sm) = true := by simp
  have ca0 : w3.cell? ⟨w1.heap.size, 0, none⟩ = some (.int .i64 a.op) := (KA3.out.cell 0).trans (by simp)
  have ca1 : w3.cell? ⟨w1.heap.size, 1, none⟩ = some (.int .i64 a.ct) := (KA3.out.cell 1).trans (by simp)
  have ca2 : w3.cell? ⟨w1.heap.size, 2, none⟩ = some (.int .i64 a.n) := (KA3.out.cell 2).trans (by simp)
  have ca3 : w3.cell? ⟨w1.heap.size, 3, none⟩ = some (.int .i64 a.m) := (KA3.out.cell 3).trans (by simp)
  have ca4 : w3.cell? ⟨w1.heap.size, 4, none⟩ = some (.int .i64 a.va) := (KA3.out.cell 4).trans (by simp)
  have ca5 : w3.cell? ⟨w1.heap.size, 5, none⟩ = some (.slice aA a.ks.length acap) := (KA3.out.cell 5).trans (by simp)
  have cb0 : w3.cell? ⟨w1.heap.size + 1, 0, none⟩ = some (.int .i64 b.op) := (KB3.out.cell 0).trans (by simp)
  have cb1 : w3.cell? ⟨w1.heap.size + 1, 1, none⟩ = some (.int .i64 b.ct) := (KB3.out.cell 1).trans (by simp)
  have cb2 : w3.cell? ⟨w1.heap.size + 1, 2, none⟩ = some (.int .i64 b.n) := (KB3.out.cell 2).trans (by simp)
  have cb3 : w3.cell? ⟨w1.heap.size + 1, 3, none⟩ = some (.int .i64 b.m) := (KB3.out.cell 3).trans (by simp)
  have cb4 : w3.cell? ⟨w1.heap.size + 1, 4, none⟩ = some (.int .i64 b.va) := (KB3.out.cell 4).trans (by simp)
  have cb5 : w3.cell? ⟨w1.heap.size + 1, 5, none⟩ = some (.slice bA b.ks.length bcap) := (KB3.out.cell 5).trans (by simp)
  have la := KA3.out.lt
  have lb := KB3.out.lt
  go_wp2_with fail
  clear ca0 cb0 ca1 cb1 ca2 cb2 ca3 cb3 ca4 cb4 ca5 cb5 la lb
  refine (spec_PatternSame a b w3 _ _ FA FB HA3.out HB3.out UA3.out UB3.out).mono ?_
  rintro e w4 ⟨rfl, hb4⟩
  have hB4 := hB3.trans (hb4.mono hB3.size)
  have KA4 := Lib.hid (KA3.out.same (hb4.block _ KA3.out.lt))
  have KB4 := Lib.hid (KB3.out.same (hb4.block _ KB3.out.lt))
  have HA4 := Lib.hid (HA3.out.below hb4 UA3.out)
  have HB4 := Lib.hid (HB3.out.below hb4 UB3.out)
  have UA4 := Lib.hid (UA3.out.mono hb4.size)
  have UB4 := Lib.hid (UB3.out.mono hb4.size)
  clear hB3 KA3 KB3 HA3 HB3 UA3 UB3 hb4
  rw [HSM.out]
  have ca0 : w4.cell? ⟨w1.heap.size, 0, none⟩ = some (.int .i64 a.op) := (KA4.out.cell 0).trans (by simp)
  have ca1 : w4.cell? ⟨w1.heap.size, 1, none⟩ = some (.int .i64 a.ct) := (KA4.out.cell 1).trans (by simp)
  have ca2 : w4.cell? ⟨w1.heap.size, 2, none⟩ = some (.int .i64 a.n) := (KA4.out.cell 2).trans (by simp)
  have ca3 : w4.cell? ⟨w1.heap.size, 3, none⟩ = some (.int .i64 a.m) := (KA4.out.cell 3).trans (by simp)
  have ca4 : w4.cell? ⟨w1.heap.size, 4, none⟩ = some (.int .i64 a.va) := (KA4.out.cell 4).trans (by simp)
  have ca5 : w4.cell? ⟨w1.heap.size, 5, none⟩ = some (.slice aA a.ks.length acap) := (KA4.out.cell 5).trans (by simp)
  have cb0 : w4.cell? ⟨w1.heap.size + 1, 0, none⟩ = some (.int .i64 b.op) := (KB4.out.cell 0).trans (by simp)
  have cb1 : w4.cell? ⟨w1.heap.size + 1, 1, none⟩ = some (.int .i64 b.ct) := (KB4.out.cell 1).trans (by simp)
  have cb2 : w4.cell? ⟨w1.heap.size + 1, 2, none⟩ = some (.int .i64 b.n) := (KB4.out.cell 2).trans (by simp)
  have cb3 : w4.cell? ⟨w1.heap.size + 1, 3, none⟩ = some (.int .i64 b.m) := (KB4.out.cell 3).trans (by simp)
  have cb4 : w4.cell? ⟨w1.heap.size + 1, 4, none⟩ = some (.int .i64 b.va) := (KB4.out.cell 4).trans (by simp)
  have cb5 : w4.cell? ⟨w1.heap.size + 1, 5, none⟩ = some (.slice bA b.ks.length bcap) := (KB4.out.cell 5).trans (by simp)
  have la := KA4.out.lt
  have lb := KB4.out.lt
  go_wp2_with fail
  clear ca0 cb0 ca1 cb1 ca2 cb2 ca3 cb3 ca4 cb4 ca5 cb5 la lb
  refine (impl_PatternSame b a w4 _ _ FB FA HB4.out HA4.out UB4.out UA4.out).mono ?_
  rintro e w5 ⟨rfl, hb5⟩
  have hB5 := hB4.trans (hb5.mono hB4.size)
  have KA5 := Lib.hid (KA4.out.same (hb5.block _ KA4.out.lt))
  have KB5 := Lib.hid (KB4.out.same (hb5.block _ KB4.out.lt))
  have HA5 := Lib.hid (HA4.out.below hb5 UA4.out)
  have HB5 := Lib.hid (HB4.out.below hb5 UB4.out)
  have UA5 := Lib.hid (UA4.out.mono hb5.size)
  have UB5 := Lib.hid (UB4.out.mono hb5.size)
  clear hB4 KA4 KB4 HA4 HB4 UA4 UB4 hb5
  rw [HSY.out]
  have ca0 : w5.cell? ⟨w1.heap.size, 0, none⟩ = some (.int .i64 a.op) := (KA5.out.cell 0).trans (by simp)
  have ca1 : w5.cell? ⟨w1.heap.size, 1, none⟩ = some (.int .i64 a.ct) := (KA5.out.cell 1).trans (by simp)
  have ca2 : w5.cell? ⟨w1.heap.size, 2, none⟩ = some (.int .i64 a.n) := (KA5.out.cell 2).trans (by simp)
  have ca3 : w5.cell? ⟨w1.heap.size, 3, none⟩ = some (.int .i64 a.m) := (KA5.out.cell 3).trans (by simp)
  have ca4 : w5.cell? ⟨w1.heap.size, 4, none⟩ = some (.int .i64 a.va) := (KA5.out.cell 4).trans (by simp)
  have ca5 : w5.cell? ⟨w1.heap.size, 5, none⟩ = some (.slice aA a.ks.length acap) := (KA5.out.cell 5).trans (by simp)
  have cb0 : w5.cell? ⟨w1.heap.size + 1, 0, none⟩ = some (.int .i64 b.op) := (KB5.out.cell 0).trans (by simp)
  have cb1 : w5.cell? ⟨w1.heap.size + 1, 1, none⟩ = some (.int .i64 b.ct) := (KB5.out.cell 1).trans (by simp)
  have cb2 : w5.cell? ⟨w1.heap.size + 1, 2, none⟩ = some (.int .i64 b.n) := (KB5.out.cell 2).trans (by simp)
  have cb3 : w5.cell? ⟨w1.heap.size + 1, 3, none⟩ = some (.int .i64 b.m) := (KB5.out.cell 3).trans (by simp)
  have cb4 : w5.cell? ⟨w1.heap.size + 1, 4, none⟩ = some (.int .i64 b.va) := (KB5.out.cell 4).trans (by simp)
  have cb5 : w5.cell? ⟨w1.heap.size + 1, 5, none⟩ = some (.slice bA b.ks.length bcap) := (KB5.out.cell 5).trans (by simp)
  have la := KA5.out.lt
  have lb := KB5.out.lt
  go_wp2_with fail
  clear ca0 cb0 ca1 cb1 ca2 cb2 ca3 cb3 ca4 cb4 ca5 cb5 la lb
  refine (impl_PatternSame a a w5 _ _ FA FA HA5.out HA5.out UA5.out UA5.out).mono ?_
  rintro e w6 ⟨rfl, hb6⟩
  have hB6 := hB5.trans (hb6.mono hB5.size)
  have KA6 := Lib.hid (KA5.out.same (hb6.block _ KA5.out.lt))
  have KB6 := Lib.hid (KB5.out.same (hb6.block _ KB5.out.lt))
  have HA6 := Lib.hid (HA5.out.below hb6 UA5.out)
  have HB6 := Lib.hid (HB5.out.below hb6 UB5.out)
  have UA6 := Lib.hid (UA5.out.mono hb6.size)
  have UB6 := Lib.hid (UB5.out.mono hb6.size)
  clear hB5 KA5 KB5 HA5 HB5 UA5 UB5 hb6
  rw [HSA.out]
  go_wp2
  go_ret
  exact ⟨rfl, hB6⟩
end Go.Proofs.Ytilndhmegaccmaa.fnPatternSame

namespace Go.Proofs.Ytilndhmegaccmaa.fnPatternSame
open Go.ChangeShapes Go.WideShapes Go.ChangeAt Go.RowKit
open Go.ChangeMaps (open_string shut_string)
set_option linter.unusedVariables false

theorem own : ownKnob Try.prog.godebug = none := by kernel_rfl
theorem laidOut : laidOutB Try.prog = true := by kernel_rfl

set_option maxRecDepth 100000 in
theorem lifted (os : Os) (started : os.Started) (H : Type) (enc : TypeId × Value → H) :
    ReturnsInHanded {} Try.checked os 3 .any (Rows.fnPatternSameSpec.pre6 enc Try.prog Try.f3 Rows.fnPatternSameRow.domain false) (Rows.fnPatternSameSpec.post enc Try.prog Try.f3 false true false false) := by
  refine returnsInHanded_of_change (C := Try.checked) own started (by kernel_rfl) Try.func3
    (ChangeSpec.witness6 (enc := enc) (C := Try.checked) false ⟨#[], #[.slice none 0 0], []⟩ 8 (by kernel_rfl) (by kernel_rfl) (by kernel_rfl) (by kernel_rfl)) ?_
  intro W base args ds gs before hval0 hW hcnd _
  have hval : ∀ (j : Nat) t v, Try.f3.params[j]? = some t → args[j]? = some v → Value.okWide Try.prog W .any base t v := hval0
  have hW' := hW
  obtain ⟨p, q, hA0, hV, rfl, hfz, hnd⟩ := hW
  have hA : DataW.TrodAll enc Try.prog W 0 (fun _ => true) true Try.f3.params.toList args.toList ds p := hA0
  rw [Try.params3] at hA hval
  obtain ⟨v0, vs0, d0, ds0, p0, q0, hargs, rfl, rfl, h0, r0⟩ := trodAll_cons hA
  obtain ⟨rfl, rfl, rfl⟩ := trodAll_nil r0
  obtain rfl : args = #[v0] := by cases args; simp_all
  obtain ⟨rfl, rfl⟩ := trodVars_none hV
  have k0 := h0
  have lt0 : ∀ x ∈ p0, x.block < W.heap.size := by obtain ⟨m, hm⟩ := k0; exact DataW.trod_lt m _ _ _ hm
  obtain ⟨x0, F0, hR0, hU0⟩ := open_Bytes (hval 0 22 v0 rfl rfl) h0
  clear hA0 hval0
  refine (walk x0 v0 F0 hR0 hU0 W rfl).mono fun e W' ⟨he, bel⟩ => ?_
  subst he
  exact ⟨_, rfl, _, _, _, [], _, [], hW', trodAll_mk1 (shut_bool Try.underlying4 _), (trodAll_cons_mk (Below.trod laidOut (by kernel_rfl) (of_decide_eq_true (by kernel_rfl)) k0 bel lt0) trodAll_mk0), rfl, bel.frame _, fun h => by cases h⟩

set_option maxHeartbeats 4000000 in
theorem closed : joinedFacts Try.pinned.checked.prog 3 Try.f3 Rows.fnPatternSameSpec Rows.fnPatternSameRow = true := by
  unfold joinedFacts
  have key : ∀ a b : Bool, a = true → b = true → (a && b) = true := fun a b h1 h2 => by rw [h1, h2]; rfl
  repeat' (with_reducible refine key _ _ ?_ ?_)
  all_goals as_aux_lemma => kernel_rfl

theorem over : Rows.fnPatternSameRow.holds Try.pinned (OpenSpec.ofChange Rows.fnPatternSameSpec) :=
  OpenClaim.holds_of_wide 3 Try.f3 rfl rfl rfl rfl rfl rfl rfl ⟨rfl, rfl, rfl, rfl, rfl⟩ rfl rfl rfl rfl rfl (by kernel_rfl) Try.func3 closed
    (of_decide_eq_true (by kernel_rfl)) (by unfold Func.isWrapper; first | (rw [if_pos (by decide +kernel)]; kernel_rfl) | (rw [if_neg (by decide +kernel)]; exact ⟨rfl, rfl⟩))
    (fun os started H enc _ => lifted os started H enc)

theorem proved : Rows.FnPatternSameSaid := over
end Go.Proofs.Ytilndhmegaccmaa.fnPatternSame
