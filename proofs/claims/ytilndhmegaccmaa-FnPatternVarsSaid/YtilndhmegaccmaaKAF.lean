/-
  Lemmas and contracts of functions: l3Draw of the reference: a drawn pattern. Conditions: the world is valid, the reader has given no more than 900000 numbers. What the program's scan of a pattern answers, kid by kid. Conditions: none. Patterns in memory: an element in view; nodes. Conditions: none. l3Name of the reference: variables put into a pattern; the cases without a loop. Conditions: the reader has given no more than 900000 numbers. Worlds that a call has copied: every slice is the call's own. Conditions: none. One part of a copied world written anew: what the world then stands for. Conditions: none. What l1Mutate makes of its copy of a world, case by case. Conditions: the lists are short. l1Copy of the reference: a deep copy of a world. Conditions: no list of it is longer than 100.
-/
import Derived.Test.YtilndhmegaccmaaKAE
import Derived.Deep.RegionWith
import Derived.Test.YtilndhmegaccmaaKAB
import Derived.Deep.RegionHeld3
import Derived.Test.YtilndhmegaccmaaKAA
import Derived.Test.YtilndhmegaccmaaKAD
import Derived.Test.YtilndhmegaccmaaKAC

set_option linter.unusedVariables false
set_option linter.unusedSimpArgs false
set_option maxRecDepth 100000
set_option maxHeartbeats 1600000

namespace Go.Proofs.Ytilndhmegaccmaa
open Go.RowKit
section
variable {w w0 : World} {H g p : Nat} {F : List Nat}
theorem zAL (h : Chg F w0 w) (hH : w0.heap.size ≤ H) (a0 a1 a2 a3 a4 a5 : Value) : Chg F w0 ((((((w.setCell ⟨H, 0, none⟩ a0).setCell ⟨H, 1, none⟩ a1).setCell ⟨H, 2, none⟩ a2).setCell ⟨H, 3, none⟩ a3).setCell ⟨H, 4, none⟩ a4).setCell ⟨H, 5, none⟩ a5) := (((((h.set_new hH).set_new hH).set_new hH).set_new hH).set_new hH).set_new hH
theorem zB2 (h : Rd w g p) (hg : g < H) (a0 a1 a2 a3 a4 a5 : Value) : Rd ((((((w.setCell ⟨H, 0, none⟩ a0).setCell ⟨H, 1, none⟩ a1).setCell ⟨H, 2, none⟩ a2).setCell ⟨H, 3, none⟩ a3).setCell ⟨H, 4, none⟩ a4).setCell ⟨H, 5, none⟩ a5) g p := h.keep fun b hb => by
 have : b ≠ H := by omega
 rw [zz7 _ _ _ _ this, zz7 _ _ _ _ this, zz7 _ _ _ _ this, zz7 _ _ _ _ this, zz7 _ _ _ _ this, zz7 _ _ _ _ this]
end
set_option maxHeartbeats 8000000 in
theorem spec_l3Draw : ∀ (N : Nat), ∀ (_ : N ≤ 6) (xs : List Dt) (_ : WorldOK xs) (t : Ty) (_ : TyIn xs.length t) (dp : Int) (_ : dp ≤ ((N : Nat) : Int)) (_ : ((N : Nat) : Int) - 30 ≤ dp) (w : World) (p g : Nat) (x : Value) (F : List Nat), Rd w g p → p + 5 * 4 ^ N ≤ 900000 → Arr w (DtR w) xs x F → Under w.heap.size F → g ∉ F →
  Calls Try.prog 99 #[.pointer (some ⟨g, 0, none⟩), x, .agg #[.int .i64 t.d, .int .i64 t.i], .int .i64 dp] w (DrewP (4 ^ N) p (5 * 4 ^ N) g w) := by
 intro N
 induction N with
 |zero =>
  intro _ xs hw t ht dp hdp hlo w p g x F hr hp hx hf hgf
  have hgl := hr.lt
  have HR := jj hr
  have t0 : decide (dp < 2) = true := decide_eq_true (by push_cast at hdp; omega)
  have hB0 : Below w.heap.size w ((w.alloc (.cells #[.int .i64 t.d, .int .i64 t.i] 32)).alloc (.cells #[.int .i64 0, .int .i64 0, .int .i64 0, .int .i64 0, .int .i64 0, .slice none 0 0] 25)) := ((zy2 _ _).alloc (zz8 _) _).alloc (by simp) _
  have K0 : Hid (Blk ((w.alloc (.cells #[.int .i64 t.d, .int .i64 t.i] 32)).alloc (.cells #[.int .i64 0, .int .i64 0, .int .i64 0, .int .i64 0, .int .i64 0, .slice none 0 0] 25)) (w.heap.size + 1) 25 #[.int .i64 0, .int .i64 0, .int .i64 0, .int .i64 0, .int .i64 0, .slice none 0 0]) := zA8 w _ 25 _
  clear hx hf hgf hr
  go_enter Try.func99, Try.ntmps99
  go_wp2_with fail
  first
  |refine bodyPost_ret (zA1 rfl _ _ (w.heap.size + 1) 25 #[.int .i64 1, .int .i64 0, .int .i64 0, .int .i64 0, .int .i64 0, .slice none 0 0] (0, 0) _ rfl (zA8 _ _ _ _) Try.underlying25 rfl rfl) rfl ?_
   exact ⟨⟨1, 0, 0, 0, 0, []⟩, [.int .i64 1, .int .i64 0, .int .i64 0, .int .i64 0, .int .i64 0, .slice none 0 0], [], p, rfl, (zA4 _ _ _).2 ⟨_, rfl, Arr.nil⟩, (fun b hb => by cases hb), by simp [nodesP, P.size, P.sizes], HR.out.below (((zy2 _ _).alloc (zz8 _) _).alloc (by simp) _), by omega, .of_below (((zy2 _ _).alloc (zz8 _) _).alloc (by simp) _)⟩
  |refine bodyPost_ret (zA1 rfl _ _ (w.heap.size + 1) 25 #[.int .i64 1, .int .i64 0, .int .i64 0, .int .i64 0, .int .i64 0, .slice none 0 0] (0, 0) _ rfl (K0.out.six _ _ _ _ _ _) Try.underlying25 rfl rfl) rfl ?_
   exact ⟨⟨1, 0, 0, 0, 0, []⟩, [.int .i64 1, .int .i64 0, .int .i64 0, .int .i64 0, .int .i64 0, .slice none 0 0], [], p, rfl, (zA4 _ _ _).2 ⟨_, rfl, Arr.nil⟩, (fun b hb => by cases hb), by simp [nodesP, P.size, P.sizes], zB2 (HR.out.below hB0) (by omega) _ _ _ _ _ _, by omega, zAL (.of_below hB0) (by omega) _ _ _ _ _ _⟩
 |succ N ih =>
  intro h6 xs hw t ht dp hdp hlo w p g x F hr hp hx hf hgf
  have IH := jj (ih (by omega))
  clear ih
  have hp4 := pow4 N
  have hp48 := pow4_le (show N + 1 ≤ 8 by omega)
  have hgl := hr.lt
  obtain ⟨A, cap, rfl, hc1, hc2⟩ := hx.form
  have HGF : Hid (∀ b ∈ F, b ∉ [g]) := fun b hb h => hgf (by rw [zy1] at h; rwa [← h])
  have HGf := jj hgf
  have HW := jj hw
  have HT := jj ht
  have hB0 : Below w.heap.size w ((w.alloc (.cells #[.int .i64 t.d, .int .i64 t.i] 32)).alloc (.cells #[.int .i64 0, .int .i64 0, .int .i64 0, .int .i64 0, .int .i64 0, .slice none 0 0] 25)) := ((zy2 _ _).alloc (zz8 _) _).alloc (by simp) _
  have KT : Hid (Blk ((w.alloc (.cells #[.int .i64 t.d, .int .i64 t.i] 32)).alloc (.cells #[.int .i64 0, .int .i64 0, .int .i64 0, .int .i64 0, .int .i64 0, .slice none 0 0] 25)) w.heap.size 32 #[.int .i64 t.d, .int .i64 t.i]) := (Blk.new w _ _).same (Below.heap_alloc _ _ _ (by simp))
  have KR : Hid (Blk ((w.alloc (.cells #[.int .i64 t.d, .int .i64 t.i] 32)).alloc (.cells #[.int .i64 0, .int .i64 0, .int .i64 0, .int .i64 0, .int .i64 0, .slice none 0 0] 25)) (w.heap.size + 1) 25 #[.int .i64 0, .int .i64 0, .int .i64 0, .int .i64 0, .int .i64 0, .slice none 0 0]) := zA8 w _ 25 _
  have HRw := jj hr
  have HR := jj (hr.below hB0)
  have hz2 : ((w.alloc (.cells #[.int .i64 t.d, .int .i64 t.i] 32)).alloc (.cells #[.int .i64 0, .int .i64 0, .int .i64 0, .int .i64 0, .int .i64 0, .slice none 0 0] 25)).heap.size = w.heap.size + 2 := by simp
  obtain ⟨w2, hw2⟩ : ∃ X, X = ((w.alloc (.cells #[.int .i64 t.d, .int .i64 t.i] 32)).alloc (.cells #[.int .i64 0, .int .i64 0, .int .i64 0, .int .i64 0, .int .i64 0, .slice none 0 0] 25)) := ⟨_, rfl⟩
  have HW2 := jj hw2
  rw [← hw2] at hB0 KT KR HR hz2
  have HC0 : Hid (Chg [g] w w2) := .of_below hB0
  have HX := jj hx
  have HF := jj hf
  clear hx hf
  clear hr hgf hw ht hB0 hw2
  by_cases hd2 : dp < 2
  ·have t0 : decide (dp < 2) = true := decide_eq_true hd2
   clear hd2
   go_enter Try.func99, Try.ntmps99
   go_wp2_with fail
   first
   |refine bodyPost_ret (zA1 rfl _ _ (w.heap.size + 1) 25 #[.int .i64 1, .int .i64 0, .int .i64 0, .int .i64 0, .int .i64 0, .slice none 0 0] (0, 0) _ rfl (zA8 _ _ _ _) Try.underlying25 rfl rfl) rfl ?_
    exact ⟨⟨1, 0, 0, 0, 0, []⟩, [.int .i64 1, .int .i64 0, .int .i64 0, .int .i64 0, .int .i64 0, .slice none 0 0], [], p, rfl, (zA4 _ _ _).2 ⟨_, rfl, Arr.nil⟩, (fun b hb => by cases hb), by simp [nodesP, P.size, P.sizes]; omega, HRw.out.below (((zy2 _ _).alloc (zz8 _) _).alloc (by simp) _), by omega, .of_below (((zy2 _ _).alloc (zz8 _) _).alloc (by simp) _)⟩
  ·have t0 : decide (dp < 2) = false := decide_eq_false hd2
   go_enter Try.func99, Try.ntmps99
   go_wp2_with fail
   rw [← HW2.out]
   clear HW2
   refine (zAF 4 p g w2 HR.out (by omega) (by omega) (by omega)).mono ?_
   rintro e w3 ⟨r3, rfl, -, hR3, hC3⟩
   have HG1 : Hid (∀ b, g < b → b ∉ [g]) := fun b hb h => by rw [zy1] at h; omega
   have KT3 := jj (KT.out.same (hC3.block _ KT.out.lt (HG1.out _ hgl)))
   have KR3 := jj (KR.out.same (hC3.block _ KR.out.lt (HG1.out _ (by omega))))
   have HC3 := jj (HC0.out.trans hC3)
   have HR3 := jj hR3
   have hz3 := hC3.size
   clear hR3 hC3 KT KR HC0 HR
   cases q3 : ((r3 : Int) == 0) with
   |true =>
    have rc0 := (KR3.out.cell 0).trans (show _ = some (.int .i64 0) from by simp)
    have rf0 := KR3.out.frozen 0
    have rc1 := (KR3.out.cell 1).trans (show _ = some (.int .i64 0) from by simp)
    have rf1 := KR3.out.frozen 1
    have rc2 := (KR3.out.cell 2).trans (show _ = some (.int .i64 0) from by simp)
    have rf2 := KR3.out.frozen 2
    have rc3 := (KR3.out.cell 3).trans (show _ = some (.int .i64 0) from by simp)
    have rf3 := KR3.out.frozen 3
    have rc4 := (KR3.out.cell 4).trans (show _ = some (.int .i64 0) from by simp)
    have rf4 := KR3.out.frozen 4
    have rc5 := (KR3.out.cell 5).trans (show _ = some (.slice none 0 0) from by simp)
    have rf5 := KR3.out.frozen 5
    have rlt := KR3.out.lt
    go_wp2
    clear rc0 rf0 rc1 rf1 rc2 rf2 rc3 rf3 rc4 rf4 rc5 rf5 rlt
    refine bodyPost_ret (zA1 rfl _ _ (w.heap.size + 1) 25 #[.int .i64 1, .int .i64 0, .int .i64 0, .int .i64 0, .int .i64 0, .slice none 0 0] (0, 0) _ rfl (KR3.out.six _ _ _ _ _ _) Try.underlying25 rfl rfl) rfl ?_
    exact ⟨⟨1, 0, 0, 0, 0, []⟩, [.int .i64 1, .int .i64 0, .int .i64 0, .int .i64 0, .int .i64 0, .slice none 0 0], [], p + 1, rfl, (zA4 _ _ _).2 ⟨_, rfl, Arr.nil⟩, (fun b hb => by cases hb), by simp [nodesP, P.size, P.sizes]; omega, zB2 HR3.out (by omega) _ _ _ _ _ _, by omega, zAL HC3.out (by omega) _ _ _ _ _ _⟩
   |false =>
    go_wp2_with fail
    refine (zAF 6 (p + 1) g w3 HR3.out (by omega) (by omega) (by omega)).mono ?_
    rintro e w4 ⟨r4, rfl, -, hR4, hC4⟩
    have KT4 := jj (KT3.out.same (hC4.block _ KT3.out.lt (HG1.out _ hgl)))
    have KR4 := jj (KR3.out.same (hC4.block _ KR3.out.lt (HG1.out _ (by omega))))
    have HC4 := jj (HC3.out.trans hC4)
    have HR4 := jj hR4
    have hz4 := hC4.size
    clear hR4 hC4 KT3 KR3 HC3 HR3 q3
    have hdw : IntKind.i64.wrap (dp - 1) = dp - 1 := IntWalk.i64_in _ (by omega)
    cases q4 : ((r4 : Int) == 0) with
    |true =>
     go_wp2_with fail
     refine zA7 (S := fun w' => w'.cell? ⟨w.heap.size, 0, none⟩ = some (.int .i64 t.d) ∧ w'.cell? ⟨w.heap.size, 1, none⟩ = some (.int .i64 t.i)) (T := fun _ => True) (d := 99) (by kernel_rfl) ?_
     have hS1 : w4.drew.cell? ⟨w.heap.size, 0, none⟩ = some (.int .i64 t.d) ∧ w4.drew.cell? ⟨w.heap.size, 1, none⟩ = some (.int .i64 t.i) := ⟨(KT4.out.cell 0).trans (by simp), (KT4.out.cell 1).trans (by simp)⟩
     have hT1 : True := trivial
     have HC4d := jj (HC4.out.drew)
     refine wU (i := 0) (v := ?_) rfl (Or.inl ⟨by rfl, ?hy0⟩) hS1 (fun _ => hT1) ?_
     case hy0 => (intro W hSw; (try dsimp only at hSw); obtain ⟨hSa, hSb⟩ := hSw; go_simp; try with_reducible rfl)
     (try simp only [Act.put, zz1, zz2, zz3, zz4, zz5, zz6])
     refine wU (i := 1) (v := ?_) rfl (Or.inl ⟨by rfl, ?hy1⟩) hS1 (fun _ => hT1) ?_
     case hy1 => (intro W hSw; (try dsimp only at hSw); obtain ⟨hSa, hSb⟩ := hSw; go_simp; try with_reducible rfl)
     (try simp only [Act.put, zz1, zz2, zz3, zz4, zz5, zz6])
     refine wU (i := 2) (v := ?_) rfl (Or.inl ⟨by rfl, ?hy2⟩) hS1 (fun _ => hT1) ?_
     case hy2 => (intro W hSw; (try dsimp only at hSw); obtain ⟨hSa, hSb⟩ := hSw; go_simp; try with_reducible rfl)
     (try simp only [Act.put, zz1, zz2, zz3, zz4, zz5, zz6])
     refine wU (i := 3) (v := ?_) rfl (Or.inl ⟨by rfl, ?hy3⟩) hS1 (fun _ => hT1) ?_
     case hy3 => (intro W hSw; (try dsimp only at hSw); obtain ⟨hSa, hSb⟩ := hSw; go_simp; try with_reducible rfl)
     (try simp only [Act.put, zz1, zz2, zz3, zz4, zz5, zz6])
     refine wU (i := 4) (v := ?_) rfl (Or.inl ⟨by rfl, ?hy4⟩) hS1 (fun _ => hT1) ?_
     case hy4 => (intro W hSw; (try dsimp only at hSw); obtain ⟨hSa, hSb⟩ := hSw; go_simp; try with_reducible rfl)
     (try simp only [Act.put, zz1, zz2, zz3, zz4, zz5, zz6])
     refine wU (i := 6) (v := ?_) rfl (Or.inl ⟨by rfl, ?hy6⟩) hS1 (fun _ => hT1) ?_
     case hy6 => (intro W hSw; (try dsimp only at hSw); obtain ⟨hSa, hSb⟩ := hSw; go_simp; try with_reducible rfl)
     (try simp only [Act.put, zz1, zz2, zz3, zz4, zz5, zz6])
     refine wU (i := 7) (v := ?_) rfl (Or.inl ⟨by rfl, ?hy7⟩) hS1 (fun _ => hT1) ?_
     case hy7 => (intro W hSw; (try dsimp only at hSw); obtain ⟨hSa, hSb⟩ := hSw; go_simp; try with_reducible rfl)
     (try simp only [Act.put, zz1, zz2, zz3, zz4, zz5, zz6])
     refine wU (i := 8) (v := ?_) rfl (Or.inl ⟨by rfl, ?hy8⟩) hS1 (fun _ => hT1) ?_
     case hy8 => (intro W hSw; (try dsimp only at hSw); obtain ⟨hSa, hSb⟩ := hSw; go_simp; try with_reducible rfl)
     (try simp only [Act.put, zz1, zz2, zz3, zz4, zz5, zz6])
     refine wU (i := 9) (v := ?_) rfl (Or.inl ⟨by rfl, ?hy9⟩) hS1 (fun _ => hT1) ?_
     case hy9 => (intro W hSw; (try dsimp only at hSw); obtain ⟨hSa, hSb⟩ := hSw; go_simp; try with_reducible rfl)
     (try simp only [Act.put, zz1, zz2, zz3, zz4, zz5, zz6])
     refine wU (i := 10) (v := ?_) rfl (Or.inl ⟨by rfl, ?hy10⟩) hS1 (fun _ => hT1) ?_
     case hy10 => (intro W hSw; (try dsimp only at hSw); obtain ⟨hSa, hSb⟩ := hSw; go_simp; try with_reducible rfl)
     (try simp only [Act.put, zz1, zz2, zz3, zz4, zz5, zz6])
     refine wR (rs := [5]) (by kernel_rfl) (by simp) ?_
     refine AllReadyB.c rfl (fun K hK => ?_) AllReadyB.n
     go_simp
     go_at_call 99
     refine (IH.out xs HW.out t HT.out (dp - 1) (by push_cast at hdp; omega) (by push_cast at hlo; omega) w4.drew (p + 1 + 1) g _ F HR4.out.drew (by omega) (HX.out.mono (HC4d.out.kept HF.out HGF.out) fun y _ cs G hk h => DtR.mono y cs G hk h) (HF.out.mono HC4d.out.size) HGf.out).mono ?_
     rintro e w5 ⟨v5, cs5, F5, q5, rfl, hp5, hf5, hn5, hR5, hq5, hC5⟩
     obtain ⟨kv5, rfl, ha5⟩ := (zA4 _ _ _).1 hp5
     obtain ⟨A5, cap5, rfl, -, -⟩ := ha5.form
     have hC5u : Chg [g] w4 w5 := hC5.undrew
     have KT5 := jj (KT4.out.same (hC5u.block _ KT4.out.lt (HG1.out _ hgl)))
     have KR5 := jj (KR4.out.same (hC5u.block _ KR4.out.lt (HG1.out _ (by omega))))
     have HC5 := jj (HC4.out.trans hC5u)
     have HP5 := jj hp5
     have HF5 := jj hf5
     have HN5 := jj hn5
     have HR5 := jj hR5
     have hz5 := hC5u.size
     have hS2 : w5.cell? ⟨w.heap.size, 0, none⟩ = some (.int .i64 t.d) ∧ w5.cell? ⟨w.heap.size, 1, none⟩ = some (.int .i64 t.i) := ⟨(KT5.out.cell 0).trans (by simp), (KT5.out.cell 1).trans (by simp)⟩
     clear hp5 hf5 hn5 hR5 hC5 hC5u ha5 KT4 KR4 HC4 HR4 HC4d
     (try dsimp only)
     refine hK.out _ _ hS2 (fun _ => trivial) ?_
     clear hK K
     (try simp only [Act.put, zz1, zz2, zz3, zz4, zz5, zz6])
     refine wR (rs := [11]) (by kernel_rfl) (by simp) ?_
     refine AllReadyB.c rfl (fun K hK => ?_) AllReadyB.n
     go_simp
     go_at_call 99
     refine (IH.out xs HW.out t HT.out (dp - 1) (by push_cast at hdp; omega) (by push_cast at hlo; omega) w5 q5 g _ F HR5.out (by omega) (HX.out.mono (HC5.out.kept HF.out HGF.out) fun y _ cs G hk h => DtR.mono y cs G hk h) (HF.out.mono HC5.out.size) HGf.out).mono ?_
     rintro e w6 ⟨v6, cs6, F6, q6, rfl, hp6, hf6, hn6, hR6, hq6, hC6⟩
     obtain ⟨kv6, rfl, ha6⟩ := (zA4 _ _ _).1 hp6
     obtain ⟨A6, cap6, rfl, -, -⟩ := ha6.form
     have KT6 := jj (KT5.out.same (hC6.block _ KT5.out.lt (HG1.out _ hgl)))
     have KR6 := jj (KR5.out.same (hC6.block _ KR5.out.lt (HG1.out _ (by omega))))
     have HC6 := jj (HC5.out.trans hC6)
     have HP56 := jj (PR.mono _ _ _ (hC6.kept (fun b hb => (HF5.out b hb).1) (fun b hb h => by rw [zy1] at h; exact (HF5.out b hb).2.1 h)) HP5.out)
     have HP6 := jj hp6
     have HF6 := jj hf6
     have HN6 := jj hn6
     have HR6 := jj hR6
     have hz6 := hC6.size
     have hS3 : w6.cell? ⟨w.heap.size, 0, none⟩ = some (.int .i64 t.d) ∧ w6.cell? ⟨w.heap.size, 1, none⟩ = some (.int .i64 t.i) := ⟨(KT6.out.cell 0).trans (by simp), (KT6.out.cell 1).trans (by simp)⟩
     clear hp6 hf6 hn6 hR6 hC6 ha6 KT5 KR5 HC5 HR5 HP5
     (try dsimp only)
     refine hK.out _ _ hS3 (fun _ => trivial) ?_
     clear hK K
     (try simp only [Act.put, zz1, zz2, zz3, zz4, zz5, zz6])
     refine wR (rs := [12]) (by kernel_rfl) (by simp) ?_
     refine AllReadyB.c rfl (fun K hK => ?_) AllReadyB.n
     have hb8 : Below w6.heap.size w6 (w6.alloc (.cells ([.int .i64 v5.op, .int .i64 v5.ct, .int .i64 v5.n, .int .i64 v5.m, .int .i64 v5.va, .slice A5 v5.ks.length cap5, .int .i64 v6.op, .int .i64 v6.ct, .int .i64 v6.n, .int .i64 v6.m, .int .i64 v6.va, .slice A6 v6.ks.length cap6]).toArray 25)) := (zy2 _ _).alloc (zz8 _) _
     have KA8 : Hid (Blk (w6.alloc (.cells ([.int .i64 v5.op, .int .i64 v5.ct, .int .i64 v5.n, .int .i64 v5.m, .int .i64 v5.va, .slice A5 v5.ks.length cap5, .int .i64 v6.op, .int .i64 v6.ct, .int .i64 v6.n, .int .i64 v6.m, .int .i64 v6.va, .slice A6 v6.ks.length cap6]).toArray 25)) w6.heap.size 25 ([.int .i64 v5.op, .int .i64 v5.ct, .int .i64 v5.n, .int .i64 v5.m, .int .i64 v5.va, .slice A5 v5.ks.length cap5, .int .i64 v6.op, .int .i64 v6.ct, .int .i64 v6.n, .int .i64 v6.m, .int .i64 v6.va, .slice A6 v6.ks.length cap6]).toArray) := Blk.new _ _ _
     have hS4 : (w6.alloc (.cells ([.int .i64 v5.op, .int .i64 v5.ct, .int .i64 v5.n, .int .i64 v5.m, .int .i64 v5.va, .slice A5 v5.ks.length cap5, .int .i64 v6.op, .int .i64 v6.ct, .int .i64 v6.n, .int .i64 v6.m, .int .i64 v6.va, .slice A6 v6.ks.length cap6]).toArray 25)).cell? ⟨w.heap.size, 0, none⟩ = some (.int .i64 t.d) ∧ (w6.alloc (.cells ([.int .i64 v5.op, .int .i64 v5.ct, .int .i64 v5.n, .int .i64 v5.m, .int .i64 v5.va, .slice A5 v5.ks.length cap5, .int .i64 v6.op, .int .i64 v6.ct, .int .i64 v6.n, .int .i64 v6.m, .int .i64 v6.va, .slice A6 v6.ks.length cap6]).toArray 25)).cell? ⟨w.heap.size, 1, none⟩ = some (.int .i64 t.i) := ⟨(hb8.cell (p := ⟨w.heap.size, 0, none⟩) KT6.out.lt).trans hS3.1, (hb8.cell (p := ⟨w.heap.size, 1, none⟩) KT6.out.lt).trans hS3.2⟩
     go_simp
     (try dsimp only)
     refine hK.out _ _ hS4 (fun _ => trivial) ?_
     clear hK K
     (try simp only [Act.put, zz1, zz2, zz3, zz4, zz5, zz6])
     obtain ⟨w8, hw8⟩ : ∃ X, X = (w6.alloc (.cells ([.int .i64 v5.op, .int .i64 v5.ct, .int .i64 v5.n, .int .i64 v5.m, .int .i64 v5.va, .slice A5 v5.ks.length cap5, .int .i64 v6.op, .int .i64 v6.ct, .int .i64 v6.n, .int .i64 v6.m, .int .i64 v6.va, .slice A6 v6.ks.length cap6]).toArray 25)) := ⟨_, rfl⟩
     try rw [← hw8]
     rw [← hw8] at hb8 KA8 hS4
     clear hw8
     have HP58 := jj (HP56.out.below hb8 (fun b hb => zz9 (HF5.out b hb).1 hz6))
     have HP68 := jj (HP6.out.below hb8 (fun b hb => (HF6.out b hb).1))
     have KR8 := jj (KR6.out.same (hb8.block _ KR6.out.lt))
     have HC8 := jj (HC6.out.step hb8)
     have HR8 := jj (HR6.out.below hb8)
     have hz8 := KA8.out.lt
     have hk1 := KR6.out.lt
     refine wU (i := 13) (v := ?_) rfl (Or.inl ⟨by rfl, ?hy13⟩) hS4 (fun _ => hT1) ?_
     case hy13 => (intro W hSw; (try dsimp only at hSw); obtain ⟨hSa, hSb⟩ := hSw; go_simp; try with_reducible rfl)
     (try simp only [Act.put, zz1, zz2, zz3, zz4, zz5, zz6])
     refine wR (rs := [14]) (by kernel_rfl) (by simp) ?_
     refine AllReadyB.c rfl (fun K hK => ?_) AllReadyB.n
     have rc0 := (KR8.out.cell 0).trans (show _ = some (.int .i64 0) from by simp)
     have rf0 := KR8.out.frozen 0
     have rc1 := (KR8.out.cell 1).trans (show _ = some (.int .i64 0) from by simp)
     have rf1 := KR8.out.frozen 1
     have rc2 := (KR8.out.cell 2).trans (show _ = some (.int .i64 0) from by simp)
     have rf2 := KR8.out.frozen 2
     have rc3 := (KR8.out.cell 3).trans (show _ = some (.int .i64 0) from by simp)
     have rf3 := KR8.out.frozen 3
     have rc4 := (KR8.out.cell 4).trans (show _ = some (.int .i64 0) from by simp)
     have rf4 := KR8.out.frozen 4
     have rc5 := (KR8.out.cell 5).trans (show _ = some (.slice none 0 0) from by simp)
     have rf5 := KR8.out.frozen 5
     have rlt := KR8.out.lt
     have hne : w.heap.size + 1 ≠ w.heap.size := by omega
     have hS5 : ((((((w8.setCell ⟨w.heap.size + 1, 0, none⟩ (.int .i64 5)).setCell ⟨w.heap.size + 1, 1, none⟩ (.int .i64 0)).setCell ⟨w.heap.size + 1, 2, none⟩ (.int .i64 0)).setCell ⟨w.heap.size + 1, 3, none⟩ (.int .i64 0)).setCell ⟨w.heap.size + 1, 4, none⟩ (.int .i64 0)).setCell ⟨w.heap.size + 1, 5, none⟩ (.slice (some ⟨w6.heap.size, 0, none⟩) 2 2)).cell? ⟨w.heap.size, 0, none⟩ = some (.int .i64 t.d) ∧ ((((((w8.setCell ⟨w.heap.size + 1, 0, none⟩ (.int .i64 5)).setCell ⟨w.heap.size + 1, 1, none⟩ (.int .i64 0)).setCell ⟨w.heap.size + 1, 2, none⟩ (.int .i64 0)).setCell ⟨w.heap.size + 1, 3, none⟩ (.int .i64 0)).setCell ⟨w.heap.size + 1, 4, none⟩ (.int .i64 0)).setCell ⟨w.heap.size + 1, 5, none⟩ (.slice (some ⟨w6.heap.size, 0, none⟩) 2 2)).cell? ⟨w.heap.size, 1, none⟩ = some (.int .i64 t.i) := by
      have : ((((((((w8.setCell ⟨w.heap.size + 1, 0, none⟩ (.int .i64 5)).setCell ⟨w.heap.size + 1, 1, none⟩ (.int .i64 0)).setCell ⟨w.heap.size + 1, 2, none⟩ (.int .i64 0)).setCell ⟨w.heap.size + 1, 3, none⟩ (.int .i64 0)).setCell ⟨w.heap.size + 1, 4, none⟩ (.int .i64 0)).setCell ⟨w.heap.size + 1, 5, none⟩ (.slice (some ⟨w6.heap.size, 0, none⟩) 2 2))).heap[w.heap.size]?) = w8.heap[w.heap.size]? := by
       rw [zz7 _ _ _ _ (by show w.heap.size ≠ w.heap.size + 1; omega), zz7 _ _ _ _ (by show w.heap.size ≠ w.heap.size + 1; omega), zz7 _ _ _ _ (by show w.heap.size ≠ w.heap.size + 1; omega), zz7 _ _ _ _ (by show w.heap.size ≠ w.heap.size + 1; omega), zz7 _ _ _ _ (by show w.heap.size ≠ w.heap.size + 1; omega), zz7 _ _ _ _ (by show w.heap.size ≠ w.heap.size + 1; omega)]
      exact ⟨(World.cell?_of_block (w := w8) (a := ⟨w.heap.size, 0, none⟩) this).trans hS4.1, (World.cell?_of_block (w := w8) (a := ⟨w.heap.size, 1, none⟩) this).trans hS4.2⟩
     have HS5 := jj hS5
     clear hS5
     go_simp
     (try dsimp only)
     refine hK.out _ _ HS5.out (fun _ => trivial) ?_
     clear hK K
     (try simp only [Act.put, zz1, zz2, zz3, zz4, zz5, zz6])
     refine wE (by kernel_rfl) ?_
     clear rc0 rf0 rc1 rf1 rc2 rf2 rc3 rf3 rc4 rf4 rc5 rf5 rlt hS1 hS2 hS3 hS4 hT1
     have HFF : Hid (∀ b ∈ w6.heap.size :: (F5 ++ F6), b < w8.heap.size ∧ b ≠ g ∧ w.heap.size ≤ b ∧ b ≠ w.heap.size + 1) := fun b hb => by
      rcases List.mem_cons.1 hb with h | h
      ·exact ⟨by omega, by omega, by omega, by omega⟩
      ·rcases List.mem_append.1 h with h | h
       ·have := HF5.out b h; exact ⟨by omega, this.2.1, by have := this.2.2; have : w4.heap.size ≤ b := this; omega, by have := this.2.2; have : w4.heap.size ≤ b := this; omega⟩
       ·have := HF6.out b h; exact ⟨by omega, this.2.1, by omega, by omega⟩
     have HAR : Hid (Arr w8 (PR w8) [v5, v6] (.slice (some ⟨w6.heap.size, 0, none⟩) 2 2) (w6.heap.size :: (F5 ++ F6))) := arr_pats2 KA8.out HP58.out HP68.out
     have HSZ : Hid (nodesP ⟨5, 0, 0, 0, 0, [v5, v6]⟩ ≤ 4 ^ (N + 1)) := by have h1 := HN5.out; have h2 := HN6.out; unfold Hid nodesP at *; simp only [P.size, P.sizes]; omega
     have HPQ : Hid (q6 ≤ p + 5 * 4 ^ (N + 1)) := by unfold Hid; omega
     go_wp2
     refine bodyPost_ret (zA1 rfl _ _ (w.heap.size + 1) 25 #[.int .i64 5, .int .i64 0, .int .i64 0, .int .i64 0, .int .i64 0, .slice (some ⟨w6.heap.size, 0, none⟩) 2 2] (0, 0) _ rfl (KR8.out.six _ _ _ _ _ _) Try.underlying25 rfl rfl) rfl ?_
     have hkp : Kept (w6.heap.size :: (F5 ++ F6)) w8 _ := zAM (w := w8) (H := w.heap.size + 1) (fun b hb => (HFF.out b hb).2.2.2) (.int .i64 5) (.int .i64 0) (.int .i64 0) (.int .i64 0) (.int .i64 0) (.slice (some ⟨w6.heap.size, 0, none⟩) 2 2)
     exact ⟨⟨5, 0, 0, 0, 0, [v5, v6]⟩, [.int .i64 5, .int .i64 0, .int .i64 0, .int .i64 0, .int .i64 0, .slice (some ⟨w6.heap.size, 0, none⟩) 2 2], _, q6, rfl, (zA4 _ _ _).2 ⟨_, rfl, ArrP.mono HAR.out hkp⟩, fun b hb => ⟨by rw [zAN]; exact (HFF.out b hb).1, (HFF.out b hb).2.1, (HFF.out b hb).2.2.1⟩, HSZ.out, zB2 HR8.out (by omega) _ _ _ _ _ _, HPQ.out, zAL HC8.out (by omega) _ _ _ _ _ _⟩
    |false =>
     have y0 : w4.cell? ⟨w.heap.size, 0, none⟩ = some (.int .i64 t.d) := (KT4.out.cell 0).trans (by simp)
     have y1 : w4.cell? ⟨w.heap.size, 1, none⟩ = some (.int .i64 t.i) := (KT4.out.cell 1).trans (by simp)
     have ylt := KT4.out.lt
     rcases id HT.out with hti | ⟨d, i, rfl, hd4, hi4⟩
     ·have t1 : (t.d == -1) = true := by simp [hti]
      clear hti
      go_wp2_with fail
      refine (zAF 10 (p + 1 + 1) g w4 HR4.out (by omega) (by omega) (by omega)).mono ?_
      rintro e w5 ⟨r5, rfl, hr5, hR5, hC5⟩
      have KR5 := jj (KR4.out.same (hC5.block _ KR4.out.lt (HG1.out _ (by omega))))
      have HC5 := jj (HC4.out.trans hC5)
      have HR5 := jj hR5
      have hz5 := hC5.size
      clear hR5 hC5 y0 y1 ylt KT4 KR4 HC4 HR4
      have e5 : (10 : Int) - (r5 : Int) = ((10 - r5 : Nat) : Int) := by omega
      have e5w : IntKind.i64.wrap ((10 : Int) - (r5 : Int)) = (10 : Int) - (r5 : Int) := IntWalk.i64_in _ (by omega)
      go_wp2_with fail
      have h6 := zAF (10 - r5) (p + 1 + 1 + 1) g w5 HR5.out (by omega) (by omega) (by omega)
      clear e5w
      (first | with_reducible refine h6.mono ?_ | (rw [← e5] at h6; with_reducible refine h6.mono ?_) | (trace_state; fail))
      rintro e w6 ⟨r6, rfl, hr6, hR6, hC6⟩
      have KR6 := jj (KR5.out.same (hC6.block _ KR5.out.lt (HG1.out _ (by omega))))
      have HC6 := jj (HC5.out.trans hC6)
      have HR6 := jj hR6
      have hz6 := hC6.size
      clear h6 e5 hR6 hC6 KR5 HC5 HR5
      go_wp2_with fail
      refine (zAF 2 (p + 1 + 1 + 1 + 1) g w6 HR6.out (by omega) (by omega) (by omega)).mono ?_
      rintro e w7 ⟨r7, rfl, hr7, hR7, hC7⟩
      have KR7 := jj (KR6.out.same (hC7.block _ KR6.out.lt (HG1.out _ (by omega))))
      have HC7 := jj (HC6.out.trans hC7)
      have HR7 := jj hR7
      have hz7 := hC7.size
      have hmul : r6 * r7 ≤ 10 := Nat.le_trans (Nat.mul_le_mul (show r6 ≤ 10 by omega) (show r7 ≤ 1 by omega)) (by omega)
      obtain ⟨M, hM⟩ : ∃ M : Nat, M = r6 * r7 := ⟨_, rfl⟩
      have hMI : (r6 : Int) * (r7 : Int) = (M : Int) := by rw [hM]; push_cast; rfl
      rw [← hM] at hmul
      have hmw : IntKind.i64.wrap ((r6 : Int) * (r7 : Int)) = (M : Int) := by rw [hMI]; exact IntWalk.i64_in _ (by omega)
      have haw : IntKind.i64.wrap ((r5 : Int) + (M : Int)) = (r5 : Int) + (M : Int) := IntWalk.i64_in _ (by omega)
      have HMI := jj hMI
      clear hR7 hC7 KR6 HC6 HR6 hM
      clear hMI
      have rc0 := (KR7.out.cell 0).trans (show _ = some (.int .i64 0) from by simp)
      have rf0 := KR7.out.frozen 0
      have rc1 := (KR7.out.cell 1).trans (show _ = some (.int .i64 0) from by simp)
      have rf1 := KR7.out.frozen 1
      have rc2 := (KR7.out.cell 2).trans (show _ = some (.int .i64 0) from by simp)
      have rf2 := KR7.out.frozen 2
      have rc3 := (KR7.out.cell 3).trans (show _ = some (.int .i64 0) from by simp)
      have rf3 := KR7.out.frozen 3
      have rc4 := (KR7.out.cell 4).trans (show _ = some (.int .i64 0) from by simp)
      have rf4 := KR7.out.frozen 4
      have rc5 := (KR7.out.cell 5).trans (show _ = some (.slice none 0 0) from by simp)
      have rf5 := KR7.out.frozen 5
      have rlt := KR7.out.lt
      go_wp2
      clear rc0 rf0 rc1 rf1 rc2 rf2 rc3 rf3 rc4 rf4 rc5 rf5 rlt
      refine bodyPost_ret (zA1 rfl _ _ (w.heap.size + 1) 25 #[.int .i64 3, .int .i64 0, .int .i64 (r5 : Int), .int .i64 ((r5 : Int) + (M : Int)), .int .i64 0, .slice none 0 0] (0, 0) _ rfl (KR7.out.six _ _ _ _ _ _) Try.underlying25 rfl rfl) rfl ?_
      exact ⟨⟨3, 0, (r5 : Int), (r5 : Int) + (M : Int), 0, []⟩, [.int .i64 3, .int .i64 0, .int .i64 (r5 : Int), .int .i64 ((r5 : Int) + (M : Int)), .int .i64 0, .slice none 0 0], [], p + 1 + 1 + 1 + 1 + 1, rfl, (zA4 _ _ _).2 ⟨_, rfl, Arr.nil⟩, (fun b hb => by cases hb), by simp [nodesP, P.size, P.sizes]; omega, zB2 HR7.out (by omega) _ _ _ _ _ _, by omega, zAL HC7.out (by omega) _ _ _ _ _ _⟩
     ·have t1 : ((d : Int) == -1) = false := by rw [beq_eq_false_iff_ne]; omega
      have HKL : Hid ((ctorsL xs ⟨(d : Int), (i : Int)⟩).length ≤ 4) := by
       have h := ctorsL_len HW.out (s := d * 4 + i) (by omega)
       rw [tyAt_mk hi4] at h
       exact h
      obtain ⟨i0, hi, hz0, hz1, hz2'⟩ := info_parts info_PE
      have HI := jj hi
      have HZ0 := jj hz0
      have HZ1 := jj hz1
      have HZ2x := jj hz2'
      clear hi hz0 hz1 hz2'
      go_wp2_with fail
      refine (spec_l1Ctors xs ⟨(d : Int), (i : Int)⟩ w4 _ F (HX.out.mono (HC4.out.kept HF.out HGF.out) fun y _ cs G hk h => DtR.mono y cs G hk h) (HF.out.mono HC4.out.size) HW.out HT.out.inWorld).mono ?_
      rintro e w5 ⟨v5, F5, rfl, hb5, ha5, -, hfs5⟩
      have KT5 := jj (KT4.out.same (hb5.block _ KT4.out.lt))
      have KR5 := jj (KR4.out.same (hb5.block _ KR4.out.lt))
      have HC5 := jj (HC4.out.step hb5)
      have HR5 := jj (HR4.out.below hb5)
      have HA5 := jj ha5
      have HU5 : Hid (∀ b ∈ F5, w4.heap.size ≤ b ∧ b < w5.heap.size) := hfs5
      have hz5 := hb5.size
      obtain ⟨C5, cap5, rfl, hl1, hl2⟩ := ha5.form
      clear ha5 hfs5 hb5 y0 y1 ylt KT4 KR4 HC4 HR4
      cases q5 : (((ctorsL xs ⟨(d : Int), (i : Int)⟩).length : Int) == 0) with
      |true =>
       have rc0 := (KR5.out.cell 0).trans (show _ = some (.int .i64 0) from by simp)
       have rf0 := KR5.out.frozen 0
       have rc1 := (KR5.out.cell 1).trans (show _ = some (.int .i64 0) from by simp)
       have rf1 := KR5.out.frozen 1
       have rc2 := (KR5.out.cell 2).trans (show _ = some (.int .i64 0) from by simp)
       have rf2 := KR5.out.frozen 2
       have rc3 := (KR5.out.cell 3).trans (show _ = some (.int .i64 0) from by simp)
       have rf3 := KR5.out.frozen 3
       have rc4 := (KR5.out.cell 4).trans (show _ = some (.int .i64 0) from by simp)
       have rf4 := KR5.out.frozen 4
       have rc5 := (KR5.out.cell 5).trans (show _ = some (.slice none 0 0) from by simp)
       have rf5 := KR5.out.frozen 5
       have rlt := KR5.out.lt
       go_wp2
       clear rc0 rf0 rc1 rf1 rc2 rf2 rc3 rf3 rc4 rf4 rc5 rf5 rlt
       refine bodyPost_ret (zA1 rfl _ _ (w.heap.size + 1) 25 #[.int .i64 1, .int .i64 0, .int .i64 0, .int .i64 0, .int .i64 0, .slice none 0 0] (0, 0) _ rfl (KR5.out.six _ _ _ _ _ _) Try.underlying25 rfl rfl) rfl ?_
       exact ⟨⟨1, 0, 0, 0, 0, []⟩, [.int .i64 1, .int .i64 0, .int .i64 0, .int .i64 0, .int .i64 0, .slice none 0 0], [], p + 1 + 1, rfl, (zA4 _ _ _).2 ⟨_, rfl, Arr.nil⟩, (fun b hb => by cases hb), by simp [nodesP, P.size, P.sizes]; omega, zB2 HR5.out (by omega) _ _ _ _ _ _, by omega, zAL HC5.out (by omega) _ _ _ _ _ _⟩
      |false =>
       have hk1 : 1 ≤ (ctorsL xs ⟨(d : Int), (i : Int)⟩).length := by
        rw [beq_eq_false_iff_ne] at q5
        omega
       have hk4 := HKL.out
       go_wp2_with fail
       refine (zAF (ctorsL xs ⟨(d : Int), (i : Int)⟩).length (p + 1 + 1) g w5 HR5.out (by omega) hk1 (by omega)).mono ?_
       rintro e w6 ⟨r, rfl, hrl, hR6, hC6⟩
       have KT6 := jj (KT5.out.same (hC6.block _ KT5.out.lt (HG1.out _ hgl)))
       have KR6 := jj (KR5.out.same (hC6.block _ KR5.out.lt (HG1.out _ (by omega))))
       have HC6 := jj (HC5.out.trans hC6)
       have hz6 := hC6.size
       have hAF6 : Arr w6 (NatR w6) (ctorsL xs ⟨(d : Int), (i : Int)⟩) (.slice C5 (ctorsL xs ⟨(d : Int), (i : Int)⟩).length cap5) F5 := ArrNat.kept HA5.out (hC6.kept (fun b hb => (HU5.out b hb).2) (fun b hb => HG1.out _ (by have := (HU5.out b hb).1; omega)))
       obtain ⟨bf, offf, rfl⟩ := hAF6.ptr (by omega)
       obtain ⟨hbfl, cf⟩ := ArrNat.at hAF6 (fun b hb => zz9 (HU5.out b hb).2 hz6) (zy2 _ _) r hrl
       have hme : (ctorsL xs ⟨(d : Int), (i : Int)⟩)[r] ∈ (ctorsL xs ⟨(d : Int), (i : Int)⟩) := List.getElem_mem hrl
       obtain ⟨d', m, e1, hkm, hd', hm⟩ := zB4 HT.out.inWorld hme
       obtain rfl : d = d' := Int.ofNat.inj e1
       rw [hkm] at cf hme
       have HME := jj hme
       have HR6 := jj hR6
       have g1 : (0 : Int) ≤ (r : Int) := by omega
       have g2 : (r : Int) < ((ctorsL xs ⟨(d : Int), (i : Int)⟩).length : Int) := by omega
       have hal := zB8 (i := (i : Int)) hd4 hm
       have HAL : Hid (∀ a ∈ argsL xs[d].ctors[m] (i : Int), TyIn xs.length a) := fun a ha => argsOf_in HW.out HT.out HME.out (by rw [hal]; exact ha)
       have hl3 : (argsL xs[d].ctors[m] (i : Int)).length ≤ 3 := by rw [argsL_len]; exact (HW.out.ctor hd4 hm).args
       have hca := (HW.out.ctor hd4 hm).args
       clear hkm e1 hme hR6 hC6 hAF6 hal KT5 KR5 HC5 HR5 HA5 q5
       have y0 : w6.cell? ⟨w.heap.size, 0, none⟩ = some (.int .i64 (d : Int)) := (KT6.out.cell 0).trans (by simp)
       have y1 : w6.cell? ⟨w.heap.size, 1, none⟩ = some (.int .i64 (i : Int)) := (KT6.out.cell 1).trans (by simp)
       have ylt := KT6.out.lt
       go_wp2_with fail
       clear y0 y1 ylt cf hbfl
       obtain ⟨wn, hwn⟩ : ∃ wn, wn = w6.alloc (.cells #[.int .i64 4, .int .i64 (m : Int), .int .i64 0, .int .i64 0, .int .i64 0, .slice none 0 0] 25) := ⟨_, rfl⟩
       have hbn : Below w6.heap.size w6 wn := by rw [hwn]; exact (zy2 _ _).alloc (zz8 _) _
       have KN : Hid (Blk wn w6.heap.size 25 #[.int .i64 4, .int .i64 (m : Int), .int .i64 0, .int .i64 0, .int .i64 0, .slice none 0 0]) := by rw [hwn]; exact Blk.new _ _ _
       rw [← hwn]
       clear hwn
       obtain ⟨D, hD⟩ : ∃ D, D = w6.heap.size := ⟨_, rfl⟩
       rw [← hD] at KN hbn hz6 ⊢
       have HCn : Hid (Chg [g] w wn) := HC6.out.trans (.of_below (by rw [← hD]; exact hbn))
       have KRn := jj (KR6.out.same (hbn.block _ (by rw [hD]; exact KR6.out.lt)))
       have HRn := jj (HR6.out.keep (w' := wn) (fun b hb => hbn.block b (by omega)))
       clear hbn HC6 KT6 HR6 KR6 hD
       refine (spec_l1Args xs d m (i : Int) hd4 hm wn _ F (HX.out.mono (HCn.out.kept HF.out HGF.out) fun y _ cs G hk h => DtR.mono y cs G hk h) (HF.out.mono HCn.out.size) hca).mono ?_
       rintro e w9 ⟨v7, F7, rfl, hb7, ha7, -, hfs7⟩
       have KN9 := jj (KN.out.same (hb7.block _ KN.out.lt))
       have KR9 := jj (KRn.out.same (hb7.block _ KRn.out.lt))
       have HC9 : Hid (Chg [g] w w9) := HCn.out.step hb7
       have HR9 := jj (HRn.out.below hb7)
       have HA7 := jj ha7
       have HU7 := jj hfs7.under
       have HL7 : Hid (∀ b ∈ F7, D < b) := fun b hb => zz9 KN.out.lt (hfs7 b hb).1
       have hDw : D < w9.heap.size := KN9.out.lt
       have hwD : w.heap.size + 1 < D := by omega
       obtain ⟨C7, cap7, rfl, hl71, hl72⟩ := ha7.form
       obtain ⟨Bz, hBz⟩ : ∃ B, B = w9.heap.size := ⟨_, rfl⟩
       have HBZ := jj hBz
       have hDB : D < Bz := by rw [hBz]; exact hDw
       clear ha7 hfs7 hb7 KN HCn KRn HRn hBz
       generalize (argsL xs[d].ctors[m] (i : Int)) = ls at *
       go_wp2
       go_loopw [13] (fun iv wr => ∃ q : Nat, ∃ kv : Value, ∃ Fk : List Nat, ∃ vs : List P, ∃ pq : Nat, q ≤ ls.length ∧ iv = .int .i64 q ∧ Hid (vs.length = q) ∧ Hid (P.sizes vs ≤ q * 4 ^ N) ∧ Hid (Blk wr D 25 #[.int .i64 4, .int .i64 (m : Int), .int .i64 0, .int .i64 0, .int .i64 0, kv]) ∧ Hid (Own wr Bz 25 6 PR vs kv Fk) ∧ Hid (∀ b ∈ Fk, Bz ≤ b) ∧ Hid (Chg [D, g] w9 wr) ∧ Hid (Chg [g] w wr) ∧ w9.heap.size ≤ wr.heap.size ∧ Hid (Rd wr g pq) ∧ pq ≤ p + 3 + q * (5 * 4 ^ N)) (fun iv _ => ls.length - (intOf iv).toNat)
       case atStart => exact ⟨0, _, [], [], p + 1 + 1 + 1, Nat.zero_le _, rfl, rfl, Nat.zero_le _, KN9, Own.nil _ _ _ _ _, (fun b hb => by cases hb), Chg.refl _ _, HC9, zz8 _, HR9, by omega⟩
       case round =>
        clear HC9 KN9 HR9
        obtain ⟨q, kv, Fk, vs, pq, hql, rfl, HVL, HVS, KD, HO, HFh, HC, HCw, hws9, HRq, hpq⟩ := hrel
        obtain ⟨kA, kcap, hkv, hkc1, hkc2⟩ := HO.out.form
        subst hkv
        have klt := KD.out.lt
        have HA7r : Hid (Arr wr (TyR wr) ls (.slice C7 ls.length cap7) F7) := HA7.out.mono (HC.out.kept HU7.out (fun b hb h => by have h1 := HL7.out b hb; rcases List.mem_cons.1 h with h2 | h2; omega; rw [zy1] at h2; omega)) (fun y _ cs G _ h => h)
        have HU7r : Hid (Under wr.heap.size F7) := HU7.out.mono HC.out.size
        by_cases hil : q < ls.length
        ·have g1 : (0 : Int) ≤ (q : Int) := by omega
         have g2 : (q : Int) < (ls.length : Int) := by omega
         obtain ⟨b7, off7, rfl⟩ := HA7r.out.ptr (by omega)
         have hb7z : D < b7 ∧ b7 < Bz := by
          obtain ⟨_, _, _, _, e, hb, -⟩ := HA7r.out.get TyR_len hil
          cases e
          exact ⟨HL7.out _ hb, by have := HU7.out _ hb; rw [HBZ.out]; exact this⟩
         obtain ⟨hb7w, k0, k1⟩ := ArrTy.at HA7r.out HU7r.out (zy2 _ _) q hil
         have ha := HAL.out ls[q] (List.getElem_mem hil)
         have hvl := HVL.out
         have hvl3 : vs.length ≤ 3 := by omega
         clear hvl
         have HA1 := jj ha
         clear ha
         obtain ⟨aq, haq⟩ : ∃ a, a = ls[q] := ⟨_, rfl⟩
         rw [← haq] at HA1 k0 k1
         clear haq
         have hmx : vs.length + 1 ≤ maxLen := by unfold maxLen; omega
         have hby : (vs.length + 1) * 64 ≤ 140737488355328 := by omega
         have hmul : q * (5 * 4 ^ N) ≤ 2 * (5 * 4 ^ N) := Nat.mul_le_mul_right _ (by omega)
         have hmul1 : (q + 1) * (5 * 4 ^ N) = q * (5 * 4 ^ N) + 5 * 4 ^ N := by rw [Nat.add_mul]; omega
         have zT : wr.drew.cell? ⟨D, 5, none⟩ = some (.slice kA vs.length kcap) := (KD.out.cell 5).trans (by simp)
         have zfT : wr.drew.frozen? ⟨D, 5, none⟩ = false := KD.out.frozen 5
         have hkT : D < wr.drew.heap.size := klt
         have hb7' : b7 < wr.drew.heap.size := hb7w
         have hDg : D ∉ [g] := HG1.out _ (by omega)
         have hb7g : b7 ∉ [g] := HG1.out _ (by omega)
         have HCd := jj (HCw.out.drew)
         have HCALL := jj (IH.out xs HW.out aq HA1.out (dp - 1) (by push_cast at hdp; omega) (by push_cast at hlo; omega) wr.drew pq g _ F HRq.out.drew (by omega) (HX.out.mono (HCd.out.kept HF.out HGF.out) fun y _ cs G hk h => DtR.mono y cs G hk h) (HF.out.mono HCd.out.size) HGf.out)
         go_wp2_with fail
         refine zA7 (S := fun w' => w'.cell? ⟨b7, off7 + q * 2, none⟩ = some (.int .i64 aq.d) ∧ w'.cell? ⟨b7, off7 + q * 2 + 1, none⟩ = some (.int .i64 aq.i)) (T := fun w' => w'.cell? ⟨D, 5, none⟩ = some (.slice kA vs.length kcap)) (d := 12) (by kernel_rfl) ?_
         have hS1 : wr.drew.cell? ⟨b7, off7 + q * 2, none⟩ = some (.int .i64 aq.d) ∧ wr.drew.cell? ⟨b7, off7 + q * 2 + 1, none⟩ = some (.int .i64 aq.i) := ⟨k0, k1⟩
         have hT1 : wr.drew.cell? ⟨D, 5, none⟩ = some (.slice kA vs.length kcap) := zT
         refine wU (i := 0) (v := ?_) rfl (Or.inl ⟨by rfl, ?hy0⟩) hS1 (fun _ => hT1) ?_
         case hy0 => (intro W hSw; (try dsimp only at hSw); (obtain ⟨s0, s1⟩ := hSw); go_simp; try with_reducible rfl)
         (try simp only [Act.put, zz4, zz5, zz6])
         refine zAU (i := 1) (v := ?_) rfl (by decide) rfl (by kernel_rfl) (by kernel_rfl) (by kernel_rfl) (by kernel_rfl) (fun _ _ _ h => h) (Or.inl ⟨by rfl, ?hy1⟩) (by rfl) hS1 hT1 ?_
         case hy1 => (intro W hSw; (try dsimp only at hSw); (obtain ⟨⟨s0, s1⟩, tT⟩ := hSw); go_simp; try with_reducible rfl)
         (try simp only [Act.put, zz4, zz5, zz6])
         refine wU (i := 2) (v := ?_) rfl (Or.inl ⟨by rfl, ?hy2⟩) hS1 (fun _ => hT1) ?_
         case hy2 => (intro W hSw; (try dsimp only at hSw); (obtain ⟨s0, s1⟩ := hSw); go_simp; try with_reducible rfl)
         (try simp only [Act.put, zz4, zz5, zz6])
         refine wU (i := 3) (v := ?_) rfl (Or.inl ⟨by rfl, ?hy3⟩) hS1 (fun _ => hT1) ?_
         case hy3 => (intro W hSw; (try dsimp only at hSw); (obtain ⟨s0, s1⟩ := hSw); go_simp; try with_reducible rfl)
         (try simp only [Act.put, zz4, zz5, zz6])
         refine wU (i := 4) (v := ?_) rfl (Or.inl ⟨by rfl, ?hy4⟩) hS1 (fun _ => hT1) ?_
         case hy4 => (intro W hSw; (try dsimp only at hSw); (obtain ⟨s0, s1⟩ := hSw); go_simp; try with_reducible rfl)
         (try simp only [Act.put, zz4, zz5, zz6])
         refine wU (i := 5) (v := ?_) rfl (Or.inl ⟨by rfl, ?hy5⟩) hS1 (fun _ => hT1) ?_
         case hy5 => (intro W hSw; (try dsimp only at hSw); (obtain ⟨s0, s1⟩ := hSw); go_simp; try with_reducible rfl)
         (try simp only [Act.put, zz4, zz5, zz6])
         refine wU (i := 6) (v := ?_) rfl (Or.inl ⟨by rfl, ?hy6⟩) hS1 (fun _ => hT1) ?_
         case hy6 => (intro W hSw; (try dsimp only at hSw); (obtain ⟨s0, s1⟩ := hSw); go_simp; try with_reducible rfl)
         (try simp only [Act.put, zz4, zz5, zz6])
         refine wU (i := 7) (v := ?_) rfl (Or.inl ⟨by rfl, ?hy7⟩) hS1 (fun _ => hT1) ?_
         case hy7 => (intro W hSw; (try dsimp only at hSw); (obtain ⟨s0, s1⟩ := hSw); go_simp; try with_reducible rfl)
         (try simp only [Act.put, zz4, zz5, zz6])
         refine wU (i := 8) (v := ?_) rfl (Or.inl ⟨by rfl, ?hy8⟩) hS1 (fun _ => hT1) ?_
         case hy8 => (intro W hSw; (try dsimp only at hSw); (obtain ⟨s0, s1⟩ := hSw); go_simp; try with_reducible rfl)
         (try simp only [Act.put, zz4, zz5, zz6])
         refine wU (i := 9) (v := ?_) rfl (Or.inl ⟨by rfl, ?hy9⟩) hS1 (fun _ => hT1) ?_
         case hy9 => (intro W hSw; (try dsimp only at hSw); (obtain ⟨s0, s1⟩ := hSw); go_simp; try with_reducible rfl)
         (try simp only [Act.put, zz4, zz5, zz6])
         refine wR (rs := [10]) (by kernel_rfl) (by simp) ?_
         refine AllReadyB.c rfl (fun K hK => ?_) AllReadyB.n
         go_simp
         go_at_call 99
         with_reducible refine HCALL.out.mono ?_
         rintro e wA ⟨vA, csA, FA, qA, rfl, hpA, hfsA, hnA, hRA, hqA, hbA⟩
         obtain ⟨kvA, rfl, haA⟩ := (zA4 _ _ _).1 hpA
         obtain ⟨A8, cap8, rfl, -, -⟩ := haA.form
         clear haA
         have HBu : Hid (Chg [g] wr wA) := hbA.undrew
         have HPA := jj hpA
         have HRA := jj hRA
         have HNA := jj hnA
         have HFsA : Hid (∀ b ∈ FA, wr.heap.size ≤ b ∧ b < wA.heap.size) := fun b hb => ⟨(hfsA b hb).2.2, (hfsA b hb).1⟩
         have HOA : Hid (Own wA Bz 25 6 PR vs (.slice kA vs.length kcap) Fk) := HO.out.chg PR_mono' HBu.out (fun b hb => by rw [zy1] at hb; omega) HFh.out
         have hbs : Bz ≤ wA.heap.size := by have h1 := HBu.out.size; have h2 := HBZ.out; omega
         clear hpA hRA hnA hfsA
         have hSA : wA.cell? ⟨b7, off7 + q * 2, none⟩ = some (.int .i64 aq.d) ∧ wA.cell? ⟨b7, off7 + q * 2 + 1, none⟩ = some (.int .i64 aq.i) := ⟨(hbA.cell (p := ⟨b7, off7 + q * 2, none⟩) hb7' hb7g).trans k0, (hbA.cell (p := ⟨b7, off7 + q * 2 + 1, none⟩) hb7' hb7g).trans k1⟩
         have zA : wA.cell? ⟨D, 5, none⟩ = some (.slice kA vs.length kcap) := (hbA.cell (p := ⟨D, 5, none⟩) hkT hDg).trans zT
         have zfA : wA.frozen? ⟨D, 5, none⟩ = false := (hbA.frozen hkT hDg).trans zfT
         have hkA : D < wA.heap.size := zz9 hkT hbA.size
         have kl1 : b7 < wA.heap.size := zz9 hb7' hbA.size
         have kl2 : b7 < wA.heap.size := zz9 hb7' hbA.size
         have hSB : (wA.alloc (.cells [.int .i64 vA.op, .int .i64 vA.ct, .int .i64 vA.n, .int .i64 vA.m, .int .i64 vA.va, .slice A8 vA.ks.length cap8].toArray 25)).cell? ⟨b7, off7 + q * 2, none⟩ = some (.int .i64 aq.d) ∧ (wA.alloc (.cells [.int .i64 vA.op, .int .i64 vA.ct, .int .i64 vA.n, .int .i64 vA.m, .int .i64 vA.va, .slice A8 vA.ks.length cap8].toArray 25)).cell? ⟨b7, off7 + q * 2 + 1, none⟩ = some (.int .i64 aq.i) := ⟨(World.cell?_alloc_lt _ _ _ kl1).trans hSA.1, (World.cell?_alloc_lt _ _ _ kl2).trans hSA.2⟩
         dsimp only
         refine hK.out _ _ hSA (fun _ => zA) ?_
         clear hK K
         (try simp only [Act.put, zz4, zz5, zz6])
         refine wR (rs := [11]) (by kernel_rfl) (by simp) ?_
         refine AllReadyB.c rfl (fun K hK => ?_) AllReadyB.n
         go_simp
         refine hK.out _ _ hSB (fun _ => (World.cell?_alloc_lt _ _ _ hkA).trans zA) ?_
         clear hK K
         (try simp only [Act.put, zz4, zz5, zz6])
         refine wR (rs := [12]) (by kernel_rfl) (by simp) ?_
         refine AllReadyB.c rfl (fun K hK => ?_) AllReadyB.n
         refine zAZ (P := Try.prog) rfl _ _ 23 rfl i0 _ 64 Try.underlying23 HI.out HZ0.out HZ1.out HZ2x.out rfl (by decide) PR_len' PR_mono' (by rfl) HOA.out vA 25 [.int .i64 vA.op, .int .i64 vA.ct, .int .i64 vA.n, .int .i64 vA.m, .int .i64 vA.va, .slice A8 vA.ks.length cap8] FA wA.heap.size (by rfl) rfl (by simp [Value.oneCell']) HPA.out (fun b hb => (HFsA.out b hb).2) (fun g hg hG => Nat.lt_irrefl _ (zz9 (HO.out.row g hg).2 (HFsA.out g hG).1)) hmx hby hbs ?_
         intro g cp w7 hown7 hgr7 hat7
         have hrow7 := HOA.out.row
         have n7 : ∀ x, (x < Bz ∨ wr.heap.size ≤ x) → some x ≠ (Value.ownBlock (.slice kA vs.length kcap)) := fun x hx e => by
          have h1 := (hrow7 x (zA2.2 e.symm)).1
          have h2 := (HO.out.row x (zA2.2 e.symm)).2
          omega
         have l7 : wA.heap.size ≤ (wA.alloc (.cells [.int .i64 vA.op, .int .i64 vA.ct, .int .i64 vA.n, .int .i64 vA.m, .int .i64 vA.va, .slice A8 vA.ks.length cap8].toArray 25)).heap.size := by rw [World.size_alloc]; exact Nat.le_succ _
         have s7 : w7.cell? ⟨b7, off7 + q * 2, none⟩ = some (.int .i64 aq.d) ∧ w7.cell? ⟨b7, off7 + q * 2 + 1, none⟩ = some (.int .i64 aq.i) := ⟨(World.grownBy.cell_far hgr7 ⟨b7, off7 + q * 2, none⟩ (zz9 kl1 l7) (n7 (b7) (by omega))).trans hSB.1, (World.grownBy.cell_far hgr7 ⟨b7, off7 + q * 2 + 1, none⟩ (zz9 kl2 l7) (n7 (b7) (by omega))).trans hSB.2⟩
         have z71 : w7.cell? ⟨D, 5, none⟩ = some (.slice kA vs.length kcap) := (World.grownBy.cell_far hgr7 ⟨D, 5, none⟩ (zz9 hkA l7) (n7 (D) (by omega))).trans ((World.cell?_alloc_lt _ _ _ hkA).trans zA)
         have zf71 : w7.frozen? ⟨D, 5, none⟩ = false := (World.grownBy.frozen_far hgr7 ⟨D, 5, none⟩ (zz9 hkA l7) (n7 (D) (by omega))).trans (Eq.trans (World.frozen?_of_block (Below.heap_alloc _ _ _ hkA)) zfA)
         refine hK.out _ _ s7 (fun h => by cases h) ?_
         clear hK K
         (try simp only [Act.put, zz4, zz5, zz6])
         refine wU (i := 13) (v := ?_) rfl (Or.inl ⟨by rfl, ?hy13⟩) s7 (fun h => by cases h) ?_
         case hy13 => (intro W hSw; (try dsimp only at hSw); (obtain ⟨s0, s1⟩ := hSw); go_simp; try with_reducible rfl)
         (try simp only [Act.put, zz4, zz5, zz6])
         refine wR (rs := [14]) (by kernel_rfl) (by simp) ?_
         refine AllReadyB.c rfl (fun K hK => ?_) AllReadyB.n
         go_simp
         refine hK.out _ _ ⟨(World.cell?_setCell_far _ _ _ _ (by show D ≠ b7; omega)).trans s7.1, (World.cell?_setCell_far _ _ _ _ (by show D ≠ b7; omega)).trans s7.2⟩ (fun h => by cases h) ?_
         clear hK K
         (try simp only [Act.put, zz4, zz5, zz6])
         refine wE (by kernel_rfl) ?_
         obtain ⟨r1, r2, r3, r4, r5, r6, r7⟩ := kid_round3 (w := w) 5 PR_mono' HBZ.out.symm hDB hgl (by omega) KD.out HO.out HFh.out HC.out HCw.out HBu.out HFsA.out hown7 hgr7 HRA.out
         have R1 := jj r1
         have R2 := jj r2
         have R3 := jj r3
         have R4 := jj r4
         have R5 := jj r5
         have R7 := jj r7
         have HV2 : Hid ((vs ++ [vA]).length = q + 1) := by have := HVL.out; unfold Hid; rw [List.length_append]; simp only [List.length_cons, List.length_nil]; omega
         have HS2 : Hid (P.sizes (vs ++ [vA]) ≤ (q + 1) * 4 ^ N) := psizes_snoc vs vA q _ HVS.out HNA.out
         clear r1 r2 r3 r4 r5 r7 hown7 hgr7 hat7 hrow7 n7 l7 s7 z71 zf71 hSA zA zfA hkA hSB hS1 hT1 zT zfT hkT HCALL
         go_wp2
         go_roundw
         case rel => exact ⟨q + 1, _, _, vs ++ [vA], qA, hil, by go_num, HV2, HS2, R1, (by rw [show (vs ++ [vA]).length = vs.length + 1 from by rw [List.length_append]; rfl] at *; exact R2), R3, R4, R5, r6, R7, by omega⟩
         case measure => (simp [intOf] <;> omega)
        ·have hq : q = ls.length := by omega
         obtain ⟨FF, hf1, hf3⟩ := kid_done3 (H := Bz) HO.out HFh.out (zz8 _)
         have HF1 := jj hf1
         have HF3 := jj hf3
         have e0 := (KD.out.cell 0).trans (show _ = some (.int .i64 4) from by simp)
         have e1 := (KD.out.cell 1).trans (show _ = some (.int .i64 (m : Int)) from by simp)
         have e2 := (KD.out.cell 2).trans (show _ = some (.int .i64 0) from by simp)
         have e3 := (KD.out.cell 3).trans (show _ = some (.int .i64 0) from by simp)
         have e4 := (KD.out.cell 4).trans (show _ = some (.int .i64 0) from by simp)
         have e5 := (KD.out.cell 5).trans (show _ = some (.slice kA vs.length kcap) from by simp)
         have RR := jj (KR9.out.same (HC.out.block _ KR9.out.lt (by intro h; rcases List.mem_cons.1 h with h2 | h2; omega; rw [zy1] at h2; omega)))
         have hmul : q * (5 * 4 ^ N) ≤ 3 * (5 * 4 ^ N) := Nat.mul_le_mul_right _ (by omega)
         have hmul2 : q * 4 ^ N ≤ 3 * 4 ^ N := Nat.mul_le_mul_right _ (by omega)
         have HPQ : Hid (pq ≤ p + 5 * 4 ^ (N + 1)) := by unfold Hid; omega
         have HSZ : Hid (nodesP ⟨4, (m : Int), 0, 0, 0, vs⟩ ≤ 4 ^ (N + 1)) := by have := HVS.out; unfold Hid nodesP; rw [P.size]; omega
         have rc0 := (RR.out.cell 0).trans (show _ = some (.int .i64 0) from by simp)
         have rf0 := RR.out.frozen 0
         have rc1 := (RR.out.cell 1).trans (show _ = some (.int .i64 0) from by simp)
         have rf1 := RR.out.frozen 1
         have rc2 := (RR.out.cell 2).trans (show _ = some (.int .i64 0) from by simp)
         have rf2 := RR.out.frozen 2
         have rc3 := (RR.out.cell 3).trans (show _ = some (.int .i64 0) from by simp)
         have rf3 := RR.out.frozen 3
         have rc4 := (RR.out.cell 4).trans (show _ = some (.int .i64 0) from by simp)
         have rf4 := RR.out.frozen 4
         have rc5 := (RR.out.cell 5).trans (show _ = some (.slice none 0 0) from by simp)
         have rf5 := RR.out.frozen 5
         have rlt := RR.out.lt
         clear hf1 hf3 hq
         go_wp2
         clear e0 e1 e2 e3 e4 e5 rc0 rf0 rc1 rf1 rc2 rf2 rc3 rf3 rc4 rf4 rc5 rf5 rlt
         refine bodyPost_ret (zA1 rfl _ _ (w.heap.size + 1) 25 #[.int .i64 4, .int .i64 (m : Int), .int .i64 0, .int .i64 0, .int .i64 0, .slice kA vs.length kcap] (0, 0) _ rfl (RR.out.six _ _ _ _ _ _) Try.underlying25 rfl rfl) rfl ?_
         have hkp : Kept FF wr _ := zAM (w := wr) (H := w.heap.size + 1) (fun b hb => by have := (HF3.out b hb).1; omega) (.int .i64 4) (.int .i64 (m : Int)) (.int .i64 0) (.int .i64 0) (.int .i64 0) (.slice kA vs.length kcap)
         exact ⟨⟨4, (m : Int), 0, 0, 0, vs⟩, [.int .i64 4, .int .i64 (m : Int), .int .i64 0, .int .i64 0, .int .i64 0, .slice kA vs.length kcap], FF, pq, rfl, (zA4 _ _ _).2 ⟨_, rfl, ArrP.mono HF1.out hkp⟩, fun b hb => ⟨by rw [zAN]; exact (HF3.out b hb).2, by have := (HF3.out b hb).1; omega, by have := (HF3.out b hb).1; omega⟩, HSZ.out, zB2 HRq.out (by omega) _ _ _ _ _ _, HPQ.out, zAL HCw.out (by omega) _ _ _ _ _ _⟩
def scanPB (xs : List Dt) (d : Nat) (t : Ty) (p : P) (c : Nat) : Bool := shapeB xs d t p && (decide (c + nodesP p ≤ 60) && linB xs d t p)
def nodeB (xs : List Dt) (t : Ty) (p : P) : Bool := ownB xs t p && p.ks.length == (typesP xs t p).length
def kidSum (p : P) (i : Nat) : Nat := (p.ks.take i).foldl (fun n k => n + nodesP k) 0
theorem foldl_nodes (l : List P) (n : Nat) : l.foldl (fun n k => n + nodesP k) n = n + (l.length + P.subs l) := by
 induction l generalizing n with
 |nil => simp [P.subs]
 |cons k l ih => rw [List.foldl_cons, ih]; simp only [P.subs, List.length_cons, nodesP]; omega
theorem zAQ (p : P) (i : Nat) (h : i < p.ks.length) : kidSum p (i + 1) = kidSum p i + nodesP p.ks[i] := by
 unfold kidSum
 rw [take_snoc' p.ks i h, List.foldl_append]; rfl
theorem zAK (p : P) {i : Nat} (h : p.ks.length ≤ i) : nodesP p = 1 + kidSum p i := by
 unfold kidSum
 rw [List.take_of_length_le h, foldl_nodes]
 obtain ⟨op, ct, n, m, va, ks⟩ := p
 unfold nodesP
 rw [P.size, P.sizes_eq]
 simp only; omega
theorem kidSum_le (p : P) (i : Nat) : 1 + kidSum p i ≤ nodesP p := by
 rw [zAK p (zz8 _)]
 unfold kidSum
 rw [foldl_nodes, foldl_nodes]
 have h1 := P.subs_take_le p.ks i
 have h2 : (p.ks.take i).length ≤ p.ks.length := by rw [List.length_take]; omega
 rw [List.take_of_length_le (zz8 _)]
 omega
section
variable {xs : List Dt} {d c i : Nat} {t : Ty} {p : P}
theorem scanPB_node (h : nodeB xs t p = false) : scanPB xs (d + 1) t p c = false := by
 have e : shapeB xs (d + 1) t p = (nodeB xs t p && ((typesP xs t p).zip p.ks).all fun x => shapeB xs d x.1 x.2) := by
  unfold nodeB
  rw [Bool.and_assoc]; rfl
 unfold scanPB
 rw [e, h]; rfl
theorem scanPB_many (h : 60 < c + 1) : scanPB xs d t p c = false := by
 have h1 : ¬ c + nodesP p ≤ 60 := by unfold nodesP; omega
 unfold scanPB
 rw [decide_eq_false h1, Bool.false_and, Bool.and_false]
theorem scanPB_deep : scanPB xs 0 t p c = false := rfl
structure KidsOk (xs : List Dt) (d : Nat) (t : Ty) (p : P) (c i : Nat) : Prop where
 node : nodeB xs t p = true
 le : i ≤ p.ks.length
 fit : c + 1 + kidSum p i ≤ 60
 all : ∀ j (h : j < p.ks.length) (h' : j < (typesP xs t p).length), j < i → shapeB xs d (typesP xs t p)[j] p.ks[j] = true ∧ linB xs d (typesP xs t p)[j] p.ks[j] = true
theorem KidsOk.len (h : KidsOk xs d t p c i) : p.ks.length = (typesP xs t p).length := by
 have := h.node
 unfold nodeB at this
 rw [Bool.and_eq_true, beq_iff_eq] at this
 exact this.2
theorem KidsOk.zero (h : nodeB xs t p = true) (hc : c + 1 ≤ 60) : KidsOk xs d t p c 0 := ⟨h, Nat.zero_le _, by unfold kidSum; simpa using hc, fun j _ _ hj => by omega⟩
theorem zip_at (hi : i < p.ks.length) (hi' : i < (typesP xs t p).length) : ((typesP xs t p)[i], p.ks[i]) ∈ (typesP xs t p).zip p.ks := by
 rw [List.mem_iff_getElem]
 exact ⟨i, by rw [List.length_zip]; omega, by rw [List.getElem_zip]⟩
theorem KidsOk.next (h : KidsOk xs d t p c i) (hi : i < p.ks.length) (hi' : i < (typesP xs t p).length) (hs : scanPB xs d (typesP xs t p)[i] p.ks[i] (c + 1 + kidSum p i) = true) : KidsOk xs d t p c (i + 1) := by
 unfold scanPB at hs
 rw [Bool.and_eq_true, Bool.and_eq_true, decide_eq_true_eq] at hs
 refine ⟨h.node, hi, by rw [zAQ p i hi]; omega, fun j hj hj' hji => ?_⟩
 rcases Nat.lt_or_ge j i with h1 | h1
 ·exact h.all j hj hj' h1
 ·obtain rfl : j = i := by omega
  exact ⟨hs.1, hs.2.2⟩
theorem KidsOk.fail (h : KidsOk xs d t p c i) (hi : i < p.ks.length) (hi' : i < (typesP xs t p).length) (hs : scanPB xs d (typesP xs t p)[i] p.ks[i] (c + 1 + kidSum p i) = false) : scanPB xs (d + 1) t p c = false := by
 rw [Bool.eq_false_iff]
 intro hk
 unfold scanPB at hk
 rw [Bool.and_eq_true, Bool.and_eq_true, decide_eq_true_eq] at hk
 obtain ⟨h1, h2, h3⟩ := hk
 simp only [shapeB, linB, Bool.and_eq_true] at h1 h3
 have m := zip_at (xs := xs) (t := t) hi hi'
 have s1 := List.all_eq_true.1 h1.2.2 _ m
 have s2 := List.all_eq_true.1 h3.1 _ m
 have s3 : c + 1 + kidSum p i + nodesP p.ks[i] ≤ 60 := by
  have := kidSum_le p (i + 1)
  rw [zAQ p i hi] at this
  omega
 unfold scanPB at hs
 rw [s1, s2, decide_eq_true s3] at hs
 cases hs
theorem KidsOk.shape (h : KidsOk xs d t p c p.ks.length) : shapeB xs (d + 1) t p = true := by
 have hn := h.node
 have hl := h.len
 unfold nodeB at hn
 rw [Bool.and_eq_true] at hn
 unfold shapeB
 rw [hn.1, hn.2, Bool.true_and, Bool.true_and, List.all_eq_true]
 intro x hx
 obtain ⟨i, hi, rfl⟩ := List.mem_iff_getElem.1 hx
 rw [List.length_zip] at hi
 rw [List.getElem_zip]
 exact (h.all i (by omega) (by omega) (by omega)).1
theorem KidsOk.lins (h : KidsOk xs d t p c p.ks.length) : (((typesP xs t p).zip p.ks).all fun x => linB xs d x.1 x.2) = true := by
 rw [List.all_eq_true]
 intro x hx
 have hl := h.len
 obtain ⟨i, hi, rfl⟩ := List.mem_iff_getElem.1 hx
 rw [List.length_zip] at hi
 rw [List.getElem_zip]
 exact (h.all i (by omega) (by omega) (by omega)).2
theorem KidsOk.done (h : KidsOk xs d t p c p.ks.length) : scanPB xs (d + 1) t p c = (if p.op = 5 then (match p.ks with | [k0, k1] => alikeB (varsN xs d t k0) (varsN xs d t k1) | _ => true) else dupFree (varsN xs (d + 1) t p)) := by
 have hf : c + nodesP p ≤ 60 := by rw [zAK p (zz8 _)]; have := h.fit; omega
 unfold scanPB
 rw [h.shape, decide_eq_true hf, Bool.true_and, Bool.true_and]
 show ((((typesP xs t p).zip p.ks).all fun x => linB xs d x.1 x.2) && _) = _
 rw [h.lins, Bool.true_and]
 all_goals rfl
end
theorem ArrP.at {w0 w : World} {b off n cap : Nat} {F : List Nat} {xs : List P} (h : Arr w0 (PR w0) xs (.slice (some ⟨b, off, none⟩) n cap) F) (hF : Under w0.heap.size F) (hB : Below w0.heap.size w0 w) (i : Nat) (hi : i < xs.length) :
  ∃ A1 cap1 G, b < w.heap.size ∧ w.cell? ⟨b, off + i * 6, none⟩ = some (.int .i64 xs[i].op) ∧ w.cell? ⟨b, off + i * 6 + 1, none⟩ = some (.int .i64 xs[i].ct) ∧ w.cell? ⟨b, off + i * 6 + 2, none⟩ = some (.int .i64 xs[i].n) ∧ w.cell? ⟨b, off + i * 6 + 3, none⟩ = some (.int .i64 xs[i].m) ∧ w.cell? ⟨b, off + i * 6 + 4, none⟩ = some (.int .i64 xs[i].va) ∧ w.cell? ⟨b, off + i * 6 + 5, none⟩ = some (.slice A1 xs[i].ks.length cap1) ∧
   Hid (PR w0 xs[i] [.int .i64 xs[i].op, .int .i64 xs[i].ct, .int .i64 xs[i].n, .int .i64 xs[i].m, .int .i64 xs[i].va, .slice A1 xs[i].ks.length cap1] G) ∧ Hid (Under w0.heap.size G) ∧ (∀ b ∈ G, b ∈ F) ∧ xs[i].ks.length ≤ cap1 ∧ cap1 ≤ 9223372036854775807 := by
 obtain ⟨b', off', cs, G, e, hb, hcs, hv, hG⟩ := h.get PR_len hi
 cases e
 have hbl := hF _ hb
 have hc := hcs.same (hB.block _ hbl)
 obtain ⟨kv, rfl, ha⟩ := (zA4 _ _ _).1 hv
 obtain ⟨A1, cap1, rfl, h1, h2⟩ := ha.form
 exact ⟨A1, cap1, G, zz9 hbl hB.size, hc 0 _ rfl, hc 1 _ rfl, hc 2 _ rfl, hc 3 _ rfl, hc 4 _ rfl, hc 5 _ rfl, hv, hF.sub hG, hG, h1, h2⟩
theorem zA5 (p : P) : nodesP p = 1 + P.sizes p.ks := by obtain ⟨op, ct, n, m, va, ks⟩ := p; unfold nodesP; rw [P.size]; simp only; omega
theorem sizesP_step {l : List P} {i : Nat} (h : i < l.length) : P.sizes (l.take (i + 1)) = P.sizes (l.take i) + nodesP l[i] := by
 rw [P.sizes_eq, P.sizes_eq, P.subs_take_succ l i h, List.length_take, List.length_take]
 unfold nodesP
 omega
theorem zAG (l : List P) (i : Nat) : P.sizes (l.take i) ≤ P.sizes l := by
 rw [P.sizes_eq, P.sizes_eq, List.length_take]
 have := P.subs_take_le l i
 omega
theorem nodesP_mem {l : List P} {i : Nat} (h : i < l.length) : nodesP l[i] ≤ P.sizes l := by
 have h1 := sizesP_step h
 have h2 := zAG l (i + 1)
 omega
theorem P.indv {q : P → Prop} (h : ∀ v : P, (∀ k ∈ v.ks, q k) → q v) : ∀ v, q v := P.ind fun op ct n m va ks ih => h ⟨op, ct, n, m, va, ks⟩ ih
def DrewPN (b p n g : Nat) (top : Int) (G : List Nat) (w : World) (e : Ending) (w' : World) : Prop := ∃ (a : P) (cs : List Value) (F : List Nat) (q : Nat) (m : Int), e = .returned (.tuple #[.agg cs.toArray, .int .i64 m]) ∧ PR w' a cs F ∧ (∀ b ∈ F, b < w'.heap.size ∧ (b ∈ G ∨ w.heap.size ≤ b)) ∧ nodesP a ≤ b ∧ Rd w' g q ∧ q ≤ p + n ∧ Chg [g] w w' ∧ 0 ≤ m ∧ m ≤ top
theorem psizes_snoc2 (vs : List P) (v k : P) (s : Nat) (h : P.sizes vs ≤ 2 * s) (hv : nodesP v ≤ 2 * nodesP k) : P.sizes (vs ++ [v]) ≤ 2 * (s + nodesP k) := by
 rw [P.sizes_eq] at h ⊢
 rw [P.subs_snoc, List.length_append]
 unfold nodesP at hv ⊢
 simp only [List.length_cons, List.length_nil]
 omega
def NameP (a : P) : Prop := ∀ (w : World) (p g : Nat) (n : Int) (cs : List Value) (G : List Nat), Rd w g p → p + 2 * nodesP a ≤ 900000 → 0 ≤ n → n + 2 * (nodesP a : Int) ≤ 1000000 → PR w a cs G → Under w.heap.size G → (∀ b ∈ G, b ≠ g) →
 Calls Try.prog 98 #[.pointer (some ⟨g, 0, none⟩), .agg cs.toArray, .int .i64 n] w (DrewPN (2 * nodesP a) p (2 * nodesP a) g (n + 2 * (nodesP a : Int)) G w)
set_option maxHeartbeats 8000000 in
theorem l3Name_top (a : P) (ih : ∀ k ∈ a.ks, NameP k) (w : World) (p g : Nat) (n : Int) (cs : List Value) (G : List Nat) (hr : Rd w g p) (hp : p + 2 * nodesP a ≤ 900000) (hn0 : 0 ≤ n) (hn1 : n + 2 * (nodesP a : Int) ≤ 1000000) (hv : PR w a cs G) (hG : Under w.heap.size G) (hGg : ∀ b ∈ G, b ≠ g) (h5 : decide (n > 5) = true) :
  Calls Try.prog 98 #[.pointer (some ⟨g, 0, none⟩), .agg cs.toArray, .int .i64 n] w (DrewPN (2 * nodesP a) p (2 * nodesP a) g (n + 2 * (nodesP a : Int)) G w) := by
 obtain ⟨kv, rfl, ha⟩ := (zA4 _ _ _).1 hv
 obtain ⟨A4, cap4, rfl, hc3, hc4⟩ := ha.form
 have IH := jj ih
 have hgl := hr.lt
 have hnp : 1 ≤ nodesP a := by unfold nodesP; omega
 have hka := zAK a (zz8 a.ks.length)
 have hkl : a.ks.length ≤ 1000000 := by
  have h1 := P.sizes_eq a.ks
  have h2 := zA5 a
  omega
 have hB0 : Below w.heap.size w ((w.alloc (.cells #[.int .i64 a.op, .int .i64 a.ct, .int .i64 a.n, .int .i64 a.m, .int .i64 a.va, .slice A4 a.ks.length cap4] 25)).alloc (.cells #[.int .i64 0, .int .i64 0, .int .i64 0, .int .i64 0, .int .i64 0, .slice none 0 0] 25)) := ((zy2 _ _).alloc (zz8 _) _).alloc (by simp) _
 have KP : Hid (Blk ((w.alloc (.cells #[.int .i64 a.op, .int .i64 a.ct, .int .i64 a.n, .int .i64 a.m, .int .i64 a.va, .slice A4 a.ks.length cap4] 25)).alloc (.cells #[.int .i64 0, .int .i64 0, .int .i64 0, .int .i64 0, .int .i64 0, .slice none 0 0] 25)) w.heap.size 25 #[.int .i64 a.op, .int .i64 a.ct, .int .i64 a.n, .int .i64 a.m, .int .i64 a.va, .slice A4 a.ks.length cap4]) := (Blk.new w _ _).same (Below.heap_alloc _ _ _ (by simp))
 have KR : Hid (Blk ((w.alloc (.cells #[.int .i64 a.op, .int .i64 a.ct, .int .i64 a.n, .int .i64 a.m, .int .i64 a.va, .slice A4 a.ks.length cap4] 25)).alloc (.cells #[.int .i64 0, .int .i64 0, .int .i64 0, .int .i64 0, .int .i64 0, .slice none 0 0] 25)) (w.heap.size + 1) 25 #[.int .i64 0, .int .i64 0, .int .i64 0, .int .i64 0, .int .i64 0, .slice none 0 0]) := zA8 w _ 25 _
 have HR := jj (hr.below hB0)
 have hz2 : ((w.alloc (.cells #[.int .i64 a.op, .int .i64 a.ct, .int .i64 a.n, .int .i64 a.m, .int .i64 a.va, .slice A4 a.ks.length cap4] 25)).alloc (.cells #[.int .i64 0, .int .i64 0, .int .i64 0, .int .i64 0, .int .i64 0, .slice none 0 0] 25)).heap.size = w.heap.size + 2 := by simp
 have HC0 : Hid (Chg [g] w ((w.alloc (.cells #[.int .i64 a.op, .int .i64 a.ct, .int .i64 a.n, .int .i64 a.m, .int .i64 a.va, .slice A4 a.ks.length cap4] 25)).alloc (.cells #[.int .i64 0, .int .i64 0, .int .i64 0, .int .i64 0, .int .i64 0, .slice none 0 0] 25))) := .of_below hB0
 have HV0 := jj (hv.below hB0 hG)
 have HUN : Hid (∀ b ∈ G, b < ((w.alloc (.cells #[.int .i64 a.op, .int .i64 a.ct, .int .i64 a.n, .int .i64 a.m, .int .i64 a.va, .slice A4 a.ks.length cap4] 25)).alloc (.cells #[.int .i64 0, .int .i64 0, .int .i64 0, .int .i64 0, .int .i64 0, .slice none 0 0] 25)).heap.size ∧ (b ∈ G ∨ w.heap.size ≤ b) ∧ b ≠ w.heap.size + 1) := fun b hb => ⟨by have := hG b hb; omega, .inl hb, by have := hG b hb; omega⟩
 have HA := jj ha
 have HV := jj hv
 have HRw := jj hr
 have HG := jj hG
 have HGg := jj hGg
 have HG1 : Hid (∀ b, g < b → b ∉ [g]) := fun b hb h => by rw [zy1] at h; omega
 clear ih hr hv ha hG hGg hB0
 have z0 : ((w.alloc (.cells #[.int .i64 a.op, .int .i64 a.ct, .int .i64 a.n, .int .i64 a.m, .int .i64 a.va, .slice A4 a.ks.length cap4] 25)).alloc (.cells #[.int .i64 0, .int .i64 0, .int .i64 0, .int .i64 0, .int .i64 0, .slice none 0 0] 25)).cell? ⟨w.heap.size, 0, none⟩ = some (.int .i64 a.op) := (KP.out.cell 0).trans (by simp)
 have z1 : ((w.alloc (.cells #[.int .i64 a.op, .int .i64 a.ct, .int .i64 a.n, .int .i64 a.m, .int .i64 a.va, .slice A4 a.ks.length cap4] 25)).alloc (.cells #[.int .i64 0, .int .i64 0, .int .i64 0, .int .i64 0, .int .i64 0, .slice none 0 0] 25)).cell? ⟨w.heap.size, 1, none⟩ = some (.int .i64 a.ct) := (KP.out.cell 1).trans (by simp)
 have z2 : ((w.alloc (.cells #[.int .i64 a.op, .int .i64 a.ct, .int .i64 a.n, .int .i64 a.m, .int .i64 a.va, .slice A4 a.ks.length cap4] 25)).alloc (.cells #[.int .i64 0, .int .i64 0, .int .i64 0, .int .i64 0, .int .i64 0, .slice none 0 0] 25)).cell? ⟨w.heap.size, 2, none⟩ = some (.int .i64 a.n) := (KP.out.cell 2).trans (by simp)
 have z3 : ((w.alloc (.cells #[.int .i64 a.op, .int .i64 a.ct, .int .i64 a.n, .int .i64 a.m, .int .i64 a.va, .slice A4 a.ks.length cap4] 25)).alloc (.cells #[.int .i64 0, .int .i64 0, .int .i64 0, .int .i64 0, .int .i64 0, .slice none 0 0] 25)).cell? ⟨w.heap.size, 3, none⟩ = some (.int .i64 a.m) := (KP.out.cell 3).trans (by simp)
 have z4 : ((w.alloc (.cells #[.int .i64 a.op, .int .i64 a.ct, .int .i64 a.n, .int .i64 a.m, .int .i64 a.va, .slice A4 a.ks.length cap4] 25)).alloc (.cells #[.int .i64 0, .int .i64 0, .int .i64 0, .int .i64 0, .int .i64 0, .slice none 0 0] 25)).cell? ⟨w.heap.size, 4, none⟩ = some (.int .i64 a.va) := (KP.out.cell 4).trans (by simp)
 have z5 : ((w.alloc (.cells #[.int .i64 a.op, .int .i64 a.ct, .int .i64 a.n, .int .i64 a.m, .int .i64 a.va, .slice A4 a.ks.length cap4] 25)).alloc (.cells #[.int .i64 0, .int .i64 0, .int .i64 0, .int .i64 0, .int .i64 0, .slice none 0 0] 25)).cell? ⟨w.heap.size, 5, none⟩ = some (.slice A4 a.ks.length cap4) := (KP.out.cell 5).trans (by simp)
 have zlt := KP.out.lt
 have rc0 := (KR.out.cell 0).trans (show _ = some (.int .i64 0) from by simp)
 have rf0 := KR.out.frozen 0
 have rc1 := (KR.out.cell 1).trans (show _ = some (.int .i64 0) from by simp)
 have rf1 := KR.out.frozen 1
 have rc2 := (KR.out.cell 2).trans (show _ = some (.int .i64 0) from by simp)
 have rf2 := KR.out.frozen 2
 have rc3 := (KR.out.cell 3).trans (show _ = some (.int .i64 0) from by simp)
 have rf3 := KR.out.frozen 3
 have rc4 := (KR.out.cell 4).trans (show _ = some (.int .i64 0) from by simp)
 have rf4 := KR.out.frozen 4
 have rc5 := (KR.out.cell 5).trans (show _ = some (.slice none 0 0) from by simp)
 have rf5 := KR.out.frozen 5
 have rlt := KR.out.lt
 go_enter Try.func98, Try.ntmps98
 go_wp2
 clear rc0 rf0 rc1 rf1 rc2 rf2 rc3 rf3 rc4 rf4 rc5 rf5 rlt KR HR HC0 HV0 HUN hz2 KP z0 z1 z2 z3 z4 z5 zlt
 have hBe : Below w.heap.size w ((w.alloc (.cells #[.int .i64 a.op, .int .i64 a.ct, .int .i64 a.n, .int .i64 a.m, .int .i64 a.va, .slice A4 a.ks.length cap4] 25)).alloc (.cells #[.int .i64 a.op, .int .i64 a.ct, .int .i64 a.n, .int .i64 a.m, .int .i64 a.va, .slice A4 a.ks.length cap4] 25)) := ((zy2 _ _).alloc (zz8 _) _).alloc (by simp) _
 have KR : Hid (Blk ((w.alloc (.cells #[.int .i64 a.op, .int .i64 a.ct, .int .i64 a.n, .int .i64 a.m, .int .i64 a.va, .slice A4 a.ks.length cap4] 25)).alloc (.cells #[.int .i64 a.op, .int .i64 a.ct, .int .i64 a.n, .int .i64 a.m, .int .i64 a.va, .slice A4 a.ks.length cap4] 25)) (w.heap.size + 1) 25 #[.int .i64 a.op, .int .i64 a.ct, .int .i64 a.n, .int .i64 a.m, .int .i64 a.va, .slice A4 a.ks.length cap4]) := zA8 w _ 25 _
 have HV0 := jj (HV.out.below hBe HG.out)
 have HR := jj (HRw.out.below hBe)
 have hz2 : ((w.alloc (.cells #[.int .i64 a.op, .int .i64 a.ct, .int .i64 a.n, .int .i64 a.m, .int .i64 a.va, .slice A4 a.ks.length cap4] 25)).alloc (.cells #[.int .i64 a.op, .int .i64 a.ct, .int .i64 a.n, .int .i64 a.m, .int .i64 a.va, .slice A4 a.ks.length cap4] 25)).heap.size = w.heap.size + 2 := by simp
 generalize ((w.alloc (.cells #[.int .i64 a.op, .int .i64 a.ct, .int .i64 a.n, .int .i64 a.m, .int .i64 a.va, .slice A4 a.ks.length cap4] 25)).alloc (.cells #[.int .i64 a.op, .int .i64 a.ct, .int .i64 a.n, .int .i64 a.m, .int .i64 a.va, .slice A4 a.ks.length cap4] 25)) = w3 at *
 refine bodyPost_ret (zAB rfl _ _ (w.heap.size + 1) 25 #[.int .i64 a.op, .int .i64 a.ct, .int .i64 a.n, .int .i64 a.m, .int .i64 a.va, .slice A4 a.ks.length cap4] (0, 0) _ rfl KR.out Try.underlying25 rfl rfl) rfl ?_
 exact ⟨a, [.int .i64 a.op, .int .i64 a.ct, .int .i64 a.n, .int .i64 a.m, .int .i64 a.va, .slice A4 a.ks.length cap4], G, p, n, rfl, HV0.out, fun b hb => ⟨by have := HG.out b hb; omega, .inl hb⟩, by omega, HR.out, by omega, .of_below hBe, hn0, by omega⟩
set_option maxHeartbeats 8000000 in
theorem l3Name_or (a : P) (ih : ∀ k ∈ a.ks, NameP k) (w : World) (p g : Nat) (n : Int) (cs : List Value) (G : List Nat) (hr : Rd w g p) (hp : p + 2 * nodesP a ≤ 900000) (hn0 : 0 ≤ n) (hn1 : n + 2 * (nodesP a : Int) ≤ 1000000) (hv : PR w a cs G) (hG : Under w.heap.size G) (hGg : ∀ b ∈ G, b ≠ g) (h5 : decide (n > 5) = false) (q5 : (a.op == 5) = true) :
  Calls Try.prog 98 #[.pointer (some ⟨g, 0, none⟩), .agg cs.toArray, .int .i64 n] w (DrewPN (2 * nodesP a) p (2 * nodesP a) g (n + 2 * (nodesP a : Int)) G w) := by
 obtain ⟨kv, rfl, ha⟩ := (zA4 _ _ _).1 hv
 obtain ⟨A4, cap4, rfl, hc3, hc4⟩ := ha.form
 have IH := jj ih
 have hgl := hr.lt
 have hnp : 1 ≤ nodesP a := by unfold nodesP; omega
 have hka := zAK a (zz8 a.ks.length)
 have hkl : a.ks.length ≤ 1000000 := by
  have h1 := P.sizes_eq a.ks
  have h2 := zA5 a
  omega
 have hB0 : Below w.heap.size w ((w.alloc (.cells #[.int .i64 a.op, .int .i64 a.ct, .int .i64 a.n, .int .i64 a.m, .int .i64 a.va, .slice A4 a.ks.length cap4] 25)).alloc (.cells #[.int .i64 0, .int .i64 0, .int .i64 0, .int .i64 0, .int .i64 0, .slice none 0 0] 25)) := ((zy2 _ _).alloc (zz8 _) _).alloc (by simp) _
 have KP : Hid (Blk ((w.alloc (.cells #[.int .i64 a.op, .int .i64 a.ct, .int .i64 a.n, .int .i64 a.m, .int .i64 a.va, .slice A4 a.ks.length cap4] 25)).alloc (.cells #[.int .i64 0, .int .i64 0, .int .i64 0, .int .i64 0, .int .i64 0, .slice none 0 0] 25)) w.heap.size 25 #[.int .i64 a.op, .int .i64 a.ct, .int .i64 a.n, .int .i64 a.m, .int .i64 a.va, .slice A4 a.ks.length cap4]) := (Blk.new w _ _).same (Below.heap_alloc _ _ _ (by simp))
 have KR : Hid (Blk ((w.alloc (.cells #[.int .i64 a.op, .int .i64 a.ct, .int .i64 a.n, .int .i64 a.m, .int .i64 a.va, .slice A4 a.ks.length cap4] 25)).alloc (.cells #[.int .i64 0, .int .i64 0, .int .i64 0, .int .i64 0, .int .i64 0, .slice none 0 0] 25)) (w.heap.size + 1) 25 #[.int .i64 0, .int .i64 0, .int .i64 0, .int .i64 0, .int .i64 0, .slice none 0 0]) := zA8 w _ 25 _
 have HR := jj (hr.below hB0)
 have hz2 : ((w.alloc (.cells #[.int .i64 a.op, .int .i64 a.ct, .int .i64 a.n, .int .i64 a.m, .int .i64 a.va, .slice A4 a.ks.length cap4] 25)).alloc (.cells #[.int .i64 0, .int .i64 0, .int .i64 0, .int .i64 0, .int .i64 0, .slice none 0 0] 25)).heap.size = w.heap.size + 2 := by simp
 have HC0 : Hid (Chg [g] w ((w.alloc (.cells #[.int .i64 a.op, .int .i64 a.ct, .int .i64 a.n, .int .i64 a.m, .int .i64 a.va, .slice A4 a.ks.length cap4] 25)).alloc (.cells #[.int .i64 0, .int .i64 0, .int .i64 0, .int .i64 0, .int .i64 0, .slice none 0 0] 25))) := .of_below hB0
 have HV0 := jj (hv.below hB0 hG)
 have HUN : Hid (∀ b ∈ G, b < ((w.alloc (.cells #[.int .i64 a.op, .int .i64 a.ct, .int .i64 a.n, .int .i64 a.m, .int .i64 a.va, .slice A4 a.ks.length cap4] 25)).alloc (.cells #[.int .i64 0, .int .i64 0, .int .i64 0, .int .i64 0, .int .i64 0, .slice none 0 0] 25)).heap.size ∧ (b ∈ G ∨ w.heap.size ≤ b) ∧ b ≠ w.heap.size + 1) := fun b hb => ⟨by have := hG b hb; omega, .inl hb, by have := hG b hb; omega⟩
 have HA := jj ha
 have HV := jj hv
 have HRw := jj hr
 have HG := jj hG
 have HGg := jj hGg
 have HG1 : Hid (∀ b, g < b → b ∉ [g]) := fun b hb h => by rw [zy1] at h; omega
 clear ih hr hv ha hG hGg hB0
 have z0 : ((w.alloc (.cells #[.int .i64 a.op, .int .i64 a.ct, .int .i64 a.n, .int .i64 a.m, .int .i64 a.va, .slice A4 a.ks.length cap4] 25)).alloc (.cells #[.int .i64 0, .int .i64 0, .int .i64 0, .int .i64 0, .int .i64 0, .slice none 0 0] 25)).cell? ⟨w.heap.size, 0, none⟩ = some (.int .i64 a.op) := (KP.out.cell 0).trans (by simp)
 have z1 : ((w.alloc (.cells #[.int .i64 a.op, .int .i64 a.ct, .int .i64 a.n, .int .i64 a.m, .int .i64 a.va, .slice A4 a.ks.length cap4] 25)).alloc (.cells #[.int .i64 0, .int .i64 0, .int .i64 0, .int .i64 0, .int .i64 0, .slice none 0 0] 25)).cell? ⟨w.heap.size, 1, none⟩ = some (.int .i64 a.ct) := (KP.out.cell 1).trans (by simp)
 have z2 : ((w.alloc (.cells #[.int .i64 a.op, .int .i64 a.ct, .int .i64 a.n, .int .i64 a.m, .int .i64 a.va, .slice A4 a.ks.length cap4] 25)).alloc (.cells #[.int .i64 0, .int .i64 0, .int .i64 0, .int .i64 0, .int .i64 0, .slice none 0 0] 25)).cell? ⟨w.heap.size, 2, none⟩ = some (.int .i64 a.n) := (KP.out.cell 2).trans (by simp)
 have z3 : ((w.alloc (.cells #[.int .i64 a.op, .int .i64 a.ct, .int .i64 a.n, .int .i64 a.m, .int .i64 a.va, .slice A4 a.ks.length cap4] 25)).alloc (.cells #[.int .i64 0, .int .i64 0, .int .i64 0, .int .i64 0, .int .i64 0, .slice none 0 0] 25)).cell? ⟨w.heap.size, 3, none⟩ = some (.int .i64 a.m) := (KP.out.cell 3).trans (by simp)
 have z4 : ((w.alloc (.cells #[.int .i64 a.op, .int .i64 a.ct, .int .i64 a.n, .int .i64 a.m, .int .i64 a.va, .slice A4 a.ks.length cap4] 25)).alloc (.cells #[.int .i64 0, .int .i64 0, .int .i64 0, .int .i64 0, .int .i64 0, .slice none 0 0] 25)).cell? ⟨w.heap.size, 4, none⟩ = some (.int .i64 a.va) := (KP.out.cell 4).trans (by simp)
 have z5 : ((w.alloc (.cells #[.int .i64 a.op, .int .i64 a.ct, .int .i64 a.n, .int .i64 a.m, .int .i64 a.va, .slice A4 a.ks.length cap4] 25)).alloc (.cells #[.int .i64 0, .int .i64 0, .int .i64 0, .int .i64 0, .int .i64 0, .slice none 0 0] 25)).cell? ⟨w.heap.size, 5, none⟩ = some (.slice A4 a.ks.length cap4) := (KP.out.cell 5).trans (by simp)
 have zlt := KP.out.lt
 have rc0 := (KR.out.cell 0).trans (show _ = some (.int .i64 0) from by simp)
 have rf0 := KR.out.frozen 0
 have rc1 := (KR.out.cell 1).trans (show _ = some (.int .i64 0) from by simp)
 have rf1 := KR.out.frozen 1
 have rc2 := (KR.out.cell 2).trans (show _ = some (.int .i64 0) from by simp)
 have rf2 := KR.out.frozen 2
 have rc3 := (KR.out.cell 3).trans (show _ = some (.int .i64 0) from by simp)
 have rf3 := KR.out.frozen 3
 have rc4 := (KR.out.cell 4).trans (show _ = some (.int .i64 0) from by simp)
 have rf4 := KR.out.frozen 4
 have rc5 := (KR.out.cell 5).trans (show _ = some (.slice none 0 0) from by simp)
 have rf5 := KR.out.frozen 5
 have rlt := KR.out.lt
 go_enter Try.func98, Try.ntmps98
 go_wp2
 clear rc0 rf0 rc1 rf1 rc2 rf2 rc3 rf3 rc4 rf4 rc5 rf5 rlt KR HR HC0 HV0 HUN hz2 KP z0 z1 z2 z3 z4 z5 zlt
 have hBe : Below w.heap.size w ((w.alloc (.cells #[.int .i64 a.op, .int .i64 a.ct, .int .i64 a.n, .int .i64 a.m, .int .i64 a.va, .slice A4 a.ks.length cap4] 25)).alloc (.cells #[.int .i64 a.op, .int .i64 a.ct, .int .i64 a.n, .int .i64 a.m, .int .i64 a.va, .slice A4 a.ks.length cap4] 25)) := ((zy2 _ _).alloc (zz8 _) _).alloc (by simp) _
 have KR : Hid (Blk ((w.alloc (.cells #[.int .i64 a.op, .int .i64 a.ct, .int .i64 a.n, .int .i64 a.m, .int .i64 a.va, .slice A4 a.ks.length cap4] 25)).alloc (.cells #[.int .i64 a.op, .int .i64 a.ct, .int .i64 a.n, .int .i64 a.m, .int .i64 a.va, .slice A4 a.ks.length cap4] 25)) (w.heap.size + 1) 25 #[.int .i64 a.op, .int .i64 a.ct, .int .i64 a.n, .int .i64 a.m, .int .i64 a.va, .slice A4 a.ks.length cap4]) := zA8 w _ 25 _
 have HV0 := jj (HV.out.below hBe HG.out)
 have HR := jj (HRw.out.below hBe)
 have hz2 : ((w.alloc (.cells #[.int .i64 a.op, .int .i64 a.ct, .int .i64 a.n, .int .i64 a.m, .int .i64 a.va, .slice A4 a.ks.length cap4] 25)).alloc (.cells #[.int .i64 a.op, .int .i64 a.ct, .int .i64 a.n, .int .i64 a.m, .int .i64 a.va, .slice A4 a.ks.length cap4] 25)).heap.size = w.heap.size + 2 := by simp
 generalize ((w.alloc (.cells #[.int .i64 a.op, .int .i64 a.ct, .int .i64 a.n, .int .i64 a.m, .int .i64 a.va, .slice A4 a.ks.length cap4] 25)).alloc (.cells #[.int .i64 a.op, .int .i64 a.ct, .int .i64 a.n, .int .i64 a.m, .int .i64 a.va, .slice A4 a.ks.length cap4] 25)) = w3 at *
 refine bodyPost_ret (zAB rfl _ _ (w.heap.size + 1) 25 #[.int .i64 a.op, .int .i64 a.ct, .int .i64 a.n, .int .i64 a.m, .int .i64 a.va, .slice A4 a.ks.length cap4] (0, 0) _ rfl KR.out Try.underlying25 rfl rfl) rfl ?_
 exact ⟨a, [.int .i64 a.op, .int .i64 a.ct, .int .i64 a.n, .int .i64 a.m, .int .i64 a.va, .slice A4 a.ks.length cap4], G, p, n, rfl, HV0.out, fun b hb => ⟨by have := HG.out b hb; omega, .inl hb⟩, by omega, HR.out, by omega, .of_below hBe, hn0, by omega⟩
set_option maxHeartbeats 8000000 in
theorem l3Name_int (a : P) (ih : ∀ k ∈ a.ks, NameP k) (w : World) (p g : Nat) (n : Int) (cs : List Value) (G : List Nat) (hr : Rd w g p) (hp : p + 2 * nodesP a ≤ 900000) (hn0 : 0 ≤ n) (hn1 : n + 2 * (nodesP a : Int) ≤ 1000000) (hv : PR w a cs G) (hG : Under w.heap.size G) (hGg : ∀ b ∈ G, b ≠ g) (h5 : decide (n > 5) = false) (q5 : (a.op == 5) = false) (q3 : (a.op == 3) = true) :
  Calls Try.prog 98 #[.pointer (some ⟨g, 0, none⟩), .agg cs.toArray, .int .i64 n] w (DrewPN (2 * nodesP a) p (2 * nodesP a) g (n + 2 * (nodesP a : Int)) G w) := by
 obtain ⟨kv, rfl, ha⟩ := (zA4 _ _ _).1 hv
 obtain ⟨A4, cap4, rfl, hc3, hc4⟩ := ha.form
 have IH := jj ih
 have hgl := hr.lt
 have hnp : 1 ≤ nodesP a := by unfold nodesP; omega
 have hka := zAK a (zz8 a.ks.length)
 have hkl : a.ks.length ≤ 1000000 := by
  have h1 := P.sizes_eq a.ks
  have h2 := zA5 a
  omega
 have hB0 : Below w.heap.size w ((w.alloc (.cells #[.int .i64 a.op, .int .i64 a.ct, .int .i64 a.n, .int .i64 a.m, .int .i64 a.va, .slice A4 a.ks.length cap4] 25)).alloc (.cells #[.int .i64 0, .int .i64 0, .int .i64 0, .int .i64 0, .int .i64 0, .slice none 0 0] 25)) := ((zy2 _ _).alloc (zz8 _) _).alloc (by simp) _
 have KP : Hid (Blk ((w.alloc (.cells #[.int .i64 a.op, .int .i64 a.ct, .int .i64 a.n, .int .i64 a.m, .int .i64 a.va, .slice A4 a.ks.length cap4] 25)).alloc (.cells #[.int .i64 0, .int .i64 0, .int .i64 0, .int .i64 0, .int .i64 0, .slice none 0 0] 25)) w.heap.size 25 #[.int .i64 a.op, .int .i64 a.ct, .int .i64 a.n, .int .i64 a.m, .int .i64 a.va, .slice A4 a.ks.length cap4]) := (Blk.new w _ _).same (Below.heap_alloc _ _ _ (by simp))
 have KR : Hid (Blk ((w.alloc (.cells #[.int .i64 a.op, .int .i64 a.ct, .int .i64 a.n, .int .i64 a.m, .int .i64 a.va, .slice A4 a.ks.length cap4] 25)).alloc (.cells #[.int .i64 0, .int .i64 0, .int .i64 0, .int .i64 0, .int .i64 0, .slice none 0 0] 25)) (w.heap.size + 1) 25 #[.int .i64 0, .int .i64 0, .int .i64 0, .int .i64 0, .int .i64 0, .slice none 0 0]) := zA8 w _ 25 _
 have HR := jj (hr.below hB0)
 have hz2 : ((w.alloc (.cells #[.int .i64 a.op, .int .i64 a.ct, .int .i64 a.n, .int .i64 a.m, .int .i64 a.va, .slice A4 a.ks.length cap4] 25)).alloc (.cells #[.int .i64 0, .int .i64 0, .int .i64 0, .int .i64 0, .int .i64 0, .slice none 0 0] 25)).heap.size = w.heap.size + 2 := by simp
 have HC0 : Hid (Chg [g] w ((w.alloc (.cells #[.int .i64 a.op, .int .i64 a.ct, .int .i64 a.n, .int .i64 a.m, .int .i64 a.va, .slice A4 a.ks.length cap4] 25)).alloc (.cells #[.int .i64 0, .int .i64 0, .int .i64 0, .int .i64 0, .int .i64 0, .slice none 0 0] 25))) := .of_below hB0
 have HV0 := jj (hv.below hB0 hG)
 have HUN : Hid (∀ b ∈ G, b < ((w.alloc (.cells #[.int .i64 a.op, .int .i64 a.ct, .int .i64 a.n, .int .i64 a.m, .int .i64 a.va, .slice A4 a.ks.length cap4] 25)).alloc (.cells #[.int .i64 0, .int .i64 0, .int .i64 0, .int .i64 0, .int .i64 0, .slice none 0 0] 25)).heap.size ∧ (b ∈ G ∨ w.heap.size ≤ b) ∧ b ≠ w.heap.size + 1) := fun b hb => ⟨by have := hG b hb; omega, .inl hb, by have := hG b hb; omega⟩
 have HA := jj ha
 have HV := jj hv
 have HRw := jj hr
 have HG := jj hG
 have HGg := jj hGg
 have HG1 : Hid (∀ b, g < b → b ∉ [g]) := fun b hb h => by rw [zy1] at h; omega
 clear ih hr hv ha hG hGg hB0
 have z0 : ((w.alloc (.cells #[.int .i64 a.op, .int .i64 a.ct, .int .i64 a.n, .int .i64 a.m, .int .i64 a.va, .slice A4 a.ks.length cap4] 25)).alloc (.cells #[.int .i64 0, .int .i64 0, .int .i64 0, .int .i64 0, .int .i64 0, .slice none 0 0] 25)).cell? ⟨w.heap.size, 0, none⟩ = some (.int .i64 a.op) := (KP.out.cell 0).trans (by simp)
 have z1 : ((w.alloc (.cells #[.int .i64 a.op, .int .i64 a.ct, .int .i64 a.n, .int .i64 a.m, .int .i64 a.va, .slice A4 a.ks.length cap4] 25)).alloc (.cells #[.int .i64 0, .int .i64 0, .int .i64 0, .int .i64 0, .int .i64 0, .slice none 0 0] 25)).cell? ⟨w.heap.size, 1, none⟩ = some (.int .i64 a.ct) := (KP.out.cell 1).trans (by simp)
 have z2 : ((w.alloc (.cells #[.int .i64 a.op, .int .i64 a.ct, .int .i64 a.n, .int .i64 a.m, .int .i64 a.va, .slice A4 a.ks.length cap4] 25)).alloc (.cells #[.int .i64 0, .int .i64 0, .int .i64 0, .int .i64 0, .int .i64 0, .slice none 0 0] 25)).cell? ⟨w.heap.size, 2, none⟩ = some (.int .i64 a.n) := (KP.out.cell 2).trans (by simp)
 have z3 : ((w.alloc (.cells #[.int .i64 a.op, .int .i64 a.ct, .int .i64 a.n, .int .i64 a.m, .int .i64 a.va, .slice A4 a.ks.length cap4] 25)).alloc (.cells #[.int .i64 0, .int .i64 0, .int .i64 0, .int .i64 0, .int .i64 0, .slice none 0 0] 25)).cell? ⟨w.heap.size, 3, none⟩ = some (.int .i64 a.m) := (KP.out.cell 3).trans (by simp)
 have z4 : ((w.alloc (.cells #[.int .i64 a.op, .int .i64 a.ct, .int .i64 a.n, .int .i64 a.m, .int .i64 a.va, .slice A4 a.ks.length cap4] 25)).alloc (.cells #[.int .i64 0, .int .i64 0, .int .i64 0, .int .i64 0, .int .i64 0, .slice none 0 0] 25)).cell? ⟨w.heap.size, 4, none⟩ = some (.int .i64 a.va) := (KP.out.cell 4).trans (by simp)
 have z5 : ((w.alloc (.cells #[.int .i64 a.op, .int .i64 a.ct, .int .i64 a.n, .int .i64 a.m, .int .i64 a.va, .slice A4 a.ks.length cap4] 25)).alloc (.cells #[.int .i64 0, .int .i64 0, .int .i64 0, .int .i64 0, .int .i64 0, .slice none 0 0] 25)).cell? ⟨w.heap.size, 5, none⟩ = some (.slice A4 a.ks.length cap4) := (KP.out.cell 5).trans (by simp)
 have zlt := KP.out.lt
 have rc0 := (KR.out.cell 0).trans (show _ = some (.int .i64 0) from by simp)
 have rf0 := KR.out.frozen 0
 have rc1 := (KR.out.cell 1).trans (show _ = some (.int .i64 0) from by simp)
 have rf1 := KR.out.frozen 1
 have rc2 := (KR.out.cell 2).trans (show _ = some (.int .i64 0) from by simp)
 have rf2 := KR.out.frozen 2
 have rc3 := (KR.out.cell 3).trans (show _ = some (.int .i64 0) from by simp)
 have rf3 := KR.out.frozen 3
 have rc4 := (KR.out.cell 4).trans (show _ = some (.int .i64 0) from by simp)
 have rf4 := KR.out.frozen 4
 have rc5 := (KR.out.cell 5).trans (show _ = some (.slice none 0 0) from by simp)
 have rf5 := KR.out.frozen 5
 have rlt := KR.out.lt
 go_enter Try.func98, Try.ntmps98
 go_wp2
 clear rc0 rf0 rc1 rf1 rc2 rf2 rc3 rf3 rc4 rf4 rc5 rf5 rlt KR HR HC0 HV0 HUN hz2 KP z0 z1 z2 z3 z4 z5 zlt
 have hBe : Below w.heap.size w ((w.alloc (.cells #[.int .i64 a.op, .int .i64 a.ct, .int .i64 a.n, .int .i64 a.m, .int .i64 a.va, .slice A4 a.ks.length cap4] 25)).alloc (.cells #[.int .i64 a.op, .int .i64 a.ct, .int .i64 a.n, .int .i64 a.m, .int .i64 a.va, .slice A4 a.ks.length cap4] 25)) := ((zy2 _ _).alloc (zz8 _) _).alloc (by simp) _
 have KR : Hid (Blk ((w.alloc (.cells #[.int .i64 a.op, .int .i64 a.ct, .int .i64 a.n, .int .i64 a.m, .int .i64 a.va, .slice A4 a.ks.length cap4] 25)).alloc (.cells #[.int .i64 a.op, .int .i64 a.ct, .int .i64 a.n, .int .i64 a.m, .int .i64 a.va, .slice A4 a.ks.length cap4] 25)) (w.heap.size + 1) 25 #[.int .i64 a.op, .int .i64 a.ct, .int .i64 a.n, .int .i64 a.m, .int .i64 a.va, .slice A4 a.ks.length cap4]) := zA8 w _ 25 _
 have HV0 := jj (HV.out.below hBe HG.out)
 have HR := jj (HRw.out.below hBe)
 have hz2 : ((w.alloc (.cells #[.int .i64 a.op, .int .i64 a.ct, .int .i64 a.n, .int .i64 a.m, .int .i64 a.va, .slice A4 a.ks.length cap4] 25)).alloc (.cells #[.int .i64 a.op, .int .i64 a.ct, .int .i64 a.n, .int .i64 a.m, .int .i64 a.va, .slice A4 a.ks.length cap4] 25)).heap.size = w.heap.size + 2 := by simp
 generalize ((w.alloc (.cells #[.int .i64 a.op, .int .i64 a.ct, .int .i64 a.n, .int .i64 a.m, .int .i64 a.va, .slice A4 a.ks.length cap4] 25)).alloc (.cells #[.int .i64 a.op, .int .i64 a.ct, .int .i64 a.n, .int .i64 a.m, .int .i64 a.va, .slice A4 a.ks.length cap4] 25)) = w3 at *
 refine bodyPost_ret (zAB rfl _ _ (w.heap.size + 1) 25 #[.int .i64 a.op, .int .i64 a.ct, .int .i64 a.n, .int .i64 a.m, .int .i64 a.va, .slice A4 a.ks.length cap4] (0, 0) _ rfl KR.out Try.underlying25 rfl rfl) rfl ?_
 exact ⟨a, [.int .i64 a.op, .int .i64 a.ct, .int .i64 a.n, .int .i64 a.m, .int .i64 a.va, .slice A4 a.ks.length cap4], G, p, n, rfl, HV0.out, fun b hb => ⟨by have := HG.out b hb; omega, .inl hb⟩, by omega, HR.out, by omega, .of_below hBe, hn0, by omega⟩
theorem Own.mono0 {α : Type} {w w' : World} {B k : Nat} {E : TypeId} {R : World → α → List Value → List Nat → Prop} {xs : List α} {v : Value} (hR : ∀ x cs G, R w x cs G → R w' x cs G) (h : Own w B E k R xs v []) (hk : Kept (rowOf v) w w') : Own w' B E k R xs v [] := by
 obtain ⟨cs, h1, h2, h3, h4⟩ := h
 refine ⟨cs, ⟨h1.1, ?_⟩, h2.mono fun x _ cs G _ hr => hR x cs G hr, Under.nil _, h4⟩
 rcases h1.2 with hn | ⟨g, cap, cur, rfl, hb, hg, rest⟩
 ·exact .inl hn
 ·exact .inr ⟨g, cap, cur, rfl, hb, (hk g (by simp [zA6])).trans hg, rest⟩
def KtO (w : World) (c : Kt) (cs : List Value) (F : List Nat) : Prop := ∃ kv, cs = [.string c.name, kv, .int .i64 c.idx] ∧ Own w 0 32 2 TyR c.args kv [] ∧ F = rowOf kv ∧ c.name.size ≤ 9223372036854775807
theorem KtO_len (w : World) (c : Kt) (cs : List Value) (F : List Nat) (h : KtO w c cs F) : cs.length = 3 := by obtain ⟨kv, rfl, -⟩ := h; rfl
theorem KtO_mono (w w' : World) (c : Kt) (cs : List Value) (F : List Nat) (hk : Kept F w w') (h : KtO w c cs F) : KtO w' c cs F := by
 obtain ⟨kv, e, ho, rfl, hs⟩ := h
 exact ⟨kv, e, Own.mono0 (w := w) (w' := w') (fun x cs G (h : TyR w x cs G) => (h : TyR w' x cs G)) ho hk, rfl, hs⟩
theorem KtO.toR {w : World} {c : Kt} {cs : List Value} {F : List Nat} (h : KtO w c cs F) : ∃ G, (∀ b ∈ G, b ∈ F) ∧ KtR w c cs G := by
 obtain ⟨kv, rfl, ho, rfl, hs⟩ := h
 refine ⟨_, fun b hb => ?_, kv, rfl, ho.arr, hs⟩
 split at hb
 ·cases hb
 ·rwa [List.append_nil] at hb
def DtO (w : World) (x : Dt) (cs : List Value) (F : List Nat) : Prop := ∃ kv, cs = [.string x.name, kv] ∧ Arr w (KtO w) x.ctors kv F ∧ x.name.size ≤ 9223372036854775807
theorem DtO_len (w : World) (x : Dt) (cs : List Value) (F : List Nat) (h : DtO w x cs F) : cs.length = 2 := by obtain ⟨kv, rfl, -⟩ := h; rfl
theorem DtO_mono (w w' : World) (x : Dt) (cs : List Value) (F : List Nat) (hk : Kept F w w') (h : DtO w x cs F) : DtO w' x cs F := by
 obtain ⟨kv, e, ha, hs⟩ := h
 exact ⟨kv, e, ha.mono hk fun y _ cs G hk h => KtO_mono _ _ y cs G hk h, hs⟩
theorem Flat.weaken {α : Type} {R R' : α → List Value → List Nat → Prop} (hR : ∀ x cs G, R x cs G → ∃ G', (∀ b ∈ G', b ∈ G) ∧ R' x cs G') : ∀ {xs : List α} {cs : List Value} {F : List Nat}, Flat R xs cs F → ∃ F', (∀ b ∈ F', b ∈ F) ∧ Flat R' xs cs F'
 |[], cs, F, h => ⟨[], (fun b hb => by cases hb), h.1, rfl⟩
 |x :: xs, cs, F, h => by
  obtain ⟨c1, c2, F1, F2, rfl, rfl, h1, h2⟩ := h
  obtain ⟨G1, g1, r1⟩ := hR _ _ _ h1
  obtain ⟨G2, g2, r2⟩ := Flat.weaken hR h2
  exact ⟨G1 ++ G2, fun b hb => by
   rcases List.mem_append.1 hb with h | h
   ·exact List.mem_append.2 (.inl (g1 b h))
   ·exact List.mem_append.2 (.inr (g2 b h)), c1, c2, G1, G2, rfl, rfl, r1, r2⟩
theorem Arr.weaken {α : Type} {w : World} {R R' : α → List Value → List Nat → Prop} (hR : ∀ x cs G, R x cs G → ∃ G', (∀ b ∈ G', b ∈ G) ∧ R' x cs G') {xs : List α} {v : Value} {F : List Nat} (h : Arr w R xs v F) : ∃ F', (∀ b ∈ F', b ∈ F) ∧ Arr w R' xs v F' := by
 obtain ⟨A, cap, rfl, h1, h2, h3⟩ := h
 rcases h3 with ⟨h3, -⟩ | ⟨b, off, cs, G, rfl, hc, hf, rfl⟩
 ·exact ⟨[], fun b hb => (by cases hb), A, cap, rfl, h1, h2, .inl ⟨h3, rfl⟩⟩
 ·obtain ⟨G', hg, hf'⟩ := Flat.weaken hR hf
  exact ⟨b :: G', fun x hx => by
   rcases List.mem_cons.1 hx with rfl | h
   ·simp
   ·simp [hg x h], _, cap, rfl, h1, h2, .inr ⟨b, off, cs, G', rfl, hc, hf', rfl⟩⟩
theorem DtO.toR {w : World} {x : Dt} {cs : List Value} {F : List Nat} (h : DtO w x cs F) : ∃ G, (∀ b ∈ G, b ∈ F) ∧ DtR w x cs G := by
 obtain ⟨kv, rfl, ha, hs⟩ := h
 obtain ⟨G, hg, ha'⟩ := ha.weaken fun _ _ _ h => KtO.toR h
 exact ⟨G, hg, kv, rfl, ha', hs⟩
theorem ArrDtO.toR {w : World} {xs : List Dt} {v : Value} {F : List Nat} (h : Arr w (DtO w) xs v F) : ∃ G, (∀ b ∈ G, b ∈ F) ∧ Arr w (DtR w) xs v G := h.weaken fun _ _ _ h => DtO.toR h
def SmallW (n : Nat) (xs : List Dt) : Prop := ∀ x ∈ xs, x.ctors.length ≤ n ∧ ∀ c ∈ x.ctors, c.args.length ≤ n
theorem SmallW.of {xs : List Dt} (h : WorldOK xs) : SmallW 4 xs := fun x hx => ⟨(h.all x hx).hi, fun c hc => by have := ((h.all x hx).all c hc).args; omega⟩
theorem Flat.ones {α : Type} {R : α → List Value → List Nat → Prop} (hR : ∀ x cs G, R x cs G → ∀ u ∈ cs, u.oneCell' = true) : ∀ {xs : List α} {cs : List Value} {F : List Nat}, Flat R xs cs F → ∀ u ∈ cs, u.oneCell' = true
 |[], cs, F, h, u, hu => by obtain ⟨rfl, -⟩ := h; cases hu
 |x :: xs, cs, F, h, u, hu => by
  obtain ⟨c1, c2, F1, F2, rfl, rfl, h1, h2⟩ := h
  rcases List.mem_append.1 hu with h | h
  ·exact hR _ _ _ h1 u h
  ·exact Flat.ones hR h2 u h
theorem Flat.bare {α : Type} {R R' : α → List Value → List Nat → Prop} (hR : ∀ x cs G, R x cs G → R' x cs []) : ∀ {xs : List α} {cs : List Value} {F : List Nat}, Flat R xs cs F → Flat R' xs cs []
 |[], cs, F, h => ⟨h.1, rfl⟩
 |x :: xs, cs, F, h => by
  obtain ⟨c1, c2, F1, F2, rfl, rfl, h1, h2⟩ := h
  exact ⟨c1, c2, [], [], rfl, rfl, hR _ _ _ h1, Flat.bare hR h2⟩
/-! ### append of a whole slice that came in -/
section
variable {P : Program} {w : World}
theorem run_append_void (t ty e : TypeId) (i : TypeInfo) (ht : P.underlying t = some (.slice e)) (hi : P.info? e = some i) (g cap c : Nat) (A : Option Addr) (hA : A = none) :
  (Builtin.append_ #[t, t] ty #[.slice (some ⟨g, 0, none⟩) 0 cap, .slice A 0 c]).run P w = .ok (.slice (some ⟨g, 0, none⟩) 0 cap) w := by
 subst hA
 simp [Builtin.append_, run_underlying ht, sizeOf, typeInfo, hi, Builtin.lenOf, Builtin.firstCells, storeCells]
theorem run_append_whole {α : Type} {R : α → List Value → List Nat → Prop} {RR : World → α → List Value → List Nat → Prop} {B k : Nat} {E : TypeId} (t ty : TypeId) (i : TypeInfo) (z : Value) (bytes : Nat) (ht : P.underlying t = some (.slice E)) (hi : P.info? E = some i) (hz : i.zero = some z)
  (hsize : i.size = k) (hby : i.bytes = bytes) (hzs : z.cells.size = k) (hk : 0 < k) (hRl : ∀ x cs G, R x cs G → cs.length = k) (hR1 : ∀ x cs G, R x cs G → ∀ u ∈ cs, u.oneCell' = true) (hRR : ∀ w' x cs G, R x cs G → RR w' x cs [])
  {g : Nat} (hown : Own w B E k RR ([] : List α) (.slice (some ⟨g, 0, none⟩) 0 0) []) {ys : List α} {A : Option Addr} {n c : Nat} {F : List Nat} (hy : Arr w R ys (.slice A n c) F)
  (h63 : ys.length ≤ 1000000) (hbytes : ys.length * bytes ≤ 140737488355328) (hbase : B ≤ w.heap.size) :
  ∃ v' w', (Builtin.append_ #[t, t] ty #[.slice (some ⟨g, 0, none⟩) 0 0, .slice A n c]).run P w = .ok v' w' ∧ Own w' B E k RR ys v' [] ∧ w.grownBy w' (some g) ∧ ∀ b ∈ rowOf v', b = g ∨ b = w.heap.size := by
 obtain ⟨A', c', hv, h1, h2, h3⟩ := hy
 cases hv
 rcases h3 with ⟨rfl, -⟩ | ⟨b, off, cs, G, rfl, hc, hf, -⟩
 ·cases A with
  |none => exact ⟨_, w, run_append_void t ty E i ht hi g 0 c none rfl, hown, ⟨rfl, rfl, rfl, zz8 _, fun _ _ _ => rfl⟩, fun b hb => by rw [zA6, zy1] at hb; exact .inl hb⟩
  |some a =>
   obtain ⟨cs, o1, o2, o3, o4⟩ := hown
   obtain ⟨v', w', hr, q1, q2, q3, q4⟩ := run_append_own_at (P := P) w B t ty E i z k bytes ht hi hz hsize hby hzs hk _ 0 cs o1 a 0 c [] (by simp) (fun j u h => by simp at h) (fun u h => by cases h) (by simp [maxLen]) (by simp) hbase
   obtain ⟨rfl, -⟩ := o2
   refine ⟨v', w', hr, ⟨[], q1, ⟨rfl, rfl⟩, Under.nil _, fun g _ h => by cases h⟩, q2, fun b hb => ?_⟩
   have hb := zA2.1 hb
   rcases q4 with q4 | q4
   ·left; rw [q4] at hb; exact (Option.some.inj hb).symm
   ·right; rw [q4] at hb; exact (Option.some.inj hb).symm
 ·obtain ⟨cs0, o1, o2, o3, o4⟩ := hown
  obtain ⟨rfl, -⟩ := o2
  have hl : cs.length = ys.length * k := hf.length hRl
  have hone := hf.ones hR1
  obtain ⟨v', w', hr, q1, q2, q3, q4⟩ := run_append_own_at (P := P) w B t ty E i z k bytes ht hi hz hsize hby hzs hk _ 0 [] o1 ⟨b, off, none⟩ ys.length c cs hl (fun j u hj => by rw [Addr.add_lit]; exact hc j u hj) hone (by unfold maxLen; omega) (by simpa using hbytes) hbase
  refine ⟨v', w', hr, ⟨cs, by simpa using q1, ?_, Under.nil _, fun g _ h => by cases h⟩, q2, fun x hx => ?_⟩
  ·exact hf.bare (hRR w')
  ·have hb := zA2.1 hx
   rcases q4 with q4 | q4
   ·left; rw [q4] at hb; exact (Option.some.inj hb).symm
   ·right; rw [q4] at hb; exact (Option.some.inj hb).symm
end
theorem Arr.put {α : Type} {R R' : World → α → List Value → List Nat → Prop} {k : Nat} (hRl : ∀ w x cs G, R w x cs G → cs.length = k) (hRl' : ∀ w x cs G, R' w x cs G → cs.length = k)
  (hconv : ∀ w w' x cs G, Kept G w w' → R w x cs G → ∃ G', (∀ b ∈ G', b ∈ G) ∧ R' w' x cs G') {w : World} {xs : List α} {v : Value} {F : List Nat}
  (h : Arr w (R w) xs v F) (hfr : Free w F) {i : Nat} (hi : i < xs.length) :
  ∃ b off c F2 cap, v = .slice (some ⟨b, off, none⟩) xs.length cap ∧ CellsAt w b (off + i * k) c ∧ R w xs[i] c F2 ∧ Free w F2 ∧ b ∉ F2 ∧ b ∈ F ∧ (∀ x ∈ F2, x ∈ F) ∧ (∀ j, w.frozen? ⟨b, j, none⟩ = false) ∧
   ∀ w' y c' G2, (∀ j, j < off + i * k ∨ off + i * k + k ≤ j → w'.cell? ⟨b, j, none⟩ = w.cell? ⟨b, j, none⟩) → (∀ x ∈ F, x ≠ b → x ∉ F2 → w'.heap[x]? = w.heap[x]?) → CellsAt w' b (off + i * k) c' → R' w' y c' G2 →
    ∃ F', (∀ x ∈ F', x ∈ F ∨ x ∈ G2) ∧ Arr w' (R' w') (xs.set i y) v F' := by
 obtain ⟨A, cap, rfl, h1, h2, h3⟩ := h
 rcases h3 with ⟨rfl, -⟩ | ⟨b, off, cs, G, rfl, hc, hf, rfl⟩
 ·simp at hi
 have hxs : xs = xs.take i ++ (xs[i] :: xs.drop (i + 1)) := by rw [← List.drop_eq_getElem_cons hi, List.take_append_drop]
 have hf' := hf
 rw [hxs] at hf'
 obtain ⟨c1, c23, F1, F23, rfl, rfl, g1, g23⟩ := Flat.split (xs.take i) hf'
 obtain ⟨c2, c3, F2, F3, rfl, rfl, g2, g3⟩ := g23
 have l1 : c1.length = i * k := by rw [g1.length (hRl w), List.length_take]; congr 1; omega
 have hc2 := hc.right
 rw [l1] at hc2
 have l2 := hRl _ _ _ _ g2
 have nd := List.nodup_cons.1 hfr.1
 have nd1 := List.nodup_append.1 nd.2
 have nd2 := List.nodup_append.1 nd1.2.1
 have hbF2 : b ∉ F2 := fun hb => nd.1 (List.mem_append.2 (.inr (List.mem_append.2 (.inl hb))))
 refine ⟨b, off, c2, F2, cap, rfl, hc2.left, g2, ⟨nd2.1, fun x hx j => hfr.2 x (by simp [hx]) j⟩, hbF2, by simp, fun x hx => by simp [hx], fun j => hfr.2 b (by simp) j, ?_⟩
 intro w' y c' G2 hcell hblk hc' hy
 have k1 : Kept F1 w w' := fun x hx => hblk x (by simp [hx]) (fun e => nd.1 (by simp [← e, hx])) (fun hm => nd1.2.2 x hx x (by simp [hm]) rfl)
 have k3 : Kept F3 w w' := fun x hx => hblk x (by simp [hx]) (fun e => nd.1 (by simp [← e, hx])) (fun hm => nd2.2.2 x hm x hx rfl)
 have lc' := hRl' _ _ _ _ hy
 have hxs' : xs.set i y = xs.take i ++ (y :: xs.drop (i + 1)) := by rw [List.set_eq_take_append_cons_drop, if_pos hi]
 obtain ⟨F1', s1, e1⟩ := Flat.weaken (R := fun x cs H => ∃ G', (∀ b ∈ G', b ∈ H) ∧ R' w' x cs G') (R' := R' w') (fun _ _ _ h => h) (g1.mono fun x _ cs H hH hr => hconv _ _ x cs H (fun z hz => k1 z (hH z hz)) hr)
 obtain ⟨F3', s3, e3⟩ := Flat.weaken (R := fun x cs H => ∃ G', (∀ b ∈ G', b ∈ H) ∧ R' w' x cs G') (R' := R' w') (fun _ _ _ h => h) (g3.mono fun x _ cs H hH hr => hconv _ _ x cs H (fun z hz => k3 z (hH z hz)) hr)
 refine ⟨b :: (F1' ++ (G2 ++ F3')), fun x hx => ?_, ?_⟩
 ·rcases List.mem_cons.1 hx with rfl | hx
  ·simp
  ·rcases List.mem_append.1 hx with hx | hx
   ·left; simp [s1 x hx]
   ·rcases List.mem_append.1 hx with hx | hx
    ·right; exact hx
    ·left; simp [s3 x hx]
 ·rw [hxs']
  refine ⟨_, cap, by rw [← hxs', List.length_set], by rw [← hxs', List.length_set]; exact h1, h2, .inr ⟨b, off, c1 ++ (c' ++ c3), F1' ++ (G2 ++ F3'), rfl, ?_, ?_, rfl⟩⟩
  ·refine CellsAt.append (fun j u hj => ?_) (CellsAt.append ?_ (fun j u hj => ?_))
   ·have hjl := (List.getElem?_eq_some_iff.1 hj).1
    rw [hcell _ (.inl (by omega))]
    exact hc.left j u hj
   ·rw [l1]; exact hc'
   ·rw [l1, hcell _ (.inr (by omega))]
    have := hc2.right j u hj
    rw [l2] at this
    rwa [lc']
  ·exact e1.append ⟨c', c3, G2, F3', rfl, rfl, hy, e3⟩
theorem KtO.toR' {w w' : World} {c : Kt} {cs : List Value} {F : List Nat} (hk : Kept F w w') (h : KtO w c cs F) : ∃ G, (∀ b ∈ G, b ∈ F) ∧ KtR w' c cs G := KtO.toR (KtO_mono _ _ _ _ _ hk h)
theorem DtO.toR' {w w' : World} {c : Dt} {cs : List Value} {F : List Nat} (hk : Kept F w w') (h : DtO w c cs F) : ∃ G, (∀ b ∈ G, b ∈ F) ∧ DtR w' c cs G := DtO.toR (DtO_mono _ _ _ _ _ hk h)
theorem KtR_len0 (w : World) (c : Kt) (cs : List Value) (F : List Nat) (h : KtR w c cs F) : cs.length = 3 := by obtain ⟨kv, rfl, -⟩ := h; rfl
theorem DtR_len0 (w : World) (c : Dt) (cs : List Value) (F : List Nat) (h : DtR w c cs F) : cs.length = 2 := by obtain ⟨kv, rfl, -⟩ := h; rfl
theorem put1 {w : World} {xs : List Dt} {v : Value} {F : List Nat} (h : Arr w (DtO w) xs v F) (hfr : Free w F) {d : Nat} (hd : d < xs.length) :
  ∃ b off cap kv F2, v = .slice (some ⟨b, off, none⟩) xs.length cap ∧ b ∈ F ∧ (∀ x ∈ F2, x ∈ F ∧ x ≠ b) ∧ (∀ j, w.frozen? ⟨b, j, none⟩ = false) ∧ w.cell? ⟨b, off + d * 2, none⟩ = some (.string xs[d].name) ∧ w.cell? ⟨b, off + d * 2 + 1, none⟩ = some kv ∧
   Arr w (KtO w) xs[d].ctors kv F2 ∧ xs[d].name.size ≤ 9223372036854775807 ∧
   ∀ w' nm ks kv' G2, (∀ j, j < off + d * 2 ∨ off + d * 2 + 2 ≤ j → w'.cell? ⟨b, j, none⟩ = w.cell? ⟨b, j, none⟩) → (∀ x ∈ F, x ≠ b → w'.heap[x]? = w.heap[x]?) → w'.cell? ⟨b, off + d * 2, none⟩ = some (.string nm) → w'.cell? ⟨b, off + d * 2 + 1, none⟩ = some kv' →
    Arr w' (KtR w') ks kv' G2 → nm.size ≤ 9223372036854775807 → ∃ F', (∀ x ∈ F', x ∈ F ∨ x ∈ G2) ∧ Arr w' (DtR w') (xs.set d ⟨nm, ks⟩) v F' := by
 obtain ⟨b, off, c, F2, cap, e, hc, ⟨kv, rfl, ha, hs⟩, hf2, hb2, hbF, hsub, hz, H⟩ := Arr.put (R := DtO) (R' := DtR) DtO_len DtR_len0 (fun _ _ _ _ _ hk h => DtO.toR' hk h) h hfr hd
 refine ⟨b, off, cap, kv, F2, e, hbF, fun x hx => ⟨hsub x hx, fun e => hb2 (e ▸ hx)⟩, hz, by simpa using hc 0 _ rfl, hc 1 _ rfl, ha, hs, ?_⟩
 intro w' nm ks kv' G2 h1 h2 h3 h4 h5 h6
 exact H w' ⟨nm, ks⟩ [.string nm, kv'] G2 h1 (fun x hx hxb _ => h2 x hx hxb) (CellsAt.cons h3 (CellsAt.cons h4 (CellsAt.nil _ _ _))) ⟨kv', rfl, h5, h6⟩
theorem put2 {w : World} {xs : List Dt} {v : Value} {F : List Nat} (h : Arr w (DtO w) xs v F) (hfr : Free w F) {d : Nat} (hd : d < xs.length) (hk : 0 < xs[d].ctors.length) :
  ∃ b off cap b2 off2 cap2 av, v = .slice (some ⟨b, off, none⟩) xs.length cap ∧ b ∈ F ∧ b2 ∈ F ∧ b2 ≠ b ∧ (∀ j, w.frozen? ⟨b, j, none⟩ = false) ∧ (∀ j, w.frozen? ⟨b2, j, none⟩ = false) ∧
   w.cell? ⟨b, off + d * 2 + 1, none⟩ = some (.slice (some ⟨b2, off2, none⟩) xs[d].ctors.length cap2) ∧
   w.cell? ⟨b2, off2, none⟩ = some (.string xs[d].ctors[0].name) ∧ w.cell? ⟨b2, off2 + 1, none⟩ = some av ∧ w.cell? ⟨b2, off2 + 2, none⟩ = some (.int .i64 xs[d].ctors[0].idx) ∧
   Own w 0 32 2 TyR xs[d].ctors[0].args av [] ∧ (∀ x ∈ rowOf av, x ∈ F ∧ x ≠ b ∧ x ≠ b2) ∧ xs[d].ctors[0].name.size ≤ 9223372036854775807 ∧
   ∀ w' nm ags ix av' G2, (∀ j, j < off2 ∨ off2 + 3 ≤ j → w'.cell? ⟨b2, j, none⟩ = w.cell? ⟨b2, j, none⟩) → (∀ x ∈ F, x ≠ b2 → x ∉ rowOf av → w'.heap[x]? = w.heap[x]?) →
    w'.cell? ⟨b2, off2, none⟩ = some (.string nm) → w'.cell? ⟨b2, off2 + 1, none⟩ = some av' → w'.cell? ⟨b2, off2 + 2, none⟩ = some (.int .i64 ix) →
    Arr w' (TyR w') ags av' G2 → nm.size ≤ 9223372036854775807 → ∃ F', (∀ x ∈ F', x ∈ F ∨ x ∈ G2) ∧ Arr w' (DtR w') (xs.set d ⟨xs[d].name, xs[d].ctors.set 0 ⟨nm, ags, ix⟩⟩) v F' := by
 obtain ⟨b, off, c, F2, cap, e, hc, ⟨kv, rfl, ha, hs⟩, hf2, hb2, hbF, hsub, hz, H⟩ := Arr.put (R := DtO) (R' := DtR) DtO_len DtR_len0 (fun _ _ _ _ _ hk h => DtO.toR' hk h) h hfr hd
 obtain ⟨b2, off2, c2, F3, cap2, rfl, hc2, ⟨av, rfl, hown, rfl, hs2⟩, hf3, hb3, hbF2, hsub2, hz2, H2⟩ := Arr.put (R := KtO) (R' := KtR) KtO_len KtR_len0 (fun _ _ _ _ _ hk h => KtO.toR' hk h) ha hf2 hk
 simp only [Nat.zero_mul, Nat.add_zero] at hc2 H2
 refine ⟨b, off, cap, b2, off2, cap2, av, e, hbF, hsub _ hbF2, fun e => hb2 (e ▸ hbF2), hz, hz2, hc 1 _ rfl, by simpa using hc2 0 _ rfl, hc2 1 _ rfl, hc2 2 _ rfl, hown, fun x hx => ⟨hsub _ (hsub2 x hx), fun e => hb2 (e ▸ hsub2 x hx), fun e => hb3 (e ▸ hx)⟩, hs2, ?_⟩
 intro w' nm ags ix av' G2 h1 h2 h3 h4 h5 h6 h7
 obtain ⟨F2', s2, ha2⟩ := H2 w' ⟨nm, ags, ix⟩ [.string nm, av', .int .i64 ix] G2 h1 (fun x hx hxb hxa => h2 x (hsub x hx) hxb hxa) (CellsAt.cons h3 (CellsAt.cons h4 (CellsAt.cons h5 (CellsAt.nil _ _ _)))) ⟨av', rfl, h6, h7⟩
 have hbb : w'.heap[b]? = w.heap[b]? := h2 b hbF (fun e => hb2 (e ▸ hbF2)) (fun hx => hb2 (hsub2 _ hx))
 obtain ⟨F', s, ha'⟩ := H w' ⟨xs[d].name, xs[d].ctors.set 0 ⟨nm, ags, ix⟩⟩ [.string xs[d].name, .slice (some ⟨b2, off2, none⟩) xs[d].ctors.length cap2] F2' (fun j _ => World.cell?_of_block (a := ⟨b, j, none⟩) hbb)
  (fun x hx hxb hx2 => h2 x hx (fun e => hx2 (e ▸ hbF2)) (fun hxa => hx2 (hsub2 _ hxa))) (fun j u hj => (World.cell?_of_block (a := ⟨b, off + d * 2 + j, none⟩) hbb).trans (hc j u hj)) ⟨_, rfl, ha2, hs⟩
 exact ⟨F', fun x hx => by
  rcases s x hx with h | h
  ·exact .inl h
  ·rcases s2 x h with h | h
   ·exact .inl (hsub x h)
   ·exact .inr h, ha'⟩
theorem Rd.same {w w' : World} {g p : Nat} (h : Rd w g p) (hk : ∀ b, b ≤ g → w'.heap[b]? = w.heap[b]?) : Rd w' g p := by
 obtain ⟨A, cap, bs, F, h1, h2, h3, h5⟩ := h
 exact ⟨A, cap, bs, F, h1.same (hk g (zz8 _)), ArrBy.mono h2 (fun c hc => hk c (Nat.le_of_lt (h3 c hc))), h3, h5⟩
theorem Rd.low {w w' : World} {g p B : Nat} (h : Rd w g p) (hb : Below B w w') (hg : g < B) : Rd w' g p := h.same fun b hb' => hb.block b (by omega)
theorem SmallW.set {n : Nat} {xs : List Dt} {d : Nat} {y : Dt} (h : SmallW n xs) (h1 : y.ctors.length ≤ n) (h2 : ∀ c ∈ y.ctors, c.args.length ≤ n) : SmallW n (xs.set d y) := fun x hx => by
 rcases List.mem_or_eq_of_mem_set hx with hx | rfl
 ·exact h x hx
 ·exact ⟨h1, h2⟩
theorem SmallW.mono {n m : Nat} {xs : List Dt} (h : SmallW n xs) (hm : n ≤ m) : SmallW m xs := fun x hx => ⟨Nat.le_trans (h x hx).1 hm, fun c hc => Nat.le_trans ((h x hx).2 c hc) hm⟩
structure Cpy (g q : Nat) (xs : List Dt) (v : Value) (F : List Nat) (w w1 : World) : Prop where
 rd : Rd w1 g q
 chg : Chg [g] w w1
 own : Own w1 w.heap.size 97 2 DtO xs v F
 free : Free w1 F
 fresh : ∀ b ∈ F, w.heap.size ≤ b
 lt : g < w.heap.size
def Mutd (g p m : Nat) (xs : List Dt) (w : World) (e : Ending) (w' : World) : Prop := DrewWorld g p 10 w (fun ys => 0 < ys.length ∧ ys.length ≤ xs.length + 1 ∧ SmallW (m + 1) ys) e w'
section
variable {g q p m : Nat} {xs : List Dt} {v : Value} {F : List Nat} {w w1 w2 : World}
theorem Cpy.step {q' : Nat} (h : Cpy g q xs v F w w1) (hr : Rd w2 g q') (hc : Chg [g] w1 w2) : Cpy g q' xs v F w w2 := by
 have hu := h.own.under
 have hro := h.own.row
 have hlt := h.lt
 refine ⟨hr, h.chg.trans hc, h.own.mono (fun x cs G hk h => DtO_mono _ _ x cs G hk h) (hc.kept (fun b hb => ?_) (fun b hb => ?_)) hc.size, h.free.kept (hc.kept hu (fun b hb => ?_)), h.fresh, hlt⟩
 ·rcases List.mem_append.1 hb with h1 | h1
  ·exact (hro b h1).2
  ·exact hu b h1
 ·rw [zy1]
  rcases List.mem_append.1 hb with h1 | h1
  ·have := (hro b h1).1; omega
  ·have := h.fresh b h1; omega
 ·rw [zy1]
  have := h.fresh b hb; omega
theorem Cpy.drew (h : Cpy g q xs v F w w1) : Cpy g q xs v F w w1.drew := h.step h.rd (Chg.refl _ _).drew
theorem Cpy.arr (h : Cpy g q xs v F w w1) : ∃ FF, Arr w1 (DtO w1) xs v FF ∧ Free w1 FF ∧ ∀ b ∈ FF, w.heap.size ≤ b ∧ b < w1.heap.size := by
 refine ⟨_, h.own.arr, h.own.free h.free, fun b hb => ?_⟩
 split at hb
 ·cases hb
 ·rcases List.mem_append.1 hb with h1 | h1
  ·exact h.own.row b h1
  ·exact ⟨h.fresh b h1, h.own.under b h1⟩
theorem Mutd.of {ys : List Dt} {q' : Nat} {G : List Nat} (h : Arr w1 (DtR w1) ys v G) (hG : ∀ b ∈ G, w.heap.size ≤ b ∧ b < w1.heap.size) (hr : Rd w1 g q') (hq : q' ≤ p + 10) (hc : Chg [g] w w1) (h0 : 0 < ys.length) (hl : ys.length ≤ xs.length + 1) (hs : SmallW (m + 1) ys) : Mutd g p m xs w (.returned v) w1 :=
 ⟨ys, v, G, q', rfl, ⟨h0, hl, hs⟩, h, hG, hr, hq, hc⟩
theorem Cpy.done (h : Cpy g q xs v F w w1) (h0 : 0 < xs.length) (hs : SmallW m xs) (hq : q ≤ p + 10) : Mutd g p m xs w (.returned v) w1 := by
 obtain ⟨FF, ha, -, hF⟩ := h.arr
 obtain ⟨G, hG, ha'⟩ := ArrDtO.toR ha
 exact Mutd.of ha' (fun b hb => hF b (hG b hb)) h.rd hq h.chg h0 (Nat.le_succ _) (hs.mono (by omega))
theorem Cpy.data {b off n cap d : Nat} (h : Cpy g q xs (.slice (some ⟨b, off, none⟩) n cap) F w w1) (h0 : 0 < xs.length) (hs : SmallW m xs) (hd : d < xs.length) :
  ∃ kA kcap F2, w1.cell? ⟨b, off + d * 2, none⟩ = some (.string xs[d].name) ∧ w1.cell? ⟨b, off + d * 2 + 1, none⟩ = some (.slice kA xs[d].ctors.length kcap) ∧ (∀ j, w1.frozen? ⟨b, j, none⟩ = false) ∧ w.heap.size ≤ b ∧ b < w1.heap.size ∧ xs[d].ctors.length ≤ kcap ∧ kcap ≤ 9223372036854775807 ∧
   DtO w1 xs[d] [.string xs[d].name, .slice kA xs[d].ctors.length kcap] F2 ∧ (∀ x ∈ F2, x ≠ b ∧ w.heap.size ≤ x ∧ x < w1.heap.size) ∧
   (∀ s : ByteArray, s.size ≤ 1000 → q ≤ p + 10 → Mutd g p m xs w (.returned (.slice (some ⟨b, off, none⟩) n cap)) (w1.setCell ⟨b, off + d * 2, none⟩ (.string s))) ∧
   (∀ E, q ≤ p + 10 → Mutd g p m xs w (.returned (.slice (some ⟨b, off, none⟩) n cap)) ((w1.setCell ⟨b, off + d * 2 + 1, none⟩ (.slice (some ⟨w1.heap.size, 0, none⟩) 0 0)).alloc (.cells #[] E))) := by
 obtain ⟨FF, ha, hfr, hF⟩ := h.arr
 obtain ⟨b', off', cap', kv, F2, e, hbF, hF2, hz, hn, hk, hkv, hns, H⟩ := put1 ha hfr hd
 cases e
 obtain ⟨kA, kcap, rfl, hc1, hc2⟩ := hkv.form
 have hb := hF _ hbF
 have hg := h.lt
 have hsd := hs _ (List.getElem_mem hd)
 refine ⟨kA, kcap, F2, hn, hk, hz, hb.1, hb.2, hc1, hc2, ⟨_, rfl, hkv, hns⟩, fun x hx => ⟨(hF2 x hx).2, hF x (hF2 x hx).1⟩, fun s hss hq => ?_, fun E hq => ?_⟩
 ·obtain ⟨G, hG, hka⟩ := (hkv.mono (w' := w1.setCell ⟨b, off + d * 2, none⟩ (.string s)) (R' := KtO (w1.setCell ⟨b, off + d * 2, none⟩ (.string s))) (fun c hc => zz7 _ _ _ _ (hF2 c hc).2) (fun y _ cs G hk h => KtO_mono _ _ y cs G hk h)).weaken fun _ _ _ h => KtO.toR h
  obtain ⟨F', hF', har⟩ := H _ s xs[d].ctors (.slice kA xs[d].ctors.length kcap) G (fun j hj => World.cell?_setCell_other _ _ _ _ (by intro e; injection e; omega)) (fun x hx hxb => zz7 _ _ _ _ hxb)
   (World.cell?_setCell_same _ _ _ hn) ((World.cell?_setCell_other _ _ _ _ (by intro e; injection e; omega)).trans hk) hka (by omega)
  refine Mutd.of har (fun x hx => ?_) (h.rd.set (by omega)) hq (h.chg.set_new hb.1) (by rw [List.length_set]; exact h0) (by rw [List.length_set]; exact Nat.le_succ _) ((hs.mono (by omega)).set (by simpa using Nat.le_trans hsd.1 (by omega)) (fun c hc => Nat.le_trans (hsd.2 c hc) (by omega)))
  have hsz : (w1.setCell ⟨b, off + d * 2, none⟩ (.string s)).heap.size = w1.heap.size := by simp [World.setCell]
  rw [hsz]
  rcases hF' x hx with h1 | h1
  ·exact hF x h1
  ·exact hF x (hF2 x (hG x h1)).1
 ·rw [← World.setCell_alloc_past _ _ _ _ hb.2]
  have hblk : ∀ x, x < w1.heap.size → x ≠ b → ((w1.alloc (.cells #[] E)).setCell ⟨b, off + d * 2 + 1, none⟩ (.slice (some ⟨w1.heap.size, 0, none⟩) 0 0)).heap[x]? = w1.heap[x]? := fun x hx hxb => (zz7 _ _ _ _ hxb).trans (Below.heap_alloc _ _ _ hx)
  have hce : ∀ j, (w1.alloc (.cells #[] E)).cell? ⟨b, j, none⟩ = w1.cell? ⟨b, j, none⟩ := fun j => World.cell?_alloc_lt _ _ _ hb.2
  obtain ⟨F', hF', har⟩ := H _ xs[d].name [] (.slice (some ⟨w1.heap.size, 0, none⟩) 0 0) [] (fun j hj => (World.cell?_setCell_other _ _ _ _ (by intro e; injection e; omega)).trans (hce j)) (fun x hx hxb => hblk x (hF x hx).2 hxb)
   ((World.cell?_setCell_other _ _ _ _ (by intro e; injection e; omega)).trans ((hce _).trans hn)) (World.cell?_setCell_same _ _ _ ((hce _).trans hk)) ⟨_, _, rfl, by simp, by simp [maxLen], .inl ⟨rfl, rfl⟩⟩ hns
  have hsz : ((w1.alloc (.cells #[] E)).setCell ⟨b, off + d * 2 + 1, none⟩ (.slice (some ⟨w1.heap.size, 0, none⟩) 0 0)).heap.size = w1.heap.size + 1 := by simp [World.setCell]
  have hbel : Below w1.heap.size w1 (w1.alloc (.cells #[] E)) := (zy2 _ _).alloc (zz8 _) _
  refine Mutd.of har (fun x hx => ?_) ((h.rd.below hbel).set (by omega)) hq ((h.chg.step hbel).set_new hb.1) (by rw [List.length_set]; exact h0) (by rw [List.length_set]; exact Nat.le_succ _) ((hs.mono (by omega)).set (by simp) (fun c hc => by cases hc))
  rw [hsz]
  rcases hF' x hx with h1 | h1
  ·have := hF x h1; omega
  ·cases h1
theorem Cpy.ctor {b off n cap d : Nat} (h : Cpy g q xs (.slice (some ⟨b, off, none⟩) n cap) F w w1) (h0 : 0 < xs.length) (hs : SmallW m xs) (hd : d < xs.length) (hk : 0 < xs[d].ctors.length) :
  ∃ b2 off2 cap2 aA acap, w1.cell? ⟨b, off + d * 2 + 1, none⟩ = some (.slice (some ⟨b2, off2, none⟩) xs[d].ctors.length cap2) ∧ b ≠ b2 ∧ b ∉ [g] ∧ b2 ∉ [g] ∧ b < w1.heap.size ∧ b2 < w1.heap.size ∧ (∀ j, w1.frozen? ⟨b2, j, none⟩ = false) ∧
   w1.cell? ⟨b2, off2, none⟩ = some (.string xs[d].ctors[0].name) ∧ w1.cell? ⟨b2, off2 + 1, none⟩ = some (.slice aA xs[d].ctors[0].args.length acap) ∧ w1.cell? ⟨b2, off2 + 2, none⟩ = some (.int .i64 xs[d].ctors[0].idx) ∧
   Own w1 0 32 2 TyR xs[d].ctors[0].args (.slice aA xs[d].ctors[0].args.length acap) [] ∧ (∀ x ∈ rowOf (.slice aA xs[d].ctors[0].args.length acap), x ∉ [g] ∧ x ≠ b ∧ x ≠ b2 ∧ x < w1.heap.size) ∧ xs[d].ctors[0].args.length ≤ m ∧
   (∀ (w2 : World) (q' : Nat) (s : ByteArray), Rd w2 g q' → Chg [g] w1 w2 → q' ≤ p + 10 → s.size ≤ 1000 → Mutd g p m xs w (.returned (.slice (some ⟨b, off, none⟩) n cap)) (w2.setCell ⟨b2, off2, none⟩ (.string s))) ∧
   (∀ (w2 : World) (q' : Nat) (i : Int), Rd w2 g q' → Chg [g] w1 w2 → q' ≤ p + 10 → Mutd g p m xs w (.returned (.slice (some ⟨b, off, none⟩) n cap)) (w2.setCell ⟨b2, off2 + 2, none⟩ (.int .i64 i))) ∧
   (∀ (w2 : World) (q' : Nat) (y : Ty) (g' c' : Nat) (w3 : World) (o : Obj), Rd w2 g q' → Chg [g] w1 w2 → q' ≤ p + 10 → Own w3 0 32 2 TyR (xs[d].ctors[0].args ++ [y]) (.slice (some ⟨g', 0, none⟩) (xs[d].ctors[0].args.length + 1) c') [] →
    (w2.alloc o).grownBy w3 (Value.slice aA xs[d].ctors[0].args.length acap).ownBlock → ((Value.slice aA xs[d].ctors[0].args.length acap).ownBlock = some g' ∨ g' = w2.heap.size + 1) →
    Mutd g p m xs w (.returned (.slice (some ⟨b, off, none⟩) n cap)) (w3.setCell ⟨b2, off2 + 1, none⟩ (.slice (some ⟨g', 0, none⟩) (xs[d].ctors[0].args.length + 1) c'))) := by
 obtain ⟨FF, ha, hfr, hF⟩ := h.arr
 obtain ⟨b', off', cap', b2, off2, cap2, av, e, hbF, hb2F, hbb, hz, hz2, hkc, c0, c1, c2, hown, hrow, hns, H⟩ := put2 ha hfr hd hk
 cases e
 obtain ⟨aA, acap, rfl, -, -⟩ := hown.form
 have hb := hF _ hbF
 have hb2 := hF _ hb2F
 have hg := h.lt
 have hsd := hs _ (List.getElem_mem hd)
 have hsa := hsd.2 _ (List.getElem_mem hk)
 have hFg : ∀ x ∈ FF, x ∉ [g] := fun x hx => by have := (hF x hx).1; rw [zy1]; omega
 have small : ∀ c : Kt, c.args.length ≤ m + 1 → SmallW (m + 1) (xs.set d ⟨xs[d].name, xs[d].ctors.set 0 c⟩) := fun c hc => (hs.mono (by omega)).set (by simp only [List.length_set]; omega) (fun k hk' => by
  rcases List.mem_or_eq_of_mem_set hk' with h1 | rfl
  ·exact Nat.le_trans (hsd.2 _ h1) (by omega)
  ·exact hc)
 refine ⟨b2, off2, cap2, aA, acap, hkc, fun e => hbb e.symm, hFg _ hbF, hFg _ hb2F, hb.2, hb2.2, hz2, c0, c1, c2, hown, fun x hx => ⟨hFg _ (hrow x hx).1, (hrow x hx).2.1, (hrow x hx).2.2, (hF _ (hrow x hx).1).2⟩, hsa, fun w2 q' s hr hc hq hss => ?_, fun w2 q' i hr hc hq => ?_, fun w2 q' y g' c' w3 o hr hc hq ho3 hg3 hat => ?_⟩
 ·have hcl : ∀ j, w2.cell? ⟨b2, j, none⟩ = w1.cell? ⟨b2, j, none⟩ := fun j => hc.cell hb2.2 (hFg _ hb2F)
  have hkp : ∀ x ∈ FF, x ≠ b2 → (w2.setCell ⟨b2, off2, none⟩ (.string s)).heap[x]? = w1.heap[x]? := fun x hx hxb => (zz7 _ _ _ _ hxb).trans (hc.block x (hF x hx).2 (hFg x hx))
  have ho2 := (hown.mono0 (w' := w2.setCell ⟨b2, off2, none⟩ (.string s)) (fun x cs G (h : TyR w1 x cs G) => (h : TyR _ x cs G)) (fun x hx => hkp x (hrow x hx).1 (hrow x hx).2.2)).arr
  obtain ⟨F', hF', har⟩ := H (w2.setCell ⟨b2, off2, none⟩ (.string s)) s _ xs[d].ctors[0].idx _ _ (fun j hj => (World.cell?_setCell_other _ _ _ _ (by intro e; injection e; omega)).trans (hcl j)) (fun x hx hxb _ => hkp x hx hxb)
   (World.cell?_setCell_same _ _ _ ((hcl _).trans c0)) ((World.cell?_setCell_other _ _ _ _ (by intro e; injection e; omega)).trans ((hcl _).trans c1)) ((World.cell?_setCell_other _ _ _ _ (by intro e; injection e; omega)).trans ((hcl _).trans c2)) ho2 (by omega)
  have hsz : (w2.setCell ⟨b2, off2, none⟩ (.string s)).heap.size = w2.heap.size := by simp [World.setCell]
  refine Mutd.of har (fun x hx => ?_) (hr.set (by omega)) hq ((h.chg.trans hc).set_new hb2.1) (by rw [List.length_set]; exact h0) (by rw [List.length_set]; exact Nat.le_succ _) (small _ (by simp only; omega))
  rw [hsz]
  have hz2 := hc.size
  rcases hF' x hx with h1 | h1
  ·have := hF x h1; omega
  ·split at h1
   ·cases h1
   ·rw [List.append_nil] at h1
    have := hF x (hrow x h1).1; omega
 ·have hcl : ∀ j, w2.cell? ⟨b2, j, none⟩ = w1.cell? ⟨b2, j, none⟩ := fun j => hc.cell hb2.2 (hFg _ hb2F)
  have hkp : ∀ x ∈ FF, x ≠ b2 → (w2.setCell ⟨b2, off2 + 2, none⟩ (.int .i64 i)).heap[x]? = w1.heap[x]? := fun x hx hxb => (zz7 _ _ _ _ hxb).trans (hc.block x (hF x hx).2 (hFg x hx))
  have ho2 := (hown.mono0 (w' := w2.setCell ⟨b2, off2 + 2, none⟩ (.int .i64 i)) (fun x cs G (h : TyR w1 x cs G) => (h : TyR _ x cs G)) (fun x hx => hkp x (hrow x hx).1 (hrow x hx).2.2)).arr
  obtain ⟨F', hF', har⟩ := H (w2.setCell ⟨b2, off2 + 2, none⟩ (.int .i64 i)) xs[d].ctors[0].name _ i _ _ (fun j hj => (World.cell?_setCell_other _ _ _ _ (by intro e; injection e; omega)).trans (hcl j)) (fun x hx hxb _ => hkp x hx hxb)
   ((World.cell?_setCell_other _ _ _ _ (by intro e; injection e; omega)).trans ((hcl _).trans c0)) ((World.cell?_setCell_other _ _ _ _ (by intro e; injection e; omega)).trans ((hcl _).trans c1)) (World.cell?_setCell_same _ _ _ ((hcl _).trans c2)) ho2 hns
  have hsz : (w2.setCell ⟨b2, off2 + 2, none⟩ (.int .i64 i)).heap.size = w2.heap.size := by simp [World.setCell]
  refine Mutd.of har (fun x hx => ?_) (hr.set (by omega)) hq ((h.chg.trans hc).set_new hb2.1) (by rw [List.length_set]; exact h0) (by rw [List.length_set]; exact Nat.le_succ _) (small _ (by simp only; omega))
  rw [hsz]
  have hz2 := hc.size
  rcases hF' x hx with h1 | h1
  ·have := hF x h1; omega
  ·split at h1
   ·cases h1
   ·rw [List.append_nil] at h1
    have := hF x (hrow x h1).1; omega
 ·have hrw : ∀ x, (Value.slice aA xs[d].ctors[0].args.length acap).ownBlock = some x → w.heap.size ≤ x ∧ x ≠ b2 := fun x hx => ⟨(hF x (hrow x (zA2.2 hx)).1).1, (hrow x (zA2.2 hx)).2.2⟩
  have hwz : w.heap.size ≤ w1.heap.size := h.chg.size
  have hw2 : w1.heap.size ≤ w2.heap.size := hc.size
  have hB3 : Below w.heap.size w2 w3 := ((zy2 w.heap.size w2).alloc (by omega) o).grown hg3 (by simp; omega) (fun x hx => (hrw x hx).1)
  have hblk : ∀ x, x < w2.heap.size → x ∉ rowOf (Value.slice aA xs[d].ctors[0].args.length acap) → w3.heap[x]? = w2.heap[x]? := fun x hx hxr => (hg3.block x (by simp; omega) (fun e => hxr (zA2.2 e.symm))).trans (Below.heap_alloc _ _ _ hx)
  have hb2r : b2 ∉ rowOf (Value.slice aA xs[d].ctors[0].args.length acap) := fun hx => (hrow _ hx).2.2 rfl
  have hb3 : w3.heap[b2]? = w1.heap[b2]? := (hblk b2 (by omega) hb2r).trans (hc.block _ hb2.2 (hFg _ hb2F))
  have hcl : ∀ j, w3.cell? ⟨b2, j, none⟩ = w1.cell? ⟨b2, j, none⟩ := fun j => World.cell?_of_block (a := ⟨b2, j, none⟩) hb3
  have hgn : g' ≠ b2 := by
   rcases hat with h1 | h1
   ·exact (hrw _ h1).2
   ·omega
  have ho2 := (Own.set (j := off2 + 1) (b := b2) TyR_mono' ho3 (.slice (some ⟨g', 0, none⟩) (xs[d].ctors[0].args.length + 1) c') (fun h => hgn (by rw [zA6, zy1] at h; exact h.symm)) (fun h => by cases h))
  have hro2 := ho2.row
  have har2 := ho2.arr
  obtain ⟨F', hF', har⟩ := H (w3.setCell ⟨b2, off2 + 1, none⟩ (.slice (some ⟨g', 0, none⟩) (xs[d].ctors[0].args.length + 1) c')) xs[d].ctors[0].name _ xs[d].ctors[0].idx _ _ (fun j hj => (World.cell?_setCell_other _ _ _ _ (by intro e; injection e; omega)).trans (hcl j))
   (fun x hx hxb hxr => (zz7 _ _ _ _ hxb).trans ((hblk x (by have := hF x hx; omega) hxr).trans (hc.block x (hF x hx).2 (hFg x hx))))
   ((World.cell?_setCell_other _ _ _ _ (by intro e; injection e; omega)).trans ((hcl _).trans c0)) (World.cell?_setCell_same _ _ _ ((hcl _).trans c1)) ((World.cell?_setCell_other _ _ _ _ (by intro e; injection e; omega)).trans ((hcl _).trans c2)) har2 hns
  have hsz : (w3.setCell ⟨b2, off2 + 1, none⟩ (.slice (some ⟨g', 0, none⟩) (xs[d].ctors[0].args.length + 1) c')).heap.size = w3.heap.size := by simp [World.setCell]
  have hz3 : w2.heap.size ≤ w3.heap.size := hB3.size
  have hgw : w.heap.size ≤ g' := by
   rcases hat with h1 | h1
   ·exact (hrw _ h1).1
   ·omega
  refine Mutd.of har (fun x hx => ?_) ((hr.low hB3 hg).set (by omega)) hq (((h.chg.trans hc).under hB3).set_new hb2.1) (by rw [List.length_set]; exact h0) (by rw [List.length_set]; exact Nat.le_succ _) (small _ (by simp only [List.length_append, List.length_cons, List.length_nil]; omega))
  rcases hF' x hx with h1 | h1
  ·rw [hsz]; have := hF x h1; omega
  ·split at h1
   ·cases h1
   ·rw [List.append_nil] at h1
    have h2 := hro2 x h1
    rw [zA6, zy1] at h1
    exact ⟨by omega, h2.2⟩
theorem Cpy.twice {d : Nat} {o : Obj} {vB : Option Nat} {w3 : World} {v3 : Value} {F2 : List Nat} (h : Cpy g q xs v F w w1) (h0 : 0 < xs.length) (hs : SmallW m xs) (hd : d < xs.length) (hF2 : ∀ x ∈ F2, w.heap.size ≤ x) (hv : vB = v.ownBlock)
  (ho : Own w3 w.heap.size 97 2 DtO (xs ++ [xs[d]]) v3 (F ++ F2)) (hg : (w1.alloc o).grownBy w3 vB) (hq : q ≤ p + 10) : Mutd g p m xs w (.returned v3) w3 := by
 subst hv
 have hro := h.own.row
 have hwz : w.heap.size ≤ w1.heap.size := h.chg.size
 have hB3 : Below w.heap.size w1 w3 := ((zy2 w.heap.size w1).alloc hwz o).grown hg (by simp; omega) (fun x hx => (hro x (zA2.2 hx)).1)
 have hr3 := ho.row
 have hu3 := ho.under
 obtain ⟨G, hG, ha'⟩ := ArrDtO.toR ho.arr
 refine Mutd.of ha' (fun x hx => ?_) (h.rd.low hB3 h.lt) hq (h.chg.under hB3) (by simp) (by simp) (fun x hx => ?_)
 ·have h1 := hG x hx
  split at h1
  ·cases h1
  ·rcases List.mem_append.1 h1 with h1 | h1
   ·exact hr3 x h1
   ·refine ⟨?_, hu3 x h1⟩
    rcases List.mem_append.1 h1 with h1 | h1
    ·exact h.fresh x h1
    ·exact hF2 x h1
 ·rcases List.mem_append.1 hx with h1 | h1
  ·exact (hs.mono (by omega : m ≤ m + 1)) x h1
  ·rw [zy1] at h1
   subst h1
   exact (hs.mono (by omega : m ≤ m + 1)) _ (List.getElem_mem hd)
end
def dtk (xs : List Dt) (d : Nat) : List Dt := xs.take d
def ktk (cs : List Kt) (k : Nat) : List Kt := cs.take k
theorem dtk_len (xs : List Dt) (d : Nat) : (dtk xs d).length ≤ d := by unfold dtk; rw [List.length_take]; omega
theorem ktk_len (cs : List Kt) (k : Nat) : (ktk cs k).length ≤ k := by unfold ktk; rw [List.length_take]; omega
theorem dtk_succ (xs : List Dt) (d : Nat) (h : d < xs.length) : dtk xs (d + 1) = dtk xs d ++ [xs[d]] := take_snoc' xs d h
theorem ktk_succ (cs : List Kt) (k : Nat) (h : k < cs.length) : ktk cs (k + 1) = ktk cs k ++ [cs[k]] := take_snoc' cs k h
theorem dtk_all (xs : List Dt) {d : Nat} (h : xs.length ≤ d) : dtk xs d = xs := List.take_of_length_le h
theorem ktk_all (cs : List Kt) {k : Nat} (h : cs.length ≤ k) : ktk cs k = cs := List.take_of_length_le h
theorem Own.free_row {α : Type} {w : World} {B k : Nat} {E : TypeId} {R : World → α → List Value → List Nat → Prop} {xs : List α} {v : Value} {F : List Nat} (h : Own w B E k R xs v F) : Free w (rowOf v) := by
 obtain ⟨cs, h1, -⟩ := h
 rcases h1.2 with ⟨rfl, -⟩ | ⟨g, cap, cur, rfl, hb, hg, -⟩
 ·exact Free.nil _
 ·rw [zA6]
  exact ⟨by simp, fun b hb' i => by rw [zy1] at hb'; subst hb'; simp [World.frozen?, hg]⟩
theorem TyR_one (w : World) (x : Ty) (cs : List Value) (G : List Nat) (h : TyR w x cs G) : ∀ u ∈ cs, u.oneCell' = true := by
 obtain ⟨rfl, -⟩ := h
 simp [Value.oneCell']
theorem wpList_append_run {P : Program} {w : World} {ops : Array Oper} {rest : List Oper} {o : Oper} {a : Act} {Q : Exit → Act → World → Prop} (hgd : o.guard = none) (s x : Operand) (t : TypeId)
  (ho : o.op = .call { callee := .builtin .append, args := #[s, x], argTypes := #[t, t] }) {sv xv v' : Value} {w' : World} (hs : a.eval s = sv) (hx : a.eval x = xv)
  (hr : (Builtin.append_ #[t, t] o.type #[sv, xv]).run P w = .ok v' w') (h : wpList P ops Q rest (a.put o.dst v') w') : wpList P ops Q (o :: rest) a w := by
 refine wpList_plain hgd fun K hK => ?_
 unfold Oper.wp execOp
 simp only [ho, resolve, invoke, builtin, Sem.run_bind, Sem.run_pure, Result.andThen_ok, List.map_toArray, List.map_cons, List.map_nil, hs, hx, hr]
 exact hK _ _ h
set_option maxHeartbeats 6400000 in
theorem spec_l1Copy (xs : List Dt) (w : World) (v : Value) (F : List Nat) (hx : Arr w (DtR w) xs v F) (hf : Under w.heap.size F) (hl : xs.length ≤ 100) (hsm : SmallW 100 xs) :
  Calls Try.prog 100 #[v] w fun e w' => ∃ v' F', e = .returned v' ∧ Below w.heap.size w w' ∧ Own w' w.heap.size 97 2 DtO xs v' F' ∧ Free w' F' ∧ (∀ b ∈ F', w.heap.size + 1 ≤ b) := by
 obtain ⟨A, cap, rfl, hc1, hc2⟩ := hx.form
 obtain ⟨i0, hi, hz0, hz1, hz2⟩ := info_parts info_KtE
 have HI := jj hi
 have HZ0 := jj hz0
 have HZ1 := jj hz1
 have HZ2 := jj hz2
 clear hi hz0 hz1 hz2
 obtain ⟨j0, hj, hj0, hj1, hj2⟩ := info_parts info_tyE
 have HJ := jj hj
 have HJ0 := jj hj0
 have HJ1 := jj hj1
 have HJ2 := jj hj2
 clear hj hj0 hj1 hj2
 obtain ⟨m0, hm, hm0, hm1, hm2⟩ := info_parts info_DtE
 have HM := jj hm
 have HM0 := jj hm0
 have HM1 := jj hm1
 have HM2 := jj hm2
 clear hm hm0 hm1 hm2
 have HSM := jj hsm
 have HX := jj hx
 have HF := jj hf
 clear hx hf
 clear hsm
 go_enter Try.func100, Try.ntmps100
 go_wp2
 have hB1 : Below w.heap.size w (w.alloc (.cells #[] 97)) := (zy2 _ _).alloc (zz8 _) _
 have HO1 : Hid (Own (w.alloc (.cells #[] 97)) w.heap.size 97 2 DtO (dtk xs 0) (.slice (some ⟨w.heap.size, 0, none⟩) 0 0) []) := Own.made w w.heap.size 97 2 DtO #[] 0 (zz8 _) (by simp [maxLen]) rfl
 have hw1 : (w.alloc (.cells #[] 97)).heap.size = w.heap.size + 1 := World.size_alloc _ _
 obtain ⟨w1, hw1e⟩ : ∃ w1, w1 = w.alloc (.cells #[] 97) := ⟨_, rfl⟩
 rw [← hw1e] at hB1 HO1 hw1 ⊢
 clear hw1e
 go_loopw [3, 4] (fun ov dv wr => ∃ d : Nat, ∃ Fo : List Nat, d ≤ xs.length ∧ dv = .int .i64 d ∧ Hid (Own wr w.heap.size 97 2 DtO (dtk xs d) ov Fo) ∧ Hid (Free wr Fo) ∧ Hid (∀ b ∈ Fo, w1.heap.size ≤ b) ∧ Hid (Chg [w.heap.size] w1 wr) ∧ Below w.heap.size w wr ∧ w1.heap.size ≤ wr.heap.size) (fun _ dv _ => xs.length - (intOf dv).toNat)
 case atStart => exact ⟨0, [], Nat.zero_le _, rfl, HO1, Free.nil _, (fun b hb => by cases hb), Chg.refl _ _, hB1, zz8 _⟩
 case round =>
  clear hB1 HO1
  obtain ⟨d, Fo, hd, rfl, HO, HFr, HFh, HC, hB, hwr⟩ := hrel
  by_cases hdl : d < xs.length
  ·obtain ⟨b, off, rfl⟩ := HX.out.ptr (by omega)
   have g1 : (0 : Int) ≤ (d : Int) := by omega
   have g2 : (d : Int) < (xs.length : Int) := by omega
   obtain ⟨A1, cap1, G1, hbw, c0w, c1w, HK, HG, hns, hn1, hn2⟩ := ArrDt.at HX.out HF.out (zy2 _ _) d hdl
   have c0 := (hB.cell (p := ⟨b, off + d * 2, none⟩) hbw).trans c0w
   have hb : b < wr.heap.size := zz9 hbw hB.size
   have hcl : xs[d].ctors.length ≤ 100 := (HSM.out _ (List.getElem_mem hdl)).1
   have hdk := dtk_len xs d
   have HB8 : Hid (∀ b ∈ rowOf u3 ++ Fo, b < wr.heap.size) := fun b hb => by
    rcases List.mem_append.1 hb with h | h
    ·exact (HO.out.row b h).2
    ·exact HO.out.under b h
   obtain ⟨w8, hw8⟩ : ∃ w8, w8 = wr := ⟨_, rfl⟩
   rw [← hw8] at HO HFr HC hB hwr c0 hb HB8 ⊢
   clear hw8
   have hw9 : Below w8.heap.size w8 (w8.alloc (.cells #[.string xs[d].name, .slice none 0 0] 97)) := (zy2 _ _).alloc (zz8 _) _
   have HO9 : Hid (Own (w8.alloc (.cells #[.string xs[d].name, .slice none 0 0] 97)) w.heap.size 97 2 DtO (dtk xs d) u3 Fo) := HO.out.below (fun x cs G hk h => DtO_mono _ _ x cs G hk h) hw9
   have HFr9 : Hid (Free (w8.alloc (.cells #[.string xs[d].name, .slice none 0 0] 97)) Fo) := HFr.out.kept (.of_below hw9 HO.out.under)
   have HC9 : Hid (Chg [w.heap.size] w1 (w8.alloc (.cells #[.string xs[d].name, .slice none 0 0] 97))) := HC.out.step hw9
   have KD9 : Hid (Blk (w8.alloc (.cells #[.string xs[d].name, .slice none 0 0] 97)) w8.heap.size 97 #[.string xs[d].name, .slice none 0 0]) := Blk.new _ _ _
   have hB9 := hB.trans (hw9.mono hB.size)
   have hw9s : (w8.alloc (.cells #[.string xs[d].name, .slice none 0 0] 97)).heap.size = w8.heap.size + 1 := World.size_alloc _ _
   have hHD8 : w.heap.size ≤ w8.heap.size := hB.size
   have HR : Hid (∀ g ∈ rowOf u3, g = w.heap.size ∨ w1.heap.size ≤ g) := fun g hg => by have := (HO.out.row g hg).1; omega
   go_wp2
   obtain ⟨w9, hw9e⟩ : ∃ w9, w9 = w8.alloc (.cells #[.string xs[d].name, .slice none 0 0] 97) := ⟨_, rfl⟩
   rw [← hw9e] at HO9 HFr9 HC9 KD9 hB9 hw9s ⊢
   clear hw9 hw9e HO HFr HC hB c0 hb
   go_loopw [6] (fun kv' wr => ∃ k : Nat, ∃ kv : Value, ∃ Fk : List Nat, k ≤ xs[d].ctors.length ∧ kv' = .int .i64 k ∧ Hid (Blk wr w8.heap.size 97 #[.string xs[d].name, kv]) ∧ Hid (Own wr (w8.heap.size + 1) 138 3 KtO (ktk xs[d].ctors k) kv Fk) ∧ Hid (Free wr Fk) ∧ Hid (∀ b ∈ Fk, w8.heap.size + 1 ≤ b) ∧ Hid (Chg [w8.heap.size] w9 wr) ∧ Below w.heap.size w wr ∧ w9.heap.size ≤ wr.heap.size) (fun kv' _ => xs[d].ctors.length - (intOf kv').toNat)
   case atStart => exact ⟨0, _, [], Nat.zero_le _, rfl, KD9, (show Own _ _ _ _ _ (ktk xs[d].ctors 0) _ _ from Own.nil _ _ _ _ _), Free.nil _, (fun b hb => by cases hb), Chg.refl _ _, hB9, zz8 _⟩
   case round =>
    clear hB9 KD9
    obtain ⟨k, kv, Fk, hkl, rfl, KD, HOk, HFk, HFkh, HCk, hB, hw9r⟩ := hrel
    obtain ⟨kA, kcap, hkv, hkc1, hkc2⟩ := HOk.out.form
    subst hkv
    have z0 : wr.cell? ⟨w8.heap.size, 0, none⟩ = some (.string xs[d].name) := (KD.out.cell 0).trans (by simp)
    have z1 : wr.cell? ⟨w8.heap.size, 1, none⟩ = some (.slice kA (ktk xs[d].ctors k).length kcap) := (KD.out.cell 1).trans (by simp)
    have zf1 := KD.out.frozen 1
    have hkz := KD.out.lt
    have c1 := (hB.cell (p := ⟨b, off + d * 2 + 1, none⟩) hbw).trans c1w
    have hbr : b < wr.heap.size := zz9 hbw hB.size
    by_cases hlt : k < xs[d].ctors.length
    ·obtain ⟨b2, off2, rfl⟩ := HK.out.ptr (by omega)
     obtain ⟨A3, cap3, G3, hb3, k0, k1, k2, HKT, HG3, hks, hn3, hn4⟩ := ArrKt.rep HK.out HG.out hB k hlt
     have g3 : (0 : Int) ≤ (k : Int) := by omega
     have g4 : (k : Int) < (xs[d].ctors.length : Int) := by omega
     have hal : xs[d].ctors[k].args.length ≤ 100 := (HSM.out _ (List.getElem_mem hdl)).2 _ (List.getElem_mem hlt)
     have hkk := ktk_len xs[d].ctors k
     have harg : Arr w (TyR w) xs[d].ctors[k].args (.slice A3 xs[d].ctors[k].args.length cap3) G3 := by
      obtain ⟨kv, hkv, ha, -⟩ := HKT.out
      have : kv = .slice A3 xs[d].ctors[k].args.length cap3 := by simpa using (List.cons.inj (List.cons.inj hkv).2).1.symm
      rw [← this]; exact ha
     have ha1 : Below wr.heap.size wr (wr.alloc (.cells #[.string xs[d].ctors[k].name, .slice A3 xs[d].ctors[k].args.length cap3, .int .i64 xs[d].ctors[k].idx] 138)) := (zy2 _ _).alloc (zz8 _) _
     have ha2 : Below wr.heap.size wr ((wr.alloc (.cells #[.string xs[d].ctors[k].name, .slice A3 xs[d].ctors[k].args.length cap3, .int .i64 xs[d].ctors[k].idx] 138)).alloc (.cells #[] 32)) := ha1.alloc ha1.size _
     have hos : Own ((wr.alloc (.cells #[.string xs[d].ctors[k].name, .slice A3 xs[d].ctors[k].args.length cap3, .int .i64 xs[d].ctors[k].idx] 138)).alloc (.cells #[] 32)) 0 32 2 TyR ([] : List Ty) (.slice (some ⟨wr.heap.size + 1, 0, none⟩) 0 0) [] := by
      have h := Own.made (wr.alloc (.cells #[.string xs[d].ctors[k].name, .slice A3 xs[d].ctors[k].args.length cap3, .int .i64 xs[d].ctors[k].idx] 138)) 0 32 2 TyR #[] 0 (Nat.zero_le _) (by simp [maxLen]) rfl
      rwa [World.size_alloc] at h
     have hKC : Blk ((wr.alloc (.cells #[.string xs[d].ctors[k].name, .slice A3 xs[d].ctors[k].args.length cap3, .int .i64 xs[d].ctors[k].idx] 138)).alloc (.cells #[] 32)) wr.heap.size 138 #[.string xs[d].ctors[k].name, .slice A3 xs[d].ctors[k].args.length cap3, .int .i64 xs[d].ctors[k].idx] := (Blk.new wr _ _).same (Below.heap_alloc _ _ _ (by simp))
     have hsz2 : ((wr.alloc (.cells #[.string xs[d].ctors[k].name, .slice A3 xs[d].ctors[k].args.length cap3, .int .i64 xs[d].ctors[k].idx] 138)).alloc (.cells #[] 32)).heap.size = wr.heap.size + 2 := by simp
     have hAB := ArrTy.below harg (hB.trans (ha2.mono hB.size)) HG3.out
     obtain ⟨v', wc, hrun, hoc, hgc, hrc⟩ := run_append_whole (P := Try.prog) (R := TyR ((wr.alloc (.cells #[.string xs[d].ctors[k].name, .slice A3 xs[d].ctors[k].args.length cap3, .int .i64 xs[d].ctors[k].idx] 138)).alloc (.cells #[] 32))) (RR := TyR) (B := 0) (k := 2) (E := 32) 136 136 j0 _ 16 Try.underlying136 HJ.out HJ0.out HJ1.out HJ2.out rfl (by decide) (fun x cs G h => TyR_len x cs G h) (fun x cs G h => TyR_one _ x cs G h) (fun w' x cs G h => ⟨h.1, rfl⟩) hos hAB (by omega) (by omega) (Nat.zero_le _)
     obtain ⟨vA, vcap, hv', hvc1, hvc2⟩ := hoc.form
     subst hv'
     generalize hwb : ((wr.alloc (.cells #[.string xs[d].ctors[k].name, .slice A3 xs[d].ctors[k].args.length cap3, .int .i64 xs[d].ctors[k].idx] 138)).alloc (.cells #[] 32)) = wb at *
     have kb1 : wb.cell? ⟨wr.heap.size, 1, none⟩ = some (.slice A3 xs[d].ctors[k].args.length cap3) := (hKC.cell 1).trans (by simp)
     have hKCc : Blk wc wr.heap.size 138 #[.string xs[d].ctors[k].name, .slice A3 xs[d].ctors[k].args.length cap3, .int .i64 xs[d].ctors[k].idx] := hKC.same (hgc.block _ (by omega) (fun e => by injection e; omega))
     have hbc : Below wr.heap.size wr wc := ha2.grown hgc (by omega) (fun g hg => by injection hg; omega)
     have hcz : wb.heap.size ≤ wc.heap.size := hgc.size
     have hrw : ∀ x ∈ rowOf (.slice vA xs[d].ctors[k].args.length vcap), wr.heap.size + 1 ≤ x := fun x hx => by rcases hrc x hx with h | h <;> omega
     have hx1 : wc.cell? ⟨w8.heap.size, 1, none⟩ = some (.slice kA (ktk xs[d].ctors k).length kcap) := (hbc.cell hkz).trans z1
     have hxf : wc.frozen? ⟨w8.heap.size, 1, none⟩ = false := (hbc.frozen hkz).trans zf1
     have y0 : wc.cell? ⟨wr.heap.size, 0, none⟩ = some (.string xs[d].ctors[k].name) := (hKCc.cell 0).trans (by simp)
     have y1 : wc.cell? ⟨wr.heap.size, 1, none⟩ = some (.slice A3 xs[d].ctors[k].args.length cap3) := (hKCc.cell 1).trans (by simp)
     have y2 : wc.cell? ⟨wr.heap.size, 2, none⟩ = some (.int .i64 xs[d].ctors[k].idx) := (hKCc.cell 2).trans (by simp)
     have yf1 := hKCc.frozen 1
     have hne : wr.heap.size ≠ w8.heap.size := by omega
     have hcs : wr.heap.size < wc.heap.size := hKCc.lt
     have hBu : Hid (Below wr.heap.size wr (wc.setCell ⟨wr.heap.size, 1, none⟩ (.slice vA xs[d].ctors[k].args.length vcap))) := hbc.setCell (zz8 _) _
     have hod := Own.set (j := 1) (b := wr.heap.size) TyR_mono' hoc (.slice vA xs[d].ctors[k].args.length vcap) (fun h => by have := hrw _ h; omega) (fun h => by cases h)
     have hrd := hod.row
     have HKO : Hid (KtO (wc.setCell ⟨wr.heap.size, 1, none⟩ (.slice vA xs[d].ctors[k].args.length vcap)) xs[d].ctors[k] [.string xs[d].ctors[k].name, .slice vA xs[d].ctors[k].args.length vcap, .int .i64 xs[d].ctors[k].idx] (rowOf (.slice vA xs[d].ctors[k].args.length vcap))) := ⟨_, rfl, hod, rfl, hks⟩
     have HfrA := jj hod.free_row
     have HfsA : Hid (∀ b ∈ rowOf (.slice vA xs[d].ctors[k].args.length vcap), wr.heap.size ≤ b ∧ b < (wc.setCell ⟨wr.heap.size, 1, none⟩ (.slice vA xs[d].ctors[k].args.length vcap)).heap.size) := fun b hb => ⟨by have := hrw b hb; omega, (hrd b hb).2⟩
     have HOA : Hid (Own (wc.setCell ⟨wr.heap.size, 1, none⟩ (.slice vA xs[d].ctors[k].args.length vcap)) (w8.heap.size + 1) 138 3 KtO (ktk xs[d].ctors k) (.slice kA (ktk xs[d].ctors k).length kcap) Fk) := HOk.out.below (fun x cs G hk h => KtO_mono _ _ x cs G hk h) hBu.out
     have HF2 := jj (ktk_succ xs[d].ctors k hlt)
     have HRUN := jj hrun
     have hbs2 : w8.heap.size + 1 ≤ (wc.setCell ⟨wr.heap.size, 1, none⟩ (.slice vA xs[d].ctors[k].args.length vcap)).heap.size := by have := hBu.out.size; omega
     clear hrun hod hrd hrw hrc hoc hgc hbc hKC hKCc ha1 ha2 hos hAB harg
     go_wp2_with (at_builtin; refine Halt.mk ?_)
     try rw [hwb]
     refine Halt.of (wpList_append_run rfl _ _ 136 rfl (by rfl) (by rfl) HRUN.out ?_)
     go_wp2_with (at_builtin; refine Halt.mk ?_)
     refine Halt.of (zA3 (P := Try.prog) rfl _ _ 95 rfl i0 _ 48 Try.underlying95 HI.out HZ0.out HZ1.out HZ2.out rfl (by decide) KtO_len KtO_mono (by rfl) HOA.out xs[d].ctors[k] 138 [.string xs[d].ctors[k].name, .slice vA xs[d].ctors[k].args.length vcap, .int .i64 xs[d].ctors[k].idx] (rowOf (.slice vA xs[d].ctors[k].args.length vcap)) wc.heap.size (by rfl) (by simp [World.setCell]) (by simp [Value.oneCell']) HKO.out (fun b hb => (HfsA.out b hb).2) (fun g hg hG => Nat.lt_irrefl _ (zz9 (HOk.out.row g hg).2 (HfsA.out g hG).1)) (by unfold maxLen; omega) (by omega) hbs2 ?_)
     intro g cp w7 hown7 hgr7 hat7
     have z71 : w7.cell? ⟨w8.heap.size, 1, none⟩ = some (.slice kA (ktk xs[d].ctors k).length kcap) := (World.cell?_of_block (a := ⟨w8.heap.size, 1, none⟩) (grow_old HOk.out hBu.out hgr7 (Nat.lt_succ_self _) hkz)).trans z1
     have zf71 : w7.frozen? ⟨w8.heap.size, 1, none⟩ = false := (World.frozen?_of_block (a := ⟨w8.heap.size, 1, none⟩) (grow_old HOk.out hBu.out hgr7 (Nat.lt_succ_self _) hkz)).trans zf1
     obtain ⟨r1, r2, r3, r4, r5, r6, r7⟩ := grow_round KtO_mono hw9s KD.out HOk.out HFk.out HFkh.out HCk.out hB hHD8 (zz8 _) hBu.out HfrA.out HfsA.out hown7 hgr7
     have R1 := jj r1
     have R2 := jj r2
     have R3 := jj r3
     have R4 := jj r4
     have R5 := jj r5
     have R6 := jj r6
     clear r1 r2 r3 r4 r5 r6 hown7 hgr7 hat7
     go_wp2
     go_roundw
     case rel => exact ⟨k + 1, _, _, hlt, by go_num, R1, by rw [HF2.out]; exact R2.out, R3, R4, R5, R6.out, r7⟩
     case measure => (simp [intOf] <;> omega)
    ·have HF2 := jj (dtk_succ xs d hdl)
     have hOr : Hid (Own wr w.heap.size 97 2 DtO (dtk xs d) u3 Fo) := Own.mono (w := w9) (fun x cs G hk h => DtO_mono _ _ x cs G hk h) HO9.out (HCk.out.kept (fun b hb => by have := HB8.out b hb; omega) (fun b hb => by have := HB8.out b hb; simp; omega)) HCk.out.size
     have hFrr : Hid (Free wr Fo) := HFr9.out.kept (HCk.out.kept (fun b hb => by have := HB8.out b (List.mem_append.2 (.inr hb)); omega) (fun b hb => by have := HB8.out b (List.mem_append.2 (.inr hb)); simp; omega))
     have hw18 : w1.heap.size ≤ w8.heap.size := hwr
     have hCr : Hid (Chg [w.heap.size] w1 wr) := HC9.out.trans_new HCk.out hw18
     have hka : ktk xs[d].ctors k = xs[d].ctors := ktk_all _ (by omega)
     have harr := HOk.out.arr
     have hfree := HOk.out.free HFk.out
     have hrk := HOk.out.row
     have hff : ∀ b ∈ (if ktk xs[d].ctors k = [] then [] else rowOf (.slice kA (ktk xs[d].ctors k).length kcap) ++ Fk), w8.heap.size + 1 ≤ b ∧ b < wr.heap.size := fun b hb => by
      split at hb
      ·cases hb
      ·rcases List.mem_append.1 hb with h | h
       ·exact hrk b h
       ·exact ⟨HFkh.out b h, HOk.out.under b h⟩
     generalize (if ktk xs[d].ctors k = [] then [] else rowOf (.slice kA (ktk xs[d].ctors k).length kcap) ++ Fk) = FF at harr hfree hff
     have HFF := jj hff
     have HFREE := jj hfree
     have HDX : Hid (DtO wr xs[d] [.string xs[d].name, .slice kA (ktk xs[d].ctors k).length kcap] FF) := ⟨_, rfl, by rw [hka] at harr ⊢; exact harr, hns⟩
     have hbs : w.heap.size ≤ wr.heap.size := hB.size
     clear harr hfree hrk hff HOk HFk HFkh HO9 HFr9 HC9 hka
     go_wp2_with (at_builtin; refine Halt.mk ?_)
     refine Halt.of (zA3 (P := Try.prog) rfl _ _ 30 rfl m0 _ 40 Try.underlying30 HM.out HM0.out HM1.out HM2.out rfl (by decide) DtO_len DtO_mono (by rfl) hOr.out xs[d] 97 [.string xs[d].name, .slice kA (ktk xs[d].ctors k).length kcap] FF _ (by rfl) rfl (by simp [Value.oneCell']) HDX.out (fun b hb => (HFF.out b hb).2) (fun g hg hG => by have h1 := HB8.out g (List.mem_append.2 (.inl hg)); have h2 := (HFF.out g hG).1; omega) (by unfold maxLen; omega) (by omega) hbs ?_)
     intro g cp w7 hown7 hgr7 hat7
     obtain ⟨r1, r2, r3, r4, r5, r6⟩ := push_round (n := (dtk xs d).length + 1) (cp := cp) hOr.out hFrr.out HFREE.out HB8.out HFF.out HR.out hCr.out hB (zz8 _) HFh.out hw18 hgr7 hat7
     have R1 := jj r1
     have R2 := jj r2
     have R4 := jj r4
     have R5 := jj r5
     have HO7 := jj hown7
     clear r1 r2 r3 r4 r5 hown7 hgr7 hat7
     go_wp2
     go_roundw
     case rel => exact ⟨d + 1, Fo ++ FF, hdl, by go_num, by rw [HF2.out]; exact HO7.out, R1, R2, R4, R5.out, r6⟩
     case measure => (simp [intOf] <;> omega)
  ·have hfin : Own wr w.heap.size 97 2 DtO xs u3 Fo := by
    have h := HO.out
    rw [dtk_all xs (by omega)] at h
    exact h
   have HFin := jj hfin
   clear hfin HO
   go_wp2
   go_ret
   exact ⟨_, Fo, rfl, hB, HFin.out, HFr.out, fun b hb => by have := HFh.out b hb; omega⟩
end Go.Proofs.Ytilndhmegaccmaa
