/-
  FnPatternVars: for every argument the law returns true. Conditions: none.
-/
import Derived.Test.YtilndhmegaccmaaKAJ
import Derived.Test.YtilndhmegaccmaaKAL
import Derived.Test.YtilndhmegaccmaaKAH
import Derived.Test.YtilndhmegaccmaaKAB
import Derived.Deep.RegionWith
import Derived.Deep.RegionHeld3
import Derived.BigQuiet
import Derived.Test.YtilndhmegaccmaaRows
import Derived.ProofKit
import Derived.OpenShut
import Derived.ShutString
import Derived.ChangeOld
import Derived.Below

set_option linter.unusedVariables false
set_option linter.unusedSimpArgs false
set_option maxRecDepth 100000
set_option maxHeartbeats 1600000

namespace Go.Proofs.Ytilndhmegaccmaa.fnPatternVars
open Go.RowKit
set_option maxHeartbeats 6400000 in
theorem walk {W : World} (x0 : List Int) (v0 : Value) (F0 : List Nat) (hR0 : Arr W (ByR W) x0 v0 F0) (hU0 : Under W.heap.size F0) (w : World) (hw : w = W) :
  Calls Try.prog 9 #[v0] w fun e w' => e = .returned (.bool true) ∧ Below w.heap.size w w' := by
 subst hw
 obtain ⟨A0, cap0, rfl, -, -⟩ := hR0.form
 have HR0 := jj hR0
 have HU0 := jj hU0
 clear hR0 hU0
 by_cases hlen : 1048576 < x0.length
 ·have t0 : decide ((x0.length : Int) > 1048576) = true := decide_eq_true (by omega)
  go_enter Try.func9, Try.ntmps9
  go_wp2
  go_ret
  exact ⟨rfl, zy2 _ _⟩
 have t0 : decide ((x0.length : Int) > 1048576) = false := decide_eq_false (by omega)
 go_enter Try.func9, Try.ntmps9
 go_wp2_with fail
 refine (spec_DrawPatternVars x0 w _ F0 HR0.out HU0.out).mono ?_
 rintro e w1 ⟨xs, v1, FX, t, a, csa, FA, rfl, hb1, hx, hfx, hpa, hfa, hna⟩
 obtain ⟨kva, rfl, haa⟩ := (zA4 _ _ _).1 hpa
 obtain ⟨aA, acap, rfl, -, -⟩ := haa.form
 obtain ⟨xA, xcap, rfl, -, -⟩ := hx.form
 have HSZ : Hid (a.size ≤ 1048576) := by unfold nodesP at hna; unfold Hid; omega
 have hb2 : Below w1.heap.size w1 ((w1.alloc (.cells #[.int .i64 t.d, .int .i64 t.i] 32)).alloc (.cells #[.int .i64 a.op, .int .i64 a.ct, .int .i64 a.n, .int .i64 a.m, .int .i64 a.va, .slice aA a.ks.length acap] 25)) := ((zy2 _ _).alloc (zz8 _) _).alloc (by simp) _
 have hB2 : Below w.heap.size w ((w1.alloc (.cells #[.int .i64 t.d, .int .i64 t.i] 32)).alloc (.cells #[.int .i64 a.op, .int .i64 a.ct, .int .i64 a.n, .int .i64 a.m, .int .i64 a.va, .slice aA a.ks.length acap] 25)) := hb1.trans (hb2.mono hb1.size)
 have KT2 : Hid (Blk ((w1.alloc (.cells #[.int .i64 t.d, .int .i64 t.i] 32)).alloc (.cells #[.int .i64 a.op, .int .i64 a.ct, .int .i64 a.n, .int .i64 a.m, .int .i64 a.va, .slice aA a.ks.length acap] 25)) w1.heap.size 32 #[.int .i64 t.d, .int .i64 t.i]) := (Blk.new w1 _ _).same (Below.heap_alloc _ _ _ (by simp))
 have KA2 : Hid (Blk ((w1.alloc (.cells #[.int .i64 t.d, .int .i64 t.i] 32)).alloc (.cells #[.int .i64 a.op, .int .i64 a.ct, .int .i64 a.n, .int .i64 a.m, .int .i64 a.va, .slice aA a.ks.length acap] 25)) (w1.heap.size + 1) 25 #[.int .i64 a.op, .int .i64 a.ct, .int .i64 a.n, .int .i64 a.m, .int .i64 a.va, .slice aA a.ks.length acap]) := zA8 w1 _ 25 _
 have HX2 := jj (ArrDt.below hx hb2 hfx.under)
 have UX2 : Hid (Under (((w1.alloc (.cells #[.int .i64 t.d, .int .i64 t.i] 32)).alloc (.cells #[.int .i64 a.op, .int .i64 a.ct, .int .i64 a.n, .int .i64 a.m, .int .i64 a.va, .slice aA a.ks.length acap] 25))).heap.size FX) := hfx.under.mono hb2.size
 have HA2 := jj (hpa.below hb2 hfa.under)
 have UA2 : Hid (Under (((w1.alloc (.cells #[.int .i64 t.d, .int .i64 t.i] 32)).alloc (.cells #[.int .i64 a.op, .int .i64 a.ct, .int .i64 a.n, .int .i64 a.m, .int .i64 a.va, .slice aA a.ks.length acap] 25))).heap.size FA) := hfa.under.mono hb2.size
 clear hx hfx hpa hfa hna haa hb1 hb2 HR0 HU0
 go_wp2_with fail
 obtain ⟨w2, hw2⟩ : ∃ X, X = ((w1.alloc (.cells #[.int .i64 t.d, .int .i64 t.i] 32)).alloc (.cells #[.int .i64 a.op, .int .i64 a.ct, .int .i64 a.n, .int .i64 a.m, .int .i64 a.va, .slice aA a.ks.length acap] 25)) := ⟨_, rfl⟩
 rw [← hw2] at hB2 KT2 KA2 HX2 UX2 HA2 UA2 ⊢
 clear hw2
 have cT0 : w2.cell? ⟨w1.heap.size, 0, none⟩ = some (.int .i64 t.d) := (KT2.out.cell 0).trans (by simp)
 have cT1 : w2.cell? ⟨w1.heap.size, 1, none⟩ = some (.int .i64 t.i) := (KT2.out.cell 1).trans (by simp)
 have lT := KT2.out.lt
 have cA0 : w2.cell? ⟨w1.heap.size + 1, 0, none⟩ = some (.int .i64 a.op) := (KA2.out.cell 0).trans (by simp)
 have cA1 : w2.cell? ⟨w1.heap.size + 1, 1, none⟩ = some (.int .i64 a.ct) := (KA2.out.cell 1).trans (by simp)
 have cA2 : w2.cell? ⟨w1.heap.size + 1, 2, none⟩ = some (.int .i64 a.n) := (KA2.out.cell 2).trans (by simp)
 have cA3 : w2.cell? ⟨w1.heap.size + 1, 3, none⟩ = some (.int .i64 a.m) := (KA2.out.cell 3).trans (by simp)
 have cA4 : w2.cell? ⟨w1.heap.size + 1, 4, none⟩ = some (.int .i64 a.va) := (KA2.out.cell 4).trans (by simp)
 have cA5 : w2.cell? ⟨w1.heap.size + 1, 5, none⟩ = some (.slice aA a.ks.length acap) := (KA2.out.cell 5).trans (by simp)
 have lA := KA2.out.lt
 go_wp2_with fail
 clear cT0 cT1 lT cA0 cA1 cA2 cA3 cA4 cA5 lA
 refine (impl_PatternVars xs t a w2 _ FX _ FA HX2.out UX2.out HA2.out UA2.out).mono ?_
 rintro e w3 ⟨vP, FP, rfl, hb3, hp3, -, hf3⟩
 have hlaw := vars_law (xs := xs) (t := t) (p := a)
 obtain ⟨vl, hvl⟩ : ∃ l, l = patternVarsL xs t a := ⟨_, rfl⟩
 rw [← hvl] at hp3 hlaw
 have HVL := jj hvl
 have HTV := jj hlaw.1
 have HND := jj hlaw.2
 clear hvl hlaw
 obtain ⟨vpA, vpc, rfl, hvm1, hvm2⟩ := hp3.form
 have hvm : vl.length ≤ 9223372036854775807 := by omega
 clear hvm1 hvm2
 have HP3 := jj hp3
 have UP3 := jj hf3.under
 clear hp3 hf3
 have hB3 := hB2.trans (hb3.mono hB2.size)
 have KT3 := jj (KT2.out.same (hb3.block _ KT2.out.lt))
 have KA3 := jj (KA2.out.same (hb3.block _ KA2.out.lt))
 have HX3 := jj (ArrDt.below HX2.out hb3 UX2.out)
 have UX3 := jj (UX2.out.mono hb3.size)
 have HA3 := jj (HA2.out.below hb3 UA2.out)
 have UA3 := jj (UA2.out.mono hb3.size)
 clear hB2 KT2 KA2 HX2 UX2 HA2 UA2 hb3
 have cT0 : w3.cell? ⟨w1.heap.size, 0, none⟩ = some (.int .i64 t.d) := (KT3.out.cell 0).trans (by simp)
 have cT1 : w3.cell? ⟨w1.heap.size, 1, none⟩ = some (.int .i64 t.i) := (KT3.out.cell 1).trans (by simp)
 have lT := KT3.out.lt
 have cA0 : w3.cell? ⟨w1.heap.size + 1, 0, none⟩ = some (.int .i64 a.op) := (KA3.out.cell 0).trans (by simp)
 have cA1 : w3.cell? ⟨w1.heap.size + 1, 1, none⟩ = some (.int .i64 a.ct) := (KA3.out.cell 1).trans (by simp)
 have cA2 : w3.cell? ⟨w1.heap.size + 1, 2, none⟩ = some (.int .i64 a.n) := (KA3.out.cell 2).trans (by simp)
 have cA3 : w3.cell? ⟨w1.heap.size + 1, 3, none⟩ = some (.int .i64 a.m) := (KA3.out.cell 3).trans (by simp)
 have cA4 : w3.cell? ⟨w1.heap.size + 1, 4, none⟩ = some (.int .i64 a.va) := (KA3.out.cell 4).trans (by simp)
 have cA5 : w3.cell? ⟨w1.heap.size + 1, 5, none⟩ = some (.slice aA a.ks.length acap) := (KA3.out.cell 5).trans (by simp)
 have lA := KA3.out.lt
 go_wp2_with fail
 clear cT0 cT1 lT cA0 cA1 cA2 cA3 cA4 cA5 lA
 refine (spec_PatternVars xs t a HSZ.out w3 _ FX _ FA HX3.out UX3.out HA3.out UA3.out).mono ?_
 rintro e w4 ⟨vS, FZ, rfl, hb4, hs4, -, hf4⟩
 rw [← HVL.out] at hs4
 obtain ⟨vsA, vsc, rfl, -, -⟩ := hs4.form
 have HS4 := jj hs4
 have US4 := jj hf4.under
 clear hs4 hf4
 have HP4 : Hid (Arr w4 (VtR w4) vl (.slice vpA vl.length vpc) FP) := HP3.out.mono (.of_below hb4 UP3.out) fun _ _ _ _ _ h => h
 have UP4 := jj (UP3.out.mono hb4.size)
 clear HP3 UP3
 have hB4 := hB3.trans (hb4.mono hB3.size)
 have KT4 := jj (KT3.out.same (hb4.block _ KT3.out.lt))
 have KA4 := jj (KA3.out.same (hb4.block _ KA3.out.lt))
 have HX4 := jj (ArrDt.below HX3.out hb4 UX3.out)
 have UX4 := jj (UX3.out.mono hb4.size)
 have HA4 := jj (HA3.out.below hb4 UA3.out)
 have UA4 := jj (UA3.out.mono hb4.size)
 clear hB3 KT3 KA3 HX3 UX3 HA3 UA3 hb4
 have hle : ((vl.length : Int) != (vl.length : Int)) = false := bne_self_eq_false _
 clear KT4 KA4 HA4 UA4
 go_wp2
 go_loopw [8] (fun iv wr => ∃ i : Nat, i ≤ vl.length ∧ iv = .int .i64 i ∧ Below w4.heap.size w4 wr) (fun iv _ => vl.length - (intOf iv).toNat)
 case atStart => exact ⟨0, Nat.zero_le _, rfl, zy2 _ _⟩
 case round =>
  obtain ⟨i, hi, rfl, hbr⟩ := hrel
  by_cases hlt : i < vl.length
  ·obtain ⟨bp, offp, rfl⟩ := HP4.out.ptr (by omega)
   obtain ⟨bs, offs, rfl⟩ := HS4.out.ptr (by omega)
   obtain ⟨hpb, p0, p1, p2⟩ := ArrVt.at HP4.out UP4.out hbr i hlt
   obtain ⟨hsb, s0, s1, s2⟩ := ArrVt.at HS4.out US4.out hbr i hlt
   have g1 : (0 : Int) ≤ (i : Int) := by omega
   have g2 : (i : Int) < (vl.length : Int) := by omega
   have g0 : decide (i < vl.length) = true := by simpa using hlt
   have HXr := jj (ArrDt.below HX4.out hbr UX4.out)
   have UXr := jj (UX4.out.mono hbr.size)
   have HTI : Hid (typeValidB xs vl[i].ty = true) := HTV.out _ (List.getElem_mem hlt)
   obtain ⟨vi, hvi⟩ : ∃ v, v = vl[i] := ⟨_, rfl⟩
   rw [← hvi] at p0 p1 p2 s0 s1 s2 HTI
   have HVI := jj hvi
   clear hvi
   go_wp2_with fail
   have HS : Hid (∀ C : World, Below wr.heap.size wr C → (C.cell? ⟨bp, offp + i * 3, none⟩ = some (.int .i64 vi.var) ∧ C.cell? ⟨bp, offp + i * 3 + 1, none⟩ = some (.int .i64 vi.ty.d) ∧ C.cell? ⟨bp, offp + i * 3 + 2, none⟩ = some (.int .i64 vi.ty.i) ∧ C.cell? ⟨bs, offs + i * 3, none⟩ = some (.int .i64 vi.var) ∧ C.cell? ⟨bs, offs + i * 3 + 1, none⟩ = some (.int .i64 vi.ty.d) ∧ C.cell? ⟨bs, offs + i * 3 + 2, none⟩ = some (.int .i64 vi.ty.i))) := fun C hb => ⟨(hb.cell (hpb)).trans p0, (hb.cell (hpb)).trans p1, (hb.cell (hpb)).trans p2, (hb.cell (hsb)).trans s0, (hb.cell (hsb)).trans s1, (hb.cell (hsb)).trans s2⟩
   have hC0 : Below wr.heap.size wr wr.drew := (zy2 _ _).drew
   refine zA7 (S := fun w' => w'.cell? ⟨bp, offp + i * 3, none⟩ = some (.int .i64 vi.var) ∧ w'.cell? ⟨bp, offp + i * 3 + 1, none⟩ = some (.int .i64 vi.ty.d) ∧ w'.cell? ⟨bp, offp + i * 3 + 2, none⟩ = some (.int .i64 vi.ty.i) ∧ w'.cell? ⟨bs, offs + i * 3, none⟩ = some (.int .i64 vi.var) ∧ w'.cell? ⟨bs, offs + i * 3 + 1, none⟩ = some (.int .i64 vi.ty.d) ∧ w'.cell? ⟨bs, offs + i * 3 + 2, none⟩ = some (.int .i64 vi.ty.i)) (T := fun _ => True) (d := 99) (by kernel_rfl) ?_
   obtain ⟨wd, hwd⟩ : ∃ X, X = wr.drew := ⟨_, rfl⟩
   rw [← hwd] at hC0  ⊢
   clear hwd
   have hS0 := HS.out _ hC0
   have hT0 : True := trivial
   refine wU (i := 0) (v := ?_) rfl (Or.inl ⟨by rfl, ?hy0⟩) hS0 (fun _ => hT0) ?_
   case hy0 => (intro W hSw; (try dsimp only at hSw); (try obtain ⟨hSw0, hSw1, hSw2, hSw3, hSw4, hSw5⟩ := hSw); go_simp; try with_reducible rfl)
   (try simp only [Act.put, zz1, zz2, zz3, zz4, zz5, zz6])
   refine wU (i := 1) (v := ?_) rfl (Or.inl ⟨by rfl, ?hy1⟩) hS0 (fun _ => hT0) ?_
   case hy1 => (intro W hSw; (try dsimp only at hSw); (try obtain ⟨hSw0, hSw1, hSw2, hSw3, hSw4, hSw5⟩ := hSw); go_simp; try with_reducible rfl)
   (try simp only [Act.put, zz1, zz2, zz3, zz4, zz5, zz6])
   refine wU (i := 2) (v := ?_) rfl (Or.inl ⟨by rfl, ?hy2⟩) hS0 (fun _ => hT0) ?_
   case hy2 => (intro W hSw; (try dsimp only at hSw); (try obtain ⟨hSw0, hSw1, hSw2, hSw3, hSw4, hSw5⟩ := hSw); go_simp; try with_reducible rfl)
   (try simp only [Act.put, zz1, zz2, zz3, zz4, zz5, zz6])
   refine wU (i := 3) (v := ?_) rfl (Or.inl ⟨by rfl, ?hy3⟩) hS0 (fun _ => hT0) ?_
   case hy3 => (intro W hSw; (try dsimp only at hSw); (try obtain ⟨hSw0, hSw1, hSw2, hSw3, hSw4, hSw5⟩ := hSw); go_simp; try with_reducible rfl)
   (try simp only [Act.put, zz1, zz2, zz3, zz4, zz5, zz6])
   refine wU (i := 4) (v := ?_) rfl (Or.inl ⟨by rfl, ?hy4⟩) hS0 (fun _ => hT0) ?_
   case hy4 => (intro W hSw; (try dsimp only at hSw); (try obtain ⟨hSw0, hSw1, hSw2, hSw3, hSw4, hSw5⟩ := hSw); go_simp; try with_reducible rfl)
   (try simp only [Act.put, zz1, zz2, zz3, zz4, zz5, zz6])
   refine wU (i := 5) (v := ?_) rfl (Or.inl ⟨by rfl, ?hy5⟩) hS0 (fun _ => hT0) ?_
   case hy5 => (intro W hSw; (try dsimp only at hSw); (try obtain ⟨hSw0, hSw1, hSw2, hSw3, hSw4, hSw5⟩ := hSw); go_simp; try with_reducible rfl)
   (try simp only [Act.put, zz1, zz2, zz3, zz4, zz5, zz6])
   refine wU (i := 6) (v := ?_) rfl (Or.inl ⟨by rfl, ?hy6⟩) hS0 (fun _ => hT0) ?_
   case hy6 => (intro W hSw; (try dsimp only at hSw); (try obtain ⟨hSw0, hSw1, hSw2, hSw3, hSw4, hSw5⟩ := hSw); go_simp; try with_reducible rfl)
   (try simp only [Act.put, zz1, zz2, zz3, zz4, zz5, zz6])
   refine wU (i := 7) (v := ?_) rfl (Or.inl ⟨by rfl, ?hy7⟩) hS0 (fun _ => hT0) ?_
   case hy7 => (intro W hSw; (try dsimp only at hSw); (try obtain ⟨hSw0, hSw1, hSw2, hSw3, hSw4, hSw5⟩ := hSw); go_simp; try with_reducible rfl)
   (try simp only [Act.put, zz1, zz2, zz3, zz4, zz5, zz6])
   refine wU (i := 8) (v := ?_) rfl (Or.inl ⟨by rfl, ?hy8⟩) hS0 (fun _ => hT0) ?_
   case hy8 => (intro W hSw; (try dsimp only at hSw); (try obtain ⟨hSw0, hSw1, hSw2, hSw3, hSw4, hSw5⟩ := hSw); go_simp; try with_reducible rfl)
   (try simp only [Act.put, zz1, zz2, zz3, zz4, zz5, zz6])
   refine wU (i := 9) (v := ?_) rfl (Or.inl ⟨by rfl, ?hy9⟩) hS0 (fun _ => hT0) ?_
   case hy9 => (intro W hSw; (try dsimp only at hSw); (try obtain ⟨hSw0, hSw1, hSw2, hSw3, hSw4, hSw5⟩ := hSw); go_simp; try with_reducible rfl)
   (try simp only [Act.put, zz1, zz2, zz3, zz4, zz5, zz6])
   refine wU (i := 10) (v := ?_) rfl (Or.inl ⟨by rfl, ?hy10⟩) hS0 (fun _ => hT0) ?_
   case hy10 => (intro W hSw; (try dsimp only at hSw); (try obtain ⟨hSw0, hSw1, hSw2, hSw3, hSw4, hSw5⟩ := hSw); go_simp; try with_reducible rfl)
   (try simp only [Act.put, zz1, zz2, zz3, zz4, zz5, zz6])
   refine wU (i := 11) (v := ?_) rfl (Or.inl ⟨by rfl, ?hy11⟩) hS0 (fun _ => hT0) ?_
   case hy11 => (intro W hSw; (try dsimp only at hSw); (try obtain ⟨hSw0, hSw1, hSw2, hSw3, hSw4, hSw5⟩ := hSw); go_simp; try with_reducible rfl)
   (try simp only [Act.put, zz1, zz2, zz3, zz4, zz5, zz6])
   refine wU (i := 12) (v := ?_) rfl (Or.inl ⟨by rfl, ?hy12⟩) hS0 (fun _ => hT0) ?_
   case hy12 => (intro W hSw; (try dsimp only at hSw); (try obtain ⟨hSw0, hSw1, hSw2, hSw3, hSw4, hSw5⟩ := hSw); go_simp; try with_reducible rfl)
   (try simp only [Act.put, zz1, zz2, zz3, zz4, zz5, zz6])
   refine wU (i := 13) (v := ?_) rfl (Or.inl ⟨by rfl, ?hy13⟩) hS0 (fun _ => hT0) ?_
   case hy13 => (intro W hSw; (try dsimp only at hSw); (try obtain ⟨hSw0, hSw1, hSw2, hSw3, hSw4, hSw5⟩ := hSw); go_simp; try with_reducible rfl)
   (try simp only [Act.put, zz1, zz2, zz3, zz4, zz5, zz6])
   refine wU (i := 14) (v := ?_) rfl (Or.inl ⟨by rfl, ?hy14⟩) hS0 (fun _ => hT0) ?_
   case hy14 => (intro W hSw; (try dsimp only at hSw); (try obtain ⟨hSw0, hSw1, hSw2, hSw3, hSw4, hSw5⟩ := hSw); go_simp; try with_reducible rfl)
   (try simp only [Act.put, zz1, zz2, zz3, zz4, zz5, zz6])
   refine wU (i := 15) (v := ?_) rfl (Or.inl ⟨by rfl, ?hy15⟩) hS0 (fun _ => hT0) ?_
   case hy15 => (intro W hSw; (try dsimp only at hSw); (try obtain ⟨hSw0, hSw1, hSw2, hSw3, hSw4, hSw5⟩ := hSw); go_simp; try with_reducible rfl)
   (try simp only [Act.put, zz1, zz2, zz3, zz4, zz5, zz6])
   have HXd := jj (ArrDt.below HXr.out hC0 UXr.out)
   have UXd := jj (UXr.out.mono hC0.size)
   refine wR (rs := [16]) (by kernel_rfl) (by simp) ?_
   refine AllReadyB.c rfl (fun K hK => ?_) AllReadyB.n
   go_simp
   go_at_call 39
   refine (impl_TypeValid xs vi.ty wd _ FX HXd.out UXd.out).mono ?_
   rintro e C9 ⟨rfl, hb9⟩
   have hC1 : Below wr.heap.size wr C9 := hC0.trans (hb9.mono hC0.size)
   have hS1 := HS.out _ hC1
   rw [HTI.out]
   (try dsimp only)
   refine hK.out _ _ hS1 (fun _ => trivial) ?_
   clear hK K
   (try simp only [Act.put, zz1, zz2, zz3, zz4, zz5, zz6])
   refine wU (i := 17) (v := ?_) rfl (Or.inl ⟨by rfl, ?hy17⟩) hS1 (fun _ => hT0) ?_
   case hy17 => (intro W hSw; (try dsimp only at hSw); (try obtain ⟨hSw0, hSw1, hSw2, hSw3, hSw4, hSw5⟩ := hSw); go_simp; try with_reducible rfl)
   (try simp only [Act.put, zz1, zz2, zz3, zz4, zz5, zz6])
   refine wU (i := 18) (v := ?_) rfl (Or.inl ⟨by rfl, ?hy18⟩) hS1 (fun _ => hT0) ?_
   case hy18 => (intro W hSw; (try dsimp only at hSw); (try obtain ⟨hSw0, hSw1, hSw2, hSw3, hSw4, hSw5⟩ := hSw); go_simp; try with_reducible rfl)
   (try simp only [Act.put, zz1, zz2, zz3, zz4, zz5, zz6])
   refine wE (by kernel_rfl) ?_
   clear hS0 hS1 hT0
   have hbr9 := hbr.trans (hC1.mono hbr.size)
   clear p0 p1 p2 s0 s1 s2 hpb hsb hC0 hC1 hbr HXr UXr HXd UXd hb9
   obtain ⟨wq, hwq⟩ : ∃ X, X = C9 := ⟨_, rfl⟩
   rw [← hwq] at hbr9 ⊢
   clear hwq
   go_wp2
   obtain ⟨wo, hwo⟩ : ∃ wo : World, wo = wq := ⟨_, rfl⟩
   go_loopw [9] (fun kv ws => ∃ k : Nat, k ≤ i ∧ kv = .int .i64 k ∧ Below w4.heap.size w4 ws) (fun kv _ => i - (intOf kv).toNat)
   case atStart => exact ⟨0, Nat.zero_le _, rfl, hbr9⟩
   case round =>
    clear hwo hbr9
    obtain ⟨k, hk, rfl, hbs⟩ := hrel
    by_cases hlk : k < i
    ·have hkl : k < vl.length := by omega
     obtain ⟨hpb, p0, -, -⟩ := ArrVt.at HP4.out UP4.out hbs i hlt
     obtain ⟨-, q0, -, -⟩ := ArrVt.at HP4.out UP4.out hbs k hkl
     have hne : (vl[k].var == vl[i].var) = false := beq_eq_false_iff_ne.2 (nodup_ne HND.out hlt hkl hlk)
     have g3 : (0 : Int) ≤ (k : Int) := by omega
     have g4 : (k : Int) < (vl.length : Int) := by omega
     generalize vl[k].var = x at hne q0
     generalize vl[i].var = y at hne p0
     go_wp2_with fail
     have HS : Hid (∀ C : World, Below wr.heap.size wr C → (C.cell? ⟨bp, offp + k * 3, none⟩ = some (.int .i64 x) ∧ C.cell? ⟨bp, offp + i * 3, none⟩ = some (.int .i64 y))) := fun C hb => ⟨(hb.cell (hpb)).trans q0, (hb.cell (hpb)).trans p0⟩
     have hC0 : Below wr.heap.size wr wr.drew := (zy2 _ _).drew
     refine zA7 (S := fun w' => w'.cell? ⟨bp, offp + k * 3, none⟩ = some (.int .i64 x) ∧ w'.cell? ⟨bp, offp + i * 3, none⟩ = some (.int .i64 y)) (T := fun _ => True) (d := 99) (by kernel_rfl) ?_
     obtain ⟨wd, hwd⟩ : ∃ X, X = wr.drew := ⟨_, rfl⟩
     rw [← hwd] at hC0  ⊢
     clear hwd
     have hS0 := HS.out _ hC0
     have hT0 : True := trivial
     refine wU (i := 0) (v := ?_) rfl (Or.inl ⟨by rfl, ?hy0⟩) hS0 (fun _ => hT0) ?_
     case hy0 => (intro W hSw; (try dsimp only at hSw); (try obtain ⟨hSw0, hSw1⟩ := hSw); go_simp; try with_reducible rfl)
     (try simp only [Act.put, zz1, zz2, zz3, zz4, zz5, zz6])
     refine wU (i := 1) (v := ?_) rfl (Or.inl ⟨by rfl, ?hy1⟩) hS0 (fun _ => hT0) ?_
     case hy1 => (intro W hSw; (try dsimp only at hSw); (try obtain ⟨hSw0, hSw1⟩ := hSw); go_simp; try with_reducible rfl)
     (try simp only [Act.put, zz1, zz2, zz3, zz4, zz5, zz6])
     refine wU (i := 2) (v := ?_) rfl (Or.inl ⟨by rfl, ?hy2⟩) hS0 (fun _ => hT0) ?_
     case hy2 => (intro W hSw; (try dsimp only at hSw); (try obtain ⟨hSw0, hSw1⟩ := hSw); go_simp; try with_reducible rfl)
     (try simp only [Act.put, zz1, zz2, zz3, zz4, zz5, zz6])
     refine wU (i := 3) (v := ?_) rfl (Or.inl ⟨by rfl, ?hy3⟩) hS0 (fun _ => hT0) ?_
     case hy3 => (intro W hSw; (try dsimp only at hSw); (try obtain ⟨hSw0, hSw1⟩ := hSw); go_simp; try with_reducible rfl)
     (try simp only [Act.put, zz1, zz2, zz3, zz4, zz5, zz6])
     refine wU (i := 4) (v := ?_) rfl (Or.inl ⟨by rfl, ?hy4⟩) hS0 (fun _ => hT0) ?_
     case hy4 => (intro W hSw; (try dsimp only at hSw); (try obtain ⟨hSw0, hSw1⟩ := hSw); go_simp; try with_reducible rfl)
     (try simp only [Act.put, zz1, zz2, zz3, zz4, zz5, zz6])
     refine wU (i := 5) (v := ?_) rfl (Or.inl ⟨by rfl, ?hy5⟩) hS0 (fun _ => hT0) ?_
     case hy5 => (intro W hSw; (try dsimp only at hSw); (try obtain ⟨hSw0, hSw1⟩ := hSw); go_simp; try with_reducible rfl)
     (try simp only [Act.put, zz1, zz2, zz3, zz4, zz5, zz6])
     refine wU (i := 6) (v := ?_) rfl (Or.inl ⟨by rfl, ?hy6⟩) hS0 (fun _ => hT0) ?_
     case hy6 => (intro W hSw; (try dsimp only at hSw); (try obtain ⟨hSw0, hSw1⟩ := hSw); go_simp; try with_reducible rfl)
     (try simp only [Act.put, zz1, zz2, zz3, zz4, zz5, zz6])
     refine wU (i := 7) (v := ?_) rfl (Or.inl ⟨by rfl, ?hy7⟩) hS0 (fun _ => hT0) ?_
     case hy7 => (intro W hSw; (try dsimp only at hSw); (try obtain ⟨hSw0, hSw1⟩ := hSw); go_simp; try with_reducible rfl)
     (try simp only [Act.put, zz1, zz2, zz3, zz4, zz5, zz6])
     refine wU (i := 8) (v := ?_) rfl (Or.inl ⟨by rfl, ?hy8⟩) hS0 (fun _ => hT0) ?_
     case hy8 => (intro W hSw; (try dsimp only at hSw); (try obtain ⟨hSw0, hSw1⟩ := hSw); go_simp; try with_reducible rfl)
     (try simp only [Act.put, zz1, zz2, zz3, zz4, zz5, zz6])
     refine wU (i := 9) (v := ?_) rfl (Or.inl ⟨by rfl, ?hy9⟩) hS0 (fun _ => hT0) ?_
     case hy9 => (intro W hSw; (try dsimp only at hSw); (try obtain ⟨hSw0, hSw1⟩ := hSw); go_simp; try with_reducible rfl)
     (try simp only [Act.put, zz1, zz2, zz3, zz4, zz5, zz6])
     refine wU (i := 10) (v := ?_) rfl (Or.inl ⟨by rfl, ?hy10⟩) hS0 (fun _ => hT0) ?_
     case hy10 => (intro W hSw; (try dsimp only at hSw); (try obtain ⟨hSw0, hSw1⟩ := hSw); go_simp; try with_reducible rfl)
     (try simp only [Act.put, zz1, zz2, zz3, zz4, zz5, zz6])
     refine wE (by kernel_rfl) ?_
     clear hS0 hT0
     have hbs9 := hbs.trans (hC0.mono hbs.size)
     clear p0 q0 hpb hC0
     go_wp2
     go_roundw
     case rel => exact ⟨k + 1, by omega, by go_num, hbs9⟩
     case measure => (simp [intOf] <;> omega)
    ·go_wp2
     go_roundw
     case rel => exact ⟨i + 1, by omega, by go_num, hbs⟩
     case measure => (simp [intOf] <;> omega)
  ·have hB9 := hB4.trans (hbr.mono hB4.size)
   go_wp2
   go_ret
   exact ⟨rfl, hB9⟩
end Go.Proofs.Ytilndhmegaccmaa.fnPatternVars
namespace Go.Proofs.Ytilndhmegaccmaa.fnPatternVars
open Go.ChangeShapes Go.WideShapes Go.ChangeAt Go.RowKit
open Go.ChangeMaps (open_string shut_string)
set_option linter.unusedVariables false

theorem own : ownKnob Try.prog.godebug = none := by kernel_rfl
theorem laidOut : laidOutB Try.prog = true := by kernel_rfl

set_option maxRecDepth 100000 in
theorem lifted (os : Os) (started : os.Started) (H : Type) (enc : TypeId × Value → H) :
    ReturnsInHanded {} Try.checked os 9 .any (Rows.fnPatternVarsSpec.pre6 enc Try.prog Try.f9 Rows.fnPatternVarsRow.domain false) (Rows.fnPatternVarsSpec.post enc Try.prog Try.f9 false true false false) := by
  refine returnsInHanded_of_change (C := Try.checked) own started (by kernel_rfl) Try.func9
    (ChangeSpec.witness6 (enc := enc) (C := Try.checked) false ⟨#[], #[.slice none 0 0], []⟩ 8 (by kernel_rfl) (by kernel_rfl) (by kernel_rfl) (by kernel_rfl)) ?_
  intro W base args ds gs before hval0 hW hcnd _
  have hval : ∀ (j : Nat) t v, Try.f9.params[j]? = some t → args[j]? = some v → Value.okWide Try.prog W .any base t v := hval0
  have hW' := hW
  obtain ⟨p, q, hA0, hV, rfl, hfz, hnd⟩ := hW
  have hA : DataW.TrodAll enc Try.prog W 0 (fun _ => true) true Try.f9.params.toList args.toList ds p := hA0
  rw [Try.params9] at hA hval
  obtain ⟨v0, vs0, d0, ds0, p0, q0, hargs, rfl, rfl, h0, r0⟩ := trodAll_cons hA
  obtain ⟨rfl, rfl, rfl⟩ := trodAll_nil r0
  obtain rfl : args = #[v0] := by cases args; simp_all
  obtain ⟨rfl, rfl⟩ := trodVars_none hV
  have k0 := h0
  have lt0 : ∀ x ∈ p0, x.block < W.heap.size := by obtain ⟨m, hm⟩ := k0; exact DataW.trod_lt m _ _ _ hm
  obtain ⟨x0, F0, hR0, hU0⟩ := open_Bytes (hval 0 22 v0 rfl rfl) h0
  clear hA0 hval0
  refine (walk x0 v0 F0 hR0 hU0 W rfl).mono fun e W' ⟨he, bel⟩ => ?_
  subst he
  exact ⟨_, rfl, _, _, _, [], _, [], hW', trodAll_mk1 (shut_bool Try.underlying4 _), (trodAll_cons_mk (Below.trod laidOut (by kernel_rfl) (of_decide_eq_true (by kernel_rfl)) k0 bel lt0) trodAll_mk0), rfl, bel.frame _, fun h => by cases h⟩

set_option maxHeartbeats 4000000 in
theorem closed : joinedFacts Try.pinned.checked.prog 9 Try.f9 Rows.fnPatternVarsSpec Rows.fnPatternVarsRow = true := by
  unfold joinedFacts
  have key : ∀ a b : Bool, a = true → b = true → (a && b) = true := fun a b h1 h2 => by rw [h1, h2]; rfl
  repeat' (with_reducible refine key _ _ ?_ ?_)
  all_goals as_aux_lemma => kernel_rfl

theorem over : Rows.fnPatternVarsRow.holds Try.pinned (OpenSpec.ofChange Rows.fnPatternVarsSpec) :=
  OpenClaim.holds_of_wide 9 Try.f9 rfl rfl rfl rfl rfl rfl rfl ⟨rfl, rfl, rfl, rfl, rfl⟩ rfl rfl rfl rfl rfl (by kernel_rfl) Try.func9 closed
    (of_decide_eq_true (by kernel_rfl)) (by unfold Func.isWrapper; first | (rw [if_pos (by decide +kernel)]; kernel_rfl) | (rw [if_neg (by decide +kernel)]; exact ⟨rfl, rfl⟩))
    (fun os started H enc _ => lifted os started H enc)

theorem proved : Rows.FnPatternVarsSaid := over
end Go.Proofs.Ytilndhmegaccmaa.fnPatternVars
