/-
  Lemmas and contracts of functions: A least value of a type: the walk of the program. Conditions: the world is valid, the type has values. The values of a type up to a depth, as the program lists them. Conditions: the world is valid, there are at most 400. A value of its own: the walk of ownValue. Conditions: no more than a million parts. ValuesUpTo of the program. Conditions: none. l2Count of the reference. Conditions: no more than two million nodes.
-/
import Derived.Test.YtilndhmegaccmaaKAE
import Derived.Test.YtilndhmegaccmaaKAF
import Derived.Test.YtilndhmegaccmaaKAC
import Derived.Test.YtilndhmegaccmaaKAD
import Derived.Deep.RegionWith
import Derived.Test.YtilndhmegaccmaaKAA
import Derived.Deep.RegionHeld3

set_option linter.unusedVariables false
set_option linter.unusedSimpArgs false

namespace Go.Proofs.Ytilndhmegaccmaa
open Go.RowKit

/-- a least constructor there is, and it is found -/
theorem least_find {xs : List Dt} (hw : WorldOK xs) {t : Ty} (ht : TyIn xs.length t) (hd : ¬ t.d = -1) (h : depthIn (tableL xs) t ≠ 0) : ∃ k, (ctorsL xs t).find? (isLeast xs t) = some k := by
  obtain ⟨k, hk, h1, h2⟩ := least_ex hw ht hd h
  have h3 := (least_le hw ht hk h1).2
  have hl : isLeast xs t k = true := by unfold isLeast; rw [beq_iff_eq]; omega
  cases hf : (ctorsL xs t).find? (isLeast xs t) with
  | some k' => exact ⟨k', rfl⟩
  | none =>
    rw [List.find?_eq_none] at hf
    exact absurd hl (hf k hk)

set_option maxRecDepth 100000 in
set_option maxHeartbeats 1600000 in
theorem impl_number (n : Int) (w : World) : Calls Try.prog 114 #[.int .i64 n] w fun e w' => e = .returned (.agg #[.int .i64 (-1), .int .i64 n, .slice none 0 0]) ∧ Below w.heap.size w w' := by
  have KR : Hid (Blk (w.alloc (.cells #[.int .i64 0, .int .i64 0, .slice none 0 0] 53)) w.heap.size 53 #[.int .i64 0, .int .i64 0, .slice none 0 0]) := Blk.new _ _ _
  have HB : Hid (Below w.heap.size w (w.alloc (.cells #[.int .i64 0, .int .i64 0, .slice none 0 0] 53))) := (Below.refl _ _).alloc (Nat.le_refl _) _
  go_enter Try.func114, Try.ntmps114
  go_wp2
  first
  | refine bodyPost_ret (results_cell_row rfl _ _ w.heap.size 53 #[.int .i64 (-1), .int .i64 n, .slice none 0 0] (0, 0) _ rfl (Blk.new _ _ _) Try.underlying53 rfl rfl) rfl ?_
    exact ⟨rfl, (Below.refl _ _).alloc (Nat.le_refl _) _⟩
  | refine bodyPost_ret (results_cell_row rfl _ _ w.heap.size 53 #[.int .i64 (-1), .int .i64 n, .slice none 0 0] (0, 0) _ rfl (KR.out.three _ _ _) Try.underlying53 rfl rfl) rfl ?_
    exact ⟨rfl, below_three HB.out (Nat.le_refl _) _ _ _⟩
set_option maxRecDepth 100000 in
set_option maxHeartbeats 1600000 in
theorem impl_least : ∀ (n : Nat), ∀ (xs : List Dt) (_ : WorldOK xs) (t : Ty) (_ : TyIn xs.length t) (_ : depthIn (tableL xs) t ≠ 0) (_ : depthIn (tableL xs) t ≤ ((n : Nat) : Int)) (_ : n ≤ 10) (w : World) (x : Value) (F : List Nat) (gd : Nat), Arr w (DtR w) xs x F → Under w.heap.size F → Tab w gd (tableL xs) →
    Calls Try.prog 124 #[x, .pointer (some ⟨gd, 0, none⟩), .agg #[.int .i64 t.d, .int .i64 t.i]] w (MadeVt (leastV xs n t) w) := by
  intro n
  induction n with
  | zero =>
    intro xs hw t ht h0 hn _
    exfalso
    have := (tableL_small hw).dep t
    simp only [Int.natCast_zero] at hn
    omega
  | succ n ih =>
    intro xs hw t ht h0 hn h10 w x F gd hx hf hy
    have IH := Lib.hid ih
    clear ih
    obtain ⟨A, cap, rfl, hc1, hc2⟩ := hx.form
    rcases id ht with hti | ⟨d, i, rfl, hd4, hi4⟩
    · have t0 : (t.d == -1) = true := by simp [hti]
      have HP := Lib.hid (leastV_int (xs := xs) (n := n) hti)
      have K0 : Hid (Blk ((w.alloc (.cells #[.int .i64 t.d, .int .i64 t.i] 32)).alloc (.cells #[.int .i64 0, .int .i64 0, .slice none 0 0] 53)) (w.heap.size + 1) 53 #[.int .i64 0, .int .i64 0, .slice none 0 0]) := blk_second w _ 53 _
      have HB0 : Hid (Below w.heap.size w ((w.alloc (.cells #[.int .i64 t.d, .int .i64 t.i] 32)).alloc (.cells #[.int .i64 0, .int .i64 0, .slice none 0 0] 53))) := ((Below.refl _ _).alloc (Nat.le_refl _) _).alloc (by simp) _
      clear hn h0 ht hti hx hf hy
      go_enter Try.func124, Try.ntmps124
      go_wp2_with fail
      obtain ⟨W2, hW2⟩ : ∃ W2, W2 = ((w.alloc (.cells #[.int .i64 t.d, .int .i64 t.i] 32)).alloc (.cells #[.int .i64 0, .int .i64 0, .slice none 0 0] 53)) := ⟨_, rfl⟩
      rw [← hW2] at K0 HB0 ⊢
      clear hW2
      refine (impl_number 0 W2).mono ?_
      rintro e w3 ⟨rfl, hb3⟩
      have KR := Lib.hid (K0.out.same (hb3.block _ K0.out.lt))
      have hB3 := HB0.out.trans (hb3.mono HB0.out.size)
      have rc0 := (KR.out.cell 0).trans (show _ = some (.int .i64 0) from by simp)
      have rf0 := KR.out.frozen 0
      have rc1 := (KR.out.cell 1).trans (show _ = some (.int .i64 0) from by simp)
      have rf1 := KR.out.frozen 1
      have rc2 := (KR.out.cell 2).trans (show _ = some (.slice none 0 0) from by simp)
      have rf2 := KR.out.frozen 2
      have rlt := KR.out.lt
      clear K0 HB0 hb3
      go_wp2
      clear rc0 rf0 rc1 rf1 rc2 rf2 rlt
      refine bodyPost_ret (results_cell_row rfl _ _ (w.heap.size + 1) 53 #[.int .i64 (-1), .int .i64 0, .slice none 0 0] (0, 0) _ rfl (KR.out.three _ _ _) Try.underlying53 rfl rfl) rfl ?_
      exact ⟨[.int .i64 (-1), .int .i64 0, .slice none 0 0], [], rfl, below_three hB3 (by omega) _ _ _, by rw [HP.out]; exact (VR_iff _ _ _).2 ⟨_, rfl, Arr.nil⟩, Free.nil _, Fresh.nil _ _⟩
    · have t0 : ((d : Int) == -1) = false := by rw [beq_eq_false_iff_ne]; omega
      have hdn : ¬ (⟨(d : Int), (i : Int)⟩ : Ty).d = -1 := by simp only; omega
      obtain ⟨kf, hkf⟩ := least_find hw ht hdn h0
      have HFI := Lib.hid hkf
      have HDN := Lib.hid hdn
      have HW := Lib.hid hw
      have HT := Lib.hid ht
      have H0 := Lib.hid h0
      have HN := Lib.hid hn
      have HX := Lib.hid hx
      have HF := Lib.hid hf
      have HY := Lib.hid hy
      clear hx hf hy
      clear hkf hdn hw ht h0 hn
      go_enter Try.func124, Try.ntmps124
      go_wp2_with fail
      obtain ⟨W2, hW2⟩ : ∃ W2, W2 = ((w.alloc (.cells #[.int .i64 (d : Int), .int .i64 (i : Int)] 32)).alloc (.cells #[.int .i64 0, .int .i64 0, .slice none 0 0] 53)) := ⟨_, rfl⟩
      have hB0 : Below w.heap.size w W2 := by rw [hW2]; exact ((Below.refl _ _).alloc (Nat.le_refl _) _).alloc (by simp) _
      have KT : Hid (Blk W2 w.heap.size 32 #[.int .i64 (d : Int), .int .i64 (i : Int)]) := by rw [hW2]; exact (Blk.new w _ _).same (Below.heap_alloc _ _ _ (by simp))
      have KR : Hid (Blk W2 (w.heap.size + 1) 53 #[.int .i64 0, .int .i64 0, .slice none 0 0]) := by rw [hW2]; exact blk_second w _ _ _
      rw [← hW2]
      clear hW2
      have y0 : W2.cell? ⟨w.heap.size, 0, none⟩ = some (.int .i64 (d : Int)) := (KT.out.cell 0).trans (by simp)
      have y1 : W2.cell? ⟨w.heap.size, 1, none⟩ = some (.int .i64 (i : Int)) := (KT.out.cell 1).trans (by simp)
      have ylt := KT.out.lt
      go_wp2_with fail
      refine (impl_ctorsOf xs ⟨(d : Int), (i : Int)⟩ W2 _ F (ArrDt.below HX.out hB0 HF.out) (HF.out.mono hB0.size) HW.out HT.out.inWorld).mono ?_
      rintro e w3 ⟨v3, F3, rfl, hb3, ha3, -, hfs3⟩
      have hB3 := hB0.trans (hb3.mono hB0.size)
      have KT3 := Lib.hid (KT.out.same (hb3.block _ KT.out.lt))
      have KR3 := Lib.hid (KR.out.same (hb3.block _ KR.out.lt))
      have HA3 := Lib.hid ha3
      have HU3 := Lib.hid hfs3.under
      have HL3 := Lib.hid (fun b hb => (hfs3 b hb).1)
      have hW2s := hB0.size
      obtain ⟨C3, cap3, rfl, hl1, hl2⟩ := ha3.form
      clear ha3 hfs3 hb3 KT KR y0 y1 ylt hB0
      go_wp2
      go_loopw [20] (fun iv wr => ∃ j : Nat, j ≤ (ctorsL xs ⟨(d : Int), (i : Int)⟩).length ∧ iv = .int .i64 j ∧ Hid (((ctorsL xs ⟨(d : Int), (i : Int)⟩).drop j).find? (isLeast xs ⟨(d : Int), (i : Int)⟩) = some kf) ∧ Hid (Below w3.heap.size w3 wr)) (fun iv _ => (ctorsL xs ⟨(d : Int), (i : Int)⟩).length - (intOf iv).toNat)
      case atStart => exact ⟨0, Nat.zero_le _, rfl, HFI.out, Below.refl _ _⟩
      case round =>
        obtain ⟨j, hj, rfl, HFJ, HBJ⟩ := hrel
        obtain ⟨wo, hwo⟩ : ∃ wo, wo = wr := ⟨_, rfl⟩
        rw [← hwo] at HBJ ⊢
        clear hwo
        have hB := hB3.trans (HBJ.out.mono hB3.size)
        have KTo := Lib.hid (KT3.out.same (HBJ.out.block _ KT3.out.lt))
        have y0 : wo.cell? ⟨w.heap.size, 0, none⟩ = some (.int .i64 (d : Int)) := (KTo.out.cell 0).trans (by simp)
        have y1 : wo.cell? ⟨w.heap.size, 1, none⟩ = some (.int .i64 (i : Int)) := (KTo.out.cell 1).trans (by simp)
        have ylt := KTo.out.lt
        by_cases hjl : j < (ctorsL xs ⟨(d : Int), (i : Int)⟩).length
        · have g1 : (0 : Int) ≤ (j : Int) := by omega
          have g2 : (j : Int) < ((ctorsL xs ⟨(d : Int), (i : Int)⟩).length : Int) := by omega
          obtain ⟨b3, off3, rfl⟩ := HA3.out.ptr (by omega)
          obtain ⟨hb3l, c3⟩ := ArrNat.at HA3.out HU3.out HBJ.out j hjl
          have hmj := find_step (p := isLeast xs ⟨(d : Int), (i : Int)⟩) hjl
          obtain ⟨d', m, e1, hkm, hd', hm⟩ := mem_ctorsL HT.out.inWorld (List.getElem_mem hjl)
          obtain rfl : d = d' := Int.ofNat.inj e1
          have hme : (ctorsL xs ⟨(d : Int), (i : Int)⟩)[j] ∈ (ctorsL xs ⟨(d : Int), (i : Int)⟩) := List.getElem_mem hjl
          rw [hkm] at hmj c3
          rw [hkm] at hme
          have HMJ := Lib.hid hmj
          have HME := Lib.hid hme
          have HIL : Hid (isLeast xs ⟨(d : Int), (i : Int)⟩ (m : Int) = (mostIn xs (tableL xs) ⟨(d : Int), (i : Int)⟩ (m : Int) == depthIn (tableL xs) ⟨(d : Int), (i : Int)⟩)) := rfl
          have HKJ := Lib.hid hkm
          clear hkm e1 hmj hme
          go_wp2_with fail
          have hkeep : ∀ U U' : World, (U.cell? ⟨w.heap.size, 0, none⟩ = some (.int .i64 (d : Int)) ∧ U.cell? ⟨w.heap.size, 1, none⟩ = some (.int .i64 (i : Int))) → Below U.heap.size U U' → wo.heap.size ≤ U.heap.size → (U'.cell? ⟨w.heap.size, 0, none⟩ = some (.int .i64 (d : Int)) ∧ U'.cell? ⟨w.heap.size, 1, none⟩ = some (.int .i64 (i : Int))) := fun U U' h hUU hU => ⟨(hUU.cell (Nat.lt_of_lt_of_le (ylt) hU)).trans h.1, (hUU.cell (Nat.lt_of_lt_of_le (ylt) hU)).trans h.2⟩
          have HKeep := Lib.hid hkeep
          clear hkeep
          go_region_held3 (fun w' => w'.cell? ⟨w.heap.size, 0, none⟩ = some (.int .i64 (d : Int)) ∧ w'.cell? ⟨w.heap.size, 1, none⟩ = some (.int .i64 (i : Int))) (first | assumption | (exact ⟨y0, y1⟩) | (exact HKeep.out wo.drew w5 ⟨y0, y1⟩ hb5 (Nat.le_refl _)) | (exact HKeep.out w5 w6 (by assumption) hb6 hlew5)) (first | (go_at_call 123; ((with_reducible refine (impl_ofCtor xs HW.out (tableL xs) (tableL_small HW.out) d i m hd4 hi4 hm _ _ F gd (ArrDt.below HX.out hB.drew HF.out) (HF.out.mono hB.drew.size) (HY.out.same (hB.drew.block _ HY.out.lt))).mono ?_); rintro e w5 ⟨rfl, hb5⟩); have hB5 := hB.drew.trans (hb5.mono hB.size); have hlew5 : wo.heap.size ≤ w5.heap.size := hb5.size) | (go_at_call 80; ((with_reducible refine (impl_of xs.length HW.out.len (tableL xs) (tableL_small HW.out) ⟨(d : Int), (i : Int)⟩ HT.out _ gd (HY.out.same (hB5.block _ HY.out.lt))).mono ?_); rintro e w6 ⟨rfl, hb6⟩)))
          have hb56 := hb5.trans (hb6.mono hb5.size)
          have hB6 := hB.drew.trans (hb56.mono hB.size)
          have HB36 : Hid (Below w3.heap.size w3 w6) := HBJ.out.trans ((below_undrew hb56).mono HBJ.out.size)
          have KT6 := Lib.hid (KTo.out.same ((below_undrew hb56).block _ KTo.out.lt))
          clear hb5 hb6 hB5 y0 y1 ylt c3 hb3l hb56 KTo
          cases hq : (mostIn xs (tableL xs) ⟨(d : Int), (i : Int)⟩ (m : Int) == depthIn (tableL xs) ⟨(d : Int), (i : Int)⟩) with
          | false =>
            have hne : (mostIn xs (tableL xs) ⟨(d : Int), (i : Int)⟩ (m : Int) != depthIn (tableL xs) ⟨(d : Int), (i : Int)⟩) = true := by unfold bne; rw [hq]; rfl
            have HF2 : Hid (((ctorsL xs ⟨(d : Int), (i : Int)⟩).drop (j + 1)).find? (isLeast xs ⟨(d : Int), (i : Int)⟩) = some kf) := by
              have h1 := HFJ.out
              rw [HMJ.out, HIL.out, hq, if_neg (by simp)] at h1
              exact h1
            generalize mostIn xs (tableL xs) ⟨(d : Int), (i : Int)⟩ (m : Int) = mo at *
            generalize depthIn (tableL xs) ⟨(d : Int), (i : Int)⟩ = de at *
            clear hq
            go_wp2
            go_roundw
            case rel => exact ⟨j + 1, hjl, by go_num, HF2, HB36⟩
            case measure => (simp [intOf] <;> omega)
          | true =>
            have hne : (mostIn xs (tableL xs) ⟨(d : Int), (i : Int)⟩ (m : Int) != depthIn (tableL xs) ⟨(d : Int), (i : Int)⟩) = false := by unfold bne; rw [hq]; rfl
            have hkf : kf = (m : Int) := by
              have h1 := HFJ.out
              rw [HMJ.out, HIL.out, hq, if_pos rfl] at h1
              exact (Option.some.inj h1).symm
            subst hkf
            have HP := Lib.hid (leastV_some (n := n) HDN.out HFI.out)
            have hal := argsOf_get (i := (i : Int)) hd4 hm
            have HAL : Hid (∀ a ∈ argsL xs[d].ctors[m] (i : Int), TyIn xs.length a ∧ depthIn (tableL xs) a ≠ 0 ∧ depthIn (tableL xs) a ≤ ((n : Nat) : Int)) := fun a ha => by
              have h1 := least_args HW.out HT.out HME.out (HIL.out.trans hq) H0.out (a := a) (by rw [hal]; exact ha)
              have h2 := HN.out
              exact ⟨h1.1, h1.2.1, by push_cast at h2; omega⟩
            have hl3 : (argsL xs[d].ctors[m] (i : Int)).length ≤ 3 := by rw [argsL_len]; exact (HW.out.ctor hd4 hm).args
            rw [hal] at HP
            have hca := (HW.out.ctor hd4 hm).args
            clear hq hal
            generalize mostIn xs (tableL xs) ⟨(d : Int), (i : Int)⟩ (m : Int) = mo at *
            generalize depthIn (tableL xs) ⟨(d : Int), (i : Int)⟩ = de at *
            have y0 : w6.cell? ⟨w.heap.size, 0, none⟩ = some (.int .i64 (d : Int)) := (KT6.out.cell 0).trans (by simp)
            have y1 : w6.cell? ⟨w.heap.size, 1, none⟩ = some (.int .i64 (i : Int)) := (KT6.out.cell 1).trans (by simp)
            have ylt := KT6.out.lt
            go_wp2_with fail
            clear y0 y1 ylt
            have hD0 := hB6.size
            obtain ⟨wn, hwn⟩ : ∃ wn, wn = w6.alloc (.cells #[.int .i64 (m : Int), .int .i64 0, .slice none 0 0] 53) := ⟨_, rfl⟩
            have hbn : Below w6.heap.size w6 wn := by rw [hwn]; exact (Below.refl _ _).alloc (Nat.le_refl _) _
            have KN : Hid (Blk wn w6.heap.size 53 #[.int .i64 (m : Int), .int .i64 0, .slice none 0 0]) := by rw [hwn]; exact Blk.new _ _ _
            rw [← hwn]
            clear hwn
            obtain ⟨D, hD⟩ : ∃ D, D = w6.heap.size := ⟨_, rfl⟩
            rw [← hD] at KN hbn hD0 ⊢
            have hBn := hB6.trans (hbn.mono hD0)
            have KTn := Lib.hid (KT6.out.same (hbn.block _ (by rw [hD]; exact KT6.out.lt)))
            have HB3n : Hid (Below w3.heap.size w3 wn) := HB36.out.trans (hbn.mono (by rw [hD]; exact HB36.out.size))
            have h3D : w3.heap.size ≤ D := by rw [hD]; exact HB36.out.size
            clear hbn HB36 hB6 KT6 hD
            have y0 : wn.cell? ⟨w.heap.size, 0, none⟩ = some (.int .i64 (d : Int)) := (KTn.out.cell 0).trans (by simp)
            have y1 : wn.cell? ⟨w.heap.size, 1, none⟩ = some (.int .i64 (i : Int)) := (KTn.out.cell 1).trans (by simp)
            have ylt := KTn.out.lt
            refine (impl_argTypes xs d m (i : Int) hd4 hm wn _ F (ArrDt.below HX.out hBn HF.out) (HF.out.mono hBn.size) hca).mono ?_
            rintro e w9 ⟨v7, F7, rfl, hb7, ha7, -, hfs7⟩
            have hB9 := hBn.trans (hb7.mono hBn.size)
            have hb7u := hb7
            have KN9 := Lib.hid (KN.out.same (hb7u.block _ KN.out.lt))
            have KR9 := Lib.hid (KR3.out.same ((HB3n.out.trans (hb7u.mono HB3n.out.size)).block _ KR3.out.lt))
            have HA7 := Lib.hid ha7
            have HU7 := Lib.hid hfs7.under
            have HL7 : Hid (∀ b ∈ F7, D < b) := fun b hb => Nat.lt_of_lt_of_le KN.out.lt (hfs7 b hb).1
            have hDw : D < w9.heap.size := KN9.out.lt
            have hk3 := KR3.out.lt
            obtain ⟨C7, cap7, rfl, hl71, hl72⟩ := ha7.form
            obtain ⟨Bz, hBz⟩ : ∃ B, B = w9.heap.size := ⟨_, rfl⟩
            have HBZ := Lib.hid hBz
            have hDB : D < Bz := by rw [hBz]; exact hDw
            have hzB : w.heap.size ≤ D := by omega
            obtain ⟨i0, hi, hz0, hz1, hz2⟩ := info_parts info_VE
            have HI := Lib.hid hi
            have HZ0 := Lib.hid hz0
            have HZ1 := Lib.hid hz1
            have HZ2 := Lib.hid hz2
            clear hi hz0 hz1 hz2
            clear ha7 hfs7 hb7 hb7u KN hBn y0 y1 ylt KTn hBz HB3n hB
            generalize (argsL xs[d].ctors[m] (i : Int)) = ls at *
            go_wp2
            go_loopw [40] (fun iv wr => ∃ q : Nat, ∃ kv : Value, ∃ Fk : List Nat, q ≤ ls.length ∧ iv = .int .i64 q ∧ Hid (Blk wr D 53 #[.int .i64 (m : Int), .int .i64 0, kv]) ∧ Hid (Own wr Bz 53 3 VR (leastTo xs n ls q) kv Fk) ∧ Hid (Free wr Fk) ∧ Hid (∀ b ∈ Fk, Bz ≤ b) ∧ Hid (Chg [D] w9 wr) ∧ Below w.heap.size w wr ∧ w9.heap.size ≤ wr.heap.size) (fun iv _ => ls.length - (intOf iv).toNat)
            case atStart => exact ⟨0, _, [], Nat.zero_le _, rfl, KN9, (show Own _ _ _ _ _ (leastTo xs n ls 0) _ _ from Own.nil _ _ _ _ _), Free.nil _, (fun b hb => by cases hb), Chg.refl _ _, hB9, Nat.le_refl _⟩
            case round =>
              clear hB9 KN9
              obtain ⟨q, kv, Fk, hql, rfl, KD, HO, HFk, HFh, HC, hB, hws⟩ := hrel
              obtain ⟨kA, kcap, hkv, hkc1, hkc2⟩ := HO.out.form
              subst hkv
              have klt := KD.out.lt
              have HA7r : Hid (Arr wr (TyR wr) ls (.slice C7 ls.length cap7) F7) := HA7.out.mono (HC.out.kept HU7.out (fun b hb h => by rw [List.mem_singleton] at h; have := HL7.out b hb; omega)) (fun y _ cs G _ h => h)
              have HU7r : Hid (Under wr.heap.size F7) := HU7.out.mono HC.out.size
              by_cases hil : q < ls.length
              · have g1 : (0 : Int) ≤ (q : Int) := by omega
                have g2 : (q : Int) < (ls.length : Int) := by omega
                obtain ⟨b7, off7, rfl⟩ := HA7r.out.ptr (by omega)
                have hb7z : D < b7 ∧ b7 < Bz := by
                  obtain ⟨_, _, _, _, e, hb, -⟩ := HA7r.out.get TyR_len hil
                  cases e
                  exact ⟨HL7.out _ hb, by have := HU7.out _ hb; rw [HBZ.out]; exact this⟩
                obtain ⟨hb7w, k0, k1⟩ := ArrTy.at HA7r.out HU7r.out (Below.refl _ _) q hil
                have hkk := leastTo_len xs n ls q
                have ha := HAL.out ls[q] (List.getElem_mem hil)
                have HSM := Lib.hid (leastV_small HW.out (show n ≤ 10 by omega) ha.1)
                have HA1 := Lib.hid ha
                clear ha
                obtain ⟨aq, haq⟩ : ∃ a, a = ls[q] := ⟨_, rfl⟩
                have HF2 := Lib.hid (leastTo_succ xs n ls q hil)
                rw [← haq] at HSM HA1 HF2 k0 k1
                clear haq
                have hmx : (leastTo xs n ls q).length + 1 ≤ maxLen := by unfold maxLen; omega
                have hby : ((leastTo xs n ls q).length + 1) * 40 ≤ 140737488355328 := by omega
                go_wp2_with fail
                obtain ⟨wk, hwk⟩ : ∃ wk, wk = wr.alloc (.cells #[.int .i64 aq.d, .int .i64 aq.i] 32) := ⟨_, rfl⟩
                have hBk : Below wr.heap.size wr wk := by rw [hwk]; exact (Below.refl _ _).alloc (Nat.le_refl _) _
                have KK : Blk wk wr.heap.size 32 #[.int .i64 aq.d, .int .i64 aq.i] := by rw [hwk]; exact Blk.new _ _ _
                rw [← hwk]
                clear hwk
                have z0 : wk.cell? ⟨wr.heap.size, 0, none⟩ = some (.int .i64 aq.d) := (KK.cell 0).trans (by simp)
                have z1 : wk.cell? ⟨wr.heap.size, 1, none⟩ = some (.int .i64 aq.i) := (KK.cell 1).trans (by simp)
                have KDk := KD.out.same (hBk.block _ KD.out.lt)
                have zT : wk.drew.cell? ⟨D, 2, none⟩ = some (.slice kA (leastTo xs n ls q).length kcap) := (KDk.cell 2).trans (by simp)
                have zfT : wk.drew.frozen? ⟨D, 2, none⟩ = false := KDk.frozen 2
                have kklt : wr.heap.size < wk.drew.heap.size := KK.lt
                have hkT : D < wk.drew.heap.size := KDk.lt
                clear KK KDk k0 k1
                have HBk := Lib.hid hBk.drew
                have hBk2 := hB.trans (HBk.out.mono hB.size)
                clear hBk
                have HCALL := Lib.hid (IH.out xs HW.out aq HA1.out.1 HA1.out.2.1 HA1.out.2.2 (by omega) wk.drew _ F gd (ArrDt.below HX.out hBk2 HF.out) (HF.out.mono hBk2.size) (HY.out.same (hBk2.block _ HY.out.lt)))
                refine wp_region_B (S := fun w' => w'.cell? ⟨wr.heap.size, 0, none⟩ = some (.int .i64 aq.d) ∧ w'.cell? ⟨wr.heap.size, 1, none⟩ = some (.int .i64 aq.i)) (T := fun w' => w'.cell? ⟨D, 2, none⟩ = some (.slice kA (leastTo xs n ls q).length kcap)) (d := 7) (by kernel_rfl) ?_
                have hS1 : wk.drew.cell? ⟨wr.heap.size, 0, none⟩ = some (.int .i64 aq.d) ∧ wk.drew.cell? ⟨wr.heap.size, 1, none⟩ = some (.int .i64 aq.i) := ⟨z0, z1⟩
                have hT1 : wk.drew.cell? ⟨D, 2, none⟩ = some (.slice kA (leastTo xs n ls q).length kcap) := zT
                refine wpAnyB_take (i := 0) (v := ?_) rfl (by decide) (by kernel_rfl) (by kernel_rfl) (by kernel_rfl) (fun _ _ _ h => h) (Or.inl ⟨by rfl, ?hy0⟩) hS1 (fun _ => hT1) ?_
                case hy0 => (intro W hSw; (try dsimp only at hSw); (obtain ⟨s0, s1⟩ := hSw); go_simp; try with_reducible rfl)
                (try simp only [Act.put, List.setIfInBounds_toArray, List.set_cons_zero, List.set_cons_succ])
                refine wpAnyB_takeB (i := 1) (v := ?_) rfl (by decide) rfl (by kernel_rfl) (by kernel_rfl) (by kernel_rfl) (by kernel_rfl) (fun _ _ _ h => h) (Or.inl ⟨by rfl, ?hy1⟩) (by rfl) hS1 hT1 ?_
                case hy1 => (intro W hSw; (try dsimp only at hSw); (obtain ⟨⟨s0, s1⟩, tT⟩ := hSw); go_simp; try with_reducible rfl)
                (try simp only [Act.put, List.setIfInBounds_toArray, List.set_cons_zero, List.set_cons_succ])
                refine wpAnyB_take (i := 2) (v := ?_) rfl (by decide) (by kernel_rfl) (by kernel_rfl) (by kernel_rfl) (fun _ _ _ h => h) (Or.inl ⟨by rfl, ?hy2⟩) hS1 (fun _ => hT1) ?_
                case hy2 => (intro W hSw; (try dsimp only at hSw); (obtain ⟨s0, s1⟩ := hSw); go_simp; try with_reducible rfl)
                (try simp only [Act.put, List.setIfInBounds_toArray, List.set_cons_zero, List.set_cons_succ])
                refine wpAnyB_take (i := 3) (v := ?_) rfl (by decide) (by kernel_rfl) (by kernel_rfl) (by kernel_rfl) (fun _ _ _ h => h) (Or.inl ⟨by rfl, ?hy3⟩) hS1 (fun _ => hT1) ?_
                case hy3 => (intro W hSw; (try dsimp only at hSw); (obtain ⟨s0, s1⟩ := hSw); go_simp; try with_reducible rfl)
                (try simp only [Act.put, List.setIfInBounds_toArray, List.set_cons_zero, List.set_cons_succ])
                refine wpAnyB_take (i := 4) (v := ?_) rfl (by decide) (by kernel_rfl) (by kernel_rfl) (by kernel_rfl) (fun _ _ _ h => h) (Or.inl ⟨by rfl, ?hy4⟩) hS1 (fun _ => hT1) ?_
                case hy4 => (intro W hSw; (try dsimp only at hSw); (obtain ⟨s0, s1⟩ := hSw); go_simp; try with_reducible rfl)
                (try simp only [Act.put, List.setIfInBounds_toArray, List.set_cons_zero, List.set_cons_succ])
                refine wpAnyB_ready (rs := [5]) (by kernel_rfl) (by simp) ?_
                refine AllReadyB.cons rfl (fun K hK => ?_) AllReadyB.nil
                go_simp
                go_at_call 124
                with_reducible refine HCALL.out.mono ?_
                rintro e wA ⟨csA, FA, rfl, hbA, hpA, hfrA, hfsA⟩
                obtain ⟨kvA, rfl, haA⟩ := (VR_iff _ _ _).1 hpA
                obtain ⟨A8, cap8, rfl, -, -⟩ := haA.form
                clear haA
                have HBu := Lib.hid (HBk.out.trans (hbA.mono HBk.out.size))
                have HPA := Lib.hid hpA
                have HFrA := Lib.hid hfrA
                have HFsA : Hid (∀ b ∈ FA, wr.heap.size ≤ b ∧ b < wA.heap.size) := fun b hb => ⟨Nat.le_trans HBk.out.size (hfsA b hb).1, (hfsA b hb).2⟩
                have HOA : Hid (Own wA Bz 53 3 VR (leastTo xs n ls q) (.slice kA (leastTo xs n ls q).length kcap) Fk) := HO.out.below (fun x cs G hk h => VR_mono' _ _ x cs G hk h) HBu.out
                have hbs : Bz ≤ wA.heap.size := by have h1 := HBu.out.size; have h2 := HBZ.out; omega
                have n7D : D < Bz := hDB
                have hSA : wA.cell? ⟨wr.heap.size, 0, none⟩ = some (.int .i64 aq.d) ∧ wA.cell? ⟨wr.heap.size, 1, none⟩ = some (.int .i64 aq.i) := ⟨(hbA.cell (p := ⟨wr.heap.size, 0, none⟩) kklt).trans z0, (hbA.cell (p := ⟨wr.heap.size, 1, none⟩) kklt).trans z1⟩
                have zA : wA.cell? ⟨D, 2, none⟩ = some (.slice kA (leastTo xs n ls q).length kcap) := (hbA.cell (p := ⟨D, 2, none⟩) hkT).trans zT
                have zfA : wA.frozen? ⟨D, 2, none⟩ = false := (hbA.frozen hkT).trans zfT
                have hkA : D < wA.heap.size := Nat.lt_of_lt_of_le hkT hbA.size
                have kl0 : wr.heap.size < wA.heap.size := Nat.lt_of_lt_of_le kklt hbA.size
                have kl1 : wr.heap.size < wA.heap.size := Nat.lt_of_lt_of_le kklt hbA.size
                have hSB : (wA.alloc (.cells [.int .i64 (leastV xs n aq).c, .int .i64 (leastV xs n aq).n, .slice A8 (leastV xs n aq).ks.length cap8].toArray 53)).cell? ⟨wr.heap.size, 0, none⟩ = some (.int .i64 aq.d) ∧ (wA.alloc (.cells [.int .i64 (leastV xs n aq).c, .int .i64 (leastV xs n aq).n, .slice A8 (leastV xs n aq).ks.length cap8].toArray 53)).cell? ⟨wr.heap.size, 1, none⟩ = some (.int .i64 aq.i) := ⟨(World.cell?_alloc_lt _ _ _ kl0).trans hSA.1, (World.cell?_alloc_lt _ _ _ kl1).trans hSA.2⟩
                dsimp only
                refine hK.out _ _ hSA (fun _ => zA) ?_
                clear hK K
                (try simp only [Act.put, List.setIfInBounds_toArray, List.set_cons_zero, List.set_cons_succ])
                refine wpAnyB_ready (rs := [6]) (by kernel_rfl) (by simp) ?_
                refine AllReadyB.cons rfl (fun K hK => ?_) AllReadyB.nil
                go_simp
                refine hK.out _ _ hSB (fun _ => (World.cell?_alloc_lt _ _ _ hkA).trans zA) ?_
                clear hK K
                (try simp only [Act.put, List.setIfInBounds_toArray, List.set_cons_zero, List.set_cons_succ])
                refine wpAnyB_ready (rs := [7]) (by kernel_rfl) (by simp) ?_
                refine AllReadyB.cons rfl (fun K hK => ?_) AllReadyB.nil
                refine step_push1 (P := Try.prog) rfl _ _ 39 rfl i0 _ 40 Try.underlying39 HI.out HZ0.out HZ1.out HZ2.out rfl (by decide) VR_len' VR_mono' (by rfl) HOA.out (leastV xs n aq) 53 [.int .i64 (leastV xs n aq).c, .int .i64 (leastV xs n aq).n, .slice A8 (leastV xs n aq).ks.length cap8] FA wA.heap.size (by rfl) rfl (by simp [Value.oneCell']) HPA.out (fun b hb => (HFsA.out b hb).2) (fun g hg hG => Nat.lt_irrefl _ (Nat.lt_of_lt_of_le (HO.out.row g hg).2 (HFsA.out g hG).1)) hmx hby hbs ?_
                intro g cp w7 hown7 hgr7 hat7
                have hrow7 := HOA.out.row
                have n7 : ∀ x, (x < Bz ∨ wr.heap.size ≤ x) → some x ≠ (Value.ownBlock (.slice kA (leastTo xs n ls q).length kcap)) := fun x hx e => by
                  have h1 := (hrow7 x (mem_rowOf.2 e.symm)).1
                  have h2 := (HO.out.row x (mem_rowOf.2 e.symm)).2
                  omega
                have l7 : wA.heap.size ≤ (wA.alloc (.cells [.int .i64 (leastV xs n aq).c, .int .i64 (leastV xs n aq).n, .slice A8 (leastV xs n aq).ks.length cap8].toArray 53)).heap.size := by rw [World.size_alloc]; exact Nat.le_succ _
                have s7 : w7.cell? ⟨wr.heap.size, 0, none⟩ = some (.int .i64 aq.d) ∧ w7.cell? ⟨wr.heap.size, 1, none⟩ = some (.int .i64 aq.i) := ⟨(World.grownBy.cell_far hgr7 ⟨wr.heap.size, 0, none⟩ (Nat.lt_of_lt_of_le kl0 l7) (n7 (wr.heap.size) (by omega))).trans hSB.1, (World.grownBy.cell_far hgr7 ⟨wr.heap.size, 1, none⟩ (Nat.lt_of_lt_of_le kl1 l7) (n7 (wr.heap.size) (by omega))).trans hSB.2⟩
                have z71 : w7.cell? ⟨D, 2, none⟩ = some (.slice kA (leastTo xs n ls q).length kcap) := (World.grownBy.cell_far hgr7 ⟨D, 2, none⟩ (Nat.lt_of_lt_of_le hkA l7) (n7 (D) (by omega))).trans ((World.cell?_alloc_lt _ _ _ hkA).trans zA)
                have zf71 : w7.frozen? ⟨D, 2, none⟩ = false := (World.grownBy.frozen_far hgr7 ⟨D, 2, none⟩ (Nat.lt_of_lt_of_le hkA l7) (n7 (D) (by omega))).trans (Eq.trans (World.frozen?_of_block (Below.heap_alloc _ _ _ hkA)) zfA)
                refine hK.out _ _ s7 (fun h => by cases h) ?_
                clear hK K
                (try simp only [Act.put, List.setIfInBounds_toArray, List.set_cons_zero, List.set_cons_succ])
                refine wpAnyB_take (i := 8) (v := ?_) rfl (by decide) (by kernel_rfl) (by kernel_rfl) (by kernel_rfl) (fun _ _ _ h => h) (Or.inl ⟨by rfl, ?hy8⟩) s7 (fun h => by cases h) ?_
                case hy8 => (intro W hSw; (try dsimp only at hSw); (obtain ⟨s0, s1⟩ := hSw); go_simp; try with_reducible rfl)
                (try simp only [Act.put, List.setIfInBounds_toArray, List.set_cons_zero, List.set_cons_succ])
                refine wpAnyB_ready (rs := [9]) (by kernel_rfl) (by simp) ?_
                refine AllReadyB.cons rfl (fun K hK => ?_) AllReadyB.nil
                go_simp
                refine hK.out _ _ ⟨(World.cell?_setCell_far _ _ _ _ (by show D ≠ wr.heap.size; omega)).trans s7.1, (World.cell?_setCell_far _ _ _ _ (by show D ≠ wr.heap.size; omega)).trans s7.2⟩ (fun h => by cases h) ?_
                clear hK K
                (try simp only [Act.put, List.setIfInBounds_toArray, List.set_cons_zero, List.set_cons_succ])
                refine wpAnyB_end (by kernel_rfl) ?_
                obtain ⟨r1, r2, r3, r4, r5, r6, r7⟩ := kid_round2 (w := w) 2 VR_mono' HBZ.out.symm hDB KD.out HO.out HFk.out HFh.out HC.out hB hzB (Nat.le_refl _) HBu.out HFrA.out HFsA.out hown7 hgr7
                have R1 := Lib.hid r1
                have R2 := Lib.hid r2
                have R3 := Lib.hid r3
                have R4 := Lib.hid r4
                have R5 := Lib.hid r5
                have R6 := Lib.hid r6
                clear r1 r2 r3 r4 r5 r6 hown7 hgr7 hat7 hrow7 n7 l7 s7 z71 zf71 hSA zA zfA hkA hSB hS1 hT1 zT zfT hkT HCALL
                go_wp2
                go_roundw
                case rel => exact ⟨q + 1, _, _, hil, by go_num, R1, by rw [HF2.out]; exact R2.out, R3, R4, R5, R6.out, r7⟩
                case measure => (simp [intOf] <;> omega)
              · have HO2 := HO.out
                rw [leastTo_all xs n ls (by omega)] at HO2
                have hln := congrArg List.length (leastTo_all xs n ls (i := q) (by omega))
                obtain ⟨FF, hf1, hf2, hf3⟩ := kid_done (H := Bz) HO2 HFk.out HFh.out (Nat.le_refl _)
                have HF1 := Lib.hid hf1
                have HF2 := Lib.hid hf2
                have HF3 := Lib.hid hf3
                have e0 := (KD.out.cell 0).trans (show _ = some (.int .i64 (m : Int)) from by simp)
                have e1 := (KD.out.cell 1).trans (show _ = some (.int .i64 0) from by simp)
                have e2 := (KD.out.cell 2).trans (show _ = some (.slice kA (leastTo xs n ls q).length kcap) from by simp)
                have HLN := Lib.hid hln
                have RR := Lib.hid (KR9.out.same (HC.out.block _ KR9.out.lt (by rw [List.mem_singleton]; omega)))
                have rc0 := (RR.out.cell 0).trans (show _ = some (.int .i64 0) from by simp)
                have rf0 := RR.out.frozen 0
                have rc1 := (RR.out.cell 1).trans (show _ = some (.int .i64 0) from by simp)
                have rf1 := RR.out.frozen 1
                have rc2 := (RR.out.cell 2).trans (show _ = some (.slice none 0 0) from by simp)
                have rf2 := RR.out.frozen 2
                have rlt := RR.out.lt
                clear hf1 hf2 hf3 HO2 hln
                go_wp2
                clear e0 e1 e2 rc0 rf0 rc1 rf1 rc2 rf2 rlt
                refine bodyPost_ret (results_cell_row rfl _ _ (w.heap.size + 1) 53 #[.int .i64 (m : Int), .int .i64 0, .slice kA (leastTo xs n ls q).length kcap] (0, 0) _ rfl (RR.out.three _ _ _) Try.underlying53 rfl rfl) rfl ?_
                have hkp : Kept FF wr _ := kept_three (w := wr) (H := w.heap.size + 1) (fun b hb => by have := (HF3.out b hb).1; omega) (.int .i64 (m : Int)) (.int .i64 0) (.slice kA (leastTo xs n ls q).length kcap)
                refine ⟨[.int .i64 (m : Int), .int .i64 0, .slice kA (leastTo xs n ls q).length kcap], FF, rfl, below_three hB (by omega) _ _ _, ?_, HF2.out.kept hkp, fun b hb => ⟨by have := (HF3.out b hb).1; omega, ?_⟩⟩
                · rw [HP.out]
                  exact (VR_iff _ _ _).2 ⟨_, rfl, ArrV.mono (by rw [HLN.out]; exact HF1.out) hkp⟩
                · rw [size_three]; exact (HF3.out b hb).2
        · exfalso
          have h1 := HFJ.out
          rw [find_end (by omega)] at h1
          cases h1
end Go.Proofs.Ytilndhmegaccmaa

namespace Go.Proofs.Ytilndhmegaccmaa
open Go.RowKit

/-- a list of values that a call gives; its elements may share what they lead to -/
def ValsP (vs : List V) (w : World) (e : Ending) (w' : World) : Prop := ∃ v F, e = .returned v ∧ Below w.heap.size w w' ∧ Arr w' (VR w') vs v F ∧ Fresh w w' F
theorem Own.under_arr {w : World} {B : Nat} {E : TypeId} {vs : List V} {v : Value} {F : List Nat} (h : Own w B E 3 VR vs v F) : Under w.heap.size (if vs = [] then [] else rowOf v ++ F) := by
  by_cases hx : vs = []
  · rw [if_pos hx]; exact Under.nil _
  · rw [if_neg hx]
    intro b hb
    rcases List.mem_append.1 hb with hb | hb
    · exact (h.row b hb).2
    · exact h.under b hb
theorem Own.vals {w w' : World} {B : Nat} {E : TypeId} {vs : List V} {v : Value} {F : List Nat} (h : Own w' B E 3 VR vs v F) (hb : Below w.heap.size w w') (hB : w.heap.size ≤ B) (hF : ∀ b ∈ F, w.heap.size ≤ b) : ValsP vs w (.returned v) w' := ⟨v, _, rfl, hb, h.arr, h.fresh hB hF⟩
def moreTo (pre : List V) (c : Int) (v : V) (kids : List V) (q : Nat) : List V := pre ++ growK c v (kids.take q)
theorem moreTo_zero (pre : List V) (c : Int) (v : V) (kids : List V) : moreTo pre c v kids 0 = pre := by unfold moreTo growK; simp
theorem moreTo_succ (pre : List V) (c : Int) (v : V) (kids : List V) (q : Nat) (h : q < kids.length) : moreTo pre c v kids (q + 1) = moreTo pre c v kids q ++ [⟨c, 0, v.ks ++ [kids[q]]⟩] := by unfold moreTo; rw [growK_succ c v kids q h, List.append_assoc]
theorem moreTo_len (pre : List V) (c : Int) (v : V) (kids : List V) (q : Nat) : (moreTo pre c v kids q).length ≤ pre.length + q := by unfold moreTo; rw [List.length_append, growK_len, List.length_take]; omega
theorem moreTo_all (pre : List V) (c : Int) (v : V) (kids : List V) {q : Nat} (h : kids.length ≤ q) : moreTo pre c v kids q = pre ++ growK c v kids := by unfold moreTo; rw [List.take_of_length_le h]
theorem numV_R (w : World) (k : Nat) : VR w (numV k) [.int .i64 (-1), .int .i64 (k : Int), .slice none 0 0] [] := (VR_iff _ _ _).2 ⟨_, rfl, Arr.nil⟩
/-- one element, which lies in a block of its own -/
theorem step_pushB {α : Type} {w : World} {B k : Nat} {E : TypeId} {R : World → α → List Value → List Nat → Prop} {xs : List α} {v : Value} {F : List Nat} {P : Program} {ops : Array Oper} {o : Oper} {a : Act} {K : Act → World → Prop} {Q : Exit → Act → World → Prop} {EE : Prop} (hgd : o.guard = none) (s x : Operand) (t : TypeId)
    (ho : o.op = .call { callee := .builtin .append, args := #[s, x], argTypes := #[t, t] })
    (i : TypeInfo) (z : Value) (bytes : Nat) (ht : P.underlying t = some (.slice E)) (hi : P.info? E = some i) (hz : i.zero = some z)
    (hsize : i.size = k) (hby : i.bytes = bytes) (hzs : z.cells.size = k) (hk : 0 < k)
    (hRl : ∀ w x cs G, R w x cs G → cs.length = k) (hRm : ∀ w w' x cs G, Kept G w w' → R w x cs G → R w' x cs G)
    (hs : a.eval s = v) (hown : Own w B E k R xs v F) (y : α) (T : TypeId) (news : List Value) (G : List Nat)
    (H : Nat) (hx : a.eval x = .slice (some ⟨H, 0, none⟩) 1 1) (hH : Blk w H T news.toArray) (h1 : ∀ u ∈ news, u.oneCell' = true)
    (hy : R w y news G) (hG : Under w.heap.size G) (hvG : ∀ g ∈ rowOf v, g ∉ G)
    (h63 : xs.length + 1 ≤ maxLen) (hbytes : (xs.length + 1) * bytes ≤ 140737488355328) (hbase : B ≤ w.heap.size)
    (h : ∀ g cap w', Own w' B E k R (xs ++ [y]) (.slice (some ⟨g, 0, none⟩) (xs.length + 1) cap) (F ++ G) → w.grownBy w' v.ownBlock → (v.ownBlock = some g ∨ g = w.heap.size) →
      K (a.put o.dst (.slice (some ⟨g, 0, none⟩) (xs.length + 1) cap)) w') : if Region.wanted o (yielded ops a.tmps) = true then Oper.wp P o a w K Q else EE :=
  step_push hgd s x t ho i z bytes ht hi hz hsize hby hzs hk (hRl _) (fun w' => hRm _ w') hs hown [y] ⟨H, 0, none⟩ 1 news G hx (fun j u hj => by
      rw [Addr.add_lit, Nat.zero_add, hH.cell]
      simpa using hj) h1 (Flat.one hy) hG hvG Nat.zero_lt_one h63 hbytes hbase
    (fun g cap w' h2 h3 h4 => h g cap w' h2 h3 h4)
/-- facts on one constructor's block -/
structure BlkF (xs : List Dt) (d : Nat) (c : Int) (ls : List Ty) (bl : List V) : Prop where
  none : noneB xs d ls = true → bl = []
  arg : noneB xs d ls = false → ∀ j, (argTo xs d c ls j).length ≤ bl.length
  kid : noneB xs d ls = false → ∀ j (h : j < ls.length), (valsL xs d ls[j]).length ≤ bl.length
  all : argTo xs d c ls ls.length = bl
theorem BlkF.of (xs : List Dt) (d : Nat) (t : Ty) (c : Int) : BlkF xs d c (argsOf xs t c) (blockL xs d t c) := ⟨blockL_none, fun h j => argTo_le h j, fun h j hj => kid_le h hj, argTo_all xs d t c (Nat.le_refl _)⟩
set_option maxRecDepth 100000 in
set_option maxHeartbeats 6400000 in
theorem impl_values : ∀ (d : Nat), ∀ (xs : List Dt) (_ : WorldOK xs) (t : Ty) (_ : TyIn xs.length t) (_ : d ≤ 10) (_ : (valsL xs d t).length ≤ 400) (w : World) (x : Value) (F : List Nat), Arr w (DtR w) xs x F → Under w.heap.size F →
    Calls Try.prog 66 #[x, .agg #[.int .i64 t.d, .int .i64 t.i], .int .i64 ((d : Nat) : Int)] w (ValsP (valsL xs d t) w) := by
  intro d
  induction d with
  | zero =>
    intro xs hw t ht hd hn w x F hx hf
    have hB0 : Below w.heap.size w (((w.alloc (.cells #[x] 30)).alloc (.cells #[.int .i64 t.d, .int .i64 t.i] 32)).alloc (.cells #[.int .i64 0] 3)) := (((Below.refl _ _).alloc (Nat.le_refl _) _).alloc (by simp) _).alloc (by simp; omega) _
    obtain ⟨A, cap, rfl, hc1, hc2⟩ := hx.form
    clear hw ht hd hx hf hn
    go_enter Try.func66, Try.ntmps66
    go_wp2
    go_ret
    exact ⟨_, [], rfl, hB0, Arr.nil, Fresh.nil _ _⟩
  | succ d ih =>
    intro xs hw t ht hd hn w x F hx hf
    have IH := Lib.hid ih
    obtain ⟨A, cap, rfl, hc1, hc2⟩ := hx.form
    have hde : ((d + 1 : Nat) : Int) = (d : Int) + 1 := by omega
    have e0 : (((d : Int) + 1) == 0) = false := by rw [beq_eq_false_iff_ne]; omega
    obtain ⟨i0, hi, hz0, hz1, hz2⟩ := info_parts info_VE
    have HI := Lib.hid hi
    have HZ0 := Lib.hid hz0
    have HZ1 := Lib.hid hz1
    have HZ2 := Lib.hid hz2
    clear hi hz0 hz1 hz2
    rw [hde]
    clear ih hde
    rcases id ht with hti | ⟨q, r, rfl, hql, hrl⟩
    · have t0 : (t.d == -1) = true := by simp [hti]
      have HP := Lib.hid (valsL_int (xs := xs) (d := d) hti)
      have hB0x : Below w.heap.size w (((w.alloc (.cells #[.slice A xs.length cap] 30)).alloc (.cells #[.int .i64 t.d, .int .i64 t.i] 32)).alloc (.cells #[.int .i64 ((d : Int) + 1)] 3)) := (((Below.refl _ _).alloc (Nat.le_refl _) _).alloc (by simp) _).alloc (by simp; omega) _
      clear hw ht hti hx hf hd hn
      go_enter Try.func66, Try.ntmps66
      go_wp2_with fail
      obtain ⟨W2, hW2⟩ : ∃ W2, W2 = (((w.alloc (.cells #[.slice A xs.length cap] 30)).alloc (.cells #[.int .i64 t.d, .int .i64 t.i] 32)).alloc (.cells #[.int .i64 ((d : Int) + 1)] 3)) := ⟨_, rfl⟩
      rw [← hW2] at hB0x ⊢
      clear hW2
      go_loopw [7, 26] (fun ov iv wr => ∃ k : Nat, ∃ Fo : List Nat, k ≤ 10 ∧ iv = .int .i64 k ∧ Hid (Own wr W2.heap.size 53 3 VR (numsL k) ov Fo) ∧ Hid (∀ b ∈ Fo, w.heap.size ≤ b) ∧ Below W2.heap.size W2 wr) (fun _ iv _ => 10 - (intOf iv).toNat)
      case atStart => exact ⟨0, [], by omega, rfl, (show Own _ _ _ _ _ (numsL 0) _ _ from Own.nil _ _ _ _ _), (fun b hb => by cases hb), Below.refl _ _⟩
      case round =>
        obtain ⟨k, Fo, hk, rfl, HO, HFo, hB⟩ := hrel
        obtain ⟨oA, ocap, hov, -, -⟩ := HO.out.form
        subst hov
        have hkl := numsL_len k
        have hBw := hB0x.trans (hB.mono hB0x.size)
        have hol : (numsL k).length ≤ 10 := by omega
        have HKL := Lib.hid hkl
        clear hkl
        by_cases hk9 : k < 10
        · have g1 : (k : Int) < 10 := by omega
          go_wp2_with fail
          refine (impl_number (k : Int) wr).mono ?_
          rintro e w5 ⟨rfl, hb5⟩
          have HO5 := Lib.hid (HO.out.below (fun x cs G hk h => VR_mono' _ _ x cs G hk h) hb5)
          have hB5 := hB.trans (hb5.mono hB.size)
          have HS := Lib.hid (numsL_succ k)
          have hbs := hB5.size
          clear hb5
          go_wp2_with (at_builtin; refine Halt.mk ?_)
          refine Halt.of (wpList_push1 (P := Try.prog) rfl _ _ 39 rfl i0 _ 40 Try.underlying39 HI.out HZ0.out HZ1.out HZ2.out rfl (by decide) VR_len' VR_mono' (by rfl) HO5.out (numV k) 53 [.int .i64 (-1), .int .i64 (k : Int), .slice none 0 0] [] _ (by rfl) (by simp) (by simp [Value.oneCell']) (numV_R _ k) (Under.nil _) (fun _ _ h => by cases h) (by unfold maxLen; omega) (by omega) hbs ?_)
          intro g cp w7 hown7 hgr7 hat7
          have hrow := HO5.out.row
          have hB7 : Below W2.heap.size W2 w7 := (hB5.alloc hB5.size _).grown hgr7 (by have := hB5.size; simp; omega) (fun g hg => (hrow g (mem_rowOf.2 hg)).1)
          have HO7 := Lib.hid hown7
          clear hown7 hgr7 hat7 hrow
          go_wp2
          go_roundw
          case rel => exact ⟨k + 1, _, by omega, by go_num, (by rw [HS.out]; exact HO7.out), (fun b hb => by rw [List.append_nil] at hb; exact HFo.out b hb), hB7⟩
          case measure => (simp [intOf] <;> omega)
        · have hk10 : k = 10 := by omega
          subst hk10
          have HFin : Hid (ValsP (valsL xs (d + 1) t) w (.returned (.slice oA (numsL 10).length ocap)) wr) := by rw [HP.out]; exact HO.out.vals hBw hB0x.size HFo.out
          clear HKL hol
          go_wp2
          go_ret
          exact HFin.out
    · have t0 : ((q : Int) == -1) = false := by rw [beq_eq_false_iff_ne]; omega
      have hdn : ¬ (⟨(q : Int), (r : Int)⟩ : Ty).d = -1 := by simp only; omega
      have HDN := Lib.hid hdn
      have HW := Lib.hid hw
      have HT := Lib.hid ht
      have HN := Lib.hid hn
      have HX := Lib.hid hx
      have HF := Lib.hid hf
      clear hx hf
      clear hw ht hdn hn
      go_enter Try.func66, Try.ntmps66
      go_wp2_with fail
      obtain ⟨W2, hW2⟩ : ∃ W2, W2 = (((w.alloc (.cells #[.slice A xs.length cap] 30)).alloc (.cells #[.int .i64 (q : Int), .int .i64 (r : Int)] 32)).alloc (.cells #[.int .i64 ((d : Int) + 1)] 3)) := ⟨_, rfl⟩
      have hB0 : Below w.heap.size w W2 := by rw [hW2]; exact (((Below.refl _ _).alloc (Nat.le_refl _) _).alloc (by simp) _).alloc (by simp; omega) _
      have KX : Hid (Blk W2 w.heap.size 30 #[.slice A xs.length cap]) := by rw [hW2]; exact ((Blk.new w _ _).same (Below.heap_alloc _ _ _ (by simp))).same (Below.heap_alloc _ _ _ (by simp; omega))
      have KT : Hid (Blk W2 (w.heap.size + 1) 32 #[.int .i64 (q : Int), .int .i64 (r : Int)]) := by rw [hW2]; exact (blk_second w _ 32 _).same (Below.heap_alloc _ _ _ (by simp))
      have KD : Hid (Blk W2 (w.heap.size + 1 + 1) 3 #[.int .i64 ((d : Int) + 1)]) := by
        rw [hW2]
        have h := blk_second (w.alloc (.cells #[.slice A xs.length cap] 30)) (.cells #[.int .i64 (q : Int), .int .i64 (r : Int)] 32) 3 #[.int .i64 ((d : Int) + 1)]
        rw [World.size_alloc] at h
        exact h
      rw [← hW2]
      clear hW2
      have y0 : W2.cell? ⟨w.heap.size, 0, none⟩ = some (.slice A xs.length cap) := (KX.out.cell 0).trans (by simp)
      have y1 : W2.cell? ⟨w.heap.size + 1, 0, none⟩ = some (.int .i64 (q : Int)) := (KT.out.cell 0).trans (by simp)
      have y2 : W2.cell? ⟨w.heap.size + 1, 1, none⟩ = some (.int .i64 (r : Int)) := (KT.out.cell 1).trans (by simp)
      have y3 : W2.cell? ⟨w.heap.size + 1 + 1, 0, none⟩ = some (.int .i64 ((d : Int) + 1)) := (KD.out.cell 0).trans (by simp)
      have yl0 := KX.out.lt
      have yl1 := KT.out.lt
      have yl2 := KD.out.lt
      go_wp2_with fail
      refine (impl_ctorsOf xs (⟨(q : Int), (r : Int)⟩ : Ty) W2 _ F (ArrDt.below HX.out hB0 HF.out) (HF.out.mono hB0.size) HW.out HT.out.inWorld).mono ?_
      rintro e w3 ⟨v3, F3, rfl, hb3, ha3, -, hfs3⟩
      have hB3 := hB0.trans (hb3.mono hB0.size)
      have KX3 := Lib.hid (KX.out.same (hb3.block _ KX.out.lt))
      have KT3 := Lib.hid (KT.out.same (hb3.block _ KT.out.lt))
      have KD3 := Lib.hid (KD.out.same (hb3.block _ KD.out.lt))
      have HA3 := Lib.hid ha3
      have HU3 := Lib.hid hfs3.under
      obtain ⟨C3, cap3, rfl, hl1, hl2⟩ := ha3.form
      clear ha3 hfs3 hb3 KX KT KD hB0
      clear y0 y1 y2 y3 yl0 yl1 yl2
      go_wp2
      go_loopw [7, 40] (fun ov iv wr => ∃ i : Nat, ∃ Fo : List Nat, i ≤ (ctorsL xs (⟨(q : Int), (r : Int)⟩ : Ty)).length ∧ iv = .int .i64 i ∧ Hid (Own wr w3.heap.size 53 3 VR (valsTo xs d (⟨(q : Int), (r : Int)⟩ : Ty) i) ov Fo) ∧ Hid (∀ b ∈ Fo, w.heap.size ≤ b) ∧ Hid (Below w3.heap.size w3 wr)) (fun _ iv _ => (ctorsL xs (⟨(q : Int), (r : Int)⟩ : Ty)).length - (intOf iv).toNat)
      case atStart => exact ⟨0, [], Nat.zero_le _, rfl, (show Own _ _ _ _ _ (valsTo xs d (⟨(q : Int), (r : Int)⟩ : Ty) 0) _ _ from Own.nil _ _ _ _ _), (fun b hb => by cases hb), Below.refl _ _⟩
      case round =>
        obtain ⟨i, Fo, hi, rfl, HO, HFo, HBI⟩ := hrel
        obtain ⟨oA, ocap, hov, -, -⟩ := HO.out.form
        subst hov
        have hvl := valsTo_len (xs := xs) (d := d) (t := (⟨(q : Int), (r : Int)⟩ : Ty)) HDN.out i
        have hn4 := HN.out
        have hol : (valsTo xs d (⟨(q : Int), (r : Int)⟩ : Ty) i).length ≤ 400 := by omega
        clear hvl hn4
        obtain ⟨wo, hwo⟩ : ∃ wo, wo = wr := ⟨_, rfl⟩
        rw [← hwo] at HBI HO ⊢
        clear hwo
        have hB := hB3.trans (HBI.out.mono hB3.size)
        have KXo := Lib.hid (KX3.out.same (HBI.out.block _ KX3.out.lt))
        have KTo := Lib.hid (KT3.out.same (HBI.out.block _ KT3.out.lt))
        have KDo := Lib.hid (KD3.out.same (HBI.out.block _ KD3.out.lt))
        by_cases hil : i < (ctorsL xs (⟨(q : Int), (r : Int)⟩ : Ty)).length
        · have g1 : (0 : Int) ≤ (i : Int) := by omega
          have g2 : (i : Int) < ((ctorsL xs (⟨(q : Int), (r : Int)⟩ : Ty)).length : Int) := by omega
          obtain ⟨b3, off3, rfl⟩ := HA3.out.ptr (by omega)
          obtain ⟨hb3l, c3⟩ := ArrNat.at HA3.out HU3.out HBI.out i hil
          obtain ⟨q', m, e1, hkm, hq', hm⟩ := mem_ctorsL HT.out.inWorld (List.getElem_mem hil)
          obtain rfl : q = q' := Int.ofNat.inj e1
          have hme : (ctorsL xs (⟨(q : Int), (r : Int)⟩ : Ty))[i] ∈ (ctorsL xs (⟨(q : Int), (r : Int)⟩ : Ty)) := List.getElem_mem hil
          rw [hkm] at c3 hme
          have hals := argsOf_get (i := (r : Int)) hql hm
          have hca := (HW.out.ctor hql hm).args
          have hbf := BlkF.of xs d (⟨(q : Int), (r : Int)⟩ : Ty) (m : Int)
          rw [hals] at hbf
          have hst := valsTo_succ xs d (⟨(q : Int), (r : Int)⟩ : Ty) i hil
          rw [hkm] at hst
          have hbl := blockL_len (xs := xs) (d := d) (t := (⟨(q : Int), (r : Int)⟩ : Ty)) HDN.out hil
          rw [hkm] at hbl
          have HTI : Hid (∀ a ∈ argsL xs[q].ctors[m] (r : Int), TyIn xs.length a) := fun a ha => argsOf_in HW.out HT.out hme (by rw [hals]; exact ha)
          have hl3 : (argsL xs[q].ctors[m] (r : Int)).length ≤ 3 := by rw [argsL_len]; exact hca
          have hn4 := HN.out
          generalize blockL xs d (⟨(q : Int), (r : Int)⟩ : Ty) (m : Int) = bl at *
          have hb4 : (valsTo xs d (⟨(q : Int), (r : Int)⟩ : Ty) i).length + bl.length ≤ 400 := by omega
          have HBF := Lib.hid hbf
          have HST := Lib.hid hst
          clear hkm e1 hme hals hbf hst hbl hn4
          have y0 : wo.cell? ⟨w.heap.size, 0, none⟩ = some (.slice A xs.length cap) := (KXo.out.cell 0).trans (by simp)
          have y1 : wo.cell? ⟨w.heap.size + 1, 0, none⟩ = some (.int .i64 (q : Int)) := (KTo.out.cell 0).trans (by simp)
          have y2 : wo.cell? ⟨w.heap.size + 1, 1, none⟩ = some (.int .i64 (r : Int)) := (KTo.out.cell 1).trans (by simp)
          have y3 : wo.cell? ⟨w.heap.size + 1 + 1, 0, none⟩ = some (.int .i64 ((d : Int) + 1)) := (KDo.out.cell 0).trans (by simp)
          have yl0 := KXo.out.lt
          have yl1 := KTo.out.lt
          have yl2 := KDo.out.lt
          go_wp2_with fail
          refine (impl_argTypes xs q m (r : Int) hql hm wo _ F (ArrDt.below HX.out hB HF.out) (HF.out.mono hB.size) hca).mono ?_
          rintro e w6 ⟨v6, F6, rfl, hb6, ha6, -, hfs6⟩
          have HB36 : Hid (Below w3.heap.size w3 w6) := HBI.out.trans (hb6.mono HBI.out.size)
          have hB6 := hB.trans (hb6.mono hB.size)
          have HO6 := Lib.hid (HO.out.below (fun x cs G hk h => VR_mono' _ _ x cs G hk h) hb6)
          have KX6 := Lib.hid (KXo.out.same (hb6.block _ KXo.out.lt))
          have KT6 := Lib.hid (KTo.out.same (hb6.block _ KTo.out.lt))
          have KD6 := Lib.hid (KDo.out.same (hb6.block _ KDo.out.lt))
          generalize hass : argsL xs[q].ctors[m] (r : Int) = ls at *
          clear hass hca
          obtain ⟨A6, cap6, rfl, hd3, hd4⟩ := ha6.form
          have HA6 := Lib.hid ha6
          have HU6 := Lib.hid hfs6.under
          clear ha6 hfs6 hb6 KXo KTo KDo y0 y1 y2 y3 yl0 yl1 yl2 c3 hb3l HBI hB HO
          have y0 : w6.cell? ⟨w.heap.size, 0, none⟩ = some (.slice A xs.length cap) := (KX6.out.cell 0).trans (by simp)
          have y1 : w6.cell? ⟨w.heap.size + 1, 0, none⟩ = some (.int .i64 (q : Int)) := (KT6.out.cell 0).trans (by simp)
          have y2 : w6.cell? ⟨w.heap.size + 1, 1, none⟩ = some (.int .i64 (r : Int)) := (KT6.out.cell 1).trans (by simp)
          have y3 : w6.cell? ⟨w.heap.size + 1 + 1, 0, none⟩ = some (.int .i64 ((d : Int) + 1)) := (KD6.out.cell 0).trans (by simp)
          have yl0 := KX6.out.lt
          have yl1 := KT6.out.lt
          have yl2 := KD6.out.lt
          go_wp2_with fail
          refine (ContainsFunc_Ty2 xs HW.out d hd A cap w.heap.size (w.heap.size + 1 + 1) ls HTI.out w6 _ F F6 (ArrDt.below HX.out hB6 HF.out) (HF.out.mono hB6.size) HA6.out HU6.out y0 yl0 y3 yl2).mono ?_
          rintro e w7 ⟨rfl, hb7⟩
          have HB37 : Hid (Below w3.heap.size w3 w7) := HB36.out.trans (hb7.mono HB36.out.size)
          have hB7 := hB6.trans (hb7.mono hB6.size)
          have HO7 := Lib.hid (HO6.out.below (fun x cs G hk h => VR_mono' _ _ x cs G hk h) hb7)
          have KX7 := Lib.hid (KX6.out.same (hb7.block _ KX6.out.lt))
          have KT7 := Lib.hid (KT6.out.same (hb7.block _ KT6.out.lt))
          have KD7 := Lib.hid (KD6.out.same (hb7.block _ KD6.out.lt))
          have HA7 : Hid (Arr w7 (TyR w7) ls (.slice A6 ls.length cap6) F6) := HA6.out.mono (.of_below hb7 HU6.out) (fun y _ cs G _ h => h)
          have HU7 := Lib.hid (HU6.out.mono hb7.size)
          clear hb7 KX6 KT6 KD6 y0 y1 y2 y3 yl0 yl1 yl2 HA6 HU6 HO6 HB36 hB6
          cases hnb : noneB xs d ls with
          | true =>
            have hE : Hid (valsTo xs d (⟨(q : Int), (r : Int)⟩ : Ty) (i + 1) = valsTo xs d (⟨(q : Int), (r : Int)⟩ : Ty) i) := by unfold Hid; rw [HST.out, HBF.out.none hnb, List.append_nil]
            clear hnb
            go_wp2
            go_roundw
            case rel => exact ⟨i + 1, _, hil, by go_num, (by rw [hE.out]; exact HO7.out), HFo.out, HB37⟩
            case measure => (simp [intOf] <;> omega)
          | false =>
            have HAR := Lib.hid (HBF.out.arg hnb)
            have HKI := Lib.hid (HBF.out.kid hnb)
            clear hnb
            go_wp2_with fail
            obtain ⟨w8, hw8⟩ : ∃ w8, w8 = w7.alloc (.cells [.int .i64 (m : Int), .int .i64 0, .slice none 0 0].toArray 53) := ⟨_, rfl⟩
            have hb8 : Below w7.heap.size w7 w8 := by rw [hw8]; exact (Below.refl _ _).alloc (Nat.le_refl _) _
            have hK8 : Blk w8 w7.heap.size 53 [.int .i64 (m : Int), .int .i64 0, .slice none 0 0].toArray := by rw [hw8]; exact Blk.new _ _ _
            have hLA : Arr w8 (VR w8) (argTo xs d (m : Int) ls 0) (.slice (some ⟨w7.heap.size, 0, none⟩) 1 1) [w7.heap.size] := by
              rw [argTo_zero]
              exact ⟨_, _, rfl, Nat.le_refl _, by simp [maxLen], .inr ⟨_, 0, [.int .i64 (m : Int), .int .i64 0, .slice none 0 0], [], rfl, (fun j u hj => by rw [Nat.zero_add, hK8.cell]; simpa using hj), Flat.one ((VR_iff _ _ _).2 ⟨_, rfl, Arr.nil⟩), rfl⟩⟩
            have hLU : Under w8.heap.size [w7.heap.size] := fun b hb => by rw [List.mem_singleton] at hb; subst hb; exact hK8.lt
            have HLB0 : Hid (∀ b ∈ [w7.heap.size], w7.heap.size ≤ b) := fun b hb => by rw [List.mem_singleton] at hb; subst hb; exact Nat.le_refl _
            have HL0 := Lib.hid hLA
            have HLU0 := Lib.hid hLU
            have hw8' := hw8
            simp only [List.toArray] at hw8'
            first | rw [← hw8] | rw [← hw8']
            clear hw8 hw8' hK8 hLA hLU
            have h78 := hb8.size
            have HB38 : Hid (Below w3.heap.size w3 w8) := HB37.out.trans (hb8.mono HB37.out.size)
            have hB8 := hB7.trans (hb8.mono hB7.size)
            have h7w : w.heap.size ≤ w7.heap.size := hB7.size
            have H7R : Hid (∀ g ∈ rowOf (.slice oA (valsTo xs d (⟨(q : Int), (r : Int)⟩ : Ty) i).length ocap), g < w7.heap.size) := fun g hg => (HO7.out.row g hg).2
            have HO8 := Lib.hid (HO7.out.below (fun x cs G hk h => VR_mono' _ _ x cs G hk h) hb8)
            have KX8 := Lib.hid (KX7.out.same (hb8.block _ KX7.out.lt))
            have KT8 := Lib.hid (KT7.out.same (hb8.block _ KT7.out.lt))
            have KD8 := Lib.hid (KD7.out.same (hb8.block _ KD7.out.lt))
            have HA8 : Hid (Arr w8 (TyR w8) ls (.slice A6 ls.length cap6) F6) := HA7.out.mono (.of_below hb8 HU7.out) (fun y _ cs G _ h => h)
            have HU8 := Lib.hid (HU7.out.mono hb8.size)
            clear hb8 KX7 KT7 KD7 HA7 HU7 HO7 HB37 hB7
            go_wp2
            go_loopw [12, 56] (fun lv jv wr => ∃ j : Nat, ∃ Fl : List Nat, j ≤ ls.length ∧ jv = .int .i64 j ∧ Hid (Arr wr (VR wr) (argTo xs d (m : Int) ls j) lv Fl) ∧ Hid (Under wr.heap.size Fl) ∧ Hid (∀ b ∈ Fl, w7.heap.size ≤ b) ∧ Hid (Below w8.heap.size w8 wr)) (fun _ jv _ => ls.length - (intOf jv).toNat)
            case atStart => exact ⟨0, _, Nat.zero_le _, rfl, HL0.out, HLU0.out, HLB0.out, Below.refl _ _⟩
            case round =>
              clear HL0 HLU0 HLB0
              obtain ⟨j, Fl, hj, rfl, HL, HLU, HLL, HB8⟩ := hrel
              obtain ⟨lA, lcap, hlv, -, -⟩ := HL.out.form
              subst hlv
              obtain ⟨wp, hwp⟩ : ∃ wp, wp = wr := ⟨_, rfl⟩
              rw [← hwp] at HL HLU HB8 ⊢
              clear hwp
              have hB9 := hB8.trans (HB8.out.mono hB8.size)
              have KXp := Lib.hid (KX8.out.same (HB8.out.block _ KX8.out.lt))
              have KTp := Lib.hid (KT8.out.same (HB8.out.block _ KT8.out.lt))
              have KDp := Lib.hid (KD8.out.same (HB8.out.block _ KD8.out.lt))
              by_cases hjl : j < ls.length
              · have g3 : (0 : Int) ≤ (j : Int) := by omega
                have g4 : (j : Int) < (ls.length : Int) := by omega
                obtain ⟨b6, off6, rfl⟩ := HA8.out.ptr (by omega)
                obtain ⟨hb6l, a0, a1⟩ := ArrTy.at HA8.out HU8.out HB8.out j hjl
                have HTJ := Lib.hid (HTI.out ls[j] (List.getElem_mem hjl))
                have hk4 := HKI.out j hjl
                have HKJ : Hid ((valsL xs d ls[j]).length ≤ 400) := by unfold Hid; omega
                have hs4 := HAR.out (j + 1)
                have hsl := argTo_len_succ xs d (m : Int) ls j hjl
                have HSU := Lib.hid (argTo_succ xs d (m : Int) ls j hjl)
                have HPR : Hid ((argTo xs d (m : Int) ls j).length * (valsL xs d ls[j]).length ≤ 400) := by unfold Hid; omega
                have hlj := HAR.out j
                have hll : (argTo xs d (m : Int) ls j).length ≤ 400 := by omega
                have HHD := Lib.hid (argTo_headed xs d (m : Int) ls j hj)
                clear hk4 hs4 hsl hlj
                have y0 : wp.cell? ⟨w.heap.size, 0, none⟩ = some (.slice A xs.length cap) := (KXp.out.cell 0).trans (by simp)
                have y1 : wp.cell? ⟨w.heap.size + 1, 0, none⟩ = some (.int .i64 (q : Int)) := (KTp.out.cell 0).trans (by simp)
                have y2 : wp.cell? ⟨w.heap.size + 1, 1, none⟩ = some (.int .i64 (r : Int)) := (KTp.out.cell 1).trans (by simp)
                have y3 : wp.cell? ⟨w.heap.size + 1 + 1, 0, none⟩ = some (.int .i64 ((d : Int) + 1)) := (KDp.out.cell 0).trans (by simp)
                have yl0 := KXp.out.lt
                have yl1 := KTp.out.lt
                have yl2 := KDp.out.lt
                go_wp2_with fail
                obtain ⟨w9, hw9⟩ : ∃ w9, w9 = (wp.alloc (.cells #[.int .i64 ls[j].d, .int .i64 ls[j].i] 32)) := ⟨_, rfl⟩
                have hb9 : Below wp.heap.size wp w9 := by rw [hw9]; exact (Below.refl _ _).alloc (Nat.le_refl _) _
                have hK9 : Blk w9 wp.heap.size 32 #[.int .i64 ls[j].d, .int .i64 ls[j].i] := by rw [hw9]; exact Blk.new _ _ _
                rw [← hw9]
                clear hw9 hK9
                have HB89 : Hid (Below w8.heap.size w8 w9) := HB8.out.trans (hb9.mono HB8.out.size)
                have hBw9 := hB9.trans (hb9.mono hB9.size)
                have HL9 := Lib.hid (ArrV.below HL.out hb9 HLU.out)
                have HLU9 := Lib.hid (HLU.out.mono hb9.size)
                have KX9 := Lib.hid (KXp.out.same (hb9.block _ KXp.out.lt))
                have KT9 := Lib.hid (KTp.out.same (hb9.block _ KTp.out.lt))
                have KD9 := Lib.hid (KDp.out.same (hb9.block _ KDp.out.lt))
                clear hb9 KXp KTp KDp HL HLU HB8 hB9 a0 a1 hb6l y0 y1 y2 y3 yl0 yl1 yl2
                refine (IH.out xs HW.out ls[j] HTJ.out (by omega) HKJ.out w9 _ F (ArrDt.below HX.out hBw9 HF.out) (HF.out.mono hBw9.size)).mono ?_
                rintro e w10 ⟨kv0, Fk, rfl, hb10, hak, hfk⟩
                have huk := hfk.under
                have HKL : Hid (∀ b ∈ Fk, w7.heap.size ≤ b) := fun b hb => Nat.le_trans (Nat.le_trans h78 HB89.out.size) (hfk b hb).1
                have HB8a : Hid (Below w8.heap.size w8 w10) := HB89.out.trans (hb10.mono HB89.out.size)
                have h710 : w7.heap.size ≤ w10.heap.size := Nat.le_trans h78 HB8a.out.size
                have HLa := Lib.hid (ArrV.below HL9.out hb10 HLU9.out)
                have HLUa := Lib.hid (HLU9.out.mono hb10.size)
                have HKA := Lib.hid hak
                have HKU := Lib.hid huk
                obtain ⟨kA, kcap, rfl, -, -⟩ := hak.form
                clear hak huk hfk hb10 HL9 HLU9 HB89 hBw9 KX9 KT9 KD9
                generalize hki : valsL xs d ls[j] = ki at *
                clear hki
                generalize hli : argTo xs d (m : Int) ls j = li at *
                clear hli
                go_wp2
                go_loopw [16, 67] (fun mv pv wr => ∃ p : Nat, ∃ Fm : List Nat, p ≤ li.length ∧ pv = .int .i64 p ∧ Hid (Own wr w10.heap.size 53 3 VR (growTo (m : Int) li ki p) mv Fm) ∧ Hid (∀ b ∈ Fm, w7.heap.size ≤ b) ∧ Hid (Below w10.heap.size w10 wr)) (fun _ pv _ => li.length - (intOf pv).toNat)
                case atStart => exact ⟨0, [], Nat.zero_le _, rfl, (show Own _ _ _ _ _ (growTo (m : Int) li ki 0) _ _ from Own.nil _ _ _ _ _), (fun b hb => by cases hb), Below.refl _ _⟩
                case round =>
                  obtain ⟨p, Fm, hp, rfl, HM, HFM, HBM⟩ := hrel
                  obtain ⟨mA, mcap, hmv, -, -⟩ := HM.out.form
                  subst hmv
                  have hpl := growTo_len (m : Int) li ki p hp
                  have HPL := Lib.hid hpl
                  obtain ⟨wq, hwq⟩ : ∃ wq, wq = wr := ⟨_, rfl⟩
                  rw [← hwq] at HM HBM ⊢
                  clear hwq hpl
                  by_cases hpl : p < li.length
                  · have g5 : (0 : Int) ≤ (p : Int) := by omega
                    have g6 : (p : Int) < (li.length : Int) := by omega
                    obtain ⟨b8, off8, rfl⟩ := HLa.out.ptr (by omega)
                    obtain ⟨vA, vcap, Gv, hb8l, v0, v1, v2, HVv, HVu, HVs, -, -⟩ := ArrV.at HLa.out HLUa.out HBM.out p hpl
                    have HGS := Lib.hid (growTo_succ (m : Int) li ki p hpl)
                    have HH := Lib.hid (HHD.out li[p] (List.getElem_mem hpl))
                    have hmul : (p + 1) * ki.length ≤ li.length * ki.length := Nat.mul_le_mul_right _ hpl
                    have hpr := HPR.out
                    have hpl2 := HPL.out
                    have hms : (p + 1) * ki.length = p * ki.length + ki.length := by rw [Nat.succ_mul]
                    have HPQ : Hid ((growTo (m : Int) li ki p).length + ki.length ≤ 400) := by unfold Hid; omega
                    have HVS := Lib.hid HVs
                    clear hmul hpr hpl2 hms HVs HPL
                    obtain ⟨lp, hlp⟩ : ∃ u, u = li[p] := ⟨_, rfl⟩
                    rw [← hlp] at v0 v1 v2 HVv HGS HH
                    clear hlp
                    have hlk : lp.ks.length ≤ 3 := by have := HH.out.2.2; omega
                    go_wp2_with fail
                    obtain ⟨w11, hw11⟩ : ∃ X, X = (wq.alloc (.cells #[.int .i64 lp.c, .int .i64 lp.n, .slice vA lp.ks.length vcap] 53)) := ⟨_, rfl⟩
                    have hb11 : Below wq.heap.size wq w11 := by rw [hw11]; exact (Below.refl _ _).alloc (Nat.le_refl _) _
                    have hK11 : Blk w11 wq.heap.size 53 #[.int .i64 lp.c, .int .i64 lp.n, .slice vA lp.ks.length vcap] := by rw [hw11]; exact Blk.new _ _ _
                    rw [← hw11]
                    clear hw11
                    have HB11 : Hid (Below w10.heap.size w10 w11) := HBM.out.trans (hb11.mono HBM.out.size)
                    have HM11 := Lib.hid (HM.out.below (fun x cs G hk h => VR_mono' _ _ x cs G hk h) hb11)
                    have HN11 : Hid (wq.heap.size ∉ rowOf (.slice mA (growTo (m : Int) li ki p).length mcap)) := fun h => Nat.lt_irrefl _ (HM.out.row _ h).2
                    have h10q : w10.heap.size ≤ wq.heap.size := HBM.out.size
                    have HK11 := Lib.hid hK11
                    obtain ⟨bb, hbb⟩ : ∃ X, X = wq.heap.size := ⟨_, rfl⟩
                    rw [← hbb] at HK11 HN11 h10q ⊢
                    clear hb11 hK11 HM HBM v0 v1 v2 hb8l hbb
                    generalize hgp : growTo (m : Int) li ki p = gp at *
                    clear hgp
                    go_wp2
                    go_loopw [16, 73] (fun mv sv wr => ∃ s : Nat, ∃ Fn : List Nat, s ≤ ki.length ∧ sv = .int .i64 s ∧ Hid (Own wr w10.heap.size 53 3 VR (moreTo gp (m : Int) lp ki s) mv Fn) ∧ Hid (∀ b ∈ Fn, w7.heap.size ≤ b) ∧ Hid (Below w10.heap.size w10 wr) ∧ Hid (Blk wr bb 53 #[.int .i64 lp.c, .int .i64 lp.n, .slice vA lp.ks.length vcap]) ∧ Hid (bb ∉ rowOf mv)) (fun _ sv _ => ki.length - (intOf sv).toNat)
                    case atStart => exact ⟨0, Fm, Nat.zero_le _, rfl, (by rw [moreTo_zero]; exact HM11.out), HFM.out, HB11.out, HK11.out, HN11.out⟩
                    case round =>
                      clear HM11 HFM HB11 HK11 HN11
                      obtain ⟨s, Fn, hs, rfl, HM, HFM, HBM, HK, HNB⟩ := hrel
                      obtain ⟨mA, mcap, hmv, -, -⟩ := HM.out.form
                      subst hmv
                      by_cases hsl : s < ki.length
                      · have hk400 := HKJ.out
                        have g7 : (0 : Int) ≤ (s : Int) := by omega
                        have g8 : (s : Int) < (ki.length : Int) := by omega
                        obtain ⟨b9, off9, rfl⟩ := HKA.out.ptr (by omega)
                        obtain ⟨nA, ncap, Gk, hb9l, n0, n1, n2, HVk, HKu, hks, -, -⟩ := ArrV.at HKA.out HKU.out HBM.out s hsl
                        have HKs := Lib.hid hks
                        have hml := moreTo_len gp (m : Int) lp ki s
                        have hpq := HPQ.out
                        have hmx : (moreTo gp (m : Int) lp ki s).length + 1 ≤ maxLen := by unfold maxLen; omega
                        have hby : ((moreTo gp (m : Int) lp ki s).length + 1) * 40 ≤ 140737488355328 := by omega
                        have HMS := Lib.hid (moreTo_succ gp (m : Int) lp ki s hsl)
                        obtain ⟨kq, hkq⟩ : ∃ u, u = ki[s] := ⟨_, rfl⟩
                        rw [← hkq] at n0 n1 n2 HVk HMS
                        clear hkq hks hml hpq
                        go_wp2_with fail
                        obtain ⟨w13, hw13⟩ : ∃ X, X = (wr.alloc (.cells #[.int .i64 kq.c, .int .i64 kq.n, .slice nA kq.ks.length ncap] 53)) := ⟨_, rfl⟩
                        have hb13 : Below wr.heap.size wr w13 := by rw [hw13]; exact (Below.refl _ _).alloc (Nat.le_refl _) _
                        have hK13 : Blk w13 wr.heap.size 53 #[.int .i64 kq.c, .int .i64 kq.n, .slice nA kq.ks.length ncap] := by rw [hw13]; exact Blk.new _ _ _
                        rw [← hw13]
                        clear hw13
                        obtain ⟨b20, hb20⟩ : ∃ X, X = wr.heap.size := ⟨_, rfl⟩
                        rw [← hb20] at hK13 ⊢
                        have x0 : w13.cell? ⟨bb, 2, none⟩ = some (.slice vA lp.ks.length vcap) := ((HK.out.same (hb13.block _ HK.out.lt)).cell 2).trans (by simp)
                        have x1 : w13.cell? ⟨b20, 0, none⟩ = some (.int .i64 kq.c) := (hK13.cell 0).trans (by simp)
                        have x2 : w13.cell? ⟨b20, 1, none⟩ = some (.int .i64 kq.n) := (hK13.cell 1).trans (by simp)
                        have x3 : w13.cell? ⟨b20, 2, none⟩ = some (.slice nA kq.ks.length ncap) := (hK13.cell 2).trans (by simp)
                        have klt20 : b20 < w13.heap.size := hK13.lt
                        have kltb : bb < w13.heap.size := Nat.lt_of_lt_of_le HK.out.lt hb13.size
                        have HVk2 : Hid (∀ C, Below w13.heap.size w13 C → VR C kq [.int .i64 kq.c, .int .i64 kq.n, .slice nA kq.ks.length ncap] Gk) := fun C hC => HVk.out.below (HBM.out.trans ((hb13.trans (hC.mono hb13.size)).mono HBM.out.size)) HKu.out
                        have HVA : Hid (∀ C, Below w13.heap.size w13 C → Arr C (VR C) lp.ks (.slice vA lp.ks.length vcap) Gv) := fun C hC => by
                          obtain ⟨kv, e, h⟩ := (VR_iff _ _ _).1 HVv.out
                          simp only [List.cons.injEq, true_and, and_true] at e
                          subst e
                          exact ArrV.below h (HBM.out.trans ((hb13.trans (hC.mono hb13.size)).mono HBM.out.size)) HVu.out
                        have HB20 := Lib.hid hb20
                        clear n0 n1 n2 hb9l hK13 HVk hb20
                        have HS : Hid (∀ C : World, Below w13.heap.size w13 C → (C.cell? ⟨bb, 2, none⟩ = some (.slice vA lp.ks.length vcap) ∧ C.cell? ⟨b20, 0, none⟩ = some (.int .i64 kq.c) ∧ C.cell? ⟨b20, 1, none⟩ = some (.int .i64 kq.n) ∧ C.cell? ⟨b20, 2, none⟩ = some (.slice nA kq.ks.length ncap))) := fun C hb => ⟨(hb.cell (kltb)).trans x0, (hb.cell (klt20)).trans x1, (hb.cell (klt20)).trans x2, (hb.cell (klt20)).trans x3⟩
                        have hC0 : Below w13.heap.size w13 w13.drew := (Below.refl _ _).drew
                        refine wp_region_B (S := fun w' => w'.cell? ⟨bb, 2, none⟩ = some (.slice vA lp.ks.length vcap) ∧ w'.cell? ⟨b20, 0, none⟩ = some (.int .i64 kq.c) ∧ w'.cell? ⟨b20, 1, none⟩ = some (.int .i64 kq.n) ∧ w'.cell? ⟨b20, 2, none⟩ = some (.slice nA kq.ks.length ncap)) (T := fun _ => True) (d := 99) (by kernel_rfl) ?_
                        obtain ⟨wd, hwd⟩ : ∃ X, X = w13.drew := ⟨_, rfl⟩
                        rw [← hwd] at hC0  ⊢
                        clear hwd
                        have hS0 := HS.out _ hC0
                        have hT0 : True := trivial
                        refine wpAnyB_take (i := 0) (v := ?_) rfl (by decide) (by kernel_rfl) (by kernel_rfl) (by kernel_rfl) (fun _ _ _ h => h) (Or.inl ⟨by rfl, ?hy0⟩) hS0 (fun _ => hT0) ?_
                        case hy0 => (intro W hSw; (try dsimp only at hSw); (try obtain ⟨hSw0, hSw1, hSw2, hSw3⟩ := hSw); go_simp; try with_reducible rfl)
                        (try simp only [Act.put, List.getElem_toArray, List.getElem_cons_zero, List.getElem_cons_succ, List.setIfInBounds_toArray, List.set_cons_zero, List.set_cons_succ])
                        refine wpAnyB_take (i := 1) (v := ?_) rfl (by decide) (by kernel_rfl) (by kernel_rfl) (by kernel_rfl) (fun _ _ _ h => h) (Or.inl ⟨by rfl, ?hy1⟩) hS0 (fun _ => hT0) ?_
                        case hy1 => (intro W hSw; (try dsimp only at hSw); (try obtain ⟨hSw0, hSw1, hSw2, hSw3⟩ := hSw); go_simp; try with_reducible rfl)
                        (try simp only [Act.put, List.getElem_toArray, List.getElem_cons_zero, List.getElem_cons_succ, List.setIfInBounds_toArray, List.set_cons_zero, List.set_cons_succ])
                        refine wpAnyB_take (i := 2) (v := ?_) rfl (by decide) (by kernel_rfl) (by kernel_rfl) (by kernel_rfl) (fun _ _ _ h => h) (Or.inl ⟨by rfl, ?hy2⟩) hS0 (fun _ => hT0) ?_
                        case hy2 => (intro W hSw; (try dsimp only at hSw); (try obtain ⟨hSw0, hSw1, hSw2, hSw3⟩ := hSw); go_simp; try with_reducible rfl)
                        (try simp only [Act.put, List.getElem_toArray, List.getElem_cons_zero, List.getElem_cons_succ, List.setIfInBounds_toArray, List.set_cons_zero, List.set_cons_succ])
                        refine wpAnyB_take (i := 3) (v := ?_) rfl (by decide) (by kernel_rfl) (by kernel_rfl) (by kernel_rfl) (fun _ _ _ h => h) (Or.inl ⟨by rfl, ?hy3⟩) hS0 (fun _ => hT0) ?_
                        case hy3 => (intro W hSw; (try dsimp only at hSw); (try obtain ⟨hSw0, hSw1, hSw2, hSw3⟩ := hSw); go_simp; try with_reducible rfl)
                        (try simp only [Act.put, List.getElem_toArray, List.getElem_cons_zero, List.getElem_cons_succ, List.setIfInBounds_toArray, List.set_cons_zero, List.set_cons_succ])
                        refine wpAnyB_take (i := 5) (v := ?_) rfl (by decide) (by kernel_rfl) (by kernel_rfl) (by kernel_rfl) (fun _ _ _ h => h) (Or.inl ⟨by rfl, ?hy5⟩) hS0 (fun _ => hT0) ?_
                        case hy5 => (intro W hSw; (try dsimp only at hSw); (try obtain ⟨hSw0, hSw1, hSw2, hSw3⟩ := hSw); go_simp; try with_reducible rfl)
                        (try simp only [Act.put, List.getElem_toArray, List.getElem_cons_zero, List.getElem_cons_succ, List.setIfInBounds_toArray, List.set_cons_zero, List.set_cons_succ])
                        refine wpAnyB_ready (rs := [4, 6]) (by kernel_rfl) (by simp) ?_
                        refine AllReadyB.cons rfl (fun K hK => ?_) (AllReadyB.cons rfl (fun K hK => ?_) AllReadyB.nil)
                        · go_simp
                          go_at_call 117
                          refine (Clone_V lp.ks (by omega) wd _ Gv (HVA.out wd hC0) (HVu.out.mono (Nat.le_trans HBM.out.size (Nat.le_trans hb13.size hC0.size)))).mono ?_
                          rintro e C1 ⟨cv, Gc, rfl, hb1, ho1, hG1⟩
                          have hC1 : Below w13.heap.size w13 C1 := hC0.trans (hb1.mono hC0.size)
                          obtain ⟨cA, ccap, rfl, -, -⟩ := ho1.form
                          have HGc := Lib.hid hG1
                          have HOc1 := Lib.hid (ho1.base (B' := w13.heap.size) (fun g hg => Nat.le_trans hC0.size (ho1.row g hg).1))
                          clear ho1 hG1
                          (try dsimp only)
                          refine hK.out _ _ (HS.out _ hC1) (fun _ => trivial) ?_
                          clear hK K
                          (try simp only [Act.put, List.getElem_toArray, List.getElem_cons_zero, List.getElem_cons_succ, List.setIfInBounds_toArray, List.set_cons_zero, List.set_cons_succ])
                          refine wpAnyB_ready (rs := [6]) (by kernel_rfl) (by simp) ?_
                          refine AllReadyB.cons rfl (fun K hK => ?_) AllReadyB.nil
                          go_simp
                          obtain ⟨C2, hX⟩ : ∃ X, X = C1.alloc (.cells [.int .i64 kq.c, .int .i64 kq.n, .slice nA kq.ks.length ncap].toArray 53) := ⟨_, rfl⟩
                          have hb2 : Below C1.heap.size C1 C2 := by rw [hX]; exact (Below.refl _ _).alloc (Nat.le_refl _) _
                          have hkb2 : Blk C2 C1.heap.size 53 [.int .i64 kq.c, .int .i64 kq.n, .slice nA kq.ks.length ncap].toArray := by rw [hX]; exact Blk.new _ _ _
                          have hX2 := hX
                          simp only [List.toArray] at hX2
                          first | rw [← hX] | rw [← hX2]
                          clear hX hX2
                          have hC2 : Below w13.heap.size w13 C2 := hC1.trans (hb2.mono hC1.size)
                          have HKb2 := Lib.hid hkb2
                          obtain ⟨kb, hkb⟩ : ∃ X, X = C1.heap.size := ⟨_, rfl⟩
                          rw [← hkb] at HKb2 ⊢
                          clear hkb hkb2
                          have HOc := Lib.hid (HOc1.out.below (fun x cs G hk h => VR_mono' _ _ x cs G hk h) hb2)
                          have HKb := HKb2
                          (try dsimp only)
                          refine hK.out _ _ (HS.out _ hC2) (fun _ => trivial) ?_
                          clear hK K
                          (try simp only [Act.put, List.getElem_toArray, List.getElem_cons_zero, List.getElem_cons_succ, List.setIfInBounds_toArray, List.set_cons_zero, List.set_cons_succ])
                          refine wpAnyB_ready (rs := [7]) (by kernel_rfl) (by simp) ?_
                          refine AllReadyB.cons rfl (fun K hK => ?_) AllReadyB.nil
                          refine step_pushB (P := Try.prog) rfl _ _ 39 rfl i0 _ 40 Try.underlying39 HI.out HZ0.out HZ1.out HZ2.out rfl (by decide) VR_len' VR_mono' (by rfl) HOc.out kq 53 [.int .i64 kq.c, .int .i64 kq.n, .slice nA kq.ks.length ncap] Gk kb (by rfl) HKb.out (by simp [Value.oneCell']) (HVk2.out C2 hC2) (HKu.out.mono (Nat.le_trans HBM.out.size (Nat.le_trans hb13.size hC2.size))) (fun g hg hgG => Nat.lt_irrefl _ (Nat.lt_of_lt_of_le (HKu.out g hgG) (Nat.le_trans (Nat.le_trans HBM.out.size hb13.size) (HOc.out.row g hg).1))) (by unfold maxLen; omega) (by omega) hC2.size ?_
                          intro g7 cp7 C3 hown3 hgr3 hat3
                          have hC3 : Below w13.heap.size w13 C3 := hC2.grown hgr3 hC2.size (fun g hg => (HOc.out.row g (mem_rowOf.2 hg)).1)
                          have HO3 := Lib.hid hown3
                          have H3R : Hid (∀ g ∈ rowOf (.slice (some ⟨g7, 0, none⟩) (lp.ks.length + 1) cp7), w13.heap.size ≤ g ∧ g < C3.heap.size) := fun g hg => HO3.out.row g hg
                          have HYR : Hid (VR C3 ⟨(m : Int), 0, lp.ks ++ [kq]⟩ [.int .i64 (m : Int), .int .i64 0, .slice (some ⟨g7, 0, none⟩) (lp.ks.length + 1) cp7] (rowOf (.slice (some ⟨g7, 0, none⟩) (lp.ks.length + 1) cp7) ++ (Gc ++ Gk))) := by
                            have h := HO3.out.arr
                            rw [if_neg (by simp)] at h
                            rw [show lp.ks.length + 1 = (lp.ks ++ [kq]).length by simp] at h ⊢
                            exact (VR_iff _ _ _).2 ⟨_, rfl, h⟩
                          have hb103 : Below w10.heap.size w10 C3 := (HBM.out.trans (hb13.mono HBM.out.size)).trans (hC3.mono (Nat.le_trans HBM.out.size hb13.size))
                          have hbr3 : Below wr.heap.size wr C3 := hb13.trans (hC3.mono hb13.size)
                          have HM3 := Lib.hid (HM.out.below (fun x cs G hk h => VR_mono' _ _ x cs G hk h) hbr3)
                          have hYU : Under C3.heap.size (rowOf (.slice (some ⟨g7, 0, none⟩) (lp.ks.length + 1) cp7) ++ (Gc ++ Gk)) := fun b hb => by
                            rcases List.mem_append.1 hb with hb | hb
                            · exact (H3R.out b hb).2
                            · rcases List.mem_append.1 hb with hb | hb
                              · exact Nat.lt_of_lt_of_le (HVu.out b (HGc.out b hb)) hb103.size
                              · exact Nat.lt_of_lt_of_le (HKu.out b hb) hb103.size
                          have hYN : ∀ g ∈ rowOf (.slice mA (moreTo gp (m : Int) lp ki s).length mcap), g ∉ (rowOf (.slice (some ⟨g7, 0, none⟩) (lp.ks.length + 1) cp7) ++ (Gc ++ Gk)) := fun g hg hgG => by
                            have h1 := HM.out.row g hg
                            have h2 := hb13.size
                            rcases List.mem_append.1 hgG with hb | hb
                            · have := (H3R.out g hb).1; omega
                            · rcases List.mem_append.1 hb with hb | hb
                              · have := HVu.out g (HGc.out g hb); omega
                              · have := HKu.out g hb; omega
                          have HY7 : Hid (∀ b ∈ (rowOf (.slice (some ⟨g7, 0, none⟩) (lp.ks.length + 1) cp7) ++ (Gc ++ Gk)), w7.heap.size ≤ b) := fun b hb => by
                            have h2 := hb13.size
                            have h3 := HBM.out.size
                            rcases List.mem_append.1 hb with hb | hb
                            · have := (H3R.out b hb).1; omega
                            · rcases List.mem_append.1 hb with hb | hb
                              · exact HLL.out b (HVS.out b (HGc.out b hb))
                              · exact HKL.out b (HKs.out b hb)
                          have HYN := Lib.hid hYN
                          have HYU := Lib.hid hYU
                          clear hown3 hgr3 hat3 hYN hYU
                          (try dsimp only)
                          refine hK.out _ _ (HS.out _ hC3) (fun _ => trivial) ?_
                          clear hK K
                          (try simp only [Act.put, List.getElem_toArray, List.getElem_cons_zero, List.getElem_cons_succ, List.setIfInBounds_toArray, List.set_cons_zero, List.set_cons_succ])
                          have hS3 := HS.out _ hC3
                          refine wpAnyB_take (i := 8) (v := ?_) rfl (by decide) (by kernel_rfl) (by kernel_rfl) (by kernel_rfl) (fun _ _ _ h => h) (Or.inl ⟨by rfl, ?hy8⟩) hS3 (fun _ => hT0) ?_
                          case hy8 => (intro W hSw; (try dsimp only at hSw); (try obtain ⟨hSw0, hSw1, hSw2, hSw3⟩ := hSw); go_simp; try with_reducible rfl)
                          (try simp only [Act.put, List.getElem_toArray, List.getElem_cons_zero, List.getElem_cons_succ, List.setIfInBounds_toArray, List.set_cons_zero, List.set_cons_succ])
                          refine wpAnyB_ready (rs := [9]) (by kernel_rfl) (by simp) ?_
                          refine AllReadyB.cons rfl (fun K hK => ?_) AllReadyB.nil
                          go_simp
                          (try dsimp only)
                          refine hK.out _ _ (HS.out _ (hC3.alloc hC3.size _)) (fun _ => trivial) ?_
                          clear hK K
                          (try simp only [Act.put, List.getElem_toArray, List.getElem_cons_zero, List.getElem_cons_succ, List.setIfInBounds_toArray, List.set_cons_zero, List.set_cons_succ])
                          refine wpAnyB_ready (rs := [10]) (by kernel_rfl) (by simp) ?_
                          refine AllReadyB.cons rfl (fun K hK => ?_) AllReadyB.nil
                          refine step_push1 (P := Try.prog) rfl _ _ 39 rfl i0 _ 40 Try.underlying39 HI.out HZ0.out HZ1.out HZ2.out rfl (by decide) VR_len' VR_mono' (by rfl) HM3.out ⟨(m : Int), 0, lp.ks ++ [kq]⟩ 53 [.int .i64 (m : Int), .int .i64 0, .slice (some ⟨g7, 0, none⟩) (lp.ks.length + 1) cp7] (rowOf (.slice (some ⟨g7, 0, none⟩) (lp.ks.length + 1) cp7) ++ (Gc ++ Gk)) C3.heap.size (by rfl) rfl (by simp [Value.oneCell']) HYR.out HYU.out HYN.out hmx hby hb103.size ?_
                          intro g10 cp10 C5 hown5 hgr5 hat5
                          have hrow := HM3.out.row
                          have hB5 : Below w10.heap.size w10 C5 := (hb103.alloc hb103.size _).grown hgr5 (by simp; have := hb103.size; omega) (fun g hg => (hrow g (mem_rowOf.2 hg)).1)
                          have l7 : C3.heap.size ≤ (C3.alloc (.cells [.int .i64 (m : Int), .int .i64 0, .slice (some ⟨g7, 0, none⟩) (lp.ks.length + 1) cp7].toArray 53)).heap.size := by rw [World.size_alloc]; exact Nat.le_succ _
                          have hfar : ∀ p : Addr, p.block < C3.heap.size → some p.block ≠ (Value.ownBlock (.slice mA (moreTo gp (m : Int) lp ki s).length mcap)) → C5.cell? p = C3.cell? p := fun p h1 h2 => (World.grownBy.cell_far hgr5 p (Nat.lt_of_lt_of_le h1 l7) h2).trans (World.cell?_alloc_lt _ _ _ h1)
                          have nbb : some bb ≠ (Value.ownBlock (.slice mA (moreTo gp (m : Int) lp ki s).length mcap)) := fun e => HNB.out (mem_rowOf.2 e.symm)
                          have nb20 : some b20 ≠ (Value.ownBlock (.slice mA (moreTo gp (m : Int) lp ki s).length mcap)) := fun e => by have := (HM.out.row b20 (mem_rowOf.2 e.symm)).2; have := HB20.out; omega
                          have lbb : bb < C3.heap.size := Nat.lt_of_lt_of_le kltb hC3.size
                          have lb20 : b20 < C3.heap.size := Nat.lt_of_lt_of_le klt20 hC3.size
                          have hS5 : C5.cell? ⟨bb, 2, none⟩ = some (.slice vA lp.ks.length vcap) ∧ C5.cell? ⟨b20, 0, none⟩ = some (.int .i64 kq.c) ∧ C5.cell? ⟨b20, 1, none⟩ = some (.int .i64 kq.n) ∧ C5.cell? ⟨b20, 2, none⟩ = some (.slice nA kq.ks.length ncap) := ⟨(hfar ⟨bb, 2, none⟩ lbb nbb).trans hS3.1, (hfar ⟨b20, 0, none⟩ lb20 nb20).trans hS3.2.1, (hfar ⟨b20, 1, none⟩ lb20 nb20).trans hS3.2.2.1, (hfar ⟨b20, 2, none⟩ lb20 nb20).trans hS3.2.2.2⟩
                          have HK5 : Hid (Blk C5 bb 53 #[.int .i64 lp.c, .int .i64 lp.n, .slice vA lp.ks.length vcap]) := (((HK.out.same (hbr3.block _ HK.out.lt)).same (Below.heap_alloc _ _ _ lbb))).same (hgr5.block _ (Nat.lt_of_lt_of_le lbb l7) nbb)
                          have HN5 : Hid (bb ∉ rowOf (.slice (some ⟨g10, 0, none⟩) ((moreTo gp (m : Int) lp ki s).length + 1) cp10)) := fun h => by
                            rw [rowOf_some, List.mem_singleton] at h
                            rcases hat5 with h1 | h1
                            · exact nbb (by rw [h1, h])
                            · omega
                          have HF5 : Hid (∀ b ∈ Fn ++ (rowOf (.slice (some ⟨g7, 0, none⟩) (lp.ks.length + 1) cp7) ++ (Gc ++ Gk)), w7.heap.size ≤ b) := fun b hb => by
                            rcases List.mem_append.1 hb with hb | hb
                            · exact HFM.out b hb
                            · exact HY7.out b hb
                          have HO5 := Lib.hid hown5
                          clear hown5 hgr5 hat5 hrow hfar nbb nb20
                          (try dsimp only)
                          refine hK.out _ _ (hS5) (fun _ => trivial) ?_
                          clear hK K
                          (try simp only [Act.put, List.getElem_toArray, List.getElem_cons_zero, List.getElem_cons_succ, List.setIfInBounds_toArray, List.set_cons_zero, List.set_cons_succ])
                          refine wpAnyB_take (i := 11) (v := ?_) rfl (by decide) (by kernel_rfl) (by kernel_rfl) (by kernel_rfl) (fun _ _ _ h => h) (Or.inl ⟨by rfl, ?hy11⟩) hS5 (fun _ => hT0) ?_
                          case hy11 => (intro W hSw; (try dsimp only at hSw); (try obtain ⟨hSw0, hSw1, hSw2, hSw3⟩ := hSw); go_simp; try with_reducible rfl)
                          (try simp only [Act.put, List.getElem_toArray, List.getElem_cons_zero, List.getElem_cons_succ, List.setIfInBounds_toArray, List.set_cons_zero, List.set_cons_succ])
                          refine wpAnyB_end (by kernel_rfl) ?_
                          clear hS3 hS5 hS0 hT0 x0 x1 x2 x3
                          go_wp2
                          go_roundw
                          case rel => exact ⟨s + 1, _, hsl, by go_num, (by rw [HMS.out]; exact HO5.out), HF5.out, hB5, HK5.out, HN5.out⟩
                          case measure => (simp [intOf] <;> omega)
                        · go_simp
                          obtain ⟨C1, hX⟩ : ∃ X, X = wd.alloc (.cells [.int .i64 kq.c, .int .i64 kq.n, .slice nA kq.ks.length ncap].toArray 53) := ⟨_, rfl⟩
                          have hb1 : Below wd.heap.size wd C1 := by rw [hX]; exact (Below.refl _ _).alloc (Nat.le_refl _) _
                          have hkb1 : Blk C1 wd.heap.size 53 [.int .i64 kq.c, .int .i64 kq.n, .slice nA kq.ks.length ncap].toArray := by rw [hX]; exact Blk.new _ _ _
                          have hX2 := hX
                          simp only [List.toArray] at hX2
                          first | rw [← hX] | rw [← hX2]
                          clear hX hX2
                          have hC1 : Below w13.heap.size w13 C1 := hC0.trans (hb1.mono hC0.size)
                          have HKb1 := Lib.hid hkb1
                          obtain ⟨kb, hkb⟩ : ∃ X, X = wd.heap.size := ⟨_, rfl⟩
                          rw [← hkb] at HKb1 ⊢
                          clear hkb hkb1
                          (try dsimp only)
                          refine hK.out _ _ (HS.out _ hC1) (fun _ => trivial) ?_
                          clear hK K
                          (try simp only [Act.put, List.getElem_toArray, List.getElem_cons_zero, List.getElem_cons_succ, List.setIfInBounds_toArray, List.set_cons_zero, List.set_cons_succ])
                          refine wpAnyB_ready (rs := [4]) (by kernel_rfl) (by simp) ?_
                          refine AllReadyB.cons rfl (fun K hK => ?_) AllReadyB.nil
                          go_simp
                          go_at_call 117
                          refine (Clone_V lp.ks (by omega) C1 _ Gv (HVA.out C1 hC1) (HVu.out.mono (Nat.le_trans HBM.out.size (Nat.le_trans hb13.size hC1.size)))).mono ?_
                          rintro e C2 ⟨cv, Gc, rfl, hb2, ho2, hG2⟩
                          have hC2 : Below w13.heap.size w13 C2 := hC1.trans (hb2.mono hC1.size)
                          obtain ⟨cA, ccap, rfl, -, -⟩ := ho2.form
                          have HGc := Lib.hid hG2
                          have HOc2 := Lib.hid (ho2.base (B' := w13.heap.size) (fun g hg => Nat.le_trans hC1.size (ho2.row g hg).1))
                          clear ho2 hG2
                          have HOc := HOc2
                          have HKb := Lib.hid (HKb1.out.same (hb2.block _ HKb1.out.lt))
                          (try dsimp only)
                          refine hK.out _ _ (HS.out _ hC2) (fun _ => trivial) ?_
                          clear hK K
                          (try simp only [Act.put, List.getElem_toArray, List.getElem_cons_zero, List.getElem_cons_succ, List.setIfInBounds_toArray, List.set_cons_zero, List.set_cons_succ])
                          refine wpAnyB_ready (rs := [7]) (by kernel_rfl) (by simp) ?_
                          refine AllReadyB.cons rfl (fun K hK => ?_) AllReadyB.nil
                          refine step_pushB (P := Try.prog) rfl _ _ 39 rfl i0 _ 40 Try.underlying39 HI.out HZ0.out HZ1.out HZ2.out rfl (by decide) VR_len' VR_mono' (by rfl) HOc.out kq 53 [.int .i64 kq.c, .int .i64 kq.n, .slice nA kq.ks.length ncap] Gk kb (by rfl) HKb.out (by simp [Value.oneCell']) (HVk2.out C2 hC2) (HKu.out.mono (Nat.le_trans HBM.out.size (Nat.le_trans hb13.size hC2.size))) (fun g hg hgG => Nat.lt_irrefl _ (Nat.lt_of_lt_of_le (HKu.out g hgG) (Nat.le_trans (Nat.le_trans HBM.out.size hb13.size) (HOc.out.row g hg).1))) (by unfold maxLen; omega) (by omega) hC2.size ?_
                          intro g7 cp7 C3 hown3 hgr3 hat3
                          have hC3 : Below w13.heap.size w13 C3 := hC2.grown hgr3 hC2.size (fun g hg => (HOc.out.row g (mem_rowOf.2 hg)).1)
                          have HO3 := Lib.hid hown3
                          have H3R : Hid (∀ g ∈ rowOf (.slice (some ⟨g7, 0, none⟩) (lp.ks.length + 1) cp7), w13.heap.size ≤ g ∧ g < C3.heap.size) := fun g hg => HO3.out.row g hg
                          have HYR : Hid (VR C3 ⟨(m : Int), 0, lp.ks ++ [kq]⟩ [.int .i64 (m : Int), .int .i64 0, .slice (some ⟨g7, 0, none⟩) (lp.ks.length + 1) cp7] (rowOf (.slice (some ⟨g7, 0, none⟩) (lp.ks.length + 1) cp7) ++ (Gc ++ Gk))) := by
                            have h := HO3.out.arr
                            rw [if_neg (by simp)] at h
                            rw [show lp.ks.length + 1 = (lp.ks ++ [kq]).length by simp] at h ⊢
                            exact (VR_iff _ _ _).2 ⟨_, rfl, h⟩
                          have hb103 : Below w10.heap.size w10 C3 := (HBM.out.trans (hb13.mono HBM.out.size)).trans (hC3.mono (Nat.le_trans HBM.out.size hb13.size))
                          have hbr3 : Below wr.heap.size wr C3 := hb13.trans (hC3.mono hb13.size)
                          have HM3 := Lib.hid (HM.out.below (fun x cs G hk h => VR_mono' _ _ x cs G hk h) hbr3)
                          have hYU : Under C3.heap.size (rowOf (.slice (some ⟨g7, 0, none⟩) (lp.ks.length + 1) cp7) ++ (Gc ++ Gk)) := fun b hb => by
                            rcases List.mem_append.1 hb with hb | hb
                            · exact (H3R.out b hb).2
                            · rcases List.mem_append.1 hb with hb | hb
                              · exact Nat.lt_of_lt_of_le (HVu.out b (HGc.out b hb)) hb103.size
                              · exact Nat.lt_of_lt_of_le (HKu.out b hb) hb103.size
                          have hYN : ∀ g ∈ rowOf (.slice mA (moreTo gp (m : Int) lp ki s).length mcap), g ∉ (rowOf (.slice (some ⟨g7, 0, none⟩) (lp.ks.length + 1) cp7) ++ (Gc ++ Gk)) := fun g hg hgG => by
                            have h1 := HM.out.row g hg
                            have h2 := hb13.size
                            rcases List.mem_append.1 hgG with hb | hb
                            · have := (H3R.out g hb).1; omega
                            · rcases List.mem_append.1 hb with hb | hb
                              · have := HVu.out g (HGc.out g hb); omega
                              · have := HKu.out g hb; omega
                          have HY7 : Hid (∀ b ∈ (rowOf (.slice (some ⟨g7, 0, none⟩) (lp.ks.length + 1) cp7) ++ (Gc ++ Gk)), w7.heap.size ≤ b) := fun b hb => by
                            have h2 := hb13.size
                            have h3 := HBM.out.size
                            rcases List.mem_append.1 hb with hb | hb
                            · have := (H3R.out b hb).1; omega
                            · rcases List.mem_append.1 hb with hb | hb
                              · exact HLL.out b (HVS.out b (HGc.out b hb))
                              · exact HKL.out b (HKs.out b hb)
                          have HYN := Lib.hid hYN
                          have HYU := Lib.hid hYU
                          clear hown3 hgr3 hat3 hYN hYU
                          (try dsimp only)
                          refine hK.out _ _ (HS.out _ hC3) (fun _ => trivial) ?_
                          clear hK K
                          (try simp only [Act.put, List.getElem_toArray, List.getElem_cons_zero, List.getElem_cons_succ, List.setIfInBounds_toArray, List.set_cons_zero, List.set_cons_succ])
                          have hS3 := HS.out _ hC3
                          refine wpAnyB_take (i := 8) (v := ?_) rfl (by decide) (by kernel_rfl) (by kernel_rfl) (by kernel_rfl) (fun _ _ _ h => h) (Or.inl ⟨by rfl, ?hy8⟩) hS3 (fun _ => hT0) ?_
                          case hy8 => (intro W hSw; (try dsimp only at hSw); (try obtain ⟨hSw0, hSw1, hSw2, hSw3⟩ := hSw); go_simp; try with_reducible rfl)
                          (try simp only [Act.put, List.getElem_toArray, List.getElem_cons_zero, List.getElem_cons_succ, List.setIfInBounds_toArray, List.set_cons_zero, List.set_cons_succ])
                          refine wpAnyB_ready (rs := [9]) (by kernel_rfl) (by simp) ?_
                          refine AllReadyB.cons rfl (fun K hK => ?_) AllReadyB.nil
                          go_simp
                          (try dsimp only)
                          refine hK.out _ _ (HS.out _ (hC3.alloc hC3.size _)) (fun _ => trivial) ?_
                          clear hK K
                          (try simp only [Act.put, List.getElem_toArray, List.getElem_cons_zero, List.getElem_cons_succ, List.setIfInBounds_toArray, List.set_cons_zero, List.set_cons_succ])
                          refine wpAnyB_ready (rs := [10]) (by kernel_rfl) (by simp) ?_
                          refine AllReadyB.cons rfl (fun K hK => ?_) AllReadyB.nil
                          refine step_push1 (P := Try.prog) rfl _ _ 39 rfl i0 _ 40 Try.underlying39 HI.out HZ0.out HZ1.out HZ2.out rfl (by decide) VR_len' VR_mono' (by rfl) HM3.out ⟨(m : Int), 0, lp.ks ++ [kq]⟩ 53 [.int .i64 (m : Int), .int .i64 0, .slice (some ⟨g7, 0, none⟩) (lp.ks.length + 1) cp7] (rowOf (.slice (some ⟨g7, 0, none⟩) (lp.ks.length + 1) cp7) ++ (Gc ++ Gk)) C3.heap.size (by rfl) rfl (by simp [Value.oneCell']) HYR.out HYU.out HYN.out hmx hby hb103.size ?_
                          intro g10 cp10 C5 hown5 hgr5 hat5
                          have hrow := HM3.out.row
                          have hB5 : Below w10.heap.size w10 C5 := (hb103.alloc hb103.size _).grown hgr5 (by simp; have := hb103.size; omega) (fun g hg => (hrow g (mem_rowOf.2 hg)).1)
                          have l7 : C3.heap.size ≤ (C3.alloc (.cells [.int .i64 (m : Int), .int .i64 0, .slice (some ⟨g7, 0, none⟩) (lp.ks.length + 1) cp7].toArray 53)).heap.size := by rw [World.size_alloc]; exact Nat.le_succ _
                          have hfar : ∀ p : Addr, p.block < C3.heap.size → some p.block ≠ (Value.ownBlock (.slice mA (moreTo gp (m : Int) lp ki s).length mcap)) → C5.cell? p = C3.cell? p := fun p h1 h2 => (World.grownBy.cell_far hgr5 p (Nat.lt_of_lt_of_le h1 l7) h2).trans (World.cell?_alloc_lt _ _ _ h1)
                          have nbb : some bb ≠ (Value.ownBlock (.slice mA (moreTo gp (m : Int) lp ki s).length mcap)) := fun e => HNB.out (mem_rowOf.2 e.symm)
                          have nb20 : some b20 ≠ (Value.ownBlock (.slice mA (moreTo gp (m : Int) lp ki s).length mcap)) := fun e => by have := (HM.out.row b20 (mem_rowOf.2 e.symm)).2; have := HB20.out; omega
                          have lbb : bb < C3.heap.size := Nat.lt_of_lt_of_le kltb hC3.size
                          have lb20 : b20 < C3.heap.size := Nat.lt_of_lt_of_le klt20 hC3.size
                          have hS5 : C5.cell? ⟨bb, 2, none⟩ = some (.slice vA lp.ks.length vcap) ∧ C5.cell? ⟨b20, 0, none⟩ = some (.int .i64 kq.c) ∧ C5.cell? ⟨b20, 1, none⟩ = some (.int .i64 kq.n) ∧ C5.cell? ⟨b20, 2, none⟩ = some (.slice nA kq.ks.length ncap) := ⟨(hfar ⟨bb, 2, none⟩ lbb nbb).trans hS3.1, (hfar ⟨b20, 0, none⟩ lb20 nb20).trans hS3.2.1, (hfar ⟨b20, 1, none⟩ lb20 nb20).trans hS3.2.2.1, (hfar ⟨b20, 2, none⟩ lb20 nb20).trans hS3.2.2.2⟩
                          have HK5 : Hid (Blk C5 bb 53 #[.int .i64 lp.c, .int .i64 lp.n, .slice vA lp.ks.length vcap]) := (((HK.out.same (hbr3.block _ HK.out.lt)).same (Below.heap_alloc _ _ _ lbb))).same (hgr5.block _ (Nat.lt_of_lt_of_le lbb l7) nbb)
                          have HN5 : Hid (bb ∉ rowOf (.slice (some ⟨g10, 0, none⟩) ((moreTo gp (m : Int) lp ki s).length + 1) cp10)) := fun h => by
                            rw [rowOf_some, List.mem_singleton] at h
                            rcases hat5 with h1 | h1
                            · exact nbb (by rw [h1, h])
                            · omega
                          have HF5 : Hid (∀ b ∈ Fn ++ (rowOf (.slice (some ⟨g7, 0, none⟩) (lp.ks.length + 1) cp7) ++ (Gc ++ Gk)), w7.heap.size ≤ b) := fun b hb => by
                            rcases List.mem_append.1 hb with hb | hb
                            · exact HFM.out b hb
                            · exact HY7.out b hb
                          have HO5 := Lib.hid hown5
                          clear hown5 hgr5 hat5 hrow hfar nbb nb20
                          (try dsimp only)
                          refine hK.out _ _ (hS5) (fun _ => trivial) ?_
                          clear hK K
                          (try simp only [Act.put, List.getElem_toArray, List.getElem_cons_zero, List.getElem_cons_succ, List.setIfInBounds_toArray, List.set_cons_zero, List.set_cons_succ])
                          refine wpAnyB_take (i := 11) (v := ?_) rfl (by decide) (by kernel_rfl) (by kernel_rfl) (by kernel_rfl) (fun _ _ _ h => h) (Or.inl ⟨by rfl, ?hy11⟩) hS5 (fun _ => hT0) ?_
                          case hy11 => (intro W hSw; (try dsimp only at hSw); (try obtain ⟨hSw0, hSw1, hSw2, hSw3⟩ := hSw); go_simp; try with_reducible rfl)
                          (try simp only [Act.put, List.getElem_toArray, List.getElem_cons_zero, List.getElem_cons_succ, List.setIfInBounds_toArray, List.set_cons_zero, List.set_cons_succ])
                          refine wpAnyB_end (by kernel_rfl) ?_
                          clear hS3 hS5 hS0 hT0 x0 x1 x2 x3
                          go_wp2
                          go_roundw
                          case rel => exact ⟨s + 1, _, hsl, by go_num, (by rw [HMS.out]; exact HO5.out), HF5.out, hB5, HK5.out, HN5.out⟩
                          case measure => (simp [intOf] <;> omega)
                      · have hs2 : s = ki.length := by omega
                        subst hs2
                        have HOM : Hid (Own wr w10.heap.size 53 3 VR (growTo (m : Int) li ki (p + 1)) (.slice mA (moreTo gp (m : Int) lp ki ki.length).length mcap) Fn) := by rw [HGS.out, ← moreTo_all gp (m : Int) lp ki (Nat.le_refl _)]; exact HM.out
                        go_wp2
                        go_roundw
                        case rel => exact ⟨p + 1, Fn, hpl, by go_num, HOM.out, HFM.out, HBM.out⟩
                        case measure => (simp [intOf] <;> omega)
                  · have hp2 : p = li.length := by omega
                    subst hp2
                    have hga := growTo_all (m : Int) li ki (Nat.le_refl _)
                    have HOM : Hid (Arr wq (VR wq) (argTo xs d (m : Int) ls (j + 1)) (.slice mA (growTo (m : Int) li ki li.length).length mcap) (if growTo (m : Int) li ki li.length = [] then [] else rowOf (.slice mA (growTo (m : Int) li ki li.length).length mcap) ++ Fm)) := by rw [HSU.out, ← hga]; exact HM.out.arr
                    have HUM : Hid (Under wq.heap.size (if growTo (m : Int) li ki li.length = [] then [] else rowOf (.slice mA (growTo (m : Int) li ki li.length).length mcap) ++ Fm)) := HM.out.under_arr
                    have HLM : Hid (∀ b ∈ (if growTo (m : Int) li ki li.length = [] then [] else rowOf (.slice mA (growTo (m : Int) li ki li.length).length mcap) ++ Fm), w7.heap.size ≤ b) := (fun b hb => ((HM.out.fresh (w0 := w7) h710 HFM.out) b hb).1)
                    have HB8b : Hid (Below w8.heap.size w8 wq) := HB8a.out.trans (HBM.out.mono HB8a.out.size)
                    clear hga
                    go_wp2
                    go_roundw
                    case rel => exact ⟨j + 1, _, hjl, by go_num, HOM.out, HUM.out, HLM.out, HB8b⟩
                    case measure => (simp [intOf] <;> omega)
              · have hj2 : j = ls.length := by omega
                subst hj2
                have hbl0 := HBF.out.all
                have HLB : Hid (Arr wp (VR wp) bl (.slice lA bl.length lcap) Fl) := by
                  have h := HL.out
                  rw [hbl0] at h
                  exact h
                have HOp := Lib.hid (HO8.out.below (fun x cs G hk h => VR_mono' _ _ x cs G hk h) HB8.out)
                have HB3p : Hid (Below w3.heap.size w3 wp) := HB38.out.trans (HB8.out.mono HB38.out.size)
                rw [hbl0]
                clear hbl0
                have hrn : ∀ g ∈ rowOf (.slice oA (valsTo xs d (⟨(q : Int), (r : Int)⟩ : Ty) i).length ocap), g ∉ Fl := fun g hg hgF => Nat.lt_irrefl _ (Nat.lt_of_lt_of_le (H7R.out g hg) (HLL.out g hgF))
                obtain ⟨v', w', G, hr, ho, hG, hgr, hat⟩ := run_append_all (P := Try.prog) 39 39 i0 _ 40 Try.underlying39 HI.out HZ0.out HZ1.out HZ2.out rfl (by decide) VR_len' VR_mono' VR_one HOp.out HLB.out HLU.out hrn (by omega) (by omega) HB3p.out.size
                have HB3n : Hid (Below w3.heap.size w3 w') := HB3p.out.grown hgr HB3p.out.size (fun g hg => (HOp.out.row g (mem_rowOf.2 hg)).1)
                rw [← HST.out] at ho
                have HON := Lib.hid ho
                have HFn : Hid (∀ b ∈ Fo ++ G, w.heap.size ≤ b) := fun b hb => by
                  rcases List.mem_append.1 hb with hb | hb
                  · exact HFo.out b hb
                  · exact Nat.le_trans h7w (HLL.out b (hG b hb))
                have HRUN := Lib.hid hr
                clear hr ho hG hgr hat hrn
                go_wp2_with (at_builtin; refine Halt.mk ?_)
                refine Halt.of (wpList_append_run rfl _ _ 39 rfl (by rfl) (by rfl) HRUN.out ?_)
                go_wp2
                go_roundw
                case rel => exact ⟨i + 1, _, hil, by go_num, HON.out, HFn.out, HB3n⟩
                case measure => (simp [intOf] <;> omega)
        · have HALL := Lib.hid (valsTo_all (xs := xs) (d := d) (t := (⟨(q : Int), (r : Int)⟩ : Ty)) HDN.out (i := i) (Nat.le_of_not_lt hil))
          have HFin : Hid (ValsP (valsL xs (d + 1) (⟨(q : Int), (r : Int)⟩ : Ty)) w (.returned (.slice oA (valsTo xs d (⟨(q : Int), (r : Int)⟩ : Ty) i).length ocap)) wo) := by rw [← HALL.out]; exact HO.out.vals hB hB3.size HFo.out
          go_wp2
          go_ret
          exact HFin.out
end Go.Proofs.Ytilndhmegaccmaa

namespace Go.Proofs.Ytilndhmegaccmaa
open Go.RowKit

set_option maxRecDepth 100000 in
set_option maxHeartbeats 1600000 in
theorem impl_ownValue_of (v : V) (ih : ∀ k ∈ v.ks, CopyV 67 k) : CopyV 67 v := by
  intro w cs G hv hg hz
  obtain ⟨kv, rfl, ha⟩ := (VR_iff _ _ _).1 hv
  obtain ⟨A4, cap4, rfl, hc3, hc4⟩ := ha.form
  obtain ⟨i0, hi, hz0, hz1, hz2⟩ := info_parts info_VE
  have IH := Lib.hid ih
  have HI := Lib.hid hi
  have HZ0 := Lib.hid hz0
  have HZ1 := Lib.hid hz1
  have HZ2 := Lib.hid hz2
  have HA := Lib.hid ha
  have HG := Lib.hid hg
  clear hi hz0 hz1 hz2 ha hg
  have hzk : V.sizes v.ks ≤ 1048576 := by obtain ⟨c, n, ks⟩ := v; exact hz
  have hkl : v.ks.length ≤ 1048576 := by rw [V.sizes_eq] at hzk; omega
  have HZ := Lib.hid hzk
  clear ih hv hz hzk
  have hB0 : Below w.heap.size w (((w.alloc (.cells #[.int .i64 v.c, .int .i64 v.n, .slice A4 v.ks.length cap4] 53)).alloc (.cells #[.int .i64 0, .int .i64 0, .slice none 0 0] 53)).alloc (.cells #[.int .i64 v.c, .int .i64 v.n, .slice none 0 0] 53)) := (((Below.refl _ _).alloc (Nat.le_refl _) _).alloc (by simp) _).alloc (by simp; omega) _
  have K0 : Hid (Blk (((w.alloc (.cells #[.int .i64 v.c, .int .i64 v.n, .slice A4 v.ks.length cap4] 53)).alloc (.cells #[.int .i64 0, .int .i64 0, .slice none 0 0] 53)).alloc (.cells #[.int .i64 v.c, .int .i64 v.n, .slice none 0 0] 53)) (w.heap.size + 2) 53 #[.int .i64 v.c, .int .i64 v.n, .slice none 0 0]) := by
    have h := Blk.new ((w.alloc (.cells #[.int .i64 v.c, .int .i64 v.n, .slice A4 v.ks.length cap4] 53)).alloc (.cells #[.int .i64 0, .int .i64 0, .slice none 0 0] 53)) 53 #[.int .i64 v.c, .int .i64 v.n, .slice none 0 0]
    rw [show ((w.alloc (.cells #[.int .i64 v.c, .int .i64 v.n, .slice A4 v.ks.length cap4] 53)).alloc (.cells #[.int .i64 0, .int .i64 0, .slice none 0 0] 53)).heap.size = w.heap.size + 2 from by simp] at h
    exact h
  have R0 : Hid (Blk (((w.alloc (.cells #[.int .i64 v.c, .int .i64 v.n, .slice A4 v.ks.length cap4] 53)).alloc (.cells #[.int .i64 0, .int .i64 0, .slice none 0 0] 53)).alloc (.cells #[.int .i64 v.c, .int .i64 v.n, .slice none 0 0] 53)) (w.heap.size + 1) 53 #[.int .i64 0, .int .i64 0, .slice none 0 0]) := by
    have h := Blk.new (w.alloc (.cells #[.int .i64 v.c, .int .i64 v.n, .slice A4 v.ks.length cap4] 53)) 53 #[.int .i64 0, .int .i64 0, .slice none 0 0]
    rw [World.size_alloc] at h
    exact h.same (Below.heap_alloc _ _ _ (by simp))
  have V0 : Hid (Blk (((w.alloc (.cells #[.int .i64 v.c, .int .i64 v.n, .slice A4 v.ks.length cap4] 53)).alloc (.cells #[.int .i64 0, .int .i64 0, .slice none 0 0] 53)).alloc (.cells #[.int .i64 v.c, .int .i64 v.n, .slice none 0 0] 53)) w.heap.size 53 #[.int .i64 v.c, .int .i64 v.n, .slice A4 v.ks.length cap4]) := ((Blk.new w _ _).same (Below.heap_alloc _ _ _ (by simp))).same (Below.heap_alloc _ _ _ (by simp; omega))
  have hs0 : (((w.alloc (.cells #[.int .i64 v.c, .int .i64 v.n, .slice A4 v.ks.length cap4] 53)).alloc (.cells #[.int .i64 0, .int .i64 0, .slice none 0 0] 53)).alloc (.cells #[.int .i64 v.c, .int .i64 v.n, .slice none 0 0] 53)).heap.size = w.heap.size + 2 + 1 := by simp
  go_enter Try.func67, Try.ntmps67
  go_wp2_with fail
  obtain ⟨w9, hw9⟩ : ∃ w9, w9 = (((w.alloc (.cells #[.int .i64 v.c, .int .i64 v.n, .slice A4 v.ks.length cap4] 53)).alloc (.cells #[.int .i64 0, .int .i64 0, .slice none 0 0] 53)).alloc (.cells #[.int .i64 v.c, .int .i64 v.n, .slice none 0 0] 53)) := ⟨_, rfl⟩
  rw [← hw9] at hB0 K0 V0 R0 hs0 ⊢
  clear hw9
  have y2 : w9.cell? ⟨w.heap.size, 2, none⟩ = some (.slice A4 v.ks.length cap4) := (V0.out.cell 2).trans (by simp)
  have vlt : w.heap.size < w9.heap.size := V0.out.lt
  go_wp2
  clear y2 vlt
  go_loopw [14] (fun iv wr => ∃ i : Nat, ∃ kv : Value, ∃ Fk : List Nat, i ≤ v.ks.length ∧ iv = .int .i64 i ∧ Hid (Blk wr (w.heap.size + 2) 53 #[.int .i64 v.c, .int .i64 v.n, kv]) ∧ Hid (Own wr (w.heap.size + 2 + 1) 53 3 VR (kidTo v.ks i) kv Fk) ∧ Hid (Free wr Fk) ∧ Hid (∀ b ∈ Fk, w.heap.size + 2 + 1 ≤ b) ∧ Hid (Chg [w.heap.size + 2] w9 wr) ∧ Below w.heap.size w wr ∧ w9.heap.size ≤ wr.heap.size) (fun iv _ => v.ks.length - (intOf iv).toNat)
  case atStart => exact ⟨0, _, [], Nat.zero_le _, rfl, K0, (show Own _ _ _ _ _ (kidTo v.ks 0) _ _ from Own.nil _ _ _ _ _), Free.nil _, (fun b hb => by cases hb), Chg.refl _ _, hB0, Nat.le_refl _⟩
  case round =>
    clear hB0 K0
    obtain ⟨i, kv, Fk, hi, rfl, KD, HO, HFk, HFh, HC, hB, hws⟩ := hrel
    obtain ⟨kA, kcap, hkv, hkc1, hkc2⟩ := HO.out.form
    subst hkv
    have klt := KD.out.lt
    by_cases hil : i < v.ks.length
    · obtain ⟨b4, off4, rfl⟩ := HA.out.ptr (by omega)
      have hb4w : b4 < w.heap.size := by obtain ⟨_, _, _, _, e, hb, -⟩ := HA.out.get VR_len hil; cases e; exact HG.out _ hb
      obtain ⟨A7, cap7, G7, hb7, k0, k1, k2, HV7, HG7, -, -, -⟩ := ArrV.at HA.out HG.out hB i hil
      have g1 : (0 : Int) ≤ (i : Int) := by omega
      have g2 : (i : Int) < (v.ks.length : Int) := by omega
      have hkk := kidTo_len v.ks i
      have HKS : Hid (v.ks[i].size ≤ 1048576) := by have h1 := V.sizes_mem2 v.ks i hil; have h2 := HZ.out; unfold Hid; omega
      have hmx : (kidTo v.ks i).length + 1 ≤ maxLen := by unfold maxLen; omega
      have hby : ((kidTo v.ks i).length + 1) * 40 ≤ 140737488355328 := by omega
      go_wp2_with fail
      obtain ⟨wk, hwk⟩ : ∃ wk, wk = wr.alloc (.cells #[.int .i64 v.ks[i].c, .int .i64 v.ks[i].n, .slice A7 v.ks[i].ks.length cap7] 53) := ⟨_, rfl⟩
      have hBk : Below wr.heap.size wr wk := by rw [hwk]; exact (Below.refl _ _).alloc (Nat.le_refl _) _
      have KK : Blk wk wr.heap.size 53 #[.int .i64 v.ks[i].c, .int .i64 v.ks[i].n, .slice A7 v.ks[i].ks.length cap7] := by rw [hwk]; exact Blk.new _ _ _
      have hwks : wk.heap.size = wr.heap.size + 1 := by rw [hwk]; simp
      rw [← hwk]
      clear hwk
      have z0 : wk.cell? ⟨wr.heap.size, 0, none⟩ = some (.int .i64 v.ks[i].c) := (KK.cell 0).trans (by simp)
      have z1 : wk.cell? ⟨wr.heap.size, 1, none⟩ = some (.int .i64 v.ks[i].n) := (KK.cell 1).trans (by simp)
      have z2 : wk.cell? ⟨wr.heap.size, 2, none⟩ = some (.slice A7 v.ks[i].ks.length cap7) := (KK.cell 2).trans (by simp)
      have KDk := KD.out.same (hBk.block _ KD.out.lt)
      have zT : wk.drew.cell? ⟨w.heap.size + 2, 2, none⟩ = some (.slice kA (kidTo v.ks i).length kcap) := (KDk.cell 2).trans (by simp)
      have zfT : wk.drew.frozen? ⟨w.heap.size + 2, 2, none⟩ = false := KDk.frozen 2
      have kklt : wr.heap.size < wk.drew.heap.size := KK.lt
      have hkT : w.heap.size + 2 < wk.drew.heap.size := KDk.lt
      clear KK KDk k0 k1 k2
      have HBk := Lib.hid hBk.drew
      clear hBk
      have HCALL := Lib.hid (IH.out v.ks[i] (List.getElem_mem hil) wk.drew _ G7 ((HV7.out.below hB HG7.out).below HBk.out (HG7.out.mono hB.size)) (HG7.out.mono (Nat.le_trans hB.size HBk.out.size)) HKS.out)
      refine wp_region_B (S := fun w' => w'.cell? ⟨wr.heap.size, 0, none⟩ = some (.int .i64 v.ks[i].c) ∧ w'.cell? ⟨wr.heap.size, 1, none⟩ = some (.int .i64 v.ks[i].n) ∧ w'.cell? ⟨wr.heap.size, 2, none⟩ = some (.slice A7 v.ks[i].ks.length cap7)) (T := fun w' => w'.cell? ⟨w.heap.size + 2, 2, none⟩ = some (.slice kA (kidTo v.ks i).length kcap)) (d := 5) (by kernel_rfl) ?_
      have hS1 : wk.drew.cell? ⟨wr.heap.size, 0, none⟩ = some (.int .i64 v.ks[i].c) ∧ wk.drew.cell? ⟨wr.heap.size, 1, none⟩ = some (.int .i64 v.ks[i].n) ∧ wk.drew.cell? ⟨wr.heap.size, 2, none⟩ = some (.slice A7 v.ks[i].ks.length cap7) := ⟨z0, z1, z2⟩
      have hT1 : wk.drew.cell? ⟨w.heap.size + 2, 2, none⟩ = some (.slice kA (kidTo v.ks i).length kcap) := zT
      refine wpAnyB_take (i := 0) (v := ?_) rfl (by decide) (by kernel_rfl) (by kernel_rfl) (by kernel_rfl) (fun _ _ _ h => h) (Or.inl ⟨by rfl, ?hy0⟩) hS1 (fun _ => hT1) ?_
      case hy0 => (intro W hSw; (try dsimp only at hSw); (obtain ⟨s0, s1, s2⟩ := hSw); go_simp; try with_reducible rfl)
      (try simp only [Act.put, List.setIfInBounds_toArray, List.set_cons_zero, List.set_cons_succ])
      refine wpAnyB_takeB (i := 1) (v := ?_) rfl (by decide) rfl (by kernel_rfl) (by kernel_rfl) (by kernel_rfl) (by kernel_rfl) (fun _ _ _ h => h) (Or.inl ⟨by rfl, ?hy1⟩) (by rfl) hS1 hT1 ?_
      case hy1 => (intro W hSw; (try dsimp only at hSw); (obtain ⟨⟨s0, s1, s2⟩, tT⟩ := hSw); go_simp; try with_reducible rfl)
      (try simp only [Act.put, List.setIfInBounds_toArray, List.set_cons_zero, List.set_cons_succ])
      refine wpAnyB_take (i := 2) (v := ?_) rfl (by decide) (by kernel_rfl) (by kernel_rfl) (by kernel_rfl) (fun _ _ _ h => h) (Or.inl ⟨by rfl, ?hy2⟩) hS1 (fun _ => hT1) ?_
      case hy2 => (intro W hSw; (try dsimp only at hSw); (obtain ⟨s0, s1, s2⟩ := hSw); go_simp; try with_reducible rfl)
      (try simp only [Act.put, List.setIfInBounds_toArray, List.set_cons_zero, List.set_cons_succ])
      refine wpAnyB_ready (rs := [3]) (by kernel_rfl) (by simp) ?_
      refine AllReadyB.cons rfl (fun K hK => ?_) AllReadyB.nil
      go_simp
      go_at_call 67
      with_reducible refine HCALL.out.mono ?_
      rintro e wA ⟨csA, FA, rfl, hbA, hpA, hfrA, hfsA⟩
      obtain ⟨kvA, rfl, haA⟩ := (VR_iff _ _ _).1 hpA
      obtain ⟨A8, cap8, rfl, -, -⟩ := haA.form
      clear haA
      have HBu := Lib.hid (HBk.out.trans (hbA.mono HBk.out.size))
      have HPA := Lib.hid hpA
      have HFrA := Lib.hid hfrA
      have HFsA : Hid (∀ b ∈ FA, wr.heap.size ≤ b ∧ b < wA.heap.size) := fun b hb => ⟨Nat.le_trans HBk.out.size (hfsA b hb).1, (hfsA b hb).2⟩
      have HOA : Hid (Own wA (w.heap.size + 2 + 1) 53 3 VR (kidTo v.ks i) (.slice kA (kidTo v.ks i).length kcap) Fk) := HO.out.below (fun x cs G hk h => VR_mono' _ _ x cs G hk h) HBu.out
      have hbs : w.heap.size + 2 + 1 ≤ wA.heap.size := by have := HBu.out.size; omega
      have hSA : wA.cell? ⟨wr.heap.size, 0, none⟩ = some (.int .i64 v.ks[i].c) ∧ wA.cell? ⟨wr.heap.size, 1, none⟩ = some (.int .i64 v.ks[i].n) ∧ wA.cell? ⟨wr.heap.size, 2, none⟩ = some (.slice A7 v.ks[i].ks.length cap7) := ⟨(hbA.cell (p := ⟨wr.heap.size, 0, none⟩) kklt).trans z0, (hbA.cell (p := ⟨wr.heap.size, 1, none⟩) kklt).trans z1, (hbA.cell (p := ⟨wr.heap.size, 2, none⟩) kklt).trans z2⟩
      have zA : wA.cell? ⟨w.heap.size + 2, 2, none⟩ = some (.slice kA (kidTo v.ks i).length kcap) := (hbA.cell (p := ⟨w.heap.size + 2, 2, none⟩) hkT).trans zT
      have zfA : wA.frozen? ⟨w.heap.size + 2, 2, none⟩ = false := (hbA.frozen hkT).trans zfT
      have hkA : w.heap.size + 2 < wA.heap.size := Nat.lt_of_lt_of_le hkT hbA.size
      have kl0 : wr.heap.size < wA.heap.size := Nat.lt_of_lt_of_le kklt hbA.size
      have kl1 : wr.heap.size < wA.heap.size := Nat.lt_of_lt_of_le kklt hbA.size
      have kl2 : wr.heap.size < wA.heap.size := Nat.lt_of_lt_of_le kklt hbA.size
      have hSB : (wA.alloc (.cells [.int .i64 v.ks[i].c, .int .i64 v.ks[i].n, .slice A8 v.ks[i].ks.length cap8].toArray 53)).cell? ⟨wr.heap.size, 0, none⟩ = some (.int .i64 v.ks[i].c) ∧ (wA.alloc (.cells [.int .i64 v.ks[i].c, .int .i64 v.ks[i].n, .slice A8 v.ks[i].ks.length cap8].toArray 53)).cell? ⟨wr.heap.size, 1, none⟩ = some (.int .i64 v.ks[i].n) ∧ (wA.alloc (.cells [.int .i64 v.ks[i].c, .int .i64 v.ks[i].n, .slice A8 v.ks[i].ks.length cap8].toArray 53)).cell? ⟨wr.heap.size, 2, none⟩ = some (.slice A7 v.ks[i].ks.length cap7) := ⟨(World.cell?_alloc_lt _ _ _ kl0).trans hSA.1, (World.cell?_alloc_lt _ _ _ kl1).trans hSA.2.1, (World.cell?_alloc_lt _ _ _ kl2).trans hSA.2.2⟩
      dsimp only
      refine hK.out _ _ hSA (fun _ => zA) ?_
      clear hK K
      (try simp only [Act.put, List.setIfInBounds_toArray, List.set_cons_zero, List.set_cons_succ])
      refine wpAnyB_ready (rs := [4]) (by kernel_rfl) (by simp) ?_
      refine AllReadyB.cons rfl (fun K hK => ?_) AllReadyB.nil
      go_simp
      refine hK.out _ _ hSB (fun _ => (World.cell?_alloc_lt _ _ _ hkA).trans zA) ?_
      clear hK K
      (try simp only [Act.put, List.setIfInBounds_toArray, List.set_cons_zero, List.set_cons_succ])
      refine wpAnyB_ready (rs := [5]) (by kernel_rfl) (by simp) ?_
      refine AllReadyB.cons rfl (fun K hK => ?_) AllReadyB.nil
      refine step_push1 (P := Try.prog) rfl _ _ 39 rfl i0 _ 40 Try.underlying39 HI.out HZ0.out HZ1.out HZ2.out rfl (by decide) VR_len' VR_mono' (by rfl) HOA.out v.ks[i] 53 [.int .i64 v.ks[i].c, .int .i64 v.ks[i].n, .slice A8 v.ks[i].ks.length cap8] FA wA.heap.size (by rfl) rfl (by simp [Value.oneCell']) HPA.out (fun b hb => (HFsA.out b hb).2) (fun g hg hG => Nat.lt_irrefl _ (Nat.lt_of_lt_of_le (HO.out.row g hg).2 (HFsA.out g hG).1)) hmx hby hbs ?_
      intro g cp w7 hown7 hgr7 hat7
      have hrow7 := HOA.out.row
      have n7 : ∀ x, (x < w.heap.size + 2 + 1 ∨ wr.heap.size ≤ x) → some x ≠ (Value.ownBlock (.slice kA (kidTo v.ks i).length kcap)) := fun x hx e => by
        have h1 := (hrow7 x (mem_rowOf.2 e.symm)).1
        have h2 := (HO.out.row x (mem_rowOf.2 e.symm)).2
        omega
      have l7 : wA.heap.size ≤ (wA.alloc (.cells [.int .i64 v.ks[i].c, .int .i64 v.ks[i].n, .slice A8 v.ks[i].ks.length cap8].toArray 53)).heap.size := by rw [World.size_alloc]; exact Nat.le_succ _
      have s7 : w7.cell? ⟨wr.heap.size, 0, none⟩ = some (.int .i64 v.ks[i].c) ∧ w7.cell? ⟨wr.heap.size, 1, none⟩ = some (.int .i64 v.ks[i].n) ∧ w7.cell? ⟨wr.heap.size, 2, none⟩ = some (.slice A7 v.ks[i].ks.length cap7) := ⟨(World.grownBy.cell_far hgr7 ⟨wr.heap.size, 0, none⟩ (Nat.lt_of_lt_of_le kl0 l7) (n7 (wr.heap.size) (by omega))).trans hSB.1, (World.grownBy.cell_far hgr7 ⟨wr.heap.size, 1, none⟩ (Nat.lt_of_lt_of_le kl1 l7) (n7 (wr.heap.size) (by omega))).trans hSB.2.1, (World.grownBy.cell_far hgr7 ⟨wr.heap.size, 2, none⟩ (Nat.lt_of_lt_of_le kl2 l7) (n7 (wr.heap.size) (by omega))).trans hSB.2.2⟩
      have z71 : w7.cell? ⟨w.heap.size + 2, 2, none⟩ = some (.slice kA (kidTo v.ks i).length kcap) := (World.grownBy.cell_far hgr7 ⟨w.heap.size + 2, 2, none⟩ (Nat.lt_of_lt_of_le hkA l7) (n7 (w.heap.size + 2) (by omega))).trans ((World.cell?_alloc_lt _ _ _ hkA).trans zA)
      have zf71 : w7.frozen? ⟨w.heap.size + 2, 2, none⟩ = false := (World.grownBy.frozen_far hgr7 ⟨w.heap.size + 2, 2, none⟩ (Nat.lt_of_lt_of_le hkA l7) (n7 (w.heap.size + 2) (by omega))).trans (Eq.trans (World.frozen?_of_block (Below.heap_alloc _ _ _ hkA)) zfA)
      refine hK.out _ _ s7 (fun h => by cases h) ?_
      clear hK K
      (try simp only [Act.put, List.setIfInBounds_toArray, List.set_cons_zero, List.set_cons_succ])
      refine wpAnyB_take (i := 6) (v := ?_) rfl (by decide) (by kernel_rfl) (by kernel_rfl) (by kernel_rfl) (fun _ _ _ h => h) (Or.inl ⟨by rfl, ?hy6⟩) s7 (fun h => by cases h) ?_
      case hy6 => (intro W hSw; (try dsimp only at hSw); (obtain ⟨s0, s1, s2⟩ := hSw); go_simp; try with_reducible rfl)
      (try simp only [Act.put, List.setIfInBounds_toArray, List.set_cons_zero, List.set_cons_succ])
      refine wpAnyB_ready (rs := [7]) (by kernel_rfl) (by simp) ?_
      refine AllReadyB.cons rfl (fun K hK => ?_) AllReadyB.nil
      go_simp
      refine hK.out _ _ ⟨(World.cell?_setCell_far _ _ _ _ (by show w.heap.size + 2 ≠ wr.heap.size; omega)).trans s7.1, (World.cell?_setCell_far _ _ _ _ (by show w.heap.size + 2 ≠ wr.heap.size; omega)).trans s7.2.1, (World.cell?_setCell_far _ _ _ _ (by show w.heap.size + 2 ≠ wr.heap.size; omega)).trans s7.2.2⟩ (fun h => by cases h) ?_
      clear hK K
      (try simp only [Act.put, List.setIfInBounds_toArray, List.set_cons_zero, List.set_cons_succ])
      refine wpAnyB_end (by kernel_rfl) ?_
      have HF2 := Lib.hid (kidTo_succ v.ks i hil)
      obtain ⟨r1, r2, r3, r4, r5, r6, r7⟩ := kid_round 2 VR_mono' hs0 KD.out HO.out HFk.out HFh.out HC.out hB (by omega) (Nat.le_refl _) HBu.out HFrA.out HFsA.out hown7 hgr7
      have R1 := Lib.hid r1
      have R2 := Lib.hid r2
      have R3 := Lib.hid r3
      have R4 := Lib.hid r4
      have R5 := Lib.hid r5
      have R6 := Lib.hid r6
      clear r1 r2 r3 r4 r5 r6 hown7 hgr7 hat7 hrow7 n7 l7 s7 z71 zf71 hSA zA zfA hkA hSB hS1 hT1 zT zfT hkT HCALL
      go_wp2
      go_roundw
      case rel => exact ⟨i + 1, _, _, hil, by go_num, R1, by rw [HF2.out]; exact R2.out, R3, R4, R5, R6.out, r7⟩
      case measure => (simp [intOf] <;> omega)
    · have HO2 := HO.out
      rw [kidTo_all v.ks (by omega)] at HO2
      have hln := congrArg List.length (kidTo_all v.ks (i := i) (by omega))
      obtain ⟨FF, hf1, hf2, hf3⟩ := kid_done (H := w.heap.size + 2 + 1) HO2 HFk.out HFh.out (Nat.le_refl _)
      have HF1 := Lib.hid hf1
      have HF2 := Lib.hid hf2
      have HF3 := Lib.hid hf3
      have e0 := (KD.out.cell 0).trans (show _ = some (.int .i64 v.c) from by simp)
      have e1 := (KD.out.cell 1).trans (show _ = some (.int .i64 v.n) from by simp)
      have e2 := (KD.out.cell 2).trans (show _ = some (.slice kA (kidTo v.ks i).length kcap) from by simp)
      have HLN := Lib.hid hln
      have RR := Lib.hid (R0.out.same (HC.out.block _ R0.out.lt (by simp)))
      have rlt := RR.out.lt
      have rc0 := (RR.out.cell 0).trans (show _ = some (.int .i64 0) from by simp)
      have rf0 := RR.out.frozen 0
      have rc1 := (RR.out.cell 1).trans (show _ = some (.int .i64 0) from by simp)
      have rf1 := RR.out.frozen 1
      have rc2 := (RR.out.cell 2).trans (show _ = some (.slice none 0 0) from by simp)
      have rf2 := RR.out.frozen 2
      clear hf1 hf2 hf3 HO2 hln
      go_wp2
      clear e0 e1 e2 rc0 rf0 rc1 rf1 rc2 rf2
      refine bodyPost_ret (results_cell_row rfl _ _ (w.heap.size + 1) 53 #[.int .i64 v.c, .int .i64 v.n, .slice kA (kidTo v.ks i).length kcap] (0, 0) _ rfl (RR.out.three _ _ _) Try.underlying53 rfl rfl) rfl ?_
      have hkp : Kept FF wr _ := kept_three (w := wr) (H := w.heap.size + 1) (fun b hb => by have := (HF3.out b hb).1; omega) (.int .i64 v.c) (.int .i64 v.n) (.slice kA (kidTo v.ks i).length kcap)
      refine ⟨[.int .i64 v.c, .int .i64 v.n, .slice kA (kidTo v.ks i).length kcap], FF, rfl, below_three hB (by omega) _ _ _, ?_, HF2.out.kept hkp, fun b hb => ⟨by have := (HF3.out b hb).1; omega, ?_⟩⟩
      · exact (VR_iff _ _ _).2 ⟨_, rfl, ArrV.mono (by rw [HLN.out]; exact HF1.out) hkp⟩
      · rw [size_three]; exact (HF3.out b hb).2
theorem impl_ownValue : ∀ v, CopyV 67 v := V.indv impl_ownValue_of
end Go.Proofs.Ytilndhmegaccmaa

namespace Go.Proofs.Ytilndhmegaccmaa
open Go.RowKit

set_option maxRecDepth 100000 in
set_option maxHeartbeats 6400000 in
theorem impl_ValuesUpTo (xs : List Dt) (t : Ty) (dp : Int) (w : World) (x : Value) (F : List Nat) (hx : Arr w (DtR w) xs x F) (hf : Under w.heap.size F) :
    Calls Try.prog 21 #[x, .agg #[.int .i64 t.d, .int .i64 t.i], .int .i64 dp] w (MadeVals2 (uptoV xs t dp) (uptoB xs t dp) w) := by
  obtain ⟨A, cap, rfl, hc1, hc2⟩ := hx.form
  obtain ⟨i0, hi, hz0, hz1, hz2⟩ := info_parts info_VE
  have HI := Lib.hid hi
  have HZ0 := Lib.hid hz0
  have HZ1 := Lib.hid hz1
  have HZ2 := Lib.hid hz2
  have HX := Lib.hid hx
  have HF := Lib.hid hf
  clear hi hz0 hz1 hz2 hx hf
  go_enter Try.func21, Try.ntmps21
  go_wp2_with fail
  obtain ⟨W2, hW2⟩ : ∃ W2, W2 = (w.alloc (.cells #[.int .i64 t.d, .int .i64 t.i] 32)) := ⟨_, rfl⟩
  have hB0 : Below w.heap.size w W2 := by rw [hW2]; exact (Below.refl _ _).alloc (Nat.le_refl _) _
  have KT : Hid (Blk W2 w.heap.size 32 #[.int .i64 t.d, .int .i64 t.i]) := by rw [hW2]; exact Blk.new w _ _
  rw [← hW2]
  clear hW2
  have y0 : W2.cell? ⟨w.heap.size, 0, none⟩ = some (.int .i64 t.d) := (KT.out.cell 0).trans (by simp)
  have y1 : W2.cell? ⟨w.heap.size, 1, none⟩ = some (.int .i64 t.i) := (KT.out.cell 1).trans (by simp)
  have ylt := KT.out.lt
  go_wp2_with fail
  refine (impl_TypeValid xs t W2 _ F (ArrDt.below HX.out hB0 HF.out) (HF.out.mono hB0.size)).mono ?_
  rintro e w3 ⟨rfl, hb3⟩
  have hB3 := hB0.trans (hb3.mono hB0.size)
  have KT3 := Lib.hid (KT.out.same (hb3.block _ KT.out.lt))
  clear hb3 KT y0 y1 ylt hB0
  cases e1 : typeValidB xs t with
  | false =>
    have HE : Hid (uptoB xs t dp = false) := by unfold Hid uptoB; rw [e1]; rfl
    clear e1
    have HFin : Hid (MadeVals2 (uptoV xs t dp) (uptoB xs t dp) w (.returned (.tuple #[.slice none 0 0, .bool false])) w3) := ⟨_, [], by rw [HE.out], hB3, by rw [uptoV_no HE.out]; exact Arr.nil, Free.nil _, Fresh.nil _ _⟩
    go_wp2
    go_ret2
    exact HFin.out
  | true =>
    obtain ⟨hw, hto⟩ := typeValid_split e1
    have HW := Lib.hid hw
    have HT := Lib.hid (typeOkB_tyIn hto)
    have HE1 := Lib.hid e1
    clear e1 hw hto
    go_wp2_with fail
    refine (impl_within dp 0 4 w3).mono ?_
    rintro e w4 ⟨rfl, hb4⟩
    subst hb4
    have hB4 := hB3
    have KT4 := KT3
    clear KT3
    cases e2 : withinB dp 0 4 with
    | false =>
      have HE : Hid (uptoB xs t dp = false) := by unfold Hid uptoB; rw [HE1.out, e2]; rfl
      clear e2
      have HFin : Hid (MadeVals2 (uptoV xs t dp) (uptoB xs t dp) w (.returned (.tuple #[.slice none 0 0, .bool false])) w3) := ⟨_, [], by rw [HE.out], hB4, by rw [uptoV_no HE.out]; exact Arr.nil, Free.nil _, Fresh.nil _ _⟩
      go_wp2
      go_ret2
      exact HFin.out
    | true =>
      have hr := (withinB_iff _ _ _).1 e2
      obtain ⟨n, rfl⟩ : ∃ n : Nat, dp = (n : Int) := ⟨dp.toNat, by omega⟩
      have hn4 : n ≤ 4 := by omega
      have HEQ : Hid (uptoB xs t (n : Int) = decide ((valsL xs n t).length ≤ 400)) := by unfold Hid uptoB; rw [HE1.out, e2]; rfl
      have HEV : Hid (uptoB xs t (n : Int) = true → uptoV xs t (n : Int) = valsL xs n t) := fun h => uptoV_yes h
      clear e2 hr
      have y0 : w3.cell? ⟨w.heap.size, 0, none⟩ = some (.int .i64 t.d) := (KT4.out.cell 0).trans (by simp)
      have y1 : w3.cell? ⟨w.heap.size, 1, none⟩ = some (.int .i64 t.i) := (KT4.out.cell 1).trans (by simp)
      have ylt := KT4.out.lt
      go_wp2_with fail
      refine (impl_countValues n xs HW.out t HT.out (by omega) w3 _ F (ArrDt.below HX.out hB4 HF.out) (HF.out.mono hB4.size)).mono ?_
      rintro e w5 ⟨rfl, hb5⟩
      have hB5 := hB4.trans (hb5.mono hB4.size)
      have KT5 := Lib.hid (KT4.out.same (hb5.block _ KT4.out.lt))
      have hbig := cntU_big xs n t
      clear hb5 KT4 y0 y1 ylt
      by_cases hc : 400 < cntU xs n t
      · have e3 : decide ((cntU xs n t : Int) > 400) = true := by simp; omega
        have HE : Hid (uptoB xs t (n : Int) = false) := by rw [HEQ.out]; exact decide_eq_false (by omega)
        clear hbig hc
        generalize cntU xs n t = cv at *
        have HFin : Hid (MadeVals2 (uptoV xs t (n : Int)) (uptoB xs t (n : Int)) w (.returned (.tuple #[.slice none 0 0, .bool false])) w5) := ⟨_, [], by rw [HE.out], hB5, by rw [uptoV_no HE.out]; exact Arr.nil, Free.nil _, Fresh.nil _ _⟩
        go_wp2
        go_ret2
        exact HFin.out
      · have e3 : decide ((cntU xs n t : Int) > 400) = false := by simp; omega
        have hlen : (valsL xs n t).length ≤ 400 := by omega
        have HE : Hid (uptoB xs t (n : Int) = true) := by rw [HEQ.out]; exact decide_eq_true hlen
        have HVE := Lib.hid (HEV.out HE.out)
        have HSM : Hid (∀ v ∈ valsL xs n t, v.size ≤ 60) := fun v hv => by
          have := (vals_small HW.out hn4 HT.out hv).1
          unfold nodes at this
          omega
        clear hbig hc
        generalize cntU xs n t = cv at *
        have y0 : w5.cell? ⟨w.heap.size, 0, none⟩ = some (.int .i64 t.d) := (KT5.out.cell 0).trans (by simp)
        have y1 : w5.cell? ⟨w.heap.size, 1, none⟩ = some (.int .i64 t.i) := (KT5.out.cell 1).trans (by simp)
        have ylt := KT5.out.lt
        go_wp2_with fail
        refine (impl_values n xs HW.out t HT.out (by omega) hlen w5 _ F (ArrDt.below HX.out hB5 HF.out) (HF.out.mono hB5.size)).mono ?_
        rintro e w6 ⟨v6, F6, rfl, hb6, ha6, hf6⟩
        have hB6 := hB5.trans (hb6.mono hB5.size)
        have HA6 := Lib.hid ha6
        have HU6 := Lib.hid hf6.under
        obtain ⟨A6, cap6, rfl, -, -⟩ := ha6.form
        generalize valsL xs n t = vs at *
        clear ha6 hf6 hb6 KT5 y0 y1 ylt e3
        go_wp2
        go_loopw [8, 32] (fun ov kv wr => ∃ k : Nat, ∃ Fo : List Nat, k ≤ vs.length ∧ kv = .int .i64 k ∧ Hid (Own wr w6.heap.size 53 3 VR (kidTo vs k) ov Fo) ∧ Hid (Free wr Fo) ∧ Hid (∀ b ∈ Fo, w6.heap.size ≤ b) ∧ Below w6.heap.size w6 wr) (fun _ kv _ => vs.length - (intOf kv).toNat)
        case atStart => exact ⟨0, [], Nat.zero_le _, rfl, (show Own _ _ _ _ _ (kidTo vs 0) _ _ from Own.nil _ _ _ _ _), Free.nil _, (fun b hb => by cases hb), Below.refl _ _⟩
        case round =>
          obtain ⟨k, Fo, hk, rfl, HO, HFo, HLo, hB⟩ := hrel
          obtain ⟨oA, ocap, hov, -, -⟩ := HO.out.form
          subst hov
          have hkl := kidTo_len vs k
          by_cases hlt : k < vs.length
          · have g1 : (0 : Int) ≤ (k : Int) := by omega
            have g2 : (k : Int) < (vs.length : Int) := by omega
            obtain ⟨b9, off9, rfl⟩ := HA6.out.ptr (by omega)
            obtain ⟨A7, cap7, G7, hb9, n0, n1, n2, HV7, HG7, -, -, -⟩ := ArrV.at HA6.out HU6.out hB k hlt
            have HS := Lib.hid (kidTo_succ vs k hlt)
            have HZK := Lib.hid (Nat.le_trans (HSM.out vs[k] (List.getElem_mem hlt)) (show 60 ≤ 1048576 by omega))
            obtain ⟨kq, hkq⟩ : ∃ u, u = vs[k] := ⟨_, rfl⟩
            rw [← hkq] at n0 n1 n2 HV7 HS HZK
            clear hkq
            have hmx : (kidTo vs k).length + 1 ≤ maxLen := by unfold maxLen; omega
            have hby : ((kidTo vs k).length + 1) * 40 ≤ 140737488355328 := by omega
            go_wp2_with fail
            obtain ⟨wk, hwk⟩ : ∃ X, X = (wr.alloc (.cells #[.int .i64 kq.c, .int .i64 kq.n, .slice A7 kq.ks.length cap7] 53)) := ⟨_, rfl⟩
            have hbk : Below wr.heap.size wr wk := by rw [hwk]; exact (Below.refl _ _).alloc (Nat.le_refl _) _
            rw [← hwk]
            clear hwk n0 n1 n2 hb9
            refine (impl_ownValue kq wk _ G7 ((HV7.out.below hB HG7.out).below hbk (HG7.out.mono hB.size)) (HG7.out.mono (Nat.le_trans hB.size hbk.size)) HZK.out).mono ?_
            rintro e w8 ⟨cs8, F8, rfl, hb8, hp8, hfr8, hfs8⟩
            obtain ⟨kv8, rfl, ha8⟩ := (VR_iff _ _ _).1 hp8
            obtain ⟨A8, cap8, rfl, -, -⟩ := ha8.form
            have hbr8 : Below wr.heap.size wr w8 := hbk.trans (hb8.mono hbk.size)
            have HO8 := Lib.hid (HO.out.below (fun x cs G hk h => VR_mono' _ _ x cs G hk h) hbr8)
            have HP8 := Lib.hid hp8
            have HFR8 := Lib.hid hfr8
            have HFS8 : Hid (∀ b ∈ F8, wr.heap.size ≤ b ∧ b < w8.heap.size) := fun b hb => ⟨Nat.le_trans hbk.size (hfs8 b hb).1, (hfs8 b hb).2⟩
            have hB8 : Below w6.heap.size w6 w8 := hB.trans (hbr8.mono hB.size)
            have HBR := Lib.hid hbr8
            clear ha8 hp8 hfr8 hfs8 hb8 hbk hbr8
            go_wp2_with (at_builtin; refine Halt.mk ?_)
            refine Halt.of (wpList_push1 (P := Try.prog) rfl _ _ 39 rfl i0 _ 40 Try.underlying39 HI.out HZ0.out HZ1.out HZ2.out rfl (by decide) VR_len' VR_mono' (by rfl) HO8.out kq 53 [.int .i64 kq.c, .int .i64 kq.n, .slice A8 kq.ks.length cap8] F8 _ (by rfl) (by simp) (by simp [Value.oneCell']) HP8.out (fun b hb => (HFS8.out b hb).2) (fun g hg hgF => Nat.lt_irrefl _ (Nat.lt_of_lt_of_le (HO.out.row g hg).2 (HFS8.out g hgF).1)) hmx hby hB8.size ?_)
            intro g cp w9 hown9 hgr9 hat9
            have hB9 : Below w6.heap.size w6 w9 := (hB8.alloc hB8.size _).grown hgr9 (by have := hB8.size; simp; omega) (fun g hg => (HO.out.row g (mem_rowOf.2 hg)).1)
            have HF9 : Hid (Free w9 (Fo ++ F8)) := push_free HFo.out HO.out.under HBR.out HFR8.out HFS8.out hgr9 HO.out.apart (fun g hg => (HO.out.row g hg).2)
            have HL9 : Hid (∀ b ∈ Fo ++ F8, w6.heap.size ≤ b) := fun b hb => by
              rcases List.mem_append.1 hb with hb | hb
              · exact HLo.out b hb
              · exact Nat.le_trans hB.size (HFS8.out b hb).1
            have HO9 := Lib.hid hown9
            clear hown9 hgr9 hat9
            go_wp2
            go_roundw
            case rel => exact ⟨k + 1, _, hlt, by go_num, (by rw [HS.out]; exact HO9.out), HF9.out, HL9.out, hB9⟩
            case measure => (simp [intOf] <;> omega)
          · have HAL := Lib.hid (kidTo_all vs (Nat.le_of_not_lt hlt))
            have HFin : Hid (MadeVals2 (uptoV xs t (n : Int)) (uptoB xs t (n : Int)) w (.returned (.tuple #[.slice oA (kidTo vs k).length ocap, .bool true])) wr) := by
              refine ⟨_, _, by rw [HE.out], hB6.trans (hB.mono hB6.size), ?_, HO.out.free HFo.out, HO.out.fresh hB6.size (fun b hb => Nat.le_trans hB6.size (HLo.out b hb))⟩
              have h := HO.out.arr
              rw [HAL.out] at h
              rw [HVE.out, HAL.out]
              exact h
            go_wp2
            go_ret2
            exact HFin.out
end Go.Proofs.Ytilndhmegaccmaa

namespace Go.Proofs.Ytilndhmegaccmaa
open Go.RowKit

/-- a count of nodes that stops beyond a number -/
structure Upto (v : V) (most : Int) (c : Int) : Prop where
  lo : 1 ≤ c
  hi : c ≤ nodes v
  yes : (nodes v : Int) ≤ most → c = nodes v
  no : most < nodes v → most < c
def CountPost (v : V) (most : Int) (w : World) (e : Ending) (w' : World) : Prop := ∃ c : Int, e = .returned (.int .i64 c) ∧ Upto v most c ∧ Below w.heap.size w w'
/-- contract of l2Count at one value -/
def CountS (v : V) : Prop := ∀ (most : Int) (_ : 0 ≤ most) (_ : most ≤ 1000) (w : World) (cs : List Value) (G : List Nat), VR w v cs G → Under w.heap.size G → nodes v ≤ 2000000 →
  Calls Try.prog 128 #[.agg cs.toArray, .int .i64 most] w (CountPost v most w)

set_option maxRecDepth 100000 in
set_option maxHeartbeats 1600000 in
theorem l2Count_of (v : V) (ih : ∀ k ∈ v.ks, CountS k) : CountS v := by
  intro most hm0 hm1 w cs G hv hg hz
  obtain ⟨kv, rfl, ha⟩ := (VR_iff _ _ _).1 hv
  obtain ⟨A4, cap4, rfl, hc3, hc4⟩ := ha.form
  have IH := Lib.hid ih
  have HZ := Lib.hid hz
  have HA := Lib.hid ha
  have HG := Lib.hid hg
  clear ha hg
  clear ih hv hz
  have hkl : v.ks.length ≤ 2000000 := by have := HZ.out; rw [nodes_ks, V.sizes_eq] at this; omega
  go_enter Try.func128, Try.ntmps128
  go_wp2
  have hB0 : Below w.heap.size w (w.alloc (.cells #[.int .i64 v.c, .int .i64 v.n, .slice A4 v.ks.length cap4] 53)) := (Below.refl _ _).alloc (Nat.le_refl _) _
  have K0 : Hid (Blk (w.alloc (.cells #[.int .i64 v.c, .int .i64 v.n, .slice A4 v.ks.length cap4] 53)) w.heap.size 53 #[.int .i64 v.c, .int .i64 v.n, .slice A4 v.ks.length cap4]) := Blk.new _ _ _
  go_loopw [5, 6] (fun nv iv wr => ∃ i : Nat, ∃ n : Int, i ≤ v.ks.length ∧ iv = .int .i64 i ∧ nv = .int .i64 n ∧ 1 ≤ n ∧ n ≤ 2000000 ∧ Hid (n ≤ 1 + (V.sizes (v.ks.take i) : Nat) ∧ (1 + ((V.sizes (v.ks.take i) : Nat) : Int) ≤ most → n = 1 + (V.sizes (v.ks.take i) : Nat)) ∧ (most < 1 + ((V.sizes (v.ks.take i) : Nat) : Int) → most < n)) ∧ Hid (Blk wr w.heap.size 53 #[.int .i64 v.c, .int .i64 v.n, .slice A4 v.ks.length cap4]) ∧ Below w.heap.size w wr) (fun _ iv _ => v.ks.length - (intOf iv).toNat)
  case atStart => exact ⟨0, 1, Nat.zero_le _, rfl, rfl, by omega, by omega, ⟨by simp [V.sizes], fun _ => by simp [V.sizes], fun h => by simpa [V.sizes] using h⟩, K0, hB0⟩
  case round =>
    clear hB0 K0
    obtain ⟨i, n, hi, rfl, rfl, hn1, hn2, HN, KV, hB⟩ := hrel
    have z2 : wr.cell? ⟨w.heap.size, 2, none⟩ = some (.slice A4 v.ks.length cap4) := (KV.out.cell 2).trans (by simp)
    have klt := KV.out.lt
    have hend : (¬ (i < v.ks.length ∧ n ≤ most)) → CountPost v most w (.returned (.int .i64 n)) wr := fun h => by
      have h1 := HN.out
      have h2 := sizes_take_le v.ks i
      have h3 := nodes_ks v
      refine ⟨n, rfl, ⟨hn1, by omega, fun hy => ?_, fun hno => ?_⟩, hB⟩
      · by_cases hil : i < v.ks.length
        · have : ¬ n ≤ most := fun hnm => h ⟨hil, hnm⟩
          have := h1.2.1 (by omega)
          omega
        · rw [List.take_of_length_le (by omega)] at h1
          have := h1.2.1 (by omega)
          omega
      · by_cases hil : i < v.ks.length
        · have : ¬ n ≤ most := fun hnm => h ⟨hil, hnm⟩
          omega
        · rw [List.take_of_length_le (by omega)] at h1
          exact h1.2.2 (by omega)
    have HEnd := Lib.hid hend
    clear hend
    by_cases hil : i < v.ks.length
    · have t1 : decide ((i : Int) < (v.ks.length : Int)) = true := by simp; omega
      by_cases hnm : n ≤ most
      · have t2 : decide (n ≤ most) = true := by simpa using hnm
        obtain ⟨b4, off4, rfl⟩ := HA.out.ptr (by omega)
        obtain ⟨A7, cap7, G7, hb7, k0, k1, k2, HV7, HG7, -, -, -⟩ := ArrV.at HA.out HG.out hB i hil
        have g1 : (0 : Int) ≤ (i : Int) := by omega
        have g2 : (i : Int) < (v.ks.length : Int) := by omega
        have hst := sizes_step hil
        have hsl := sizes_take_le v.ks (i + 1)
        have hnk := nodes_ks v
        have hz := HZ.out
        have hkz : nodes v.ks[i] ≤ 2000000 := by omega
        have HKZ := Lib.hid hkz
        have HST := Lib.hid (And.intro hst (And.intro hsl hnk))
        clear hst hsl hnk hz hkz
        go_wp2_with fail
        refine (IH.out v.ks[i] (List.getElem_mem hil) (most - n) (by omega) (by omega) wr _ G7 (HV7.out.below hB HG7.out) (HG7.out.mono hB.size) HKZ.out).mono ?_
        rintro e w' ⟨c, rfl, hu, hB'⟩
        have hB3 := hB.trans (hB'.mono hB.size)
        have KV3 := Lib.hid (KV.out.same (hB'.block _ KV.out.lt))
        have hc1 := hu.lo
        have hN2 : Hid (n + c ≤ 1 + (V.sizes (v.ks.take (i + 1)) : Nat) ∧ (1 + ((V.sizes (v.ks.take (i + 1)) : Nat) : Int) ≤ most → n + c = 1 + (V.sizes (v.ks.take (i + 1)) : Nat)) ∧ (most < 1 + ((V.sizes (v.ks.take (i + 1)) : Nat) : Int) → most < n + c)) := by
          have h1 := HN.out
          obtain ⟨h2, h3, h4⟩ := HST.out
          have h5 := hu.hi
          have h6 := hu.yes
          have h7 := hu.no
          have h8 : n = 1 + ((V.sizes (v.ks.take i) : Nat) : Int) := by
            rcases Int.lt_or_le most (1 + ((V.sizes (v.ks.take i) : Nat) : Int)) with h | h
            · have := h1.2.2 h; omega
            · exact h1.2.1 h
          refine ⟨by omega, fun hy => ?_, fun hno => ?_⟩
          · have := h6 (by omega); omega
          · have := h7 (by omega); omega
        have hn3 : n + c ≤ 2000000 := by
          have h1 := hN2.out.1
          obtain ⟨h2, h3, h4⟩ := HST.out
          have := HZ.out
          omega
        clear hu t1 t2 z2 klt k0 k1 k2 hB'
        go_wp2
        go_roundw
        case rel => exact ⟨i + 1, n + c, by omega, by go_num, rfl, by omega, hn3, hN2, KV3, hB3⟩
        case measure => (simp [intOf] <;> omega)
      · have t2 : decide (n ≤ most) = false := by simpa using hnm
        have HFin := Lib.hid (HEnd.out (fun h => hnm h.2))
        go_wp2
        go_ret
        exact HFin.out
    · have t1 : decide ((i : Int) < (v.ks.length : Int)) = false := by simp; omega
      have HFin := Lib.hid (HEnd.out (fun h => hil h.1))
      go_wp2
      go_ret
      exact HFin.out
theorem spec_l2Count : ∀ v, CountS v := V.indv l2Count_of
end Go.Proofs.Ytilndhmegaccmaa
