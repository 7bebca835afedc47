/-
  Lemmas and contracts of functions: A least value of a type: the walk of the reference. Conditions: the world is valid, the type has values. PatternOf of both. Conditions: no more than a million nodes. LeastValue of both. Conditions: none. Least values are valid and as deep as the table says. Conditions: the world is valid. A least value is among the values up to its depth. Conditions: none.
-/
import Derived.Test.YtilndhmegaccmaaKAG
import Derived.Test.YtilndhmegaccmaaKAF
import Derived.Test.YtilndhmegaccmaaKAH
import Derived.Test.YtilndhmegaccmaaKAC
import Derived.Deep.RegionWith
import Derived.Test.YtilndhmegaccmaaKAA
import Derived.Deep.RegionHeld3
import Derived.Deep.Cut
import Derived.Test.YtilndhmegaccmaaKAE

set_option linter.unusedVariables false
set_option linter.unusedSimpArgs false

namespace Go.Proofs.Ytilndhmegaccmaa
open Go.RowKit

set_option maxRecDepth 100000 in
set_option maxHeartbeats 1600000 in
theorem spec_least : ∀ (n : Nat), ∀ (xs : List Dt) (_ : WorldOK xs) (t : Ty) (_ : TyIn xs.length t) (_ : depthIn (tableL xs) t ≠ 0) (_ : depthIn (tableL xs) t ≤ ((n : Nat) : Int)) (_ : n ≤ 10) (w : World) (x : Value) (F : List Nat) (u : Value) (H : List Nat), Arr w (DtR w) xs x F → Under w.heap.size F → Arr w (NatR w) (tableL xs) u H → Under w.heap.size H →
    Calls Try.prog 83 #[x, u, .agg #[.int .i64 t.d, .int .i64 t.i]] w (MadeVt (leastV xs n t) w) := by
  intro n
  induction n with
  | zero =>
    intro xs hw t ht h0 hn _
    exfalso
    have := (tableL_small hw).dep t
    simp only [Int.natCast_zero] at hn
    omega
  | succ n ih =>
    intro xs hw t ht h0 hn h10 w x F u H hx hf hy hh
    have IH := Lib.hid ih
    clear ih
    obtain ⟨A, cap, rfl, hc1, hc2⟩ := hx.form
    rcases id ht with hti | ⟨d, i, rfl, hd4, hi4⟩
    · have t0 : (t.d == -1) = true := by simp [hti]
      have HP := Lib.hid (leastV_int (xs := xs) (n := n) hti)
      have K0 : Hid (Blk ((w.alloc (.cells #[.int .i64 t.d, .int .i64 t.i] 32)).alloc (.cells #[.int .i64 0, .int .i64 0, .slice none 0 0] 53)) (w.heap.size + 1) 53 #[.int .i64 0, .int .i64 0, .slice none 0 0]) := blk_second w _ 53 _
      have HB0 : Hid (Below w.heap.size w ((w.alloc (.cells #[.int .i64 t.d, .int .i64 t.i] 32)).alloc (.cells #[.int .i64 0, .int .i64 0, .slice none 0 0] 53))) := ((Below.refl _ _).alloc (Nat.le_refl _) _).alloc (by simp) _
      clear hn h0 ht hti hx hf hy hh
      go_enter Try.func83, Try.ntmps83
      go_wp2_with fail
      first
      | refine bodyPost_ret (results_cell_row rfl _ _ (w.heap.size + 1) 53 #[.int .i64 (-1), .int .i64 0, .slice none 0 0] (0, 0) _ rfl (blk_second _ _ _ _) Try.underlying53 rfl rfl) rfl ?_
        exact ⟨[.int .i64 (-1), .int .i64 0, .slice none 0 0], [], rfl, ((Below.refl _ _).alloc (Nat.le_refl _) _).alloc (by simp) _, by rw [HP.out]; exact (VR_iff _ _ _).2 ⟨_, rfl, Arr.nil⟩, Free.nil _, Fresh.nil _ _⟩
      | refine bodyPost_ret (results_cell_row rfl _ _ (w.heap.size + 1) 53 #[.int .i64 (-1), .int .i64 0, .slice none 0 0] (0, 0) _ rfl (K0.out.three _ _ _) Try.underlying53 rfl rfl) rfl ?_
        exact ⟨[.int .i64 (-1), .int .i64 0, .slice none 0 0], [], rfl, below_three HB0.out (by omega) _ _ _, by rw [HP.out]; exact (VR_iff _ _ _).2 ⟨_, rfl, Arr.nil⟩, Free.nil _, Fresh.nil _ _⟩
    · have t0 : ((d : Int) == -1) = false := by rw [beq_eq_false_iff_ne]; omega
      have hdn : ¬ (⟨(d : Int), (i : Int)⟩ : Ty).d = -1 := by simp only; omega
      obtain ⟨kf, hkf⟩ := least_find hw ht hdn h0
      have HFI := Lib.hid hkf
      have HDN := Lib.hid hdn
      have HW := Lib.hid hw
      have HT := Lib.hid ht
      have H0 := Lib.hid h0
      have HN := Lib.hid hn
      obtain ⟨U, ucap, rfl, hu1, hu2⟩ := hy.form
      have HX := Lib.hid hx
      have HF := Lib.hid hf
      have HY := Lib.hid hy
      have HH := Lib.hid hh
      clear hx hf hy hh
      clear hkf hdn hw ht h0 hn
      go_enter Try.func83, Try.ntmps83
      go_wp2_with fail
      obtain ⟨W2, hW2⟩ : ∃ W2, W2 = ((w.alloc (.cells #[.int .i64 (d : Int), .int .i64 (i : Int)] 32)).alloc (.cells #[.int .i64 0, .int .i64 0, .slice none 0 0] 53)) := ⟨_, rfl⟩
      have hB0 : Below w.heap.size w W2 := by rw [hW2]; exact ((Below.refl _ _).alloc (Nat.le_refl _) _).alloc (by simp) _
      have KT : Hid (Blk W2 w.heap.size 32 #[.int .i64 (d : Int), .int .i64 (i : Int)]) := by rw [hW2]; exact (Blk.new w _ _).same (Below.heap_alloc _ _ _ (by simp))
      have KR : Hid (Blk W2 (w.heap.size + 1) 53 #[.int .i64 0, .int .i64 0, .slice none 0 0]) := by rw [hW2]; exact blk_second w _ _ _
      rw [← hW2]
      clear hW2
      have y0 : W2.cell? ⟨w.heap.size, 0, none⟩ = some (.int .i64 (d : Int)) := (KT.out.cell 0).trans (by simp)
      have y1 : W2.cell? ⟨w.heap.size, 1, none⟩ = some (.int .i64 (i : Int)) := (KT.out.cell 1).trans (by simp)
      have ylt := KT.out.lt
      go_wp2_with fail
      refine (spec_l1Ctors xs ⟨(d : Int), (i : Int)⟩ W2 _ F (ArrDt.below HX.out hB0 HF.out) (HF.out.mono hB0.size) HW.out HT.out.inWorld).mono ?_
      rintro e w3 ⟨v3, F3, rfl, hb3, ha3, -, hfs3⟩
      have hB3 := hB0.trans (hb3.mono hB0.size)
      have KT3 := Lib.hid (KT.out.same (hb3.block _ KT.out.lt))
      have KR3 := Lib.hid (KR.out.same (hb3.block _ KR.out.lt))
      have HA3 := Lib.hid ha3
      have HU3 := Lib.hid hfs3.under
      have HL3 := Lib.hid (fun b hb => (hfs3 b hb).1)
      have hW2s := hB0.size
      obtain ⟨C3, cap3, rfl, hl1, hl2⟩ := ha3.form
      clear ha3 hfs3 hb3 KT KR y0 y1 ylt hB0
      go_wp2
      go_loopw [8] (fun iv wr => ∃ j : Nat, j ≤ (ctorsL xs ⟨(d : Int), (i : Int)⟩).length ∧ iv = .int .i64 j ∧ Hid (((ctorsL xs ⟨(d : Int), (i : Int)⟩).drop j).find? (isLeast xs ⟨(d : Int), (i : Int)⟩) = some kf) ∧ Hid (Below w3.heap.size w3 wr)) (fun iv _ => (ctorsL xs ⟨(d : Int), (i : Int)⟩).length - (intOf iv).toNat)
      case atStart => exact ⟨0, Nat.zero_le _, rfl, HFI.out, Below.refl _ _⟩
      case round =>
        obtain ⟨j, hj, rfl, HFJ, HBJ⟩ := hrel
        obtain ⟨wo, hwo⟩ : ∃ wo, wo = wr := ⟨_, rfl⟩
        rw [← hwo] at HBJ ⊢
        clear hwo
        have hB := hB3.trans (HBJ.out.mono hB3.size)
        have KTo := Lib.hid (KT3.out.same (HBJ.out.block _ KT3.out.lt))
        have y0 : wo.cell? ⟨w.heap.size, 0, none⟩ = some (.int .i64 (d : Int)) := (KTo.out.cell 0).trans (by simp)
        have y1 : wo.cell? ⟨w.heap.size, 1, none⟩ = some (.int .i64 (i : Int)) := (KTo.out.cell 1).trans (by simp)
        have ylt := KTo.out.lt
        by_cases hjl : j < (ctorsL xs ⟨(d : Int), (i : Int)⟩).length
        · have g1 : (0 : Int) ≤ (j : Int) := by omega
          have g2 : (j : Int) < ((ctorsL xs ⟨(d : Int), (i : Int)⟩).length : Int) := by omega
          obtain ⟨b3, off3, rfl⟩ := HA3.out.ptr (by omega)
          obtain ⟨hb3l, c3⟩ := ArrNat.at HA3.out HU3.out HBJ.out j hjl
          have hmj := find_step (p := isLeast xs ⟨(d : Int), (i : Int)⟩) hjl
          obtain ⟨d', m, e1, hkm, hd', hm⟩ := mem_ctorsL HT.out.inWorld (List.getElem_mem hjl)
          obtain rfl : d = d' := Int.ofNat.inj e1
          have hme : (ctorsL xs ⟨(d : Int), (i : Int)⟩)[j] ∈ (ctorsL xs ⟨(d : Int), (i : Int)⟩) := List.getElem_mem hjl
          rw [hkm] at hmj c3
          rw [hkm] at hme
          have HMJ := Lib.hid hmj
          have HME := Lib.hid hme
          have HIL : Hid (isLeast xs ⟨(d : Int), (i : Int)⟩ (m : Int) = (mostIn xs (tableL xs) ⟨(d : Int), (i : Int)⟩ (m : Int) == depthIn (tableL xs) ⟨(d : Int), (i : Int)⟩)) := rfl
          have HKJ := Lib.hid hkm
          clear hkm e1 hmj hme
          go_wp2_with fail
          have hkeep : ∀ U U' : World, (U.cell? ⟨w.heap.size, 0, none⟩ = some (.int .i64 (d : Int)) ∧ U.cell? ⟨w.heap.size, 1, none⟩ = some (.int .i64 (i : Int)) ∧ U.cell? ⟨b3, off3 + j, none⟩ = some (.int .i64 (m : Int))) → Below U.heap.size U U' → wo.heap.size ≤ U.heap.size → (U'.cell? ⟨w.heap.size, 0, none⟩ = some (.int .i64 (d : Int)) ∧ U'.cell? ⟨w.heap.size, 1, none⟩ = some (.int .i64 (i : Int)) ∧ U'.cell? ⟨b3, off3 + j, none⟩ = some (.int .i64 (m : Int))) := fun U U' h hUU hU => ⟨(hUU.cell (Nat.lt_of_lt_of_le (ylt) hU)).trans h.1, (hUU.cell (Nat.lt_of_lt_of_le (ylt) hU)).trans h.2.1, (hUU.cell (Nat.lt_of_lt_of_le (hb3l) hU)).trans h.2.2⟩
          have HKeep := Lib.hid hkeep
          clear hkeep
          go_region_held3 (fun w' => w'.cell? ⟨w.heap.size, 0, none⟩ = some (.int .i64 (d : Int)) ∧ w'.cell? ⟨w.heap.size, 1, none⟩ = some (.int .i64 (i : Int)) ∧ w'.cell? ⟨b3, off3 + j, none⟩ = some (.int .i64 (m : Int))) (first | assumption | (exact ⟨y0, y1, c3⟩) | (exact HKeep.out wo.drew w5 ⟨y0, y1, c3⟩ hb5 (Nat.le_refl _)) | (exact HKeep.out w5 w6 (by assumption) hb6 hlew5)) (first | (go_at_call 126; ((with_reducible refine (spec_l1Most xs HW.out (tableL xs) (tableL_small HW.out) d i m hd4 hi4 hm _ _ _ F H (ArrDt.below HX.out hB.drew HF.out) (HF.out.mono hB.drew.size) (ArrNat.below HY.out hB.drew HH.out) (HH.out.mono hB.drew.size)).mono ?_); rintro e w5 ⟨rfl, hb5⟩); have hB5 := hB.drew.trans (hb5.mono hB.size); have hlew5 : wo.heap.size ≤ w5.heap.size := hb5.size) | (go_at_call 125; ((with_reducible refine (spec_l1Depth xs.length HW.out.len (tableL xs) (tableL_small HW.out) ⟨(d : Int), (i : Int)⟩ HT.out _ _ H (ArrNat.below HY.out hB5 HH.out) (HH.out.mono hB5.size)).mono ?_); rintro e w6 ⟨rfl, hb6⟩)))
          have hb56 := hb5.trans (hb6.mono hb5.size)
          have hB6 := hB.drew.trans (hb56.mono hB.size)
          have HB36 : Hid (Below w3.heap.size w3 w6) := HBJ.out.trans ((below_undrew hb56).mono HBJ.out.size)
          have KT6 := Lib.hid (KTo.out.same ((below_undrew hb56).block _ KTo.out.lt))
          clear hb5 hb6 hB5 y0 y1 ylt c3 hb3l hb56 KTo
          cases hq : (mostIn xs (tableL xs) ⟨(d : Int), (i : Int)⟩ (m : Int) == depthIn (tableL xs) ⟨(d : Int), (i : Int)⟩) with
          | false =>
            have hne : (mostIn xs (tableL xs) ⟨(d : Int), (i : Int)⟩ (m : Int) != depthIn (tableL xs) ⟨(d : Int), (i : Int)⟩) = true := by unfold bne; rw [hq]; rfl
            have HF2 : Hid (((ctorsL xs ⟨(d : Int), (i : Int)⟩).drop (j + 1)).find? (isLeast xs ⟨(d : Int), (i : Int)⟩) = some kf) := by
              have h1 := HFJ.out
              rw [HMJ.out, HIL.out, hq, if_neg (by simp)] at h1
              exact h1
            generalize mostIn xs (tableL xs) ⟨(d : Int), (i : Int)⟩ (m : Int) = mo at *
            generalize depthIn (tableL xs) ⟨(d : Int), (i : Int)⟩ = de at *
            clear hq
            go_wp2
            go_roundw
            case rel => exact ⟨j + 1, hjl, by go_num, HF2, HB36⟩
            case measure => (simp [intOf] <;> omega)
          | true =>
            have hne : (mostIn xs (tableL xs) ⟨(d : Int), (i : Int)⟩ (m : Int) != depthIn (tableL xs) ⟨(d : Int), (i : Int)⟩) = false := by unfold bne; rw [hq]; rfl
            have hkf : kf = (m : Int) := by
              have h1 := HFJ.out
              rw [HMJ.out, HIL.out, hq, if_pos rfl] at h1
              exact (Option.some.inj h1).symm
            subst hkf
            have HP := Lib.hid (leastV_some (n := n) HDN.out HFI.out)
            have hal := argsOf_get (i := (i : Int)) hd4 hm
            have HAL : Hid (∀ a ∈ argsL xs[d].ctors[m] (i : Int), TyIn xs.length a ∧ depthIn (tableL xs) a ≠ 0 ∧ depthIn (tableL xs) a ≤ ((n : Nat) : Int)) := fun a ha => by
              have h1 := least_args HW.out HT.out HME.out (HIL.out.trans hq) H0.out (a := a) (by rw [hal]; exact ha)
              have h2 := HN.out
              exact ⟨h1.1, h1.2.1, by push_cast at h2; omega⟩
            have hl3 : (argsL xs[d].ctors[m] (i : Int)).length ≤ 3 := by rw [argsL_len]; exact (HW.out.ctor hd4 hm).args
            rw [hal] at HP
            have hca := (HW.out.ctor hd4 hm).args
            clear hq hal
            generalize mostIn xs (tableL xs) ⟨(d : Int), (i : Int)⟩ (m : Int) = mo at *
            generalize depthIn (tableL xs) ⟨(d : Int), (i : Int)⟩ = de at *
            have y0 : w6.cell? ⟨w.heap.size, 0, none⟩ = some (.int .i64 (d : Int)) := (KT6.out.cell 0).trans (by simp)
            have y1 : w6.cell? ⟨w.heap.size, 1, none⟩ = some (.int .i64 (i : Int)) := (KT6.out.cell 1).trans (by simp)
            have ylt := KT6.out.lt
            obtain ⟨hb3n, c3n⟩ := ArrNat.at HA3.out HU3.out HB36.out j hjl
            rw [HKJ.out] at c3n
            go_wp2_with fail
            clear y0 y1 ylt c3n hb3n
            have hD0 := hB6.size
            obtain ⟨wn, hwn⟩ : ∃ wn, wn = w6.alloc (.cells #[.int .i64 (m : Int), .int .i64 0, .slice none 0 0] 53) := ⟨_, rfl⟩
            have hbn : Below w6.heap.size w6 wn := by rw [hwn]; exact (Below.refl _ _).alloc (Nat.le_refl _) _
            have KN : Hid (Blk wn w6.heap.size 53 #[.int .i64 (m : Int), .int .i64 0, .slice none 0 0]) := by rw [hwn]; exact Blk.new _ _ _
            rw [← hwn]
            clear hwn
            obtain ⟨D, hD⟩ : ∃ D, D = w6.heap.size := ⟨_, rfl⟩
            rw [← hD] at KN hbn hD0 ⊢
            have hBn := hB6.trans (hbn.mono hD0)
            have KTn := Lib.hid (KT6.out.same (hbn.block _ (by rw [hD]; exact KT6.out.lt)))
            have HB3n : Hid (Below w3.heap.size w3 wn) := HB36.out.trans (hbn.mono (by rw [hD]; exact HB36.out.size))
            have h3D : w3.heap.size ≤ D := by rw [hD]; exact HB36.out.size
            clear hbn HB36 hB6 KT6 hD
            have y0 : wn.cell? ⟨w.heap.size, 0, none⟩ = some (.int .i64 (d : Int)) := (KTn.out.cell 0).trans (by simp)
            have y1 : wn.cell? ⟨w.heap.size, 1, none⟩ = some (.int .i64 (i : Int)) := (KTn.out.cell 1).trans (by simp)
            have ylt := KTn.out.lt
            obtain ⟨hb3n, c3n⟩ := ArrNat.at HA3.out HU3.out HB3n.out j hjl
            rw [HKJ.out] at c3n
            have hkeep : ∀ U U' : World, (U.cell? ⟨w.heap.size, 0, none⟩ = some (.int .i64 (d : Int)) ∧ U.cell? ⟨w.heap.size, 1, none⟩ = some (.int .i64 (i : Int)) ∧ U.cell? ⟨b3, off3 + j, none⟩ = some (.int .i64 (m : Int))) → Below U.heap.size U U' → wn.heap.size ≤ U.heap.size → (U'.cell? ⟨w.heap.size, 0, none⟩ = some (.int .i64 (d : Int)) ∧ U'.cell? ⟨w.heap.size, 1, none⟩ = some (.int .i64 (i : Int)) ∧ U'.cell? ⟨b3, off3 + j, none⟩ = some (.int .i64 (m : Int))) := fun U U' h hUU hU => ⟨(hUU.cell (Nat.lt_of_lt_of_le (ylt) hU)).trans h.1, (hUU.cell (Nat.lt_of_lt_of_le (ylt) hU)).trans h.2.1, (hUU.cell (Nat.lt_of_lt_of_le (hb3n) hU)).trans h.2.2⟩
            have HKeep := Lib.hid hkeep
            clear hkeep
            go_region_held3 (fun w' => w'.cell? ⟨w.heap.size, 0, none⟩ = some (.int .i64 (d : Int)) ∧ w'.cell? ⟨w.heap.size, 1, none⟩ = some (.int .i64 (i : Int)) ∧ w'.cell? ⟨b3, off3 + j, none⟩ = some (.int .i64 (m : Int))) (first | assumption | (exact ⟨y0, y1, c3n⟩) | (exact HKeep.out wn.drew w9 ⟨y0, y1, c3n⟩ hb7 (Nat.le_refl _))) (first | (go_at_call 109; ((with_reducible refine (spec_l1Args xs d m (i : Int) hd4 hm _ _ F (ArrDt.below HX.out hBn.drew HF.out) (HF.out.mono hBn.drew.size) hca).mono ?_); rintro e w9 ⟨v7, F7, rfl, hb7, ha7, -, hfs7⟩)))
            have hB9 := hBn.drew.trans (hb7.mono hBn.size)
            have hb7u := below_undrew hb7
            have KN9 := Lib.hid (KN.out.same (hb7u.block _ KN.out.lt))
            have KR9 := Lib.hid (KR3.out.same ((HB3n.out.trans (hb7u.mono HB3n.out.size)).block _ KR3.out.lt))
            have HA7 := Lib.hid ha7
            have HU7 := Lib.hid hfs7.under
            have HL7 : Hid (∀ b ∈ F7, D < b) := fun b hb => Nat.lt_of_lt_of_le KN.out.lt (hfs7 b hb).1
            have hDw : D < w9.heap.size := KN9.out.lt
            have hk3 := KR3.out.lt
            obtain ⟨C7, cap7, rfl, hl71, hl72⟩ := ha7.form
            obtain ⟨Bz, hBz⟩ : ∃ B, B = w9.heap.size := ⟨_, rfl⟩
            have HBZ := Lib.hid hBz
            have hDB : D < Bz := by rw [hBz]; exact hDw
            have hzB : w.heap.size ≤ D := by omega
            obtain ⟨i0, hi, hz0, hz1, hz2⟩ := info_parts info_VE
            have HI := Lib.hid hi
            have HZ0 := Lib.hid hz0
            have HZ1 := Lib.hid hz1
            have HZ2 := Lib.hid hz2
            clear hi hz0 hz1 hz2
            clear ha7 hfs7 hb7 hb7u KN hBn y0 y1 ylt KTn hBz c3n hb3n HB3n hB
            generalize (argsL xs[d].ctors[m] (i : Int)) = ls at *
            go_wp2
            go_loopw [11] (fun iv wr => ∃ q : Nat, ∃ kv : Value, ∃ Fk : List Nat, q ≤ ls.length ∧ iv = .int .i64 q ∧ Hid (Blk wr D 53 #[.int .i64 (m : Int), .int .i64 0, kv]) ∧ Hid (Own wr Bz 53 3 VR (leastTo xs n ls q) kv Fk) ∧ Hid (Free wr Fk) ∧ Hid (∀ b ∈ Fk, Bz ≤ b) ∧ Hid (Chg [D] w9 wr) ∧ Below w.heap.size w wr ∧ w9.heap.size ≤ wr.heap.size) (fun iv _ => ls.length - (intOf iv).toNat)
            case atStart => exact ⟨0, _, [], Nat.zero_le _, rfl, KN9, (show Own _ _ _ _ _ (leastTo xs n ls 0) _ _ from Own.nil _ _ _ _ _), Free.nil _, (fun b hb => by cases hb), Chg.refl _ _, hB9, Nat.le_refl _⟩
            case round =>
              clear hB9 KN9
              obtain ⟨q, kv, Fk, hql, rfl, KD, HO, HFk, HFh, HC, hB, hws⟩ := hrel
              obtain ⟨kA, kcap, hkv, hkc1, hkc2⟩ := HO.out.form
              subst hkv
              have klt := KD.out.lt
              have HA7r : Hid (Arr wr (TyR wr) ls (.slice C7 ls.length cap7) F7) := HA7.out.mono (HC.out.kept HU7.out (fun b hb h => by rw [List.mem_singleton] at h; have := HL7.out b hb; omega)) (fun y _ cs G _ h => h)
              have HU7r : Hid (Under wr.heap.size F7) := HU7.out.mono HC.out.size
              by_cases hil : q < ls.length
              · have g1 : (0 : Int) ≤ (q : Int) := by omega
                have g2 : (q : Int) < (ls.length : Int) := by omega
                obtain ⟨b7, off7, rfl⟩ := HA7r.out.ptr (by omega)
                have hb7z : D < b7 ∧ b7 < Bz := by
                  obtain ⟨_, _, _, _, e, hb, -⟩ := HA7r.out.get TyR_len hil
                  cases e
                  exact ⟨HL7.out _ hb, by have := HU7.out _ hb; rw [HBZ.out]; exact this⟩
                obtain ⟨hb7w, k0, k1⟩ := ArrTy.at HA7r.out HU7r.out (Below.refl _ _) q hil
                have hkk := leastTo_len xs n ls q
                have ha := HAL.out ls[q] (List.getElem_mem hil)
                have HSM := Lib.hid (leastV_small HW.out (show n ≤ 10 by omega) ha.1)
                have HA1 := Lib.hid ha
                clear ha
                obtain ⟨aq, haq⟩ : ∃ a, a = ls[q] := ⟨_, rfl⟩
                have HF2 := Lib.hid (leastTo_succ xs n ls q hil)
                rw [← haq] at HSM HA1 HF2 k0 k1
                clear haq
                have hmx : (leastTo xs n ls q).length + 1 ≤ maxLen := by unfold maxLen; omega
                have hby : ((leastTo xs n ls q).length + 1) * 40 ≤ 140737488355328 := by omega
                have zT : wr.drew.cell? ⟨D, 2, none⟩ = some (.slice kA (leastTo xs n ls q).length kcap) := (KD.out.cell 2).trans (by simp)
                have zfT : wr.drew.frozen? ⟨D, 2, none⟩ = false := KD.out.frozen 2
                have hkT : D < wr.drew.heap.size := klt
                have hb7' : b7 < wr.drew.heap.size := hb7w
                have HBk : Hid (Below wr.heap.size wr wr.drew) := (Below.refl _ _).drew
                have HCALL := Lib.hid (IH.out xs HW.out aq HA1.out.1 HA1.out.2.1 HA1.out.2.2 (by omega) wr.drew _ F _ H (ArrDt.below HX.out hB.drew HF.out) (HF.out.mono hB.drew.size) (ArrNat.below HY.out hB.drew HH.out) (HH.out.mono hB.drew.size))
                go_wp2_with fail
                refine wp_region_B (S := fun w' => w'.cell? ⟨b7, off7 + q * 2, none⟩ = some (.int .i64 aq.d) ∧ w'.cell? ⟨b7, off7 + q * 2 + 1, none⟩ = some (.int .i64 aq.i)) (T := fun w' => w'.cell? ⟨D, 2, none⟩ = some (.slice kA (leastTo xs n ls q).length kcap)) (d := 10) (by kernel_rfl) ?_
                have hS1 : wr.drew.cell? ⟨b7, off7 + q * 2, none⟩ = some (.int .i64 aq.d) ∧ wr.drew.cell? ⟨b7, off7 + q * 2 + 1, none⟩ = some (.int .i64 aq.i) := ⟨k0, k1⟩
                have hT1 : wr.drew.cell? ⟨D, 2, none⟩ = some (.slice kA (leastTo xs n ls q).length kcap) := zT
                refine wpAnyB_take (i := 0) (v := ?_) rfl (by decide) (by kernel_rfl) (by kernel_rfl) (by kernel_rfl) (fun _ _ _ h => h) (Or.inl ⟨by rfl, ?hy0⟩) hS1 (fun _ => hT1) ?_
                case hy0 => (intro W hSw; (try dsimp only at hSw); (obtain ⟨s0, s1⟩ := hSw); go_simp; try with_reducible rfl)
                (try simp only [Act.put, List.setIfInBounds_toArray, List.set_cons_zero, List.set_cons_succ])
                refine wpAnyB_takeB (i := 1) (v := ?_) rfl (by decide) rfl (by kernel_rfl) (by kernel_rfl) (by kernel_rfl) (by kernel_rfl) (fun _ _ _ h => h) (Or.inl ⟨by rfl, ?hy1⟩) (by rfl) hS1 hT1 ?_
                case hy1 => (intro W hSw; (try dsimp only at hSw); (obtain ⟨⟨s0, s1⟩, tT⟩ := hSw); go_simp; try with_reducible rfl)
                (try simp only [Act.put, List.setIfInBounds_toArray, List.set_cons_zero, List.set_cons_succ])
                refine wpAnyB_take (i := 2) (v := ?_) rfl (by decide) (by kernel_rfl) (by kernel_rfl) (by kernel_rfl) (fun _ _ _ h => h) (Or.inl ⟨by rfl, ?hy2⟩) hS1 (fun _ => hT1) ?_
                case hy2 => (intro W hSw; (try dsimp only at hSw); (obtain ⟨s0, s1⟩ := hSw); go_simp; try with_reducible rfl)
                (try simp only [Act.put, List.setIfInBounds_toArray, List.set_cons_zero, List.set_cons_succ])
                refine wpAnyB_take (i := 3) (v := ?_) rfl (by decide) (by kernel_rfl) (by kernel_rfl) (by kernel_rfl) (fun _ _ _ h => h) (Or.inl ⟨by rfl, ?hy3⟩) hS1 (fun _ => hT1) ?_
                case hy3 => (intro W hSw; (try dsimp only at hSw); (obtain ⟨s0, s1⟩ := hSw); go_simp; try with_reducible rfl)
                (try simp only [Act.put, List.setIfInBounds_toArray, List.set_cons_zero, List.set_cons_succ])
                refine wpAnyB_take (i := 4) (v := ?_) rfl (by decide) (by kernel_rfl) (by kernel_rfl) (by kernel_rfl) (fun _ _ _ h => h) (Or.inl ⟨by rfl, ?hy4⟩) hS1 (fun _ => hT1) ?_
                case hy4 => (intro W hSw; (try dsimp only at hSw); (obtain ⟨s0, s1⟩ := hSw); go_simp; try with_reducible rfl)
                (try simp only [Act.put, List.setIfInBounds_toArray, List.set_cons_zero, List.set_cons_succ])
                refine wpAnyB_take (i := 5) (v := ?_) rfl (by decide) (by kernel_rfl) (by kernel_rfl) (by kernel_rfl) (fun _ _ _ h => h) (Or.inl ⟨by rfl, ?hy5⟩) hS1 (fun _ => hT1) ?_
                case hy5 => (intro W hSw; (try dsimp only at hSw); (obtain ⟨s0, s1⟩ := hSw); go_simp; try with_reducible rfl)
                (try simp only [Act.put, List.setIfInBounds_toArray, List.set_cons_zero, List.set_cons_succ])
                refine wpAnyB_take (i := 6) (v := ?_) rfl (by decide) (by kernel_rfl) (by kernel_rfl) (by kernel_rfl) (fun _ _ _ h => h) (Or.inl ⟨by rfl, ?hy6⟩) hS1 (fun _ => hT1) ?_
                case hy6 => (intro W hSw; (try dsimp only at hSw); (obtain ⟨s0, s1⟩ := hSw); go_simp; try with_reducible rfl)
                (try simp only [Act.put, List.setIfInBounds_toArray, List.set_cons_zero, List.set_cons_succ])
                refine wpAnyB_take (i := 7) (v := ?_) rfl (by decide) (by kernel_rfl) (by kernel_rfl) (by kernel_rfl) (fun _ _ _ h => h) (Or.inl ⟨by rfl, ?hy7⟩) hS1 (fun _ => hT1) ?_
                case hy7 => (intro W hSw; (try dsimp only at hSw); (obtain ⟨s0, s1⟩ := hSw); go_simp; try with_reducible rfl)
                (try simp only [Act.put, List.setIfInBounds_toArray, List.set_cons_zero, List.set_cons_succ])
                refine wpAnyB_ready (rs := [8]) (by kernel_rfl) (by simp) ?_
                refine AllReadyB.cons rfl (fun K hK => ?_) AllReadyB.nil
                go_simp
                go_at_call 83
                with_reducible refine HCALL.out.mono ?_
                rintro e wA ⟨csA, FA, rfl, hbA, hpA, hfrA, hfsA⟩
                obtain ⟨kvA, rfl, haA⟩ := (VR_iff _ _ _).1 hpA
                obtain ⟨A8, cap8, rfl, -, -⟩ := haA.form
                clear haA
                have HBu := Lib.hid (HBk.out.trans (hbA.mono HBk.out.size))
                have HPA := Lib.hid hpA
                have HFrA := Lib.hid hfrA
                have HFsA : Hid (∀ b ∈ FA, wr.heap.size ≤ b ∧ b < wA.heap.size) := fun b hb => ⟨Nat.le_trans HBk.out.size (hfsA b hb).1, (hfsA b hb).2⟩
                have HOA : Hid (Own wA Bz 53 3 VR (leastTo xs n ls q) (.slice kA (leastTo xs n ls q).length kcap) Fk) := HO.out.below (fun x cs G hk h => VR_mono' _ _ x cs G hk h) HBu.out
                have hbs : Bz ≤ wA.heap.size := by have h1 := HBu.out.size; have h2 := HBZ.out; omega
                have n7D : D < Bz := hDB
                have hSA : wA.cell? ⟨b7, off7 + q * 2, none⟩ = some (.int .i64 aq.d) ∧ wA.cell? ⟨b7, off7 + q * 2 + 1, none⟩ = some (.int .i64 aq.i) := ⟨(hbA.cell (p := ⟨b7, off7 + q * 2, none⟩) hb7').trans k0, (hbA.cell (p := ⟨b7, off7 + q * 2 + 1, none⟩) hb7').trans k1⟩
                have zA : wA.cell? ⟨D, 2, none⟩ = some (.slice kA (leastTo xs n ls q).length kcap) := (hbA.cell (p := ⟨D, 2, none⟩) hkT).trans zT
                have zfA : wA.frozen? ⟨D, 2, none⟩ = false := (hbA.frozen hkT).trans zfT
                have hkA : D < wA.heap.size := Nat.lt_of_lt_of_le hkT hbA.size
                have kl1 : b7 < wA.heap.size := Nat.lt_of_lt_of_le hb7' hbA.size
                have kl2 : b7 < wA.heap.size := Nat.lt_of_lt_of_le hb7' hbA.size
                have hSB : (wA.alloc (.cells [.int .i64 (leastV xs n aq).c, .int .i64 (leastV xs n aq).n, .slice A8 (leastV xs n aq).ks.length cap8].toArray 53)).cell? ⟨b7, off7 + q * 2, none⟩ = some (.int .i64 aq.d) ∧ (wA.alloc (.cells [.int .i64 (leastV xs n aq).c, .int .i64 (leastV xs n aq).n, .slice A8 (leastV xs n aq).ks.length cap8].toArray 53)).cell? ⟨b7, off7 + q * 2 + 1, none⟩ = some (.int .i64 aq.i) := ⟨(World.cell?_alloc_lt _ _ _ kl1).trans hSA.1, (World.cell?_alloc_lt _ _ _ kl2).trans hSA.2⟩
                dsimp only
                refine hK.out _ _ hSA (fun _ => zA) ?_
                clear hK K
                (try simp only [Act.put, List.setIfInBounds_toArray, List.set_cons_zero, List.set_cons_succ])
                refine wpAnyB_ready (rs := [9]) (by kernel_rfl) (by simp) ?_
                refine AllReadyB.cons rfl (fun K hK => ?_) AllReadyB.nil
                go_simp
                refine hK.out _ _ hSB (fun _ => (World.cell?_alloc_lt _ _ _ hkA).trans zA) ?_
                clear hK K
                (try simp only [Act.put, List.setIfInBounds_toArray, List.set_cons_zero, List.set_cons_succ])
                refine wpAnyB_ready (rs := [10]) (by kernel_rfl) (by simp) ?_
                refine AllReadyB.cons rfl (fun K hK => ?_) AllReadyB.nil
                refine step_push1 (P := Try.prog) rfl _ _ 39 rfl i0 _ 40 Try.underlying39 HI.out HZ0.out HZ1.out HZ2.out rfl (by decide) VR_len' VR_mono' (by rfl) HOA.out (leastV xs n aq) 53 [.int .i64 (leastV xs n aq).c, .int .i64 (leastV xs n aq).n, .slice A8 (leastV xs n aq).ks.length cap8] FA wA.heap.size (by rfl) rfl (by simp [Value.oneCell']) HPA.out (fun b hb => (HFsA.out b hb).2) (fun g hg hG => Nat.lt_irrefl _ (Nat.lt_of_lt_of_le (HO.out.row g hg).2 (HFsA.out g hG).1)) hmx hby hbs ?_
                intro g cp w7 hown7 hgr7 hat7
                have hrow7 := HOA.out.row
                have n7 : ∀ x, (x < Bz ∨ wr.heap.size ≤ x) → some x ≠ (Value.ownBlock (.slice kA (leastTo xs n ls q).length kcap)) := fun x hx e => by
                  have h1 := (hrow7 x (mem_rowOf.2 e.symm)).1
                  have h2 := (HO.out.row x (mem_rowOf.2 e.symm)).2
                  omega
                have l7 : wA.heap.size ≤ (wA.alloc (.cells [.int .i64 (leastV xs n aq).c, .int .i64 (leastV xs n aq).n, .slice A8 (leastV xs n aq).ks.length cap8].toArray 53)).heap.size := by rw [World.size_alloc]; exact Nat.le_succ _
                have s7 : w7.cell? ⟨b7, off7 + q * 2, none⟩ = some (.int .i64 aq.d) ∧ w7.cell? ⟨b7, off7 + q * 2 + 1, none⟩ = some (.int .i64 aq.i) := ⟨(World.grownBy.cell_far hgr7 ⟨b7, off7 + q * 2, none⟩ (Nat.lt_of_lt_of_le kl1 l7) (n7 (b7) (by omega))).trans hSB.1, (World.grownBy.cell_far hgr7 ⟨b7, off7 + q * 2 + 1, none⟩ (Nat.lt_of_lt_of_le kl2 l7) (n7 (b7) (by omega))).trans hSB.2⟩
                have z71 : w7.cell? ⟨D, 2, none⟩ = some (.slice kA (leastTo xs n ls q).length kcap) := (World.grownBy.cell_far hgr7 ⟨D, 2, none⟩ (Nat.lt_of_lt_of_le hkA l7) (n7 (D) (by omega))).trans ((World.cell?_alloc_lt _ _ _ hkA).trans zA)
                have zf71 : w7.frozen? ⟨D, 2, none⟩ = false := (World.grownBy.frozen_far hgr7 ⟨D, 2, none⟩ (Nat.lt_of_lt_of_le hkA l7) (n7 (D) (by omega))).trans (Eq.trans (World.frozen?_of_block (Below.heap_alloc _ _ _ hkA)) zfA)
                refine hK.out _ _ s7 (fun h => by cases h) ?_
                clear hK K
                (try simp only [Act.put, List.setIfInBounds_toArray, List.set_cons_zero, List.set_cons_succ])
                refine wpAnyB_take (i := 11) (v := ?_) rfl (by decide) (by kernel_rfl) (by kernel_rfl) (by kernel_rfl) (fun _ _ _ h => h) (Or.inl ⟨by rfl, ?hy11⟩) s7 (fun h => by cases h) ?_
                case hy11 => (intro W hSw; (try dsimp only at hSw); (obtain ⟨s0, s1⟩ := hSw); go_simp; try with_reducible rfl)
                (try simp only [Act.put, List.setIfInBounds_toArray, List.set_cons_zero, List.set_cons_succ])
                refine wpAnyB_ready (rs := [12]) (by kernel_rfl) (by simp) ?_
                refine AllReadyB.cons rfl (fun K hK => ?_) AllReadyB.nil
                go_simp
                refine hK.out _ _ ⟨(World.cell?_setCell_far _ _ _ _ (by show D ≠ b7; omega)).trans s7.1, (World.cell?_setCell_far _ _ _ _ (by show D ≠ b7; omega)).trans s7.2⟩ (fun h => by cases h) ?_
                clear hK K
                (try simp only [Act.put, List.setIfInBounds_toArray, List.set_cons_zero, List.set_cons_succ])
                refine wpAnyB_end (by kernel_rfl) ?_
                obtain ⟨r1, r2, r3, r4, r5, r6, r7⟩ := kid_round2 (w := w) 2 VR_mono' HBZ.out.symm hDB KD.out HO.out HFk.out HFh.out HC.out hB hzB (Nat.le_refl _) HBu.out HFrA.out HFsA.out hown7 hgr7
                have R1 := Lib.hid r1
                have R2 := Lib.hid r2
                have R3 := Lib.hid r3
                have R4 := Lib.hid r4
                have R5 := Lib.hid r5
                have R6 := Lib.hid r6
                clear r1 r2 r3 r4 r5 r6 hown7 hgr7 hat7 hrow7 n7 l7 s7 z71 zf71 hSA zA zfA hkA hSB hS1 hT1 zT zfT hkT HCALL
                go_wp2
                go_roundw
                case rel => exact ⟨q + 1, _, _, hil, by go_num, R1, by rw [HF2.out]; exact R2.out, R3, R4, R5, R6.out, r7⟩
                case measure => (simp [intOf] <;> omega)
              · have HO2 := HO.out
                rw [leastTo_all xs n ls (by omega)] at HO2
                have hln := congrArg List.length (leastTo_all xs n ls (i := q) (by omega))
                obtain ⟨FF, hf1, hf2, hf3⟩ := kid_done (H := Bz) HO2 HFk.out HFh.out (Nat.le_refl _)
                have HF1 := Lib.hid hf1
                have HF2 := Lib.hid hf2
                have HF3 := Lib.hid hf3
                have e0 := (KD.out.cell 0).trans (show _ = some (.int .i64 (m : Int)) from by simp)
                have e1 := (KD.out.cell 1).trans (show _ = some (.int .i64 0) from by simp)
                have e2 := (KD.out.cell 2).trans (show _ = some (.slice kA (leastTo xs n ls q).length kcap) from by simp)
                have HLN := Lib.hid hln
                have RR := Lib.hid (KR9.out.same (HC.out.block _ KR9.out.lt (by rw [List.mem_singleton]; omega)))
                have rc0 := (RR.out.cell 0).trans (show _ = some (.int .i64 0) from by simp)
                have rf0 := RR.out.frozen 0
                have rc1 := (RR.out.cell 1).trans (show _ = some (.int .i64 0) from by simp)
                have rf1 := RR.out.frozen 1
                have rc2 := (RR.out.cell 2).trans (show _ = some (.slice none 0 0) from by simp)
                have rf2 := RR.out.frozen 2
                have rlt := RR.out.lt
                clear hf1 hf2 hf3 HO2 hln
                go_wp2
                clear e0 e1 e2 rc0 rf0 rc1 rf1 rc2 rf2 rlt
                refine bodyPost_ret (results_cell_row rfl _ _ (w.heap.size + 1) 53 #[.int .i64 (m : Int), .int .i64 0, .slice kA (leastTo xs n ls q).length kcap] (0, 0) _ rfl (RR.out.three _ _ _) Try.underlying53 rfl rfl) rfl ?_
                have hkp : Kept FF wr _ := kept_three (w := wr) (H := w.heap.size + 1) (fun b hb => by have := (HF3.out b hb).1; omega) (.int .i64 (m : Int)) (.int .i64 0) (.slice kA (leastTo xs n ls q).length kcap)
                refine ⟨[.int .i64 (m : Int), .int .i64 0, .slice kA (leastTo xs n ls q).length kcap], FF, rfl, below_three hB (by omega) _ _ _, ?_, HF2.out.kept hkp, fun b hb => ⟨by have := (HF3.out b hb).1; omega, ?_⟩⟩
                · rw [HP.out]
                  exact (VR_iff _ _ _).2 ⟨_, rfl, ArrV.mono (by rw [HLN.out]; exact HF1.out) hkp⟩
                · rw [size_three]; exact (HF3.out b hb).2
        · exfalso
          have h1 := HFJ.out
          rw [find_end (by omega)] at h1
          cases h1
end Go.Proofs.Ytilndhmegaccmaa

namespace Go.Proofs.Ytilndhmegaccmaa
open Go.RowKit

/-- a call gives a pattern of its own, and whether there is one -/
def MadeP2 (p : P) (b : Bool) (w : World) (e : Ending) (w' : World) : Prop := ∃ cs F, e = .returned (.tuple #[.agg cs.toArray, .bool b]) ∧ Below w.heap.size w w' ∧ PR w' p cs F ∧ Free w' F ∧ Fresh w w' F
def zeroP : P := ⟨0, 0, 0, 0, 0, []⟩
def patternOfR (xs : List Dt) (t : Ty) (v : V) : P := if valueValidB xs t v = true then patOf v else zeroP
theorem patOf_size : ∀ v : V, (patOf v).size ≤ v.size := V.indv fun v ih => by
  by_cases h : v.c = -1
  · rw [patOf_num h]; simp [P.size, P.sizes]
  · rw [patOf_ctor h]
    obtain ⟨c, n, ks⟩ := v
    simp only [P.size, V.size]
    have key : ∀ l : List V, (∀ k ∈ l, (patOf k).size ≤ k.size) → P.sizes (l.map patOf) ≤ V.sizes l := by
      intro l
      induction l with
      | nil => intro _; simp [P.sizes, V.sizes]
      | cons a l ihl =>
        intro hl
        have h1 := hl a (by simp)
        have h2 := ihl fun k hk => hl k (by simp [hk])
        simp only [List.map_cons, P.sizes, V.sizes]
        omega
    exact key ks ih
theorem patternOfR_size (xs : List Dt) (t : Ty) (v : V) : (patternOfR xs t v).size ≤ v.size := by
  unfold patternOfR
  split
  · exact patOf_size v
  · simp [zeroP, P.size, P.sizes]


end Go.Proofs.Ytilndhmegaccmaa

namespace Go.Proofs.Ytilndhmegaccmaa
open Go.RowKit

/-- a call gives a value of its own, and whether there is one -/
def MadeV2 (v : V) (b : Bool) (w : World) (e : Ending) (w' : World) : Prop := ∃ cs F, e = .returned (.tuple #[.agg cs.toArray, .bool b]) ∧ Below w.heap.size w w' ∧ VR w' v cs F ∧ Free w' F ∧ Fresh w w' F
def leastOkB (xs : List Dt) (t : Ty) : Bool := withinB (depthIn (tableL xs) t) 1 10
def leastOkV (xs : List Dt) (t : Ty) : V := if leastOkB xs t = true then leastV xs 10 t else ⟨0, 0, []⟩
theorem leastOk_dep {xs : List Dt} {t : Ty} (h : leastOkB xs t = true) : depthIn (tableL xs) t ≠ 0 ∧ depthIn (tableL xs) t ≤ ((10 : Nat) : Int) := by
  unfold leastOkB withinB at h
  simp only [Bool.and_eq_true, decide_eq_true_eq] at h
  exact ⟨by omega, by omega⟩
theorem leastOkV_small {xs : List Dt} (hw : WorldOK xs) {t : Ty} (ht : TyIn xs.length t) : (leastOkV xs t).size ≤ 1048576 := by
  unfold leastOkV
  split
  · exact leastV_small hw (by omega) ht
  · simp [V.size, V.sizes]
theorem leastFine_eq (xs : List Dt) (t : Ty) : leastFine xs t = (typeValidB xs t && (leastOkB xs t && valueOkB xs t (leastOkV xs t))) := by
  unfold leastFine
  show _ = (_ && (withinB _ 1 10 && _))
  cases h : withinB (depthIn (tableL xs) t) 1 10 with
  | false => simp
  | true =>
    have : leastOkV xs t = leastV xs 10 t := by unfold leastOkV leastOkB; rw [if_pos h]
    rw [this]
theorem leastR_no {xs : List Dt} {t : Ty} (h : leastFine xs t = false) : leastR xs t = ⟨0, 0, []⟩ := by unfold leastR; rw [if_neg (by simp [h])]
theorem leastR_yes {xs : List Dt} {t : Ty} (h : leastFine xs t = true) (h2 : leastOkB xs t = true) : leastR xs t = leastOkV xs t := by unfold leastR leastOkV; rw [if_pos h, if_pos h2]

set_option maxRecDepth 100000 in
set_option maxHeartbeats 1600000 in
theorem impl_leastOk (xs : List Dt) (hw : WorldOK xs) (t : Ty) (ht : TyIn xs.length t) (w : World) (x : Value) (F : List Nat) (gd : Nat) (hx : Arr w (DtR w) xs x F) (hf : Under w.heap.size F) (hy : Tab w gd (tableL xs)) :
    Calls Try.prog 81 #[x, .pointer (some ⟨gd, 0, none⟩), .agg #[.int .i64 t.d, .int .i64 t.i]] w (MadeV2 (leastOkV xs t) (leastOkB xs t) w) := by
  obtain ⟨A, cap, rfl, hc1, hc2⟩ := hx.form
  have HW := Lib.hid hw
  have HT := Lib.hid ht
  have HX := Lib.hid hx
  have HF := Lib.hid hf
  have HY := Lib.hid hy
  clear hx hf hy
  clear hw ht
  go_enter Try.func81, Try.ntmps81
  go_wp2_with fail
  obtain ⟨W2, hW2⟩ : ∃ W2, W2 = ((w.alloc (.cells #[.int .i64 t.d, .int .i64 t.i] 32)).alloc (.cells #[.int .i64 0, .int .i64 0, .slice none 0 0] 53)) := ⟨_, rfl⟩
  have hB0 : Below w.heap.size w W2 := by rw [hW2]; exact ((Below.refl _ _).alloc (Nat.le_refl _) _).alloc (by simp) _
  have KT : Hid (Blk W2 w.heap.size 32 #[.int .i64 t.d, .int .i64 t.i]) := by rw [hW2]; exact (Blk.new w _ _).same (Below.heap_alloc _ _ _ (by simp))
  have KR : Hid (Blk W2 (w.heap.size + 1) 53 #[.int .i64 0, .int .i64 0, .slice none 0 0]) := by rw [hW2]; exact blk_second w _ _ _
  rw [← hW2]
  clear hW2
  have y0 : W2.cell? ⟨w.heap.size, 0, none⟩ = some (.int .i64 t.d) := (KT.out.cell 0).trans (by simp)
  have y1 : W2.cell? ⟨w.heap.size, 1, none⟩ = some (.int .i64 t.i) := (KT.out.cell 1).trans (by simp)
  have ylt := KT.out.lt
  go_wp2_with fail
  refine (impl_of xs.length HW.out.len (tableL xs) (tableL_small HW.out) t HT.out W2 gd (HY.out.same (hB0.block _ HY.out.lt))).mono ?_
  rintro e w3 ⟨rfl, hb3⟩
  have hB3 := hB0.trans (hb3.mono hB0.size)
  have KT3 := Lib.hid (KT.out.same (hb3.block _ KT.out.lt))
  have KR3 := Lib.hid (KR.out.same (hb3.block _ KR.out.lt))
  clear y0 y1 ylt
  have HD := Lib.hid (show leastOkB xs t = withinB (depthIn (tableL xs) t) 1 10 from rfl)
  generalize depthIn (tableL xs) t = de at *
  go_wp2_with fail
  refine (impl_within de 1 10 w3).mono ?_
  rintro e w3' ⟨rfl, rfl⟩
  rw [← HD.out]
  clear hb3 KT KR
  have y0 : w3.cell? ⟨w.heap.size, 0, none⟩ = some (.int .i64 t.d) := (KT3.out.cell 0).trans (by simp)
  have y1 : w3.cell? ⟨w.heap.size, 1, none⟩ = some (.int .i64 t.i) := (KT3.out.cell 1).trans (by simp)
  have ylt := KT3.out.lt
  cases e1 : leastOkB xs t with
  | false =>
    have hz : Hid (leastOkV xs t = ⟨0, 0, []⟩) := by unfold Hid leastOkV; rw [if_neg (by simp [e1])]
    have HE := Lib.hid e1
    clear e1
    have rc0 := (KR3.out.cell 0).trans (show _ = some (.int .i64 0) from by simp)
    have rf0 := KR3.out.frozen 0
    have rc1 := (KR3.out.cell 1).trans (show _ = some (.int .i64 0) from by simp)
    have rf1 := KR3.out.frozen 1
    have rc2 := (KR3.out.cell 2).trans (show _ = some (.slice none 0 0) from by simp)
    have rf2 := KR3.out.frozen 2
    have rlt := KR3.out.lt
    go_wp2
    clear rc0 rf0 rc1 rf1 rc2 rf2 rlt
    refine bodyPost_ret (results_cell_tmp rfl _ _ (w.heap.size + 1) 53 #[.int .i64 0, .int .i64 0, .slice none 0 0] (0, 0) _ rfl (KR3.out.three _ _ _) Try.underlying53 rfl rfl) rfl ?_
    exact ⟨[.int .i64 0, .int .i64 0, .slice none 0 0], [], by rw [HE.out]; rfl, below_three hB3 (by omega) _ _ _, by rw [hz.out]; exact (VR_iff _ _ _).2 ⟨_, rfl, Arr.nil⟩, Free.nil _, Fresh.nil _ _⟩
  | true =>
    have hz : Hid (leastOkV xs t = leastV xs 10 t) := by unfold Hid leastOkV; rw [if_pos e1]
    have HE := Lib.hid e1
    have HDP := Lib.hid (leastOk_dep e1)
    clear e1
    go_wp2_with fail
    refine (impl_least 10 xs HW.out t HT.out HDP.out.1 HDP.out.2 (Nat.le_refl _) w3 _ F gd (ArrDt.below HX.out hB3 HF.out) (HF.out.mono hB3.size) (HY.out.same (hB3.block _ HY.out.lt))).mono ?_
    rintro e w4 ⟨cs4, F4, rfl, hb4, hp4, hfr4, hfs4⟩
    obtain ⟨kv4, rfl, ha4⟩ := (VR_iff _ _ _).1 hp4
    obtain ⟨aA, acap, rfl, -, -⟩ := ha4.form
    have hB4 := hB3.trans (hb4.mono hB3.size)
    have KR4 := Lib.hid (KR3.out.same (hb4.block _ KR3.out.lt))
    have HNE : Hid (∀ b ∈ F4, b ≠ w.heap.size + 1) := fun b hb e => by have h1 := (hfs4 b hb).1; have h2 := KR3.out.lt; omega
    have HP4 := Lib.hid hp4
    have HFR4 := Lib.hid hfr4
    have HFS4 : Hid (Fresh w w4 F4) := fun b hb => ⟨Nat.le_trans hB3.size (hfs4 b hb).1, (hfs4 b hb).2⟩
    clear hp4 hfr4 hfs4 hb4 ha4 y0 y1 ylt KR3 KT3
    generalize (leastV xs 10 t).ks.length = n5 at *
    generalize (leastV xs 10 t).c = ac at *
    generalize (leastV xs 10 t).n = an at *
    have rc0 := (KR4.out.cell 0).trans (show _ = some (.int .i64 0) from by simp)
    have rf0 := KR4.out.frozen 0
    have rc1 := (KR4.out.cell 1).trans (show _ = some (.int .i64 0) from by simp)
    have rf1 := KR4.out.frozen 1
    have rc2 := (KR4.out.cell 2).trans (show _ = some (.slice none 0 0) from by simp)
    have rf2 := KR4.out.frozen 2
    have rlt := KR4.out.lt
    go_wp2
    clear rc0 rf0 rc1 rf1 rc2 rf2 rlt
    refine bodyPost_ret (results_cell_tmp rfl _ _ (w.heap.size + 1) 53 #[.int .i64 ac, .int .i64 an, .slice aA n5 acap] (0, 0) _ rfl (KR4.out.three _ _ _) Try.underlying53 rfl rfl) rfl ?_
    have hkp : Kept F4 w4 _ := kept_three (w := w4) (H := w.heap.size + 1) HNE.out (.int .i64 ac) (.int .i64 an) (.slice aA n5 acap)
    refine ⟨[.int .i64 ac, .int .i64 an, .slice aA n5 acap], F4, by rw [HE.out]; rfl, below_three hB4 (by omega) _ _ _, ?_, HFR4.out.kept hkp, fun b hb => ⟨(HFS4.out b hb).1, by rw [size_three]; exact (HFS4.out b hb).2⟩⟩
    rw [hz.out]
    exact VR.mono _ _ _ hkp HP4.out

set_option maxRecDepth 100000 in
set_option maxHeartbeats 1600000 in
theorem impl_LeastValue (xs : List Dt) (t : Ty) (w : World) (x : Value) (F : List Nat) (hx : Arr w (DtR w) xs x F) (hf : Under w.heap.size F) :
    Calls Try.prog 34 #[x, .agg #[.int .i64 t.d, .int .i64 t.i]] w (MadeV2 (leastR xs t) (leastFine xs t) w) := by
  obtain ⟨A, cap, rfl, hc1, hc2⟩ := hx.form
  have HFE := Lib.hid (leastFine_eq xs t)
  have HX := Lib.hid hx
  have HF := Lib.hid hf
  clear hx hf
  go_enter Try.func34, Try.ntmps34
  go_wp2_with fail
  obtain ⟨W2, hW2⟩ : ∃ W2, W2 = ((w.alloc (.cells #[.int .i64 t.d, .int .i64 t.i] 32)).alloc (.cells #[.int .i64 0, .int .i64 0, .slice none 0 0] 53)) := ⟨_, rfl⟩
  have hB0 : Below w.heap.size w W2 := by rw [hW2]; exact ((Below.refl _ _).alloc (Nat.le_refl _) _).alloc (by simp) _
  have KT : Hid (Blk W2 w.heap.size 32 #[.int .i64 t.d, .int .i64 t.i]) := by rw [hW2]; exact (Blk.new w _ _).same (Below.heap_alloc _ _ _ (by simp))
  have KR : Hid (Blk W2 (w.heap.size + 1) 53 #[.int .i64 0, .int .i64 0, .slice none 0 0]) := by rw [hW2]; exact blk_second w _ _ _
  rw [← hW2]
  clear hW2
  have y0 : W2.cell? ⟨w.heap.size, 0, none⟩ = some (.int .i64 t.d) := (KT.out.cell 0).trans (by simp)
  have y1 : W2.cell? ⟨w.heap.size, 1, none⟩ = some (.int .i64 t.i) := (KT.out.cell 1).trans (by simp)
  have ylt := KT.out.lt
  go_wp2_with fail
  refine (impl_TypeValid xs t W2 _ F (ArrDt.below HX.out hB0 HF.out) (HF.out.mono hB0.size)).mono ?_
  rintro e w3 ⟨rfl, hb3⟩
  have hB3 := hB0.trans (hb3.mono hB0.size)
  have KT3 := Lib.hid (KT.out.same (hb3.block _ KT.out.lt))
  have KR3 := Lib.hid (KR.out.same (hb3.block _ KR.out.lt))
  clear y0 y1 ylt
  clear hb3 KT KR
  cases e1 : typeValidB xs t with
  | false =>
    have HE : Hid (leastFine xs t = false) := by unfold Hid; rw [HFE.out, e1]; rfl
    have hz : Hid (leastR xs t = ⟨0, 0, []⟩) := leastR_no HE.out
    clear e1
    have rc0 := (KR3.out.cell 0).trans (show _ = some (.int .i64 0) from by simp)
    have rf0 := KR3.out.frozen 0
    have rc1 := (KR3.out.cell 1).trans (show _ = some (.int .i64 0) from by simp)
    have rf1 := KR3.out.frozen 1
    have rc2 := (KR3.out.cell 2).trans (show _ = some (.slice none 0 0) from by simp)
    have rf2 := KR3.out.frozen 2
    have rlt := KR3.out.lt
    go_wp2
    clear rc0 rf0 rc1 rf1 rc2 rf2 rlt
    refine bodyPost_ret (results_cell_tmp rfl _ _ (w.heap.size + 1) 53 #[.int .i64 0, .int .i64 0, .slice none 0 0] (0, 0) _ rfl (KR3.out.three _ _ _) Try.underlying53 rfl rfl) rfl ?_
    exact ⟨[.int .i64 0, .int .i64 0, .slice none 0 0], [], by rw [HE.out]; rfl, below_three hB3 (by omega) _ _ _, by rw [hz.out]; exact (VR_iff _ _ _).2 ⟨_, rfl, Arr.nil⟩, Free.nil _, Fresh.nil _ _⟩
  | true =>
    obtain ⟨hw, hto⟩ := typeValid_split e1
    have HW := Lib.hid hw
    have HT := Lib.hid (typeOkB_tyIn hto)
    have HTV := Lib.hid e1
    clear e1 hw hto
    have y0 : w3.cell? ⟨w.heap.size, 0, none⟩ = some (.int .i64 t.d) := (KT3.out.cell 0).trans (by simp)
    have y1 : w3.cell? ⟨w.heap.size, 1, none⟩ = some (.int .i64 t.i) := (KT3.out.cell 1).trans (by simp)
    have ylt := KT3.out.lt
    go_wp2_with fail
    clear y0 y1 ylt
    go_cut [6, 7] from 8 (fun p b wq => ∃ (g : Nat) (cs : List Value) (F : List Nat), p = .pointer (some ⟨g, 0, none⟩) ∧ b = .bool (leastOkB xs t) ∧ Hid (Below w3.heap.size w3 wq) ∧ Hid (Blk wq g 53 cs.toArray) ∧ Hid (w3.heap.size ≤ g) ∧ Hid (g ∉ F) ∧ Hid (VR wq (leastOkV xs t) cs F) ∧ Hid (Free wq F) ∧ Hid (Fresh w3 wq F))
    case first =>
      have HS : Hid (∀ C : World, Below w3.heap.size w3 C → (C.cell? ⟨w.heap.size, 0, none⟩ = some (.int .i64 t.d) ∧ C.cell? ⟨w.heap.size, 1, none⟩ = some (.int .i64 t.i))) := fun C hb => ⟨((KT3.out.same (hb.block _ KT3.out.lt)).cell 0).trans (by simp), ((KT3.out.same (hb.block _ KT3.out.lt)).cell 1).trans (by simp)⟩
      have hC0 : Below w3.heap.size w3 w3.drew := (Below.refl _ _).drew
      refine wp_region_B (S := fun w' => w'.cell? ⟨w.heap.size, 0, none⟩ = some (.int .i64 t.d) ∧ w'.cell? ⟨w.heap.size, 1, none⟩ = some (.int .i64 t.i)) (T := fun _ => True) (d := 10) (by kernel_rfl) ?_
      obtain ⟨wd, hwd⟩ : ∃ X, X = w3.drew := ⟨_, rfl⟩
      rw [← hwd] at hC0 ⊢
      clear hwd
      have hS0 := HS.out _ hC0
      have hT0 : True := trivial
      refine wpAnyB_take (i := 0) (v := ?_) rfl (by decide) (by kernel_rfl) (by kernel_rfl) (by kernel_rfl) (fun _ _ _ h => h) (Or.inl ⟨by rfl, ?hy0⟩) hS0 (fun _ => hT0) ?_
      case hy0 => (intro W hSw; (try dsimp only at hSw); (try obtain ⟨hSw0, hSw1⟩ := hSw); go_simp; try with_reducible rfl)
      (try simp only [Act.put, List.getElem_toArray, List.getElem_cons_zero, List.getElem_cons_succ, List.setIfInBounds_toArray, List.set_cons_zero, List.set_cons_succ])
      refine wpAnyB_take (i := 1) (v := ?_) rfl (by decide) (by kernel_rfl) (by kernel_rfl) (by kernel_rfl) (fun _ _ _ h => h) (Or.inl ⟨by rfl, ?hy1⟩) hS0 (fun _ => hT0) ?_
      case hy1 => (intro W hSw; (try dsimp only at hSw); (try obtain ⟨hSw0, hSw1⟩ := hSw); go_simp; try with_reducible rfl)
      (try simp only [Act.put, List.getElem_toArray, List.getElem_cons_zero, List.getElem_cons_succ, List.setIfInBounds_toArray, List.set_cons_zero, List.set_cons_succ])
      refine wpAnyB_take (i := 3) (v := ?_) rfl (by decide) (by kernel_rfl) (by kernel_rfl) (by kernel_rfl) (fun _ _ _ h => h) (Or.inl ⟨by rfl, ?hy3⟩) hS0 (fun _ => hT0) ?_
      case hy3 => (intro W hSw; (try dsimp only at hSw); (try obtain ⟨hSw0, hSw1⟩ := hSw); go_simp; try with_reducible rfl)
      (try simp only [Act.put, List.getElem_toArray, List.getElem_cons_zero, List.getElem_cons_succ, List.setIfInBounds_toArray, List.set_cons_zero, List.set_cons_succ])
      refine wpAnyB_ready (rs := [2, 8]) (by kernel_rfl) (by simp) ?_
      refine AllReadyB.cons rfl (fun K hK => ?_) (AllReadyB.cons rfl (fun K hK => ?_) AllReadyB.nil)
      · skip
        go_simp
        go_at_call 79
        refine (impl_depthsOf xs HW.out _ _ F (ArrDt.below HX.out (hB3.trans (hC0.mono hB3.size)) HF.out) (HF.out.mono (hB3.trans (hC0.mono hB3.size)).size)).mono ?_
        rintro e C1 ⟨g1, rfl, -, ht1, hb1⟩
        have hC1 : Below w3.heap.size w3 C1 := hC0.trans (hb1.mono hC0.size)
        skip
        have HTB1 := Lib.hid ht1
        clear ht1
        (try dsimp only)
        refine hK.out _ _ (HS.out _ hC1) (fun _ => trivial) ?_
        clear hK K
        (try simp only [Act.put, List.getElem_toArray, List.getElem_cons_zero, List.getElem_cons_succ, List.setIfInBounds_toArray, List.set_cons_zero, List.set_cons_succ])
        refine wpAnyB_ready (rs := [4, 8]) (by kernel_rfl) (by simp) ?_
        refine AllReadyB.cons rfl (fun K hK => ?_) (AllReadyB.cons rfl (fun K hK => ?_) AllReadyB.nil)
        · skip
          go_simp
          go_at_call 81
          refine (impl_leastOk xs HW.out t HT.out _ _ F _ (ArrDt.below HX.out (hB3.trans (hC1.mono hB3.size)) HF.out) (HF.out.mono (hB3.trans (hC1.mono hB3.size)).size) HTB1.out).mono ?_
          rintro e C3 ⟨cs3, F3, rfl, hb3, hp3, hfr3, hfs3⟩
          have hC3 : Below w3.heap.size w3 C3 := hC1.trans (hb3.mono hC1.size)
          obtain ⟨kv3, rfl, ha3⟩ := (VR_iff _ _ _).1 hp3
          obtain ⟨A3, cap3, rfl, -, -⟩ := ha3.form
          clear ha3
          have HP3 := Lib.hid hp3
          have HFr3 := Lib.hid hfr3
          have HFs3 := Lib.hid hfs3
          clear hp3 hfr3 hfs3
          (try dsimp only)
          refine hK.out _ _ (HS.out _ hC3) (fun _ => trivial) ?_
          clear hK K
          (try simp only [Act.put, List.getElem_toArray, List.getElem_cons_zero, List.getElem_cons_succ, List.setIfInBounds_toArray, List.set_cons_zero, List.set_cons_succ])
          have hSx3 := HS.out _ hC3
          refine wpAnyB_take (i := 5) (v := ?_) rfl (by decide) (by kernel_rfl) (by kernel_rfl) (by kernel_rfl) (fun _ _ _ h => h) (Or.inl ⟨by rfl, ?hy5⟩) hSx3 (fun _ => hT0) ?_
          case hy5 => (intro W hSw; (try dsimp only at hSw); (try obtain ⟨hSw0, hSw1⟩ := hSw); go_simp; try with_reducible rfl)
          (try simp only [Act.put, List.getElem_toArray, List.getElem_cons_zero, List.getElem_cons_succ, List.setIfInBounds_toArray, List.set_cons_zero, List.set_cons_succ])
          refine wpAnyB_take (i := 6) (v := ?_) rfl (by decide) (by kernel_rfl) (by kernel_rfl) (by kernel_rfl) (fun _ _ _ h => h) (Or.inl ⟨by rfl, ?hy6⟩) hSx3 (fun _ => hT0) ?_
          case hy6 => (intro W hSw; (try dsimp only at hSw); (try obtain ⟨hSw0, hSw1⟩ := hSw); go_simp; try with_reducible rfl)
          (try simp only [Act.put, List.getElem_toArray, List.getElem_cons_zero, List.getElem_cons_succ, List.setIfInBounds_toArray, List.set_cons_zero, List.set_cons_succ])
          refine wpAnyB_take (i := 7) (v := ?_) rfl (by decide) (by kernel_rfl) (by kernel_rfl) (by kernel_rfl) (fun _ _ _ h => h) (Or.inl ⟨by rfl, ?hy7⟩) hSx3 (fun _ => hT0) ?_
          case hy7 => (intro W hSw; (try dsimp only at hSw); (try obtain ⟨hSw0, hSw1⟩ := hSw); go_simp; try with_reducible rfl)
          (try simp only [Act.put, List.getElem_toArray, List.getElem_cons_zero, List.getElem_cons_succ, List.setIfInBounds_toArray, List.set_cons_zero, List.set_cons_succ])
          refine wpAnyB_ready (rs := [8]) (by kernel_rfl) (by simp) ?_
          refine AllReadyB.cons rfl (fun K hK => ?_) AllReadyB.nil
          go_simp
          obtain ⟨C4, hX⟩ : ∃ X, X = C3.alloc (.cells #[.int .i64 0, .int .i64 0, .slice none 0 0] 53) := ⟨_, rfl⟩
          have hb4 : Below C3.heap.size C3 C4 := by rw [hX]; exact (Below.refl _ _).alloc (Nat.le_refl _) _
          have cx4 : Hid (Blk C4 C3.heap.size 53 #[.int .i64 0, .int .i64 0, .slice none 0 0]) := by rw [hX]; exact Blk.new _ _ _
          rw [← hX]
          clear hX
          have hC4 : Below w3.heap.size w3 C4 := hC3.trans (hb4.mono hC3.size)
          have cp5 := Lib.hid (VR.below HP3.out hb4 HFs3.out.under)
          have cf5 := Lib.hid (HFr3.out.kept (.of_below hb4 HFs3.out.under))
          have cs5 : Hid (Fresh C1 C4 F3) := fun b hb => ⟨(HFs3.out b hb).1, Nat.lt_of_lt_of_le (HFs3.out b hb).2 hb4.size⟩
          have HGE4 : Hid (w3.heap.size ≤ C3.heap.size) := hC3.size
          (try dsimp only)
          refine hK.out _ _ (HS.out _ hC4) (fun _ => trivial) ?_
          clear hK K
          (try simp only [Act.put, List.getElem_toArray, List.getElem_cons_zero, List.getElem_cons_succ, List.setIfInBounds_toArray, List.set_cons_zero, List.set_cons_succ])
          have yy0 : C4.cell? ⟨C3.heap.size, 0, none⟩ = some (.int .i64 0) := (cx4.out.cell 0).trans (by simp)
          have ff0 := cx4.out.frozen 0
          have yy1 : C4.cell? ⟨C3.heap.size, 1, none⟩ = some (.int .i64 0) := (cx4.out.cell 1).trans (by simp)
          have ff1 := cx4.out.frozen 1
          have yy2 : C4.cell? ⟨C3.heap.size, 2, none⟩ = some (.slice none 0 0) := (cx4.out.cell 2).trans (by simp)
          have ff2 := cx4.out.frozen 2
          have yylt := cx4.out.lt
          have hCe : Hid (Below w3.heap.size w3 (((C4.setCell ⟨C3.heap.size, 0, none⟩ (.int .i64 (leastOkV xs t).c)).setCell ⟨C3.heap.size, 1, none⟩ (.int .i64 (leastOkV xs t).n)).setCell ⟨C3.heap.size, 2, none⟩ (.slice A3 (leastOkV xs t).ks.length cap3))) := (((hC4.setCell HGE4.out _).setCell HGE4.out _).setCell HGE4.out _)
          have cbe : Hid (Blk (((C4.setCell ⟨C3.heap.size, 0, none⟩ (.int .i64 (leastOkV xs t).c)).setCell ⟨C3.heap.size, 1, none⟩ (.int .i64 (leastOkV xs t).n)).setCell ⟨C3.heap.size, 2, none⟩ (.slice A3 (leastOkV xs t).ks.length cap3)) (C3.heap.size) 53 #[.int .i64 (leastOkV xs t).c, .int .i64 (leastOkV xs t).n, .slice A3 (leastOkV xs t).ks.length cap3]) := (((cx4.out.set_ 0 _).set_ 1 _).set_ 2 _)
          have hgF : ∀ b ∈ F3, b ≠ C3.heap.size := fun b hb e => Nat.lt_irrefl _ (by have h1 := (HFs3.out b hb).2; rw [e] at h1; exact h1)
          have hkp : Kept F3 C4 (((C4.setCell ⟨C3.heap.size, 0, none⟩ (.int .i64 (leastOkV xs t).c)).setCell ⟨C3.heap.size, 1, none⟩ (.int .i64 (leastOkV xs t).n)).setCell ⟨C3.heap.size, 2, none⟩ (.slice A3 (leastOkV xs t).ks.length cap3)) := fun b hb => by rw [Below.heap_setCell _ _ _ _ (hgF b hb), Below.heap_setCell _ _ _ _ (hgF b hb), Below.heap_setCell _ _ _ _ (hgF b hb)]
          have hpe := Lib.hid (VR.mono _ _ _ hkp cp5.out)
          have hfe : Hid (Free (((C4.setCell ⟨C3.heap.size, 0, none⟩ (.int .i64 (leastOkV xs t).c)).setCell ⟨C3.heap.size, 1, none⟩ (.int .i64 (leastOkV xs t).n)).setCell ⟨C3.heap.size, 2, none⟩ (.slice A3 (leastOkV xs t).ks.length cap3)) F3) := cf5.out.kept hkp
          have hse : Hid (Fresh w3 (((C4.setCell ⟨C3.heap.size, 0, none⟩ (.int .i64 (leastOkV xs t).c)).setCell ⟨C3.heap.size, 1, none⟩ (.int .i64 (leastOkV xs t).n)).setCell ⟨C3.heap.size, 2, none⟩ (.slice A3 (leastOkV xs t).ks.length cap3)) F3) := fun b hb => ⟨Nat.le_trans hC1.size (cs5.out b hb).1, by simpa [World.setCell] using (cs5.out b hb).2⟩
          have hge : Hid (C3.heap.size ∉ F3) := fun h => hgF _ h rfl
          clear hkp hgF
          refine wpAnyB_ready (rs := [9]) (by kernel_rfl) (by simp) ?_
          refine AllReadyB.cons rfl (fun K hK => ?_) AllReadyB.nil
          go_simp
          refine hK.out _ _ (HS.out _ hCe.out) (fun _ => trivial) ?_
          clear hK K
          (try simp only [Act.put, List.getElem_toArray, List.getElem_cons_zero, List.getElem_cons_succ, List.setIfInBounds_toArray, List.set_cons_zero, List.set_cons_succ])
          refine wpAnyB_ready (rs := [10]) (by kernel_rfl) (by simp) ?_
          refine AllReadyB.cons rfl (fun K hK => ?_) AllReadyB.nil
          go_simp
          refine hK.out _ _ (HS.out _ hCe.out) (fun _ => trivial) ?_
          clear hK K
          (try simp only [Act.put, List.getElem_toArray, List.getElem_cons_zero, List.getElem_cons_succ, List.setIfInBounds_toArray, List.set_cons_zero, List.set_cons_succ])
          refine wpAnyB_end (by kernel_rfl) ?_
          clear yy0 ff0 yy1 ff1 yy2 ff2 yylt
          go_wp2
          go_meet
          case rel => exact ⟨_, _, _, rfl, rfl, hCe, cbe, HGE4, hge, hpe, hfe, hse⟩
        · skip
          go_simp
          obtain ⟨C6, hX⟩ : ∃ X, X = C1.alloc (.cells #[.int .i64 0, .int .i64 0, .slice none 0 0] 53) := ⟨_, rfl⟩
          have hb6 : Below C1.heap.size C1 C6 := by rw [hX]; exact (Below.refl _ _).alloc (Nat.le_refl _) _
          have cx6 : Hid (Blk C6 C1.heap.size 53 #[.int .i64 0, .int .i64 0, .slice none 0 0]) := by rw [hX]; exact Blk.new _ _ _
          rw [← hX]
          clear hX
          have hC6 : Below w3.heap.size w3 C6 := hC1.trans (hb6.mono hC1.size)
          have HTC7 := Lib.hid (HTB1.out.same (hb6.block _ HTB1.out.lt))
          have HGE6 : Hid (w3.heap.size ≤ C1.heap.size) := hC1.size
          (try dsimp only)
          refine hK.out _ _ (HS.out _ hC6) (fun _ => trivial) ?_
          clear hK K
          (try simp only [Act.put, List.getElem_toArray, List.getElem_cons_zero, List.getElem_cons_succ, List.setIfInBounds_toArray, List.set_cons_zero, List.set_cons_succ])
          refine wpAnyB_ready (rs := [4]) (by kernel_rfl) (by simp) ?_
          refine AllReadyB.cons rfl (fun K hK => ?_) AllReadyB.nil
          go_simp
          go_at_call 81
          refine (impl_leastOk xs HW.out t HT.out _ _ F _ (ArrDt.below HX.out (hB3.trans (hC6.mono hB3.size)) HF.out) (HF.out.mono (hB3.trans (hC6.mono hB3.size)).size) HTC7.out).mono ?_
          rintro e C8 ⟨cs8, F8, rfl, hb8, hp8, hfr8, hfs8⟩
          have hC8 : Below w3.heap.size w3 C8 := hC6.trans (hb8.mono hC6.size)
          obtain ⟨kv8, rfl, ha8⟩ := (VR_iff _ _ _).1 hp8
          obtain ⟨A8, cap8, rfl, -, -⟩ := ha8.form
          clear ha8
          have cb8 : Hid (Blk C8 C1.heap.size 53 #[.int .i64 0, .int .i64 0, .slice none 0 0]) := cx6.out.same (hb8.block _ cx6.out.lt)
          have HP8 := Lib.hid hp8
          have HFr8 := Lib.hid hfr8
          have HFs8 := Lib.hid hfs8
          clear hp8 hfr8 hfs8
          (try dsimp only)
          refine hK.out _ _ (HS.out _ hC8) (fun _ => trivial) ?_
          clear hK K
          (try simp only [Act.put, List.getElem_toArray, List.getElem_cons_zero, List.getElem_cons_succ, List.setIfInBounds_toArray, List.set_cons_zero, List.set_cons_succ])
          have hSx8 := HS.out _ hC8
          refine wpAnyB_take (i := 5) (v := ?_) rfl (by decide) (by kernel_rfl) (by kernel_rfl) (by kernel_rfl) (fun _ _ _ h => h) (Or.inl ⟨by rfl, ?hy5⟩) hSx8 (fun _ => hT0) ?_
          case hy5 => (intro W hSw; (try dsimp only at hSw); (try obtain ⟨hSw0, hSw1⟩ := hSw); go_simp; try with_reducible rfl)
          (try simp only [Act.put, List.getElem_toArray, List.getElem_cons_zero, List.getElem_cons_succ, List.setIfInBounds_toArray, List.set_cons_zero, List.set_cons_succ])
          refine wpAnyB_take (i := 6) (v := ?_) rfl (by decide) (by kernel_rfl) (by kernel_rfl) (by kernel_rfl) (fun _ _ _ h => h) (Or.inl ⟨by rfl, ?hy6⟩) hSx8 (fun _ => hT0) ?_
          case hy6 => (intro W hSw; (try dsimp only at hSw); (try obtain ⟨hSw0, hSw1⟩ := hSw); go_simp; try with_reducible rfl)
          (try simp only [Act.put, List.getElem_toArray, List.getElem_cons_zero, List.getElem_cons_succ, List.setIfInBounds_toArray, List.set_cons_zero, List.set_cons_succ])
          refine wpAnyB_take (i := 7) (v := ?_) rfl (by decide) (by kernel_rfl) (by kernel_rfl) (by kernel_rfl) (fun _ _ _ h => h) (Or.inl ⟨by rfl, ?hy7⟩) hSx8 (fun _ => hT0) ?_
          case hy7 => (intro W hSw; (try dsimp only at hSw); (try obtain ⟨hSw0, hSw1⟩ := hSw); go_simp; try with_reducible rfl)
          (try simp only [Act.put, List.getElem_toArray, List.getElem_cons_zero, List.getElem_cons_succ, List.setIfInBounds_toArray, List.set_cons_zero, List.set_cons_succ])
          have yy0 : C8.cell? ⟨C1.heap.size, 0, none⟩ = some (.int .i64 0) := (cb8.out.cell 0).trans (by simp)
          have ff0 := cb8.out.frozen 0
          have yy1 : C8.cell? ⟨C1.heap.size, 1, none⟩ = some (.int .i64 0) := (cb8.out.cell 1).trans (by simp)
          have ff1 := cb8.out.frozen 1
          have yy2 : C8.cell? ⟨C1.heap.size, 2, none⟩ = some (.slice none 0 0) := (cb8.out.cell 2).trans (by simp)
          have ff2 := cb8.out.frozen 2
          have yylt := cb8.out.lt
          have hCe : Hid (Below w3.heap.size w3 (((C8.setCell ⟨C1.heap.size, 0, none⟩ (.int .i64 (leastOkV xs t).c)).setCell ⟨C1.heap.size, 1, none⟩ (.int .i64 (leastOkV xs t).n)).setCell ⟨C1.heap.size, 2, none⟩ (.slice A8 (leastOkV xs t).ks.length cap8))) := (((hC8.setCell HGE6.out _).setCell HGE6.out _).setCell HGE6.out _)
          have cbe : Hid (Blk (((C8.setCell ⟨C1.heap.size, 0, none⟩ (.int .i64 (leastOkV xs t).c)).setCell ⟨C1.heap.size, 1, none⟩ (.int .i64 (leastOkV xs t).n)).setCell ⟨C1.heap.size, 2, none⟩ (.slice A8 (leastOkV xs t).ks.length cap8)) (C1.heap.size) 53 #[.int .i64 (leastOkV xs t).c, .int .i64 (leastOkV xs t).n, .slice A8 (leastOkV xs t).ks.length cap8]) := (((cb8.out.set_ 0 _).set_ 1 _).set_ 2 _)
          have hgF : ∀ b ∈ F8, b ≠ C1.heap.size := fun b hb e => Nat.lt_irrefl _ (Nat.lt_of_lt_of_le (by rw [e]; exact cx6.out.lt) (HFs8.out b hb).1)
          have hkp : Kept F8 C8 (((C8.setCell ⟨C1.heap.size, 0, none⟩ (.int .i64 (leastOkV xs t).c)).setCell ⟨C1.heap.size, 1, none⟩ (.int .i64 (leastOkV xs t).n)).setCell ⟨C1.heap.size, 2, none⟩ (.slice A8 (leastOkV xs t).ks.length cap8)) := fun b hb => by rw [Below.heap_setCell _ _ _ _ (hgF b hb), Below.heap_setCell _ _ _ _ (hgF b hb), Below.heap_setCell _ _ _ _ (hgF b hb)]
          have hpe := Lib.hid (VR.mono _ _ _ hkp HP8.out)
          have hfe : Hid (Free (((C8.setCell ⟨C1.heap.size, 0, none⟩ (.int .i64 (leastOkV xs t).c)).setCell ⟨C1.heap.size, 1, none⟩ (.int .i64 (leastOkV xs t).n)).setCell ⟨C1.heap.size, 2, none⟩ (.slice A8 (leastOkV xs t).ks.length cap8)) F8) := HFr8.out.kept hkp
          have hse : Hid (Fresh w3 (((C8.setCell ⟨C1.heap.size, 0, none⟩ (.int .i64 (leastOkV xs t).c)).setCell ⟨C1.heap.size, 1, none⟩ (.int .i64 (leastOkV xs t).n)).setCell ⟨C1.heap.size, 2, none⟩ (.slice A8 (leastOkV xs t).ks.length cap8)) F8) := fun b hb => ⟨Nat.le_trans hC6.size (HFs8.out b hb).1, by simpa [World.setCell] using (HFs8.out b hb).2⟩
          have hge : Hid (C1.heap.size ∉ F8) := fun h => hgF _ h rfl
          clear hkp hgF
          refine wpAnyB_ready (rs := [9]) (by kernel_rfl) (by simp) ?_
          refine AllReadyB.cons rfl (fun K hK => ?_) AllReadyB.nil
          go_simp
          refine hK.out _ _ (HS.out _ hCe.out) (fun _ => trivial) ?_
          clear hK K
          (try simp only [Act.put, List.getElem_toArray, List.getElem_cons_zero, List.getElem_cons_succ, List.setIfInBounds_toArray, List.set_cons_zero, List.set_cons_succ])
          refine wpAnyB_ready (rs := [10]) (by kernel_rfl) (by simp) ?_
          refine AllReadyB.cons rfl (fun K hK => ?_) AllReadyB.nil
          go_simp
          refine hK.out _ _ (HS.out _ hCe.out) (fun _ => trivial) ?_
          clear hK K
          (try simp only [Act.put, List.getElem_toArray, List.getElem_cons_zero, List.getElem_cons_succ, List.setIfInBounds_toArray, List.set_cons_zero, List.set_cons_succ])
          refine wpAnyB_end (by kernel_rfl) ?_
          clear yy0 ff0 yy1 ff1 yy2 ff2 yylt
          go_wp2
          go_meet
          case rel => exact ⟨_, _, _, rfl, rfl, hCe, cbe, HGE6, hge, hpe, hfe, hse⟩
      · skip
        go_simp
        obtain ⟨C9, hX⟩ : ∃ X, X = wd.alloc (.cells #[.int .i64 0, .int .i64 0, .slice none 0 0] 53) := ⟨_, rfl⟩
        have hb9 : Below wd.heap.size wd C9 := by rw [hX]; exact (Below.refl _ _).alloc (Nat.le_refl _) _
        have cx9 : Hid (Blk C9 wd.heap.size 53 #[.int .i64 0, .int .i64 0, .slice none 0 0]) := by rw [hX]; exact Blk.new _ _ _
        rw [← hX]
        clear hX
        have hC9 : Below w3.heap.size w3 C9 := hC0.trans (hb9.mono hC0.size)
        skip
        have HGE9 : Hid (w3.heap.size ≤ wd.heap.size) := hC0.size
        (try dsimp only)
        refine hK.out _ _ (HS.out _ hC9) (fun _ => trivial) ?_
        clear hK K
        (try simp only [Act.put, List.getElem_toArray, List.getElem_cons_zero, List.getElem_cons_succ, List.setIfInBounds_toArray, List.set_cons_zero, List.set_cons_succ])
        refine wpAnyB_ready (rs := [2]) (by kernel_rfl) (by simp) ?_
        refine AllReadyB.cons rfl (fun K hK => ?_) AllReadyB.nil
        go_simp
        go_at_call 79
        refine (impl_depthsOf xs HW.out _ _ F (ArrDt.below HX.out (hB3.trans (hC9.mono hB3.size)) HF.out) (HF.out.mono (hB3.trans (hC9.mono hB3.size)).size)).mono ?_
        rintro e C11 ⟨g11, rfl, -, ht11, hb11⟩
        have hC11 : Below w3.heap.size w3 C11 := hC9.trans (hb11.mono hC9.size)
        skip
        have cb12 : Hid (Blk C11 wd.heap.size 53 #[.int .i64 0, .int .i64 0, .slice none 0 0]) := cx9.out.same (hb11.block _ cx9.out.lt)
        have HTB11 := Lib.hid ht11
        clear ht11
        (try dsimp only)
        refine hK.out _ _ (HS.out _ hC11) (fun _ => trivial) ?_
        clear hK K
        (try simp only [Act.put, List.getElem_toArray, List.getElem_cons_zero, List.getElem_cons_succ, List.setIfInBounds_toArray, List.set_cons_zero, List.set_cons_succ])
        refine wpAnyB_ready (rs := [4]) (by kernel_rfl) (by simp) ?_
        refine AllReadyB.cons rfl (fun K hK => ?_) AllReadyB.nil
        go_simp
        go_at_call 81
        refine (impl_leastOk xs HW.out t HT.out _ _ F _ (ArrDt.below HX.out (hB3.trans (hC11.mono hB3.size)) HF.out) (HF.out.mono (hB3.trans (hC11.mono hB3.size)).size) HTB11.out).mono ?_
        rintro e C13 ⟨cs13, F13, rfl, hb13, hp13, hfr13, hfs13⟩
        have hC13 : Below w3.heap.size w3 C13 := hC11.trans (hb13.mono hC11.size)
        obtain ⟨kv13, rfl, ha13⟩ := (VR_iff _ _ _).1 hp13
        obtain ⟨A13, cap13, rfl, -, -⟩ := ha13.form
        clear ha13
        have cb13 : Hid (Blk C13 wd.heap.size 53 #[.int .i64 0, .int .i64 0, .slice none 0 0]) := cb12.out.same (hb13.block _ cb12.out.lt)
        have HP13 := Lib.hid hp13
        have HFr13 := Lib.hid hfr13
        have HFs13 := Lib.hid hfs13
        clear hp13 hfr13 hfs13
        (try dsimp only)
        refine hK.out _ _ (HS.out _ hC13) (fun _ => trivial) ?_
        clear hK K
        (try simp only [Act.put, List.getElem_toArray, List.getElem_cons_zero, List.getElem_cons_succ, List.setIfInBounds_toArray, List.set_cons_zero, List.set_cons_succ])
        have hSx13 := HS.out _ hC13
        refine wpAnyB_take (i := 5) (v := ?_) rfl (by decide) (by kernel_rfl) (by kernel_rfl) (by kernel_rfl) (fun _ _ _ h => h) (Or.inl ⟨by rfl, ?hy5⟩) hSx13 (fun _ => hT0) ?_
        case hy5 => (intro W hSw; (try dsimp only at hSw); (try obtain ⟨hSw0, hSw1⟩ := hSw); go_simp; try with_reducible rfl)
        (try simp only [Act.put, List.getElem_toArray, List.getElem_cons_zero, List.getElem_cons_succ, List.setIfInBounds_toArray, List.set_cons_zero, List.set_cons_succ])
        refine wpAnyB_take (i := 6) (v := ?_) rfl (by decide) (by kernel_rfl) (by kernel_rfl) (by kernel_rfl) (fun _ _ _ h => h) (Or.inl ⟨by rfl, ?hy6⟩) hSx13 (fun _ => hT0) ?_
        case hy6 => (intro W hSw; (try dsimp only at hSw); (try obtain ⟨hSw0, hSw1⟩ := hSw); go_simp; try with_reducible rfl)
        (try simp only [Act.put, List.getElem_toArray, List.getElem_cons_zero, List.getElem_cons_succ, List.setIfInBounds_toArray, List.set_cons_zero, List.set_cons_succ])
        refine wpAnyB_take (i := 7) (v := ?_) rfl (by decide) (by kernel_rfl) (by kernel_rfl) (by kernel_rfl) (fun _ _ _ h => h) (Or.inl ⟨by rfl, ?hy7⟩) hSx13 (fun _ => hT0) ?_
        case hy7 => (intro W hSw; (try dsimp only at hSw); (try obtain ⟨hSw0, hSw1⟩ := hSw); go_simp; try with_reducible rfl)
        (try simp only [Act.put, List.getElem_toArray, List.getElem_cons_zero, List.getElem_cons_succ, List.setIfInBounds_toArray, List.set_cons_zero, List.set_cons_succ])
        have yy0 : C13.cell? ⟨wd.heap.size, 0, none⟩ = some (.int .i64 0) := (cb13.out.cell 0).trans (by simp)
        have ff0 := cb13.out.frozen 0
        have yy1 : C13.cell? ⟨wd.heap.size, 1, none⟩ = some (.int .i64 0) := (cb13.out.cell 1).trans (by simp)
        have ff1 := cb13.out.frozen 1
        have yy2 : C13.cell? ⟨wd.heap.size, 2, none⟩ = some (.slice none 0 0) := (cb13.out.cell 2).trans (by simp)
        have ff2 := cb13.out.frozen 2
        have yylt := cb13.out.lt
        have hCe : Hid (Below w3.heap.size w3 (((C13.setCell ⟨wd.heap.size, 0, none⟩ (.int .i64 (leastOkV xs t).c)).setCell ⟨wd.heap.size, 1, none⟩ (.int .i64 (leastOkV xs t).n)).setCell ⟨wd.heap.size, 2, none⟩ (.slice A13 (leastOkV xs t).ks.length cap13))) := (((hC13.setCell HGE9.out _).setCell HGE9.out _).setCell HGE9.out _)
        have cbe : Hid (Blk (((C13.setCell ⟨wd.heap.size, 0, none⟩ (.int .i64 (leastOkV xs t).c)).setCell ⟨wd.heap.size, 1, none⟩ (.int .i64 (leastOkV xs t).n)).setCell ⟨wd.heap.size, 2, none⟩ (.slice A13 (leastOkV xs t).ks.length cap13)) (wd.heap.size) 53 #[.int .i64 (leastOkV xs t).c, .int .i64 (leastOkV xs t).n, .slice A13 (leastOkV xs t).ks.length cap13]) := (((cb13.out.set_ 0 _).set_ 1 _).set_ 2 _)
        have hgF : ∀ b ∈ F13, b ≠ wd.heap.size := fun b hb e => Nat.lt_irrefl _ (Nat.lt_of_lt_of_le (by rw [e]; exact cb12.out.lt) (HFs13.out b hb).1)
        have hkp : Kept F13 C13 (((C13.setCell ⟨wd.heap.size, 0, none⟩ (.int .i64 (leastOkV xs t).c)).setCell ⟨wd.heap.size, 1, none⟩ (.int .i64 (leastOkV xs t).n)).setCell ⟨wd.heap.size, 2, none⟩ (.slice A13 (leastOkV xs t).ks.length cap13)) := fun b hb => by rw [Below.heap_setCell _ _ _ _ (hgF b hb), Below.heap_setCell _ _ _ _ (hgF b hb), Below.heap_setCell _ _ _ _ (hgF b hb)]
        have hpe := Lib.hid (VR.mono _ _ _ hkp HP13.out)
        have hfe : Hid (Free (((C13.setCell ⟨wd.heap.size, 0, none⟩ (.int .i64 (leastOkV xs t).c)).setCell ⟨wd.heap.size, 1, none⟩ (.int .i64 (leastOkV xs t).n)).setCell ⟨wd.heap.size, 2, none⟩ (.slice A13 (leastOkV xs t).ks.length cap13)) F13) := HFr13.out.kept hkp
        have hse : Hid (Fresh w3 (((C13.setCell ⟨wd.heap.size, 0, none⟩ (.int .i64 (leastOkV xs t).c)).setCell ⟨wd.heap.size, 1, none⟩ (.int .i64 (leastOkV xs t).n)).setCell ⟨wd.heap.size, 2, none⟩ (.slice A13 (leastOkV xs t).ks.length cap13)) F13) := fun b hb => ⟨Nat.le_trans hC11.size (HFs13.out b hb).1, by simpa [World.setCell] using (HFs13.out b hb).2⟩
        have hge : Hid (wd.heap.size ∉ F13) := fun h => hgF _ h rfl
        clear hkp hgF
        refine wpAnyB_ready (rs := [9]) (by kernel_rfl) (by simp) ?_
        refine AllReadyB.cons rfl (fun K hK => ?_) AllReadyB.nil
        go_simp
        refine hK.out _ _ (HS.out _ hCe.out) (fun _ => trivial) ?_
        clear hK K
        (try simp only [Act.put, List.getElem_toArray, List.getElem_cons_zero, List.getElem_cons_succ, List.setIfInBounds_toArray, List.set_cons_zero, List.set_cons_succ])
        refine wpAnyB_ready (rs := [10]) (by kernel_rfl) (by simp) ?_
        refine AllReadyB.cons rfl (fun K hK => ?_) AllReadyB.nil
        go_simp
        refine hK.out _ _ (HS.out _ hCe.out) (fun _ => trivial) ?_
        clear hK K
        (try simp only [Act.put, List.getElem_toArray, List.getElem_cons_zero, List.getElem_cons_succ, List.setIfInBounds_toArray, List.set_cons_zero, List.set_cons_succ])
        refine wpAnyB_end (by kernel_rfl) ?_
        clear yy0 ff0 yy1 ff1 yy2 ff2 yylt
        go_wp2
        go_meet
        case rel => exact ⟨_, _, _, rfl, rfl, hCe, cbe, HGE9, hge, hpe, hfe, hse⟩
    case rest =>
      obtain ⟨g5, cs5, F5, rfl, rfl, HB5, RB5, RGE5, RGF5, HP5, HFR5, HFS5⟩ := hcut
      obtain ⟨kv5, rfl, ha5⟩ := (VR_iff _ _ _).1 HP5.out
      obtain ⟨aA, acap, rfl, -, -⟩ := ha5.form
      clear ha5
      obtain ⟨w5, hw5⟩ : ∃ X, X = wc := ⟨_, rfl⟩
      rw [← hw5] at HB5 RB5 HP5 HFR5 HFS5 ⊢
      clear hw5
      have hB5 := hB3.trans (HB5.out.mono hB3.size)
      have KT5 := Lib.hid (KT3.out.same (HB5.out.block _ KT3.out.lt))
      have KR5 := Lib.hid (KR3.out.same (HB5.out.block _ KR3.out.lt))
      have k3lt := KR3.out.lt
      have KV5 : Hid (Blk w5 g5 53 #[.int .i64 (leastOkV xs t).c, .int .i64 (leastOkV xs t).n, .slice aA (leastOkV xs t).ks.length acap]) := RB5
      have HSM := Lib.hid (leastOkV_small HW.out HT.out)
      clear RB5 KT3 KR3 HB5
      cases e2 : leastOkB xs t with
      | false =>
        have HE : Hid (leastFine xs t = false) := by unfold Hid; rw [HFE.out, HTV.out, e2]; rfl
        have hz : Hid (leastR xs t = ⟨0, 0, []⟩) := leastR_no HE.out
        clear e2
        have rc0 := (KR5.out.cell 0).trans (show _ = some (.int .i64 0) from by simp)
        have rf0 := KR5.out.frozen 0
        have rc1 := (KR5.out.cell 1).trans (show _ = some (.int .i64 0) from by simp)
        have rf1 := KR5.out.frozen 1
        have rc2 := (KR5.out.cell 2).trans (show _ = some (.slice none 0 0) from by simp)
        have rf2 := KR5.out.frozen 2
        have rlt := KR5.out.lt
        go_wp2
        clear rc0 rf0 rc1 rf1 rc2 rf2 rlt
        refine bodyPost_ret (results_cell_tmp rfl _ _ (w.heap.size + 1) 53 #[.int .i64 0, .int .i64 0, .slice none 0 0] (0, 0) _ rfl (KR5.out.three _ _ _) Try.underlying53 rfl rfl) rfl ?_
        exact ⟨[.int .i64 0, .int .i64 0, .slice none 0 0], [], by rw [HE.out]; rfl, below_three hB5 (by omega) _ _ _, by rw [hz.out]; exact (VR_iff _ _ _).2 ⟨_, rfl, Arr.nil⟩, Free.nil _, Fresh.nil _ _⟩
      | true =>
        have HE2 := Lib.hid e2
        clear e2
        have y0 : w5.cell? ⟨w.heap.size, 0, none⟩ = some (.int .i64 t.d) := (KT5.out.cell 0).trans (by simp)
        have y1 : w5.cell? ⟨w.heap.size, 1, none⟩ = some (.int .i64 t.i) := (KT5.out.cell 1).trans (by simp)
        have ylt := KT5.out.lt
        have v0 : w5.cell? ⟨g5, 0, none⟩ = some (.int .i64 (leastOkV xs t).c) := (KV5.out.cell 0).trans (by simp)
        have v1 : w5.cell? ⟨g5, 1, none⟩ = some (.int .i64 (leastOkV xs t).n) := (KV5.out.cell 1).trans (by simp)
        have v2 : w5.cell? ⟨g5, 2, none⟩ = some (.slice aA (leastOkV xs t).ks.length acap) := (KV5.out.cell 2).trans (by simp)
        have vlt := KV5.out.lt
        go_wp2_with fail
        refine (impl_valueOk xs t (leastOkV xs t) w5 _ F _ F5 (ArrDt.below HX.out hB5 HF.out) (HF.out.mono hB5.size) HP5.out HFS5.out.under HW.out HT.out HSM.out).mono ?_
        rintro e w6 ⟨rfl, hb6⟩
        have hB6 := hB5.trans (hb6.mono hB5.size)
        have KR6 := Lib.hid (KR5.out.same (hb6.block _ KR5.out.lt))
        have KV6 := Lib.hid (KV5.out.same (hb6.block _ KV5.out.lt))
        have HP6 := Lib.hid (HP5.out.below hb6 HFS5.out.under)
        have HFR6 := Lib.hid (HFR5.out.kept (.of_below hb6 HFS5.out.under))
        have HFS6 : Hid (Fresh w w6 F5) := fun b hb => ⟨Nat.le_trans hB3.size (HFS5.out b hb).1, Nat.lt_of_lt_of_le (HFS5.out b hb).2 hb6.size⟩
        have HNE : Hid (∀ b ∈ F5, b ≠ w.heap.size + 1) := fun b hb e => by have h1 := (HFS5.out b hb).1; omega
        clear y0 y1 ylt v0 v1 v2 vlt hb6 HP5 HFR5 KR5 KT5 KV5
        cases e3 : valueOkB xs t (leastOkV xs t) with
        | false =>
          have HE : Hid (leastFine xs t = false) := by unfold Hid; rw [HFE.out, HTV.out, e3]; simp
          have hz : Hid (leastR xs t = ⟨0, 0, []⟩) := leastR_no HE.out
          clear e3
          have rc0 := (KR6.out.cell 0).trans (show _ = some (.int .i64 0) from by simp)
          have rf0 := KR6.out.frozen 0
          have rc1 := (KR6.out.cell 1).trans (show _ = some (.int .i64 0) from by simp)
          have rf1 := KR6.out.frozen 1
          have rc2 := (KR6.out.cell 2).trans (show _ = some (.slice none 0 0) from by simp)
          have rf2 := KR6.out.frozen 2
          have rlt := KR6.out.lt
          go_wp2
          clear rc0 rf0 rc1 rf1 rc2 rf2 rlt
          refine bodyPost_ret (results_cell_tmp rfl _ _ (w.heap.size + 1) 53 #[.int .i64 0, .int .i64 0, .slice none 0 0] (0, 0) _ rfl (KR6.out.three _ _ _) Try.underlying53 rfl rfl) rfl ?_
          exact ⟨[.int .i64 0, .int .i64 0, .slice none 0 0], [], by rw [HE.out]; rfl, below_three hB6 (by omega) _ _ _, by rw [hz.out]; exact (VR_iff _ _ _).2 ⟨_, rfl, Arr.nil⟩, Free.nil _, Fresh.nil _ _⟩
        | true =>
          have HE : Hid (leastFine xs t = true) := by unfold Hid; rw [HFE.out, HTV.out, HE2.out, e3]; rfl
          have hz : Hid (leastR xs t = (leastOkV xs t)) := leastR_yes HE.out HE2.out
          clear e3
          have v0 : w6.cell? ⟨g5, 0, none⟩ = some (.int .i64 (leastOkV xs t).c) := (KV6.out.cell 0).trans (by simp)
          have v1 : w6.cell? ⟨g5, 1, none⟩ = some (.int .i64 (leastOkV xs t).n) := (KV6.out.cell 1).trans (by simp)
          have v2 : w6.cell? ⟨g5, 2, none⟩ = some (.slice aA (leastOkV xs t).ks.length acap) := (KV6.out.cell 2).trans (by simp)
          have vlt := KV6.out.lt
          generalize (leastOkV xs t).ks.length = n5 at *
          generalize (leastOkV xs t).c = ac at *
          generalize (leastOkV xs t).n = an at *
          have rc0 := (KR6.out.cell 0).trans (show _ = some (.int .i64 0) from by simp)
          have rf0 := KR6.out.frozen 0
          have rc1 := (KR6.out.cell 1).trans (show _ = some (.int .i64 0) from by simp)
          have rf1 := KR6.out.frozen 1
          have rc2 := (KR6.out.cell 2).trans (show _ = some (.slice none 0 0) from by simp)
          have rf2 := KR6.out.frozen 2
          have rlt := KR6.out.lt
          go_wp2
          clear rc0 rf0 rc1 rf1 rc2 rf2 rlt
          refine bodyPost_ret (results_cell_tmp rfl _ _ (w.heap.size + 1) 53 #[.int .i64 ac, .int .i64 an, .slice aA n5 acap] (0, 0) _ rfl (KR6.out.three _ _ _) Try.underlying53 rfl rfl) rfl ?_
          have hkp : Kept F5 w6 _ := kept_three (w := w6) (H := w.heap.size + 1) HNE.out (.int .i64 ac) (.int .i64 an) (.slice aA n5 acap)
          refine ⟨[.int .i64 ac, .int .i64 an, .slice aA n5 acap], F5, by rw [HE.out]; rfl, below_three hB6 (by omega) _ _ _, ?_, HFR6.out.kept hkp, fun b hb => ⟨(HFS6.out b hb).1, by rw [size_three]; exact (HFS6.out b hb).2⟩⟩
          rw [hz.out]
          exact VR.mono _ _ _ hkp HP6.out

set_option maxRecDepth 100000 in
set_option maxHeartbeats 1600000 in
theorem spec_LeastValue (xs : List Dt) (t : Ty) (w : World) (x : Value) (F : List Nat) (hx : Arr w (DtR w) xs x F) (hf : Under w.heap.size F) :
    Calls Try.prog 35 #[x, .agg #[.int .i64 t.d, .int .i64 t.i]] w (MadeV2 (leastR xs t) (leastFine xs t) w) := by
  obtain ⟨A, cap, rfl, hc1, hc2⟩ := hx.form
  have HFE := Lib.hid (leastFine_eq xs t)
  have HX := Lib.hid hx
  have HF := Lib.hid hf
  clear hx hf
  go_enter Try.func35, Try.ntmps35
  go_wp2_with fail
  obtain ⟨W2, hW2⟩ : ∃ W2, W2 = ((w.alloc (.cells #[.int .i64 t.d, .int .i64 t.i] 32)).alloc (.cells #[.int .i64 0, .int .i64 0, .slice none 0 0] 53)) := ⟨_, rfl⟩
  have hB0 : Below w.heap.size w W2 := by rw [hW2]; exact ((Below.refl _ _).alloc (Nat.le_refl _) _).alloc (by simp) _
  have KT : Hid (Blk W2 w.heap.size 32 #[.int .i64 t.d, .int .i64 t.i]) := by rw [hW2]; exact (Blk.new w _ _).same (Below.heap_alloc _ _ _ (by simp))
  have KR : Hid (Blk W2 (w.heap.size + 1) 53 #[.int .i64 0, .int .i64 0, .slice none 0 0]) := by rw [hW2]; exact blk_second w _ _ _
  rw [← hW2]
  clear hW2
  have y0 : W2.cell? ⟨w.heap.size, 0, none⟩ = some (.int .i64 t.d) := (KT.out.cell 0).trans (by simp)
  have y1 : W2.cell? ⟨w.heap.size, 1, none⟩ = some (.int .i64 t.i) := (KT.out.cell 1).trans (by simp)
  have ylt := KT.out.lt
  go_wp2_with fail
  refine (spec_LeastDepth xs t W2 _ F (ArrDt.below HX.out hB0 HF.out) (HF.out.mono hB0.size)).mono ?_
  rintro e w3 ⟨rfl, hb3⟩
  have hB3 := hB0.trans (hb3.mono hB0.size)
  have KT3 := Lib.hid (KT.out.same (hb3.block _ KT.out.lt))
  have KR3 := Lib.hid (KR.out.same (hb3.block _ KR.out.lt))
  clear y0 y1 ylt
  clear hb3 KT KR
  cases e0 : posB (depthL xs t) with
  | false =>
    have HE : Hid (leastFine xs t = false) := by
      unfold Hid
      rw [HFE.out]
      cases h1 : typeValidB xs t with
      | false => rfl
      | true =>
        rw [depthL_yes h1] at e0
        have : leastOkB xs t = false := by
          unfold leastOkB withinB posB at *
          simp only [decide_eq_false_iff_not] at e0
          rw [decide_eq_false (by omega)]; rfl
        rw [this]; rfl
    have hz : Hid (leastR xs t = ⟨0, 0, []⟩) := leastR_no HE.out
    generalize depthL xs t = dl at *
    clear e0
    have rc0 := (KR3.out.cell 0).trans (show _ = some (.int .i64 0) from by simp)
    have rf0 := KR3.out.frozen 0
    have rc1 := (KR3.out.cell 1).trans (show _ = some (.int .i64 0) from by simp)
    have rf1 := KR3.out.frozen 1
    have rc2 := (KR3.out.cell 2).trans (show _ = some (.slice none 0 0) from by simp)
    have rf2 := KR3.out.frozen 2
    have rlt := KR3.out.lt
    go_wp2
    clear rc0 rf0 rc1 rf1 rc2 rf2 rlt
    refine bodyPost_ret (results_cell_tmp rfl _ _ (w.heap.size + 1) 53 #[.int .i64 0, .int .i64 0, .slice none 0 0] (0, 0) _ rfl (KR3.out.three _ _ _) Try.underlying53 rfl rfl) rfl ?_
    exact ⟨[.int .i64 0, .int .i64 0, .slice none 0 0], [], by rw [HE.out]; rfl, below_three hB3 (by omega) _ _ _, by rw [hz.out]; exact (VR_iff _ _ _).2 ⟨_, rfl, Arr.nil⟩, Free.nil _, Fresh.nil _ _⟩
  | true =>
    have e1 : typeValidB xs t = true := by
      cases h1 : typeValidB xs t with
      | true => rfl
      | false => rw [depthL_no h1] at e0; cases e0
    obtain ⟨hw, hto⟩ := typeValid_split e1
    have HW := Lib.hid hw
    have HT := Lib.hid (typeOkB_tyIn hto)
    have HTV := Lib.hid e1
    have HDL := Lib.hid (depthL_yes e1)
    have hp0 : 0 < depthL xs t := by unfold posB at e0; exact of_decide_eq_true e0
    have HP0 := Lib.hid hp0
    clear e1 hw hto hp0 e0
    by_cases h10 : depthL xs t > 10
    · have d0 : decide (depthL xs t > 10) = true := decide_eq_true h10
      have HE : Hid (leastFine xs t = false) := by
        have : leastOkB xs t = false := by
          unfold leastOkB withinB
          rw [← HDL.out, decide_eq_false (show ¬ depthL xs t ≤ 10 from by omega), Bool.and_false]
        unfold Hid
        rw [HFE.out, this, Bool.false_and, Bool.and_false]
      have hz : Hid (leastR xs t = ⟨0, 0, []⟩) := leastR_no HE.out
      clear h10
      generalize depthL xs t = dl at *
      have rc0 := (KR3.out.cell 0).trans (show _ = some (.int .i64 0) from by simp)
      have rf0 := KR3.out.frozen 0
      have rc1 := (KR3.out.cell 1).trans (show _ = some (.int .i64 0) from by simp)
      have rf1 := KR3.out.frozen 1
      have rc2 := (KR3.out.cell 2).trans (show _ = some (.slice none 0 0) from by simp)
      have rf2 := KR3.out.frozen 2
      have rlt := KR3.out.lt
      go_wp2
      clear rc0 rf0 rc1 rf1 rc2 rf2 rlt
      refine bodyPost_ret (results_cell_tmp rfl _ _ (w.heap.size + 1) 53 #[.int .i64 0, .int .i64 0, .slice none 0 0] (0, 0) _ rfl (KR3.out.three _ _ _) Try.underlying53 rfl rfl) rfl ?_
      exact ⟨[.int .i64 0, .int .i64 0, .slice none 0 0], [], by rw [HE.out]; rfl, below_three hB3 (by omega) _ _ _, by rw [hz.out]; exact (VR_iff _ _ _).2 ⟨_, rfl, Arr.nil⟩, Free.nil _, Fresh.nil _ _⟩
    · have d0 : decide (depthL xs t > 10) = false := decide_eq_false h10
      have HE2 : Hid (leastOkB xs t = true) := by
        unfold Hid leastOkB withinB
        have := HP0.out
        rw [← HDL.out, decide_eq_true (show depthL xs t ≤ 10 from by omega), decide_eq_true (show 1 ≤ depthL xs t from by omega)]; rfl
      have HDP := Lib.hid (leastOk_dep HE2.out)
      have HZ : Hid (leastOkV xs t = leastV xs 10 t) := by unfold Hid leastOkV; rw [if_pos HE2.out]
      clear h10
      generalize depthL xs t = dl at *
      go_wp2_with fail
      go_cut [8] from 9 (fun p wq => ∃ (g : Nat) (cs : List Value) (F : List Nat), p = .pointer (some ⟨g, 0, none⟩) ∧ Hid (Below w3.heap.size w3 wq) ∧ Hid (Blk wq g 53 cs.toArray) ∧ Hid (w3.heap.size ≤ g) ∧ Hid (g ∉ F) ∧ Hid (VR wq (leastOkV xs t) cs F) ∧ Hid (Free wq F) ∧ Hid (Fresh w3 wq F))
      case first =>
        have HS : Hid (∀ C : World, Below w3.heap.size w3 C → (C.cell? ⟨w.heap.size, 0, none⟩ = some (.int .i64 t.d) ∧ C.cell? ⟨w.heap.size, 1, none⟩ = some (.int .i64 t.i))) := fun C hb => ⟨((KT3.out.same (hb.block _ KT3.out.lt)).cell 0).trans (by simp), ((KT3.out.same (hb.block _ KT3.out.lt)).cell 1).trans (by simp)⟩
        have hC0 : Below w3.heap.size w3 w3.drew := (Below.refl _ _).drew
        refine wp_region_B (S := fun w' => w'.cell? ⟨w.heap.size, 0, none⟩ = some (.int .i64 t.d) ∧ w'.cell? ⟨w.heap.size, 1, none⟩ = some (.int .i64 t.i)) (T := fun _ => True) (d := 6) (by kernel_rfl) ?_
        obtain ⟨wd, hwd⟩ : ∃ X, X = w3.drew := ⟨_, rfl⟩
        rw [← hwd] at hC0 ⊢
        clear hwd
        have hS0 := HS.out _ hC0
        have hT0 : True := trivial
        refine wpAnyB_take (i := 0) (v := ?_) rfl (by decide) (by kernel_rfl) (by kernel_rfl) (by kernel_rfl) (fun _ _ _ h => h) (Or.inl ⟨by rfl, ?hy0⟩) hS0 (fun _ => hT0) ?_
        case hy0 => (intro W hSw; (try dsimp only at hSw); (try obtain ⟨hSw0, hSw1⟩ := hSw); go_simp; try with_reducible rfl)
        (try simp only [Act.put, List.getElem_toArray, List.getElem_cons_zero, List.getElem_cons_succ, List.setIfInBounds_toArray, List.set_cons_zero, List.set_cons_succ])
        refine wpAnyB_take (i := 1) (v := ?_) rfl (by decide) (by kernel_rfl) (by kernel_rfl) (by kernel_rfl) (fun _ _ _ h => h) (Or.inl ⟨by rfl, ?hy1⟩) hS0 (fun _ => hT0) ?_
        case hy1 => (intro W hSw; (try dsimp only at hSw); (try obtain ⟨hSw0, hSw1⟩ := hSw); go_simp; try with_reducible rfl)
        (try simp only [Act.put, List.getElem_toArray, List.getElem_cons_zero, List.getElem_cons_succ, List.setIfInBounds_toArray, List.set_cons_zero, List.set_cons_succ])
        refine wpAnyB_take (i := 3) (v := ?_) rfl (by decide) (by kernel_rfl) (by kernel_rfl) (by kernel_rfl) (fun _ _ _ h => h) (Or.inl ⟨by rfl, ?hy3⟩) hS0 (fun _ => hT0) ?_
        case hy3 => (intro W hSw; (try dsimp only at hSw); (try obtain ⟨hSw0, hSw1⟩ := hSw); go_simp; try with_reducible rfl)
        (try simp only [Act.put, List.getElem_toArray, List.getElem_cons_zero, List.getElem_cons_succ, List.setIfInBounds_toArray, List.set_cons_zero, List.set_cons_succ])
        refine wpAnyB_ready (rs := [2, 5]) (by kernel_rfl) (by simp) ?_
        refine AllReadyB.cons rfl (fun K hK => ?_) (AllReadyB.cons rfl (fun K hK => ?_) AllReadyB.nil)
        · skip
          go_simp
          go_at_call 84
          refine (spec_l1Table xs HW.out _ _ F (ArrDt.below HX.out (hB3.trans (hC0.mono hB3.size)) HF.out) (HF.out.mono (hB3.trans (hC0.mono hB3.size)).size)).mono ?_
          rintro e C1 ⟨v1, Ft1, rfl, hb1, ha1, -, hfs1⟩
          have hC1 : Below w3.heap.size w3 C1 := hC0.trans (hb1.mono hC0.size)
          skip
          have HTB1 := Lib.hid ha1
          have HTU1 := Lib.hid hfs1.under
          clear ha1 hfs1
          (try dsimp only)
          refine hK.out _ _ (HS.out _ hC1) (fun _ => trivial) ?_
          clear hK K
          (try simp only [Act.put, List.getElem_toArray, List.getElem_cons_zero, List.getElem_cons_succ, List.setIfInBounds_toArray, List.set_cons_zero, List.set_cons_succ])
          refine wpAnyB_ready (rs := [4, 5]) (by kernel_rfl) (by simp) ?_
          refine AllReadyB.cons rfl (fun K hK => ?_) (AllReadyB.cons rfl (fun K hK => ?_) AllReadyB.nil)
          · skip
            go_simp
            go_at_call 83
            refine (spec_least 10 xs HW.out t HT.out HDP.out.1 HDP.out.2 (Nat.le_refl _) _ _ F _ Ft1 (ArrDt.below HX.out (hB3.trans (hC1.mono hB3.size)) HF.out) (HF.out.mono (hB3.trans (hC1.mono hB3.size)).size) HTB1.out HTU1.out).mono ?_
            rintro e C3 ⟨cs3, F3, rfl, hb3, hp3, hfr3, hfs3⟩
            have hC3 : Below w3.heap.size w3 C3 := hC1.trans (hb3.mono hC1.size)
            rw [← HZ.out] at hp3
            obtain ⟨kv3, rfl, ha3⟩ := (VR_iff _ _ _).1 hp3
            obtain ⟨A3, cap3, rfl, -, -⟩ := ha3.form
            clear ha3
            have HP3 := Lib.hid hp3
            have HFr3 := Lib.hid hfr3
            have HFs3 := Lib.hid hfs3
            clear hp3 hfr3 hfs3
            (try dsimp only)
            refine hK.out _ _ (HS.out _ hC3) (fun _ => trivial) ?_
            clear hK K
            (try simp only [Act.put, List.getElem_toArray, List.getElem_cons_zero, List.getElem_cons_succ, List.setIfInBounds_toArray, List.set_cons_zero, List.set_cons_succ])
            refine wpAnyB_ready (rs := [5]) (by kernel_rfl) (by simp) ?_
            refine AllReadyB.cons rfl (fun K hK => ?_) AllReadyB.nil
            go_simp
            obtain ⟨C4, hX⟩ : ∃ X, X = C3.alloc (.cells #[.int .i64 0, .int .i64 0, .slice none 0 0] 53) := ⟨_, rfl⟩
            have hb4 : Below C3.heap.size C3 C4 := by rw [hX]; exact (Below.refl _ _).alloc (Nat.le_refl _) _
            have cx4 : Hid (Blk C4 C3.heap.size 53 #[.int .i64 0, .int .i64 0, .slice none 0 0]) := by rw [hX]; exact Blk.new _ _ _
            rw [← hX]
            clear hX
            have hC4 : Below w3.heap.size w3 C4 := hC3.trans (hb4.mono hC3.size)
            have cp5 := Lib.hid (VR.below HP3.out hb4 HFs3.out.under)
            have cf5 := Lib.hid (HFr3.out.kept (.of_below hb4 HFs3.out.under))
            have cs5 : Hid (Fresh C1 C4 F3) := fun b hb => ⟨(HFs3.out b hb).1, Nat.lt_of_lt_of_le (HFs3.out b hb).2 hb4.size⟩
            have HGE4 : Hid (w3.heap.size ≤ C3.heap.size) := hC3.size
            (try dsimp only)
            refine hK.out _ _ (HS.out _ hC4) (fun _ => trivial) ?_
            clear hK K
            (try simp only [Act.put, List.getElem_toArray, List.getElem_cons_zero, List.getElem_cons_succ, List.setIfInBounds_toArray, List.set_cons_zero, List.set_cons_succ])
            have yy0 : C4.cell? ⟨C3.heap.size, 0, none⟩ = some (.int .i64 0) := (cx4.out.cell 0).trans (by simp)
            have ff0 := cx4.out.frozen 0
            have yy1 : C4.cell? ⟨C3.heap.size, 1, none⟩ = some (.int .i64 0) := (cx4.out.cell 1).trans (by simp)
            have ff1 := cx4.out.frozen 1
            have yy2 : C4.cell? ⟨C3.heap.size, 2, none⟩ = some (.slice none 0 0) := (cx4.out.cell 2).trans (by simp)
            have ff2 := cx4.out.frozen 2
            have yylt := cx4.out.lt
            have hCe : Hid (Below w3.heap.size w3 (((C4.setCell ⟨C3.heap.size, 0, none⟩ (.int .i64 (leastOkV xs t).c)).setCell ⟨C3.heap.size, 1, none⟩ (.int .i64 (leastOkV xs t).n)).setCell ⟨C3.heap.size, 2, none⟩ (.slice A3 (leastOkV xs t).ks.length cap3))) := (((hC4.setCell HGE4.out _).setCell HGE4.out _).setCell HGE4.out _)
            have cbe : Hid (Blk (((C4.setCell ⟨C3.heap.size, 0, none⟩ (.int .i64 (leastOkV xs t).c)).setCell ⟨C3.heap.size, 1, none⟩ (.int .i64 (leastOkV xs t).n)).setCell ⟨C3.heap.size, 2, none⟩ (.slice A3 (leastOkV xs t).ks.length cap3)) (C3.heap.size) 53 #[.int .i64 (leastOkV xs t).c, .int .i64 (leastOkV xs t).n, .slice A3 (leastOkV xs t).ks.length cap3]) := (((cx4.out.set_ 0 _).set_ 1 _).set_ 2 _)
            have hgF : ∀ b ∈ F3, b ≠ C3.heap.size := fun b hb e => Nat.lt_irrefl _ (by have h1 := (HFs3.out b hb).2; rw [e] at h1; exact h1)
            have hkp : Kept F3 C4 (((C4.setCell ⟨C3.heap.size, 0, none⟩ (.int .i64 (leastOkV xs t).c)).setCell ⟨C3.heap.size, 1, none⟩ (.int .i64 (leastOkV xs t).n)).setCell ⟨C3.heap.size, 2, none⟩ (.slice A3 (leastOkV xs t).ks.length cap3)) := fun b hb => by rw [Below.heap_setCell _ _ _ _ (hgF b hb), Below.heap_setCell _ _ _ _ (hgF b hb), Below.heap_setCell _ _ _ _ (hgF b hb)]
            have hpe := Lib.hid (VR.mono _ _ _ hkp cp5.out)
            have hfe : Hid (Free (((C4.setCell ⟨C3.heap.size, 0, none⟩ (.int .i64 (leastOkV xs t).c)).setCell ⟨C3.heap.size, 1, none⟩ (.int .i64 (leastOkV xs t).n)).setCell ⟨C3.heap.size, 2, none⟩ (.slice A3 (leastOkV xs t).ks.length cap3)) F3) := cf5.out.kept hkp
            have hse : Hid (Fresh w3 (((C4.setCell ⟨C3.heap.size, 0, none⟩ (.int .i64 (leastOkV xs t).c)).setCell ⟨C3.heap.size, 1, none⟩ (.int .i64 (leastOkV xs t).n)).setCell ⟨C3.heap.size, 2, none⟩ (.slice A3 (leastOkV xs t).ks.length cap3)) F3) := fun b hb => ⟨Nat.le_trans hC1.size (cs5.out b hb).1, by simpa [World.setCell] using (cs5.out b hb).2⟩
            have hge : Hid (C3.heap.size ∉ F3) := fun h => hgF _ h rfl
            clear hkp hgF
            refine wpAnyB_ready (rs := [6]) (by kernel_rfl) (by simp) ?_
            refine AllReadyB.cons rfl (fun K hK => ?_) AllReadyB.nil
            go_simp
            refine hK.out _ _ (HS.out _ hCe.out) (fun _ => trivial) ?_
            clear hK K
            (try simp only [Act.put, List.getElem_toArray, List.getElem_cons_zero, List.getElem_cons_succ, List.setIfInBounds_toArray, List.set_cons_zero, List.set_cons_succ])
            refine wpAnyB_end (by kernel_rfl) ?_
            clear yy0 ff0 yy1 ff1 yy2 ff2 yylt
            go_wp2
            go_meet
            case rel => exact ⟨_, _, _, rfl, hCe, cbe, HGE4, hge, hpe, hfe, hse⟩
          · skip
            go_simp
            obtain ⟨C6, hX⟩ : ∃ X, X = C1.alloc (.cells #[.int .i64 0, .int .i64 0, .slice none 0 0] 53) := ⟨_, rfl⟩
            have hb6 : Below C1.heap.size C1 C6 := by rw [hX]; exact (Below.refl _ _).alloc (Nat.le_refl _) _
            have cx6 : Hid (Blk C6 C1.heap.size 53 #[.int .i64 0, .int .i64 0, .slice none 0 0]) := by rw [hX]; exact Blk.new _ _ _
            rw [← hX]
            clear hX
            have hC6 : Below w3.heap.size w3 C6 := hC1.trans (hb6.mono hC1.size)
            have HTC7 := Lib.hid (ArrNat.below HTB1.out hb6 HTU1.out)
            have HTV7 := Lib.hid (HTU1.out.mono hb6.size)
            have HGE6 : Hid (w3.heap.size ≤ C1.heap.size) := hC1.size
            (try dsimp only)
            refine hK.out _ _ (HS.out _ hC6) (fun _ => trivial) ?_
            clear hK K
            (try simp only [Act.put, List.getElem_toArray, List.getElem_cons_zero, List.getElem_cons_succ, List.setIfInBounds_toArray, List.set_cons_zero, List.set_cons_succ])
            refine wpAnyB_ready (rs := [4]) (by kernel_rfl) (by simp) ?_
            refine AllReadyB.cons rfl (fun K hK => ?_) AllReadyB.nil
            go_simp
            go_at_call 83
            refine (spec_least 10 xs HW.out t HT.out HDP.out.1 HDP.out.2 (Nat.le_refl _) _ _ F _ Ft1 (ArrDt.below HX.out (hB3.trans (hC6.mono hB3.size)) HF.out) (HF.out.mono (hB3.trans (hC6.mono hB3.size)).size) HTC7.out HTV7.out).mono ?_
            rintro e C8 ⟨cs8, F8, rfl, hb8, hp8, hfr8, hfs8⟩
            have hC8 : Below w3.heap.size w3 C8 := hC6.trans (hb8.mono hC6.size)
            rw [← HZ.out] at hp8
            obtain ⟨kv8, rfl, ha8⟩ := (VR_iff _ _ _).1 hp8
            obtain ⟨A8, cap8, rfl, -, -⟩ := ha8.form
            clear ha8
            have cb8 : Hid (Blk C8 C1.heap.size 53 #[.int .i64 0, .int .i64 0, .slice none 0 0]) := cx6.out.same (hb8.block _ cx6.out.lt)
            have HP8 := Lib.hid hp8
            have HFr8 := Lib.hid hfr8
            have HFs8 := Lib.hid hfs8
            clear hp8 hfr8 hfs8
            (try dsimp only)
            refine hK.out _ _ (HS.out _ hC8) (fun _ => trivial) ?_
            clear hK K
            (try simp only [Act.put, List.getElem_toArray, List.getElem_cons_zero, List.getElem_cons_succ, List.setIfInBounds_toArray, List.set_cons_zero, List.set_cons_succ])
            have yy0 : C8.cell? ⟨C1.heap.size, 0, none⟩ = some (.int .i64 0) := (cb8.out.cell 0).trans (by simp)
            have ff0 := cb8.out.frozen 0
            have yy1 : C8.cell? ⟨C1.heap.size, 1, none⟩ = some (.int .i64 0) := (cb8.out.cell 1).trans (by simp)
            have ff1 := cb8.out.frozen 1
            have yy2 : C8.cell? ⟨C1.heap.size, 2, none⟩ = some (.slice none 0 0) := (cb8.out.cell 2).trans (by simp)
            have ff2 := cb8.out.frozen 2
            have yylt := cb8.out.lt
            have hCe : Hid (Below w3.heap.size w3 (((C8.setCell ⟨C1.heap.size, 0, none⟩ (.int .i64 (leastOkV xs t).c)).setCell ⟨C1.heap.size, 1, none⟩ (.int .i64 (leastOkV xs t).n)).setCell ⟨C1.heap.size, 2, none⟩ (.slice A8 (leastOkV xs t).ks.length cap8))) := (((hC8.setCell HGE6.out _).setCell HGE6.out _).setCell HGE6.out _)
            have cbe : Hid (Blk (((C8.setCell ⟨C1.heap.size, 0, none⟩ (.int .i64 (leastOkV xs t).c)).setCell ⟨C1.heap.size, 1, none⟩ (.int .i64 (leastOkV xs t).n)).setCell ⟨C1.heap.size, 2, none⟩ (.slice A8 (leastOkV xs t).ks.length cap8)) (C1.heap.size) 53 #[.int .i64 (leastOkV xs t).c, .int .i64 (leastOkV xs t).n, .slice A8 (leastOkV xs t).ks.length cap8]) := (((cb8.out.set_ 0 _).set_ 1 _).set_ 2 _)
            have hgF : ∀ b ∈ F8, b ≠ C1.heap.size := fun b hb e => Nat.lt_irrefl _ (Nat.lt_of_lt_of_le (by rw [e]; exact cx6.out.lt) (HFs8.out b hb).1)
            have hkp : Kept F8 C8 (((C8.setCell ⟨C1.heap.size, 0, none⟩ (.int .i64 (leastOkV xs t).c)).setCell ⟨C1.heap.size, 1, none⟩ (.int .i64 (leastOkV xs t).n)).setCell ⟨C1.heap.size, 2, none⟩ (.slice A8 (leastOkV xs t).ks.length cap8)) := fun b hb => by rw [Below.heap_setCell _ _ _ _ (hgF b hb), Below.heap_setCell _ _ _ _ (hgF b hb), Below.heap_setCell _ _ _ _ (hgF b hb)]
            have hpe := Lib.hid (VR.mono _ _ _ hkp HP8.out)
            have hfe : Hid (Free (((C8.setCell ⟨C1.heap.size, 0, none⟩ (.int .i64 (leastOkV xs t).c)).setCell ⟨C1.heap.size, 1, none⟩ (.int .i64 (leastOkV xs t).n)).setCell ⟨C1.heap.size, 2, none⟩ (.slice A8 (leastOkV xs t).ks.length cap8)) F8) := HFr8.out.kept hkp
            have hse : Hid (Fresh w3 (((C8.setCell ⟨C1.heap.size, 0, none⟩ (.int .i64 (leastOkV xs t).c)).setCell ⟨C1.heap.size, 1, none⟩ (.int .i64 (leastOkV xs t).n)).setCell ⟨C1.heap.size, 2, none⟩ (.slice A8 (leastOkV xs t).ks.length cap8)) F8) := fun b hb => ⟨Nat.le_trans hC6.size (HFs8.out b hb).1, by simpa [World.setCell] using (HFs8.out b hb).2⟩
            have hge : Hid (C1.heap.size ∉ F8) := fun h => hgF _ h rfl
            clear hkp hgF
            refine wpAnyB_ready (rs := [6]) (by kernel_rfl) (by simp) ?_
            refine AllReadyB.cons rfl (fun K hK => ?_) AllReadyB.nil
            go_simp
            refine hK.out _ _ (HS.out _ hCe.out) (fun _ => trivial) ?_
            clear hK K
            (try simp only [Act.put, List.getElem_toArray, List.getElem_cons_zero, List.getElem_cons_succ, List.setIfInBounds_toArray, List.set_cons_zero, List.set_cons_succ])
            refine wpAnyB_end (by kernel_rfl) ?_
            clear yy0 ff0 yy1 ff1 yy2 ff2 yylt
            go_wp2
            go_meet
            case rel => exact ⟨_, _, _, rfl, hCe, cbe, HGE6, hge, hpe, hfe, hse⟩
        · skip
          go_simp
          obtain ⟨C9, hX⟩ : ∃ X, X = wd.alloc (.cells #[.int .i64 0, .int .i64 0, .slice none 0 0] 53) := ⟨_, rfl⟩
          have hb9 : Below wd.heap.size wd C9 := by rw [hX]; exact (Below.refl _ _).alloc (Nat.le_refl _) _
          have cx9 : Hid (Blk C9 wd.heap.size 53 #[.int .i64 0, .int .i64 0, .slice none 0 0]) := by rw [hX]; exact Blk.new _ _ _
          rw [← hX]
          clear hX
          have hC9 : Below w3.heap.size w3 C9 := hC0.trans (hb9.mono hC0.size)
          skip
          have HGE9 : Hid (w3.heap.size ≤ wd.heap.size) := hC0.size
          (try dsimp only)
          refine hK.out _ _ (HS.out _ hC9) (fun _ => trivial) ?_
          clear hK K
          (try simp only [Act.put, List.getElem_toArray, List.getElem_cons_zero, List.getElem_cons_succ, List.setIfInBounds_toArray, List.set_cons_zero, List.set_cons_succ])
          refine wpAnyB_ready (rs := [2]) (by kernel_rfl) (by simp) ?_
          refine AllReadyB.cons rfl (fun K hK => ?_) AllReadyB.nil
          go_simp
          go_at_call 84
          refine (spec_l1Table xs HW.out _ _ F (ArrDt.below HX.out (hB3.trans (hC9.mono hB3.size)) HF.out) (HF.out.mono (hB3.trans (hC9.mono hB3.size)).size)).mono ?_
          rintro e C11 ⟨v11, Ft11, rfl, hb11, ha11, -, hfs11⟩
          have hC11 : Below w3.heap.size w3 C11 := hC9.trans (hb11.mono hC9.size)
          skip
          have cb12 : Hid (Blk C11 wd.heap.size 53 #[.int .i64 0, .int .i64 0, .slice none 0 0]) := cx9.out.same (hb11.block _ cx9.out.lt)
          have HTB11 := Lib.hid ha11
          have HTU11 := Lib.hid hfs11.under
          clear ha11 hfs11
          (try dsimp only)
          refine hK.out _ _ (HS.out _ hC11) (fun _ => trivial) ?_
          clear hK K
          (try simp only [Act.put, List.getElem_toArray, List.getElem_cons_zero, List.getElem_cons_succ, List.setIfInBounds_toArray, List.set_cons_zero, List.set_cons_succ])
          refine wpAnyB_ready (rs := [4]) (by kernel_rfl) (by simp) ?_
          refine AllReadyB.cons rfl (fun K hK => ?_) AllReadyB.nil
          go_simp
          go_at_call 83
          refine (spec_least 10 xs HW.out t HT.out HDP.out.1 HDP.out.2 (Nat.le_refl _) _ _ F _ Ft11 (ArrDt.below HX.out (hB3.trans (hC11.mono hB3.size)) HF.out) (HF.out.mono (hB3.trans (hC11.mono hB3.size)).size) HTB11.out HTU11.out).mono ?_
          rintro e C13 ⟨cs13, F13, rfl, hb13, hp13, hfr13, hfs13⟩
          have hC13 : Below w3.heap.size w3 C13 := hC11.trans (hb13.mono hC11.size)
          rw [← HZ.out] at hp13
          obtain ⟨kv13, rfl, ha13⟩ := (VR_iff _ _ _).1 hp13
          obtain ⟨A13, cap13, rfl, -, -⟩ := ha13.form
          clear ha13
          have cb13 : Hid (Blk C13 wd.heap.size 53 #[.int .i64 0, .int .i64 0, .slice none 0 0]) := cb12.out.same (hb13.block _ cb12.out.lt)
          have HP13 := Lib.hid hp13
          have HFr13 := Lib.hid hfr13
          have HFs13 := Lib.hid hfs13
          clear hp13 hfr13 hfs13
          (try dsimp only)
          refine hK.out _ _ (HS.out _ hC13) (fun _ => trivial) ?_
          clear hK K
          (try simp only [Act.put, List.getElem_toArray, List.getElem_cons_zero, List.getElem_cons_succ, List.setIfInBounds_toArray, List.set_cons_zero, List.set_cons_succ])
          have yy0 : C13.cell? ⟨wd.heap.size, 0, none⟩ = some (.int .i64 0) := (cb13.out.cell 0).trans (by simp)
          have ff0 := cb13.out.frozen 0
          have yy1 : C13.cell? ⟨wd.heap.size, 1, none⟩ = some (.int .i64 0) := (cb13.out.cell 1).trans (by simp)
          have ff1 := cb13.out.frozen 1
          have yy2 : C13.cell? ⟨wd.heap.size, 2, none⟩ = some (.slice none 0 0) := (cb13.out.cell 2).trans (by simp)
          have ff2 := cb13.out.frozen 2
          have yylt := cb13.out.lt
          have hCe : Hid (Below w3.heap.size w3 (((C13.setCell ⟨wd.heap.size, 0, none⟩ (.int .i64 (leastOkV xs t).c)).setCell ⟨wd.heap.size, 1, none⟩ (.int .i64 (leastOkV xs t).n)).setCell ⟨wd.heap.size, 2, none⟩ (.slice A13 (leastOkV xs t).ks.length cap13))) := (((hC13.setCell HGE9.out _).setCell HGE9.out _).setCell HGE9.out _)
          have cbe : Hid (Blk (((C13.setCell ⟨wd.heap.size, 0, none⟩ (.int .i64 (leastOkV xs t).c)).setCell ⟨wd.heap.size, 1, none⟩ (.int .i64 (leastOkV xs t).n)).setCell ⟨wd.heap.size, 2, none⟩ (.slice A13 (leastOkV xs t).ks.length cap13)) (wd.heap.size) 53 #[.int .i64 (leastOkV xs t).c, .int .i64 (leastOkV xs t).n, .slice A13 (leastOkV xs t).ks.length cap13]) := (((cb13.out.set_ 0 _).set_ 1 _).set_ 2 _)
          have hgF : ∀ b ∈ F13, b ≠ wd.heap.size := fun b hb e => Nat.lt_irrefl _ (Nat.lt_of_lt_of_le (by rw [e]; exact cb12.out.lt) (HFs13.out b hb).1)
          have hkp : Kept F13 C13 (((C13.setCell ⟨wd.heap.size, 0, none⟩ (.int .i64 (leastOkV xs t).c)).setCell ⟨wd.heap.size, 1, none⟩ (.int .i64 (leastOkV xs t).n)).setCell ⟨wd.heap.size, 2, none⟩ (.slice A13 (leastOkV xs t).ks.length cap13)) := fun b hb => by rw [Below.heap_setCell _ _ _ _ (hgF b hb), Below.heap_setCell _ _ _ _ (hgF b hb), Below.heap_setCell _ _ _ _ (hgF b hb)]
          have hpe := Lib.hid (VR.mono _ _ _ hkp HP13.out)
          have hfe : Hid (Free (((C13.setCell ⟨wd.heap.size, 0, none⟩ (.int .i64 (leastOkV xs t).c)).setCell ⟨wd.heap.size, 1, none⟩ (.int .i64 (leastOkV xs t).n)).setCell ⟨wd.heap.size, 2, none⟩ (.slice A13 (leastOkV xs t).ks.length cap13)) F13) := HFr13.out.kept hkp
          have hse : Hid (Fresh w3 (((C13.setCell ⟨wd.heap.size, 0, none⟩ (.int .i64 (leastOkV xs t).c)).setCell ⟨wd.heap.size, 1, none⟩ (.int .i64 (leastOkV xs t).n)).setCell ⟨wd.heap.size, 2, none⟩ (.slice A13 (leastOkV xs t).ks.length cap13)) F13) := fun b hb => ⟨Nat.le_trans hC11.size (HFs13.out b hb).1, by simpa [World.setCell] using (HFs13.out b hb).2⟩
          have hge : Hid (wd.heap.size ∉ F13) := fun h => hgF _ h rfl
          clear hkp hgF
          refine wpAnyB_ready (rs := [6]) (by kernel_rfl) (by simp) ?_
          refine AllReadyB.cons rfl (fun K hK => ?_) AllReadyB.nil
          go_simp
          refine hK.out _ _ (HS.out _ hCe.out) (fun _ => trivial) ?_
          clear hK K
          (try simp only [Act.put, List.getElem_toArray, List.getElem_cons_zero, List.getElem_cons_succ, List.setIfInBounds_toArray, List.set_cons_zero, List.set_cons_succ])
          refine wpAnyB_end (by kernel_rfl) ?_
          clear yy0 ff0 yy1 ff1 yy2 ff2 yylt
          go_wp2
          go_meet
          case rel => exact ⟨_, _, _, rfl, hCe, cbe, HGE9, hge, hpe, hfe, hse⟩
      case rest =>
        obtain ⟨g5, cs5, F5, rfl, HB5, RB5, RGE5, RGF5, HP5, HFR5, HFS5⟩ := hcut
        obtain ⟨kv5, rfl, ha5⟩ := (VR_iff _ _ _).1 HP5.out
        obtain ⟨aA, acap, rfl, -, -⟩ := ha5.form
        clear ha5
        obtain ⟨w5, hw5⟩ : ∃ X, X = wc := ⟨_, rfl⟩
        rw [← hw5] at HB5 RB5 HP5 HFR5 HFS5 ⊢
        clear hw5
        have hB5 := hB3.trans (HB5.out.mono hB3.size)
        have KT5 := Lib.hid (KT3.out.same (HB5.out.block _ KT3.out.lt))
        have KR5 := Lib.hid (KR3.out.same (HB5.out.block _ KR3.out.lt))
        have k3lt := KR3.out.lt
        have KV5 : Hid (Blk w5 g5 53 #[.int .i64 (leastOkV xs t).c, .int .i64 (leastOkV xs t).n, .slice aA (leastOkV xs t).ks.length acap]) := RB5
        have HSM := Lib.hid (leastOkV_small HW.out HT.out)
        clear RB5 KT3 KR3 HB5
        have y0 : w5.cell? ⟨w.heap.size, 0, none⟩ = some (.int .i64 t.d) := (KT5.out.cell 0).trans (by simp)
        have y1 : w5.cell? ⟨w.heap.size, 1, none⟩ = some (.int .i64 t.i) := (KT5.out.cell 1).trans (by simp)
        have ylt := KT5.out.lt
        have v0 : w5.cell? ⟨g5, 0, none⟩ = some (.int .i64 (leastOkV xs t).c) := (KV5.out.cell 0).trans (by simp)
        have v1 : w5.cell? ⟨g5, 1, none⟩ = some (.int .i64 (leastOkV xs t).n) := (KV5.out.cell 1).trans (by simp)
        have v2 : w5.cell? ⟨g5, 2, none⟩ = some (.slice aA (leastOkV xs t).ks.length acap) := (KV5.out.cell 2).trans (by simp)
        have vlt := KV5.out.lt
        go_wp2_with fail
        refine (spec_l2Is xs t (leastOkV xs t) w5 _ F _ F5 (ArrDt.below HX.out hB5 HF.out) (HF.out.mono hB5.size) HP5.out HFS5.out.under HW.out HT.out HSM.out).mono ?_
        rintro e w6 ⟨rfl, hb6⟩
        have hB6 := hB5.trans (hb6.mono hB5.size)
        have KR6 := Lib.hid (KR5.out.same (hb6.block _ KR5.out.lt))
        have KV6 := Lib.hid (KV5.out.same (hb6.block _ KV5.out.lt))
        have HP6 := Lib.hid (HP5.out.below hb6 HFS5.out.under)
        have HFR6 := Lib.hid (HFR5.out.kept (.of_below hb6 HFS5.out.under))
        have HFS6 : Hid (Fresh w w6 F5) := fun b hb => ⟨Nat.le_trans hB3.size (HFS5.out b hb).1, Nat.lt_of_lt_of_le (HFS5.out b hb).2 hb6.size⟩
        have HNE : Hid (∀ b ∈ F5, b ≠ w.heap.size + 1) := fun b hb e => by have h1 := (HFS5.out b hb).1; omega
        clear y0 y1 ylt v0 v1 v2 vlt hb6 HP5 HFR5 KR5 KT5 KV5
        cases e3 : valueOkB xs t (leastOkV xs t) with
        | false =>
          have HE : Hid (leastFine xs t = false) := by unfold Hid; rw [HFE.out, HTV.out, e3]; simp
          have hz : Hid (leastR xs t = ⟨0, 0, []⟩) := leastR_no HE.out
          clear e3
          have rc0 := (KR6.out.cell 0).trans (show _ = some (.int .i64 0) from by simp)
          have rf0 := KR6.out.frozen 0
          have rc1 := (KR6.out.cell 1).trans (show _ = some (.int .i64 0) from by simp)
          have rf1 := KR6.out.frozen 1
          have rc2 := (KR6.out.cell 2).trans (show _ = some (.slice none 0 0) from by simp)
          have rf2 := KR6.out.frozen 2
          have rlt := KR6.out.lt
          go_wp2
          clear rc0 rf0 rc1 rf1 rc2 rf2 rlt
          refine bodyPost_ret (results_cell_tmp rfl _ _ (w.heap.size + 1) 53 #[.int .i64 0, .int .i64 0, .slice none 0 0] (0, 0) _ rfl (KR6.out.three _ _ _) Try.underlying53 rfl rfl) rfl ?_
          exact ⟨[.int .i64 0, .int .i64 0, .slice none 0 0], [], by rw [HE.out]; rfl, below_three hB6 (by omega) _ _ _, by rw [hz.out]; exact (VR_iff _ _ _).2 ⟨_, rfl, Arr.nil⟩, Free.nil _, Fresh.nil _ _⟩
        | true =>
          have HE : Hid (leastFine xs t = true) := by unfold Hid; rw [HFE.out, HTV.out, HE2.out, e3]; rfl
          have hz : Hid (leastR xs t = (leastOkV xs t)) := leastR_yes HE.out HE2.out
          clear e3
          have v0 : w6.cell? ⟨g5, 0, none⟩ = some (.int .i64 (leastOkV xs t).c) := (KV6.out.cell 0).trans (by simp)
          have v1 : w6.cell? ⟨g5, 1, none⟩ = some (.int .i64 (leastOkV xs t).n) := (KV6.out.cell 1).trans (by simp)
          have v2 : w6.cell? ⟨g5, 2, none⟩ = some (.slice aA (leastOkV xs t).ks.length acap) := (KV6.out.cell 2).trans (by simp)
          have vlt := KV6.out.lt
          generalize (leastOkV xs t).ks.length = n5 at *
          generalize (leastOkV xs t).c = ac at *
          generalize (leastOkV xs t).n = an at *
          have rc0 := (KR6.out.cell 0).trans (show _ = some (.int .i64 0) from by simp)
          have rf0 := KR6.out.frozen 0
          have rc1 := (KR6.out.cell 1).trans (show _ = some (.int .i64 0) from by simp)
          have rf1 := KR6.out.frozen 1
          have rc2 := (KR6.out.cell 2).trans (show _ = some (.slice none 0 0) from by simp)
          have rf2 := KR6.out.frozen 2
          have rlt := KR6.out.lt
          go_wp2
          clear rc0 rf0 rc1 rf1 rc2 rf2 rlt
          refine bodyPost_ret (results_cell_tmp rfl _ _ (w.heap.size + 1) 53 #[.int .i64 ac, .int .i64 an, .slice aA n5 acap] (0, 0) _ rfl (KR6.out.three _ _ _) Try.underlying53 rfl rfl) rfl ?_
          have hkp : Kept F5 w6 _ := kept_three (w := w6) (H := w.heap.size + 1) HNE.out (.int .i64 ac) (.int .i64 an) (.slice aA n5 acap)
          refine ⟨[.int .i64 ac, .int .i64 an, .slice aA n5 acap], F5, by rw [HE.out]; rfl, below_three hB6 (by omega) _ _ _, ?_, HFR6.out.kept hkp, fun b hb => ⟨(HFS6.out b hb).1, by rw [size_three]; exact (HFS6.out b hb).2⟩⟩
          rw [hz.out]
          exact VR.mono _ _ _ hkp HP6.out
end Go.Proofs.Ytilndhmegaccmaa

namespace Go.Proofs.Ytilndhmegaccmaa
open Go.RowKit

theorem V.depths_map {α : Type} (f : α → V) (g : α → Int) (l : List α) (h : ∀ a ∈ l, ((f a).depth : Int) = g a) (m : Int) (h0 : 0 ≤ m) : max m ((V.depths (l.map f) : Nat) : Int) = l.foldl (fun m a => max m (g a)) m := by
  induction l generalizing m with
  | nil => simp [V.depths]; omega
  | cons a l ih =>
    rw [List.map_cons, V.depths, List.foldl_cons, ← ih (fun b hb => h b (by simp [hb])) (max m (g a)) (by omega), ← h a (by simp)]
    omega
theorem mostGo_fold {tab : List Int} : ∀ {ls : List Ty} {m : Int}, (∀ a ∈ ls, depthIn tab a ≠ 0) → mostGo tab m ls = ls.foldl (fun m a => max m (depthIn tab a)) m + 1
  | [], m, _ => rfl
  | a :: ls, m, h => by
    rw [mostGo, if_neg (h a (by simp)), List.foldl_cons]
    exact mostGo_fold fun b hb => h b (by simp [hb])
/-- a least value is as deep as the table says -/
theorem leastV_depth {xs : List Dt} (hw : WorldOK xs) : ∀ (n : Nat) (t : Ty), TyIn xs.length t → depthIn (tableL xs) t ≠ 0 → depthIn (tableL xs) t ≤ (n : Int) → ((leastV xs n t).depth : Int) = depthIn (tableL xs) t
  | 0, t, ht, h0, hn => by
    have := (tableL_small hw).dep t
    simp only [Int.natCast_zero] at hn
    omega
  | n + 1, t, ht, h0, hn => by
    by_cases hd : t.d = -1
    · rw [leastV_int hd, depthIn_int hd]; rfl
    · obtain ⟨k, hk⟩ := least_find hw ht hd h0
      rw [leastV_some hd hk]
      have hm := List.mem_of_find?_eq_some hk
      have hl := List.find?_some hk
      have ha : ∀ a ∈ argsOf xs t k, ((leastV xs n a).depth : Int) = depthIn (tableL xs) a := fun a ha => by
        have h1 := least_args hw ht hm hl h0 ha
        exact leastV_depth hw n a h1.1 h1.2.1 (by push_cast at hn; omega)
      have e := eq_of_beq (show (mostIn xs (tableL xs) t k == depthIn (tableL xs) t) = true from hl)
      have hne := mostGo_ne (tab := tableL xs) (ls := argsOf xs t k) (m := 0) (by show mostIn xs (tableL xs) t k ≠ 0; rw [e]; exact h0)
      have h2 := V.depths_map (leastV xs n) (depthIn (tableL xs)) (argsOf xs t k) ha 0 (Int.le_refl 0)
      have h3 := mostGo_fold (m := 0) hne
      rw [← h2] at h3
      have h4 : mostGo (tableL xs) 0 (argsOf xs t k) = mostIn xs (tableL xs) t k := rfl
      rw [h4, e] at h3
      rw [V.depth]
      push_cast
      omega
theorem leastFine_facts {xs : List Dt} {t : Ty} (h : leastFine xs t = true) : valueValidB xs t (leastR xs t) = true ∧ posB (depthL xs t) = true ∧ ((leastR xs t).depth : Int) = depthL xs t := by
  have e := h
  rw [leastFine_eq] at h
  simp only [Bool.and_eq_true] at h
  obtain ⟨h1, h2, h3⟩ := h
  have hr := leastR_yes e h2
  have hd := leastOk_dep h2
  obtain ⟨hw, hto⟩ := typeValid_split h1
  have hl : leastOkV xs t = leastV xs 10 t := by unfold leastOkV; rw [if_pos h2]
  refine ⟨by unfold valueValidB; rw [h1, hr, h3]; rfl, ?_, ?_⟩
  · rw [depthL_yes h1]
    have := (tableL_small hw).dep t
    unfold posB
    exact decide_eq_true (by omega)
  · rw [hr, hl, depthL_yes h1]
    exact leastV_depth hw 10 t (typeOkB_tyIn hto) hd.1 hd.2
theorem V.same_refl (v : V) : V.same v v = true := (V.same_iff v v).2 rfl
end Go.Proofs.Ytilndhmegaccmaa

namespace Go.Proofs.Ytilndhmegaccmaa
open Go.RowKit

theorem least_mem {xs : List Dt} {t : Ty} (h : leastFine xs t = true) (hb : uptoB xs t ((leastR xs t).depth : Int) = true) : leastR xs t ∈ uptoV xs t ((leastR xs t).depth : Int) := by
  have h1 := (leastFine_facts h).1
  rw [uptoV_yes hb, Int.toNat_natCast, mem_vals]
  unfold valueValidB valueOkB at h1
  simp only [Bool.and_eq_true] at h1
  exact fitsV_at xs 10 t _ h1.2.1 _ (Nat.le_refl _)
end Go.Proofs.Ytilndhmegaccmaa
