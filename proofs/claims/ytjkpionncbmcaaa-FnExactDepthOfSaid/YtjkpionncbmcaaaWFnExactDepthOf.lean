/-
  FnExactDepthOf: the walk: the law returns true and leaves what was there alone. Conditions: the arguments lie in memory as plain data.
-/
import Derived.Test.YtjkpionncbmcaaaSzV
import Derived.Test.YtjkpionncbmcaaaToV
import Derived.Test.YtjkpionncbmcaaaEqV
import Derived.Test.YtjkpionncbmcaaaDepth
import Derived.Deep.RegionWith
import Derived.Deep.RegionHeld3
import Derived.BigQuiet
namespace Go.Proofs.Ytjkpionncbmcaaa.fnExactDepthOf
open Go.RowKit

set_option maxHeartbeats 400000 in
theorem walk {W : World} (x : V) (cs : List Value) (F : List Nat) (hx : VR W x cs F) (hF : Under W.heap.size F) (w : World) (hw : w = W) :
    Calls Try.prog 5 #[.agg cs.toArray] w fun e w' => e = .returned (.bool true) ∧ Below w.heap.size w w' := by
  subst hw
  obtain ⟨kv, rfl, ha⟩ := (VR_iff _ _ _).1 hx
  obtain ⟨A, cap, rfl, -, -⟩ := ha.form
  have HX := Lib.hid hx
  have HF := Lib.hid hF
  clear hx hF ha
  go_enter Try.func5, Try.ntmps5
  go_wp2_with fail
  obtain ⟨W1, hW1⟩ : ∃ W1, W1 = w.alloc (.cells #[.int .i64 x.c, .int .i64 x.n, .slice A x.ks.length cap] 26) := ⟨_, rfl⟩
  have hB1 : Below w.heap.size w W1 := by rw [hW1]; exact (Below.refl _ _).alloc (Nat.le_refl _) _
  have hs1 : w.heap.size < W1.heap.size := by rw [hW1]; simp
  have b1 : Blk W1 w.heap.size 26 #[.int .i64 x.c, .int .i64 x.n, .slice A x.ks.length cap] := by rw [hW1]; exact Blk.new w _ _
  rw [← hW1]
  clear hW1
  refine (szValue_any x W1 _ F _ (HX.out.below hB1 HF.out) (HF.out.mono hB1.size) (by omega) (by omega)).mono ?_
  rintro e W2 ⟨rfl, hb2⟩
  have hB2 := hB1.trans (hb2.mono hB1.size)
  have b2 := b1.same (hb2.block _ hs1)
  have hs2 := Nat.lt_of_lt_of_le hs1 hb2.size
  by_cases hz : x.size ≤ 1048576
  · rw [show szLeft x.size 1048576 = 1048576 - (x.size : Int) from if_pos (by omega)]
    have hz' : (x.size : Int) ≤ 1048576 := by omega
    have hl0 : 0 ≤ 1048576 - (x.size : Int) := by omega
    have c0 := b2.cell 0
    have c1 := b2.cell 1
    have c2 := b2.cell 2
    simp only [List.getElem?_toArray, List.getElem?_cons_zero, List.getElem?_cons_succ] at c0 c1 c2
    have B1 := Lib.hid b1
    have B2 := Lib.hid b2
    clear b1 b2
    clear hb2
    go_wp2_with fail
    refine (toValue_any x W2 _ F (HX.out.below hB2 HF.out) (HF.out.mono hB2.size) hz).mono ?_
    rintro e W3 ⟨cs3, F3, rfl, hb3, hv3, hfr3, hfs3⟩
    have hB3 := hB2.trans (hb3.mono hB2.size)
    go_wp2_with fail
    refine (spec_DepthOf x W3 _ F3 hv3 hfs3.under hz).mono ?_
    rintro e W4 ⟨rfl, hb4⟩
    have hB4 := hB3.trans (hb4.mono hB3.size)
    have b4 := (B2.out.same (hb3.block _ hs2)).same (hb4.block _ (Nat.lt_of_lt_of_le hs2 hb3.size))
    have hs4 := Nat.lt_of_lt_of_le (Nat.lt_of_lt_of_le hs2 hb3.size) hb4.size
    clear c0 c1 c2 hv3 hfr3 hfs3 hb3 hb4 hB3
    have c0 := b4.cell 0
    have c1 := b4.cell 1
    have c2 := b4.cell 2
    simp only [List.getElem?_toArray, List.getElem?_cons_zero, List.getElem?_cons_succ] at c0 c1 c2
    have B4 := Lib.hid b4
    clear b4
    go_wp2_with fail
    refine (toValue_any x W4 _ F (HX.out.below hB4 HF.out) (HF.out.mono hB4.size) hz).mono ?_
    rintro e W5 ⟨cs5, F5, rfl, hb5, hv5, hfr5, hfs5⟩
    have hB5 := hB4.trans (hb5.mono hB4.size)
    have b5 := B4.out.same (hb5.block _ hs4)
    have hs5 := Nat.lt_of_lt_of_le hs4 hb5.size
    obtain ⟨kv5, rfl, ha5⟩ := (VR_iff _ _ _).1 hv5
    obtain ⟨A5, cap5, rfl, -, -⟩ := ha5.form
    have HV5 := Lib.hid hv5
    have HS5 := Lib.hid hfs5.under
    clear ha5 hv5 hfs5 hb5 hfr5 c0 c1 c2
    go_wp2_with fail
    obtain ⟨W6, hW6⟩ : ∃ W6, W6 = W5.alloc (.cells #[.int .i64 x.c, .int .i64 x.n, .slice A5 x.ks.length cap5] 31) := ⟨_, rfl⟩
    have hb6 : Below W5.heap.size W5 W6 := by rw [hW6]; exact (Below.refl _ _).alloc (Nat.le_refl _) _
    have d6 : Blk W6 W5.heap.size 31 #[.int .i64 x.c, .int .i64 x.n, .slice A5 x.ks.length cap5] := by rw [hW6]; exact Blk.new W5 _ _
    have hs6 : W5.heap.size < W6.heap.size := by rw [hW6]; simp
    rw [← hW6]
    clear hW6
    have hB6 := hB5.trans (hb6.mono hB5.size)
    refine (impl_DepthOf x W6 _ F5 (HV5.out.below hb6 HS5.out) (HS5.out.mono hb6.size) hz).mono ?_
    rintro e W7 ⟨rfl, hb7⟩
    have hB7 := hB6.trans (hb7.mono hB6.size)
    have hb57 := hb6.trans (hb7.mono hb6.size)
    have b7 := (b5.same (hb6.block _ hs5)).same (hb7.block _ (Nat.lt_of_lt_of_le hs5 hb6.size))
    have d7 := d6.same (hb7.block _ hs6)
    have hs7 := Nat.lt_of_lt_of_le (Nat.lt_of_lt_of_le hs5 hb6.size) hb7.size
    have ht7 := Nat.lt_of_lt_of_le hs6 hb7.size
    have c0 := b7.cell 0
    have c1 := b7.cell 1
    have c2 := b7.cell 2
    have d0 := d7.cell 0
    have d1 := d7.cell 1
    have d2 := d7.cell 2
    simp only [List.getElem?_toArray, List.getElem?_cons_zero, List.getElem?_cons_succ] at c0 c1 c2 d0 d1 d2
    have HV7 := Lib.hid (HV5.out.below hb57 HS5.out)
    have HS7 := Lib.hid (HS5.out.mono hb57.size)
    have hne : ((x.depth : Int) != (x.depth : Int)) = false := by simp
    clear b5 d6 b7 d7 hb6 hb7 hb57 hB6 B1 B2 B4 HV5 HS5 hB4 hB5 hB2 hB1 hs1 hs2 hs4 hs5 hs6
    go_wp2_with fail
    have hkeep : ∀ U U' : World, (U.cell? ⟨w.heap.size, 0, none⟩ = some (.int .i64 x.c) ∧ U.cell? ⟨w.heap.size, 1, none⟩ = some (.int .i64 x.n) ∧ U.cell? ⟨w.heap.size, 2, none⟩ = some (.slice A x.ks.length cap) ∧
        U.cell? ⟨W5.heap.size, 0, none⟩ = some (.int .i64 x.c) ∧ U.cell? ⟨W5.heap.size, 1, none⟩ = some (.int .i64 x.n) ∧ U.cell? ⟨W5.heap.size, 2, none⟩ = some (.slice A5 x.ks.length cap5)) → Below U.heap.size U U' → W7.heap.size ≤ U.heap.size →
       (U'.cell? ⟨w.heap.size, 0, none⟩ = some (.int .i64 x.c) ∧ U'.cell? ⟨w.heap.size, 1, none⟩ = some (.int .i64 x.n) ∧ U'.cell? ⟨w.heap.size, 2, none⟩ = some (.slice A x.ks.length cap) ∧
        U'.cell? ⟨W5.heap.size, 0, none⟩ = some (.int .i64 x.c) ∧ U'.cell? ⟨W5.heap.size, 1, none⟩ = some (.int .i64 x.n) ∧ U'.cell? ⟨W5.heap.size, 2, none⟩ = some (.slice A5 x.ks.length cap5)) :=
      fun U U' h hb hU => ⟨(hb.cell (Nat.lt_of_lt_of_le hs7 hU)).trans h.1, (hb.cell (Nat.lt_of_lt_of_le hs7 hU)).trans h.2.1, (hb.cell (Nat.lt_of_lt_of_le hs7 hU)).trans h.2.2.1, (hb.cell (Nat.lt_of_lt_of_le ht7 hU)).trans h.2.2.2.1, (hb.cell (Nat.lt_of_lt_of_le ht7 hU)).trans h.2.2.2.2.1, (hb.cell (Nat.lt_of_lt_of_le ht7 hU)).trans h.2.2.2.2.2⟩
    have HK := Lib.hid hkeep
    clear hkeep
    go_region_held3 (fun w' => w'.cell? ⟨w.heap.size, 0, none⟩ = some (.int .i64 x.c) ∧ w'.cell? ⟨w.heap.size, 1, none⟩ = some (.int .i64 x.n) ∧ w'.cell? ⟨w.heap.size, 2, none⟩ = some (.slice A x.ks.length cap) ∧
        w'.cell? ⟨W5.heap.size, 0, none⟩ = some (.int .i64 x.c) ∧ w'.cell? ⟨W5.heap.size, 1, none⟩ = some (.int .i64 x.n) ∧ w'.cell? ⟨W5.heap.size, 2, none⟩ = some (.slice A5 x.ks.length cap5))
      (first | assumption | (exact ⟨c0, c1, c2, d0, d1, d2⟩) | (exact HK.out W7.drew W8 ⟨c0, c1, c2, d0, d1, d2⟩ hb8 (Nat.le_refl _)) | (exact HK.out _ _ (by assumption) hb9 hb8.size))
      (first
        | (go_at_call 14; refine (toValue_any x _ _ F (VR.drew (HX.out.below hB7 HF.out)) (HF.out.mono hB7.size) hz).mono ?_; rintro e W8 ⟨cs8, F8, rfl, hb8, hv8, hfr8, hfs8⟩)
        | (go_at_call 16; refine (eqValue_any x _ _ _ F5 F8 (VR.below (HV7.out.drew) hb8 HS7.out) hv8 (HS7.out.mono hb8.size) hfs8.under).mono ?_; rintro e W9 ⟨rfl, hb9⟩))
    have hB9 := hB7.drew.trans ((hb8.trans (hb9.mono hb8.size)).mono hB7.size)
    go_wp2
    go_ret
    exact ⟨rfl, hB9⟩
  · rw [show szLeft x.size 1048576 = -1 from if_neg (by omega)]
    go_wp2
    go_ret
    exact ⟨rfl, hB2⟩
end Go.Proofs.Ytjkpionncbmcaaa.fnExactDepthOf
