/-
  FnExactPatternOf: for every argument the law returns true. Conditions: none.
-/
import Derived.Test.YtbffkgfhcmigaaaKAA
import Derived.Test.YtbffkgfhcmigaaaKAJ
import Derived.Test.YtbffkgfhcmigaaaKAH
import Derived.Test.YtbffkgfhcmigaaaKAK
import Derived.Deep.Cut
import Derived.Deep.RegionWith
import Derived.Deep.RegionHeld3
import Derived.BigQuiet
import Derived.Test.YtbffkgfhcmigaaaRows
import Derived.ProofKit
import Derived.OpenShut
import Derived.ShutString
import Derived.ChangeOld
import Derived.Below

set_option linter.unusedVariables false
set_option linter.unusedSimpArgs false

namespace Go.Proofs.Ytbffkgfhcmigaaa.fnExactPatternOf
open Go.RowKit

set_option maxRecDepth 100000 in
set_option maxHeartbeats 3200000 in
theorem walk {W : World} (x0 : List Dt) (v0 : Value) (F0 : List Nat) (hR0 : Arr W (DtR W) x0 v0 F0) (hU0 : Under W.heap.size F0) (x1 : Ty) (cs1 : List Value) (F1 : List Nat) (hR1 : TyR W x1 cs1 F1) (hU1 : Under W.heap.size F1) (x2 : V) (cs2 : List Value) (F2 : List Nat) (hR2 : VR W x2 cs2 F2) (hU2 : Under W.heap.size F2) (w : World) (hw : w = W) :
    Calls Try.prog 3 #[v0, .agg cs1.toArray, .agg cs2.toArray] w fun e w' => e = .returned (.bool true) ∧ Below w.heap.size w w' := by
  subst hw
  obtain ⟨A0, cap0, rfl, -, -⟩ := hR0.form
  obtain ⟨rfl, rfl⟩ := hR1
  obtain ⟨kv2, rfl, ha2⟩ := (VR_iff _ _ _).1 hR2
  obtain ⟨A2, cap2, rfl, -, -⟩ := ha2.form
  clear ha2
  have HR0 := Lib.hid hR0
  have HU0 := Lib.hid hU0
  clear hR0 hU0
  have HR2 := Lib.hid hR2
  have HU2 := Lib.hid hU2
  clear hR2 hU2
  go_enter Try.func3, Try.ntmps3
  go_wp2_with fail
  have hB0 : Below w.heap.size w w := Below.refl _ _
  obtain ⟨W1, hW⟩ : ∃ X, X = ((w.alloc (.cells #[.int .i64 x1.d, .int .i64 x1.i] 24)).alloc (.cells #[.int .i64 x2.c, .int .i64 x2.n, .slice A2 x2.ks.length cap2] 27)) := ⟨_, rfl⟩
  have hb1 : Below w.heap.size w W1 := by rw [hW]; exact (((Below.refl w.heap.size w).alloc (by simp <;> omega) _).alloc (by simp <;> omega) _)
  have bx1 : Hid (Blk W1 (w.heap.size) 24 #[.int .i64 x1.d, .int .i64 x1.i]) := by
    rw [hW]
    have h0 := Blk.new w 24 #[.int .i64 x1.d, .int .i64 x1.i]
    exact (h0).same (Below.heap_alloc _ _ _ (by simp <;> omega))
  have bx2 : Hid (Blk W1 (w.heap.size + 1) 27 #[.int .i64 x2.c, .int .i64 x2.n, .slice A2 x2.ks.length cap2]) := by
    rw [hW]
    have h0 := Blk.new (w.alloc (.cells #[.int .i64 x1.d, .int .i64 x1.i] 24)) 27 #[.int .i64 x2.c, .int .i64 x2.n, .slice A2 x2.ks.length cap2]
    rw [show ((w.alloc (.cells #[.int .i64 x1.d, .int .i64 x1.i] 24))).heap.size = w.heap.size + 1 from by simp] at h0
    exact (h0)
  rw [← hW]
  clear hW
  have hB2 := hB0.trans (hb1.mono hB0.size)
  refine (szDataS_any x0 W1 F0 _ (1048576) (ArrDt.below HR0.out hB2 HU0.out) (HU0.out.mono hB2.size) (by omega) (by omega)).mono ?_
  rintro e W3 ⟨rfl, hb3⟩
  have hB4 := hB2.trans (hb3.mono hB2.size)
  have bx1n : Hid (Blk W3 (w.heap.size) 24 #[.int .i64 x1.d, .int .i64 x1.i]) := bx1.out.same (hb3.block _ bx1.out.lt)
  clear bx1
  have bx1 := bx1n
  clear bx1n
  have bx2n : Hid (Blk W3 (w.heap.size + 1) 27 #[.int .i64 x2.c, .int .i64 x2.n, .slice A2 x2.ks.length cap2]) := bx2.out.same (hb3.block _ bx2.out.lt)
  clear bx2
  have bx2 := bx2n
  clear bx2n
  by_cases hz0 : ((Dt.sizes x0) : Int) ≤ 1048576
  · rw [show szLeft (Dt.sizes x0) (1048576) = 1048576 - ((Dt.sizes x0) : Int) from if_pos hz0]
    have hnn0 : 0 ≤ 1048576 - ((Dt.sizes x0) : Int) := by omega
    have bx1c0 : W3.cell? ⟨w.heap.size, 0, none⟩ = some (.int .i64 x1.d) := (bx1.out.cell 0).trans (by simp)
    have bx1c1 : W3.cell? ⟨w.heap.size, 1, none⟩ = some (.int .i64 x1.i) := (bx1.out.cell 1).trans (by simp)
    have bx1lt : w.heap.size < W3.heap.size := bx1.out.lt
    have bx2c0 : W3.cell? ⟨w.heap.size + 1, 0, none⟩ = some (.int .i64 x2.c) := (bx2.out.cell 0).trans (by simp)
    have bx2c1 : W3.cell? ⟨w.heap.size + 1, 1, none⟩ = some (.int .i64 x2.n) := (bx2.out.cell 1).trans (by simp)
    have bx2c2 : W3.cell? ⟨w.heap.size + 1, 2, none⟩ = some (.slice A2 x2.ks.length cap2) := (bx2.out.cell 2).trans (by simp)
    have bx2lt : w.heap.size + 1 < W3.heap.size := bx2.out.lt
    go_wp2_with fail
    clear bx1c0 bx1c1 bx2c0 bx2c1 bx2c2 bx1lt bx2lt
    refine (szValue_any x2 W3 _ F2 (1048576 - ((Dt.sizes x0) : Int)) (HR2.out.below hB4 HU2.out) (HU2.out.mono hB4.size) (by omega) (by omega)).mono ?_
    rintro e W5 ⟨rfl, hb5⟩
    have hB6 := hB4.trans (hb5.mono hB4.size)
    have bx1n : Hid (Blk W5 (w.heap.size) 24 #[.int .i64 x1.d, .int .i64 x1.i]) := bx1.out.same (hb5.block _ bx1.out.lt)
    clear bx1
    have bx1 := bx1n
    clear bx1n
    have bx2n : Hid (Blk W5 (w.heap.size + 1) 27 #[.int .i64 x2.c, .int .i64 x2.n, .slice A2 x2.ks.length cap2]) := bx2.out.same (hb5.block _ bx2.out.lt)
    clear bx2
    have bx2 := bx2n
    clear bx2n
    by_cases hz2 : (x2.size : Int) ≤ 1048576 - ((Dt.sizes x0) : Int)
    · rw [show szLeft x2.size (1048576 - ((Dt.sizes x0) : Int)) = 1048576 - ((Dt.sizes x0) : Int) - (x2.size : Int) from if_pos hz2]
      have hnn2 : 0 ≤ 1048576 - ((Dt.sizes x0) : Int) - (x2.size : Int) := by omega
      have hs0 : (Dt.sizes x0) ≤ 1048576 := by omega
      have hs2 : x2.size ≤ 1048576 := by omega
      have bx1c0 : W5.cell? ⟨w.heap.size, 0, none⟩ = some (.int .i64 x1.d) := (bx1.out.cell 0).trans (by simp)
      have bx1c1 : W5.cell? ⟨w.heap.size, 1, none⟩ = some (.int .i64 x1.i) := (bx1.out.cell 1).trans (by simp)
      have bx1lt : w.heap.size < W5.heap.size := bx1.out.lt
      have bx2c0 : W5.cell? ⟨w.heap.size + 1, 0, none⟩ = some (.int .i64 x2.c) := (bx2.out.cell 0).trans (by simp)
      have bx2c1 : W5.cell? ⟨w.heap.size + 1, 1, none⟩ = some (.int .i64 x2.n) := (bx2.out.cell 1).trans (by simp)
      have bx2c2 : W5.cell? ⟨w.heap.size + 1, 2, none⟩ = some (.slice A2 x2.ks.length cap2) := (bx2.out.cell 2).trans (by simp)
      have bx2lt : w.heap.size + 1 < W5.heap.size := bx2.out.lt
      go_wp2_with fail
      have SB7_bx1 := Lib.hid bx1.out.lt
      have SB7_bx2 := Lib.hid bx2.out.lt
      go_cut [8, 9] from 19 (fun p b wq => ∃ (g : Nat) (cs : List Value) (F : List Nat), p = .pointer (some ⟨g, 0, none⟩) ∧ b = .bool (valueValidB x0 x1 x2) ∧ Hid (Below W5.heap.size W5 wq) ∧ Hid (Blk wq g 32 cs.toArray) ∧ Hid (W5.heap.size ≤ g) ∧ Hid (g ∉ F) ∧ Hid (PR wq (patternOfR x0 x1 x2) cs F) ∧ Hid (Free wq F) ∧ Hid (Fresh W5 wq F))
      case first =>
        have HS : Hid (∀ C : World, Below W5.heap.size W5 C → (C.cell? ⟨w.heap.size, 0, none⟩ = some (.int .i64 x1.d) ∧ C.cell? ⟨w.heap.size, 1, none⟩ = some (.int .i64 x1.i) ∧ C.cell? ⟨w.heap.size + 1, 0, none⟩ = some (.int .i64 x2.c) ∧ C.cell? ⟨w.heap.size + 1, 1, none⟩ = some (.int .i64 x2.n) ∧ C.cell? ⟨w.heap.size + 1, 2, none⟩ = some (.slice A2 x2.ks.length cap2))) := fun C hC => ⟨((bx1.out.same (hC.block _ bx1.out.lt)).cell 0).trans (by simp), ((bx1.out.same (hC.block _ bx1.out.lt)).cell 1).trans (by simp), ((bx2.out.same (hC.block _ bx2.out.lt)).cell 0).trans (by simp), ((bx2.out.same (hC.block _ bx2.out.lt)).cell 1).trans (by simp), ((bx2.out.same (hC.block _ bx2.out.lt)).cell 2).trans (by simp)⟩
        have hC0 : Below W5.heap.size W5 W5.drew := (Below.refl _ _).drew
        clear bx1c0 bx1c1 bx2c0 bx2c1 bx2c2 bx1lt bx2lt
        refine wp_region_B (S := fun w' => w'.cell? ⟨w.heap.size, 0, none⟩ = some (.int .i64 x1.d) ∧ w'.cell? ⟨w.heap.size, 1, none⟩ = some (.int .i64 x1.i) ∧ w'.cell? ⟨w.heap.size + 1, 0, none⟩ = some (.int .i64 x2.c) ∧ w'.cell? ⟨w.heap.size + 1, 1, none⟩ = some (.int .i64 x2.n) ∧ w'.cell? ⟨w.heap.size + 1, 2, none⟩ = some (.slice A2 x2.ks.length cap2)) (T := fun _ => True) (d := 12) (by kernel_rfl) ?_
        generalize W5.drew = wd at *
        have hS0 := HS.out _ hC0
        have hT0 : True := trivial
        refine wpAnyB_take (i := 0) (v := ?_) rfl (by decide) (by kernel_rfl) (by kernel_rfl) (by kernel_rfl) (fun _ _ _ h => h) (Or.inl ⟨by rfl, ?hy0⟩) hS0 (fun _ => hT0) ?_
        case hy0 => (intro W hSw; (try dsimp only at hSw); (try obtain ⟨hSw0, hSw1, hSw2, hSw3, hSw4⟩ := hSw); go_simp; try with_reducible rfl)
        (try simp only [Act.put, List.getElem_toArray, List.getElem_cons_zero, List.getElem_cons_succ, List.setIfInBounds_toArray, List.set_cons_zero, List.set_cons_succ])
        refine wpAnyB_take (i := 2) (v := ?_) rfl (by decide) (by kernel_rfl) (by kernel_rfl) (by kernel_rfl) (fun _ _ _ h => h) (Or.inl ⟨by rfl, ?hy2⟩) hS0 (fun _ => hT0) ?_
        case hy2 => (intro W hSw; (try dsimp only at hSw); (try obtain ⟨hSw0, hSw1, hSw2, hSw3, hSw4⟩ := hSw); go_simp; try with_reducible rfl)
        (try simp only [Act.put, List.getElem_toArray, List.getElem_cons_zero, List.getElem_cons_succ, List.setIfInBounds_toArray, List.set_cons_zero, List.set_cons_succ])
        refine wpAnyB_take (i := 4) (v := ?_) rfl (by decide) (by kernel_rfl) (by kernel_rfl) (by kernel_rfl) (fun _ _ _ h => h) (Or.inl ⟨by rfl, ?hy4⟩) hS0 (fun _ => hT0) ?_
        case hy4 => (intro W hSw; (try dsimp only at hSw); (try obtain ⟨hSw0, hSw1, hSw2, hSw3, hSw4⟩ := hSw); go_simp; try with_reducible rfl)
        (try simp only [Act.put, List.getElem_toArray, List.getElem_cons_zero, List.getElem_cons_succ, List.setIfInBounds_toArray, List.set_cons_zero, List.set_cons_succ])
        refine wpAnyB_ready (rs := [1, 10]) (by kernel_rfl) (by simp) ?_
        refine AllReadyB.cons rfl (fun K hK => ?_) (AllReadyB.cons rfl (fun K hK => ?_) AllReadyB.nil)
        · skip
          go_simp
          go_at_call 18
          refine (toDataS_any x0 _ F0 _ (ArrDt.below HR0.out (hB6.trans (hC0.mono hB6.size)) HU0.out) (HU0.out.mono (hB6.trans (hC0.mono hB6.size)).size) hs0).mono ?_
          rintro e C1 ⟨yc1, Gc1, rfl, hb1, hvc1, hfrc1, hfsc1⟩
          have hC1 : Below W5.heap.size W5 C1 := hC0.trans (hb1.mono hC0.size)
          have cr1 := Lib.hid hvc1
          have cu1 := Lib.hid hfsc1.under
          clear hvc1 hfrc1 hfsc1
          (try dsimp only)
          refine hK.out _ _ (HS.out _ hC1) (fun _ => trivial) ?_
          clear hK K
          (try simp only [Act.put, List.getElem_toArray, List.getElem_cons_zero, List.getElem_cons_succ, List.setIfInBounds_toArray, List.set_cons_zero, List.set_cons_succ])
          refine wpAnyB_ready (rs := [3, 10]) (by kernel_rfl) (by simp) ?_
          refine AllReadyB.cons rfl (fun K hK => ?_) (AllReadyB.cons rfl (fun K hK => ?_) AllReadyB.nil)
          · skip
            go_simp
            go_at_call 19
            refine (toType_any x1 _ _ [] (TyR.mk0 _ x1) (Under.nil _) (Ty.size_le x1)).mono ?_
            rintro e C2 ⟨dsc2, Gc2, rfl, hb2, ⟨rfl, rfl⟩, hfrc2, hfsc2⟩
            have hC2 : Below W5.heap.size W5 C2 := hC1.trans (hb2.mono hC1.size)
            have cr3 := Lib.hid ((ArrDt.below cr1.out hb2 cu1.out))
            have cu3 := Lib.hid (cu1.out.mono hb2.size)
            clear hfrc2 hfsc2
            (try dsimp only)
            refine hK.out _ _ (HS.out _ hC2) (fun _ => trivial) ?_
            clear hK K
            (try simp only [Act.put, List.getElem_toArray, List.getElem_cons_zero, List.getElem_cons_succ, List.setIfInBounds_toArray, List.set_cons_zero, List.set_cons_succ])
            refine wpAnyB_ready (rs := [5, 10]) (by kernel_rfl) (by simp) ?_
            refine AllReadyB.cons rfl (fun K hK => ?_) (AllReadyB.cons rfl (fun K hK => ?_) AllReadyB.nil)
            · skip
              go_simp
              go_at_call 20
              refine (toValue_any x2 _ _ F2 (HR2.out.below (hB6.trans (hC2.mono hB6.size)) HU2.out) (HU2.out.mono (hB6.trans (hC2.mono hB6.size)).size) hs2).mono ?_
              rintro e C4 ⟨dsc4, Gc4, rfl, hb4, hvc4, hfrc4, hfsc4⟩
              have hC4 : Below W5.heap.size W5 C4 := hC2.trans (hb4.mono hC2.size)
              have cr5 := Lib.hid ((ArrDt.below cr3.out hb4 cu3.out))
              have cu5 := Lib.hid (cu3.out.mono hb4.size)
              have cr4 := Lib.hid hvc4
              have cu4 := Lib.hid hfsc4.under
              clear hvc4 hfrc4 hfsc4
              (try dsimp only)
              refine hK.out _ _ (HS.out _ hC4) (fun _ => trivial) ?_
              clear hK K
              (try simp only [Act.put, List.getElem_toArray, List.getElem_cons_zero, List.getElem_cons_succ, List.setIfInBounds_toArray, List.set_cons_zero, List.set_cons_succ])
              refine wpAnyB_ready (rs := [6, 10]) (by kernel_rfl) (by simp) ?_
              refine AllReadyB.cons rfl (fun K hK => ?_) (AllReadyB.cons rfl (fun K hK => ?_) AllReadyB.nil)
              · skip
                go_simp
                go_at_call 17
                refine (spec_PatternOf x0 x1 x2 _ _ Gc1 _ Gc4 cr5.out cu5.out cr4.out cu4.out hs2).mono ?_
                rintro e C6 ⟨cs6, F6, rfl, hb6, hp6, hfr6, hfs6⟩
                obtain ⟨kv6, rfl, ha6⟩ := (PR_iff _ _ _).1 hp6
                obtain ⟨A6, cap6, rfl, -, -⟩ := ha6.form
                clear ha6
                have hC6 : Below W5.heap.size W5 C6 := hC4.trans (hb6.mono hC4.size)
                have HP6 := Lib.hid hp6
                have HFr6 := Lib.hid hfr6
                have HFs6 := Lib.hid hfs6
                clear hp6 hfr6 hfs6
                (try dsimp only)
                refine hK.out _ _ (HS.out _ hC6) (fun _ => trivial) ?_
                clear hK K
                (try simp only [Act.put, List.getElem_toArray, List.getElem_cons_zero, List.getElem_cons_succ, List.setIfInBounds_toArray, List.set_cons_zero, List.set_cons_succ])
                have hSx6 := HS.out _ hC6
                refine wpAnyB_take (i := 7) (v := ?_) rfl (by decide) (by kernel_rfl) (by kernel_rfl) (by kernel_rfl) (fun _ _ _ h => h) (Or.inl ⟨by rfl, ?hy7⟩) hSx6 (fun _ => hT0) ?_
                case hy7 => (intro W hSw; (try dsimp only at hSw); (try obtain ⟨hSw0, hSw1, hSw2, hSw3, hSw4⟩ := hSw); go_simp; try with_reducible rfl)
                (try simp only [Act.put, List.getElem_toArray, List.getElem_cons_zero, List.getElem_cons_succ, List.setIfInBounds_toArray, List.set_cons_zero, List.set_cons_succ])
                refine wpAnyB_take (i := 8) (v := ?_) rfl (by decide) (by kernel_rfl) (by kernel_rfl) (by kernel_rfl) (fun _ _ _ h => h) (Or.inl ⟨by rfl, ?hy8⟩) hSx6 (fun _ => hT0) ?_
                case hy8 => (intro W hSw; (try dsimp only at hSw); (try obtain ⟨hSw0, hSw1, hSw2, hSw3, hSw4⟩ := hSw); go_simp; try with_reducible rfl)
                (try simp only [Act.put, List.getElem_toArray, List.getElem_cons_zero, List.getElem_cons_succ, List.setIfInBounds_toArray, List.set_cons_zero, List.set_cons_succ])
                refine wpAnyB_take (i := 9) (v := ?_) rfl (by decide) (by kernel_rfl) (by kernel_rfl) (by kernel_rfl) (fun _ _ _ h => h) (Or.inl ⟨by rfl, ?hy9⟩) hSx6 (fun _ => hT0) ?_
                case hy9 => (intro W hSw; (try dsimp only at hSw); (try obtain ⟨hSw0, hSw1, hSw2, hSw3, hSw4⟩ := hSw); go_simp; try with_reducible rfl)
                (try simp only [Act.put, List.getElem_toArray, List.getElem_cons_zero, List.getElem_cons_succ, List.setIfInBounds_toArray, List.set_cons_zero, List.set_cons_succ])
                refine wpAnyB_ready (rs := [10]) (by kernel_rfl) (by simp) ?_
                refine AllReadyB.cons rfl (fun K hK => ?_) AllReadyB.nil
                go_simp
                obtain ⟨C7, hX⟩ : ∃ X, X = C6.alloc (.cells #[.int .i64 0, .int .i64 0, .int .i64 0, .int .i64 0, .int .i64 0, .slice none 0 0] 32) := ⟨_, rfl⟩
                have hb7 : Below C6.heap.size C6 C7 := by rw [hX]; exact (Below.refl _ _).alloc (Nat.le_refl _) _
                have cb7 : Hid (Blk C7 C6.heap.size 32 #[.int .i64 0, .int .i64 0, .int .i64 0, .int .i64 0, .int .i64 0, .slice none 0 0]) := by rw [hX]; exact Blk.new _ _ _
                rw [← hX]
                clear hX
                have hC7 : Below W5.heap.size W5 C7 := hC6.trans (hb7.mono hC6.size)
                have cp8 := Lib.hid ((PR.below HP6.out hb7 HFs6.out.under))
                have cf8 := Lib.hid (HFr6.out.kept (.of_below hb7 HFs6.out.under))
                have cs8 : Hid (Fresh C4 C7 F6) := fun b hb => ⟨(HFs6.out b hb).1, Nat.lt_of_lt_of_le (HFs6.out b hb).2 hb7.size⟩
                have HGE7 : Hid (W5.heap.size ≤ C6.heap.size) := hC6.size
                (try dsimp only)
                refine hK.out _ _ (HS.out _ hC7) (fun _ => trivial) ?_
                clear hK K
                (try simp only [Act.put, List.getElem_toArray, List.getElem_cons_zero, List.getElem_cons_succ, List.setIfInBounds_toArray, List.set_cons_zero, List.set_cons_succ])
                have y0 : C7.cell? ⟨C6.heap.size, 0, none⟩ = some (.int .i64 0) := (cb7.out.cell 0).trans (by simp)
                have f0 := cb7.out.frozen 0
                have y1 : C7.cell? ⟨C6.heap.size, 1, none⟩ = some (.int .i64 0) := (cb7.out.cell 1).trans (by simp)
                have f1 := cb7.out.frozen 1
                have y2 : C7.cell? ⟨C6.heap.size, 2, none⟩ = some (.int .i64 0) := (cb7.out.cell 2).trans (by simp)
                have f2 := cb7.out.frozen 2
                have y3 : C7.cell? ⟨C6.heap.size, 3, none⟩ = some (.int .i64 0) := (cb7.out.cell 3).trans (by simp)
                have f3 := cb7.out.frozen 3
                have y4 : C7.cell? ⟨C6.heap.size, 4, none⟩ = some (.int .i64 0) := (cb7.out.cell 4).trans (by simp)
                have f4 := cb7.out.frozen 4
                have y5 : C7.cell? ⟨C6.heap.size, 5, none⟩ = some (.slice none 0 0) := (cb7.out.cell 5).trans (by simp)
                have f5 := cb7.out.frozen 5
                have ylt := cb7.out.lt
                have hCe : Hid (Below W5.heap.size W5 ((((((C7.setCell ⟨C6.heap.size, 0, none⟩ (.int .i64 (patternOfR x0 x1 x2).op)).setCell ⟨C6.heap.size, 1, none⟩ (.int .i64 (patternOfR x0 x1 x2).ct)).setCell ⟨C6.heap.size, 2, none⟩ (.int .i64 (patternOfR x0 x1 x2).n)).setCell ⟨C6.heap.size, 3, none⟩ (.int .i64 (patternOfR x0 x1 x2).m)).setCell ⟨C6.heap.size, 4, none⟩ (.int .i64 (patternOfR x0 x1 x2).va)).setCell ⟨C6.heap.size, 5, none⟩ (.slice A6 (patternOfR x0 x1 x2).ks.length cap6))) := ((((((hC7.setCell HGE7.out _).setCell HGE7.out _).setCell HGE7.out _).setCell HGE7.out _).setCell HGE7.out _).setCell HGE7.out _)
                have cbe : Hid (Blk ((((((C7.setCell ⟨C6.heap.size, 0, none⟩ (.int .i64 (patternOfR x0 x1 x2).op)).setCell ⟨C6.heap.size, 1, none⟩ (.int .i64 (patternOfR x0 x1 x2).ct)).setCell ⟨C6.heap.size, 2, none⟩ (.int .i64 (patternOfR x0 x1 x2).n)).setCell ⟨C6.heap.size, 3, none⟩ (.int .i64 (patternOfR x0 x1 x2).m)).setCell ⟨C6.heap.size, 4, none⟩ (.int .i64 (patternOfR x0 x1 x2).va)).setCell ⟨C6.heap.size, 5, none⟩ (.slice A6 (patternOfR x0 x1 x2).ks.length cap6)) (C6.heap.size) 32 #[.int .i64 (patternOfR x0 x1 x2).op, .int .i64 (patternOfR x0 x1 x2).ct, .int .i64 (patternOfR x0 x1 x2).n, .int .i64 (patternOfR x0 x1 x2).m, .int .i64 (patternOfR x0 x1 x2).va, .slice A6 (patternOfR x0 x1 x2).ks.length cap6]) := ((((((cb7.out.set_ 0 _).set_ 1 _).set_ 2 _).set_ 3 _).set_ 4 _).set_ 5 _)
                have hgF : ∀ b ∈ F6, b ≠ C6.heap.size := fun b hb e => Nat.lt_irrefl _ (by have h1 := (HFs6.out b hb).2; rw [e] at h1; exact h1)
                have hkp : Kept F6 C7 ((((((C7.setCell ⟨C6.heap.size, 0, none⟩ (.int .i64 (patternOfR x0 x1 x2).op)).setCell ⟨C6.heap.size, 1, none⟩ (.int .i64 (patternOfR x0 x1 x2).ct)).setCell ⟨C6.heap.size, 2, none⟩ (.int .i64 (patternOfR x0 x1 x2).n)).setCell ⟨C6.heap.size, 3, none⟩ (.int .i64 (patternOfR x0 x1 x2).m)).setCell ⟨C6.heap.size, 4, none⟩ (.int .i64 (patternOfR x0 x1 x2).va)).setCell ⟨C6.heap.size, 5, none⟩ (.slice A6 (patternOfR x0 x1 x2).ks.length cap6)) := fun b hb => by rw [Below.heap_setCell _ _ _ _ (hgF b hb), Below.heap_setCell _ _ _ _ (hgF b hb), Below.heap_setCell _ _ _ _ (hgF b hb), Below.heap_setCell _ _ _ _ (hgF b hb), Below.heap_setCell _ _ _ _ (hgF b hb), Below.heap_setCell _ _ _ _ (hgF b hb)]
                have hpe : Hid (PR ((((((C7.setCell ⟨C6.heap.size, 0, none⟩ (.int .i64 (patternOfR x0 x1 x2).op)).setCell ⟨C6.heap.size, 1, none⟩ (.int .i64 (patternOfR x0 x1 x2).ct)).setCell ⟨C6.heap.size, 2, none⟩ (.int .i64 (patternOfR x0 x1 x2).n)).setCell ⟨C6.heap.size, 3, none⟩ (.int .i64 (patternOfR x0 x1 x2).m)).setCell ⟨C6.heap.size, 4, none⟩ (.int .i64 (patternOfR x0 x1 x2).va)).setCell ⟨C6.heap.size, 5, none⟩ (.slice A6 (patternOfR x0 x1 x2).ks.length cap6)) (patternOfR x0 x1 x2) [.int .i64 (patternOfR x0 x1 x2).op, .int .i64 (patternOfR x0 x1 x2).ct, .int .i64 (patternOfR x0 x1 x2).n, .int .i64 (patternOfR x0 x1 x2).m, .int .i64 (patternOfR x0 x1 x2).va, .slice A6 (patternOfR x0 x1 x2).ks.length cap6] F6) := PR.mono _ _ _ hkp cp8.out
                have hfe : Hid (Free ((((((C7.setCell ⟨C6.heap.size, 0, none⟩ (.int .i64 (patternOfR x0 x1 x2).op)).setCell ⟨C6.heap.size, 1, none⟩ (.int .i64 (patternOfR x0 x1 x2).ct)).setCell ⟨C6.heap.size, 2, none⟩ (.int .i64 (patternOfR x0 x1 x2).n)).setCell ⟨C6.heap.size, 3, none⟩ (.int .i64 (patternOfR x0 x1 x2).m)).setCell ⟨C6.heap.size, 4, none⟩ (.int .i64 (patternOfR x0 x1 x2).va)).setCell ⟨C6.heap.size, 5, none⟩ (.slice A6 (patternOfR x0 x1 x2).ks.length cap6)) F6) := cf8.out.kept hkp
                have hse : Hid (Fresh W5 ((((((C7.setCell ⟨C6.heap.size, 0, none⟩ (.int .i64 (patternOfR x0 x1 x2).op)).setCell ⟨C6.heap.size, 1, none⟩ (.int .i64 (patternOfR x0 x1 x2).ct)).setCell ⟨C6.heap.size, 2, none⟩ (.int .i64 (patternOfR x0 x1 x2).n)).setCell ⟨C6.heap.size, 3, none⟩ (.int .i64 (patternOfR x0 x1 x2).m)).setCell ⟨C6.heap.size, 4, none⟩ (.int .i64 (patternOfR x0 x1 x2).va)).setCell ⟨C6.heap.size, 5, none⟩ (.slice A6 (patternOfR x0 x1 x2).ks.length cap6)) F6) := fun b hb => ⟨Nat.le_trans hC4.size (cs8.out b hb).1, by simpa [World.setCell] using (cs8.out b hb).2⟩
                have hge : Hid (C6.heap.size ∉ F6) := fun h => hgF _ h rfl
                clear hkp hgF
                refine wpAnyB_ready (rs := [11]) (by kernel_rfl) (by simp) ?_
                refine AllReadyB.cons rfl (fun K hK => ?_) AllReadyB.nil
                go_simp
                refine hK.out _ _ (HS.out _ hCe.out) (fun _ => trivial) ?_
                clear hK K
                (try simp only [Act.put, List.getElem_toArray, List.getElem_cons_zero, List.getElem_cons_succ, List.setIfInBounds_toArray, List.set_cons_zero, List.set_cons_succ])
                refine wpAnyB_ready (rs := [12]) (by kernel_rfl) (by simp) ?_
                refine AllReadyB.cons rfl (fun K hK => ?_) AllReadyB.nil
                go_simp
                refine hK.out _ _ (HS.out _ hCe.out) (fun _ => trivial) ?_
                clear hK K
                (try simp only [Act.put, List.getElem_toArray, List.getElem_cons_zero, List.getElem_cons_succ, List.setIfInBounds_toArray, List.set_cons_zero, List.set_cons_succ])
                refine wpAnyB_end (by kernel_rfl) ?_
                clear y0 f0 y1 f1 y2 f2 y3 f3 y4 f4 y5 f5 ylt
                go_wp2
                go_meet
                case rel => exact ⟨_, _, _, rfl, rfl, hCe, cbe, HGE7, hge, hpe, hfe, hse⟩
              · skip
                go_simp
                obtain ⟨C10, hX⟩ : ∃ X, X = C4.alloc (.cells #[.int .i64 0, .int .i64 0, .int .i64 0, .int .i64 0, .int .i64 0, .slice none 0 0] 32) := ⟨_, rfl⟩
                have hb10 : Below C4.heap.size C4 C10 := by rw [hX]; exact (Below.refl _ _).alloc (Nat.le_refl _) _
                have cb10 : Hid (Blk C10 C4.heap.size 32 #[.int .i64 0, .int .i64 0, .int .i64 0, .int .i64 0, .int .i64 0, .slice none 0 0]) := by rw [hX]; exact Blk.new _ _ _
                rw [← hX]
                clear hX
                have hC10 : Below W5.heap.size W5 C10 := hC4.trans (hb10.mono hC4.size)
                have cr11 := Lib.hid ((ArrDt.below cr5.out hb10 cu5.out))
                have cu11 := Lib.hid (cu5.out.mono hb10.size)
                have cr12 := Lib.hid ((cr4.out.below hb10 cu4.out))
                have cu12 := Lib.hid (cu4.out.mono hb10.size)
                have HGE10 : Hid (W5.heap.size ≤ C4.heap.size) := hC4.size
                (try dsimp only)
                refine hK.out _ _ (HS.out _ hC10) (fun _ => trivial) ?_
                clear hK K
                (try simp only [Act.put, List.getElem_toArray, List.getElem_cons_zero, List.getElem_cons_succ, List.setIfInBounds_toArray, List.set_cons_zero, List.set_cons_succ])
                refine wpAnyB_ready (rs := [6]) (by kernel_rfl) (by simp) ?_
                refine AllReadyB.cons rfl (fun K hK => ?_) AllReadyB.nil
                go_simp
                go_at_call 17
                refine (spec_PatternOf x0 x1 x2 _ _ Gc1 _ Gc4 cr11.out cu11.out cr12.out cu12.out hs2).mono ?_
                rintro e C13 ⟨cs13, F13, rfl, hb13, hp13, hfr13, hfs13⟩
                obtain ⟨kv13, rfl, ha13⟩ := (PR_iff _ _ _).1 hp13
                obtain ⟨A13, cap13, rfl, -, -⟩ := ha13.form
                clear ha13
                have hC13 : Below W5.heap.size W5 C13 := hC10.trans (hb13.mono hC10.size)
                have cb14 : Hid (Blk C13 C4.heap.size 32 #[.int .i64 0, .int .i64 0, .int .i64 0, .int .i64 0, .int .i64 0, .slice none 0 0]) := cb10.out.same (hb13.block _ cb10.out.lt)
                have HP13 := Lib.hid hp13
                have HFr13 := Lib.hid hfr13
                have HFs13 := Lib.hid hfs13
                clear hp13 hfr13 hfs13
                (try dsimp only)
                refine hK.out _ _ (HS.out _ hC13) (fun _ => trivial) ?_
                clear hK K
                (try simp only [Act.put, List.getElem_toArray, List.getElem_cons_zero, List.getElem_cons_succ, List.setIfInBounds_toArray, List.set_cons_zero, List.set_cons_succ])
                have hSx13 := HS.out _ hC13
                refine wpAnyB_take (i := 7) (v := ?_) rfl (by decide) (by kernel_rfl) (by kernel_rfl) (by kernel_rfl) (fun _ _ _ h => h) (Or.inl ⟨by rfl, ?hy7⟩) hSx13 (fun _ => hT0) ?_
                case hy7 => (intro W hSw; (try dsimp only at hSw); (try obtain ⟨hSw0, hSw1, hSw2, hSw3, hSw4⟩ := hSw); go_simp; try with_reducible rfl)
                (try simp only [Act.put, List.getElem_toArray, List.getElem_cons_zero, List.getElem_cons_succ, List.setIfInBounds_toArray, List.set_cons_zero, List.set_cons_succ])
                refine wpAnyB_take (i := 8) (v := ?_) rfl (by decide) (by kernel_rfl) (by kernel_rfl) (by kernel_rfl) (fun _ _ _ h => h) (Or.inl ⟨by rfl, ?hy8⟩) hSx13 (fun _ => hT0) ?_
                case hy8 => (intro W hSw; (try dsimp only at hSw); (try obtain ⟨hSw0, hSw1, hSw2, hSw3, hSw4⟩ := hSw); go_simp; try with_reducible rfl)
                (try simp only [Act.put, List.getElem_toArray, List.getElem_cons_zero, List.getElem_cons_succ, List.setIfInBounds_toArray, List.set_cons_zero, List.set_cons_succ])
                refine wpAnyB_take (i := 9) (v := ?_) rfl (by decide) (by kernel_rfl) (by kernel_rfl) (by kernel_rfl) (fun _ _ _ h => h) (Or.inl ⟨by rfl, ?hy9⟩) hSx13 (fun _ => hT0) ?_
                case hy9 => (intro W hSw; (try dsimp only at hSw); (try obtain ⟨hSw0, hSw1, hSw2, hSw3, hSw4⟩ := hSw); go_simp; try with_reducible rfl)
                (try simp only [Act.put, List.getElem_toArray, List.getElem_cons_zero, List.getElem_cons_succ, List.setIfInBounds_toArray, List.set_cons_zero, List.set_cons_succ])
                have y0 : C13.cell? ⟨C4.heap.size, 0, none⟩ = some (.int .i64 0) := (cb14.out.cell 0).trans (by simp)
                have f0 := cb14.out.frozen 0
                have y1 : C13.cell? ⟨C4.heap.size, 1, none⟩ = some (.int .i64 0) := (cb14.out.cell 1).trans (by simp)
                have f1 := cb14.out.frozen 1
                have y2 : C13.cell? ⟨C4.heap.size, 2, none⟩ = some (.int .i64 0) := (cb14.out.cell 2).trans (by simp)
                have f2 := cb14.out.frozen 2
                have y3 : C13.cell? ⟨C4.heap.size, 3, none⟩ = some (.int .i64 0) := (cb14.out.cell 3).trans (by simp)
                have f3 := cb14.out.frozen 3
                have y4 : C13.cell? ⟨C4.heap.size, 4, none⟩ = some (.int .i64 0) := (cb14.out.cell 4).trans (by simp)
                have f4 := cb14.out.frozen 4
                have y5 : C13.cell? ⟨C4.heap.size, 5, none⟩ = some (.slice none 0 0) := (cb14.out.cell 5).trans (by simp)
                have f5 := cb14.out.frozen 5
                have ylt := cb14.out.lt
                have hCe : Hid (Below W5.heap.size W5 ((((((C13.setCell ⟨C4.heap.size, 0, none⟩ (.int .i64 (patternOfR x0 x1 x2).op)).setCell ⟨C4.heap.size, 1, none⟩ (.int .i64 (patternOfR x0 x1 x2).ct)).setCell ⟨C4.heap.size, 2, none⟩ (.int .i64 (patternOfR x0 x1 x2).n)).setCell ⟨C4.heap.size, 3, none⟩ (.int .i64 (patternOfR x0 x1 x2).m)).setCell ⟨C4.heap.size, 4, none⟩ (.int .i64 (patternOfR x0 x1 x2).va)).setCell ⟨C4.heap.size, 5, none⟩ (.slice A13 (patternOfR x0 x1 x2).ks.length cap13))) := ((((((hC13.setCell HGE10.out _).setCell HGE10.out _).setCell HGE10.out _).setCell HGE10.out _).setCell HGE10.out _).setCell HGE10.out _)
                have cbe : Hid (Blk ((((((C13.setCell ⟨C4.heap.size, 0, none⟩ (.int .i64 (patternOfR x0 x1 x2).op)).setCell ⟨C4.heap.size, 1, none⟩ (.int .i64 (patternOfR x0 x1 x2).ct)).setCell ⟨C4.heap.size, 2, none⟩ (.int .i64 (patternOfR x0 x1 x2).n)).setCell ⟨C4.heap.size, 3, none⟩ (.int .i64 (patternOfR x0 x1 x2).m)).setCell ⟨C4.heap.size, 4, none⟩ (.int .i64 (patternOfR x0 x1 x2).va)).setCell ⟨C4.heap.size, 5, none⟩ (.slice A13 (patternOfR x0 x1 x2).ks.length cap13)) (C4.heap.size) 32 #[.int .i64 (patternOfR x0 x1 x2).op, .int .i64 (patternOfR x0 x1 x2).ct, .int .i64 (patternOfR x0 x1 x2).n, .int .i64 (patternOfR x0 x1 x2).m, .int .i64 (patternOfR x0 x1 x2).va, .slice A13 (patternOfR x0 x1 x2).ks.length cap13]) := ((((((cb14.out.set_ 0 _).set_ 1 _).set_ 2 _).set_ 3 _).set_ 4 _).set_ 5 _)
                have hgF : ∀ b ∈ F13, b ≠ C4.heap.size := fun b hb e => Nat.lt_irrefl _ (Nat.lt_of_lt_of_le (by rw [e]; exact cb10.out.lt) (HFs13.out b hb).1)
                have hkp : Kept F13 C13 ((((((C13.setCell ⟨C4.heap.size, 0, none⟩ (.int .i64 (patternOfR x0 x1 x2).op)).setCell ⟨C4.heap.size, 1, none⟩ (.int .i64 (patternOfR x0 x1 x2).ct)).setCell ⟨C4.heap.size, 2, none⟩ (.int .i64 (patternOfR x0 x1 x2).n)).setCell ⟨C4.heap.size, 3, none⟩ (.int .i64 (patternOfR x0 x1 x2).m)).setCell ⟨C4.heap.size, 4, none⟩ (.int .i64 (patternOfR x0 x1 x2).va)).setCell ⟨C4.heap.size, 5, none⟩ (.slice A13 (patternOfR x0 x1 x2).ks.length cap13)) := fun b hb => by rw [Below.heap_setCell _ _ _ _ (hgF b hb), Below.heap_setCell _ _ _ _ (hgF b hb), Below.heap_setCell _ _ _ _ (hgF b hb), Below.heap_setCell _ _ _ _ (hgF b hb), Below.heap_setCell _ _ _ _ (hgF b hb), Below.heap_setCell _ _ _ _ (hgF b hb)]
                have hpe : Hid (PR ((((((C13.setCell ⟨C4.heap.size, 0, none⟩ (.int .i64 (patternOfR x0 x1 x2).op)).setCell ⟨C4.heap.size, 1, none⟩ (.int .i64 (patternOfR x0 x1 x2).ct)).setCell ⟨C4.heap.size, 2, none⟩ (.int .i64 (patternOfR x0 x1 x2).n)).setCell ⟨C4.heap.size, 3, none⟩ (.int .i64 (patternOfR x0 x1 x2).m)).setCell ⟨C4.heap.size, 4, none⟩ (.int .i64 (patternOfR x0 x1 x2).va)).setCell ⟨C4.heap.size, 5, none⟩ (.slice A13 (patternOfR x0 x1 x2).ks.length cap13)) (patternOfR x0 x1 x2) [.int .i64 (patternOfR x0 x1 x2).op, .int .i64 (patternOfR x0 x1 x2).ct, .int .i64 (patternOfR x0 x1 x2).n, .int .i64 (patternOfR x0 x1 x2).m, .int .i64 (patternOfR x0 x1 x2).va, .slice A13 (patternOfR x0 x1 x2).ks.length cap13] F13) := PR.mono _ _ _ hkp HP13.out
                have hfe : Hid (Free ((((((C13.setCell ⟨C4.heap.size, 0, none⟩ (.int .i64 (patternOfR x0 x1 x2).op)).setCell ⟨C4.heap.size, 1, none⟩ (.int .i64 (patternOfR x0 x1 x2).ct)).setCell ⟨C4.heap.size, 2, none⟩ (.int .i64 (patternOfR x0 x1 x2).n)).setCell ⟨C4.heap.size, 3, none⟩ (.int .i64 (patternOfR x0 x1 x2).m)).setCell ⟨C4.heap.size, 4, none⟩ (.int .i64 (patternOfR x0 x1 x2).va)).setCell ⟨C4.heap.size, 5, none⟩ (.slice A13 (patternOfR x0 x1 x2).ks.length cap13)) F13) := HFr13.out.kept hkp
                have hse : Hid (Fresh W5 ((((((C13.setCell ⟨C4.heap.size, 0, none⟩ (.int .i64 (patternOfR x0 x1 x2).op)).setCell ⟨C4.heap.size, 1, none⟩ (.int .i64 (patternOfR x0 x1 x2).ct)).setCell ⟨C4.heap.size, 2, none⟩ (.int .i64 (patternOfR x0 x1 x2).n)).setCell ⟨C4.heap.size, 3, none⟩ (.int .i64 (patternOfR x0 x1 x2).m)).setCell ⟨C4.heap.size, 4, none⟩ (.int .i64 (patternOfR x0 x1 x2).va)).setCell ⟨C4.heap.size, 5, none⟩ (.slice A13 (patternOfR x0 x1 x2).ks.length cap13)) F13) := fun b hb => ⟨Nat.le_trans hC10.size (HFs13.out b hb).1, by simpa [World.setCell] using (HFs13.out b hb).2⟩
                have hge : Hid (C4.heap.size ∉ F13) := fun h => hgF _ h rfl
                clear hkp hgF
                refine wpAnyB_ready (rs := [11]) (by kernel_rfl) (by simp) ?_
                refine AllReadyB.cons rfl (fun K hK => ?_) AllReadyB.nil
                go_simp
                refine hK.out _ _ (HS.out _ hCe.out) (fun _ => trivial) ?_
                clear hK K
                (try simp only [Act.put, List.getElem_toArray, List.getElem_cons_zero, List.getElem_cons_succ, List.setIfInBounds_toArray, List.set_cons_zero, List.set_cons_succ])
                refine wpAnyB_ready (rs := [12]) (by kernel_rfl) (by simp) ?_
                refine AllReadyB.cons rfl (fun K hK => ?_) AllReadyB.nil
                go_simp
                refine hK.out _ _ (HS.out _ hCe.out) (fun _ => trivial) ?_
                clear hK K
                (try simp only [Act.put, List.getElem_toArray, List.getElem_cons_zero, List.getElem_cons_succ, List.setIfInBounds_toArray, List.set_cons_zero, List.set_cons_succ])
                refine wpAnyB_end (by kernel_rfl) ?_
                clear y0 f0 y1 f1 y2 f2 y3 f3 y4 f4 y5 f5 ylt
                go_wp2
                go_meet
                case rel => exact ⟨_, _, _, rfl, rfl, hCe, cbe, HGE10, hge, hpe, hfe, hse⟩
            · skip
              go_simp
              obtain ⟨C16, hX⟩ : ∃ X, X = C2.alloc (.cells #[.int .i64 0, .int .i64 0, .int .i64 0, .int .i64 0, .int .i64 0, .slice none 0 0] 32) := ⟨_, rfl⟩
              have hb16 : Below C2.heap.size C2 C16 := by rw [hX]; exact (Below.refl _ _).alloc (Nat.le_refl _) _
              have cb16 : Hid (Blk C16 C2.heap.size 32 #[.int .i64 0, .int .i64 0, .int .i64 0, .int .i64 0, .int .i64 0, .slice none 0 0]) := by rw [hX]; exact Blk.new _ _ _
              rw [← hX]
              clear hX
              have hC16 : Below W5.heap.size W5 C16 := hC2.trans (hb16.mono hC2.size)
              have cr17 := Lib.hid ((ArrDt.below cr3.out hb16 cu3.out))
              have cu17 := Lib.hid (cu3.out.mono hb16.size)
              have HGE16 : Hid (W5.heap.size ≤ C2.heap.size) := hC2.size
              (try dsimp only)
              refine hK.out _ _ (HS.out _ hC16) (fun _ => trivial) ?_
              clear hK K
              (try simp only [Act.put, List.getElem_toArray, List.getElem_cons_zero, List.getElem_cons_succ, List.setIfInBounds_toArray, List.set_cons_zero, List.set_cons_succ])
              refine wpAnyB_ready (rs := [5]) (by kernel_rfl) (by simp) ?_
              refine AllReadyB.cons rfl (fun K hK => ?_) AllReadyB.nil
              go_simp
              go_at_call 20
              refine (toValue_any x2 _ _ F2 (HR2.out.below (hB6.trans (hC16.mono hB6.size)) HU2.out) (HU2.out.mono (hB6.trans (hC16.mono hB6.size)).size) hs2).mono ?_
              rintro e C18 ⟨dsc18, Gc18, rfl, hb18, hvc18, hfrc18, hfsc18⟩
              have hC18 : Below W5.heap.size W5 C18 := hC16.trans (hb18.mono hC16.size)
              have cr19 := Lib.hid ((ArrDt.below cr17.out hb18 cu17.out))
              have cu19 := Lib.hid (cu17.out.mono hb18.size)
              have cb20 : Hid (Blk C18 C2.heap.size 32 #[.int .i64 0, .int .i64 0, .int .i64 0, .int .i64 0, .int .i64 0, .slice none 0 0]) := cb16.out.same (hb18.block _ cb16.out.lt)
              have cr18 := Lib.hid hvc18
              have cu18 := Lib.hid hfsc18.under
              clear hvc18 hfrc18 hfsc18
              (try dsimp only)
              refine hK.out _ _ (HS.out _ hC18) (fun _ => trivial) ?_
              clear hK K
              (try simp only [Act.put, List.getElem_toArray, List.getElem_cons_zero, List.getElem_cons_succ, List.setIfInBounds_toArray, List.set_cons_zero, List.set_cons_succ])
              refine wpAnyB_ready (rs := [6]) (by kernel_rfl) (by simp) ?_
              refine AllReadyB.cons rfl (fun K hK => ?_) AllReadyB.nil
              go_simp
              go_at_call 17
              refine (spec_PatternOf x0 x1 x2 _ _ Gc1 _ Gc18 cr19.out cu19.out cr18.out cu18.out hs2).mono ?_
              rintro e C21 ⟨cs21, F21, rfl, hb21, hp21, hfr21, hfs21⟩
              obtain ⟨kv21, rfl, ha21⟩ := (PR_iff _ _ _).1 hp21
              obtain ⟨A21, cap21, rfl, -, -⟩ := ha21.form
              clear ha21
              have hC21 : Below W5.heap.size W5 C21 := hC18.trans (hb21.mono hC18.size)
              have cb22 : Hid (Blk C21 C2.heap.size 32 #[.int .i64 0, .int .i64 0, .int .i64 0, .int .i64 0, .int .i64 0, .slice none 0 0]) := cb20.out.same (hb21.block _ cb20.out.lt)
              have HP21 := Lib.hid hp21
              have HFr21 := Lib.hid hfr21
              have HFs21 := Lib.hid hfs21
              clear hp21 hfr21 hfs21
              (try dsimp only)
              refine hK.out _ _ (HS.out _ hC21) (fun _ => trivial) ?_
              clear hK K
              (try simp only [Act.put, List.getElem_toArray, List.getElem_cons_zero, List.getElem_cons_succ, List.setIfInBounds_toArray, List.set_cons_zero, List.set_cons_succ])
              have hSx21 := HS.out _ hC21
              refine wpAnyB_take (i := 7) (v := ?_) rfl (by decide) (by kernel_rfl) (by kernel_rfl) (by kernel_rfl) (fun _ _ _ h => h) (Or.inl ⟨by rfl, ?hy7⟩) hSx21 (fun _ => hT0) ?_
              case hy7 => (intro W hSw; (try dsimp only at hSw); (try obtain ⟨hSw0, hSw1, hSw2, hSw3, hSw4⟩ := hSw); go_simp; try with_reducible rfl)
              (try simp only [Act.put, List.getElem_toArray, List.getElem_cons_zero, List.getElem_cons_succ, List.setIfInBounds_toArray, List.set_cons_zero, List.set_cons_succ])
              refine wpAnyB_take (i := 8) (v := ?_) rfl (by decide) (by kernel_rfl) (by kernel_rfl) (by kernel_rfl) (fun _ _ _ h => h) (Or.inl ⟨by rfl, ?hy8⟩) hSx21 (fun _ => hT0) ?_
              case hy8 => (intro W hSw; (try dsimp only at hSw); (try obtain ⟨hSw0, hSw1, hSw2, hSw3, hSw4⟩ := hSw); go_simp; try with_reducible rfl)
              (try simp only [Act.put, List.getElem_toArray, List.getElem_cons_zero, List.getElem_cons_succ, List.setIfInBounds_toArray, List.set_cons_zero, List.set_cons_succ])
              refine wpAnyB_take (i := 9) (v := ?_) rfl (by decide) (by kernel_rfl) (by kernel_rfl) (by kernel_rfl) (fun _ _ _ h => h) (Or.inl ⟨by rfl, ?hy9⟩) hSx21 (fun _ => hT0) ?_
              case hy9 => (intro W hSw; (try dsimp only at hSw); (try obtain ⟨hSw0, hSw1, hSw2, hSw3, hSw4⟩ := hSw); go_simp; try with_reducible rfl)
              (try simp only [Act.put, List.getElem_toArray, List.getElem_cons_zero, List.getElem_cons_succ, List.setIfInBounds_toArray, List.set_cons_zero, List.set_cons_succ])
              have y0 : C21.cell? ⟨C2.heap.size, 0, none⟩ = some (.int .i64 0) := (cb22.out.cell 0).trans (by simp)
              have f0 := cb22.out.frozen 0
              have y1 : C21.cell? ⟨C2.heap.size, 1, none⟩ = some (.int .i64 0) := (cb22.out.cell 1).trans (by simp)
              have f1 := cb22.out.frozen 1
              have y2 : C21.cell? ⟨C2.heap.size, 2, none⟩ = some (.int .i64 0) := (cb22.out.cell 2).trans (by simp)
              have f2 := cb22.out.frozen 2
              have y3 : C21.cell? ⟨C2.heap.size, 3, none⟩ = some (.int .i64 0) := (cb22.out.cell 3).trans (by simp)
              have f3 := cb22.out.frozen 3
              have y4 : C21.cell? ⟨C2.heap.size, 4, none⟩ = some (.int .i64 0) := (cb22.out.cell 4).trans (by simp)
              have f4 := cb22.out.frozen 4
              have y5 : C21.cell? ⟨C2.heap.size, 5, none⟩ = some (.slice none 0 0) := (cb22.out.cell 5).trans (by simp)
              have f5 := cb22.out.frozen 5
              have ylt := cb22.out.lt
              have hCe : Hid (Below W5.heap.size W5 ((((((C21.setCell ⟨C2.heap.size, 0, none⟩ (.int .i64 (patternOfR x0 x1 x2).op)).setCell ⟨C2.heap.size, 1, none⟩ (.int .i64 (patternOfR x0 x1 x2).ct)).setCell ⟨C2.heap.size, 2, none⟩ (.int .i64 (patternOfR x0 x1 x2).n)).setCell ⟨C2.heap.size, 3, none⟩ (.int .i64 (patternOfR x0 x1 x2).m)).setCell ⟨C2.heap.size, 4, none⟩ (.int .i64 (patternOfR x0 x1 x2).va)).setCell ⟨C2.heap.size, 5, none⟩ (.slice A21 (patternOfR x0 x1 x2).ks.length cap21))) := ((((((hC21.setCell HGE16.out _).setCell HGE16.out _).setCell HGE16.out _).setCell HGE16.out _).setCell HGE16.out _).setCell HGE16.out _)
              have cbe : Hid (Blk ((((((C21.setCell ⟨C2.heap.size, 0, none⟩ (.int .i64 (patternOfR x0 x1 x2).op)).setCell ⟨C2.heap.size, 1, none⟩ (.int .i64 (patternOfR x0 x1 x2).ct)).setCell ⟨C2.heap.size, 2, none⟩ (.int .i64 (patternOfR x0 x1 x2).n)).setCell ⟨C2.heap.size, 3, none⟩ (.int .i64 (patternOfR x0 x1 x2).m)).setCell ⟨C2.heap.size, 4, none⟩ (.int .i64 (patternOfR x0 x1 x2).va)).setCell ⟨C2.heap.size, 5, none⟩ (.slice A21 (patternOfR x0 x1 x2).ks.length cap21)) (C2.heap.size) 32 #[.int .i64 (patternOfR x0 x1 x2).op, .int .i64 (patternOfR x0 x1 x2).ct, .int .i64 (patternOfR x0 x1 x2).n, .int .i64 (patternOfR x0 x1 x2).m, .int .i64 (patternOfR x0 x1 x2).va, .slice A21 (patternOfR x0 x1 x2).ks.length cap21]) := ((((((cb22.out.set_ 0 _).set_ 1 _).set_ 2 _).set_ 3 _).set_ 4 _).set_ 5 _)
              have hgF : ∀ b ∈ F21, b ≠ C2.heap.size := fun b hb e => Nat.lt_irrefl _ (Nat.lt_of_lt_of_le (by rw [e]; exact cb20.out.lt) (HFs21.out b hb).1)
              have hkp : Kept F21 C21 ((((((C21.setCell ⟨C2.heap.size, 0, none⟩ (.int .i64 (patternOfR x0 x1 x2).op)).setCell ⟨C2.heap.size, 1, none⟩ (.int .i64 (patternOfR x0 x1 x2).ct)).setCell ⟨C2.heap.size, 2, none⟩ (.int .i64 (patternOfR x0 x1 x2).n)).setCell ⟨C2.heap.size, 3, none⟩ (.int .i64 (patternOfR x0 x1 x2).m)).setCell ⟨C2.heap.size, 4, none⟩ (.int .i64 (patternOfR x0 x1 x2).va)).setCell ⟨C2.heap.size, 5, none⟩ (.slice A21 (patternOfR x0 x1 x2).ks.length cap21)) := fun b hb => by rw [Below.heap_setCell _ _ _ _ (hgF b hb), Below.heap_setCell _ _ _ _ (hgF b hb), Below.heap_setCell _ _ _ _ (hgF b hb), Below.heap_setCell _ _ _ _ (hgF b hb), Below.heap_setCell _ _ _ _ (hgF b hb), Below.heap_setCell _ _ _ _ (hgF b hb)]
              have hpe : Hid (PR ((((((C21.setCell ⟨C2.heap.size, 0, none⟩ (.int .i64 (patternOfR x0 x1 x2).op)).setCell ⟨C2.heap.size, 1, none⟩ (.int .i64 (patternOfR x0 x1 x2).ct)).setCell ⟨C2.heap.size, 2, none⟩ (.int .i64 (patternOfR x0 x1 x2).n)).setCell ⟨C2.heap.size, 3, none⟩ (.int .i64 (patternOfR x0 x1 x2).m)).setCell ⟨C2.heap.size, 4, none⟩ (.int .i64 (patternOfR x0 x1 x2).va)).setCell ⟨C2.heap.size, 5, none⟩ (.slice A21 (patternOfR x0 x1 x2).ks.length cap21)) (patternOfR x0 x1 x2) [.int .i64 (patternOfR x0 x1 x2).op, .int .i64 (patternOfR x0 x1 x2).ct, .int .i64 (patternOfR x0 x1 x2).n, .int .i64 (patternOfR x0 x1 x2).m, .int .i64 (patternOfR x0 x1 x2).va, .slice A21 (patternOfR x0 x1 x2).ks.length cap21] F21) := PR.mono _ _ _ hkp HP21.out
              have hfe : Hid (Free ((((((C21.setCell ⟨C2.heap.size, 0, none⟩ (.int .i64 (patternOfR x0 x1 x2).op)).setCell ⟨C2.heap.size, 1, none⟩ (.int .i64 (patternOfR x0 x1 x2).ct)).setCell ⟨C2.heap.size, 2, none⟩ (.int .i64 (patternOfR x0 x1 x2).n)).setCell ⟨C2.heap.size, 3, none⟩ (.int .i64 (patternOfR x0 x1 x2).m)).setCell ⟨C2.heap.size, 4, none⟩ (.int .i64 (patternOfR x0 x1 x2).va)).setCell ⟨C2.heap.size, 5, none⟩ (.slice A21 (patternOfR x0 x1 x2).ks.length cap21)) F21) := HFr21.out.kept hkp
              have hse : Hid (Fresh W5 ((((((C21.setCell ⟨C2.heap.size, 0, none⟩ (.int .i64 (patternOfR x0 x1 x2).op)).setCell ⟨C2.heap.size, 1, none⟩ (.int .i64 (patternOfR x0 x1 x2).ct)).setCell ⟨C2.heap.size, 2, none⟩ (.int .i64 (patternOfR x0 x1 x2).n)).setCell ⟨C2.heap.size, 3, none⟩ (.int .i64 (patternOfR x0 x1 x2).m)).setCell ⟨C2.heap.size, 4, none⟩ (.int .i64 (patternOfR x0 x1 x2).va)).setCell ⟨C2.heap.size, 5, none⟩ (.slice A21 (patternOfR x0 x1 x2).ks.length cap21)) F21) := fun b hb => ⟨Nat.le_trans hC18.size (HFs21.out b hb).1, by simpa [World.setCell] using (HFs21.out b hb).2⟩
              have hge : Hid (C2.heap.size ∉ F21) := fun h => hgF _ h rfl
              clear hkp hgF
              refine wpAnyB_ready (rs := [11]) (by kernel_rfl) (by simp) ?_
              refine AllReadyB.cons rfl (fun K hK => ?_) AllReadyB.nil
              go_simp
              refine hK.out _ _ (HS.out _ hCe.out) (fun _ => trivial) ?_
              clear hK K
              (try simp only [Act.put, List.getElem_toArray, List.getElem_cons_zero, List.getElem_cons_succ, List.setIfInBounds_toArray, List.set_cons_zero, List.set_cons_succ])
              refine wpAnyB_ready (rs := [12]) (by kernel_rfl) (by simp) ?_
              refine AllReadyB.cons rfl (fun K hK => ?_) AllReadyB.nil
              go_simp
              refine hK.out _ _ (HS.out _ hCe.out) (fun _ => trivial) ?_
              clear hK K
              (try simp only [Act.put, List.getElem_toArray, List.getElem_cons_zero, List.getElem_cons_succ, List.setIfInBounds_toArray, List.set_cons_zero, List.set_cons_succ])
              refine wpAnyB_end (by kernel_rfl) ?_
              clear y0 f0 y1 f1 y2 f2 y3 f3 y4 f4 y5 f5 ylt
              go_wp2
              go_meet
              case rel => exact ⟨_, _, _, rfl, rfl, hCe, cbe, HGE16, hge, hpe, hfe, hse⟩
          · skip
            go_simp
            obtain ⟨C24, hX⟩ : ∃ X, X = C1.alloc (.cells #[.int .i64 0, .int .i64 0, .int .i64 0, .int .i64 0, .int .i64 0, .slice none 0 0] 32) := ⟨_, rfl⟩
            have hb24 : Below C1.heap.size C1 C24 := by rw [hX]; exact (Below.refl _ _).alloc (Nat.le_refl _) _
            have cb24 : Hid (Blk C24 C1.heap.size 32 #[.int .i64 0, .int .i64 0, .int .i64 0, .int .i64 0, .int .i64 0, .slice none 0 0]) := by rw [hX]; exact Blk.new _ _ _
            rw [← hX]
            clear hX
            have hC24 : Below W5.heap.size W5 C24 := hC1.trans (hb24.mono hC1.size)
            have cr25 := Lib.hid ((ArrDt.below cr1.out hb24 cu1.out))
            have cu25 := Lib.hid (cu1.out.mono hb24.size)
            have HGE24 : Hid (W5.heap.size ≤ C1.heap.size) := hC1.size
            (try dsimp only)
            refine hK.out _ _ (HS.out _ hC24) (fun _ => trivial) ?_
            clear hK K
            (try simp only [Act.put, List.getElem_toArray, List.getElem_cons_zero, List.getElem_cons_succ, List.setIfInBounds_toArray, List.set_cons_zero, List.set_cons_succ])
            refine wpAnyB_ready (rs := [3]) (by kernel_rfl) (by simp) ?_
            refine AllReadyB.cons rfl (fun K hK => ?_) AllReadyB.nil
            go_simp
            go_at_call 19
            refine (toType_any x1 _ _ [] (TyR.mk0 _ x1) (Under.nil _) (Ty.size_le x1)).mono ?_
            rintro e C26 ⟨dsc26, Gc26, rfl, hb26, ⟨rfl, rfl⟩, hfrc26, hfsc26⟩
            have hC26 : Below W5.heap.size W5 C26 := hC24.trans (hb26.mono hC24.size)
            have cr27 := Lib.hid ((ArrDt.below cr25.out hb26 cu25.out))
            have cu27 := Lib.hid (cu25.out.mono hb26.size)
            have cb28 : Hid (Blk C26 C1.heap.size 32 #[.int .i64 0, .int .i64 0, .int .i64 0, .int .i64 0, .int .i64 0, .slice none 0 0]) := cb24.out.same (hb26.block _ cb24.out.lt)
            clear hfrc26 hfsc26
            (try dsimp only)
            refine hK.out _ _ (HS.out _ hC26) (fun _ => trivial) ?_
            clear hK K
            (try simp only [Act.put, List.getElem_toArray, List.getElem_cons_zero, List.getElem_cons_succ, List.setIfInBounds_toArray, List.set_cons_zero, List.set_cons_succ])
            refine wpAnyB_ready (rs := [5]) (by kernel_rfl) (by simp) ?_
            refine AllReadyB.cons rfl (fun K hK => ?_) AllReadyB.nil
            go_simp
            go_at_call 20
            refine (toValue_any x2 _ _ F2 (HR2.out.below (hB6.trans (hC26.mono hB6.size)) HU2.out) (HU2.out.mono (hB6.trans (hC26.mono hB6.size)).size) hs2).mono ?_
            rintro e C29 ⟨dsc29, Gc29, rfl, hb29, hvc29, hfrc29, hfsc29⟩
            have hC29 : Below W5.heap.size W5 C29 := hC26.trans (hb29.mono hC26.size)
            have cr30 := Lib.hid ((ArrDt.below cr27.out hb29 cu27.out))
            have cu30 := Lib.hid (cu27.out.mono hb29.size)
            have cb31 : Hid (Blk C29 C1.heap.size 32 #[.int .i64 0, .int .i64 0, .int .i64 0, .int .i64 0, .int .i64 0, .slice none 0 0]) := cb28.out.same (hb29.block _ cb28.out.lt)
            have cr29 := Lib.hid hvc29
            have cu29 := Lib.hid hfsc29.under
            clear hvc29 hfrc29 hfsc29
            (try dsimp only)
            refine hK.out _ _ (HS.out _ hC29) (fun _ => trivial) ?_
            clear hK K
            (try simp only [Act.put, List.getElem_toArray, List.getElem_cons_zero, List.getElem_cons_succ, List.setIfInBounds_toArray, List.set_cons_zero, List.set_cons_succ])
            refine wpAnyB_ready (rs := [6]) (by kernel_rfl) (by simp) ?_
            refine AllReadyB.cons rfl (fun K hK => ?_) AllReadyB.nil
            go_simp
            go_at_call 17
            refine (spec_PatternOf x0 x1 x2 _ _ Gc1 _ Gc29 cr30.out cu30.out cr29.out cu29.out hs2).mono ?_
            rintro e C32 ⟨cs32, F32, rfl, hb32, hp32, hfr32, hfs32⟩
            obtain ⟨kv32, rfl, ha32⟩ := (PR_iff _ _ _).1 hp32
            obtain ⟨A32, cap32, rfl, -, -⟩ := ha32.form
            clear ha32
            have hC32 : Below W5.heap.size W5 C32 := hC29.trans (hb32.mono hC29.size)
            have cb33 : Hid (Blk C32 C1.heap.size 32 #[.int .i64 0, .int .i64 0, .int .i64 0, .int .i64 0, .int .i64 0, .slice none 0 0]) := cb31.out.same (hb32.block _ cb31.out.lt)
            have HP32 := Lib.hid hp32
            have HFr32 := Lib.hid hfr32
            have HFs32 := Lib.hid hfs32
            clear hp32 hfr32 hfs32
            (try dsimp only)
            refine hK.out _ _ (HS.out _ hC32) (fun _ => trivial) ?_
            clear hK K
            (try simp only [Act.put, List.getElem_toArray, List.getElem_cons_zero, List.getElem_cons_succ, List.setIfInBounds_toArray, List.set_cons_zero, List.set_cons_succ])
            have hSx32 := HS.out _ hC32
            refine wpAnyB_take (i := 7) (v := ?_) rfl (by decide) (by kernel_rfl) (by kernel_rfl) (by kernel_rfl) (fun _ _ _ h => h) (Or.inl ⟨by rfl, ?hy7⟩) hSx32 (fun _ => hT0) ?_
            case hy7 => (intro W hSw; (try dsimp only at hSw); (try obtain ⟨hSw0, hSw1, hSw2, hSw3, hSw4⟩ := hSw); go_simp; try with_reducible rfl)
            (try simp only [Act.put, List.getElem_toArray, List.getElem_cons_zero, List.getElem_cons_succ, List.setIfInBounds_toArray, List.set_cons_zero, List.set_cons_succ])
            refine wpAnyB_take (i := 8) (v := ?_) rfl (by decide) (by kernel_rfl) (by kernel_rfl) (by kernel_rfl) (fun _ _ _ h => h) (Or.inl ⟨by rfl, ?hy8⟩) hSx32 (fun _ => hT0) ?_
            case hy8 => (intro W hSw; (try dsimp only at hSw); (try obtain ⟨hSw0, hSw1, hSw2, hSw3, hSw4⟩ := hSw); go_simp; try with_reducible rfl)
            (try simp only [Act.put, List.getElem_toArray, List.getElem_cons_zero, List.getElem_cons_succ, List.setIfInBounds_toArray, List.set_cons_zero, List.set_cons_succ])
            refine wpAnyB_take (i := 9) (v := ?_) rfl (by decide) (by kernel_rfl) (by kernel_rfl) (by kernel_rfl) (fun _ _ _ h => h) (Or.inl ⟨by rfl, ?hy9⟩) hSx32 (fun _ => hT0) ?_
            case hy9 => (intro W hSw; (try dsimp only at hSw); (try obtain ⟨hSw0, hSw1, hSw2, hSw3, hSw4⟩ := hSw); go_simp; try with_reducible rfl)
            (try simp only [Act.put, List.getElem_toArray, List.getElem_cons_zero, List.getElem_cons_succ, List.setIfInBounds_toArray, List.set_cons_zero, List.set_cons_succ])
            have y0 : C32.cell? ⟨C1.heap.size, 0, none⟩ = some (.int .i64 0) := (cb33.out.cell 0).trans (by simp)
            have f0 := cb33.out.frozen 0
            have y1 : C32.cell? ⟨C1.heap.size, 1, none⟩ = some (.int .i64 0) := (cb33.out.cell 1).trans (by simp)
            have f1 := cb33.out.frozen 1
            have y2 : C32.cell? ⟨C1.heap.size, 2, none⟩ = some (.int .i64 0) := (cb33.out.cell 2).trans (by simp)
            have f2 := cb33.out.frozen 2
            have y3 : C32.cell? ⟨C1.heap.size, 3, none⟩ = some (.int .i64 0) := (cb33.out.cell 3).trans (by simp)
            have f3 := cb33.out.frozen 3
            have y4 : C32.cell? ⟨C1.heap.size, 4, none⟩ = some (.int .i64 0) := (cb33.out.cell 4).trans (by simp)
            have f4 := cb33.out.frozen 4
            have y5 : C32.cell? ⟨C1.heap.size, 5, none⟩ = some (.slice none 0 0) := (cb33.out.cell 5).trans (by simp)
            have f5 := cb33.out.frozen 5
            have ylt := cb33.out.lt
            have hCe : Hid (Below W5.heap.size W5 ((((((C32.setCell ⟨C1.heap.size, 0, none⟩ (.int .i64 (patternOfR x0 x1 x2).op)).setCell ⟨C1.heap.size, 1, none⟩ (.int .i64 (patternOfR x0 x1 x2).ct)).setCell ⟨C1.heap.size, 2, none⟩ (.int .i64 (patternOfR x0 x1 x2).n)).setCell ⟨C1.heap.size, 3, none⟩ (.int .i64 (patternOfR x0 x1 x2).m)).setCell ⟨C1.heap.size, 4, none⟩ (.int .i64 (patternOfR x0 x1 x2).va)).setCell ⟨C1.heap.size, 5, none⟩ (.slice A32 (patternOfR x0 x1 x2).ks.length cap32))) := ((((((hC32.setCell HGE24.out _).setCell HGE24.out _).setCell HGE24.out _).setCell HGE24.out _).setCell HGE24.out _).setCell HGE24.out _)
            have cbe : Hid (Blk ((((((C32.setCell ⟨C1.heap.size, 0, none⟩ (.int .i64 (patternOfR x0 x1 x2).op)).setCell ⟨C1.heap.size, 1, none⟩ (.int .i64 (patternOfR x0 x1 x2).ct)).setCell ⟨C1.heap.size, 2, none⟩ (.int .i64 (patternOfR x0 x1 x2).n)).setCell ⟨C1.heap.size, 3, none⟩ (.int .i64 (patternOfR x0 x1 x2).m)).setCell ⟨C1.heap.size, 4, none⟩ (.int .i64 (patternOfR x0 x1 x2).va)).setCell ⟨C1.heap.size, 5, none⟩ (.slice A32 (patternOfR x0 x1 x2).ks.length cap32)) (C1.heap.size) 32 #[.int .i64 (patternOfR x0 x1 x2).op, .int .i64 (patternOfR x0 x1 x2).ct, .int .i64 (patternOfR x0 x1 x2).n, .int .i64 (patternOfR x0 x1 x2).m, .int .i64 (patternOfR x0 x1 x2).va, .slice A32 (patternOfR x0 x1 x2).ks.length cap32]) := ((((((cb33.out.set_ 0 _).set_ 1 _).set_ 2 _).set_ 3 _).set_ 4 _).set_ 5 _)
            have hgF : ∀ b ∈ F32, b ≠ C1.heap.size := fun b hb e => Nat.lt_irrefl _ (Nat.lt_of_lt_of_le (by rw [e]; exact cb31.out.lt) (HFs32.out b hb).1)
            have hkp : Kept F32 C32 ((((((C32.setCell ⟨C1.heap.size, 0, none⟩ (.int .i64 (patternOfR x0 x1 x2).op)).setCell ⟨C1.heap.size, 1, none⟩ (.int .i64 (patternOfR x0 x1 x2).ct)).setCell ⟨C1.heap.size, 2, none⟩ (.int .i64 (patternOfR x0 x1 x2).n)).setCell ⟨C1.heap.size, 3, none⟩ (.int .i64 (patternOfR x0 x1 x2).m)).setCell ⟨C1.heap.size, 4, none⟩ (.int .i64 (patternOfR x0 x1 x2).va)).setCell ⟨C1.heap.size, 5, none⟩ (.slice A32 (patternOfR x0 x1 x2).ks.length cap32)) := fun b hb => by rw [Below.heap_setCell _ _ _ _ (hgF b hb), Below.heap_setCell _ _ _ _ (hgF b hb), Below.heap_setCell _ _ _ _ (hgF b hb), Below.heap_setCell _ _ _ _ (hgF b hb), Below.heap_setCell _ _ _ _ (hgF b hb), Below.heap_setCell _ _ _ _ (hgF b hb)]
            have hpe : Hid (PR ((((((C32.setCell ⟨C1.heap.size, 0, none⟩ (.int .i64 (patternOfR x0 x1 x2).op)).setCell ⟨C1.heap.size, 1, none⟩ (.int .i64 (patternOfR x0 x1 x2).ct)).setCell ⟨C1.heap.size, 2, none⟩ (.int .i64 (patternOfR x0 x1 x2).n)).setCell ⟨C1.heap.size, 3, none⟩ (.int .i64 (patternOfR x0 x1 x2).m)).setCell ⟨C1.heap.size, 4, none⟩ (.int .i64 (patternOfR x0 x1 x2).va)).setCell ⟨C1.heap.size, 5, none⟩ (.slice A32 (patternOfR x0 x1 x2).ks.length cap32)) (patternOfR x0 x1 x2) [.int .i64 (patternOfR x0 x1 x2).op, .int .i64 (patternOfR x0 x1 x2).ct, .int .i64 (patternOfR x0 x1 x2).n, .int .i64 (patternOfR x0 x1 x2).m, .int .i64 (patternOfR x0 x1 x2).va, .slice A32 (patternOfR x0 x1 x2).ks.length cap32] F32) := PR.mono _ _ _ hkp HP32.out
            have hfe : Hid (Free ((((((C32.setCell ⟨C1.heap.size, 0, none⟩ (.int .i64 (patternOfR x0 x1 x2).op)).setCell ⟨C1.heap.size, 1, none⟩ (.int .i64 (patternOfR x0 x1 x2).ct)).setCell ⟨C1.heap.size, 2, none⟩ (.int .i64 (patternOfR x0 x1 x2).n)).setCell ⟨C1.heap.size, 3, none⟩ (.int .i64 (patternOfR x0 x1 x2).m)).setCell ⟨C1.heap.size, 4, none⟩ (.int .i64 (patternOfR x0 x1 x2).va)).setCell ⟨C1.heap.size, 5, none⟩ (.slice A32 (patternOfR x0 x1 x2).ks.length cap32)) F32) := HFr32.out.kept hkp
            have hse : Hid (Fresh W5 ((((((C32.setCell ⟨C1.heap.size, 0, none⟩ (.int .i64 (patternOfR x0 x1 x2).op)).setCell ⟨C1.heap.size, 1, none⟩ (.int .i64 (patternOfR x0 x1 x2).ct)).setCell ⟨C1.heap.size, 2, none⟩ (.int .i64 (patternOfR x0 x1 x2).n)).setCell ⟨C1.heap.size, 3, none⟩ (.int .i64 (patternOfR x0 x1 x2).m)).setCell ⟨C1.heap.size, 4, none⟩ (.int .i64 (patternOfR x0 x1 x2).va)).setCell ⟨C1.heap.size, 5, none⟩ (.slice A32 (patternOfR x0 x1 x2).ks.length cap32)) F32) := fun b hb => ⟨Nat.le_trans hC29.size (HFs32.out b hb).1, by simpa [World.setCell] using (HFs32.out b hb).2⟩
            have hge : Hid (C1.heap.size ∉ F32) := fun h => hgF _ h rfl
            clear hkp hgF
            refine wpAnyB_ready (rs := [11]) (by kernel_rfl) (by simp) ?_
            refine AllReadyB.cons rfl (fun K hK => ?_) AllReadyB.nil
            go_simp
            refine hK.out _ _ (HS.out _ hCe.out) (fun _ => trivial) ?_
            clear hK K
            (try simp only [Act.put, List.getElem_toArray, List.getElem_cons_zero, List.getElem_cons_succ, List.setIfInBounds_toArray, List.set_cons_zero, List.set_cons_succ])
            refine wpAnyB_ready (rs := [12]) (by kernel_rfl) (by simp) ?_
            refine AllReadyB.cons rfl (fun K hK => ?_) AllReadyB.nil
            go_simp
            refine hK.out _ _ (HS.out _ hCe.out) (fun _ => trivial) ?_
            clear hK K
            (try simp only [Act.put, List.getElem_toArray, List.getElem_cons_zero, List.getElem_cons_succ, List.setIfInBounds_toArray, List.set_cons_zero, List.set_cons_succ])
            refine wpAnyB_end (by kernel_rfl) ?_
            clear y0 f0 y1 f1 y2 f2 y3 f3 y4 f4 y5 f5 ylt
            go_wp2
            go_meet
            case rel => exact ⟨_, _, _, rfl, rfl, hCe, cbe, HGE24, hge, hpe, hfe, hse⟩
        · skip
          go_simp
          obtain ⟨C35, hX⟩ : ∃ X, X = wd.alloc (.cells #[.int .i64 0, .int .i64 0, .int .i64 0, .int .i64 0, .int .i64 0, .slice none 0 0] 32) := ⟨_, rfl⟩
          have hb35 : Below wd.heap.size wd C35 := by rw [hX]; exact (Below.refl _ _).alloc (Nat.le_refl _) _
          have cb35 : Hid (Blk C35 wd.heap.size 32 #[.int .i64 0, .int .i64 0, .int .i64 0, .int .i64 0, .int .i64 0, .slice none 0 0]) := by rw [hX]; exact Blk.new _ _ _
          rw [← hX]
          clear hX
          have hC35 : Below W5.heap.size W5 C35 := hC0.trans (hb35.mono hC0.size)
          have HGE35 : Hid (W5.heap.size ≤ wd.heap.size) := hC0.size
          (try dsimp only)
          refine hK.out _ _ (HS.out _ hC35) (fun _ => trivial) ?_
          clear hK K
          (try simp only [Act.put, List.getElem_toArray, List.getElem_cons_zero, List.getElem_cons_succ, List.setIfInBounds_toArray, List.set_cons_zero, List.set_cons_succ])
          refine wpAnyB_ready (rs := [1]) (by kernel_rfl) (by simp) ?_
          refine AllReadyB.cons rfl (fun K hK => ?_) AllReadyB.nil
          go_simp
          go_at_call 18
          refine (toDataS_any x0 _ F0 _ (ArrDt.below HR0.out (hB6.trans (hC35.mono hB6.size)) HU0.out) (HU0.out.mono (hB6.trans (hC35.mono hB6.size)).size) hs0).mono ?_
          rintro e C36 ⟨yc36, Gc36, rfl, hb36, hvc36, hfrc36, hfsc36⟩
          have hC36 : Below W5.heap.size W5 C36 := hC35.trans (hb36.mono hC35.size)
          have cb37 : Hid (Blk C36 wd.heap.size 32 #[.int .i64 0, .int .i64 0, .int .i64 0, .int .i64 0, .int .i64 0, .slice none 0 0]) := cb35.out.same (hb36.block _ cb35.out.lt)
          have cr36 := Lib.hid hvc36
          have cu36 := Lib.hid hfsc36.under
          clear hvc36 hfrc36 hfsc36
          (try dsimp only)
          refine hK.out _ _ (HS.out _ hC36) (fun _ => trivial) ?_
          clear hK K
          (try simp only [Act.put, List.getElem_toArray, List.getElem_cons_zero, List.getElem_cons_succ, List.setIfInBounds_toArray, List.set_cons_zero, List.set_cons_succ])
          refine wpAnyB_ready (rs := [3]) (by kernel_rfl) (by simp) ?_
          refine AllReadyB.cons rfl (fun K hK => ?_) AllReadyB.nil
          go_simp
          go_at_call 19
          refine (toType_any x1 _ _ [] (TyR.mk0 _ x1) (Under.nil _) (Ty.size_le x1)).mono ?_
          rintro e C38 ⟨dsc38, Gc38, rfl, hb38, ⟨rfl, rfl⟩, hfrc38, hfsc38⟩
          have hC38 : Below W5.heap.size W5 C38 := hC36.trans (hb38.mono hC36.size)
          have cr39 := Lib.hid ((ArrDt.below cr36.out hb38 cu36.out))
          have cu39 := Lib.hid (cu36.out.mono hb38.size)
          have cb40 : Hid (Blk C38 wd.heap.size 32 #[.int .i64 0, .int .i64 0, .int .i64 0, .int .i64 0, .int .i64 0, .slice none 0 0]) := cb37.out.same (hb38.block _ cb37.out.lt)
          clear hfrc38 hfsc38
          (try dsimp only)
          refine hK.out _ _ (HS.out _ hC38) (fun _ => trivial) ?_
          clear hK K
          (try simp only [Act.put, List.getElem_toArray, List.getElem_cons_zero, List.getElem_cons_succ, List.setIfInBounds_toArray, List.set_cons_zero, List.set_cons_succ])
          refine wpAnyB_ready (rs := [5]) (by kernel_rfl) (by simp) ?_
          refine AllReadyB.cons rfl (fun K hK => ?_) AllReadyB.nil
          go_simp
          go_at_call 20
          refine (toValue_any x2 _ _ F2 (HR2.out.below (hB6.trans (hC38.mono hB6.size)) HU2.out) (HU2.out.mono (hB6.trans (hC38.mono hB6.size)).size) hs2).mono ?_
          rintro e C41 ⟨dsc41, Gc41, rfl, hb41, hvc41, hfrc41, hfsc41⟩
          have hC41 : Below W5.heap.size W5 C41 := hC38.trans (hb41.mono hC38.size)
          have cr42 := Lib.hid ((ArrDt.below cr39.out hb41 cu39.out))
          have cu42 := Lib.hid (cu39.out.mono hb41.size)
          have cb43 : Hid (Blk C41 wd.heap.size 32 #[.int .i64 0, .int .i64 0, .int .i64 0, .int .i64 0, .int .i64 0, .slice none 0 0]) := cb40.out.same (hb41.block _ cb40.out.lt)
          have cr41 := Lib.hid hvc41
          have cu41 := Lib.hid hfsc41.under
          clear hvc41 hfrc41 hfsc41
          (try dsimp only)
          refine hK.out _ _ (HS.out _ hC41) (fun _ => trivial) ?_
          clear hK K
          (try simp only [Act.put, List.getElem_toArray, List.getElem_cons_zero, List.getElem_cons_succ, List.setIfInBounds_toArray, List.set_cons_zero, List.set_cons_succ])
          refine wpAnyB_ready (rs := [6]) (by kernel_rfl) (by simp) ?_
          refine AllReadyB.cons rfl (fun K hK => ?_) AllReadyB.nil
          go_simp
          go_at_call 17
          refine (spec_PatternOf x0 x1 x2 _ _ Gc36 _ Gc41 cr42.out cu42.out cr41.out cu41.out hs2).mono ?_
          rintro e C44 ⟨cs44, F44, rfl, hb44, hp44, hfr44, hfs44⟩
          obtain ⟨kv44, rfl, ha44⟩ := (PR_iff _ _ _).1 hp44
          obtain ⟨A44, cap44, rfl, -, -⟩ := ha44.form
          clear ha44
          have hC44 : Below W5.heap.size W5 C44 := hC41.trans (hb44.mono hC41.size)
          have cb45 : Hid (Blk C44 wd.heap.size 32 #[.int .i64 0, .int .i64 0, .int .i64 0, .int .i64 0, .int .i64 0, .slice none 0 0]) := cb43.out.same (hb44.block _ cb43.out.lt)
          have HP44 := Lib.hid hp44
          have HFr44 := Lib.hid hfr44
          have HFs44 := Lib.hid hfs44
          clear hp44 hfr44 hfs44
          (try dsimp only)
          refine hK.out _ _ (HS.out _ hC44) (fun _ => trivial) ?_
          clear hK K
          (try simp only [Act.put, List.getElem_toArray, List.getElem_cons_zero, List.getElem_cons_succ, List.setIfInBounds_toArray, List.set_cons_zero, List.set_cons_succ])
          have hSx44 := HS.out _ hC44
          refine wpAnyB_take (i := 7) (v := ?_) rfl (by decide) (by kernel_rfl) (by kernel_rfl) (by kernel_rfl) (fun _ _ _ h => h) (Or.inl ⟨by rfl, ?hy7⟩) hSx44 (fun _ => hT0) ?_
          case hy7 => (intro W hSw; (try dsimp only at hSw); (try obtain ⟨hSw0, hSw1, hSw2, hSw3, hSw4⟩ := hSw); go_simp; try with_reducible rfl)
          (try simp only [Act.put, List.getElem_toArray, List.getElem_cons_zero, List.getElem_cons_succ, List.setIfInBounds_toArray, List.set_cons_zero, List.set_cons_succ])
          refine wpAnyB_take (i := 8) (v := ?_) rfl (by decide) (by kernel_rfl) (by kernel_rfl) (by kernel_rfl) (fun _ _ _ h => h) (Or.inl ⟨by rfl, ?hy8⟩) hSx44 (fun _ => hT0) ?_
          case hy8 => (intro W hSw; (try dsimp only at hSw); (try obtain ⟨hSw0, hSw1, hSw2, hSw3, hSw4⟩ := hSw); go_simp; try with_reducible rfl)
          (try simp only [Act.put, List.getElem_toArray, List.getElem_cons_zero, List.getElem_cons_succ, List.setIfInBounds_toArray, List.set_cons_zero, List.set_cons_succ])
          refine wpAnyB_take (i := 9) (v := ?_) rfl (by decide) (by kernel_rfl) (by kernel_rfl) (by kernel_rfl) (fun _ _ _ h => h) (Or.inl ⟨by rfl, ?hy9⟩) hSx44 (fun _ => hT0) ?_
          case hy9 => (intro W hSw; (try dsimp only at hSw); (try obtain ⟨hSw0, hSw1, hSw2, hSw3, hSw4⟩ := hSw); go_simp; try with_reducible rfl)
          (try simp only [Act.put, List.getElem_toArray, List.getElem_cons_zero, List.getElem_cons_succ, List.setIfInBounds_toArray, List.set_cons_zero, List.set_cons_succ])
          have y0 : C44.cell? ⟨wd.heap.size, 0, none⟩ = some (.int .i64 0) := (cb45.out.cell 0).trans (by simp)
          have f0 := cb45.out.frozen 0
          have y1 : C44.cell? ⟨wd.heap.size, 1, none⟩ = some (.int .i64 0) := (cb45.out.cell 1).trans (by simp)
          have f1 := cb45.out.frozen 1
          have y2 : C44.cell? ⟨wd.heap.size, 2, none⟩ = some (.int .i64 0) := (cb45.out.cell 2).trans (by simp)
          have f2 := cb45.out.frozen 2
          have y3 : C44.cell? ⟨wd.heap.size, 3, none⟩ = some (.int .i64 0) := (cb45.out.cell 3).trans (by simp)
          have f3 := cb45.out.frozen 3
          have y4 : C44.cell? ⟨wd.heap.size, 4, none⟩ = some (.int .i64 0) := (cb45.out.cell 4).trans (by simp)
          have f4 := cb45.out.frozen 4
          have y5 : C44.cell? ⟨wd.heap.size, 5, none⟩ = some (.slice none 0 0) := (cb45.out.cell 5).trans (by simp)
          have f5 := cb45.out.frozen 5
          have ylt := cb45.out.lt
          have hCe : Hid (Below W5.heap.size W5 ((((((C44.setCell ⟨wd.heap.size, 0, none⟩ (.int .i64 (patternOfR x0 x1 x2).op)).setCell ⟨wd.heap.size, 1, none⟩ (.int .i64 (patternOfR x0 x1 x2).ct)).setCell ⟨wd.heap.size, 2, none⟩ (.int .i64 (patternOfR x0 x1 x2).n)).setCell ⟨wd.heap.size, 3, none⟩ (.int .i64 (patternOfR x0 x1 x2).m)).setCell ⟨wd.heap.size, 4, none⟩ (.int .i64 (patternOfR x0 x1 x2).va)).setCell ⟨wd.heap.size, 5, none⟩ (.slice A44 (patternOfR x0 x1 x2).ks.length cap44))) := ((((((hC44.setCell HGE35.out _).setCell HGE35.out _).setCell HGE35.out _).setCell HGE35.out _).setCell HGE35.out _).setCell HGE35.out _)
          have cbe : Hid (Blk ((((((C44.setCell ⟨wd.heap.size, 0, none⟩ (.int .i64 (patternOfR x0 x1 x2).op)).setCell ⟨wd.heap.size, 1, none⟩ (.int .i64 (patternOfR x0 x1 x2).ct)).setCell ⟨wd.heap.size, 2, none⟩ (.int .i64 (patternOfR x0 x1 x2).n)).setCell ⟨wd.heap.size, 3, none⟩ (.int .i64 (patternOfR x0 x1 x2).m)).setCell ⟨wd.heap.size, 4, none⟩ (.int .i64 (patternOfR x0 x1 x2).va)).setCell ⟨wd.heap.size, 5, none⟩ (.slice A44 (patternOfR x0 x1 x2).ks.length cap44)) (wd.heap.size) 32 #[.int .i64 (patternOfR x0 x1 x2).op, .int .i64 (patternOfR x0 x1 x2).ct, .int .i64 (patternOfR x0 x1 x2).n, .int .i64 (patternOfR x0 x1 x2).m, .int .i64 (patternOfR x0 x1 x2).va, .slice A44 (patternOfR x0 x1 x2).ks.length cap44]) := ((((((cb45.out.set_ 0 _).set_ 1 _).set_ 2 _).set_ 3 _).set_ 4 _).set_ 5 _)
          have hgF : ∀ b ∈ F44, b ≠ wd.heap.size := fun b hb e => Nat.lt_irrefl _ (Nat.lt_of_lt_of_le (by rw [e]; exact cb43.out.lt) (HFs44.out b hb).1)
          have hkp : Kept F44 C44 ((((((C44.setCell ⟨wd.heap.size, 0, none⟩ (.int .i64 (patternOfR x0 x1 x2).op)).setCell ⟨wd.heap.size, 1, none⟩ (.int .i64 (patternOfR x0 x1 x2).ct)).setCell ⟨wd.heap.size, 2, none⟩ (.int .i64 (patternOfR x0 x1 x2).n)).setCell ⟨wd.heap.size, 3, none⟩ (.int .i64 (patternOfR x0 x1 x2).m)).setCell ⟨wd.heap.size, 4, none⟩ (.int .i64 (patternOfR x0 x1 x2).va)).setCell ⟨wd.heap.size, 5, none⟩ (.slice A44 (patternOfR x0 x1 x2).ks.length cap44)) := fun b hb => by rw [Below.heap_setCell _ _ _ _ (hgF b hb), Below.heap_setCell _ _ _ _ (hgF b hb), Below.heap_setCell _ _ _ _ (hgF b hb), Below.heap_setCell _ _ _ _ (hgF b hb), Below.heap_setCell _ _ _ _ (hgF b hb), Below.heap_setCell _ _ _ _ (hgF b hb)]
          have hpe : Hid (PR ((((((C44.setCell ⟨wd.heap.size, 0, none⟩ (.int .i64 (patternOfR x0 x1 x2).op)).setCell ⟨wd.heap.size, 1, none⟩ (.int .i64 (patternOfR x0 x1 x2).ct)).setCell ⟨wd.heap.size, 2, none⟩ (.int .i64 (patternOfR x0 x1 x2).n)).setCell ⟨wd.heap.size, 3, none⟩ (.int .i64 (patternOfR x0 x1 x2).m)).setCell ⟨wd.heap.size, 4, none⟩ (.int .i64 (patternOfR x0 x1 x2).va)).setCell ⟨wd.heap.size, 5, none⟩ (.slice A44 (patternOfR x0 x1 x2).ks.length cap44)) (patternOfR x0 x1 x2) [.int .i64 (patternOfR x0 x1 x2).op, .int .i64 (patternOfR x0 x1 x2).ct, .int .i64 (patternOfR x0 x1 x2).n, .int .i64 (patternOfR x0 x1 x2).m, .int .i64 (patternOfR x0 x1 x2).va, .slice A44 (patternOfR x0 x1 x2).ks.length cap44] F44) := PR.mono _ _ _ hkp HP44.out
          have hfe : Hid (Free ((((((C44.setCell ⟨wd.heap.size, 0, none⟩ (.int .i64 (patternOfR x0 x1 x2).op)).setCell ⟨wd.heap.size, 1, none⟩ (.int .i64 (patternOfR x0 x1 x2).ct)).setCell ⟨wd.heap.size, 2, none⟩ (.int .i64 (patternOfR x0 x1 x2).n)).setCell ⟨wd.heap.size, 3, none⟩ (.int .i64 (patternOfR x0 x1 x2).m)).setCell ⟨wd.heap.size, 4, none⟩ (.int .i64 (patternOfR x0 x1 x2).va)).setCell ⟨wd.heap.size, 5, none⟩ (.slice A44 (patternOfR x0 x1 x2).ks.length cap44)) F44) := HFr44.out.kept hkp
          have hse : Hid (Fresh W5 ((((((C44.setCell ⟨wd.heap.size, 0, none⟩ (.int .i64 (patternOfR x0 x1 x2).op)).setCell ⟨wd.heap.size, 1, none⟩ (.int .i64 (patternOfR x0 x1 x2).ct)).setCell ⟨wd.heap.size, 2, none⟩ (.int .i64 (patternOfR x0 x1 x2).n)).setCell ⟨wd.heap.size, 3, none⟩ (.int .i64 (patternOfR x0 x1 x2).m)).setCell ⟨wd.heap.size, 4, none⟩ (.int .i64 (patternOfR x0 x1 x2).va)).setCell ⟨wd.heap.size, 5, none⟩ (.slice A44 (patternOfR x0 x1 x2).ks.length cap44)) F44) := fun b hb => ⟨Nat.le_trans hC41.size (HFs44.out b hb).1, by simpa [World.setCell] using (HFs44.out b hb).2⟩
          have hge : Hid (wd.heap.size ∉ F44) := fun h => hgF _ h rfl
          clear hkp hgF
          refine wpAnyB_ready (rs := [11]) (by kernel_rfl) (by simp) ?_
          refine AllReadyB.cons rfl (fun K hK => ?_) AllReadyB.nil
          go_simp
          refine hK.out _ _ (HS.out _ hCe.out) (fun _ => trivial) ?_
          clear hK K
          (try simp only [Act.put, List.getElem_toArray, List.getElem_cons_zero, List.getElem_cons_succ, List.setIfInBounds_toArray, List.set_cons_zero, List.set_cons_succ])
          refine wpAnyB_ready (rs := [12]) (by kernel_rfl) (by simp) ?_
          refine AllReadyB.cons rfl (fun K hK => ?_) AllReadyB.nil
          go_simp
          refine hK.out _ _ (HS.out _ hCe.out) (fun _ => trivial) ?_
          clear hK K
          (try simp only [Act.put, List.getElem_toArray, List.getElem_cons_zero, List.getElem_cons_succ, List.setIfInBounds_toArray, List.set_cons_zero, List.set_cons_succ])
          refine wpAnyB_end (by kernel_rfl) ?_
          clear y0 f0 y1 f1 y2 f2 y3 f3 y4 f4 y5 f5 ylt
          go_wp2
          go_meet
          case rel => exact ⟨_, _, _, rfl, rfl, hCe, cbe, HGE35, hge, hpe, hfe, hse⟩
      case rest =>
        obtain ⟨rg_w0, cs_w0, F_w0, rfl, rfl, HBt_w0, RB_w0, RGE_w0, RGF_w0, HP_w0, HFR_w0, HFS_w0⟩ := hcut
        obtain ⟨kv_w0, rfl, ha_w0⟩ := (PR_iff _ _ _).1 HP_w0.out
        obtain ⟨A_w0, cap_w0, rfl, -, -⟩ := ha_w0.form
        clear ha_w0
        obtain ⟨W8, hW⟩ : ∃ X, X = wc := ⟨_, rfl⟩
        rw [← hW] at HBt_w0 RB_w0 HP_w0 HFR_w0 HFS_w0 ⊢
        clear hW
        have hfz_w0 := HFS_w0.out
        have nb_bx1_w0 := Lib.hid (fun (hj : _ ∈ F_w0) => Nat.lt_irrefl _ (Nat.lt_of_lt_of_le SB7_bx1.out (hfz_w0 _ hj).1))
        have nb_bx2_w0 := Lib.hid (fun (hj : _ ∈ F_w0) => Nat.lt_irrefl _ (Nat.lt_of_lt_of_le SB7_bx2.out (hfz_w0 _ hj).1))
        have LB_w0 := Lib.hid (fun b (hj : b ∈ F_w0) => Nat.le_trans hB6.size (hfz_w0 b hj).1)
        have X_w0 := HP_w0
        have Y_w0 := Lib.hid hfz_w0.under
        have Z_w0 := HFR_w0
        clear HP_w0 HFR_w0 HFS_w0 hfz_w0
        have nb_rb_w0_w0 := RGF_w0
        have hbt8 := HBt_w0.out
        have rb_w0 := RB_w0
        clear HBt_w0 RB_w0 RGE_w0 RGF_w0
        have hB9 := hB6.trans (hbt8.mono hB6.size)
        have bx1n : Hid (Blk W8 (w.heap.size) 24 #[.int .i64 x1.d, .int .i64 x1.i]) := bx1.out.same (hbt8.block _ bx1.out.lt)
        clear bx1
        have bx1 := bx1n
        clear bx1n
        have bx2n : Hid (Blk W8 (w.heap.size + 1) 27 #[.int .i64 x2.c, .int .i64 x2.n, .slice A2 x2.ks.length cap2]) := bx2.out.same (hbt8.block _ bx2.out.lt)
        clear bx2
        have bx2 := bx2n
        clear bx2n
        have rb_w0n : Hid (Blk W8 rg_w0 32 #[.int .i64 (patternOfR x0 x1 x2).op, .int .i64 (patternOfR x0 x1 x2).ct, .int .i64 (patternOfR x0 x1 x2).n, .int .i64 (patternOfR x0 x1 x2).m, .int .i64 (patternOfR x0 x1 x2).va, .slice A_w0 (patternOfR x0 x1 x2).ks.length cap_w0]) := rb_w0
        clear rb_w0
        have rb_w0 := rb_w0n
        clear rb_w0n
        generalize hres : patternOfR x0 x1 x2 = r0 at *
        have HRes := Lib.hid hres
        clear hres
        generalize hresb : valueValidB x0 x1 x2 = rb at *
        have HResb := Lib.hid hresb
        clear hresb
        have bx1c0 : W8.cell? ⟨w.heap.size, 0, none⟩ = some (.int .i64 x1.d) := (bx1.out.cell 0).trans (by simp)
        have bx1c1 : W8.cell? ⟨w.heap.size, 1, none⟩ = some (.int .i64 x1.i) := (bx1.out.cell 1).trans (by simp)
        have bx1lt : w.heap.size < W8.heap.size := bx1.out.lt
        have bx2c0 : W8.cell? ⟨w.heap.size + 1, 0, none⟩ = some (.int .i64 x2.c) := (bx2.out.cell 0).trans (by simp)
        have bx2c1 : W8.cell? ⟨w.heap.size + 1, 1, none⟩ = some (.int .i64 x2.n) := (bx2.out.cell 1).trans (by simp)
        have bx2c2 : W8.cell? ⟨w.heap.size + 1, 2, none⟩ = some (.slice A2 x2.ks.length cap2) := (bx2.out.cell 2).trans (by simp)
        have bx2lt : w.heap.size + 1 < W8.heap.size := bx2.out.lt
        have rb_w0c0 : W8.cell? ⟨rg_w0, 0, none⟩ = some (.int .i64 r0.op) := (rb_w0.out.cell 0).trans (by simp)
        have rb_w0c1 : W8.cell? ⟨rg_w0, 1, none⟩ = some (.int .i64 r0.ct) := (rb_w0.out.cell 1).trans (by simp)
        have rb_w0c2 : W8.cell? ⟨rg_w0, 2, none⟩ = some (.int .i64 r0.n) := (rb_w0.out.cell 2).trans (by simp)
        have rb_w0c3 : W8.cell? ⟨rg_w0, 3, none⟩ = some (.int .i64 r0.m) := (rb_w0.out.cell 3).trans (by simp)
        have rb_w0c4 : W8.cell? ⟨rg_w0, 4, none⟩ = some (.int .i64 r0.va) := (rb_w0.out.cell 4).trans (by simp)
        have rb_w0c5 : W8.cell? ⟨rg_w0, 5, none⟩ = some (.slice A_w0 r0.ks.length cap_w0) := (rb_w0.out.cell 5).trans (by simp)
        have rb_w0lt : rg_w0 < W8.heap.size := rb_w0.out.lt
        go_wp2_with fail
        clear bx1c0 bx1c1 bx2c0 bx2c1 bx2c2 rb_w0c0 rb_w0c1 rb_w0c2 rb_w0c3 rb_w0c4 rb_w0c5 bx1lt bx2lt rb_w0lt
        have SU10_w0 := Y_w0
        have SB10_bx1 := Lib.hid bx1.out.lt
        have SB10_bx2 := Lib.hid bx2.out.lt
        have SB10_rb_w0 := Lib.hid rb_w0.out.lt
        refine (toDataS_any x0 W8 F0 _ (ArrDt.below HR0.out hB9 HU0.out) (HU0.out.mono hB9.size) hs0).mono ?_
        rintro e W11 ⟨y11, G11, rfl, hb11, hv11, hfr11, hfs11⟩
        have hB12 := hB9.trans (hb11.mono hB9.size)
        have bx1n : Hid (Blk W11 (w.heap.size) 24 #[.int .i64 x1.d, .int .i64 x1.i]) := bx1.out.same (hb11.block _ bx1.out.lt)
        clear bx1
        have bx1 := bx1n
        clear bx1n
        have bx2n : Hid (Blk W11 (w.heap.size + 1) 27 #[.int .i64 x2.c, .int .i64 x2.n, .slice A2 x2.ks.length cap2]) := bx2.out.same (hb11.block _ bx2.out.lt)
        clear bx2
        have bx2 := bx2n
        clear bx2n
        have rb_w0n : Hid (Blk W11 (rg_w0) 32 #[.int .i64 r0.op, .int .i64 r0.ct, .int .i64 r0.n, .int .i64 r0.m, .int .i64 r0.va, .slice A_w0 r0.ks.length cap_w0]) := rb_w0.out.same (hb11.block _ rb_w0.out.lt)
        clear rb_w0
        have rb_w0 := rb_w0n
        clear rb_w0n
        have KP := Lib.hid (show Kept F_w0 W8 W11 from (Kept.of_below (w := W8) hb11 Y_w0.out))
        have X_w0n := Lib.hid (PR.mono _ _ _ KP.out X_w0.out)
        have Y_w0n := Lib.hid (Y_w0.out.mono hb11.size)
        have Z_w0n := Lib.hid (Z_w0.out.kept KP.out)
        clear X_w0 Y_w0 KP Z_w0
        have X_w0 := X_w0n
        have Y_w0 := Y_w0n
        have Z_w0 := Z_w0n
        clear X_w0n Y_w0n Z_w0n
        obtain ⟨B0, bap0, rfl, -, -⟩ := hv11.form
        have X0 := Lib.hid hv11
        have Y0 := Lib.hid hfs11.under
        have Z_x0 := Lib.hid hfr11
        have dj_w0_x0 := Lib.hid (fun b (hb : b ∈ F_w0) (hj : b ∈ G11) => Nat.lt_irrefl _ (Nat.lt_of_lt_of_le (SU10_w0.out b hb) (hfs11 b hj).1))
        have dj_x0_w0 := Lib.hid (fun b (hj : b ∈ G11) (hb : b ∈ F_w0) => Nat.lt_irrefl _ (Nat.lt_of_lt_of_le (SU10_w0.out b hb) (hfs11 b hj).1))
        have nb_bx1_x0 := Lib.hid (fun (hj : _ ∈ G11) => Nat.lt_irrefl _ (Nat.lt_of_lt_of_le SB10_bx1.out (hfs11 _ hj).1))
        have nb_bx2_x0 := Lib.hid (fun (hj : _ ∈ G11) => Nat.lt_irrefl _ (Nat.lt_of_lt_of_le SB10_bx2.out (hfs11 _ hj).1))
        have nb_rb_w0_x0 := Lib.hid (fun (hj : _ ∈ G11) => Nat.lt_irrefl _ (Nat.lt_of_lt_of_le SB10_rb_w0.out (hfs11 _ hj).1))
        have LB_x0 := Lib.hid (fun b (hj : b ∈ G11) => Nat.le_trans hB9.size (hfs11 b hj).1)
        clear hv11 hfr11 hfs11
        have bx1c0 : W11.cell? ⟨w.heap.size, 0, none⟩ = some (.int .i64 x1.d) := (bx1.out.cell 0).trans (by simp)
        have bx1c1 : W11.cell? ⟨w.heap.size, 1, none⟩ = some (.int .i64 x1.i) := (bx1.out.cell 1).trans (by simp)
        have bx1lt : w.heap.size < W11.heap.size := bx1.out.lt
        have bx2c0 : W11.cell? ⟨w.heap.size + 1, 0, none⟩ = some (.int .i64 x2.c) := (bx2.out.cell 0).trans (by simp)
        have bx2c1 : W11.cell? ⟨w.heap.size + 1, 1, none⟩ = some (.int .i64 x2.n) := (bx2.out.cell 1).trans (by simp)
        have bx2c2 : W11.cell? ⟨w.heap.size + 1, 2, none⟩ = some (.slice A2 x2.ks.length cap2) := (bx2.out.cell 2).trans (by simp)
        have bx2lt : w.heap.size + 1 < W11.heap.size := bx2.out.lt
        have rb_w0c0 : W11.cell? ⟨rg_w0, 0, none⟩ = some (.int .i64 r0.op) := (rb_w0.out.cell 0).trans (by simp)
        have rb_w0c1 : W11.cell? ⟨rg_w0, 1, none⟩ = some (.int .i64 r0.ct) := (rb_w0.out.cell 1).trans (by simp)
        have rb_w0c2 : W11.cell? ⟨rg_w0, 2, none⟩ = some (.int .i64 r0.n) := (rb_w0.out.cell 2).trans (by simp)
        have rb_w0c3 : W11.cell? ⟨rg_w0, 3, none⟩ = some (.int .i64 r0.m) := (rb_w0.out.cell 3).trans (by simp)
        have rb_w0c4 : W11.cell? ⟨rg_w0, 4, none⟩ = some (.int .i64 r0.va) := (rb_w0.out.cell 4).trans (by simp)
        have rb_w0c5 : W11.cell? ⟨rg_w0, 5, none⟩ = some (.slice A_w0 r0.ks.length cap_w0) := (rb_w0.out.cell 5).trans (by simp)
        have rb_w0lt : rg_w0 < W11.heap.size := rb_w0.out.lt
        go_wp2_with fail
        clear bx1c0 bx1c1 bx2c0 bx2c1 bx2c2 rb_w0c0 rb_w0c1 rb_w0c2 rb_w0c3 rb_w0c4 rb_w0c5 bx1lt bx2lt rb_w0lt
        have SU13_w0 := Y_w0
        have SU13_x0 := Y0
        have SB13_bx1 := Lib.hid bx1.out.lt
        have SB13_bx2 := Lib.hid bx2.out.lt
        have SB13_rb_w0 := Lib.hid rb_w0.out.lt
        refine (toValue_any x2 W11 _ F2 (HR2.out.below hB12 HU2.out) (HU2.out.mono hB12.size) hs2).mono ?_
        rintro e W14 ⟨ds14, G14, rfl, hb14, hv14, hfr14, hfs14⟩
        have hB15 := hB12.trans (hb14.mono hB12.size)
        have bx1n : Hid (Blk W14 (w.heap.size) 24 #[.int .i64 x1.d, .int .i64 x1.i]) := bx1.out.same (hb14.block _ bx1.out.lt)
        clear bx1
        have bx1 := bx1n
        clear bx1n
        have bx2n : Hid (Blk W14 (w.heap.size + 1) 27 #[.int .i64 x2.c, .int .i64 x2.n, .slice A2 x2.ks.length cap2]) := bx2.out.same (hb14.block _ bx2.out.lt)
        clear bx2
        have bx2 := bx2n
        clear bx2n
        have rb_w0n : Hid (Blk W14 (rg_w0) 32 #[.int .i64 r0.op, .int .i64 r0.ct, .int .i64 r0.n, .int .i64 r0.m, .int .i64 r0.va, .slice A_w0 r0.ks.length cap_w0]) := rb_w0.out.same (hb14.block _ rb_w0.out.lt)
        clear rb_w0
        have rb_w0 := rb_w0n
        clear rb_w0n
        have KP := Lib.hid (show Kept F_w0 W11 W14 from (Kept.of_below (w := W11) hb14 Y_w0.out))
        have X_w0n := Lib.hid (PR.mono _ _ _ KP.out X_w0.out)
        have Y_w0n := Lib.hid (Y_w0.out.mono hb14.size)
        have Z_w0n := Lib.hid (Z_w0.out.kept KP.out)
        clear X_w0 Y_w0 KP Z_w0
        have X_w0 := X_w0n
        have Y_w0 := Y_w0n
        have Z_w0 := Z_w0n
        clear X_w0n Y_w0n Z_w0n
        have KP := Lib.hid (show Kept G11 W11 W14 from (Kept.of_below (w := W11) hb14 Y0.out))
        have X0n := Lib.hid (ArrDt.mono X0.out KP.out)
        have Y0n := Lib.hid (Y0.out.mono hb14.size)
        have Z_x0n := Lib.hid (Z_x0.out.kept KP.out)
        clear X0 Y0 KP Z_x0
        have X0 := X0n
        have Y0 := Y0n
        have Z_x0 := Z_x0n
        clear X0n Y0n Z_x0n
        obtain ⟨kw14, rfl, hw14⟩ := (VR_iff _ _ _).1 hv14
        obtain ⟨B2, bap2, rfl, -, -⟩ := hw14.form
        clear hw14
        have X2 := Lib.hid hv14
        have Y2 := Lib.hid hfs14.under
        have Z_x2 := Lib.hid hfr14
        have dj_w0_x2 := Lib.hid (fun b (hb : b ∈ F_w0) (hj : b ∈ G14) => Nat.lt_irrefl _ (Nat.lt_of_lt_of_le (SU13_w0.out b hb) (hfs14 b hj).1))
        have dj_x2_w0 := Lib.hid (fun b (hj : b ∈ G14) (hb : b ∈ F_w0) => Nat.lt_irrefl _ (Nat.lt_of_lt_of_le (SU13_w0.out b hb) (hfs14 b hj).1))
        have dj_x0_x2 := Lib.hid (fun b (hb : b ∈ G11) (hj : b ∈ G14) => Nat.lt_irrefl _ (Nat.lt_of_lt_of_le (SU13_x0.out b hb) (hfs14 b hj).1))
        have dj_x2_x0 := Lib.hid (fun b (hj : b ∈ G14) (hb : b ∈ G11) => Nat.lt_irrefl _ (Nat.lt_of_lt_of_le (SU13_x0.out b hb) (hfs14 b hj).1))
        have nb_bx1_x2 := Lib.hid (fun (hj : _ ∈ G14) => Nat.lt_irrefl _ (Nat.lt_of_lt_of_le SB13_bx1.out (hfs14 _ hj).1))
        have nb_bx2_x2 := Lib.hid (fun (hj : _ ∈ G14) => Nat.lt_irrefl _ (Nat.lt_of_lt_of_le SB13_bx2.out (hfs14 _ hj).1))
        have nb_rb_w0_x2 := Lib.hid (fun (hj : _ ∈ G14) => Nat.lt_irrefl _ (Nat.lt_of_lt_of_le SB13_rb_w0.out (hfs14 _ hj).1))
        have LB_x2 := Lib.hid (fun b (hj : b ∈ G14) => Nat.le_trans hB12.size (hfs14 b hj).1)
        clear hv14 hfr14 hfs14
        have bx1c0 : W14.cell? ⟨w.heap.size, 0, none⟩ = some (.int .i64 x1.d) := (bx1.out.cell 0).trans (by simp)
        have bx1c1 : W14.cell? ⟨w.heap.size, 1, none⟩ = some (.int .i64 x1.i) := (bx1.out.cell 1).trans (by simp)
        have bx1lt : w.heap.size < W14.heap.size := bx1.out.lt
        have bx2c0 : W14.cell? ⟨w.heap.size + 1, 0, none⟩ = some (.int .i64 x2.c) := (bx2.out.cell 0).trans (by simp)
        have bx2c1 : W14.cell? ⟨w.heap.size + 1, 1, none⟩ = some (.int .i64 x2.n) := (bx2.out.cell 1).trans (by simp)
        have bx2c2 : W14.cell? ⟨w.heap.size + 1, 2, none⟩ = some (.slice A2 x2.ks.length cap2) := (bx2.out.cell 2).trans (by simp)
        have bx2lt : w.heap.size + 1 < W14.heap.size := bx2.out.lt
        have rb_w0c0 : W14.cell? ⟨rg_w0, 0, none⟩ = some (.int .i64 r0.op) := (rb_w0.out.cell 0).trans (by simp)
        have rb_w0c1 : W14.cell? ⟨rg_w0, 1, none⟩ = some (.int .i64 r0.ct) := (rb_w0.out.cell 1).trans (by simp)
        have rb_w0c2 : W14.cell? ⟨rg_w0, 2, none⟩ = some (.int .i64 r0.n) := (rb_w0.out.cell 2).trans (by simp)
        have rb_w0c3 : W14.cell? ⟨rg_w0, 3, none⟩ = some (.int .i64 r0.m) := (rb_w0.out.cell 3).trans (by simp)
        have rb_w0c4 : W14.cell? ⟨rg_w0, 4, none⟩ = some (.int .i64 r0.va) := (rb_w0.out.cell 4).trans (by simp)
        have rb_w0c5 : W14.cell? ⟨rg_w0, 5, none⟩ = some (.slice A_w0 r0.ks.length cap_w0) := (rb_w0.out.cell 5).trans (by simp)
        have rb_w0lt : rg_w0 < W14.heap.size := rb_w0.out.lt
        go_wp2_with fail
        clear bx1c0 bx1c1 bx2c0 bx2c1 bx2c2 rb_w0c0 rb_w0c1 rb_w0c2 rb_w0c3 rb_w0c4 rb_w0c5 bx1lt bx2lt rb_w0lt
        have nb_xb2_w0 := Lib.hid (fun (hj : _ ∈ F_w0) => Nat.lt_irrefl _ (Y_w0.out _ hj))
        have nb_xb2_x0 := Lib.hid (fun (hj : _ ∈ G11) => Nat.lt_irrefl _ (Y0.out _ hj))
        have nb_xb2_x2 := Lib.hid (fun (hj : _ ∈ G14) => Nat.lt_irrefl _ (Y2.out _ hj))
        obtain ⟨W16, hW⟩ : ∃ X, X = W14.alloc (.cells #[.int .i64 x2.c, .int .i64 x2.n, .slice B2 x2.ks.length bap2] 41) := ⟨_, rfl⟩
        have hb16 : Below W14.heap.size W14 W16 := by rw [hW]; exact (Below.refl _ _).alloc (Nat.le_refl _) _
        have xb2 : Hid (Blk W16 W14.heap.size 41 #[.int .i64 x2.c, .int .i64 x2.n, .slice B2 x2.ks.length bap2]) := by rw [hW]; exact Blk.new _ _ _
        rw [← hW]
        clear hW
        have hB17 := hB15.trans (hb16.mono hB15.size)
        have bx1n : Hid (Blk W16 (w.heap.size) 24 #[.int .i64 x1.d, .int .i64 x1.i]) := bx1.out.same (hb16.block _ bx1.out.lt)
        clear bx1
        have bx1 := bx1n
        clear bx1n
        have bx2n : Hid (Blk W16 (w.heap.size + 1) 27 #[.int .i64 x2.c, .int .i64 x2.n, .slice A2 x2.ks.length cap2]) := bx2.out.same (hb16.block _ bx2.out.lt)
        clear bx2
        have bx2 := bx2n
        clear bx2n
        have rb_w0n : Hid (Blk W16 (rg_w0) 32 #[.int .i64 r0.op, .int .i64 r0.ct, .int .i64 r0.n, .int .i64 r0.m, .int .i64 r0.va, .slice A_w0 r0.ks.length cap_w0]) := rb_w0.out.same (hb16.block _ rb_w0.out.lt)
        clear rb_w0
        have rb_w0 := rb_w0n
        clear rb_w0n
        have KP := Lib.hid (show Kept F_w0 W14 W16 from (Kept.of_below (w := W14) hb16 Y_w0.out))
        have X_w0n := Lib.hid (PR.mono _ _ _ KP.out X_w0.out)
        have Y_w0n := Lib.hid (Y_w0.out.mono hb16.size)
        have Z_w0n := Lib.hid (Z_w0.out.kept KP.out)
        clear X_w0 Y_w0 KP Z_w0
        have X_w0 := X_w0n
        have Y_w0 := Y_w0n
        have Z_w0 := Z_w0n
        clear X_w0n Y_w0n Z_w0n
        have KP := Lib.hid (show Kept G11 W14 W16 from (Kept.of_below (w := W14) hb16 Y0.out))
        have X0n := Lib.hid (ArrDt.mono X0.out KP.out)
        have Y0n := Lib.hid (Y0.out.mono hb16.size)
        have Z_x0n := Lib.hid (Z_x0.out.kept KP.out)
        clear X0 Y0 KP Z_x0
        have X0 := X0n
        have Y0 := Y0n
        have Z_x0 := Z_x0n
        clear X0n Y0n Z_x0n
        have KP := Lib.hid (show Kept G14 W14 W16 from (Kept.of_below (w := W14) hb16 Y2.out))
        have X2n := Lib.hid (VR.mono _ _ _ KP.out X2.out)
        have Y2n := Lib.hid (Y2.out.mono hb16.size)
        have Z_x2n := Lib.hid (Z_x2.out.kept KP.out)
        clear X2 Y2 KP Z_x2
        have X2 := X2n
        have Y2 := Y2n
        have Z_x2 := Z_x2n
        clear X2n Y2n Z_x2n
        have bx1c0 : W16.cell? ⟨w.heap.size, 0, none⟩ = some (.int .i64 x1.d) := (bx1.out.cell 0).trans (by simp)
        have bx1c1 : W16.cell? ⟨w.heap.size, 1, none⟩ = some (.int .i64 x1.i) := (bx1.out.cell 1).trans (by simp)
        have bx1lt : w.heap.size < W16.heap.size := bx1.out.lt
        have bx2c0 : W16.cell? ⟨w.heap.size + 1, 0, none⟩ = some (.int .i64 x2.c) := (bx2.out.cell 0).trans (by simp)
        have bx2c1 : W16.cell? ⟨w.heap.size + 1, 1, none⟩ = some (.int .i64 x2.n) := (bx2.out.cell 1).trans (by simp)
        have bx2c2 : W16.cell? ⟨w.heap.size + 1, 2, none⟩ = some (.slice A2 x2.ks.length cap2) := (bx2.out.cell 2).trans (by simp)
        have bx2lt : w.heap.size + 1 < W16.heap.size := bx2.out.lt
        have rb_w0c0 : W16.cell? ⟨rg_w0, 0, none⟩ = some (.int .i64 r0.op) := (rb_w0.out.cell 0).trans (by simp)
        have rb_w0c1 : W16.cell? ⟨rg_w0, 1, none⟩ = some (.int .i64 r0.ct) := (rb_w0.out.cell 1).trans (by simp)
        have rb_w0c2 : W16.cell? ⟨rg_w0, 2, none⟩ = some (.int .i64 r0.n) := (rb_w0.out.cell 2).trans (by simp)
        have rb_w0c3 : W16.cell? ⟨rg_w0, 3, none⟩ = some (.int .i64 r0.m) := (rb_w0.out.cell 3).trans (by simp)
        have rb_w0c4 : W16.cell? ⟨rg_w0, 4, none⟩ = some (.int .i64 r0.va) := (rb_w0.out.cell 4).trans (by simp)
        have rb_w0c5 : W16.cell? ⟨rg_w0, 5, none⟩ = some (.slice A_w0 r0.ks.length cap_w0) := (rb_w0.out.cell 5).trans (by simp)
        have rb_w0lt : rg_w0 < W16.heap.size := rb_w0.out.lt
        have xb2c0 : W16.cell? ⟨W14.heap.size, 0, none⟩ = some (.int .i64 x2.c) := (xb2.out.cell 0).trans (by simp)
        have xb2c1 : W16.cell? ⟨W14.heap.size, 1, none⟩ = some (.int .i64 x2.n) := (xb2.out.cell 1).trans (by simp)
        have xb2c2 : W16.cell? ⟨W14.heap.size, 2, none⟩ = some (.slice B2 x2.ks.length bap2) := (xb2.out.cell 2).trans (by simp)
        have xb2lt : W14.heap.size < W16.heap.size := xb2.out.lt
        go_wp2_with fail
        have SU18_w0 := Y_w0
        have SU18_x0 := Y0
        have SU18_x2 := Y2
        have SB18_bx1 := Lib.hid bx1.out.lt
        have SB18_bx2 := Lib.hid bx2.out.lt
        have SB18_rb_w0 := Lib.hid rb_w0.out.lt
        have SB18_xb2 := Lib.hid xb2.out.lt
        go_cut [12, 13] from 19 (fun p b wq => ∃ (g : Nat) (cs : List Value) (F : List Nat), p = .pointer (some ⟨g, 0, none⟩) ∧ b = .bool (rb) ∧ Hid (Below W16.heap.size W16 wq) ∧ Hid (Blk wq g 32 cs.toArray) ∧ Hid (W16.heap.size ≤ g) ∧ Hid (g ∉ F) ∧ Hid (PR wq (r0) cs F) ∧ Hid (Free wq F) ∧ Hid (Fresh W16 wq F))
        case first =>
          have HS : Hid (∀ C : World, Below W16.heap.size W16 C → (C.cell? ⟨w.heap.size, 0, none⟩ = some (.int .i64 x1.d) ∧ C.cell? ⟨w.heap.size, 1, none⟩ = some (.int .i64 x1.i) ∧ C.cell? ⟨W14.heap.size, 0, none⟩ = some (.int .i64 x2.c) ∧ C.cell? ⟨W14.heap.size, 1, none⟩ = some (.int .i64 x2.n) ∧ C.cell? ⟨W14.heap.size, 2, none⟩ = some (.slice B2 x2.ks.length bap2))) := fun C hC => ⟨((bx1.out.same (hC.block _ bx1.out.lt)).cell 0).trans (by simp), ((bx1.out.same (hC.block _ bx1.out.lt)).cell 1).trans (by simp), ((xb2.out.same (hC.block _ xb2.out.lt)).cell 0).trans (by simp), ((xb2.out.same (hC.block _ xb2.out.lt)).cell 1).trans (by simp), ((xb2.out.same (hC.block _ xb2.out.lt)).cell 2).trans (by simp)⟩
          have hC0 : Below W16.heap.size W16 W16.drew := (Below.refl _ _).drew
          clear bx1c0 bx1c1 bx2c0 bx2c1 bx2c2 rb_w0c0 rb_w0c1 rb_w0c2 rb_w0c3 rb_w0c4 rb_w0c5 xb2c0 xb2c1 xb2c2 bx1lt bx2lt rb_w0lt xb2lt
          refine wp_region_B (S := fun w' => w'.cell? ⟨w.heap.size, 0, none⟩ = some (.int .i64 x1.d) ∧ w'.cell? ⟨w.heap.size, 1, none⟩ = some (.int .i64 x1.i) ∧ w'.cell? ⟨W14.heap.size, 0, none⟩ = some (.int .i64 x2.c) ∧ w'.cell? ⟨W14.heap.size, 1, none⟩ = some (.int .i64 x2.n) ∧ w'.cell? ⟨W14.heap.size, 2, none⟩ = some (.slice B2 x2.ks.length bap2)) (T := fun _ => True) (d := 10) (by kernel_rfl) ?_
          generalize W16.drew = wd at *
          have hS0 := HS.out _ hC0
          have hT0 : True := trivial
          refine wpAnyB_take (i := 0) (v := ?_) rfl (by decide) (by kernel_rfl) (by kernel_rfl) (by kernel_rfl) (fun _ _ _ h => h) (Or.inl ⟨by rfl, ?hy0⟩) hS0 (fun _ => hT0) ?_
          case hy0 => (intro W hSw; (try dsimp only at hSw); (try obtain ⟨hSw0, hSw1, hSw2, hSw3, hSw4⟩ := hSw); go_simp; try with_reducible rfl)
          (try simp only [Act.put, List.getElem_toArray, List.getElem_cons_zero, List.getElem_cons_succ, List.setIfInBounds_toArray, List.set_cons_zero, List.set_cons_succ])
          refine wpAnyB_take (i := 1) (v := ?_) rfl (by decide) (by kernel_rfl) (by kernel_rfl) (by kernel_rfl) (fun _ _ _ h => h) (Or.inl ⟨by rfl, ?hy1⟩) hS0 (fun _ => hT0) ?_
          case hy1 => (intro W hSw; (try dsimp only at hSw); (try obtain ⟨hSw0, hSw1, hSw2, hSw3, hSw4⟩ := hSw); go_simp; try with_reducible rfl)
          (try simp only [Act.put, List.getElem_toArray, List.getElem_cons_zero, List.getElem_cons_succ, List.setIfInBounds_toArray, List.set_cons_zero, List.set_cons_succ])
          refine wpAnyB_take (i := 3) (v := ?_) rfl (by decide) (by kernel_rfl) (by kernel_rfl) (by kernel_rfl) (fun _ _ _ h => h) (Or.inl ⟨by rfl, ?hy3⟩) hS0 (fun _ => hT0) ?_
          case hy3 => (intro W hSw; (try dsimp only at hSw); (try obtain ⟨hSw0, hSw1, hSw2, hSw3, hSw4⟩ := hSw); go_simp; try with_reducible rfl)
          (try simp only [Act.put, List.getElem_toArray, List.getElem_cons_zero, List.getElem_cons_succ, List.setIfInBounds_toArray, List.set_cons_zero, List.set_cons_succ])
          refine wpAnyB_ready (rs := [2, 8]) (by kernel_rfl) (by simp) ?_
          refine AllReadyB.cons rfl (fun K hK => ?_) (AllReadyB.cons rfl (fun K hK => ?_) AllReadyB.nil)
          · skip
            go_simp
            go_at_call 19
            refine (toType_any x1 _ _ [] (TyR.mk0 _ x1) (Under.nil _) (Ty.size_le x1)).mono ?_
            rintro e C1 ⟨dsc1, Gc1, rfl, hb1, ⟨rfl, rfl⟩, hfrc1, hfsc1⟩
            have hC1 : Below W16.heap.size W16 C1 := hC0.trans (hb1.mono hC0.size)
            clear hfrc1 hfsc1
            (try dsimp only)
            refine hK.out _ _ (HS.out _ hC1) (fun _ => trivial) ?_
            clear hK K
            (try simp only [Act.put, List.getElem_toArray, List.getElem_cons_zero, List.getElem_cons_succ, List.setIfInBounds_toArray, List.set_cons_zero, List.set_cons_succ])
            refine wpAnyB_ready (rs := [4, 8]) (by kernel_rfl) (by simp) ?_
            refine AllReadyB.cons rfl (fun K hK => ?_) (AllReadyB.cons rfl (fun K hK => ?_) AllReadyB.nil)
            · skip
              go_simp
              go_at_call 21
              refine (impl_PatternOf x0 x1 x2 _ _ G11 _ G14 (ArrDt.below X0.out hC1 Y0.out) (Y0.out.mono hC1.size) (X2.out.below hC1 Y2.out) (Y2.out.mono hC1.size) hs2).mono ?_
              rintro e C2 ⟨cs2, F2, rfl, hb2, hp2, hfr2, hfs2⟩
              rw [HRes.out] at hp2
              obtain ⟨kv2, rfl, ha2⟩ := (PR_iff _ _ _).1 hp2
              obtain ⟨A2, cap2, rfl, -, -⟩ := ha2.form
              clear ha2
              have hC2 : Below W16.heap.size W16 C2 := hC1.trans (hb2.mono hC1.size)
              have HP2 := Lib.hid hp2
              have HFr2 := Lib.hid hfr2
              have HFs2 := Lib.hid hfs2
              clear hp2 hfr2 hfs2
              (try dsimp only)
              refine hK.out _ _ (HS.out _ hC2) (fun _ => trivial) ?_
              clear hK K
              (try simp only [Act.put, List.getElem_toArray, List.getElem_cons_zero, List.getElem_cons_succ, List.setIfInBounds_toArray, List.set_cons_zero, List.set_cons_succ])
              have hSx2 := HS.out _ hC2
              refine wpAnyB_take (i := 5) (v := ?_) rfl (by decide) (by kernel_rfl) (by kernel_rfl) (by kernel_rfl) (fun _ _ _ h => h) (Or.inl ⟨by rfl, ?hy5⟩) hSx2 (fun _ => hT0) ?_
              case hy5 => (intro W hSw; (try dsimp only at hSw); (try obtain ⟨hSw0, hSw1, hSw2, hSw3, hSw4⟩ := hSw); go_simp; try with_reducible rfl)
              (try simp only [Act.put, List.getElem_toArray, List.getElem_cons_zero, List.getElem_cons_succ, List.setIfInBounds_toArray, List.set_cons_zero, List.set_cons_succ])
              refine wpAnyB_take (i := 6) (v := ?_) rfl (by decide) (by kernel_rfl) (by kernel_rfl) (by kernel_rfl) (fun _ _ _ h => h) (Or.inl ⟨by rfl, ?hy6⟩) hSx2 (fun _ => hT0) ?_
              case hy6 => (intro W hSw; (try dsimp only at hSw); (try obtain ⟨hSw0, hSw1, hSw2, hSw3, hSw4⟩ := hSw); go_simp; try with_reducible rfl)
              (try simp only [Act.put, List.getElem_toArray, List.getElem_cons_zero, List.getElem_cons_succ, List.setIfInBounds_toArray, List.set_cons_zero, List.set_cons_succ])
              refine wpAnyB_take (i := 7) (v := ?_) rfl (by decide) (by kernel_rfl) (by kernel_rfl) (by kernel_rfl) (fun _ _ _ h => h) (Or.inl ⟨by rfl, ?hy7⟩) hSx2 (fun _ => hT0) ?_
              case hy7 => (intro W hSw; (try dsimp only at hSw); (try obtain ⟨hSw0, hSw1, hSw2, hSw3, hSw4⟩ := hSw); go_simp; try with_reducible rfl)
              (try simp only [Act.put, List.getElem_toArray, List.getElem_cons_zero, List.getElem_cons_succ, List.setIfInBounds_toArray, List.set_cons_zero, List.set_cons_succ])
              refine wpAnyB_ready (rs := [8]) (by kernel_rfl) (by simp) ?_
              refine AllReadyB.cons rfl (fun K hK => ?_) AllReadyB.nil
              go_simp
              obtain ⟨C3, hX⟩ : ∃ X, X = C2.alloc (.cells #[.int .i64 0, .int .i64 0, .int .i64 0, .int .i64 0, .int .i64 0, .slice none 0 0] 32) := ⟨_, rfl⟩
              have hb3 : Below C2.heap.size C2 C3 := by rw [hX]; exact (Below.refl _ _).alloc (Nat.le_refl _) _
              have cb3 : Hid (Blk C3 C2.heap.size 32 #[.int .i64 0, .int .i64 0, .int .i64 0, .int .i64 0, .int .i64 0, .slice none 0 0]) := by rw [hX]; exact Blk.new _ _ _
              rw [← hX]
              clear hX
              have hC3 : Below W16.heap.size W16 C3 := hC2.trans (hb3.mono hC2.size)
              have cp4 := Lib.hid ((PR.below HP2.out hb3 HFs2.out.under))
              have cf4 := Lib.hid (HFr2.out.kept (.of_below hb3 HFs2.out.under))
              have cs4 : Hid (Fresh C1 C3 F2) := fun b hb => ⟨(HFs2.out b hb).1, Nat.lt_of_lt_of_le (HFs2.out b hb).2 hb3.size⟩
              have HGE3 : Hid (W16.heap.size ≤ C2.heap.size) := hC2.size
              (try dsimp only)
              refine hK.out _ _ (HS.out _ hC3) (fun _ => trivial) ?_
              clear hK K
              (try simp only [Act.put, List.getElem_toArray, List.getElem_cons_zero, List.getElem_cons_succ, List.setIfInBounds_toArray, List.set_cons_zero, List.set_cons_succ])
              have y0 : C3.cell? ⟨C2.heap.size, 0, none⟩ = some (.int .i64 0) := (cb3.out.cell 0).trans (by simp)
              have f0 := cb3.out.frozen 0
              have y1 : C3.cell? ⟨C2.heap.size, 1, none⟩ = some (.int .i64 0) := (cb3.out.cell 1).trans (by simp)
              have f1 := cb3.out.frozen 1
              have y2 : C3.cell? ⟨C2.heap.size, 2, none⟩ = some (.int .i64 0) := (cb3.out.cell 2).trans (by simp)
              have f2 := cb3.out.frozen 2
              have y3 : C3.cell? ⟨C2.heap.size, 3, none⟩ = some (.int .i64 0) := (cb3.out.cell 3).trans (by simp)
              have f3 := cb3.out.frozen 3
              have y4 : C3.cell? ⟨C2.heap.size, 4, none⟩ = some (.int .i64 0) := (cb3.out.cell 4).trans (by simp)
              have f4 := cb3.out.frozen 4
              have y5 : C3.cell? ⟨C2.heap.size, 5, none⟩ = some (.slice none 0 0) := (cb3.out.cell 5).trans (by simp)
              have f5 := cb3.out.frozen 5
              have ylt := cb3.out.lt
              have hCe : Hid (Below W16.heap.size W16 ((((((C3.setCell ⟨C2.heap.size, 0, none⟩ (.int .i64 (r0).op)).setCell ⟨C2.heap.size, 1, none⟩ (.int .i64 (r0).ct)).setCell ⟨C2.heap.size, 2, none⟩ (.int .i64 (r0).n)).setCell ⟨C2.heap.size, 3, none⟩ (.int .i64 (r0).m)).setCell ⟨C2.heap.size, 4, none⟩ (.int .i64 (r0).va)).setCell ⟨C2.heap.size, 5, none⟩ (.slice A2 (r0).ks.length cap2))) := ((((((hC3.setCell HGE3.out _).setCell HGE3.out _).setCell HGE3.out _).setCell HGE3.out _).setCell HGE3.out _).setCell HGE3.out _)
              have cbe : Hid (Blk ((((((C3.setCell ⟨C2.heap.size, 0, none⟩ (.int .i64 (r0).op)).setCell ⟨C2.heap.size, 1, none⟩ (.int .i64 (r0).ct)).setCell ⟨C2.heap.size, 2, none⟩ (.int .i64 (r0).n)).setCell ⟨C2.heap.size, 3, none⟩ (.int .i64 (r0).m)).setCell ⟨C2.heap.size, 4, none⟩ (.int .i64 (r0).va)).setCell ⟨C2.heap.size, 5, none⟩ (.slice A2 (r0).ks.length cap2)) (C2.heap.size) 32 #[.int .i64 (r0).op, .int .i64 (r0).ct, .int .i64 (r0).n, .int .i64 (r0).m, .int .i64 (r0).va, .slice A2 (r0).ks.length cap2]) := ((((((cb3.out.set_ 0 _).set_ 1 _).set_ 2 _).set_ 3 _).set_ 4 _).set_ 5 _)
              have hgF : ∀ b ∈ F2, b ≠ C2.heap.size := fun b hb e => Nat.lt_irrefl _ (by have h1 := (HFs2.out b hb).2; rw [e] at h1; exact h1)
              have hkp : Kept F2 C3 ((((((C3.setCell ⟨C2.heap.size, 0, none⟩ (.int .i64 (r0).op)).setCell ⟨C2.heap.size, 1, none⟩ (.int .i64 (r0).ct)).setCell ⟨C2.heap.size, 2, none⟩ (.int .i64 (r0).n)).setCell ⟨C2.heap.size, 3, none⟩ (.int .i64 (r0).m)).setCell ⟨C2.heap.size, 4, none⟩ (.int .i64 (r0).va)).setCell ⟨C2.heap.size, 5, none⟩ (.slice A2 (r0).ks.length cap2)) := fun b hb => by rw [Below.heap_setCell _ _ _ _ (hgF b hb), Below.heap_setCell _ _ _ _ (hgF b hb), Below.heap_setCell _ _ _ _ (hgF b hb), Below.heap_setCell _ _ _ _ (hgF b hb), Below.heap_setCell _ _ _ _ (hgF b hb), Below.heap_setCell _ _ _ _ (hgF b hb)]
              have hpe : Hid (PR ((((((C3.setCell ⟨C2.heap.size, 0, none⟩ (.int .i64 (r0).op)).setCell ⟨C2.heap.size, 1, none⟩ (.int .i64 (r0).ct)).setCell ⟨C2.heap.size, 2, none⟩ (.int .i64 (r0).n)).setCell ⟨C2.heap.size, 3, none⟩ (.int .i64 (r0).m)).setCell ⟨C2.heap.size, 4, none⟩ (.int .i64 (r0).va)).setCell ⟨C2.heap.size, 5, none⟩ (.slice A2 (r0).ks.length cap2)) (r0) [.int .i64 (r0).op, .int .i64 (r0).ct, .int .i64 (r0).n, .int .i64 (r0).m, .int .i64 (r0).va, .slice A2 (r0).ks.length cap2] F2) := PR.mono _ _ _ hkp cp4.out
              have hfe : Hid (Free ((((((C3.setCell ⟨C2.heap.size, 0, none⟩ (.int .i64 (r0).op)).setCell ⟨C2.heap.size, 1, none⟩ (.int .i64 (r0).ct)).setCell ⟨C2.heap.size, 2, none⟩ (.int .i64 (r0).n)).setCell ⟨C2.heap.size, 3, none⟩ (.int .i64 (r0).m)).setCell ⟨C2.heap.size, 4, none⟩ (.int .i64 (r0).va)).setCell ⟨C2.heap.size, 5, none⟩ (.slice A2 (r0).ks.length cap2)) F2) := cf4.out.kept hkp
              have hse : Hid (Fresh W16 ((((((C3.setCell ⟨C2.heap.size, 0, none⟩ (.int .i64 (r0).op)).setCell ⟨C2.heap.size, 1, none⟩ (.int .i64 (r0).ct)).setCell ⟨C2.heap.size, 2, none⟩ (.int .i64 (r0).n)).setCell ⟨C2.heap.size, 3, none⟩ (.int .i64 (r0).m)).setCell ⟨C2.heap.size, 4, none⟩ (.int .i64 (r0).va)).setCell ⟨C2.heap.size, 5, none⟩ (.slice A2 (r0).ks.length cap2)) F2) := fun b hb => ⟨Nat.le_trans hC1.size (cs4.out b hb).1, by simpa [World.setCell] using (cs4.out b hb).2⟩
              have hge : Hid (C2.heap.size ∉ F2) := fun h => hgF _ h rfl
              clear hkp hgF
              refine wpAnyB_ready (rs := [9]) (by kernel_rfl) (by simp) ?_
              refine AllReadyB.cons rfl (fun K hK => ?_) AllReadyB.nil
              go_simp
              refine hK.out _ _ (HS.out _ hCe.out) (fun _ => trivial) ?_
              clear hK K
              (try simp only [Act.put, List.getElem_toArray, List.getElem_cons_zero, List.getElem_cons_succ, List.setIfInBounds_toArray, List.set_cons_zero, List.set_cons_succ])
              refine wpAnyB_ready (rs := [10]) (by kernel_rfl) (by simp) ?_
              refine AllReadyB.cons rfl (fun K hK => ?_) AllReadyB.nil
              go_simp
              refine hK.out _ _ (HS.out _ hCe.out) (fun _ => trivial) ?_
              clear hK K
              (try simp only [Act.put, List.getElem_toArray, List.getElem_cons_zero, List.getElem_cons_succ, List.setIfInBounds_toArray, List.set_cons_zero, List.set_cons_succ])
              refine wpAnyB_end (by kernel_rfl) ?_
              clear y0 f0 y1 f1 y2 f2 y3 f3 y4 f4 y5 f5 ylt
              go_wp2
              go_meet
              case rel => exact ⟨_, _, _, rfl, (by rw [← HResb.out]), hCe, cbe, HGE3, hge, hpe, hfe, hse⟩
            · skip
              go_simp
              obtain ⟨C6, hX⟩ : ∃ X, X = C1.alloc (.cells #[.int .i64 0, .int .i64 0, .int .i64 0, .int .i64 0, .int .i64 0, .slice none 0 0] 32) := ⟨_, rfl⟩
              have hb6 : Below C1.heap.size C1 C6 := by rw [hX]; exact (Below.refl _ _).alloc (Nat.le_refl _) _
              have cb6 : Hid (Blk C6 C1.heap.size 32 #[.int .i64 0, .int .i64 0, .int .i64 0, .int .i64 0, .int .i64 0, .slice none 0 0]) := by rw [hX]; exact Blk.new _ _ _
              rw [← hX]
              clear hX
              have hC6 : Below W16.heap.size W16 C6 := hC1.trans (hb6.mono hC1.size)
              have HGE6 : Hid (W16.heap.size ≤ C1.heap.size) := hC1.size
              (try dsimp only)
              refine hK.out _ _ (HS.out _ hC6) (fun _ => trivial) ?_
              clear hK K
              (try simp only [Act.put, List.getElem_toArray, List.getElem_cons_zero, List.getElem_cons_succ, List.setIfInBounds_toArray, List.set_cons_zero, List.set_cons_succ])
              refine wpAnyB_ready (rs := [4]) (by kernel_rfl) (by simp) ?_
              refine AllReadyB.cons rfl (fun K hK => ?_) AllReadyB.nil
              go_simp
              go_at_call 21
              refine (impl_PatternOf x0 x1 x2 _ _ G11 _ G14 (ArrDt.below X0.out hC6 Y0.out) (Y0.out.mono hC6.size) (X2.out.below hC6 Y2.out) (Y2.out.mono hC6.size) hs2).mono ?_
              rintro e C7 ⟨cs7, F7, rfl, hb7, hp7, hfr7, hfs7⟩
              rw [HRes.out] at hp7
              obtain ⟨kv7, rfl, ha7⟩ := (PR_iff _ _ _).1 hp7
              obtain ⟨A7, cap7, rfl, -, -⟩ := ha7.form
              clear ha7
              have hC7 : Below W16.heap.size W16 C7 := hC6.trans (hb7.mono hC6.size)
              have cb8 : Hid (Blk C7 C1.heap.size 32 #[.int .i64 0, .int .i64 0, .int .i64 0, .int .i64 0, .int .i64 0, .slice none 0 0]) := cb6.out.same (hb7.block _ cb6.out.lt)
              have HP7 := Lib.hid hp7
              have HFr7 := Lib.hid hfr7
              have HFs7 := Lib.hid hfs7
              clear hp7 hfr7 hfs7
              (try dsimp only)
              refine hK.out _ _ (HS.out _ hC7) (fun _ => trivial) ?_
              clear hK K
              (try simp only [Act.put, List.getElem_toArray, List.getElem_cons_zero, List.getElem_cons_succ, List.setIfInBounds_toArray, List.set_cons_zero, List.set_cons_succ])
              have hSx7 := HS.out _ hC7
              refine wpAnyB_take (i := 5) (v := ?_) rfl (by decide) (by kernel_rfl) (by kernel_rfl) (by kernel_rfl) (fun _ _ _ h => h) (Or.inl ⟨by rfl, ?hy5⟩) hSx7 (fun _ => hT0) ?_
              case hy5 => (intro W hSw; (try dsimp only at hSw); (try obtain ⟨hSw0, hSw1, hSw2, hSw3, hSw4⟩ := hSw); go_simp; try with_reducible rfl)
              (try simp only [Act.put, List.getElem_toArray, List.getElem_cons_zero, List.getElem_cons_succ, List.setIfInBounds_toArray, List.set_cons_zero, List.set_cons_succ])
              refine wpAnyB_take (i := 6) (v := ?_) rfl (by decide) (by kernel_rfl) (by kernel_rfl) (by kernel_rfl) (fun _ _ _ h => h) (Or.inl ⟨by rfl, ?hy6⟩) hSx7 (fun _ => hT0) ?_
              case hy6 => (intro W hSw; (try dsimp only at hSw); (try obtain ⟨hSw0, hSw1, hSw2, hSw3, hSw4⟩ := hSw); go_simp; try with_reducible rfl)
              (try simp only [Act.put, List.getElem_toArray, List.getElem_cons_zero, List.getElem_cons_succ, List.setIfInBounds_toArray, List.set_cons_zero, List.set_cons_succ])
              refine wpAnyB_take (i := 7) (v := ?_) rfl (by decide) (by kernel_rfl) (by kernel_rfl) (by kernel_rfl) (fun _ _ _ h => h) (Or.inl ⟨by rfl, ?hy7⟩) hSx7 (fun _ => hT0) ?_
              case hy7 => (intro W hSw; (try dsimp only at hSw); (try obtain ⟨hSw0, hSw1, hSw2, hSw3, hSw4⟩ := hSw); go_simp; try with_reducible rfl)
              (try simp only [Act.put, List.getElem_toArray, List.getElem_cons_zero, List.getElem_cons_succ, List.setIfInBounds_toArray, List.set_cons_zero, List.set_cons_succ])
              have y0 : C7.cell? ⟨C1.heap.size, 0, none⟩ = some (.int .i64 0) := (cb8.out.cell 0).trans (by simp)
              have f0 := cb8.out.frozen 0
              have y1 : C7.cell? ⟨C1.heap.size, 1, none⟩ = some (.int .i64 0) := (cb8.out.cell 1).trans (by simp)
              have f1 := cb8.out.frozen 1
              have y2 : C7.cell? ⟨C1.heap.size, 2, none⟩ = some (.int .i64 0) := (cb8.out.cell 2).trans (by simp)
              have f2 := cb8.out.frozen 2
              have y3 : C7.cell? ⟨C1.heap.size, 3, none⟩ = some (.int .i64 0) := (cb8.out.cell 3).trans (by simp)
              have f3 := cb8.out.frozen 3
              have y4 : C7.cell? ⟨C1.heap.size, 4, none⟩ = some (.int .i64 0) := (cb8.out.cell 4).trans (by simp)
              have f4 := cb8.out.frozen 4
              have y5 : C7.cell? ⟨C1.heap.size, 5, none⟩ = some (.slice none 0 0) := (cb8.out.cell 5).trans (by simp)
              have f5 := cb8.out.frozen 5
              have ylt := cb8.out.lt
              have hCe : Hid (Below W16.heap.size W16 ((((((C7.setCell ⟨C1.heap.size, 0, none⟩ (.int .i64 (r0).op)).setCell ⟨C1.heap.size, 1, none⟩ (.int .i64 (r0).ct)).setCell ⟨C1.heap.size, 2, none⟩ (.int .i64 (r0).n)).setCell ⟨C1.heap.size, 3, none⟩ (.int .i64 (r0).m)).setCell ⟨C1.heap.size, 4, none⟩ (.int .i64 (r0).va)).setCell ⟨C1.heap.size, 5, none⟩ (.slice A7 (r0).ks.length cap7))) := ((((((hC7.setCell HGE6.out _).setCell HGE6.out _).setCell HGE6.out _).setCell HGE6.out _).setCell HGE6.out _).setCell HGE6.out _)
              have cbe : Hid (Blk ((((((C7.setCell ⟨C1.heap.size, 0, none⟩ (.int .i64 (r0).op)).setCell ⟨C1.heap.size, 1, none⟩ (.int .i64 (r0).ct)).setCell ⟨C1.heap.size, 2, none⟩ (.int .i64 (r0).n)).setCell ⟨C1.heap.size, 3, none⟩ (.int .i64 (r0).m)).setCell ⟨C1.heap.size, 4, none⟩ (.int .i64 (r0).va)).setCell ⟨C1.heap.size, 5, none⟩ (.slice A7 (r0).ks.length cap7)) (C1.heap.size) 32 #[.int .i64 (r0).op, .int .i64 (r0).ct, .int .i64 (r0).n, .int .i64 (r0).m, .int .i64 (r0).va, .slice A7 (r0).ks.length cap7]) := ((((((cb8.out.set_ 0 _).set_ 1 _).set_ 2 _).set_ 3 _).set_ 4 _).set_ 5 _)
              have hgF : ∀ b ∈ F7, b ≠ C1.heap.size := fun b hb e => Nat.lt_irrefl _ (Nat.lt_of_lt_of_le (by rw [e]; exact cb6.out.lt) (HFs7.out b hb).1)
              have hkp : Kept F7 C7 ((((((C7.setCell ⟨C1.heap.size, 0, none⟩ (.int .i64 (r0).op)).setCell ⟨C1.heap.size, 1, none⟩ (.int .i64 (r0).ct)).setCell ⟨C1.heap.size, 2, none⟩ (.int .i64 (r0).n)).setCell ⟨C1.heap.size, 3, none⟩ (.int .i64 (r0).m)).setCell ⟨C1.heap.size, 4, none⟩ (.int .i64 (r0).va)).setCell ⟨C1.heap.size, 5, none⟩ (.slice A7 (r0).ks.length cap7)) := fun b hb => by rw [Below.heap_setCell _ _ _ _ (hgF b hb), Below.heap_setCell _ _ _ _ (hgF b hb), Below.heap_setCell _ _ _ _ (hgF b hb), Below.heap_setCell _ _ _ _ (hgF b hb), Below.heap_setCell _ _ _ _ (hgF b hb), Below.heap_setCell _ _ _ _ (hgF b hb)]
              have hpe : Hid (PR ((((((C7.setCell ⟨C1.heap.size, 0, none⟩ (.int .i64 (r0).op)).setCell ⟨C1.heap.size, 1, none⟩ (.int .i64 (r0).ct)).setCell ⟨C1.heap.size, 2, none⟩ (.int .i64 (r0).n)).setCell ⟨C1.heap.size, 3, none⟩ (.int .i64 (r0).m)).setCell ⟨C1.heap.size, 4, none⟩ (.int .i64 (r0).va)).setCell ⟨C1.heap.size, 5, none⟩ (.slice A7 (r0).ks.length cap7)) (r0) [.int .i64 (r0).op, .int .i64 (r0).ct, .int .i64 (r0).n, .int .i64 (r0).m, .int .i64 (r0).va, .slice A7 (r0).ks.length cap7] F7) := PR.mono _ _ _ hkp HP7.out
              have hfe : Hid (Free ((((((C7.setCell ⟨C1.heap.size, 0, none⟩ (.int .i64 (r0).op)).setCell ⟨C1.heap.size, 1, none⟩ (.int .i64 (r0).ct)).setCell ⟨C1.heap.size, 2, none⟩ (.int .i64 (r0).n)).setCell ⟨C1.heap.size, 3, none⟩ (.int .i64 (r0).m)).setCell ⟨C1.heap.size, 4, none⟩ (.int .i64 (r0).va)).setCell ⟨C1.heap.size, 5, none⟩ (.slice A7 (r0).ks.length cap7)) F7) := HFr7.out.kept hkp
              have hse : Hid (Fresh W16 ((((((C7.setCell ⟨C1.heap.size, 0, none⟩ (.int .i64 (r0).op)).setCell ⟨C1.heap.size, 1, none⟩ (.int .i64 (r0).ct)).setCell ⟨C1.heap.size, 2, none⟩ (.int .i64 (r0).n)).setCell ⟨C1.heap.size, 3, none⟩ (.int .i64 (r0).m)).setCell ⟨C1.heap.size, 4, none⟩ (.int .i64 (r0).va)).setCell ⟨C1.heap.size, 5, none⟩ (.slice A7 (r0).ks.length cap7)) F7) := fun b hb => ⟨Nat.le_trans hC6.size (HFs7.out b hb).1, by simpa [World.setCell] using (HFs7.out b hb).2⟩
              have hge : Hid (C1.heap.size ∉ F7) := fun h => hgF _ h rfl
              clear hkp hgF
              refine wpAnyB_ready (rs := [9]) (by kernel_rfl) (by simp) ?_
              refine AllReadyB.cons rfl (fun K hK => ?_) AllReadyB.nil
              go_simp
              refine hK.out _ _ (HS.out _ hCe.out) (fun _ => trivial) ?_
              clear hK K
              (try simp only [Act.put, List.getElem_toArray, List.getElem_cons_zero, List.getElem_cons_succ, List.setIfInBounds_toArray, List.set_cons_zero, List.set_cons_succ])
              refine wpAnyB_ready (rs := [10]) (by kernel_rfl) (by simp) ?_
              refine AllReadyB.cons rfl (fun K hK => ?_) AllReadyB.nil
              go_simp
              refine hK.out _ _ (HS.out _ hCe.out) (fun _ => trivial) ?_
              clear hK K
              (try simp only [Act.put, List.getElem_toArray, List.getElem_cons_zero, List.getElem_cons_succ, List.setIfInBounds_toArray, List.set_cons_zero, List.set_cons_succ])
              refine wpAnyB_end (by kernel_rfl) ?_
              clear y0 f0 y1 f1 y2 f2 y3 f3 y4 f4 y5 f5 ylt
              go_wp2
              go_meet
              case rel => exact ⟨_, _, _, rfl, (by rw [← HResb.out]), hCe, cbe, HGE6, hge, hpe, hfe, hse⟩
          · skip
            go_simp
            obtain ⟨C10, hX⟩ : ∃ X, X = wd.alloc (.cells #[.int .i64 0, .int .i64 0, .int .i64 0, .int .i64 0, .int .i64 0, .slice none 0 0] 32) := ⟨_, rfl⟩
            have hb10 : Below wd.heap.size wd C10 := by rw [hX]; exact (Below.refl _ _).alloc (Nat.le_refl _) _
            have cb10 : Hid (Blk C10 wd.heap.size 32 #[.int .i64 0, .int .i64 0, .int .i64 0, .int .i64 0, .int .i64 0, .slice none 0 0]) := by rw [hX]; exact Blk.new _ _ _
            rw [← hX]
            clear hX
            have hC10 : Below W16.heap.size W16 C10 := hC0.trans (hb10.mono hC0.size)
            have HGE10 : Hid (W16.heap.size ≤ wd.heap.size) := hC0.size
            (try dsimp only)
            refine hK.out _ _ (HS.out _ hC10) (fun _ => trivial) ?_
            clear hK K
            (try simp only [Act.put, List.getElem_toArray, List.getElem_cons_zero, List.getElem_cons_succ, List.setIfInBounds_toArray, List.set_cons_zero, List.set_cons_succ])
            refine wpAnyB_ready (rs := [2]) (by kernel_rfl) (by simp) ?_
            refine AllReadyB.cons rfl (fun K hK => ?_) AllReadyB.nil
            go_simp
            go_at_call 19
            refine (toType_any x1 _ _ [] (TyR.mk0 _ x1) (Under.nil _) (Ty.size_le x1)).mono ?_
            rintro e C11 ⟨dsc11, Gc11, rfl, hb11, ⟨rfl, rfl⟩, hfrc11, hfsc11⟩
            have hC11 : Below W16.heap.size W16 C11 := hC10.trans (hb11.mono hC10.size)
            have cb12 : Hid (Blk C11 wd.heap.size 32 #[.int .i64 0, .int .i64 0, .int .i64 0, .int .i64 0, .int .i64 0, .slice none 0 0]) := cb10.out.same (hb11.block _ cb10.out.lt)
            clear hfrc11 hfsc11
            (try dsimp only)
            refine hK.out _ _ (HS.out _ hC11) (fun _ => trivial) ?_
            clear hK K
            (try simp only [Act.put, List.getElem_toArray, List.getElem_cons_zero, List.getElem_cons_succ, List.setIfInBounds_toArray, List.set_cons_zero, List.set_cons_succ])
            refine wpAnyB_ready (rs := [4]) (by kernel_rfl) (by simp) ?_
            refine AllReadyB.cons rfl (fun K hK => ?_) AllReadyB.nil
            go_simp
            go_at_call 21
            refine (impl_PatternOf x0 x1 x2 _ _ G11 _ G14 (ArrDt.below X0.out hC11 Y0.out) (Y0.out.mono hC11.size) (X2.out.below hC11 Y2.out) (Y2.out.mono hC11.size) hs2).mono ?_
            rintro e C13 ⟨cs13, F13, rfl, hb13, hp13, hfr13, hfs13⟩
            rw [HRes.out] at hp13
            obtain ⟨kv13, rfl, ha13⟩ := (PR_iff _ _ _).1 hp13
            obtain ⟨A13, cap13, rfl, -, -⟩ := ha13.form
            clear ha13
            have hC13 : Below W16.heap.size W16 C13 := hC11.trans (hb13.mono hC11.size)
            have cb14 : Hid (Blk C13 wd.heap.size 32 #[.int .i64 0, .int .i64 0, .int .i64 0, .int .i64 0, .int .i64 0, .slice none 0 0]) := cb12.out.same (hb13.block _ cb12.out.lt)
            have HP13 := Lib.hid hp13
            have HFr13 := Lib.hid hfr13
            have HFs13 := Lib.hid hfs13
            clear hp13 hfr13 hfs13
            (try dsimp only)
            refine hK.out _ _ (HS.out _ hC13) (fun _ => trivial) ?_
            clear hK K
            (try simp only [Act.put, List.getElem_toArray, List.getElem_cons_zero, List.getElem_cons_succ, List.setIfInBounds_toArray, List.set_cons_zero, List.set_cons_succ])
            have hSx13 := HS.out _ hC13
            refine wpAnyB_take (i := 5) (v := ?_) rfl (by decide) (by kernel_rfl) (by kernel_rfl) (by kernel_rfl) (fun _ _ _ h => h) (Or.inl ⟨by rfl, ?hy5⟩) hSx13 (fun _ => hT0) ?_
            case hy5 => (intro W hSw; (try dsimp only at hSw); (try obtain ⟨hSw0, hSw1, hSw2, hSw3, hSw4⟩ := hSw); go_simp; try with_reducible rfl)
            (try simp only [Act.put, List.getElem_toArray, List.getElem_cons_zero, List.getElem_cons_succ, List.setIfInBounds_toArray, List.set_cons_zero, List.set_cons_succ])
            refine wpAnyB_take (i := 6) (v := ?_) rfl (by decide) (by kernel_rfl) (by kernel_rfl) (by kernel_rfl) (fun _ _ _ h => h) (Or.inl ⟨by rfl, ?hy6⟩) hSx13 (fun _ => hT0) ?_
            case hy6 => (intro W hSw; (try dsimp only at hSw); (try obtain ⟨hSw0, hSw1, hSw2, hSw3, hSw4⟩ := hSw); go_simp; try with_reducible rfl)
            (try simp only [Act.put, List.getElem_toArray, List.getElem_cons_zero, List.getElem_cons_succ, List.setIfInBounds_toArray, List.set_cons_zero, List.set_cons_succ])
            refine wpAnyB_take (i := 7) (v := ?_) rfl (by decide) (by kernel_rfl) (by kernel_rfl) (by kernel_rfl) (fun _ _ _ h => h) (Or.inl ⟨by rfl, ?hy7⟩) hSx13 (fun _ => hT0) ?_
            case hy7 => (intro W hSw; (try dsimp only at hSw); (try obtain ⟨hSw0, hSw1, hSw2, hSw3, hSw4⟩ := hSw); go_simp; try with_reducible rfl)
            (try simp only [Act.put, List.getElem_toArray, List.getElem_cons_zero, List.getElem_cons_succ, List.setIfInBounds_toArray, List.set_cons_zero, List.set_cons_succ])
            have y0 : C13.cell? ⟨wd.heap.size, 0, none⟩ = some (.int .i64 0) := (cb14.out.cell 0).trans (by simp)
            have f0 := cb14.out.frozen 0
            have y1 : C13.cell? ⟨wd.heap.size, 1, none⟩ = some (.int .i64 0) := (cb14.out.cell 1).trans (by simp)
            have f1 := cb14.out.frozen 1
            have y2 : C13.cell? ⟨wd.heap.size, 2, none⟩ = some (.int .i64 0) := (cb14.out.cell 2).trans (by simp)
            have f2 := cb14.out.frozen 2
            have y3 : C13.cell? ⟨wd.heap.size, 3, none⟩ = some (.int .i64 0) := (cb14.out.cell 3).trans (by simp)
            have f3 := cb14.out.frozen 3
            have y4 : C13.cell? ⟨wd.heap.size, 4, none⟩ = some (.int .i64 0) := (cb14.out.cell 4).trans (by simp)
            have f4 := cb14.out.frozen 4
            have y5 : C13.cell? ⟨wd.heap.size, 5, none⟩ = some (.slice none 0 0) := (cb14.out.cell 5).trans (by simp)
            have f5 := cb14.out.frozen 5
            have ylt := cb14.out.lt
            have hCe : Hid (Below W16.heap.size W16 ((((((C13.setCell ⟨wd.heap.size, 0, none⟩ (.int .i64 (r0).op)).setCell ⟨wd.heap.size, 1, none⟩ (.int .i64 (r0).ct)).setCell ⟨wd.heap.size, 2, none⟩ (.int .i64 (r0).n)).setCell ⟨wd.heap.size, 3, none⟩ (.int .i64 (r0).m)).setCell ⟨wd.heap.size, 4, none⟩ (.int .i64 (r0).va)).setCell ⟨wd.heap.size, 5, none⟩ (.slice A13 (r0).ks.length cap13))) := ((((((hC13.setCell HGE10.out _).setCell HGE10.out _).setCell HGE10.out _).setCell HGE10.out _).setCell HGE10.out _).setCell HGE10.out _)
            have cbe : Hid (Blk ((((((C13.setCell ⟨wd.heap.size, 0, none⟩ (.int .i64 (r0).op)).setCell ⟨wd.heap.size, 1, none⟩ (.int .i64 (r0).ct)).setCell ⟨wd.heap.size, 2, none⟩ (.int .i64 (r0).n)).setCell ⟨wd.heap.size, 3, none⟩ (.int .i64 (r0).m)).setCell ⟨wd.heap.size, 4, none⟩ (.int .i64 (r0).va)).setCell ⟨wd.heap.size, 5, none⟩ (.slice A13 (r0).ks.length cap13)) (wd.heap.size) 32 #[.int .i64 (r0).op, .int .i64 (r0).ct, .int .i64 (r0).n, .int .i64 (r0).m, .int .i64 (r0).va, .slice A13 (r0).ks.length cap13]) := ((((((cb14.out.set_ 0 _).set_ 1 _).set_ 2 _).set_ 3 _).set_ 4 _).set_ 5 _)
            have hgF : ∀ b ∈ F13, b ≠ wd.heap.size := fun b hb e => Nat.lt_irrefl _ (Nat.lt_of_lt_of_le (by rw [e]; exact cb12.out.lt) (HFs13.out b hb).1)
            have hkp : Kept F13 C13 ((((((C13.setCell ⟨wd.heap.size, 0, none⟩ (.int .i64 (r0).op)).setCell ⟨wd.heap.size, 1, none⟩ (.int .i64 (r0).ct)).setCell ⟨wd.heap.size, 2, none⟩ (.int .i64 (r0).n)).setCell ⟨wd.heap.size, 3, none⟩ (.int .i64 (r0).m)).setCell ⟨wd.heap.size, 4, none⟩ (.int .i64 (r0).va)).setCell ⟨wd.heap.size, 5, none⟩ (.slice A13 (r0).ks.length cap13)) := fun b hb => by rw [Below.heap_setCell _ _ _ _ (hgF b hb), Below.heap_setCell _ _ _ _ (hgF b hb), Below.heap_setCell _ _ _ _ (hgF b hb), Below.heap_setCell _ _ _ _ (hgF b hb), Below.heap_setCell _ _ _ _ (hgF b hb), Below.heap_setCell _ _ _ _ (hgF b hb)]
            have hpe : Hid (PR ((((((C13.setCell ⟨wd.heap.size, 0, none⟩ (.int .i64 (r0).op)).setCell ⟨wd.heap.size, 1, none⟩ (.int .i64 (r0).ct)).setCell ⟨wd.heap.size, 2, none⟩ (.int .i64 (r0).n)).setCell ⟨wd.heap.size, 3, none⟩ (.int .i64 (r0).m)).setCell ⟨wd.heap.size, 4, none⟩ (.int .i64 (r0).va)).setCell ⟨wd.heap.size, 5, none⟩ (.slice A13 (r0).ks.length cap13)) (r0) [.int .i64 (r0).op, .int .i64 (r0).ct, .int .i64 (r0).n, .int .i64 (r0).m, .int .i64 (r0).va, .slice A13 (r0).ks.length cap13] F13) := PR.mono _ _ _ hkp HP13.out
            have hfe : Hid (Free ((((((C13.setCell ⟨wd.heap.size, 0, none⟩ (.int .i64 (r0).op)).setCell ⟨wd.heap.size, 1, none⟩ (.int .i64 (r0).ct)).setCell ⟨wd.heap.size, 2, none⟩ (.int .i64 (r0).n)).setCell ⟨wd.heap.size, 3, none⟩ (.int .i64 (r0).m)).setCell ⟨wd.heap.size, 4, none⟩ (.int .i64 (r0).va)).setCell ⟨wd.heap.size, 5, none⟩ (.slice A13 (r0).ks.length cap13)) F13) := HFr13.out.kept hkp
            have hse : Hid (Fresh W16 ((((((C13.setCell ⟨wd.heap.size, 0, none⟩ (.int .i64 (r0).op)).setCell ⟨wd.heap.size, 1, none⟩ (.int .i64 (r0).ct)).setCell ⟨wd.heap.size, 2, none⟩ (.int .i64 (r0).n)).setCell ⟨wd.heap.size, 3, none⟩ (.int .i64 (r0).m)).setCell ⟨wd.heap.size, 4, none⟩ (.int .i64 (r0).va)).setCell ⟨wd.heap.size, 5, none⟩ (.slice A13 (r0).ks.length cap13)) F13) := fun b hb => ⟨Nat.le_trans hC11.size (HFs13.out b hb).1, by simpa [World.setCell] using (HFs13.out b hb).2⟩
            have hge : Hid (wd.heap.size ∉ F13) := fun h => hgF _ h rfl
            clear hkp hgF
            refine wpAnyB_ready (rs := [9]) (by kernel_rfl) (by simp) ?_
            refine AllReadyB.cons rfl (fun K hK => ?_) AllReadyB.nil
            go_simp
            refine hK.out _ _ (HS.out _ hCe.out) (fun _ => trivial) ?_
            clear hK K
            (try simp only [Act.put, List.getElem_toArray, List.getElem_cons_zero, List.getElem_cons_succ, List.setIfInBounds_toArray, List.set_cons_zero, List.set_cons_succ])
            refine wpAnyB_ready (rs := [10]) (by kernel_rfl) (by simp) ?_
            refine AllReadyB.cons rfl (fun K hK => ?_) AllReadyB.nil
            go_simp
            refine hK.out _ _ (HS.out _ hCe.out) (fun _ => trivial) ?_
            clear hK K
            (try simp only [Act.put, List.getElem_toArray, List.getElem_cons_zero, List.getElem_cons_succ, List.setIfInBounds_toArray, List.set_cons_zero, List.set_cons_succ])
            refine wpAnyB_end (by kernel_rfl) ?_
            clear y0 f0 y1 f1 y2 f2 y3 f3 y4 f4 y5 f5 ylt
            go_wp2
            go_meet
            case rel => exact ⟨_, _, _, rfl, (by rw [← HResb.out]), hCe, cbe, HGE10, hge, hpe, hfe, hse⟩
        case rest =>
          obtain ⟨rg_g0, cs_g0, F_g0, rfl, rfl, HBt_g0, RB_g0, RGE_g0, RGF_g0, HP_g0, HFR_g0, HFS_g0⟩ := hcut
          obtain ⟨kv_g0, rfl, ha_g0⟩ := (PR_iff _ _ _).1 HP_g0.out
          obtain ⟨A_g0, cap_g0, rfl, -, -⟩ := ha_g0.form
          clear ha_g0
          obtain ⟨W19, hW⟩ : ∃ X, X = wc := ⟨_, rfl⟩
          rw [← hW] at HBt_g0 RB_g0 HP_g0 HFR_g0 HFS_g0 ⊢
          clear hW
          have hfz_g0 := HFS_g0.out
          have dj_w0_g0 := Lib.hid (fun b (hb : b ∈ F_w0) (hj : b ∈ F_g0) => Nat.lt_irrefl _ (Nat.lt_of_lt_of_le (SU18_w0.out b hb) (hfz_g0 b hj).1))
          have dj_g0_w0 := Lib.hid (fun b (hj : b ∈ F_g0) (hb : b ∈ F_w0) => Nat.lt_irrefl _ (Nat.lt_of_lt_of_le (SU18_w0.out b hb) (hfz_g0 b hj).1))
          have dj_x0_g0 := Lib.hid (fun b (hb : b ∈ G11) (hj : b ∈ F_g0) => Nat.lt_irrefl _ (Nat.lt_of_lt_of_le (SU18_x0.out b hb) (hfz_g0 b hj).1))
          have dj_g0_x0 := Lib.hid (fun b (hj : b ∈ F_g0) (hb : b ∈ G11) => Nat.lt_irrefl _ (Nat.lt_of_lt_of_le (SU18_x0.out b hb) (hfz_g0 b hj).1))
          have dj_x2_g0 := Lib.hid (fun b (hb : b ∈ G14) (hj : b ∈ F_g0) => Nat.lt_irrefl _ (Nat.lt_of_lt_of_le (SU18_x2.out b hb) (hfz_g0 b hj).1))
          have dj_g0_x2 := Lib.hid (fun b (hj : b ∈ F_g0) (hb : b ∈ G14) => Nat.lt_irrefl _ (Nat.lt_of_lt_of_le (SU18_x2.out b hb) (hfz_g0 b hj).1))
          have nb_bx1_g0 := Lib.hid (fun (hj : _ ∈ F_g0) => Nat.lt_irrefl _ (Nat.lt_of_lt_of_le SB18_bx1.out (hfz_g0 _ hj).1))
          have nb_bx2_g0 := Lib.hid (fun (hj : _ ∈ F_g0) => Nat.lt_irrefl _ (Nat.lt_of_lt_of_le SB18_bx2.out (hfz_g0 _ hj).1))
          have nb_rb_w0_g0 := Lib.hid (fun (hj : _ ∈ F_g0) => Nat.lt_irrefl _ (Nat.lt_of_lt_of_le SB18_rb_w0.out (hfz_g0 _ hj).1))
          have nb_xb2_g0 := Lib.hid (fun (hj : _ ∈ F_g0) => Nat.lt_irrefl _ (Nat.lt_of_lt_of_le SB18_xb2.out (hfz_g0 _ hj).1))
          have LB_g0 := Lib.hid (fun b (hj : b ∈ F_g0) => Nat.le_trans hB17.size (hfz_g0 b hj).1)
          have X_g0 := HP_g0
          have Y_g0 := Lib.hid hfz_g0.under
          have Z_g0 := HFR_g0
          clear HP_g0 HFR_g0 HFS_g0 hfz_g0
          have nb_rb_g0_w0 := Lib.hid (fun (hj : rg_g0 ∈ F_w0) => Nat.lt_irrefl _ (Nat.lt_of_lt_of_le (Y_w0.out _ hj) RGE_g0.out))
          have nb_rb_g0_x0 := Lib.hid (fun (hj : rg_g0 ∈ G11) => Nat.lt_irrefl _ (Nat.lt_of_lt_of_le (Y0.out _ hj) RGE_g0.out))
          have nb_rb_g0_x2 := Lib.hid (fun (hj : rg_g0 ∈ G14) => Nat.lt_irrefl _ (Nat.lt_of_lt_of_le (Y2.out _ hj) RGE_g0.out))
          have nb_rb_g0_g0 := RGF_g0
          have hbt19 := HBt_g0.out
          have rb_g0 := RB_g0
          clear HBt_g0 RB_g0 RGE_g0 RGF_g0
          have hB20 := hB17.trans (hbt19.mono hB17.size)
          have bx1n : Hid (Blk W19 (w.heap.size) 24 #[.int .i64 x1.d, .int .i64 x1.i]) := bx1.out.same (hbt19.block _ bx1.out.lt)
          clear bx1
          have bx1 := bx1n
          clear bx1n
          have bx2n : Hid (Blk W19 (w.heap.size + 1) 27 #[.int .i64 x2.c, .int .i64 x2.n, .slice A2 x2.ks.length cap2]) := bx2.out.same (hbt19.block _ bx2.out.lt)
          clear bx2
          have bx2 := bx2n
          clear bx2n
          have rb_w0n : Hid (Blk W19 (rg_w0) 32 #[.int .i64 r0.op, .int .i64 r0.ct, .int .i64 r0.n, .int .i64 r0.m, .int .i64 r0.va, .slice A_w0 r0.ks.length cap_w0]) := rb_w0.out.same (hbt19.block _ rb_w0.out.lt)
          clear rb_w0
          have rb_w0 := rb_w0n
          clear rb_w0n
          have xb2n : Hid (Blk W19 (W14.heap.size) 41 #[.int .i64 x2.c, .int .i64 x2.n, .slice B2 x2.ks.length bap2]) := xb2.out.same (hbt19.block _ xb2.out.lt)
          clear xb2
          have xb2 := xb2n
          clear xb2n
          have KP := Lib.hid (show Kept F_w0 W16 W19 from (Kept.of_below (w := W16) hbt19 Y_w0.out))
          have X_w0n := Lib.hid (PR.mono _ _ _ KP.out X_w0.out)
          have Y_w0n := Lib.hid (Y_w0.out.mono hbt19.size)
          have Z_w0n := Lib.hid (Z_w0.out.kept KP.out)
          clear X_w0 Y_w0 KP Z_w0
          have X_w0 := X_w0n
          have Y_w0 := Y_w0n
          have Z_w0 := Z_w0n
          clear X_w0n Y_w0n Z_w0n
          have KP := Lib.hid (show Kept G11 W16 W19 from (Kept.of_below (w := W16) hbt19 Y0.out))
          have X0n := Lib.hid (ArrDt.mono X0.out KP.out)
          have Y0n := Lib.hid (Y0.out.mono hbt19.size)
          have Z_x0n := Lib.hid (Z_x0.out.kept KP.out)
          clear X0 Y0 KP Z_x0
          have X0 := X0n
          have Y0 := Y0n
          have Z_x0 := Z_x0n
          clear X0n Y0n Z_x0n
          have KP := Lib.hid (show Kept G14 W16 W19 from (Kept.of_below (w := W16) hbt19 Y2.out))
          have X2n := Lib.hid (VR.mono _ _ _ KP.out X2.out)
          have Y2n := Lib.hid (Y2.out.mono hbt19.size)
          have Z_x2n := Lib.hid (Z_x2.out.kept KP.out)
          clear X2 Y2 KP Z_x2
          have X2 := X2n
          have Y2 := Y2n
          have Z_x2 := Z_x2n
          clear X2n Y2n Z_x2n
          have rb_g0n : Hid (Blk W19 rg_g0 32 #[.int .i64 (r0).op, .int .i64 (r0).ct, .int .i64 (r0).n, .int .i64 (r0).m, .int .i64 (r0).va, .slice A_g0 (r0).ks.length cap_g0]) := rb_g0
          clear rb_g0
          have rb_g0 := rb_g0n
          clear rb_g0n
          have hneb : (rb != rb) = false := by simp
          have bx1c0 : W19.cell? ⟨w.heap.size, 0, none⟩ = some (.int .i64 x1.d) := (bx1.out.cell 0).trans (by simp)
          have bx1c1 : W19.cell? ⟨w.heap.size, 1, none⟩ = some (.int .i64 x1.i) := (bx1.out.cell 1).trans (by simp)
          have bx1lt : w.heap.size < W19.heap.size := bx1.out.lt
          have bx2c0 : W19.cell? ⟨w.heap.size + 1, 0, none⟩ = some (.int .i64 x2.c) := (bx2.out.cell 0).trans (by simp)
          have bx2c1 : W19.cell? ⟨w.heap.size + 1, 1, none⟩ = some (.int .i64 x2.n) := (bx2.out.cell 1).trans (by simp)
          have bx2c2 : W19.cell? ⟨w.heap.size + 1, 2, none⟩ = some (.slice A2 x2.ks.length cap2) := (bx2.out.cell 2).trans (by simp)
          have bx2lt : w.heap.size + 1 < W19.heap.size := bx2.out.lt
          have rb_w0c0 : W19.cell? ⟨rg_w0, 0, none⟩ = some (.int .i64 r0.op) := (rb_w0.out.cell 0).trans (by simp)
          have rb_w0c1 : W19.cell? ⟨rg_w0, 1, none⟩ = some (.int .i64 r0.ct) := (rb_w0.out.cell 1).trans (by simp)
          have rb_w0c2 : W19.cell? ⟨rg_w0, 2, none⟩ = some (.int .i64 r0.n) := (rb_w0.out.cell 2).trans (by simp)
          have rb_w0c3 : W19.cell? ⟨rg_w0, 3, none⟩ = some (.int .i64 r0.m) := (rb_w0.out.cell 3).trans (by simp)
          have rb_w0c4 : W19.cell? ⟨rg_w0, 4, none⟩ = some (.int .i64 r0.va) := (rb_w0.out.cell 4).trans (by simp)
          have rb_w0c5 : W19.cell? ⟨rg_w0, 5, none⟩ = some (.slice A_w0 r0.ks.length cap_w0) := (rb_w0.out.cell 5).trans (by simp)
          have rb_w0lt : rg_w0 < W19.heap.size := rb_w0.out.lt
          have xb2c0 : W19.cell? ⟨W14.heap.size, 0, none⟩ = some (.int .i64 x2.c) := (xb2.out.cell 0).trans (by simp)
          have xb2c1 : W19.cell? ⟨W14.heap.size, 1, none⟩ = some (.int .i64 x2.n) := (xb2.out.cell 1).trans (by simp)
          have xb2c2 : W19.cell? ⟨W14.heap.size, 2, none⟩ = some (.slice B2 x2.ks.length bap2) := (xb2.out.cell 2).trans (by simp)
          have xb2lt : W14.heap.size < W19.heap.size := xb2.out.lt
          have rb_g0c0 : W19.cell? ⟨rg_g0, 0, none⟩ = some (.int .i64 r0.op) := (rb_g0.out.cell 0).trans (by simp)
          have rb_g0c1 : W19.cell? ⟨rg_g0, 1, none⟩ = some (.int .i64 r0.ct) := (rb_g0.out.cell 1).trans (by simp)
          have rb_g0c2 : W19.cell? ⟨rg_g0, 2, none⟩ = some (.int .i64 r0.n) := (rb_g0.out.cell 2).trans (by simp)
          have rb_g0c3 : W19.cell? ⟨rg_g0, 3, none⟩ = some (.int .i64 r0.m) := (rb_g0.out.cell 3).trans (by simp)
          have rb_g0c4 : W19.cell? ⟨rg_g0, 4, none⟩ = some (.int .i64 r0.va) := (rb_g0.out.cell 4).trans (by simp)
          have rb_g0c5 : W19.cell? ⟨rg_g0, 5, none⟩ = some (.slice A_g0 r0.ks.length cap_g0) := (rb_g0.out.cell 5).trans (by simp)
          have rb_g0lt : rg_g0 < W19.heap.size := rb_g0.out.lt
          go_wp2_with fail
          clear bx1c0 bx1c1 bx2c0 bx2c1 bx2c2 rb_w0c0 rb_w0c1 rb_w0c2 rb_w0c3 rb_w0c4 rb_w0c5 xb2c0 xb2c1 xb2c2 rb_g0c0 rb_g0c1 rb_g0c2 rb_g0c3 rb_g0c4 rb_g0c5 bx1lt bx2lt rb_w0lt xb2lt rb_g0lt
          refine (eqPattern_any r0 W19 _ _ F_g0 F_w0 X_g0.out X_w0.out Y_g0.out Y_w0.out).mono ?_
          rintro e W21 ⟨rfl, hb21⟩
          have hB22 := hB20.trans (hb21.mono hB20.size)
          have bx1n : Hid (Blk W21 (w.heap.size) 24 #[.int .i64 x1.d, .int .i64 x1.i]) := bx1.out.same (hb21.block _ bx1.out.lt)
          clear bx1
          have bx1 := bx1n
          clear bx1n
          have bx2n : Hid (Blk W21 (w.heap.size + 1) 27 #[.int .i64 x2.c, .int .i64 x2.n, .slice A2 x2.ks.length cap2]) := bx2.out.same (hb21.block _ bx2.out.lt)
          clear bx2
          have bx2 := bx2n
          clear bx2n
          have rb_w0n : Hid (Blk W21 (rg_w0) 32 #[.int .i64 r0.op, .int .i64 r0.ct, .int .i64 r0.n, .int .i64 r0.m, .int .i64 r0.va, .slice A_w0 r0.ks.length cap_w0]) := rb_w0.out.same (hb21.block _ rb_w0.out.lt)
          clear rb_w0
          have rb_w0 := rb_w0n
          clear rb_w0n
          have xb2n : Hid (Blk W21 (W14.heap.size) 41 #[.int .i64 x2.c, .int .i64 x2.n, .slice B2 x2.ks.length bap2]) := xb2.out.same (hb21.block _ xb2.out.lt)
          clear xb2
          have xb2 := xb2n
          clear xb2n
          have rb_g0n : Hid (Blk W21 (rg_g0) 32 #[.int .i64 r0.op, .int .i64 r0.ct, .int .i64 r0.n, .int .i64 r0.m, .int .i64 r0.va, .slice A_g0 r0.ks.length cap_g0]) := rb_g0.out.same (hb21.block _ rb_g0.out.lt)
          clear rb_g0
          have rb_g0 := rb_g0n
          clear rb_g0n
          have KP := Lib.hid (show Kept F_w0 W19 W21 from (Kept.of_below (w := W19) hb21 Y_w0.out))
          have X_w0n := Lib.hid (PR.mono _ _ _ KP.out X_w0.out)
          have Y_w0n := Lib.hid (Y_w0.out.mono hb21.size)
          have Z_w0n := Lib.hid (Z_w0.out.kept KP.out)
          clear X_w0 Y_w0 KP Z_w0
          have X_w0 := X_w0n
          have Y_w0 := Y_w0n
          have Z_w0 := Z_w0n
          clear X_w0n Y_w0n Z_w0n
          have KP := Lib.hid (show Kept G11 W19 W21 from (Kept.of_below (w := W19) hb21 Y0.out))
          have X0n := Lib.hid (ArrDt.mono X0.out KP.out)
          have Y0n := Lib.hid (Y0.out.mono hb21.size)
          have Z_x0n := Lib.hid (Z_x0.out.kept KP.out)
          clear X0 Y0 KP Z_x0
          have X0 := X0n
          have Y0 := Y0n
          have Z_x0 := Z_x0n
          clear X0n Y0n Z_x0n
          have KP := Lib.hid (show Kept G14 W19 W21 from (Kept.of_below (w := W19) hb21 Y2.out))
          have X2n := Lib.hid (VR.mono _ _ _ KP.out X2.out)
          have Y2n := Lib.hid (Y2.out.mono hb21.size)
          have Z_x2n := Lib.hid (Z_x2.out.kept KP.out)
          clear X2 Y2 KP Z_x2
          have X2 := X2n
          have Y2 := Y2n
          have Z_x2 := Z_x2n
          clear X2n Y2n Z_x2n
          have KP := Lib.hid (show Kept F_g0 W19 W21 from (Kept.of_below (w := W19) hb21 Y_g0.out))
          have X_g0n := Lib.hid (PR.mono _ _ _ KP.out X_g0.out)
          have Y_g0n := Lib.hid (Y_g0.out.mono hb21.size)
          have Z_g0n := Lib.hid (Z_g0.out.kept KP.out)
          clear X_g0 Y_g0 KP Z_g0
          have X_g0 := X_g0n
          have Y_g0 := Y_g0n
          have Z_g0 := Z_g0n
          clear X_g0n Y_g0n Z_g0n
          have bx1c0 : W21.cell? ⟨w.heap.size, 0, none⟩ = some (.int .i64 x1.d) := (bx1.out.cell 0).trans (by simp)
          have bx1c1 : W21.cell? ⟨w.heap.size, 1, none⟩ = some (.int .i64 x1.i) := (bx1.out.cell 1).trans (by simp)
          have bx1lt : w.heap.size < W21.heap.size := bx1.out.lt
          have bx2c0 : W21.cell? ⟨w.heap.size + 1, 0, none⟩ = some (.int .i64 x2.c) := (bx2.out.cell 0).trans (by simp)
          have bx2c1 : W21.cell? ⟨w.heap.size + 1, 1, none⟩ = some (.int .i64 x2.n) := (bx2.out.cell 1).trans (by simp)
          have bx2c2 : W21.cell? ⟨w.heap.size + 1, 2, none⟩ = some (.slice A2 x2.ks.length cap2) := (bx2.out.cell 2).trans (by simp)
          have bx2lt : w.heap.size + 1 < W21.heap.size := bx2.out.lt
          have rb_w0c0 : W21.cell? ⟨rg_w0, 0, none⟩ = some (.int .i64 r0.op) := (rb_w0.out.cell 0).trans (by simp)
          have rb_w0c1 : W21.cell? ⟨rg_w0, 1, none⟩ = some (.int .i64 r0.ct) := (rb_w0.out.cell 1).trans (by simp)
          have rb_w0c2 : W21.cell? ⟨rg_w0, 2, none⟩ = some (.int .i64 r0.n) := (rb_w0.out.cell 2).trans (by simp)
          have rb_w0c3 : W21.cell? ⟨rg_w0, 3, none⟩ = some (.int .i64 r0.m) := (rb_w0.out.cell 3).trans (by simp)
          have rb_w0c4 : W21.cell? ⟨rg_w0, 4, none⟩ = some (.int .i64 r0.va) := (rb_w0.out.cell 4).trans (by simp)
          have rb_w0c5 : W21.cell? ⟨rg_w0, 5, none⟩ = some (.slice A_w0 r0.ks.length cap_w0) := (rb_w0.out.cell 5).trans (by simp)
          have rb_w0lt : rg_w0 < W21.heap.size := rb_w0.out.lt
          have xb2c0 : W21.cell? ⟨W14.heap.size, 0, none⟩ = some (.int .i64 x2.c) := (xb2.out.cell 0).trans (by simp)
          have xb2c1 : W21.cell? ⟨W14.heap.size, 1, none⟩ = some (.int .i64 x2.n) := (xb2.out.cell 1).trans (by simp)
          have xb2c2 : W21.cell? ⟨W14.heap.size, 2, none⟩ = some (.slice B2 x2.ks.length bap2) := (xb2.out.cell 2).trans (by simp)
          have xb2lt : W14.heap.size < W21.heap.size := xb2.out.lt
          have rb_g0c0 : W21.cell? ⟨rg_g0, 0, none⟩ = some (.int .i64 r0.op) := (rb_g0.out.cell 0).trans (by simp)
          have rb_g0c1 : W21.cell? ⟨rg_g0, 1, none⟩ = some (.int .i64 r0.ct) := (rb_g0.out.cell 1).trans (by simp)
          have rb_g0c2 : W21.cell? ⟨rg_g0, 2, none⟩ = some (.int .i64 r0.n) := (rb_g0.out.cell 2).trans (by simp)
          have rb_g0c3 : W21.cell? ⟨rg_g0, 3, none⟩ = some (.int .i64 r0.m) := (rb_g0.out.cell 3).trans (by simp)
          have rb_g0c4 : W21.cell? ⟨rg_g0, 4, none⟩ = some (.int .i64 r0.va) := (rb_g0.out.cell 4).trans (by simp)
          have rb_g0c5 : W21.cell? ⟨rg_g0, 5, none⟩ = some (.slice A_g0 r0.ks.length cap_g0) := (rb_g0.out.cell 5).trans (by simp)
          have rb_g0lt : rg_g0 < W21.heap.size := rb_g0.out.lt
          go_wp2_with fail
          clear bx1c0 bx1c1 bx2c0 bx2c1 bx2c2 rb_w0c0 rb_w0c1 rb_w0c2 rb_w0c3 rb_w0c4 rb_w0c5 xb2c0 xb2c1 xb2c2 rb_g0c0 rb_g0c1 rb_g0c2 rb_g0c3 rb_g0c4 rb_g0c5 bx1lt bx2lt rb_w0lt xb2lt rb_g0lt
          refine (toDataS_any x0 W21 F0 _ (ArrDt.below HR0.out hB22 HU0.out) (HU0.out.mono hB22.size) hs0).mono ?_
          rintro e W23 ⟨y23, G23, rfl, hb23, hv23, hfr23, hfs23⟩
          have hB25 := hB22.trans (hb23.mono hB22.size)
          have bx1n : Hid (Blk W23 (w.heap.size) 24 #[.int .i64 x1.d, .int .i64 x1.i]) := bx1.out.same (hb23.block _ bx1.out.lt)
          clear bx1
          have bx1 := bx1n
          clear bx1n
          have bx2n : Hid (Blk W23 (w.heap.size + 1) 27 #[.int .i64 x2.c, .int .i64 x2.n, .slice A2 x2.ks.length cap2]) := bx2.out.same (hb23.block _ bx2.out.lt)
          clear bx2
          have bx2 := bx2n
          clear bx2n
          have rb_w0n : Hid (Blk W23 (rg_w0) 32 #[.int .i64 r0.op, .int .i64 r0.ct, .int .i64 r0.n, .int .i64 r0.m, .int .i64 r0.va, .slice A_w0 r0.ks.length cap_w0]) := rb_w0.out.same (hb23.block _ rb_w0.out.lt)
          clear rb_w0
          have rb_w0 := rb_w0n
          clear rb_w0n
          have xb2n : Hid (Blk W23 (W14.heap.size) 41 #[.int .i64 x2.c, .int .i64 x2.n, .slice B2 x2.ks.length bap2]) := xb2.out.same (hb23.block _ xb2.out.lt)
          clear xb2
          have xb2 := xb2n
          clear xb2n
          have rb_g0n : Hid (Blk W23 (rg_g0) 32 #[.int .i64 r0.op, .int .i64 r0.ct, .int .i64 r0.n, .int .i64 r0.m, .int .i64 r0.va, .slice A_g0 r0.ks.length cap_g0]) := rb_g0.out.same (hb23.block _ rb_g0.out.lt)
          clear rb_g0
          have rb_g0 := rb_g0n
          clear rb_g0n
          have KP := Lib.hid (show Kept F_w0 W21 W23 from (Kept.of_below (w := W21) hb23 Y_w0.out))
          have X_w0n := Lib.hid (PR.mono _ _ _ KP.out X_w0.out)
          have Y_w0n := Lib.hid (Y_w0.out.mono hb23.size)
          have Z_w0n := Lib.hid (Z_w0.out.kept KP.out)
          clear X_w0 Y_w0 KP Z_w0
          have X_w0 := X_w0n
          have Y_w0 := Y_w0n
          have Z_w0 := Z_w0n
          clear X_w0n Y_w0n Z_w0n
          have KP := Lib.hid (show Kept G11 W21 W23 from (Kept.of_below (w := W21) hb23 Y0.out))
          have X0n := Lib.hid (ArrDt.mono X0.out KP.out)
          have Y0n := Lib.hid (Y0.out.mono hb23.size)
          have Z_x0n := Lib.hid (Z_x0.out.kept KP.out)
          clear X0 Y0 KP Z_x0
          have X0 := X0n
          have Y0 := Y0n
          have Z_x0 := Z_x0n
          clear X0n Y0n Z_x0n
          have KP := Lib.hid (show Kept G14 W21 W23 from (Kept.of_below (w := W21) hb23 Y2.out))
          have X2n := Lib.hid (VR.mono _ _ _ KP.out X2.out)
          have Y2n := Lib.hid (Y2.out.mono hb23.size)
          have Z_x2n := Lib.hid (Z_x2.out.kept KP.out)
          clear X2 Y2 KP Z_x2
          have X2 := X2n
          have Y2 := Y2n
          have Z_x2 := Z_x2n
          clear X2n Y2n Z_x2n
          have KP := Lib.hid (show Kept F_g0 W21 W23 from (Kept.of_below (w := W21) hb23 Y_g0.out))
          have X_g0n := Lib.hid (PR.mono _ _ _ KP.out X_g0.out)
          have Y_g0n := Lib.hid (Y_g0.out.mono hb23.size)
          have Z_g0n := Lib.hid (Z_g0.out.kept KP.out)
          clear X_g0 Y_g0 KP Z_g0
          have X_g0 := X_g0n
          have Y_g0 := Y_g0n
          have Z_g0 := Z_g0n
          clear X_g0n Y_g0n Z_g0n
          have bx1c0 : W23.cell? ⟨w.heap.size, 0, none⟩ = some (.int .i64 x1.d) := (bx1.out.cell 0).trans (by simp)
          have bx1c1 : W23.cell? ⟨w.heap.size, 1, none⟩ = some (.int .i64 x1.i) := (bx1.out.cell 1).trans (by simp)
          have bx1lt : w.heap.size < W23.heap.size := bx1.out.lt
          have bx2c0 : W23.cell? ⟨w.heap.size + 1, 0, none⟩ = some (.int .i64 x2.c) := (bx2.out.cell 0).trans (by simp)
          have bx2c1 : W23.cell? ⟨w.heap.size + 1, 1, none⟩ = some (.int .i64 x2.n) := (bx2.out.cell 1).trans (by simp)
          have bx2c2 : W23.cell? ⟨w.heap.size + 1, 2, none⟩ = some (.slice A2 x2.ks.length cap2) := (bx2.out.cell 2).trans (by simp)
          have bx2lt : w.heap.size + 1 < W23.heap.size := bx2.out.lt
          have rb_w0c0 : W23.cell? ⟨rg_w0, 0, none⟩ = some (.int .i64 r0.op) := (rb_w0.out.cell 0).trans (by simp)
          have rb_w0c1 : W23.cell? ⟨rg_w0, 1, none⟩ = some (.int .i64 r0.ct) := (rb_w0.out.cell 1).trans (by simp)
          have rb_w0c2 : W23.cell? ⟨rg_w0, 2, none⟩ = some (.int .i64 r0.n) := (rb_w0.out.cell 2).trans (by simp)
          have rb_w0c3 : W23.cell? ⟨rg_w0, 3, none⟩ = some (.int .i64 r0.m) := (rb_w0.out.cell 3).trans (by simp)
          have rb_w0c4 : W23.cell? ⟨rg_w0, 4, none⟩ = some (.int .i64 r0.va) := (rb_w0.out.cell 4).trans (by simp)
          have rb_w0c5 : W23.cell? ⟨rg_w0, 5, none⟩ = some (.slice A_w0 r0.ks.length cap_w0) := (rb_w0.out.cell 5).trans (by simp)
          have rb_w0lt : rg_w0 < W23.heap.size := rb_w0.out.lt
          have xb2c0 : W23.cell? ⟨W14.heap.size, 0, none⟩ = some (.int .i64 x2.c) := (xb2.out.cell 0).trans (by simp)
          have xb2c1 : W23.cell? ⟨W14.heap.size, 1, none⟩ = some (.int .i64 x2.n) := (xb2.out.cell 1).trans (by simp)
          have xb2c2 : W23.cell? ⟨W14.heap.size, 2, none⟩ = some (.slice B2 x2.ks.length bap2) := (xb2.out.cell 2).trans (by simp)
          have xb2lt : W14.heap.size < W23.heap.size := xb2.out.lt
          have rb_g0c0 : W23.cell? ⟨rg_g0, 0, none⟩ = some (.int .i64 r0.op) := (rb_g0.out.cell 0).trans (by simp)
          have rb_g0c1 : W23.cell? ⟨rg_g0, 1, none⟩ = some (.int .i64 r0.ct) := (rb_g0.out.cell 1).trans (by simp)
          have rb_g0c2 : W23.cell? ⟨rg_g0, 2, none⟩ = some (.int .i64 r0.n) := (rb_g0.out.cell 2).trans (by simp)
          have rb_g0c3 : W23.cell? ⟨rg_g0, 3, none⟩ = some (.int .i64 r0.m) := (rb_g0.out.cell 3).trans (by simp)
          have rb_g0c4 : W23.cell? ⟨rg_g0, 4, none⟩ = some (.int .i64 r0.va) := (rb_g0.out.cell 4).trans (by simp)
          have rb_g0c5 : W23.cell? ⟨rg_g0, 5, none⟩ = some (.slice A_g0 r0.ks.length cap_g0) := (rb_g0.out.cell 5).trans (by simp)
          have rb_g0lt : rg_g0 < W23.heap.size := rb_g0.out.lt
          go_wp2_with fail
          clear bx1c0 bx1c1 bx2c0 bx2c1 bx2c2 rb_w0c0 rb_w0c1 rb_w0c2 rb_w0c3 rb_w0c4 rb_w0c5 xb2c0 xb2c1 xb2c2 rb_g0c0 rb_g0c1 rb_g0c2 rb_g0c3 rb_g0c4 rb_g0c5 bx1lt bx2lt rb_w0lt xb2lt rb_g0lt
          refine (eqDataS_any x0 W23 G11 G23 _ _ X0.out hv23 Y0.out hfs23.under).mono ?_
          rintro e W24 ⟨rfl, hb24⟩
          have hB26 := hB25.trans (hb24.mono hB25.size)
          have bx1n : Hid (Blk W24 (w.heap.size) 24 #[.int .i64 x1.d, .int .i64 x1.i]) := bx1.out.same (hb24.block _ bx1.out.lt)
          clear bx1
          have bx1 := bx1n
          clear bx1n
          have bx2n : Hid (Blk W24 (w.heap.size + 1) 27 #[.int .i64 x2.c, .int .i64 x2.n, .slice A2 x2.ks.length cap2]) := bx2.out.same (hb24.block _ bx2.out.lt)
          clear bx2
          have bx2 := bx2n
          clear bx2n
          have rb_w0n : Hid (Blk W24 (rg_w0) 32 #[.int .i64 r0.op, .int .i64 r0.ct, .int .i64 r0.n, .int .i64 r0.m, .int .i64 r0.va, .slice A_w0 r0.ks.length cap_w0]) := rb_w0.out.same (hb24.block _ rb_w0.out.lt)
          clear rb_w0
          have rb_w0 := rb_w0n
          clear rb_w0n
          have xb2n : Hid (Blk W24 (W14.heap.size) 41 #[.int .i64 x2.c, .int .i64 x2.n, .slice B2 x2.ks.length bap2]) := xb2.out.same (hb24.block _ xb2.out.lt)
          clear xb2
          have xb2 := xb2n
          clear xb2n
          have rb_g0n : Hid (Blk W24 (rg_g0) 32 #[.int .i64 r0.op, .int .i64 r0.ct, .int .i64 r0.n, .int .i64 r0.m, .int .i64 r0.va, .slice A_g0 r0.ks.length cap_g0]) := rb_g0.out.same (hb24.block _ rb_g0.out.lt)
          clear rb_g0
          have rb_g0 := rb_g0n
          clear rb_g0n
          have KP := Lib.hid (show Kept F_w0 W23 W24 from (Kept.of_below (w := W23) hb24 Y_w0.out))
          have X_w0n := Lib.hid (PR.mono _ _ _ KP.out X_w0.out)
          have Y_w0n := Lib.hid (Y_w0.out.mono hb24.size)
          have Z_w0n := Lib.hid (Z_w0.out.kept KP.out)
          clear X_w0 Y_w0 KP Z_w0
          have X_w0 := X_w0n
          have Y_w0 := Y_w0n
          have Z_w0 := Z_w0n
          clear X_w0n Y_w0n Z_w0n
          have KP := Lib.hid (show Kept G11 W23 W24 from (Kept.of_below (w := W23) hb24 Y0.out))
          have X0n := Lib.hid (ArrDt.mono X0.out KP.out)
          have Y0n := Lib.hid (Y0.out.mono hb24.size)
          have Z_x0n := Lib.hid (Z_x0.out.kept KP.out)
          clear X0 Y0 KP Z_x0
          have X0 := X0n
          have Y0 := Y0n
          have Z_x0 := Z_x0n
          clear X0n Y0n Z_x0n
          have KP := Lib.hid (show Kept G14 W23 W24 from (Kept.of_below (w := W23) hb24 Y2.out))
          have X2n := Lib.hid (VR.mono _ _ _ KP.out X2.out)
          have Y2n := Lib.hid (Y2.out.mono hb24.size)
          have Z_x2n := Lib.hid (Z_x2.out.kept KP.out)
          clear X2 Y2 KP Z_x2
          have X2 := X2n
          have Y2 := Y2n
          have Z_x2 := Z_x2n
          clear X2n Y2n Z_x2n
          have KP := Lib.hid (show Kept F_g0 W23 W24 from (Kept.of_below (w := W23) hb24 Y_g0.out))
          have X_g0n := Lib.hid (PR.mono _ _ _ KP.out X_g0.out)
          have Y_g0n := Lib.hid (Y_g0.out.mono hb24.size)
          have Z_g0n := Lib.hid (Z_g0.out.kept KP.out)
          clear X_g0 Y_g0 KP Z_g0
          have X_g0 := X_g0n
          have Y_g0 := Y_g0n
          have Z_g0 := Z_g0n
          clear X_g0n Y_g0n Z_g0n
          have bx1c0 : W24.cell? ⟨w.heap.size, 0, none⟩ = some (.int .i64 x1.d) := (bx1.out.cell 0).trans (by simp)
          have bx1c1 : W24.cell? ⟨w.heap.size, 1, none⟩ = some (.int .i64 x1.i) := (bx1.out.cell 1).trans (by simp)
          have bx1lt : w.heap.size < W24.heap.size := bx1.out.lt
          have bx2c0 : W24.cell? ⟨w.heap.size + 1, 0, none⟩ = some (.int .i64 x2.c) := (bx2.out.cell 0).trans (by simp)
          have bx2c1 : W24.cell? ⟨w.heap.size + 1, 1, none⟩ = some (.int .i64 x2.n) := (bx2.out.cell 1).trans (by simp)
          have bx2c2 : W24.cell? ⟨w.heap.size + 1, 2, none⟩ = some (.slice A2 x2.ks.length cap2) := (bx2.out.cell 2).trans (by simp)
          have bx2lt : w.heap.size + 1 < W24.heap.size := bx2.out.lt
          have rb_w0c0 : W24.cell? ⟨rg_w0, 0, none⟩ = some (.int .i64 r0.op) := (rb_w0.out.cell 0).trans (by simp)
          have rb_w0c1 : W24.cell? ⟨rg_w0, 1, none⟩ = some (.int .i64 r0.ct) := (rb_w0.out.cell 1).trans (by simp)
          have rb_w0c2 : W24.cell? ⟨rg_w0, 2, none⟩ = some (.int .i64 r0.n) := (rb_w0.out.cell 2).trans (by simp)
          have rb_w0c3 : W24.cell? ⟨rg_w0, 3, none⟩ = some (.int .i64 r0.m) := (rb_w0.out.cell 3).trans (by simp)
          have rb_w0c4 : W24.cell? ⟨rg_w0, 4, none⟩ = some (.int .i64 r0.va) := (rb_w0.out.cell 4).trans (by simp)
          have rb_w0c5 : W24.cell? ⟨rg_w0, 5, none⟩ = some (.slice A_w0 r0.ks.length cap_w0) := (rb_w0.out.cell 5).trans (by simp)
          have rb_w0lt : rg_w0 < W24.heap.size := rb_w0.out.lt
          have xb2c0 : W24.cell? ⟨W14.heap.size, 0, none⟩ = some (.int .i64 x2.c) := (xb2.out.cell 0).trans (by simp)
          have xb2c1 : W24.cell? ⟨W14.heap.size, 1, none⟩ = some (.int .i64 x2.n) := (xb2.out.cell 1).trans (by simp)
          have xb2c2 : W24.cell? ⟨W14.heap.size, 2, none⟩ = some (.slice B2 x2.ks.length bap2) := (xb2.out.cell 2).trans (by simp)
          have xb2lt : W14.heap.size < W24.heap.size := xb2.out.lt
          have rb_g0c0 : W24.cell? ⟨rg_g0, 0, none⟩ = some (.int .i64 r0.op) := (rb_g0.out.cell 0).trans (by simp)
          have rb_g0c1 : W24.cell? ⟨rg_g0, 1, none⟩ = some (.int .i64 r0.ct) := (rb_g0.out.cell 1).trans (by simp)
          have rb_g0c2 : W24.cell? ⟨rg_g0, 2, none⟩ = some (.int .i64 r0.n) := (rb_g0.out.cell 2).trans (by simp)
          have rb_g0c3 : W24.cell? ⟨rg_g0, 3, none⟩ = some (.int .i64 r0.m) := (rb_g0.out.cell 3).trans (by simp)
          have rb_g0c4 : W24.cell? ⟨rg_g0, 4, none⟩ = some (.int .i64 r0.va) := (rb_g0.out.cell 4).trans (by simp)
          have rb_g0c5 : W24.cell? ⟨rg_g0, 5, none⟩ = some (.slice A_g0 r0.ks.length cap_g0) := (rb_g0.out.cell 5).trans (by simp)
          have rb_g0lt : rg_g0 < W24.heap.size := rb_g0.out.lt
          go_wp2_with fail
          have hkeep : ∀ U U' : World, (U.cell? ⟨W14.heap.size, 0, none⟩ = some (.int .i64 x2.c) ∧ U.cell? ⟨W14.heap.size, 1, none⟩ = some (.int .i64 x2.n) ∧ U.cell? ⟨W14.heap.size, 2, none⟩ = some (.slice B2 x2.ks.length bap2) ∧ U.cell? ⟨w.heap.size + 1, 0, none⟩ = some (.int .i64 x2.c) ∧ U.cell? ⟨w.heap.size + 1, 1, none⟩ = some (.int .i64 x2.n) ∧ U.cell? ⟨w.heap.size + 1, 2, none⟩ = some (.slice A2 x2.ks.length cap2)) → Below U.heap.size U U' → W24.heap.size ≤ U.heap.size → (U'.cell? ⟨W14.heap.size, 0, none⟩ = some (.int .i64 x2.c) ∧ U'.cell? ⟨W14.heap.size, 1, none⟩ = some (.int .i64 x2.n) ∧ U'.cell? ⟨W14.heap.size, 2, none⟩ = some (.slice B2 x2.ks.length bap2) ∧ U'.cell? ⟨w.heap.size + 1, 0, none⟩ = some (.int .i64 x2.c) ∧ U'.cell? ⟨w.heap.size + 1, 1, none⟩ = some (.int .i64 x2.n) ∧ U'.cell? ⟨w.heap.size + 1, 2, none⟩ = some (.slice A2 x2.ks.length cap2)) := fun U U' h hb hU => ⟨(hb.cell (Nat.lt_of_lt_of_le (xb2lt) hU)).trans h.1, (hb.cell (Nat.lt_of_lt_of_le (xb2lt) hU)).trans h.2.1, (hb.cell (Nat.lt_of_lt_of_le (xb2lt) hU)).trans h.2.2.1, (hb.cell (Nat.lt_of_lt_of_le (bx2lt) hU)).trans h.2.2.2.1, (hb.cell (Nat.lt_of_lt_of_le (bx2lt) hU)).trans h.2.2.2.2.1, (hb.cell (Nat.lt_of_lt_of_le (bx2lt) hU)).trans h.2.2.2.2.2⟩
          have HKeep := Lib.hid hkeep
          clear hkeep
          go_region_held3 (fun w' => w'.cell? ⟨W14.heap.size, 0, none⟩ = some (.int .i64 x2.c) ∧ w'.cell? ⟨W14.heap.size, 1, none⟩ = some (.int .i64 x2.n) ∧ w'.cell? ⟨W14.heap.size, 2, none⟩ = some (.slice B2 x2.ks.length bap2) ∧ w'.cell? ⟨w.heap.size + 1, 0, none⟩ = some (.int .i64 x2.c) ∧ w'.cell? ⟨w.heap.size + 1, 1, none⟩ = some (.int .i64 x2.n) ∧ w'.cell? ⟨w.heap.size + 1, 2, none⟩ = some (.slice A2 x2.ks.length cap2)) (first | assumption | (exact ⟨xb2c0, xb2c1, xb2c2, bx2c0, bx2c1, bx2c2⟩) | (exact HKeep.out W24.drew W27 ⟨xb2c0, xb2c1, xb2c2, bx2c0, bx2c1, bx2c2⟩ hb27 (Nat.le_refl _)) | (exact HKeep.out W27 W28 (by assumption) hb28 hleW27)) (first | (go_at_call 20; ((with_reducible refine (toValue_any x2 _ _ F2 (HR2.out.below hB26.drew HU2.out) (HU2.out.mono hB26.drew.size) hs2).mono ?_); rintro e W27 ⟨ds27, G27, rfl, hb27, hv27, hfr27, hfs27⟩); have hleW27 : W24.heap.size ≤ W27.heap.size := hb27.size) | (go_at_call 24; ((with_reducible refine (eqValue_any x2 _ _ _ G14 G27 (X2.out.drew.below hb27 (Under.drew Y2.out)) hv27 ((Under.drew Y2.out).mono hb27.size) hfs27.under).mono ?_); rintro e W28 ⟨rfl, hb28⟩)))
          have hbt28 := hb27.trans (hb28.mono hb27.size)
          clear bx1c0 bx1c1 bx2c0 bx2c1 bx2c2 rb_w0c0 rb_w0c1 rb_w0c2 rb_w0c3 rb_w0c4 rb_w0c5 xb2c0 xb2c1 xb2c2 rb_g0c0 rb_g0c1 rb_g0c2 rb_g0c3 rb_g0c4 rb_g0c5 bx1lt bx2lt rb_w0lt xb2lt rb_g0lt
          have hB29 := hB26.drew.trans (hbt28.mono hB26.size)
          have bx1n : Hid (Blk W28 (w.heap.size) 24 #[.int .i64 x1.d, .int .i64 x1.i]) := bx1.out.same (hbt28.block _ bx1.out.lt)
          clear bx1
          have bx1 := bx1n
          clear bx1n
          have bx2n : Hid (Blk W28 (w.heap.size + 1) 27 #[.int .i64 x2.c, .int .i64 x2.n, .slice A2 x2.ks.length cap2]) := bx2.out.same (hbt28.block _ bx2.out.lt)
          clear bx2
          have bx2 := bx2n
          clear bx2n
          have rb_w0n : Hid (Blk W28 (rg_w0) 32 #[.int .i64 r0.op, .int .i64 r0.ct, .int .i64 r0.n, .int .i64 r0.m, .int .i64 r0.va, .slice A_w0 r0.ks.length cap_w0]) := rb_w0.out.same (hbt28.block _ rb_w0.out.lt)
          clear rb_w0
          have rb_w0 := rb_w0n
          clear rb_w0n
          have xb2n : Hid (Blk W28 (W14.heap.size) 41 #[.int .i64 x2.c, .int .i64 x2.n, .slice B2 x2.ks.length bap2]) := xb2.out.same (hbt28.block _ xb2.out.lt)
          clear xb2
          have xb2 := xb2n
          clear xb2n
          have rb_g0n : Hid (Blk W28 (rg_g0) 32 #[.int .i64 r0.op, .int .i64 r0.ct, .int .i64 r0.n, .int .i64 r0.m, .int .i64 r0.va, .slice A_g0 r0.ks.length cap_g0]) := rb_g0.out.same (hbt28.block _ rb_g0.out.lt)
          clear rb_g0
          have rb_g0 := rb_g0n
          clear rb_g0n
          have KP := Lib.hid (show Kept F_w0 W24 W28 from (Kept.of_below (w := W24) (below_undrew hbt28) Y_w0.out))
          have X_w0n := Lib.hid (PR.mono _ _ _ KP.out X_w0.out)
          have Y_w0n := Lib.hid (Y_w0.out.mono hbt28.size)
          have Z_w0n := Lib.hid (Z_w0.out.kept KP.out)
          clear X_w0 Y_w0 KP Z_w0
          have X_w0 := X_w0n
          have Y_w0 := Y_w0n
          have Z_w0 := Z_w0n
          clear X_w0n Y_w0n Z_w0n
          have KP := Lib.hid (show Kept G11 W24 W28 from (Kept.of_below (w := W24) (below_undrew hbt28) Y0.out))
          have X0n := Lib.hid (ArrDt.mono X0.out KP.out)
          have Y0n := Lib.hid (Y0.out.mono hbt28.size)
          have Z_x0n := Lib.hid (Z_x0.out.kept KP.out)
          clear X0 Y0 KP Z_x0
          have X0 := X0n
          have Y0 := Y0n
          have Z_x0 := Z_x0n
          clear X0n Y0n Z_x0n
          have KP := Lib.hid (show Kept G14 W24 W28 from (Kept.of_below (w := W24) (below_undrew hbt28) Y2.out))
          have X2n := Lib.hid (VR.mono _ _ _ KP.out X2.out)
          have Y2n := Lib.hid (Y2.out.mono hbt28.size)
          have Z_x2n := Lib.hid (Z_x2.out.kept KP.out)
          clear X2 Y2 KP Z_x2
          have X2 := X2n
          have Y2 := Y2n
          have Z_x2 := Z_x2n
          clear X2n Y2n Z_x2n
          have KP := Lib.hid (show Kept F_g0 W24 W28 from (Kept.of_below (w := W24) (below_undrew hbt28) Y_g0.out))
          have X_g0n := Lib.hid (PR.mono _ _ _ KP.out X_g0.out)
          have Y_g0n := Lib.hid (Y_g0.out.mono hbt28.size)
          have Z_g0n := Lib.hid (Z_g0.out.kept KP.out)
          clear X_g0 Y_g0 KP Z_g0
          have X_g0 := X_g0n
          have Y_g0 := Y_g0n
          have Z_g0 := Z_g0n
          clear X_g0n Y_g0n Z_g0n
          have bx1c0 : W28.cell? ⟨w.heap.size, 0, none⟩ = some (.int .i64 x1.d) := (bx1.out.cell 0).trans (by simp)
          have bx1c1 : W28.cell? ⟨w.heap.size, 1, none⟩ = some (.int .i64 x1.i) := (bx1.out.cell 1).trans (by simp)
          have bx1lt : w.heap.size < W28.heap.size := bx1.out.lt
          have bx2c0 : W28.cell? ⟨w.heap.size + 1, 0, none⟩ = some (.int .i64 x2.c) := (bx2.out.cell 0).trans (by simp)
          have bx2c1 : W28.cell? ⟨w.heap.size + 1, 1, none⟩ = some (.int .i64 x2.n) := (bx2.out.cell 1).trans (by simp)
          have bx2c2 : W28.cell? ⟨w.heap.size + 1, 2, none⟩ = some (.slice A2 x2.ks.length cap2) := (bx2.out.cell 2).trans (by simp)
          have bx2lt : w.heap.size + 1 < W28.heap.size := bx2.out.lt
          have rb_w0c0 : W28.cell? ⟨rg_w0, 0, none⟩ = some (.int .i64 r0.op) := (rb_w0.out.cell 0).trans (by simp)
          have rb_w0c1 : W28.cell? ⟨rg_w0, 1, none⟩ = some (.int .i64 r0.ct) := (rb_w0.out.cell 1).trans (by simp)
          have rb_w0c2 : W28.cell? ⟨rg_w0, 2, none⟩ = some (.int .i64 r0.n) := (rb_w0.out.cell 2).trans (by simp)
          have rb_w0c3 : W28.cell? ⟨rg_w0, 3, none⟩ = some (.int .i64 r0.m) := (rb_w0.out.cell 3).trans (by simp)
          have rb_w0c4 : W28.cell? ⟨rg_w0, 4, none⟩ = some (.int .i64 r0.va) := (rb_w0.out.cell 4).trans (by simp)
          have rb_w0c5 : W28.cell? ⟨rg_w0, 5, none⟩ = some (.slice A_w0 r0.ks.length cap_w0) := (rb_w0.out.cell 5).trans (by simp)
          have rb_w0lt : rg_w0 < W28.heap.size := rb_w0.out.lt
          have xb2c0 : W28.cell? ⟨W14.heap.size, 0, none⟩ = some (.int .i64 x2.c) := (xb2.out.cell 0).trans (by simp)
          have xb2c1 : W28.cell? ⟨W14.heap.size, 1, none⟩ = some (.int .i64 x2.n) := (xb2.out.cell 1).trans (by simp)
          have xb2c2 : W28.cell? ⟨W14.heap.size, 2, none⟩ = some (.slice B2 x2.ks.length bap2) := (xb2.out.cell 2).trans (by simp)
          have xb2lt : W14.heap.size < W28.heap.size := xb2.out.lt
          have rb_g0c0 : W28.cell? ⟨rg_g0, 0, none⟩ = some (.int .i64 r0.op) := (rb_g0.out.cell 0).trans (by simp)
          have rb_g0c1 : W28.cell? ⟨rg_g0, 1, none⟩ = some (.int .i64 r0.ct) := (rb_g0.out.cell 1).trans (by simp)
          have rb_g0c2 : W28.cell? ⟨rg_g0, 2, none⟩ = some (.int .i64 r0.n) := (rb_g0.out.cell 2).trans (by simp)
          have rb_g0c3 : W28.cell? ⟨rg_g0, 3, none⟩ = some (.int .i64 r0.m) := (rb_g0.out.cell 3).trans (by simp)
          have rb_g0c4 : W28.cell? ⟨rg_g0, 4, none⟩ = some (.int .i64 r0.va) := (rb_g0.out.cell 4).trans (by simp)
          have rb_g0c5 : W28.cell? ⟨rg_g0, 5, none⟩ = some (.slice A_g0 r0.ks.length cap_g0) := (rb_g0.out.cell 5).trans (by simp)
          have rb_g0lt : rg_g0 < W28.heap.size := rb_g0.out.lt
          go_wp2_with fail
          clear bx1c0 bx1c1 bx2c0 bx2c1 bx2c2 rb_w0c0 rb_w0c1 rb_w0c2 rb_w0c3 rb_w0c4 rb_w0c5 xb2c0 xb2c1 xb2c2 rb_g0c0 rb_g0c1 rb_g0c2 rb_g0c3 rb_g0c4 rb_g0c5 bx1lt bx2lt rb_w0lt xb2lt rb_g0lt
          have hcn0 : sumBy cntDt x0 ≤ 16777216 := by have := cntsDt_le x0; omega
          refine (markDataS_any x0 W28 _ G11 (1) (by omega) (by omega) X0.out Z_x0.out Y0.out).mono ?_
          rintro e W30 ⟨rfl, hg30, hm30, hfr30⟩
          clear hm30 hfr30
          have hB31 := hB29.trans (hg30.below LB_x0.out hB29.size)
          have bx1n : Hid (Blk W30 (w.heap.size) 24 #[.int .i64 x1.d, .int .i64 x1.i]) := bx1.out.same (hg30.block _ bx1.out.lt nb_bx1_x0.out)
          clear bx1
          have bx1 := bx1n
          clear bx1n
          have bx2n : Hid (Blk W30 (w.heap.size + 1) 27 #[.int .i64 x2.c, .int .i64 x2.n, .slice A2 x2.ks.length cap2]) := bx2.out.same (hg30.block _ bx2.out.lt nb_bx2_x0.out)
          clear bx2
          have bx2 := bx2n
          clear bx2n
          have rb_w0n : Hid (Blk W30 (rg_w0) 32 #[.int .i64 r0.op, .int .i64 r0.ct, .int .i64 r0.n, .int .i64 r0.m, .int .i64 r0.va, .slice A_w0 r0.ks.length cap_w0]) := rb_w0.out.same (hg30.block _ rb_w0.out.lt nb_rb_w0_x0.out)
          clear rb_w0
          have rb_w0 := rb_w0n
          clear rb_w0n
          have xb2n : Hid (Blk W30 (W14.heap.size) 41 #[.int .i64 x2.c, .int .i64 x2.n, .slice B2 x2.ks.length bap2]) := xb2.out.same (hg30.block _ xb2.out.lt nb_xb2_x0.out)
          clear xb2
          have xb2 := xb2n
          clear xb2n
          have rb_g0n : Hid (Blk W30 (rg_g0) 32 #[.int .i64 r0.op, .int .i64 r0.ct, .int .i64 r0.n, .int .i64 r0.m, .int .i64 r0.va, .slice A_g0 r0.ks.length cap_g0]) := rb_g0.out.same (hg30.block _ rb_g0.out.lt nb_rb_g0_x0.out)
          clear rb_g0
          have rb_g0 := rb_g0n
          clear rb_g0n
          have KP := Lib.hid (show Kept F_w0 W28 W30 from (hg30.kept Y_w0.out dj_w0_x0.out))
          have X_w0n := Lib.hid (PR.mono _ _ _ KP.out X_w0.out)
          have Y_w0n := Lib.hid (Y_w0.out.mono hg30.size)
          have Z_w0n := Lib.hid (Z_w0.out.kept KP.out)
          clear X_w0 Y_w0 KP Z_w0
          have X_w0 := X_w0n
          have Y_w0 := Y_w0n
          have Z_w0 := Z_w0n
          clear X_w0n Y_w0n Z_w0n
          have KP := Lib.hid (show Kept G14 W28 W30 from (hg30.kept Y2.out dj_x2_x0.out))
          have X2n := Lib.hid (VR.mono _ _ _ KP.out X2.out)
          have Y2n := Lib.hid (Y2.out.mono hg30.size)
          have Z_x2n := Lib.hid (Z_x2.out.kept KP.out)
          clear X2 Y2 KP Z_x2
          have X2 := X2n
          have Y2 := Y2n
          have Z_x2 := Z_x2n
          clear X2n Y2n Z_x2n
          have KP := Lib.hid (show Kept F_g0 W28 W30 from (hg30.kept Y_g0.out dj_g0_x0.out))
          have X_g0n := Lib.hid (PR.mono _ _ _ KP.out X_g0.out)
          have Y_g0n := Lib.hid (Y_g0.out.mono hg30.size)
          have Z_g0n := Lib.hid (Z_g0.out.kept KP.out)
          clear X_g0 Y_g0 KP Z_g0
          have X_g0 := X_g0n
          have Y_g0 := Y_g0n
          have Z_g0 := Z_g0n
          clear X_g0n Y_g0n Z_g0n
          generalize hkk0 : sumBy cntDt x0 = kk0 at *
          clear hkk0
          have bx1c0 : W30.cell? ⟨w.heap.size, 0, none⟩ = some (.int .i64 x1.d) := (bx1.out.cell 0).trans (by simp)
          have bx1c1 : W30.cell? ⟨w.heap.size, 1, none⟩ = some (.int .i64 x1.i) := (bx1.out.cell 1).trans (by simp)
          have bx1lt : w.heap.size < W30.heap.size := bx1.out.lt
          have bx2c0 : W30.cell? ⟨w.heap.size + 1, 0, none⟩ = some (.int .i64 x2.c) := (bx2.out.cell 0).trans (by simp)
          have bx2c1 : W30.cell? ⟨w.heap.size + 1, 1, none⟩ = some (.int .i64 x2.n) := (bx2.out.cell 1).trans (by simp)
          have bx2c2 : W30.cell? ⟨w.heap.size + 1, 2, none⟩ = some (.slice A2 x2.ks.length cap2) := (bx2.out.cell 2).trans (by simp)
          have bx2lt : w.heap.size + 1 < W30.heap.size := bx2.out.lt
          have rb_w0c0 : W30.cell? ⟨rg_w0, 0, none⟩ = some (.int .i64 r0.op) := (rb_w0.out.cell 0).trans (by simp)
          have rb_w0c1 : W30.cell? ⟨rg_w0, 1, none⟩ = some (.int .i64 r0.ct) := (rb_w0.out.cell 1).trans (by simp)
          have rb_w0c2 : W30.cell? ⟨rg_w0, 2, none⟩ = some (.int .i64 r0.n) := (rb_w0.out.cell 2).trans (by simp)
          have rb_w0c3 : W30.cell? ⟨rg_w0, 3, none⟩ = some (.int .i64 r0.m) := (rb_w0.out.cell 3).trans (by simp)
          have rb_w0c4 : W30.cell? ⟨rg_w0, 4, none⟩ = some (.int .i64 r0.va) := (rb_w0.out.cell 4).trans (by simp)
          have rb_w0c5 : W30.cell? ⟨rg_w0, 5, none⟩ = some (.slice A_w0 r0.ks.length cap_w0) := (rb_w0.out.cell 5).trans (by simp)
          have rb_w0lt : rg_w0 < W30.heap.size := rb_w0.out.lt
          have xb2c0 : W30.cell? ⟨W14.heap.size, 0, none⟩ = some (.int .i64 x2.c) := (xb2.out.cell 0).trans (by simp)
          have xb2c1 : W30.cell? ⟨W14.heap.size, 1, none⟩ = some (.int .i64 x2.n) := (xb2.out.cell 1).trans (by simp)
          have xb2c2 : W30.cell? ⟨W14.heap.size, 2, none⟩ = some (.slice B2 x2.ks.length bap2) := (xb2.out.cell 2).trans (by simp)
          have xb2lt : W14.heap.size < W30.heap.size := xb2.out.lt
          have rb_g0c0 : W30.cell? ⟨rg_g0, 0, none⟩ = some (.int .i64 r0.op) := (rb_g0.out.cell 0).trans (by simp)
          have rb_g0c1 : W30.cell? ⟨rg_g0, 1, none⟩ = some (.int .i64 r0.ct) := (rb_g0.out.cell 1).trans (by simp)
          have rb_g0c2 : W30.cell? ⟨rg_g0, 2, none⟩ = some (.int .i64 r0.n) := (rb_g0.out.cell 2).trans (by simp)
          have rb_g0c3 : W30.cell? ⟨rg_g0, 3, none⟩ = some (.int .i64 r0.m) := (rb_g0.out.cell 3).trans (by simp)
          have rb_g0c4 : W30.cell? ⟨rg_g0, 4, none⟩ = some (.int .i64 r0.va) := (rb_g0.out.cell 4).trans (by simp)
          have rb_g0c5 : W30.cell? ⟨rg_g0, 5, none⟩ = some (.slice A_g0 r0.ks.length cap_g0) := (rb_g0.out.cell 5).trans (by simp)
          have rb_g0lt : rg_g0 < W30.heap.size := rb_g0.out.lt
          go_wp2_with fail
          clear bx1c0 bx1c1 bx2c0 bx2c1 bx2c2 rb_w0c0 rb_w0c1 rb_w0c2 rb_w0c3 rb_w0c4 rb_w0c5 xb2c0 xb2c1 xb2c2 rb_g0c0 rb_g0c1 rb_g0c2 rb_g0c3 rb_g0c4 rb_g0c5 bx1lt bx2lt rb_w0lt xb2lt rb_g0lt
          have hcn2 : sumBy cntV x2.ks ≤ 16777216 := by have h1 := cntsV_le x2.ks; have h2 := V.size_sizes x2; omega
          refine (markValue_any x2 W30 _ G14 (1 + (kk0 : Int)) (by omega) (by omega) X2.out Z_x2.out Y2.out).mono ?_
          rintro e W32 ⟨rfl, hg32, hm32, hfr32⟩
          clear hm32 hfr32
          have hB33 := hB31.trans (hg32.below LB_x2.out hB31.size)
          have bx1n : Hid (Blk W32 (w.heap.size) 24 #[.int .i64 x1.d, .int .i64 x1.i]) := bx1.out.same (hg32.block _ bx1.out.lt nb_bx1_x2.out)
          clear bx1
          have bx1 := bx1n
          clear bx1n
          have bx2n : Hid (Blk W32 (w.heap.size + 1) 27 #[.int .i64 x2.c, .int .i64 x2.n, .slice A2 x2.ks.length cap2]) := bx2.out.same (hg32.block _ bx2.out.lt nb_bx2_x2.out)
          clear bx2
          have bx2 := bx2n
          clear bx2n
          have rb_w0n : Hid (Blk W32 (rg_w0) 32 #[.int .i64 r0.op, .int .i64 r0.ct, .int .i64 r0.n, .int .i64 r0.m, .int .i64 r0.va, .slice A_w0 r0.ks.length cap_w0]) := rb_w0.out.same (hg32.block _ rb_w0.out.lt nb_rb_w0_x2.out)
          clear rb_w0
          have rb_w0 := rb_w0n
          clear rb_w0n
          have xb2n : Hid (Blk W32 (W14.heap.size) 41 #[.int .i64 x2.c, .int .i64 x2.n, .slice B2 x2.ks.length bap2]) := xb2.out.same (hg32.block _ xb2.out.lt nb_xb2_x2.out)
          clear xb2
          have xb2 := xb2n
          clear xb2n
          have rb_g0n : Hid (Blk W32 (rg_g0) 32 #[.int .i64 r0.op, .int .i64 r0.ct, .int .i64 r0.n, .int .i64 r0.m, .int .i64 r0.va, .slice A_g0 r0.ks.length cap_g0]) := rb_g0.out.same (hg32.block _ rb_g0.out.lt nb_rb_g0_x2.out)
          clear rb_g0
          have rb_g0 := rb_g0n
          clear rb_g0n
          have KP := Lib.hid (show Kept F_w0 W30 W32 from (hg32.kept Y_w0.out dj_w0_x2.out))
          have X_w0n := Lib.hid (PR.mono _ _ _ KP.out X_w0.out)
          have Y_w0n := Lib.hid (Y_w0.out.mono hg32.size)
          have Z_w0n := Lib.hid (Z_w0.out.kept KP.out)
          clear X_w0 Y_w0 KP Z_w0
          have X_w0 := X_w0n
          have Y_w0 := Y_w0n
          have Z_w0 := Z_w0n
          clear X_w0n Y_w0n Z_w0n
          have KP := Lib.hid (show Kept F_g0 W30 W32 from (hg32.kept Y_g0.out dj_g0_x2.out))
          have X_g0n := Lib.hid (PR.mono _ _ _ KP.out X_g0.out)
          have Y_g0n := Lib.hid (Y_g0.out.mono hg32.size)
          have Z_g0n := Lib.hid (Z_g0.out.kept KP.out)
          clear X_g0 Y_g0 KP Z_g0
          have X_g0 := X_g0n
          have Y_g0 := Y_g0n
          have Z_g0 := Z_g0n
          clear X_g0n Y_g0n Z_g0n
          generalize hkk2 : sumBy cntV x2.ks = kk2 at *
          clear hkk2
          have hkp : ¬ (1 + (kk0 : Int) + (kk2 : Int) < 0) := by omega
          have bx1c0 : W32.cell? ⟨w.heap.size, 0, none⟩ = some (.int .i64 x1.d) := (bx1.out.cell 0).trans (by simp)
          have bx1c1 : W32.cell? ⟨w.heap.size, 1, none⟩ = some (.int .i64 x1.i) := (bx1.out.cell 1).trans (by simp)
          have bx1lt : w.heap.size < W32.heap.size := bx1.out.lt
          have bx2c0 : W32.cell? ⟨w.heap.size + 1, 0, none⟩ = some (.int .i64 x2.c) := (bx2.out.cell 0).trans (by simp)
          have bx2c1 : W32.cell? ⟨w.heap.size + 1, 1, none⟩ = some (.int .i64 x2.n) := (bx2.out.cell 1).trans (by simp)
          have bx2c2 : W32.cell? ⟨w.heap.size + 1, 2, none⟩ = some (.slice A2 x2.ks.length cap2) := (bx2.out.cell 2).trans (by simp)
          have bx2lt : w.heap.size + 1 < W32.heap.size := bx2.out.lt
          have rb_w0c0 : W32.cell? ⟨rg_w0, 0, none⟩ = some (.int .i64 r0.op) := (rb_w0.out.cell 0).trans (by simp)
          have rb_w0c1 : W32.cell? ⟨rg_w0, 1, none⟩ = some (.int .i64 r0.ct) := (rb_w0.out.cell 1).trans (by simp)
          have rb_w0c2 : W32.cell? ⟨rg_w0, 2, none⟩ = some (.int .i64 r0.n) := (rb_w0.out.cell 2).trans (by simp)
          have rb_w0c3 : W32.cell? ⟨rg_w0, 3, none⟩ = some (.int .i64 r0.m) := (rb_w0.out.cell 3).trans (by simp)
          have rb_w0c4 : W32.cell? ⟨rg_w0, 4, none⟩ = some (.int .i64 r0.va) := (rb_w0.out.cell 4).trans (by simp)
          have rb_w0c5 : W32.cell? ⟨rg_w0, 5, none⟩ = some (.slice A_w0 r0.ks.length cap_w0) := (rb_w0.out.cell 5).trans (by simp)
          have rb_w0lt : rg_w0 < W32.heap.size := rb_w0.out.lt
          have xb2c0 : W32.cell? ⟨W14.heap.size, 0, none⟩ = some (.int .i64 x2.c) := (xb2.out.cell 0).trans (by simp)
          have xb2c1 : W32.cell? ⟨W14.heap.size, 1, none⟩ = some (.int .i64 x2.n) := (xb2.out.cell 1).trans (by simp)
          have xb2c2 : W32.cell? ⟨W14.heap.size, 2, none⟩ = some (.slice B2 x2.ks.length bap2) := (xb2.out.cell 2).trans (by simp)
          have xb2lt : W14.heap.size < W32.heap.size := xb2.out.lt
          have rb_g0c0 : W32.cell? ⟨rg_g0, 0, none⟩ = some (.int .i64 r0.op) := (rb_g0.out.cell 0).trans (by simp)
          have rb_g0c1 : W32.cell? ⟨rg_g0, 1, none⟩ = some (.int .i64 r0.ct) := (rb_g0.out.cell 1).trans (by simp)
          have rb_g0c2 : W32.cell? ⟨rg_g0, 2, none⟩ = some (.int .i64 r0.n) := (rb_g0.out.cell 2).trans (by simp)
          have rb_g0c3 : W32.cell? ⟨rg_g0, 3, none⟩ = some (.int .i64 r0.m) := (rb_g0.out.cell 3).trans (by simp)
          have rb_g0c4 : W32.cell? ⟨rg_g0, 4, none⟩ = some (.int .i64 r0.va) := (rb_g0.out.cell 4).trans (by simp)
          have rb_g0c5 : W32.cell? ⟨rg_g0, 5, none⟩ = some (.slice A_g0 r0.ks.length cap_g0) := (rb_g0.out.cell 5).trans (by simp)
          have rb_g0lt : rg_g0 < W32.heap.size := rb_g0.out.lt
          go_wp2_with fail
          clear bx1c0 bx1c1 bx2c0 bx2c1 bx2c2 rb_w0c0 rb_w0c1 rb_w0c2 rb_w0c3 rb_w0c4 rb_w0c5 xb2c0 xb2c1 xb2c2 rb_g0c0 rb_g0c1 rb_g0c2 rb_g0c3 rb_g0c4 rb_g0c5 bx1lt bx2lt rb_w0lt xb2lt rb_g0lt
          refine (eqPattern_any r0 W32 _ _ F_g0 F_w0 X_g0.out X_w0.out Y_g0.out Y_w0.out).mono ?_
          rintro e W34 ⟨rfl, hb34⟩
          have hB35 := hB33.trans (hb34.mono hB33.size)
          have bx1n : Hid (Blk W34 (w.heap.size) 24 #[.int .i64 x1.d, .int .i64 x1.i]) := bx1.out.same (hb34.block _ bx1.out.lt)
          clear bx1
          have bx1 := bx1n
          clear bx1n
          have bx2n : Hid (Blk W34 (w.heap.size + 1) 27 #[.int .i64 x2.c, .int .i64 x2.n, .slice A2 x2.ks.length cap2]) := bx2.out.same (hb34.block _ bx2.out.lt)
          clear bx2
          have bx2 := bx2n
          clear bx2n
          have rb_w0n : Hid (Blk W34 (rg_w0) 32 #[.int .i64 r0.op, .int .i64 r0.ct, .int .i64 r0.n, .int .i64 r0.m, .int .i64 r0.va, .slice A_w0 r0.ks.length cap_w0]) := rb_w0.out.same (hb34.block _ rb_w0.out.lt)
          clear rb_w0
          have rb_w0 := rb_w0n
          clear rb_w0n
          have xb2n : Hid (Blk W34 (W14.heap.size) 41 #[.int .i64 x2.c, .int .i64 x2.n, .slice B2 x2.ks.length bap2]) := xb2.out.same (hb34.block _ xb2.out.lt)
          clear xb2
          have xb2 := xb2n
          clear xb2n
          have rb_g0n : Hid (Blk W34 (rg_g0) 32 #[.int .i64 r0.op, .int .i64 r0.ct, .int .i64 r0.n, .int .i64 r0.m, .int .i64 r0.va, .slice A_g0 r0.ks.length cap_g0]) := rb_g0.out.same (hb34.block _ rb_g0.out.lt)
          clear rb_g0
          have rb_g0 := rb_g0n
          clear rb_g0n
          have KP := Lib.hid (show Kept F_w0 W32 W34 from (Kept.of_below (w := W32) hb34 Y_w0.out))
          have X_w0n := Lib.hid (PR.mono _ _ _ KP.out X_w0.out)
          have Y_w0n := Lib.hid (Y_w0.out.mono hb34.size)
          have Z_w0n := Lib.hid (Z_w0.out.kept KP.out)
          clear X_w0 Y_w0 KP Z_w0
          have X_w0 := X_w0n
          have Y_w0 := Y_w0n
          have Z_w0 := Z_w0n
          clear X_w0n Y_w0n Z_w0n
          have KP := Lib.hid (show Kept F_g0 W32 W34 from (Kept.of_below (w := W32) hb34 Y_g0.out))
          have X_g0n := Lib.hid (PR.mono _ _ _ KP.out X_g0.out)
          have Y_g0n := Lib.hid (Y_g0.out.mono hb34.size)
          have Z_g0n := Lib.hid (Z_g0.out.kept KP.out)
          clear X_g0 Y_g0 KP Z_g0
          have X_g0 := X_g0n
          have Y_g0 := Y_g0n
          have Z_g0 := Z_g0n
          clear X_g0n Y_g0n Z_g0n
          have bx1c0 : W34.cell? ⟨w.heap.size, 0, none⟩ = some (.int .i64 x1.d) := (bx1.out.cell 0).trans (by simp)
          have bx1c1 : W34.cell? ⟨w.heap.size, 1, none⟩ = some (.int .i64 x1.i) := (bx1.out.cell 1).trans (by simp)
          have bx1lt : w.heap.size < W34.heap.size := bx1.out.lt
          have bx2c0 : W34.cell? ⟨w.heap.size + 1, 0, none⟩ = some (.int .i64 x2.c) := (bx2.out.cell 0).trans (by simp)
          have bx2c1 : W34.cell? ⟨w.heap.size + 1, 1, none⟩ = some (.int .i64 x2.n) := (bx2.out.cell 1).trans (by simp)
          have bx2c2 : W34.cell? ⟨w.heap.size + 1, 2, none⟩ = some (.slice A2 x2.ks.length cap2) := (bx2.out.cell 2).trans (by simp)
          have bx2lt : w.heap.size + 1 < W34.heap.size := bx2.out.lt
          have rb_w0c0 : W34.cell? ⟨rg_w0, 0, none⟩ = some (.int .i64 r0.op) := (rb_w0.out.cell 0).trans (by simp)
          have rb_w0c1 : W34.cell? ⟨rg_w0, 1, none⟩ = some (.int .i64 r0.ct) := (rb_w0.out.cell 1).trans (by simp)
          have rb_w0c2 : W34.cell? ⟨rg_w0, 2, none⟩ = some (.int .i64 r0.n) := (rb_w0.out.cell 2).trans (by simp)
          have rb_w0c3 : W34.cell? ⟨rg_w0, 3, none⟩ = some (.int .i64 r0.m) := (rb_w0.out.cell 3).trans (by simp)
          have rb_w0c4 : W34.cell? ⟨rg_w0, 4, none⟩ = some (.int .i64 r0.va) := (rb_w0.out.cell 4).trans (by simp)
          have rb_w0c5 : W34.cell? ⟨rg_w0, 5, none⟩ = some (.slice A_w0 r0.ks.length cap_w0) := (rb_w0.out.cell 5).trans (by simp)
          have rb_w0lt : rg_w0 < W34.heap.size := rb_w0.out.lt
          have xb2c0 : W34.cell? ⟨W14.heap.size, 0, none⟩ = some (.int .i64 x2.c) := (xb2.out.cell 0).trans (by simp)
          have xb2c1 : W34.cell? ⟨W14.heap.size, 1, none⟩ = some (.int .i64 x2.n) := (xb2.out.cell 1).trans (by simp)
          have xb2c2 : W34.cell? ⟨W14.heap.size, 2, none⟩ = some (.slice B2 x2.ks.length bap2) := (xb2.out.cell 2).trans (by simp)
          have xb2lt : W14.heap.size < W34.heap.size := xb2.out.lt
          have rb_g0c0 : W34.cell? ⟨rg_g0, 0, none⟩ = some (.int .i64 r0.op) := (rb_g0.out.cell 0).trans (by simp)
          have rb_g0c1 : W34.cell? ⟨rg_g0, 1, none⟩ = some (.int .i64 r0.ct) := (rb_g0.out.cell 1).trans (by simp)
          have rb_g0c2 : W34.cell? ⟨rg_g0, 2, none⟩ = some (.int .i64 r0.n) := (rb_g0.out.cell 2).trans (by simp)
          have rb_g0c3 : W34.cell? ⟨rg_g0, 3, none⟩ = some (.int .i64 r0.m) := (rb_g0.out.cell 3).trans (by simp)
          have rb_g0c4 : W34.cell? ⟨rg_g0, 4, none⟩ = some (.int .i64 r0.va) := (rb_g0.out.cell 4).trans (by simp)
          have rb_g0c5 : W34.cell? ⟨rg_g0, 5, none⟩ = some (.slice A_g0 r0.ks.length cap_g0) := (rb_g0.out.cell 5).trans (by simp)
          have rb_g0lt : rg_g0 < W34.heap.size := rb_g0.out.lt
          go_wp2_with fail
          clear bx1c0 bx1c1 bx2c0 bx2c1 bx2c2 rb_w0c0 rb_w0c1 rb_w0c2 rb_w0c3 rb_w0c4 rb_w0c5 xb2c0 xb2c1 xb2c2 rb_g0c0 rb_g0c1 rb_g0c2 rb_g0c3 rb_g0c4 rb_g0c5 bx1lt bx2lt rb_w0lt xb2lt rb_g0lt
          have hcg : sumBy cntP r0.ks ≤ 16777216 := by rw [← HRes.out]; have h1 := cntsP_le (patternOfR x0 x1 x2).ks; have h2 := P.size_sizes (patternOfR x0 x1 x2); have h3 := patternOfR_size x0 x1 x2; omega
          refine (markPattern_any r0 W34 _ F_g0 1 (by omega) (by omega) X_g0.out Z_g0.out Y_g0.out).mono ?_
          rintro e W36 ⟨rfl, hg36, hm36, hfr36⟩
          have hB37 := hB35.trans (hg36.below LB_g0.out hB35.size)
          have bx1n : Hid (Blk W36 (w.heap.size) 24 #[.int .i64 x1.d, .int .i64 x1.i]) := bx1.out.same (hg36.block _ bx1.out.lt nb_bx1_g0.out)
          clear bx1
          have bx1 := bx1n
          clear bx1n
          have bx2n : Hid (Blk W36 (w.heap.size + 1) 27 #[.int .i64 x2.c, .int .i64 x2.n, .slice A2 x2.ks.length cap2]) := bx2.out.same (hg36.block _ bx2.out.lt nb_bx2_g0.out)
          clear bx2
          have bx2 := bx2n
          clear bx2n
          have rb_w0n : Hid (Blk W36 (rg_w0) 32 #[.int .i64 r0.op, .int .i64 r0.ct, .int .i64 r0.n, .int .i64 r0.m, .int .i64 r0.va, .slice A_w0 r0.ks.length cap_w0]) := rb_w0.out.same (hg36.block _ rb_w0.out.lt nb_rb_w0_g0.out)
          clear rb_w0
          have rb_w0 := rb_w0n
          clear rb_w0n
          have xb2n : Hid (Blk W36 (W14.heap.size) 41 #[.int .i64 x2.c, .int .i64 x2.n, .slice B2 x2.ks.length bap2]) := xb2.out.same (hg36.block _ xb2.out.lt nb_xb2_g0.out)
          clear xb2
          have xb2 := xb2n
          clear xb2n
          have rb_g0n : Hid (Blk W36 (rg_g0) 32 #[.int .i64 r0.op, .int .i64 r0.ct, .int .i64 r0.n, .int .i64 r0.m, .int .i64 r0.va, .slice A_g0 r0.ks.length cap_g0]) := rb_g0.out.same (hg36.block _ rb_g0.out.lt nb_rb_g0_g0.out)
          clear rb_g0
          have rb_g0 := rb_g0n
          clear rb_g0n
          have KP := Lib.hid (show Kept F_w0 W34 W36 from (hg36.kept Y_w0.out dj_w0_g0.out))
          have X_w0n := Lib.hid (PR.mono _ _ _ KP.out X_w0.out)
          have Y_w0n := Lib.hid (Y_w0.out.mono hg36.size)
          have Z_w0n := Lib.hid (Z_w0.out.kept KP.out)
          clear X_w0 Y_w0 KP Z_w0
          have X_w0 := X_w0n
          have Y_w0 := Y_w0n
          have Z_w0 := Z_w0n
          clear X_w0n Y_w0n Z_w0n
          clear X_g0
          have X_g0 := Lib.hid hm36
          have Y_g0n := Lib.hid (Y_g0.out.mono hg36.size)
          clear Y_g0
          have Y_g0 := Y_g0n
          clear Z_g0
          have Z_g0 := Lib.hid hfr36
          clear Y_g0n hm36 hfr36
          have bx1c0 : W36.cell? ⟨w.heap.size, 0, none⟩ = some (.int .i64 x1.d) := (bx1.out.cell 0).trans (by simp)
          have bx1c1 : W36.cell? ⟨w.heap.size, 1, none⟩ = some (.int .i64 x1.i) := (bx1.out.cell 1).trans (by simp)
          have bx1lt : w.heap.size < W36.heap.size := bx1.out.lt
          have bx2c0 : W36.cell? ⟨w.heap.size + 1, 0, none⟩ = some (.int .i64 x2.c) := (bx2.out.cell 0).trans (by simp)
          have bx2c1 : W36.cell? ⟨w.heap.size + 1, 1, none⟩ = some (.int .i64 x2.n) := (bx2.out.cell 1).trans (by simp)
          have bx2c2 : W36.cell? ⟨w.heap.size + 1, 2, none⟩ = some (.slice A2 x2.ks.length cap2) := (bx2.out.cell 2).trans (by simp)
          have bx2lt : w.heap.size + 1 < W36.heap.size := bx2.out.lt
          have rb_w0c0 : W36.cell? ⟨rg_w0, 0, none⟩ = some (.int .i64 r0.op) := (rb_w0.out.cell 0).trans (by simp)
          have rb_w0c1 : W36.cell? ⟨rg_w0, 1, none⟩ = some (.int .i64 r0.ct) := (rb_w0.out.cell 1).trans (by simp)
          have rb_w0c2 : W36.cell? ⟨rg_w0, 2, none⟩ = some (.int .i64 r0.n) := (rb_w0.out.cell 2).trans (by simp)
          have rb_w0c3 : W36.cell? ⟨rg_w0, 3, none⟩ = some (.int .i64 r0.m) := (rb_w0.out.cell 3).trans (by simp)
          have rb_w0c4 : W36.cell? ⟨rg_w0, 4, none⟩ = some (.int .i64 r0.va) := (rb_w0.out.cell 4).trans (by simp)
          have rb_w0c5 : W36.cell? ⟨rg_w0, 5, none⟩ = some (.slice A_w0 r0.ks.length cap_w0) := (rb_w0.out.cell 5).trans (by simp)
          have rb_w0lt : rg_w0 < W36.heap.size := rb_w0.out.lt
          have xb2c0 : W36.cell? ⟨W14.heap.size, 0, none⟩ = some (.int .i64 x2.c) := (xb2.out.cell 0).trans (by simp)
          have xb2c1 : W36.cell? ⟨W14.heap.size, 1, none⟩ = some (.int .i64 x2.n) := (xb2.out.cell 1).trans (by simp)
          have xb2c2 : W36.cell? ⟨W14.heap.size, 2, none⟩ = some (.slice B2 x2.ks.length bap2) := (xb2.out.cell 2).trans (by simp)
          have xb2lt : W14.heap.size < W36.heap.size := xb2.out.lt
          have rb_g0c0 : W36.cell? ⟨rg_g0, 0, none⟩ = some (.int .i64 r0.op) := (rb_g0.out.cell 0).trans (by simp)
          have rb_g0c1 : W36.cell? ⟨rg_g0, 1, none⟩ = some (.int .i64 r0.ct) := (rb_g0.out.cell 1).trans (by simp)
          have rb_g0c2 : W36.cell? ⟨rg_g0, 2, none⟩ = some (.int .i64 r0.n) := (rb_g0.out.cell 2).trans (by simp)
          have rb_g0c3 : W36.cell? ⟨rg_g0, 3, none⟩ = some (.int .i64 r0.m) := (rb_g0.out.cell 3).trans (by simp)
          have rb_g0c4 : W36.cell? ⟨rg_g0, 4, none⟩ = some (.int .i64 r0.va) := (rb_g0.out.cell 4).trans (by simp)
          have rb_g0c5 : W36.cell? ⟨rg_g0, 5, none⟩ = some (.slice A_g0 r0.ks.length cap_g0) := (rb_g0.out.cell 5).trans (by simp)
          have rb_g0lt : rg_g0 < W36.heap.size := rb_g0.out.lt
          go_wp2_with fail
          clear bx1c0 bx1c1 bx2c0 bx2c1 bx2c2 rb_w0c0 rb_w0c1 rb_w0c2 rb_w0c3 rb_w0c4 rb_w0c5 xb2c0 xb2c1 xb2c2 rb_g0c0 rb_g0c1 rb_g0c2 rb_g0c3 rb_g0c4 rb_g0c5 bx1lt bx2lt rb_w0lt xb2lt rb_g0lt
          refine (heldPattern_any r0 W36 _ F_g0 1 (by omega) (by omega) X_g0.out Y_g0.out).mono ?_
          rintro e W38 ⟨rfl, hb38⟩
          have hB39 := hB37.trans (hb38.mono hB37.size)
          have bx1n : Hid (Blk W38 (w.heap.size) 24 #[.int .i64 x1.d, .int .i64 x1.i]) := bx1.out.same (hb38.block _ bx1.out.lt)
          clear bx1
          have bx1 := bx1n
          clear bx1n
          have bx2n : Hid (Blk W38 (w.heap.size + 1) 27 #[.int .i64 x2.c, .int .i64 x2.n, .slice A2 x2.ks.length cap2]) := bx2.out.same (hb38.block _ bx2.out.lt)
          clear bx2
          have bx2 := bx2n
          clear bx2n
          have rb_w0n : Hid (Blk W38 (rg_w0) 32 #[.int .i64 r0.op, .int .i64 r0.ct, .int .i64 r0.n, .int .i64 r0.m, .int .i64 r0.va, .slice A_w0 r0.ks.length cap_w0]) := rb_w0.out.same (hb38.block _ rb_w0.out.lt)
          clear rb_w0
          have rb_w0 := rb_w0n
          clear rb_w0n
          have xb2n : Hid (Blk W38 (W14.heap.size) 41 #[.int .i64 x2.c, .int .i64 x2.n, .slice B2 x2.ks.length bap2]) := xb2.out.same (hb38.block _ xb2.out.lt)
          clear xb2
          have xb2 := xb2n
          clear xb2n
          have rb_g0n : Hid (Blk W38 (rg_g0) 32 #[.int .i64 r0.op, .int .i64 r0.ct, .int .i64 r0.n, .int .i64 r0.m, .int .i64 r0.va, .slice A_g0 r0.ks.length cap_g0]) := rb_g0.out.same (hb38.block _ rb_g0.out.lt)
          clear rb_g0
          have rb_g0 := rb_g0n
          clear rb_g0n
          have KP := Lib.hid (show Kept F_w0 W36 W38 from (Kept.of_below (w := W36) hb38 Y_w0.out))
          have X_w0n := Lib.hid (PR.mono _ _ _ KP.out X_w0.out)
          have Y_w0n := Lib.hid (Y_w0.out.mono hb38.size)
          have Z_w0n := Lib.hid (Z_w0.out.kept KP.out)
          clear X_w0 Y_w0 KP Z_w0
          have X_w0 := X_w0n
          have Y_w0 := Y_w0n
          have Z_w0 := Z_w0n
          clear X_w0n Y_w0n Z_w0n
          have KP := Lib.hid (show Kept F_g0 W36 W38 from (Kept.of_below (w := W36) hb38 Y_g0.out))
          have X_g0n := Lib.hid (PR.mono _ _ _ KP.out X_g0.out)
          have Y_g0n := Lib.hid (Y_g0.out.mono hb38.size)
          have Z_g0n := Lib.hid (Z_g0.out.kept KP.out)
          clear X_g0 Y_g0 KP Z_g0
          have X_g0 := X_g0n
          have Y_g0 := Y_g0n
          have Z_g0 := Z_g0n
          clear X_g0n Y_g0n Z_g0n
          have bx1c0 : W38.cell? ⟨w.heap.size, 0, none⟩ = some (.int .i64 x1.d) := (bx1.out.cell 0).trans (by simp)
          have bx1c1 : W38.cell? ⟨w.heap.size, 1, none⟩ = some (.int .i64 x1.i) := (bx1.out.cell 1).trans (by simp)
          have bx1lt : w.heap.size < W38.heap.size := bx1.out.lt
          have bx2c0 : W38.cell? ⟨w.heap.size + 1, 0, none⟩ = some (.int .i64 x2.c) := (bx2.out.cell 0).trans (by simp)
          have bx2c1 : W38.cell? ⟨w.heap.size + 1, 1, none⟩ = some (.int .i64 x2.n) := (bx2.out.cell 1).trans (by simp)
          have bx2c2 : W38.cell? ⟨w.heap.size + 1, 2, none⟩ = some (.slice A2 x2.ks.length cap2) := (bx2.out.cell 2).trans (by simp)
          have bx2lt : w.heap.size + 1 < W38.heap.size := bx2.out.lt
          have rb_w0c0 : W38.cell? ⟨rg_w0, 0, none⟩ = some (.int .i64 r0.op) := (rb_w0.out.cell 0).trans (by simp)
          have rb_w0c1 : W38.cell? ⟨rg_w0, 1, none⟩ = some (.int .i64 r0.ct) := (rb_w0.out.cell 1).trans (by simp)
          have rb_w0c2 : W38.cell? ⟨rg_w0, 2, none⟩ = some (.int .i64 r0.n) := (rb_w0.out.cell 2).trans (by simp)
          have rb_w0c3 : W38.cell? ⟨rg_w0, 3, none⟩ = some (.int .i64 r0.m) := (rb_w0.out.cell 3).trans (by simp)
          have rb_w0c4 : W38.cell? ⟨rg_w0, 4, none⟩ = some (.int .i64 r0.va) := (rb_w0.out.cell 4).trans (by simp)
          have rb_w0c5 : W38.cell? ⟨rg_w0, 5, none⟩ = some (.slice A_w0 r0.ks.length cap_w0) := (rb_w0.out.cell 5).trans (by simp)
          have rb_w0lt : rg_w0 < W38.heap.size := rb_w0.out.lt
          have xb2c0 : W38.cell? ⟨W14.heap.size, 0, none⟩ = some (.int .i64 x2.c) := (xb2.out.cell 0).trans (by simp)
          have xb2c1 : W38.cell? ⟨W14.heap.size, 1, none⟩ = some (.int .i64 x2.n) := (xb2.out.cell 1).trans (by simp)
          have xb2c2 : W38.cell? ⟨W14.heap.size, 2, none⟩ = some (.slice B2 x2.ks.length bap2) := (xb2.out.cell 2).trans (by simp)
          have xb2lt : W14.heap.size < W38.heap.size := xb2.out.lt
          have rb_g0c0 : W38.cell? ⟨rg_g0, 0, none⟩ = some (.int .i64 r0.op) := (rb_g0.out.cell 0).trans (by simp)
          have rb_g0c1 : W38.cell? ⟨rg_g0, 1, none⟩ = some (.int .i64 r0.ct) := (rb_g0.out.cell 1).trans (by simp)
          have rb_g0c2 : W38.cell? ⟨rg_g0, 2, none⟩ = some (.int .i64 r0.n) := (rb_g0.out.cell 2).trans (by simp)
          have rb_g0c3 : W38.cell? ⟨rg_g0, 3, none⟩ = some (.int .i64 r0.m) := (rb_g0.out.cell 3).trans (by simp)
          have rb_g0c4 : W38.cell? ⟨rg_g0, 4, none⟩ = some (.int .i64 r0.va) := (rb_g0.out.cell 4).trans (by simp)
          have rb_g0c5 : W38.cell? ⟨rg_g0, 5, none⟩ = some (.slice A_g0 r0.ks.length cap_g0) := (rb_g0.out.cell 5).trans (by simp)
          have rb_g0lt : rg_g0 < W38.heap.size := rb_g0.out.lt
          go_wp2_with fail
          have SU40_w0 := Y_w0
          have SU40_g0 := Y_g0
          have SB40_bx1 := Lib.hid bx1.out.lt
          have SB40_bx2 := Lib.hid bx2.out.lt
          have SB40_rb_w0 := Lib.hid rb_w0.out.lt
          have SB40_xb2 := Lib.hid xb2.out.lt
          have SB40_rb_g0 := Lib.hid rb_g0.out.lt
          go_cut [17, 18] from 19 (fun p b wq => ∃ (g : Nat) (cs : List Value) (F : List Nat), p = .pointer (some ⟨g, 0, none⟩) ∧ b = .bool (rb) ∧ Hid (Below W38.heap.size W38 wq) ∧ Hid (Blk wq g 32 cs.toArray) ∧ Hid (W38.heap.size ≤ g) ∧ Hid (g ∉ F) ∧ Hid (PR wq (r0) cs F) ∧ Hid (Free wq F) ∧ Hid (Fresh W38 wq F))
          case first =>
            have HS : Hid (∀ C : World, Below W38.heap.size W38 C → (C.cell? ⟨w.heap.size, 0, none⟩ = some (.int .i64 x1.d) ∧ C.cell? ⟨w.heap.size, 1, none⟩ = some (.int .i64 x1.i) ∧ C.cell? ⟨w.heap.size + 1, 0, none⟩ = some (.int .i64 x2.c) ∧ C.cell? ⟨w.heap.size + 1, 1, none⟩ = some (.int .i64 x2.n) ∧ C.cell? ⟨w.heap.size + 1, 2, none⟩ = some (.slice A2 x2.ks.length cap2))) := fun C hC => ⟨((bx1.out.same (hC.block _ bx1.out.lt)).cell 0).trans (by simp), ((bx1.out.same (hC.block _ bx1.out.lt)).cell 1).trans (by simp), ((bx2.out.same (hC.block _ bx2.out.lt)).cell 0).trans (by simp), ((bx2.out.same (hC.block _ bx2.out.lt)).cell 1).trans (by simp), ((bx2.out.same (hC.block _ bx2.out.lt)).cell 2).trans (by simp)⟩
            have hC0 : Below W38.heap.size W38 W38.drew := (Below.refl _ _).drew
            clear bx1c0 bx1c1 bx2c0 bx2c1 bx2c2 rb_w0c0 rb_w0c1 rb_w0c2 rb_w0c3 rb_w0c4 rb_w0c5 xb2c0 xb2c1 xb2c2 rb_g0c0 rb_g0c1 rb_g0c2 rb_g0c3 rb_g0c4 rb_g0c5 bx1lt bx2lt rb_w0lt xb2lt rb_g0lt
            refine wp_region_B (S := fun w' => w'.cell? ⟨w.heap.size, 0, none⟩ = some (.int .i64 x1.d) ∧ w'.cell? ⟨w.heap.size, 1, none⟩ = some (.int .i64 x1.i) ∧ w'.cell? ⟨w.heap.size + 1, 0, none⟩ = some (.int .i64 x2.c) ∧ w'.cell? ⟨w.heap.size + 1, 1, none⟩ = some (.int .i64 x2.n) ∧ w'.cell? ⟨w.heap.size + 1, 2, none⟩ = some (.slice A2 x2.ks.length cap2)) (T := fun _ => True) (d := 12) (by kernel_rfl) ?_
            generalize W38.drew = wd at *
            have hS0 := HS.out _ hC0
            have hT0 : True := trivial
            refine wpAnyB_take (i := 0) (v := ?_) rfl (by decide) (by kernel_rfl) (by kernel_rfl) (by kernel_rfl) (fun _ _ _ h => h) (Or.inl ⟨by rfl, ?hy0⟩) hS0 (fun _ => hT0) ?_
            case hy0 => (intro W hSw; (try dsimp only at hSw); (try obtain ⟨hSw0, hSw1, hSw2, hSw3, hSw4⟩ := hSw); go_simp; try with_reducible rfl)
            (try simp only [Act.put, List.getElem_toArray, List.getElem_cons_zero, List.getElem_cons_succ, List.setIfInBounds_toArray, List.set_cons_zero, List.set_cons_succ])
            refine wpAnyB_take (i := 2) (v := ?_) rfl (by decide) (by kernel_rfl) (by kernel_rfl) (by kernel_rfl) (fun _ _ _ h => h) (Or.inl ⟨by rfl, ?hy2⟩) hS0 (fun _ => hT0) ?_
            case hy2 => (intro W hSw; (try dsimp only at hSw); (try obtain ⟨hSw0, hSw1, hSw2, hSw3, hSw4⟩ := hSw); go_simp; try with_reducible rfl)
            (try simp only [Act.put, List.getElem_toArray, List.getElem_cons_zero, List.getElem_cons_succ, List.setIfInBounds_toArray, List.set_cons_zero, List.set_cons_succ])
            refine wpAnyB_take (i := 4) (v := ?_) rfl (by decide) (by kernel_rfl) (by kernel_rfl) (by kernel_rfl) (fun _ _ _ h => h) (Or.inl ⟨by rfl, ?hy4⟩) hS0 (fun _ => hT0) ?_
            case hy4 => (intro W hSw; (try dsimp only at hSw); (try obtain ⟨hSw0, hSw1, hSw2, hSw3, hSw4⟩ := hSw); go_simp; try with_reducible rfl)
            (try simp only [Act.put, List.getElem_toArray, List.getElem_cons_zero, List.getElem_cons_succ, List.setIfInBounds_toArray, List.set_cons_zero, List.set_cons_succ])
            refine wpAnyB_ready (rs := [1, 10]) (by kernel_rfl) (by simp) ?_
            refine AllReadyB.cons rfl (fun K hK => ?_) (AllReadyB.cons rfl (fun K hK => ?_) AllReadyB.nil)
            · skip
              go_simp
              go_at_call 18
              refine (toDataS_any x0 _ F0 _ (ArrDt.below HR0.out (hB39.trans (hC0.mono hB39.size)) HU0.out) (HU0.out.mono (hB39.trans (hC0.mono hB39.size)).size) hs0).mono ?_
              rintro e C1 ⟨yc1, Gc1, rfl, hb1, hvc1, hfrc1, hfsc1⟩
              have hC1 : Below W38.heap.size W38 C1 := hC0.trans (hb1.mono hC0.size)
              have cr1 := Lib.hid hvc1
              have cu1 := Lib.hid hfsc1.under
              clear hvc1 hfrc1 hfsc1
              (try dsimp only)
              refine hK.out _ _ (HS.out _ hC1) (fun _ => trivial) ?_
              clear hK K
              (try simp only [Act.put, List.getElem_toArray, List.getElem_cons_zero, List.getElem_cons_succ, List.setIfInBounds_toArray, List.set_cons_zero, List.set_cons_succ])
              refine wpAnyB_ready (rs := [3, 10]) (by kernel_rfl) (by simp) ?_
              refine AllReadyB.cons rfl (fun K hK => ?_) (AllReadyB.cons rfl (fun K hK => ?_) AllReadyB.nil)
              · skip
                go_simp
                go_at_call 19
                refine (toType_any x1 _ _ [] (TyR.mk0 _ x1) (Under.nil _) (Ty.size_le x1)).mono ?_
                rintro e C2 ⟨dsc2, Gc2, rfl, hb2, ⟨rfl, rfl⟩, hfrc2, hfsc2⟩
                have hC2 : Below W38.heap.size W38 C2 := hC1.trans (hb2.mono hC1.size)
                have cr3 := Lib.hid ((ArrDt.below cr1.out hb2 cu1.out))
                have cu3 := Lib.hid (cu1.out.mono hb2.size)
                clear hfrc2 hfsc2
                (try dsimp only)
                refine hK.out _ _ (HS.out _ hC2) (fun _ => trivial) ?_
                clear hK K
                (try simp only [Act.put, List.getElem_toArray, List.getElem_cons_zero, List.getElem_cons_succ, List.setIfInBounds_toArray, List.set_cons_zero, List.set_cons_succ])
                refine wpAnyB_ready (rs := [5, 10]) (by kernel_rfl) (by simp) ?_
                refine AllReadyB.cons rfl (fun K hK => ?_) (AllReadyB.cons rfl (fun K hK => ?_) AllReadyB.nil)
                · skip
                  go_simp
                  go_at_call 20
                  refine (toValue_any x2 _ _ F2 (HR2.out.below (hB39.trans (hC2.mono hB39.size)) HU2.out) (HU2.out.mono (hB39.trans (hC2.mono hB39.size)).size) hs2).mono ?_
                  rintro e C4 ⟨dsc4, Gc4, rfl, hb4, hvc4, hfrc4, hfsc4⟩
                  have hC4 : Below W38.heap.size W38 C4 := hC2.trans (hb4.mono hC2.size)
                  have cr5 := Lib.hid ((ArrDt.below cr3.out hb4 cu3.out))
                  have cu5 := Lib.hid (cu3.out.mono hb4.size)
                  have cr4 := Lib.hid hvc4
                  have cu4 := Lib.hid hfsc4.under
                  clear hvc4 hfrc4 hfsc4
                  (try dsimp only)
                  refine hK.out _ _ (HS.out _ hC4) (fun _ => trivial) ?_
                  clear hK K
                  (try simp only [Act.put, List.getElem_toArray, List.getElem_cons_zero, List.getElem_cons_succ, List.setIfInBounds_toArray, List.set_cons_zero, List.set_cons_succ])
                  refine wpAnyB_ready (rs := [6, 10]) (by kernel_rfl) (by simp) ?_
                  refine AllReadyB.cons rfl (fun K hK => ?_) (AllReadyB.cons rfl (fun K hK => ?_) AllReadyB.nil)
                  · skip
                    go_simp
                    go_at_call 21
                    refine (impl_PatternOf x0 x1 x2 _ _ Gc1 _ Gc4 cr5.out cu5.out cr4.out cu4.out hs2).mono ?_
                    rintro e C6 ⟨cs6, F6, rfl, hb6, hp6, hfr6, hfs6⟩
                    rw [HRes.out] at hp6
                    obtain ⟨kv6, rfl, ha6⟩ := (PR_iff _ _ _).1 hp6
                    obtain ⟨A6, cap6, rfl, -, -⟩ := ha6.form
                    clear ha6
                    have hC6 : Below W38.heap.size W38 C6 := hC4.trans (hb6.mono hC4.size)
                    have HP6 := Lib.hid hp6
                    have HFr6 := Lib.hid hfr6
                    have HFs6 := Lib.hid hfs6
                    clear hp6 hfr6 hfs6
                    (try dsimp only)
                    refine hK.out _ _ (HS.out _ hC6) (fun _ => trivial) ?_
                    clear hK K
                    (try simp only [Act.put, List.getElem_toArray, List.getElem_cons_zero, List.getElem_cons_succ, List.setIfInBounds_toArray, List.set_cons_zero, List.set_cons_succ])
                    have hSx6 := HS.out _ hC6
                    refine wpAnyB_take (i := 7) (v := ?_) rfl (by decide) (by kernel_rfl) (by kernel_rfl) (by kernel_rfl) (fun _ _ _ h => h) (Or.inl ⟨by rfl, ?hy7⟩) hSx6 (fun _ => hT0) ?_
                    case hy7 => (intro W hSw; (try dsimp only at hSw); (try obtain ⟨hSw0, hSw1, hSw2, hSw3, hSw4⟩ := hSw); go_simp; try with_reducible rfl)
                    (try simp only [Act.put, List.getElem_toArray, List.getElem_cons_zero, List.getElem_cons_succ, List.setIfInBounds_toArray, List.set_cons_zero, List.set_cons_succ])
                    refine wpAnyB_take (i := 8) (v := ?_) rfl (by decide) (by kernel_rfl) (by kernel_rfl) (by kernel_rfl) (fun _ _ _ h => h) (Or.inl ⟨by rfl, ?hy8⟩) hSx6 (fun _ => hT0) ?_
                    case hy8 => (intro W hSw; (try dsimp only at hSw); (try obtain ⟨hSw0, hSw1, hSw2, hSw3, hSw4⟩ := hSw); go_simp; try with_reducible rfl)
                    (try simp only [Act.put, List.getElem_toArray, List.getElem_cons_zero, List.getElem_cons_succ, List.setIfInBounds_toArray, List.set_cons_zero, List.set_cons_succ])
                    refine wpAnyB_take (i := 9) (v := ?_) rfl (by decide) (by kernel_rfl) (by kernel_rfl) (by kernel_rfl) (fun _ _ _ h => h) (Or.inl ⟨by rfl, ?hy9⟩) hSx6 (fun _ => hT0) ?_
                    case hy9 => (intro W hSw; (try dsimp only at hSw); (try obtain ⟨hSw0, hSw1, hSw2, hSw3, hSw4⟩ := hSw); go_simp; try with_reducible rfl)
                    (try simp only [Act.put, List.getElem_toArray, List.getElem_cons_zero, List.getElem_cons_succ, List.setIfInBounds_toArray, List.set_cons_zero, List.set_cons_succ])
                    refine wpAnyB_ready (rs := [10]) (by kernel_rfl) (by simp) ?_
                    refine AllReadyB.cons rfl (fun K hK => ?_) AllReadyB.nil
                    go_simp
                    obtain ⟨C7, hX⟩ : ∃ X, X = C6.alloc (.cells #[.int .i64 0, .int .i64 0, .int .i64 0, .int .i64 0, .int .i64 0, .slice none 0 0] 32) := ⟨_, rfl⟩
                    have hb7 : Below C6.heap.size C6 C7 := by rw [hX]; exact (Below.refl _ _).alloc (Nat.le_refl _) _
                    have cb7 : Hid (Blk C7 C6.heap.size 32 #[.int .i64 0, .int .i64 0, .int .i64 0, .int .i64 0, .int .i64 0, .slice none 0 0]) := by rw [hX]; exact Blk.new _ _ _
                    rw [← hX]
                    clear hX
                    have hC7 : Below W38.heap.size W38 C7 := hC6.trans (hb7.mono hC6.size)
                    have cp8 := Lib.hid ((PR.below HP6.out hb7 HFs6.out.under))
                    have cf8 := Lib.hid (HFr6.out.kept (.of_below hb7 HFs6.out.under))
                    have cs8 : Hid (Fresh C4 C7 F6) := fun b hb => ⟨(HFs6.out b hb).1, Nat.lt_of_lt_of_le (HFs6.out b hb).2 hb7.size⟩
                    have HGE7 : Hid (W38.heap.size ≤ C6.heap.size) := hC6.size
                    (try dsimp only)
                    refine hK.out _ _ (HS.out _ hC7) (fun _ => trivial) ?_
                    clear hK K
                    (try simp only [Act.put, List.getElem_toArray, List.getElem_cons_zero, List.getElem_cons_succ, List.setIfInBounds_toArray, List.set_cons_zero, List.set_cons_succ])
                    have y0 : C7.cell? ⟨C6.heap.size, 0, none⟩ = some (.int .i64 0) := (cb7.out.cell 0).trans (by simp)
                    have f0 := cb7.out.frozen 0
                    have y1 : C7.cell? ⟨C6.heap.size, 1, none⟩ = some (.int .i64 0) := (cb7.out.cell 1).trans (by simp)
                    have f1 := cb7.out.frozen 1
                    have y2 : C7.cell? ⟨C6.heap.size, 2, none⟩ = some (.int .i64 0) := (cb7.out.cell 2).trans (by simp)
                    have f2 := cb7.out.frozen 2
                    have y3 : C7.cell? ⟨C6.heap.size, 3, none⟩ = some (.int .i64 0) := (cb7.out.cell 3).trans (by simp)
                    have f3 := cb7.out.frozen 3
                    have y4 : C7.cell? ⟨C6.heap.size, 4, none⟩ = some (.int .i64 0) := (cb7.out.cell 4).trans (by simp)
                    have f4 := cb7.out.frozen 4
                    have y5 : C7.cell? ⟨C6.heap.size, 5, none⟩ = some (.slice none 0 0) := (cb7.out.cell 5).trans (by simp)
                    have f5 := cb7.out.frozen 5
                    have ylt := cb7.out.lt
                    have hCe : Hid (Below W38.heap.size W38 ((((((C7.setCell ⟨C6.heap.size, 0, none⟩ (.int .i64 (r0).op)).setCell ⟨C6.heap.size, 1, none⟩ (.int .i64 (r0).ct)).setCell ⟨C6.heap.size, 2, none⟩ (.int .i64 (r0).n)).setCell ⟨C6.heap.size, 3, none⟩ (.int .i64 (r0).m)).setCell ⟨C6.heap.size, 4, none⟩ (.int .i64 (r0).va)).setCell ⟨C6.heap.size, 5, none⟩ (.slice A6 (r0).ks.length cap6))) := ((((((hC7.setCell HGE7.out _).setCell HGE7.out _).setCell HGE7.out _).setCell HGE7.out _).setCell HGE7.out _).setCell HGE7.out _)
                    have cbe : Hid (Blk ((((((C7.setCell ⟨C6.heap.size, 0, none⟩ (.int .i64 (r0).op)).setCell ⟨C6.heap.size, 1, none⟩ (.int .i64 (r0).ct)).setCell ⟨C6.heap.size, 2, none⟩ (.int .i64 (r0).n)).setCell ⟨C6.heap.size, 3, none⟩ (.int .i64 (r0).m)).setCell ⟨C6.heap.size, 4, none⟩ (.int .i64 (r0).va)).setCell ⟨C6.heap.size, 5, none⟩ (.slice A6 (r0).ks.length cap6)) (C6.heap.size) 32 #[.int .i64 (r0).op, .int .i64 (r0).ct, .int .i64 (r0).n, .int .i64 (r0).m, .int .i64 (r0).va, .slice A6 (r0).ks.length cap6]) := ((((((cb7.out.set_ 0 _).set_ 1 _).set_ 2 _).set_ 3 _).set_ 4 _).set_ 5 _)
                    have hgF : ∀ b ∈ F6, b ≠ C6.heap.size := fun b hb e => Nat.lt_irrefl _ (by have h1 := (HFs6.out b hb).2; rw [e] at h1; exact h1)
                    have hkp : Kept F6 C7 ((((((C7.setCell ⟨C6.heap.size, 0, none⟩ (.int .i64 (r0).op)).setCell ⟨C6.heap.size, 1, none⟩ (.int .i64 (r0).ct)).setCell ⟨C6.heap.size, 2, none⟩ (.int .i64 (r0).n)).setCell ⟨C6.heap.size, 3, none⟩ (.int .i64 (r0).m)).setCell ⟨C6.heap.size, 4, none⟩ (.int .i64 (r0).va)).setCell ⟨C6.heap.size, 5, none⟩ (.slice A6 (r0).ks.length cap6)) := fun b hb => by rw [Below.heap_setCell _ _ _ _ (hgF b hb), Below.heap_setCell _ _ _ _ (hgF b hb), Below.heap_setCell _ _ _ _ (hgF b hb), Below.heap_setCell _ _ _ _ (hgF b hb), Below.heap_setCell _ _ _ _ (hgF b hb), Below.heap_setCell _ _ _ _ (hgF b hb)]
                    have hpe : Hid (PR ((((((C7.setCell ⟨C6.heap.size, 0, none⟩ (.int .i64 (r0).op)).setCell ⟨C6.heap.size, 1, none⟩ (.int .i64 (r0).ct)).setCell ⟨C6.heap.size, 2, none⟩ (.int .i64 (r0).n)).setCell ⟨C6.heap.size, 3, none⟩ (.int .i64 (r0).m)).setCell ⟨C6.heap.size, 4, none⟩ (.int .i64 (r0).va)).setCell ⟨C6.heap.size, 5, none⟩ (.slice A6 (r0).ks.length cap6)) (r0) [.int .i64 (r0).op, .int .i64 (r0).ct, .int .i64 (r0).n, .int .i64 (r0).m, .int .i64 (r0).va, .slice A6 (r0).ks.length cap6] F6) := PR.mono _ _ _ hkp cp8.out
                    have hfe : Hid (Free ((((((C7.setCell ⟨C6.heap.size, 0, none⟩ (.int .i64 (r0).op)).setCell ⟨C6.heap.size, 1, none⟩ (.int .i64 (r0).ct)).setCell ⟨C6.heap.size, 2, none⟩ (.int .i64 (r0).n)).setCell ⟨C6.heap.size, 3, none⟩ (.int .i64 (r0).m)).setCell ⟨C6.heap.size, 4, none⟩ (.int .i64 (r0).va)).setCell ⟨C6.heap.size, 5, none⟩ (.slice A6 (r0).ks.length cap6)) F6) := cf8.out.kept hkp
                    have hse : Hid (Fresh W38 ((((((C7.setCell ⟨C6.heap.size, 0, none⟩ (.int .i64 (r0).op)).setCell ⟨C6.heap.size, 1, none⟩ (.int .i64 (r0).ct)).setCell ⟨C6.heap.size, 2, none⟩ (.int .i64 (r0).n)).setCell ⟨C6.heap.size, 3, none⟩ (.int .i64 (r0).m)).setCell ⟨C6.heap.size, 4, none⟩ (.int .i64 (r0).va)).setCell ⟨C6.heap.size, 5, none⟩ (.slice A6 (r0).ks.length cap6)) F6) := fun b hb => ⟨Nat.le_trans hC4.size (cs8.out b hb).1, by simpa [World.setCell] using (cs8.out b hb).2⟩
                    have hge : Hid (C6.heap.size ∉ F6) := fun h => hgF _ h rfl
                    clear hkp hgF
                    refine wpAnyB_ready (rs := [11]) (by kernel_rfl) (by simp) ?_
                    refine AllReadyB.cons rfl (fun K hK => ?_) AllReadyB.nil
                    go_simp
                    refine hK.out _ _ (HS.out _ hCe.out) (fun _ => trivial) ?_
                    clear hK K
                    (try simp only [Act.put, List.getElem_toArray, List.getElem_cons_zero, List.getElem_cons_succ, List.setIfInBounds_toArray, List.set_cons_zero, List.set_cons_succ])
                    refine wpAnyB_ready (rs := [12]) (by kernel_rfl) (by simp) ?_
                    refine AllReadyB.cons rfl (fun K hK => ?_) AllReadyB.nil
                    go_simp
                    refine hK.out _ _ (HS.out _ hCe.out) (fun _ => trivial) ?_
                    clear hK K
                    (try simp only [Act.put, List.getElem_toArray, List.getElem_cons_zero, List.getElem_cons_succ, List.setIfInBounds_toArray, List.set_cons_zero, List.set_cons_succ])
                    refine wpAnyB_end (by kernel_rfl) ?_
                    clear y0 f0 y1 f1 y2 f2 y3 f3 y4 f4 y5 f5 ylt
                    go_wp2
                    go_meet
                    case rel => exact ⟨_, _, _, rfl, (by rw [← HResb.out]), hCe, cbe, HGE7, hge, hpe, hfe, hse⟩
                  · skip
                    go_simp
                    obtain ⟨C10, hX⟩ : ∃ X, X = C4.alloc (.cells #[.int .i64 0, .int .i64 0, .int .i64 0, .int .i64 0, .int .i64 0, .slice none 0 0] 32) := ⟨_, rfl⟩
                    have hb10 : Below C4.heap.size C4 C10 := by rw [hX]; exact (Below.refl _ _).alloc (Nat.le_refl _) _
                    have cb10 : Hid (Blk C10 C4.heap.size 32 #[.int .i64 0, .int .i64 0, .int .i64 0, .int .i64 0, .int .i64 0, .slice none 0 0]) := by rw [hX]; exact Blk.new _ _ _
                    rw [← hX]
                    clear hX
                    have hC10 : Below W38.heap.size W38 C10 := hC4.trans (hb10.mono hC4.size)
                    have cr11 := Lib.hid ((ArrDt.below cr5.out hb10 cu5.out))
                    have cu11 := Lib.hid (cu5.out.mono hb10.size)
                    have cr12 := Lib.hid ((cr4.out.below hb10 cu4.out))
                    have cu12 := Lib.hid (cu4.out.mono hb10.size)
                    have HGE10 : Hid (W38.heap.size ≤ C4.heap.size) := hC4.size
                    (try dsimp only)
                    refine hK.out _ _ (HS.out _ hC10) (fun _ => trivial) ?_
                    clear hK K
                    (try simp only [Act.put, List.getElem_toArray, List.getElem_cons_zero, List.getElem_cons_succ, List.setIfInBounds_toArray, List.set_cons_zero, List.set_cons_succ])
                    refine wpAnyB_ready (rs := [6]) (by kernel_rfl) (by simp) ?_
                    refine AllReadyB.cons rfl (fun K hK => ?_) AllReadyB.nil
                    go_simp
                    go_at_call 21
                    refine (impl_PatternOf x0 x1 x2 _ _ Gc1 _ Gc4 cr11.out cu11.out cr12.out cu12.out hs2).mono ?_
                    rintro e C13 ⟨cs13, F13, rfl, hb13, hp13, hfr13, hfs13⟩
                    rw [HRes.out] at hp13
                    obtain ⟨kv13, rfl, ha13⟩ := (PR_iff _ _ _).1 hp13
                    obtain ⟨A13, cap13, rfl, -, -⟩ := ha13.form
                    clear ha13
                    have hC13 : Below W38.heap.size W38 C13 := hC10.trans (hb13.mono hC10.size)
                    have cb14 : Hid (Blk C13 C4.heap.size 32 #[.int .i64 0, .int .i64 0, .int .i64 0, .int .i64 0, .int .i64 0, .slice none 0 0]) := cb10.out.same (hb13.block _ cb10.out.lt)
                    have HP13 := Lib.hid hp13
                    have HFr13 := Lib.hid hfr13
                    have HFs13 := Lib.hid hfs13
                    clear hp13 hfr13 hfs13
                    (try dsimp only)
                    refine hK.out _ _ (HS.out _ hC13) (fun _ => trivial) ?_
                    clear hK K
                    (try simp only [Act.put, List.getElem_toArray, List.getElem_cons_zero, List.getElem_cons_succ, List.setIfInBounds_toArray, List.set_cons_zero, List.set_cons_succ])
                    have hSx13 := HS.out _ hC13
                    refine wpAnyB_take (i := 7) (v := ?_) rfl (by decide) (by kernel_rfl) (by kernel_rfl) (by kernel_rfl) (fun _ _ _ h => h) (Or.inl ⟨by rfl, ?hy7⟩) hSx13 (fun _ => hT0) ?_
                    case hy7 => (intro W hSw; (try dsimp only at hSw); (try obtain ⟨hSw0, hSw1, hSw2, hSw3, hSw4⟩ := hSw); go_simp; try with_reducible rfl)
                    (try simp only [Act.put, List.getElem_toArray, List.getElem_cons_zero, List.getElem_cons_succ, List.setIfInBounds_toArray, List.set_cons_zero, List.set_cons_succ])
                    refine wpAnyB_take (i := 8) (v := ?_) rfl (by decide) (by kernel_rfl) (by kernel_rfl) (by kernel_rfl) (fun _ _ _ h => h) (Or.inl ⟨by rfl, ?hy8⟩) hSx13 (fun _ => hT0) ?_
                    case hy8 => (intro W hSw; (try dsimp only at hSw); (try obtain ⟨hSw0, hSw1, hSw2, hSw3, hSw4⟩ := hSw); go_simp; try with_reducible rfl)
                    (try simp only [Act.put, List.getElem_toArray, List.getElem_cons_zero, List.getElem_cons_succ, List.setIfInBounds_toArray, List.set_cons_zero, List.set_cons_succ])
                    refine wpAnyB_take (i := 9) (v := ?_) rfl (by decide) (by kernel_rfl) (by kernel_rfl) (by kernel_rfl) (fun _ _ _ h => h) (Or.inl ⟨by rfl, ?hy9⟩) hSx13 (fun _ => hT0) ?_
                    case hy9 => (intro W hSw; (try dsimp only at hSw); (try obtain ⟨hSw0, hSw1, hSw2, hSw3, hSw4⟩ := hSw); go_simp; try with_reducible rfl)
                    (try simp only [Act.put, List.getElem_toArray, List.getElem_cons_zero, List.getElem_cons_succ, List.setIfInBounds_toArray, List.set_cons_zero, List.set_cons_succ])
                    have y0 : C13.cell? ⟨C4.heap.size, 0, none⟩ = some (.int .i64 0) := (cb14.out.cell 0).trans (by simp)
                    have f0 := cb14.out.frozen 0
                    have y1 : C13.cell? ⟨C4.heap.size, 1, none⟩ = some (.int .i64 0) := (cb14.out.cell 1).trans (by simp)
                    have f1 := cb14.out.frozen 1
                    have y2 : C13.cell? ⟨C4.heap.size, 2, none⟩ = some (.int .i64 0) := (cb14.out.cell 2).trans (by simp)
                    have f2 := cb14.out.frozen 2
                    have y3 : C13.cell? ⟨C4.heap.size, 3, none⟩ = some (.int .i64 0) := (cb14.out.cell 3).trans (by simp)
                    have f3 := cb14.out.frozen 3
                    have y4 : C13.cell? ⟨C4.heap.size, 4, none⟩ = some (.int .i64 0) := (cb14.out.cell 4).trans (by simp)
                    have f4 := cb14.out.frozen 4
                    have y5 : C13.cell? ⟨C4.heap.size, 5, none⟩ = some (.slice none 0 0) := (cb14.out.cell 5).trans (by simp)
                    have f5 := cb14.out.frozen 5
                    have ylt := cb14.out.lt
                    have hCe : Hid (Below W38.heap.size W38 ((((((C13.setCell ⟨C4.heap.size, 0, none⟩ (.int .i64 (r0).op)).setCell ⟨C4.heap.size, 1, none⟩ (.int .i64 (r0).ct)).setCell ⟨C4.heap.size, 2, none⟩ (.int .i64 (r0).n)).setCell ⟨C4.heap.size, 3, none⟩ (.int .i64 (r0).m)).setCell ⟨C4.heap.size, 4, none⟩ (.int .i64 (r0).va)).setCell ⟨C4.heap.size, 5, none⟩ (.slice A13 (r0).ks.length cap13))) := ((((((hC13.setCell HGE10.out _).setCell HGE10.out _).setCell HGE10.out _).setCell HGE10.out _).setCell HGE10.out _).setCell HGE10.out _)
                    have cbe : Hid (Blk ((((((C13.setCell ⟨C4.heap.size, 0, none⟩ (.int .i64 (r0).op)).setCell ⟨C4.heap.size, 1, none⟩ (.int .i64 (r0).ct)).setCell ⟨C4.heap.size, 2, none⟩ (.int .i64 (r0).n)).setCell ⟨C4.heap.size, 3, none⟩ (.int .i64 (r0).m)).setCell ⟨C4.heap.size, 4, none⟩ (.int .i64 (r0).va)).setCell ⟨C4.heap.size, 5, none⟩ (.slice A13 (r0).ks.length cap13)) (C4.heap.size) 32 #[.int .i64 (r0).op, .int .i64 (r0).ct, .int .i64 (r0).n, .int .i64 (r0).m, .int .i64 (r0).va, .slice A13 (r0).ks.length cap13]) := ((((((cb14.out.set_ 0 _).set_ 1 _).set_ 2 _).set_ 3 _).set_ 4 _).set_ 5 _)
                    have hgF : ∀ b ∈ F13, b ≠ C4.heap.size := fun b hb e => Nat.lt_irrefl _ (Nat.lt_of_lt_of_le (by rw [e]; exact cb10.out.lt) (HFs13.out b hb).1)
                    have hkp : Kept F13 C13 ((((((C13.setCell ⟨C4.heap.size, 0, none⟩ (.int .i64 (r0).op)).setCell ⟨C4.heap.size, 1, none⟩ (.int .i64 (r0).ct)).setCell ⟨C4.heap.size, 2, none⟩ (.int .i64 (r0).n)).setCell ⟨C4.heap.size, 3, none⟩ (.int .i64 (r0).m)).setCell ⟨C4.heap.size, 4, none⟩ (.int .i64 (r0).va)).setCell ⟨C4.heap.size, 5, none⟩ (.slice A13 (r0).ks.length cap13)) := fun b hb => by rw [Below.heap_setCell _ _ _ _ (hgF b hb), Below.heap_setCell _ _ _ _ (hgF b hb), Below.heap_setCell _ _ _ _ (hgF b hb), Below.heap_setCell _ _ _ _ (hgF b hb), Below.heap_setCell _ _ _ _ (hgF b hb), Below.heap_setCell _ _ _ _ (hgF b hb)]
                    have hpe : Hid (PR ((((((C13.setCell ⟨C4.heap.size, 0, none⟩ (.int .i64 (r0).op)).setCell ⟨C4.heap.size, 1, none⟩ (.int .i64 (r0).ct)).setCell ⟨C4.heap.size, 2, none⟩ (.int .i64 (r0).n)).setCell ⟨C4.heap.size, 3, none⟩ (.int .i64 (r0).m)).setCell ⟨C4.heap.size, 4, none⟩ (.int .i64 (r0).va)).setCell ⟨C4.heap.size, 5, none⟩ (.slice A13 (r0).ks.length cap13)) (r0) [.int .i64 (r0).op, .int .i64 (r0).ct, .int .i64 (r0).n, .int .i64 (r0).m, .int .i64 (r0).va, .slice A13 (r0).ks.length cap13] F13) := PR.mono _ _ _ hkp HP13.out
                    have hfe : Hid (Free ((((((C13.setCell ⟨C4.heap.size, 0, none⟩ (.int .i64 (r0).op)).setCell ⟨C4.heap.size, 1, none⟩ (.int .i64 (r0).ct)).setCell ⟨C4.heap.size, 2, none⟩ (.int .i64 (r0).n)).setCell ⟨C4.heap.size, 3, none⟩ (.int .i64 (r0).m)).setCell ⟨C4.heap.size, 4, none⟩ (.int .i64 (r0).va)).setCell ⟨C4.heap.size, 5, none⟩ (.slice A13 (r0).ks.length cap13)) F13) := HFr13.out.kept hkp
                    have hse : Hid (Fresh W38 ((((((C13.setCell ⟨C4.heap.size, 0, none⟩ (.int .i64 (r0).op)).setCell ⟨C4.heap.size, 1, none⟩ (.int .i64 (r0).ct)).setCell ⟨C4.heap.size, 2, none⟩ (.int .i64 (r0).n)).setCell ⟨C4.heap.size, 3, none⟩ (.int .i64 (r0).m)).setCell ⟨C4.heap.size, 4, none⟩ (.int .i64 (r0).va)).setCell ⟨C4.heap.size, 5, none⟩ (.slice A13 (r0).ks.length cap13)) F13) := fun b hb => ⟨Nat.le_trans hC10.size (HFs13.out b hb).1, by simpa [World.setCell] using (HFs13.out b hb).2⟩
                    have hge : Hid (C4.heap.size ∉ F13) := fun h => hgF _ h rfl
                    clear hkp hgF
                    refine wpAnyB_ready (rs := [11]) (by kernel_rfl) (by simp) ?_
                    refine AllReadyB.cons rfl (fun K hK => ?_) AllReadyB.nil
                    go_simp
                    refine hK.out _ _ (HS.out _ hCe.out) (fun _ => trivial) ?_
                    clear hK K
                    (try simp only [Act.put, List.getElem_toArray, List.getElem_cons_zero, List.getElem_cons_succ, List.setIfInBounds_toArray, List.set_cons_zero, List.set_cons_succ])
                    refine wpAnyB_ready (rs := [12]) (by kernel_rfl) (by simp) ?_
                    refine AllReadyB.cons rfl (fun K hK => ?_) AllReadyB.nil
                    go_simp
                    refine hK.out _ _ (HS.out _ hCe.out) (fun _ => trivial) ?_
                    clear hK K
                    (try simp only [Act.put, List.getElem_toArray, List.getElem_cons_zero, List.getElem_cons_succ, List.setIfInBounds_toArray, List.set_cons_zero, List.set_cons_succ])
                    refine wpAnyB_end (by kernel_rfl) ?_
                    clear y0 f0 y1 f1 y2 f2 y3 f3 y4 f4 y5 f5 ylt
                    go_wp2
                    go_meet
                    case rel => exact ⟨_, _, _, rfl, (by rw [← HResb.out]), hCe, cbe, HGE10, hge, hpe, hfe, hse⟩
                · skip
                  go_simp
                  obtain ⟨C16, hX⟩ : ∃ X, X = C2.alloc (.cells #[.int .i64 0, .int .i64 0, .int .i64 0, .int .i64 0, .int .i64 0, .slice none 0 0] 32) := ⟨_, rfl⟩
                  have hb16 : Below C2.heap.size C2 C16 := by rw [hX]; exact (Below.refl _ _).alloc (Nat.le_refl _) _
                  have cb16 : Hid (Blk C16 C2.heap.size 32 #[.int .i64 0, .int .i64 0, .int .i64 0, .int .i64 0, .int .i64 0, .slice none 0 0]) := by rw [hX]; exact Blk.new _ _ _
                  rw [← hX]
                  clear hX
                  have hC16 : Below W38.heap.size W38 C16 := hC2.trans (hb16.mono hC2.size)
                  have cr17 := Lib.hid ((ArrDt.below cr3.out hb16 cu3.out))
                  have cu17 := Lib.hid (cu3.out.mono hb16.size)
                  have HGE16 : Hid (W38.heap.size ≤ C2.heap.size) := hC2.size
                  (try dsimp only)
                  refine hK.out _ _ (HS.out _ hC16) (fun _ => trivial) ?_
                  clear hK K
                  (try simp only [Act.put, List.getElem_toArray, List.getElem_cons_zero, List.getElem_cons_succ, List.setIfInBounds_toArray, List.set_cons_zero, List.set_cons_succ])
                  refine wpAnyB_ready (rs := [5]) (by kernel_rfl) (by simp) ?_
                  refine AllReadyB.cons rfl (fun K hK => ?_) AllReadyB.nil
                  go_simp
                  go_at_call 20
                  refine (toValue_any x2 _ _ F2 (HR2.out.below (hB39.trans (hC16.mono hB39.size)) HU2.out) (HU2.out.mono (hB39.trans (hC16.mono hB39.size)).size) hs2).mono ?_
                  rintro e C18 ⟨dsc18, Gc18, rfl, hb18, hvc18, hfrc18, hfsc18⟩
                  have hC18 : Below W38.heap.size W38 C18 := hC16.trans (hb18.mono hC16.size)
                  have cr19 := Lib.hid ((ArrDt.below cr17.out hb18 cu17.out))
                  have cu19 := Lib.hid (cu17.out.mono hb18.size)
                  have cb20 : Hid (Blk C18 C2.heap.size 32 #[.int .i64 0, .int .i64 0, .int .i64 0, .int .i64 0, .int .i64 0, .slice none 0 0]) := cb16.out.same (hb18.block _ cb16.out.lt)
                  have cr18 := Lib.hid hvc18
                  have cu18 := Lib.hid hfsc18.under
                  clear hvc18 hfrc18 hfsc18
                  (try dsimp only)
                  refine hK.out _ _ (HS.out _ hC18) (fun _ => trivial) ?_
                  clear hK K
                  (try simp only [Act.put, List.getElem_toArray, List.getElem_cons_zero, List.getElem_cons_succ, List.setIfInBounds_toArray, List.set_cons_zero, List.set_cons_succ])
                  refine wpAnyB_ready (rs := [6]) (by kernel_rfl) (by simp) ?_
                  refine AllReadyB.cons rfl (fun K hK => ?_) AllReadyB.nil
                  go_simp
                  go_at_call 21
                  refine (impl_PatternOf x0 x1 x2 _ _ Gc1 _ Gc18 cr19.out cu19.out cr18.out cu18.out hs2).mono ?_
                  rintro e C21 ⟨cs21, F21, rfl, hb21, hp21, hfr21, hfs21⟩
                  rw [HRes.out] at hp21
                  obtain ⟨kv21, rfl, ha21⟩ := (PR_iff _ _ _).1 hp21
                  obtain ⟨A21, cap21, rfl, -, -⟩ := ha21.form
                  clear ha21
                  have hC21 : Below W38.heap.size W38 C21 := hC18.trans (hb21.mono hC18.size)
                  have cb22 : Hid (Blk C21 C2.heap.size 32 #[.int .i64 0, .int .i64 0, .int .i64 0, .int .i64 0, .int .i64 0, .slice none 0 0]) := cb20.out.same (hb21.block _ cb20.out.lt)
                  have HP21 := Lib.hid hp21
                  have HFr21 := Lib.hid hfr21
                  have HFs21 := Lib.hid hfs21
                  clear hp21 hfr21 hfs21
                  (try dsimp only)
                  refine hK.out _ _ (HS.out _ hC21) (fun _ => trivial) ?_
                  clear hK K
                  (try simp only [Act.put, List.getElem_toArray, List.getElem_cons_zero, List.getElem_cons_succ, List.setIfInBounds_toArray, List.set_cons_zero, List.set_cons_succ])
                  have hSx21 := HS.out _ hC21
                  refine wpAnyB_take (i := 7) (v := ?_) rfl (by decide) (by kernel_rfl) (by kernel_rfl) (by kernel_rfl) (fun _ _ _ h => h) (Or.inl ⟨by rfl, ?hy7⟩) hSx21 (fun _ => hT0) ?_
                  case hy7 => (intro W hSw; (try dsimp only at hSw); (try obtain ⟨hSw0, hSw1, hSw2, hSw3, hSw4⟩ := hSw); go_simp; try with_reducible rfl)
                  (try simp only [Act.put, List.getElem_toArray, List.getElem_cons_zero, List.getElem_cons_succ, List.setIfInBounds_toArray, List.set_cons_zero, List.set_cons_succ])
                  refine wpAnyB_take (i := 8) (v := ?_) rfl (by decide) (by kernel_rfl) (by kernel_rfl) (by kernel_rfl) (fun _ _ _ h => h) (Or.inl ⟨by rfl, ?hy8⟩) hSx21 (fun _ => hT0) ?_
                  case hy8 => (intro W hSw; (try dsimp only at hSw); (try obtain ⟨hSw0, hSw1, hSw2, hSw3, hSw4⟩ := hSw); go_simp; try with_reducible rfl)
                  (try simp only [Act.put, List.getElem_toArray, List.getElem_cons_zero, List.getElem_cons_succ, List.setIfInBounds_toArray, List.set_cons_zero, List.set_cons_succ])
                  refine wpAnyB_take (i := 9) (v := ?_) rfl (by decide) (by kernel_rfl) (by kernel_rfl) (by kernel_rfl) (fun _ _ _ h => h) (Or.inl ⟨by rfl, ?hy9⟩) hSx21 (fun _ => hT0) ?_
                  case hy9 => (intro W hSw; (try dsimp only at hSw); (try obtain ⟨hSw0, hSw1, hSw2, hSw3, hSw4⟩ := hSw); go_simp; try with_reducible rfl)
                  (try simp only [Act.put, List.getElem_toArray, List.getElem_cons_zero, List.getElem_cons_succ, List.setIfInBounds_toArray, List.set_cons_zero, List.set_cons_succ])
                  have y0 : C21.cell? ⟨C2.heap.size, 0, none⟩ = some (.int .i64 0) := (cb22.out.cell 0).trans (by simp)
                  have f0 := cb22.out.frozen 0
                  have y1 : C21.cell? ⟨C2.heap.size, 1, none⟩ = some (.int .i64 0) := (cb22.out.cell 1).trans (by simp)
                  have f1 := cb22.out.frozen 1
                  have y2 : C21.cell? ⟨C2.heap.size, 2, none⟩ = some (.int .i64 0) := (cb22.out.cell 2).trans (by simp)
                  have f2 := cb22.out.frozen 2
                  have y3 : C21.cell? ⟨C2.heap.size, 3, none⟩ = some (.int .i64 0) := (cb22.out.cell 3).trans (by simp)
                  have f3 := cb22.out.frozen 3
                  have y4 : C21.cell? ⟨C2.heap.size, 4, none⟩ = some (.int .i64 0) := (cb22.out.cell 4).trans (by simp)
                  have f4 := cb22.out.frozen 4
                  have y5 : C21.cell? ⟨C2.heap.size, 5, none⟩ = some (.slice none 0 0) := (cb22.out.cell 5).trans (by simp)
                  have f5 := cb22.out.frozen 5
                  have ylt := cb22.out.lt
                  have hCe : Hid (Below W38.heap.size W38 ((((((C21.setCell ⟨C2.heap.size, 0, none⟩ (.int .i64 (r0).op)).setCell ⟨C2.heap.size, 1, none⟩ (.int .i64 (r0).ct)).setCell ⟨C2.heap.size, 2, none⟩ (.int .i64 (r0).n)).setCell ⟨C2.heap.size, 3, none⟩ (.int .i64 (r0).m)).setCell ⟨C2.heap.size, 4, none⟩ (.int .i64 (r0).va)).setCell ⟨C2.heap.size, 5, none⟩ (.slice A21 (r0).ks.length cap21))) := ((((((hC21.setCell HGE16.out _).setCell HGE16.out _).setCell HGE16.out _).setCell HGE16.out _).setCell HGE16.out _).setCell HGE16.out _)
                  have cbe : Hid (Blk ((((((C21.setCell ⟨C2.heap.size, 0, none⟩ (.int .i64 (r0).op)).setCell ⟨C2.heap.size, 1, none⟩ (.int .i64 (r0).ct)).setCell ⟨C2.heap.size, 2, none⟩ (.int .i64 (r0).n)).setCell ⟨C2.heap.size, 3, none⟩ (.int .i64 (r0).m)).setCell ⟨C2.heap.size, 4, none⟩ (.int .i64 (r0).va)).setCell ⟨C2.heap.size, 5, none⟩ (.slice A21 (r0).ks.length cap21)) (C2.heap.size) 32 #[.int .i64 (r0).op, .int .i64 (r0).ct, .int .i64 (r0).n, .int .i64 (r0).m, .int .i64 (r0).va, .slice A21 (r0).ks.length cap21]) := ((((((cb22.out.set_ 0 _).set_ 1 _).set_ 2 _).set_ 3 _).set_ 4 _).set_ 5 _)
                  have hgF : ∀ b ∈ F21, b ≠ C2.heap.size := fun b hb e => Nat.lt_irrefl _ (Nat.lt_of_lt_of_le (by rw [e]; exact cb20.out.lt) (HFs21.out b hb).1)
                  have hkp : Kept F21 C21 ((((((C21.setCell ⟨C2.heap.size, 0, none⟩ (.int .i64 (r0).op)).setCell ⟨C2.heap.size, 1, none⟩ (.int .i64 (r0).ct)).setCell ⟨C2.heap.size, 2, none⟩ (.int .i64 (r0).n)).setCell ⟨C2.heap.size, 3, none⟩ (.int .i64 (r0).m)).setCell ⟨C2.heap.size, 4, none⟩ (.int .i64 (r0).va)).setCell ⟨C2.heap.size, 5, none⟩ (.slice A21 (r0).ks.length cap21)) := fun b hb => by rw [Below.heap_setCell _ _ _ _ (hgF b hb), Below.heap_setCell _ _ _ _ (hgF b hb), Below.heap_setCell _ _ _ _ (hgF b hb), Below.heap_setCell _ _ _ _ (hgF b hb), Below.heap_setCell _ _ _ _ (hgF b hb), Below.heap_setCell _ _ _ _ (hgF b hb)]
                  have hpe : Hid (PR ((((((C21.setCell ⟨C2.heap.size, 0, none⟩ (.int .i64 (r0).op)).setCell ⟨C2.heap.size, 1, none⟩ (.int .i64 (r0).ct)).setCell ⟨C2.heap.size, 2, none⟩ (.int .i64 (r0).n)).setCell ⟨C2.heap.size, 3, none⟩ (.int .i64 (r0).m)).setCell ⟨C2.heap.size, 4, none⟩ (.int .i64 (r0).va)).setCell ⟨C2.heap.size, 5, none⟩ (.slice A21 (r0).ks.length cap21)) (r0) [.int .i64 (r0).op, .int .i64 (r0).ct, .int .i64 (r0).n, .int .i64 (r0).m, .int .i64 (r0).va, .slice A21 (r0).ks.length cap21] F21) := PR.mono _ _ _ hkp HP21.out
                  have hfe : Hid (Free ((((((C21.setCell ⟨C2.heap.size, 0, none⟩ (.int .i64 (r0).op)).setCell ⟨C2.heap.size, 1, none⟩ (.int .i64 (r0).ct)).setCell ⟨C2.heap.size, 2, none⟩ (.int .i64 (r0).n)).setCell ⟨C2.heap.size, 3, none⟩ (.int .i64 (r0).m)).setCell ⟨C2.heap.size, 4, none⟩ (.int .i64 (r0).va)).setCell ⟨C2.heap.size, 5, none⟩ (.slice A21 (r0).ks.length cap21)) F21) := HFr21.out.kept hkp
                  have hse : Hid (Fresh W38 ((((((C21.setCell ⟨C2.heap.size, 0, none⟩ (.int .i64 (r0).op)).setCell ⟨C2.heap.size, 1, none⟩ (.int .i64 (r0).ct)).setCell ⟨C2.heap.size, 2, none⟩ (.int .i64 (r0).n)).setCell ⟨C2.heap.size, 3, none⟩ (.int .i64 (r0).m)).setCell ⟨C2.heap.size, 4, none⟩ (.int .i64 (r0).va)).setCell ⟨C2.heap.size, 5, none⟩ (.slice A21 (r0).ks.length cap21)) F21) := fun b hb => ⟨Nat.le_trans hC18.size (HFs21.out b hb).1, by simpa [World.setCell] using (HFs21.out b hb).2⟩
                  have hge : Hid (C2.heap.size ∉ F21) := fun h => hgF _ h rfl
                  clear hkp hgF
                  refine wpAnyB_ready (rs := [11]) (by kernel_rfl) (by simp) ?_
                  refine AllReadyB.cons rfl (fun K hK => ?_) AllReadyB.nil
                  go_simp
                  refine hK.out _ _ (HS.out _ hCe.out) (fun _ => trivial) ?_
                  clear hK K
                  (try simp only [Act.put, List.getElem_toArray, List.getElem_cons_zero, List.getElem_cons_succ, List.setIfInBounds_toArray, List.set_cons_zero, List.set_cons_succ])
                  refine wpAnyB_ready (rs := [12]) (by kernel_rfl) (by simp) ?_
                  refine AllReadyB.cons rfl (fun K hK => ?_) AllReadyB.nil
                  go_simp
                  refine hK.out _ _ (HS.out _ hCe.out) (fun _ => trivial) ?_
                  clear hK K
                  (try simp only [Act.put, List.getElem_toArray, List.getElem_cons_zero, List.getElem_cons_succ, List.setIfInBounds_toArray, List.set_cons_zero, List.set_cons_succ])
                  refine wpAnyB_end (by kernel_rfl) ?_
                  clear y0 f0 y1 f1 y2 f2 y3 f3 y4 f4 y5 f5 ylt
                  go_wp2
                  go_meet
                  case rel => exact ⟨_, _, _, rfl, (by rw [← HResb.out]), hCe, cbe, HGE16, hge, hpe, hfe, hse⟩
              · skip
                go_simp
                obtain ⟨C24, hX⟩ : ∃ X, X = C1.alloc (.cells #[.int .i64 0, .int .i64 0, .int .i64 0, .int .i64 0, .int .i64 0, .slice none 0 0] 32) := ⟨_, rfl⟩
                have hb24 : Below C1.heap.size C1 C24 := by rw [hX]; exact (Below.refl _ _).alloc (Nat.le_refl _) _
                have cb24 : Hid (Blk C24 C1.heap.size 32 #[.int .i64 0, .int .i64 0, .int .i64 0, .int .i64 0, .int .i64 0, .slice none 0 0]) := by rw [hX]; exact Blk.new _ _ _
                rw [← hX]
                clear hX
                have hC24 : Below W38.heap.size W38 C24 := hC1.trans (hb24.mono hC1.size)
                have cr25 := Lib.hid ((ArrDt.below cr1.out hb24 cu1.out))
                have cu25 := Lib.hid (cu1.out.mono hb24.size)
                have HGE24 : Hid (W38.heap.size ≤ C1.heap.size) := hC1.size
                (try dsimp only)
                refine hK.out _ _ (HS.out _ hC24) (fun _ => trivial) ?_
                clear hK K
                (try simp only [Act.put, List.getElem_toArray, List.getElem_cons_zero, List.getElem_cons_succ, List.setIfInBounds_toArray, List.set_cons_zero, List.set_cons_succ])
                refine wpAnyB_ready (rs := [3]) (by kernel_rfl) (by simp) ?_
                refine AllReadyB.cons rfl (fun K hK => ?_) AllReadyB.nil
                go_simp
                go_at_call 19
                refine (toType_any x1 _ _ [] (TyR.mk0 _ x1) (Under.nil _) (Ty.size_le x1)).mono ?_
                rintro e C26 ⟨dsc26, Gc26, rfl, hb26, ⟨rfl, rfl⟩, hfrc26, hfsc26⟩
                have hC26 : Below W38.heap.size W38 C26 := hC24.trans (hb26.mono hC24.size)
                have cr27 := Lib.hid ((ArrDt.below cr25.out hb26 cu25.out))
                have cu27 := Lib.hid (cu25.out.mono hb26.size)
                have cb28 : Hid (Blk C26 C1.heap.size 32 #[.int .i64 0, .int .i64 0, .int .i64 0, .int .i64 0, .int .i64 0, .slice none 0 0]) := cb24.out.same (hb26.block _ cb24.out.lt)
                clear hfrc26 hfsc26
                (try dsimp only)
                refine hK.out _ _ (HS.out _ hC26) (fun _ => trivial) ?_
                clear hK K
                (try simp only [Act.put, List.getElem_toArray, List.getElem_cons_zero, List.getElem_cons_succ, List.setIfInBounds_toArray, List.set_cons_zero, List.set_cons_succ])
                refine wpAnyB_ready (rs := [5]) (by kernel_rfl) (by simp) ?_
                refine AllReadyB.cons rfl (fun K hK => ?_) AllReadyB.nil
                go_simp
                go_at_call 20
                refine (toValue_any x2 _ _ F2 (HR2.out.below (hB39.trans (hC26.mono hB39.size)) HU2.out) (HU2.out.mono (hB39.trans (hC26.mono hB39.size)).size) hs2).mono ?_
                rintro e C29 ⟨dsc29, Gc29, rfl, hb29, hvc29, hfrc29, hfsc29⟩
                have hC29 : Below W38.heap.size W38 C29 := hC26.trans (hb29.mono hC26.size)
                have cr30 := Lib.hid ((ArrDt.below cr27.out hb29 cu27.out))
                have cu30 := Lib.hid (cu27.out.mono hb29.size)
                have cb31 : Hid (Blk C29 C1.heap.size 32 #[.int .i64 0, .int .i64 0, .int .i64 0, .int .i64 0, .int .i64 0, .slice none 0 0]) := cb28.out.same (hb29.block _ cb28.out.lt)
                have cr29 := Lib.hid hvc29
                have cu29 := Lib.hid hfsc29.under
                clear hvc29 hfrc29 hfsc29
                (try dsimp only)
                refine hK.out _ _ (HS.out _ hC29) (fun _ => trivial) ?_
                clear hK K
                (try simp only [Act.put, List.getElem_toArray, List.getElem_cons_zero, List.getElem_cons_succ, List.setIfInBounds_toArray, List.set_cons_zero, List.set_cons_succ])
                refine wpAnyB_ready (rs := [6]) (by kernel_rfl) (by simp) ?_
                refine AllReadyB.cons rfl (fun K hK => ?_) AllReadyB.nil
                go_simp
                go_at_call 21
                refine (impl_PatternOf x0 x1 x2 _ _ Gc1 _ Gc29 cr30.out cu30.out cr29.out cu29.out hs2).mono ?_
                rintro e C32 ⟨cs32, F32, rfl, hb32, hp32, hfr32, hfs32⟩
                rw [HRes.out] at hp32
                obtain ⟨kv32, rfl, ha32⟩ := (PR_iff _ _ _).1 hp32
                obtain ⟨A32, cap32, rfl, -, -⟩ := ha32.form
                clear ha32
                have hC32 : Below W38.heap.size W38 C32 := hC29.trans (hb32.mono hC29.size)
                have cb33 : Hid (Blk C32 C1.heap.size 32 #[.int .i64 0, .int .i64 0, .int .i64 0, .int .i64 0, .int .i64 0, .slice none 0 0]) := cb31.out.same (hb32.block _ cb31.out.lt)
                have HP32 := Lib.hid hp32
                have HFr32 := Lib.hid hfr32
                have HFs32 := Lib.hid hfs32
                clear hp32 hfr32 hfs32
                (try dsimp only)
                refine hK.out _ _ (HS.out _ hC32) (fun _ => trivial) ?_
                clear hK K
                (try simp only [Act.put, List.getElem_toArray, List.getElem_cons_zero, List.getElem_cons_succ, List.setIfInBounds_toArray, List.set_cons_zero, List.set_cons_succ])
                have hSx32 := HS.out _ hC32
                refine wpAnyB_take (i := 7) (v := ?_) rfl (by decide) (by kernel_rfl) (by kernel_rfl) (by kernel_rfl) (fun _ _ _ h => h) (Or.inl ⟨by rfl, ?hy7⟩) hSx32 (fun _ => hT0) ?_
                case hy7 => (intro W hSw; (try dsimp only at hSw); (try obtain ⟨hSw0, hSw1, hSw2, hSw3, hSw4⟩ := hSw); go_simp; try with_reducible rfl)
                (try simp only [Act.put, List.getElem_toArray, List.getElem_cons_zero, List.getElem_cons_succ, List.setIfInBounds_toArray, List.set_cons_zero, List.set_cons_succ])
                refine wpAnyB_take (i := 8) (v := ?_) rfl (by decide) (by kernel_rfl) (by kernel_rfl) (by kernel_rfl) (fun _ _ _ h => h) (Or.inl ⟨by rfl, ?hy8⟩) hSx32 (fun _ => hT0) ?_
                case hy8 => (intro W hSw; (try dsimp only at hSw); (try obtain ⟨hSw0, hSw1, hSw2, hSw3, hSw4⟩ := hSw); go_simp; try with_reducible rfl)
                (try simp only [Act.put, List.getElem_toArray, List.getElem_cons_zero, List.getElem_cons_succ, List.setIfInBounds_toArray, List.set_cons_zero, List.set_cons_succ])
                refine wpAnyB_take (i := 9) (v := ?_) rfl (by decide) (by kernel_rfl) (by kernel_rfl) (by kernel_rfl) (fun _ _ _ h => h) (Or.inl ⟨by rfl, ?hy9⟩) hSx32 (fun _ => hT0) ?_
                case hy9 => (intro W hSw; (try dsimp only at hSw); (try obtain ⟨hSw0, hSw1, hSw2, hSw3, hSw4⟩ := hSw); go_simp; try with_reducible rfl)
                (try simp only [Act.put, List.getElem_toArray, List.getElem_cons_zero, List.getElem_cons_succ, List.setIfInBounds_toArray, List.set_cons_zero, List.set_cons_succ])
                have y0 : C32.cell? ⟨C1.heap.size, 0, none⟩ = some (.int .i64 0) := (cb33.out.cell 0).trans (by simp)
                have f0 := cb33.out.frozen 0
                have y1 : C32.cell? ⟨C1.heap.size, 1, none⟩ = some (.int .i64 0) := (cb33.out.cell 1).trans (by simp)
                have f1 := cb33.out.frozen 1
                have y2 : C32.cell? ⟨C1.heap.size, 2, none⟩ = some (.int .i64 0) := (cb33.out.cell 2).trans (by simp)
                have f2 := cb33.out.frozen 2
                have y3 : C32.cell? ⟨C1.heap.size, 3, none⟩ = some (.int .i64 0) := (cb33.out.cell 3).trans (by simp)
                have f3 := cb33.out.frozen 3
                have y4 : C32.cell? ⟨C1.heap.size, 4, none⟩ = some (.int .i64 0) := (cb33.out.cell 4).trans (by simp)
                have f4 := cb33.out.frozen 4
                have y5 : C32.cell? ⟨C1.heap.size, 5, none⟩ = some (.slice none 0 0) := (cb33.out.cell 5).trans (by simp)
                have f5 := cb33.out.frozen 5
                have ylt := cb33.out.lt
                have hCe : Hid (Below W38.heap.size W38 ((((((C32.setCell ⟨C1.heap.size, 0, none⟩ (.int .i64 (r0).op)).setCell ⟨C1.heap.size, 1, none⟩ (.int .i64 (r0).ct)).setCell ⟨C1.heap.size, 2, none⟩ (.int .i64 (r0).n)).setCell ⟨C1.heap.size, 3, none⟩ (.int .i64 (r0).m)).setCell ⟨C1.heap.size, 4, none⟩ (.int .i64 (r0).va)).setCell ⟨C1.heap.size, 5, none⟩ (.slice A32 (r0).ks.length cap32))) := ((((((hC32.setCell HGE24.out _).setCell HGE24.out _).setCell HGE24.out _).setCell HGE24.out _).setCell HGE24.out _).setCell HGE24.out _)
                have cbe : Hid (Blk ((((((C32.setCell ⟨C1.heap.size, 0, none⟩ (.int .i64 (r0).op)).setCell ⟨C1.heap.size, 1, none⟩ (.int .i64 (r0).ct)).setCell ⟨C1.heap.size, 2, none⟩ (.int .i64 (r0).n)).setCell ⟨C1.heap.size, 3, none⟩ (.int .i64 (r0).m)).setCell ⟨C1.heap.size, 4, none⟩ (.int .i64 (r0).va)).setCell ⟨C1.heap.size, 5, none⟩ (.slice A32 (r0).ks.length cap32)) (C1.heap.size) 32 #[.int .i64 (r0).op, .int .i64 (r0).ct, .int .i64 (r0).n, .int .i64 (r0).m, .int .i64 (r0).va, .slice A32 (r0).ks.length cap32]) := ((((((cb33.out.set_ 0 _).set_ 1 _).set_ 2 _).set_ 3 _).set_ 4 _).set_ 5 _)
                have hgF : ∀ b ∈ F32, b ≠ C1.heap.size := fun b hb e => Nat.lt_irrefl _ (Nat.lt_of_lt_of_le (by rw [e]; exact cb31.out.lt) (HFs32.out b hb).1)
                have hkp : Kept F32 C32 ((((((C32.setCell ⟨C1.heap.size, 0, none⟩ (.int .i64 (r0).op)).setCell ⟨C1.heap.size, 1, none⟩ (.int .i64 (r0).ct)).setCell ⟨C1.heap.size, 2, none⟩ (.int .i64 (r0).n)).setCell ⟨C1.heap.size, 3, none⟩ (.int .i64 (r0).m)).setCell ⟨C1.heap.size, 4, none⟩ (.int .i64 (r0).va)).setCell ⟨C1.heap.size, 5, none⟩ (.slice A32 (r0).ks.length cap32)) := fun b hb => by rw [Below.heap_setCell _ _ _ _ (hgF b hb), Below.heap_setCell _ _ _ _ (hgF b hb), Below.heap_setCell _ _ _ _ (hgF b hb), Below.heap_setCell _ _ _ _ (hgF b hb), Below.heap_setCell _ _ _ _ (hgF b hb), Below.heap_setCell _ _ _ _ (hgF b hb)]
                have hpe : Hid (PR ((((((C32.setCell ⟨C1.heap.size, 0, none⟩ (.int .i64 (r0).op)).setCell ⟨C1.heap.size, 1, none⟩ (.int .i64 (r0).ct)).setCell ⟨C1.heap.size, 2, none⟩ (.int .i64 (r0).n)).setCell ⟨C1.heap.size, 3, none⟩ (.int .i64 (r0).m)).setCell ⟨C1.heap.size, 4, none⟩ (.int .i64 (r0).va)).setCell ⟨C1.heap.size, 5, none⟩ (.slice A32 (r0).ks.length cap32)) (r0) [.int .i64 (r0).op, .int .i64 (r0).ct, .int .i64 (r0).n, .int .i64 (r0).m, .int .i64 (r0).va, .slice A32 (r0).ks.length cap32] F32) := PR.mono _ _ _ hkp HP32.out
                have hfe : Hid (Free ((((((C32.setCell ⟨C1.heap.size, 0, none⟩ (.int .i64 (r0).op)).setCell ⟨C1.heap.size, 1, none⟩ (.int .i64 (r0).ct)).setCell ⟨C1.heap.size, 2, none⟩ (.int .i64 (r0).n)).setCell ⟨C1.heap.size, 3, none⟩ (.int .i64 (r0).m)).setCell ⟨C1.heap.size, 4, none⟩ (.int .i64 (r0).va)).setCell ⟨C1.heap.size, 5, none⟩ (.slice A32 (r0).ks.length cap32)) F32) := HFr32.out.kept hkp
                have hse : Hid (Fresh W38 ((((((C32.setCell ⟨C1.heap.size, 0, none⟩ (.int .i64 (r0).op)).setCell ⟨C1.heap.size, 1, none⟩ (.int .i64 (r0).ct)).setCell ⟨C1.heap.size, 2, none⟩ (.int .i64 (r0).n)).setCell ⟨C1.heap.size, 3, none⟩ (.int .i64 (r0).m)).setCell ⟨C1.heap.size, 4, none⟩ (.int .i64 (r0).va)).setCell ⟨C1.heap.size, 5, none⟩ (.slice A32 (r0).ks.length cap32)) F32) := fun b hb => ⟨Nat.le_trans hC29.size (HFs32.out b hb).1, by simpa [World.setCell] using (HFs32.out b hb).2⟩
                have hge : Hid (C1.heap.size ∉ F32) := fun h => hgF _ h rfl
                clear hkp hgF
                refine wpAnyB_ready (rs := [11]) (by kernel_rfl) (by simp) ?_
                refine AllReadyB.cons rfl (fun K hK => ?_) AllReadyB.nil
                go_simp
                refine hK.out _ _ (HS.out _ hCe.out) (fun _ => trivial) ?_
                clear hK K
                (try simp only [Act.put, List.getElem_toArray, List.getElem_cons_zero, List.getElem_cons_succ, List.setIfInBounds_toArray, List.set_cons_zero, List.set_cons_succ])
                refine wpAnyB_ready (rs := [12]) (by kernel_rfl) (by simp) ?_
                refine AllReadyB.cons rfl (fun K hK => ?_) AllReadyB.nil
                go_simp
                refine hK.out _ _ (HS.out _ hCe.out) (fun _ => trivial) ?_
                clear hK K
                (try simp only [Act.put, List.getElem_toArray, List.getElem_cons_zero, List.getElem_cons_succ, List.setIfInBounds_toArray, List.set_cons_zero, List.set_cons_succ])
                refine wpAnyB_end (by kernel_rfl) ?_
                clear y0 f0 y1 f1 y2 f2 y3 f3 y4 f4 y5 f5 ylt
                go_wp2
                go_meet
                case rel => exact ⟨_, _, _, rfl, (by rw [← HResb.out]), hCe, cbe, HGE24, hge, hpe, hfe, hse⟩
            · skip
              go_simp
              obtain ⟨C35, hX⟩ : ∃ X, X = wd.alloc (.cells #[.int .i64 0, .int .i64 0, .int .i64 0, .int .i64 0, .int .i64 0, .slice none 0 0] 32) := ⟨_, rfl⟩
              have hb35 : Below wd.heap.size wd C35 := by rw [hX]; exact (Below.refl _ _).alloc (Nat.le_refl _) _
              have cb35 : Hid (Blk C35 wd.heap.size 32 #[.int .i64 0, .int .i64 0, .int .i64 0, .int .i64 0, .int .i64 0, .slice none 0 0]) := by rw [hX]; exact Blk.new _ _ _
              rw [← hX]
              clear hX
              have hC35 : Below W38.heap.size W38 C35 := hC0.trans (hb35.mono hC0.size)
              have HGE35 : Hid (W38.heap.size ≤ wd.heap.size) := hC0.size
              (try dsimp only)
              refine hK.out _ _ (HS.out _ hC35) (fun _ => trivial) ?_
              clear hK K
              (try simp only [Act.put, List.getElem_toArray, List.getElem_cons_zero, List.getElem_cons_succ, List.setIfInBounds_toArray, List.set_cons_zero, List.set_cons_succ])
              refine wpAnyB_ready (rs := [1]) (by kernel_rfl) (by simp) ?_
              refine AllReadyB.cons rfl (fun K hK => ?_) AllReadyB.nil
              go_simp
              go_at_call 18
              refine (toDataS_any x0 _ F0 _ (ArrDt.below HR0.out (hB39.trans (hC35.mono hB39.size)) HU0.out) (HU0.out.mono (hB39.trans (hC35.mono hB39.size)).size) hs0).mono ?_
              rintro e C36 ⟨yc36, Gc36, rfl, hb36, hvc36, hfrc36, hfsc36⟩
              have hC36 : Below W38.heap.size W38 C36 := hC35.trans (hb36.mono hC35.size)
              have cb37 : Hid (Blk C36 wd.heap.size 32 #[.int .i64 0, .int .i64 0, .int .i64 0, .int .i64 0, .int .i64 0, .slice none 0 0]) := cb35.out.same (hb36.block _ cb35.out.lt)
              have cr36 := Lib.hid hvc36
              have cu36 := Lib.hid hfsc36.under
              clear hvc36 hfrc36 hfsc36
              (try dsimp only)
              refine hK.out _ _ (HS.out _ hC36) (fun _ => trivial) ?_
              clear hK K
              (try simp only [Act.put, List.getElem_toArray, List.getElem_cons_zero, List.getElem_cons_succ, List.setIfInBounds_toArray, List.set_cons_zero, List.set_cons_succ])
              refine wpAnyB_ready (rs := [3]) (by kernel_rfl) (by simp) ?_
              refine AllReadyB.cons rfl (fun K hK => ?_) AllReadyB.nil
              go_simp
              go_at_call 19
              refine (toType_any x1 _ _ [] (TyR.mk0 _ x1) (Under.nil _) (Ty.size_le x1)).mono ?_
              rintro e C38 ⟨dsc38, Gc38, rfl, hb38, ⟨rfl, rfl⟩, hfrc38, hfsc38⟩
              have hC38 : Below W38.heap.size W38 C38 := hC36.trans (hb38.mono hC36.size)
              have cr39 := Lib.hid ((ArrDt.below cr36.out hb38 cu36.out))
              have cu39 := Lib.hid (cu36.out.mono hb38.size)
              have cb40 : Hid (Blk C38 wd.heap.size 32 #[.int .i64 0, .int .i64 0, .int .i64 0, .int .i64 0, .int .i64 0, .slice none 0 0]) := cb37.out.same (hb38.block _ cb37.out.lt)
              clear hfrc38 hfsc38
              (try dsimp only)
              refine hK.out _ _ (HS.out _ hC38) (fun _ => trivial) ?_
              clear hK K
              (try simp only [Act.put, List.getElem_toArray, List.getElem_cons_zero, List.getElem_cons_succ, List.setIfInBounds_toArray, List.set_cons_zero, List.set_cons_succ])
              refine wpAnyB_ready (rs := [5]) (by kernel_rfl) (by simp) ?_
              refine AllReadyB.cons rfl (fun K hK => ?_) AllReadyB.nil
              go_simp
              go_at_call 20
              refine (toValue_any x2 _ _ F2 (HR2.out.below (hB39.trans (hC38.mono hB39.size)) HU2.out) (HU2.out.mono (hB39.trans (hC38.mono hB39.size)).size) hs2).mono ?_
              rintro e C41 ⟨dsc41, Gc41, rfl, hb41, hvc41, hfrc41, hfsc41⟩
              have hC41 : Below W38.heap.size W38 C41 := hC38.trans (hb41.mono hC38.size)
              have cr42 := Lib.hid ((ArrDt.below cr39.out hb41 cu39.out))
              have cu42 := Lib.hid (cu39.out.mono hb41.size)
              have cb43 : Hid (Blk C41 wd.heap.size 32 #[.int .i64 0, .int .i64 0, .int .i64 0, .int .i64 0, .int .i64 0, .slice none 0 0]) := cb40.out.same (hb41.block _ cb40.out.lt)
              have cr41 := Lib.hid hvc41
              have cu41 := Lib.hid hfsc41.under
              clear hvc41 hfrc41 hfsc41
              (try dsimp only)
              refine hK.out _ _ (HS.out _ hC41) (fun _ => trivial) ?_
              clear hK K
              (try simp only [Act.put, List.getElem_toArray, List.getElem_cons_zero, List.getElem_cons_succ, List.setIfInBounds_toArray, List.set_cons_zero, List.set_cons_succ])
              refine wpAnyB_ready (rs := [6]) (by kernel_rfl) (by simp) ?_
              refine AllReadyB.cons rfl (fun K hK => ?_) AllReadyB.nil
              go_simp
              go_at_call 21
              refine (impl_PatternOf x0 x1 x2 _ _ Gc36 _ Gc41 cr42.out cu42.out cr41.out cu41.out hs2).mono ?_
              rintro e C44 ⟨cs44, F44, rfl, hb44, hp44, hfr44, hfs44⟩
              rw [HRes.out] at hp44
              obtain ⟨kv44, rfl, ha44⟩ := (PR_iff _ _ _).1 hp44
              obtain ⟨A44, cap44, rfl, -, -⟩ := ha44.form
              clear ha44
              have hC44 : Below W38.heap.size W38 C44 := hC41.trans (hb44.mono hC41.size)
              have cb45 : Hid (Blk C44 wd.heap.size 32 #[.int .i64 0, .int .i64 0, .int .i64 0, .int .i64 0, .int .i64 0, .slice none 0 0]) := cb43.out.same (hb44.block _ cb43.out.lt)
              have HP44 := Lib.hid hp44
              have HFr44 := Lib.hid hfr44
              have HFs44 := Lib.hid hfs44
              clear hp44 hfr44 hfs44
              (try dsimp only)
              refine hK.out _ _ (HS.out _ hC44) (fun _ => trivial) ?_
              clear hK K
              (try simp only [Act.put, List.getElem_toArray, List.getElem_cons_zero, List.getElem_cons_succ, List.setIfInBounds_toArray, List.set_cons_zero, List.set_cons_succ])
              have hSx44 := HS.out _ hC44
              refine wpAnyB_take (i := 7) (v := ?_) rfl (by decide) (by kernel_rfl) (by kernel_rfl) (by kernel_rfl) (fun _ _ _ h => h) (Or.inl ⟨by rfl, ?hy7⟩) hSx44 (fun _ => hT0) ?_
              case hy7 => (intro W hSw; (try dsimp only at hSw); (try obtain ⟨hSw0, hSw1, hSw2, hSw3, hSw4⟩ := hSw); go_simp; try with_reducible rfl)
              (try simp only [Act.put, List.getElem_toArray, List.getElem_cons_zero, List.getElem_cons_succ, List.setIfInBounds_toArray, List.set_cons_zero, List.set_cons_succ])
              refine wpAnyB_take (i := 8) (v := ?_) rfl (by decide) (by kernel_rfl) (by kernel_rfl) (by kernel_rfl) (fun _ _ _ h => h) (Or.inl ⟨by rfl, ?hy8⟩) hSx44 (fun _ => hT0) ?_
              case hy8 => (intro W hSw; (try dsimp only at hSw); (try obtain ⟨hSw0, hSw1, hSw2, hSw3, hSw4⟩ := hSw); go_simp; try with_reducible rfl)
              (try simp only [Act.put, List.getElem_toArray, List.getElem_cons_zero, List.getElem_cons_succ, List.setIfInBounds_toArray, List.set_cons_zero, List.set_cons_succ])
              refine wpAnyB_take (i := 9) (v := ?_) rfl (by decide) (by kernel_rfl) (by kernel_rfl) (by kernel_rfl) (fun _ _ _ h => h) (Or.inl ⟨by rfl, ?hy9⟩) hSx44 (fun _ => hT0) ?_
              case hy9 => (intro W hSw; (try dsimp only at hSw); (try obtain ⟨hSw0, hSw1, hSw2, hSw3, hSw4⟩ := hSw); go_simp; try with_reducible rfl)
              (try simp only [Act.put, List.getElem_toArray, List.getElem_cons_zero, List.getElem_cons_succ, List.setIfInBounds_toArray, List.set_cons_zero, List.set_cons_succ])
              have y0 : C44.cell? ⟨wd.heap.size, 0, none⟩ = some (.int .i64 0) := (cb45.out.cell 0).trans (by simp)
              have f0 := cb45.out.frozen 0
              have y1 : C44.cell? ⟨wd.heap.size, 1, none⟩ = some (.int .i64 0) := (cb45.out.cell 1).trans (by simp)
              have f1 := cb45.out.frozen 1
              have y2 : C44.cell? ⟨wd.heap.size, 2, none⟩ = some (.int .i64 0) := (cb45.out.cell 2).trans (by simp)
              have f2 := cb45.out.frozen 2
              have y3 : C44.cell? ⟨wd.heap.size, 3, none⟩ = some (.int .i64 0) := (cb45.out.cell 3).trans (by simp)
              have f3 := cb45.out.frozen 3
              have y4 : C44.cell? ⟨wd.heap.size, 4, none⟩ = some (.int .i64 0) := (cb45.out.cell 4).trans (by simp)
              have f4 := cb45.out.frozen 4
              have y5 : C44.cell? ⟨wd.heap.size, 5, none⟩ = some (.slice none 0 0) := (cb45.out.cell 5).trans (by simp)
              have f5 := cb45.out.frozen 5
              have ylt := cb45.out.lt
              have hCe : Hid (Below W38.heap.size W38 ((((((C44.setCell ⟨wd.heap.size, 0, none⟩ (.int .i64 (r0).op)).setCell ⟨wd.heap.size, 1, none⟩ (.int .i64 (r0).ct)).setCell ⟨wd.heap.size, 2, none⟩ (.int .i64 (r0).n)).setCell ⟨wd.heap.size, 3, none⟩ (.int .i64 (r0).m)).setCell ⟨wd.heap.size, 4, none⟩ (.int .i64 (r0).va)).setCell ⟨wd.heap.size, 5, none⟩ (.slice A44 (r0).ks.length cap44))) := ((((((hC44.setCell HGE35.out _).setCell HGE35.out _).setCell HGE35.out _).setCell HGE35.out _).setCell HGE35.out _).setCell HGE35.out _)
              have cbe : Hid (Blk ((((((C44.setCell ⟨wd.heap.size, 0, none⟩ (.int .i64 (r0).op)).setCell ⟨wd.heap.size, 1, none⟩ (.int .i64 (r0).ct)).setCell ⟨wd.heap.size, 2, none⟩ (.int .i64 (r0).n)).setCell ⟨wd.heap.size, 3, none⟩ (.int .i64 (r0).m)).setCell ⟨wd.heap.size, 4, none⟩ (.int .i64 (r0).va)).setCell ⟨wd.heap.size, 5, none⟩ (.slice A44 (r0).ks.length cap44)) (wd.heap.size) 32 #[.int .i64 (r0).op, .int .i64 (r0).ct, .int .i64 (r0).n, .int .i64 (r0).m, .int .i64 (r0).va, .slice A44 (r0).ks.length cap44]) := ((((((cb45.out.set_ 0 _).set_ 1 _).set_ 2 _).set_ 3 _).set_ 4 _).set_ 5 _)
              have hgF : ∀ b ∈ F44, b ≠ wd.heap.size := fun b hb e => Nat.lt_irrefl _ (Nat.lt_of_lt_of_le (by rw [e]; exact cb43.out.lt) (HFs44.out b hb).1)
              have hkp : Kept F44 C44 ((((((C44.setCell ⟨wd.heap.size, 0, none⟩ (.int .i64 (r0).op)).setCell ⟨wd.heap.size, 1, none⟩ (.int .i64 (r0).ct)).setCell ⟨wd.heap.size, 2, none⟩ (.int .i64 (r0).n)).setCell ⟨wd.heap.size, 3, none⟩ (.int .i64 (r0).m)).setCell ⟨wd.heap.size, 4, none⟩ (.int .i64 (r0).va)).setCell ⟨wd.heap.size, 5, none⟩ (.slice A44 (r0).ks.length cap44)) := fun b hb => by rw [Below.heap_setCell _ _ _ _ (hgF b hb), Below.heap_setCell _ _ _ _ (hgF b hb), Below.heap_setCell _ _ _ _ (hgF b hb), Below.heap_setCell _ _ _ _ (hgF b hb), Below.heap_setCell _ _ _ _ (hgF b hb), Below.heap_setCell _ _ _ _ (hgF b hb)]
              have hpe : Hid (PR ((((((C44.setCell ⟨wd.heap.size, 0, none⟩ (.int .i64 (r0).op)).setCell ⟨wd.heap.size, 1, none⟩ (.int .i64 (r0).ct)).setCell ⟨wd.heap.size, 2, none⟩ (.int .i64 (r0).n)).setCell ⟨wd.heap.size, 3, none⟩ (.int .i64 (r0).m)).setCell ⟨wd.heap.size, 4, none⟩ (.int .i64 (r0).va)).setCell ⟨wd.heap.size, 5, none⟩ (.slice A44 (r0).ks.length cap44)) (r0) [.int .i64 (r0).op, .int .i64 (r0).ct, .int .i64 (r0).n, .int .i64 (r0).m, .int .i64 (r0).va, .slice A44 (r0).ks.length cap44] F44) := PR.mono _ _ _ hkp HP44.out
              have hfe : Hid (Free ((((((C44.setCell ⟨wd.heap.size, 0, none⟩ (.int .i64 (r0).op)).setCell ⟨wd.heap.size, 1, none⟩ (.int .i64 (r0).ct)).setCell ⟨wd.heap.size, 2, none⟩ (.int .i64 (r0).n)).setCell ⟨wd.heap.size, 3, none⟩ (.int .i64 (r0).m)).setCell ⟨wd.heap.size, 4, none⟩ (.int .i64 (r0).va)).setCell ⟨wd.heap.size, 5, none⟩ (.slice A44 (r0).ks.length cap44)) F44) := HFr44.out.kept hkp
              have hse : Hid (Fresh W38 ((((((C44.setCell ⟨wd.heap.size, 0, none⟩ (.int .i64 (r0).op)).setCell ⟨wd.heap.size, 1, none⟩ (.int .i64 (r0).ct)).setCell ⟨wd.heap.size, 2, none⟩ (.int .i64 (r0).n)).setCell ⟨wd.heap.size, 3, none⟩ (.int .i64 (r0).m)).setCell ⟨wd.heap.size, 4, none⟩ (.int .i64 (r0).va)).setCell ⟨wd.heap.size, 5, none⟩ (.slice A44 (r0).ks.length cap44)) F44) := fun b hb => ⟨Nat.le_trans hC41.size (HFs44.out b hb).1, by simpa [World.setCell] using (HFs44.out b hb).2⟩
              have hge : Hid (wd.heap.size ∉ F44) := fun h => hgF _ h rfl
              clear hkp hgF
              refine wpAnyB_ready (rs := [11]) (by kernel_rfl) (by simp) ?_
              refine AllReadyB.cons rfl (fun K hK => ?_) AllReadyB.nil
              go_simp
              refine hK.out _ _ (HS.out _ hCe.out) (fun _ => trivial) ?_
              clear hK K
              (try simp only [Act.put, List.getElem_toArray, List.getElem_cons_zero, List.getElem_cons_succ, List.setIfInBounds_toArray, List.set_cons_zero, List.set_cons_succ])
              refine wpAnyB_ready (rs := [12]) (by kernel_rfl) (by simp) ?_
              refine AllReadyB.cons rfl (fun K hK => ?_) AllReadyB.nil
              go_simp
              refine hK.out _ _ (HS.out _ hCe.out) (fun _ => trivial) ?_
              clear hK K
              (try simp only [Act.put, List.getElem_toArray, List.getElem_cons_zero, List.getElem_cons_succ, List.setIfInBounds_toArray, List.set_cons_zero, List.set_cons_succ])
              refine wpAnyB_end (by kernel_rfl) ?_
              clear y0 f0 y1 f1 y2 f2 y3 f3 y4 f4 y5 f5 ylt
              go_wp2
              go_meet
              case rel => exact ⟨_, _, _, rfl, (by rw [← HResb.out]), hCe, cbe, HGE35, hge, hpe, hfe, hse⟩
          case rest =>
            obtain ⟨rg_h0, cs_h0, F_h0, rfl, rfl, HBt_h0, RB_h0, RGE_h0, RGF_h0, HP_h0, HFR_h0, HFS_h0⟩ := hcut
            obtain ⟨kv_h0, rfl, ha_h0⟩ := (PR_iff _ _ _).1 HP_h0.out
            obtain ⟨A_h0, cap_h0, rfl, -, -⟩ := ha_h0.form
            clear ha_h0
            obtain ⟨W41, hW⟩ : ∃ X, X = wc := ⟨_, rfl⟩
            rw [← hW] at HBt_h0 RB_h0 HP_h0 HFR_h0 HFS_h0 ⊢
            clear hW
            have hfz_h0 := HFS_h0.out
            have dj_w0_h0 := Lib.hid (fun b (hb : b ∈ F_w0) (hj : b ∈ F_h0) => Nat.lt_irrefl _ (Nat.lt_of_lt_of_le (SU40_w0.out b hb) (hfz_h0 b hj).1))
            have dj_h0_w0 := Lib.hid (fun b (hj : b ∈ F_h0) (hb : b ∈ F_w0) => Nat.lt_irrefl _ (Nat.lt_of_lt_of_le (SU40_w0.out b hb) (hfz_h0 b hj).1))
            have dj_g0_h0 := Lib.hid (fun b (hb : b ∈ F_g0) (hj : b ∈ F_h0) => Nat.lt_irrefl _ (Nat.lt_of_lt_of_le (SU40_g0.out b hb) (hfz_h0 b hj).1))
            have dj_h0_g0 := Lib.hid (fun b (hj : b ∈ F_h0) (hb : b ∈ F_g0) => Nat.lt_irrefl _ (Nat.lt_of_lt_of_le (SU40_g0.out b hb) (hfz_h0 b hj).1))
            have nb_bx1_h0 := Lib.hid (fun (hj : _ ∈ F_h0) => Nat.lt_irrefl _ (Nat.lt_of_lt_of_le SB40_bx1.out (hfz_h0 _ hj).1))
            have nb_bx2_h0 := Lib.hid (fun (hj : _ ∈ F_h0) => Nat.lt_irrefl _ (Nat.lt_of_lt_of_le SB40_bx2.out (hfz_h0 _ hj).1))
            have nb_rb_w0_h0 := Lib.hid (fun (hj : _ ∈ F_h0) => Nat.lt_irrefl _ (Nat.lt_of_lt_of_le SB40_rb_w0.out (hfz_h0 _ hj).1))
            have nb_xb2_h0 := Lib.hid (fun (hj : _ ∈ F_h0) => Nat.lt_irrefl _ (Nat.lt_of_lt_of_le SB40_xb2.out (hfz_h0 _ hj).1))
            have nb_rb_g0_h0 := Lib.hid (fun (hj : _ ∈ F_h0) => Nat.lt_irrefl _ (Nat.lt_of_lt_of_le SB40_rb_g0.out (hfz_h0 _ hj).1))
            have LB_h0 := Lib.hid (fun b (hj : b ∈ F_h0) => Nat.le_trans hB39.size (hfz_h0 b hj).1)
            have X_h0 := HP_h0
            have Y_h0 := Lib.hid hfz_h0.under
            have Z_h0 := HFR_h0
            clear HP_h0 HFR_h0 HFS_h0 hfz_h0
            have nb_rb_h0_w0 := Lib.hid (fun (hj : rg_h0 ∈ F_w0) => Nat.lt_irrefl _ (Nat.lt_of_lt_of_le (Y_w0.out _ hj) RGE_h0.out))
            have nb_rb_h0_g0 := Lib.hid (fun (hj : rg_h0 ∈ F_g0) => Nat.lt_irrefl _ (Nat.lt_of_lt_of_le (Y_g0.out _ hj) RGE_h0.out))
            have nb_rb_h0_h0 := RGF_h0
            have hbt41 := HBt_h0.out
            have rb_h0 := RB_h0
            clear HBt_h0 RB_h0 RGE_h0 RGF_h0
            have hB42 := hB39.trans (hbt41.mono hB39.size)
            have bx1n : Hid (Blk W41 (w.heap.size) 24 #[.int .i64 x1.d, .int .i64 x1.i]) := bx1.out.same (hbt41.block _ bx1.out.lt)
            clear bx1
            have bx1 := bx1n
            clear bx1n
            have bx2n : Hid (Blk W41 (w.heap.size + 1) 27 #[.int .i64 x2.c, .int .i64 x2.n, .slice A2 x2.ks.length cap2]) := bx2.out.same (hbt41.block _ bx2.out.lt)
            clear bx2
            have bx2 := bx2n
            clear bx2n
            have rb_w0n : Hid (Blk W41 (rg_w0) 32 #[.int .i64 r0.op, .int .i64 r0.ct, .int .i64 r0.n, .int .i64 r0.m, .int .i64 r0.va, .slice A_w0 r0.ks.length cap_w0]) := rb_w0.out.same (hbt41.block _ rb_w0.out.lt)
            clear rb_w0
            have rb_w0 := rb_w0n
            clear rb_w0n
            have xb2n : Hid (Blk W41 (W14.heap.size) 41 #[.int .i64 x2.c, .int .i64 x2.n, .slice B2 x2.ks.length bap2]) := xb2.out.same (hbt41.block _ xb2.out.lt)
            clear xb2
            have xb2 := xb2n
            clear xb2n
            have rb_g0n : Hid (Blk W41 (rg_g0) 32 #[.int .i64 r0.op, .int .i64 r0.ct, .int .i64 r0.n, .int .i64 r0.m, .int .i64 r0.va, .slice A_g0 r0.ks.length cap_g0]) := rb_g0.out.same (hbt41.block _ rb_g0.out.lt)
            clear rb_g0
            have rb_g0 := rb_g0n
            clear rb_g0n
            have KP := Lib.hid (show Kept F_w0 W38 W41 from (Kept.of_below (w := W38) hbt41 Y_w0.out))
            have X_w0n := Lib.hid (PR.mono _ _ _ KP.out X_w0.out)
            have Y_w0n := Lib.hid (Y_w0.out.mono hbt41.size)
            have Z_w0n := Lib.hid (Z_w0.out.kept KP.out)
            clear X_w0 Y_w0 KP Z_w0
            have X_w0 := X_w0n
            have Y_w0 := Y_w0n
            have Z_w0 := Z_w0n
            clear X_w0n Y_w0n Z_w0n
            have KP := Lib.hid (show Kept F_g0 W38 W41 from (Kept.of_below (w := W38) hbt41 Y_g0.out))
            have X_g0n := Lib.hid (PR.mono _ _ _ KP.out X_g0.out)
            have Y_g0n := Lib.hid (Y_g0.out.mono hbt41.size)
            have Z_g0n := Lib.hid (Z_g0.out.kept KP.out)
            clear X_g0 Y_g0 KP Z_g0
            have X_g0 := X_g0n
            have Y_g0 := Y_g0n
            have Z_g0 := Z_g0n
            clear X_g0n Y_g0n Z_g0n
            have rb_h0n : Hid (Blk W41 rg_h0 32 #[.int .i64 (r0).op, .int .i64 (r0).ct, .int .i64 (r0).n, .int .i64 (r0).m, .int .i64 (r0).va, .slice A_h0 (r0).ks.length cap_h0]) := rb_h0
            clear rb_h0
            have rb_h0 := rb_h0n
            clear rb_h0n
            have bx1c0 : W41.cell? ⟨w.heap.size, 0, none⟩ = some (.int .i64 x1.d) := (bx1.out.cell 0).trans (by simp)
            have bx1c1 : W41.cell? ⟨w.heap.size, 1, none⟩ = some (.int .i64 x1.i) := (bx1.out.cell 1).trans (by simp)
            have bx1lt : w.heap.size < W41.heap.size := bx1.out.lt
            have bx2c0 : W41.cell? ⟨w.heap.size + 1, 0, none⟩ = some (.int .i64 x2.c) := (bx2.out.cell 0).trans (by simp)
            have bx2c1 : W41.cell? ⟨w.heap.size + 1, 1, none⟩ = some (.int .i64 x2.n) := (bx2.out.cell 1).trans (by simp)
            have bx2c2 : W41.cell? ⟨w.heap.size + 1, 2, none⟩ = some (.slice A2 x2.ks.length cap2) := (bx2.out.cell 2).trans (by simp)
            have bx2lt : w.heap.size + 1 < W41.heap.size := bx2.out.lt
            have rb_w0c0 : W41.cell? ⟨rg_w0, 0, none⟩ = some (.int .i64 r0.op) := (rb_w0.out.cell 0).trans (by simp)
            have rb_w0c1 : W41.cell? ⟨rg_w0, 1, none⟩ = some (.int .i64 r0.ct) := (rb_w0.out.cell 1).trans (by simp)
            have rb_w0c2 : W41.cell? ⟨rg_w0, 2, none⟩ = some (.int .i64 r0.n) := (rb_w0.out.cell 2).trans (by simp)
            have rb_w0c3 : W41.cell? ⟨rg_w0, 3, none⟩ = some (.int .i64 r0.m) := (rb_w0.out.cell 3).trans (by simp)
            have rb_w0c4 : W41.cell? ⟨rg_w0, 4, none⟩ = some (.int .i64 r0.va) := (rb_w0.out.cell 4).trans (by simp)
            have rb_w0c5 : W41.cell? ⟨rg_w0, 5, none⟩ = some (.slice A_w0 r0.ks.length cap_w0) := (rb_w0.out.cell 5).trans (by simp)
            have rb_w0lt : rg_w0 < W41.heap.size := rb_w0.out.lt
            have xb2c0 : W41.cell? ⟨W14.heap.size, 0, none⟩ = some (.int .i64 x2.c) := (xb2.out.cell 0).trans (by simp)
            have xb2c1 : W41.cell? ⟨W14.heap.size, 1, none⟩ = some (.int .i64 x2.n) := (xb2.out.cell 1).trans (by simp)
            have xb2c2 : W41.cell? ⟨W14.heap.size, 2, none⟩ = some (.slice B2 x2.ks.length bap2) := (xb2.out.cell 2).trans (by simp)
            have xb2lt : W14.heap.size < W41.heap.size := xb2.out.lt
            have rb_g0c0 : W41.cell? ⟨rg_g0, 0, none⟩ = some (.int .i64 r0.op) := (rb_g0.out.cell 0).trans (by simp)
            have rb_g0c1 : W41.cell? ⟨rg_g0, 1, none⟩ = some (.int .i64 r0.ct) := (rb_g0.out.cell 1).trans (by simp)
            have rb_g0c2 : W41.cell? ⟨rg_g0, 2, none⟩ = some (.int .i64 r0.n) := (rb_g0.out.cell 2).trans (by simp)
            have rb_g0c3 : W41.cell? ⟨rg_g0, 3, none⟩ = some (.int .i64 r0.m) := (rb_g0.out.cell 3).trans (by simp)
            have rb_g0c4 : W41.cell? ⟨rg_g0, 4, none⟩ = some (.int .i64 r0.va) := (rb_g0.out.cell 4).trans (by simp)
            have rb_g0c5 : W41.cell? ⟨rg_g0, 5, none⟩ = some (.slice A_g0 r0.ks.length cap_g0) := (rb_g0.out.cell 5).trans (by simp)
            have rb_g0lt : rg_g0 < W41.heap.size := rb_g0.out.lt
            have rb_h0c0 : W41.cell? ⟨rg_h0, 0, none⟩ = some (.int .i64 r0.op) := (rb_h0.out.cell 0).trans (by simp)
            have rb_h0c1 : W41.cell? ⟨rg_h0, 1, none⟩ = some (.int .i64 r0.ct) := (rb_h0.out.cell 1).trans (by simp)
            have rb_h0c2 : W41.cell? ⟨rg_h0, 2, none⟩ = some (.int .i64 r0.n) := (rb_h0.out.cell 2).trans (by simp)
            have rb_h0c3 : W41.cell? ⟨rg_h0, 3, none⟩ = some (.int .i64 r0.m) := (rb_h0.out.cell 3).trans (by simp)
            have rb_h0c4 : W41.cell? ⟨rg_h0, 4, none⟩ = some (.int .i64 r0.va) := (rb_h0.out.cell 4).trans (by simp)
            have rb_h0c5 : W41.cell? ⟨rg_h0, 5, none⟩ = some (.slice A_h0 r0.ks.length cap_h0) := (rb_h0.out.cell 5).trans (by simp)
            have rb_h0lt : rg_h0 < W41.heap.size := rb_h0.out.lt
            go_wp2_with fail
            clear bx1c0 bx1c1 bx2c0 bx2c1 bx2c2 rb_w0c0 rb_w0c1 rb_w0c2 rb_w0c3 rb_w0c4 rb_w0c5 xb2c0 xb2c1 xb2c2 rb_g0c0 rb_g0c1 rb_g0c2 rb_g0c3 rb_g0c4 rb_g0c5 rb_h0c0 rb_h0c1 rb_h0c2 rb_h0c3 rb_h0c4 rb_h0c5 bx1lt bx2lt rb_w0lt xb2lt rb_g0lt rb_h0lt
            refine (eqPattern_any r0 W41 _ _ F_h0 F_w0 X_h0.out X_w0.out Y_h0.out Y_w0.out).mono ?_
            rintro e W43 ⟨rfl, hb43⟩
            have hB44 := hB42.trans (hb43.mono hB42.size)
            have bx1n : Hid (Blk W43 (w.heap.size) 24 #[.int .i64 x1.d, .int .i64 x1.i]) := bx1.out.same (hb43.block _ bx1.out.lt)
            clear bx1
            have bx1 := bx1n
            clear bx1n
            have bx2n : Hid (Blk W43 (w.heap.size + 1) 27 #[.int .i64 x2.c, .int .i64 x2.n, .slice A2 x2.ks.length cap2]) := bx2.out.same (hb43.block _ bx2.out.lt)
            clear bx2
            have bx2 := bx2n
            clear bx2n
            have rb_w0n : Hid (Blk W43 (rg_w0) 32 #[.int .i64 r0.op, .int .i64 r0.ct, .int .i64 r0.n, .int .i64 r0.m, .int .i64 r0.va, .slice A_w0 r0.ks.length cap_w0]) := rb_w0.out.same (hb43.block _ rb_w0.out.lt)
            clear rb_w0
            have rb_w0 := rb_w0n
            clear rb_w0n
            have xb2n : Hid (Blk W43 (W14.heap.size) 41 #[.int .i64 x2.c, .int .i64 x2.n, .slice B2 x2.ks.length bap2]) := xb2.out.same (hb43.block _ xb2.out.lt)
            clear xb2
            have xb2 := xb2n
            clear xb2n
            have rb_g0n : Hid (Blk W43 (rg_g0) 32 #[.int .i64 r0.op, .int .i64 r0.ct, .int .i64 r0.n, .int .i64 r0.m, .int .i64 r0.va, .slice A_g0 r0.ks.length cap_g0]) := rb_g0.out.same (hb43.block _ rb_g0.out.lt)
            clear rb_g0
            have rb_g0 := rb_g0n
            clear rb_g0n
            have rb_h0n : Hid (Blk W43 (rg_h0) 32 #[.int .i64 r0.op, .int .i64 r0.ct, .int .i64 r0.n, .int .i64 r0.m, .int .i64 r0.va, .slice A_h0 r0.ks.length cap_h0]) := rb_h0.out.same (hb43.block _ rb_h0.out.lt)
            clear rb_h0
            have rb_h0 := rb_h0n
            clear rb_h0n
            have KP := Lib.hid (show Kept F_w0 W41 W43 from (Kept.of_below (w := W41) hb43 Y_w0.out))
            have X_w0n := Lib.hid (PR.mono _ _ _ KP.out X_w0.out)
            have Y_w0n := Lib.hid (Y_w0.out.mono hb43.size)
            have Z_w0n := Lib.hid (Z_w0.out.kept KP.out)
            clear X_w0 Y_w0 KP Z_w0
            have X_w0 := X_w0n
            have Y_w0 := Y_w0n
            have Z_w0 := Z_w0n
            clear X_w0n Y_w0n Z_w0n
            have KP := Lib.hid (show Kept F_g0 W41 W43 from (Kept.of_below (w := W41) hb43 Y_g0.out))
            have X_g0n := Lib.hid (PR.mono _ _ _ KP.out X_g0.out)
            have Y_g0n := Lib.hid (Y_g0.out.mono hb43.size)
            have Z_g0n := Lib.hid (Z_g0.out.kept KP.out)
            clear X_g0 Y_g0 KP Z_g0
            have X_g0 := X_g0n
            have Y_g0 := Y_g0n
            have Z_g0 := Z_g0n
            clear X_g0n Y_g0n Z_g0n
            have KP := Lib.hid (show Kept F_h0 W41 W43 from (Kept.of_below (w := W41) hb43 Y_h0.out))
            have X_h0n := Lib.hid (PR.mono _ _ _ KP.out X_h0.out)
            have Y_h0n := Lib.hid (Y_h0.out.mono hb43.size)
            have Z_h0n := Lib.hid (Z_h0.out.kept KP.out)
            clear X_h0 Y_h0 KP Z_h0
            have X_h0 := X_h0n
            have Y_h0 := Y_h0n
            have Z_h0 := Z_h0n
            clear X_h0n Y_h0n Z_h0n
            have bx1c0 : W43.cell? ⟨w.heap.size, 0, none⟩ = some (.int .i64 x1.d) := (bx1.out.cell 0).trans (by simp)
            have bx1c1 : W43.cell? ⟨w.heap.size, 1, none⟩ = some (.int .i64 x1.i) := (bx1.out.cell 1).trans (by simp)
            have bx1lt : w.heap.size < W43.heap.size := bx1.out.lt
            have bx2c0 : W43.cell? ⟨w.heap.size + 1, 0, none⟩ = some (.int .i64 x2.c) := (bx2.out.cell 0).trans (by simp)
            have bx2c1 : W43.cell? ⟨w.heap.size + 1, 1, none⟩ = some (.int .i64 x2.n) := (bx2.out.cell 1).trans (by simp)
            have bx2c2 : W43.cell? ⟨w.heap.size + 1, 2, none⟩ = some (.slice A2 x2.ks.length cap2) := (bx2.out.cell 2).trans (by simp)
            have bx2lt : w.heap.size + 1 < W43.heap.size := bx2.out.lt
            have rb_w0c0 : W43.cell? ⟨rg_w0, 0, none⟩ = some (.int .i64 r0.op) := (rb_w0.out.cell 0).trans (by simp)
            have rb_w0c1 : W43.cell? ⟨rg_w0, 1, none⟩ = some (.int .i64 r0.ct) := (rb_w0.out.cell 1).trans (by simp)
            have rb_w0c2 : W43.cell? ⟨rg_w0, 2, none⟩ = some (.int .i64 r0.n) := (rb_w0.out.cell 2).trans (by simp)
            have rb_w0c3 : W43.cell? ⟨rg_w0, 3, none⟩ = some (.int .i64 r0.m) := (rb_w0.out.cell 3).trans (by simp)
            have rb_w0c4 : W43.cell? ⟨rg_w0, 4, none⟩ = some (.int .i64 r0.va) := (rb_w0.out.cell 4).trans (by simp)
            have rb_w0c5 : W43.cell? ⟨rg_w0, 5, none⟩ = some (.slice A_w0 r0.ks.length cap_w0) := (rb_w0.out.cell 5).trans (by simp)
            have rb_w0lt : rg_w0 < W43.heap.size := rb_w0.out.lt
            have xb2c0 : W43.cell? ⟨W14.heap.size, 0, none⟩ = some (.int .i64 x2.c) := (xb2.out.cell 0).trans (by simp)
            have xb2c1 : W43.cell? ⟨W14.heap.size, 1, none⟩ = some (.int .i64 x2.n) := (xb2.out.cell 1).trans (by simp)
            have xb2c2 : W43.cell? ⟨W14.heap.size, 2, none⟩ = some (.slice B2 x2.ks.length bap2) := (xb2.out.cell 2).trans (by simp)
            have xb2lt : W14.heap.size < W43.heap.size := xb2.out.lt
            have rb_g0c0 : W43.cell? ⟨rg_g0, 0, none⟩ = some (.int .i64 r0.op) := (rb_g0.out.cell 0).trans (by simp)
            have rb_g0c1 : W43.cell? ⟨rg_g0, 1, none⟩ = some (.int .i64 r0.ct) := (rb_g0.out.cell 1).trans (by simp)
            have rb_g0c2 : W43.cell? ⟨rg_g0, 2, none⟩ = some (.int .i64 r0.n) := (rb_g0.out.cell 2).trans (by simp)
            have rb_g0c3 : W43.cell? ⟨rg_g0, 3, none⟩ = some (.int .i64 r0.m) := (rb_g0.out.cell 3).trans (by simp)
            have rb_g0c4 : W43.cell? ⟨rg_g0, 4, none⟩ = some (.int .i64 r0.va) := (rb_g0.out.cell 4).trans (by simp)
            have rb_g0c5 : W43.cell? ⟨rg_g0, 5, none⟩ = some (.slice A_g0 r0.ks.length cap_g0) := (rb_g0.out.cell 5).trans (by simp)
            have rb_g0lt : rg_g0 < W43.heap.size := rb_g0.out.lt
            have rb_h0c0 : W43.cell? ⟨rg_h0, 0, none⟩ = some (.int .i64 r0.op) := (rb_h0.out.cell 0).trans (by simp)
            have rb_h0c1 : W43.cell? ⟨rg_h0, 1, none⟩ = some (.int .i64 r0.ct) := (rb_h0.out.cell 1).trans (by simp)
            have rb_h0c2 : W43.cell? ⟨rg_h0, 2, none⟩ = some (.int .i64 r0.n) := (rb_h0.out.cell 2).trans (by simp)
            have rb_h0c3 : W43.cell? ⟨rg_h0, 3, none⟩ = some (.int .i64 r0.m) := (rb_h0.out.cell 3).trans (by simp)
            have rb_h0c4 : W43.cell? ⟨rg_h0, 4, none⟩ = some (.int .i64 r0.va) := (rb_h0.out.cell 4).trans (by simp)
            have rb_h0c5 : W43.cell? ⟨rg_h0, 5, none⟩ = some (.slice A_h0 r0.ks.length cap_h0) := (rb_h0.out.cell 5).trans (by simp)
            have rb_h0lt : rg_h0 < W43.heap.size := rb_h0.out.lt
            go_wp2_with fail
            clear bx1c0 bx1c1 bx2c0 bx2c1 bx2c2 rb_w0c0 rb_w0c1 rb_w0c2 rb_w0c3 rb_w0c4 rb_w0c5 xb2c0 xb2c1 xb2c2 rb_g0c0 rb_g0c1 rb_g0c2 rb_g0c3 rb_g0c4 rb_g0c5 rb_h0c0 rb_h0c1 rb_h0c2 rb_h0c3 rb_h0c4 rb_h0c5 bx1lt bx2lt rb_w0lt xb2lt rb_g0lt rb_h0lt
            refine (heldPattern_any r0 W43 _ F_g0 1 (by omega) (by omega) X_g0.out Y_g0.out).mono ?_
            rintro e W45 ⟨rfl, hb45⟩
            have hB46 := hB44.trans (hb45.mono hB44.size)
            have bx1n : Hid (Blk W45 (w.heap.size) 24 #[.int .i64 x1.d, .int .i64 x1.i]) := bx1.out.same (hb45.block _ bx1.out.lt)
            clear bx1
            have bx1 := bx1n
            clear bx1n
            have bx2n : Hid (Blk W45 (w.heap.size + 1) 27 #[.int .i64 x2.c, .int .i64 x2.n, .slice A2 x2.ks.length cap2]) := bx2.out.same (hb45.block _ bx2.out.lt)
            clear bx2
            have bx2 := bx2n
            clear bx2n
            have rb_w0n : Hid (Blk W45 (rg_w0) 32 #[.int .i64 r0.op, .int .i64 r0.ct, .int .i64 r0.n, .int .i64 r0.m, .int .i64 r0.va, .slice A_w0 r0.ks.length cap_w0]) := rb_w0.out.same (hb45.block _ rb_w0.out.lt)
            clear rb_w0
            have rb_w0 := rb_w0n
            clear rb_w0n
            have xb2n : Hid (Blk W45 (W14.heap.size) 41 #[.int .i64 x2.c, .int .i64 x2.n, .slice B2 x2.ks.length bap2]) := xb2.out.same (hb45.block _ xb2.out.lt)
            clear xb2
            have xb2 := xb2n
            clear xb2n
            have rb_g0n : Hid (Blk W45 (rg_g0) 32 #[.int .i64 r0.op, .int .i64 r0.ct, .int .i64 r0.n, .int .i64 r0.m, .int .i64 r0.va, .slice A_g0 r0.ks.length cap_g0]) := rb_g0.out.same (hb45.block _ rb_g0.out.lt)
            clear rb_g0
            have rb_g0 := rb_g0n
            clear rb_g0n
            have rb_h0n : Hid (Blk W45 (rg_h0) 32 #[.int .i64 r0.op, .int .i64 r0.ct, .int .i64 r0.n, .int .i64 r0.m, .int .i64 r0.va, .slice A_h0 r0.ks.length cap_h0]) := rb_h0.out.same (hb45.block _ rb_h0.out.lt)
            clear rb_h0
            have rb_h0 := rb_h0n
            clear rb_h0n
            have KP := Lib.hid (show Kept F_w0 W43 W45 from (Kept.of_below (w := W43) hb45 Y_w0.out))
            have X_w0n := Lib.hid (PR.mono _ _ _ KP.out X_w0.out)
            have Y_w0n := Lib.hid (Y_w0.out.mono hb45.size)
            have Z_w0n := Lib.hid (Z_w0.out.kept KP.out)
            clear X_w0 Y_w0 KP Z_w0
            have X_w0 := X_w0n
            have Y_w0 := Y_w0n
            have Z_w0 := Z_w0n
            clear X_w0n Y_w0n Z_w0n
            have KP := Lib.hid (show Kept F_g0 W43 W45 from (Kept.of_below (w := W43) hb45 Y_g0.out))
            have X_g0n := Lib.hid (PR.mono _ _ _ KP.out X_g0.out)
            have Y_g0n := Lib.hid (Y_g0.out.mono hb45.size)
            have Z_g0n := Lib.hid (Z_g0.out.kept KP.out)
            clear X_g0 Y_g0 KP Z_g0
            have X_g0 := X_g0n
            have Y_g0 := Y_g0n
            have Z_g0 := Z_g0n
            clear X_g0n Y_g0n Z_g0n
            go_wp2
            go_ret
            exact ⟨rfl, hB46⟩
    · rw [show szLeft x2.size (1048576 - ((Dt.sizes x0) : Int)) = -1 from if_neg hz2]
      go_wp2
      go_ret
      exact ⟨rfl, hB6⟩
  · rw [show szLeft (Dt.sizes x0) (1048576) = -1 from if_neg hz0]
    go_wp2
    go_ret
    exact ⟨rfl, hB4⟩
end Go.Proofs.Ytbffkgfhcmigaaa.fnExactPatternOf

namespace Go.Proofs.Ytbffkgfhcmigaaa.fnExactPatternOf
open Go.ChangeShapes Go.WideShapes Go.ChangeAt Go.RowKit
open Go.ChangeMaps (open_string shut_string)
set_option linter.unusedVariables false

theorem own : ownKnob Try.prog.godebug = none := by kernel_rfl
theorem laidOut : laidOutB Try.prog = true := by kernel_rfl

set_option maxRecDepth 100000 in
theorem lifted (os : Os) (started : os.Started) (H : Type) (enc : TypeId × Value → H) :
    ReturnsInHanded {} Try.checked os 3 .any (Rows.fnExactPatternOfSpec.pre6 enc Try.prog Try.f3 Rows.fnExactPatternOfRow.domain false) (Rows.fnExactPatternOfSpec.post enc Try.prog Try.f3 false true false false) := by
  refine returnsInHanded_of_change (C := Try.checked) own started (by kernel_rfl) Try.func3
    (ChangeSpec.witness6 (enc := enc) (C := Try.checked) false ⟨#[], #[.slice none 0 0, .agg #[.int .i64 0, .int .i64 0], .agg #[.int .i64 0, .int .i64 0, .slice none 0 0]], []⟩ 8 (by kernel_rfl) (by kernel_rfl) (by kernel_rfl) (by kernel_rfl)) ?_
  intro W base args ds gs before hval0 hW hcnd _
  have hval : ∀ (j : Nat) t v, Try.f3.params[j]? = some t → args[j]? = some v → Value.okWide Try.prog W .any base t v := hval0
  have hW' := hW
  obtain ⟨p, q, hA0, hV, rfl, hfz, hnd⟩ := hW
  have hA : DataW.TrodAll enc Try.prog W 0 (fun _ => true) true Try.f3.params.toList args.toList ds p := hA0
  rw [Try.params3] at hA hval
  obtain ⟨v0, vs0, d0, ds0, p0, q0, hargs, rfl, rfl, h0, r0⟩ := trodAll_cons hA
  obtain ⟨v1, vs1, d1, ds1, p1, q1, rfl, rfl, rfl, h1, r1⟩ := trodAll_cons r0
  obtain ⟨v2, vs2, d2, ds2, p2, q2, rfl, rfl, rfl, h2, r2⟩ := trodAll_cons r1
  obtain ⟨rfl, rfl, rfl⟩ := trodAll_nil r2
  obtain rfl : args = #[v0, v1, v2] := by cases args; simp_all
  obtain ⟨rfl, rfl⟩ := trodVars_none hV
  have k0 := h0
  have lt0 : ∀ x ∈ p0, x.block < W.heap.size := by obtain ⟨m, hm⟩ := k0; exact DataW.trod_lt m _ _ _ hm
  have k1 := h1
  have lt1 : ∀ x ∈ p1, x.block < W.heap.size := by obtain ⟨m, hm⟩ := k1; exact DataW.trod_lt m _ _ _ hm
  have k2 := h2
  have lt2 : ∀ x ∈ p2, x.block < W.heap.size := by obtain ⟨m, hm⟩ := k2; exact DataW.trod_lt m _ _ _ hm
  obtain ⟨x0, F0, hR0, hU0⟩ := open_Dts (hval 0 22 v0 rfl rfl) h0
  obtain ⟨x1, cs1, F1, rfl, hR1, hU1⟩ := open_Ty (hval 1 24 v1 rfl rfl) h1
  obtain ⟨x2, cs2, F2, rfl, hR2, hU2⟩ := open_V (hval 2 27 v2 rfl rfl) h2
  clear hA0 hval0
  refine (walk x0 v0 F0 hR0 hU0 x1 cs1 F1 hR1 hU1 x2 cs2 F2 hR2 hU2 W rfl).mono fun e W' ⟨he, bel⟩ => ?_
  subst he
  exact ⟨_, rfl, _, _, _, [], _, [], hW', trodAll_mk1 (shut_bool Try.underlying4 _), (trodAll_cons_mk (Below.trod laidOut (by kernel_rfl) (of_decide_eq_true (by kernel_rfl)) k0 bel lt0) (trodAll_cons_mk (Below.trod laidOut (by kernel_rfl) (of_decide_eq_true (by kernel_rfl)) k1 bel lt1) (trodAll_cons_mk (Below.trod laidOut (by kernel_rfl) (of_decide_eq_true (by kernel_rfl)) k2 bel lt2) trodAll_mk0))), rfl, bel.frame _, fun h => by cases h⟩

set_option maxHeartbeats 4000000 in
theorem closed : joinedFacts Try.pinned.checked.prog 3 Try.f3 Rows.fnExactPatternOfSpec Rows.fnExactPatternOfRow = true := by
  unfold joinedFacts
  have key : ∀ a b : Bool, a = true → b = true → (a && b) = true := fun a b h1 h2 => by rw [h1, h2]; rfl
  repeat' (with_reducible refine key _ _ ?_ ?_)
  all_goals as_aux_lemma => kernel_rfl

theorem over : Rows.fnExactPatternOfRow.holds Try.pinned (OpenSpec.ofChange Rows.fnExactPatternOfSpec) :=
  OpenClaim.holds_of_wide 3 Try.f3 rfl rfl rfl rfl rfl rfl rfl ⟨rfl, rfl, rfl, rfl, rfl⟩ rfl rfl rfl rfl rfl (by kernel_rfl) Try.func3 closed
    (of_decide_eq_true (by kernel_rfl)) (by unfold Func.isWrapper; first | (rw [if_pos (by decide +kernel)]; kernel_rfl) | (rw [if_neg (by decide +kernel)]; exact ⟨rfl, rfl⟩))
    (fun os started H enc _ => lifted os started H enc)

theorem proved : Rows.FnExactPatternOfSaid := over
end Go.Proofs.Ytbffkgfhcmigaaa.fnExactPatternOf
