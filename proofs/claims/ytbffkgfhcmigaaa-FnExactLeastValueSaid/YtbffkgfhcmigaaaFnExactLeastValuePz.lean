/-
  FnExactLeastValue: for every argument the law returns true. Conditions: none.
-/
import Derived.Test.YtbffkgfhcmigaaaKAA
import Derived.Test.YtbffkgfhcmigaaaKAJ
import Derived.Test.YtbffkgfhcmigaaaKAN
import Derived.Test.YtbffkgfhcmigaaaKAH
import Derived.Test.YtbffkgfhcmigaaaKAK
import Derived.Deep.Cut
import Derived.Deep.RegionWith
import Derived.Deep.RegionHeld3
import Derived.BigQuiet
import Derived.Test.YtbffkgfhcmigaaaRows
import Derived.ProofKit
import Derived.OpenShut
import Derived.ShutString
import Derived.ChangeOld
import Derived.Below

set_option linter.unusedVariables false
set_option linter.unusedSimpArgs false

namespace Go.Proofs.Ytbffkgfhcmigaaa.fnExactLeastValue
open Go.RowKit

set_option maxRecDepth 100000 in
set_option maxHeartbeats 3200000 in
theorem walk {W : World} (x0 : List Dt) (v0 : Value) (F0 : List Nat) (hR0 : Arr W (DtR W) x0 v0 F0) (hU0 : Under W.heap.size F0) (x1 : Ty) (cs1 : List Value) (F1 : List Nat) (hR1 : TyR W x1 cs1 F1) (hU1 : Under W.heap.size F1) (w : World) (hw : w = W) :
    Calls Try.prog 4 #[v0, .agg cs1.toArray] w fun e w' => e = .returned (.bool true) ∧ Below w.heap.size w w' := by
  subst hw
  obtain ⟨A0, cap0, rfl, -, -⟩ := hR0.form
  obtain ⟨rfl, rfl⟩ := hR1
  have HR0 := Lib.hid hR0
  have HU0 := Lib.hid hU0
  clear hR0 hU0
  go_enter Try.func4, Try.ntmps4
  go_wp2_with fail
  have hB0 : Below w.heap.size w w := Below.refl _ _
  obtain ⟨W1, hW⟩ : ∃ X, X = (w.alloc (.cells #[.int .i64 x1.d, .int .i64 x1.i] 24)) := ⟨_, rfl⟩
  have hb1 : Below w.heap.size w W1 := by rw [hW]; exact ((Below.refl w.heap.size w).alloc (by simp <;> omega) _)
  have bx1 : Hid (Blk W1 (w.heap.size) 24 #[.int .i64 x1.d, .int .i64 x1.i]) := by
    rw [hW]
    have h0 := Blk.new w 24 #[.int .i64 x1.d, .int .i64 x1.i]
    exact (h0)
  rw [← hW]
  clear hW
  have hB2 := hB0.trans (hb1.mono hB0.size)
  refine (szDataS_any x0 W1 F0 _ (1048576) (ArrDt.below HR0.out hB2 HU0.out) (HU0.out.mono hB2.size) (by omega) (by omega)).mono ?_
  rintro e W3 ⟨rfl, hb3⟩
  have hB4 := hB2.trans (hb3.mono hB2.size)
  have bx1n : Hid (Blk W3 (w.heap.size) 24 #[.int .i64 x1.d, .int .i64 x1.i]) := bx1.out.same (hb3.block _ bx1.out.lt)
  clear bx1
  have bx1 := bx1n
  clear bx1n
  by_cases hz0 : ((Dt.sizes x0) : Int) ≤ 1048576
  · rw [show szLeft (Dt.sizes x0) (1048576) = 1048576 - ((Dt.sizes x0) : Int) from if_pos hz0]
    have hnn0 : 0 ≤ 1048576 - ((Dt.sizes x0) : Int) := by omega
    have hs0 : (Dt.sizes x0) ≤ 1048576 := by omega
    have bx1c0 : W3.cell? ⟨w.heap.size, 0, none⟩ = some (.int .i64 x1.d) := (bx1.out.cell 0).trans (by simp)
    have bx1c1 : W3.cell? ⟨w.heap.size, 1, none⟩ = some (.int .i64 x1.i) := (bx1.out.cell 1).trans (by simp)
    have bx1lt : w.heap.size < W3.heap.size := bx1.out.lt
    go_wp2_with fail
    have SB5_bx1 := Lib.hid bx1.out.lt
    go_cut [6, 7] from 16 (fun p b wq => ∃ (g : Nat) (cs : List Value) (F : List Nat), p = .pointer (some ⟨g, 0, none⟩) ∧ b = .bool (leastFine x0 x1) ∧ Hid (Below W3.heap.size W3 wq) ∧ Hid (Blk wq g 41 cs.toArray) ∧ Hid (W3.heap.size ≤ g) ∧ Hid (g ∉ F) ∧ Hid (VR wq (leastR x0 x1) cs F) ∧ Hid (Free wq F) ∧ Hid (Fresh W3 wq F))
    case first =>
      have HS : Hid (∀ C : World, Below W3.heap.size W3 C → (C.cell? ⟨w.heap.size, 0, none⟩ = some (.int .i64 x1.d) ∧ C.cell? ⟨w.heap.size, 1, none⟩ = some (.int .i64 x1.i))) := fun C hC => ⟨((bx1.out.same (hC.block _ bx1.out.lt)).cell 0).trans (by simp), ((bx1.out.same (hC.block _ bx1.out.lt)).cell 1).trans (by simp)⟩
      have hC0 : Below W3.heap.size W3 W3.drew := (Below.refl _ _).drew
      clear bx1c0 bx1c1 bx1lt
      refine wp_region_B (S := fun w' => w'.cell? ⟨w.heap.size, 0, none⟩ = some (.int .i64 x1.d) ∧ w'.cell? ⟨w.heap.size, 1, none⟩ = some (.int .i64 x1.i)) (T := fun _ => True) (d := 10) (by kernel_rfl) ?_
      generalize W3.drew = wd at *
      have hS0 := HS.out _ hC0
      have hT0 : True := trivial
      refine wpAnyB_take (i := 0) (v := ?_) rfl (by decide) (by kernel_rfl) (by kernel_rfl) (by kernel_rfl) (fun _ _ _ h => h) (Or.inl ⟨by rfl, ?hy0⟩) hS0 (fun _ => hT0) ?_
      case hy0 => (intro W hSw; (try dsimp only at hSw); (try obtain ⟨hSw0, hSw1⟩ := hSw); go_simp; try with_reducible rfl)
      (try simp only [Act.put, List.getElem_toArray, List.getElem_cons_zero, List.getElem_cons_succ, List.setIfInBounds_toArray, List.set_cons_zero, List.set_cons_succ])
      refine wpAnyB_take (i := 2) (v := ?_) rfl (by decide) (by kernel_rfl) (by kernel_rfl) (by kernel_rfl) (fun _ _ _ h => h) (Or.inl ⟨by rfl, ?hy2⟩) hS0 (fun _ => hT0) ?_
      case hy2 => (intro W hSw; (try dsimp only at hSw); (try obtain ⟨hSw0, hSw1⟩ := hSw); go_simp; try with_reducible rfl)
      (try simp only [Act.put, List.getElem_toArray, List.getElem_cons_zero, List.getElem_cons_succ, List.setIfInBounds_toArray, List.set_cons_zero, List.set_cons_succ])
      refine wpAnyB_ready (rs := [1, 8]) (by kernel_rfl) (by simp) ?_
      refine AllReadyB.cons rfl (fun K hK => ?_) (AllReadyB.cons rfl (fun K hK => ?_) AllReadyB.nil)
      · skip
        go_simp
        go_at_call 18
        refine (toDataS_any x0 _ F0 _ (ArrDt.below HR0.out (hB4.trans (hC0.mono hB4.size)) HU0.out) (HU0.out.mono (hB4.trans (hC0.mono hB4.size)).size) hs0).mono ?_
        rintro e C1 ⟨yc1, Gc1, rfl, hb1, hvc1, hfrc1, hfsc1⟩
        have hC1 : Below W3.heap.size W3 C1 := hC0.trans (hb1.mono hC0.size)
        have cr1 := Lib.hid hvc1
        have cu1 := Lib.hid hfsc1.under
        clear hvc1 hfrc1 hfsc1
        (try dsimp only)
        refine hK.out _ _ (HS.out _ hC1) (fun _ => trivial) ?_
        clear hK K
        (try simp only [Act.put, List.getElem_toArray, List.getElem_cons_zero, List.getElem_cons_succ, List.setIfInBounds_toArray, List.set_cons_zero, List.set_cons_succ])
        refine wpAnyB_ready (rs := [3, 8]) (by kernel_rfl) (by simp) ?_
        refine AllReadyB.cons rfl (fun K hK => ?_) (AllReadyB.cons rfl (fun K hK => ?_) AllReadyB.nil)
        · skip
          go_simp
          go_at_call 19
          refine (toType_any x1 _ _ [] (TyR.mk0 _ x1) (Under.nil _) (Ty.size_le x1)).mono ?_
          rintro e C2 ⟨dsc2, Gc2, rfl, hb2, ⟨rfl, rfl⟩, hfrc2, hfsc2⟩
          have hC2 : Below W3.heap.size W3 C2 := hC1.trans (hb2.mono hC1.size)
          have cr3 := Lib.hid ((ArrDt.below cr1.out hb2 cu1.out))
          have cu3 := Lib.hid (cu1.out.mono hb2.size)
          clear hfrc2 hfsc2
          (try dsimp only)
          refine hK.out _ _ (HS.out _ hC2) (fun _ => trivial) ?_
          clear hK K
          (try simp only [Act.put, List.getElem_toArray, List.getElem_cons_zero, List.getElem_cons_succ, List.setIfInBounds_toArray, List.set_cons_zero, List.set_cons_succ])
          refine wpAnyB_ready (rs := [4, 8]) (by kernel_rfl) (by simp) ?_
          refine AllReadyB.cons rfl (fun K hK => ?_) (AllReadyB.cons rfl (fun K hK => ?_) AllReadyB.nil)
          · skip
            go_simp
            go_at_call 29
            refine (spec_LeastValue x0 x1 _ _ Gc1 cr3.out cu3.out).mono ?_
            rintro e C4 ⟨cs4, F4, rfl, hb4, hp4, hfr4, hfs4⟩
            obtain ⟨kv4, rfl, ha4⟩ := (VR_iff _ _ _).1 hp4
            obtain ⟨A4, cap4, rfl, -, -⟩ := ha4.form
            clear ha4
            have hC4 : Below W3.heap.size W3 C4 := hC2.trans (hb4.mono hC2.size)
            have HP4 := Lib.hid hp4
            have HFr4 := Lib.hid hfr4
            have HFs4 := Lib.hid hfs4
            clear hp4 hfr4 hfs4
            (try dsimp only)
            refine hK.out _ _ (HS.out _ hC4) (fun _ => trivial) ?_
            clear hK K
            (try simp only [Act.put, List.getElem_toArray, List.getElem_cons_zero, List.getElem_cons_succ, List.setIfInBounds_toArray, List.set_cons_zero, List.set_cons_succ])
            have hSx4 := HS.out _ hC4
            refine wpAnyB_take (i := 5) (v := ?_) rfl (by decide) (by kernel_rfl) (by kernel_rfl) (by kernel_rfl) (fun _ _ _ h => h) (Or.inl ⟨by rfl, ?hy5⟩) hSx4 (fun _ => hT0) ?_
            case hy5 => (intro W hSw; (try dsimp only at hSw); (try obtain ⟨hSw0, hSw1⟩ := hSw); go_simp; try with_reducible rfl)
            (try simp only [Act.put, List.getElem_toArray, List.getElem_cons_zero, List.getElem_cons_succ, List.setIfInBounds_toArray, List.set_cons_zero, List.set_cons_succ])
            refine wpAnyB_take (i := 6) (v := ?_) rfl (by decide) (by kernel_rfl) (by kernel_rfl) (by kernel_rfl) (fun _ _ _ h => h) (Or.inl ⟨by rfl, ?hy6⟩) hSx4 (fun _ => hT0) ?_
            case hy6 => (intro W hSw; (try dsimp only at hSw); (try obtain ⟨hSw0, hSw1⟩ := hSw); go_simp; try with_reducible rfl)
            (try simp only [Act.put, List.getElem_toArray, List.getElem_cons_zero, List.getElem_cons_succ, List.setIfInBounds_toArray, List.set_cons_zero, List.set_cons_succ])
            refine wpAnyB_take (i := 7) (v := ?_) rfl (by decide) (by kernel_rfl) (by kernel_rfl) (by kernel_rfl) (fun _ _ _ h => h) (Or.inl ⟨by rfl, ?hy7⟩) hSx4 (fun _ => hT0) ?_
            case hy7 => (intro W hSw; (try dsimp only at hSw); (try obtain ⟨hSw0, hSw1⟩ := hSw); go_simp; try with_reducible rfl)
            (try simp only [Act.put, List.getElem_toArray, List.getElem_cons_zero, List.getElem_cons_succ, List.setIfInBounds_toArray, List.set_cons_zero, List.set_cons_succ])
            refine wpAnyB_ready (rs := [8]) (by kernel_rfl) (by simp) ?_
            refine AllReadyB.cons rfl (fun K hK => ?_) AllReadyB.nil
            go_simp
            obtain ⟨C5, hX⟩ : ∃ X, X = C4.alloc (.cells #[.int .i64 0, .int .i64 0, .slice none 0 0] 41) := ⟨_, rfl⟩
            have hb5 : Below C4.heap.size C4 C5 := by rw [hX]; exact (Below.refl _ _).alloc (Nat.le_refl _) _
            have cb5 : Hid (Blk C5 C4.heap.size 41 #[.int .i64 0, .int .i64 0, .slice none 0 0]) := by rw [hX]; exact Blk.new _ _ _
            rw [← hX]
            clear hX
            have hC5 : Below W3.heap.size W3 C5 := hC4.trans (hb5.mono hC4.size)
            have cp6 := Lib.hid ((VR.below HP4.out hb5 HFs4.out.under))
            have cf6 := Lib.hid (HFr4.out.kept (.of_below hb5 HFs4.out.under))
            have cs6 : Hid (Fresh C2 C5 F4) := fun b hb => ⟨(HFs4.out b hb).1, Nat.lt_of_lt_of_le (HFs4.out b hb).2 hb5.size⟩
            have HGE5 : Hid (W3.heap.size ≤ C4.heap.size) := hC4.size
            (try dsimp only)
            refine hK.out _ _ (HS.out _ hC5) (fun _ => trivial) ?_
            clear hK K
            (try simp only [Act.put, List.getElem_toArray, List.getElem_cons_zero, List.getElem_cons_succ, List.setIfInBounds_toArray, List.set_cons_zero, List.set_cons_succ])
            have y0 : C5.cell? ⟨C4.heap.size, 0, none⟩ = some (.int .i64 0) := (cb5.out.cell 0).trans (by simp)
            have f0 := cb5.out.frozen 0
            have y1 : C5.cell? ⟨C4.heap.size, 1, none⟩ = some (.int .i64 0) := (cb5.out.cell 1).trans (by simp)
            have f1 := cb5.out.frozen 1
            have y2 : C5.cell? ⟨C4.heap.size, 2, none⟩ = some (.slice none 0 0) := (cb5.out.cell 2).trans (by simp)
            have f2 := cb5.out.frozen 2
            have ylt := cb5.out.lt
            have hCe : Hid (Below W3.heap.size W3 (((C5.setCell ⟨C4.heap.size, 0, none⟩ (.int .i64 (leastR x0 x1).c)).setCell ⟨C4.heap.size, 1, none⟩ (.int .i64 (leastR x0 x1).n)).setCell ⟨C4.heap.size, 2, none⟩ (.slice A4 (leastR x0 x1).ks.length cap4))) := (((hC5.setCell HGE5.out _).setCell HGE5.out _).setCell HGE5.out _)
            have cbe : Hid (Blk (((C5.setCell ⟨C4.heap.size, 0, none⟩ (.int .i64 (leastR x0 x1).c)).setCell ⟨C4.heap.size, 1, none⟩ (.int .i64 (leastR x0 x1).n)).setCell ⟨C4.heap.size, 2, none⟩ (.slice A4 (leastR x0 x1).ks.length cap4)) (C4.heap.size) 41 #[.int .i64 (leastR x0 x1).c, .int .i64 (leastR x0 x1).n, .slice A4 (leastR x0 x1).ks.length cap4]) := (((cb5.out.set_ 0 _).set_ 1 _).set_ 2 _)
            have hgF : ∀ b ∈ F4, b ≠ C4.heap.size := fun b hb e => Nat.lt_irrefl _ (by have h1 := (HFs4.out b hb).2; rw [e] at h1; exact h1)
            have hkp : Kept F4 C5 (((C5.setCell ⟨C4.heap.size, 0, none⟩ (.int .i64 (leastR x0 x1).c)).setCell ⟨C4.heap.size, 1, none⟩ (.int .i64 (leastR x0 x1).n)).setCell ⟨C4.heap.size, 2, none⟩ (.slice A4 (leastR x0 x1).ks.length cap4)) := fun b hb => by rw [Below.heap_setCell _ _ _ _ (hgF b hb), Below.heap_setCell _ _ _ _ (hgF b hb), Below.heap_setCell _ _ _ _ (hgF b hb)]
            have hpe : Hid (VR (((C5.setCell ⟨C4.heap.size, 0, none⟩ (.int .i64 (leastR x0 x1).c)).setCell ⟨C4.heap.size, 1, none⟩ (.int .i64 (leastR x0 x1).n)).setCell ⟨C4.heap.size, 2, none⟩ (.slice A4 (leastR x0 x1).ks.length cap4)) (leastR x0 x1) [.int .i64 (leastR x0 x1).c, .int .i64 (leastR x0 x1).n, .slice A4 (leastR x0 x1).ks.length cap4] F4) := VR.mono _ _ _ hkp cp6.out
            have hfe : Hid (Free (((C5.setCell ⟨C4.heap.size, 0, none⟩ (.int .i64 (leastR x0 x1).c)).setCell ⟨C4.heap.size, 1, none⟩ (.int .i64 (leastR x0 x1).n)).setCell ⟨C4.heap.size, 2, none⟩ (.slice A4 (leastR x0 x1).ks.length cap4)) F4) := cf6.out.kept hkp
            have hse : Hid (Fresh W3 (((C5.setCell ⟨C4.heap.size, 0, none⟩ (.int .i64 (leastR x0 x1).c)).setCell ⟨C4.heap.size, 1, none⟩ (.int .i64 (leastR x0 x1).n)).setCell ⟨C4.heap.size, 2, none⟩ (.slice A4 (leastR x0 x1).ks.length cap4)) F4) := fun b hb => ⟨Nat.le_trans hC2.size (cs6.out b hb).1, by simpa [World.setCell] using (cs6.out b hb).2⟩
            have hge : Hid (C4.heap.size ∉ F4) := fun h => hgF _ h rfl
            clear hkp hgF
            refine wpAnyB_ready (rs := [9]) (by kernel_rfl) (by simp) ?_
            refine AllReadyB.cons rfl (fun K hK => ?_) AllReadyB.nil
            go_simp
            refine hK.out _ _ (HS.out _ hCe.out) (fun _ => trivial) ?_
            clear hK K
            (try simp only [Act.put, List.getElem_toArray, List.getElem_cons_zero, List.getElem_cons_succ, List.setIfInBounds_toArray, List.set_cons_zero, List.set_cons_succ])
            refine wpAnyB_ready (rs := [10]) (by kernel_rfl) (by simp) ?_
            refine AllReadyB.cons rfl (fun K hK => ?_) AllReadyB.nil
            go_simp
            refine hK.out _ _ (HS.out _ hCe.out) (fun _ => trivial) ?_
            clear hK K
            (try simp only [Act.put, List.getElem_toArray, List.getElem_cons_zero, List.getElem_cons_succ, List.setIfInBounds_toArray, List.set_cons_zero, List.set_cons_succ])
            refine wpAnyB_end (by kernel_rfl) ?_
            clear y0 f0 y1 f1 y2 f2 ylt
            go_wp2
            go_meet
            case rel => exact ⟨_, _, _, rfl, rfl, hCe, cbe, HGE5, hge, hpe, hfe, hse⟩
          · skip
            go_simp
            obtain ⟨C8, hX⟩ : ∃ X, X = C2.alloc (.cells #[.int .i64 0, .int .i64 0, .slice none 0 0] 41) := ⟨_, rfl⟩
            have hb8 : Below C2.heap.size C2 C8 := by rw [hX]; exact (Below.refl _ _).alloc (Nat.le_refl _) _
            have cb8 : Hid (Blk C8 C2.heap.size 41 #[.int .i64 0, .int .i64 0, .slice none 0 0]) := by rw [hX]; exact Blk.new _ _ _
            rw [← hX]
            clear hX
            have hC8 : Below W3.heap.size W3 C8 := hC2.trans (hb8.mono hC2.size)
            have cr9 := Lib.hid ((ArrDt.below cr3.out hb8 cu3.out))
            have cu9 := Lib.hid (cu3.out.mono hb8.size)
            have HGE8 : Hid (W3.heap.size ≤ C2.heap.size) := hC2.size
            (try dsimp only)
            refine hK.out _ _ (HS.out _ hC8) (fun _ => trivial) ?_
            clear hK K
            (try simp only [Act.put, List.getElem_toArray, List.getElem_cons_zero, List.getElem_cons_succ, List.setIfInBounds_toArray, List.set_cons_zero, List.set_cons_succ])
            refine wpAnyB_ready (rs := [4]) (by kernel_rfl) (by simp) ?_
            refine AllReadyB.cons rfl (fun K hK => ?_) AllReadyB.nil
            go_simp
            go_at_call 29
            refine (spec_LeastValue x0 x1 _ _ Gc1 cr9.out cu9.out).mono ?_
            rintro e C10 ⟨cs10, F10, rfl, hb10, hp10, hfr10, hfs10⟩
            obtain ⟨kv10, rfl, ha10⟩ := (VR_iff _ _ _).1 hp10
            obtain ⟨A10, cap10, rfl, -, -⟩ := ha10.form
            clear ha10
            have hC10 : Below W3.heap.size W3 C10 := hC8.trans (hb10.mono hC8.size)
            have cb11 : Hid (Blk C10 C2.heap.size 41 #[.int .i64 0, .int .i64 0, .slice none 0 0]) := cb8.out.same (hb10.block _ cb8.out.lt)
            have HP10 := Lib.hid hp10
            have HFr10 := Lib.hid hfr10
            have HFs10 := Lib.hid hfs10
            clear hp10 hfr10 hfs10
            (try dsimp only)
            refine hK.out _ _ (HS.out _ hC10) (fun _ => trivial) ?_
            clear hK K
            (try simp only [Act.put, List.getElem_toArray, List.getElem_cons_zero, List.getElem_cons_succ, List.setIfInBounds_toArray, List.set_cons_zero, List.set_cons_succ])
            have hSx10 := HS.out _ hC10
            refine wpAnyB_take (i := 5) (v := ?_) rfl (by decide) (by kernel_rfl) (by kernel_rfl) (by kernel_rfl) (fun _ _ _ h => h) (Or.inl ⟨by rfl, ?hy5⟩) hSx10 (fun _ => hT0) ?_
            case hy5 => (intro W hSw; (try dsimp only at hSw); (try obtain ⟨hSw0, hSw1⟩ := hSw); go_simp; try with_reducible rfl)
            (try simp only [Act.put, List.getElem_toArray, List.getElem_cons_zero, List.getElem_cons_succ, List.setIfInBounds_toArray, List.set_cons_zero, List.set_cons_succ])
            refine wpAnyB_take (i := 6) (v := ?_) rfl (by decide) (by kernel_rfl) (by kernel_rfl) (by kernel_rfl) (fun _ _ _ h => h) (Or.inl ⟨by rfl, ?hy6⟩) hSx10 (fun _ => hT0) ?_
            case hy6 => (intro W hSw; (try dsimp only at hSw); (try obtain ⟨hSw0, hSw1⟩ := hSw); go_simp; try with_reducible rfl)
            (try simp only [Act.put, List.getElem_toArray, List.getElem_cons_zero, List.getElem_cons_succ, List.setIfInBounds_toArray, List.set_cons_zero, List.set_cons_succ])
            refine wpAnyB_take (i := 7) (v := ?_) rfl (by decide) (by kernel_rfl) (by kernel_rfl) (by kernel_rfl) (fun _ _ _ h => h) (Or.inl ⟨by rfl, ?hy7⟩) hSx10 (fun _ => hT0) ?_
            case hy7 => (intro W hSw; (try dsimp only at hSw); (try obtain ⟨hSw0, hSw1⟩ := hSw); go_simp; try with_reducible rfl)
            (try simp only [Act.put, List.getElem_toArray, List.getElem_cons_zero, List.getElem_cons_succ, List.setIfInBounds_toArray, List.set_cons_zero, List.set_cons_succ])
            have y0 : C10.cell? ⟨C2.heap.size, 0, none⟩ = some (.int .i64 0) := (cb11.out.cell 0).trans (by simp)
            have f0 := cb11.out.frozen 0
            have y1 : C10.cell? ⟨C2.heap.size, 1, none⟩ = some (.int .i64 0) := (cb11.out.cell 1).trans (by simp)
            have f1 := cb11.out.frozen 1
            have y2 : C10.cell? ⟨C2.heap.size, 2, none⟩ = some (.slice none 0 0) := (cb11.out.cell 2).trans (by simp)
            have f2 := cb11.out.frozen 2
            have ylt := cb11.out.lt
            have hCe : Hid (Below W3.heap.size W3 (((C10.setCell ⟨C2.heap.size, 0, none⟩ (.int .i64 (leastR x0 x1).c)).setCell ⟨C2.heap.size, 1, none⟩ (.int .i64 (leastR x0 x1).n)).setCell ⟨C2.heap.size, 2, none⟩ (.slice A10 (leastR x0 x1).ks.length cap10))) := (((hC10.setCell HGE8.out _).setCell HGE8.out _).setCell HGE8.out _)
            have cbe : Hid (Blk (((C10.setCell ⟨C2.heap.size, 0, none⟩ (.int .i64 (leastR x0 x1).c)).setCell ⟨C2.heap.size, 1, none⟩ (.int .i64 (leastR x0 x1).n)).setCell ⟨C2.heap.size, 2, none⟩ (.slice A10 (leastR x0 x1).ks.length cap10)) (C2.heap.size) 41 #[.int .i64 (leastR x0 x1).c, .int .i64 (leastR x0 x1).n, .slice A10 (leastR x0 x1).ks.length cap10]) := (((cb11.out.set_ 0 _).set_ 1 _).set_ 2 _)
            have hgF : ∀ b ∈ F10, b ≠ C2.heap.size := fun b hb e => Nat.lt_irrefl _ (Nat.lt_of_lt_of_le (by rw [e]; exact cb8.out.lt) (HFs10.out b hb).1)
            have hkp : Kept F10 C10 (((C10.setCell ⟨C2.heap.size, 0, none⟩ (.int .i64 (leastR x0 x1).c)).setCell ⟨C2.heap.size, 1, none⟩ (.int .i64 (leastR x0 x1).n)).setCell ⟨C2.heap.size, 2, none⟩ (.slice A10 (leastR x0 x1).ks.length cap10)) := fun b hb => by rw [Below.heap_setCell _ _ _ _ (hgF b hb), Below.heap_setCell _ _ _ _ (hgF b hb), Below.heap_setCell _ _ _ _ (hgF b hb)]
            have hpe : Hid (VR (((C10.setCell ⟨C2.heap.size, 0, none⟩ (.int .i64 (leastR x0 x1).c)).setCell ⟨C2.heap.size, 1, none⟩ (.int .i64 (leastR x0 x1).n)).setCell ⟨C2.heap.size, 2, none⟩ (.slice A10 (leastR x0 x1).ks.length cap10)) (leastR x0 x1) [.int .i64 (leastR x0 x1).c, .int .i64 (leastR x0 x1).n, .slice A10 (leastR x0 x1).ks.length cap10] F10) := VR.mono _ _ _ hkp HP10.out
            have hfe : Hid (Free (((C10.setCell ⟨C2.heap.size, 0, none⟩ (.int .i64 (leastR x0 x1).c)).setCell ⟨C2.heap.size, 1, none⟩ (.int .i64 (leastR x0 x1).n)).setCell ⟨C2.heap.size, 2, none⟩ (.slice A10 (leastR x0 x1).ks.length cap10)) F10) := HFr10.out.kept hkp
            have hse : Hid (Fresh W3 (((C10.setCell ⟨C2.heap.size, 0, none⟩ (.int .i64 (leastR x0 x1).c)).setCell ⟨C2.heap.size, 1, none⟩ (.int .i64 (leastR x0 x1).n)).setCell ⟨C2.heap.size, 2, none⟩ (.slice A10 (leastR x0 x1).ks.length cap10)) F10) := fun b hb => ⟨Nat.le_trans hC8.size (HFs10.out b hb).1, by simpa [World.setCell] using (HFs10.out b hb).2⟩
            have hge : Hid (C2.heap.size ∉ F10) := fun h => hgF _ h rfl
            clear hkp hgF
            refine wpAnyB_ready (rs := [9]) (by kernel_rfl) (by simp) ?_
            refine AllReadyB.cons rfl (fun K hK => ?_) AllReadyB.nil
            go_simp
            refine hK.out _ _ (HS.out _ hCe.out) (fun _ => trivial) ?_
            clear hK K
            (try simp only [Act.put, List.getElem_toArray, List.getElem_cons_zero, List.getElem_cons_succ, List.setIfInBounds_toArray, List.set_cons_zero, List.set_cons_succ])
            refine wpAnyB_ready (rs := [10]) (by kernel_rfl) (by simp) ?_
            refine AllReadyB.cons rfl (fun K hK => ?_) AllReadyB.nil
            go_simp
            refine hK.out _ _ (HS.out _ hCe.out) (fun _ => trivial) ?_
            clear hK K
            (try simp only [Act.put, List.getElem_toArray, List.getElem_cons_zero, List.getElem_cons_succ, List.setIfInBounds_toArray, List.set_cons_zero, List.set_cons_succ])
            refine wpAnyB_end (by kernel_rfl) ?_
            clear y0 f0 y1 f1 y2 f2 ylt
            go_wp2
            go_meet
            case rel => exact ⟨_, _, _, rfl, rfl, hCe, cbe, HGE8, hge, hpe, hfe, hse⟩
        · skip
          go_simp
          obtain ⟨C13, hX⟩ : ∃ X, X = C1.alloc (.cells #[.int .i64 0, .int .i64 0, .slice none 0 0] 41) := ⟨_, rfl⟩
          have hb13 : Below C1.heap.size C1 C13 := by rw [hX]; exact (Below.refl _ _).alloc (Nat.le_refl _) _
          have cb13 : Hid (Blk C13 C1.heap.size 41 #[.int .i64 0, .int .i64 0, .slice none 0 0]) := by rw [hX]; exact Blk.new _ _ _
          rw [← hX]
          clear hX
          have hC13 : Below W3.heap.size W3 C13 := hC1.trans (hb13.mono hC1.size)
          have cr14 := Lib.hid ((ArrDt.below cr1.out hb13 cu1.out))
          have cu14 := Lib.hid (cu1.out.mono hb13.size)
          have HGE13 : Hid (W3.heap.size ≤ C1.heap.size) := hC1.size
          (try dsimp only)
          refine hK.out _ _ (HS.out _ hC13) (fun _ => trivial) ?_
          clear hK K
          (try simp only [Act.put, List.getElem_toArray, List.getElem_cons_zero, List.getElem_cons_succ, List.setIfInBounds_toArray, List.set_cons_zero, List.set_cons_succ])
          refine wpAnyB_ready (rs := [3]) (by kernel_rfl) (by simp) ?_
          refine AllReadyB.cons rfl (fun K hK => ?_) AllReadyB.nil
          go_simp
          go_at_call 19
          refine (toType_any x1 _ _ [] (TyR.mk0 _ x1) (Under.nil _) (Ty.size_le x1)).mono ?_
          rintro e C15 ⟨dsc15, Gc15, rfl, hb15, ⟨rfl, rfl⟩, hfrc15, hfsc15⟩
          have hC15 : Below W3.heap.size W3 C15 := hC13.trans (hb15.mono hC13.size)
          have cr16 := Lib.hid ((ArrDt.below cr14.out hb15 cu14.out))
          have cu16 := Lib.hid (cu14.out.mono hb15.size)
          have cb17 : Hid (Blk C15 C1.heap.size 41 #[.int .i64 0, .int .i64 0, .slice none 0 0]) := cb13.out.same (hb15.block _ cb13.out.lt)
          clear hfrc15 hfsc15
          (try dsimp only)
          refine hK.out _ _ (HS.out _ hC15) (fun _ => trivial) ?_
          clear hK K
          (try simp only [Act.put, List.getElem_toArray, List.getElem_cons_zero, List.getElem_cons_succ, List.setIfInBounds_toArray, List.set_cons_zero, List.set_cons_succ])
          refine wpAnyB_ready (rs := [4]) (by kernel_rfl) (by simp) ?_
          refine AllReadyB.cons rfl (fun K hK => ?_) AllReadyB.nil
          go_simp
          go_at_call 29
          refine (spec_LeastValue x0 x1 _ _ Gc1 cr16.out cu16.out).mono ?_
          rintro e C18 ⟨cs18, F18, rfl, hb18, hp18, hfr18, hfs18⟩
          obtain ⟨kv18, rfl, ha18⟩ := (VR_iff _ _ _).1 hp18
          obtain ⟨A18, cap18, rfl, -, -⟩ := ha18.form
          clear ha18
          have hC18 : Below W3.heap.size W3 C18 := hC15.trans (hb18.mono hC15.size)
          have cb19 : Hid (Blk C18 C1.heap.size 41 #[.int .i64 0, .int .i64 0, .slice none 0 0]) := cb17.out.same (hb18.block _ cb17.out.lt)
          have HP18 := Lib.hid hp18
          have HFr18 := Lib.hid hfr18
          have HFs18 := Lib.hid hfs18
          clear hp18 hfr18 hfs18
          (try dsimp only)
          refine hK.out _ _ (HS.out _ hC18) (fun _ => trivial) ?_
          clear hK K
          (try simp only [Act.put, List.getElem_toArray, List.getElem_cons_zero, List.getElem_cons_succ, List.setIfInBounds_toArray, List.set_cons_zero, List.set_cons_succ])
          have hSx18 := HS.out _ hC18
          refine wpAnyB_take (i := 5) (v := ?_) rfl (by decide) (by kernel_rfl) (by kernel_rfl) (by kernel_rfl) (fun _ _ _ h => h) (Or.inl ⟨by rfl, ?hy5⟩) hSx18 (fun _ => hT0) ?_
          case hy5 => (intro W hSw; (try dsimp only at hSw); (try obtain ⟨hSw0, hSw1⟩ := hSw); go_simp; try with_reducible rfl)
          (try simp only [Act.put, List.getElem_toArray, List.getElem_cons_zero, List.getElem_cons_succ, List.setIfInBounds_toArray, List.set_cons_zero, List.set_cons_succ])
          refine wpAnyB_take (i := 6) (v := ?_) rfl (by decide) (by kernel_rfl) (by kernel_rfl) (by kernel_rfl) (fun _ _ _ h => h) (Or.inl ⟨by rfl, ?hy6⟩) hSx18 (fun _ => hT0) ?_
          case hy6 => (intro W hSw; (try dsimp only at hSw); (try obtain ⟨hSw0, hSw1⟩ := hSw); go_simp; try with_reducible rfl)
          (try simp only [Act.put, List.getElem_toArray, List.getElem_cons_zero, List.getElem_cons_succ, List.setIfInBounds_toArray, List.set_cons_zero, List.set_cons_succ])
          refine wpAnyB_take (i := 7) (v := ?_) rfl (by decide) (by kernel_rfl) (by kernel_rfl) (by kernel_rfl) (fun _ _ _ h => h) (Or.inl ⟨by rfl, ?hy7⟩) hSx18 (fun _ => hT0) ?_
          case hy7 => (intro W hSw; (try dsimp only at hSw); (try obtain ⟨hSw0, hSw1⟩ := hSw); go_simp; try with_reducible rfl)
          (try simp only [Act.put, List.getElem_toArray, List.getElem_cons_zero, List.getElem_cons_succ, List.setIfInBounds_toArray, List.set_cons_zero, List.set_cons_succ])
          have y0 : C18.cell? ⟨C1.heap.size, 0, none⟩ = some (.int .i64 0) := (cb19.out.cell 0).trans (by simp)
          have f0 := cb19.out.frozen 0
          have y1 : C18.cell? ⟨C1.heap.size, 1, none⟩ = some (.int .i64 0) := (cb19.out.cell 1).trans (by simp)
          have f1 := cb19.out.frozen 1
          have y2 : C18.cell? ⟨C1.heap.size, 2, none⟩ = some (.slice none 0 0) := (cb19.out.cell 2).trans (by simp)
          have f2 := cb19.out.frozen 2
          have ylt := cb19.out.lt
          have hCe : Hid (Below W3.heap.size W3 (((C18.setCell ⟨C1.heap.size, 0, none⟩ (.int .i64 (leastR x0 x1).c)).setCell ⟨C1.heap.size, 1, none⟩ (.int .i64 (leastR x0 x1).n)).setCell ⟨C1.heap.size, 2, none⟩ (.slice A18 (leastR x0 x1).ks.length cap18))) := (((hC18.setCell HGE13.out _).setCell HGE13.out _).setCell HGE13.out _)
          have cbe : Hid (Blk (((C18.setCell ⟨C1.heap.size, 0, none⟩ (.int .i64 (leastR x0 x1).c)).setCell ⟨C1.heap.size, 1, none⟩ (.int .i64 (leastR x0 x1).n)).setCell ⟨C1.heap.size, 2, none⟩ (.slice A18 (leastR x0 x1).ks.length cap18)) (C1.heap.size) 41 #[.int .i64 (leastR x0 x1).c, .int .i64 (leastR x0 x1).n, .slice A18 (leastR x0 x1).ks.length cap18]) := (((cb19.out.set_ 0 _).set_ 1 _).set_ 2 _)
          have hgF : ∀ b ∈ F18, b ≠ C1.heap.size := fun b hb e => Nat.lt_irrefl _ (Nat.lt_of_lt_of_le (by rw [e]; exact cb17.out.lt) (HFs18.out b hb).1)
          have hkp : Kept F18 C18 (((C18.setCell ⟨C1.heap.size, 0, none⟩ (.int .i64 (leastR x0 x1).c)).setCell ⟨C1.heap.size, 1, none⟩ (.int .i64 (leastR x0 x1).n)).setCell ⟨C1.heap.size, 2, none⟩ (.slice A18 (leastR x0 x1).ks.length cap18)) := fun b hb => by rw [Below.heap_setCell _ _ _ _ (hgF b hb), Below.heap_setCell _ _ _ _ (hgF b hb), Below.heap_setCell _ _ _ _ (hgF b hb)]
          have hpe : Hid (VR (((C18.setCell ⟨C1.heap.size, 0, none⟩ (.int .i64 (leastR x0 x1).c)).setCell ⟨C1.heap.size, 1, none⟩ (.int .i64 (leastR x0 x1).n)).setCell ⟨C1.heap.size, 2, none⟩ (.slice A18 (leastR x0 x1).ks.length cap18)) (leastR x0 x1) [.int .i64 (leastR x0 x1).c, .int .i64 (leastR x0 x1).n, .slice A18 (leastR x0 x1).ks.length cap18] F18) := VR.mono _ _ _ hkp HP18.out
          have hfe : Hid (Free (((C18.setCell ⟨C1.heap.size, 0, none⟩ (.int .i64 (leastR x0 x1).c)).setCell ⟨C1.heap.size, 1, none⟩ (.int .i64 (leastR x0 x1).n)).setCell ⟨C1.heap.size, 2, none⟩ (.slice A18 (leastR x0 x1).ks.length cap18)) F18) := HFr18.out.kept hkp
          have hse : Hid (Fresh W3 (((C18.setCell ⟨C1.heap.size, 0, none⟩ (.int .i64 (leastR x0 x1).c)).setCell ⟨C1.heap.size, 1, none⟩ (.int .i64 (leastR x0 x1).n)).setCell ⟨C1.heap.size, 2, none⟩ (.slice A18 (leastR x0 x1).ks.length cap18)) F18) := fun b hb => ⟨Nat.le_trans hC15.size (HFs18.out b hb).1, by simpa [World.setCell] using (HFs18.out b hb).2⟩
          have hge : Hid (C1.heap.size ∉ F18) := fun h => hgF _ h rfl
          clear hkp hgF
          refine wpAnyB_ready (rs := [9]) (by kernel_rfl) (by simp) ?_
          refine AllReadyB.cons rfl (fun K hK => ?_) AllReadyB.nil
          go_simp
          refine hK.out _ _ (HS.out _ hCe.out) (fun _ => trivial) ?_
          clear hK K
          (try simp only [Act.put, List.getElem_toArray, List.getElem_cons_zero, List.getElem_cons_succ, List.setIfInBounds_toArray, List.set_cons_zero, List.set_cons_succ])
          refine wpAnyB_ready (rs := [10]) (by kernel_rfl) (by simp) ?_
          refine AllReadyB.cons rfl (fun K hK => ?_) AllReadyB.nil
          go_simp
          refine hK.out _ _ (HS.out _ hCe.out) (fun _ => trivial) ?_
          clear hK K
          (try simp only [Act.put, List.getElem_toArray, List.getElem_cons_zero, List.getElem_cons_succ, List.setIfInBounds_toArray, List.set_cons_zero, List.set_cons_succ])
          refine wpAnyB_end (by kernel_rfl) ?_
          clear y0 f0 y1 f1 y2 f2 ylt
          go_wp2
          go_meet
          case rel => exact ⟨_, _, _, rfl, rfl, hCe, cbe, HGE13, hge, hpe, hfe, hse⟩
      · skip
        go_simp
        obtain ⟨C21, hX⟩ : ∃ X, X = wd.alloc (.cells #[.int .i64 0, .int .i64 0, .slice none 0 0] 41) := ⟨_, rfl⟩
        have hb21 : Below wd.heap.size wd C21 := by rw [hX]; exact (Below.refl _ _).alloc (Nat.le_refl _) _
        have cb21 : Hid (Blk C21 wd.heap.size 41 #[.int .i64 0, .int .i64 0, .slice none 0 0]) := by rw [hX]; exact Blk.new _ _ _
        rw [← hX]
        clear hX
        have hC21 : Below W3.heap.size W3 C21 := hC0.trans (hb21.mono hC0.size)
        have HGE21 : Hid (W3.heap.size ≤ wd.heap.size) := hC0.size
        (try dsimp only)
        refine hK.out _ _ (HS.out _ hC21) (fun _ => trivial) ?_
        clear hK K
        (try simp only [Act.put, List.getElem_toArray, List.getElem_cons_zero, List.getElem_cons_succ, List.setIfInBounds_toArray, List.set_cons_zero, List.set_cons_succ])
        refine wpAnyB_ready (rs := [1]) (by kernel_rfl) (by simp) ?_
        refine AllReadyB.cons rfl (fun K hK => ?_) AllReadyB.nil
        go_simp
        go_at_call 18
        refine (toDataS_any x0 _ F0 _ (ArrDt.below HR0.out (hB4.trans (hC21.mono hB4.size)) HU0.out) (HU0.out.mono (hB4.trans (hC21.mono hB4.size)).size) hs0).mono ?_
        rintro e C22 ⟨yc22, Gc22, rfl, hb22, hvc22, hfrc22, hfsc22⟩
        have hC22 : Below W3.heap.size W3 C22 := hC21.trans (hb22.mono hC21.size)
        have cb23 : Hid (Blk C22 wd.heap.size 41 #[.int .i64 0, .int .i64 0, .slice none 0 0]) := cb21.out.same (hb22.block _ cb21.out.lt)
        have cr22 := Lib.hid hvc22
        have cu22 := Lib.hid hfsc22.under
        clear hvc22 hfrc22 hfsc22
        (try dsimp only)
        refine hK.out _ _ (HS.out _ hC22) (fun _ => trivial) ?_
        clear hK K
        (try simp only [Act.put, List.getElem_toArray, List.getElem_cons_zero, List.getElem_cons_succ, List.setIfInBounds_toArray, List.set_cons_zero, List.set_cons_succ])
        refine wpAnyB_ready (rs := [3]) (by kernel_rfl) (by simp) ?_
        refine AllReadyB.cons rfl (fun K hK => ?_) AllReadyB.nil
        go_simp
        go_at_call 19
        refine (toType_any x1 _ _ [] (TyR.mk0 _ x1) (Under.nil _) (Ty.size_le x1)).mono ?_
        rintro e C24 ⟨dsc24, Gc24, rfl, hb24, ⟨rfl, rfl⟩, hfrc24, hfsc24⟩
        have hC24 : Below W3.heap.size W3 C24 := hC22.trans (hb24.mono hC22.size)
        have cr25 := Lib.hid ((ArrDt.below cr22.out hb24 cu22.out))
        have cu25 := Lib.hid (cu22.out.mono hb24.size)
        have cb26 : Hid (Blk C24 wd.heap.size 41 #[.int .i64 0, .int .i64 0, .slice none 0 0]) := cb23.out.same (hb24.block _ cb23.out.lt)
        clear hfrc24 hfsc24
        (try dsimp only)
        refine hK.out _ _ (HS.out _ hC24) (fun _ => trivial) ?_
        clear hK K
        (try simp only [Act.put, List.getElem_toArray, List.getElem_cons_zero, List.getElem_cons_succ, List.setIfInBounds_toArray, List.set_cons_zero, List.set_cons_succ])
        refine wpAnyB_ready (rs := [4]) (by kernel_rfl) (by simp) ?_
        refine AllReadyB.cons rfl (fun K hK => ?_) AllReadyB.nil
        go_simp
        go_at_call 29
        refine (spec_LeastValue x0 x1 _ _ Gc22 cr25.out cu25.out).mono ?_
        rintro e C27 ⟨cs27, F27, rfl, hb27, hp27, hfr27, hfs27⟩
        obtain ⟨kv27, rfl, ha27⟩ := (VR_iff _ _ _).1 hp27
        obtain ⟨A27, cap27, rfl, -, -⟩ := ha27.form
        clear ha27
        have hC27 : Below W3.heap.size W3 C27 := hC24.trans (hb27.mono hC24.size)
        have cb28 : Hid (Blk C27 wd.heap.size 41 #[.int .i64 0, .int .i64 0, .slice none 0 0]) := cb26.out.same (hb27.block _ cb26.out.lt)
        have HP27 := Lib.hid hp27
        have HFr27 := Lib.hid hfr27
        have HFs27 := Lib.hid hfs27
        clear hp27 hfr27 hfs27
        (try dsimp only)
        refine hK.out _ _ (HS.out _ hC27) (fun _ => trivial) ?_
        clear hK K
        (try simp only [Act.put, List.getElem_toArray, List.getElem_cons_zero, List.getElem_cons_succ, List.setIfInBounds_toArray, List.set_cons_zero, List.set_cons_succ])
        have hSx27 := HS.out _ hC27
        refine wpAnyB_take (i := 5) (v := ?_) rfl (by decide) (by kernel_rfl) (by kernel_rfl) (by kernel_rfl) (fun _ _ _ h => h) (Or.inl ⟨by rfl, ?hy5⟩) hSx27 (fun _ => hT0) ?_
        case hy5 => (intro W hSw; (try dsimp only at hSw); (try obtain ⟨hSw0, hSw1⟩ := hSw); go_simp; try with_reducible rfl)
        (try simp only [Act.put, List.getElem_toArray, List.getElem_cons_zero, List.getElem_cons_succ, List.setIfInBounds_toArray, List.set_cons_zero, List.set_cons_succ])
        refine wpAnyB_take (i := 6) (v := ?_) rfl (by decide) (by kernel_rfl) (by kernel_rfl) (by kernel_rfl) (fun _ _ _ h => h) (Or.inl ⟨by rfl, ?hy6⟩) hSx27 (fun _ => hT0) ?_
        case hy6 => (intro W hSw; (try dsimp only at hSw); (try obtain ⟨hSw0, hSw1⟩ := hSw); go_simp; try with_reducible rfl)
        (try simp only [Act.put, List.getElem_toArray, List.getElem_cons_zero, List.getElem_cons_succ, List.setIfInBounds_toArray, List.set_cons_zero, List.set_cons_succ])
        refine wpAnyB_take (i := 7) (v := ?_) rfl (by decide) (by kernel_rfl) (by kernel_rfl) (by kernel_rfl) (fun _ _ _ h => h) (Or.inl ⟨by rfl, ?hy7⟩) hSx27 (fun _ => hT0) ?_
        case hy7 => (intro W hSw; (try dsimp only at hSw); (try obtain ⟨hSw0, hSw1⟩ := hSw); go_simp; try with_reducible rfl)
        (try simp only [Act.put, List.getElem_toArray, List.getElem_cons_zero, List.getElem_cons_succ, List.setIfInBounds_toArray, List.set_cons_zero, List.set_cons_succ])
        have y0 : C27.cell? ⟨wd.heap.size, 0, none⟩ = some (.int .i64 0) := (cb28.out.cell 0).trans (by simp)
        have f0 := cb28.out.frozen 0
        have y1 : C27.cell? ⟨wd.heap.size, 1, none⟩ = some (.int .i64 0) := (cb28.out.cell 1).trans (by simp)
        have f1 := cb28.out.frozen 1
        have y2 : C27.cell? ⟨wd.heap.size, 2, none⟩ = some (.slice none 0 0) := (cb28.out.cell 2).trans (by simp)
        have f2 := cb28.out.frozen 2
        have ylt := cb28.out.lt
        have hCe : Hid (Below W3.heap.size W3 (((C27.setCell ⟨wd.heap.size, 0, none⟩ (.int .i64 (leastR x0 x1).c)).setCell ⟨wd.heap.size, 1, none⟩ (.int .i64 (leastR x0 x1).n)).setCell ⟨wd.heap.size, 2, none⟩ (.slice A27 (leastR x0 x1).ks.length cap27))) := (((hC27.setCell HGE21.out _).setCell HGE21.out _).setCell HGE21.out _)
        have cbe : Hid (Blk (((C27.setCell ⟨wd.heap.size, 0, none⟩ (.int .i64 (leastR x0 x1).c)).setCell ⟨wd.heap.size, 1, none⟩ (.int .i64 (leastR x0 x1).n)).setCell ⟨wd.heap.size, 2, none⟩ (.slice A27 (leastR x0 x1).ks.length cap27)) (wd.heap.size) 41 #[.int .i64 (leastR x0 x1).c, .int .i64 (leastR x0 x1).n, .slice A27 (leastR x0 x1).ks.length cap27]) := (((cb28.out.set_ 0 _).set_ 1 _).set_ 2 _)
        have hgF : ∀ b ∈ F27, b ≠ wd.heap.size := fun b hb e => Nat.lt_irrefl _ (Nat.lt_of_lt_of_le (by rw [e]; exact cb26.out.lt) (HFs27.out b hb).1)
        have hkp : Kept F27 C27 (((C27.setCell ⟨wd.heap.size, 0, none⟩ (.int .i64 (leastR x0 x1).c)).setCell ⟨wd.heap.size, 1, none⟩ (.int .i64 (leastR x0 x1).n)).setCell ⟨wd.heap.size, 2, none⟩ (.slice A27 (leastR x0 x1).ks.length cap27)) := fun b hb => by rw [Below.heap_setCell _ _ _ _ (hgF b hb), Below.heap_setCell _ _ _ _ (hgF b hb), Below.heap_setCell _ _ _ _ (hgF b hb)]
        have hpe : Hid (VR (((C27.setCell ⟨wd.heap.size, 0, none⟩ (.int .i64 (leastR x0 x1).c)).setCell ⟨wd.heap.size, 1, none⟩ (.int .i64 (leastR x0 x1).n)).setCell ⟨wd.heap.size, 2, none⟩ (.slice A27 (leastR x0 x1).ks.length cap27)) (leastR x0 x1) [.int .i64 (leastR x0 x1).c, .int .i64 (leastR x0 x1).n, .slice A27 (leastR x0 x1).ks.length cap27] F27) := VR.mono _ _ _ hkp HP27.out
        have hfe : Hid (Free (((C27.setCell ⟨wd.heap.size, 0, none⟩ (.int .i64 (leastR x0 x1).c)).setCell ⟨wd.heap.size, 1, none⟩ (.int .i64 (leastR x0 x1).n)).setCell ⟨wd.heap.size, 2, none⟩ (.slice A27 (leastR x0 x1).ks.length cap27)) F27) := HFr27.out.kept hkp
        have hse : Hid (Fresh W3 (((C27.setCell ⟨wd.heap.size, 0, none⟩ (.int .i64 (leastR x0 x1).c)).setCell ⟨wd.heap.size, 1, none⟩ (.int .i64 (leastR x0 x1).n)).setCell ⟨wd.heap.size, 2, none⟩ (.slice A27 (leastR x0 x1).ks.length cap27)) F27) := fun b hb => ⟨Nat.le_trans hC24.size (HFs27.out b hb).1, by simpa [World.setCell] using (HFs27.out b hb).2⟩
        have hge : Hid (wd.heap.size ∉ F27) := fun h => hgF _ h rfl
        clear hkp hgF
        refine wpAnyB_ready (rs := [9]) (by kernel_rfl) (by simp) ?_
        refine AllReadyB.cons rfl (fun K hK => ?_) AllReadyB.nil
        go_simp
        refine hK.out _ _ (HS.out _ hCe.out) (fun _ => trivial) ?_
        clear hK K
        (try simp only [Act.put, List.getElem_toArray, List.getElem_cons_zero, List.getElem_cons_succ, List.setIfInBounds_toArray, List.set_cons_zero, List.set_cons_succ])
        refine wpAnyB_ready (rs := [10]) (by kernel_rfl) (by simp) ?_
        refine AllReadyB.cons rfl (fun K hK => ?_) AllReadyB.nil
        go_simp
        refine hK.out _ _ (HS.out _ hCe.out) (fun _ => trivial) ?_
        clear hK K
        (try simp only [Act.put, List.getElem_toArray, List.getElem_cons_zero, List.getElem_cons_succ, List.setIfInBounds_toArray, List.set_cons_zero, List.set_cons_succ])
        refine wpAnyB_end (by kernel_rfl) ?_
        clear y0 f0 y1 f1 y2 f2 ylt
        go_wp2
        go_meet
        case rel => exact ⟨_, _, _, rfl, rfl, hCe, cbe, HGE21, hge, hpe, hfe, hse⟩
    case rest =>
      obtain ⟨rg_w0, cs_w0, F_w0, rfl, rfl, HBt_w0, RB_w0, RGE_w0, RGF_w0, HP_w0, HFR_w0, HFS_w0⟩ := hcut
      obtain ⟨kv_w0, rfl, ha_w0⟩ := (VR_iff _ _ _).1 HP_w0.out
      obtain ⟨A_w0, cap_w0, rfl, -, -⟩ := ha_w0.form
      clear ha_w0
      obtain ⟨W6, hW⟩ : ∃ X, X = wc := ⟨_, rfl⟩
      rw [← hW] at HBt_w0 RB_w0 HP_w0 HFR_w0 HFS_w0 ⊢
      clear hW
      have hfz_w0 := HFS_w0.out
      have nb_bx1_w0 := Lib.hid (fun (hj : _ ∈ F_w0) => Nat.lt_irrefl _ (Nat.lt_of_lt_of_le SB5_bx1.out (hfz_w0 _ hj).1))
      have LB_w0 := Lib.hid (fun b (hj : b ∈ F_w0) => Nat.le_trans hB4.size (hfz_w0 b hj).1)
      have X_w0 := HP_w0
      have Y_w0 := Lib.hid hfz_w0.under
      have Z_w0 := HFR_w0
      clear HP_w0 HFR_w0 HFS_w0 hfz_w0
      have nb_rb_w0_w0 := RGF_w0
      have hbt6 := HBt_w0.out
      have rb_w0 := RB_w0
      clear HBt_w0 RB_w0 RGE_w0 RGF_w0
      have hB7 := hB4.trans (hbt6.mono hB4.size)
      have bx1n : Hid (Blk W6 (w.heap.size) 24 #[.int .i64 x1.d, .int .i64 x1.i]) := bx1.out.same (hbt6.block _ bx1.out.lt)
      clear bx1
      have bx1 := bx1n
      clear bx1n
      have rb_w0n : Hid (Blk W6 rg_w0 41 #[.int .i64 (leastR x0 x1).c, .int .i64 (leastR x0 x1).n, .slice A_w0 (leastR x0 x1).ks.length cap_w0]) := rb_w0
      clear rb_w0
      have rb_w0 := rb_w0n
      clear rb_w0n
      generalize hres : leastR x0 x1 = r0 at *
      have HRes := Lib.hid hres
      clear hres
      generalize hresb : leastFine x0 x1 = rb at *
      have HResb := Lib.hid hresb
      clear hresb
      have bx1c0 : W6.cell? ⟨w.heap.size, 0, none⟩ = some (.int .i64 x1.d) := (bx1.out.cell 0).trans (by simp)
      have bx1c1 : W6.cell? ⟨w.heap.size, 1, none⟩ = some (.int .i64 x1.i) := (bx1.out.cell 1).trans (by simp)
      have bx1lt : w.heap.size < W6.heap.size := bx1.out.lt
      have rb_w0c0 : W6.cell? ⟨rg_w0, 0, none⟩ = some (.int .i64 r0.c) := (rb_w0.out.cell 0).trans (by simp)
      have rb_w0c1 : W6.cell? ⟨rg_w0, 1, none⟩ = some (.int .i64 r0.n) := (rb_w0.out.cell 1).trans (by simp)
      have rb_w0c2 : W6.cell? ⟨rg_w0, 2, none⟩ = some (.slice A_w0 r0.ks.length cap_w0) := (rb_w0.out.cell 2).trans (by simp)
      have rb_w0lt : rg_w0 < W6.heap.size := rb_w0.out.lt
      go_wp2_with fail
      clear bx1c0 bx1c1 rb_w0c0 rb_w0c1 rb_w0c2 bx1lt rb_w0lt
      have SU8_w0 := Y_w0
      have SB8_bx1 := Lib.hid bx1.out.lt
      have SB8_rb_w0 := Lib.hid rb_w0.out.lt
      refine (toDataS_any x0 W6 F0 _ (ArrDt.below HR0.out hB7 HU0.out) (HU0.out.mono hB7.size) hs0).mono ?_
      rintro e W9 ⟨y9, G9, rfl, hb9, hv9, hfr9, hfs9⟩
      have hB10 := hB7.trans (hb9.mono hB7.size)
      have bx1n : Hid (Blk W9 (w.heap.size) 24 #[.int .i64 x1.d, .int .i64 x1.i]) := bx1.out.same (hb9.block _ bx1.out.lt)
      clear bx1
      have bx1 := bx1n
      clear bx1n
      have rb_w0n : Hid (Blk W9 (rg_w0) 41 #[.int .i64 r0.c, .int .i64 r0.n, .slice A_w0 r0.ks.length cap_w0]) := rb_w0.out.same (hb9.block _ rb_w0.out.lt)
      clear rb_w0
      have rb_w0 := rb_w0n
      clear rb_w0n
      have KP := Lib.hid (show Kept F_w0 W6 W9 from (Kept.of_below (w := W6) hb9 Y_w0.out))
      have X_w0n := Lib.hid (VR.mono _ _ _ KP.out X_w0.out)
      have Y_w0n := Lib.hid (Y_w0.out.mono hb9.size)
      have Z_w0n := Lib.hid (Z_w0.out.kept KP.out)
      clear X_w0 Y_w0 KP Z_w0
      have X_w0 := X_w0n
      have Y_w0 := Y_w0n
      have Z_w0 := Z_w0n
      clear X_w0n Y_w0n Z_w0n
      obtain ⟨B0, bap0, rfl, -, -⟩ := hv9.form
      have X0 := Lib.hid hv9
      have Y0 := Lib.hid hfs9.under
      have Z_x0 := Lib.hid hfr9
      have dj_w0_x0 := Lib.hid (fun b (hb : b ∈ F_w0) (hj : b ∈ G9) => Nat.lt_irrefl _ (Nat.lt_of_lt_of_le (SU8_w0.out b hb) (hfs9 b hj).1))
      have dj_x0_w0 := Lib.hid (fun b (hj : b ∈ G9) (hb : b ∈ F_w0) => Nat.lt_irrefl _ (Nat.lt_of_lt_of_le (SU8_w0.out b hb) (hfs9 b hj).1))
      have nb_bx1_x0 := Lib.hid (fun (hj : _ ∈ G9) => Nat.lt_irrefl _ (Nat.lt_of_lt_of_le SB8_bx1.out (hfs9 _ hj).1))
      have nb_rb_w0_x0 := Lib.hid (fun (hj : _ ∈ G9) => Nat.lt_irrefl _ (Nat.lt_of_lt_of_le SB8_rb_w0.out (hfs9 _ hj).1))
      have LB_x0 := Lib.hid (fun b (hj : b ∈ G9) => Nat.le_trans hB7.size (hfs9 b hj).1)
      clear hv9 hfr9 hfs9
      have bx1c0 : W9.cell? ⟨w.heap.size, 0, none⟩ = some (.int .i64 x1.d) := (bx1.out.cell 0).trans (by simp)
      have bx1c1 : W9.cell? ⟨w.heap.size, 1, none⟩ = some (.int .i64 x1.i) := (bx1.out.cell 1).trans (by simp)
      have bx1lt : w.heap.size < W9.heap.size := bx1.out.lt
      have rb_w0c0 : W9.cell? ⟨rg_w0, 0, none⟩ = some (.int .i64 r0.c) := (rb_w0.out.cell 0).trans (by simp)
      have rb_w0c1 : W9.cell? ⟨rg_w0, 1, none⟩ = some (.int .i64 r0.n) := (rb_w0.out.cell 1).trans (by simp)
      have rb_w0c2 : W9.cell? ⟨rg_w0, 2, none⟩ = some (.slice A_w0 r0.ks.length cap_w0) := (rb_w0.out.cell 2).trans (by simp)
      have rb_w0lt : rg_w0 < W9.heap.size := rb_w0.out.lt
      go_wp2_with fail
      have SU11_w0 := Y_w0
      have SU11_x0 := Y0
      have SB11_bx1 := Lib.hid bx1.out.lt
      have SB11_rb_w0 := Lib.hid rb_w0.out.lt
      clear bx1c0 bx1c1 rb_w0c0 rb_w0c1 rb_w0c2 bx1lt rb_w0lt
      refine (toType_any x1 _ _ [] (TyR.mk0 _ x1) (Under.nil _) (Ty.size_le x1)).mono ?_
      rintro e W12 ⟨ds12, G12, rfl, hb12, ⟨rfl, rfl⟩, hfr12, hfs12⟩
      have hBq12 := hB10.trans (hb12.mono hB10.size)
      have bx1c0 : W12.cell? ⟨w.heap.size, 0, none⟩ = some (.int .i64 x1.d) := ((bx1.out.same (hb12.block _ (bx1.out).lt)).cell 0).trans (by simp)
      have bx1c1 : W12.cell? ⟨w.heap.size, 1, none⟩ = some (.int .i64 x1.i) := ((bx1.out.same (hb12.block _ (bx1.out).lt)).cell 1).trans (by simp)
      have bx1lt : w.heap.size < W12.heap.size := (bx1.out.same (hb12.block _ (bx1.out).lt)).lt
      have rb_w0c0 : W12.cell? ⟨rg_w0, 0, none⟩ = some (.int .i64 r0.c) := ((rb_w0.out.same (hb12.block _ (rb_w0.out).lt)).cell 0).trans (by simp)
      have rb_w0c1 : W12.cell? ⟨rg_w0, 1, none⟩ = some (.int .i64 r0.n) := ((rb_w0.out.same (hb12.block _ (rb_w0.out).lt)).cell 1).trans (by simp)
      have rb_w0c2 : W12.cell? ⟨rg_w0, 2, none⟩ = some (.slice A_w0 r0.ks.length cap_w0) := ((rb_w0.out.same (hb12.block _ (rb_w0.out).lt)).cell 2).trans (by simp)
      have rb_w0lt : rg_w0 < W12.heap.size := (rb_w0.out.same (hb12.block _ (rb_w0.out).lt)).lt
      go_wp2_with fail
      refine (impl_LeastValue x0 x1 _ _ G9 (ArrDt.below X0.out hb12 Y0.out) (Y0.out.mono hb12.size)).mono ?_
      rintro e W13 ⟨cs_g0, F_g0, rfl, hb13, hp_g0, hfr_g0, hfs_g0⟩
      rw [HRes.out] at hp_g0
      rw [HResb.out]
      obtain ⟨kv_g0, rfl, ha_g0⟩ := (VR_iff _ _ _).1 hp_g0
      obtain ⟨A_g0, cap_g0, rfl, -, -⟩ := ha_g0.form
      clear ha_g0
      have hbt14_0 := hb12
      have hbt14_1 := hbt14_0.trans (hb13.mono hbt14_0.size)
      have hfz_g0 : Fresh W9 W13 F_g0 := fun b hb => ⟨Nat.le_trans hbt14_0.size (hfs_g0 b hb).1, (hfs_g0 b hb).2⟩
      have dj_w0_g0 := Lib.hid (fun b (hb : b ∈ F_w0) (hj : b ∈ F_g0) => Nat.lt_irrefl _ (Nat.lt_of_lt_of_le (SU11_w0.out b hb) (hfz_g0 b hj).1))
      have dj_g0_w0 := Lib.hid (fun b (hj : b ∈ F_g0) (hb : b ∈ F_w0) => Nat.lt_irrefl _ (Nat.lt_of_lt_of_le (SU11_w0.out b hb) (hfz_g0 b hj).1))
      have dj_x0_g0 := Lib.hid (fun b (hb : b ∈ G9) (hj : b ∈ F_g0) => Nat.lt_irrefl _ (Nat.lt_of_lt_of_le (SU11_x0.out b hb) (hfz_g0 b hj).1))
      have dj_g0_x0 := Lib.hid (fun b (hj : b ∈ F_g0) (hb : b ∈ G9) => Nat.lt_irrefl _ (Nat.lt_of_lt_of_le (SU11_x0.out b hb) (hfz_g0 b hj).1))
      have nb_bx1_g0 := Lib.hid (fun (hj : _ ∈ F_g0) => Nat.lt_irrefl _ (Nat.lt_of_lt_of_le SB11_bx1.out (hfz_g0 _ hj).1))
      have nb_rb_w0_g0 := Lib.hid (fun (hj : _ ∈ F_g0) => Nat.lt_irrefl _ (Nat.lt_of_lt_of_le SB11_rb_w0.out (hfz_g0 _ hj).1))
      have LB_g0 := Lib.hid (fun b (hj : b ∈ F_g0) => Nat.le_trans hB10.size (hfz_g0 b hj).1)
      have X_g0 := Lib.hid hp_g0
      have Y_g0 := Lib.hid hfs_g0.under
      have Z_g0 := Lib.hid hfr_g0
      clear hp_g0 hfr_g0 hfs_g0 hfz_g0
      have hB15 := hB10.trans (hbt14_1.mono hB10.size)
      have bx1n : Hid (Blk W13 (w.heap.size) 24 #[.int .i64 x1.d, .int .i64 x1.i]) := bx1.out.same (hbt14_1.block _ bx1.out.lt)
      clear bx1
      have bx1 := bx1n
      clear bx1n
      have rb_w0n : Hid (Blk W13 (rg_w0) 41 #[.int .i64 r0.c, .int .i64 r0.n, .slice A_w0 r0.ks.length cap_w0]) := rb_w0.out.same (hbt14_1.block _ rb_w0.out.lt)
      clear rb_w0
      have rb_w0 := rb_w0n
      clear rb_w0n
      have KP := Lib.hid (show Kept F_w0 W9 W13 from (Kept.of_below (w := W9) hbt14_1 Y_w0.out))
      have X_w0n := Lib.hid (VR.mono _ _ _ KP.out X_w0.out)
      have Y_w0n := Lib.hid (Y_w0.out.mono hbt14_1.size)
      have Z_w0n := Lib.hid (Z_w0.out.kept KP.out)
      clear X_w0 Y_w0 KP Z_w0
      have X_w0 := X_w0n
      have Y_w0 := Y_w0n
      have Z_w0 := Z_w0n
      clear X_w0n Y_w0n Z_w0n
      have KP := Lib.hid (show Kept G9 W9 W13 from (Kept.of_below (w := W9) hbt14_1 Y0.out))
      have X0n := Lib.hid (ArrDt.mono X0.out KP.out)
      have Y0n := Lib.hid (Y0.out.mono hbt14_1.size)
      have Z_x0n := Lib.hid (Z_x0.out.kept KP.out)
      clear X0 Y0 KP Z_x0
      have X0 := X0n
      have Y0 := Y0n
      have Z_x0 := Z_x0n
      clear X0n Y0n Z_x0n
      have bx1c0 : W13.cell? ⟨w.heap.size, 0, none⟩ = some (.int .i64 x1.d) := (bx1.out.cell 0).trans (by simp)
      have bx1c1 : W13.cell? ⟨w.heap.size, 1, none⟩ = some (.int .i64 x1.i) := (bx1.out.cell 1).trans (by simp)
      have bx1lt : w.heap.size < W13.heap.size := bx1.out.lt
      have rb_w0c0 : W13.cell? ⟨rg_w0, 0, none⟩ = some (.int .i64 r0.c) := (rb_w0.out.cell 0).trans (by simp)
      have rb_w0c1 : W13.cell? ⟨rg_w0, 1, none⟩ = some (.int .i64 r0.n) := (rb_w0.out.cell 1).trans (by simp)
      have rb_w0c2 : W13.cell? ⟨rg_w0, 2, none⟩ = some (.slice A_w0 r0.ks.length cap_w0) := (rb_w0.out.cell 2).trans (by simp)
      have rb_w0lt : rg_w0 < W13.heap.size := rb_w0.out.lt
      go_wp2_with fail
      clear bx1c0 bx1c1 rb_w0c0 rb_w0c1 rb_w0c2 bx1lt rb_w0lt
      have nb_rb_g0_w0 := Lib.hid (fun (hj : _ ∈ F_w0) => Nat.lt_irrefl _ (Y_w0.out _ hj))
      have nb_rb_g0_x0 := Lib.hid (fun (hj : _ ∈ G9) => Nat.lt_irrefl _ (Y0.out _ hj))
      have nb_rb_g0_g0 := Lib.hid (fun (hj : _ ∈ F_g0) => Nat.lt_irrefl _ (Y_g0.out _ hj))
      obtain ⟨W16, hW⟩ : ∃ X, X = W13.alloc (.cells #[.int .i64 r0.c, .int .i64 r0.n, .slice A_g0 r0.ks.length cap_g0] 41) := ⟨_, rfl⟩
      have hb16 : Below W13.heap.size W13 W16 := by rw [hW]; exact (Below.refl _ _).alloc (Nat.le_refl _) _
      have rb_g0 : Hid (Blk W16 W13.heap.size 41 #[.int .i64 r0.c, .int .i64 r0.n, .slice A_g0 r0.ks.length cap_g0]) := by rw [hW]; exact Blk.new _ _ _
      rw [← hW]
      clear hW
      have hB17 := hB15.trans (hb16.mono hB15.size)
      have bx1n : Hid (Blk W16 (w.heap.size) 24 #[.int .i64 x1.d, .int .i64 x1.i]) := bx1.out.same (hb16.block _ bx1.out.lt)
      clear bx1
      have bx1 := bx1n
      clear bx1n
      have rb_w0n : Hid (Blk W16 (rg_w0) 41 #[.int .i64 r0.c, .int .i64 r0.n, .slice A_w0 r0.ks.length cap_w0]) := rb_w0.out.same (hb16.block _ rb_w0.out.lt)
      clear rb_w0
      have rb_w0 := rb_w0n
      clear rb_w0n
      have KP := Lib.hid (show Kept F_w0 W13 W16 from (Kept.of_below (w := W13) hb16 Y_w0.out))
      have X_w0n := Lib.hid (VR.mono _ _ _ KP.out X_w0.out)
      have Y_w0n := Lib.hid (Y_w0.out.mono hb16.size)
      have Z_w0n := Lib.hid (Z_w0.out.kept KP.out)
      clear X_w0 Y_w0 KP Z_w0
      have X_w0 := X_w0n
      have Y_w0 := Y_w0n
      have Z_w0 := Z_w0n
      clear X_w0n Y_w0n Z_w0n
      have KP := Lib.hid (show Kept G9 W13 W16 from (Kept.of_below (w := W13) hb16 Y0.out))
      have X0n := Lib.hid (ArrDt.mono X0.out KP.out)
      have Y0n := Lib.hid (Y0.out.mono hb16.size)
      have Z_x0n := Lib.hid (Z_x0.out.kept KP.out)
      clear X0 Y0 KP Z_x0
      have X0 := X0n
      have Y0 := Y0n
      have Z_x0 := Z_x0n
      clear X0n Y0n Z_x0n
      have KP := Lib.hid (show Kept F_g0 W13 W16 from (Kept.of_below (w := W13) hb16 Y_g0.out))
      have X_g0n := Lib.hid (VR.mono _ _ _ KP.out X_g0.out)
      have Y_g0n := Lib.hid (Y_g0.out.mono hb16.size)
      have Z_g0n := Lib.hid (Z_g0.out.kept KP.out)
      clear X_g0 Y_g0 KP Z_g0
      have X_g0 := X_g0n
      have Y_g0 := Y_g0n
      have Z_g0 := Z_g0n
      clear X_g0n Y_g0n Z_g0n
      have hneb : (rb != rb) = false := by simp
      have bx1c0 : W16.cell? ⟨w.heap.size, 0, none⟩ = some (.int .i64 x1.d) := (bx1.out.cell 0).trans (by simp)
      have bx1c1 : W16.cell? ⟨w.heap.size, 1, none⟩ = some (.int .i64 x1.i) := (bx1.out.cell 1).trans (by simp)
      have bx1lt : w.heap.size < W16.heap.size := bx1.out.lt
      have rb_w0c0 : W16.cell? ⟨rg_w0, 0, none⟩ = some (.int .i64 r0.c) := (rb_w0.out.cell 0).trans (by simp)
      have rb_w0c1 : W16.cell? ⟨rg_w0, 1, none⟩ = some (.int .i64 r0.n) := (rb_w0.out.cell 1).trans (by simp)
      have rb_w0c2 : W16.cell? ⟨rg_w0, 2, none⟩ = some (.slice A_w0 r0.ks.length cap_w0) := (rb_w0.out.cell 2).trans (by simp)
      have rb_w0lt : rg_w0 < W16.heap.size := rb_w0.out.lt
      have rb_g0c0 : W16.cell? ⟨W13.heap.size, 0, none⟩ = some (.int .i64 r0.c) := (rb_g0.out.cell 0).trans (by simp)
      have rb_g0c1 : W16.cell? ⟨W13.heap.size, 1, none⟩ = some (.int .i64 r0.n) := (rb_g0.out.cell 1).trans (by simp)
      have rb_g0c2 : W16.cell? ⟨W13.heap.size, 2, none⟩ = some (.slice A_g0 r0.ks.length cap_g0) := (rb_g0.out.cell 2).trans (by simp)
      have rb_g0lt : W13.heap.size < W16.heap.size := rb_g0.out.lt
      go_wp2_with fail
      clear bx1c0 bx1c1 rb_w0c0 rb_w0c1 rb_w0c2 rb_g0c0 rb_g0c1 rb_g0c2 bx1lt rb_w0lt rb_g0lt
      refine (eqValue_any r0 W16 _ _ F_g0 F_w0 X_g0.out X_w0.out Y_g0.out Y_w0.out).mono ?_
      rintro e W18 ⟨rfl, hb18⟩
      have hB19 := hB17.trans (hb18.mono hB17.size)
      have bx1n : Hid (Blk W18 (w.heap.size) 24 #[.int .i64 x1.d, .int .i64 x1.i]) := bx1.out.same (hb18.block _ bx1.out.lt)
      clear bx1
      have bx1 := bx1n
      clear bx1n
      have rb_w0n : Hid (Blk W18 (rg_w0) 41 #[.int .i64 r0.c, .int .i64 r0.n, .slice A_w0 r0.ks.length cap_w0]) := rb_w0.out.same (hb18.block _ rb_w0.out.lt)
      clear rb_w0
      have rb_w0 := rb_w0n
      clear rb_w0n
      have rb_g0n : Hid (Blk W18 (W13.heap.size) 41 #[.int .i64 r0.c, .int .i64 r0.n, .slice A_g0 r0.ks.length cap_g0]) := rb_g0.out.same (hb18.block _ rb_g0.out.lt)
      clear rb_g0
      have rb_g0 := rb_g0n
      clear rb_g0n
      have KP := Lib.hid (show Kept F_w0 W16 W18 from (Kept.of_below (w := W16) hb18 Y_w0.out))
      have X_w0n := Lib.hid (VR.mono _ _ _ KP.out X_w0.out)
      have Y_w0n := Lib.hid (Y_w0.out.mono hb18.size)
      have Z_w0n := Lib.hid (Z_w0.out.kept KP.out)
      clear X_w0 Y_w0 KP Z_w0
      have X_w0 := X_w0n
      have Y_w0 := Y_w0n
      have Z_w0 := Z_w0n
      clear X_w0n Y_w0n Z_w0n
      have KP := Lib.hid (show Kept G9 W16 W18 from (Kept.of_below (w := W16) hb18 Y0.out))
      have X0n := Lib.hid (ArrDt.mono X0.out KP.out)
      have Y0n := Lib.hid (Y0.out.mono hb18.size)
      have Z_x0n := Lib.hid (Z_x0.out.kept KP.out)
      clear X0 Y0 KP Z_x0
      have X0 := X0n
      have Y0 := Y0n
      have Z_x0 := Z_x0n
      clear X0n Y0n Z_x0n
      have KP := Lib.hid (show Kept F_g0 W16 W18 from (Kept.of_below (w := W16) hb18 Y_g0.out))
      have X_g0n := Lib.hid (VR.mono _ _ _ KP.out X_g0.out)
      have Y_g0n := Lib.hid (Y_g0.out.mono hb18.size)
      have Z_g0n := Lib.hid (Z_g0.out.kept KP.out)
      clear X_g0 Y_g0 KP Z_g0
      have X_g0 := X_g0n
      have Y_g0 := Y_g0n
      have Z_g0 := Z_g0n
      clear X_g0n Y_g0n Z_g0n
      have bx1c0 : W18.cell? ⟨w.heap.size, 0, none⟩ = some (.int .i64 x1.d) := (bx1.out.cell 0).trans (by simp)
      have bx1c1 : W18.cell? ⟨w.heap.size, 1, none⟩ = some (.int .i64 x1.i) := (bx1.out.cell 1).trans (by simp)
      have bx1lt : w.heap.size < W18.heap.size := bx1.out.lt
      have rb_w0c0 : W18.cell? ⟨rg_w0, 0, none⟩ = some (.int .i64 r0.c) := (rb_w0.out.cell 0).trans (by simp)
      have rb_w0c1 : W18.cell? ⟨rg_w0, 1, none⟩ = some (.int .i64 r0.n) := (rb_w0.out.cell 1).trans (by simp)
      have rb_w0c2 : W18.cell? ⟨rg_w0, 2, none⟩ = some (.slice A_w0 r0.ks.length cap_w0) := (rb_w0.out.cell 2).trans (by simp)
      have rb_w0lt : rg_w0 < W18.heap.size := rb_w0.out.lt
      have rb_g0c0 : W18.cell? ⟨W13.heap.size, 0, none⟩ = some (.int .i64 r0.c) := (rb_g0.out.cell 0).trans (by simp)
      have rb_g0c1 : W18.cell? ⟨W13.heap.size, 1, none⟩ = some (.int .i64 r0.n) := (rb_g0.out.cell 1).trans (by simp)
      have rb_g0c2 : W18.cell? ⟨W13.heap.size, 2, none⟩ = some (.slice A_g0 r0.ks.length cap_g0) := (rb_g0.out.cell 2).trans (by simp)
      have rb_g0lt : W13.heap.size < W18.heap.size := rb_g0.out.lt
      go_wp2_with fail
      clear bx1c0 bx1c1 rb_w0c0 rb_w0c1 rb_w0c2 rb_g0c0 rb_g0c1 rb_g0c2 bx1lt rb_w0lt rb_g0lt
      refine (toDataS_any x0 W18 F0 _ (ArrDt.below HR0.out hB19 HU0.out) (HU0.out.mono hB19.size) hs0).mono ?_
      rintro e W20 ⟨y20, G20, rfl, hb20, hv20, hfr20, hfs20⟩
      have hB22 := hB19.trans (hb20.mono hB19.size)
      have bx1n : Hid (Blk W20 (w.heap.size) 24 #[.int .i64 x1.d, .int .i64 x1.i]) := bx1.out.same (hb20.block _ bx1.out.lt)
      clear bx1
      have bx1 := bx1n
      clear bx1n
      have rb_w0n : Hid (Blk W20 (rg_w0) 41 #[.int .i64 r0.c, .int .i64 r0.n, .slice A_w0 r0.ks.length cap_w0]) := rb_w0.out.same (hb20.block _ rb_w0.out.lt)
      clear rb_w0
      have rb_w0 := rb_w0n
      clear rb_w0n
      have rb_g0n : Hid (Blk W20 (W13.heap.size) 41 #[.int .i64 r0.c, .int .i64 r0.n, .slice A_g0 r0.ks.length cap_g0]) := rb_g0.out.same (hb20.block _ rb_g0.out.lt)
      clear rb_g0
      have rb_g0 := rb_g0n
      clear rb_g0n
      have KP := Lib.hid (show Kept F_w0 W18 W20 from (Kept.of_below (w := W18) hb20 Y_w0.out))
      have X_w0n := Lib.hid (VR.mono _ _ _ KP.out X_w0.out)
      have Y_w0n := Lib.hid (Y_w0.out.mono hb20.size)
      have Z_w0n := Lib.hid (Z_w0.out.kept KP.out)
      clear X_w0 Y_w0 KP Z_w0
      have X_w0 := X_w0n
      have Y_w0 := Y_w0n
      have Z_w0 := Z_w0n
      clear X_w0n Y_w0n Z_w0n
      have KP := Lib.hid (show Kept G9 W18 W20 from (Kept.of_below (w := W18) hb20 Y0.out))
      have X0n := Lib.hid (ArrDt.mono X0.out KP.out)
      have Y0n := Lib.hid (Y0.out.mono hb20.size)
      have Z_x0n := Lib.hid (Z_x0.out.kept KP.out)
      clear X0 Y0 KP Z_x0
      have X0 := X0n
      have Y0 := Y0n
      have Z_x0 := Z_x0n
      clear X0n Y0n Z_x0n
      have KP := Lib.hid (show Kept F_g0 W18 W20 from (Kept.of_below (w := W18) hb20 Y_g0.out))
      have X_g0n := Lib.hid (VR.mono _ _ _ KP.out X_g0.out)
      have Y_g0n := Lib.hid (Y_g0.out.mono hb20.size)
      have Z_g0n := Lib.hid (Z_g0.out.kept KP.out)
      clear X_g0 Y_g0 KP Z_g0
      have X_g0 := X_g0n
      have Y_g0 := Y_g0n
      have Z_g0 := Z_g0n
      clear X_g0n Y_g0n Z_g0n
      have bx1c0 : W20.cell? ⟨w.heap.size, 0, none⟩ = some (.int .i64 x1.d) := (bx1.out.cell 0).trans (by simp)
      have bx1c1 : W20.cell? ⟨w.heap.size, 1, none⟩ = some (.int .i64 x1.i) := (bx1.out.cell 1).trans (by simp)
      have bx1lt : w.heap.size < W20.heap.size := bx1.out.lt
      have rb_w0c0 : W20.cell? ⟨rg_w0, 0, none⟩ = some (.int .i64 r0.c) := (rb_w0.out.cell 0).trans (by simp)
      have rb_w0c1 : W20.cell? ⟨rg_w0, 1, none⟩ = some (.int .i64 r0.n) := (rb_w0.out.cell 1).trans (by simp)
      have rb_w0c2 : W20.cell? ⟨rg_w0, 2, none⟩ = some (.slice A_w0 r0.ks.length cap_w0) := (rb_w0.out.cell 2).trans (by simp)
      have rb_w0lt : rg_w0 < W20.heap.size := rb_w0.out.lt
      have rb_g0c0 : W20.cell? ⟨W13.heap.size, 0, none⟩ = some (.int .i64 r0.c) := (rb_g0.out.cell 0).trans (by simp)
      have rb_g0c1 : W20.cell? ⟨W13.heap.size, 1, none⟩ = some (.int .i64 r0.n) := (rb_g0.out.cell 1).trans (by simp)
      have rb_g0c2 : W20.cell? ⟨W13.heap.size, 2, none⟩ = some (.slice A_g0 r0.ks.length cap_g0) := (rb_g0.out.cell 2).trans (by simp)
      have rb_g0lt : W13.heap.size < W20.heap.size := rb_g0.out.lt
      go_wp2_with fail
      clear bx1c0 bx1c1 rb_w0c0 rb_w0c1 rb_w0c2 rb_g0c0 rb_g0c1 rb_g0c2 bx1lt rb_w0lt rb_g0lt
      refine (eqDataS_any x0 W20 G9 G20 _ _ X0.out hv20 Y0.out hfs20.under).mono ?_
      rintro e W21 ⟨rfl, hb21⟩
      have hB23 := hB22.trans (hb21.mono hB22.size)
      have bx1n : Hid (Blk W21 (w.heap.size) 24 #[.int .i64 x1.d, .int .i64 x1.i]) := bx1.out.same (hb21.block _ bx1.out.lt)
      clear bx1
      have bx1 := bx1n
      clear bx1n
      have rb_w0n : Hid (Blk W21 (rg_w0) 41 #[.int .i64 r0.c, .int .i64 r0.n, .slice A_w0 r0.ks.length cap_w0]) := rb_w0.out.same (hb21.block _ rb_w0.out.lt)
      clear rb_w0
      have rb_w0 := rb_w0n
      clear rb_w0n
      have rb_g0n : Hid (Blk W21 (W13.heap.size) 41 #[.int .i64 r0.c, .int .i64 r0.n, .slice A_g0 r0.ks.length cap_g0]) := rb_g0.out.same (hb21.block _ rb_g0.out.lt)
      clear rb_g0
      have rb_g0 := rb_g0n
      clear rb_g0n
      have KP := Lib.hid (show Kept F_w0 W20 W21 from (Kept.of_below (w := W20) hb21 Y_w0.out))
      have X_w0n := Lib.hid (VR.mono _ _ _ KP.out X_w0.out)
      have Y_w0n := Lib.hid (Y_w0.out.mono hb21.size)
      have Z_w0n := Lib.hid (Z_w0.out.kept KP.out)
      clear X_w0 Y_w0 KP Z_w0
      have X_w0 := X_w0n
      have Y_w0 := Y_w0n
      have Z_w0 := Z_w0n
      clear X_w0n Y_w0n Z_w0n
      have KP := Lib.hid (show Kept G9 W20 W21 from (Kept.of_below (w := W20) hb21 Y0.out))
      have X0n := Lib.hid (ArrDt.mono X0.out KP.out)
      have Y0n := Lib.hid (Y0.out.mono hb21.size)
      have Z_x0n := Lib.hid (Z_x0.out.kept KP.out)
      clear X0 Y0 KP Z_x0
      have X0 := X0n
      have Y0 := Y0n
      have Z_x0 := Z_x0n
      clear X0n Y0n Z_x0n
      have KP := Lib.hid (show Kept F_g0 W20 W21 from (Kept.of_below (w := W20) hb21 Y_g0.out))
      have X_g0n := Lib.hid (VR.mono _ _ _ KP.out X_g0.out)
      have Y_g0n := Lib.hid (Y_g0.out.mono hb21.size)
      have Z_g0n := Lib.hid (Z_g0.out.kept KP.out)
      clear X_g0 Y_g0 KP Z_g0
      have X_g0 := X_g0n
      have Y_g0 := Y_g0n
      have Z_g0 := Z_g0n
      clear X_g0n Y_g0n Z_g0n
      have bx1c0 : W21.cell? ⟨w.heap.size, 0, none⟩ = some (.int .i64 x1.d) := (bx1.out.cell 0).trans (by simp)
      have bx1c1 : W21.cell? ⟨w.heap.size, 1, none⟩ = some (.int .i64 x1.i) := (bx1.out.cell 1).trans (by simp)
      have bx1lt : w.heap.size < W21.heap.size := bx1.out.lt
      have rb_w0c0 : W21.cell? ⟨rg_w0, 0, none⟩ = some (.int .i64 r0.c) := (rb_w0.out.cell 0).trans (by simp)
      have rb_w0c1 : W21.cell? ⟨rg_w0, 1, none⟩ = some (.int .i64 r0.n) := (rb_w0.out.cell 1).trans (by simp)
      have rb_w0c2 : W21.cell? ⟨rg_w0, 2, none⟩ = some (.slice A_w0 r0.ks.length cap_w0) := (rb_w0.out.cell 2).trans (by simp)
      have rb_w0lt : rg_w0 < W21.heap.size := rb_w0.out.lt
      have rb_g0c0 : W21.cell? ⟨W13.heap.size, 0, none⟩ = some (.int .i64 r0.c) := (rb_g0.out.cell 0).trans (by simp)
      have rb_g0c1 : W21.cell? ⟨W13.heap.size, 1, none⟩ = some (.int .i64 r0.n) := (rb_g0.out.cell 1).trans (by simp)
      have rb_g0c2 : W21.cell? ⟨W13.heap.size, 2, none⟩ = some (.slice A_g0 r0.ks.length cap_g0) := (rb_g0.out.cell 2).trans (by simp)
      have rb_g0lt : W13.heap.size < W21.heap.size := rb_g0.out.lt
      go_wp2_with fail
      clear bx1c0 bx1c1 rb_w0c0 rb_w0c1 rb_w0c2 rb_g0c0 rb_g0c1 rb_g0c2 bx1lt rb_w0lt rb_g0lt
      have hcn0 : sumBy cntDt x0 ≤ 16777216 := by have := cntsDt_le x0; omega
      refine (markDataS_any x0 W21 _ G9 (1) (by omega) (by omega) X0.out Z_x0.out Y0.out).mono ?_
      rintro e W24 ⟨rfl, hg24, hm24, hfr24⟩
      clear hm24 hfr24
      have hB25 := hB23.trans (hg24.below LB_x0.out hB23.size)
      have bx1n : Hid (Blk W24 (w.heap.size) 24 #[.int .i64 x1.d, .int .i64 x1.i]) := bx1.out.same (hg24.block _ bx1.out.lt nb_bx1_x0.out)
      clear bx1
      have bx1 := bx1n
      clear bx1n
      have rb_w0n : Hid (Blk W24 (rg_w0) 41 #[.int .i64 r0.c, .int .i64 r0.n, .slice A_w0 r0.ks.length cap_w0]) := rb_w0.out.same (hg24.block _ rb_w0.out.lt nb_rb_w0_x0.out)
      clear rb_w0
      have rb_w0 := rb_w0n
      clear rb_w0n
      have rb_g0n : Hid (Blk W24 (W13.heap.size) 41 #[.int .i64 r0.c, .int .i64 r0.n, .slice A_g0 r0.ks.length cap_g0]) := rb_g0.out.same (hg24.block _ rb_g0.out.lt nb_rb_g0_x0.out)
      clear rb_g0
      have rb_g0 := rb_g0n
      clear rb_g0n
      have KP := Lib.hid (show Kept F_w0 W21 W24 from (hg24.kept Y_w0.out dj_w0_x0.out))
      have X_w0n := Lib.hid (VR.mono _ _ _ KP.out X_w0.out)
      have Y_w0n := Lib.hid (Y_w0.out.mono hg24.size)
      have Z_w0n := Lib.hid (Z_w0.out.kept KP.out)
      clear X_w0 Y_w0 KP Z_w0
      have X_w0 := X_w0n
      have Y_w0 := Y_w0n
      have Z_w0 := Z_w0n
      clear X_w0n Y_w0n Z_w0n
      have KP := Lib.hid (show Kept F_g0 W21 W24 from (hg24.kept Y_g0.out dj_g0_x0.out))
      have X_g0n := Lib.hid (VR.mono _ _ _ KP.out X_g0.out)
      have Y_g0n := Lib.hid (Y_g0.out.mono hg24.size)
      have Z_g0n := Lib.hid (Z_g0.out.kept KP.out)
      clear X_g0 Y_g0 KP Z_g0
      have X_g0 := X_g0n
      have Y_g0 := Y_g0n
      have Z_g0 := Z_g0n
      clear X_g0n Y_g0n Z_g0n
      generalize hkk0 : sumBy cntDt x0 = kk0 at *
      clear hkk0
      have hkp : ¬ (1 + (kk0 : Int) < 0) := by omega
      have bx1c0 : W24.cell? ⟨w.heap.size, 0, none⟩ = some (.int .i64 x1.d) := (bx1.out.cell 0).trans (by simp)
      have bx1c1 : W24.cell? ⟨w.heap.size, 1, none⟩ = some (.int .i64 x1.i) := (bx1.out.cell 1).trans (by simp)
      have bx1lt : w.heap.size < W24.heap.size := bx1.out.lt
      have rb_w0c0 : W24.cell? ⟨rg_w0, 0, none⟩ = some (.int .i64 r0.c) := (rb_w0.out.cell 0).trans (by simp)
      have rb_w0c1 : W24.cell? ⟨rg_w0, 1, none⟩ = some (.int .i64 r0.n) := (rb_w0.out.cell 1).trans (by simp)
      have rb_w0c2 : W24.cell? ⟨rg_w0, 2, none⟩ = some (.slice A_w0 r0.ks.length cap_w0) := (rb_w0.out.cell 2).trans (by simp)
      have rb_w0lt : rg_w0 < W24.heap.size := rb_w0.out.lt
      have rb_g0c0 : W24.cell? ⟨W13.heap.size, 0, none⟩ = some (.int .i64 r0.c) := (rb_g0.out.cell 0).trans (by simp)
      have rb_g0c1 : W24.cell? ⟨W13.heap.size, 1, none⟩ = some (.int .i64 r0.n) := (rb_g0.out.cell 1).trans (by simp)
      have rb_g0c2 : W24.cell? ⟨W13.heap.size, 2, none⟩ = some (.slice A_g0 r0.ks.length cap_g0) := (rb_g0.out.cell 2).trans (by simp)
      have rb_g0lt : W13.heap.size < W24.heap.size := rb_g0.out.lt
      go_wp2_with fail
      clear bx1c0 bx1c1 rb_w0c0 rb_w0c1 rb_w0c2 rb_g0c0 rb_g0c1 rb_g0c2 bx1lt rb_w0lt rb_g0lt
      refine (eqValue_any r0 W24 _ _ F_g0 F_w0 X_g0.out X_w0.out Y_g0.out Y_w0.out).mono ?_
      rintro e W26 ⟨rfl, hb26⟩
      have hB27 := hB25.trans (hb26.mono hB25.size)
      have bx1n : Hid (Blk W26 (w.heap.size) 24 #[.int .i64 x1.d, .int .i64 x1.i]) := bx1.out.same (hb26.block _ bx1.out.lt)
      clear bx1
      have bx1 := bx1n
      clear bx1n
      have rb_w0n : Hid (Blk W26 (rg_w0) 41 #[.int .i64 r0.c, .int .i64 r0.n, .slice A_w0 r0.ks.length cap_w0]) := rb_w0.out.same (hb26.block _ rb_w0.out.lt)
      clear rb_w0
      have rb_w0 := rb_w0n
      clear rb_w0n
      have rb_g0n : Hid (Blk W26 (W13.heap.size) 41 #[.int .i64 r0.c, .int .i64 r0.n, .slice A_g0 r0.ks.length cap_g0]) := rb_g0.out.same (hb26.block _ rb_g0.out.lt)
      clear rb_g0
      have rb_g0 := rb_g0n
      clear rb_g0n
      have KP := Lib.hid (show Kept F_w0 W24 W26 from (Kept.of_below (w := W24) hb26 Y_w0.out))
      have X_w0n := Lib.hid (VR.mono _ _ _ KP.out X_w0.out)
      have Y_w0n := Lib.hid (Y_w0.out.mono hb26.size)
      have Z_w0n := Lib.hid (Z_w0.out.kept KP.out)
      clear X_w0 Y_w0 KP Z_w0
      have X_w0 := X_w0n
      have Y_w0 := Y_w0n
      have Z_w0 := Z_w0n
      clear X_w0n Y_w0n Z_w0n
      have KP := Lib.hid (show Kept F_g0 W24 W26 from (Kept.of_below (w := W24) hb26 Y_g0.out))
      have X_g0n := Lib.hid (VR.mono _ _ _ KP.out X_g0.out)
      have Y_g0n := Lib.hid (Y_g0.out.mono hb26.size)
      have Z_g0n := Lib.hid (Z_g0.out.kept KP.out)
      clear X_g0 Y_g0 KP Z_g0
      have X_g0 := X_g0n
      have Y_g0 := Y_g0n
      have Z_g0 := Z_g0n
      clear X_g0n Y_g0n Z_g0n
      have bx1c0 : W26.cell? ⟨w.heap.size, 0, none⟩ = some (.int .i64 x1.d) := (bx1.out.cell 0).trans (by simp)
      have bx1c1 : W26.cell? ⟨w.heap.size, 1, none⟩ = some (.int .i64 x1.i) := (bx1.out.cell 1).trans (by simp)
      have bx1lt : w.heap.size < W26.heap.size := bx1.out.lt
      have rb_w0c0 : W26.cell? ⟨rg_w0, 0, none⟩ = some (.int .i64 r0.c) := (rb_w0.out.cell 0).trans (by simp)
      have rb_w0c1 : W26.cell? ⟨rg_w0, 1, none⟩ = some (.int .i64 r0.n) := (rb_w0.out.cell 1).trans (by simp)
      have rb_w0c2 : W26.cell? ⟨rg_w0, 2, none⟩ = some (.slice A_w0 r0.ks.length cap_w0) := (rb_w0.out.cell 2).trans (by simp)
      have rb_w0lt : rg_w0 < W26.heap.size := rb_w0.out.lt
      have rb_g0c0 : W26.cell? ⟨W13.heap.size, 0, none⟩ = some (.int .i64 r0.c) := (rb_g0.out.cell 0).trans (by simp)
      have rb_g0c1 : W26.cell? ⟨W13.heap.size, 1, none⟩ = some (.int .i64 r0.n) := (rb_g0.out.cell 1).trans (by simp)
      have rb_g0c2 : W26.cell? ⟨W13.heap.size, 2, none⟩ = some (.slice A_g0 r0.ks.length cap_g0) := (rb_g0.out.cell 2).trans (by simp)
      have rb_g0lt : W13.heap.size < W26.heap.size := rb_g0.out.lt
      go_wp2_with fail
      clear bx1c0 bx1c1 rb_w0c0 rb_w0c1 rb_w0c2 rb_g0c0 rb_g0c1 rb_g0c2 bx1lt rb_w0lt rb_g0lt
      have hcg : sumBy cntV r0.ks ≤ 16777216 := by rw [← HRes.out]; have h1 := cntsV_le (leastR x0 x1).ks; have h2 := V.size_sizes (leastR x0 x1); have h3 := leastR_size x0 x1; omega
      refine (markValue_any r0 W26 _ F_g0 1 (by omega) (by omega) X_g0.out Z_g0.out Y_g0.out).mono ?_
      rintro e W28 ⟨rfl, hg28, hm28, hfr28⟩
      have hB29 := hB27.trans (hg28.below LB_g0.out hB27.size)
      have bx1n : Hid (Blk W28 (w.heap.size) 24 #[.int .i64 x1.d, .int .i64 x1.i]) := bx1.out.same (hg28.block _ bx1.out.lt nb_bx1_g0.out)
      clear bx1
      have bx1 := bx1n
      clear bx1n
      have rb_w0n : Hid (Blk W28 (rg_w0) 41 #[.int .i64 r0.c, .int .i64 r0.n, .slice A_w0 r0.ks.length cap_w0]) := rb_w0.out.same (hg28.block _ rb_w0.out.lt nb_rb_w0_g0.out)
      clear rb_w0
      have rb_w0 := rb_w0n
      clear rb_w0n
      have rb_g0n : Hid (Blk W28 (W13.heap.size) 41 #[.int .i64 r0.c, .int .i64 r0.n, .slice A_g0 r0.ks.length cap_g0]) := rb_g0.out.same (hg28.block _ rb_g0.out.lt nb_rb_g0_g0.out)
      clear rb_g0
      have rb_g0 := rb_g0n
      clear rb_g0n
      have KP := Lib.hid (show Kept F_w0 W26 W28 from (hg28.kept Y_w0.out dj_w0_g0.out))
      have X_w0n := Lib.hid (VR.mono _ _ _ KP.out X_w0.out)
      have Y_w0n := Lib.hid (Y_w0.out.mono hg28.size)
      have Z_w0n := Lib.hid (Z_w0.out.kept KP.out)
      clear X_w0 Y_w0 KP Z_w0
      have X_w0 := X_w0n
      have Y_w0 := Y_w0n
      have Z_w0 := Z_w0n
      clear X_w0n Y_w0n Z_w0n
      clear X_g0
      have X_g0 := Lib.hid hm28
      have Y_g0n := Lib.hid (Y_g0.out.mono hg28.size)
      clear Y_g0
      have Y_g0 := Y_g0n
      clear Z_g0
      have Z_g0 := Lib.hid hfr28
      clear Y_g0n hm28 hfr28
      have bx1c0 : W28.cell? ⟨w.heap.size, 0, none⟩ = some (.int .i64 x1.d) := (bx1.out.cell 0).trans (by simp)
      have bx1c1 : W28.cell? ⟨w.heap.size, 1, none⟩ = some (.int .i64 x1.i) := (bx1.out.cell 1).trans (by simp)
      have bx1lt : w.heap.size < W28.heap.size := bx1.out.lt
      have rb_w0c0 : W28.cell? ⟨rg_w0, 0, none⟩ = some (.int .i64 r0.c) := (rb_w0.out.cell 0).trans (by simp)
      have rb_w0c1 : W28.cell? ⟨rg_w0, 1, none⟩ = some (.int .i64 r0.n) := (rb_w0.out.cell 1).trans (by simp)
      have rb_w0c2 : W28.cell? ⟨rg_w0, 2, none⟩ = some (.slice A_w0 r0.ks.length cap_w0) := (rb_w0.out.cell 2).trans (by simp)
      have rb_w0lt : rg_w0 < W28.heap.size := rb_w0.out.lt
      have rb_g0c0 : W28.cell? ⟨W13.heap.size, 0, none⟩ = some (.int .i64 r0.c) := (rb_g0.out.cell 0).trans (by simp)
      have rb_g0c1 : W28.cell? ⟨W13.heap.size, 1, none⟩ = some (.int .i64 r0.n) := (rb_g0.out.cell 1).trans (by simp)
      have rb_g0c2 : W28.cell? ⟨W13.heap.size, 2, none⟩ = some (.slice A_g0 r0.ks.length cap_g0) := (rb_g0.out.cell 2).trans (by simp)
      have rb_g0lt : W13.heap.size < W28.heap.size := rb_g0.out.lt
      go_wp2_with fail
      clear bx1c0 bx1c1 rb_w0c0 rb_w0c1 rb_w0c2 rb_g0c0 rb_g0c1 rb_g0c2 bx1lt rb_w0lt rb_g0lt
      refine (heldValue_any r0 W28 _ F_g0 1 (by omega) (by omega) X_g0.out Y_g0.out).mono ?_
      rintro e W30 ⟨rfl, hb30⟩
      have hB31 := hB29.trans (hb30.mono hB29.size)
      have bx1n : Hid (Blk W30 (w.heap.size) 24 #[.int .i64 x1.d, .int .i64 x1.i]) := bx1.out.same (hb30.block _ bx1.out.lt)
      clear bx1
      have bx1 := bx1n
      clear bx1n
      have rb_w0n : Hid (Blk W30 (rg_w0) 41 #[.int .i64 r0.c, .int .i64 r0.n, .slice A_w0 r0.ks.length cap_w0]) := rb_w0.out.same (hb30.block _ rb_w0.out.lt)
      clear rb_w0
      have rb_w0 := rb_w0n
      clear rb_w0n
      have rb_g0n : Hid (Blk W30 (W13.heap.size) 41 #[.int .i64 r0.c, .int .i64 r0.n, .slice A_g0 r0.ks.length cap_g0]) := rb_g0.out.same (hb30.block _ rb_g0.out.lt)
      clear rb_g0
      have rb_g0 := rb_g0n
      clear rb_g0n
      have KP := Lib.hid (show Kept F_w0 W28 W30 from (Kept.of_below (w := W28) hb30 Y_w0.out))
      have X_w0n := Lib.hid (VR.mono _ _ _ KP.out X_w0.out)
      have Y_w0n := Lib.hid (Y_w0.out.mono hb30.size)
      have Z_w0n := Lib.hid (Z_w0.out.kept KP.out)
      clear X_w0 Y_w0 KP Z_w0
      have X_w0 := X_w0n
      have Y_w0 := Y_w0n
      have Z_w0 := Z_w0n
      clear X_w0n Y_w0n Z_w0n
      have KP := Lib.hid (show Kept F_g0 W28 W30 from (Kept.of_below (w := W28) hb30 Y_g0.out))
      have X_g0n := Lib.hid (VR.mono _ _ _ KP.out X_g0.out)
      have Y_g0n := Lib.hid (Y_g0.out.mono hb30.size)
      have Z_g0n := Lib.hid (Z_g0.out.kept KP.out)
      clear X_g0 Y_g0 KP Z_g0
      have X_g0 := X_g0n
      have Y_g0 := Y_g0n
      have Z_g0 := Z_g0n
      clear X_g0n Y_g0n Z_g0n
      have bx1c0 : W30.cell? ⟨w.heap.size, 0, none⟩ = some (.int .i64 x1.d) := (bx1.out.cell 0).trans (by simp)
      have bx1c1 : W30.cell? ⟨w.heap.size, 1, none⟩ = some (.int .i64 x1.i) := (bx1.out.cell 1).trans (by simp)
      have bx1lt : w.heap.size < W30.heap.size := bx1.out.lt
      have rb_w0c0 : W30.cell? ⟨rg_w0, 0, none⟩ = some (.int .i64 r0.c) := (rb_w0.out.cell 0).trans (by simp)
      have rb_w0c1 : W30.cell? ⟨rg_w0, 1, none⟩ = some (.int .i64 r0.n) := (rb_w0.out.cell 1).trans (by simp)
      have rb_w0c2 : W30.cell? ⟨rg_w0, 2, none⟩ = some (.slice A_w0 r0.ks.length cap_w0) := (rb_w0.out.cell 2).trans (by simp)
      have rb_w0lt : rg_w0 < W30.heap.size := rb_w0.out.lt
      have rb_g0c0 : W30.cell? ⟨W13.heap.size, 0, none⟩ = some (.int .i64 r0.c) := (rb_g0.out.cell 0).trans (by simp)
      have rb_g0c1 : W30.cell? ⟨W13.heap.size, 1, none⟩ = some (.int .i64 r0.n) := (rb_g0.out.cell 1).trans (by simp)
      have rb_g0c2 : W30.cell? ⟨W13.heap.size, 2, none⟩ = some (.slice A_g0 r0.ks.length cap_g0) := (rb_g0.out.cell 2).trans (by simp)
      have rb_g0lt : W13.heap.size < W30.heap.size := rb_g0.out.lt
      go_wp2_with fail
      have SU32_w0 := Y_w0
      have SU32_g0 := Y_g0
      have SB32_bx1 := Lib.hid bx1.out.lt
      have SB32_rb_w0 := Lib.hid rb_w0.out.lt
      have SB32_rb_g0 := Lib.hid rb_g0.out.lt
      go_cut [14, 15] from 16 (fun p b wq => ∃ (g : Nat) (cs : List Value) (F : List Nat), p = .pointer (some ⟨g, 0, none⟩) ∧ b = .bool (rb) ∧ Hid (Below W30.heap.size W30 wq) ∧ Hid (Blk wq g 41 cs.toArray) ∧ Hid (W30.heap.size ≤ g) ∧ Hid (g ∉ F) ∧ Hid (VR wq (r0) cs F) ∧ Hid (Free wq F) ∧ Hid (Fresh W30 wq F))
      case first =>
        have HS : Hid (∀ C : World, Below W30.heap.size W30 C → (C.cell? ⟨w.heap.size, 0, none⟩ = some (.int .i64 x1.d) ∧ C.cell? ⟨w.heap.size, 1, none⟩ = some (.int .i64 x1.i))) := fun C hC => ⟨((bx1.out.same (hC.block _ bx1.out.lt)).cell 0).trans (by simp), ((bx1.out.same (hC.block _ bx1.out.lt)).cell 1).trans (by simp)⟩
        have hC0 : Below W30.heap.size W30 W30.drew := (Below.refl _ _).drew
        clear bx1c0 bx1c1 rb_w0c0 rb_w0c1 rb_w0c2 rb_g0c0 rb_g0c1 rb_g0c2 bx1lt rb_w0lt rb_g0lt
        refine wp_region_B (S := fun w' => w'.cell? ⟨w.heap.size, 0, none⟩ = some (.int .i64 x1.d) ∧ w'.cell? ⟨w.heap.size, 1, none⟩ = some (.int .i64 x1.i)) (T := fun _ => True) (d := 10) (by kernel_rfl) ?_
        generalize W30.drew = wd at *
        have hS0 := HS.out _ hC0
        have hT0 : True := trivial
        refine wpAnyB_take (i := 0) (v := ?_) rfl (by decide) (by kernel_rfl) (by kernel_rfl) (by kernel_rfl) (fun _ _ _ h => h) (Or.inl ⟨by rfl, ?hy0⟩) hS0 (fun _ => hT0) ?_
        case hy0 => (intro W hSw; (try dsimp only at hSw); (try obtain ⟨hSw0, hSw1⟩ := hSw); go_simp; try with_reducible rfl)
        (try simp only [Act.put, List.getElem_toArray, List.getElem_cons_zero, List.getElem_cons_succ, List.setIfInBounds_toArray, List.set_cons_zero, List.set_cons_succ])
        refine wpAnyB_take (i := 2) (v := ?_) rfl (by decide) (by kernel_rfl) (by kernel_rfl) (by kernel_rfl) (fun _ _ _ h => h) (Or.inl ⟨by rfl, ?hy2⟩) hS0 (fun _ => hT0) ?_
        case hy2 => (intro W hSw; (try dsimp only at hSw); (try obtain ⟨hSw0, hSw1⟩ := hSw); go_simp; try with_reducible rfl)
        (try simp only [Act.put, List.getElem_toArray, List.getElem_cons_zero, List.getElem_cons_succ, List.setIfInBounds_toArray, List.set_cons_zero, List.set_cons_succ])
        refine wpAnyB_ready (rs := [1, 8]) (by kernel_rfl) (by simp) ?_
        refine AllReadyB.cons rfl (fun K hK => ?_) (AllReadyB.cons rfl (fun K hK => ?_) AllReadyB.nil)
        · skip
          go_simp
          go_at_call 18
          refine (toDataS_any x0 _ F0 _ (ArrDt.below HR0.out (hB31.trans (hC0.mono hB31.size)) HU0.out) (HU0.out.mono (hB31.trans (hC0.mono hB31.size)).size) hs0).mono ?_
          rintro e C1 ⟨yc1, Gc1, rfl, hb1, hvc1, hfrc1, hfsc1⟩
          have hC1 : Below W30.heap.size W30 C1 := hC0.trans (hb1.mono hC0.size)
          have cr1 := Lib.hid hvc1
          have cu1 := Lib.hid hfsc1.under
          clear hvc1 hfrc1 hfsc1
          (try dsimp only)
          refine hK.out _ _ (HS.out _ hC1) (fun _ => trivial) ?_
          clear hK K
          (try simp only [Act.put, List.getElem_toArray, List.getElem_cons_zero, List.getElem_cons_succ, List.setIfInBounds_toArray, List.set_cons_zero, List.set_cons_succ])
          refine wpAnyB_ready (rs := [3, 8]) (by kernel_rfl) (by simp) ?_
          refine AllReadyB.cons rfl (fun K hK => ?_) (AllReadyB.cons rfl (fun K hK => ?_) AllReadyB.nil)
          · skip
            go_simp
            go_at_call 19
            refine (toType_any x1 _ _ [] (TyR.mk0 _ x1) (Under.nil _) (Ty.size_le x1)).mono ?_
            rintro e C2 ⟨dsc2, Gc2, rfl, hb2, ⟨rfl, rfl⟩, hfrc2, hfsc2⟩
            have hC2 : Below W30.heap.size W30 C2 := hC1.trans (hb2.mono hC1.size)
            have cr3 := Lib.hid ((ArrDt.below cr1.out hb2 cu1.out))
            have cu3 := Lib.hid (cu1.out.mono hb2.size)
            clear hfrc2 hfsc2
            (try dsimp only)
            refine hK.out _ _ (HS.out _ hC2) (fun _ => trivial) ?_
            clear hK K
            (try simp only [Act.put, List.getElem_toArray, List.getElem_cons_zero, List.getElem_cons_succ, List.setIfInBounds_toArray, List.set_cons_zero, List.set_cons_succ])
            refine wpAnyB_ready (rs := [4, 8]) (by kernel_rfl) (by simp) ?_
            refine AllReadyB.cons rfl (fun K hK => ?_) (AllReadyB.cons rfl (fun K hK => ?_) AllReadyB.nil)
            · skip
              go_simp
              go_at_call 30
              refine (impl_LeastValue x0 x1 _ _ Gc1 cr3.out cu3.out).mono ?_
              rintro e C4 ⟨cs4, F4, rfl, hb4, hp4, hfr4, hfs4⟩
              rw [HRes.out] at hp4
              obtain ⟨kv4, rfl, ha4⟩ := (VR_iff _ _ _).1 hp4
              obtain ⟨A4, cap4, rfl, -, -⟩ := ha4.form
              clear ha4
              have hC4 : Below W30.heap.size W30 C4 := hC2.trans (hb4.mono hC2.size)
              have HP4 := Lib.hid hp4
              have HFr4 := Lib.hid hfr4
              have HFs4 := Lib.hid hfs4
              clear hp4 hfr4 hfs4
              (try dsimp only)
              refine hK.out _ _ (HS.out _ hC4) (fun _ => trivial) ?_
              clear hK K
              (try simp only [Act.put, List.getElem_toArray, List.getElem_cons_zero, List.getElem_cons_succ, List.setIfInBounds_toArray, List.set_cons_zero, List.set_cons_succ])
              have hSx4 := HS.out _ hC4
              refine wpAnyB_take (i := 5) (v := ?_) rfl (by decide) (by kernel_rfl) (by kernel_rfl) (by kernel_rfl) (fun _ _ _ h => h) (Or.inl ⟨by rfl, ?hy5⟩) hSx4 (fun _ => hT0) ?_
              case hy5 => (intro W hSw; (try dsimp only at hSw); (try obtain ⟨hSw0, hSw1⟩ := hSw); go_simp; try with_reducible rfl)
              (try simp only [Act.put, List.getElem_toArray, List.getElem_cons_zero, List.getElem_cons_succ, List.setIfInBounds_toArray, List.set_cons_zero, List.set_cons_succ])
              refine wpAnyB_take (i := 6) (v := ?_) rfl (by decide) (by kernel_rfl) (by kernel_rfl) (by kernel_rfl) (fun _ _ _ h => h) (Or.inl ⟨by rfl, ?hy6⟩) hSx4 (fun _ => hT0) ?_
              case hy6 => (intro W hSw; (try dsimp only at hSw); (try obtain ⟨hSw0, hSw1⟩ := hSw); go_simp; try with_reducible rfl)
              (try simp only [Act.put, List.getElem_toArray, List.getElem_cons_zero, List.getElem_cons_succ, List.setIfInBounds_toArray, List.set_cons_zero, List.set_cons_succ])
              refine wpAnyB_take (i := 7) (v := ?_) rfl (by decide) (by kernel_rfl) (by kernel_rfl) (by kernel_rfl) (fun _ _ _ h => h) (Or.inl ⟨by rfl, ?hy7⟩) hSx4 (fun _ => hT0) ?_
              case hy7 => (intro W hSw; (try dsimp only at hSw); (try obtain ⟨hSw0, hSw1⟩ := hSw); go_simp; try with_reducible rfl)
              (try simp only [Act.put, List.getElem_toArray, List.getElem_cons_zero, List.getElem_cons_succ, List.setIfInBounds_toArray, List.set_cons_zero, List.set_cons_succ])
              refine wpAnyB_ready (rs := [8]) (by kernel_rfl) (by simp) ?_
              refine AllReadyB.cons rfl (fun K hK => ?_) AllReadyB.nil
              go_simp
              obtain ⟨C5, hX⟩ : ∃ X, X = C4.alloc (.cells #[.int .i64 0, .int .i64 0, .slice none 0 0] 41) := ⟨_, rfl⟩
              have hb5 : Below C4.heap.size C4 C5 := by rw [hX]; exact (Below.refl _ _).alloc (Nat.le_refl _) _
              have cb5 : Hid (Blk C5 C4.heap.size 41 #[.int .i64 0, .int .i64 0, .slice none 0 0]) := by rw [hX]; exact Blk.new _ _ _
              rw [← hX]
              clear hX
              have hC5 : Below W30.heap.size W30 C5 := hC4.trans (hb5.mono hC4.size)
              have cp6 := Lib.hid ((VR.below HP4.out hb5 HFs4.out.under))
              have cf6 := Lib.hid (HFr4.out.kept (.of_below hb5 HFs4.out.under))
              have cs6 : Hid (Fresh C2 C5 F4) := fun b hb => ⟨(HFs4.out b hb).1, Nat.lt_of_lt_of_le (HFs4.out b hb).2 hb5.size⟩
              have HGE5 : Hid (W30.heap.size ≤ C4.heap.size) := hC4.size
              (try dsimp only)
              refine hK.out _ _ (HS.out _ hC5) (fun _ => trivial) ?_
              clear hK K
              (try simp only [Act.put, List.getElem_toArray, List.getElem_cons_zero, List.getElem_cons_succ, List.setIfInBounds_toArray, List.set_cons_zero, List.set_cons_succ])
              have y0 : C5.cell? ⟨C4.heap.size, 0, none⟩ = some (.int .i64 0) := (cb5.out.cell 0).trans (by simp)
              have f0 := cb5.out.frozen 0
              have y1 : C5.cell? ⟨C4.heap.size, 1, none⟩ = some (.int .i64 0) := (cb5.out.cell 1).trans (by simp)
              have f1 := cb5.out.frozen 1
              have y2 : C5.cell? ⟨C4.heap.size, 2, none⟩ = some (.slice none 0 0) := (cb5.out.cell 2).trans (by simp)
              have f2 := cb5.out.frozen 2
              have ylt := cb5.out.lt
              have hCe : Hid (Below W30.heap.size W30 (((C5.setCell ⟨C4.heap.size, 0, none⟩ (.int .i64 (r0).c)).setCell ⟨C4.heap.size, 1, none⟩ (.int .i64 (r0).n)).setCell ⟨C4.heap.size, 2, none⟩ (.slice A4 (r0).ks.length cap4))) := (((hC5.setCell HGE5.out _).setCell HGE5.out _).setCell HGE5.out _)
              have cbe : Hid (Blk (((C5.setCell ⟨C4.heap.size, 0, none⟩ (.int .i64 (r0).c)).setCell ⟨C4.heap.size, 1, none⟩ (.int .i64 (r0).n)).setCell ⟨C4.heap.size, 2, none⟩ (.slice A4 (r0).ks.length cap4)) (C4.heap.size) 41 #[.int .i64 (r0).c, .int .i64 (r0).n, .slice A4 (r0).ks.length cap4]) := (((cb5.out.set_ 0 _).set_ 1 _).set_ 2 _)
              have hgF : ∀ b ∈ F4, b ≠ C4.heap.size := fun b hb e => Nat.lt_irrefl _ (by have h1 := (HFs4.out b hb).2; rw [e] at h1; exact h1)
              have hkp : Kept F4 C5 (((C5.setCell ⟨C4.heap.size, 0, none⟩ (.int .i64 (r0).c)).setCell ⟨C4.heap.size, 1, none⟩ (.int .i64 (r0).n)).setCell ⟨C4.heap.size, 2, none⟩ (.slice A4 (r0).ks.length cap4)) := fun b hb => by rw [Below.heap_setCell _ _ _ _ (hgF b hb), Below.heap_setCell _ _ _ _ (hgF b hb), Below.heap_setCell _ _ _ _ (hgF b hb)]
              have hpe : Hid (VR (((C5.setCell ⟨C4.heap.size, 0, none⟩ (.int .i64 (r0).c)).setCell ⟨C4.heap.size, 1, none⟩ (.int .i64 (r0).n)).setCell ⟨C4.heap.size, 2, none⟩ (.slice A4 (r0).ks.length cap4)) (r0) [.int .i64 (r0).c, .int .i64 (r0).n, .slice A4 (r0).ks.length cap4] F4) := VR.mono _ _ _ hkp cp6.out
              have hfe : Hid (Free (((C5.setCell ⟨C4.heap.size, 0, none⟩ (.int .i64 (r0).c)).setCell ⟨C4.heap.size, 1, none⟩ (.int .i64 (r0).n)).setCell ⟨C4.heap.size, 2, none⟩ (.slice A4 (r0).ks.length cap4)) F4) := cf6.out.kept hkp
              have hse : Hid (Fresh W30 (((C5.setCell ⟨C4.heap.size, 0, none⟩ (.int .i64 (r0).c)).setCell ⟨C4.heap.size, 1, none⟩ (.int .i64 (r0).n)).setCell ⟨C4.heap.size, 2, none⟩ (.slice A4 (r0).ks.length cap4)) F4) := fun b hb => ⟨Nat.le_trans hC2.size (cs6.out b hb).1, by simpa [World.setCell] using (cs6.out b hb).2⟩
              have hge : Hid (C4.heap.size ∉ F4) := fun h => hgF _ h rfl
              clear hkp hgF
              refine wpAnyB_ready (rs := [9]) (by kernel_rfl) (by simp) ?_
              refine AllReadyB.cons rfl (fun K hK => ?_) AllReadyB.nil
              go_simp
              refine hK.out _ _ (HS.out _ hCe.out) (fun _ => trivial) ?_
              clear hK K
              (try simp only [Act.put, List.getElem_toArray, List.getElem_cons_zero, List.getElem_cons_succ, List.setIfInBounds_toArray, List.set_cons_zero, List.set_cons_succ])
              refine wpAnyB_ready (rs := [10]) (by kernel_rfl) (by simp) ?_
              refine AllReadyB.cons rfl (fun K hK => ?_) AllReadyB.nil
              go_simp
              refine hK.out _ _ (HS.out _ hCe.out) (fun _ => trivial) ?_
              clear hK K
              (try simp only [Act.put, List.getElem_toArray, List.getElem_cons_zero, List.getElem_cons_succ, List.setIfInBounds_toArray, List.set_cons_zero, List.set_cons_succ])
              refine wpAnyB_end (by kernel_rfl) ?_
              clear y0 f0 y1 f1 y2 f2 ylt
              go_wp2
              go_meet
              case rel => exact ⟨_, _, _, rfl, (by rw [← HResb.out]), hCe, cbe, HGE5, hge, hpe, hfe, hse⟩
            · skip
              go_simp
              obtain ⟨C8, hX⟩ : ∃ X, X = C2.alloc (.cells #[.int .i64 0, .int .i64 0, .slice none 0 0] 41) := ⟨_, rfl⟩
              have hb8 : Below C2.heap.size C2 C8 := by rw [hX]; exact (Below.refl _ _).alloc (Nat.le_refl _) _
              have cb8 : Hid (Blk C8 C2.heap.size 41 #[.int .i64 0, .int .i64 0, .slice none 0 0]) := by rw [hX]; exact Blk.new _ _ _
              rw [← hX]
              clear hX
              have hC8 : Below W30.heap.size W30 C8 := hC2.trans (hb8.mono hC2.size)
              have cr9 := Lib.hid ((ArrDt.below cr3.out hb8 cu3.out))
              have cu9 := Lib.hid (cu3.out.mono hb8.size)
              have HGE8 : Hid (W30.heap.size ≤ C2.heap.size) := hC2.size
              (try dsimp only)
              refine hK.out _ _ (HS.out _ hC8) (fun _ => trivial) ?_
              clear hK K
              (try simp only [Act.put, List.getElem_toArray, List.getElem_cons_zero, List.getElem_cons_succ, List.setIfInBounds_toArray, List.set_cons_zero, List.set_cons_succ])
              refine wpAnyB_ready (rs := [4]) (by kernel_rfl) (by simp) ?_
              refine AllReadyB.cons rfl (fun K hK => ?_) AllReadyB.nil
              go_simp
              go_at_call 30
              refine (impl_LeastValue x0 x1 _ _ Gc1 cr9.out cu9.out).mono ?_
              rintro e C10 ⟨cs10, F10, rfl, hb10, hp10, hfr10, hfs10⟩
              rw [HRes.out] at hp10
              obtain ⟨kv10, rfl, ha10⟩ := (VR_iff _ _ _).1 hp10
              obtain ⟨A10, cap10, rfl, -, -⟩ := ha10.form
              clear ha10
              have hC10 : Below W30.heap.size W30 C10 := hC8.trans (hb10.mono hC8.size)
              have cb11 : Hid (Blk C10 C2.heap.size 41 #[.int .i64 0, .int .i64 0, .slice none 0 0]) := cb8.out.same (hb10.block _ cb8.out.lt)
              have HP10 := Lib.hid hp10
              have HFr10 := Lib.hid hfr10
              have HFs10 := Lib.hid hfs10
              clear hp10 hfr10 hfs10
              (try dsimp only)
              refine hK.out _ _ (HS.out _ hC10) (fun _ => trivial) ?_
              clear hK K
              (try simp only [Act.put, List.getElem_toArray, List.getElem_cons_zero, List.getElem_cons_succ, List.setIfInBounds_toArray, List.set_cons_zero, List.set_cons_succ])
              have hSx10 := HS.out _ hC10
              refine wpAnyB_take (i := 5) (v := ?_) rfl (by decide) (by kernel_rfl) (by kernel_rfl) (by kernel_rfl) (fun _ _ _ h => h) (Or.inl ⟨by rfl, ?hy5⟩) hSx10 (fun _ => hT0) ?_
              case hy5 => (intro W hSw; (try dsimp only at hSw); (try obtain ⟨hSw0, hSw1⟩ := hSw); go_simp; try with_reducible rfl)
              (try simp only [Act.put, List.getElem_toArray, List.getElem_cons_zero, List.getElem_cons_succ, List.setIfInBounds_toArray, List.set_cons_zero, List.set_cons_succ])
              refine wpAnyB_take (i := 6) (v := ?_) rfl (by decide) (by kernel_rfl) (by kernel_rfl) (by kernel_rfl) (fun _ _ _ h => h) (Or.inl ⟨by rfl, ?hy6⟩) hSx10 (fun _ => hT0) ?_
              case hy6 => (intro W hSw; (try dsimp only at hSw); (try obtain ⟨hSw0, hSw1⟩ := hSw); go_simp; try with_reducible rfl)
              (try simp only [Act.put, List.getElem_toArray, List.getElem_cons_zero, List.getElem_cons_succ, List.setIfInBounds_toArray, List.set_cons_zero, List.set_cons_succ])
              refine wpAnyB_take (i := 7) (v := ?_) rfl (by decide) (by kernel_rfl) (by kernel_rfl) (by kernel_rfl) (fun _ _ _ h => h) (Or.inl ⟨by rfl, ?hy7⟩) hSx10 (fun _ => hT0) ?_
              case hy7 => (intro W hSw; (try dsimp only at hSw); (try obtain ⟨hSw0, hSw1⟩ := hSw); go_simp; try with_reducible rfl)
              (try simp only [Act.put, List.getElem_toArray, List.getElem_cons_zero, List.getElem_cons_succ, List.setIfInBounds_toArray, List.set_cons_zero, List.set_cons_succ])
              have y0 : C10.cell? ⟨C2.heap.size, 0, none⟩ = some (.int .i64 0) := (cb11.out.cell 0).trans (by simp)
              have f0 := cb11.out.frozen 0
              have y1 : C10.cell? ⟨C2.heap.size, 1, none⟩ = some (.int .i64 0) := (cb11.out.cell 1).trans (by simp)
              have f1 := cb11.out.frozen 1
              have y2 : C10.cell? ⟨C2.heap.size, 2, none⟩ = some (.slice none 0 0) := (cb11.out.cell 2).trans (by simp)
              have f2 := cb11.out.frozen 2
              have ylt := cb11.out.lt
              have hCe : Hid (Below W30.heap.size W30 (((C10.setCell ⟨C2.heap.size, 0, none⟩ (.int .i64 (r0).c)).setCell ⟨C2.heap.size, 1, none⟩ (.int .i64 (r0).n)).setCell ⟨C2.heap.size, 2, none⟩ (.slice A10 (r0).ks.length cap10))) := (((hC10.setCell HGE8.out _).setCell HGE8.out _).setCell HGE8.out _)
              have cbe : Hid (Blk (((C10.setCell ⟨C2.heap.size, 0, none⟩ (.int .i64 (r0).c)).setCell ⟨C2.heap.size, 1, none⟩ (.int .i64 (r0).n)).setCell ⟨C2.heap.size, 2, none⟩ (.slice A10 (r0).ks.length cap10)) (C2.heap.size) 41 #[.int .i64 (r0).c, .int .i64 (r0).n, .slice A10 (r0).ks.length cap10]) := (((cb11.out.set_ 0 _).set_ 1 _).set_ 2 _)
              have hgF : ∀ b ∈ F10, b ≠ C2.heap.size := fun b hb e => Nat.lt_irrefl _ (Nat.lt_of_lt_of_le (by rw [e]; exact cb8.out.lt) (HFs10.out b hb).1)
              have hkp : Kept F10 C10 (((C10.setCell ⟨C2.heap.size, 0, none⟩ (.int .i64 (r0).c)).setCell ⟨C2.heap.size, 1, none⟩ (.int .i64 (r0).n)).setCell ⟨C2.heap.size, 2, none⟩ (.slice A10 (r0).ks.length cap10)) := fun b hb => by rw [Below.heap_setCell _ _ _ _ (hgF b hb), Below.heap_setCell _ _ _ _ (hgF b hb), Below.heap_setCell _ _ _ _ (hgF b hb)]
              have hpe : Hid (VR (((C10.setCell ⟨C2.heap.size, 0, none⟩ (.int .i64 (r0).c)).setCell ⟨C2.heap.size, 1, none⟩ (.int .i64 (r0).n)).setCell ⟨C2.heap.size, 2, none⟩ (.slice A10 (r0).ks.length cap10)) (r0) [.int .i64 (r0).c, .int .i64 (r0).n, .slice A10 (r0).ks.length cap10] F10) := VR.mono _ _ _ hkp HP10.out
              have hfe : Hid (Free (((C10.setCell ⟨C2.heap.size, 0, none⟩ (.int .i64 (r0).c)).setCell ⟨C2.heap.size, 1, none⟩ (.int .i64 (r0).n)).setCell ⟨C2.heap.size, 2, none⟩ (.slice A10 (r0).ks.length cap10)) F10) := HFr10.out.kept hkp
              have hse : Hid (Fresh W30 (((C10.setCell ⟨C2.heap.size, 0, none⟩ (.int .i64 (r0).c)).setCell ⟨C2.heap.size, 1, none⟩ (.int .i64 (r0).n)).setCell ⟨C2.heap.size, 2, none⟩ (.slice A10 (r0).ks.length cap10)) F10) := fun b hb => ⟨Nat.le_trans hC8.size (HFs10.out b hb).1, by simpa [World.setCell] using (HFs10.out b hb).2⟩
              have hge : Hid (C2.heap.size ∉ F10) := fun h => hgF _ h rfl
              clear hkp hgF
              refine wpAnyB_ready (rs := [9]) (by kernel_rfl) (by simp) ?_
              refine AllReadyB.cons rfl (fun K hK => ?_) AllReadyB.nil
              go_simp
              refine hK.out _ _ (HS.out _ hCe.out) (fun _ => trivial) ?_
              clear hK K
              (try simp only [Act.put, List.getElem_toArray, List.getElem_cons_zero, List.getElem_cons_succ, List.setIfInBounds_toArray, List.set_cons_zero, List.set_cons_succ])
              refine wpAnyB_ready (rs := [10]) (by kernel_rfl) (by simp) ?_
              refine AllReadyB.cons rfl (fun K hK => ?_) AllReadyB.nil
              go_simp
              refine hK.out _ _ (HS.out _ hCe.out) (fun _ => trivial) ?_
              clear hK K
              (try simp only [Act.put, List.getElem_toArray, List.getElem_cons_zero, List.getElem_cons_succ, List.setIfInBounds_toArray, List.set_cons_zero, List.set_cons_succ])
              refine wpAnyB_end (by kernel_rfl) ?_
              clear y0 f0 y1 f1 y2 f2 ylt
              go_wp2
              go_meet
              case rel => exact ⟨_, _, _, rfl, (by rw [← HResb.out]), hCe, cbe, HGE8, hge, hpe, hfe, hse⟩
          · skip
            go_simp
            obtain ⟨C13, hX⟩ : ∃ X, X = C1.alloc (.cells #[.int .i64 0, .int .i64 0, .slice none 0 0] 41) := ⟨_, rfl⟩
            have hb13 : Below C1.heap.size C1 C13 := by rw [hX]; exact (Below.refl _ _).alloc (Nat.le_refl _) _
            have cb13 : Hid (Blk C13 C1.heap.size 41 #[.int .i64 0, .int .i64 0, .slice none 0 0]) := by rw [hX]; exact Blk.new _ _ _
            rw [← hX]
            clear hX
            have hC13 : Below W30.heap.size W30 C13 := hC1.trans (hb13.mono hC1.size)
            have cr14 := Lib.hid ((ArrDt.below cr1.out hb13 cu1.out))
            have cu14 := Lib.hid (cu1.out.mono hb13.size)
            have HGE13 : Hid (W30.heap.size ≤ C1.heap.size) := hC1.size
            (try dsimp only)
            refine hK.out _ _ (HS.out _ hC13) (fun _ => trivial) ?_
            clear hK K
            (try simp only [Act.put, List.getElem_toArray, List.getElem_cons_zero, List.getElem_cons_succ, List.setIfInBounds_toArray, List.set_cons_zero, List.set_cons_succ])
            refine wpAnyB_ready (rs := [3]) (by kernel_rfl) (by simp) ?_
            refine AllReadyB.cons rfl (fun K hK => ?_) AllReadyB.nil
            go_simp
            go_at_call 19
            refine (toType_any x1 _ _ [] (TyR.mk0 _ x1) (Under.nil _) (Ty.size_le x1)).mono ?_
            rintro e C15 ⟨dsc15, Gc15, rfl, hb15, ⟨rfl, rfl⟩, hfrc15, hfsc15⟩
            have hC15 : Below W30.heap.size W30 C15 := hC13.trans (hb15.mono hC13.size)
            have cr16 := Lib.hid ((ArrDt.below cr14.out hb15 cu14.out))
            have cu16 := Lib.hid (cu14.out.mono hb15.size)
            have cb17 : Hid (Blk C15 C1.heap.size 41 #[.int .i64 0, .int .i64 0, .slice none 0 0]) := cb13.out.same (hb15.block _ cb13.out.lt)
            clear hfrc15 hfsc15
            (try dsimp only)
            refine hK.out _ _ (HS.out _ hC15) (fun _ => trivial) ?_
            clear hK K
            (try simp only [Act.put, List.getElem_toArray, List.getElem_cons_zero, List.getElem_cons_succ, List.setIfInBounds_toArray, List.set_cons_zero, List.set_cons_succ])
            refine wpAnyB_ready (rs := [4]) (by kernel_rfl) (by simp) ?_
            refine AllReadyB.cons rfl (fun K hK => ?_) AllReadyB.nil
            go_simp
            go_at_call 30
            refine (impl_LeastValue x0 x1 _ _ Gc1 cr16.out cu16.out).mono ?_
            rintro e C18 ⟨cs18, F18, rfl, hb18, hp18, hfr18, hfs18⟩
            rw [HRes.out] at hp18
            obtain ⟨kv18, rfl, ha18⟩ := (VR_iff _ _ _).1 hp18
            obtain ⟨A18, cap18, rfl, -, -⟩ := ha18.form
            clear ha18
            have hC18 : Below W30.heap.size W30 C18 := hC15.trans (hb18.mono hC15.size)
            have cb19 : Hid (Blk C18 C1.heap.size 41 #[.int .i64 0, .int .i64 0, .slice none 0 0]) := cb17.out.same (hb18.block _ cb17.out.lt)
            have HP18 := Lib.hid hp18
            have HFr18 := Lib.hid hfr18
            have HFs18 := Lib.hid hfs18
            clear hp18 hfr18 hfs18
            (try dsimp only)
            refine hK.out _ _ (HS.out _ hC18) (fun _ => trivial) ?_
            clear hK K
            (try simp only [Act.put, List.getElem_toArray, List.getElem_cons_zero, List.getElem_cons_succ, List.setIfInBounds_toArray, List.set_cons_zero, List.set_cons_succ])
            have hSx18 := HS.out _ hC18
            refine wpAnyB_take (i := 5) (v := ?_) rfl (by decide) (by kernel_rfl) (by kernel_rfl) (by kernel_rfl) (fun _ _ _ h => h) (Or.inl ⟨by rfl, ?hy5⟩) hSx18 (fun _ => hT0) ?_
            case hy5 => (intro W hSw; (try dsimp only at hSw); (try obtain ⟨hSw0, hSw1⟩ := hSw); go_simp; try with_reducible rfl)
            (try simp only [Act.put, List.getElem_toArray, List.getElem_cons_zero, List.getElem_cons_succ, List.setIfInBounds_toArray, List.set_cons_zero, List.set_cons_succ])
            refine wpAnyB_take (i := 6) (v := ?_) rfl (by decide) (by kernel_rfl) (by kernel_rfl) (by kernel_rfl) (fun _ _ _ h => h) (Or.inl ⟨by rfl, ?hy6⟩) hSx18 (fun _ => hT0) ?_
            case hy6 => (intro W hSw; (try dsimp only at hSw); (try obtain ⟨hSw0, hSw1⟩ := hSw); go_simp; try with_reducible rfl)
            (try simp only [Act.put, List.getElem_toArray, List.getElem_cons_zero, List.getElem_cons_succ, List.setIfInBounds_toArray, List.set_cons_zero, List.set_cons_succ])
            refine wpAnyB_take (i := 7) (v := ?_) rfl (by decide) (by kernel_rfl) (by kernel_rfl) (by kernel_rfl) (fun _ _ _ h => h) (Or.inl ⟨by rfl, ?hy7⟩) hSx18 (fun _ => hT0) ?_
            case hy7 => (intro W hSw; (try dsimp only at hSw); (try obtain ⟨hSw0, hSw1⟩ := hSw); go_simp; try with_reducible rfl)
            (try simp only [Act.put, List.getElem_toArray, List.getElem_cons_zero, List.getElem_cons_succ, List.setIfInBounds_toArray, List.set_cons_zero, List.set_cons_succ])
            have y0 : C18.cell? ⟨C1.heap.size, 0, none⟩ = some (.int .i64 0) := (cb19.out.cell 0).trans (by simp)
            have f0 := cb19.out.frozen 0
            have y1 : C18.cell? ⟨C1.heap.size, 1, none⟩ = some (.int .i64 0) := (cb19.out.cell 1).trans (by simp)
            have f1 := cb19.out.frozen 1
            have y2 : C18.cell? ⟨C1.heap.size, 2, none⟩ = some (.slice none 0 0) := (cb19.out.cell 2).trans (by simp)
            have f2 := cb19.out.frozen 2
            have ylt := cb19.out.lt
            have hCe : Hid (Below W30.heap.size W30 (((C18.setCell ⟨C1.heap.size, 0, none⟩ (.int .i64 (r0).c)).setCell ⟨C1.heap.size, 1, none⟩ (.int .i64 (r0).n)).setCell ⟨C1.heap.size, 2, none⟩ (.slice A18 (r0).ks.length cap18))) := (((hC18.setCell HGE13.out _).setCell HGE13.out _).setCell HGE13.out _)
            have cbe : Hid (Blk (((C18.setCell ⟨C1.heap.size, 0, none⟩ (.int .i64 (r0).c)).setCell ⟨C1.heap.size, 1, none⟩ (.int .i64 (r0).n)).setCell ⟨C1.heap.size, 2, none⟩ (.slice A18 (r0).ks.length cap18)) (C1.heap.size) 41 #[.int .i64 (r0).c, .int .i64 (r0).n, .slice A18 (r0).ks.length cap18]) := (((cb19.out.set_ 0 _).set_ 1 _).set_ 2 _)
            have hgF : ∀ b ∈ F18, b ≠ C1.heap.size := fun b hb e => Nat.lt_irrefl _ (Nat.lt_of_lt_of_le (by rw [e]; exact cb17.out.lt) (HFs18.out b hb).1)
            have hkp : Kept F18 C18 (((C18.setCell ⟨C1.heap.size, 0, none⟩ (.int .i64 (r0).c)).setCell ⟨C1.heap.size, 1, none⟩ (.int .i64 (r0).n)).setCell ⟨C1.heap.size, 2, none⟩ (.slice A18 (r0).ks.length cap18)) := fun b hb => by rw [Below.heap_setCell _ _ _ _ (hgF b hb), Below.heap_setCell _ _ _ _ (hgF b hb), Below.heap_setCell _ _ _ _ (hgF b hb)]
            have hpe : Hid (VR (((C18.setCell ⟨C1.heap.size, 0, none⟩ (.int .i64 (r0).c)).setCell ⟨C1.heap.size, 1, none⟩ (.int .i64 (r0).n)).setCell ⟨C1.heap.size, 2, none⟩ (.slice A18 (r0).ks.length cap18)) (r0) [.int .i64 (r0).c, .int .i64 (r0).n, .slice A18 (r0).ks.length cap18] F18) := VR.mono _ _ _ hkp HP18.out
            have hfe : Hid (Free (((C18.setCell ⟨C1.heap.size, 0, none⟩ (.int .i64 (r0).c)).setCell ⟨C1.heap.size, 1, none⟩ (.int .i64 (r0).n)).setCell ⟨C1.heap.size, 2, none⟩ (.slice A18 (r0).ks.length cap18)) F18) := HFr18.out.kept hkp
            have hse : Hid (Fresh W30 (((C18.setCell ⟨C1.heap.size, 0, none⟩ (.int .i64 (r0).c)).setCell ⟨C1.heap.size, 1, none⟩ (.int .i64 (r0).n)).setCell ⟨C1.heap.size, 2, none⟩ (.slice A18 (r0).ks.length cap18)) F18) := fun b hb => ⟨Nat.le_trans hC15.size (HFs18.out b hb).1, by simpa [World.setCell] using (HFs18.out b hb).2⟩
            have hge : Hid (C1.heap.size ∉ F18) := fun h => hgF _ h rfl
            clear hkp hgF
            refine wpAnyB_ready (rs := [9]) (by kernel_rfl) (by simp) ?_
            refine AllReadyB.cons rfl (fun K hK => ?_) AllReadyB.nil
            go_simp
            refine hK.out _ _ (HS.out _ hCe.out) (fun _ => trivial) ?_
            clear hK K
            (try simp only [Act.put, List.getElem_toArray, List.getElem_cons_zero, List.getElem_cons_succ, List.setIfInBounds_toArray, List.set_cons_zero, List.set_cons_succ])
            refine wpAnyB_ready (rs := [10]) (by kernel_rfl) (by simp) ?_
            refine AllReadyB.cons rfl (fun K hK => ?_) AllReadyB.nil
            go_simp
            refine hK.out _ _ (HS.out _ hCe.out) (fun _ => trivial) ?_
            clear hK K
            (try simp only [Act.put, List.getElem_toArray, List.getElem_cons_zero, List.getElem_cons_succ, List.setIfInBounds_toArray, List.set_cons_zero, List.set_cons_succ])
            refine wpAnyB_end (by kernel_rfl) ?_
            clear y0 f0 y1 f1 y2 f2 ylt
            go_wp2
            go_meet
            case rel => exact ⟨_, _, _, rfl, (by rw [← HResb.out]), hCe, cbe, HGE13, hge, hpe, hfe, hse⟩
        · skip
          go_simp
          obtain ⟨C21, hX⟩ : ∃ X, X = wd.alloc (.cells #[.int .i64 0, .int .i64 0, .slice none 0 0] 41) := ⟨_, rfl⟩
          have hb21 : Below wd.heap.size wd C21 := by rw [hX]; exact (Below.refl _ _).alloc (Nat.le_refl _) _
          have cb21 : Hid (Blk C21 wd.heap.size 41 #[.int .i64 0, .int .i64 0, .slice none 0 0]) := by rw [hX]; exact Blk.new _ _ _
          rw [← hX]
          clear hX
          have hC21 : Below W30.heap.size W30 C21 := hC0.trans (hb21.mono hC0.size)
          have HGE21 : Hid (W30.heap.size ≤ wd.heap.size) := hC0.size
          (try dsimp only)
          refine hK.out _ _ (HS.out _ hC21) (fun _ => trivial) ?_
          clear hK K
          (try simp only [Act.put, List.getElem_toArray, List.getElem_cons_zero, List.getElem_cons_succ, List.setIfInBounds_toArray, List.set_cons_zero, List.set_cons_succ])
          refine wpAnyB_ready (rs := [1]) (by kernel_rfl) (by simp) ?_
          refine AllReadyB.cons rfl (fun K hK => ?_) AllReadyB.nil
          go_simp
          go_at_call 18
          refine (toDataS_any x0 _ F0 _ (ArrDt.below HR0.out (hB31.trans (hC21.mono hB31.size)) HU0.out) (HU0.out.mono (hB31.trans (hC21.mono hB31.size)).size) hs0).mono ?_
          rintro e C22 ⟨yc22, Gc22, rfl, hb22, hvc22, hfrc22, hfsc22⟩
          have hC22 : Below W30.heap.size W30 C22 := hC21.trans (hb22.mono hC21.size)
          have cb23 : Hid (Blk C22 wd.heap.size 41 #[.int .i64 0, .int .i64 0, .slice none 0 0]) := cb21.out.same (hb22.block _ cb21.out.lt)
          have cr22 := Lib.hid hvc22
          have cu22 := Lib.hid hfsc22.under
          clear hvc22 hfrc22 hfsc22
          (try dsimp only)
          refine hK.out _ _ (HS.out _ hC22) (fun _ => trivial) ?_
          clear hK K
          (try simp only [Act.put, List.getElem_toArray, List.getElem_cons_zero, List.getElem_cons_succ, List.setIfInBounds_toArray, List.set_cons_zero, List.set_cons_succ])
          refine wpAnyB_ready (rs := [3]) (by kernel_rfl) (by simp) ?_
          refine AllReadyB.cons rfl (fun K hK => ?_) AllReadyB.nil
          go_simp
          go_at_call 19
          refine (toType_any x1 _ _ [] (TyR.mk0 _ x1) (Under.nil _) (Ty.size_le x1)).mono ?_
          rintro e C24 ⟨dsc24, Gc24, rfl, hb24, ⟨rfl, rfl⟩, hfrc24, hfsc24⟩
          have hC24 : Below W30.heap.size W30 C24 := hC22.trans (hb24.mono hC22.size)
          have cr25 := Lib.hid ((ArrDt.below cr22.out hb24 cu22.out))
          have cu25 := Lib.hid (cu22.out.mono hb24.size)
          have cb26 : Hid (Blk C24 wd.heap.size 41 #[.int .i64 0, .int .i64 0, .slice none 0 0]) := cb23.out.same (hb24.block _ cb23.out.lt)
          clear hfrc24 hfsc24
          (try dsimp only)
          refine hK.out _ _ (HS.out _ hC24) (fun _ => trivial) ?_
          clear hK K
          (try simp only [Act.put, List.getElem_toArray, List.getElem_cons_zero, List.getElem_cons_succ, List.setIfInBounds_toArray, List.set_cons_zero, List.set_cons_succ])
          refine wpAnyB_ready (rs := [4]) (by kernel_rfl) (by simp) ?_
          refine AllReadyB.cons rfl (fun K hK => ?_) AllReadyB.nil
          go_simp
          go_at_call 30
          refine (impl_LeastValue x0 x1 _ _ Gc22 cr25.out cu25.out).mono ?_
          rintro e C27 ⟨cs27, F27, rfl, hb27, hp27, hfr27, hfs27⟩
          rw [HRes.out] at hp27
          obtain ⟨kv27, rfl, ha27⟩ := (VR_iff _ _ _).1 hp27
          obtain ⟨A27, cap27, rfl, -, -⟩ := ha27.form
          clear ha27
          have hC27 : Below W30.heap.size W30 C27 := hC24.trans (hb27.mono hC24.size)
          have cb28 : Hid (Blk C27 wd.heap.size 41 #[.int .i64 0, .int .i64 0, .slice none 0 0]) := cb26.out.same (hb27.block _ cb26.out.lt)
          have HP27 := Lib.hid hp27
          have HFr27 := Lib.hid hfr27
          have HFs27 := Lib.hid hfs27
          clear hp27 hfr27 hfs27
          (try dsimp only)
          refine hK.out _ _ (HS.out _ hC27) (fun _ => trivial) ?_
          clear hK K
          (try simp only [Act.put, List.getElem_toArray, List.getElem_cons_zero, List.getElem_cons_succ, List.setIfInBounds_toArray, List.set_cons_zero, List.set_cons_succ])
          have hSx27 := HS.out _ hC27
          refine wpAnyB_take (i := 5) (v := ?_) rfl (by decide) (by kernel_rfl) (by kernel_rfl) (by kernel_rfl) (fun _ _ _ h => h) (Or.inl ⟨by rfl, ?hy5⟩) hSx27 (fun _ => hT0) ?_
          case hy5 => (intro W hSw; (try dsimp only at hSw); (try obtain ⟨hSw0, hSw1⟩ := hSw); go_simp; try with_reducible rfl)
          (try simp only [Act.put, List.getElem_toArray, List.getElem_cons_zero, List.getElem_cons_succ, List.setIfInBounds_toArray, List.set_cons_zero, List.set_cons_succ])
          refine wpAnyB_take (i := 6) (v := ?_) rfl (by decide) (by kernel_rfl) (by kernel_rfl) (by kernel_rfl) (fun _ _ _ h => h) (Or.inl ⟨by rfl, ?hy6⟩) hSx27 (fun _ => hT0) ?_
          case hy6 => (intro W hSw; (try dsimp only at hSw); (try obtain ⟨hSw0, hSw1⟩ := hSw); go_simp; try with_reducible rfl)
          (try simp only [Act.put, List.getElem_toArray, List.getElem_cons_zero, List.getElem_cons_succ, List.setIfInBounds_toArray, List.set_cons_zero, List.set_cons_succ])
          refine wpAnyB_take (i := 7) (v := ?_) rfl (by decide) (by kernel_rfl) (by kernel_rfl) (by kernel_rfl) (fun _ _ _ h => h) (Or.inl ⟨by rfl, ?hy7⟩) hSx27 (fun _ => hT0) ?_
          case hy7 => (intro W hSw; (try dsimp only at hSw); (try obtain ⟨hSw0, hSw1⟩ := hSw); go_simp; try with_reducible rfl)
          (try simp only [Act.put, List.getElem_toArray, List.getElem_cons_zero, List.getElem_cons_succ, List.setIfInBounds_toArray, List.set_cons_zero, List.set_cons_succ])
          have y0 : C27.cell? ⟨wd.heap.size, 0, none⟩ = some (.int .i64 0) := (cb28.out.cell 0).trans (by simp)
          have f0 := cb28.out.frozen 0
          have y1 : C27.cell? ⟨wd.heap.size, 1, none⟩ = some (.int .i64 0) := (cb28.out.cell 1).trans (by simp)
          have f1 := cb28.out.frozen 1
          have y2 : C27.cell? ⟨wd.heap.size, 2, none⟩ = some (.slice none 0 0) := (cb28.out.cell 2).trans (by simp)
          have f2 := cb28.out.frozen 2
          have ylt := cb28.out.lt
          have hCe : Hid (Below W30.heap.size W30 (((C27.setCell ⟨wd.heap.size, 0, none⟩ (.int .i64 (r0).c)).setCell ⟨wd.heap.size, 1, none⟩ (.int .i64 (r0).n)).setCell ⟨wd.heap.size, 2, none⟩ (.slice A27 (r0).ks.length cap27))) := (((hC27.setCell HGE21.out _).setCell HGE21.out _).setCell HGE21.out _)
          have cbe : Hid (Blk (((C27.setCell ⟨wd.heap.size, 0, none⟩ (.int .i64 (r0).c)).setCell ⟨wd.heap.size, 1, none⟩ (.int .i64 (r0).n)).setCell ⟨wd.heap.size, 2, none⟩ (.slice A27 (r0).ks.length cap27)) (wd.heap.size) 41 #[.int .i64 (r0).c, .int .i64 (r0).n, .slice A27 (r0).ks.length cap27]) := (((cb28.out.set_ 0 _).set_ 1 _).set_ 2 _)
          have hgF : ∀ b ∈ F27, b ≠ wd.heap.size := fun b hb e => Nat.lt_irrefl _ (Nat.lt_of_lt_of_le (by rw [e]; exact cb26.out.lt) (HFs27.out b hb).1)
          have hkp : Kept F27 C27 (((C27.setCell ⟨wd.heap.size, 0, none⟩ (.int .i64 (r0).c)).setCell ⟨wd.heap.size, 1, none⟩ (.int .i64 (r0).n)).setCell ⟨wd.heap.size, 2, none⟩ (.slice A27 (r0).ks.length cap27)) := fun b hb => by rw [Below.heap_setCell _ _ _ _ (hgF b hb), Below.heap_setCell _ _ _ _ (hgF b hb), Below.heap_setCell _ _ _ _ (hgF b hb)]
          have hpe : Hid (VR (((C27.setCell ⟨wd.heap.size, 0, none⟩ (.int .i64 (r0).c)).setCell ⟨wd.heap.size, 1, none⟩ (.int .i64 (r0).n)).setCell ⟨wd.heap.size, 2, none⟩ (.slice A27 (r0).ks.length cap27)) (r0) [.int .i64 (r0).c, .int .i64 (r0).n, .slice A27 (r0).ks.length cap27] F27) := VR.mono _ _ _ hkp HP27.out
          have hfe : Hid (Free (((C27.setCell ⟨wd.heap.size, 0, none⟩ (.int .i64 (r0).c)).setCell ⟨wd.heap.size, 1, none⟩ (.int .i64 (r0).n)).setCell ⟨wd.heap.size, 2, none⟩ (.slice A27 (r0).ks.length cap27)) F27) := HFr27.out.kept hkp
          have hse : Hid (Fresh W30 (((C27.setCell ⟨wd.heap.size, 0, none⟩ (.int .i64 (r0).c)).setCell ⟨wd.heap.size, 1, none⟩ (.int .i64 (r0).n)).setCell ⟨wd.heap.size, 2, none⟩ (.slice A27 (r0).ks.length cap27)) F27) := fun b hb => ⟨Nat.le_trans hC24.size (HFs27.out b hb).1, by simpa [World.setCell] using (HFs27.out b hb).2⟩
          have hge : Hid (wd.heap.size ∉ F27) := fun h => hgF _ h rfl
          clear hkp hgF
          refine wpAnyB_ready (rs := [9]) (by kernel_rfl) (by simp) ?_
          refine AllReadyB.cons rfl (fun K hK => ?_) AllReadyB.nil
          go_simp
          refine hK.out _ _ (HS.out _ hCe.out) (fun _ => trivial) ?_
          clear hK K
          (try simp only [Act.put, List.getElem_toArray, List.getElem_cons_zero, List.getElem_cons_succ, List.setIfInBounds_toArray, List.set_cons_zero, List.set_cons_succ])
          refine wpAnyB_ready (rs := [10]) (by kernel_rfl) (by simp) ?_
          refine AllReadyB.cons rfl (fun K hK => ?_) AllReadyB.nil
          go_simp
          refine hK.out _ _ (HS.out _ hCe.out) (fun _ => trivial) ?_
          clear hK K
          (try simp only [Act.put, List.getElem_toArray, List.getElem_cons_zero, List.getElem_cons_succ, List.setIfInBounds_toArray, List.set_cons_zero, List.set_cons_succ])
          refine wpAnyB_end (by kernel_rfl) ?_
          clear y0 f0 y1 f1 y2 f2 ylt
          go_wp2
          go_meet
          case rel => exact ⟨_, _, _, rfl, (by rw [← HResb.out]), hCe, cbe, HGE21, hge, hpe, hfe, hse⟩
      case rest =>
        obtain ⟨rg_h0, cs_h0, F_h0, rfl, rfl, HBt_h0, RB_h0, RGE_h0, RGF_h0, HP_h0, HFR_h0, HFS_h0⟩ := hcut
        obtain ⟨kv_h0, rfl, ha_h0⟩ := (VR_iff _ _ _).1 HP_h0.out
        obtain ⟨A_h0, cap_h0, rfl, -, -⟩ := ha_h0.form
        clear ha_h0
        obtain ⟨W33, hW⟩ : ∃ X, X = wc := ⟨_, rfl⟩
        rw [← hW] at HBt_h0 RB_h0 HP_h0 HFR_h0 HFS_h0 ⊢
        clear hW
        have hfz_h0 := HFS_h0.out
        have dj_w0_h0 := Lib.hid (fun b (hb : b ∈ F_w0) (hj : b ∈ F_h0) => Nat.lt_irrefl _ (Nat.lt_of_lt_of_le (SU32_w0.out b hb) (hfz_h0 b hj).1))
        have dj_h0_w0 := Lib.hid (fun b (hj : b ∈ F_h0) (hb : b ∈ F_w0) => Nat.lt_irrefl _ (Nat.lt_of_lt_of_le (SU32_w0.out b hb) (hfz_h0 b hj).1))
        have dj_g0_h0 := Lib.hid (fun b (hb : b ∈ F_g0) (hj : b ∈ F_h0) => Nat.lt_irrefl _ (Nat.lt_of_lt_of_le (SU32_g0.out b hb) (hfz_h0 b hj).1))
        have dj_h0_g0 := Lib.hid (fun b (hj : b ∈ F_h0) (hb : b ∈ F_g0) => Nat.lt_irrefl _ (Nat.lt_of_lt_of_le (SU32_g0.out b hb) (hfz_h0 b hj).1))
        have nb_bx1_h0 := Lib.hid (fun (hj : _ ∈ F_h0) => Nat.lt_irrefl _ (Nat.lt_of_lt_of_le SB32_bx1.out (hfz_h0 _ hj).1))
        have nb_rb_w0_h0 := Lib.hid (fun (hj : _ ∈ F_h0) => Nat.lt_irrefl _ (Nat.lt_of_lt_of_le SB32_rb_w0.out (hfz_h0 _ hj).1))
        have nb_rb_g0_h0 := Lib.hid (fun (hj : _ ∈ F_h0) => Nat.lt_irrefl _ (Nat.lt_of_lt_of_le SB32_rb_g0.out (hfz_h0 _ hj).1))
        have LB_h0 := Lib.hid (fun b (hj : b ∈ F_h0) => Nat.le_trans hB31.size (hfz_h0 b hj).1)
        have X_h0 := HP_h0
        have Y_h0 := Lib.hid hfz_h0.under
        have Z_h0 := HFR_h0
        clear HP_h0 HFR_h0 HFS_h0 hfz_h0
        have nb_rb_h0_w0 := Lib.hid (fun (hj : rg_h0 ∈ F_w0) => Nat.lt_irrefl _ (Nat.lt_of_lt_of_le (Y_w0.out _ hj) RGE_h0.out))
        have nb_rb_h0_g0 := Lib.hid (fun (hj : rg_h0 ∈ F_g0) => Nat.lt_irrefl _ (Nat.lt_of_lt_of_le (Y_g0.out _ hj) RGE_h0.out))
        have nb_rb_h0_h0 := RGF_h0
        have hbt33 := HBt_h0.out
        have rb_h0 := RB_h0
        clear HBt_h0 RB_h0 RGE_h0 RGF_h0
        have hB34 := hB31.trans (hbt33.mono hB31.size)
        have bx1n : Hid (Blk W33 (w.heap.size) 24 #[.int .i64 x1.d, .int .i64 x1.i]) := bx1.out.same (hbt33.block _ bx1.out.lt)
        clear bx1
        have bx1 := bx1n
        clear bx1n
        have rb_w0n : Hid (Blk W33 (rg_w0) 41 #[.int .i64 r0.c, .int .i64 r0.n, .slice A_w0 r0.ks.length cap_w0]) := rb_w0.out.same (hbt33.block _ rb_w0.out.lt)
        clear rb_w0
        have rb_w0 := rb_w0n
        clear rb_w0n
        have rb_g0n : Hid (Blk W33 (W13.heap.size) 41 #[.int .i64 r0.c, .int .i64 r0.n, .slice A_g0 r0.ks.length cap_g0]) := rb_g0.out.same (hbt33.block _ rb_g0.out.lt)
        clear rb_g0
        have rb_g0 := rb_g0n
        clear rb_g0n
        have KP := Lib.hid (show Kept F_w0 W30 W33 from (Kept.of_below (w := W30) hbt33 Y_w0.out))
        have X_w0n := Lib.hid (VR.mono _ _ _ KP.out X_w0.out)
        have Y_w0n := Lib.hid (Y_w0.out.mono hbt33.size)
        have Z_w0n := Lib.hid (Z_w0.out.kept KP.out)
        clear X_w0 Y_w0 KP Z_w0
        have X_w0 := X_w0n
        have Y_w0 := Y_w0n
        have Z_w0 := Z_w0n
        clear X_w0n Y_w0n Z_w0n
        have KP := Lib.hid (show Kept F_g0 W30 W33 from (Kept.of_below (w := W30) hbt33 Y_g0.out))
        have X_g0n := Lib.hid (VR.mono _ _ _ KP.out X_g0.out)
        have Y_g0n := Lib.hid (Y_g0.out.mono hbt33.size)
        have Z_g0n := Lib.hid (Z_g0.out.kept KP.out)
        clear X_g0 Y_g0 KP Z_g0
        have X_g0 := X_g0n
        have Y_g0 := Y_g0n
        have Z_g0 := Z_g0n
        clear X_g0n Y_g0n Z_g0n
        have rb_h0n : Hid (Blk W33 rg_h0 41 #[.int .i64 (r0).c, .int .i64 (r0).n, .slice A_h0 (r0).ks.length cap_h0]) := rb_h0
        clear rb_h0
        have rb_h0 := rb_h0n
        clear rb_h0n
        have bx1c0 : W33.cell? ⟨w.heap.size, 0, none⟩ = some (.int .i64 x1.d) := (bx1.out.cell 0).trans (by simp)
        have bx1c1 : W33.cell? ⟨w.heap.size, 1, none⟩ = some (.int .i64 x1.i) := (bx1.out.cell 1).trans (by simp)
        have bx1lt : w.heap.size < W33.heap.size := bx1.out.lt
        have rb_w0c0 : W33.cell? ⟨rg_w0, 0, none⟩ = some (.int .i64 r0.c) := (rb_w0.out.cell 0).trans (by simp)
        have rb_w0c1 : W33.cell? ⟨rg_w0, 1, none⟩ = some (.int .i64 r0.n) := (rb_w0.out.cell 1).trans (by simp)
        have rb_w0c2 : W33.cell? ⟨rg_w0, 2, none⟩ = some (.slice A_w0 r0.ks.length cap_w0) := (rb_w0.out.cell 2).trans (by simp)
        have rb_w0lt : rg_w0 < W33.heap.size := rb_w0.out.lt
        have rb_g0c0 : W33.cell? ⟨W13.heap.size, 0, none⟩ = some (.int .i64 r0.c) := (rb_g0.out.cell 0).trans (by simp)
        have rb_g0c1 : W33.cell? ⟨W13.heap.size, 1, none⟩ = some (.int .i64 r0.n) := (rb_g0.out.cell 1).trans (by simp)
        have rb_g0c2 : W33.cell? ⟨W13.heap.size, 2, none⟩ = some (.slice A_g0 r0.ks.length cap_g0) := (rb_g0.out.cell 2).trans (by simp)
        have rb_g0lt : W13.heap.size < W33.heap.size := rb_g0.out.lt
        have rb_h0c0 : W33.cell? ⟨rg_h0, 0, none⟩ = some (.int .i64 r0.c) := (rb_h0.out.cell 0).trans (by simp)
        have rb_h0c1 : W33.cell? ⟨rg_h0, 1, none⟩ = some (.int .i64 r0.n) := (rb_h0.out.cell 1).trans (by simp)
        have rb_h0c2 : W33.cell? ⟨rg_h0, 2, none⟩ = some (.slice A_h0 r0.ks.length cap_h0) := (rb_h0.out.cell 2).trans (by simp)
        have rb_h0lt : rg_h0 < W33.heap.size := rb_h0.out.lt
        go_wp2_with fail
        clear bx1c0 bx1c1 rb_w0c0 rb_w0c1 rb_w0c2 rb_g0c0 rb_g0c1 rb_g0c2 rb_h0c0 rb_h0c1 rb_h0c2 bx1lt rb_w0lt rb_g0lt rb_h0lt
        refine (eqValue_any r0 W33 _ _ F_h0 F_w0 X_h0.out X_w0.out Y_h0.out Y_w0.out).mono ?_
        rintro e W35 ⟨rfl, hb35⟩
        have hB36 := hB34.trans (hb35.mono hB34.size)
        have bx1n : Hid (Blk W35 (w.heap.size) 24 #[.int .i64 x1.d, .int .i64 x1.i]) := bx1.out.same (hb35.block _ bx1.out.lt)
        clear bx1
        have bx1 := bx1n
        clear bx1n
        have rb_w0n : Hid (Blk W35 (rg_w0) 41 #[.int .i64 r0.c, .int .i64 r0.n, .slice A_w0 r0.ks.length cap_w0]) := rb_w0.out.same (hb35.block _ rb_w0.out.lt)
        clear rb_w0
        have rb_w0 := rb_w0n
        clear rb_w0n
        have rb_g0n : Hid (Blk W35 (W13.heap.size) 41 #[.int .i64 r0.c, .int .i64 r0.n, .slice A_g0 r0.ks.length cap_g0]) := rb_g0.out.same (hb35.block _ rb_g0.out.lt)
        clear rb_g0
        have rb_g0 := rb_g0n
        clear rb_g0n
        have rb_h0n : Hid (Blk W35 (rg_h0) 41 #[.int .i64 r0.c, .int .i64 r0.n, .slice A_h0 r0.ks.length cap_h0]) := rb_h0.out.same (hb35.block _ rb_h0.out.lt)
        clear rb_h0
        have rb_h0 := rb_h0n
        clear rb_h0n
        have KP := Lib.hid (show Kept F_w0 W33 W35 from (Kept.of_below (w := W33) hb35 Y_w0.out))
        have X_w0n := Lib.hid (VR.mono _ _ _ KP.out X_w0.out)
        have Y_w0n := Lib.hid (Y_w0.out.mono hb35.size)
        have Z_w0n := Lib.hid (Z_w0.out.kept KP.out)
        clear X_w0 Y_w0 KP Z_w0
        have X_w0 := X_w0n
        have Y_w0 := Y_w0n
        have Z_w0 := Z_w0n
        clear X_w0n Y_w0n Z_w0n
        have KP := Lib.hid (show Kept F_g0 W33 W35 from (Kept.of_below (w := W33) hb35 Y_g0.out))
        have X_g0n := Lib.hid (VR.mono _ _ _ KP.out X_g0.out)
        have Y_g0n := Lib.hid (Y_g0.out.mono hb35.size)
        have Z_g0n := Lib.hid (Z_g0.out.kept KP.out)
        clear X_g0 Y_g0 KP Z_g0
        have X_g0 := X_g0n
        have Y_g0 := Y_g0n
        have Z_g0 := Z_g0n
        clear X_g0n Y_g0n Z_g0n
        have KP := Lib.hid (show Kept F_h0 W33 W35 from (Kept.of_below (w := W33) hb35 Y_h0.out))
        have X_h0n := Lib.hid (VR.mono _ _ _ KP.out X_h0.out)
        have Y_h0n := Lib.hid (Y_h0.out.mono hb35.size)
        have Z_h0n := Lib.hid (Z_h0.out.kept KP.out)
        clear X_h0 Y_h0 KP Z_h0
        have X_h0 := X_h0n
        have Y_h0 := Y_h0n
        have Z_h0 := Z_h0n
        clear X_h0n Y_h0n Z_h0n
        have bx1c0 : W35.cell? ⟨w.heap.size, 0, none⟩ = some (.int .i64 x1.d) := (bx1.out.cell 0).trans (by simp)
        have bx1c1 : W35.cell? ⟨w.heap.size, 1, none⟩ = some (.int .i64 x1.i) := (bx1.out.cell 1).trans (by simp)
        have bx1lt : w.heap.size < W35.heap.size := bx1.out.lt
        have rb_w0c0 : W35.cell? ⟨rg_w0, 0, none⟩ = some (.int .i64 r0.c) := (rb_w0.out.cell 0).trans (by simp)
        have rb_w0c1 : W35.cell? ⟨rg_w0, 1, none⟩ = some (.int .i64 r0.n) := (rb_w0.out.cell 1).trans (by simp)
        have rb_w0c2 : W35.cell? ⟨rg_w0, 2, none⟩ = some (.slice A_w0 r0.ks.length cap_w0) := (rb_w0.out.cell 2).trans (by simp)
        have rb_w0lt : rg_w0 < W35.heap.size := rb_w0.out.lt
        have rb_g0c0 : W35.cell? ⟨W13.heap.size, 0, none⟩ = some (.int .i64 r0.c) := (rb_g0.out.cell 0).trans (by simp)
        have rb_g0c1 : W35.cell? ⟨W13.heap.size, 1, none⟩ = some (.int .i64 r0.n) := (rb_g0.out.cell 1).trans (by simp)
        have rb_g0c2 : W35.cell? ⟨W13.heap.size, 2, none⟩ = some (.slice A_g0 r0.ks.length cap_g0) := (rb_g0.out.cell 2).trans (by simp)
        have rb_g0lt : W13.heap.size < W35.heap.size := rb_g0.out.lt
        have rb_h0c0 : W35.cell? ⟨rg_h0, 0, none⟩ = some (.int .i64 r0.c) := (rb_h0.out.cell 0).trans (by simp)
        have rb_h0c1 : W35.cell? ⟨rg_h0, 1, none⟩ = some (.int .i64 r0.n) := (rb_h0.out.cell 1).trans (by simp)
        have rb_h0c2 : W35.cell? ⟨rg_h0, 2, none⟩ = some (.slice A_h0 r0.ks.length cap_h0) := (rb_h0.out.cell 2).trans (by simp)
        have rb_h0lt : rg_h0 < W35.heap.size := rb_h0.out.lt
        go_wp2_with fail
        clear bx1c0 bx1c1 rb_w0c0 rb_w0c1 rb_w0c2 rb_g0c0 rb_g0c1 rb_g0c2 rb_h0c0 rb_h0c1 rb_h0c2 bx1lt rb_w0lt rb_g0lt rb_h0lt
        refine (heldValue_any r0 W35 _ F_g0 1 (by omega) (by omega) X_g0.out Y_g0.out).mono ?_
        rintro e W37 ⟨rfl, hb37⟩
        have hB38 := hB36.trans (hb37.mono hB36.size)
        have bx1n : Hid (Blk W37 (w.heap.size) 24 #[.int .i64 x1.d, .int .i64 x1.i]) := bx1.out.same (hb37.block _ bx1.out.lt)
        clear bx1
        have bx1 := bx1n
        clear bx1n
        have rb_w0n : Hid (Blk W37 (rg_w0) 41 #[.int .i64 r0.c, .int .i64 r0.n, .slice A_w0 r0.ks.length cap_w0]) := rb_w0.out.same (hb37.block _ rb_w0.out.lt)
        clear rb_w0
        have rb_w0 := rb_w0n
        clear rb_w0n
        have rb_g0n : Hid (Blk W37 (W13.heap.size) 41 #[.int .i64 r0.c, .int .i64 r0.n, .slice A_g0 r0.ks.length cap_g0]) := rb_g0.out.same (hb37.block _ rb_g0.out.lt)
        clear rb_g0
        have rb_g0 := rb_g0n
        clear rb_g0n
        have rb_h0n : Hid (Blk W37 (rg_h0) 41 #[.int .i64 r0.c, .int .i64 r0.n, .slice A_h0 r0.ks.length cap_h0]) := rb_h0.out.same (hb37.block _ rb_h0.out.lt)
        clear rb_h0
        have rb_h0 := rb_h0n
        clear rb_h0n
        have KP := Lib.hid (show Kept F_w0 W35 W37 from (Kept.of_below (w := W35) hb37 Y_w0.out))
        have X_w0n := Lib.hid (VR.mono _ _ _ KP.out X_w0.out)
        have Y_w0n := Lib.hid (Y_w0.out.mono hb37.size)
        have Z_w0n := Lib.hid (Z_w0.out.kept KP.out)
        clear X_w0 Y_w0 KP Z_w0
        have X_w0 := X_w0n
        have Y_w0 := Y_w0n
        have Z_w0 := Z_w0n
        clear X_w0n Y_w0n Z_w0n
        have KP := Lib.hid (show Kept F_g0 W35 W37 from (Kept.of_below (w := W35) hb37 Y_g0.out))
        have X_g0n := Lib.hid (VR.mono _ _ _ KP.out X_g0.out)
        have Y_g0n := Lib.hid (Y_g0.out.mono hb37.size)
        have Z_g0n := Lib.hid (Z_g0.out.kept KP.out)
        clear X_g0 Y_g0 KP Z_g0
        have X_g0 := X_g0n
        have Y_g0 := Y_g0n
        have Z_g0 := Z_g0n
        clear X_g0n Y_g0n Z_g0n
        go_wp2
        go_ret
        exact ⟨rfl, hB38⟩
  · rw [show szLeft (Dt.sizes x0) (1048576) = -1 from if_neg hz0]
    go_wp2
    go_ret
    exact ⟨rfl, hB4⟩
end Go.Proofs.Ytbffkgfhcmigaaa.fnExactLeastValue

namespace Go.Proofs.Ytbffkgfhcmigaaa.fnExactLeastValue
open Go.ChangeShapes Go.WideShapes Go.ChangeAt Go.RowKit
open Go.ChangeMaps (open_string shut_string)
set_option linter.unusedVariables false

theorem own : ownKnob Try.prog.godebug = none := by kernel_rfl
theorem laidOut : laidOutB Try.prog = true := by kernel_rfl

set_option maxRecDepth 100000 in
theorem lifted (os : Os) (started : os.Started) (H : Type) (enc : TypeId × Value → H) :
    ReturnsInHanded {} Try.checked os 4 .any (Rows.fnExactLeastValueSpec.pre6 enc Try.prog Try.f4 Rows.fnExactLeastValueRow.domain false) (Rows.fnExactLeastValueSpec.post enc Try.prog Try.f4 false true false false) := by
  refine returnsInHanded_of_change (C := Try.checked) own started (by kernel_rfl) Try.func4
    (ChangeSpec.witness6 (enc := enc) (C := Try.checked) false ⟨#[], #[.slice none 0 0, .agg #[.int .i64 0, .int .i64 0]], []⟩ 8 (by kernel_rfl) (by kernel_rfl) (by kernel_rfl) (by kernel_rfl)) ?_
  intro W base args ds gs before hval0 hW hcnd _
  have hval : ∀ (j : Nat) t v, Try.f4.params[j]? = some t → args[j]? = some v → Value.okWide Try.prog W .any base t v := hval0
  have hW' := hW
  obtain ⟨p, q, hA0, hV, rfl, hfz, hnd⟩ := hW
  have hA : DataW.TrodAll enc Try.prog W 0 (fun _ => true) true Try.f4.params.toList args.toList ds p := hA0
  rw [Try.params4] at hA hval
  obtain ⟨v0, vs0, d0, ds0, p0, q0, hargs, rfl, rfl, h0, r0⟩ := trodAll_cons hA
  obtain ⟨v1, vs1, d1, ds1, p1, q1, rfl, rfl, rfl, h1, r1⟩ := trodAll_cons r0
  obtain ⟨rfl, rfl, rfl⟩ := trodAll_nil r1
  obtain rfl : args = #[v0, v1] := by cases args; simp_all
  obtain ⟨rfl, rfl⟩ := trodVars_none hV
  have k0 := h0
  have lt0 : ∀ x ∈ p0, x.block < W.heap.size := by obtain ⟨m, hm⟩ := k0; exact DataW.trod_lt m _ _ _ hm
  have k1 := h1
  have lt1 : ∀ x ∈ p1, x.block < W.heap.size := by obtain ⟨m, hm⟩ := k1; exact DataW.trod_lt m _ _ _ hm
  obtain ⟨x0, F0, hR0, hU0⟩ := open_Dts (hval 0 22 v0 rfl rfl) h0
  obtain ⟨x1, cs1, F1, rfl, hR1, hU1⟩ := open_Ty (hval 1 24 v1 rfl rfl) h1
  clear hA0 hval0
  refine (walk x0 v0 F0 hR0 hU0 x1 cs1 F1 hR1 hU1 W rfl).mono fun e W' ⟨he, bel⟩ => ?_
  subst he
  exact ⟨_, rfl, _, _, _, [], _, [], hW', trodAll_mk1 (shut_bool Try.underlying4 _), (trodAll_cons_mk (Below.trod laidOut (by kernel_rfl) (of_decide_eq_true (by kernel_rfl)) k0 bel lt0) (trodAll_cons_mk (Below.trod laidOut (by kernel_rfl) (of_decide_eq_true (by kernel_rfl)) k1 bel lt1) trodAll_mk0)), rfl, bel.frame _, fun h => by cases h⟩

set_option maxHeartbeats 4000000 in
theorem closed : joinedFacts Try.pinned.checked.prog 4 Try.f4 Rows.fnExactLeastValueSpec Rows.fnExactLeastValueRow = true := by
  unfold joinedFacts
  have key : ∀ a b : Bool, a = true → b = true → (a && b) = true := fun a b h1 h2 => by rw [h1, h2]; rfl
  repeat' (with_reducible refine key _ _ ?_ ?_)
  all_goals as_aux_lemma => kernel_rfl

theorem over : Rows.fnExactLeastValueRow.holds Try.pinned (OpenSpec.ofChange Rows.fnExactLeastValueSpec) :=
  OpenClaim.holds_of_wide 4 Try.f4 rfl rfl rfl rfl rfl rfl rfl ⟨rfl, rfl, rfl, rfl, rfl⟩ rfl rfl rfl rfl rfl (by kernel_rfl) Try.func4 closed
    (of_decide_eq_true (by kernel_rfl)) (by unfold Func.isWrapper; first | (rw [if_pos (by decide +kernel)]; kernel_rfl) | (rw [if_neg (by decide +kernel)]; exact ⟨rfl, rfl⟩))
    (fun os started H enc _ => lifted os started H enc)

theorem proved : Rows.FnExactLeastValueSaid := over
end Go.Proofs.Ytbffkgfhcmigaaa.fnExactLeastValue
