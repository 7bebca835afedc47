/-
  Lemmas and contracts of functions: DrawValuesUpTo of the reference: a world, a type and a depth. Conditions: none. Lists of lists of values in memory; combined, cut off. Conditions: none. All values of a type up to a depth, cut off: plain laws. Conditions: none. l2Lists of the reference. Conditions: at most three lists, each of at most 401 values. l2All of the reference: all values of a type up to a depth, cut off. Conditions: the world is valid. A value of its own: the walk of l2Copy. Conditions: no more than a million parts.
-/
import Derived.Test.YtilndhmegaccmaaKAD
import Derived.Test.YtilndhmegaccmaaKAE
import Derived.Test.YtilndhmegaccmaaKAF
import Derived.Test.YtilndhmegaccmaaKAG
import Derived.Test.YtilndhmegaccmaaKAA
import Derived.Deep.RegionWith

set_option linter.unusedVariables false
set_option linter.unusedSimpArgs false

namespace Go.Proofs.Ytilndhmegaccmaa
open Go.RowKit

set_option maxRecDepth 100000 in
set_option maxHeartbeats 1600000 in
theorem spec_DrawValuesUpTo (bs : List Int) (w : World) (v : Value) (F : List Nat) (hx : Arr w (ByR w) bs v F) (hf : Under w.heap.size F) :
    Calls Try.prog 27 #[v] w (DrewWTN w) := by
  have hb1 : Below w.heap.size w (w.alloc (.cells #[.int .i64 0, .int .i64 0] 32)) := (Below.refl _ _).alloc (Nat.le_refl _) _
  have HX1 : Hid (Arr (w.alloc (.cells #[.int .i64 0, .int .i64 0] 32)) (ByR (w.alloc (.cells #[.int .i64 0, .int .i64 0] 32))) bs v F) := ArrBy.mono hx (.of_below hb1 hf)
  have HU1 : Hid (Under (w.alloc (.cells #[.int .i64 0, .int .i64 0] 32)).heap.size F) := hf.mono hb1.size
  have KH1 : Hid (Blk (w.alloc (.cells #[.int .i64 0, .int .i64 0] 32)) w.heap.size 32 #[.int .i64 0, .int .i64 0]) := Blk.new _ _ _
  have hs1 : (w.alloc (.cells #[.int .i64 0, .int .i64 0] 32)).heap.size = w.heap.size + 1 := World.size_alloc _ _
  have HX0 := Lib.hid hx
  have HU0 := Lib.hid hf
  clear hx hf
  go_enter Try.func27, Try.ntmps27
  go_wp2_with fail
  generalize (w.alloc (.cells #[.int .i64 0, .int .i64 0] 32)) = w1 at *
  refine (spec_l1Two bs w1 v F HX1.out HU1.out).mono ?_
  rintro e w2 ⟨xs, v2, F2, t, rfl, hb2, ha2, hu2⟩
  have hB2 : Below w.heap.size w w2 := hb1.trans (hb2.mono hb1.size)
  have KH2 := KH1.out.same (hb2.block _ KH1.out.lt)
  have HNS : Hid (∀ c ∈ F2, c ≠ w.heap.size) := fun c hc e => by have := (hu2 c hc).1; omega
  have HFR : Hid (∀ c ∈ F2, w.heap.size ≤ c) := fun c hc => by have := (hu2 c hc).1; omega
  have hb5 : Below w2.heap.size w2 (w2.alloc (.cells #[.int .i64 t.d, .int .i64 t.i] 32)) := ((Below.refl _ _).alloc (Nat.le_refl _) _)
  have HA5 : Hid (Arr (w2.alloc (.cells #[.int .i64 t.d, .int .i64 t.i] 32)).drew (DtR (w2.alloc (.cells #[.int .i64 t.d, .int .i64 t.i] 32)).drew) xs v2 F2) := ArrDt.drew (ArrDt.below ha2 hb5 hu2.under)
  have HU5 : Hid (Under (w2.alloc (.cells #[.int .i64 t.d, .int .i64 t.i] 32)).drew.heap.size F2) := hu2.under.mono hb5.size
  have hB5 : Below w.heap.size w (w2.alloc (.cells #[.int .i64 t.d, .int .i64 t.i] 32)).drew := (hB2.trans (hb5.mono hB2.size)).drew
  have KH5 : Hid (Blk (w2.alloc (.cells #[.int .i64 t.d, .int .i64 t.i] 32)).drew w.heap.size 32 #[.int .i64 0, .int .i64 0]) := KH2.same (hb5.block _ KH2.lt)
  have KK5 : Hid (Blk (w2.alloc (.cells #[.int .i64 t.d, .int .i64 t.i] 32)).drew w2.heap.size 32 #[.int .i64 t.d, .int .i64 t.i]) := Blk.new _ _ _
  have hk5 : w2.heap.size < (w2.alloc (.cells #[.int .i64 t.d, .int .i64 t.i] 32)).drew.heap.size := KK5.out.lt
  have HHK : Hid (w.heap.size ≠ w2.heap.size) := by have := KH2.lt; unfold Hid; omega
  have HXD : Hid (Arr (w2.alloc (.cells #[.int .i64 t.d, .int .i64 t.i] 32)).drew (ByR (w2.alloc (.cells #[.int .i64 t.d, .int .i64 t.i] 32)).drew) bs v F) := ArrBy.mono HX0.out (.of_below hB5 HU0.out)
  have HUD : Hid (Under (w2.alloc (.cells #[.int .i64 t.d, .int .i64 t.i] 32)).drew.heap.size F) := HU0.out.mono hB5.size
  clear ha2 hu2 hB2 KH2 hb2 KH1 HX1 HU1 HX0 HU0
  go_wp2_with fail
  refine wp_region_B (S := fun w' => w'.cell? ⟨w2.heap.size, 0, none⟩ = some (.int .i64 t.d) ∧ w'.cell? ⟨w2.heap.size, 1, none⟩ = some (.int .i64 t.i)) (T := fun _ => True) (d := 7) (by kernel_rfl) ?_
  generalize (w2.alloc (.cells #[.int .i64 t.d, .int .i64 t.i] 32)).drew = wd at *
  generalize w2.heap.size = k at *
  clear hb5
  have hS1 : wd.cell? ⟨k, 0, none⟩ = some (.int .i64 t.d) ∧ wd.cell? ⟨k, 1, none⟩ = some (.int .i64 t.i) := ⟨(KK5.out.cell 0).trans (by simp), (KK5.out.cell 1).trans (by simp)⟩
  have hT1 : True := trivial
  refine wpAnyB_take (i := 1) (v := ?_) rfl (by decide) (by kernel_rfl) (by kernel_rfl) (by kernel_rfl) (fun _ _ _ h => h) (Or.inl ⟨by rfl, ?hy1⟩) hS1 (fun _ => hT1) ?_
  case hy1 => (intro W hSw; obtain ⟨hSa, hSb⟩ := hSw; (try dsimp only at hSa hSb); go_simp; try with_reducible rfl)
  (try simp only [Act.put, List.getElem_toArray, List.getElem_cons_zero, List.getElem_cons_succ, List.setIfInBounds_toArray, List.set_cons_zero, List.set_cons_succ])
  refine wpAnyB_take (i := 0) (v := ?_) rfl (by decide) (by kernel_rfl) (by kernel_rfl) (by kernel_rfl) (fun _ _ _ h => h) (Or.inl ⟨by rfl, ?hy0⟩) hS1 (fun _ => hT1) ?_
  case hy0 => (intro W hSw; (try dsimp only at hSw); go_simp; try with_reducible rfl)
  (try simp only [Act.put, List.getElem_toArray, List.getElem_cons_zero, List.getElem_cons_succ, List.setIfInBounds_toArray, List.set_cons_zero, List.set_cons_succ])
  refine wpAnyB_take (i := 2) (v := ?_) rfl (by decide) (by kernel_rfl) (by kernel_rfl) (by kernel_rfl) (fun _ _ _ h => h) (Or.inl ⟨by rfl, ?hy2⟩) hS1 (fun _ => hT1) ?_
  case hy2 => (intro W hSw; (try dsimp only at hSw); go_simp; try with_reducible rfl)
  (try simp only [Act.put, List.getElem_toArray, List.getElem_cons_zero, List.getElem_cons_succ, List.setIfInBounds_toArray, List.set_cons_zero, List.set_cons_succ])
  refine wpAnyB_ready (rs := [3, 4]) (by kernel_rfl) (by simp) ?_
  refine AllReadyB.cons rfl (fun K hK => ?_) (AllReadyB.cons rfl (fun K hK => ?_) AllReadyB.nil)
  · go_simp
    go_at_call 49
    refine (spec_l17Open bs wd v F HXD.out HUD.out).mono ?_
    rintro e w4 ⟨g, rfl, hge, hb4, hR4⟩
    dsimp only
    refine hK.out _ _ (⟨((hb4).cell hk5).trans hS1.1, ((hb4).cell hk5).trans hS1.2⟩) (fun _ => trivial) ?_
    clear hK K
    (try simp only [Act.put, List.getElem_toArray, List.getElem_cons_zero, List.getElem_cons_succ, List.setIfInBounds_toArray, List.set_cons_zero, List.set_cons_succ])
    refine wpAnyB_ready (rs := [4]) (by kernel_rfl) (by simp) ?_
    refine AllReadyB.cons rfl (fun K hK => ?_) AllReadyB.nil
    go_simp
    refine hK.out _ _ (⟨((hb4.trans (((Below.refl _ _).alloc (Nat.le_refl _) _).mono hb4.size)).cell hk5).trans hS1.1, ((hb4.trans (((Below.refl _ _).alloc (Nat.le_refl _) _).mono hb4.size)).cell hk5).trans hS1.2⟩) (fun _ => trivial) ?_
    clear hK K
    (try simp only [Act.put, List.getElem_toArray, List.getElem_cons_zero, List.getElem_cons_succ, List.setIfInBounds_toArray, List.set_cons_zero, List.set_cons_succ])
    refine wpAnyB_ready (rs := [5]) (by kernel_rfl) (by simp) ?_
    refine AllReadyB.cons rfl (fun K hK => ?_) AllReadyB.nil
    go_simp
    go_at_call 73
    refine (num_at (LitN.new w4 [2, 1, 3, 0, 4, 5, -1] (by decide)) (by decide) (by decide) 0 g (hR4.below ((Below.refl _ _).alloc (Nat.le_refl _) _)) (by omega) (by have := hR4.lt; omega)).mono ?_
    rintro e w6 ⟨n, rfl, hR6, hC6⟩
    have hB6 : Below wd.heap.size wd w6 := (hb4.trans (((Below.refl _ _).alloc (Nat.le_refl _) _).mono hb4.size)).trans (hC6.low hge (by have := hb4.size; simp; omega))
    have hS6 : w6.cell? ⟨k, 0, none⟩ = some (.int .i64 t.d) ∧ w6.cell? ⟨k, 1, none⟩ = some (.int .i64 t.i) := ⟨((hB6).cell hk5).trans hS1.1, ((hB6).cell hk5).trans hS1.2⟩
    have KH6 := KH5.out.same (hB6.block _ KH5.out.lt)
    have y0 : w6.cell? ⟨w.heap.size, 0, none⟩ = some (.int .i64 0) := (KH6.cell 0).trans (by simp)
    have y1 : w6.cell? ⟨w.heap.size, 1, none⟩ = some (.int .i64 0) := (KH6.cell 1).trans (by simp)
    have f0 := KH6.frozen 0
    have f1 := KH6.frozen 1
    have HS6 := Lib.hid hS6
    have hB7 : Below w.heap.size w ((w6.setCell ⟨w.heap.size, 0, none⟩ (.int .i64 t.d)).setCell ⟨w.heap.size, 1, none⟩ (.int .i64 t.i)) := ((hB5.trans (hB6.mono hB5.size)).setCell (Nat.le_refl _) _).setCell (Nat.le_refl _) _
    have hA6 : Arr w6 (DtR w6) xs v2 F2 := ArrDt.below HA5.out hB6 HU5.out
    have hA7 : Arr ((w6.setCell ⟨w.heap.size, 0, none⟩ (.int .i64 t.d)).setCell ⟨w.heap.size, 1, none⟩ (.int .i64 t.i)) (DtR _) xs v2 F2 := ArrDt.mono hA6 (fun c hc => (Below.heap_setCell _ _ _ _ (HNS.out c hc)).trans (Below.heap_setCell _ _ _ _ (HNS.out c hc)))
    have hU7 : Fresh w ((w6.setCell ⟨w.heap.size, 0, none⟩ (.int .i64 t.d)).setCell ⟨w.heap.size, 1, none⟩ (.int .i64 t.i)) F2 := by
      have : ((w6.setCell ⟨w.heap.size, 0, none⟩ (.int .i64 t.d)).setCell ⟨w.heap.size, 1, none⟩ (.int .i64 t.i)).heap.size = w6.heap.size := by simp [World.setCell]
      have hz6 := hB6.size
      exact fun b hb => ⟨HFR.out b hb, by rw [this]; have := HU5.out b hb; omega⟩
    have HFin : Hid (DrewWTN w (.returned (.tuple #[v2, .agg #[.int .i64 t.d, .int .i64 t.i], .int .i64 n])) ((w6.setCell ⟨w.heap.size, 0, none⟩ (.int .i64 t.d)).setCell ⟨w.heap.size, 1, none⟩ (.int .i64 t.i))) := ⟨xs, v2, F2, t, n, rfl, hB7, hA7, hU7⟩
    have HK7 : Hid (Blk ((w6.setCell ⟨w.heap.size, 0, none⟩ (.int .i64 t.d)).setCell ⟨w.heap.size, 1, none⟩ (.int .i64 t.i)) w.heap.size 32 #[.int .i64 t.d, .int .i64 t.i]) := (KH6.set_ 0 _).set_ 1 _
    clear hB7 hA6 hA7 hU7 KH6 hB6
    dsimp only
    refine hK.out _ _ hS6 (fun _ => trivial) ?_
    clear hK K
    (try simp only [Act.put, List.getElem_toArray, List.getElem_cons_zero, List.getElem_cons_succ, List.setIfInBounds_toArray, List.set_cons_zero, List.set_cons_succ])
    refine wpAnyB_take (i := 6) (v := ?_) rfl (by decide) (by kernel_rfl) (by kernel_rfl) (by kernel_rfl) (fun _ _ _ h => h) (Or.inl ⟨by rfl, ?hy6⟩) hS6 (fun _ => hT1) ?_
    case hy6 => (intro W hSw; (try dsimp only at hSw); go_simp; try with_reducible rfl)
    (try simp only [Act.put, List.getElem_toArray, List.getElem_cons_zero, List.getElem_cons_succ, List.setIfInBounds_toArray, List.set_cons_zero, List.set_cons_succ])
    refine wpAnyB_ready (rs := [7]) (by kernel_rfl) (by simp) ?_
    refine AllReadyB.cons rfl (fun K hK => ?_) AllReadyB.nil
    go_simp
    refine hK.out _ _ ⟨(World.cell?_setCell_far _ _ _ _ (by exact HHK.out)).trans ((World.cell?_setCell_far _ _ _ _ (by exact HHK.out)).trans HS6.out.1), (World.cell?_setCell_far _ _ _ _ (by exact HHK.out)).trans ((World.cell?_setCell_far _ _ _ _ (by exact HHK.out)).trans HS6.out.2)⟩ (fun _ => trivial) ?_
    clear hK K
    (try simp only [Act.put, List.getElem_toArray, List.getElem_cons_zero, List.getElem_cons_succ, List.setIfInBounds_toArray, List.set_cons_zero, List.set_cons_succ])
    have hS8 : ((w6.setCell ⟨w.heap.size, 0, none⟩ (.int .i64 t.d)).setCell ⟨w.heap.size, 1, none⟩ (.int .i64 t.i)).cell? ⟨k, 0, none⟩ = some (.int .i64 t.d) ∧ ((w6.setCell ⟨w.heap.size, 0, none⟩ (.int .i64 t.d)).setCell ⟨w.heap.size, 1, none⟩ (.int .i64 t.i)).cell? ⟨k, 1, none⟩ = some (.int .i64 t.i) := ⟨(World.cell?_setCell_far _ _ _ _ (by exact HHK.out)).trans ((World.cell?_setCell_far _ _ _ _ (by exact HHK.out)).trans HS6.out.1), (World.cell?_setCell_far _ _ _ _ (by exact HHK.out)).trans ((World.cell?_setCell_far _ _ _ _ (by exact HHK.out)).trans HS6.out.2)⟩
    refine wpAnyB_ready (rs := [8]) (by kernel_rfl) (by simp) ?_
    refine AllReadyB.cons rfl (fun K hK => ?_) AllReadyB.nil
    go_simp
    refine hK.out _ _ hS8 (fun _ => trivial) ?_
    clear hK K
    (try simp only [Act.put, List.getElem_toArray, List.getElem_cons_zero, List.getElem_cons_succ, List.setIfInBounds_toArray, List.set_cons_zero, List.set_cons_succ])
    refine wpAnyB_end (by kernel_rfl) ?_
    clear hS1 hT1 hS6 hS8 y0 y1 f0 f1
    go_wp2
    refine bodyPost_ret (results_tmp_cell_tmp rfl _ _ w.heap.size 32 #[.int .i64 t.d, .int .i64 t.i] (0, 0) _ rfl HK7.out Try.underlying32 rfl rfl) rfl ?_
    exact HFin.out
  · go_simp
    refine hK.out _ _ (⟨((((Below.refl _ _).alloc (Nat.le_refl _) _)).cell hk5).trans hS1.1, ((((Below.refl _ _).alloc (Nat.le_refl _) _)).cell hk5).trans hS1.2⟩) (fun _ => trivial) ?_
    clear hK K
    (try simp only [Act.put, List.getElem_toArray, List.getElem_cons_zero, List.getElem_cons_succ, List.setIfInBounds_toArray, List.set_cons_zero, List.set_cons_succ])
    refine wpAnyB_ready (rs := [3]) (by kernel_rfl) (by simp) ?_
    refine AllReadyB.cons rfl (fun K hK => ?_) AllReadyB.nil
    go_simp
    go_at_call 49
    refine (spec_l17Open bs (wd.alloc _) v F (ArrBy.mono HXD.out (.of_below ((Below.refl _ _).alloc (Nat.le_refl _) _) HUD.out)) (HUD.out.mono (by simp))).mono ?_
    rintro e w4 ⟨g, rfl, hge, hb4, hR4⟩
    have hge2 : wd.heap.size < g := by rw [World.size_alloc] at hge; omega
    have hz4 := hb4.size
    rw [World.size_alloc] at hz4
    have hL4 : LitN w4 wd.heap.size [2, 1, 3, 0, 4, 5, -1] := (LitN.new wd [2, 1, 3, 0, 4, 5, -1] (by decide)).chg (F := []) (.of_below hb4) (by simp)
    dsimp only
    refine hK.out _ _ (⟨((((Below.refl _ _).alloc (Nat.le_refl _) _).trans (hb4.mono (by simp))).cell hk5).trans hS1.1, ((((Below.refl _ _).alloc (Nat.le_refl _) _).trans (hb4.mono (by simp))).cell hk5).trans hS1.2⟩) (fun _ => trivial) ?_
    clear hK K
    (try simp only [Act.put, List.getElem_toArray, List.getElem_cons_zero, List.getElem_cons_succ, List.setIfInBounds_toArray, List.set_cons_zero, List.set_cons_succ])
    refine wpAnyB_ready (rs := [5]) (by kernel_rfl) (by simp) ?_
    refine AllReadyB.cons rfl (fun K hK => ?_) AllReadyB.nil
    go_simp
    go_at_call 73
    refine (num_at hL4 (by decide) (by decide) 0 g hR4 (by omega) (by omega)).mono ?_
    rintro e w6 ⟨n, rfl, hR6, hC6⟩
    have hB6 : Below wd.heap.size wd w6 := (((Below.refl _ _).alloc (Nat.le_refl _) _).trans (hb4.mono (by simp))).trans (hC6.low (by omega) (by omega))
    have hS6 : w6.cell? ⟨k, 0, none⟩ = some (.int .i64 t.d) ∧ w6.cell? ⟨k, 1, none⟩ = some (.int .i64 t.i) := ⟨((hB6).cell hk5).trans hS1.1, ((hB6).cell hk5).trans hS1.2⟩
    have KH6 := KH5.out.same (hB6.block _ KH5.out.lt)
    have y0 : w6.cell? ⟨w.heap.size, 0, none⟩ = some (.int .i64 0) := (KH6.cell 0).trans (by simp)
    have y1 : w6.cell? ⟨w.heap.size, 1, none⟩ = some (.int .i64 0) := (KH6.cell 1).trans (by simp)
    have f0 := KH6.frozen 0
    have f1 := KH6.frozen 1
    have HS6 := Lib.hid hS6
    have hB7 : Below w.heap.size w ((w6.setCell ⟨w.heap.size, 0, none⟩ (.int .i64 t.d)).setCell ⟨w.heap.size, 1, none⟩ (.int .i64 t.i)) := ((hB5.trans (hB6.mono hB5.size)).setCell (Nat.le_refl _) _).setCell (Nat.le_refl _) _
    have hA6 : Arr w6 (DtR w6) xs v2 F2 := ArrDt.below HA5.out hB6 HU5.out
    have hA7 : Arr ((w6.setCell ⟨w.heap.size, 0, none⟩ (.int .i64 t.d)).setCell ⟨w.heap.size, 1, none⟩ (.int .i64 t.i)) (DtR _) xs v2 F2 := ArrDt.mono hA6 (fun c hc => (Below.heap_setCell _ _ _ _ (HNS.out c hc)).trans (Below.heap_setCell _ _ _ _ (HNS.out c hc)))
    have hU7 : Fresh w ((w6.setCell ⟨w.heap.size, 0, none⟩ (.int .i64 t.d)).setCell ⟨w.heap.size, 1, none⟩ (.int .i64 t.i)) F2 := by
      have : ((w6.setCell ⟨w.heap.size, 0, none⟩ (.int .i64 t.d)).setCell ⟨w.heap.size, 1, none⟩ (.int .i64 t.i)).heap.size = w6.heap.size := by simp [World.setCell]
      have hz6 := hB6.size
      exact fun b hb => ⟨HFR.out b hb, by rw [this]; have := HU5.out b hb; omega⟩
    have HFin : Hid (DrewWTN w (.returned (.tuple #[v2, .agg #[.int .i64 t.d, .int .i64 t.i], .int .i64 n])) ((w6.setCell ⟨w.heap.size, 0, none⟩ (.int .i64 t.d)).setCell ⟨w.heap.size, 1, none⟩ (.int .i64 t.i))) := ⟨xs, v2, F2, t, n, rfl, hB7, hA7, hU7⟩
    have HK7 : Hid (Blk ((w6.setCell ⟨w.heap.size, 0, none⟩ (.int .i64 t.d)).setCell ⟨w.heap.size, 1, none⟩ (.int .i64 t.i)) w.heap.size 32 #[.int .i64 t.d, .int .i64 t.i]) := (KH6.set_ 0 _).set_ 1 _
    clear hB7 hA6 hA7 hU7 KH6 hB6
    dsimp only
    refine hK.out _ _ hS6 (fun _ => trivial) ?_
    clear hK K
    (try simp only [Act.put, List.getElem_toArray, List.getElem_cons_zero, List.getElem_cons_succ, List.setIfInBounds_toArray, List.set_cons_zero, List.set_cons_succ])
    refine wpAnyB_take (i := 6) (v := ?_) rfl (by decide) (by kernel_rfl) (by kernel_rfl) (by kernel_rfl) (fun _ _ _ h => h) (Or.inl ⟨by rfl, ?hy6⟩) hS6 (fun _ => hT1) ?_
    case hy6 => (intro W hSw; (try dsimp only at hSw); go_simp; try with_reducible rfl)
    (try simp only [Act.put, List.getElem_toArray, List.getElem_cons_zero, List.getElem_cons_succ, List.setIfInBounds_toArray, List.set_cons_zero, List.set_cons_succ])
    refine wpAnyB_ready (rs := [7]) (by kernel_rfl) (by simp) ?_
    refine AllReadyB.cons rfl (fun K hK => ?_) AllReadyB.nil
    go_simp
    refine hK.out _ _ ⟨(World.cell?_setCell_far _ _ _ _ (by exact HHK.out)).trans ((World.cell?_setCell_far _ _ _ _ (by exact HHK.out)).trans HS6.out.1), (World.cell?_setCell_far _ _ _ _ (by exact HHK.out)).trans ((World.cell?_setCell_far _ _ _ _ (by exact HHK.out)).trans HS6.out.2)⟩ (fun _ => trivial) ?_
    clear hK K
    (try simp only [Act.put, List.getElem_toArray, List.getElem_cons_zero, List.getElem_cons_succ, List.setIfInBounds_toArray, List.set_cons_zero, List.set_cons_succ])
    have hS8 : ((w6.setCell ⟨w.heap.size, 0, none⟩ (.int .i64 t.d)).setCell ⟨w.heap.size, 1, none⟩ (.int .i64 t.i)).cell? ⟨k, 0, none⟩ = some (.int .i64 t.d) ∧ ((w6.setCell ⟨w.heap.size, 0, none⟩ (.int .i64 t.d)).setCell ⟨w.heap.size, 1, none⟩ (.int .i64 t.i)).cell? ⟨k, 1, none⟩ = some (.int .i64 t.i) := ⟨(World.cell?_setCell_far _ _ _ _ (by exact HHK.out)).trans ((World.cell?_setCell_far _ _ _ _ (by exact HHK.out)).trans HS6.out.1), (World.cell?_setCell_far _ _ _ _ (by exact HHK.out)).trans ((World.cell?_setCell_far _ _ _ _ (by exact HHK.out)).trans HS6.out.2)⟩
    refine wpAnyB_ready (rs := [8]) (by kernel_rfl) (by simp) ?_
    refine AllReadyB.cons rfl (fun K hK => ?_) AllReadyB.nil
    go_simp
    refine hK.out _ _ hS8 (fun _ => trivial) ?_
    clear hK K
    (try simp only [Act.put, List.getElem_toArray, List.getElem_cons_zero, List.getElem_cons_succ, List.setIfInBounds_toArray, List.set_cons_zero, List.set_cons_succ])
    refine wpAnyB_end (by kernel_rfl) ?_
    clear hS1 hT1 hS6 hS8 y0 y1 f0 f1
    go_wp2
    refine bodyPost_ret (results_tmp_cell_tmp rfl _ _ w.heap.size 32 #[.int .i64 t.d, .int .i64 t.i] (0, 0) _ rfl HK7.out Try.underlying32 rfl rfl) rfl ?_
    exact HFin.out
end Go.Proofs.Ytilndhmegaccmaa

namespace Go.Proofs.Ytilndhmegaccmaa
open Go.RowKit

theorem info_VSE : (Try.prog.info? 39).map (fun i => (i.zero, i.size, i.bytes)) = some (some (.slice none 0 0), 1, 24) := by kernel_rfl
/-- a list of values in one cell -/
def LsR (w : World) (vs : List V) (cs : List Value) (F : List Nat) : Prop := ∃ v, cs = [v] ∧ Arr w (VR w) vs v F
theorem LsR_len (w : World) (x : List V) (cs : List Value) (G : List Nat) (h : LsR w x cs G) : cs.length = 1 := by obtain ⟨v, rfl, -⟩ := h; rfl
theorem LsR_mono (w w' : World) (x : List V) (cs : List Value) (G : List Nat) (hk : Kept G w w') (h : LsR w x cs G) : LsR w' x cs G := by
  obtain ⟨v, rfl, h⟩ := h
  exact ⟨v, rfl, ArrV.mono h hk⟩
theorem ArrLs.below {w w' : World} {B : Nat} {vs : List (List V)} {x : Value} {F : List Nat} (h : Arr w (LsR w) vs x F) (hb : Below B w w') (hF : Under B F) : Arr w' (LsR w') vs x F := Arr.mono h (.of_below hb hF) (fun x _ cs G hk h => LsR_mono _ _ x cs G hk h)
theorem ArrLs.at {w0 w : World} {b off n cap : Nat} {F : List Nat} {xs : List (List V)} (h : Arr w0 (LsR w0) xs (.slice (some ⟨b, off, none⟩) n cap) F) (hF : Under w0.heap.size F) (hB : Below w0.heap.size w0 w) (i : Nat) (hi : i < xs.length) :
    ∃ A1 cap1 G, b < w.heap.size ∧ w.cell? ⟨b, off + i, none⟩ = some (.slice A1 xs[i].length cap1) ∧ Hid (Arr w0 (VR w0) xs[i] (.slice A1 xs[i].length cap1) G) ∧ Hid (Under w0.heap.size G) ∧ (∀ b ∈ G, b ∈ F) ∧ b ∈ F := by
  obtain ⟨b', off', cs, G, e, hb, hcs, hv, hG⟩ := h.get (LsR_len _) hi
  cases e
  have hbl := hF _ hb
  have hc := hcs.same (hB.block _ hbl)
  obtain ⟨v, rfl, ha⟩ := hv
  obtain ⟨A1, cap1, rfl, h1, h2⟩ := ha.form
  have h0 := hc 0 _ rfl
  rw [Nat.mul_one] at h0
  exact ⟨A1, cap1, G, Nat.lt_of_lt_of_le hbl hB.size, h0, ha, hF.sub hG, hG, hb⟩
theorem ArrLs.of {w0 : World} {b off n cap : Nat} {F : List Nat} {xs : List (List V)} (h : Arr w0 (LsR w0) xs (.slice (some ⟨b, off, none⟩) n cap) F) (hF : Under w0.heap.size F) (i : Nat) (hi : i < xs.length) :
    ∃ A1 cap1 G, b < w0.heap.size ∧ (∀ C, Below w0.heap.size w0 C → C.cell? ⟨b, off + i, none⟩ = some (.slice A1 xs[i].length cap1)) ∧ Arr w0 (VR w0) xs[i] (.slice A1 xs[i].length cap1) G ∧ Under w0.heap.size G ∧ ∀ b ∈ G, b ∈ F := by
  obtain ⟨A1, cap1, G, hb, hc, ha, hu, hg, -⟩ := ArrLs.at h hF (Below.refl _ _) i hi
  exact ⟨A1, cap1, G, hb, fun C hC => (hC.cell (p := ⟨b, off + i, none⟩) hb).trans hc, ha.out, hu.out, hg⟩
/-- the first i lists combined, cut off -/
def pairTo (ls : List (List V)) (i : Nat) : List (List V) := cutV (pairAll (ls.take i))
theorem pairTo_zero (ls : List (List V)) : pairTo ls 0 = [[]] := rfl
theorem pairTo_len (ls : List (List V)) (i : Nat) : (pairTo ls i).length ≤ 401 := cutV_len _
theorem pairTo_all (ls : List (List V)) {i : Nat} (h : ls.length ≤ i) : pairTo ls i = cutV (pairAll ls) := by unfold pairTo; rw [List.take_of_length_le h]
theorem pair_cut_left (A : List (List V)) (l : List V) : cutV (pairL (cutV A) l) = cutV (pairL A l) := by
  rw [← pair_cut (cutV A) l, ← pair_cut A l]
  congr 2
  unfold cutV
  rw [List.take_take]
  rfl
theorem pairTo_succ (ls : List (List V)) (i : Nat) (h : i < ls.length) : pairTo ls (i + 1) = cutV (pairL (pairTo ls i) ls[i]) := by
  unfold pairTo
  rw [pair_cut_left, take_snoc' ls i h]
  unfold pairAll
  rw [List.foldl_append]
  rfl
/-- the lists so far: those of the first k, and of the next one with the first j -/
def preL (A : List (List V)) (l : List V) (k : Nat) : List (List V) := (A.take k).flatMap fun o => pairK o l
def nextL (A : List (List V)) (l : List V) (k : Nat) : List (List V) := cutV (preL A l k)
def nextR (pre : List (List V)) (o : List V) (l : List V) (j : Nat) : List (List V) := cutV (pre ++ pairK o (l.take j))
theorem nextL_zero (A : List (List V)) (l : List V) : nextL A l 0 = [] := rfl
theorem preL_succ (A : List (List V)) (l : List V) (k : Nat) (h : k < A.length) : preL A l (k + 1) = preL A l k ++ pairK A[k] l := by
  unfold preL
  rw [take_snoc' A k h, List.flatMap_append]
  simp
theorem nextR_zero (pre : List (List V)) (o l : List V) : nextR pre o l 0 = cutV pre := by unfold nextR pairK; simp
theorem nextR_len (pre : List (List V)) (o l : List V) (j : Nat) : (nextR pre o l j).length ≤ 401 := cutV_len _
theorem nextL_len (A : List (List V)) (l : List V) (k : Nat) : (nextL A l k).length ≤ 401 := cutV_len _
theorem pairK_succ (o l : List V) (j : Nat) (h : j < l.length) : pairK o (l.take (j + 1)) = pairK o (l.take j) ++ [o ++ [l[j]]] := by
  unfold pairK
  rw [take_snoc' l j h, List.map_append]
  rfl
theorem nextR_succ {pre : List (List V)} {o l : List V} {j : Nat} (h : j < l.length) (h4 : (nextR pre o l j).length ≤ 400) : nextR pre o l (j + 1) = nextR pre o l j ++ [o ++ [l[j]]] := by
  unfold nextR at h4 ⊢
  rw [cutV_snoc h4, pairK_succ _ _ _ h, List.append_assoc]
/-- where the inner loop ends -/
theorem nextR_end {A : List (List V)} {l : List V} {k j : Nat} (hk : k < A.length) (h : ¬ (j < l.length ∧ (nextR (preL A l k) A[k] l j).length ≤ 400)) : nextR (preL A l k) A[k] l j = nextL A l (k + 1) := by
  unfold nextL
  rw [preL_succ A l k hk]
  by_cases hj : j < l.length
  · have h4 : ¬ (nextR (preL A l k) A[k] l j).length ≤ 400 := fun h4 => h ⟨hj, h4⟩
    have h5 : pairK A[k] l = pairK A[k] (l.take j) ++ pairK A[k] (l.drop j) := by unfold pairK; rw [← List.map_append, List.take_append_drop]
    unfold nextR at h4 ⊢
    rw [h5, ← List.append_assoc]
    exact cutV_full h4 _
  · unfold nextR
    rw [List.take_of_length_le (by omega)]
theorem nextL_end {A : List (List V)} {l : List V} {k : Nat} (h : ¬ (k < A.length ∧ (nextL A l k).length ≤ 400)) : nextL A l k = cutV (pairL A l) := by
  by_cases hk : k < A.length
  · have h4 : ¬ (nextL A l k).length ≤ 400 := fun h4 => h ⟨hk, h4⟩
    have h5 : pairL A l = preL A l k ++ (A.drop k).flatMap fun o => pairK o l := by unfold pairL preL; rw [← List.flatMap_append, List.take_append_drop]
    unfold nextL at h4 ⊢
    rw [h5]
    exact cutV_full h4 _
  · unfold nextL preL pairL
    rw [List.take_of_length_le (by omega)]
theorem pairAll_each (ls : List (List V)) : ∀ o ∈ pairAll ls, o.length = ls.length := by
  have h : ∀ (ls : List (List V)) (A : List (List V)) (n : Nat), (∀ o ∈ A, o.length = n) → ∀ o ∈ ls.foldl pairL A, o.length = n + ls.length := by
    intro ls
    induction ls with
    | nil => intro A n h o ho; exact h o ho
    | cons l ls ih =>
      intro A n h o ho
      rw [List.foldl_cons] at ho
      have := ih (pairL A l) (n + 1) (fun o ho => by
        obtain ⟨o', h1, h2⟩ := List.mem_flatMap.1 ho
        obtain ⟨k, -, rfl⟩ := List.mem_map.1 h2
        rw [List.length_append, h o' h1]; rfl) o ho
      rw [this, List.length_cons]; omega
  intro o ho
  have := h ls [[]] 0 (by simp) o ho
  omega
theorem pairTo_each (ls : List (List V)) (i : Nat) (o : List V) (h : o ∈ pairTo ls i) : o.length ≤ i := by
  have h1 := pairAll_each (ls.take i) o (List.mem_of_mem_take h)
  rw [List.length_take] at h1
  omega
/-- a list of lists that a call gives; its elements may share what they lead to -/
def ListsP (vs : List (List V)) (F0 : List Nat) (w : World) (e : Ending) (w' : World) : Prop := ∃ v F, e = .returned v ∧ Below w.heap.size w w' ∧ Arr w' (LsR w') vs v F ∧ Under w'.heap.size F ∧ ∀ b ∈ F, b ∈ F0 ∨ w.heap.size ≤ b
theorem Own.under_any {α : Type} {w : World} {B k : Nat} {E : TypeId} {R : World → α → List Value → List Nat → Prop} {vs : List α} {v : Value} {F : List Nat} (h : Own w B E k R vs v F) : Under w.heap.size (if vs = [] then [] else rowOf v ++ F) := by
  by_cases hx : vs = []
  · rw [if_pos hx]; exact Under.nil _
  · rw [if_neg hx]
    intro b hb
    rcases List.mem_append.1 hb with hb | hb
    · exact (h.row b hb).2
    · exact h.under b hb
end Go.Proofs.Ytilndhmegaccmaa

namespace Go.Proofs.Ytilndhmegaccmaa
open Go.RowKit

/-- a list of values in a row of the call's own -/
def AllP (vs : List V) (w : World) (e : Ending) (w' : World) : Prop := ∃ v F, e = .returned v ∧ Below w.heap.size w w' ∧ Own w' w.heap.size 53 3 VR vs v F ∧ ∀ b ∈ F, w.heap.size ≤ b
/-- the lists of the first k arguments, each cut off -/
def allTo (xs : List Dt) (d : Nat) (ls : List Ty) (k : Nat) : List (List V) := (ls.take k).map fun a => cutV (valsL xs d a)
theorem allTo_succ (xs : List Dt) (d : Nat) (ls : List Ty) (k : Nat) (h : k < ls.length) : allTo xs d ls (k + 1) = allTo xs d ls k ++ [cutV (valsL xs d ls[k])] := by
  unfold allTo
  rw [take_snoc' ls k h, List.map_append]
  rfl
theorem allTo_len (xs : List Dt) (d : Nat) (ls : List Ty) (k : Nat) : (allTo xs d ls k).length ≤ k := by unfold allTo; rw [List.length_map, List.length_take]; omega
theorem allTo_each (xs : List Dt) (d : Nat) (ls : List Ty) (k : Nat) (l : List V) (h : l ∈ allTo xs d ls k) : l.length ≤ 401 := by
  obtain ⟨a, -, rfl⟩ := List.mem_map.1 h
  exact cutV_len _
theorem allTo_pairs (xs : List Dt) (d : Nat) (ls : List Ty) {k : Nat} (h : ls.length ≤ k) : cutV (pairAll (allTo xs d ls k)) = cutV (pairAll (ls.map (valsL xs d))) := by
  unfold allTo
  rw [List.take_of_length_le h, ← pairAll_cut (ls.map (valsL xs d)), List.map_map]
  rfl
/-- the values so far, behind them those of the first k lists -/
def fillR (pre : List V) (c : Int) (all : List (List V)) (k : Nat) : List V := cutV (pre ++ (all.take k).map (headV c))
theorem fillR_zero (pre : List V) (c : Int) (all : List (List V)) : fillR pre c all 0 = cutV pre := by unfold fillR; simp
theorem fillR_len (pre : List V) (c : Int) (all : List (List V)) (k : Nat) : (fillR pre c all k).length ≤ 401 := cutV_len _
theorem fillR_succ {pre : List V} {c : Int} {all : List (List V)} {k : Nat} (h : k < all.length) (h4 : (fillR pre c all k).length ≤ 400) : fillR pre c all (k + 1) = fillR pre c all k ++ [⟨c, 0, all[k]⟩] := by
  unfold fillR at h4 ⊢
  rw [cutV_snoc h4, take_snoc' all k h, List.map_append, List.append_assoc]
  rfl
theorem fillR_end {pre : List V} {c : Int} {all : List (List V)} {k : Nat} (h : ¬ (k < all.length ∧ (fillR pre c all k).length ≤ 400)) : fillR pre c all k = cutV (pre ++ all.map (headV c)) := by
  by_cases hk : k < all.length
  · have h4 : ¬ (fillR pre c all k).length ≤ 400 := fun h4 => h ⟨hk, h4⟩
    have h5 : all.map (headV c) = (all.take k).map (headV c) ++ (all.drop k).map (headV c) := by rw [← List.map_append, List.take_append_drop]
    unfold fillR at h4 ⊢
    rw [h5, ← List.append_assoc]
    exact cutV_full h4 _
  · unfold fillR
    rw [List.take_of_length_le (by omega)]
theorem block_cut (xs : List Dt) (d : Nat) (t : Ty) (c : Int) (pre : List V) : cutV (pre ++ (cutV (pairAll ((argsOf xs t c).map (valsL xs d)))).map (headV c)) = cutV (pre ++ blockL xs d t c) := by
  have h : (cutV (pairAll ((argsOf xs t c).map (valsL xs d)))).map (headV c) = (blockL xs d t c).take 401 := by
    unfold blockL cutV
    rw [growAll_pairs, List.map_take]
  rw [h]
  exact take_app_right 401 pre _
theorem valsTo_end {xs : List Dt} {d : Nat} {t : Ty} (h : ¬ t.d = -1) {i : Nat} (hi : ¬ (i < (ctorsL xs t).length ∧ (cutV (valsTo xs d t i)).length ≤ 400)) : cutV (valsTo xs d t i) = cutV (valsL xs (d + 1) t) := by
  by_cases hk : i < (ctorsL xs t).length
  · have h4 : ¬ (cutV (valsTo xs d t i)).length ≤ 400 := fun h4 => hi ⟨hk, h4⟩
    have h5 : valsL xs (d + 1) t = valsTo xs d t i ++ ((ctorsL xs t).drop i).flatMap (blockL xs d t) := by
      rw [← valsTo_all h (Nat.le_refl _)]
      unfold valsTo
      rw [List.take_length, ← List.flatMap_append, List.take_append_drop]
    rw [h5]
    exact cutV_full h4 _
  · rw [valsTo_all h (by omega)]
theorem Chg.trans_low {F G : List Nat} {a b c : World} (h : Chg F a b) (k : Chg G b c) (hG : ∀ g ∈ G, g ∈ F ∨ a.heap.size ≤ g) : Chg F a c :=
  ⟨k.os.trans h.os, k.tape.trans h.tape, k.output.trans h.output, Nat.le_trans h.size k.size, fun x hx hf => (k.block x (Nat.lt_of_lt_of_le hx h.size) fun hg => by
    rcases hG x hg with h1 | h1
    · exact hf h1
    · omega).trans (h.block x hx hf)⟩
theorem Chg.grown {F : List Nat} {a b c : World} {v : Value} (h : Chg F a b) (k : b.grownBy c v.ownBlock) (hr : ∀ g ∈ rowOf v, g ∈ F ∨ a.heap.size ≤ g) : Chg F a c :=
  ⟨k.os.trans h.os, k.tape.trans h.tape, k.output.trans h.output, Nat.le_trans h.size k.size, fun x hx hf => (k.block x (Nat.lt_of_lt_of_le hx h.size) fun e => by
    rcases hr x (mem_rowOf.2 e.symm) with h1 | h1
    · exact hf h1
    · omega).trans (h.block x hx hf)⟩
end Go.Proofs.Ytilndhmegaccmaa

namespace Go.Proofs.Ytilndhmegaccmaa
open Go.RowKit

theorem step_append_run {P : Program} {w : World} {ops : Array Oper} {o : Oper} {a : Act} {K : Act → World → Prop} {Q : Exit → Act → World → Prop} {EE : Prop} (hgd : o.guard = none) (s x : Operand) (t : TypeId)
    (ho : o.op = .call { callee := .builtin .append, args := #[s, x], argTypes := #[t, t] }) {sv xv v' : Value} {w' : World} (hs : a.eval s = sv) (hx : a.eval x = xv)
    (hr : (Builtin.append_ #[t, t] o.type #[sv, xv]).run P w = .ok v' w') (h : K (a.put o.dst v') w') : if Region.wanted o (yielded ops a.tmps) = true then Oper.wp P o a w K Q else EE := by
  rw [if_pos (by simp [Region.wanted, hgd])]
  unfold Oper.wp execOp
  simp only [ho, resolve, invoke, builtin, Sem.run_bind, Sem.run_pure, Result.andThen_ok, List.map_toArray, List.map_cons, List.map_nil, hs, hx, hr]
  exact h
set_option maxRecDepth 100000 in
set_option maxHeartbeats 6400000 in
theorem spec_l2Lists (ls : List (List V)) (h3 : ls.length ≤ 3) (h4 : ∀ l ∈ ls, l.length ≤ 401) (w : World) (x : Value) (F : List Nat) (hx : Arr w (LsR w) ls x F) (hf : Under w.heap.size F) :
    Calls Try.prog 110 #[x, .int .i64 400] w (ListsP (cutV (pairAll ls)) F w) := by
  obtain ⟨lsA, lscap, rfl, hc1, hc2⟩ := hx.form
  obtain ⟨i0, hi, hz0, hz1, hz2⟩ := info_parts info_VE
  obtain ⟨j0, hj, hy0, hy1, hy2⟩ := info_parts info_VSE
  have H4 := Lib.hid h4
  have HI := Lib.hid hi
  have HZ0 := Lib.hid hz0
  have HZ1 := Lib.hid hz1
  have HZ2 := Lib.hid hz2
  have HJ := Lib.hid hj
  have HY0 := Lib.hid hy0
  have HY1 := Lib.hid hy1
  have HY2 := Lib.hid hy2
  have HX := Lib.hid hx
  have HF := Lib.hid hf
  clear hi hz0 hz1 hz2 hj hy0 hy1 hy2 hx hf
  clear h4
  go_enter Try.func110, Try.ntmps110
  go_wp2_with fail
  obtain ⟨W2, hW2⟩ : ∃ W2, W2 = ((w.alloc (.cells #[] 53)).alloc (.cells #[.slice (some ⟨w.heap.size, 0, none⟩) 0 0] 39)) := ⟨_, rfl⟩
  have hB0 : Below w.heap.size w W2 := by rw [hW2]; exact ((Below.refl _ _).alloc (Nat.le_refl _) _).alloc (by simp) _
  have K1 : Blk W2 (w.heap.size + 1) 39 #[.slice (some ⟨w.heap.size, 0, none⟩) 0 0] := by rw [hW2]; exact blk_second w _ _ _
  have HO0 : Hid (Arr W2 (LsR W2) (pairTo ls 0) (.slice (some ⟨w.heap.size + 1, 0, none⟩) 1 1) [w.heap.size + 1]) := by
    rw [pairTo_zero]
    exact ⟨_, _, rfl, Nat.le_refl _, by simp [maxLen], .inr ⟨_, 0, [.slice (some ⟨w.heap.size, 0, none⟩) 0 0], [], rfl, (fun j u hj => by rw [Nat.zero_add, K1.cell]; simpa using hj), Flat.one ⟨_, rfl, _, _, rfl, Nat.le_refl _, by simp [maxLen], .inl ⟨rfl, rfl⟩⟩, rfl⟩⟩
  have HU0 : Hid (Under W2.heap.size [w.heap.size + 1]) := fun b hb => by rw [List.mem_singleton] at hb; subst hb; exact K1.lt
  rw [← hW2]
  clear hW2 K1
  go_wp2
  go_loopw [5, 6] (fun ov iv wr => ∃ i : Nat, ∃ Fo : List Nat, i ≤ ls.length ∧ iv = .int .i64 i ∧ Hid (Arr wr (LsR wr) (pairTo ls i) ov Fo) ∧ Hid (Under wr.heap.size Fo) ∧ Hid (∀ b ∈ Fo, b ∈ F ∨ w.heap.size ≤ b) ∧ Hid (Below W2.heap.size W2 wr)) (fun _ iv _ => ls.length - (intOf iv).toNat)
  case atStart => exact ⟨0, _, Nat.zero_le _, rfl, HO0.out, HU0.out, (fun b hb => by rw [List.mem_singleton] at hb; exact .inr (by omega)), Below.refl _ _⟩
  case round =>
    clear HO0 HU0
    obtain ⟨i, Fo, hi, rfl, HO, HOU, HOP, HBI⟩ := hrel
    obtain ⟨oA, ocap, hov, -, -⟩ := HO.out.form
    subst hov
    have hpt := pairTo_len ls i
    obtain ⟨wo, hwo⟩ : ∃ wo, wo = wr := ⟨_, rfl⟩
    rw [← hwo] at HO HOU HBI ⊢
    clear hwo
    have hBwo := hB0.trans (HBI.out.mono hB0.size)
    by_cases hil : i < ls.length
    · have q1 : (0 : Int) ≤ (i : Int) := by omega
      have q2 : (i : Int) < (ls.length : Int) := by omega
      obtain ⟨bl, offl, rfl⟩ := HX.out.ptr (by omega)
      have HPS := Lib.hid (pairTo_succ ls i hil)
      have hl4 := H4.out ls[i] (List.getElem_mem hil)
      obtain ⟨lA, lcap, Gl, hblw, hlc, hla, hlu, hls⟩ := ArrLs.of HX.out HF.out i hil
      have HLC := Lib.hid hlc
      have HLA := Lib.hid hla
      have HLU := Lib.hid hlu
      have HLS := Lib.hid hls
      clear hlc hla hlu hls
      obtain ⟨l, hl⟩ : ∃ u, u = ls[i] := ⟨_, rfl⟩
      rw [← hl] at HPS hl4 HLA HLC
      have HALL : Hid (∀ o ∈ pairTo ls i, o.length ≤ i) := fun o ho => pairTo_each ls i o ho
      generalize hAs : pairTo ls i = As at *
      have HB0 := Lib.hid hB0
      clear hAs hl
      go_wp2_with fail
      have HM0 : Hid (Own (wo.alloc (.cells #[] 39)) wo.heap.size 39 1 LsR (nextL As l 0) (.slice (some ⟨wo.heap.size, 0, none⟩) 0 0) []) := (show Own _ _ _ _ _ (nextL As l 0) _ _ from Own.made wo _ _ _ _ _ 0 (Nat.le_refl _) (by simp [maxLen]) rfl)
      have hB05 : Below wo.heap.size wo (wo.alloc (.cells #[] 39)) := (Below.refl _ _).alloc (Nat.le_refl _) _
      generalize wo.alloc (.cells #[] 39) = w5 at *
      go_loopw [7, 8] (fun nv kv wr => ∃ k : Nat, ∃ Fn : List Nat, k ≤ As.length ∧ kv = .int .i64 k ∧ Hid (Own wr wo.heap.size 39 1 LsR (nextL As l k) nv Fn) ∧ Hid (∀ b ∈ Fn, b ∈ F ∨ w.heap.size ≤ b) ∧ Below wo.heap.size wo wr) (fun _ kv _ => As.length - (intOf kv).toNat)
      case atStart => exact ⟨0, [], Nat.zero_le _, rfl, HM0.out, (fun b hb => by cases hb), hB05⟩
      case round =>
        clear HM0 hB05
        obtain ⟨k, Fn, hk, rfl, HM, HFN, hBo⟩ := hrel
        obtain ⟨mA, mcap, hmv, -, -⟩ := HM.out.form
        subst hmv
        have hnl := nextL_len As l k
        have HEND := Lib.hid (fun h => nextL_end (A := As) (l := l) (k := k) h)
        by_cases hk2 : k < As.length ∧ (nextL As l k).length ≤ 400
        · obtain ⟨hkl, hn4⟩ := hk2
          have t1 : decide ((k : Int) < (As.length : Int)) = true := by simp; omega
          have t2 : decide (((nextL As l k).length : Int) ≤ 400) = true := by simp; omega
          have q3 : (0 : Int) ≤ (k : Int) := by omega
          have q4 : (k : Int) < (As.length : Int) := by omega
          obtain ⟨b5, off5, rfl⟩ := HO.out.ptr (by omega)
          obtain ⟨pA, pcap, Gp, lo5, hpc, hpa, hpu, hps⟩ := ArrLs.of HO.out HOU.out k hkl
          have hpl : As[k].length ≤ pcap := by obtain ⟨_, _, e, h1, -⟩ := hpa; cases e; exact h1
          have hnr := fun j h => nextR_end (A := As) (l := l) (k := k) (j := j) hkl h
          obtain ⟨o, ho⟩ : ∃ u, u = As[k] := ⟨_, rfl⟩
          rw [← ho] at hpc hpa hpl hnr
          have HPC := Lib.hid hpc
          have HPA0 := Lib.hid hpa
          have HPU := Lib.hid hpu
          have HPSB := Lib.hid hps
          have HNR := Lib.hid hnr
          have HO3 : Hid (o.length ≤ 3) := by
            have := HALL.out o (by rw [ho]; exact List.getElem_mem hkl)
            unfold Hid; omega
          have HM0 : Hid (Own wr wo.heap.size 39 1 LsR (nextR (preL As l k) o l 0) (.slice mA (nextL As l k).length mcap) Fn) := by
            rw [nextR_zero]; exact HM.out
          clear hpc hpa hpu hnr ho hps
          generalize hpre : preL As l k = pre at *
          clear hpre
          go_wp2
          go_loopw [7, 9] (fun nv jv wr => ∃ j : Nat, ∃ Fn : List Nat, j ≤ l.length ∧ jv = .int .i64 j ∧ Hid (Own wr wo.heap.size 39 1 LsR (nextR pre o l j) nv Fn) ∧ Hid (∀ b ∈ Fn, b ∈ F ∨ w.heap.size ≤ b) ∧ Below wo.heap.size wo wr) (fun _ jv _ => l.length - (intOf jv).toNat)
          case atStart => exact ⟨0, Fn, Nat.zero_le _, rfl, HM0.out, HFN.out, hBo⟩
          case round =>
            clear HM0 HM HFN hBo
            obtain ⟨j, Fm, hj, rfl, HM, HFN, hBo⟩ := hrel
            obtain ⟨mA, mcap, hmv, -, -⟩ := HM.out.form
            subst hmv
            have hrl := nextR_len pre o l j
            have hBr : Below w.heap.size w wr := hBwo.trans (hBo.mono hBwo.size)
            have cl : wr.cell? ⟨bl, offl + i, none⟩ = some (.slice lA l.length lcap) := HLC.out wr hBr
            have ltl : bl < wr.heap.size := Nat.lt_of_lt_of_le hblw hBr.size
            by_cases hj2 : j < l.length ∧ (nextR pre o l j).length ≤ 400
            · obtain ⟨hjl, hr4⟩ := hj2
              have t3 : decide ((j : Int) < (l.length : Int)) = true := by simp; omega
              have t4 : decide (((nextR pre o l j).length : Int) ≤ 400) = true := by simp; omega
              have q5 : (0 : Int) ≤ (j : Int) := by omega
              have q6 : (j : Int) < (l.length : Int) := by omega
              obtain ⟨b9, off9, rfl⟩ := HLA.out.ptr (by omega)
              obtain ⟨nA, ncap, Gk, lt9, n0, n1, n2, HVk, HKu, hks, -, -⟩ := ArrV.at HLA.out HLU.out hBr j hjl
              have HKS := Lib.hid hks
              clear hks
              have HMS := Lib.hid (nextR_succ (pre := pre) (o := o) hjl hr4)
              have c5 : wr.cell? ⟨b5, off5 + k, none⟩ = some (.slice pA o.length pcap) := HPC.out wr hBo
              have lt5 : b5 < wr.heap.size := Nat.lt_of_lt_of_le lo5 hBo.size
              have lol : bl < wo.heap.size := Nat.lt_of_lt_of_le hblw hBwo.size
              have lo9 : b9 < wo.heap.size := by
                obtain ⟨_, _, _, _, e, hb, -⟩ := HLA.out.get VR_len hjl
                cases e; exact Nat.lt_of_lt_of_le (HLU.out _ hb) hBwo.size
              have hmx : (nextR pre o l j).length + 1 ≤ maxLen := by unfold maxLen; omega
              have hby : ((nextR pre o l j).length + 1) * 24 ≤ 140737488355328 := by omega
              obtain ⟨kq, hkq⟩ : ∃ u, u = l[j] := ⟨_, rfl⟩
              rw [← hkq] at n0 n1 n2 HVk HMS
              have HPA : Hid (∀ C, Below wr.heap.size wr C → Arr C (VR C) o (.slice pA o.length pcap) Gp) := fun C hC => ArrV.below HPA0.out (hBo.trans (hC.mono hBo.size)) HPU.out
              have HVk2 : Hid (∀ C, Below wr.heap.size wr C → VR C kq [.int .i64 kq.c, .int .i64 kq.n, .slice nA kq.ks.length ncap] Gk) := fun C hC => HVk.out.below (hBr.trans (hC.mono hBr.size)) HKu.out
              have ho3 := HO3.out
              clear hkq HVk
              go_wp2_with fail
              have HS : Hid (∀ C : World, Below wr.heap.size wr C → (C.cell? ⟨b5, off5 + k, none⟩ = some (.slice pA o.length pcap) ∧ C.cell? ⟨bl, offl + i, none⟩ = some (.slice (some ⟨b9, off9, none⟩) l.length lcap) ∧ C.cell? ⟨b9, off9 + j * 3, none⟩ = some (.int .i64 kq.c) ∧ C.cell? ⟨b9, off9 + j * 3 + 1, none⟩ = some (.int .i64 kq.n) ∧ C.cell? ⟨b9, off9 + j * 3 + 2, none⟩ = some (.slice nA kq.ks.length ncap))) := fun C hb => ⟨(hb.cell (lt5)).trans c5, (hb.cell (ltl)).trans cl, (hb.cell (lt9)).trans n0, (hb.cell (lt9)).trans n1, (hb.cell (lt9)).trans n2⟩
              have hC0 : Below wr.heap.size wr wr.drew := (Below.refl _ _).drew
              refine wp_region_B (S := fun w' => w'.cell? ⟨b5, off5 + k, none⟩ = some (.slice pA o.length pcap) ∧ w'.cell? ⟨bl, offl + i, none⟩ = some (.slice (some ⟨b9, off9, none⟩) l.length lcap) ∧ w'.cell? ⟨b9, off9 + j * 3, none⟩ = some (.int .i64 kq.c) ∧ w'.cell? ⟨b9, off9 + j * 3 + 1, none⟩ = some (.int .i64 kq.n) ∧ w'.cell? ⟨b9, off9 + j * 3 + 2, none⟩ = some (.slice nA kq.ks.length ncap)) (T := fun _ => True) (d := 99) (by kernel_rfl) ?_
              obtain ⟨wd, hwd⟩ : ∃ X, X = wr.drew := ⟨_, rfl⟩
              rw [← hwd] at hC0  ⊢
              clear hwd
              have hS0 := HS.out _ hC0
              have hT0 : True := trivial
              refine wpAnyB_take (i := 0) (v := ?_) rfl (by decide) (by kernel_rfl) (by kernel_rfl) (by kernel_rfl) (fun _ _ _ h => h) (Or.inl ⟨by rfl, ?hy0⟩) hS0 (fun _ => hT0) ?_
              case hy0 => (intro W hSw; (try dsimp only at hSw); (try obtain ⟨hSw0, hSw1, hSw2, hSw3, hSw4⟩ := hSw); go_simp; try with_reducible rfl)
              (try simp only [Act.put, List.getElem_toArray, List.getElem_cons_zero, List.getElem_cons_succ, List.setIfInBounds_toArray, List.set_cons_zero, List.set_cons_succ])
              refine wpAnyB_take (i := 2) (v := ?_) rfl (by decide) (by kernel_rfl) (by kernel_rfl) (by kernel_rfl) (fun _ _ _ h => h) (Or.inl ⟨by rfl, ?hy2⟩) hS0 (fun _ => hT0) ?_
              case hy2 => (intro W hSw; (try dsimp only at hSw); (try obtain ⟨hSw0, hSw1, hSw2, hSw3, hSw4⟩ := hSw); go_simp; try with_reducible rfl)
              (try simp only [Act.put, List.getElem_toArray, List.getElem_cons_zero, List.getElem_cons_succ, List.setIfInBounds_toArray, List.set_cons_zero, List.set_cons_succ])
              refine wpAnyB_take (i := 3) (v := ?_) rfl (by decide) (by kernel_rfl) (by kernel_rfl) (by kernel_rfl) (fun _ _ _ h => h) (Or.inl ⟨by rfl, ?hy3⟩) hS0 (fun _ => hT0) ?_
              case hy3 => (intro W hSw; (try dsimp only at hSw); (try obtain ⟨hSw0, hSw1, hSw2, hSw3, hSw4⟩ := hSw); go_simp; try with_reducible rfl)
              (try simp only [Act.put, List.getElem_toArray, List.getElem_cons_zero, List.getElem_cons_succ, List.setIfInBounds_toArray, List.set_cons_zero, List.set_cons_succ])
              refine wpAnyB_take (i := 4) (v := ?_) rfl (by decide) (by kernel_rfl) (by kernel_rfl) (by kernel_rfl) (fun _ _ _ h => h) (Or.inl ⟨by rfl, ?hy4⟩) hS0 (fun _ => hT0) ?_
              case hy4 => (intro W hSw; (try dsimp only at hSw); (try obtain ⟨hSw0, hSw1, hSw2, hSw3, hSw4⟩ := hSw); go_simp; try with_reducible rfl)
              (try simp only [Act.put, List.getElem_toArray, List.getElem_cons_zero, List.getElem_cons_succ, List.setIfInBounds_toArray, List.set_cons_zero, List.set_cons_succ])
              refine wpAnyB_take (i := 5) (v := ?_) rfl (by decide) (by kernel_rfl) (by kernel_rfl) (by kernel_rfl) (fun _ _ _ h => h) (Or.inl ⟨by rfl, ?hy5⟩) hS0 (fun _ => hT0) ?_
              case hy5 => (intro W hSw; (try dsimp only at hSw); (try obtain ⟨hSw0, hSw1, hSw2, hSw3, hSw4⟩ := hSw); go_simp; try with_reducible rfl)
              (try simp only [Act.put, List.getElem_toArray, List.getElem_cons_zero, List.getElem_cons_succ, List.setIfInBounds_toArray, List.set_cons_zero, List.set_cons_succ])
              refine wpAnyB_take (i := 7) (v := ?_) rfl (by decide) (by kernel_rfl) (by kernel_rfl) (by kernel_rfl) (fun _ _ _ h => h) (Or.inl ⟨by rfl, ?hy7⟩) hS0 (fun _ => hT0) ?_
              case hy7 => (intro W hSw; (try dsimp only at hSw); (try obtain ⟨hSw0, hSw1, hSw2, hSw3, hSw4⟩ := hSw); go_simp; try with_reducible rfl)
              (try simp only [Act.put, List.getElem_toArray, List.getElem_cons_zero, List.getElem_cons_succ, List.setIfInBounds_toArray, List.set_cons_zero, List.set_cons_succ])
              refine wpAnyB_take (i := 8) (v := ?_) rfl (by decide) (by kernel_rfl) (by kernel_rfl) (by kernel_rfl) (fun _ _ _ h => h) (Or.inl ⟨by rfl, ?hy8⟩) hS0 (fun _ => hT0) ?_
              case hy8 => (intro W hSw; (try dsimp only at hSw); (try obtain ⟨hSw0, hSw1, hSw2, hSw3, hSw4⟩ := hSw); go_simp; try with_reducible rfl)
              (try simp only [Act.put, List.getElem_toArray, List.getElem_cons_zero, List.getElem_cons_succ, List.setIfInBounds_toArray, List.set_cons_zero, List.set_cons_succ])
              refine wpAnyB_take (i := 9) (v := ?_) rfl (by decide) (by kernel_rfl) (by kernel_rfl) (by kernel_rfl) (fun _ _ _ h => h) (Or.inl ⟨by rfl, ?hy9⟩) hS0 (fun _ => hT0) ?_
              case hy9 => (intro W hSw; (try dsimp only at hSw); (try obtain ⟨hSw0, hSw1, hSw2, hSw3, hSw4⟩ := hSw); go_simp; try with_reducible rfl)
              (try simp only [Act.put, List.getElem_toArray, List.getElem_cons_zero, List.getElem_cons_succ, List.setIfInBounds_toArray, List.set_cons_zero, List.set_cons_succ])
              refine wpAnyB_take (i := 10) (v := ?_) rfl (by decide) (by kernel_rfl) (by kernel_rfl) (by kernel_rfl) (fun _ _ _ h => h) (Or.inl ⟨by rfl, ?hy10⟩) hS0 (fun _ => hT0) ?_
              case hy10 => (intro W hSw; (try dsimp only at hSw); (try obtain ⟨hSw0, hSw1, hSw2, hSw3, hSw4⟩ := hSw); go_simp; try with_reducible rfl)
              (try simp only [Act.put, List.getElem_toArray, List.getElem_cons_zero, List.getElem_cons_succ, List.setIfInBounds_toArray, List.set_cons_zero, List.set_cons_succ])
              refine wpAnyB_take (i := 11) (v := ?_) rfl (by decide) (by kernel_rfl) (by kernel_rfl) (by kernel_rfl) (fun _ _ _ h => h) (Or.inl ⟨by rfl, ?hy11⟩) hS0 (fun _ => hT0) ?_
              case hy11 => (intro W hSw; (try dsimp only at hSw); (try obtain ⟨hSw0, hSw1, hSw2, hSw3, hSw4⟩ := hSw); go_simp; try with_reducible rfl)
              (try simp only [Act.put, List.getElem_toArray, List.getElem_cons_zero, List.getElem_cons_succ, List.setIfInBounds_toArray, List.set_cons_zero, List.set_cons_succ])
              refine wpAnyB_take (i := 12) (v := ?_) rfl (by decide) (by kernel_rfl) (by kernel_rfl) (by kernel_rfl) (fun _ _ _ h => h) (Or.inl ⟨by rfl, ?hy12⟩) hS0 (fun _ => hT0) ?_
              case hy12 => (intro W hSw; (try dsimp only at hSw); (try obtain ⟨hSw0, hSw1, hSw2, hSw3, hSw4⟩ := hSw); go_simp; try with_reducible rfl)
              (try simp only [Act.put, List.getElem_toArray, List.getElem_cons_zero, List.getElem_cons_succ, List.setIfInBounds_toArray, List.set_cons_zero, List.set_cons_succ])
              refine wpAnyB_take (i := 13) (v := ?_) rfl (by decide) (by kernel_rfl) (by kernel_rfl) (by kernel_rfl) (fun _ _ _ h => h) (Or.inl ⟨by rfl, ?hy13⟩) hS0 (fun _ => hT0) ?_
              case hy13 => (intro W hSw; (try dsimp only at hSw); (try obtain ⟨hSw0, hSw1, hSw2, hSw3, hSw4⟩ := hSw); go_simp; try with_reducible rfl)
              (try simp only [Act.put, List.getElem_toArray, List.getElem_cons_zero, List.getElem_cons_succ, List.setIfInBounds_toArray, List.set_cons_zero, List.set_cons_succ])
              refine wpAnyB_ready (rs := [1, 14]) (by kernel_rfl) (by simp) ?_
              refine AllReadyB.cons rfl (fun K hK => ?_) (AllReadyB.cons rfl (fun K hK => ?_) (AllReadyB.nil))
              · go_simp
                obtain ⟨C1, hX⟩ : ∃ X, X = wd.alloc (.cells #[] 53) := ⟨_, rfl⟩
                have hb1 : Below wd.heap.size wd C1 := by rw [hX]; exact (Below.refl _ _).alloc (Nat.le_refl _) _
                have ho1 : Own C1 wr.heap.size 53 3 VR ([] : List V) (.slice (some ⟨wd.heap.size, 0, none⟩) 0 0) [] := by rw [hX]; exact Own.made wd _ _ _ _ _ 0 hC0.size (by simp [maxLen]) rfl
                rw [← hX]
                clear hX
                have hC1 : Below wr.heap.size wr C1 := hC0.trans (hb1.mono hC0.size)
                have HE1 := Lib.hid ho1
                obtain ⟨eb, heb⟩ : ∃ X, X = wd.heap.size := ⟨_, rfl⟩
                rw [← heb] at HE1 ⊢
                have HEL := Lib.hid heb
                clear heb ho1
                (try dsimp only)
                refine hK.out _ _ (HS.out _ hC1) (fun _ => trivial) ?_
                clear hK K
                (try simp only [Act.put, List.getElem_toArray, List.getElem_cons_zero, List.getElem_cons_succ, List.setIfInBounds_toArray, List.set_cons_zero, List.set_cons_succ])
                refine wpAnyB_ready (rs := [6, 14]) (by kernel_rfl) (by simp) ?_
                refine AllReadyB.cons rfl (fun K hK => ?_) (AllReadyB.cons rfl (fun K hK => ?_) (AllReadyB.nil))
                · obtain ⟨cv, C2, Gc, hr2, ho2, hG2, hgr2, hat2⟩ := run_append_all (P := Try.prog) 39 39 i0 _ 40 Try.underlying39 HI.out HZ0.out HZ1.out HZ2.out rfl (by decide) VR_len' VR_mono' VR_one HE1.out (HPA.out C1 hC1) (HPU.out.mono (Nat.le_trans hBo.size hC1.size)) (fun g hg hgF => Nat.lt_irrefl _ (Nat.lt_of_lt_of_le (HPU.out g hgF) (Nat.le_trans hBo.size (HE1.out.row g hg).1))) (by simp; omega) (by simp; omega) hC1.size
                  rw [List.nil_append, List.nil_append] at ho2
                  have hC2 : Below wr.heap.size wr C2 := hC1.grown hgr2 hC1.size (fun g hg => (HE1.out.row g (mem_rowOf.2 hg)).1)
                  have hcb2 : ∀ (b : Nat) (T : TypeId) (cs : Array Value), b < C1.heap.size → b ≠ eb → Blk C1 b T cs → Blk C2 b T cs := fun b T cs hl hne h => h.same (hgr2.block _ hl (fun e => hne (Option.some.inj e)))
                  obtain ⟨cA, ccap, hcv, -, -⟩ := ho2.form
                  subst hcv
                  have HGc := Lib.hid hG2
                  have HOc2 := Lib.hid ho2
                  have HRUN := Lib.hid hr2
                  clear ho2 hG2 hgr2 hat2 hr2
                  refine step_append_run (P := Try.prog) rfl _ _ 39 rfl (by rfl) (by rfl) HRUN.out ?_
                  clear HRUN
                  (try dsimp only)
                  refine hK.out _ _ (HS.out _ hC2) (fun _ => trivial) ?_
                  clear hK K
                  (try simp only [Act.put, List.getElem_toArray, List.getElem_cons_zero, List.getElem_cons_succ, List.setIfInBounds_toArray, List.set_cons_zero, List.set_cons_succ])
                  refine wpAnyB_ready (rs := [14]) (by kernel_rfl) (by simp) ?_
                  refine AllReadyB.cons rfl (fun K hK => ?_) (AllReadyB.nil)
                  go_simp
                  obtain ⟨C3, hX⟩ : ∃ X, X = C2.alloc (.cells [.int .i64 kq.c, .int .i64 kq.n, .slice nA kq.ks.length ncap].toArray 53) := ⟨_, rfl⟩
                  have hb3 : Below C2.heap.size C2 C3 := by rw [hX]; exact (Below.refl _ _).alloc (Nat.le_refl _) _
                  have hkb3 : Blk C3 C2.heap.size 53 [.int .i64 kq.c, .int .i64 kq.n, .slice nA kq.ks.length ncap].toArray := by rw [hX]; exact Blk.new _ _ _
                  have hX2 := hX
                  simp only [List.toArray] at hX2
                  first | rw [← hX] | rw [← hX2]
                  clear hX hX2
                  have hC3 : Below wr.heap.size wr C3 := hC2.trans (hb3.mono hC2.size)
                  have HKb3 := Lib.hid hkb3
                  have HKL3 : Hid (∀ g, g < C2.heap.size → C2.heap.size ≠ g) := fun g hg e => by omega
                  obtain ⟨kb, hkb⟩ : ∃ X, X = C2.heap.size := ⟨_, rfl⟩
                  rw [← hkb] at HKb3 HKL3 ⊢
                  clear hkb3
                  have HKB := Lib.hid hkb
                  clear hkb
                  have HOc := Lib.hid (HOc2.out.below (fun x cs G hk h => VR_mono' _ _ x cs G hk h) hb3)
                  have HKb := HKb3
                  (try dsimp only)
                  refine hK.out _ _ (HS.out _ hC3) (fun _ => trivial) ?_
                  clear hK K
                  (try simp only [Act.put, List.getElem_toArray, List.getElem_cons_zero, List.getElem_cons_succ, List.setIfInBounds_toArray, List.set_cons_zero, List.set_cons_succ])
                  refine wpAnyB_ready (rs := [15]) (by kernel_rfl) (by simp) ?_
                  refine AllReadyB.cons rfl (fun K hK => ?_) (AllReadyB.nil)
                  refine step_pushB (P := Try.prog) rfl _ _ 39 rfl i0 _ 40 Try.underlying39 HI.out HZ0.out HZ1.out HZ2.out rfl (by decide) VR_len' VR_mono' (by rfl) HOc.out kq 53 [.int .i64 kq.c, .int .i64 kq.n, .slice nA kq.ks.length ncap] Gk kb (by rfl) HKb.out (by simp [Value.oneCell']) (HVk2.out C3 hC3) (HKu.out.mono (Nat.le_trans hBr.size hC3.size)) (fun g hg hgG => Nat.lt_irrefl _ (Nat.lt_of_lt_of_le (HKu.out g hgG) (Nat.le_trans hBr.size (HOc.out.row g hg).1))) (by unfold maxLen; omega) (by omega) hC3.size ?_
                  intro g7 cp7 C4 hown4 hgr4 hat4
                  have hC4 : Below wr.heap.size wr C4 := hC3.grown hgr4 hC3.size (fun g hg => (HOc.out.row g (mem_rowOf.2 hg)).1)
                  have HO4 := Lib.hid hown4
                  have H4R : Hid (∀ g ∈ rowOf (.slice (some ⟨g7, 0, none⟩) (o.length + 1) cp7), wr.heap.size ≤ g ∧ g < C4.heap.size) := fun g hg => HO4.out.row g hg
                  have HYR : Hid (LsR C4 (o ++ [kq]) [.slice (some ⟨g7, 0, none⟩) (o.length + 1) cp7] (rowOf (.slice (some ⟨g7, 0, none⟩) (o.length + 1) cp7) ++ (Gc ++ Gk))) := by
                    have h := HO4.out.arr
                    rw [if_neg (by simp)] at h
                    exact ⟨_, rfl, h⟩
                  have hbo4 : Below wo.heap.size wo C4 := hBo.trans (hC4.mono hBo.size)
                  have HM4 := Lib.hid (HM.out.below (fun x cs G hk h => LsR_mono _ _ x cs G hk h) hC4)
                  have HYU : Hid (Under C4.heap.size (rowOf (.slice (some ⟨g7, 0, none⟩) (o.length + 1) cp7) ++ (Gc ++ Gk))) := fun b hb => by
                    rcases List.mem_append.1 hb with hb | hb
                    · exact (H4R.out b hb).2
                    · rcases List.mem_append.1 hb with hb | hb
                      · exact Nat.lt_of_lt_of_le (HPU.out b (HGc.out b hb)) (Nat.le_trans hBo.size hC4.size)
                      · exact Nat.lt_of_lt_of_le (HKu.out b hb) (Nat.le_trans hBr.size hC4.size)
                  have HYP : Hid (∀ b ∈ Fm ++ (rowOf (.slice (some ⟨g7, 0, none⟩) (o.length + 1) cp7) ++ (Gc ++ Gk)), b ∈ F ∨ w.heap.size ≤ b) := fun b hb => by
                    rcases List.mem_append.1 hb with hb | hb
                    · exact HFN.out b hb
                    · rcases List.mem_append.1 hb with hb | hb
                      · exact .inr (Nat.le_trans hBr.size (H4R.out b hb).1)
                      · rcases List.mem_append.1 hb with hb | hb
                        · exact HOP.out b (HPSB.out b (HGc.out b hb))
                        · exact .inl (HLS.out b (HKS.out b hb))
                  have HYN : Hid (∀ g ∈ rowOf (.slice mA (nextR pre o l j).length mcap), g ∉ (rowOf (.slice (some ⟨g7, 0, none⟩) (o.length + 1) cp7) ++ (Gc ++ Gk))) := fun g hg hgG => by
                    have h1 := HM.out.row g hg
                    rcases List.mem_append.1 hgG with hb | hb
                    · have := (H4R.out g hb).1; omega
                    · rcases List.mem_append.1 hb with hb | hb
                      · have := HPU.out g (HGc.out g hb); omega
                      · have := HKu.out g hb; have := hBwo.size; omega
                  clear hown4 hgr4 hat4
                  (try dsimp only)
                  refine hK.out _ _ (HS.out _ hC4) (fun _ => trivial) ?_
                  clear hK K
                  (try simp only [Act.put, List.getElem_toArray, List.getElem_cons_zero, List.getElem_cons_succ, List.setIfInBounds_toArray, List.set_cons_zero, List.set_cons_succ])
                  refine wpAnyB_ready (rs := [16]) (by kernel_rfl) (by simp) ?_
                  refine AllReadyB.cons rfl (fun K hK => ?_) (AllReadyB.nil)
                  go_simp
                  (try dsimp only)
                  refine hK.out _ _ (HS.out _ (hC4.alloc hC4.size _)) (fun _ => trivial) ?_
                  clear hK K
                  (try simp only [Act.put, List.getElem_toArray, List.getElem_cons_zero, List.getElem_cons_succ, List.setIfInBounds_toArray, List.set_cons_zero, List.set_cons_succ])
                  refine wpAnyB_ready (rs := [17]) (by kernel_rfl) (by simp) ?_
                  refine AllReadyB.cons rfl (fun K hK => ?_) (AllReadyB.nil)
                  refine step_push1 (P := Try.prog) rfl _ _ 143 rfl j0 _ 24 Try.underlying143 HJ.out HY0.out HY1.out HY2.out rfl (by decide) LsR_len LsR_mono (by rfl) HM4.out (o ++ [kq]) 39 [.slice (some ⟨g7, 0, none⟩) (o.length + 1) cp7] (rowOf (.slice (some ⟨g7, 0, none⟩) (o.length + 1) cp7) ++ (Gc ++ Gk)) C4.heap.size (by rfl) rfl (by simp [Value.oneCell']) HYR.out HYU.out HYN.out hmx hby hbo4.size ?_
                  intro g10 cp10 C5 hown5 hgr5 hat5
                  have hrow := HM4.out.row
                  have hB5 : Below wo.heap.size wo C5 := (hbo4.alloc hbo4.size _).grown hgr5 (by simp; have := hbo4.size; omega) (fun g hg => (hrow g (mem_rowOf.2 hg)).1)
                  have hS4 := HS.out _ hC4
                  have hS5 : C5.cell? ⟨b5, off5 + k, none⟩ = some (.slice pA o.length pcap) ∧ C5.cell? ⟨bl, offl + i, none⟩ = some (.slice (some ⟨b9, off9, none⟩) l.length lcap) ∧ C5.cell? ⟨b9, off9 + j * 3, none⟩ = some (.int .i64 kq.c) ∧ C5.cell? ⟨b9, off9 + j * 3 + 1, none⟩ = some (.int .i64 kq.n) ∧ C5.cell? ⟨b9, off9 + j * 3 + 2, none⟩ = some (.slice nA kq.ks.length ncap) := ⟨(hB5.cell lo5).trans ((hBo.cell lo5).symm.trans c5), (hB5.cell lol).trans ((hBo.cell lol).symm.trans cl), (hB5.cell lo9).trans ((hBo.cell lo9).symm.trans n0), (hB5.cell lo9).trans ((hBo.cell lo9).symm.trans n1), (hB5.cell lo9).trans ((hBo.cell lo9).symm.trans n2)⟩
                  have HO5 := Lib.hid hown5
                  clear hown5 hgr5 hat5 hrow
                  (try dsimp only)
                  refine hK.out _ _ (hS5) (fun _ => trivial) ?_
                  clear hK K
                  (try simp only [Act.put, List.getElem_toArray, List.getElem_cons_zero, List.getElem_cons_succ, List.setIfInBounds_toArray, List.set_cons_zero, List.set_cons_succ])
                  refine wpAnyB_take (i := 18) (v := ?_) rfl (by decide) (by kernel_rfl) (by kernel_rfl) (by kernel_rfl) (fun _ _ _ h => h) (Or.inl ⟨by rfl, ?hy18⟩) hS5 (fun _ => hT0) ?_
                  case hy18 => (intro W hSw; (try dsimp only at hSw); (try obtain ⟨hSw0, hSw1, hSw2, hSw3, hSw4⟩ := hSw); go_simp; try with_reducible rfl)
                  (try simp only [Act.put, List.getElem_toArray, List.getElem_cons_zero, List.getElem_cons_succ, List.setIfInBounds_toArray, List.set_cons_zero, List.set_cons_succ])
                  refine wpAnyB_end (by kernel_rfl) ?_
                  clear hS4 hS5 hS0 hT0 c5 cl n0 n1 n2
                  go_wp2
                  go_roundw
                  case rel => exact ⟨j + 1, _, hjl, by go_num, (by rw [HMS.out]; exact HO5.out), HYP.out, hB5⟩
                  case measure => (simp [intOf] <;> omega)
                · go_simp
                  obtain ⟨C2, hX⟩ : ∃ X, X = C1.alloc (.cells [.int .i64 kq.c, .int .i64 kq.n, .slice nA kq.ks.length ncap].toArray 53) := ⟨_, rfl⟩
                  have hb2 : Below C1.heap.size C1 C2 := by rw [hX]; exact (Below.refl _ _).alloc (Nat.le_refl _) _
                  have hkb2 : Blk C2 C1.heap.size 53 [.int .i64 kq.c, .int .i64 kq.n, .slice nA kq.ks.length ncap].toArray := by rw [hX]; exact Blk.new _ _ _
                  have hX2 := hX
                  simp only [List.toArray] at hX2
                  first | rw [← hX] | rw [← hX2]
                  clear hX hX2
                  have hC2 : Below wr.heap.size wr C2 := hC1.trans (hb2.mono hC1.size)
                  have HKb2 := Lib.hid hkb2
                  have HKL2 : Hid (∀ g, g < C1.heap.size → C1.heap.size ≠ g) := fun g hg e => by omega
                  obtain ⟨kb, hkb⟩ : ∃ X, X = C1.heap.size := ⟨_, rfl⟩
                  rw [← hkb] at HKb2 HKL2 ⊢
                  clear hkb2
                  have HKB := Lib.hid hkb
                  clear hkb
                  have HE2 := Lib.hid (HE1.out.below (fun x cs G hk h => VR_mono' _ _ x cs G hk h) hb2)
                  have hne : kb ≠ eb := fun e => by have h1 := (HE1.out.row eb (by simp [rowOf_some])).2; have h2 := HKB.out; omega
                  have hkl2 := HKb2.out.lt
                  (try dsimp only)
                  refine hK.out _ _ (HS.out _ hC2) (fun _ => trivial) ?_
                  clear hK K
                  (try simp only [Act.put, List.getElem_toArray, List.getElem_cons_zero, List.getElem_cons_succ, List.setIfInBounds_toArray, List.set_cons_zero, List.set_cons_succ])
                  refine wpAnyB_ready (rs := [6]) (by kernel_rfl) (by simp) ?_
                  refine AllReadyB.cons rfl (fun K hK => ?_) (AllReadyB.nil)
                  obtain ⟨cv, C3, Gc, hr3, ho3, hG3, hgr3, hat3⟩ := run_append_all (P := Try.prog) 39 39 i0 _ 40 Try.underlying39 HI.out HZ0.out HZ1.out HZ2.out rfl (by decide) VR_len' VR_mono' VR_one HE2.out (HPA.out C2 hC2) (HPU.out.mono (Nat.le_trans hBo.size hC2.size)) (fun g hg hgF => Nat.lt_irrefl _ (Nat.lt_of_lt_of_le (HPU.out g hgF) (Nat.le_trans hBo.size (HE2.out.row g hg).1))) (by simp; omega) (by simp; omega) hC2.size
                  rw [List.nil_append, List.nil_append] at ho3
                  have hC3 : Below wr.heap.size wr C3 := hC2.grown hgr3 hC2.size (fun g hg => (HE2.out.row g (mem_rowOf.2 hg)).1)
                  have hcb3 : ∀ (b : Nat) (T : TypeId) (cs : Array Value), b < C2.heap.size → b ≠ eb → Blk C2 b T cs → Blk C3 b T cs := fun b T cs hl hne h => h.same (hgr3.block _ hl (fun e => hne (Option.some.inj e)))
                  obtain ⟨cA, ccap, hcv, -, -⟩ := ho3.form
                  subst hcv
                  have HGc := Lib.hid hG3
                  have HOc3 := Lib.hid ho3
                  have HRUN := Lib.hid hr3
                  clear ho3 hG3 hgr3 hat3 hr3
                  refine step_append_run (P := Try.prog) rfl _ _ 39 rfl (by rfl) (by rfl) HRUN.out ?_
                  clear HRUN
                  have HOc := HOc3
                  have HKb := Lib.hid (hcb3 kb _ _ hkl2 hne HKb2.out)
                  (try dsimp only)
                  refine hK.out _ _ (HS.out _ hC3) (fun _ => trivial) ?_
                  clear hK K
                  (try simp only [Act.put, List.getElem_toArray, List.getElem_cons_zero, List.getElem_cons_succ, List.setIfInBounds_toArray, List.set_cons_zero, List.set_cons_succ])
                  refine wpAnyB_ready (rs := [15]) (by kernel_rfl) (by simp) ?_
                  refine AllReadyB.cons rfl (fun K hK => ?_) (AllReadyB.nil)
                  refine step_pushB (P := Try.prog) rfl _ _ 39 rfl i0 _ 40 Try.underlying39 HI.out HZ0.out HZ1.out HZ2.out rfl (by decide) VR_len' VR_mono' (by rfl) HOc.out kq 53 [.int .i64 kq.c, .int .i64 kq.n, .slice nA kq.ks.length ncap] Gk kb (by rfl) HKb.out (by simp [Value.oneCell']) (HVk2.out C3 hC3) (HKu.out.mono (Nat.le_trans hBr.size hC3.size)) (fun g hg hgG => Nat.lt_irrefl _ (Nat.lt_of_lt_of_le (HKu.out g hgG) (Nat.le_trans hBr.size (HOc.out.row g hg).1))) (by unfold maxLen; omega) (by omega) hC3.size ?_
                  intro g7 cp7 C4 hown4 hgr4 hat4
                  have hC4 : Below wr.heap.size wr C4 := hC3.grown hgr4 hC3.size (fun g hg => (HOc.out.row g (mem_rowOf.2 hg)).1)
                  have HO4 := Lib.hid hown4
                  have H4R : Hid (∀ g ∈ rowOf (.slice (some ⟨g7, 0, none⟩) (o.length + 1) cp7), wr.heap.size ≤ g ∧ g < C4.heap.size) := fun g hg => HO4.out.row g hg
                  have HYR : Hid (LsR C4 (o ++ [kq]) [.slice (some ⟨g7, 0, none⟩) (o.length + 1) cp7] (rowOf (.slice (some ⟨g7, 0, none⟩) (o.length + 1) cp7) ++ (Gc ++ Gk))) := by
                    have h := HO4.out.arr
                    rw [if_neg (by simp)] at h
                    exact ⟨_, rfl, h⟩
                  have hbo4 : Below wo.heap.size wo C4 := hBo.trans (hC4.mono hBo.size)
                  have HM4 := Lib.hid (HM.out.below (fun x cs G hk h => LsR_mono _ _ x cs G hk h) hC4)
                  have HYU : Hid (Under C4.heap.size (rowOf (.slice (some ⟨g7, 0, none⟩) (o.length + 1) cp7) ++ (Gc ++ Gk))) := fun b hb => by
                    rcases List.mem_append.1 hb with hb | hb
                    · exact (H4R.out b hb).2
                    · rcases List.mem_append.1 hb with hb | hb
                      · exact Nat.lt_of_lt_of_le (HPU.out b (HGc.out b hb)) (Nat.le_trans hBo.size hC4.size)
                      · exact Nat.lt_of_lt_of_le (HKu.out b hb) (Nat.le_trans hBr.size hC4.size)
                  have HYP : Hid (∀ b ∈ Fm ++ (rowOf (.slice (some ⟨g7, 0, none⟩) (o.length + 1) cp7) ++ (Gc ++ Gk)), b ∈ F ∨ w.heap.size ≤ b) := fun b hb => by
                    rcases List.mem_append.1 hb with hb | hb
                    · exact HFN.out b hb
                    · rcases List.mem_append.1 hb with hb | hb
                      · exact .inr (Nat.le_trans hBr.size (H4R.out b hb).1)
                      · rcases List.mem_append.1 hb with hb | hb
                        · exact HOP.out b (HPSB.out b (HGc.out b hb))
                        · exact .inl (HLS.out b (HKS.out b hb))
                  have HYN : Hid (∀ g ∈ rowOf (.slice mA (nextR pre o l j).length mcap), g ∉ (rowOf (.slice (some ⟨g7, 0, none⟩) (o.length + 1) cp7) ++ (Gc ++ Gk))) := fun g hg hgG => by
                    have h1 := HM.out.row g hg
                    rcases List.mem_append.1 hgG with hb | hb
                    · have := (H4R.out g hb).1; omega
                    · rcases List.mem_append.1 hb with hb | hb
                      · have := HPU.out g (HGc.out g hb); omega
                      · have := HKu.out g hb; have := hBwo.size; omega
                  clear hown4 hgr4 hat4
                  (try dsimp only)
                  refine hK.out _ _ (HS.out _ hC4) (fun _ => trivial) ?_
                  clear hK K
                  (try simp only [Act.put, List.getElem_toArray, List.getElem_cons_zero, List.getElem_cons_succ, List.setIfInBounds_toArray, List.set_cons_zero, List.set_cons_succ])
                  refine wpAnyB_ready (rs := [16]) (by kernel_rfl) (by simp) ?_
                  refine AllReadyB.cons rfl (fun K hK => ?_) (AllReadyB.nil)
                  go_simp
                  (try dsimp only)
                  refine hK.out _ _ (HS.out _ (hC4.alloc hC4.size _)) (fun _ => trivial) ?_
                  clear hK K
                  (try simp only [Act.put, List.getElem_toArray, List.getElem_cons_zero, List.getElem_cons_succ, List.setIfInBounds_toArray, List.set_cons_zero, List.set_cons_succ])
                  refine wpAnyB_ready (rs := [17]) (by kernel_rfl) (by simp) ?_
                  refine AllReadyB.cons rfl (fun K hK => ?_) (AllReadyB.nil)
                  refine step_push1 (P := Try.prog) rfl _ _ 143 rfl j0 _ 24 Try.underlying143 HJ.out HY0.out HY1.out HY2.out rfl (by decide) LsR_len LsR_mono (by rfl) HM4.out (o ++ [kq]) 39 [.slice (some ⟨g7, 0, none⟩) (o.length + 1) cp7] (rowOf (.slice (some ⟨g7, 0, none⟩) (o.length + 1) cp7) ++ (Gc ++ Gk)) C4.heap.size (by rfl) rfl (by simp [Value.oneCell']) HYR.out HYU.out HYN.out hmx hby hbo4.size ?_
                  intro g10 cp10 C5 hown5 hgr5 hat5
                  have hrow := HM4.out.row
                  have hB5 : Below wo.heap.size wo C5 := (hbo4.alloc hbo4.size _).grown hgr5 (by simp; have := hbo4.size; omega) (fun g hg => (hrow g (mem_rowOf.2 hg)).1)
                  have hS4 := HS.out _ hC4
                  have hS5 : C5.cell? ⟨b5, off5 + k, none⟩ = some (.slice pA o.length pcap) ∧ C5.cell? ⟨bl, offl + i, none⟩ = some (.slice (some ⟨b9, off9, none⟩) l.length lcap) ∧ C5.cell? ⟨b9, off9 + j * 3, none⟩ = some (.int .i64 kq.c) ∧ C5.cell? ⟨b9, off9 + j * 3 + 1, none⟩ = some (.int .i64 kq.n) ∧ C5.cell? ⟨b9, off9 + j * 3 + 2, none⟩ = some (.slice nA kq.ks.length ncap) := ⟨(hB5.cell lo5).trans ((hBo.cell lo5).symm.trans c5), (hB5.cell lol).trans ((hBo.cell lol).symm.trans cl), (hB5.cell lo9).trans ((hBo.cell lo9).symm.trans n0), (hB5.cell lo9).trans ((hBo.cell lo9).symm.trans n1), (hB5.cell lo9).trans ((hBo.cell lo9).symm.trans n2)⟩
                  have HO5 := Lib.hid hown5
                  clear hown5 hgr5 hat5 hrow
                  (try dsimp only)
                  refine hK.out _ _ (hS5) (fun _ => trivial) ?_
                  clear hK K
                  (try simp only [Act.put, List.getElem_toArray, List.getElem_cons_zero, List.getElem_cons_succ, List.setIfInBounds_toArray, List.set_cons_zero, List.set_cons_succ])
                  refine wpAnyB_take (i := 18) (v := ?_) rfl (by decide) (by kernel_rfl) (by kernel_rfl) (by kernel_rfl) (fun _ _ _ h => h) (Or.inl ⟨by rfl, ?hy18⟩) hS5 (fun _ => hT0) ?_
                  case hy18 => (intro W hSw; (try dsimp only at hSw); (try obtain ⟨hSw0, hSw1, hSw2, hSw3, hSw4⟩ := hSw); go_simp; try with_reducible rfl)
                  (try simp only [Act.put, List.getElem_toArray, List.getElem_cons_zero, List.getElem_cons_succ, List.setIfInBounds_toArray, List.set_cons_zero, List.set_cons_succ])
                  refine wpAnyB_end (by kernel_rfl) ?_
                  clear hS4 hS5 hS0 hT0 c5 cl n0 n1 n2
                  go_wp2
                  go_roundw
                  case rel => exact ⟨j + 1, _, hjl, by go_num, (by rw [HMS.out]; exact HO5.out), HYP.out, hB5⟩
                  case measure => (simp [intOf] <;> omega)
              · go_simp
                obtain ⟨C1, hX⟩ : ∃ X, X = wd.alloc (.cells [.int .i64 kq.c, .int .i64 kq.n, .slice nA kq.ks.length ncap].toArray 53) := ⟨_, rfl⟩
                have hb1 : Below wd.heap.size wd C1 := by rw [hX]; exact (Below.refl _ _).alloc (Nat.le_refl _) _
                have hkb1 : Blk C1 wd.heap.size 53 [.int .i64 kq.c, .int .i64 kq.n, .slice nA kq.ks.length ncap].toArray := by rw [hX]; exact Blk.new _ _ _
                have hX2 := hX
                simp only [List.toArray] at hX2
                first | rw [← hX] | rw [← hX2]
                clear hX hX2
                have hC1 : Below wr.heap.size wr C1 := hC0.trans (hb1.mono hC0.size)
                have HKb1 := Lib.hid hkb1
                have HKL1 : Hid (∀ g, g < wd.heap.size → wd.heap.size ≠ g) := fun g hg e => by omega
                obtain ⟨kb, hkb⟩ : ∃ X, X = wd.heap.size := ⟨_, rfl⟩
                rw [← hkb] at HKb1 HKL1 ⊢
                clear hkb1
                have HKB := Lib.hid hkb
                clear hkb
                have hkl1 := HKb1.out.lt
                (try dsimp only)
                refine hK.out _ _ (HS.out _ hC1) (fun _ => trivial) ?_
                clear hK K
                (try simp only [Act.put, List.getElem_toArray, List.getElem_cons_zero, List.getElem_cons_succ, List.setIfInBounds_toArray, List.set_cons_zero, List.set_cons_succ])
                refine wpAnyB_ready (rs := [1]) (by kernel_rfl) (by simp) ?_
                refine AllReadyB.cons rfl (fun K hK => ?_) (AllReadyB.nil)
                go_simp
                obtain ⟨C2, hX⟩ : ∃ X, X = C1.alloc (.cells #[] 53) := ⟨_, rfl⟩
                have hb2 : Below C1.heap.size C1 C2 := by rw [hX]; exact (Below.refl _ _).alloc (Nat.le_refl _) _
                have ho2 : Own C2 wr.heap.size 53 3 VR ([] : List V) (.slice (some ⟨C1.heap.size, 0, none⟩) 0 0) [] := by rw [hX]; exact Own.made C1 _ _ _ _ _ 0 hC1.size (by simp [maxLen]) rfl
                rw [← hX]
                clear hX
                have hC2 : Below wr.heap.size wr C2 := hC1.trans (hb2.mono hC1.size)
                have HE2 := Lib.hid ho2
                obtain ⟨eb, heb⟩ : ∃ X, X = C1.heap.size := ⟨_, rfl⟩
                rw [← heb] at HE2 ⊢
                have HEL := Lib.hid heb
                clear heb ho2
                have HKb2 := Lib.hid (HKb1.out.same (hb2.block _ hkl1))
                have hne : kb ≠ eb := fun e => by have h1 := (HE2.out.row eb (by simp [rowOf_some])); have h2 := HEL.out; omega
                have hkl2 := HKb2.out.lt
                (try dsimp only)
                refine hK.out _ _ (HS.out _ hC2) (fun _ => trivial) ?_
                clear hK K
                (try simp only [Act.put, List.getElem_toArray, List.getElem_cons_zero, List.getElem_cons_succ, List.setIfInBounds_toArray, List.set_cons_zero, List.set_cons_succ])
                refine wpAnyB_ready (rs := [6]) (by kernel_rfl) (by simp) ?_
                refine AllReadyB.cons rfl (fun K hK => ?_) (AllReadyB.nil)
                obtain ⟨cv, C3, Gc, hr3, ho3, hG3, hgr3, hat3⟩ := run_append_all (P := Try.prog) 39 39 i0 _ 40 Try.underlying39 HI.out HZ0.out HZ1.out HZ2.out rfl (by decide) VR_len' VR_mono' VR_one HE2.out (HPA.out C2 hC2) (HPU.out.mono (Nat.le_trans hBo.size hC2.size)) (fun g hg hgF => Nat.lt_irrefl _ (Nat.lt_of_lt_of_le (HPU.out g hgF) (Nat.le_trans hBo.size (HE2.out.row g hg).1))) (by simp; omega) (by simp; omega) hC2.size
                rw [List.nil_append, List.nil_append] at ho3
                have hC3 : Below wr.heap.size wr C3 := hC2.grown hgr3 hC2.size (fun g hg => (HE2.out.row g (mem_rowOf.2 hg)).1)
                have hcb3 : ∀ (b : Nat) (T : TypeId) (cs : Array Value), b < C2.heap.size → b ≠ eb → Blk C2 b T cs → Blk C3 b T cs := fun b T cs hl hne h => h.same (hgr3.block _ hl (fun e => hne (Option.some.inj e)))
                obtain ⟨cA, ccap, hcv, -, -⟩ := ho3.form
                subst hcv
                have HGc := Lib.hid hG3
                have HOc3 := Lib.hid ho3
                have HRUN := Lib.hid hr3
                clear ho3 hG3 hgr3 hat3 hr3
                refine step_append_run (P := Try.prog) rfl _ _ 39 rfl (by rfl) (by rfl) HRUN.out ?_
                clear HRUN
                have HOc := HOc3
                have HKb := Lib.hid (hcb3 kb _ _ hkl2 hne HKb2.out)
                (try dsimp only)
                refine hK.out _ _ (HS.out _ hC3) (fun _ => trivial) ?_
                clear hK K
                (try simp only [Act.put, List.getElem_toArray, List.getElem_cons_zero, List.getElem_cons_succ, List.setIfInBounds_toArray, List.set_cons_zero, List.set_cons_succ])
                refine wpAnyB_ready (rs := [15]) (by kernel_rfl) (by simp) ?_
                refine AllReadyB.cons rfl (fun K hK => ?_) (AllReadyB.nil)
                refine step_pushB (P := Try.prog) rfl _ _ 39 rfl i0 _ 40 Try.underlying39 HI.out HZ0.out HZ1.out HZ2.out rfl (by decide) VR_len' VR_mono' (by rfl) HOc.out kq 53 [.int .i64 kq.c, .int .i64 kq.n, .slice nA kq.ks.length ncap] Gk kb (by rfl) HKb.out (by simp [Value.oneCell']) (HVk2.out C3 hC3) (HKu.out.mono (Nat.le_trans hBr.size hC3.size)) (fun g hg hgG => Nat.lt_irrefl _ (Nat.lt_of_lt_of_le (HKu.out g hgG) (Nat.le_trans hBr.size (HOc.out.row g hg).1))) (by unfold maxLen; omega) (by omega) hC3.size ?_
                intro g7 cp7 C4 hown4 hgr4 hat4
                have hC4 : Below wr.heap.size wr C4 := hC3.grown hgr4 hC3.size (fun g hg => (HOc.out.row g (mem_rowOf.2 hg)).1)
                have HO4 := Lib.hid hown4
                have H4R : Hid (∀ g ∈ rowOf (.slice (some ⟨g7, 0, none⟩) (o.length + 1) cp7), wr.heap.size ≤ g ∧ g < C4.heap.size) := fun g hg => HO4.out.row g hg
                have HYR : Hid (LsR C4 (o ++ [kq]) [.slice (some ⟨g7, 0, none⟩) (o.length + 1) cp7] (rowOf (.slice (some ⟨g7, 0, none⟩) (o.length + 1) cp7) ++ (Gc ++ Gk))) := by
                  have h := HO4.out.arr
                  rw [if_neg (by simp)] at h
                  exact ⟨_, rfl, h⟩
                have hbo4 : Below wo.heap.size wo C4 := hBo.trans (hC4.mono hBo.size)
                have HM4 := Lib.hid (HM.out.below (fun x cs G hk h => LsR_mono _ _ x cs G hk h) hC4)
                have HYU : Hid (Under C4.heap.size (rowOf (.slice (some ⟨g7, 0, none⟩) (o.length + 1) cp7) ++ (Gc ++ Gk))) := fun b hb => by
                  rcases List.mem_append.1 hb with hb | hb
                  · exact (H4R.out b hb).2
                  · rcases List.mem_append.1 hb with hb | hb
                    · exact Nat.lt_of_lt_of_le (HPU.out b (HGc.out b hb)) (Nat.le_trans hBo.size hC4.size)
                    · exact Nat.lt_of_lt_of_le (HKu.out b hb) (Nat.le_trans hBr.size hC4.size)
                have HYP : Hid (∀ b ∈ Fm ++ (rowOf (.slice (some ⟨g7, 0, none⟩) (o.length + 1) cp7) ++ (Gc ++ Gk)), b ∈ F ∨ w.heap.size ≤ b) := fun b hb => by
                  rcases List.mem_append.1 hb with hb | hb
                  · exact HFN.out b hb
                  · rcases List.mem_append.1 hb with hb | hb
                    · exact .inr (Nat.le_trans hBr.size (H4R.out b hb).1)
                    · rcases List.mem_append.1 hb with hb | hb
                      · exact HOP.out b (HPSB.out b (HGc.out b hb))
                      · exact .inl (HLS.out b (HKS.out b hb))
                have HYN : Hid (∀ g ∈ rowOf (.slice mA (nextR pre o l j).length mcap), g ∉ (rowOf (.slice (some ⟨g7, 0, none⟩) (o.length + 1) cp7) ++ (Gc ++ Gk))) := fun g hg hgG => by
                  have h1 := HM.out.row g hg
                  rcases List.mem_append.1 hgG with hb | hb
                  · have := (H4R.out g hb).1; omega
                  · rcases List.mem_append.1 hb with hb | hb
                    · have := HPU.out g (HGc.out g hb); omega
                    · have := HKu.out g hb; have := hBwo.size; omega
                clear hown4 hgr4 hat4
                (try dsimp only)
                refine hK.out _ _ (HS.out _ hC4) (fun _ => trivial) ?_
                clear hK K
                (try simp only [Act.put, List.getElem_toArray, List.getElem_cons_zero, List.getElem_cons_succ, List.setIfInBounds_toArray, List.set_cons_zero, List.set_cons_succ])
                refine wpAnyB_ready (rs := [16]) (by kernel_rfl) (by simp) ?_
                refine AllReadyB.cons rfl (fun K hK => ?_) (AllReadyB.nil)
                go_simp
                (try dsimp only)
                refine hK.out _ _ (HS.out _ (hC4.alloc hC4.size _)) (fun _ => trivial) ?_
                clear hK K
                (try simp only [Act.put, List.getElem_toArray, List.getElem_cons_zero, List.getElem_cons_succ, List.setIfInBounds_toArray, List.set_cons_zero, List.set_cons_succ])
                refine wpAnyB_ready (rs := [17]) (by kernel_rfl) (by simp) ?_
                refine AllReadyB.cons rfl (fun K hK => ?_) (AllReadyB.nil)
                refine step_push1 (P := Try.prog) rfl _ _ 143 rfl j0 _ 24 Try.underlying143 HJ.out HY0.out HY1.out HY2.out rfl (by decide) LsR_len LsR_mono (by rfl) HM4.out (o ++ [kq]) 39 [.slice (some ⟨g7, 0, none⟩) (o.length + 1) cp7] (rowOf (.slice (some ⟨g7, 0, none⟩) (o.length + 1) cp7) ++ (Gc ++ Gk)) C4.heap.size (by rfl) rfl (by simp [Value.oneCell']) HYR.out HYU.out HYN.out hmx hby hbo4.size ?_
                intro g10 cp10 C5 hown5 hgr5 hat5
                have hrow := HM4.out.row
                have hB5 : Below wo.heap.size wo C5 := (hbo4.alloc hbo4.size _).grown hgr5 (by simp; have := hbo4.size; omega) (fun g hg => (hrow g (mem_rowOf.2 hg)).1)
                have hS4 := HS.out _ hC4
                have hS5 : C5.cell? ⟨b5, off5 + k, none⟩ = some (.slice pA o.length pcap) ∧ C5.cell? ⟨bl, offl + i, none⟩ = some (.slice (some ⟨b9, off9, none⟩) l.length lcap) ∧ C5.cell? ⟨b9, off9 + j * 3, none⟩ = some (.int .i64 kq.c) ∧ C5.cell? ⟨b9, off9 + j * 3 + 1, none⟩ = some (.int .i64 kq.n) ∧ C5.cell? ⟨b9, off9 + j * 3 + 2, none⟩ = some (.slice nA kq.ks.length ncap) := ⟨(hB5.cell lo5).trans ((hBo.cell lo5).symm.trans c5), (hB5.cell lol).trans ((hBo.cell lol).symm.trans cl), (hB5.cell lo9).trans ((hBo.cell lo9).symm.trans n0), (hB5.cell lo9).trans ((hBo.cell lo9).symm.trans n1), (hB5.cell lo9).trans ((hBo.cell lo9).symm.trans n2)⟩
                have HO5 := Lib.hid hown5
                clear hown5 hgr5 hat5 hrow
                (try dsimp only)
                refine hK.out _ _ (hS5) (fun _ => trivial) ?_
                clear hK K
                (try simp only [Act.put, List.getElem_toArray, List.getElem_cons_zero, List.getElem_cons_succ, List.setIfInBounds_toArray, List.set_cons_zero, List.set_cons_succ])
                refine wpAnyB_take (i := 18) (v := ?_) rfl (by decide) (by kernel_rfl) (by kernel_rfl) (by kernel_rfl) (fun _ _ _ h => h) (Or.inl ⟨by rfl, ?hy18⟩) hS5 (fun _ => hT0) ?_
                case hy18 => (intro W hSw; (try dsimp only at hSw); (try obtain ⟨hSw0, hSw1, hSw2, hSw3, hSw4⟩ := hSw); go_simp; try with_reducible rfl)
                (try simp only [Act.put, List.getElem_toArray, List.getElem_cons_zero, List.getElem_cons_succ, List.setIfInBounds_toArray, List.set_cons_zero, List.set_cons_succ])
                refine wpAnyB_end (by kernel_rfl) ?_
                clear hS4 hS5 hS0 hT0 c5 cl n0 n1 n2
                go_wp2
                go_roundw
                case rel => exact ⟨j + 1, _, hjl, by go_num, (by rw [HMS.out]; exact HO5.out), HYP.out, hB5⟩
                case measure => (simp [intOf] <;> omega)
            · have HOM : Hid (Own wr wo.heap.size 39 1 LsR (nextL As l (k + 1)) (.slice mA (nextR pre o l j).length mcap) Fm) := by rw [← HNR.out j hj2]; exact HM.out
              by_cases hjl : j < l.length
              · have t3 : decide ((j : Int) < (l.length : Int)) = true := by simp; omega
                have t4 : decide (((nextR pre o l j).length : Int) ≤ 400) = false := by simp; omega
                go_wp2
                go_roundw
                case rel => exact ⟨k + 1, Fm, hkl, by go_num, HOM.out, HFN.out, hBo⟩
                case measure => (simp [intOf] <;> omega)
              · have t3 : decide ((j : Int) < (l.length : Int)) = false := by simp; omega
                go_wp2
                go_roundw
                case rel => exact ⟨k + 1, Fm, hkl, by go_num, HOM.out, HFN.out, hBo⟩
                case measure => (simp [intOf] <;> omega)
        · have HON : Hid (Arr wr (LsR wr) (pairTo ls (i + 1)) (.slice mA (nextL As l k).length mcap) (if nextL As l k = [] then [] else rowOf (.slice mA (nextL As l k).length mcap) ++ Fn)) := by
            rw [HPS.out, ← HEND.out hk2]; exact HM.out.arr
          have HUN := Lib.hid HM.out.under_any
          have HPN : Hid (∀ b ∈ (if nextL As l k = [] then [] else rowOf (.slice mA (nextL As l k).length mcap) ++ Fn), b ∈ F ∨ w.heap.size ≤ b) := fun b hb => by
            by_cases hx : nextL As l k = []
            · rw [if_pos hx] at hb; cases hb
            · rw [if_neg hx] at hb
              rcases List.mem_append.1 hb with hb | hb
              · exact .inr (Nat.le_trans hBwo.size (HM.out.row b hb).1)
              · exact HFN.out b hb
          have HB2 : Hid (Below W2.heap.size W2 wr) := HBI.out.trans (hBo.mono HBI.out.size)
          by_cases hkl : k < As.length
          · have t1 : decide ((k : Int) < (As.length : Int)) = true := by simp; omega
            have t2 : decide (((nextL As l k).length : Int) ≤ 400) = false := by simp; omega
            go_wp2
            go_roundw
            case rel => exact ⟨i + 1, _, hil, by go_num, HON.out, HUN.out, HPN.out, HB2⟩
            case measure => (simp [intOf] <;> omega)
          · have t1 : decide ((k : Int) < (As.length : Int)) = false := by simp; omega
            go_wp2
            go_roundw
            case rel => exact ⟨i + 1, _, hil, by go_num, HON.out, HUN.out, HPN.out, HB2⟩
            case measure => (simp [intOf] <;> omega)
    · have HFin : Hid (ListsP (cutV (pairAll ls)) F w (.returned (.slice oA (pairTo ls i).length ocap)) wo) := by
        have h := HO.out
        refine ⟨_, Fo, rfl, hBwo, ?_, HOU.out, HOP.out⟩
        rw [← pairTo_all ls (Nat.le_of_not_lt hil)]
        exact h
      go_wp2
      go_ret
      exact HFin.out
end Go.Proofs.Ytilndhmegaccmaa

namespace Go.Proofs.Ytilndhmegaccmaa
open Go.RowKit

set_option maxRecDepth 100000 in
set_option maxHeartbeats 6400000 in
theorem spec_l2All : ∀ (d : Nat), ∀ (xs : List Dt) (_ : WorldOK xs) (t : Ty) (_ : TyIn xs.length t) (_ : d ≤ 10) (w : World) (x : Value) (F : List Nat), Arr w (DtR w) xs x F → Under w.heap.size F →
    Calls Try.prog 61 #[x, .agg #[.int .i64 t.d, .int .i64 t.i], .int .i64 ((d : Nat) : Int), .int .i64 400] w (AllP (cutV (valsL xs d t)) w) := by
  intro d
  induction d with
  | zero =>
    intro xs hw t ht hd w x F hx hf
    obtain ⟨A, cap, rfl, hc1, hc2⟩ := hx.form
    clear hw ht hd hx hf
    go_enter Try.func61, Try.ntmps61
    go_wp2_with fail
    obtain ⟨W2, hW2⟩ : ∃ W2, W2 = ((w.alloc (.cells #[.int .i64 t.d, .int .i64 t.i] 32)).alloc (.cells #[] 53)) := ⟨_, rfl⟩
    have hB0 : Below w.heap.size w W2 := by rw [hW2]; exact ((Below.refl _ _).alloc (Nat.le_refl _) _).alloc (by simp) _
    have KT : Hid (Blk W2 w.heap.size 32 #[.int .i64 t.d, .int .i64 t.i]) := by rw [hW2]; exact (Blk.new w _ _).same (Below.heap_alloc _ _ _ (by simp))
    have HO0 : Hid (Own W2 w.heap.size 53 3 VR ([] : List V) (.slice (some ⟨w.heap.size + 1, 0, none⟩) 0 0) []) := by
      rw [hW2]
      have h := Own.made (w.alloc (.cells #[.int .i64 t.d, .int .i64 t.i] 32)) w.heap.size 53 3 VR #[] 0 (by rw [World.size_alloc]; omega) (by simp [maxLen]) rfl
      rw [World.size_alloc] at h
      exact h
    have hs2 : W2.heap.size = w.heap.size + 1 + 1 := by rw [hW2]; simp
    rw [← hW2]
    clear hW2
    have HFin : Hid (AllP (cutV (valsL xs 0 t)) w (.returned (.slice (some ⟨w.heap.size + 1, 0, none⟩) 0 0)) W2) := ⟨_, [], rfl, hB0, HO0.out, fun b hb => by cases hb⟩
    go_wp2
    go_ret
    exact HFin.out
  | succ d ih =>
    intro xs hw t ht hd w x F hx hf
    have IH := Lib.hid ih
    obtain ⟨A, cap, rfl, hc1, hc2⟩ := hx.form
    have hde : ((d + 1 : Nat) : Int) = (d : Int) + 1 := by omega
    have e0 : decide (((d : Int) + 1) < 1) = false := by simp; omega
    obtain ⟨i0, hi, hz0, hz1, hz2⟩ := info_parts info_VE
    obtain ⟨j0, hj, hy0, hy1, hy2⟩ := info_parts info_VSE
    have HI := Lib.hid hi
    have HZ0 := Lib.hid hz0
    have HZ1 := Lib.hid hz1
    have HZ2 := Lib.hid hz2
    have HJ := Lib.hid hj
    have HY0 := Lib.hid hy0
    have HY1 := Lib.hid hy1
    have HY2 := Lib.hid hy2
    clear hi hz0 hz1 hz2 hj hy0 hy1 hy2
    rw [hde]
    clear ih hde
    rcases id ht with hti | ⟨q, r, rfl, hql, hrl⟩
    · have t0 : (t.d == -1) = true := by simp [hti]
      have HP : Hid (cutV (valsL xs (d + 1) t) = numsL 10) := by unfold Hid; rw [valsL_int hti]; exact cutV_short (by rw [numsL_len]; omega)
      clear hw ht hti hx hf hd
      go_enter Try.func61, Try.ntmps61
      go_wp2_with fail
      obtain ⟨W2, hW2⟩ : ∃ W2, W2 = ((w.alloc (.cells #[.int .i64 t.d, .int .i64 t.i] 32)).alloc (.cells #[] 53)) := ⟨_, rfl⟩
      have hB0 : Below w.heap.size w W2 := by rw [hW2]; exact ((Below.refl _ _).alloc (Nat.le_refl _) _).alloc (by simp) _
      have KT : Hid (Blk W2 w.heap.size 32 #[.int .i64 t.d, .int .i64 t.i]) := by rw [hW2]; exact (Blk.new w _ _).same (Below.heap_alloc _ _ _ (by simp))
      have HO0 : Hid (Own W2 w.heap.size 53 3 VR ([] : List V) (.slice (some ⟨w.heap.size + 1, 0, none⟩) 0 0) []) := by
        rw [hW2]
        have h := Own.made (w.alloc (.cells #[.int .i64 t.d, .int .i64 t.i] 32)) w.heap.size 53 3 VR #[] 0 (by rw [World.size_alloc]; omega) (by simp [maxLen]) rfl
        rw [World.size_alloc] at h
        exact h
      have hs2 : W2.heap.size = w.heap.size + 1 + 1 := by rw [hW2]; simp
      rw [← hW2]
      clear hW2
      have z0 : W2.cell? ⟨w.heap.size, 0, none⟩ = some (.int .i64 t.d) := (KT.out.cell 0).trans (by simp)
      have zl := KT.out.lt
      go_wp2
      clear z0 zl KT
      go_loopw [9, 10] (fun ov iv wr => ∃ k : Nat, ∃ Fo : List Nat, k ≤ 10 ∧ iv = .int .i64 k ∧ Hid (Own wr w.heap.size 53 3 VR (numsL k) ov Fo) ∧ Hid (∀ b ∈ Fo, w.heap.size ≤ b) ∧ Below w.heap.size w wr) (fun _ iv _ => 10 - (intOf iv).toNat)
      case atStart => exact ⟨0, [], by omega, rfl, HO0.out, (fun b hb => by cases hb), hB0⟩
      case round =>
        clear HO0 hB0
        obtain ⟨k, Fo, hk, rfl, HO, HFo, hB⟩ := hrel
        obtain ⟨oA, ocap, hov, -, -⟩ := HO.out.form
        subst hov
        have hkl := numsL_len k
        have hol : (numsL k).length ≤ 10 := by omega
        have HKL := Lib.hid hkl
        clear hkl
        by_cases hk9 : k < 10
        · have g1 : decide ((k : Int) ≤ 9) = true := by simp; omega
          have HS := Lib.hid (numsL_succ k)
          have hbs := hB.size
          go_wp2_with (at_builtin; refine Halt.mk ?_)
          refine Halt.of (wpList_push1 (P := Try.prog) rfl _ _ 39 rfl i0 _ 40 Try.underlying39 HI.out HZ0.out HZ1.out HZ2.out rfl (by decide) VR_len' VR_mono' (by rfl) HO.out (numV k) 53 [.int .i64 (-1), .int .i64 (k : Int), .slice none 0 0] [] _ (by rfl) (by simp) (by simp [Value.oneCell']) (numV_R _ k) (Under.nil _) (fun _ _ h => by cases h) (by unfold maxLen; omega) (by omega) hbs ?_)
          intro g cp w7 hown7 hgr7 hat7
          have hrow := HO.out.row
          have hB7 : Below w.heap.size w w7 := (hB.alloc hB.size _).grown hgr7 (by have := hB.size; simp; omega) (fun g hg => (hrow g (mem_rowOf.2 hg)).1)
          have HO7 := Lib.hid hown7
          clear hown7 hgr7 hat7 hrow
          go_wp2
          go_roundw
          case rel => exact ⟨k + 1, _, by omega, by go_num, (by rw [HS.out]; exact HO7.out), (fun b hb => by rw [List.append_nil] at hb; exact HFo.out b hb), hB7⟩
          case measure => (simp [intOf] <;> omega)
        · have hk10 : k = 10 := by omega
          subst hk10
          have HFin : Hid (AllP (cutV (valsL xs (d + 1) t)) w (.returned (.slice oA (numsL 10).length ocap)) wr) := by rw [HP.out]; exact ⟨_, Fo, rfl, hB, HO.out, HFo.out⟩
          clear HKL hol
          go_wp2
          go_ret
          exact HFin.out
    · have t0 : ((q : Int) == -1) = false := by rw [beq_eq_false_iff_ne]; omega
      have hdn : ¬ (⟨(q : Int), (r : Int)⟩ : Ty).d = -1 := by simp only; omega
      have HDN := Lib.hid hdn
      have HW := Lib.hid hw
      have HT := Lib.hid ht
      have HX := Lib.hid hx
      have HF := Lib.hid hf
      clear hx hf
      clear hw ht hdn
      go_enter Try.func61, Try.ntmps61
      go_wp2_with fail
      obtain ⟨W2, hW2⟩ : ∃ W2, W2 = ((w.alloc (.cells #[.int .i64 (q : Int), .int .i64 (r : Int)] 32)).alloc (.cells #[] 53)) := ⟨_, rfl⟩
      have hB0 : Below w.heap.size w W2 := by rw [hW2]; exact ((Below.refl _ _).alloc (Nat.le_refl _) _).alloc (by simp) _
      have KT : Hid (Blk W2 w.heap.size 32 #[.int .i64 (q : Int), .int .i64 (r : Int)]) := by rw [hW2]; exact (Blk.new w _ _).same (Below.heap_alloc _ _ _ (by simp))
      have HO0 : Hid (Own W2 w.heap.size 53 3 VR ([] : List V) (.slice (some ⟨w.heap.size + 1, 0, none⟩) 0 0) []) := by
        rw [hW2]
        have h := Own.made (w.alloc (.cells #[.int .i64 (q : Int), .int .i64 (r : Int)] 32)) w.heap.size 53 3 VR #[] 0 (by rw [World.size_alloc]; omega) (by simp [maxLen]) rfl
        rw [World.size_alloc] at h
        exact h
      have hs2 : W2.heap.size = w.heap.size + 1 + 1 := by rw [hW2]; simp
      rw [← hW2]
      clear hW2
      have y0 : W2.cell? ⟨w.heap.size, 0, none⟩ = some (.int .i64 (q : Int)) := (KT.out.cell 0).trans (by simp)
      have y1 : W2.cell? ⟨w.heap.size, 1, none⟩ = some (.int .i64 (r : Int)) := (KT.out.cell 1).trans (by simp)
      have ylt := KT.out.lt
      go_wp2_with fail
      refine (spec_l1Ctors xs (⟨(q : Int), (r : Int)⟩ : Ty) W2 _ F (ArrDt.below HX.out hB0 HF.out) (HF.out.mono hB0.size) HW.out HT.out.inWorld).mono ?_
      rintro e w3 ⟨v3, F3, rfl, hb3, ha3, -, hfs3⟩
      have hB3 := hB0.trans (hb3.mono hB0.size)
      have KT3 := Lib.hid (KT.out.same (hb3.block _ KT.out.lt))
      have HO3 := Lib.hid (HO0.out.below (fun x cs G hk h => VR_mono' _ _ x cs G hk h) hb3)
      have HA3 := Lib.hid ha3
      have HU3 := Lib.hid hfs3.under
      have HL3 : Hid (∀ b ∈ F3, w.heap.size + 2 ≤ b) := fun b hb => by have := (hfs3 b hb).1; omega
      have h23 : w.heap.size + 2 ≤ w3.heap.size := by have := hb3.size; omega
      obtain ⟨C3, cap3, rfl, hl1, hl2⟩ := ha3.form
      clear ha3 hfs3 hb3 KT hB0 HO0 hs2 y0 y1 ylt
      go_wp2
      go_loopw [9, 12] (fun ov iv wr => ∃ i : Nat, ∃ Fo : List Nat, i ≤ (ctorsL xs (⟨(q : Int), (r : Int)⟩ : Ty)).length ∧ iv = .int .i64 i ∧ Hid (Own wr w.heap.size 53 3 VR (cutV (valsTo xs d (⟨(q : Int), (r : Int)⟩ : Ty) i)) ov Fo) ∧ Hid (∀ b ∈ Fo, w.heap.size ≤ b) ∧ Hid (∀ g ∈ rowOf ov, g ∈ [w.heap.size + 1] ∨ w3.heap.size ≤ g) ∧ Hid (Chg [w.heap.size + 1] w3 wr)) (fun _ iv _ => (ctorsL xs (⟨(q : Int), (r : Int)⟩ : Ty)).length - (intOf iv).toNat)
      case atStart => exact ⟨0, [], Nat.zero_le _, rfl, (show Own _ _ _ _ _ (cutV (valsTo xs d (⟨(q : Int), (r : Int)⟩ : Ty) 0)) _ _ from HO3.out), (fun b hb => by cases hb), (fun g hg => .inl hg), Chg.refl _ _⟩
      case round =>
        clear HO3
        obtain ⟨i, Fo, hi, rfl, HO, HFo, HRo, HCo⟩ := hrel
        obtain ⟨oA, ocap, hov, -, -⟩ := HO.out.form
        subst hov
        have hol : (cutV (valsTo xs d (⟨(q : Int), (r : Int)⟩ : Ty) i)).length ≤ 401 := cutV_len _
        obtain ⟨wo, hwo⟩ : ∃ wo, wo = wr := ⟨_, rfl⟩
        rw [← hwo] at HO HCo ⊢
        clear hwo
        have hB : Below w.heap.size w wo := hB3.trans (HCo.out.below (fun b hb => by rw [List.mem_singleton] at hb; omega) hB3.size)
        have KTo : Hid (Blk wo w.heap.size 32 #[.int .i64 (q : Int), .int .i64 (r : Int)]) := KT3.out.same (HCo.out.block _ KT3.out.lt (by simp))
        have HEND := Lib.hid (fun h => valsTo_end (xs := xs) (d := d) (t := (⟨(q : Int), (r : Int)⟩ : Ty)) HDN.out (i := i) h)
        by_cases hi2 : i < (ctorsL xs (⟨(q : Int), (r : Int)⟩ : Ty)).length ∧ (cutV (valsTo xs d (⟨(q : Int), (r : Int)⟩ : Ty) i)).length ≤ 400
        · obtain ⟨hil, ho4⟩ := hi2
          have t1 : decide ((i : Int) < ((ctorsL xs (⟨(q : Int), (r : Int)⟩ : Ty)).length : Int)) = true := by simp; omega
          have t2 : decide (((cutV (valsTo xs d (⟨(q : Int), (r : Int)⟩ : Ty) i)).length : Int) ≤ 400) = true := by simp; omega
          have g1 : (0 : Int) ≤ (i : Int) := by omega
          have g2 : (i : Int) < ((ctorsL xs (⟨(q : Int), (r : Int)⟩ : Ty)).length : Int) := by omega
          obtain ⟨b3, off3, rfl⟩ := HA3.out.ptr (by omega)
          obtain ⟨hb3w, c30⟩ := ArrNat.at HA3.out HU3.out (Below.refl _ _) i hil
          have hb3F : w.heap.size + 2 ≤ b3 := by
            obtain ⟨_, _, _, _, e, hb, -⟩ := HA3.out.get (NatR_len _) hil
            cases e; exact HL3.out _ hb
          have c3 := (HCo.out.cell (p := ⟨b3, off3 + i, none⟩) hb3w (by simp; omega)).trans c30
          have hb3l : b3 < wo.heap.size := Nat.lt_of_lt_of_le hb3w HCo.out.size
          obtain ⟨q', m, e1, hkm, hq', hm⟩ := mem_ctorsL HT.out.inWorld (List.getElem_mem hil)
          obtain rfl : q = q' := Int.ofNat.inj e1
          have hme : (ctorsL xs (⟨(q : Int), (r : Int)⟩ : Ty))[i] ∈ (ctorsL xs (⟨(q : Int), (r : Int)⟩ : Ty)) := List.getElem_mem hil
          rw [hkm] at c3 hme
          have hals := argsOf_get (i := (r : Int)) hql hm
          have hca := (HW.out.ctor hql hm).args
          have hst := valsTo_succ xs d (⟨(q : Int), (r : Int)⟩ : Ty) i hil
          rw [hkm] at hst
          have hbc := block_cut xs d (⟨(q : Int), (r : Int)⟩ : Ty) (m : Int) (valsTo xs d (⟨(q : Int), (r : Int)⟩ : Ty) i)
          rw [← hst, hals] at hbc
          have HBC := Lib.hid hbc
          have HTI : Hid (∀ a ∈ argsL xs[q].ctors[m] (r : Int), TyIn xs.length a) := fun a ha => argsOf_in HW.out HT.out hme (by rw [hals]; exact ha)
          have hl3 : (argsL xs[q].ctors[m] (r : Int)).length ≤ 3 := by rw [argsL_len]; exact hca
          have HC3 : Hid (w3.cell? ⟨b3, off3 + i, none⟩ = some (.int .i64 (m : Int))) := by unfold Hid; rw [c30, hkm]
          clear hkm e1 hme hals hst hbc c30
          have y0 : wo.cell? ⟨w.heap.size, 0, none⟩ = some (.int .i64 (q : Int)) := (KTo.out.cell 0).trans (by simp)
          have y1 : wo.cell? ⟨w.heap.size, 1, none⟩ = some (.int .i64 (r : Int)) := (KTo.out.cell 1).trans (by simp)
          have ylt := KTo.out.lt
          go_wp2_with fail
          have hBd : Below w.heap.size w wo.drew := hB.drew
          have HS : Hid (∀ C : World, Below wo.heap.size wo C → (C.cell? ⟨w.heap.size, 0, none⟩ = some (.int .i64 (q : Int)) ∧ C.cell? ⟨w.heap.size, 1, none⟩ = some (.int .i64 (r : Int)) ∧ C.cell? ⟨b3, off3 + i, none⟩ = some (.int .i64 (m : Int)))) := fun C hb => ⟨(hb.cell (ylt)).trans y0, (hb.cell (ylt)).trans y1, (hb.cell (hb3l)).trans c3⟩
          have hC0 : Below wo.heap.size wo wo.drew := (Below.refl _ _).drew
          refine wp_region_B (S := fun w' => w'.cell? ⟨w.heap.size, 0, none⟩ = some (.int .i64 (q : Int)) ∧ w'.cell? ⟨w.heap.size, 1, none⟩ = some (.int .i64 (r : Int)) ∧ w'.cell? ⟨b3, off3 + i, none⟩ = some (.int .i64 (m : Int))) (T := fun _ => True) (d := 99) (by kernel_rfl) ?_
          obtain ⟨wd, hwd⟩ : ∃ X, X = wo.drew := ⟨_, rfl⟩
          rw [← hwd] at hC0 hBd ⊢
          clear hwd
          have hS0 := HS.out _ hC0
          have hT0 : True := trivial
          refine wpAnyB_take (i := 0) (v := ?_) rfl (by decide) (by kernel_rfl) (by kernel_rfl) (by kernel_rfl) (fun _ _ _ h => h) (Or.inl ⟨by rfl, ?hy0⟩) hS0 (fun _ => hT0) ?_
          case hy0 => (intro W hSw; (try dsimp only at hSw); (try obtain ⟨hSw0, hSw1, hSw2⟩ := hSw); go_simp; try with_reducible rfl)
          (try simp only [Act.put, List.getElem_toArray, List.getElem_cons_zero, List.getElem_cons_succ, List.setIfInBounds_toArray, List.set_cons_zero, List.set_cons_succ])
          refine wpAnyB_take (i := 1) (v := ?_) rfl (by decide) (by kernel_rfl) (by kernel_rfl) (by kernel_rfl) (fun _ _ _ h => h) (Or.inl ⟨by rfl, ?hy1⟩) hS0 (fun _ => hT0) ?_
          case hy1 => (intro W hSw; (try dsimp only at hSw); (try obtain ⟨hSw0, hSw1, hSw2⟩ := hSw); go_simp; try with_reducible rfl)
          (try simp only [Act.put, List.getElem_toArray, List.getElem_cons_zero, List.getElem_cons_succ, List.setIfInBounds_toArray, List.set_cons_zero, List.set_cons_succ])
          refine wpAnyB_take (i := 2) (v := ?_) rfl (by decide) (by kernel_rfl) (by kernel_rfl) (by kernel_rfl) (fun _ _ _ h => h) (Or.inl ⟨by rfl, ?hy2⟩) hS0 (fun _ => hT0) ?_
          case hy2 => (intro W hSw; (try dsimp only at hSw); (try obtain ⟨hSw0, hSw1, hSw2⟩ := hSw); go_simp; try with_reducible rfl)
          (try simp only [Act.put, List.getElem_toArray, List.getElem_cons_zero, List.getElem_cons_succ, List.setIfInBounds_toArray, List.set_cons_zero, List.set_cons_succ])
          refine wpAnyB_take (i := 3) (v := ?_) rfl (by decide) (by kernel_rfl) (by kernel_rfl) (by kernel_rfl) (fun _ _ _ h => h) (Or.inl ⟨by rfl, ?hy3⟩) hS0 (fun _ => hT0) ?_
          case hy3 => (intro W hSw; (try dsimp only at hSw); (try obtain ⟨hSw0, hSw1, hSw2⟩ := hSw); go_simp; try with_reducible rfl)
          (try simp only [Act.put, List.getElem_toArray, List.getElem_cons_zero, List.getElem_cons_succ, List.setIfInBounds_toArray, List.set_cons_zero, List.set_cons_succ])
          refine wpAnyB_take (i := 4) (v := ?_) rfl (by decide) (by kernel_rfl) (by kernel_rfl) (by kernel_rfl) (fun _ _ _ h => h) (Or.inl ⟨by rfl, ?hy4⟩) hS0 (fun _ => hT0) ?_
          case hy4 => (intro W hSw; (try dsimp only at hSw); (try obtain ⟨hSw0, hSw1, hSw2⟩ := hSw); go_simp; try with_reducible rfl)
          (try simp only [Act.put, List.getElem_toArray, List.getElem_cons_zero, List.getElem_cons_succ, List.setIfInBounds_toArray, List.set_cons_zero, List.set_cons_succ])
          refine wpAnyB_take (i := 5) (v := ?_) rfl (by decide) (by kernel_rfl) (by kernel_rfl) (by kernel_rfl) (fun _ _ _ h => h) (Or.inl ⟨by rfl, ?hy5⟩) hS0 (fun _ => hT0) ?_
          case hy5 => (intro W hSw; (try dsimp only at hSw); (try obtain ⟨hSw0, hSw1, hSw2⟩ := hSw); go_simp; try with_reducible rfl)
          (try simp only [Act.put, List.getElem_toArray, List.getElem_cons_zero, List.getElem_cons_succ, List.setIfInBounds_toArray, List.set_cons_zero, List.set_cons_succ])
          refine wpAnyB_ready (rs := [6]) (by kernel_rfl) (by simp) ?_
          refine AllReadyB.cons rfl (fun K hK => ?_) AllReadyB.nil
          go_simp
          go_at_call 109
          refine (spec_l1Args xs q m (r : Int) hql hm wd _ F (ArrDt.below HX.out hBd HF.out) (HF.out.mono hBd.size) hca).mono ?_
          rintro e w6 ⟨v6, F6, rfl, hb6, ha6, -, hfs6⟩
          have hC1 : Below wo.heap.size wo w6 := hC0.trans (hb6.mono hC0.size)
          have hS1 := HS.out _ hC1
          (try dsimp only)
          refine hK.out _ _ hS1 (fun _ => trivial) ?_
          clear hK K
          (try simp only [Act.put, List.getElem_toArray, List.getElem_cons_zero, List.getElem_cons_succ, List.setIfInBounds_toArray, List.set_cons_zero, List.set_cons_succ])
          refine wpAnyB_ready (rs := [7]) (by kernel_rfl) (by simp) ?_
          refine AllReadyB.cons rfl (fun K hK => ?_) AllReadyB.nil
          go_simp
          refine hK.out _ _ hS1 (fun _ => trivial) ?_
          clear hK K
          (try simp only [Act.put, List.getElem_toArray, List.getElem_cons_zero, List.getElem_cons_succ, List.setIfInBounds_toArray, List.set_cons_zero, List.set_cons_succ])
          refine wpAnyB_end (by kernel_rfl) ?_
          clear hS0 hS1 hT0
          clear hC0 hBd y0 y1 ylt c3
          have hbo6 : Below wo.heap.size wo w6 := hC1
          have hB6 := hB.trans (hbo6.mono hB.size)
          generalize hass : argsL xs[q].ctors[m] (r : Int) = ls at *
          clear hass hca
          obtain ⟨A6, cap6, rfl, hd3, hd4⟩ := ha6.form
          have HA6 := Lib.hid ha6
          have HU6 := Lib.hid hfs6.under
          clear ha6 hfs6 hb6 hC1
          go_wp2_with fail
          have HL0 : Hid (Own (w6.alloc (.cells #[] 39)) w6.heap.size 39 1 LsR (allTo xs d ls 0) (.slice (some ⟨w6.heap.size, 0, none⟩) 0 0) []) := (show Own _ _ _ _ _ (allTo xs d ls 0) _ _ from Own.made w6 _ _ _ _ _ 0 (Nat.le_refl _) (by simp [maxLen]) rfl)
          have hB67 : Below w6.heap.size w6 (w6.alloc (.cells #[] 39)) := (Below.refl _ _).alloc (Nat.le_refl _) _
          generalize w6.alloc (.cells #[] 39) = w7 at *
          go_loopw [14, 15] (fun lv kv wr => ∃ k : Nat, ∃ Fl : List Nat, k ≤ ls.length ∧ kv = .int .i64 k ∧ Hid (Own wr w6.heap.size 39 1 LsR (allTo xs d ls k) lv Fl) ∧ Hid (∀ b ∈ Fl, w6.heap.size ≤ b) ∧ Below w6.heap.size w6 wr) (fun _ kv _ => ls.length - (intOf kv).toNat)
          case atStart => exact ⟨0, [], Nat.zero_le _, rfl, HL0.out, (fun b hb => by cases hb), hB67⟩
          case round =>
            clear HL0 hB67
            obtain ⟨k, Fl, hk, rfl, HL, HFl, hBr⟩ := hrel
            obtain ⟨lA, lcap, hlv, -, -⟩ := HL.out.form
            subst hlv
            have hal := allTo_len xs d ls k
            have hBw := hB6.trans (hBr.mono hB6.size)
            by_cases hkl : k < ls.length
            · have g3 : (0 : Int) ≤ (k : Int) := by omega
              have g4 : (k : Int) < (ls.length : Int) := by omega
              obtain ⟨b6, off6, rfl⟩ := HA6.out.ptr (by omega)
              obtain ⟨hb6l, a0, a1⟩ := ArrTy.at HA6.out HU6.out hBr k hkl
              have HTJ := Lib.hid (HTI.out ls[k] (List.getElem_mem hkl))
              have HS := Lib.hid (allTo_succ xs d ls k hkl)
              have hmx : (allTo xs d ls k).length + 1 ≤ maxLen := by unfold maxLen; omega
              have hby : ((allTo xs d ls k).length + 1) * 24 ≤ 140737488355328 := by omega
              go_wp2_with fail
              refine (IH.out xs HW.out ls[k] HTJ.out (by omega) wr _ F (ArrDt.below HX.out hBw HF.out) (HF.out.mono hBw.size)).mono ?_
              rintro e w9 ⟨v9, F9, rfl, hb9, ho9, hf9⟩
              obtain ⟨A9, cap9, rfl, -, -⟩ := ho9.form
              have HY9 : Hid (LsR w9 (cutV (valsL xs d ls[k])) [.slice A9 (cutV (valsL xs d ls[k])).length cap9] (if cutV (valsL xs d ls[k]) = [] then [] else rowOf (.slice A9 (cutV (valsL xs d ls[k])).length cap9) ++ F9)) := ⟨_, rfl, ho9.arr⟩
              have HYU : Hid (Fresh wr w9 (if cutV (valsL xs d ls[k]) = [] then [] else rowOf (.slice A9 (cutV (valsL xs d ls[k])).length cap9) ++ F9)) := ho9.fresh (Nat.le_refl _) hf9
              have hB9 := hBr.trans (hb9.mono hBr.size)
              have HL9 := Lib.hid (HL.out.below (fun x cs G hk h => LsR_mono _ _ x cs G hk h) hb9)
              generalize (if cutV (valsL xs d ls[k]) = [] then [] else rowOf (.slice A9 (cutV (valsL xs d ls[k])).length cap9) ++ F9) = G9 at *
              generalize cutV (valsL xs d ls[k]) = cv at *
              clear ho9 hf9 hb9 a0 a1 hb6l
              go_wp2_with (at_builtin; refine Halt.mk ?_)
              refine Halt.of (wpList_push1 (P := Try.prog) rfl _ _ 143 rfl j0 _ 24 Try.underlying143 HJ.out HY0.out HY1.out HY2.out rfl (by decide) LsR_len LsR_mono (by rfl) HL9.out cv 39 [.slice A9 cv.length cap9] G9 _ (by rfl) (by simp) (by simp [Value.oneCell']) HY9.out HYU.out.under (fun g hg hgG => Nat.lt_irrefl _ (Nat.lt_of_lt_of_le (HL.out.row g hg).2 (HYU.out g hgG).1)) hmx hby hB9.size ?_)
              intro g cp w11 hown hgr hat
              have hrow := HL9.out.row
              have hB11 : Below w6.heap.size w6 w11 := (hB9.alloc hB9.size _).grown hgr (by have := hB9.size; simp; omega) (fun g hg => (hrow g (mem_rowOf.2 hg)).1)
              have HL11 := Lib.hid hown
              have HF11 : Hid (∀ b ∈ Fl ++ G9, w6.heap.size ≤ b) := fun b hb => by
                rcases List.mem_append.1 hb with hb | hb
                · exact HFl.out b hb
                · exact Nat.le_trans hBr.size (HYU.out b hb).1
              clear hown hgr hat hrow
              go_wp2
              go_roundw
              case rel => exact ⟨k + 1, _, hkl, by go_num, (by rw [HS.out]; exact HL11.out), HF11.out, hB11⟩
              case measure => (simp [intOf] <;> omega)
            · have hk2 : k = ls.length := by omega
              have hls : (allTo xs d ls k).length ≤ 3 := by omega
              have HPA := Lib.hid (allTo_pairs xs d ls (k := k) (by omega))
              have HLA : Hid (Arr wr (LsR wr) (allTo xs d ls k) (.slice lA (allTo xs d ls k).length lcap) (if allTo xs d ls k = [] then [] else rowOf (.slice lA (allTo xs d ls k).length lcap) ++ Fl)) := HL.out.arr
              have HLF : Hid (Fresh w6 wr (if allTo xs d ls k = [] then [] else rowOf (.slice lA (allTo xs d ls k).length lcap) ++ Fl)) := HL.out.fresh (Nat.le_refl _) HFl.out
              have HE4 : Hid (∀ l ∈ allTo xs d ls k, l.length ≤ 401) := fun l hl => allTo_each xs d ls k l hl
              generalize (if allTo xs d ls k = [] then [] else rowOf (.slice lA (allTo xs d ls k).length lcap) ++ Fl) = FL at *
              generalize allTo xs d ls k = al at *
              clear hk2 hal
              go_wp2_with fail
              refine (spec_l2Lists al hls HE4.out wr _ FL HLA.out HLF.out.under).mono ?_
              rintro e wk ⟨vk, Fk, rfl, hbk, hak, huk, hpk⟩
              rw [HPA.out] at hak
              have hbok : Below wo.heap.size wo wk := hbo6.trans ((hBr.trans (hbk.mono hBr.size)).mono hbo6.size)
              have HKF : Hid (∀ b ∈ Fk, wo.heap.size ≤ b) := fun b hb => by
                rcases hpk b hb with h | h
                · exact Nat.le_trans hbo6.size (HLF.out b h).1
                · exact Nat.le_trans (Nat.le_trans hbo6.size hBr.size) h
              have HKU := Lib.hid huk
              have hkq : (cutV (pairAll (ls.map (valsL xs d)))).length ≤ 401 := cutV_len _
              generalize cutV (pairAll (ls.map (valsL xs d))) = aq at *
              obtain ⟨kA, kcap, rfl, -, -⟩ := hak.form
              have HKA := Lib.hid hak
              have HOk : Hid (Own wk w.heap.size 53 3 VR (fillR (valsTo xs d (⟨(q : Int), (r : Int)⟩ : Ty) i) (m : Int) aq 0) (.slice oA (cutV (valsTo xs d (⟨(q : Int), (r : Int)⟩ : Ty) i)).length ocap) Fo) := by
                rw [fillR_zero]
                exact HO.out.below (fun x cs G hk h => VR_mono' _ _ x cs G hk h) hbok
              have HRR : Hid (∀ g ∈ rowOf (.slice oA (cutV (valsTo xs d (⟨(q : Int), (r : Int)⟩ : Ty) i)).length ocap), (g = w.heap.size + 1 ∨ w3.heap.size ≤ g) ∧ g < wo.heap.size) := fun g hg => ⟨by have := HRo.out g hg; rw [List.mem_singleton] at this; exact this, (HO.out.row g hg).2⟩
              clear hak huk hpk hbk HLA HLF HE4 HL HFl hls
              generalize hrw : rowOf (.slice oA (cutV (valsTo xs d (⟨(q : Int), (r : Int)⟩ : Ty) i)).length ocap) = R0 at *
              have HRW := Lib.hid hrw
              generalize hvp : valsTo xs d (⟨(q : Int), (r : Int)⟩ : Ty) i = vp at *
              clear hrw hvp
              go_wp2
              go_loopw [9, 17] (fun ov kv wr => ∃ k4 : Nat, ∃ Fo : List Nat, k4 ≤ aq.length ∧ kv = .int .i64 k4 ∧ Hid (Own wr w.heap.size 53 3 VR (fillR vp (m : Int) aq k4) ov Fo) ∧ Hid (∀ b ∈ Fo, w.heap.size ≤ b) ∧ Hid (∀ g ∈ rowOf ov, g ∈ R0 ∨ wk.heap.size ≤ g) ∧ Hid (Chg R0 wk wr)) (fun _ kv _ => aq.length - (intOf kv).toNat)
              case atStart => exact ⟨0, Fo, Nat.zero_le _, rfl, HOk.out, HFo.out, (fun g hg => .inl (by rw [← HRW.out]; exact hg)), Chg.refl _ _⟩
              case round =>
                clear HOk HFo HO
                obtain ⟨k4, Fp, hk4, rfl, HO, HFo, HRp, HCk⟩ := hrel
                obtain ⟨fA, fcap, hfv, -, -⟩ := HO.out.form
                subst hfv
                have hfl := fillR_len vp (m : Int) aq k4
                have HEND4 := Lib.hid (fun h => fillR_end (pre := vp) (c := (m : Int)) (all := aq) (k := k4) h)
                have h3k : w3.heap.size ≤ wk.heap.size := Nat.le_trans HCo.out.size hbok.size
                have HR0 : Hid (∀ g ∈ R0, w.heap.size ≤ g) := fun g hg => by have := (HRR.out g hg).1; omega
                by_cases hk2 : k4 < aq.length ∧ (fillR vp (m : Int) aq k4).length ≤ 400
                · obtain ⟨hkl, hf4⟩ := hk2
                  have t3 : decide ((k4 : Int) < (aq.length : Int)) = true := by simp; omega
                  have t4 : decide (((fillR vp (m : Int) aq k4).length : Int) ≤ 400) = true := by simp; omega
                  have g5 : (0 : Int) ≤ (k4 : Int) := by omega
                  have g6 : (k4 : Int) < (aq.length : Int) := by omega
                  obtain ⟨b7, off7, rfl⟩ := HKA.out.ptr (by omega)
                  have hb7F : wo.heap.size ≤ b7 := by
                    obtain ⟨_, _, _, _, e, hb, -⟩ := HKA.out.get (LsR_len _) hkl
                    cases e; exact HKF.out _ hb
                  obtain ⟨pA, pcap, Gp, hb7l, hpc, hpa, hpu, hps⟩ := ArrLs.of HKA.out HKU.out k4 hkl
                  have HFS := Lib.hid (fillR_succ (pre := vp) (c := (m : Int)) hkl hf4)
                  obtain ⟨o, ho⟩ : ∃ u, u = aq[k4] := ⟨_, rfl⟩
                  rw [← ho] at hpc hpa HFS
                  have c7r : wr.cell? ⟨b7, off7 + k4, none⟩ = some (.slice pA o.length pcap) := (HCk.out.cell (p := ⟨b7, off7 + k4, none⟩) hb7l (fun h => by have := (HRR.out _ h).2; simp only at this; omega)).trans (hpc wk (Below.refl _ _))
                  have c3r : wr.cell? ⟨b3, off3 + i, none⟩ = some (.int .i64 (m : Int)) := by
                    have h1 := (HCo.out.cell (p := ⟨b3, off3 + i, none⟩) hb3w (by simp; omega)).trans HC3.out
                    exact (HCk.out.cell (p := ⟨b3, off3 + i, none⟩) (Nat.lt_of_lt_of_le hb3l hbok.size) (fun h => by have := (HRR.out _ h).1; simp only at this; omega)).trans ((hbok.cell (p := ⟨b3, off3 + i, none⟩) hb3l).trans h1)
                  have l7r : b7 < wr.heap.size := Nat.lt_of_lt_of_le hb7l HCk.out.size
                  have l3r : b3 < wr.heap.size := Nat.lt_of_lt_of_le hb3l (Nat.le_trans hbok.size HCk.out.size)
                  have hpr : Arr wr (VR wr) o (.slice pA o.length pcap) Gp := ArrV.mono hpa (HCk.out.kept hpu (fun b hb h => by have h1 := HKF.out b (hps b hb); have h2 := (HRR.out b h).2; omega))
                  have HYR : Hid (VR wr ⟨(m : Int), 0, o⟩ [.int .i64 (m : Int), .int .i64 0, .slice pA o.length pcap] Gp) := (VR_iff _ _ _).2 ⟨_, rfl, hpr⟩
                  have HYU : Hid (Under wr.heap.size Gp) := hpu.mono HCk.out.size
                  have HYN : Hid (∀ g ∈ rowOf (.slice fA (fillR vp (m : Int) aq k4).length fcap), g ∉ Gp) := fun g hg hgG => by
                    rcases HRp.out g hg with h | h
                    · have h1 := HKF.out g (hps g hgG); have h2 := (HRR.out g h).2; omega
                    · have h1 := hpu g hgG; omega
                  have HYF : Hid (∀ b ∈ Fp ++ Gp, w.heap.size ≤ b) := fun b hb => by
                    rcases List.mem_append.1 hb with hb | hb
                    · exact HFo.out b hb
                    · exact Nat.le_trans hB.size (HKF.out b (hps b hb))
                  have hBr : Below w.heap.size w wr := (hB.trans (hbok.mono hB.size)).trans (HCk.out.below HR0.out (Nat.le_trans hB.size hbok.size))
                  have hmx : (fillR vp (m : Int) aq k4).length + 1 ≤ maxLen := by unfold maxLen; omega
                  have hby : ((fillR vp (m : Int) aq k4).length + 1) * 40 ≤ 140737488355328 := by omega
                  clear ho hpc hpa hpu hps hpr
                  go_wp2_with fail
                  have HS : Hid (∀ C : World, Below wr.heap.size wr C → (C.cell? ⟨b3, off3 + i, none⟩ = some (.int .i64 (m : Int)) ∧ C.cell? ⟨b7, off7 + k4, none⟩ = some (.slice pA o.length pcap))) := fun C hb => ⟨(hb.cell (l3r)).trans c3r, (hb.cell (l7r)).trans c7r⟩
                  have hC0 : Below wr.heap.size wr wr.drew := (Below.refl _ _).drew
                  refine wp_region_B (S := fun w' => w'.cell? ⟨b3, off3 + i, none⟩ = some (.int .i64 (m : Int)) ∧ w'.cell? ⟨b7, off7 + k4, none⟩ = some (.slice pA o.length pcap)) (T := fun _ => True) (d := 99) (by kernel_rfl) ?_
                  obtain ⟨wd, hwd⟩ : ∃ X, X = wr.drew := ⟨_, rfl⟩
                  rw [← hwd] at hC0  ⊢
                  clear hwd
                  have hS0 := HS.out _ hC0
                  have hT0 : True := trivial
                  refine wpAnyB_take (i := 0) (v := ?_) rfl (by decide) (by kernel_rfl) (by kernel_rfl) (by kernel_rfl) (fun _ _ _ h => h) (Or.inl ⟨by rfl, ?hy0⟩) hS0 (fun _ => hT0) ?_
                  case hy0 => (intro W hSw; (try dsimp only at hSw); (try obtain ⟨hSw0, hSw1⟩ := hSw); go_simp; try with_reducible rfl)
                  (try simp only [Act.put, List.getElem_toArray, List.getElem_cons_zero, List.getElem_cons_succ, List.setIfInBounds_toArray, List.set_cons_zero, List.set_cons_succ])
                  refine wpAnyB_take (i := 1) (v := ?_) rfl (by decide) (by kernel_rfl) (by kernel_rfl) (by kernel_rfl) (fun _ _ _ h => h) (Or.inl ⟨by rfl, ?hy1⟩) hS0 (fun _ => hT0) ?_
                  case hy1 => (intro W hSw; (try dsimp only at hSw); (try obtain ⟨hSw0, hSw1⟩ := hSw); go_simp; try with_reducible rfl)
                  (try simp only [Act.put, List.getElem_toArray, List.getElem_cons_zero, List.getElem_cons_succ, List.setIfInBounds_toArray, List.set_cons_zero, List.set_cons_succ])
                  refine wpAnyB_take (i := 2) (v := ?_) rfl (by decide) (by kernel_rfl) (by kernel_rfl) (by kernel_rfl) (fun _ _ _ h => h) (Or.inl ⟨by rfl, ?hy2⟩) hS0 (fun _ => hT0) ?_
                  case hy2 => (intro W hSw; (try dsimp only at hSw); (try obtain ⟨hSw0, hSw1⟩ := hSw); go_simp; try with_reducible rfl)
                  (try simp only [Act.put, List.getElem_toArray, List.getElem_cons_zero, List.getElem_cons_succ, List.setIfInBounds_toArray, List.set_cons_zero, List.set_cons_succ])
                  refine wpAnyB_take (i := 3) (v := ?_) rfl (by decide) (by kernel_rfl) (by kernel_rfl) (by kernel_rfl) (fun _ _ _ h => h) (Or.inl ⟨by rfl, ?hy3⟩) hS0 (fun _ => hT0) ?_
                  case hy3 => (intro W hSw; (try dsimp only at hSw); (try obtain ⟨hSw0, hSw1⟩ := hSw); go_simp; try with_reducible rfl)
                  (try simp only [Act.put, List.getElem_toArray, List.getElem_cons_zero, List.getElem_cons_succ, List.setIfInBounds_toArray, List.set_cons_zero, List.set_cons_succ])
                  refine wpAnyB_take (i := 4) (v := ?_) rfl (by decide) (by kernel_rfl) (by kernel_rfl) (by kernel_rfl) (fun _ _ _ h => h) (Or.inl ⟨by rfl, ?hy4⟩) hS0 (fun _ => hT0) ?_
                  case hy4 => (intro W hSw; (try dsimp only at hSw); (try obtain ⟨hSw0, hSw1⟩ := hSw); go_simp; try with_reducible rfl)
                  (try simp only [Act.put, List.getElem_toArray, List.getElem_cons_zero, List.getElem_cons_succ, List.setIfInBounds_toArray, List.set_cons_zero, List.set_cons_succ])
                  refine wpAnyB_take (i := 5) (v := ?_) rfl (by decide) (by kernel_rfl) (by kernel_rfl) (by kernel_rfl) (fun _ _ _ h => h) (Or.inl ⟨by rfl, ?hy5⟩) hS0 (fun _ => hT0) ?_
                  case hy5 => (intro W hSw; (try dsimp only at hSw); (try obtain ⟨hSw0, hSw1⟩ := hSw); go_simp; try with_reducible rfl)
                  (try simp only [Act.put, List.getElem_toArray, List.getElem_cons_zero, List.getElem_cons_succ, List.setIfInBounds_toArray, List.set_cons_zero, List.set_cons_succ])
                  refine wpAnyB_take (i := 6) (v := ?_) rfl (by decide) (by kernel_rfl) (by kernel_rfl) (by kernel_rfl) (fun _ _ _ h => h) (Or.inl ⟨by rfl, ?hy6⟩) hS0 (fun _ => hT0) ?_
                  case hy6 => (intro W hSw; (try dsimp only at hSw); (try obtain ⟨hSw0, hSw1⟩ := hSw); go_simp; try with_reducible rfl)
                  (try simp only [Act.put, List.getElem_toArray, List.getElem_cons_zero, List.getElem_cons_succ, List.setIfInBounds_toArray, List.set_cons_zero, List.set_cons_succ])
                  refine wpAnyB_take (i := 7) (v := ?_) rfl (by decide) (by kernel_rfl) (by kernel_rfl) (by kernel_rfl) (fun _ _ _ h => h) (Or.inl ⟨by rfl, ?hy7⟩) hS0 (fun _ => hT0) ?_
                  case hy7 => (intro W hSw; (try dsimp only at hSw); (try obtain ⟨hSw0, hSw1⟩ := hSw); go_simp; try with_reducible rfl)
                  (try simp only [Act.put, List.getElem_toArray, List.getElem_cons_zero, List.getElem_cons_succ, List.setIfInBounds_toArray, List.set_cons_zero, List.set_cons_succ])
                  refine wpAnyB_take (i := 8) (v := ?_) rfl (by decide) (by kernel_rfl) (by kernel_rfl) (by kernel_rfl) (fun _ _ _ h => h) (Or.inl ⟨by rfl, ?hy8⟩) hS0 (fun _ => hT0) ?_
                  case hy8 => (intro W hSw; (try dsimp only at hSw); (try obtain ⟨hSw0, hSw1⟩ := hSw); go_simp; try with_reducible rfl)
                  (try simp only [Act.put, List.getElem_toArray, List.getElem_cons_zero, List.getElem_cons_succ, List.setIfInBounds_toArray, List.set_cons_zero, List.set_cons_succ])

                  refine wpAnyB_take (i := 9) (v := ?_) rfl (by decide) (by kernel_rfl) (by kernel_rfl) (by kernel_rfl) (fun _ _ _ h => h) (Or.inl ⟨by rfl, ?hy9⟩) hS0 (fun _ => hT0) ?_
                  case hy9 => (intro W hSw; (try dsimp only at hSw); (try obtain ⟨hSw0, hSw1⟩ := hSw); go_simp; try with_reducible rfl)
                  (try simp only [Act.put, List.getElem_toArray, List.getElem_cons_zero, List.getElem_cons_succ, List.setIfInBounds_toArray, List.set_cons_zero, List.set_cons_succ])
                  refine wpAnyB_ready (rs := [10]) (by kernel_rfl) (by simp) ?_
                  refine AllReadyB.cons rfl (fun K hK => ?_) AllReadyB.nil
                  go_simp
                  have HOd : Hid (Own wd w.heap.size 53 3 VR (fillR vp (m : Int) aq k4) (.slice fA (fillR vp (m : Int) aq k4).length fcap) Fp) := HO.out.below (fun x cs G hk h => VR_mono' _ _ x cs G hk h) hC0
                  have HYRd : Hid (VR wd ⟨(m : Int), 0, o⟩ [.int .i64 (m : Int), .int .i64 0, .slice pA o.length pcap] Gp) := HYR.out.below hC0 HYU.out
                  have hwdw : w.heap.size ≤ wd.heap.size := Nat.le_trans hBr.size hC0.size
                  (try dsimp only)
                  refine hK.out _ _ (HS.out _ (hC0.alloc hC0.size _)) (fun _ => trivial) ?_
                  clear hK K
                  (try simp only [Act.put, List.getElem_toArray, List.getElem_cons_zero, List.getElem_cons_succ, List.setIfInBounds_toArray, List.set_cons_zero, List.set_cons_succ])
                  refine wpAnyB_ready (rs := [11]) (by kernel_rfl) (by simp) ?_
                  refine AllReadyB.cons rfl (fun K hK => ?_) AllReadyB.nil
                  refine step_push1 (P := Try.prog) rfl _ _ 39 rfl i0 _ 40 Try.underlying39 HI.out HZ0.out HZ1.out HZ2.out rfl (by decide) VR_len' VR_mono' (by rfl) HOd.out ⟨(m : Int), 0, o⟩ 53 [.int .i64 (m : Int), .int .i64 0, .slice pA o.length pcap] Gp wd.heap.size (by rfl) rfl (by simp [Value.oneCell']) HYRd.out (HYU.out.mono hC0.size) HYN.out hmx hby hwdw ?_
                  intro g10 cp10 C5 hown5 hgr5 hat5
                  have hrow := HOd.out.row
                  have HC5 : Hid (Chg R0 wk C5) := ((HCk.out.step hC0).step ((Below.refl _ _).alloc (Nat.le_refl _) _)).grown hgr5 (fun g hg => HRp.out g hg)
                  have hne : ∀ b, wo.heap.size ≤ b ∨ (w.heap.size + 2 ≤ b ∧ b < w3.heap.size) → b < wk.heap.size → b ∉ R0 := fun b h1 h2 h3 => by
                    have := HRR.out b h3
                    omega
                  have hS5 : C5.cell? ⟨b3, off3 + i, none⟩ = some (.int .i64 (m : Int)) ∧ C5.cell? ⟨b7, off7 + k4, none⟩ = some (.slice pA o.length pcap) := ⟨(HC5.out.cell (p := ⟨b3, off3 + i, none⟩) (Nat.lt_of_lt_of_le hb3l hbok.size) (hne b3 (.inr ⟨hb3F, hb3w⟩) (Nat.lt_of_lt_of_le hb3l hbok.size))).trans ((HCk.out.cell (p := ⟨b3, off3 + i, none⟩) (Nat.lt_of_lt_of_le hb3l hbok.size) (hne b3 (.inr ⟨hb3F, hb3w⟩) (Nat.lt_of_lt_of_le hb3l hbok.size))).symm.trans c3r), (HC5.out.cell (p := ⟨b7, off7 + k4, none⟩) hb7l (hne b7 (.inl hb7F) hb7l)).trans ((HCk.out.cell (p := ⟨b7, off7 + k4, none⟩) hb7l (hne b7 (.inl hb7F) hb7l)).symm.trans c7r)⟩
                  have HO5 := Lib.hid hown5
                  have HR5 : Hid (∀ g ∈ rowOf (.slice (some ⟨g10, 0, none⟩) ((fillR vp (m : Int) aq k4).length + 1) cp10), g ∈ R0 ∨ wk.heap.size ≤ g) := fun g hg => by
                    rw [rowOf_some, List.mem_singleton] at hg
                    rcases hat5 with h1 | h1
                    · exact HRp.out g (mem_rowOf.2 (by rw [h1, hg]))
                    · have := HCk.out.size; have := hC0.size; right; omega
                  clear hown5 hgr5 hat5 hrow hne
                  (try dsimp only)
                  refine hK.out _ _ (hS5) (fun _ => trivial) ?_
                  clear hK K
                  (try simp only [Act.put, List.getElem_toArray, List.getElem_cons_zero, List.getElem_cons_succ, List.setIfInBounds_toArray, List.set_cons_zero, List.set_cons_succ])
                  refine wpAnyB_take (i := 12) (v := ?_) rfl (by decide) (by kernel_rfl) (by kernel_rfl) (by kernel_rfl) (fun _ _ _ h => h) (Or.inl ⟨by rfl, ?hy12⟩) hS5 (fun _ => hT0) ?_
                  case hy12 => (intro W hSw; (try dsimp only at hSw); (try obtain ⟨hSw0, hSw1⟩ := hSw); go_simp; try with_reducible rfl)
                  (try simp only [Act.put, List.getElem_toArray, List.getElem_cons_zero, List.getElem_cons_succ, List.setIfInBounds_toArray, List.set_cons_zero, List.set_cons_succ])
                  refine wpAnyB_end (by kernel_rfl) ?_
                  clear hS5 hS0 hT0 c3r c7r
                  go_wp2
                  go_roundw
                  case rel => exact ⟨k4 + 1, _, hkl, by go_num, (by rw [HFS.out]; exact HO5.out), HYF.out, HR5.out, HC5.out⟩
                  case measure => (simp [intOf] <;> omega)
                · have HON : Hid (Own wr w.heap.size 53 3 VR (cutV (valsTo xs d (⟨(q : Int), (r : Int)⟩ : Ty) (i + 1))) (.slice fA (fillR vp (m : Int) aq k4).length fcap) Fp) := by
                    rw [← HBC.out, ← HEND4.out hk2]; exact HO.out
                  have HRN : Hid (∀ g ∈ rowOf (.slice fA (fillR vp (m : Int) aq k4).length fcap), g ∈ [w.heap.size + 1] ∨ w3.heap.size ≤ g) := fun g hg => by
                    rcases HRp.out g hg with h | h
                    · rcases (HRR.out g h).1 with h1 | h1
                      · exact .inl (by rw [List.mem_singleton]; exact h1)
                      · exact .inr h1
                    · exact .inr (Nat.le_trans h3k h)
                  have HCN : Hid (Chg [w.heap.size + 1] w3 wr) := (HCo.out.step hbok).trans_low HCk.out (fun g hg => by
                    rcases (HRR.out g hg).1 with h1 | h1
                    · exact .inl (by rw [List.mem_singleton]; exact h1)
                    · exact .inr h1)
                  by_cases hkl : k4 < aq.length
                  · have t3 : decide ((k4 : Int) < (aq.length : Int)) = true := by simp; omega
                    have t4 : decide (((fillR vp (m : Int) aq k4).length : Int) ≤ 400) = false := by simp; omega
                    go_wp2
                    go_roundw
                    case rel => exact ⟨i + 1, Fp, hil, by go_num, HON.out, HFo.out, HRN.out, HCN.out⟩
                    case measure => (simp [intOf] <;> omega)
                  · have t3 : decide ((k4 : Int) < (aq.length : Int)) = false := by simp; omega
                    go_wp2
                    go_roundw
                    case rel => exact ⟨i + 1, Fp, hil, by go_num, HON.out, HFo.out, HRN.out, HCN.out⟩
                    case measure => (simp [intOf] <;> omega)
        · have HFin : Hid (AllP (cutV (valsL xs (d + 1) (⟨(q : Int), (r : Int)⟩ : Ty))) w (.returned (.slice oA (cutV (valsTo xs d (⟨(q : Int), (r : Int)⟩ : Ty) i)).length ocap)) wo) := by rw [← HEND.out hi2]; exact ⟨_, Fo, rfl, hB, HO.out, HFo.out⟩
          by_cases hil : i < (ctorsL xs (⟨(q : Int), (r : Int)⟩ : Ty)).length
          · have t1 : decide ((i : Int) < ((ctorsL xs (⟨(q : Int), (r : Int)⟩ : Ty)).length : Int)) = true := by simp; omega
            have t2 : decide (((cutV (valsTo xs d (⟨(q : Int), (r : Int)⟩ : Ty) i)).length : Int) ≤ 400) = false := by simp; omega
            go_wp2
            go_ret
            exact HFin.out
          · have t1 : decide ((i : Int) < ((ctorsL xs (⟨(q : Int), (r : Int)⟩ : Ty)).length : Int)) = false := by simp; omega
            go_wp2
            go_ret
            exact HFin.out
end Go.Proofs.Ytilndhmegaccmaa

namespace Go.Proofs.Ytilndhmegaccmaa
open Go.RowKit

set_option maxRecDepth 100000 in
set_option maxHeartbeats 1600000 in
theorem spec_l2Copy_of (v : V) (ih : ∀ k ∈ v.ks, CopyV 62 k) : CopyV 62 v := by
  intro w cs G hv hg hz
  obtain ⟨kv, rfl, ha⟩ := (VR_iff _ _ _).1 hv
  obtain ⟨A4, cap4, rfl, hc3, hc4⟩ := ha.form
  obtain ⟨i0, hi, hz0, hz1, hz2⟩ := info_parts info_VE
  have IH := Lib.hid ih
  have HI := Lib.hid hi
  have HZ0 := Lib.hid hz0
  have HZ1 := Lib.hid hz1
  have HZ2 := Lib.hid hz2
  have HA := Lib.hid ha
  have HG := Lib.hid hg
  clear hi hz0 hz1 hz2 ha hg
  have hzk : V.sizes v.ks ≤ 1048576 := by obtain ⟨c, n, ks⟩ := v; exact hz
  have hkl : v.ks.length ≤ 1048576 := by rw [V.sizes_eq] at hzk; omega
  have HZ := Lib.hid hzk
  clear ih hv hz hzk
  have hB0 : Below w.heap.size w (((w.alloc (.cells #[.int .i64 v.c, .int .i64 v.n, .slice A4 v.ks.length cap4] 53)).alloc (.cells #[.int .i64 0, .int .i64 0, .slice none 0 0] 53)).alloc (.cells #[.int .i64 v.c, .int .i64 v.n, .slice none 0 0] 53)) := (((Below.refl _ _).alloc (Nat.le_refl _) _).alloc (by simp) _).alloc (by simp; omega) _
  have K0 : Hid (Blk (((w.alloc (.cells #[.int .i64 v.c, .int .i64 v.n, .slice A4 v.ks.length cap4] 53)).alloc (.cells #[.int .i64 0, .int .i64 0, .slice none 0 0] 53)).alloc (.cells #[.int .i64 v.c, .int .i64 v.n, .slice none 0 0] 53)) (w.heap.size + 2) 53 #[.int .i64 v.c, .int .i64 v.n, .slice none 0 0]) := by
    have h := Blk.new ((w.alloc (.cells #[.int .i64 v.c, .int .i64 v.n, .slice A4 v.ks.length cap4] 53)).alloc (.cells #[.int .i64 0, .int .i64 0, .slice none 0 0] 53)) 53 #[.int .i64 v.c, .int .i64 v.n, .slice none 0 0]
    rw [show ((w.alloc (.cells #[.int .i64 v.c, .int .i64 v.n, .slice A4 v.ks.length cap4] 53)).alloc (.cells #[.int .i64 0, .int .i64 0, .slice none 0 0] 53)).heap.size = w.heap.size + 2 from by simp] at h
    exact h
  have R0 : Hid (Blk (((w.alloc (.cells #[.int .i64 v.c, .int .i64 v.n, .slice A4 v.ks.length cap4] 53)).alloc (.cells #[.int .i64 0, .int .i64 0, .slice none 0 0] 53)).alloc (.cells #[.int .i64 v.c, .int .i64 v.n, .slice none 0 0] 53)) (w.heap.size + 1) 53 #[.int .i64 0, .int .i64 0, .slice none 0 0]) := by
    have h := Blk.new (w.alloc (.cells #[.int .i64 v.c, .int .i64 v.n, .slice A4 v.ks.length cap4] 53)) 53 #[.int .i64 0, .int .i64 0, .slice none 0 0]
    rw [World.size_alloc] at h
    exact h.same (Below.heap_alloc _ _ _ (by simp))
  have V0 : Hid (Blk (((w.alloc (.cells #[.int .i64 v.c, .int .i64 v.n, .slice A4 v.ks.length cap4] 53)).alloc (.cells #[.int .i64 0, .int .i64 0, .slice none 0 0] 53)).alloc (.cells #[.int .i64 v.c, .int .i64 v.n, .slice none 0 0] 53)) w.heap.size 53 #[.int .i64 v.c, .int .i64 v.n, .slice A4 v.ks.length cap4]) := ((Blk.new w _ _).same (Below.heap_alloc _ _ _ (by simp))).same (Below.heap_alloc _ _ _ (by simp; omega))
  have hs0 : (((w.alloc (.cells #[.int .i64 v.c, .int .i64 v.n, .slice A4 v.ks.length cap4] 53)).alloc (.cells #[.int .i64 0, .int .i64 0, .slice none 0 0] 53)).alloc (.cells #[.int .i64 v.c, .int .i64 v.n, .slice none 0 0] 53)).heap.size = w.heap.size + 2 + 1 := by simp
  go_enter Try.func62, Try.ntmps62
  go_wp2_with fail
  obtain ⟨w9, hw9⟩ : ∃ w9, w9 = (((w.alloc (.cells #[.int .i64 v.c, .int .i64 v.n, .slice A4 v.ks.length cap4] 53)).alloc (.cells #[.int .i64 0, .int .i64 0, .slice none 0 0] 53)).alloc (.cells #[.int .i64 v.c, .int .i64 v.n, .slice none 0 0] 53)) := ⟨_, rfl⟩
  rw [← hw9] at hB0 K0 V0 R0 hs0 ⊢
  clear hw9
  have y2 : w9.cell? ⟨w.heap.size, 2, none⟩ = some (.slice A4 v.ks.length cap4) := (V0.out.cell 2).trans (by simp)
  have vlt : w.heap.size < w9.heap.size := V0.out.lt
  go_wp2
  clear y2 vlt
  go_loopw [4] (fun iv wr => ∃ i : Nat, ∃ kv : Value, ∃ Fk : List Nat, i ≤ v.ks.length ∧ iv = .int .i64 i ∧ Hid (Blk wr (w.heap.size + 2) 53 #[.int .i64 v.c, .int .i64 v.n, kv]) ∧ Hid (Own wr (w.heap.size + 2 + 1) 53 3 VR (kidTo v.ks i) kv Fk) ∧ Hid (Free wr Fk) ∧ Hid (∀ b ∈ Fk, w.heap.size + 2 + 1 ≤ b) ∧ Hid (Chg [w.heap.size + 2] w9 wr) ∧ Below w.heap.size w wr ∧ w9.heap.size ≤ wr.heap.size) (fun iv _ => v.ks.length - (intOf iv).toNat)
  case atStart => exact ⟨0, _, [], Nat.zero_le _, rfl, K0, (show Own _ _ _ _ _ (kidTo v.ks 0) _ _ from Own.nil _ _ _ _ _), Free.nil _, (fun b hb => by cases hb), Chg.refl _ _, hB0, Nat.le_refl _⟩
  case round =>
    clear hB0 K0
    obtain ⟨i, kv, Fk, hi, rfl, KD, HO, HFk, HFh, HC, hB, hws⟩ := hrel
    obtain ⟨kA, kcap, hkv, hkc1, hkc2⟩ := HO.out.form
    subst hkv
    have klt := KD.out.lt
    have V9 := Lib.hid (V0.out.same (HC.out.block _ V0.out.lt (by simp)))
    have y2 : wr.cell? ⟨w.heap.size, 2, none⟩ = some (.slice A4 v.ks.length cap4) := (V9.out.cell 2).trans (by simp)
    have vlt : w.heap.size < wr.drew.heap.size := V9.out.lt
    by_cases hil : i < v.ks.length
    · obtain ⟨b4, off4, rfl⟩ := HA.out.ptr (by omega)
      have hb4w : b4 < w.heap.size := by obtain ⟨_, _, _, _, e, hb, -⟩ := HA.out.get VR_len hil; cases e; exact HG.out _ hb
      obtain ⟨A7, cap7, G7, hb7, k0, k1, k2, HV7, HG7, -, -, -⟩ := ArrV.at HA.out HG.out hB i hil
      have g1 : (0 : Int) ≤ (i : Int) := by omega
      have g2 : (i : Int) < (v.ks.length : Int) := by omega
      have hkk := kidTo_len v.ks i
      have HKS : Hid (v.ks[i].size ≤ 1048576) := by have h1 := V.sizes_mem2 v.ks i hil; have h2 := HZ.out; unfold Hid; omega
      have hmx : (kidTo v.ks i).length + 1 ≤ maxLen := by unfold maxLen; omega
      have hby : ((kidTo v.ks i).length + 1) * 40 ≤ 140737488355328 := by omega
      have zT : wr.drew.cell? ⟨w.heap.size + 2, 2, none⟩ = some (.slice kA (kidTo v.ks i).length kcap) := (KD.out.cell 2).trans (by simp)
      have zfT : wr.drew.frozen? ⟨w.heap.size + 2, 2, none⟩ = false := KD.out.frozen 2
      have hkT : w.heap.size + 2 < wr.drew.heap.size := klt
      have hb7' : b4 < wr.drew.heap.size := hb7
      have HBk : Hid (Below wr.heap.size wr wr.drew) := (Below.refl _ _).drew
      have HCALL := Lib.hid (IH.out v.ks[i] (List.getElem_mem hil) wr.drew _ G7 (HV7.out.below hB.drew HG7.out) (HG7.out.mono hB.drew.size) HKS.out)
      go_wp2_with fail
      refine wp_region_B (S := fun w' => w'.cell? ⟨w.heap.size, 2, none⟩ = some (.slice (some ⟨b4, off4, none⟩) v.ks.length cap4) ∧ w'.cell? ⟨b4, off4 + i * 3, none⟩ = some (.int .i64 v.ks[i].c) ∧ w'.cell? ⟨b4, off4 + i * 3 + 1, none⟩ = some (.int .i64 v.ks[i].n) ∧ w'.cell? ⟨b4, off4 + i * 3 + 2, none⟩ = some (.slice A7 v.ks[i].ks.length cap7)) (T := fun w' => w'.cell? ⟨w.heap.size + 2, 2, none⟩ = some (.slice kA (kidTo v.ks i).length kcap)) (d := 9) (by kernel_rfl) ?_
      have hS1 : wr.drew.cell? ⟨w.heap.size, 2, none⟩ = some (.slice (some ⟨b4, off4, none⟩) v.ks.length cap4) ∧ wr.drew.cell? ⟨b4, off4 + i * 3, none⟩ = some (.int .i64 v.ks[i].c) ∧ wr.drew.cell? ⟨b4, off4 + i * 3 + 1, none⟩ = some (.int .i64 v.ks[i].n) ∧ wr.drew.cell? ⟨b4, off4 + i * 3 + 2, none⟩ = some (.slice A7 v.ks[i].ks.length cap7) := ⟨y2, k0, k1, k2⟩
      have hT1 : wr.drew.cell? ⟨w.heap.size + 2, 2, none⟩ = some (.slice kA (kidTo v.ks i).length kcap) := zT
      refine wpAnyB_take (i := 0) (v := ?_) rfl (by decide) (by kernel_rfl) (by kernel_rfl) (by kernel_rfl) (fun _ _ _ h => h) (Or.inl ⟨by rfl, ?hy0⟩) hS1 (fun _ => hT1) ?_
      case hy0 => (intro W hSw; (try dsimp only at hSw); (obtain ⟨s0, s1, s2, s3⟩ := hSw); go_simp; try with_reducible rfl)
      (try simp only [Act.put, List.setIfInBounds_toArray, List.set_cons_zero, List.set_cons_succ])
      refine wpAnyB_takeB (i := 1) (v := ?_) rfl (by decide) rfl (by kernel_rfl) (by kernel_rfl) (by kernel_rfl) (by kernel_rfl) (fun _ _ _ h => h) (Or.inl ⟨by rfl, ?hy1⟩) (by rfl) hS1 hT1 ?_
      case hy1 => (intro W hSw; (try dsimp only at hSw); (obtain ⟨⟨s0, s1, s2, s3⟩, tT⟩ := hSw); go_simp; try with_reducible rfl)
      (try simp only [Act.put, List.setIfInBounds_toArray, List.set_cons_zero, List.set_cons_succ])
      refine wpAnyB_take (i := 2) (v := ?_) rfl (by decide) (by kernel_rfl) (by kernel_rfl) (by kernel_rfl) (fun _ _ _ h => h) (Or.inl ⟨by rfl, ?hy2⟩) hS1 (fun _ => hT1) ?_
      case hy2 => (intro W hSw; (try dsimp only at hSw); (obtain ⟨s0, s1, s2, s3⟩ := hSw); go_simp; try with_reducible rfl)
      (try simp only [Act.put, List.setIfInBounds_toArray, List.set_cons_zero, List.set_cons_succ])
      refine wpAnyB_take (i := 3) (v := ?_) rfl (by decide) (by kernel_rfl) (by kernel_rfl) (by kernel_rfl) (fun _ _ _ h => h) (Or.inl ⟨by rfl, ?hy3⟩) hS1 (fun _ => hT1) ?_
      case hy3 => (intro W hSw; (try dsimp only at hSw); (obtain ⟨s0, s1, s2, s3⟩ := hSw); go_simp; try with_reducible rfl)
      (try simp only [Act.put, List.setIfInBounds_toArray, List.set_cons_zero, List.set_cons_succ])
      refine wpAnyB_take (i := 4) (v := ?_) rfl (by decide) (by kernel_rfl) (by kernel_rfl) (by kernel_rfl) (fun _ _ _ h => h) (Or.inl ⟨by rfl, ?hy4⟩) hS1 (fun _ => hT1) ?_
      case hy4 => (intro W hSw; (try dsimp only at hSw); (obtain ⟨s0, s1, s2, s3⟩ := hSw); go_simp; try with_reducible rfl)
      (try simp only [Act.put, List.setIfInBounds_toArray, List.set_cons_zero, List.set_cons_succ])
      refine wpAnyB_take (i := 5) (v := ?_) rfl (by decide) (by kernel_rfl) (by kernel_rfl) (by kernel_rfl) (fun _ _ _ h => h) (Or.inl ⟨by rfl, ?hy5⟩) hS1 (fun _ => hT1) ?_
      case hy5 => (intro W hSw; (try dsimp only at hSw); (obtain ⟨s0, s1, s2, s3⟩ := hSw); go_simp; try with_reducible rfl)
      (try simp only [Act.put, List.setIfInBounds_toArray, List.set_cons_zero, List.set_cons_succ])
      refine wpAnyB_take (i := 6) (v := ?_) rfl (by decide) (by kernel_rfl) (by kernel_rfl) (by kernel_rfl) (fun _ _ _ h => h) (Or.inl ⟨by rfl, ?hy6⟩) hS1 (fun _ => hT1) ?_
      case hy6 => (intro W hSw; (try dsimp only at hSw); (obtain ⟨s0, s1, s2, s3⟩ := hSw); go_simp; try with_reducible rfl)
      (try simp only [Act.put, List.setIfInBounds_toArray, List.set_cons_zero, List.set_cons_succ])
      refine wpAnyB_ready (rs := [7]) (by kernel_rfl) (by simp) ?_
      refine AllReadyB.cons rfl (fun K hK => ?_) AllReadyB.nil
      go_simp
      go_at_call 62
      with_reducible refine HCALL.out.mono ?_
      rintro e wA ⟨csA, FA, rfl, hbA, hpA, hfrA, hfsA⟩
      obtain ⟨kvA, rfl, haA⟩ := (VR_iff _ _ _).1 hpA
      obtain ⟨A8, cap8, rfl, -, -⟩ := haA.form
      clear haA
      have HBu := Lib.hid (HBk.out.trans (hbA.mono HBk.out.size))
      have HPA := Lib.hid hpA
      have HFrA := Lib.hid hfrA
      have HFsA : Hid (∀ b ∈ FA, wr.heap.size ≤ b ∧ b < wA.heap.size) := fun b hb => ⟨Nat.le_trans HBk.out.size (hfsA b hb).1, (hfsA b hb).2⟩
      have HOA : Hid (Own wA (w.heap.size + 2 + 1) 53 3 VR (kidTo v.ks i) (.slice kA (kidTo v.ks i).length kcap) Fk) := HO.out.below (fun x cs G hk h => VR_mono' _ _ x cs G hk h) HBu.out
      have hbs : w.heap.size + 2 + 1 ≤ wA.heap.size := by have := HBu.out.size; omega
      have hSA : wA.cell? ⟨w.heap.size, 2, none⟩ = some (.slice (some ⟨b4, off4, none⟩) v.ks.length cap4) ∧ wA.cell? ⟨b4, off4 + i * 3, none⟩ = some (.int .i64 v.ks[i].c) ∧ wA.cell? ⟨b4, off4 + i * 3 + 1, none⟩ = some (.int .i64 v.ks[i].n) ∧ wA.cell? ⟨b4, off4 + i * 3 + 2, none⟩ = some (.slice A7 v.ks[i].ks.length cap7) := ⟨(hbA.cell (p := ⟨w.heap.size, 2, none⟩) vlt).trans y2, (hbA.cell (p := ⟨b4, off4 + i * 3, none⟩) hb7').trans k0, (hbA.cell (p := ⟨b4, off4 + i * 3 + 1, none⟩) hb7').trans k1, (hbA.cell (p := ⟨b4, off4 + i * 3 + 2, none⟩) hb7').trans k2⟩
      have zA : wA.cell? ⟨w.heap.size + 2, 2, none⟩ = some (.slice kA (kidTo v.ks i).length kcap) := (hbA.cell (p := ⟨w.heap.size + 2, 2, none⟩) hkT).trans zT
      have zfA : wA.frozen? ⟨w.heap.size + 2, 2, none⟩ = false := (hbA.frozen hkT).trans zfT
      have hkA : w.heap.size + 2 < wA.heap.size := Nat.lt_of_lt_of_le hkT hbA.size
      have kl0 : w.heap.size < wA.heap.size := Nat.lt_of_lt_of_le vlt hbA.size
      have kl1 : b4 < wA.heap.size := Nat.lt_of_lt_of_le hb7' hbA.size
      have kl2 : b4 < wA.heap.size := Nat.lt_of_lt_of_le hb7' hbA.size
      have kl3 : b4 < wA.heap.size := Nat.lt_of_lt_of_le hb7' hbA.size
      have hSB : (wA.alloc (.cells [.int .i64 v.ks[i].c, .int .i64 v.ks[i].n, .slice A8 v.ks[i].ks.length cap8].toArray 53)).cell? ⟨w.heap.size, 2, none⟩ = some (.slice (some ⟨b4, off4, none⟩) v.ks.length cap4) ∧ (wA.alloc (.cells [.int .i64 v.ks[i].c, .int .i64 v.ks[i].n, .slice A8 v.ks[i].ks.length cap8].toArray 53)).cell? ⟨b4, off4 + i * 3, none⟩ = some (.int .i64 v.ks[i].c) ∧ (wA.alloc (.cells [.int .i64 v.ks[i].c, .int .i64 v.ks[i].n, .slice A8 v.ks[i].ks.length cap8].toArray 53)).cell? ⟨b4, off4 + i * 3 + 1, none⟩ = some (.int .i64 v.ks[i].n) ∧ (wA.alloc (.cells [.int .i64 v.ks[i].c, .int .i64 v.ks[i].n, .slice A8 v.ks[i].ks.length cap8].toArray 53)).cell? ⟨b4, off4 + i * 3 + 2, none⟩ = some (.slice A7 v.ks[i].ks.length cap7) := ⟨(World.cell?_alloc_lt _ _ _ kl0).trans hSA.1, (World.cell?_alloc_lt _ _ _ kl1).trans hSA.2.1, (World.cell?_alloc_lt _ _ _ kl2).trans hSA.2.2.1, (World.cell?_alloc_lt _ _ _ kl3).trans hSA.2.2.2⟩
      dsimp only
      refine hK.out _ _ hSA (fun _ => zA) ?_
      clear hK K
      (try simp only [Act.put, List.setIfInBounds_toArray, List.set_cons_zero, List.set_cons_succ])
      refine wpAnyB_ready (rs := [8]) (by kernel_rfl) (by simp) ?_
      refine AllReadyB.cons rfl (fun K hK => ?_) AllReadyB.nil
      go_simp
      refine hK.out _ _ hSB (fun _ => (World.cell?_alloc_lt _ _ _ hkA).trans zA) ?_
      clear hK K
      (try simp only [Act.put, List.setIfInBounds_toArray, List.set_cons_zero, List.set_cons_succ])
      refine wpAnyB_ready (rs := [9]) (by kernel_rfl) (by simp) ?_
      refine AllReadyB.cons rfl (fun K hK => ?_) AllReadyB.nil
      refine step_push1 (P := Try.prog) rfl _ _ 39 rfl i0 _ 40 Try.underlying39 HI.out HZ0.out HZ1.out HZ2.out rfl (by decide) VR_len' VR_mono' (by rfl) HOA.out v.ks[i] 53 [.int .i64 v.ks[i].c, .int .i64 v.ks[i].n, .slice A8 v.ks[i].ks.length cap8] FA wA.heap.size (by rfl) rfl (by simp [Value.oneCell']) HPA.out (fun b hb => (HFsA.out b hb).2) (fun g hg hG => Nat.lt_irrefl _ (Nat.lt_of_lt_of_le (HO.out.row g hg).2 (HFsA.out g hG).1)) hmx hby hbs ?_
      intro g cp w7 hown7 hgr7 hat7
      have hrow7 := HOA.out.row
      have n7 : ∀ x, (x < w.heap.size + 2 + 1 ∨ wr.heap.size ≤ x) → some x ≠ (Value.ownBlock (.slice kA (kidTo v.ks i).length kcap)) := fun x hx e => by
        have h1 := (hrow7 x (mem_rowOf.2 e.symm)).1
        have h2 := (HO.out.row x (mem_rowOf.2 e.symm)).2
        omega
      have l7 : wA.heap.size ≤ (wA.alloc (.cells [.int .i64 v.ks[i].c, .int .i64 v.ks[i].n, .slice A8 v.ks[i].ks.length cap8].toArray 53)).heap.size := by rw [World.size_alloc]; exact Nat.le_succ _
      have s7 : w7.cell? ⟨w.heap.size, 2, none⟩ = some (.slice (some ⟨b4, off4, none⟩) v.ks.length cap4) ∧ w7.cell? ⟨b4, off4 + i * 3, none⟩ = some (.int .i64 v.ks[i].c) ∧ w7.cell? ⟨b4, off4 + i * 3 + 1, none⟩ = some (.int .i64 v.ks[i].n) ∧ w7.cell? ⟨b4, off4 + i * 3 + 2, none⟩ = some (.slice A7 v.ks[i].ks.length cap7) := ⟨(World.grownBy.cell_far hgr7 ⟨w.heap.size, 2, none⟩ (Nat.lt_of_lt_of_le kl0 l7) (n7 (w.heap.size) (by omega))).trans hSB.1, (World.grownBy.cell_far hgr7 ⟨b4, off4 + i * 3, none⟩ (Nat.lt_of_lt_of_le kl1 l7) (n7 (b4) (by omega))).trans hSB.2.1, (World.grownBy.cell_far hgr7 ⟨b4, off4 + i * 3 + 1, none⟩ (Nat.lt_of_lt_of_le kl2 l7) (n7 (b4) (by omega))).trans hSB.2.2.1, (World.grownBy.cell_far hgr7 ⟨b4, off4 + i * 3 + 2, none⟩ (Nat.lt_of_lt_of_le kl3 l7) (n7 (b4) (by omega))).trans hSB.2.2.2⟩
      have z71 : w7.cell? ⟨w.heap.size + 2, 2, none⟩ = some (.slice kA (kidTo v.ks i).length kcap) := (World.grownBy.cell_far hgr7 ⟨w.heap.size + 2, 2, none⟩ (Nat.lt_of_lt_of_le hkA l7) (n7 (w.heap.size + 2) (by omega))).trans ((World.cell?_alloc_lt _ _ _ hkA).trans zA)
      have zf71 : w7.frozen? ⟨w.heap.size + 2, 2, none⟩ = false := (World.grownBy.frozen_far hgr7 ⟨w.heap.size + 2, 2, none⟩ (Nat.lt_of_lt_of_le hkA l7) (n7 (w.heap.size + 2) (by omega))).trans (Eq.trans (World.frozen?_of_block (Below.heap_alloc _ _ _ hkA)) zfA)
      refine hK.out _ _ s7 (fun h => by cases h) ?_
      clear hK K
      (try simp only [Act.put, List.setIfInBounds_toArray, List.set_cons_zero, List.set_cons_succ])
      refine wpAnyB_take (i := 10) (v := ?_) rfl (by decide) (by kernel_rfl) (by kernel_rfl) (by kernel_rfl) (fun _ _ _ h => h) (Or.inl ⟨by rfl, ?hy10⟩) s7 (fun h => by cases h) ?_
      case hy10 => (intro W hSw; (try dsimp only at hSw); (obtain ⟨s0, s1, s2, s3⟩ := hSw); go_simp; try with_reducible rfl)
      (try simp only [Act.put, List.setIfInBounds_toArray, List.set_cons_zero, List.set_cons_succ])
      refine wpAnyB_ready (rs := [11]) (by kernel_rfl) (by simp) ?_
      refine AllReadyB.cons rfl (fun K hK => ?_) AllReadyB.nil
      go_simp
      refine hK.out _ _ ⟨(World.cell?_setCell_far _ _ _ _ (by show w.heap.size + 2 ≠ w.heap.size; omega)).trans s7.1, (World.cell?_setCell_far _ _ _ _ (by show w.heap.size + 2 ≠ b4; omega)).trans s7.2.1, (World.cell?_setCell_far _ _ _ _ (by show w.heap.size + 2 ≠ b4; omega)).trans s7.2.2.1, (World.cell?_setCell_far _ _ _ _ (by show w.heap.size + 2 ≠ b4; omega)).trans s7.2.2.2⟩ (fun h => by cases h) ?_
      clear hK K
      (try simp only [Act.put, List.setIfInBounds_toArray, List.set_cons_zero, List.set_cons_succ])
      refine wpAnyB_end (by kernel_rfl) ?_
      have HF2 := Lib.hid (kidTo_succ v.ks i hil)
      obtain ⟨r1, r2, r3, r4, r5, r6, r7⟩ := kid_round 2 VR_mono' hs0 KD.out HO.out HFk.out HFh.out HC.out hB (by omega) (Nat.le_refl _) HBu.out HFrA.out HFsA.out hown7 hgr7
      have R1 := Lib.hid r1
      have R2 := Lib.hid r2
      have R3 := Lib.hid r3
      have R4 := Lib.hid r4
      have R5 := Lib.hid r5
      have R6 := Lib.hid r6
      clear r1 r2 r3 r4 r5 r6 hown7 hgr7 hat7 hrow7 n7 l7 s7 z71 zf71 hSA zA zfA hkA hSB hS1 hT1 zT zfT hkT HCALL
      go_wp2
      go_roundw
      case rel => exact ⟨i + 1, _, _, hil, by go_num, R1, by rw [HF2.out]; exact R2.out, R3, R4, R5, R6.out, r7⟩
      case measure => (simp [intOf] <;> omega)
    · have HO2 := HO.out
      rw [kidTo_all v.ks (by omega)] at HO2
      have hln := congrArg List.length (kidTo_all v.ks (i := i) (by omega))
      obtain ⟨FF, hf1, hf2, hf3⟩ := kid_done (H := w.heap.size + 2 + 1) HO2 HFk.out HFh.out (Nat.le_refl _)
      have HF1 := Lib.hid hf1
      have HF2 := Lib.hid hf2
      have HF3 := Lib.hid hf3
      have e0 := (KD.out.cell 0).trans (show _ = some (.int .i64 v.c) from by simp)
      have e1 := (KD.out.cell 1).trans (show _ = some (.int .i64 v.n) from by simp)
      have e2 := (KD.out.cell 2).trans (show _ = some (.slice kA (kidTo v.ks i).length kcap) from by simp)
      have HLN := Lib.hid hln
      have RR := Lib.hid (R0.out.same (HC.out.block _ R0.out.lt (by simp)))
      have rlt := RR.out.lt
      have rc0 := (RR.out.cell 0).trans (show _ = some (.int .i64 0) from by simp)
      have rf0 := RR.out.frozen 0
      have rc1 := (RR.out.cell 1).trans (show _ = some (.int .i64 0) from by simp)
      have rf1 := RR.out.frozen 1
      have rc2 := (RR.out.cell 2).trans (show _ = some (.slice none 0 0) from by simp)
      have rf2 := RR.out.frozen 2
      clear hf1 hf2 hf3 HO2 hln
      go_wp2
      clear e0 e1 e2 rc0 rf0 rc1 rf1 rc2 rf2
      refine bodyPost_ret (results_cell_row rfl _ _ (w.heap.size + 1) 53 #[.int .i64 v.c, .int .i64 v.n, .slice kA (kidTo v.ks i).length kcap] (0, 0) _ rfl (RR.out.three _ _ _) Try.underlying53 rfl rfl) rfl ?_
      have hkp : Kept FF wr _ := kept_three (w := wr) (H := w.heap.size + 1) (fun b hb => by have := (HF3.out b hb).1; omega) (.int .i64 v.c) (.int .i64 v.n) (.slice kA (kidTo v.ks i).length kcap)
      refine ⟨[.int .i64 v.c, .int .i64 v.n, .slice kA (kidTo v.ks i).length kcap], FF, rfl, below_three hB (by omega) _ _ _, ?_, HF2.out.kept hkp, fun b hb => ⟨by have := (HF3.out b hb).1; omega, ?_⟩⟩
      · exact (VR_iff _ _ _).2 ⟨_, rfl, ArrV.mono (by rw [HLN.out]; exact HF1.out) hkp⟩
      · rw [size_three]; exact (HF3.out b hb).2
theorem spec_l2Copy : ∀ v, CopyV 62 v := V.indv spec_l2Copy_of
end Go.Proofs.Ytilndhmegaccmaa
