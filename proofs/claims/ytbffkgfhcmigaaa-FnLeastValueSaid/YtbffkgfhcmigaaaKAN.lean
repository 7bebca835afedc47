/-
  Lemmas and contracts of functions: A node of a tree under construction, as in Kid: its kids' row may begin anywhere behind the node. Values as nodes. Conditions: none. A least value of a type: the walk of the program. Conditions: the world is valid, the type has values. A least value of a type: the walk of the reference. Conditions: the world is valid, the type has values. LeastValue of both. Conditions: none. heldValueS: what mark wrote is there. Conditions: the parts are no more than 1099511627776.
-/
import Derived.Test.YtbffkgfhcmigaaaKAJ
import Derived.Test.YtbffkgfhcmigaaaKAC
import Derived.Test.YtbffkgfhcmigaaaKAB
import Derived.Deep.RegionWith
import Derived.Test.YtbffkgfhcmigaaaKAA
import Derived.Deep.RegionHeld3
import Derived.Deep.Cut
import Derived.Test.YtbffkgfhcmigaaaKAK

set_option linter.unusedVariables false
set_option linter.unusedSimpArgs false

namespace Go.Proofs.Ytbffkgfhcmigaaa
open Go.RowKit

section
variable {α : Type} {w w9 wr wA w7 : World} {D Bz H k : Nat} {T E : TypeId} {cells : Array Value} {R : World → α → List Value → List Nat → Prop} {xs ys : List α} {v v' : Value} {F G : List Nat} {o : Obj}
theorem kid_old2 (HO : Own wr Bz E k R xs v F) (hBu : Below wr.heap.size wr wA) (hgr : (wA.alloc o).grownBy w7 v.ownBlock) {b : Nat} (hb : b < Bz) (hbr : b < wr.heap.size) : w7.heap[b]? = wr.heap[b]? := by
  have hl : b < wA.heap.size := Nat.lt_of_lt_of_le hbr hBu.size
  refine ((hgr.block b (by rw [World.size_alloc]; omega) (fun e => ?_)).trans (Below.heap_alloc _ _ _ hl)).trans (hBu.block b hbr)
  have := (HO.row b (mem_rowOf.2 e.symm)).1
  omega
theorem kid_round2 (j : Nat) (hRm : ∀ w w' x cs G, Kept G w w' → R w x cs G → R w' x cs G) (hw9 : w9.heap.size = Bz) (hDB : D < Bz) (KD : Blk wr D T cells) (HO : Own wr Bz E k R xs v F) (HF : Free wr F) (HFh : ∀ b ∈ F, Bz ≤ b) (HC : Chg [D] w9 wr) (hB : Below H w wr) (hHD : H ≤ D) (hw : H ≤ w.heap.size)
    (hBu : Below wr.heap.size wr wA) (hfrA : Free wA G) (hfsA : ∀ b ∈ G, wr.heap.size ≤ b ∧ b < wA.heap.size) (hown : Own w7 Bz E k R ys v' (F ++ G)) (hgr : (wA.alloc o).grownBy w7 v.ownBlock) :
    Blk (w7.setCell ⟨D, j, none⟩ v') D T (cells.setIfInBounds j v') ∧ Own (w7.setCell ⟨D, j, none⟩ v') Bz E k R ys v' (F ++ G) ∧ Free (w7.setCell ⟨D, j, none⟩ v') (F ++ G) ∧ (∀ b ∈ F ++ G, Bz ≤ b) ∧ Chg [D] w9 (w7.setCell ⟨D, j, none⟩ v') ∧ Below H w (w7.setCell ⟨D, j, none⟩ v') ∧ w9.heap.size ≤ (w7.setCell ⟨D, j, none⟩ v').heap.size := by
  have hlt := KD.lt
  have hA := hBu.size
  have hz := HC.size
  rw [hw9] at hz
  have hFG : ∀ b ∈ F ++ G, Bz ≤ b := fun b hb => by
    rcases List.mem_append.1 hb with h | h
    · exact HFh b h
    · have := (hfsA b h).1; omega
  have hBA7 : Below Bz wA w7 := ((Below.refl Bz wA).alloc (by omega) o).grown hgr (by rw [World.size_alloc]; omega) (fun g hg => (HO.row g (mem_rowOf.2 hg)).1)
  have hC7 : Chg [D] w9 w7 := chg_under (HC.step hBu) (by rw [hw9]; exact hBA7)
  have hC8 : Chg [D] w9 (w7.setCell ⟨D, j, none⟩ v') := hC7.set (by simp)
  have hne : ∀ b ∈ F ++ G, b ≠ D := fun b hb e => by have := hFG b hb; omega
  refine ⟨?_, Own.set (j := j) hRm hown v' (fun h => by have := (hown.row _ h).1; omega) (fun h => hne _ h rfl), ?_, hFG, hC8, ?_, hC8.size⟩
  · exact (KD.same (kid_old2 HO hBu hgr hDB hlt)).set_ j v'
  · have hfr : Free wA (F ++ G) := free_app (HF.kept (.of_below hBu HO.under)) hfrA (fun b hb hG => by have h1 := HO.under b hb; have h2 := (hfsA b hG).1; omega)
    have hfr7 : Free w7 (F ++ G) := hfr.kept fun b hb => by
      have hbA : b < wA.heap.size := by
        rcases List.mem_append.1 hb with h | h
        · exact Nat.lt_of_lt_of_le (HO.under b h) hA
        · exact (hfsA b h).2
      refine (hgr.block b (by rw [World.size_alloc]; omega) (fun e => ?_)).trans (Below.heap_alloc _ _ _ hbA)
      have hrw := mem_rowOf.2 e.symm
      rcases List.mem_append.1 hb with h | h
      · exact HO.apart b hrw h
      · have h1 := (HO.row b hrw).2
        have h2 := (hfsA b h).1
        omega
    exact hfr7.kept fun b hb => Below.heap_setCell w7 ⟨D, j, none⟩ v' b (hne b hb)
  · have h8 : Below H w w7 := (hB.trans (hBu.mono (Nat.le_trans hw hB.size))).trans (hBA7.mono (by omega))
    exact h8.setCell hHD _
end
section
variable {w w0 : World} {H B : Nat} {T : TypeId} {F : List Nat}
theorem Blk.three {b0 b1 b2 : Value} (h : Blk w H T #[b0, b1, b2]) (a0 a1 a2 : Value) : Blk (((w.setCell ⟨H, 0, none⟩ a0).setCell ⟨H, 1, none⟩ a1).setCell ⟨H, 2, none⟩ a2) H T #[a0, a1, a2] := ((h.set_ 0 a0).set_ 1 a1).set_ 2 a2
theorem below_three (h : Below B w0 w) (hH : B ≤ H) (a0 a1 a2 : Value) : Below B w0 (((w.setCell ⟨H, 0, none⟩ a0).setCell ⟨H, 1, none⟩ a1).setCell ⟨H, 2, none⟩ a2) := ((h.setCell hH _).setCell hH _).setCell hH _
theorem kept_three (hF : ∀ b ∈ F, b ≠ H) (a0 a1 a2 : Value) : Kept F w (((w.setCell ⟨H, 0, none⟩ a0).setCell ⟨H, 1, none⟩ a1).setCell ⟨H, 2, none⟩ a2) := fun b hb => by
  have := hF b hb
  rw [Below.heap_setCell _ _ _ _ this, Below.heap_setCell _ _ _ _ this, Below.heap_setCell _ _ _ _ this]
theorem size_three (a0 a1 a2 : Value) : (((w.setCell ⟨H, 0, none⟩ a0).setCell ⟨H, 1, none⟩ a1).setCell ⟨H, 2, none⟩ a2).heap.size = w.heap.size := by simp [World.setCell]
end
theorem info_VE : (Try.prog.info? 41).map (fun i => (i.zero, i.size, i.bytes)) = some (some (.agg #[.int .i64 0, .int .i64 0, .slice none 0 0]), 3, 40) := by kernel_rfl
theorem VR_mono' (w w' : World) (x : V) (cs : List Value) (G : List Nat) (hk : Kept G w w') (h : VR w x cs G) : VR w' x cs G := VR.mono x cs G hk h
theorem VR_len' (w : World) (x : V) (cs : List Value) (G : List Nat) (h : VR w x cs G) : cs.length = 3 := VR_len x cs G h
/-- a call gives a value of its own -/
def MadeVt (v : V) (w : World) (e : Ending) (w' : World) : Prop := ∃ cs F, e = .returned (.agg cs.toArray) ∧ Below w.heap.size w w' ∧ VR w' v cs F ∧ Free w' F ∧ Fresh w w' F
end Go.Proofs.Ytbffkgfhcmigaaa

namespace Go.Proofs.Ytbffkgfhcmigaaa
open Go.RowKit

/-- a least constructor there is, and it is found -/
theorem least_find {xs : List Dt} (hw : WorldOK xs) {t : Ty} (ht : TyIn xs.length t) (hd : ¬ t.d = -1) (h : depthIn (tableL xs) t ≠ 0) : ∃ k, (ctorsL xs t).find? (isLeast xs t) = some k := by
  obtain ⟨k, hk, h1, h2⟩ := least_ex hw ht hd h
  have h3 := (least_le hw ht hk h1).2
  have hl : isLeast xs t k = true := by unfold isLeast; rw [beq_iff_eq]; omega
  cases hf : (ctorsL xs t).find? (isLeast xs t) with
  | some k' => exact ⟨k', rfl⟩
  | none =>
    rw [List.find?_eq_none] at hf
    exact absurd hl (hf k hk)

set_option maxRecDepth 100000 in
set_option maxHeartbeats 1600000 in
theorem impl_number (n : Int) (w : World) : Calls Try.prog 172 #[.int .i64 n] w fun e w' => e = .returned (.agg #[.int .i64 (-1), .int .i64 n, .slice none 0 0]) ∧ Below w.heap.size w w' := by
  have KR : Hid (Blk (w.alloc (.cells #[.int .i64 0, .int .i64 0, .slice none 0 0] 41)) w.heap.size 41 #[.int .i64 0, .int .i64 0, .slice none 0 0]) := Blk.new _ _ _
  have HB : Hid (Below w.heap.size w (w.alloc (.cells #[.int .i64 0, .int .i64 0, .slice none 0 0] 41))) := (Below.refl _ _).alloc (Nat.le_refl _) _
  go_enter Try.func172, Try.ntmps172
  go_wp2
  first
  | refine bodyPost_ret (results_cell_row rfl _ _ w.heap.size 41 #[.int .i64 (-1), .int .i64 n, .slice none 0 0] (0, 0) _ rfl (Blk.new _ _ _) Try.underlying41 rfl rfl) rfl ?_
    exact ⟨rfl, (Below.refl _ _).alloc (Nat.le_refl _) _⟩
  | refine bodyPost_ret (results_cell_row rfl _ _ w.heap.size 41 #[.int .i64 (-1), .int .i64 n, .slice none 0 0] (0, 0) _ rfl (KR.out.three _ _ _) Try.underlying41 rfl rfl) rfl ?_
    exact ⟨rfl, below_three HB.out (Nat.le_refl _) _ _ _⟩
set_option maxRecDepth 100000 in
set_option maxHeartbeats 1600000 in
theorem impl_least : ∀ (n : Nat), ∀ (xs : List Dt) (_ : WorldOK xs) (t : Ty) (_ : TyIn xs.length t) (_ : depthIn (tableL xs) t ≠ 0) (_ : depthIn (tableL xs) t ≤ ((n : Nat) : Int)) (_ : n ≤ 10) (w : World) (x : Value) (F : List Nat) (gd : Nat), Arr w (DtR w) xs x F → Under w.heap.size F → Tab w gd (tableL xs) →
    Calls Try.prog 140 #[x, .pointer (some ⟨gd, 0, none⟩), .agg #[.int .i64 t.d, .int .i64 t.i]] w (MadeVt (leastV xs n t) w) := by
  intro n
  induction n with
  | zero =>
    intro xs hw t ht h0 hn _
    exfalso
    have := (tableL_small hw).dep t
    simp only [Int.natCast_zero] at hn
    omega
  | succ n ih =>
    intro xs hw t ht h0 hn h10 w x F gd hx hf hy
    have IH := Lib.hid ih
    clear ih
    obtain ⟨A, cap, rfl, hc1, hc2⟩ := hx.form
    rcases id ht with hti | ⟨d, i, rfl, hd4, hi4⟩
    · have t0 : (t.d == -1) = true := by simp [hti]
      have HP := Lib.hid (leastV_int (xs := xs) (n := n) hti)
      have K0 : Hid (Blk ((w.alloc (.cells #[.int .i64 t.d, .int .i64 t.i] 37)).alloc (.cells #[.int .i64 0, .int .i64 0, .slice none 0 0] 41)) (w.heap.size + 1) 41 #[.int .i64 0, .int .i64 0, .slice none 0 0]) := blk_second w _ 41 _
      have HB0 : Hid (Below w.heap.size w ((w.alloc (.cells #[.int .i64 t.d, .int .i64 t.i] 37)).alloc (.cells #[.int .i64 0, .int .i64 0, .slice none 0 0] 41))) := ((Below.refl _ _).alloc (Nat.le_refl _) _).alloc (by simp) _
      clear hn h0 ht hti hx hf hy
      go_enter Try.func140, Try.ntmps140
      go_wp2_with fail
      obtain ⟨W2, hW2⟩ : ∃ W2, W2 = ((w.alloc (.cells #[.int .i64 t.d, .int .i64 t.i] 37)).alloc (.cells #[.int .i64 0, .int .i64 0, .slice none 0 0] 41)) := ⟨_, rfl⟩
      rw [← hW2] at K0 HB0 ⊢
      clear hW2
      refine (impl_number 0 W2).mono ?_
      rintro e w3 ⟨rfl, hb3⟩
      have KR := Lib.hid (K0.out.same (hb3.block _ K0.out.lt))
      have hB3 := HB0.out.trans (hb3.mono HB0.out.size)
      have rc0 := (KR.out.cell 0).trans (show _ = some (.int .i64 0) from by simp)
      have rf0 := KR.out.frozen 0
      have rc1 := (KR.out.cell 1).trans (show _ = some (.int .i64 0) from by simp)
      have rf1 := KR.out.frozen 1
      have rc2 := (KR.out.cell 2).trans (show _ = some (.slice none 0 0) from by simp)
      have rf2 := KR.out.frozen 2
      have rlt := KR.out.lt
      clear K0 HB0 hb3
      go_wp2
      clear rc0 rf0 rc1 rf1 rc2 rf2 rlt
      refine bodyPost_ret (results_cell_row rfl _ _ (w.heap.size + 1) 41 #[.int .i64 (-1), .int .i64 0, .slice none 0 0] (0, 0) _ rfl (KR.out.three _ _ _) Try.underlying41 rfl rfl) rfl ?_
      exact ⟨[.int .i64 (-1), .int .i64 0, .slice none 0 0], [], rfl, below_three hB3 (by omega) _ _ _, by rw [HP.out]; exact (VR_iff _ _ _).2 ⟨_, rfl, Arr.nil⟩, Free.nil _, Fresh.nil _ _⟩
    · have t0 : ((d : Int) == -1) = false := by rw [beq_eq_false_iff_ne]; omega
      have hdn : ¬ (⟨(d : Int), (i : Int)⟩ : Ty).d = -1 := by simp only; omega
      obtain ⟨kf, hkf⟩ := least_find hw ht hdn h0
      have HFI := Lib.hid hkf
      have HDN := Lib.hid hdn
      have HW := Lib.hid hw
      have HT := Lib.hid ht
      have H0 := Lib.hid h0
      have HN := Lib.hid hn
      have HX := Lib.hid hx
      have HF := Lib.hid hf
      have HY := Lib.hid hy
      clear hx hf hy
      clear hkf hdn hw ht h0 hn
      go_enter Try.func140, Try.ntmps140
      go_wp2_with fail
      obtain ⟨W2, hW2⟩ : ∃ W2, W2 = ((w.alloc (.cells #[.int .i64 (d : Int), .int .i64 (i : Int)] 37)).alloc (.cells #[.int .i64 0, .int .i64 0, .slice none 0 0] 41)) := ⟨_, rfl⟩
      have hB0 : Below w.heap.size w W2 := by rw [hW2]; exact ((Below.refl _ _).alloc (Nat.le_refl _) _).alloc (by simp) _
      have KT : Hid (Blk W2 w.heap.size 37 #[.int .i64 (d : Int), .int .i64 (i : Int)]) := by rw [hW2]; exact (Blk.new w _ _).same (Below.heap_alloc _ _ _ (by simp))
      have KR : Hid (Blk W2 (w.heap.size + 1) 41 #[.int .i64 0, .int .i64 0, .slice none 0 0]) := by rw [hW2]; exact blk_second w _ _ _
      rw [← hW2]
      clear hW2
      have y0 : W2.cell? ⟨w.heap.size, 0, none⟩ = some (.int .i64 (d : Int)) := (KT.out.cell 0).trans (by simp)
      have y1 : W2.cell? ⟨w.heap.size, 1, none⟩ = some (.int .i64 (i : Int)) := (KT.out.cell 1).trans (by simp)
      have ylt := KT.out.lt
      go_wp2_with fail
      refine (impl_ctorsOf xs ⟨(d : Int), (i : Int)⟩ W2 _ F (ArrDt.below HX.out hB0 HF.out) (HF.out.mono hB0.size) HW.out HT.out.inWorld).mono ?_
      rintro e w3 ⟨v3, F3, rfl, hb3, ha3, -, hfs3⟩
      have hB3 := hB0.trans (hb3.mono hB0.size)
      have KT3 := Lib.hid (KT.out.same (hb3.block _ KT.out.lt))
      have KR3 := Lib.hid (KR.out.same (hb3.block _ KR.out.lt))
      have HA3 := Lib.hid ha3
      have HU3 := Lib.hid hfs3.under
      have HL3 := Lib.hid (fun b hb => (hfs3 b hb).1)
      have hW2s := hB0.size
      obtain ⟨C3, cap3, rfl, hl1, hl2⟩ := ha3.form
      clear ha3 hfs3 hb3 KT KR y0 y1 ylt hB0
      go_wp2
      go_loopw [20] (fun iv wr => ∃ j : Nat, j ≤ (ctorsL xs ⟨(d : Int), (i : Int)⟩).length ∧ iv = .int .i64 j ∧ Hid (((ctorsL xs ⟨(d : Int), (i : Int)⟩).drop j).find? (isLeast xs ⟨(d : Int), (i : Int)⟩) = some kf) ∧ Hid (Below w3.heap.size w3 wr)) (fun iv _ => (ctorsL xs ⟨(d : Int), (i : Int)⟩).length - (intOf iv).toNat)
      case atStart => exact ⟨0, Nat.zero_le _, rfl, HFI.out, Below.refl _ _⟩
      case round =>
        obtain ⟨j, hj, rfl, HFJ, HBJ⟩ := hrel
        obtain ⟨wo, hwo⟩ : ∃ wo, wo = wr := ⟨_, rfl⟩
        rw [← hwo] at HBJ ⊢
        clear hwo
        have hB := hB3.trans (HBJ.out.mono hB3.size)
        have KTo := Lib.hid (KT3.out.same (HBJ.out.block _ KT3.out.lt))
        have y0 : wo.cell? ⟨w.heap.size, 0, none⟩ = some (.int .i64 (d : Int)) := (KTo.out.cell 0).trans (by simp)
        have y1 : wo.cell? ⟨w.heap.size, 1, none⟩ = some (.int .i64 (i : Int)) := (KTo.out.cell 1).trans (by simp)
        have ylt := KTo.out.lt
        by_cases hjl : j < (ctorsL xs ⟨(d : Int), (i : Int)⟩).length
        · have g1 : (0 : Int) ≤ (j : Int) := by omega
          have g2 : (j : Int) < ((ctorsL xs ⟨(d : Int), (i : Int)⟩).length : Int) := by omega
          obtain ⟨b3, off3, rfl⟩ := HA3.out.ptr (by omega)
          obtain ⟨hb3l, c3⟩ := ArrNat.at HA3.out HU3.out HBJ.out j hjl
          have hmj := find_step (p := isLeast xs ⟨(d : Int), (i : Int)⟩) hjl
          obtain ⟨d', m, e1, hkm, hd', hm⟩ := mem_ctorsL HT.out.inWorld (List.getElem_mem hjl)
          obtain rfl : d = d' := Int.ofNat.inj e1
          have hme : (ctorsL xs ⟨(d : Int), (i : Int)⟩)[j] ∈ (ctorsL xs ⟨(d : Int), (i : Int)⟩) := List.getElem_mem hjl
          rw [hkm] at hmj c3
          rw [hkm] at hme
          have HMJ := Lib.hid hmj
          have HME := Lib.hid hme
          have HIL : Hid (isLeast xs ⟨(d : Int), (i : Int)⟩ (m : Int) = (mostIn xs (tableL xs) ⟨(d : Int), (i : Int)⟩ (m : Int) == depthIn (tableL xs) ⟨(d : Int), (i : Int)⟩)) := rfl
          have HKJ := Lib.hid hkm
          clear hkm e1 hmj hme
          go_wp2_with fail
          have hkeep : ∀ U U' : World, (U.cell? ⟨w.heap.size, 0, none⟩ = some (.int .i64 (d : Int)) ∧ U.cell? ⟨w.heap.size, 1, none⟩ = some (.int .i64 (i : Int))) → Below U.heap.size U U' → wo.heap.size ≤ U.heap.size → (U'.cell? ⟨w.heap.size, 0, none⟩ = some (.int .i64 (d : Int)) ∧ U'.cell? ⟨w.heap.size, 1, none⟩ = some (.int .i64 (i : Int))) := fun U U' h hUU hU => ⟨(hUU.cell (Nat.lt_of_lt_of_le (ylt) hU)).trans h.1, (hUU.cell (Nat.lt_of_lt_of_le (ylt) hU)).trans h.2⟩
          have HKeep := Lib.hid hkeep
          clear hkeep
          go_region_held3 (fun w' => w'.cell? ⟨w.heap.size, 0, none⟩ = some (.int .i64 (d : Int)) ∧ w'.cell? ⟨w.heap.size, 1, none⟩ = some (.int .i64 (i : Int))) (first | assumption | (exact ⟨y0, y1⟩) | (exact HKeep.out wo.drew w5 ⟨y0, y1⟩ hb5 (Nat.le_refl _)) | (exact HKeep.out w5 w6 (by assumption) hb6 hlew5)) (first | (go_at_call 142; ((with_reducible refine (impl_ofCtor xs HW.out (tableL xs) (tableL_small HW.out) d i m hd4 hi4 hm _ _ F gd (ArrDt.below HX.out hB.drew HF.out) (HF.out.mono hB.drew.size) (HY.out.same (hB.drew.block _ HY.out.lt))).mono ?_); rintro e w5 ⟨rfl, hb5⟩); have hB5 := hB.drew.trans (hb5.mono hB.size); have hlew5 : wo.heap.size ≤ w5.heap.size := hb5.size) | (go_at_call 122; ((with_reducible refine (impl_of xs.length HW.out.len (tableL xs) (tableL_small HW.out) ⟨(d : Int), (i : Int)⟩ HT.out _ gd (HY.out.same (hB5.block _ HY.out.lt))).mono ?_); rintro e w6 ⟨rfl, hb6⟩)))
          have hb56 := hb5.trans (hb6.mono hb5.size)
          have hB6 := hB.drew.trans (hb56.mono hB.size)
          have HB36 : Hid (Below w3.heap.size w3 w6) := HBJ.out.trans ((below_undrew hb56).mono HBJ.out.size)
          have KT6 := Lib.hid (KTo.out.same ((below_undrew hb56).block _ KTo.out.lt))
          clear hb5 hb6 hB5 y0 y1 ylt c3 hb3l hb56 KTo
          cases hq : (mostIn xs (tableL xs) ⟨(d : Int), (i : Int)⟩ (m : Int) == depthIn (tableL xs) ⟨(d : Int), (i : Int)⟩) with
          | false =>
            have hne : (mostIn xs (tableL xs) ⟨(d : Int), (i : Int)⟩ (m : Int) != depthIn (tableL xs) ⟨(d : Int), (i : Int)⟩) = true := by unfold bne; rw [hq]; rfl
            have HF2 : Hid (((ctorsL xs ⟨(d : Int), (i : Int)⟩).drop (j + 1)).find? (isLeast xs ⟨(d : Int), (i : Int)⟩) = some kf) := by
              have h1 := HFJ.out
              rw [HMJ.out, HIL.out, hq, if_neg (by simp)] at h1
              exact h1
            generalize mostIn xs (tableL xs) ⟨(d : Int), (i : Int)⟩ (m : Int) = mo at *
            generalize depthIn (tableL xs) ⟨(d : Int), (i : Int)⟩ = de at *
            clear hq
            go_wp2
            go_roundw
            case rel => exact ⟨j + 1, hjl, by go_num, HF2, HB36⟩
            case measure => (simp [intOf] <;> omega)
          | true =>
            have hne : (mostIn xs (tableL xs) ⟨(d : Int), (i : Int)⟩ (m : Int) != depthIn (tableL xs) ⟨(d : Int), (i : Int)⟩) = false := by unfold bne; rw [hq]; rfl
            have hkf : kf = (m : Int) := by
              have h1 := HFJ.out
              rw [HMJ.out, HIL.out, hq, if_pos rfl] at h1
              exact (Option.some.inj h1).symm
            subst hkf
            have HP := Lib.hid (leastV_some (n := n) HDN.out HFI.out)
            have hal := argsOf_get (i := (i : Int)) hd4 hm
            have HAL : Hid (∀ a ∈ argsL xs[d].ctors[m] (i : Int), TyIn xs.length a ∧ depthIn (tableL xs) a ≠ 0 ∧ depthIn (tableL xs) a ≤ ((n : Nat) : Int)) := fun a ha => by
              have h1 := least_args HW.out HT.out HME.out (HIL.out.trans hq) H0.out (a := a) (by rw [hal]; exact ha)
              have h2 := HN.out
              exact ⟨h1.1, h1.2.1, by push_cast at h2; omega⟩
            have hl3 : (argsL xs[d].ctors[m] (i : Int)).length ≤ 3 := by rw [argsL_len]; exact (HW.out.ctor hd4 hm).args
            rw [hal] at HP
            have hca := (HW.out.ctor hd4 hm).args
            clear hq hal
            generalize mostIn xs (tableL xs) ⟨(d : Int), (i : Int)⟩ (m : Int) = mo at *
            generalize depthIn (tableL xs) ⟨(d : Int), (i : Int)⟩ = de at *
            have y0 : w6.cell? ⟨w.heap.size, 0, none⟩ = some (.int .i64 (d : Int)) := (KT6.out.cell 0).trans (by simp)
            have y1 : w6.cell? ⟨w.heap.size, 1, none⟩ = some (.int .i64 (i : Int)) := (KT6.out.cell 1).trans (by simp)
            have ylt := KT6.out.lt
            go_wp2_with fail
            clear y0 y1 ylt
            have hD0 := hB6.size
            obtain ⟨wn, hwn⟩ : ∃ wn, wn = w6.alloc (.cells #[.int .i64 (m : Int), .int .i64 0, .slice none 0 0] 41) := ⟨_, rfl⟩
            have hbn : Below w6.heap.size w6 wn := by rw [hwn]; exact (Below.refl _ _).alloc (Nat.le_refl _) _
            have KN : Hid (Blk wn w6.heap.size 41 #[.int .i64 (m : Int), .int .i64 0, .slice none 0 0]) := by rw [hwn]; exact Blk.new _ _ _
            rw [← hwn]
            clear hwn
            obtain ⟨D, hD⟩ : ∃ D, D = w6.heap.size := ⟨_, rfl⟩
            rw [← hD] at KN hbn hD0 ⊢
            have hBn := hB6.trans (hbn.mono hD0)
            have KTn := Lib.hid (KT6.out.same (hbn.block _ (by rw [hD]; exact KT6.out.lt)))
            have HB3n : Hid (Below w3.heap.size w3 wn) := HB36.out.trans (hbn.mono (by rw [hD]; exact HB36.out.size))
            have h3D : w3.heap.size ≤ D := by rw [hD]; exact HB36.out.size
            clear hbn HB36 hB6 KT6 hD
            have y0 : wn.cell? ⟨w.heap.size, 0, none⟩ = some (.int .i64 (d : Int)) := (KTn.out.cell 0).trans (by simp)
            have y1 : wn.cell? ⟨w.heap.size, 1, none⟩ = some (.int .i64 (i : Int)) := (KTn.out.cell 1).trans (by simp)
            have ylt := KTn.out.lt
            refine (impl_argTypes xs d m (i : Int) hd4 hm wn _ F (ArrDt.below HX.out hBn HF.out) (HF.out.mono hBn.size) hca).mono ?_
            rintro e w9 ⟨v7, F7, rfl, hb7, ha7, -, hfs7⟩
            have hB9 := hBn.trans (hb7.mono hBn.size)
            have hb7u := hb7
            have KN9 := Lib.hid (KN.out.same (hb7u.block _ KN.out.lt))
            have KR9 := Lib.hid (KR3.out.same ((HB3n.out.trans (hb7u.mono HB3n.out.size)).block _ KR3.out.lt))
            have HA7 := Lib.hid ha7
            have HU7 := Lib.hid hfs7.under
            have HL7 : Hid (∀ b ∈ F7, D < b) := fun b hb => Nat.lt_of_lt_of_le KN.out.lt (hfs7 b hb).1
            have hDw : D < w9.heap.size := KN9.out.lt
            have hk3 := KR3.out.lt
            obtain ⟨C7, cap7, rfl, hl71, hl72⟩ := ha7.form
            obtain ⟨Bz, hBz⟩ : ∃ B, B = w9.heap.size := ⟨_, rfl⟩
            have HBZ := Lib.hid hBz
            have hDB : D < Bz := by rw [hBz]; exact hDw
            have hzB : w.heap.size ≤ D := by omega
            obtain ⟨i0, hi, hz0, hz1, hz2⟩ := info_parts info_VE
            have HI := Lib.hid hi
            have HZ0 := Lib.hid hz0
            have HZ1 := Lib.hid hz1
            have HZ2 := Lib.hid hz2
            clear hi hz0 hz1 hz2
            clear ha7 hfs7 hb7 hb7u KN hBn y0 y1 ylt KTn hBz HB3n hB
            generalize (argsL xs[d].ctors[m] (i : Int)) = ls at *
            go_wp2
            go_loopw [40] (fun iv wr => ∃ q : Nat, ∃ kv : Value, ∃ Fk : List Nat, q ≤ ls.length ∧ iv = .int .i64 q ∧ Hid (Blk wr D 41 #[.int .i64 (m : Int), .int .i64 0, kv]) ∧ Hid (Own wr Bz 41 3 VR (leastTo xs n ls q) kv Fk) ∧ Hid (Free wr Fk) ∧ Hid (∀ b ∈ Fk, Bz ≤ b) ∧ Hid (Chg [D] w9 wr) ∧ Below w.heap.size w wr ∧ w9.heap.size ≤ wr.heap.size) (fun iv _ => ls.length - (intOf iv).toNat)
            case atStart => exact ⟨0, _, [], Nat.zero_le _, rfl, KN9, (show Own _ _ _ _ _ (leastTo xs n ls 0) _ _ from Own.nil _ _ _ _ _), Free.nil _, (fun b hb => by cases hb), Chg.refl _ _, hB9, Nat.le_refl _⟩
            case round =>
              clear hB9 KN9
              obtain ⟨q, kv, Fk, hql, rfl, KD, HO, HFk, HFh, HC, hB, hws⟩ := hrel
              obtain ⟨kA, kcap, hkv, hkc1, hkc2⟩ := HO.out.form
              subst hkv
              have klt := KD.out.lt
              have HA7r : Hid (Arr wr (TyR wr) ls (.slice C7 ls.length cap7) F7) := HA7.out.mono (HC.out.kept HU7.out (fun b hb h => by rw [List.mem_singleton] at h; have := HL7.out b hb; omega)) (fun y _ cs G _ h => h)
              have HU7r : Hid (Under wr.heap.size F7) := HU7.out.mono HC.out.size
              by_cases hil : q < ls.length
              · have g1 : (0 : Int) ≤ (q : Int) := by omega
                have g2 : (q : Int) < (ls.length : Int) := by omega
                obtain ⟨b7, off7, rfl⟩ := HA7r.out.ptr (by omega)
                have hb7z : D < b7 ∧ b7 < Bz := by
                  obtain ⟨_, _, _, _, e, hb, -⟩ := HA7r.out.get TyR_len hil
                  cases e
                  exact ⟨HL7.out _ hb, by have := HU7.out _ hb; rw [HBZ.out]; exact this⟩
                obtain ⟨hb7w, k0, k1⟩ := ArrTy.at HA7r.out HU7r.out (Below.refl _ _) q hil
                have hkk := leastTo_len xs n ls q
                have ha := HAL.out ls[q] (List.getElem_mem hil)
                have HSM := Lib.hid (leastV_small HW.out (show n ≤ 10 by omega) ha.1)
                have HA1 := Lib.hid ha
                clear ha
                obtain ⟨aq, haq⟩ : ∃ a, a = ls[q] := ⟨_, rfl⟩
                have HF2 := Lib.hid (leastTo_succ xs n ls q hil)
                rw [← haq] at HSM HA1 HF2 k0 k1
                clear haq
                have hmx : (leastTo xs n ls q).length + 1 ≤ maxLen := by unfold maxLen; omega
                have hby : ((leastTo xs n ls q).length + 1) * 40 ≤ 140737488355328 := by omega
                go_wp2_with fail
                obtain ⟨wk, hwk⟩ : ∃ wk, wk = wr.alloc (.cells #[.int .i64 aq.d, .int .i64 aq.i] 37) := ⟨_, rfl⟩
                have hBk : Below wr.heap.size wr wk := by rw [hwk]; exact (Below.refl _ _).alloc (Nat.le_refl _) _
                have KK : Blk wk wr.heap.size 37 #[.int .i64 aq.d, .int .i64 aq.i] := by rw [hwk]; exact Blk.new _ _ _
                rw [← hwk]
                clear hwk
                have z0 : wk.cell? ⟨wr.heap.size, 0, none⟩ = some (.int .i64 aq.d) := (KK.cell 0).trans (by simp)
                have z1 : wk.cell? ⟨wr.heap.size, 1, none⟩ = some (.int .i64 aq.i) := (KK.cell 1).trans (by simp)
                have KDk := KD.out.same (hBk.block _ KD.out.lt)
                have zT : wk.drew.cell? ⟨D, 2, none⟩ = some (.slice kA (leastTo xs n ls q).length kcap) := (KDk.cell 2).trans (by simp)
                have zfT : wk.drew.frozen? ⟨D, 2, none⟩ = false := KDk.frozen 2
                have kklt : wr.heap.size < wk.drew.heap.size := KK.lt
                have hkT : D < wk.drew.heap.size := KDk.lt
                clear KK KDk k0 k1
                have HBk := Lib.hid hBk.drew
                have hBk2 := hB.trans (HBk.out.mono hB.size)
                clear hBk
                have HCALL := Lib.hid (IH.out xs HW.out aq HA1.out.1 HA1.out.2.1 HA1.out.2.2 (by omega) wk.drew _ F gd (ArrDt.below HX.out hBk2 HF.out) (HF.out.mono hBk2.size) (HY.out.same (hBk2.block _ HY.out.lt)))
                refine wp_region_B (S := fun w' => w'.cell? ⟨wr.heap.size, 0, none⟩ = some (.int .i64 aq.d) ∧ w'.cell? ⟨wr.heap.size, 1, none⟩ = some (.int .i64 aq.i)) (T := fun w' => w'.cell? ⟨D, 2, none⟩ = some (.slice kA (leastTo xs n ls q).length kcap)) (d := 7) (by kernel_rfl) ?_
                have hS1 : wk.drew.cell? ⟨wr.heap.size, 0, none⟩ = some (.int .i64 aq.d) ∧ wk.drew.cell? ⟨wr.heap.size, 1, none⟩ = some (.int .i64 aq.i) := ⟨z0, z1⟩
                have hT1 : wk.drew.cell? ⟨D, 2, none⟩ = some (.slice kA (leastTo xs n ls q).length kcap) := zT
                refine wpAnyB_take (i := 0) (v := ?_) rfl (by decide) (by kernel_rfl) (by kernel_rfl) (by kernel_rfl) (fun _ _ _ h => h) (Or.inl ⟨by rfl, ?hy0⟩) hS1 (fun _ => hT1) ?_
                case hy0 => (intro W hSw; (try dsimp only at hSw); (obtain ⟨s0, s1⟩ := hSw); go_simp; try with_reducible rfl)
                (try simp only [Act.put, List.setIfInBounds_toArray, List.set_cons_zero, List.set_cons_succ])
                refine wpAnyB_takeB (i := 1) (v := ?_) rfl (by decide) rfl (by kernel_rfl) (by kernel_rfl) (by kernel_rfl) (by kernel_rfl) (fun _ _ _ h => h) (Or.inl ⟨by rfl, ?hy1⟩) (by rfl) hS1 hT1 ?_
                case hy1 => (intro W hSw; (try dsimp only at hSw); (obtain ⟨⟨s0, s1⟩, tT⟩ := hSw); go_simp; try with_reducible rfl)
                (try simp only [Act.put, List.setIfInBounds_toArray, List.set_cons_zero, List.set_cons_succ])
                refine wpAnyB_take (i := 2) (v := ?_) rfl (by decide) (by kernel_rfl) (by kernel_rfl) (by kernel_rfl) (fun _ _ _ h => h) (Or.inl ⟨by rfl, ?hy2⟩) hS1 (fun _ => hT1) ?_
                case hy2 => (intro W hSw; (try dsimp only at hSw); (obtain ⟨s0, s1⟩ := hSw); go_simp; try with_reducible rfl)
                (try simp only [Act.put, List.setIfInBounds_toArray, List.set_cons_zero, List.set_cons_succ])
                refine wpAnyB_take (i := 3) (v := ?_) rfl (by decide) (by kernel_rfl) (by kernel_rfl) (by kernel_rfl) (fun _ _ _ h => h) (Or.inl ⟨by rfl, ?hy3⟩) hS1 (fun _ => hT1) ?_
                case hy3 => (intro W hSw; (try dsimp only at hSw); (obtain ⟨s0, s1⟩ := hSw); go_simp; try with_reducible rfl)
                (try simp only [Act.put, List.setIfInBounds_toArray, List.set_cons_zero, List.set_cons_succ])
                refine wpAnyB_take (i := 4) (v := ?_) rfl (by decide) (by kernel_rfl) (by kernel_rfl) (by kernel_rfl) (fun _ _ _ h => h) (Or.inl ⟨by rfl, ?hy4⟩) hS1 (fun _ => hT1) ?_
                case hy4 => (intro W hSw; (try dsimp only at hSw); (obtain ⟨s0, s1⟩ := hSw); go_simp; try with_reducible rfl)
                (try simp only [Act.put, List.setIfInBounds_toArray, List.set_cons_zero, List.set_cons_succ])
                refine wpAnyB_ready (rs := [5]) (by kernel_rfl) (by simp) ?_
                refine AllReadyB.cons rfl (fun K hK => ?_) AllReadyB.nil
                go_simp
                go_at_call 140
                with_reducible refine HCALL.out.mono ?_
                rintro e wA ⟨csA, FA, rfl, hbA, hpA, hfrA, hfsA⟩
                obtain ⟨kvA, rfl, haA⟩ := (VR_iff _ _ _).1 hpA
                obtain ⟨A8, cap8, rfl, -, -⟩ := haA.form
                clear haA
                have HBu := Lib.hid (HBk.out.trans (hbA.mono HBk.out.size))
                have HPA := Lib.hid hpA
                have HFrA := Lib.hid hfrA
                have HFsA : Hid (∀ b ∈ FA, wr.heap.size ≤ b ∧ b < wA.heap.size) := fun b hb => ⟨Nat.le_trans HBk.out.size (hfsA b hb).1, (hfsA b hb).2⟩
                have HOA : Hid (Own wA Bz 41 3 VR (leastTo xs n ls q) (.slice kA (leastTo xs n ls q).length kcap) Fk) := HO.out.below (fun x cs G hk h => VR_mono' _ _ x cs G hk h) HBu.out
                have hbs : Bz ≤ wA.heap.size := by have h1 := HBu.out.size; have h2 := HBZ.out; omega
                have n7D : D < Bz := hDB
                have hSA : wA.cell? ⟨wr.heap.size, 0, none⟩ = some (.int .i64 aq.d) ∧ wA.cell? ⟨wr.heap.size, 1, none⟩ = some (.int .i64 aq.i) := ⟨(hbA.cell (p := ⟨wr.heap.size, 0, none⟩) kklt).trans z0, (hbA.cell (p := ⟨wr.heap.size, 1, none⟩) kklt).trans z1⟩
                have zA : wA.cell? ⟨D, 2, none⟩ = some (.slice kA (leastTo xs n ls q).length kcap) := (hbA.cell (p := ⟨D, 2, none⟩) hkT).trans zT
                have zfA : wA.frozen? ⟨D, 2, none⟩ = false := (hbA.frozen hkT).trans zfT
                have hkA : D < wA.heap.size := Nat.lt_of_lt_of_le hkT hbA.size
                have kl0 : wr.heap.size < wA.heap.size := Nat.lt_of_lt_of_le kklt hbA.size
                have kl1 : wr.heap.size < wA.heap.size := Nat.lt_of_lt_of_le kklt hbA.size
                have hSB : (wA.alloc (.cells [.int .i64 (leastV xs n aq).c, .int .i64 (leastV xs n aq).n, .slice A8 (leastV xs n aq).ks.length cap8].toArray 41)).cell? ⟨wr.heap.size, 0, none⟩ = some (.int .i64 aq.d) ∧ (wA.alloc (.cells [.int .i64 (leastV xs n aq).c, .int .i64 (leastV xs n aq).n, .slice A8 (leastV xs n aq).ks.length cap8].toArray 41)).cell? ⟨wr.heap.size, 1, none⟩ = some (.int .i64 aq.i) := ⟨(World.cell?_alloc_lt _ _ _ kl0).trans hSA.1, (World.cell?_alloc_lt _ _ _ kl1).trans hSA.2⟩
                dsimp only
                refine hK.out _ _ hSA (fun _ => zA) ?_
                clear hK K
                (try simp only [Act.put, List.setIfInBounds_toArray, List.set_cons_zero, List.set_cons_succ])
                refine wpAnyB_ready (rs := [6]) (by kernel_rfl) (by simp) ?_
                refine AllReadyB.cons rfl (fun K hK => ?_) AllReadyB.nil
                go_simp
                refine hK.out _ _ hSB (fun _ => (World.cell?_alloc_lt _ _ _ hkA).trans zA) ?_
                clear hK K
                (try simp only [Act.put, List.setIfInBounds_toArray, List.set_cons_zero, List.set_cons_succ])
                refine wpAnyB_ready (rs := [7]) (by kernel_rfl) (by simp) ?_
                refine AllReadyB.cons rfl (fun K hK => ?_) AllReadyB.nil
                refine step_push1 (P := Try.prog) rfl _ _ 39 rfl i0 _ 40 Try.underlying39 HI.out HZ0.out HZ1.out HZ2.out rfl (by decide) VR_len' VR_mono' (by rfl) HOA.out (leastV xs n aq) 41 [.int .i64 (leastV xs n aq).c, .int .i64 (leastV xs n aq).n, .slice A8 (leastV xs n aq).ks.length cap8] FA wA.heap.size (by rfl) rfl (by simp [Value.oneCell']) HPA.out (fun b hb => (HFsA.out b hb).2) (fun g hg hG => Nat.lt_irrefl _ (Nat.lt_of_lt_of_le (HO.out.row g hg).2 (HFsA.out g hG).1)) hmx hby hbs ?_
                intro g cp w7 hown7 hgr7 hat7
                have hrow7 := HOA.out.row
                have n7 : ∀ x, (x < Bz ∨ wr.heap.size ≤ x) → some x ≠ (Value.ownBlock (.slice kA (leastTo xs n ls q).length kcap)) := fun x hx e => by
                  have h1 := (hrow7 x (mem_rowOf.2 e.symm)).1
                  have h2 := (HO.out.row x (mem_rowOf.2 e.symm)).2
                  omega
                have l7 : wA.heap.size ≤ (wA.alloc (.cells [.int .i64 (leastV xs n aq).c, .int .i64 (leastV xs n aq).n, .slice A8 (leastV xs n aq).ks.length cap8].toArray 41)).heap.size := by rw [World.size_alloc]; exact Nat.le_succ _
                have s7 : w7.cell? ⟨wr.heap.size, 0, none⟩ = some (.int .i64 aq.d) ∧ w7.cell? ⟨wr.heap.size, 1, none⟩ = some (.int .i64 aq.i) := ⟨(World.grownBy.cell_far hgr7 ⟨wr.heap.size, 0, none⟩ (Nat.lt_of_lt_of_le kl0 l7) (n7 (wr.heap.size) (by omega))).trans hSB.1, (World.grownBy.cell_far hgr7 ⟨wr.heap.size, 1, none⟩ (Nat.lt_of_lt_of_le kl1 l7) (n7 (wr.heap.size) (by omega))).trans hSB.2⟩
                have z71 : w7.cell? ⟨D, 2, none⟩ = some (.slice kA (leastTo xs n ls q).length kcap) := (World.grownBy.cell_far hgr7 ⟨D, 2, none⟩ (Nat.lt_of_lt_of_le hkA l7) (n7 (D) (by omega))).trans ((World.cell?_alloc_lt _ _ _ hkA).trans zA)
                have zf71 : w7.frozen? ⟨D, 2, none⟩ = false := (World.grownBy.frozen_far hgr7 ⟨D, 2, none⟩ (Nat.lt_of_lt_of_le hkA l7) (n7 (D) (by omega))).trans (Eq.trans (World.frozen?_of_block (Below.heap_alloc _ _ _ hkA)) zfA)
                refine hK.out _ _ s7 (fun h => by cases h) ?_
                clear hK K
                (try simp only [Act.put, List.setIfInBounds_toArray, List.set_cons_zero, List.set_cons_succ])
                refine wpAnyB_take (i := 8) (v := ?_) rfl (by decide) (by kernel_rfl) (by kernel_rfl) (by kernel_rfl) (fun _ _ _ h => h) (Or.inl ⟨by rfl, ?hy8⟩) s7 (fun h => by cases h) ?_
                case hy8 => (intro W hSw; (try dsimp only at hSw); (obtain ⟨s0, s1⟩ := hSw); go_simp; try with_reducible rfl)
                (try simp only [Act.put, List.setIfInBounds_toArray, List.set_cons_zero, List.set_cons_succ])
                refine wpAnyB_ready (rs := [9]) (by kernel_rfl) (by simp) ?_
                refine AllReadyB.cons rfl (fun K hK => ?_) AllReadyB.nil
                go_simp
                refine hK.out _ _ ⟨(World.cell?_setCell_far _ _ _ _ (by show D ≠ wr.heap.size; omega)).trans s7.1, (World.cell?_setCell_far _ _ _ _ (by show D ≠ wr.heap.size; omega)).trans s7.2⟩ (fun h => by cases h) ?_
                clear hK K
                (try simp only [Act.put, List.setIfInBounds_toArray, List.set_cons_zero, List.set_cons_succ])
                refine wpAnyB_end (by kernel_rfl) ?_
                obtain ⟨r1, r2, r3, r4, r5, r6, r7⟩ := kid_round2 (w := w) 2 VR_mono' HBZ.out.symm hDB KD.out HO.out HFk.out HFh.out HC.out hB hzB (Nat.le_refl _) HBu.out HFrA.out HFsA.out hown7 hgr7
                have R1 := Lib.hid r1
                have R2 := Lib.hid r2
                have R3 := Lib.hid r3
                have R4 := Lib.hid r4
                have R5 := Lib.hid r5
                have R6 := Lib.hid r6
                clear r1 r2 r3 r4 r5 r6 hown7 hgr7 hat7 hrow7 n7 l7 s7 z71 zf71 hSA zA zfA hkA hSB hS1 hT1 zT zfT hkT HCALL
                go_wp2
                go_roundw
                case rel => exact ⟨q + 1, _, _, hil, by go_num, R1, by rw [HF2.out]; exact R2.out, R3, R4, R5, R6.out, r7⟩
                case measure => (simp [intOf] <;> omega)
              · have HO2 := HO.out
                rw [leastTo_all xs n ls (by omega)] at HO2
                have hln := congrArg List.length (leastTo_all xs n ls (i := q) (by omega))
                obtain ⟨FF, hf1, hf2, hf3⟩ := kid_done (H := Bz) HO2 HFk.out HFh.out (Nat.le_refl _)
                have HF1 := Lib.hid hf1
                have HF2 := Lib.hid hf2
                have HF3 := Lib.hid hf3
                have e0 := (KD.out.cell 0).trans (show _ = some (.int .i64 (m : Int)) from by simp)
                have e1 := (KD.out.cell 1).trans (show _ = some (.int .i64 0) from by simp)
                have e2 := (KD.out.cell 2).trans (show _ = some (.slice kA (leastTo xs n ls q).length kcap) from by simp)
                have HLN := Lib.hid hln
                have RR := Lib.hid (KR9.out.same (HC.out.block _ KR9.out.lt (by rw [List.mem_singleton]; omega)))
                have rc0 := (RR.out.cell 0).trans (show _ = some (.int .i64 0) from by simp)
                have rf0 := RR.out.frozen 0
                have rc1 := (RR.out.cell 1).trans (show _ = some (.int .i64 0) from by simp)
                have rf1 := RR.out.frozen 1
                have rc2 := (RR.out.cell 2).trans (show _ = some (.slice none 0 0) from by simp)
                have rf2 := RR.out.frozen 2
                have rlt := RR.out.lt
                clear hf1 hf2 hf3 HO2 hln
                go_wp2
                clear e0 e1 e2 rc0 rf0 rc1 rf1 rc2 rf2 rlt
                refine bodyPost_ret (results_cell_row rfl _ _ (w.heap.size + 1) 41 #[.int .i64 (m : Int), .int .i64 0, .slice kA (leastTo xs n ls q).length kcap] (0, 0) _ rfl (RR.out.three _ _ _) Try.underlying41 rfl rfl) rfl ?_
                have hkp : Kept FF wr _ := kept_three (w := wr) (H := w.heap.size + 1) (fun b hb => by have := (HF3.out b hb).1; omega) (.int .i64 (m : Int)) (.int .i64 0) (.slice kA (leastTo xs n ls q).length kcap)
                refine ⟨[.int .i64 (m : Int), .int .i64 0, .slice kA (leastTo xs n ls q).length kcap], FF, rfl, below_three hB (by omega) _ _ _, ?_, HF2.out.kept hkp, fun b hb => ⟨by have := (HF3.out b hb).1; omega, ?_⟩⟩
                · rw [HP.out]
                  exact (VR_iff _ _ _).2 ⟨_, rfl, ArrV.mono (by rw [HLN.out]; exact HF1.out) hkp⟩
                · rw [size_three]; exact (HF3.out b hb).2
        · exfalso
          have h1 := HFJ.out
          rw [find_end (by omega)] at h1
          cases h1
end Go.Proofs.Ytbffkgfhcmigaaa

namespace Go.Proofs.Ytbffkgfhcmigaaa
open Go.RowKit

set_option maxRecDepth 100000 in
set_option maxHeartbeats 1600000 in
theorem spec_least : ∀ (n : Nat), ∀ (xs : List Dt) (_ : WorldOK xs) (t : Ty) (_ : TyIn xs.length t) (_ : depthIn (tableL xs) t ≠ 0) (_ : depthIn (tableL xs) t ≤ ((n : Nat) : Int)) (_ : n ≤ 10) (w : World) (x : Value) (F : List Nat) (u : Value) (H : List Nat), Arr w (DtR w) xs x F → Under w.heap.size F → Arr w (NatR w) (tableL xs) u H → Under w.heap.size H →
    Calls Try.prog 84 #[x, u, .agg #[.int .i64 t.d, .int .i64 t.i]] w (MadeVt (leastV xs n t) w) := by
  intro n
  induction n with
  | zero =>
    intro xs hw t ht h0 hn _
    exfalso
    have := (tableL_small hw).dep t
    simp only [Int.natCast_zero] at hn
    omega
  | succ n ih =>
    intro xs hw t ht h0 hn h10 w x F u H hx hf hy hh
    have IH := Lib.hid ih
    clear ih
    obtain ⟨A, cap, rfl, hc1, hc2⟩ := hx.form
    rcases id ht with hti | ⟨d, i, rfl, hd4, hi4⟩
    · have t0 : (t.d == -1) = true := by simp [hti]
      have HP := Lib.hid (leastV_int (xs := xs) (n := n) hti)
      have K0 : Hid (Blk ((w.alloc (.cells #[.int .i64 t.d, .int .i64 t.i] 37)).alloc (.cells #[.int .i64 0, .int .i64 0, .slice none 0 0] 41)) (w.heap.size + 1) 41 #[.int .i64 0, .int .i64 0, .slice none 0 0]) := blk_second w _ 41 _
      have HB0 : Hid (Below w.heap.size w ((w.alloc (.cells #[.int .i64 t.d, .int .i64 t.i] 37)).alloc (.cells #[.int .i64 0, .int .i64 0, .slice none 0 0] 41))) := ((Below.refl _ _).alloc (Nat.le_refl _) _).alloc (by simp) _
      clear hn h0 ht hti hx hf hy hh
      go_enter Try.func84, Try.ntmps84
      go_wp2_with fail
      first
      | refine bodyPost_ret (results_cell_row rfl _ _ (w.heap.size + 1) 41 #[.int .i64 (-1), .int .i64 0, .slice none 0 0] (0, 0) _ rfl (blk_second _ _ _ _) Try.underlying41 rfl rfl) rfl ?_
        exact ⟨[.int .i64 (-1), .int .i64 0, .slice none 0 0], [], rfl, ((Below.refl _ _).alloc (Nat.le_refl _) _).alloc (by simp) _, by rw [HP.out]; exact (VR_iff _ _ _).2 ⟨_, rfl, Arr.nil⟩, Free.nil _, Fresh.nil _ _⟩
      | refine bodyPost_ret (results_cell_row rfl _ _ (w.heap.size + 1) 41 #[.int .i64 (-1), .int .i64 0, .slice none 0 0] (0, 0) _ rfl (K0.out.three _ _ _) Try.underlying41 rfl rfl) rfl ?_
        exact ⟨[.int .i64 (-1), .int .i64 0, .slice none 0 0], [], rfl, below_three HB0.out (by omega) _ _ _, by rw [HP.out]; exact (VR_iff _ _ _).2 ⟨_, rfl, Arr.nil⟩, Free.nil _, Fresh.nil _ _⟩
    · have t0 : ((d : Int) == -1) = false := by rw [beq_eq_false_iff_ne]; omega
      have hdn : ¬ (⟨(d : Int), (i : Int)⟩ : Ty).d = -1 := by simp only; omega
      obtain ⟨kf, hkf⟩ := least_find hw ht hdn h0
      have HFI := Lib.hid hkf
      have HDN := Lib.hid hdn
      have HW := Lib.hid hw
      have HT := Lib.hid ht
      have H0 := Lib.hid h0
      have HN := Lib.hid hn
      obtain ⟨U, ucap, rfl, hu1, hu2⟩ := hy.form
      have HX := Lib.hid hx
      have HF := Lib.hid hf
      have HY := Lib.hid hy
      have HH := Lib.hid hh
      clear hx hf hy hh
      clear hkf hdn hw ht h0 hn
      go_enter Try.func84, Try.ntmps84
      go_wp2_with fail
      obtain ⟨W2, hW2⟩ : ∃ W2, W2 = ((w.alloc (.cells #[.int .i64 (d : Int), .int .i64 (i : Int)] 37)).alloc (.cells #[.int .i64 0, .int .i64 0, .slice none 0 0] 41)) := ⟨_, rfl⟩
      have hB0 : Below w.heap.size w W2 := by rw [hW2]; exact ((Below.refl _ _).alloc (Nat.le_refl _) _).alloc (by simp) _
      have KT : Hid (Blk W2 w.heap.size 37 #[.int .i64 (d : Int), .int .i64 (i : Int)]) := by rw [hW2]; exact (Blk.new w _ _).same (Below.heap_alloc _ _ _ (by simp))
      have KR : Hid (Blk W2 (w.heap.size + 1) 41 #[.int .i64 0, .int .i64 0, .slice none 0 0]) := by rw [hW2]; exact blk_second w _ _ _
      rw [← hW2]
      clear hW2
      have y0 : W2.cell? ⟨w.heap.size, 0, none⟩ = some (.int .i64 (d : Int)) := (KT.out.cell 0).trans (by simp)
      have y1 : W2.cell? ⟨w.heap.size, 1, none⟩ = some (.int .i64 (i : Int)) := (KT.out.cell 1).trans (by simp)
      have ylt := KT.out.lt
      go_wp2_with fail
      refine (spec_l1Ctors xs ⟨(d : Int), (i : Int)⟩ W2 _ F (ArrDt.below HX.out hB0 HF.out) (HF.out.mono hB0.size) HW.out HT.out.inWorld).mono ?_
      rintro e w3 ⟨v3, F3, rfl, hb3, ha3, -, hfs3⟩
      have hB3 := hB0.trans (hb3.mono hB0.size)
      have KT3 := Lib.hid (KT.out.same (hb3.block _ KT.out.lt))
      have KR3 := Lib.hid (KR.out.same (hb3.block _ KR.out.lt))
      have HA3 := Lib.hid ha3
      have HU3 := Lib.hid hfs3.under
      have HL3 := Lib.hid (fun b hb => (hfs3 b hb).1)
      have hW2s := hB0.size
      obtain ⟨C3, cap3, rfl, hl1, hl2⟩ := ha3.form
      clear ha3 hfs3 hb3 KT KR y0 y1 ylt hB0
      go_wp2
      go_loopw [8] (fun iv wr => ∃ j : Nat, j ≤ (ctorsL xs ⟨(d : Int), (i : Int)⟩).length ∧ iv = .int .i64 j ∧ Hid (((ctorsL xs ⟨(d : Int), (i : Int)⟩).drop j).find? (isLeast xs ⟨(d : Int), (i : Int)⟩) = some kf) ∧ Hid (Below w3.heap.size w3 wr)) (fun iv _ => (ctorsL xs ⟨(d : Int), (i : Int)⟩).length - (intOf iv).toNat)
      case atStart => exact ⟨0, Nat.zero_le _, rfl, HFI.out, Below.refl _ _⟩
      case round =>
        obtain ⟨j, hj, rfl, HFJ, HBJ⟩ := hrel
        obtain ⟨wo, hwo⟩ : ∃ wo, wo = wr := ⟨_, rfl⟩
        rw [← hwo] at HBJ ⊢
        clear hwo
        have hB := hB3.trans (HBJ.out.mono hB3.size)
        have KTo := Lib.hid (KT3.out.same (HBJ.out.block _ KT3.out.lt))
        have y0 : wo.cell? ⟨w.heap.size, 0, none⟩ = some (.int .i64 (d : Int)) := (KTo.out.cell 0).trans (by simp)
        have y1 : wo.cell? ⟨w.heap.size, 1, none⟩ = some (.int .i64 (i : Int)) := (KTo.out.cell 1).trans (by simp)
        have ylt := KTo.out.lt
        by_cases hjl : j < (ctorsL xs ⟨(d : Int), (i : Int)⟩).length
        · have g1 : (0 : Int) ≤ (j : Int) := by omega
          have g2 : (j : Int) < ((ctorsL xs ⟨(d : Int), (i : Int)⟩).length : Int) := by omega
          obtain ⟨b3, off3, rfl⟩ := HA3.out.ptr (by omega)
          obtain ⟨hb3l, c3⟩ := ArrNat.at HA3.out HU3.out HBJ.out j hjl
          have hmj := find_step (p := isLeast xs ⟨(d : Int), (i : Int)⟩) hjl
          obtain ⟨d', m, e1, hkm, hd', hm⟩ := mem_ctorsL HT.out.inWorld (List.getElem_mem hjl)
          obtain rfl : d = d' := Int.ofNat.inj e1
          have hme : (ctorsL xs ⟨(d : Int), (i : Int)⟩)[j] ∈ (ctorsL xs ⟨(d : Int), (i : Int)⟩) := List.getElem_mem hjl
          rw [hkm] at hmj c3
          rw [hkm] at hme
          have HMJ := Lib.hid hmj
          have HME := Lib.hid hme
          have HIL : Hid (isLeast xs ⟨(d : Int), (i : Int)⟩ (m : Int) = (mostIn xs (tableL xs) ⟨(d : Int), (i : Int)⟩ (m : Int) == depthIn (tableL xs) ⟨(d : Int), (i : Int)⟩)) := rfl
          have HKJ := Lib.hid hkm
          clear hkm e1 hmj hme
          go_wp2_with fail
          have hkeep : ∀ U U' : World, (U.cell? ⟨w.heap.size, 0, none⟩ = some (.int .i64 (d : Int)) ∧ U.cell? ⟨w.heap.size, 1, none⟩ = some (.int .i64 (i : Int)) ∧ U.cell? ⟨b3, off3 + j, none⟩ = some (.int .i64 (m : Int))) → Below U.heap.size U U' → wo.heap.size ≤ U.heap.size → (U'.cell? ⟨w.heap.size, 0, none⟩ = some (.int .i64 (d : Int)) ∧ U'.cell? ⟨w.heap.size, 1, none⟩ = some (.int .i64 (i : Int)) ∧ U'.cell? ⟨b3, off3 + j, none⟩ = some (.int .i64 (m : Int))) := fun U U' h hUU hU => ⟨(hUU.cell (Nat.lt_of_lt_of_le (ylt) hU)).trans h.1, (hUU.cell (Nat.lt_of_lt_of_le (ylt) hU)).trans h.2.1, (hUU.cell (Nat.lt_of_lt_of_le (hb3l) hU)).trans h.2.2⟩
          have HKeep := Lib.hid hkeep
          clear hkeep
          go_region_held3 (fun w' => w'.cell? ⟨w.heap.size, 0, none⟩ = some (.int .i64 (d : Int)) ∧ w'.cell? ⟨w.heap.size, 1, none⟩ = some (.int .i64 (i : Int)) ∧ w'.cell? ⟨b3, off3 + j, none⟩ = some (.int .i64 (m : Int))) (first | assumption | (exact ⟨y0, y1, c3⟩) | (exact HKeep.out wo.drew w5 ⟨y0, y1, c3⟩ hb5 (Nat.le_refl _)) | (exact HKeep.out w5 w6 (by assumption) hb6 hlew5)) (first | (go_at_call 133; ((with_reducible refine (spec_l1Most xs HW.out (tableL xs) (tableL_small HW.out) d i m hd4 hi4 hm _ _ _ F H (ArrDt.below HX.out hB.drew HF.out) (HF.out.mono hB.drew.size) (ArrNat.below HY.out hB.drew HH.out) (HH.out.mono hB.drew.size)).mono ?_); rintro e w5 ⟨rfl, hb5⟩); have hB5 := hB.drew.trans (hb5.mono hB.size); have hlew5 : wo.heap.size ≤ w5.heap.size := hb5.size) | (go_at_call 131; ((with_reducible refine (spec_l1Depth xs.length HW.out.len (tableL xs) (tableL_small HW.out) ⟨(d : Int), (i : Int)⟩ HT.out _ _ H (ArrNat.below HY.out hB5 HH.out) (HH.out.mono hB5.size)).mono ?_); rintro e w6 ⟨rfl, hb6⟩)))
          have hb56 := hb5.trans (hb6.mono hb5.size)
          have hB6 := hB.drew.trans (hb56.mono hB.size)
          have HB36 : Hid (Below w3.heap.size w3 w6) := HBJ.out.trans ((below_undrew hb56).mono HBJ.out.size)
          have KT6 := Lib.hid (KTo.out.same ((below_undrew hb56).block _ KTo.out.lt))
          clear hb5 hb6 hB5 y0 y1 ylt c3 hb3l hb56 KTo
          cases hq : (mostIn xs (tableL xs) ⟨(d : Int), (i : Int)⟩ (m : Int) == depthIn (tableL xs) ⟨(d : Int), (i : Int)⟩) with
          | false =>
            have hne : (mostIn xs (tableL xs) ⟨(d : Int), (i : Int)⟩ (m : Int) != depthIn (tableL xs) ⟨(d : Int), (i : Int)⟩) = true := by unfold bne; rw [hq]; rfl
            have HF2 : Hid (((ctorsL xs ⟨(d : Int), (i : Int)⟩).drop (j + 1)).find? (isLeast xs ⟨(d : Int), (i : Int)⟩) = some kf) := by
              have h1 := HFJ.out
              rw [HMJ.out, HIL.out, hq, if_neg (by simp)] at h1
              exact h1
            generalize mostIn xs (tableL xs) ⟨(d : Int), (i : Int)⟩ (m : Int) = mo at *
            generalize depthIn (tableL xs) ⟨(d : Int), (i : Int)⟩ = de at *
            clear hq
            go_wp2
            go_roundw
            case rel => exact ⟨j + 1, hjl, by go_num, HF2, HB36⟩
            case measure => (simp [intOf] <;> omega)
          | true =>
            have hne : (mostIn xs (tableL xs) ⟨(d : Int), (i : Int)⟩ (m : Int) != depthIn (tableL xs) ⟨(d : Int), (i : Int)⟩) = false := by unfold bne; rw [hq]; rfl
            have hkf : kf = (m : Int) := by
              have h1 := HFJ.out
              rw [HMJ.out, HIL.out, hq, if_pos rfl] at h1
              exact (Option.some.inj h1).symm
            subst hkf
            have HP := Lib.hid (leastV_some (n := n) HDN.out HFI.out)
            have hal := argsOf_get (i := (i : Int)) hd4 hm
            have HAL : Hid (∀ a ∈ argsL xs[d].ctors[m] (i : Int), TyIn xs.length a ∧ depthIn (tableL xs) a ≠ 0 ∧ depthIn (tableL xs) a ≤ ((n : Nat) : Int)) := fun a ha => by
              have h1 := least_args HW.out HT.out HME.out (HIL.out.trans hq) H0.out (a := a) (by rw [hal]; exact ha)
              have h2 := HN.out
              exact ⟨h1.1, h1.2.1, by push_cast at h2; omega⟩
            have hl3 : (argsL xs[d].ctors[m] (i : Int)).length ≤ 3 := by rw [argsL_len]; exact (HW.out.ctor hd4 hm).args
            rw [hal] at HP
            have hca := (HW.out.ctor hd4 hm).args
            clear hq hal
            generalize mostIn xs (tableL xs) ⟨(d : Int), (i : Int)⟩ (m : Int) = mo at *
            generalize depthIn (tableL xs) ⟨(d : Int), (i : Int)⟩ = de at *
            have y0 : w6.cell? ⟨w.heap.size, 0, none⟩ = some (.int .i64 (d : Int)) := (KT6.out.cell 0).trans (by simp)
            have y1 : w6.cell? ⟨w.heap.size, 1, none⟩ = some (.int .i64 (i : Int)) := (KT6.out.cell 1).trans (by simp)
            have ylt := KT6.out.lt
            obtain ⟨hb3n, c3n⟩ := ArrNat.at HA3.out HU3.out HB36.out j hjl
            rw [HKJ.out] at c3n
            go_wp2_with fail
            clear y0 y1 ylt c3n hb3n
            have hD0 := hB6.size
            obtain ⟨wn, hwn⟩ : ∃ wn, wn = w6.alloc (.cells #[.int .i64 (m : Int), .int .i64 0, .slice none 0 0] 41) := ⟨_, rfl⟩
            have hbn : Below w6.heap.size w6 wn := by rw [hwn]; exact (Below.refl _ _).alloc (Nat.le_refl _) _
            have KN : Hid (Blk wn w6.heap.size 41 #[.int .i64 (m : Int), .int .i64 0, .slice none 0 0]) := by rw [hwn]; exact Blk.new _ _ _
            rw [← hwn]
            clear hwn
            obtain ⟨D, hD⟩ : ∃ D, D = w6.heap.size := ⟨_, rfl⟩
            rw [← hD] at KN hbn hD0 ⊢
            have hBn := hB6.trans (hbn.mono hD0)
            have KTn := Lib.hid (KT6.out.same (hbn.block _ (by rw [hD]; exact KT6.out.lt)))
            have HB3n : Hid (Below w3.heap.size w3 wn) := HB36.out.trans (hbn.mono (by rw [hD]; exact HB36.out.size))
            have h3D : w3.heap.size ≤ D := by rw [hD]; exact HB36.out.size
            clear hbn HB36 hB6 KT6 hD
            have y0 : wn.cell? ⟨w.heap.size, 0, none⟩ = some (.int .i64 (d : Int)) := (KTn.out.cell 0).trans (by simp)
            have y1 : wn.cell? ⟨w.heap.size, 1, none⟩ = some (.int .i64 (i : Int)) := (KTn.out.cell 1).trans (by simp)
            have ylt := KTn.out.lt
            obtain ⟨hb3n, c3n⟩ := ArrNat.at HA3.out HU3.out HB3n.out j hjl
            rw [HKJ.out] at c3n
            have hkeep : ∀ U U' : World, (U.cell? ⟨w.heap.size, 0, none⟩ = some (.int .i64 (d : Int)) ∧ U.cell? ⟨w.heap.size, 1, none⟩ = some (.int .i64 (i : Int)) ∧ U.cell? ⟨b3, off3 + j, none⟩ = some (.int .i64 (m : Int))) → Below U.heap.size U U' → wn.heap.size ≤ U.heap.size → (U'.cell? ⟨w.heap.size, 0, none⟩ = some (.int .i64 (d : Int)) ∧ U'.cell? ⟨w.heap.size, 1, none⟩ = some (.int .i64 (i : Int)) ∧ U'.cell? ⟨b3, off3 + j, none⟩ = some (.int .i64 (m : Int))) := fun U U' h hUU hU => ⟨(hUU.cell (Nat.lt_of_lt_of_le (ylt) hU)).trans h.1, (hUU.cell (Nat.lt_of_lt_of_le (ylt) hU)).trans h.2.1, (hUU.cell (Nat.lt_of_lt_of_le (hb3n) hU)).trans h.2.2⟩
            have HKeep := Lib.hid hkeep
            clear hkeep
            go_region_held3 (fun w' => w'.cell? ⟨w.heap.size, 0, none⟩ = some (.int .i64 (d : Int)) ∧ w'.cell? ⟨w.heap.size, 1, none⟩ = some (.int .i64 (i : Int)) ∧ w'.cell? ⟨b3, off3 + j, none⟩ = some (.int .i64 (m : Int))) (first | assumption | (exact ⟨y0, y1, c3n⟩) | (exact HKeep.out wn.drew w9 ⟨y0, y1, c3n⟩ hb7 (Nat.le_refl _))) (first | (go_at_call 134; ((with_reducible refine (spec_l1Args xs d m (i : Int) hd4 hm _ _ F (ArrDt.below HX.out hBn.drew HF.out) (HF.out.mono hBn.drew.size) hca).mono ?_); rintro e w9 ⟨v7, F7, rfl, hb7, ha7, -, hfs7⟩)))
            have hB9 := hBn.drew.trans (hb7.mono hBn.size)
            have hb7u := below_undrew hb7
            have KN9 := Lib.hid (KN.out.same (hb7u.block _ KN.out.lt))
            have KR9 := Lib.hid (KR3.out.same ((HB3n.out.trans (hb7u.mono HB3n.out.size)).block _ KR3.out.lt))
            have HA7 := Lib.hid ha7
            have HU7 := Lib.hid hfs7.under
            have HL7 : Hid (∀ b ∈ F7, D < b) := fun b hb => Nat.lt_of_lt_of_le KN.out.lt (hfs7 b hb).1
            have hDw : D < w9.heap.size := KN9.out.lt
            have hk3 := KR3.out.lt
            obtain ⟨C7, cap7, rfl, hl71, hl72⟩ := ha7.form
            obtain ⟨Bz, hBz⟩ : ∃ B, B = w9.heap.size := ⟨_, rfl⟩
            have HBZ := Lib.hid hBz
            have hDB : D < Bz := by rw [hBz]; exact hDw
            have hzB : w.heap.size ≤ D := by omega
            obtain ⟨i0, hi, hz0, hz1, hz2⟩ := info_parts info_VE
            have HI := Lib.hid hi
            have HZ0 := Lib.hid hz0
            have HZ1 := Lib.hid hz1
            have HZ2 := Lib.hid hz2
            clear hi hz0 hz1 hz2
            clear ha7 hfs7 hb7 hb7u KN hBn y0 y1 ylt KTn hBz c3n hb3n HB3n hB
            generalize (argsL xs[d].ctors[m] (i : Int)) = ls at *
            go_wp2
            go_loopw [11] (fun iv wr => ∃ q : Nat, ∃ kv : Value, ∃ Fk : List Nat, q ≤ ls.length ∧ iv = .int .i64 q ∧ Hid (Blk wr D 41 #[.int .i64 (m : Int), .int .i64 0, kv]) ∧ Hid (Own wr Bz 41 3 VR (leastTo xs n ls q) kv Fk) ∧ Hid (Free wr Fk) ∧ Hid (∀ b ∈ Fk, Bz ≤ b) ∧ Hid (Chg [D] w9 wr) ∧ Below w.heap.size w wr ∧ w9.heap.size ≤ wr.heap.size) (fun iv _ => ls.length - (intOf iv).toNat)
            case atStart => exact ⟨0, _, [], Nat.zero_le _, rfl, KN9, (show Own _ _ _ _ _ (leastTo xs n ls 0) _ _ from Own.nil _ _ _ _ _), Free.nil _, (fun b hb => by cases hb), Chg.refl _ _, hB9, Nat.le_refl _⟩
            case round =>
              clear hB9 KN9
              obtain ⟨q, kv, Fk, hql, rfl, KD, HO, HFk, HFh, HC, hB, hws⟩ := hrel
              obtain ⟨kA, kcap, hkv, hkc1, hkc2⟩ := HO.out.form
              subst hkv
              have klt := KD.out.lt
              have HA7r : Hid (Arr wr (TyR wr) ls (.slice C7 ls.length cap7) F7) := HA7.out.mono (HC.out.kept HU7.out (fun b hb h => by rw [List.mem_singleton] at h; have := HL7.out b hb; omega)) (fun y _ cs G _ h => h)
              have HU7r : Hid (Under wr.heap.size F7) := HU7.out.mono HC.out.size
              by_cases hil : q < ls.length
              · have g1 : (0 : Int) ≤ (q : Int) := by omega
                have g2 : (q : Int) < (ls.length : Int) := by omega
                obtain ⟨b7, off7, rfl⟩ := HA7r.out.ptr (by omega)
                have hb7z : D < b7 ∧ b7 < Bz := by
                  obtain ⟨_, _, _, _, e, hb, -⟩ := HA7r.out.get TyR_len hil
                  cases e
                  exact ⟨HL7.out _ hb, by have := HU7.out _ hb; rw [HBZ.out]; exact this⟩
                obtain ⟨hb7w, k0, k1⟩ := ArrTy.at HA7r.out HU7r.out (Below.refl _ _) q hil
                have hkk := leastTo_len xs n ls q
                have ha := HAL.out ls[q] (List.getElem_mem hil)
                have HSM := Lib.hid (leastV_small HW.out (show n ≤ 10 by omega) ha.1)
                have HA1 := Lib.hid ha
                clear ha
                obtain ⟨aq, haq⟩ : ∃ a, a = ls[q] := ⟨_, rfl⟩
                have HF2 := Lib.hid (leastTo_succ xs n ls q hil)
                rw [← haq] at HSM HA1 HF2 k0 k1
                clear haq
                have hmx : (leastTo xs n ls q).length + 1 ≤ maxLen := by unfold maxLen; omega
                have hby : ((leastTo xs n ls q).length + 1) * 40 ≤ 140737488355328 := by omega
                have zT : wr.drew.cell? ⟨D, 2, none⟩ = some (.slice kA (leastTo xs n ls q).length kcap) := (KD.out.cell 2).trans (by simp)
                have zfT : wr.drew.frozen? ⟨D, 2, none⟩ = false := KD.out.frozen 2
                have hkT : D < wr.drew.heap.size := klt
                have hb7' : b7 < wr.drew.heap.size := hb7w
                have HBk : Hid (Below wr.heap.size wr wr.drew) := (Below.refl _ _).drew
                have HCALL := Lib.hid (IH.out xs HW.out aq HA1.out.1 HA1.out.2.1 HA1.out.2.2 (by omega) wr.drew _ F _ H (ArrDt.below HX.out hB.drew HF.out) (HF.out.mono hB.drew.size) (ArrNat.below HY.out hB.drew HH.out) (HH.out.mono hB.drew.size))
                go_wp2_with fail
                refine wp_region_B (S := fun w' => w'.cell? ⟨b7, off7 + q * 2, none⟩ = some (.int .i64 aq.d) ∧ w'.cell? ⟨b7, off7 + q * 2 + 1, none⟩ = some (.int .i64 aq.i)) (T := fun w' => w'.cell? ⟨D, 2, none⟩ = some (.slice kA (leastTo xs n ls q).length kcap)) (d := 10) (by kernel_rfl) ?_
                have hS1 : wr.drew.cell? ⟨b7, off7 + q * 2, none⟩ = some (.int .i64 aq.d) ∧ wr.drew.cell? ⟨b7, off7 + q * 2 + 1, none⟩ = some (.int .i64 aq.i) := ⟨k0, k1⟩
                have hT1 : wr.drew.cell? ⟨D, 2, none⟩ = some (.slice kA (leastTo xs n ls q).length kcap) := zT
                refine wpAnyB_take (i := 0) (v := ?_) rfl (by decide) (by kernel_rfl) (by kernel_rfl) (by kernel_rfl) (fun _ _ _ h => h) (Or.inl ⟨by rfl, ?hy0⟩) hS1 (fun _ => hT1) ?_
                case hy0 => (intro W hSw; (try dsimp only at hSw); (obtain ⟨s0, s1⟩ := hSw); go_simp; try with_reducible rfl)
                (try simp only [Act.put, List.setIfInBounds_toArray, List.set_cons_zero, List.set_cons_succ])
                refine wpAnyB_takeB (i := 1) (v := ?_) rfl (by decide) rfl (by kernel_rfl) (by kernel_rfl) (by kernel_rfl) (by kernel_rfl) (fun _ _ _ h => h) (Or.inl ⟨by rfl, ?hy1⟩) (by rfl) hS1 hT1 ?_
                case hy1 => (intro W hSw; (try dsimp only at hSw); (obtain ⟨⟨s0, s1⟩, tT⟩ := hSw); go_simp; try with_reducible rfl)
                (try simp only [Act.put, List.setIfInBounds_toArray, List.set_cons_zero, List.set_cons_succ])
                refine wpAnyB_take (i := 2) (v := ?_) rfl (by decide) (by kernel_rfl) (by kernel_rfl) (by kernel_rfl) (fun _ _ _ h => h) (Or.inl ⟨by rfl, ?hy2⟩) hS1 (fun _ => hT1) ?_
                case hy2 => (intro W hSw; (try dsimp only at hSw); (obtain ⟨s0, s1⟩ := hSw); go_simp; try with_reducible rfl)
                (try simp only [Act.put, List.setIfInBounds_toArray, List.set_cons_zero, List.set_cons_succ])
                refine wpAnyB_take (i := 3) (v := ?_) rfl (by decide) (by kernel_rfl) (by kernel_rfl) (by kernel_rfl) (fun _ _ _ h => h) (Or.inl ⟨by rfl, ?hy3⟩) hS1 (fun _ => hT1) ?_
                case hy3 => (intro W hSw; (try dsimp only at hSw); (obtain ⟨s0, s1⟩ := hSw); go_simp; try with_reducible rfl)
                (try simp only [Act.put, List.setIfInBounds_toArray, List.set_cons_zero, List.set_cons_succ])
                refine wpAnyB_take (i := 4) (v := ?_) rfl (by decide) (by kernel_rfl) (by kernel_rfl) (by kernel_rfl) (fun _ _ _ h => h) (Or.inl ⟨by rfl, ?hy4⟩) hS1 (fun _ => hT1) ?_
                case hy4 => (intro W hSw; (try dsimp only at hSw); (obtain ⟨s0, s1⟩ := hSw); go_simp; try with_reducible rfl)
                (try simp only [Act.put, List.setIfInBounds_toArray, List.set_cons_zero, List.set_cons_succ])
                refine wpAnyB_take (i := 5) (v := ?_) rfl (by decide) (by kernel_rfl) (by kernel_rfl) (by kernel_rfl) (fun _ _ _ h => h) (Or.inl ⟨by rfl, ?hy5⟩) hS1 (fun _ => hT1) ?_
                case hy5 => (intro W hSw; (try dsimp only at hSw); (obtain ⟨s0, s1⟩ := hSw); go_simp; try with_reducible rfl)
                (try simp only [Act.put, List.setIfInBounds_toArray, List.set_cons_zero, List.set_cons_succ])
                refine wpAnyB_take (i := 6) (v := ?_) rfl (by decide) (by kernel_rfl) (by kernel_rfl) (by kernel_rfl) (fun _ _ _ h => h) (Or.inl ⟨by rfl, ?hy6⟩) hS1 (fun _ => hT1) ?_
                case hy6 => (intro W hSw; (try dsimp only at hSw); (obtain ⟨s0, s1⟩ := hSw); go_simp; try with_reducible rfl)
                (try simp only [Act.put, List.setIfInBounds_toArray, List.set_cons_zero, List.set_cons_succ])
                refine wpAnyB_take (i := 7) (v := ?_) rfl (by decide) (by kernel_rfl) (by kernel_rfl) (by kernel_rfl) (fun _ _ _ h => h) (Or.inl ⟨by rfl, ?hy7⟩) hS1 (fun _ => hT1) ?_
                case hy7 => (intro W hSw; (try dsimp only at hSw); (obtain ⟨s0, s1⟩ := hSw); go_simp; try with_reducible rfl)
                (try simp only [Act.put, List.setIfInBounds_toArray, List.set_cons_zero, List.set_cons_succ])
                refine wpAnyB_ready (rs := [8]) (by kernel_rfl) (by simp) ?_
                refine AllReadyB.cons rfl (fun K hK => ?_) AllReadyB.nil
                go_simp
                go_at_call 84
                with_reducible refine HCALL.out.mono ?_
                rintro e wA ⟨csA, FA, rfl, hbA, hpA, hfrA, hfsA⟩
                obtain ⟨kvA, rfl, haA⟩ := (VR_iff _ _ _).1 hpA
                obtain ⟨A8, cap8, rfl, -, -⟩ := haA.form
                clear haA
                have HBu := Lib.hid (HBk.out.trans (hbA.mono HBk.out.size))
                have HPA := Lib.hid hpA
                have HFrA := Lib.hid hfrA
                have HFsA : Hid (∀ b ∈ FA, wr.heap.size ≤ b ∧ b < wA.heap.size) := fun b hb => ⟨Nat.le_trans HBk.out.size (hfsA b hb).1, (hfsA b hb).2⟩
                have HOA : Hid (Own wA Bz 41 3 VR (leastTo xs n ls q) (.slice kA (leastTo xs n ls q).length kcap) Fk) := HO.out.below (fun x cs G hk h => VR_mono' _ _ x cs G hk h) HBu.out
                have hbs : Bz ≤ wA.heap.size := by have h1 := HBu.out.size; have h2 := HBZ.out; omega
                have n7D : D < Bz := hDB
                have hSA : wA.cell? ⟨b7, off7 + q * 2, none⟩ = some (.int .i64 aq.d) ∧ wA.cell? ⟨b7, off7 + q * 2 + 1, none⟩ = some (.int .i64 aq.i) := ⟨(hbA.cell (p := ⟨b7, off7 + q * 2, none⟩) hb7').trans k0, (hbA.cell (p := ⟨b7, off7 + q * 2 + 1, none⟩) hb7').trans k1⟩
                have zA : wA.cell? ⟨D, 2, none⟩ = some (.slice kA (leastTo xs n ls q).length kcap) := (hbA.cell (p := ⟨D, 2, none⟩) hkT).trans zT
                have zfA : wA.frozen? ⟨D, 2, none⟩ = false := (hbA.frozen hkT).trans zfT
                have hkA : D < wA.heap.size := Nat.lt_of_lt_of_le hkT hbA.size
                have kl1 : b7 < wA.heap.size := Nat.lt_of_lt_of_le hb7' hbA.size
                have kl2 : b7 < wA.heap.size := Nat.lt_of_lt_of_le hb7' hbA.size
                have hSB : (wA.alloc (.cells [.int .i64 (leastV xs n aq).c, .int .i64 (leastV xs n aq).n, .slice A8 (leastV xs n aq).ks.length cap8].toArray 41)).cell? ⟨b7, off7 + q * 2, none⟩ = some (.int .i64 aq.d) ∧ (wA.alloc (.cells [.int .i64 (leastV xs n aq).c, .int .i64 (leastV xs n aq).n, .slice A8 (leastV xs n aq).ks.length cap8].toArray 41)).cell? ⟨b7, off7 + q * 2 + 1, none⟩ = some (.int .i64 aq.i) := ⟨(World.cell?_alloc_lt _ _ _ kl1).trans hSA.1, (World.cell?_alloc_lt _ _ _ kl2).trans hSA.2⟩
                dsimp only
                refine hK.out _ _ hSA (fun _ => zA) ?_
                clear hK K
                (try simp only [Act.put, List.setIfInBounds_toArray, List.set_cons_zero, List.set_cons_succ])
                refine wpAnyB_ready (rs := [9]) (by kernel_rfl) (by simp) ?_
                refine AllReadyB.cons rfl (fun K hK => ?_) AllReadyB.nil
                go_simp
                refine hK.out _ _ hSB (fun _ => (World.cell?_alloc_lt _ _ _ hkA).trans zA) ?_
                clear hK K
                (try simp only [Act.put, List.setIfInBounds_toArray, List.set_cons_zero, List.set_cons_succ])
                refine wpAnyB_ready (rs := [10]) (by kernel_rfl) (by simp) ?_
                refine AllReadyB.cons rfl (fun K hK => ?_) AllReadyB.nil
                refine step_push1 (P := Try.prog) rfl _ _ 39 rfl i0 _ 40 Try.underlying39 HI.out HZ0.out HZ1.out HZ2.out rfl (by decide) VR_len' VR_mono' (by rfl) HOA.out (leastV xs n aq) 41 [.int .i64 (leastV xs n aq).c, .int .i64 (leastV xs n aq).n, .slice A8 (leastV xs n aq).ks.length cap8] FA wA.heap.size (by rfl) rfl (by simp [Value.oneCell']) HPA.out (fun b hb => (HFsA.out b hb).2) (fun g hg hG => Nat.lt_irrefl _ (Nat.lt_of_lt_of_le (HO.out.row g hg).2 (HFsA.out g hG).1)) hmx hby hbs ?_
                intro g cp w7 hown7 hgr7 hat7
                have hrow7 := HOA.out.row
                have n7 : ∀ x, (x < Bz ∨ wr.heap.size ≤ x) → some x ≠ (Value.ownBlock (.slice kA (leastTo xs n ls q).length kcap)) := fun x hx e => by
                  have h1 := (hrow7 x (mem_rowOf.2 e.symm)).1
                  have h2 := (HO.out.row x (mem_rowOf.2 e.symm)).2
                  omega
                have l7 : wA.heap.size ≤ (wA.alloc (.cells [.int .i64 (leastV xs n aq).c, .int .i64 (leastV xs n aq).n, .slice A8 (leastV xs n aq).ks.length cap8].toArray 41)).heap.size := by rw [World.size_alloc]; exact Nat.le_succ _
                have s7 : w7.cell? ⟨b7, off7 + q * 2, none⟩ = some (.int .i64 aq.d) ∧ w7.cell? ⟨b7, off7 + q * 2 + 1, none⟩ = some (.int .i64 aq.i) := ⟨(World.grownBy.cell_far hgr7 ⟨b7, off7 + q * 2, none⟩ (Nat.lt_of_lt_of_le kl1 l7) (n7 (b7) (by omega))).trans hSB.1, (World.grownBy.cell_far hgr7 ⟨b7, off7 + q * 2 + 1, none⟩ (Nat.lt_of_lt_of_le kl2 l7) (n7 (b7) (by omega))).trans hSB.2⟩
                have z71 : w7.cell? ⟨D, 2, none⟩ = some (.slice kA (leastTo xs n ls q).length kcap) := (World.grownBy.cell_far hgr7 ⟨D, 2, none⟩ (Nat.lt_of_lt_of_le hkA l7) (n7 (D) (by omega))).trans ((World.cell?_alloc_lt _ _ _ hkA).trans zA)
                have zf71 : w7.frozen? ⟨D, 2, none⟩ = false := (World.grownBy.frozen_far hgr7 ⟨D, 2, none⟩ (Nat.lt_of_lt_of_le hkA l7) (n7 (D) (by omega))).trans (Eq.trans (World.frozen?_of_block (Below.heap_alloc _ _ _ hkA)) zfA)
                refine hK.out _ _ s7 (fun h => by cases h) ?_
                clear hK K
                (try simp only [Act.put, List.setIfInBounds_toArray, List.set_cons_zero, List.set_cons_succ])
                refine wpAnyB_take (i := 11) (v := ?_) rfl (by decide) (by kernel_rfl) (by kernel_rfl) (by kernel_rfl) (fun _ _ _ h => h) (Or.inl ⟨by rfl, ?hy11⟩) s7 (fun h => by cases h) ?_
                case hy11 => (intro W hSw; (try dsimp only at hSw); (obtain ⟨s0, s1⟩ := hSw); go_simp; try with_reducible rfl)
                (try simp only [Act.put, List.setIfInBounds_toArray, List.set_cons_zero, List.set_cons_succ])
                refine wpAnyB_ready (rs := [12]) (by kernel_rfl) (by simp) ?_
                refine AllReadyB.cons rfl (fun K hK => ?_) AllReadyB.nil
                go_simp
                refine hK.out _ _ ⟨(World.cell?_setCell_far _ _ _ _ (by show D ≠ b7; omega)).trans s7.1, (World.cell?_setCell_far _ _ _ _ (by show D ≠ b7; omega)).trans s7.2⟩ (fun h => by cases h) ?_
                clear hK K
                (try simp only [Act.put, List.setIfInBounds_toArray, List.set_cons_zero, List.set_cons_succ])
                refine wpAnyB_end (by kernel_rfl) ?_
                obtain ⟨r1, r2, r3, r4, r5, r6, r7⟩ := kid_round2 (w := w) 2 VR_mono' HBZ.out.symm hDB KD.out HO.out HFk.out HFh.out HC.out hB hzB (Nat.le_refl _) HBu.out HFrA.out HFsA.out hown7 hgr7
                have R1 := Lib.hid r1
                have R2 := Lib.hid r2
                have R3 := Lib.hid r3
                have R4 := Lib.hid r4
                have R5 := Lib.hid r5
                have R6 := Lib.hid r6
                clear r1 r2 r3 r4 r5 r6 hown7 hgr7 hat7 hrow7 n7 l7 s7 z71 zf71 hSA zA zfA hkA hSB hS1 hT1 zT zfT hkT HCALL
                go_wp2
                go_roundw
                case rel => exact ⟨q + 1, _, _, hil, by go_num, R1, by rw [HF2.out]; exact R2.out, R3, R4, R5, R6.out, r7⟩
                case measure => (simp [intOf] <;> omega)
              · have HO2 := HO.out
                rw [leastTo_all xs n ls (by omega)] at HO2
                have hln := congrArg List.length (leastTo_all xs n ls (i := q) (by omega))
                obtain ⟨FF, hf1, hf2, hf3⟩ := kid_done (H := Bz) HO2 HFk.out HFh.out (Nat.le_refl _)
                have HF1 := Lib.hid hf1
                have HF2 := Lib.hid hf2
                have HF3 := Lib.hid hf3
                have e0 := (KD.out.cell 0).trans (show _ = some (.int .i64 (m : Int)) from by simp)
                have e1 := (KD.out.cell 1).trans (show _ = some (.int .i64 0) from by simp)
                have e2 := (KD.out.cell 2).trans (show _ = some (.slice kA (leastTo xs n ls q).length kcap) from by simp)
                have HLN := Lib.hid hln
                have RR := Lib.hid (KR9.out.same (HC.out.block _ KR9.out.lt (by rw [List.mem_singleton]; omega)))
                have rc0 := (RR.out.cell 0).trans (show _ = some (.int .i64 0) from by simp)
                have rf0 := RR.out.frozen 0
                have rc1 := (RR.out.cell 1).trans (show _ = some (.int .i64 0) from by simp)
                have rf1 := RR.out.frozen 1
                have rc2 := (RR.out.cell 2).trans (show _ = some (.slice none 0 0) from by simp)
                have rf2 := RR.out.frozen 2
                have rlt := RR.out.lt
                clear hf1 hf2 hf3 HO2 hln
                go_wp2
                clear e0 e1 e2 rc0 rf0 rc1 rf1 rc2 rf2 rlt
                refine bodyPost_ret (results_cell_row rfl _ _ (w.heap.size + 1) 41 #[.int .i64 (m : Int), .int .i64 0, .slice kA (leastTo xs n ls q).length kcap] (0, 0) _ rfl (RR.out.three _ _ _) Try.underlying41 rfl rfl) rfl ?_
                have hkp : Kept FF wr _ := kept_three (w := wr) (H := w.heap.size + 1) (fun b hb => by have := (HF3.out b hb).1; omega) (.int .i64 (m : Int)) (.int .i64 0) (.slice kA (leastTo xs n ls q).length kcap)
                refine ⟨[.int .i64 (m : Int), .int .i64 0, .slice kA (leastTo xs n ls q).length kcap], FF, rfl, below_three hB (by omega) _ _ _, ?_, HF2.out.kept hkp, fun b hb => ⟨by have := (HF3.out b hb).1; omega, ?_⟩⟩
                · rw [HP.out]
                  exact (VR_iff _ _ _).2 ⟨_, rfl, ArrV.mono (by rw [HLN.out]; exact HF1.out) hkp⟩
                · rw [size_three]; exact (HF3.out b hb).2
        · exfalso
          have h1 := HFJ.out
          rw [find_end (by omega)] at h1
          cases h1
end Go.Proofs.Ytbffkgfhcmigaaa

namespace Go.Proofs.Ytbffkgfhcmigaaa
open Go.RowKit

/-- a call gives a value of its own, and whether there is one -/
def MadeV2 (v : V) (b : Bool) (w : World) (e : Ending) (w' : World) : Prop := ∃ cs F, e = .returned (.tuple #[.agg cs.toArray, .bool b]) ∧ Below w.heap.size w w' ∧ VR w' v cs F ∧ Free w' F ∧ Fresh w w' F
def leastOkB (xs : List Dt) (t : Ty) : Bool := withinB (depthIn (tableL xs) t) 1 10
def leastOkV (xs : List Dt) (t : Ty) : V := if leastOkB xs t = true then leastV xs 10 t else ⟨0, 0, []⟩
theorem leastOk_dep {xs : List Dt} {t : Ty} (h : leastOkB xs t = true) : depthIn (tableL xs) t ≠ 0 ∧ depthIn (tableL xs) t ≤ ((10 : Nat) : Int) := by
  unfold leastOkB withinB at h
  simp only [Bool.and_eq_true, decide_eq_true_eq] at h
  exact ⟨by omega, by omega⟩
theorem leastOkV_small {xs : List Dt} (hw : WorldOK xs) {t : Ty} (ht : TyIn xs.length t) : (leastOkV xs t).size ≤ 1048576 := by
  unfold leastOkV
  split
  · exact leastV_small hw (by omega) ht
  · simp [V.size, V.sizes]
theorem leastFine_eq (xs : List Dt) (t : Ty) : leastFine xs t = (typeValidB xs t && (leastOkB xs t && valueOkB xs t (leastOkV xs t))) := by
  unfold leastFine
  show _ = (_ && (withinB _ 1 10 && _))
  cases h : withinB (depthIn (tableL xs) t) 1 10 with
  | false => simp
  | true =>
    have : leastOkV xs t = leastV xs 10 t := by unfold leastOkV leastOkB; rw [if_pos h]
    rw [this]
theorem leastR_no {xs : List Dt} {t : Ty} (h : leastFine xs t = false) : leastR xs t = ⟨0, 0, []⟩ := by unfold leastR; rw [if_neg (by simp [h])]
theorem leastR_yes {xs : List Dt} {t : Ty} (h : leastFine xs t = true) (h2 : leastOkB xs t = true) : leastR xs t = leastOkV xs t := by unfold leastR leastOkV; rw [if_pos h, if_pos h2]

set_option maxRecDepth 100000 in
set_option maxHeartbeats 1600000 in
theorem impl_leastOk (xs : List Dt) (hw : WorldOK xs) (t : Ty) (ht : TyIn xs.length t) (w : World) (x : Value) (F : List Nat) (gd : Nat) (hx : Arr w (DtR w) xs x F) (hf : Under w.heap.size F) (hy : Tab w gd (tableL xs)) :
    Calls Try.prog 88 #[x, .pointer (some ⟨gd, 0, none⟩), .agg #[.int .i64 t.d, .int .i64 t.i]] w (MadeV2 (leastOkV xs t) (leastOkB xs t) w) := by
  obtain ⟨A, cap, rfl, hc1, hc2⟩ := hx.form
  have HW := Lib.hid hw
  have HT := Lib.hid ht
  have HX := Lib.hid hx
  have HF := Lib.hid hf
  have HY := Lib.hid hy
  clear hx hf hy
  clear hw ht
  go_enter Try.func88, Try.ntmps88
  go_wp2_with fail
  obtain ⟨W2, hW2⟩ : ∃ W2, W2 = ((w.alloc (.cells #[.int .i64 t.d, .int .i64 t.i] 37)).alloc (.cells #[.int .i64 0, .int .i64 0, .slice none 0 0] 41)) := ⟨_, rfl⟩
  have hB0 : Below w.heap.size w W2 := by rw [hW2]; exact ((Below.refl _ _).alloc (Nat.le_refl _) _).alloc (by simp) _
  have KT : Hid (Blk W2 w.heap.size 37 #[.int .i64 t.d, .int .i64 t.i]) := by rw [hW2]; exact (Blk.new w _ _).same (Below.heap_alloc _ _ _ (by simp))
  have KR : Hid (Blk W2 (w.heap.size + 1) 41 #[.int .i64 0, .int .i64 0, .slice none 0 0]) := by rw [hW2]; exact blk_second w _ _ _
  rw [← hW2]
  clear hW2
  have y0 : W2.cell? ⟨w.heap.size, 0, none⟩ = some (.int .i64 t.d) := (KT.out.cell 0).trans (by simp)
  have y1 : W2.cell? ⟨w.heap.size, 1, none⟩ = some (.int .i64 t.i) := (KT.out.cell 1).trans (by simp)
  have ylt := KT.out.lt
  go_wp2_with fail
  refine (impl_of xs.length HW.out.len (tableL xs) (tableL_small HW.out) t HT.out W2 gd (HY.out.same (hB0.block _ HY.out.lt))).mono ?_
  rintro e w3 ⟨rfl, hb3⟩
  have hB3 := hB0.trans (hb3.mono hB0.size)
  have KT3 := Lib.hid (KT.out.same (hb3.block _ KT.out.lt))
  have KR3 := Lib.hid (KR.out.same (hb3.block _ KR.out.lt))
  clear y0 y1 ylt
  have HD := Lib.hid (show leastOkB xs t = withinB (depthIn (tableL xs) t) 1 10 from rfl)
  generalize depthIn (tableL xs) t = de at *
  go_wp2_with fail
  refine (impl_within de 1 10 w3).mono ?_
  rintro e w3' ⟨rfl, rfl⟩
  rw [← HD.out]
  clear hb3 KT KR
  have y0 : w3.cell? ⟨w.heap.size, 0, none⟩ = some (.int .i64 t.d) := (KT3.out.cell 0).trans (by simp)
  have y1 : w3.cell? ⟨w.heap.size, 1, none⟩ = some (.int .i64 t.i) := (KT3.out.cell 1).trans (by simp)
  have ylt := KT3.out.lt
  cases e1 : leastOkB xs t with
  | false =>
    have hz : Hid (leastOkV xs t = ⟨0, 0, []⟩) := by unfold Hid leastOkV; rw [if_neg (by simp [e1])]
    have HE := Lib.hid e1
    clear e1
    have rc0 := (KR3.out.cell 0).trans (show _ = some (.int .i64 0) from by simp)
    have rf0 := KR3.out.frozen 0
    have rc1 := (KR3.out.cell 1).trans (show _ = some (.int .i64 0) from by simp)
    have rf1 := KR3.out.frozen 1
    have rc2 := (KR3.out.cell 2).trans (show _ = some (.slice none 0 0) from by simp)
    have rf2 := KR3.out.frozen 2
    have rlt := KR3.out.lt
    go_wp2
    clear rc0 rf0 rc1 rf1 rc2 rf2 rlt
    refine bodyPost_ret (results_cell_tmp rfl _ _ (w.heap.size + 1) 41 #[.int .i64 0, .int .i64 0, .slice none 0 0] (0, 0) _ rfl (KR3.out.three _ _ _) Try.underlying41 rfl rfl) rfl ?_
    exact ⟨[.int .i64 0, .int .i64 0, .slice none 0 0], [], by rw [HE.out]; rfl, below_three hB3 (by omega) _ _ _, by rw [hz.out]; exact (VR_iff _ _ _).2 ⟨_, rfl, Arr.nil⟩, Free.nil _, Fresh.nil _ _⟩
  | true =>
    have hz : Hid (leastOkV xs t = leastV xs 10 t) := by unfold Hid leastOkV; rw [if_pos e1]
    have HE := Lib.hid e1
    have HDP := Lib.hid (leastOk_dep e1)
    clear e1
    go_wp2_with fail
    refine (impl_least 10 xs HW.out t HT.out HDP.out.1 HDP.out.2 (Nat.le_refl _) w3 _ F gd (ArrDt.below HX.out hB3 HF.out) (HF.out.mono hB3.size) (HY.out.same (hB3.block _ HY.out.lt))).mono ?_
    rintro e w4 ⟨cs4, F4, rfl, hb4, hp4, hfr4, hfs4⟩
    obtain ⟨kv4, rfl, ha4⟩ := (VR_iff _ _ _).1 hp4
    obtain ⟨aA, acap, rfl, -, -⟩ := ha4.form
    have hB4 := hB3.trans (hb4.mono hB3.size)
    have KR4 := Lib.hid (KR3.out.same (hb4.block _ KR3.out.lt))
    have HNE : Hid (∀ b ∈ F4, b ≠ w.heap.size + 1) := fun b hb e => by have h1 := (hfs4 b hb).1; have h2 := KR3.out.lt; omega
    have HP4 := Lib.hid hp4
    have HFR4 := Lib.hid hfr4
    have HFS4 : Hid (Fresh w w4 F4) := fun b hb => ⟨Nat.le_trans hB3.size (hfs4 b hb).1, (hfs4 b hb).2⟩
    clear hp4 hfr4 hfs4 hb4 ha4 y0 y1 ylt KR3 KT3
    generalize (leastV xs 10 t).ks.length = n5 at *
    generalize (leastV xs 10 t).c = ac at *
    generalize (leastV xs 10 t).n = an at *
    have rc0 := (KR4.out.cell 0).trans (show _ = some (.int .i64 0) from by simp)
    have rf0 := KR4.out.frozen 0
    have rc1 := (KR4.out.cell 1).trans (show _ = some (.int .i64 0) from by simp)
    have rf1 := KR4.out.frozen 1
    have rc2 := (KR4.out.cell 2).trans (show _ = some (.slice none 0 0) from by simp)
    have rf2 := KR4.out.frozen 2
    have rlt := KR4.out.lt
    go_wp2
    clear rc0 rf0 rc1 rf1 rc2 rf2 rlt
    refine bodyPost_ret (results_cell_tmp rfl _ _ (w.heap.size + 1) 41 #[.int .i64 ac, .int .i64 an, .slice aA n5 acap] (0, 0) _ rfl (KR4.out.three _ _ _) Try.underlying41 rfl rfl) rfl ?_
    have hkp : Kept F4 w4 _ := kept_three (w := w4) (H := w.heap.size + 1) HNE.out (.int .i64 ac) (.int .i64 an) (.slice aA n5 acap)
    refine ⟨[.int .i64 ac, .int .i64 an, .slice aA n5 acap], F4, by rw [HE.out]; rfl, below_three hB4 (by omega) _ _ _, ?_, HFR4.out.kept hkp, fun b hb => ⟨(HFS4.out b hb).1, by rw [size_three]; exact (HFS4.out b hb).2⟩⟩
    rw [hz.out]
    exact VR.mono _ _ _ hkp HP4.out

set_option maxRecDepth 100000 in
set_option maxHeartbeats 1600000 in
theorem impl_LeastValue (xs : List Dt) (t : Ty) (w : World) (x : Value) (F : List Nat) (hx : Arr w (DtR w) xs x F) (hf : Under w.heap.size F) :
    Calls Try.prog 30 #[x, .agg #[.int .i64 t.d, .int .i64 t.i]] w (MadeV2 (leastR xs t) (leastFine xs t) w) := by
  obtain ⟨A, cap, rfl, hc1, hc2⟩ := hx.form
  have HFE := Lib.hid (leastFine_eq xs t)
  have HX := Lib.hid hx
  have HF := Lib.hid hf
  clear hx hf
  go_enter Try.func30, Try.ntmps30
  go_wp2_with fail
  obtain ⟨W2, hW2⟩ : ∃ W2, W2 = ((w.alloc (.cells #[.int .i64 t.d, .int .i64 t.i] 37)).alloc (.cells #[.int .i64 0, .int .i64 0, .slice none 0 0] 41)) := ⟨_, rfl⟩
  have hB0 : Below w.heap.size w W2 := by rw [hW2]; exact ((Below.refl _ _).alloc (Nat.le_refl _) _).alloc (by simp) _
  have KT : Hid (Blk W2 w.heap.size 37 #[.int .i64 t.d, .int .i64 t.i]) := by rw [hW2]; exact (Blk.new w _ _).same (Below.heap_alloc _ _ _ (by simp))
  have KR : Hid (Blk W2 (w.heap.size + 1) 41 #[.int .i64 0, .int .i64 0, .slice none 0 0]) := by rw [hW2]; exact blk_second w _ _ _
  rw [← hW2]
  clear hW2
  have y0 : W2.cell? ⟨w.heap.size, 0, none⟩ = some (.int .i64 t.d) := (KT.out.cell 0).trans (by simp)
  have y1 : W2.cell? ⟨w.heap.size, 1, none⟩ = some (.int .i64 t.i) := (KT.out.cell 1).trans (by simp)
  have ylt := KT.out.lt
  go_wp2_with fail
  refine (impl_TypeValid xs t W2 _ F (ArrDt.below HX.out hB0 HF.out) (HF.out.mono hB0.size)).mono ?_
  rintro e w3 ⟨rfl, hb3⟩
  have hB3 := hB0.trans (hb3.mono hB0.size)
  have KT3 := Lib.hid (KT.out.same (hb3.block _ KT.out.lt))
  have KR3 := Lib.hid (KR.out.same (hb3.block _ KR.out.lt))
  clear y0 y1 ylt
  clear hb3 KT KR
  cases e1 : typeValidB xs t with
  | false =>
    have HE : Hid (leastFine xs t = false) := by unfold Hid; rw [HFE.out, e1]; rfl
    have hz : Hid (leastR xs t = ⟨0, 0, []⟩) := leastR_no HE.out
    clear e1
    have rc0 := (KR3.out.cell 0).trans (show _ = some (.int .i64 0) from by simp)
    have rf0 := KR3.out.frozen 0
    have rc1 := (KR3.out.cell 1).trans (show _ = some (.int .i64 0) from by simp)
    have rf1 := KR3.out.frozen 1
    have rc2 := (KR3.out.cell 2).trans (show _ = some (.slice none 0 0) from by simp)
    have rf2 := KR3.out.frozen 2
    have rlt := KR3.out.lt
    go_wp2
    clear rc0 rf0 rc1 rf1 rc2 rf2 rlt
    refine bodyPost_ret (results_cell_tmp rfl _ _ (w.heap.size + 1) 41 #[.int .i64 0, .int .i64 0, .slice none 0 0] (0, 0) _ rfl (KR3.out.three _ _ _) Try.underlying41 rfl rfl) rfl ?_
    exact ⟨[.int .i64 0, .int .i64 0, .slice none 0 0], [], by rw [HE.out]; rfl, below_three hB3 (by omega) _ _ _, by rw [hz.out]; exact (VR_iff _ _ _).2 ⟨_, rfl, Arr.nil⟩, Free.nil _, Fresh.nil _ _⟩
  | true =>
    obtain ⟨hw, hto⟩ := typeValid_split e1
    have HW := Lib.hid hw
    have HT := Lib.hid (typeOkB_tyIn hto)
    have HTV := Lib.hid e1
    clear e1 hw hto
    have y0 : w3.cell? ⟨w.heap.size, 0, none⟩ = some (.int .i64 t.d) := (KT3.out.cell 0).trans (by simp)
    have y1 : w3.cell? ⟨w.heap.size, 1, none⟩ = some (.int .i64 t.i) := (KT3.out.cell 1).trans (by simp)
    have ylt := KT3.out.lt
    go_wp2_with fail
    clear y0 y1 ylt
    go_cut [6, 7] from 8 (fun p b wq => ∃ (g : Nat) (cs : List Value) (F : List Nat), p = .pointer (some ⟨g, 0, none⟩) ∧ b = .bool (leastOkB xs t) ∧ Hid (Below w3.heap.size w3 wq) ∧ Hid (Blk wq g 41 cs.toArray) ∧ Hid (w3.heap.size ≤ g) ∧ Hid (g ∉ F) ∧ Hid (VR wq (leastOkV xs t) cs F) ∧ Hid (Free wq F) ∧ Hid (Fresh w3 wq F))
    case first =>
      have HS : Hid (∀ C : World, Below w3.heap.size w3 C → (C.cell? ⟨w.heap.size, 0, none⟩ = some (.int .i64 t.d) ∧ C.cell? ⟨w.heap.size, 1, none⟩ = some (.int .i64 t.i))) := fun C hb => ⟨((KT3.out.same (hb.block _ KT3.out.lt)).cell 0).trans (by simp), ((KT3.out.same (hb.block _ KT3.out.lt)).cell 1).trans (by simp)⟩
      have hC0 : Below w3.heap.size w3 w3.drew := (Below.refl _ _).drew
      refine wp_region_B (S := fun w' => w'.cell? ⟨w.heap.size, 0, none⟩ = some (.int .i64 t.d) ∧ w'.cell? ⟨w.heap.size, 1, none⟩ = some (.int .i64 t.i)) (T := fun _ => True) (d := 10) (by kernel_rfl) ?_
      obtain ⟨wd, hwd⟩ : ∃ X, X = w3.drew := ⟨_, rfl⟩
      rw [← hwd] at hC0 ⊢
      clear hwd
      have hS0 := HS.out _ hC0
      have hT0 : True := trivial
      refine wpAnyB_take (i := 0) (v := ?_) rfl (by decide) (by kernel_rfl) (by kernel_rfl) (by kernel_rfl) (fun _ _ _ h => h) (Or.inl ⟨by rfl, ?hy0⟩) hS0 (fun _ => hT0) ?_
      case hy0 => (intro W hSw; (try dsimp only at hSw); (try obtain ⟨hSw0, hSw1⟩ := hSw); go_simp; try with_reducible rfl)
      (try simp only [Act.put, List.getElem_toArray, List.getElem_cons_zero, List.getElem_cons_succ, List.setIfInBounds_toArray, List.set_cons_zero, List.set_cons_succ])
      refine wpAnyB_take (i := 1) (v := ?_) rfl (by decide) (by kernel_rfl) (by kernel_rfl) (by kernel_rfl) (fun _ _ _ h => h) (Or.inl ⟨by rfl, ?hy1⟩) hS0 (fun _ => hT0) ?_
      case hy1 => (intro W hSw; (try dsimp only at hSw); (try obtain ⟨hSw0, hSw1⟩ := hSw); go_simp; try with_reducible rfl)
      (try simp only [Act.put, List.getElem_toArray, List.getElem_cons_zero, List.getElem_cons_succ, List.setIfInBounds_toArray, List.set_cons_zero, List.set_cons_succ])
      refine wpAnyB_take (i := 3) (v := ?_) rfl (by decide) (by kernel_rfl) (by kernel_rfl) (by kernel_rfl) (fun _ _ _ h => h) (Or.inl ⟨by rfl, ?hy3⟩) hS0 (fun _ => hT0) ?_
      case hy3 => (intro W hSw; (try dsimp only at hSw); (try obtain ⟨hSw0, hSw1⟩ := hSw); go_simp; try with_reducible rfl)
      (try simp only [Act.put, List.getElem_toArray, List.getElem_cons_zero, List.getElem_cons_succ, List.setIfInBounds_toArray, List.set_cons_zero, List.set_cons_succ])
      refine wpAnyB_ready (rs := [2, 8]) (by kernel_rfl) (by simp) ?_
      refine AllReadyB.cons rfl (fun K hK => ?_) (AllReadyB.cons rfl (fun K hK => ?_) AllReadyB.nil)
      · skip
        go_simp
        go_at_call 89
        refine (impl_depthsOf xs HW.out _ _ F (ArrDt.below HX.out (hB3.trans (hC0.mono hB3.size)) HF.out) (HF.out.mono (hB3.trans (hC0.mono hB3.size)).size)).mono ?_
        rintro e C1 ⟨g1, rfl, -, ht1, hb1⟩
        have hC1 : Below w3.heap.size w3 C1 := hC0.trans (hb1.mono hC0.size)
        skip
        have HTB1 := Lib.hid ht1
        clear ht1
        (try dsimp only)
        refine hK.out _ _ (HS.out _ hC1) (fun _ => trivial) ?_
        clear hK K
        (try simp only [Act.put, List.getElem_toArray, List.getElem_cons_zero, List.getElem_cons_succ, List.setIfInBounds_toArray, List.set_cons_zero, List.set_cons_succ])
        refine wpAnyB_ready (rs := [4, 8]) (by kernel_rfl) (by simp) ?_
        refine AllReadyB.cons rfl (fun K hK => ?_) (AllReadyB.cons rfl (fun K hK => ?_) AllReadyB.nil)
        · skip
          go_simp
          go_at_call 88
          refine (impl_leastOk xs HW.out t HT.out _ _ F _ (ArrDt.below HX.out (hB3.trans (hC1.mono hB3.size)) HF.out) (HF.out.mono (hB3.trans (hC1.mono hB3.size)).size) HTB1.out).mono ?_
          rintro e C3 ⟨cs3, F3, rfl, hb3, hp3, hfr3, hfs3⟩
          have hC3 : Below w3.heap.size w3 C3 := hC1.trans (hb3.mono hC1.size)
          obtain ⟨kv3, rfl, ha3⟩ := (VR_iff _ _ _).1 hp3
          obtain ⟨A3, cap3, rfl, -, -⟩ := ha3.form
          clear ha3
          have HP3 := Lib.hid hp3
          have HFr3 := Lib.hid hfr3
          have HFs3 := Lib.hid hfs3
          clear hp3 hfr3 hfs3
          (try dsimp only)
          refine hK.out _ _ (HS.out _ hC3) (fun _ => trivial) ?_
          clear hK K
          (try simp only [Act.put, List.getElem_toArray, List.getElem_cons_zero, List.getElem_cons_succ, List.setIfInBounds_toArray, List.set_cons_zero, List.set_cons_succ])
          have hSx3 := HS.out _ hC3
          refine wpAnyB_take (i := 5) (v := ?_) rfl (by decide) (by kernel_rfl) (by kernel_rfl) (by kernel_rfl) (fun _ _ _ h => h) (Or.inl ⟨by rfl, ?hy5⟩) hSx3 (fun _ => hT0) ?_
          case hy5 => (intro W hSw; (try dsimp only at hSw); (try obtain ⟨hSw0, hSw1⟩ := hSw); go_simp; try with_reducible rfl)
          (try simp only [Act.put, List.getElem_toArray, List.getElem_cons_zero, List.getElem_cons_succ, List.setIfInBounds_toArray, List.set_cons_zero, List.set_cons_succ])
          refine wpAnyB_take (i := 6) (v := ?_) rfl (by decide) (by kernel_rfl) (by kernel_rfl) (by kernel_rfl) (fun _ _ _ h => h) (Or.inl ⟨by rfl, ?hy6⟩) hSx3 (fun _ => hT0) ?_
          case hy6 => (intro W hSw; (try dsimp only at hSw); (try obtain ⟨hSw0, hSw1⟩ := hSw); go_simp; try with_reducible rfl)
          (try simp only [Act.put, List.getElem_toArray, List.getElem_cons_zero, List.getElem_cons_succ, List.setIfInBounds_toArray, List.set_cons_zero, List.set_cons_succ])
          refine wpAnyB_take (i := 7) (v := ?_) rfl (by decide) (by kernel_rfl) (by kernel_rfl) (by kernel_rfl) (fun _ _ _ h => h) (Or.inl ⟨by rfl, ?hy7⟩) hSx3 (fun _ => hT0) ?_
          case hy7 => (intro W hSw; (try dsimp only at hSw); (try obtain ⟨hSw0, hSw1⟩ := hSw); go_simp; try with_reducible rfl)
          (try simp only [Act.put, List.getElem_toArray, List.getElem_cons_zero, List.getElem_cons_succ, List.setIfInBounds_toArray, List.set_cons_zero, List.set_cons_succ])
          refine wpAnyB_ready (rs := [8]) (by kernel_rfl) (by simp) ?_
          refine AllReadyB.cons rfl (fun K hK => ?_) AllReadyB.nil
          go_simp
          obtain ⟨C4, hX⟩ : ∃ X, X = C3.alloc (.cells #[.int .i64 0, .int .i64 0, .slice none 0 0] 41) := ⟨_, rfl⟩
          have hb4 : Below C3.heap.size C3 C4 := by rw [hX]; exact (Below.refl _ _).alloc (Nat.le_refl _) _
          have cx4 : Hid (Blk C4 C3.heap.size 41 #[.int .i64 0, .int .i64 0, .slice none 0 0]) := by rw [hX]; exact Blk.new _ _ _
          rw [← hX]
          clear hX
          have hC4 : Below w3.heap.size w3 C4 := hC3.trans (hb4.mono hC3.size)
          have cp5 := Lib.hid (VR.below HP3.out hb4 HFs3.out.under)
          have cf5 := Lib.hid (HFr3.out.kept (.of_below hb4 HFs3.out.under))
          have cs5 : Hid (Fresh C1 C4 F3) := fun b hb => ⟨(HFs3.out b hb).1, Nat.lt_of_lt_of_le (HFs3.out b hb).2 hb4.size⟩
          have HGE4 : Hid (w3.heap.size ≤ C3.heap.size) := hC3.size
          (try dsimp only)
          refine hK.out _ _ (HS.out _ hC4) (fun _ => trivial) ?_
          clear hK K
          (try simp only [Act.put, List.getElem_toArray, List.getElem_cons_zero, List.getElem_cons_succ, List.setIfInBounds_toArray, List.set_cons_zero, List.set_cons_succ])
          have yy0 : C4.cell? ⟨C3.heap.size, 0, none⟩ = some (.int .i64 0) := (cx4.out.cell 0).trans (by simp)
          have ff0 := cx4.out.frozen 0
          have yy1 : C4.cell? ⟨C3.heap.size, 1, none⟩ = some (.int .i64 0) := (cx4.out.cell 1).trans (by simp)
          have ff1 := cx4.out.frozen 1
          have yy2 : C4.cell? ⟨C3.heap.size, 2, none⟩ = some (.slice none 0 0) := (cx4.out.cell 2).trans (by simp)
          have ff2 := cx4.out.frozen 2
          have yylt := cx4.out.lt
          have hCe : Hid (Below w3.heap.size w3 (((C4.setCell ⟨C3.heap.size, 0, none⟩ (.int .i64 (leastOkV xs t).c)).setCell ⟨C3.heap.size, 1, none⟩ (.int .i64 (leastOkV xs t).n)).setCell ⟨C3.heap.size, 2, none⟩ (.slice A3 (leastOkV xs t).ks.length cap3))) := (((hC4.setCell HGE4.out _).setCell HGE4.out _).setCell HGE4.out _)
          have cbe : Hid (Blk (((C4.setCell ⟨C3.heap.size, 0, none⟩ (.int .i64 (leastOkV xs t).c)).setCell ⟨C3.heap.size, 1, none⟩ (.int .i64 (leastOkV xs t).n)).setCell ⟨C3.heap.size, 2, none⟩ (.slice A3 (leastOkV xs t).ks.length cap3)) (C3.heap.size) 41 #[.int .i64 (leastOkV xs t).c, .int .i64 (leastOkV xs t).n, .slice A3 (leastOkV xs t).ks.length cap3]) := (((cx4.out.set_ 0 _).set_ 1 _).set_ 2 _)
          have hgF : ∀ b ∈ F3, b ≠ C3.heap.size := fun b hb e => Nat.lt_irrefl _ (by have h1 := (HFs3.out b hb).2; rw [e] at h1; exact h1)
          have hkp : Kept F3 C4 (((C4.setCell ⟨C3.heap.size, 0, none⟩ (.int .i64 (leastOkV xs t).c)).setCell ⟨C3.heap.size, 1, none⟩ (.int .i64 (leastOkV xs t).n)).setCell ⟨C3.heap.size, 2, none⟩ (.slice A3 (leastOkV xs t).ks.length cap3)) := fun b hb => by rw [Below.heap_setCell _ _ _ _ (hgF b hb), Below.heap_setCell _ _ _ _ (hgF b hb), Below.heap_setCell _ _ _ _ (hgF b hb)]
          have hpe := Lib.hid (VR.mono _ _ _ hkp cp5.out)
          have hfe : Hid (Free (((C4.setCell ⟨C3.heap.size, 0, none⟩ (.int .i64 (leastOkV xs t).c)).setCell ⟨C3.heap.size, 1, none⟩ (.int .i64 (leastOkV xs t).n)).setCell ⟨C3.heap.size, 2, none⟩ (.slice A3 (leastOkV xs t).ks.length cap3)) F3) := cf5.out.kept hkp
          have hse : Hid (Fresh w3 (((C4.setCell ⟨C3.heap.size, 0, none⟩ (.int .i64 (leastOkV xs t).c)).setCell ⟨C3.heap.size, 1, none⟩ (.int .i64 (leastOkV xs t).n)).setCell ⟨C3.heap.size, 2, none⟩ (.slice A3 (leastOkV xs t).ks.length cap3)) F3) := fun b hb => ⟨Nat.le_trans hC1.size (cs5.out b hb).1, by simpa [World.setCell] using (cs5.out b hb).2⟩
          have hge : Hid (C3.heap.size ∉ F3) := fun h => hgF _ h rfl
          clear hkp hgF
          refine wpAnyB_ready (rs := [9]) (by kernel_rfl) (by simp) ?_
          refine AllReadyB.cons rfl (fun K hK => ?_) AllReadyB.nil
          go_simp
          refine hK.out _ _ (HS.out _ hCe.out) (fun _ => trivial) ?_
          clear hK K
          (try simp only [Act.put, List.getElem_toArray, List.getElem_cons_zero, List.getElem_cons_succ, List.setIfInBounds_toArray, List.set_cons_zero, List.set_cons_succ])
          refine wpAnyB_ready (rs := [10]) (by kernel_rfl) (by simp) ?_
          refine AllReadyB.cons rfl (fun K hK => ?_) AllReadyB.nil
          go_simp
          refine hK.out _ _ (HS.out _ hCe.out) (fun _ => trivial) ?_
          clear hK K
          (try simp only [Act.put, List.getElem_toArray, List.getElem_cons_zero, List.getElem_cons_succ, List.setIfInBounds_toArray, List.set_cons_zero, List.set_cons_succ])
          refine wpAnyB_end (by kernel_rfl) ?_
          clear yy0 ff0 yy1 ff1 yy2 ff2 yylt
          go_wp2
          go_meet
          case rel => exact ⟨_, _, _, rfl, rfl, hCe, cbe, HGE4, hge, hpe, hfe, hse⟩
        · skip
          go_simp
          obtain ⟨C6, hX⟩ : ∃ X, X = C1.alloc (.cells #[.int .i64 0, .int .i64 0, .slice none 0 0] 41) := ⟨_, rfl⟩
          have hb6 : Below C1.heap.size C1 C6 := by rw [hX]; exact (Below.refl _ _).alloc (Nat.le_refl _) _
          have cx6 : Hid (Blk C6 C1.heap.size 41 #[.int .i64 0, .int .i64 0, .slice none 0 0]) := by rw [hX]; exact Blk.new _ _ _
          rw [← hX]
          clear hX
          have hC6 : Below w3.heap.size w3 C6 := hC1.trans (hb6.mono hC1.size)
          have HTC7 := Lib.hid (HTB1.out.same (hb6.block _ HTB1.out.lt))
          have HGE6 : Hid (w3.heap.size ≤ C1.heap.size) := hC1.size
          (try dsimp only)
          refine hK.out _ _ (HS.out _ hC6) (fun _ => trivial) ?_
          clear hK K
          (try simp only [Act.put, List.getElem_toArray, List.getElem_cons_zero, List.getElem_cons_succ, List.setIfInBounds_toArray, List.set_cons_zero, List.set_cons_succ])
          refine wpAnyB_ready (rs := [4]) (by kernel_rfl) (by simp) ?_
          refine AllReadyB.cons rfl (fun K hK => ?_) AllReadyB.nil
          go_simp
          go_at_call 88
          refine (impl_leastOk xs HW.out t HT.out _ _ F _ (ArrDt.below HX.out (hB3.trans (hC6.mono hB3.size)) HF.out) (HF.out.mono (hB3.trans (hC6.mono hB3.size)).size) HTC7.out).mono ?_
          rintro e C8 ⟨cs8, F8, rfl, hb8, hp8, hfr8, hfs8⟩
          have hC8 : Below w3.heap.size w3 C8 := hC6.trans (hb8.mono hC6.size)
          obtain ⟨kv8, rfl, ha8⟩ := (VR_iff _ _ _).1 hp8
          obtain ⟨A8, cap8, rfl, -, -⟩ := ha8.form
          clear ha8
          have cb8 : Hid (Blk C8 C1.heap.size 41 #[.int .i64 0, .int .i64 0, .slice none 0 0]) := cx6.out.same (hb8.block _ cx6.out.lt)
          have HP8 := Lib.hid hp8
          have HFr8 := Lib.hid hfr8
          have HFs8 := Lib.hid hfs8
          clear hp8 hfr8 hfs8
          (try dsimp only)
          refine hK.out _ _ (HS.out _ hC8) (fun _ => trivial) ?_
          clear hK K
          (try simp only [Act.put, List.getElem_toArray, List.getElem_cons_zero, List.getElem_cons_succ, List.setIfInBounds_toArray, List.set_cons_zero, List.set_cons_succ])
          have hSx8 := HS.out _ hC8
          refine wpAnyB_take (i := 5) (v := ?_) rfl (by decide) (by kernel_rfl) (by kernel_rfl) (by kernel_rfl) (fun _ _ _ h => h) (Or.inl ⟨by rfl, ?hy5⟩) hSx8 (fun _ => hT0) ?_
          case hy5 => (intro W hSw; (try dsimp only at hSw); (try obtain ⟨hSw0, hSw1⟩ := hSw); go_simp; try with_reducible rfl)
          (try simp only [Act.put, List.getElem_toArray, List.getElem_cons_zero, List.getElem_cons_succ, List.setIfInBounds_toArray, List.set_cons_zero, List.set_cons_succ])
          refine wpAnyB_take (i := 6) (v := ?_) rfl (by decide) (by kernel_rfl) (by kernel_rfl) (by kernel_rfl) (fun _ _ _ h => h) (Or.inl ⟨by rfl, ?hy6⟩) hSx8 (fun _ => hT0) ?_
          case hy6 => (intro W hSw; (try dsimp only at hSw); (try obtain ⟨hSw0, hSw1⟩ := hSw); go_simp; try with_reducible rfl)
          (try simp only [Act.put, List.getElem_toArray, List.getElem_cons_zero, List.getElem_cons_succ, List.setIfInBounds_toArray, List.set_cons_zero, List.set_cons_succ])
          refine wpAnyB_take (i := 7) (v := ?_) rfl (by decide) (by kernel_rfl) (by kernel_rfl) (by kernel_rfl) (fun _ _ _ h => h) (Or.inl ⟨by rfl, ?hy7⟩) hSx8 (fun _ => hT0) ?_
          case hy7 => (intro W hSw; (try dsimp only at hSw); (try obtain ⟨hSw0, hSw1⟩ := hSw); go_simp; try with_reducible rfl)
          (try simp only [Act.put, List.getElem_toArray, List.getElem_cons_zero, List.getElem_cons_succ, List.setIfInBounds_toArray, List.set_cons_zero, List.set_cons_succ])
          have yy0 : C8.cell? ⟨C1.heap.size, 0, none⟩ = some (.int .i64 0) := (cb8.out.cell 0).trans (by simp)
          have ff0 := cb8.out.frozen 0
          have yy1 : C8.cell? ⟨C1.heap.size, 1, none⟩ = some (.int .i64 0) := (cb8.out.cell 1).trans (by simp)
          have ff1 := cb8.out.frozen 1
          have yy2 : C8.cell? ⟨C1.heap.size, 2, none⟩ = some (.slice none 0 0) := (cb8.out.cell 2).trans (by simp)
          have ff2 := cb8.out.frozen 2
          have yylt := cb8.out.lt
          have hCe : Hid (Below w3.heap.size w3 (((C8.setCell ⟨C1.heap.size, 0, none⟩ (.int .i64 (leastOkV xs t).c)).setCell ⟨C1.heap.size, 1, none⟩ (.int .i64 (leastOkV xs t).n)).setCell ⟨C1.heap.size, 2, none⟩ (.slice A8 (leastOkV xs t).ks.length cap8))) := (((hC8.setCell HGE6.out _).setCell HGE6.out _).setCell HGE6.out _)
          have cbe : Hid (Blk (((C8.setCell ⟨C1.heap.size, 0, none⟩ (.int .i64 (leastOkV xs t).c)).setCell ⟨C1.heap.size, 1, none⟩ (.int .i64 (leastOkV xs t).n)).setCell ⟨C1.heap.size, 2, none⟩ (.slice A8 (leastOkV xs t).ks.length cap8)) (C1.heap.size) 41 #[.int .i64 (leastOkV xs t).c, .int .i64 (leastOkV xs t).n, .slice A8 (leastOkV xs t).ks.length cap8]) := (((cb8.out.set_ 0 _).set_ 1 _).set_ 2 _)
          have hgF : ∀ b ∈ F8, b ≠ C1.heap.size := fun b hb e => Nat.lt_irrefl _ (Nat.lt_of_lt_of_le (by rw [e]; exact cx6.out.lt) (HFs8.out b hb).1)
          have hkp : Kept F8 C8 (((C8.setCell ⟨C1.heap.size, 0, none⟩ (.int .i64 (leastOkV xs t).c)).setCell ⟨C1.heap.size, 1, none⟩ (.int .i64 (leastOkV xs t).n)).setCell ⟨C1.heap.size, 2, none⟩ (.slice A8 (leastOkV xs t).ks.length cap8)) := fun b hb => by rw [Below.heap_setCell _ _ _ _ (hgF b hb), Below.heap_setCell _ _ _ _ (hgF b hb), Below.heap_setCell _ _ _ _ (hgF b hb)]
          have hpe := Lib.hid (VR.mono _ _ _ hkp HP8.out)
          have hfe : Hid (Free (((C8.setCell ⟨C1.heap.size, 0, none⟩ (.int .i64 (leastOkV xs t).c)).setCell ⟨C1.heap.size, 1, none⟩ (.int .i64 (leastOkV xs t).n)).setCell ⟨C1.heap.size, 2, none⟩ (.slice A8 (leastOkV xs t).ks.length cap8)) F8) := HFr8.out.kept hkp
          have hse : Hid (Fresh w3 (((C8.setCell ⟨C1.heap.size, 0, none⟩ (.int .i64 (leastOkV xs t).c)).setCell ⟨C1.heap.size, 1, none⟩ (.int .i64 (leastOkV xs t).n)).setCell ⟨C1.heap.size, 2, none⟩ (.slice A8 (leastOkV xs t).ks.length cap8)) F8) := fun b hb => ⟨Nat.le_trans hC6.size (HFs8.out b hb).1, by simpa [World.setCell] using (HFs8.out b hb).2⟩
          have hge : Hid (C1.heap.size ∉ F8) := fun h => hgF _ h rfl
          clear hkp hgF
          refine wpAnyB_ready (rs := [9]) (by kernel_rfl) (by simp) ?_
          refine AllReadyB.cons rfl (fun K hK => ?_) AllReadyB.nil
          go_simp
          refine hK.out _ _ (HS.out _ hCe.out) (fun _ => trivial) ?_
          clear hK K
          (try simp only [Act.put, List.getElem_toArray, List.getElem_cons_zero, List.getElem_cons_succ, List.setIfInBounds_toArray, List.set_cons_zero, List.set_cons_succ])
          refine wpAnyB_ready (rs := [10]) (by kernel_rfl) (by simp) ?_
          refine AllReadyB.cons rfl (fun K hK => ?_) AllReadyB.nil
          go_simp
          refine hK.out _ _ (HS.out _ hCe.out) (fun _ => trivial) ?_
          clear hK K
          (try simp only [Act.put, List.getElem_toArray, List.getElem_cons_zero, List.getElem_cons_succ, List.setIfInBounds_toArray, List.set_cons_zero, List.set_cons_succ])
          refine wpAnyB_end (by kernel_rfl) ?_
          clear yy0 ff0 yy1 ff1 yy2 ff2 yylt
          go_wp2
          go_meet
          case rel => exact ⟨_, _, _, rfl, rfl, hCe, cbe, HGE6, hge, hpe, hfe, hse⟩
      · skip
        go_simp
        obtain ⟨C9, hX⟩ : ∃ X, X = wd.alloc (.cells #[.int .i64 0, .int .i64 0, .slice none 0 0] 41) := ⟨_, rfl⟩
        have hb9 : Below wd.heap.size wd C9 := by rw [hX]; exact (Below.refl _ _).alloc (Nat.le_refl _) _
        have cx9 : Hid (Blk C9 wd.heap.size 41 #[.int .i64 0, .int .i64 0, .slice none 0 0]) := by rw [hX]; exact Blk.new _ _ _
        rw [← hX]
        clear hX
        have hC9 : Below w3.heap.size w3 C9 := hC0.trans (hb9.mono hC0.size)
        skip
        have HGE9 : Hid (w3.heap.size ≤ wd.heap.size) := hC0.size
        (try dsimp only)
        refine hK.out _ _ (HS.out _ hC9) (fun _ => trivial) ?_
        clear hK K
        (try simp only [Act.put, List.getElem_toArray, List.getElem_cons_zero, List.getElem_cons_succ, List.setIfInBounds_toArray, List.set_cons_zero, List.set_cons_succ])
        refine wpAnyB_ready (rs := [2]) (by kernel_rfl) (by simp) ?_
        refine AllReadyB.cons rfl (fun K hK => ?_) AllReadyB.nil
        go_simp
        go_at_call 89
        refine (impl_depthsOf xs HW.out _ _ F (ArrDt.below HX.out (hB3.trans (hC9.mono hB3.size)) HF.out) (HF.out.mono (hB3.trans (hC9.mono hB3.size)).size)).mono ?_
        rintro e C11 ⟨g11, rfl, -, ht11, hb11⟩
        have hC11 : Below w3.heap.size w3 C11 := hC9.trans (hb11.mono hC9.size)
        skip
        have cb12 : Hid (Blk C11 wd.heap.size 41 #[.int .i64 0, .int .i64 0, .slice none 0 0]) := cx9.out.same (hb11.block _ cx9.out.lt)
        have HTB11 := Lib.hid ht11
        clear ht11
        (try dsimp only)
        refine hK.out _ _ (HS.out _ hC11) (fun _ => trivial) ?_
        clear hK K
        (try simp only [Act.put, List.getElem_toArray, List.getElem_cons_zero, List.getElem_cons_succ, List.setIfInBounds_toArray, List.set_cons_zero, List.set_cons_succ])
        refine wpAnyB_ready (rs := [4]) (by kernel_rfl) (by simp) ?_
        refine AllReadyB.cons rfl (fun K hK => ?_) AllReadyB.nil
        go_simp
        go_at_call 88
        refine (impl_leastOk xs HW.out t HT.out _ _ F _ (ArrDt.below HX.out (hB3.trans (hC11.mono hB3.size)) HF.out) (HF.out.mono (hB3.trans (hC11.mono hB3.size)).size) HTB11.out).mono ?_
        rintro e C13 ⟨cs13, F13, rfl, hb13, hp13, hfr13, hfs13⟩
        have hC13 : Below w3.heap.size w3 C13 := hC11.trans (hb13.mono hC11.size)
        obtain ⟨kv13, rfl, ha13⟩ := (VR_iff _ _ _).1 hp13
        obtain ⟨A13, cap13, rfl, -, -⟩ := ha13.form
        clear ha13
        have cb13 : Hid (Blk C13 wd.heap.size 41 #[.int .i64 0, .int .i64 0, .slice none 0 0]) := cb12.out.same (hb13.block _ cb12.out.lt)
        have HP13 := Lib.hid hp13
        have HFr13 := Lib.hid hfr13
        have HFs13 := Lib.hid hfs13
        clear hp13 hfr13 hfs13
        (try dsimp only)
        refine hK.out _ _ (HS.out _ hC13) (fun _ => trivial) ?_
        clear hK K
        (try simp only [Act.put, List.getElem_toArray, List.getElem_cons_zero, List.getElem_cons_succ, List.setIfInBounds_toArray, List.set_cons_zero, List.set_cons_succ])
        have hSx13 := HS.out _ hC13
        refine wpAnyB_take (i := 5) (v := ?_) rfl (by decide) (by kernel_rfl) (by kernel_rfl) (by kernel_rfl) (fun _ _ _ h => h) (Or.inl ⟨by rfl, ?hy5⟩) hSx13 (fun _ => hT0) ?_
        case hy5 => (intro W hSw; (try dsimp only at hSw); (try obtain ⟨hSw0, hSw1⟩ := hSw); go_simp; try with_reducible rfl)
        (try simp only [Act.put, List.getElem_toArray, List.getElem_cons_zero, List.getElem_cons_succ, List.setIfInBounds_toArray, List.set_cons_zero, List.set_cons_succ])
        refine wpAnyB_take (i := 6) (v := ?_) rfl (by decide) (by kernel_rfl) (by kernel_rfl) (by kernel_rfl) (fun _ _ _ h => h) (Or.inl ⟨by rfl, ?hy6⟩) hSx13 (fun _ => hT0) ?_
        case hy6 => (intro W hSw; (try dsimp only at hSw); (try obtain ⟨hSw0, hSw1⟩ := hSw); go_simp; try with_reducible rfl)
        (try simp only [Act.put, List.getElem_toArray, List.getElem_cons_zero, List.getElem_cons_succ, List.setIfInBounds_toArray, List.set_cons_zero, List.set_cons_succ])
        refine wpAnyB_take (i := 7) (v := ?_) rfl (by decide) (by kernel_rfl) (by kernel_rfl) (by kernel_rfl) (fun _ _ _ h => h) (Or.inl ⟨by rfl, ?hy7⟩) hSx13 (fun _ => hT0) ?_
        case hy7 => (intro W hSw; (try dsimp only at hSw); (try obtain ⟨hSw0, hSw1⟩ := hSw); go_simp; try with_reducible rfl)
        (try simp only [Act.put, List.getElem_toArray, List.getElem_cons_zero, List.getElem_cons_succ, List.setIfInBounds_toArray, List.set_cons_zero, List.set_cons_succ])
        have yy0 : C13.cell? ⟨wd.heap.size, 0, none⟩ = some (.int .i64 0) := (cb13.out.cell 0).trans (by simp)
        have ff0 := cb13.out.frozen 0
        have yy1 : C13.cell? ⟨wd.heap.size, 1, none⟩ = some (.int .i64 0) := (cb13.out.cell 1).trans (by simp)
        have ff1 := cb13.out.frozen 1
        have yy2 : C13.cell? ⟨wd.heap.size, 2, none⟩ = some (.slice none 0 0) := (cb13.out.cell 2).trans (by simp)
        have ff2 := cb13.out.frozen 2
        have yylt := cb13.out.lt
        have hCe : Hid (Below w3.heap.size w3 (((C13.setCell ⟨wd.heap.size, 0, none⟩ (.int .i64 (leastOkV xs t).c)).setCell ⟨wd.heap.size, 1, none⟩ (.int .i64 (leastOkV xs t).n)).setCell ⟨wd.heap.size, 2, none⟩ (.slice A13 (leastOkV xs t).ks.length cap13))) := (((hC13.setCell HGE9.out _).setCell HGE9.out _).setCell HGE9.out _)
        have cbe : Hid (Blk (((C13.setCell ⟨wd.heap.size, 0, none⟩ (.int .i64 (leastOkV xs t).c)).setCell ⟨wd.heap.size, 1, none⟩ (.int .i64 (leastOkV xs t).n)).setCell ⟨wd.heap.size, 2, none⟩ (.slice A13 (leastOkV xs t).ks.length cap13)) (wd.heap.size) 41 #[.int .i64 (leastOkV xs t).c, .int .i64 (leastOkV xs t).n, .slice A13 (leastOkV xs t).ks.length cap13]) := (((cb13.out.set_ 0 _).set_ 1 _).set_ 2 _)
        have hgF : ∀ b ∈ F13, b ≠ wd.heap.size := fun b hb e => Nat.lt_irrefl _ (Nat.lt_of_lt_of_le (by rw [e]; exact cb12.out.lt) (HFs13.out b hb).1)
        have hkp : Kept F13 C13 (((C13.setCell ⟨wd.heap.size, 0, none⟩ (.int .i64 (leastOkV xs t).c)).setCell ⟨wd.heap.size, 1, none⟩ (.int .i64 (leastOkV xs t).n)).setCell ⟨wd.heap.size, 2, none⟩ (.slice A13 (leastOkV xs t).ks.length cap13)) := fun b hb => by rw [Below.heap_setCell _ _ _ _ (hgF b hb), Below.heap_setCell _ _ _ _ (hgF b hb), Below.heap_setCell _ _ _ _ (hgF b hb)]
        have hpe := Lib.hid (VR.mono _ _ _ hkp HP13.out)
        have hfe : Hid (Free (((C13.setCell ⟨wd.heap.size, 0, none⟩ (.int .i64 (leastOkV xs t).c)).setCell ⟨wd.heap.size, 1, none⟩ (.int .i64 (leastOkV xs t).n)).setCell ⟨wd.heap.size, 2, none⟩ (.slice A13 (leastOkV xs t).ks.length cap13)) F13) := HFr13.out.kept hkp
        have hse : Hid (Fresh w3 (((C13.setCell ⟨wd.heap.size, 0, none⟩ (.int .i64 (leastOkV xs t).c)).setCell ⟨wd.heap.size, 1, none⟩ (.int .i64 (leastOkV xs t).n)).setCell ⟨wd.heap.size, 2, none⟩ (.slice A13 (leastOkV xs t).ks.length cap13)) F13) := fun b hb => ⟨Nat.le_trans hC11.size (HFs13.out b hb).1, by simpa [World.setCell] using (HFs13.out b hb).2⟩
        have hge : Hid (wd.heap.size ∉ F13) := fun h => hgF _ h rfl
        clear hkp hgF
        refine wpAnyB_ready (rs := [9]) (by kernel_rfl) (by simp) ?_
        refine AllReadyB.cons rfl (fun K hK => ?_) AllReadyB.nil
        go_simp
        refine hK.out _ _ (HS.out _ hCe.out) (fun _ => trivial) ?_
        clear hK K
        (try simp only [Act.put, List.getElem_toArray, List.getElem_cons_zero, List.getElem_cons_succ, List.setIfInBounds_toArray, List.set_cons_zero, List.set_cons_succ])
        refine wpAnyB_ready (rs := [10]) (by kernel_rfl) (by simp) ?_
        refine AllReadyB.cons rfl (fun K hK => ?_) AllReadyB.nil
        go_simp
        refine hK.out _ _ (HS.out _ hCe.out) (fun _ => trivial) ?_
        clear hK K
        (try simp only [Act.put, List.getElem_toArray, List.getElem_cons_zero, List.getElem_cons_succ, List.setIfInBounds_toArray, List.set_cons_zero, List.set_cons_succ])
        refine wpAnyB_end (by kernel_rfl) ?_
        clear yy0 ff0 yy1 ff1 yy2 ff2 yylt
        go_wp2
        go_meet
        case rel => exact ⟨_, _, _, rfl, rfl, hCe, cbe, HGE9, hge, hpe, hfe, hse⟩
    case rest =>
      obtain ⟨g5, cs5, F5, rfl, rfl, HB5, RB5, RGE5, RGF5, HP5, HFR5, HFS5⟩ := hcut
      obtain ⟨kv5, rfl, ha5⟩ := (VR_iff _ _ _).1 HP5.out
      obtain ⟨aA, acap, rfl, -, -⟩ := ha5.form
      clear ha5
      obtain ⟨w5, hw5⟩ : ∃ X, X = wc := ⟨_, rfl⟩
      rw [← hw5] at HB5 RB5 HP5 HFR5 HFS5 ⊢
      clear hw5
      have hB5 := hB3.trans (HB5.out.mono hB3.size)
      have KT5 := Lib.hid (KT3.out.same (HB5.out.block _ KT3.out.lt))
      have KR5 := Lib.hid (KR3.out.same (HB5.out.block _ KR3.out.lt))
      have k3lt := KR3.out.lt
      have KV5 : Hid (Blk w5 g5 41 #[.int .i64 (leastOkV xs t).c, .int .i64 (leastOkV xs t).n, .slice aA (leastOkV xs t).ks.length acap]) := RB5
      have HSM := Lib.hid (leastOkV_small HW.out HT.out)
      clear RB5 KT3 KR3 HB5
      cases e2 : leastOkB xs t with
      | false =>
        have HE : Hid (leastFine xs t = false) := by unfold Hid; rw [HFE.out, HTV.out, e2]; rfl
        have hz : Hid (leastR xs t = ⟨0, 0, []⟩) := leastR_no HE.out
        clear e2
        have rc0 := (KR5.out.cell 0).trans (show _ = some (.int .i64 0) from by simp)
        have rf0 := KR5.out.frozen 0
        have rc1 := (KR5.out.cell 1).trans (show _ = some (.int .i64 0) from by simp)
        have rf1 := KR5.out.frozen 1
        have rc2 := (KR5.out.cell 2).trans (show _ = some (.slice none 0 0) from by simp)
        have rf2 := KR5.out.frozen 2
        have rlt := KR5.out.lt
        go_wp2
        clear rc0 rf0 rc1 rf1 rc2 rf2 rlt
        refine bodyPost_ret (results_cell_tmp rfl _ _ (w.heap.size + 1) 41 #[.int .i64 0, .int .i64 0, .slice none 0 0] (0, 0) _ rfl (KR5.out.three _ _ _) Try.underlying41 rfl rfl) rfl ?_
        exact ⟨[.int .i64 0, .int .i64 0, .slice none 0 0], [], by rw [HE.out]; rfl, below_three hB5 (by omega) _ _ _, by rw [hz.out]; exact (VR_iff _ _ _).2 ⟨_, rfl, Arr.nil⟩, Free.nil _, Fresh.nil _ _⟩
      | true =>
        have HE2 := Lib.hid e2
        clear e2
        have y0 : w5.cell? ⟨w.heap.size, 0, none⟩ = some (.int .i64 t.d) := (KT5.out.cell 0).trans (by simp)
        have y1 : w5.cell? ⟨w.heap.size, 1, none⟩ = some (.int .i64 t.i) := (KT5.out.cell 1).trans (by simp)
        have ylt := KT5.out.lt
        have v0 : w5.cell? ⟨g5, 0, none⟩ = some (.int .i64 (leastOkV xs t).c) := (KV5.out.cell 0).trans (by simp)
        have v1 : w5.cell? ⟨g5, 1, none⟩ = some (.int .i64 (leastOkV xs t).n) := (KV5.out.cell 1).trans (by simp)
        have v2 : w5.cell? ⟨g5, 2, none⟩ = some (.slice aA (leastOkV xs t).ks.length acap) := (KV5.out.cell 2).trans (by simp)
        have vlt := KV5.out.lt
        go_wp2_with fail
        refine (impl_valueOk xs t (leastOkV xs t) w5 _ F _ F5 (ArrDt.below HX.out hB5 HF.out) (HF.out.mono hB5.size) HP5.out HFS5.out.under HW.out HT.out HSM.out).mono ?_
        rintro e w6 ⟨rfl, hb6⟩
        have hB6 := hB5.trans (hb6.mono hB5.size)
        have KR6 := Lib.hid (KR5.out.same (hb6.block _ KR5.out.lt))
        have KV6 := Lib.hid (KV5.out.same (hb6.block _ KV5.out.lt))
        have HP6 := Lib.hid (HP5.out.below hb6 HFS5.out.under)
        have HFR6 := Lib.hid (HFR5.out.kept (.of_below hb6 HFS5.out.under))
        have HFS6 : Hid (Fresh w w6 F5) := fun b hb => ⟨Nat.le_trans hB3.size (HFS5.out b hb).1, Nat.lt_of_lt_of_le (HFS5.out b hb).2 hb6.size⟩
        have HNE : Hid (∀ b ∈ F5, b ≠ w.heap.size + 1) := fun b hb e => by have h1 := (HFS5.out b hb).1; omega
        clear y0 y1 ylt v0 v1 v2 vlt hb6 HP5 HFR5 KR5 KT5 KV5
        cases e3 : valueOkB xs t (leastOkV xs t) with
        | false =>
          have HE : Hid (leastFine xs t = false) := by unfold Hid; rw [HFE.out, HTV.out, e3]; simp
          have hz : Hid (leastR xs t = ⟨0, 0, []⟩) := leastR_no HE.out
          clear e3
          have rc0 := (KR6.out.cell 0).trans (show _ = some (.int .i64 0) from by simp)
          have rf0 := KR6.out.frozen 0
          have rc1 := (KR6.out.cell 1).trans (show _ = some (.int .i64 0) from by simp)
          have rf1 := KR6.out.frozen 1
          have rc2 := (KR6.out.cell 2).trans (show _ = some (.slice none 0 0) from by simp)
          have rf2 := KR6.out.frozen 2
          have rlt := KR6.out.lt
          go_wp2
          clear rc0 rf0 rc1 rf1 rc2 rf2 rlt
          refine bodyPost_ret (results_cell_tmp rfl _ _ (w.heap.size + 1) 41 #[.int .i64 0, .int .i64 0, .slice none 0 0] (0, 0) _ rfl (KR6.out.three _ _ _) Try.underlying41 rfl rfl) rfl ?_
          exact ⟨[.int .i64 0, .int .i64 0, .slice none 0 0], [], by rw [HE.out]; rfl, below_three hB6 (by omega) _ _ _, by rw [hz.out]; exact (VR_iff _ _ _).2 ⟨_, rfl, Arr.nil⟩, Free.nil _, Fresh.nil _ _⟩
        | true =>
          have HE : Hid (leastFine xs t = true) := by unfold Hid; rw [HFE.out, HTV.out, HE2.out, e3]; rfl
          have hz : Hid (leastR xs t = (leastOkV xs t)) := leastR_yes HE.out HE2.out
          clear e3
          have v0 : w6.cell? ⟨g5, 0, none⟩ = some (.int .i64 (leastOkV xs t).c) := (KV6.out.cell 0).trans (by simp)
          have v1 : w6.cell? ⟨g5, 1, none⟩ = some (.int .i64 (leastOkV xs t).n) := (KV6.out.cell 1).trans (by simp)
          have v2 : w6.cell? ⟨g5, 2, none⟩ = some (.slice aA (leastOkV xs t).ks.length acap) := (KV6.out.cell 2).trans (by simp)
          have vlt := KV6.out.lt
          generalize (leastOkV xs t).ks.length = n5 at *
          generalize (leastOkV xs t).c = ac at *
          generalize (leastOkV xs t).n = an at *
          have rc0 := (KR6.out.cell 0).trans (show _ = some (.int .i64 0) from by simp)
          have rf0 := KR6.out.frozen 0
          have rc1 := (KR6.out.cell 1).trans (show _ = some (.int .i64 0) from by simp)
          have rf1 := KR6.out.frozen 1
          have rc2 := (KR6.out.cell 2).trans (show _ = some (.slice none 0 0) from by simp)
          have rf2 := KR6.out.frozen 2
          have rlt := KR6.out.lt
          go_wp2
          clear rc0 rf0 rc1 rf1 rc2 rf2 rlt
          refine bodyPost_ret (results_cell_tmp rfl _ _ (w.heap.size + 1) 41 #[.int .i64 ac, .int .i64 an, .slice aA n5 acap] (0, 0) _ rfl (KR6.out.three _ _ _) Try.underlying41 rfl rfl) rfl ?_
          have hkp : Kept F5 w6 _ := kept_three (w := w6) (H := w.heap.size + 1) HNE.out (.int .i64 ac) (.int .i64 an) (.slice aA n5 acap)
          refine ⟨[.int .i64 ac, .int .i64 an, .slice aA n5 acap], F5, by rw [HE.out]; rfl, below_three hB6 (by omega) _ _ _, ?_, HFR6.out.kept hkp, fun b hb => ⟨(HFS6.out b hb).1, by rw [size_three]; exact (HFS6.out b hb).2⟩⟩
          rw [hz.out]
          exact VR.mono _ _ _ hkp HP6.out

set_option maxRecDepth 100000 in
set_option maxHeartbeats 1600000 in
theorem spec_LeastValue (xs : List Dt) (t : Ty) (w : World) (x : Value) (F : List Nat) (hx : Arr w (DtR w) xs x F) (hf : Under w.heap.size F) :
    Calls Try.prog 29 #[x, .agg #[.int .i64 t.d, .int .i64 t.i]] w (MadeV2 (leastR xs t) (leastFine xs t) w) := by
  obtain ⟨A, cap, rfl, hc1, hc2⟩ := hx.form
  have HFE := Lib.hid (leastFine_eq xs t)
  have HX := Lib.hid hx
  have HF := Lib.hid hf
  clear hx hf
  go_enter Try.func29, Try.ntmps29
  go_wp2_with fail
  obtain ⟨W2, hW2⟩ : ∃ W2, W2 = ((w.alloc (.cells #[.int .i64 t.d, .int .i64 t.i] 37)).alloc (.cells #[.int .i64 0, .int .i64 0, .slice none 0 0] 41)) := ⟨_, rfl⟩
  have hB0 : Below w.heap.size w W2 := by rw [hW2]; exact ((Below.refl _ _).alloc (Nat.le_refl _) _).alloc (by simp) _
  have KT : Hid (Blk W2 w.heap.size 37 #[.int .i64 t.d, .int .i64 t.i]) := by rw [hW2]; exact (Blk.new w _ _).same (Below.heap_alloc _ _ _ (by simp))
  have KR : Hid (Blk W2 (w.heap.size + 1) 41 #[.int .i64 0, .int .i64 0, .slice none 0 0]) := by rw [hW2]; exact blk_second w _ _ _
  rw [← hW2]
  clear hW2
  have y0 : W2.cell? ⟨w.heap.size, 0, none⟩ = some (.int .i64 t.d) := (KT.out.cell 0).trans (by simp)
  have y1 : W2.cell? ⟨w.heap.size, 1, none⟩ = some (.int .i64 t.i) := (KT.out.cell 1).trans (by simp)
  have ylt := KT.out.lt
  go_wp2_with fail
  refine (spec_LeastDepth xs t W2 _ F (ArrDt.below HX.out hB0 HF.out) (HF.out.mono hB0.size)).mono ?_
  rintro e w3 ⟨rfl, hb3⟩
  have hB3 := hB0.trans (hb3.mono hB0.size)
  have KT3 := Lib.hid (KT.out.same (hb3.block _ KT.out.lt))
  have KR3 := Lib.hid (KR.out.same (hb3.block _ KR.out.lt))
  clear y0 y1 ylt
  clear hb3 KT KR
  cases e0 : posB (depthL xs t) with
  | false =>
    have HE : Hid (leastFine xs t = false) := by
      unfold Hid
      rw [HFE.out]
      cases h1 : typeValidB xs t with
      | false => rfl
      | true =>
        rw [depthL_yes h1] at e0
        have : leastOkB xs t = false := by
          unfold leastOkB withinB posB at *
          simp only [decide_eq_false_iff_not] at e0
          rw [decide_eq_false (by omega)]; rfl
        rw [this]; rfl
    have hz : Hid (leastR xs t = ⟨0, 0, []⟩) := leastR_no HE.out
    generalize depthL xs t = dl at *
    clear e0
    have rc0 := (KR3.out.cell 0).trans (show _ = some (.int .i64 0) from by simp)
    have rf0 := KR3.out.frozen 0
    have rc1 := (KR3.out.cell 1).trans (show _ = some (.int .i64 0) from by simp)
    have rf1 := KR3.out.frozen 1
    have rc2 := (KR3.out.cell 2).trans (show _ = some (.slice none 0 0) from by simp)
    have rf2 := KR3.out.frozen 2
    have rlt := KR3.out.lt
    go_wp2
    clear rc0 rf0 rc1 rf1 rc2 rf2 rlt
    refine bodyPost_ret (results_cell_tmp rfl _ _ (w.heap.size + 1) 41 #[.int .i64 0, .int .i64 0, .slice none 0 0] (0, 0) _ rfl (KR3.out.three _ _ _) Try.underlying41 rfl rfl) rfl ?_
    exact ⟨[.int .i64 0, .int .i64 0, .slice none 0 0], [], by rw [HE.out]; rfl, below_three hB3 (by omega) _ _ _, by rw [hz.out]; exact (VR_iff _ _ _).2 ⟨_, rfl, Arr.nil⟩, Free.nil _, Fresh.nil _ _⟩
  | true =>
    have e1 : typeValidB xs t = true := by
      cases h1 : typeValidB xs t with
      | true => rfl
      | false => rw [depthL_no h1] at e0; cases e0
    obtain ⟨hw, hto⟩ := typeValid_split e1
    have HW := Lib.hid hw
    have HT := Lib.hid (typeOkB_tyIn hto)
    have HTV := Lib.hid e1
    have HDL := Lib.hid (depthL_yes e1)
    have hp0 : 0 < depthL xs t := by unfold posB at e0; exact of_decide_eq_true e0
    have HP0 := Lib.hid hp0
    clear e1 hw hto hp0 e0
    by_cases h10 : depthL xs t > 10
    · have d0 : decide (depthL xs t > 10) = true := decide_eq_true h10
      have HE : Hid (leastFine xs t = false) := by
        have : leastOkB xs t = false := by
          unfold leastOkB withinB
          rw [← HDL.out, decide_eq_false (show ¬ depthL xs t ≤ 10 from by omega), Bool.and_false]
        unfold Hid
        rw [HFE.out, this, Bool.false_and, Bool.and_false]
      have hz : Hid (leastR xs t = ⟨0, 0, []⟩) := leastR_no HE.out
      clear h10
      generalize depthL xs t = dl at *
      have rc0 := (KR3.out.cell 0).trans (show _ = some (.int .i64 0) from by simp)
      have rf0 := KR3.out.frozen 0
      have rc1 := (KR3.out.cell 1).trans (show _ = some (.int .i64 0) from by simp)
      have rf1 := KR3.out.frozen 1
      have rc2 := (KR3.out.cell 2).trans (show _ = some (.slice none 0 0) from by simp)
      have rf2 := KR3.out.frozen 2
      have rlt := KR3.out.lt
      go_wp2
      clear rc0 rf0 rc1 rf1 rc2 rf2 rlt
      refine bodyPost_ret (results_cell_tmp rfl _ _ (w.heap.size + 1) 41 #[.int .i64 0, .int .i64 0, .slice none 0 0] (0, 0) _ rfl (KR3.out.three _ _ _) Try.underlying41 rfl rfl) rfl ?_
      exact ⟨[.int .i64 0, .int .i64 0, .slice none 0 0], [], by rw [HE.out]; rfl, below_three hB3 (by omega) _ _ _, by rw [hz.out]; exact (VR_iff _ _ _).2 ⟨_, rfl, Arr.nil⟩, Free.nil _, Fresh.nil _ _⟩
    · have d0 : decide (depthL xs t > 10) = false := decide_eq_false h10
      have HE2 : Hid (leastOkB xs t = true) := by
        unfold Hid leastOkB withinB
        have := HP0.out
        rw [← HDL.out, decide_eq_true (show depthL xs t ≤ 10 from by omega), decide_eq_true (show 1 ≤ depthL xs t from by omega)]; rfl
      have HDP := Lib.hid (leastOk_dep HE2.out)
      have HZ : Hid (leastOkV xs t = leastV xs 10 t) := by unfold Hid leastOkV; rw [if_pos HE2.out]
      clear h10
      generalize depthL xs t = dl at *
      go_wp2_with fail
      go_cut [8] from 9 (fun p wq => ∃ (g : Nat) (cs : List Value) (F : List Nat), p = .pointer (some ⟨g, 0, none⟩) ∧ Hid (Below w3.heap.size w3 wq) ∧ Hid (Blk wq g 41 cs.toArray) ∧ Hid (w3.heap.size ≤ g) ∧ Hid (g ∉ F) ∧ Hid (VR wq (leastOkV xs t) cs F) ∧ Hid (Free wq F) ∧ Hid (Fresh w3 wq F))
      case first =>
        have HS : Hid (∀ C : World, Below w3.heap.size w3 C → (C.cell? ⟨w.heap.size, 0, none⟩ = some (.int .i64 t.d) ∧ C.cell? ⟨w.heap.size, 1, none⟩ = some (.int .i64 t.i))) := fun C hb => ⟨((KT3.out.same (hb.block _ KT3.out.lt)).cell 0).trans (by simp), ((KT3.out.same (hb.block _ KT3.out.lt)).cell 1).trans (by simp)⟩
        have hC0 : Below w3.heap.size w3 w3.drew := (Below.refl _ _).drew
        refine wp_region_B (S := fun w' => w'.cell? ⟨w.heap.size, 0, none⟩ = some (.int .i64 t.d) ∧ w'.cell? ⟨w.heap.size, 1, none⟩ = some (.int .i64 t.i)) (T := fun _ => True) (d := 6) (by kernel_rfl) ?_
        obtain ⟨wd, hwd⟩ : ∃ X, X = w3.drew := ⟨_, rfl⟩
        rw [← hwd] at hC0 ⊢
        clear hwd
        have hS0 := HS.out _ hC0
        have hT0 : True := trivial
        refine wpAnyB_take (i := 0) (v := ?_) rfl (by decide) (by kernel_rfl) (by kernel_rfl) (by kernel_rfl) (fun _ _ _ h => h) (Or.inl ⟨by rfl, ?hy0⟩) hS0 (fun _ => hT0) ?_
        case hy0 => (intro W hSw; (try dsimp only at hSw); (try obtain ⟨hSw0, hSw1⟩ := hSw); go_simp; try with_reducible rfl)
        (try simp only [Act.put, List.getElem_toArray, List.getElem_cons_zero, List.getElem_cons_succ, List.setIfInBounds_toArray, List.set_cons_zero, List.set_cons_succ])
        refine wpAnyB_take (i := 1) (v := ?_) rfl (by decide) (by kernel_rfl) (by kernel_rfl) (by kernel_rfl) (fun _ _ _ h => h) (Or.inl ⟨by rfl, ?hy1⟩) hS0 (fun _ => hT0) ?_
        case hy1 => (intro W hSw; (try dsimp only at hSw); (try obtain ⟨hSw0, hSw1⟩ := hSw); go_simp; try with_reducible rfl)
        (try simp only [Act.put, List.getElem_toArray, List.getElem_cons_zero, List.getElem_cons_succ, List.setIfInBounds_toArray, List.set_cons_zero, List.set_cons_succ])
        refine wpAnyB_take (i := 3) (v := ?_) rfl (by decide) (by kernel_rfl) (by kernel_rfl) (by kernel_rfl) (fun _ _ _ h => h) (Or.inl ⟨by rfl, ?hy3⟩) hS0 (fun _ => hT0) ?_
        case hy3 => (intro W hSw; (try dsimp only at hSw); (try obtain ⟨hSw0, hSw1⟩ := hSw); go_simp; try with_reducible rfl)
        (try simp only [Act.put, List.getElem_toArray, List.getElem_cons_zero, List.getElem_cons_succ, List.setIfInBounds_toArray, List.set_cons_zero, List.set_cons_succ])
        refine wpAnyB_ready (rs := [2, 5]) (by kernel_rfl) (by simp) ?_
        refine AllReadyB.cons rfl (fun K hK => ?_) (AllReadyB.cons rfl (fun K hK => ?_) AllReadyB.nil)
        · skip
          go_simp
          go_at_call 85
          refine (spec_l1Table xs HW.out _ _ F (ArrDt.below HX.out (hB3.trans (hC0.mono hB3.size)) HF.out) (HF.out.mono (hB3.trans (hC0.mono hB3.size)).size)).mono ?_
          rintro e C1 ⟨v1, Ft1, rfl, hb1, ha1, -, hfs1⟩
          have hC1 : Below w3.heap.size w3 C1 := hC0.trans (hb1.mono hC0.size)
          skip
          have HTB1 := Lib.hid ha1
          have HTU1 := Lib.hid hfs1.under
          clear ha1 hfs1
          (try dsimp only)
          refine hK.out _ _ (HS.out _ hC1) (fun _ => trivial) ?_
          clear hK K
          (try simp only [Act.put, List.getElem_toArray, List.getElem_cons_zero, List.getElem_cons_succ, List.setIfInBounds_toArray, List.set_cons_zero, List.set_cons_succ])
          refine wpAnyB_ready (rs := [4, 5]) (by kernel_rfl) (by simp) ?_
          refine AllReadyB.cons rfl (fun K hK => ?_) (AllReadyB.cons rfl (fun K hK => ?_) AllReadyB.nil)
          · skip
            go_simp
            go_at_call 84
            refine (spec_least 10 xs HW.out t HT.out HDP.out.1 HDP.out.2 (Nat.le_refl _) _ _ F _ Ft1 (ArrDt.below HX.out (hB3.trans (hC1.mono hB3.size)) HF.out) (HF.out.mono (hB3.trans (hC1.mono hB3.size)).size) HTB1.out HTU1.out).mono ?_
            rintro e C3 ⟨cs3, F3, rfl, hb3, hp3, hfr3, hfs3⟩
            have hC3 : Below w3.heap.size w3 C3 := hC1.trans (hb3.mono hC1.size)
            rw [← HZ.out] at hp3
            obtain ⟨kv3, rfl, ha3⟩ := (VR_iff _ _ _).1 hp3
            obtain ⟨A3, cap3, rfl, -, -⟩ := ha3.form
            clear ha3
            have HP3 := Lib.hid hp3
            have HFr3 := Lib.hid hfr3
            have HFs3 := Lib.hid hfs3
            clear hp3 hfr3 hfs3
            (try dsimp only)
            refine hK.out _ _ (HS.out _ hC3) (fun _ => trivial) ?_
            clear hK K
            (try simp only [Act.put, List.getElem_toArray, List.getElem_cons_zero, List.getElem_cons_succ, List.setIfInBounds_toArray, List.set_cons_zero, List.set_cons_succ])
            refine wpAnyB_ready (rs := [5]) (by kernel_rfl) (by simp) ?_
            refine AllReadyB.cons rfl (fun K hK => ?_) AllReadyB.nil
            go_simp
            obtain ⟨C4, hX⟩ : ∃ X, X = C3.alloc (.cells #[.int .i64 0, .int .i64 0, .slice none 0 0] 41) := ⟨_, rfl⟩
            have hb4 : Below C3.heap.size C3 C4 := by rw [hX]; exact (Below.refl _ _).alloc (Nat.le_refl _) _
            have cx4 : Hid (Blk C4 C3.heap.size 41 #[.int .i64 0, .int .i64 0, .slice none 0 0]) := by rw [hX]; exact Blk.new _ _ _
            rw [← hX]
            clear hX
            have hC4 : Below w3.heap.size w3 C4 := hC3.trans (hb4.mono hC3.size)
            have cp5 := Lib.hid (VR.below HP3.out hb4 HFs3.out.under)
            have cf5 := Lib.hid (HFr3.out.kept (.of_below hb4 HFs3.out.under))
            have cs5 : Hid (Fresh C1 C4 F3) := fun b hb => ⟨(HFs3.out b hb).1, Nat.lt_of_lt_of_le (HFs3.out b hb).2 hb4.size⟩
            have HGE4 : Hid (w3.heap.size ≤ C3.heap.size) := hC3.size
            (try dsimp only)
            refine hK.out _ _ (HS.out _ hC4) (fun _ => trivial) ?_
            clear hK K
            (try simp only [Act.put, List.getElem_toArray, List.getElem_cons_zero, List.getElem_cons_succ, List.setIfInBounds_toArray, List.set_cons_zero, List.set_cons_succ])
            have yy0 : C4.cell? ⟨C3.heap.size, 0, none⟩ = some (.int .i64 0) := (cx4.out.cell 0).trans (by simp)
            have ff0 := cx4.out.frozen 0
            have yy1 : C4.cell? ⟨C3.heap.size, 1, none⟩ = some (.int .i64 0) := (cx4.out.cell 1).trans (by simp)
            have ff1 := cx4.out.frozen 1
            have yy2 : C4.cell? ⟨C3.heap.size, 2, none⟩ = some (.slice none 0 0) := (cx4.out.cell 2).trans (by simp)
            have ff2 := cx4.out.frozen 2
            have yylt := cx4.out.lt
            have hCe : Hid (Below w3.heap.size w3 (((C4.setCell ⟨C3.heap.size, 0, none⟩ (.int .i64 (leastOkV xs t).c)).setCell ⟨C3.heap.size, 1, none⟩ (.int .i64 (leastOkV xs t).n)).setCell ⟨C3.heap.size, 2, none⟩ (.slice A3 (leastOkV xs t).ks.length cap3))) := (((hC4.setCell HGE4.out _).setCell HGE4.out _).setCell HGE4.out _)
            have cbe : Hid (Blk (((C4.setCell ⟨C3.heap.size, 0, none⟩ (.int .i64 (leastOkV xs t).c)).setCell ⟨C3.heap.size, 1, none⟩ (.int .i64 (leastOkV xs t).n)).setCell ⟨C3.heap.size, 2, none⟩ (.slice A3 (leastOkV xs t).ks.length cap3)) (C3.heap.size) 41 #[.int .i64 (leastOkV xs t).c, .int .i64 (leastOkV xs t).n, .slice A3 (leastOkV xs t).ks.length cap3]) := (((cx4.out.set_ 0 _).set_ 1 _).set_ 2 _)
            have hgF : ∀ b ∈ F3, b ≠ C3.heap.size := fun b hb e => Nat.lt_irrefl _ (by have h1 := (HFs3.out b hb).2; rw [e] at h1; exact h1)
            have hkp : Kept F3 C4 (((C4.setCell ⟨C3.heap.size, 0, none⟩ (.int .i64 (leastOkV xs t).c)).setCell ⟨C3.heap.size, 1, none⟩ (.int .i64 (leastOkV xs t).n)).setCell ⟨C3.heap.size, 2, none⟩ (.slice A3 (leastOkV xs t).ks.length cap3)) := fun b hb => by rw [Below.heap_setCell _ _ _ _ (hgF b hb), Below.heap_setCell _ _ _ _ (hgF b hb), Below.heap_setCell _ _ _ _ (hgF b hb)]
            have hpe := Lib.hid (VR.mono _ _ _ hkp cp5.out)
            have hfe : Hid (Free (((C4.setCell ⟨C3.heap.size, 0, none⟩ (.int .i64 (leastOkV xs t).c)).setCell ⟨C3.heap.size, 1, none⟩ (.int .i64 (leastOkV xs t).n)).setCell ⟨C3.heap.size, 2, none⟩ (.slice A3 (leastOkV xs t).ks.length cap3)) F3) := cf5.out.kept hkp
            have hse : Hid (Fresh w3 (((C4.setCell ⟨C3.heap.size, 0, none⟩ (.int .i64 (leastOkV xs t).c)).setCell ⟨C3.heap.size, 1, none⟩ (.int .i64 (leastOkV xs t).n)).setCell ⟨C3.heap.size, 2, none⟩ (.slice A3 (leastOkV xs t).ks.length cap3)) F3) := fun b hb => ⟨Nat.le_trans hC1.size (cs5.out b hb).1, by simpa [World.setCell] using (cs5.out b hb).2⟩
            have hge : Hid (C3.heap.size ∉ F3) := fun h => hgF _ h rfl
            clear hkp hgF
            refine wpAnyB_ready (rs := [6]) (by kernel_rfl) (by simp) ?_
            refine AllReadyB.cons rfl (fun K hK => ?_) AllReadyB.nil
            go_simp
            refine hK.out _ _ (HS.out _ hCe.out) (fun _ => trivial) ?_
            clear hK K
            (try simp only [Act.put, List.getElem_toArray, List.getElem_cons_zero, List.getElem_cons_succ, List.setIfInBounds_toArray, List.set_cons_zero, List.set_cons_succ])
            refine wpAnyB_end (by kernel_rfl) ?_
            clear yy0 ff0 yy1 ff1 yy2 ff2 yylt
            go_wp2
            go_meet
            case rel => exact ⟨_, _, _, rfl, hCe, cbe, HGE4, hge, hpe, hfe, hse⟩
          · skip
            go_simp
            obtain ⟨C6, hX⟩ : ∃ X, X = C1.alloc (.cells #[.int .i64 0, .int .i64 0, .slice none 0 0] 41) := ⟨_, rfl⟩
            have hb6 : Below C1.heap.size C1 C6 := by rw [hX]; exact (Below.refl _ _).alloc (Nat.le_refl _) _
            have cx6 : Hid (Blk C6 C1.heap.size 41 #[.int .i64 0, .int .i64 0, .slice none 0 0]) := by rw [hX]; exact Blk.new _ _ _
            rw [← hX]
            clear hX
            have hC6 : Below w3.heap.size w3 C6 := hC1.trans (hb6.mono hC1.size)
            have HTC7 := Lib.hid (ArrNat.below HTB1.out hb6 HTU1.out)
            have HTV7 := Lib.hid (HTU1.out.mono hb6.size)
            have HGE6 : Hid (w3.heap.size ≤ C1.heap.size) := hC1.size
            (try dsimp only)
            refine hK.out _ _ (HS.out _ hC6) (fun _ => trivial) ?_
            clear hK K
            (try simp only [Act.put, List.getElem_toArray, List.getElem_cons_zero, List.getElem_cons_succ, List.setIfInBounds_toArray, List.set_cons_zero, List.set_cons_succ])
            refine wpAnyB_ready (rs := [4]) (by kernel_rfl) (by simp) ?_
            refine AllReadyB.cons rfl (fun K hK => ?_) AllReadyB.nil
            go_simp
            go_at_call 84
            refine (spec_least 10 xs HW.out t HT.out HDP.out.1 HDP.out.2 (Nat.le_refl _) _ _ F _ Ft1 (ArrDt.below HX.out (hB3.trans (hC6.mono hB3.size)) HF.out) (HF.out.mono (hB3.trans (hC6.mono hB3.size)).size) HTC7.out HTV7.out).mono ?_
            rintro e C8 ⟨cs8, F8, rfl, hb8, hp8, hfr8, hfs8⟩
            have hC8 : Below w3.heap.size w3 C8 := hC6.trans (hb8.mono hC6.size)
            rw [← HZ.out] at hp8
            obtain ⟨kv8, rfl, ha8⟩ := (VR_iff _ _ _).1 hp8
            obtain ⟨A8, cap8, rfl, -, -⟩ := ha8.form
            clear ha8
            have cb8 : Hid (Blk C8 C1.heap.size 41 #[.int .i64 0, .int .i64 0, .slice none 0 0]) := cx6.out.same (hb8.block _ cx6.out.lt)
            have HP8 := Lib.hid hp8
            have HFr8 := Lib.hid hfr8
            have HFs8 := Lib.hid hfs8
            clear hp8 hfr8 hfs8
            (try dsimp only)
            refine hK.out _ _ (HS.out _ hC8) (fun _ => trivial) ?_
            clear hK K
            (try simp only [Act.put, List.getElem_toArray, List.getElem_cons_zero, List.getElem_cons_succ, List.setIfInBounds_toArray, List.set_cons_zero, List.set_cons_succ])
            have yy0 : C8.cell? ⟨C1.heap.size, 0, none⟩ = some (.int .i64 0) := (cb8.out.cell 0).trans (by simp)
            have ff0 := cb8.out.frozen 0
            have yy1 : C8.cell? ⟨C1.heap.size, 1, none⟩ = some (.int .i64 0) := (cb8.out.cell 1).trans (by simp)
            have ff1 := cb8.out.frozen 1
            have yy2 : C8.cell? ⟨C1.heap.size, 2, none⟩ = some (.slice none 0 0) := (cb8.out.cell 2).trans (by simp)
            have ff2 := cb8.out.frozen 2
            have yylt := cb8.out.lt
            have hCe : Hid (Below w3.heap.size w3 (((C8.setCell ⟨C1.heap.size, 0, none⟩ (.int .i64 (leastOkV xs t).c)).setCell ⟨C1.heap.size, 1, none⟩ (.int .i64 (leastOkV xs t).n)).setCell ⟨C1.heap.size, 2, none⟩ (.slice A8 (leastOkV xs t).ks.length cap8))) := (((hC8.setCell HGE6.out _).setCell HGE6.out _).setCell HGE6.out _)
            have cbe : Hid (Blk (((C8.setCell ⟨C1.heap.size, 0, none⟩ (.int .i64 (leastOkV xs t).c)).setCell ⟨C1.heap.size, 1, none⟩ (.int .i64 (leastOkV xs t).n)).setCell ⟨C1.heap.size, 2, none⟩ (.slice A8 (leastOkV xs t).ks.length cap8)) (C1.heap.size) 41 #[.int .i64 (leastOkV xs t).c, .int .i64 (leastOkV xs t).n, .slice A8 (leastOkV xs t).ks.length cap8]) := (((cb8.out.set_ 0 _).set_ 1 _).set_ 2 _)
            have hgF : ∀ b ∈ F8, b ≠ C1.heap.size := fun b hb e => Nat.lt_irrefl _ (Nat.lt_of_lt_of_le (by rw [e]; exact cx6.out.lt) (HFs8.out b hb).1)
            have hkp : Kept F8 C8 (((C8.setCell ⟨C1.heap.size, 0, none⟩ (.int .i64 (leastOkV xs t).c)).setCell ⟨C1.heap.size, 1, none⟩ (.int .i64 (leastOkV xs t).n)).setCell ⟨C1.heap.size, 2, none⟩ (.slice A8 (leastOkV xs t).ks.length cap8)) := fun b hb => by rw [Below.heap_setCell _ _ _ _ (hgF b hb), Below.heap_setCell _ _ _ _ (hgF b hb), Below.heap_setCell _ _ _ _ (hgF b hb)]
            have hpe := Lib.hid (VR.mono _ _ _ hkp HP8.out)
            have hfe : Hid (Free (((C8.setCell ⟨C1.heap.size, 0, none⟩ (.int .i64 (leastOkV xs t).c)).setCell ⟨C1.heap.size, 1, none⟩ (.int .i64 (leastOkV xs t).n)).setCell ⟨C1.heap.size, 2, none⟩ (.slice A8 (leastOkV xs t).ks.length cap8)) F8) := HFr8.out.kept hkp
            have hse : Hid (Fresh w3 (((C8.setCell ⟨C1.heap.size, 0, none⟩ (.int .i64 (leastOkV xs t).c)).setCell ⟨C1.heap.size, 1, none⟩ (.int .i64 (leastOkV xs t).n)).setCell ⟨C1.heap.size, 2, none⟩ (.slice A8 (leastOkV xs t).ks.length cap8)) F8) := fun b hb => ⟨Nat.le_trans hC6.size (HFs8.out b hb).1, by simpa [World.setCell] using (HFs8.out b hb).2⟩
            have hge : Hid (C1.heap.size ∉ F8) := fun h => hgF _ h rfl
            clear hkp hgF
            refine wpAnyB_ready (rs := [6]) (by kernel_rfl) (by simp) ?_
            refine AllReadyB.cons rfl (fun K hK => ?_) AllReadyB.nil
            go_simp
            refine hK.out _ _ (HS.out _ hCe.out) (fun _ => trivial) ?_
            clear hK K
            (try simp only [Act.put, List.getElem_toArray, List.getElem_cons_zero, List.getElem_cons_succ, List.setIfInBounds_toArray, List.set_cons_zero, List.set_cons_succ])
            refine wpAnyB_end (by kernel_rfl) ?_
            clear yy0 ff0 yy1 ff1 yy2 ff2 yylt
            go_wp2
            go_meet
            case rel => exact ⟨_, _, _, rfl, hCe, cbe, HGE6, hge, hpe, hfe, hse⟩
        · skip
          go_simp
          obtain ⟨C9, hX⟩ : ∃ X, X = wd.alloc (.cells #[.int .i64 0, .int .i64 0, .slice none 0 0] 41) := ⟨_, rfl⟩
          have hb9 : Below wd.heap.size wd C9 := by rw [hX]; exact (Below.refl _ _).alloc (Nat.le_refl _) _
          have cx9 : Hid (Blk C9 wd.heap.size 41 #[.int .i64 0, .int .i64 0, .slice none 0 0]) := by rw [hX]; exact Blk.new _ _ _
          rw [← hX]
          clear hX
          have hC9 : Below w3.heap.size w3 C9 := hC0.trans (hb9.mono hC0.size)
          skip
          have HGE9 : Hid (w3.heap.size ≤ wd.heap.size) := hC0.size
          (try dsimp only)
          refine hK.out _ _ (HS.out _ hC9) (fun _ => trivial) ?_
          clear hK K
          (try simp only [Act.put, List.getElem_toArray, List.getElem_cons_zero, List.getElem_cons_succ, List.setIfInBounds_toArray, List.set_cons_zero, List.set_cons_succ])
          refine wpAnyB_ready (rs := [2]) (by kernel_rfl) (by simp) ?_
          refine AllReadyB.cons rfl (fun K hK => ?_) AllReadyB.nil
          go_simp
          go_at_call 85
          refine (spec_l1Table xs HW.out _ _ F (ArrDt.below HX.out (hB3.trans (hC9.mono hB3.size)) HF.out) (HF.out.mono (hB3.trans (hC9.mono hB3.size)).size)).mono ?_
          rintro e C11 ⟨v11, Ft11, rfl, hb11, ha11, -, hfs11⟩
          have hC11 : Below w3.heap.size w3 C11 := hC9.trans (hb11.mono hC9.size)
          skip
          have cb12 : Hid (Blk C11 wd.heap.size 41 #[.int .i64 0, .int .i64 0, .slice none 0 0]) := cx9.out.same (hb11.block _ cx9.out.lt)
          have HTB11 := Lib.hid ha11
          have HTU11 := Lib.hid hfs11.under
          clear ha11 hfs11
          (try dsimp only)
          refine hK.out _ _ (HS.out _ hC11) (fun _ => trivial) ?_
          clear hK K
          (try simp only [Act.put, List.getElem_toArray, List.getElem_cons_zero, List.getElem_cons_succ, List.setIfInBounds_toArray, List.set_cons_zero, List.set_cons_succ])
          refine wpAnyB_ready (rs := [4]) (by kernel_rfl) (by simp) ?_
          refine AllReadyB.cons rfl (fun K hK => ?_) AllReadyB.nil
          go_simp
          go_at_call 84
          refine (spec_least 10 xs HW.out t HT.out HDP.out.1 HDP.out.2 (Nat.le_refl _) _ _ F _ Ft11 (ArrDt.below HX.out (hB3.trans (hC11.mono hB3.size)) HF.out) (HF.out.mono (hB3.trans (hC11.mono hB3.size)).size) HTB11.out HTU11.out).mono ?_
          rintro e C13 ⟨cs13, F13, rfl, hb13, hp13, hfr13, hfs13⟩
          have hC13 : Below w3.heap.size w3 C13 := hC11.trans (hb13.mono hC11.size)
          rw [← HZ.out] at hp13
          obtain ⟨kv13, rfl, ha13⟩ := (VR_iff _ _ _).1 hp13
          obtain ⟨A13, cap13, rfl, -, -⟩ := ha13.form
          clear ha13
          have cb13 : Hid (Blk C13 wd.heap.size 41 #[.int .i64 0, .int .i64 0, .slice none 0 0]) := cb12.out.same (hb13.block _ cb12.out.lt)
          have HP13 := Lib.hid hp13
          have HFr13 := Lib.hid hfr13
          have HFs13 := Lib.hid hfs13
          clear hp13 hfr13 hfs13
          (try dsimp only)
          refine hK.out _ _ (HS.out _ hC13) (fun _ => trivial) ?_
          clear hK K
          (try simp only [Act.put, List.getElem_toArray, List.getElem_cons_zero, List.getElem_cons_succ, List.setIfInBounds_toArray, List.set_cons_zero, List.set_cons_succ])
          have yy0 : C13.cell? ⟨wd.heap.size, 0, none⟩ = some (.int .i64 0) := (cb13.out.cell 0).trans (by simp)
          have ff0 := cb13.out.frozen 0
          have yy1 : C13.cell? ⟨wd.heap.size, 1, none⟩ = some (.int .i64 0) := (cb13.out.cell 1).trans (by simp)
          have ff1 := cb13.out.frozen 1
          have yy2 : C13.cell? ⟨wd.heap.size, 2, none⟩ = some (.slice none 0 0) := (cb13.out.cell 2).trans (by simp)
          have ff2 := cb13.out.frozen 2
          have yylt := cb13.out.lt
          have hCe : Hid (Below w3.heap.size w3 (((C13.setCell ⟨wd.heap.size, 0, none⟩ (.int .i64 (leastOkV xs t).c)).setCell ⟨wd.heap.size, 1, none⟩ (.int .i64 (leastOkV xs t).n)).setCell ⟨wd.heap.size, 2, none⟩ (.slice A13 (leastOkV xs t).ks.length cap13))) := (((hC13.setCell HGE9.out _).setCell HGE9.out _).setCell HGE9.out _)
          have cbe : Hid (Blk (((C13.setCell ⟨wd.heap.size, 0, none⟩ (.int .i64 (leastOkV xs t).c)).setCell ⟨wd.heap.size, 1, none⟩ (.int .i64 (leastOkV xs t).n)).setCell ⟨wd.heap.size, 2, none⟩ (.slice A13 (leastOkV xs t).ks.length cap13)) (wd.heap.size) 41 #[.int .i64 (leastOkV xs t).c, .int .i64 (leastOkV xs t).n, .slice A13 (leastOkV xs t).ks.length cap13]) := (((cb13.out.set_ 0 _).set_ 1 _).set_ 2 _)
          have hgF : ∀ b ∈ F13, b ≠ wd.heap.size := fun b hb e => Nat.lt_irrefl _ (Nat.lt_of_lt_of_le (by rw [e]; exact cb12.out.lt) (HFs13.out b hb).1)
          have hkp : Kept F13 C13 (((C13.setCell ⟨wd.heap.size, 0, none⟩ (.int .i64 (leastOkV xs t).c)).setCell ⟨wd.heap.size, 1, none⟩ (.int .i64 (leastOkV xs t).n)).setCell ⟨wd.heap.size, 2, none⟩ (.slice A13 (leastOkV xs t).ks.length cap13)) := fun b hb => by rw [Below.heap_setCell _ _ _ _ (hgF b hb), Below.heap_setCell _ _ _ _ (hgF b hb), Below.heap_setCell _ _ _ _ (hgF b hb)]
          have hpe := Lib.hid (VR.mono _ _ _ hkp HP13.out)
          have hfe : Hid (Free (((C13.setCell ⟨wd.heap.size, 0, none⟩ (.int .i64 (leastOkV xs t).c)).setCell ⟨wd.heap.size, 1, none⟩ (.int .i64 (leastOkV xs t).n)).setCell ⟨wd.heap.size, 2, none⟩ (.slice A13 (leastOkV xs t).ks.length cap13)) F13) := HFr13.out.kept hkp
          have hse : Hid (Fresh w3 (((C13.setCell ⟨wd.heap.size, 0, none⟩ (.int .i64 (leastOkV xs t).c)).setCell ⟨wd.heap.size, 1, none⟩ (.int .i64 (leastOkV xs t).n)).setCell ⟨wd.heap.size, 2, none⟩ (.slice A13 (leastOkV xs t).ks.length cap13)) F13) := fun b hb => ⟨Nat.le_trans hC11.size (HFs13.out b hb).1, by simpa [World.setCell] using (HFs13.out b hb).2⟩
          have hge : Hid (wd.heap.size ∉ F13) := fun h => hgF _ h rfl
          clear hkp hgF
          refine wpAnyB_ready (rs := [6]) (by kernel_rfl) (by simp) ?_
          refine AllReadyB.cons rfl (fun K hK => ?_) AllReadyB.nil
          go_simp
          refine hK.out _ _ (HS.out _ hCe.out) (fun _ => trivial) ?_
          clear hK K
          (try simp only [Act.put, List.getElem_toArray, List.getElem_cons_zero, List.getElem_cons_succ, List.setIfInBounds_toArray, List.set_cons_zero, List.set_cons_succ])
          refine wpAnyB_end (by kernel_rfl) ?_
          clear yy0 ff0 yy1 ff1 yy2 ff2 yylt
          go_wp2
          go_meet
          case rel => exact ⟨_, _, _, rfl, hCe, cbe, HGE9, hge, hpe, hfe, hse⟩
      case rest =>
        obtain ⟨g5, cs5, F5, rfl, HB5, RB5, RGE5, RGF5, HP5, HFR5, HFS5⟩ := hcut
        obtain ⟨kv5, rfl, ha5⟩ := (VR_iff _ _ _).1 HP5.out
        obtain ⟨aA, acap, rfl, -, -⟩ := ha5.form
        clear ha5
        obtain ⟨w5, hw5⟩ : ∃ X, X = wc := ⟨_, rfl⟩
        rw [← hw5] at HB5 RB5 HP5 HFR5 HFS5 ⊢
        clear hw5
        have hB5 := hB3.trans (HB5.out.mono hB3.size)
        have KT5 := Lib.hid (KT3.out.same (HB5.out.block _ KT3.out.lt))
        have KR5 := Lib.hid (KR3.out.same (HB5.out.block _ KR3.out.lt))
        have k3lt := KR3.out.lt
        have KV5 : Hid (Blk w5 g5 41 #[.int .i64 (leastOkV xs t).c, .int .i64 (leastOkV xs t).n, .slice aA (leastOkV xs t).ks.length acap]) := RB5
        have HSM := Lib.hid (leastOkV_small HW.out HT.out)
        clear RB5 KT3 KR3 HB5
        have y0 : w5.cell? ⟨w.heap.size, 0, none⟩ = some (.int .i64 t.d) := (KT5.out.cell 0).trans (by simp)
        have y1 : w5.cell? ⟨w.heap.size, 1, none⟩ = some (.int .i64 t.i) := (KT5.out.cell 1).trans (by simp)
        have ylt := KT5.out.lt
        have v0 : w5.cell? ⟨g5, 0, none⟩ = some (.int .i64 (leastOkV xs t).c) := (KV5.out.cell 0).trans (by simp)
        have v1 : w5.cell? ⟨g5, 1, none⟩ = some (.int .i64 (leastOkV xs t).n) := (KV5.out.cell 1).trans (by simp)
        have v2 : w5.cell? ⟨g5, 2, none⟩ = some (.slice aA (leastOkV xs t).ks.length acap) := (KV5.out.cell 2).trans (by simp)
        have vlt := KV5.out.lt
        go_wp2_with fail
        refine (spec_l2Is xs t (leastOkV xs t) w5 _ F _ F5 (ArrDt.below HX.out hB5 HF.out) (HF.out.mono hB5.size) HP5.out HFS5.out.under HW.out HT.out HSM.out).mono ?_
        rintro e w6 ⟨rfl, hb6⟩
        have hB6 := hB5.trans (hb6.mono hB5.size)
        have KR6 := Lib.hid (KR5.out.same (hb6.block _ KR5.out.lt))
        have KV6 := Lib.hid (KV5.out.same (hb6.block _ KV5.out.lt))
        have HP6 := Lib.hid (HP5.out.below hb6 HFS5.out.under)
        have HFR6 := Lib.hid (HFR5.out.kept (.of_below hb6 HFS5.out.under))
        have HFS6 : Hid (Fresh w w6 F5) := fun b hb => ⟨Nat.le_trans hB3.size (HFS5.out b hb).1, Nat.lt_of_lt_of_le (HFS5.out b hb).2 hb6.size⟩
        have HNE : Hid (∀ b ∈ F5, b ≠ w.heap.size + 1) := fun b hb e => by have h1 := (HFS5.out b hb).1; omega
        clear y0 y1 ylt v0 v1 v2 vlt hb6 HP5 HFR5 KR5 KT5 KV5
        cases e3 : valueOkB xs t (leastOkV xs t) with
        | false =>
          have HE : Hid (leastFine xs t = false) := by unfold Hid; rw [HFE.out, HTV.out, e3]; simp
          have hz : Hid (leastR xs t = ⟨0, 0, []⟩) := leastR_no HE.out
          clear e3
          have rc0 := (KR6.out.cell 0).trans (show _ = some (.int .i64 0) from by simp)
          have rf0 := KR6.out.frozen 0
          have rc1 := (KR6.out.cell 1).trans (show _ = some (.int .i64 0) from by simp)
          have rf1 := KR6.out.frozen 1
          have rc2 := (KR6.out.cell 2).trans (show _ = some (.slice none 0 0) from by simp)
          have rf2 := KR6.out.frozen 2
          have rlt := KR6.out.lt
          go_wp2
          clear rc0 rf0 rc1 rf1 rc2 rf2 rlt
          refine bodyPost_ret (results_cell_tmp rfl _ _ (w.heap.size + 1) 41 #[.int .i64 0, .int .i64 0, .slice none 0 0] (0, 0) _ rfl (KR6.out.three _ _ _) Try.underlying41 rfl rfl) rfl ?_
          exact ⟨[.int .i64 0, .int .i64 0, .slice none 0 0], [], by rw [HE.out]; rfl, below_three hB6 (by omega) _ _ _, by rw [hz.out]; exact (VR_iff _ _ _).2 ⟨_, rfl, Arr.nil⟩, Free.nil _, Fresh.nil _ _⟩
        | true =>
          have HE : Hid (leastFine xs t = true) := by unfold Hid; rw [HFE.out, HTV.out, HE2.out, e3]; rfl
          have hz : Hid (leastR xs t = (leastOkV xs t)) := leastR_yes HE.out HE2.out
          clear e3
          have v0 : w6.cell? ⟨g5, 0, none⟩ = some (.int .i64 (leastOkV xs t).c) := (KV6.out.cell 0).trans (by simp)
          have v1 : w6.cell? ⟨g5, 1, none⟩ = some (.int .i64 (leastOkV xs t).n) := (KV6.out.cell 1).trans (by simp)
          have v2 : w6.cell? ⟨g5, 2, none⟩ = some (.slice aA (leastOkV xs t).ks.length acap) := (KV6.out.cell 2).trans (by simp)
          have vlt := KV6.out.lt
          generalize (leastOkV xs t).ks.length = n5 at *
          generalize (leastOkV xs t).c = ac at *
          generalize (leastOkV xs t).n = an at *
          have rc0 := (KR6.out.cell 0).trans (show _ = some (.int .i64 0) from by simp)
          have rf0 := KR6.out.frozen 0
          have rc1 := (KR6.out.cell 1).trans (show _ = some (.int .i64 0) from by simp)
          have rf1 := KR6.out.frozen 1
          have rc2 := (KR6.out.cell 2).trans (show _ = some (.slice none 0 0) from by simp)
          have rf2 := KR6.out.frozen 2
          have rlt := KR6.out.lt
          go_wp2
          clear rc0 rf0 rc1 rf1 rc2 rf2 rlt
          refine bodyPost_ret (results_cell_tmp rfl _ _ (w.heap.size + 1) 41 #[.int .i64 ac, .int .i64 an, .slice aA n5 acap] (0, 0) _ rfl (KR6.out.three _ _ _) Try.underlying41 rfl rfl) rfl ?_
          have hkp : Kept F5 w6 _ := kept_three (w := w6) (H := w.heap.size + 1) HNE.out (.int .i64 ac) (.int .i64 an) (.slice aA n5 acap)
          refine ⟨[.int .i64 ac, .int .i64 an, .slice aA n5 acap], F5, by rw [HE.out]; rfl, below_three hB6 (by omega) _ _ _, ?_, HFR6.out.kept hkp, fun b hb => ⟨(HFS6.out b hb).1, by rw [size_three]; exact (HFS6.out b hb).2⟩⟩
          rw [hz.out]
          exact VR.mono _ _ _ hkp HP6.out
end Go.Proofs.Ytbffkgfhcmigaaa

namespace Go.Proofs.Ytbffkgfhcmigaaa
open Go.RowKit

/-- contract of heldValueS at a node's parts -/
def HeldV (x : V) : Prop := ∀ (w : World) (v : Value) (F : List Nat) (k0 : Int), 0 ≤ k0 → k0 + (sumBy cntV x.ks : Nat) ≤ 1099511627776 → Arr w (VR w) (mkS mkV cntV k0 x.ks) v F → Under w.heap.size F →
  Calls Try.prog 91 #[v, .int .i64 k0] w fun e w' => e = .returned (.int .i64 (k0 + (sumBy cntV x.ks : Nat))) ∧ Below w.heap.size w w'

set_option maxRecDepth 100000 in
set_option maxHeartbeats 1600000 in
theorem heldValueS_of (xs : List V) (ih : ∀ x ∈ xs, HeldV x) (w : World) (v : Value) (F : List Nat) (k0 : Int) (h0 : 0 ≤ k0) (hk : k0 + (sumBy cntV xs : Nat) ≤ 1099511627776) (hx : Arr w (VR w) (mkS mkV cntV k0 xs) v F) (hf : Under w.heap.size F) :
    Calls Try.prog 91 #[v, .int .i64 k0] w fun e w' => e = .returned (.int .i64 (k0 + (sumBy cntV xs : Nat))) ∧ Below w.heap.size w w' := by
  obtain ⟨A, cap, rfl, hc1, hc2⟩ := hx.form
  rw [mkS_length] at hx hc1
  rw [mkS_length]
  have HX := Lib.hid hx
  have HF := Lib.hid hf
  have HK := Lib.hid hk
  have IH := Lib.hid ih
  clear hx hf hk ih
  go_enter Try.func91, Try.ntmps91
  go_wp2
  go_loopw [1, 5] (fun kv iv wr => ∃ i : Nat, ∃ m : Int, i ≤ xs.length ∧ iv = .int .i64 i ∧ kv = .int .i64 m ∧ 0 ≤ m ∧ Hid (m = k0 + (sumBy cntV (xs.take i) : Nat)) ∧ Below w.heap.size w wr) (fun _ iv _ => xs.length - (intOf iv).toNat)
  case atStart => exact ⟨0, k0, Nat.zero_le _, rfl, rfl, h0, (by simp [Hid, sumBy]), Below.refl _ _⟩
  case round =>
    obtain ⟨i, m, hi, rfl, rfl, hm0, HM, hB⟩ := hrel
    by_cases hlt : i < xs.length
    · have g1 : (0 : Int) ≤ (i : Int) := by omega
      have g2 : (i : Int) < (xs.length : Int) := by omega
      obtain ⟨b, off, c, F2, rfl, hb, hc, hr, hG⟩ := HX.out.get ((fun w => VR_len (w := w)) _) (i := i) (by rw [mkS_length]; exact hlt)
      have hge : (mkS mkV cntV k0 xs)[i]'(by rw [mkS_length]; exact hlt) = mkV m xs[i] := by
        have h := mkS_get (mk := mkV) (cnt := cntV) (k := k0) hlt
        rw [← HM.out, List.getElem?_eq_getElem (by rw [mkS_length]; exact hlt)] at h
        exact Option.some.inj h
      rw [hge] at hr
      clear hge

      have hbl := HF.out b hb
      have hc := hc.same (hB.block b hbl)
      have hu2 := HF.out.sub hG
      clear hG hb
      have hbw := Nat.lt_of_lt_of_le hbl hB.size
      have hsum : m + (cntV xs[i] : Nat) ≤ 1099511627776 := by
        have h1 := HM.out
        have h2 := HK.out
        have h3 := sumBy_take_le cntV xs (i + 1)
        rw [sumBy_take_succ cntV xs i hlt] at h3
        omega
      rw [mkV_def] at hr
      obtain ⟨kv, rfl, ha⟩ := (VR_iff _ _ _).1 hr
      obtain ⟨A1, cap1, rfl, -, -⟩ := ha.form
      have hcd := cntV_def xs[i]
      rw [hcd] at hsum
      simp only [mkS_length] at hc
      have x0 : wr.cell? ⟨b, off + i * 3, none⟩ = some (.int .i64 (m)) := hc 0 _ rfl
      have x1 : wr.cell? ⟨b, off + i * 3 + 1, none⟩ = some (.int .i64 (m + 1)) := hc 1 _ rfl
      have x2 : wr.cell? ⟨b, off + i * 3 + 2, none⟩ = some (.slice A1 xs[i].ks.length cap1) := hc 2 _ rfl
      clear hc
      simp only [mkS_length] at ha
      have HA := Lib.hid ha
      have HU2 := Lib.hid hu2
      clear ha hu2
      have hsn : (0 : Int) ≤ (sumBy cntV xs[i].ks : Nat) := by omega
      generalize hsg : sumBy cntV xs[i].ks = s at *
      have HSG := Lib.hid hsg
      have HCD := Lib.hid hcd
      clear hsg hcd
      go_wp2_with fail
      refine (IH.out _ (List.getElem_mem hlt) _ _ F2 (m + 1 + 1) (by omega) (by rw [HSG.out]; omega) (HA.out.mono (.of_below hB HU2.out) (fun x _ cs G hk h => (fun w w' x cs G hk h => VR.mono (w := w) (w' := w') x cs G hk h) _ _ x cs G hk h)) (HU2.out.mono hB.size)).mono ?_
      rintro e v1 ⟨rfl, hb1⟩
      rw [HSG.out]
      have y0 := (hb1.cell (p := ⟨b, off + i * 3, none⟩) hbw).trans x0
      have y1 := (hb1.cell (p := ⟨b, off + i * 3 + 1, none⟩) hbw).trans x1
      have y2 := (hb1.cell (p := ⟨b, off + i * 3 + 2, none⟩) hbw).trans x2
      clear x0 x1 x2
      have x0 := y0
      have x1 := y1
      have x2 := y2
      clear y0 y1 y2
      have hB1 := hB.trans (hb1.mono hB.size)
      have hbw := Nat.lt_of_lt_of_le hbw hb1.size
      clear hb1
      have HM2 : Hid (m + 1 + 1 + (s : Int) = k0 + (sumBy cntV (xs.take (i + 1)) : Nat)) := by
        have h1 := HM.out
        have h2 := HCD.out
        unfold Hid
        rw [sumBy_take_succ cntV xs i hlt]
        omega
      have hnn : 0 ≤ m + 1 + 1 + (s : Int) := by omega
      go_wp2
      go_roundw
      case rel => exact ⟨i + 1, m + 1 + 1 + (s : Int), by omega, by go_num, rfl, by omega, HM2, hB1⟩
      case measure => (simp [intOf] <;> omega)
    · have hf : Hid (m = k0 + (sumBy cntV xs : Nat)) := by
        have h := HM.out
        rwa [List.take_of_length_le (by omega)] at h
      go_wp2
      go_ret
      exact ⟨ret_int hf.out, hB⟩

theorem heldV_all : ∀ x, HeldV x := V.ind fun a0 a1 ks ih w v F k0 h0 hk hx hf => heldValueS_of ks ih w v F k0 h0 hk hx hf
theorem heldValueS_any (xs : List V) (w : World) (v : Value) (F : List Nat) (k0 : Int) (h0 : 0 ≤ k0) (hk : k0 + (sumBy cntV xs : Nat) ≤ 1099511627776) (hx : Arr w (VR w) (mkS mkV cntV k0 xs) v F) (hf : Under w.heap.size F) :
    Calls Try.prog 91 #[v, .int .i64 k0] w fun e w' => e = .returned (.int .i64 (k0 + (sumBy cntV xs : Nat))) ∧ Below w.heap.size w w' := heldValueS_of xs (fun x _ => heldV_all x) w v F k0 h0 hk hx hf

set_option maxRecDepth 100000 in
set_option maxHeartbeats 1600000 in
theorem heldValue_any (x : V) (w : World) (cs : List Value) (F : List Nat) (k0 : Int) (h0 : 0 ≤ k0) (hk : k0 + (sumBy cntV x.ks : Nat) ≤ 1099511627776) (hx : VR w (mkTopV k0 x) cs F) (hf : Under w.heap.size F) :
    Calls Try.prog 31 #[.agg cs.toArray, .int .i64 k0] w fun e w' => e = .returned (.int .i64 (k0 + (sumBy cntV x.ks : Nat))) ∧ Below w.heap.size w w' := by
  obtain ⟨kv, rfl, ha⟩ := (VR_iff _ _ _).1 hx
  obtain ⟨A, cap, rfl, -, -⟩ := ha.form
  simp only [mkTopV, mkS_length] at ha ⊢
  have HA := Lib.hid ha
  have HF := Lib.hid hf
  have HK := Lib.hid hk
  clear hx ha hf hk
  go_enter Try.func31, Try.ntmps31
  go_wp2_with fail
  obtain ⟨w1, hw1⟩ : ∃ w1, w1 = w.alloc (.cells #[.int .i64 x.c, .int .i64 x.n, .slice A x.ks.length cap] 41) := ⟨_, rfl⟩
  have hb1 : Below w.heap.size w w1 := by rw [hw1]; exact (Below.refl _ _).alloc (Nat.le_refl _) _
  have KV : Blk w1 w.heap.size 41 #[.int .i64 x.c, .int .i64 x.n, .slice A x.ks.length cap] := by rw [hw1]; exact Blk.new _ _ _
  rw [← hw1]
  clear hw1
  have z0 : w1.cell? ⟨w.heap.size, 2, none⟩ = some (.slice A x.ks.length cap) := (KV.cell 2).trans (by simp)
  have klt := KV.lt
  clear KV
  go_wp2_with fail
  refine (heldValueS_any x.ks w1 _ F k0 h0 HK.out (ArrV.below HA.out hb1 HF.out) (HF.out.mono hb1.size)).mono ?_
  rintro e w2 ⟨rfl, hg⟩
  have hnn : 0 ≤ k0 + (sumBy cntV x.ks : Nat) := by omega
  have hB2 := hb1.trans (hg.mono hb1.size)
  clear hg
  go_wp2
  go_ret
  exact ⟨rfl, hB2⟩
end Go.Proofs.Ytbffkgfhcmigaaa
