/-
  FnExactGuardHolds: the walk: the law returns true and leaves what was there alone. Conditions: the arguments lie in memory as plain data.
-/
import Derived.Test.YtjkpionncbmcaaaTo1Gd
import Derived.Test.YtjkpionncbmcaaaSzBd
import Derived.Test.YtjkpionncbmcaaaToBd
import Derived.Test.YtjkpionncbmcaaaEqBd
import Derived.Test.YtjkpionncbmcaaaGuard
import Derived.Deep.RegionWith
import Derived.Deep.RegionHeld3
import Derived.BigQuiet
namespace Go.Proofs.Ytjkpionncbmcaaa.fnExactGuardHolds
open Go.RowKit

set_option maxRecDepth 100000 in
set_option maxHeartbeats 1600000 in
theorem walk {W : World} (x0 : Gd) (cs0 : List Value) (F0 : List Nat) (hR0 : GdR W x0 cs0 F0) (hU0 : Under W.heap.size F0) (x1 : List Bd) (v1 : Value) (F1 : List Nat) (hR1 : Arr W (BdR W) x1 v1 F1) (hU1 : Under W.heap.size F1) (w : World) (hw : w = W) :
    Calls Try.prog 9 #[.agg cs0.toArray, v1] w fun e w' => e = .returned (.bool true) ∧ Below w.heap.size w w' := by
  subst hw
  obtain ⟨rfl, rfl⟩ := hR0
  obtain ⟨A1, cap1, rfl, -, -⟩ := hR1.form
  have HR1 := Lib.hid hR1
  have HU1 := Lib.hid hU1
  clear hR1 hU1
  go_enter Try.func9, Try.ntmps9
  go_wp2_with fail
  have hB0 : Below w.heap.size w w := Below.refl _ _
  obtain ⟨W1, hW⟩ : ∃ X, X = (w.alloc (.cells #[.int .i64 x0.op, .int .i64 x0.va, .int .i64 x0.n] 48)) := ⟨_, rfl⟩
  have hb1 : Below w.heap.size w W1 := by rw [hW]; exact ((Below.refl w.heap.size w).alloc (by simp <;> omega) _)
  have bx0 : Hid (Blk W1 (w.heap.size) 48 #[.int .i64 x0.op, .int .i64 x0.va, .int .i64 x0.n]) := by
    rw [hW]
    have h0 := Blk.new w 48 #[.int .i64 x0.op, .int .i64 x0.va, .int .i64 x0.n]
    exact (h0)
  rw [← hW]
  clear hW
  have hB2 := hB0.trans (hb1.mono hB0.size)
  refine (szBindS_any x1 W1 F1 _ (1048576) (ArrBd.below HR1.out hB2 HU1.out) (HU1.out.mono hB2.size) (by omega) (by omega)).mono ?_
  rintro e W3 ⟨rfl, hb3⟩
  have hB4 := hB2.trans (hb3.mono hB2.size)
  have bx0n : Hid (Blk W3 (w.heap.size) 48 #[.int .i64 x0.op, .int .i64 x0.va, .int .i64 x0.n]) := bx0.out.same (hb3.block _ bx0.out.lt)
  clear bx0
  have bx0 := bx0n
  clear bx0n
  by_cases hz1 : ((Bd.sizes x1) : Int) ≤ 1048576
  · rw [show szLeft (Bd.sizes x1) (1048576) = 1048576 - ((Bd.sizes x1) : Int) from if_pos hz1]
    have hnn1 : 0 ≤ 1048576 - ((Bd.sizes x1) : Int) := by omega
    have hs1 : (Bd.sizes x1) ≤ 1048576 := by omega
    have bx0c0 : W3.cell? ⟨w.heap.size, 0, none⟩ = some (.int .i64 x0.op) := (bx0.out.cell 0).trans (by simp)
    have bx0c1 : W3.cell? ⟨w.heap.size, 1, none⟩ = some (.int .i64 x0.va) := (bx0.out.cell 1).trans (by simp)
    have bx0c2 : W3.cell? ⟨w.heap.size, 2, none⟩ = some (.int .i64 x0.n) := (bx0.out.cell 2).trans (by simp)
    have bx0lt : w.heap.size < W3.heap.size := bx0.out.lt
    go_wp2_with fail
    clear bx0c0 bx0c1 bx0c2 bx0lt
    refine (toGuard_any x0 W3 _ [] (GdR.mk0 _ x0) (Under.nil _) (Gd.size_le x0)).mono ?_
    rintro e W5 ⟨ds5, G5, rfl, hb5, ⟨rfl, rfl⟩, hfr5, hfs5⟩
    have hB6 := hB4.trans (hb5.mono hB4.size)
    have bx0n : Hid (Blk W5 (w.heap.size) 48 #[.int .i64 x0.op, .int .i64 x0.va, .int .i64 x0.n]) := bx0.out.same (hb5.block _ bx0.out.lt)
    clear bx0
    have bx0 := bx0n
    clear bx0n
    have bx0c0 : W5.cell? ⟨w.heap.size, 0, none⟩ = some (.int .i64 x0.op) := (bx0.out.cell 0).trans (by simp)
    have bx0c1 : W5.cell? ⟨w.heap.size, 1, none⟩ = some (.int .i64 x0.va) := (bx0.out.cell 1).trans (by simp)
    have bx0c2 : W5.cell? ⟨w.heap.size, 2, none⟩ = some (.int .i64 x0.n) := (bx0.out.cell 2).trans (by simp)
    have bx0lt : w.heap.size < W5.heap.size := bx0.out.lt
    go_wp2_with fail
    clear bx0c0 bx0c1 bx0c2 bx0lt
    refine (toBindS_any x1 W5 F1 _ (ArrBd.below HR1.out hB6 HU1.out) (HU1.out.mono hB6.size) hs1).mono ?_
    rintro e W7 ⟨y7, G7, rfl, hb7, hv7, hfr7, hfs7⟩
    have hB8 := hB6.trans (hb7.mono hB6.size)
    have bx0n : Hid (Blk W7 (w.heap.size) 48 #[.int .i64 x0.op, .int .i64 x0.va, .int .i64 x0.n]) := bx0.out.same (hb7.block _ bx0.out.lt)
    clear bx0
    have bx0 := bx0n
    clear bx0n
    have T1 := Lib.hid hv7
    have TU1 := Lib.hid hfs7.under
    clear hv7 hfr7 hfs7
    have bx0c0 : W7.cell? ⟨w.heap.size, 0, none⟩ = some (.int .i64 x0.op) := (bx0.out.cell 0).trans (by simp)
    have bx0c1 : W7.cell? ⟨w.heap.size, 1, none⟩ = some (.int .i64 x0.va) := (bx0.out.cell 1).trans (by simp)
    have bx0c2 : W7.cell? ⟨w.heap.size, 2, none⟩ = some (.int .i64 x0.n) := (bx0.out.cell 2).trans (by simp)
    have bx0lt : w.heap.size < W7.heap.size := bx0.out.lt
    go_wp2_with fail
    clear bx0c0 bx0c1 bx0c2 bx0lt
    refine (spec_GuardHolds x0 x1 _ G7 _ T1.out TU1.out).mono ?_
    rintro e W9 ⟨rfl, hb9⟩
    have hB10 := hB8.trans (hb9.mono hB8.size)
    have bx0n : Hid (Blk W9 (w.heap.size) 48 #[.int .i64 x0.op, .int .i64 x0.va, .int .i64 x0.n]) := bx0.out.same (hb9.block _ bx0.out.lt)
    clear bx0
    have bx0 := bx0n
    clear bx0n
    generalize hres : guardHolds x0 x1 = r0
    have HRes := Lib.hid hres
    clear hres
    have bx0c0 : W9.cell? ⟨w.heap.size, 0, none⟩ = some (.int .i64 x0.op) := (bx0.out.cell 0).trans (by simp)
    have bx0c1 : W9.cell? ⟨w.heap.size, 1, none⟩ = some (.int .i64 x0.va) := (bx0.out.cell 1).trans (by simp)
    have bx0c2 : W9.cell? ⟨w.heap.size, 2, none⟩ = some (.int .i64 x0.n) := (bx0.out.cell 2).trans (by simp)
    have bx0lt : w.heap.size < W9.heap.size := bx0.out.lt
    go_wp2_with fail
    clear bx0c0 bx0c1 bx0c2 bx0lt
    refine (toBindS_any x1 W9 F1 _ (ArrBd.below HR1.out hB10 HU1.out) (HU1.out.mono hB10.size) hs1).mono ?_
    rintro e W11 ⟨y11, G11, rfl, hb11, hv11, hfr11, hfs11⟩
    have hB12 := hB10.trans (hb11.mono hB10.size)
    have bx0n : Hid (Blk W11 (w.heap.size) 48 #[.int .i64 x0.op, .int .i64 x0.va, .int .i64 x0.n]) := bx0.out.same (hb11.block _ bx0.out.lt)
    clear bx0
    have bx0 := bx0n
    clear bx0n
    obtain ⟨B1, bap1, rfl, -, -⟩ := hv11.form
    have X1 := Lib.hid hv11
    have Y1 := Lib.hid hfs11.under
    clear hv11 hfr11 hfs11
    have bx0c0 : W11.cell? ⟨w.heap.size, 0, none⟩ = some (.int .i64 x0.op) := (bx0.out.cell 0).trans (by simp)
    have bx0c1 : W11.cell? ⟨w.heap.size, 1, none⟩ = some (.int .i64 x0.va) := (bx0.out.cell 1).trans (by simp)
    have bx0c2 : W11.cell? ⟨w.heap.size, 2, none⟩ = some (.int .i64 x0.n) := (bx0.out.cell 2).trans (by simp)
    have bx0lt : w.heap.size < W11.heap.size := bx0.out.lt
    go_wp2_with fail
    clear bx0c0 bx0c1 bx0c2 bx0lt
    refine (toGuard_any x0 W11 _ [] (GdR.mk0 _ x0) (Under.nil _) (Gd.size_le x0)).mono ?_
    rintro e W13 ⟨ds13, G13, rfl, hb13, ⟨rfl, rfl⟩, hfr13, hfs13⟩
    have hB14 := hB12.trans (hb13.mono hB12.size)
    have bx0n : Hid (Blk W13 (w.heap.size) 48 #[.int .i64 x0.op, .int .i64 x0.va, .int .i64 x0.n]) := bx0.out.same (hb13.block _ bx0.out.lt)
    clear bx0
    have bx0 := bx0n
    clear bx0n
    have X1n := Lib.hid (ArrBd.below X1.out hb13 Y1.out)
    have Y1n := Lib.hid (Y1.out.mono hb13.size)
    clear X1 Y1
    have X1 := X1n
    have Y1 := Y1n
    clear X1n Y1n
    have bx0c0 : W13.cell? ⟨w.heap.size, 0, none⟩ = some (.int .i64 x0.op) := (bx0.out.cell 0).trans (by simp)
    have bx0c1 : W13.cell? ⟨w.heap.size, 1, none⟩ = some (.int .i64 x0.va) := (bx0.out.cell 1).trans (by simp)
    have bx0c2 : W13.cell? ⟨w.heap.size, 2, none⟩ = some (.int .i64 x0.n) := (bx0.out.cell 2).trans (by simp)
    have bx0lt : w.heap.size < W13.heap.size := bx0.out.lt
    go_wp2_with fail
    clear bx0c0 bx0c1 bx0c2 bx0lt
    refine (impl_GuardHolds x0 x1 _ G11 _ X1.out Y1.out).mono ?_
    rintro e W15 ⟨rfl, hb15⟩
    have hB16 := hB14.trans (hb15.mono hB14.size)
    have bx0n : Hid (Blk W15 (w.heap.size) 48 #[.int .i64 x0.op, .int .i64 x0.va, .int .i64 x0.n]) := bx0.out.same (hb15.block _ bx0.out.lt)
    clear bx0
    have bx0 := bx0n
    clear bx0n
    have X1n := Lib.hid (ArrBd.below X1.out hb15 Y1.out)
    have Y1n := Lib.hid (Y1.out.mono hb15.size)
    clear X1 Y1
    have X1 := X1n
    have Y1 := Y1n
    clear X1n Y1n
    rw [HRes.out]
    have hne : (r0 != r0) = false := by simp
    have bx0c0 : W15.cell? ⟨w.heap.size, 0, none⟩ = some (.int .i64 x0.op) := (bx0.out.cell 0).trans (by simp)
    have bx0c1 : W15.cell? ⟨w.heap.size, 1, none⟩ = some (.int .i64 x0.va) := (bx0.out.cell 1).trans (by simp)
    have bx0c2 : W15.cell? ⟨w.heap.size, 2, none⟩ = some (.int .i64 x0.n) := (bx0.out.cell 2).trans (by simp)
    have bx0lt : w.heap.size < W15.heap.size := bx0.out.lt
    go_wp2_with fail
    clear bx0c0 bx0c1 bx0c2 bx0lt
    refine (toBindS_any x1 W15 F1 _ (ArrBd.below HR1.out hB16 HU1.out) (HU1.out.mono hB16.size) hs1).mono ?_
    rintro e W17 ⟨y17, G17, rfl, hb17, hv17, hfr17, hfs17⟩
    have hB19 := hB16.trans (hb17.mono hB16.size)
    have bx0n : Hid (Blk W17 (w.heap.size) 48 #[.int .i64 x0.op, .int .i64 x0.va, .int .i64 x0.n]) := bx0.out.same (hb17.block _ bx0.out.lt)
    clear bx0
    have bx0 := bx0n
    clear bx0n
    have X1n := Lib.hid (ArrBd.below X1.out hb17 Y1.out)
    have Y1n := Lib.hid (Y1.out.mono hb17.size)
    clear X1 Y1
    have X1 := X1n
    have Y1 := Y1n
    clear X1n Y1n
    have bx0c0 : W17.cell? ⟨w.heap.size, 0, none⟩ = some (.int .i64 x0.op) := (bx0.out.cell 0).trans (by simp)
    have bx0c1 : W17.cell? ⟨w.heap.size, 1, none⟩ = some (.int .i64 x0.va) := (bx0.out.cell 1).trans (by simp)
    have bx0c2 : W17.cell? ⟨w.heap.size, 2, none⟩ = some (.int .i64 x0.n) := (bx0.out.cell 2).trans (by simp)
    have bx0lt : w.heap.size < W17.heap.size := bx0.out.lt
    go_wp2_with fail
    clear bx0c0 bx0c1 bx0c2 bx0lt
    refine (eqBindS_any x1 W17 G11 G17 _ _ X1.out hv17 Y1.out hfs17.under).mono ?_
    rintro e W18 ⟨rfl, hb18⟩
    have hB20 := hB19.trans (hb18.mono hB19.size)
    have bx0n : Hid (Blk W18 (w.heap.size) 48 #[.int .i64 x0.op, .int .i64 x0.va, .int .i64 x0.n]) := bx0.out.same (hb18.block _ bx0.out.lt)
    clear bx0
    have bx0 := bx0n
    clear bx0n
    have X1n := Lib.hid (ArrBd.below X1.out hb18 Y1.out)
    have Y1n := Lib.hid (Y1.out.mono hb18.size)
    clear X1 Y1
    have X1 := X1n
    have Y1 := Y1n
    clear X1n Y1n
    go_wp2
    go_ret
    exact ⟨rfl, hB20⟩
  · rw [show szLeft (Bd.sizes x1) (1048576) = -1 from if_neg hz1]
    go_wp2
    go_ret
    exact ⟨rfl, hB4⟩
end Go.Proofs.Ytjkpionncbmcaaa.fnExactGuardHolds
