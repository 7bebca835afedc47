/-
  Contract of toClause (a deep copy). Conditions: no more than 1048576 parts.
-/
import Derived.Test.YtjejbdbfjiocoaaCl
import Derived.Test.YtjejbdbfjiocoaaToP
import Derived.Test.YtjejbdbfjiocoaaTo1Gd
import Derived.Test.YtjejbdbfjiocoaaChecked
namespace Go.Proofs.Ytjejbdbfjiocoaa
open Go.RowKit

def MadeCl (w : World) (v : Cl) (e : Ending) (w' : World) : Prop := ∃ (cs : List Value) (F : List Nat), e = .returned (.agg cs.toArray) ∧ Below w.heap.size w w' ∧ ClR w' v cs F ∧ Free w' F ∧ Fresh w w' F

set_option maxHeartbeats 400000 in
theorem toClause_any (x : Cl) (w : World) (cs : List Value) (F : List Nat) (hv : ClR w x cs F) (hF : Under w.heap.size F) (hz : x.size ≤ 1048576) : Calls Try.prog 45 #[.agg cs.toArray] w (MadeCl w x) := by
  obtain ⟨kv, rfl, ha⟩ := hv
  have HA := Lib.hid ha
  obtain ⟨kw, rfl, ha2⟩ := (PR_iff _ _ _).1 ha
  obtain ⟨A, cap, rfl, -, -⟩ := ha2.form
  clear ha ha2
  have HF := Lib.hid hF
  clear hF
  have HZ := Lib.hid hz
  clear hz
  go_enter Try.func45, Try.ntmps45
  go_wp2_with fail
  obtain ⟨W3, hW3⟩ : ∃ W3, W3 = (((w.alloc (.cells #[.int .i64 x.pat.op, .int .i64 x.pat.ct, .int .i64 x.pat.n, .int .i64 x.pat.m, .int .i64 x.pat.va, .slice A x.pat.ks.length cap, .int .i64 x.gd.op, .int .i64 x.gd.va, .int .i64 x.gd.n] 74)).alloc (.cells #[.int .i64 0, .int .i64 0, .int .i64 0, .int .i64 0, .int .i64 0, .slice none 0 0, .int .i64 0, .int .i64 0, .int .i64 0] 79)).alloc (.cells #[.int .i64 0, .int .i64 0, .int .i64 0, .int .i64 0, .int .i64 0, .slice none 0 0, .int .i64 0, .int .i64 0, .int .i64 0] 79)) := ⟨_, rfl⟩
  have hB3 : Below w.heap.size w W3 := by rw [hW3]; exact (((Below.refl _ _).alloc (Nat.le_refl _) _).alloc (by simp) _).alloc (by simp; omega) _
  have hsz : w.heap.size + 3 ≤ W3.heap.size := by rw [hW3]; simp
  have b0 : Blk W3 w.heap.size 74 #[.int .i64 x.pat.op, .int .i64 x.pat.ct, .int .i64 x.pat.n, .int .i64 x.pat.m, .int .i64 x.pat.va, .slice A x.pat.ks.length cap, .int .i64 x.gd.op, .int .i64 x.gd.va, .int .i64 x.gd.n] := by
    rw [hW3]
    exact ((Blk.new w 74 #[.int .i64 x.pat.op, .int .i64 x.pat.ct, .int .i64 x.pat.n, .int .i64 x.pat.m, .int .i64 x.pat.va, .slice A x.pat.ks.length cap, .int .i64 x.gd.op, .int .i64 x.gd.va, .int .i64 x.gd.n]).same (Below.heap_alloc _ _ _ (by simp))).same (Below.heap_alloc _ _ _ (by simp; omega))
  have b1 : Blk W3 (w.heap.size + 1) 79 #[.int .i64 0, .int .i64 0, .int .i64 0, .int .i64 0, .int .i64 0, .slice none 0 0, .int .i64 0, .int .i64 0, .int .i64 0] := by
    rw [hW3]
    have := Blk.new (w.alloc (.cells #[.int .i64 x.pat.op, .int .i64 x.pat.ct, .int .i64 x.pat.n, .int .i64 x.pat.m, .int .i64 x.pat.va, .slice A x.pat.ks.length cap, .int .i64 x.gd.op, .int .i64 x.gd.va, .int .i64 x.gd.n] 74)) 79 #[.int .i64 0, .int .i64 0, .int .i64 0, .int .i64 0, .int .i64 0, .slice none 0 0, .int .i64 0, .int .i64 0, .int .i64 0]
    rw [World.size_alloc] at this
    exact this.same (Below.heap_alloc _ _ _ (by simp))
  have b2 : Blk W3 (w.heap.size + 2) 79 #[.int .i64 0, .int .i64 0, .int .i64 0, .int .i64 0, .int .i64 0, .slice none 0 0, .int .i64 0, .int .i64 0, .int .i64 0] := by
    rw [hW3]
    have := Blk.new ((w.alloc (.cells #[.int .i64 x.pat.op, .int .i64 x.pat.ct, .int .i64 x.pat.n, .int .i64 x.pat.m, .int .i64 x.pat.va, .slice A x.pat.ks.length cap, .int .i64 x.gd.op, .int .i64 x.gd.va, .int .i64 x.gd.n] 74)).alloc (.cells #[.int .i64 0, .int .i64 0, .int .i64 0, .int .i64 0, .int .i64 0, .slice none 0 0, .int .i64 0, .int .i64 0, .int .i64 0] 79)) 79 #[.int .i64 0, .int .i64 0, .int .i64 0, .int .i64 0, .int .i64 0, .slice none 0 0, .int .i64 0, .int .i64 0, .int .i64 0]
    simpa using this
  rw [← hW3]
  clear hW3
  have hF1 := HF.out.mono hB3.size
  refine (toPattern_any x.pat W3 _ F (HA.out.below hB3 HF.out) hF1 (by have := HZ.out; unfold Cl.size at this; omega)).mono ?_
  rintro e V1 ⟨cs1, G1, rfl, hb1, hv1, hfr1, hfs1⟩
  obtain ⟨kw1, rfl, hw1⟩ := (PR_iff _ _ _).1 hv1
  obtain ⟨A1, cap1, rfl, -, -⟩ := hw1.form
  clear hw1
  have hbz1 := hb1.size
  have m0 := b0.same (hb1.block _ b0.lt)
  have m1 := b1.same (hb1.block _ b1.lt)
  have m2 := b2.same (hb1.block _ b2.lt)
  clear b0 b1 b2
  have b0 := m0
  have b1 := m1
  have b2 := m2
  clear m0 m1 m2
  have hB4 := hB3.trans (hb1.mono hB3.size)
  have a0 : V1.cell? ⟨w.heap.size, 0, none⟩ = some (.int .i64 x.pat.op) := (b0.cell 0).trans (by simp)
  have d0 : V1.cell? ⟨w.heap.size + 1, 0, none⟩ = some (.int .i64 0) := (b1.cell 0).trans (by simp)
  have f0 := b1.frozen 0
  have e0 : V1.cell? ⟨w.heap.size + 2, 0, none⟩ = some (.int .i64 0) := (b2.cell 0).trans (by simp)
  have g0 := b2.frozen 0
  have a1 : V1.cell? ⟨w.heap.size, 1, none⟩ = some (.int .i64 x.pat.ct) := (b0.cell 1).trans (by simp)
  have d1 : V1.cell? ⟨w.heap.size + 1, 1, none⟩ = some (.int .i64 0) := (b1.cell 1).trans (by simp)
  have f1 := b1.frozen 1
  have e1 : V1.cell? ⟨w.heap.size + 2, 1, none⟩ = some (.int .i64 0) := (b2.cell 1).trans (by simp)
  have g1 := b2.frozen 1
  have a2 : V1.cell? ⟨w.heap.size, 2, none⟩ = some (.int .i64 x.pat.n) := (b0.cell 2).trans (by simp)
  have d2 : V1.cell? ⟨w.heap.size + 1, 2, none⟩ = some (.int .i64 0) := (b1.cell 2).trans (by simp)
  have f2 := b1.frozen 2
  have e2 : V1.cell? ⟨w.heap.size + 2, 2, none⟩ = some (.int .i64 0) := (b2.cell 2).trans (by simp)
  have g2 := b2.frozen 2
  have a3 : V1.cell? ⟨w.heap.size, 3, none⟩ = some (.int .i64 x.pat.m) := (b0.cell 3).trans (by simp)
  have d3 : V1.cell? ⟨w.heap.size + 1, 3, none⟩ = some (.int .i64 0) := (b1.cell 3).trans (by simp)
  have f3 := b1.frozen 3
  have e3 : V1.cell? ⟨w.heap.size + 2, 3, none⟩ = some (.int .i64 0) := (b2.cell 3).trans (by simp)
  have g3 := b2.frozen 3
  have a4 : V1.cell? ⟨w.heap.size, 4, none⟩ = some (.int .i64 x.pat.va) := (b0.cell 4).trans (by simp)
  have d4 : V1.cell? ⟨w.heap.size + 1, 4, none⟩ = some (.int .i64 0) := (b1.cell 4).trans (by simp)
  have f4 := b1.frozen 4
  have e4 : V1.cell? ⟨w.heap.size + 2, 4, none⟩ = some (.int .i64 0) := (b2.cell 4).trans (by simp)
  have g4 := b2.frozen 4
  have a5 : V1.cell? ⟨w.heap.size, 5, none⟩ = some (.slice A x.pat.ks.length cap) := (b0.cell 5).trans (by simp)
  have d5 : V1.cell? ⟨w.heap.size + 1, 5, none⟩ = some (.slice none 0 0) := (b1.cell 5).trans (by simp)
  have f5 := b1.frozen 5
  have e5 : V1.cell? ⟨w.heap.size + 2, 5, none⟩ = some (.slice none 0 0) := (b2.cell 5).trans (by simp)
  have g5 := b2.frozen 5
  have a6 : V1.cell? ⟨w.heap.size, 6, none⟩ = some (.int .i64 x.gd.op) := (b0.cell 6).trans (by simp)
  have d6 : V1.cell? ⟨w.heap.size + 1, 6, none⟩ = some (.int .i64 0) := (b1.cell 6).trans (by simp)
  have f6 := b1.frozen 6
  have e6 : V1.cell? ⟨w.heap.size + 2, 6, none⟩ = some (.int .i64 0) := (b2.cell 6).trans (by simp)
  have g6 := b2.frozen 6
  have a7 : V1.cell? ⟨w.heap.size, 7, none⟩ = some (.int .i64 x.gd.va) := (b0.cell 7).trans (by simp)
  have d7 : V1.cell? ⟨w.heap.size + 1, 7, none⟩ = some (.int .i64 0) := (b1.cell 7).trans (by simp)
  have f7 := b1.frozen 7
  have e7 : V1.cell? ⟨w.heap.size + 2, 7, none⟩ = some (.int .i64 0) := (b2.cell 7).trans (by simp)
  have g7 := b2.frozen 7
  have a8 : V1.cell? ⟨w.heap.size, 8, none⟩ = some (.int .i64 x.gd.n) := (b0.cell 8).trans (by simp)
  have d8 : V1.cell? ⟨w.heap.size + 1, 8, none⟩ = some (.int .i64 0) := (b1.cell 8).trans (by simp)
  have f8 := b1.frozen 8
  have e8 : V1.cell? ⟨w.heap.size + 2, 8, none⟩ = some (.int .i64 0) := (b2.cell 8).trans (by simp)
  have g8 := b2.frozen 8
  have HV1 := Lib.hid hv1
  have HFr1 := Lib.hid hfr1
  have HFs1 := Lib.hid hfs1
  clear hv1 hfr1 hfs1
  have B0 := Lib.hid b0
  have B1 := Lib.hid b1
  have B2 := Lib.hid b2
  clear b0 b1 b2 hb1
  go_wp2_with fail
  obtain ⟨U1, hWx⟩ : ∃ X, X = ((((((V1.setCell ⟨w.heap.size + 1 + 1, 0, none⟩ (.int .i64 x.pat.op)).setCell ⟨w.heap.size + 1 + 1, 1, none⟩ (.int .i64 x.pat.ct)).setCell ⟨w.heap.size + 1 + 1, 2, none⟩ (.int .i64 x.pat.n)).setCell ⟨w.heap.size + 1 + 1, 3, none⟩ (.int .i64 x.pat.m)).setCell ⟨w.heap.size + 1 + 1, 4, none⟩ (.int .i64 x.pat.va)).setCell ⟨w.heap.size + 1 + 1, 5, none⟩ (.slice A1 x.pat.ks.length cap1)) := ⟨_, rfl⟩
  have hBx1 : Below w.heap.size w U1 := by rw [hWx]; exact ((((((hB4.setCell (by simp; omega) _).setCell (by simp; omega) _).setCell (by simp; omega) _).setCell (by simp; omega) _).setCell (by simp; omega) _).setCell (by simp; omega) _)
  have b2 : Blk U1 (w.heap.size + 2) 79 #[.int .i64 x.pat.op, .int .i64 x.pat.ct, .int .i64 x.pat.n, .int .i64 x.pat.m, .int .i64 x.pat.va, .slice A1 x.pat.ks.length cap1, .int .i64 0, .int .i64 0, .int .i64 0] := by rw [hWx]; exact (Blk.set_ (Blk.set_ (Blk.set_ (Blk.set_ (Blk.set_ (Blk.set_ B2.out 0 _) 1 _) 2 _) 3 _) 4 _) 5 _)
  have b1 : Blk U1 (w.heap.size + 1) 79 #[.int .i64 0, .int .i64 0, .int .i64 0, .int .i64 0, .int .i64 0, .slice none 0 0, .int .i64 0, .int .i64 0, .int .i64 0] := by rw [hWx]; exact B1.out.same (by rw [Below.heap_setCell _ _ _ _ (by simp <;> omega), Below.heap_setCell _ _ _ _ (by simp <;> omega), Below.heap_setCell _ _ _ _ (by simp <;> omega), Below.heap_setCell _ _ _ _ (by simp <;> omega), Below.heap_setCell _ _ _ _ (by simp <;> omega), Below.heap_setCell _ _ _ _ (by simp <;> omega)])
  have b0 : Blk U1 w.heap.size 74 #[.int .i64 x.pat.op, .int .i64 x.pat.ct, .int .i64 x.pat.n, .int .i64 x.pat.m, .int .i64 x.pat.va, .slice A x.pat.ks.length cap, .int .i64 x.gd.op, .int .i64 x.gd.va, .int .i64 x.gd.n] := by rw [hWx]; exact B0.out.same (by rw [Below.heap_setCell _ _ _ _ (by simp <;> omega), Below.heap_setCell _ _ _ _ (by simp <;> omega), Below.heap_setCell _ _ _ _ (by simp <;> omega), Below.heap_setCell _ _ _ _ (by simp <;> omega), Below.heap_setCell _ _ _ _ (by simp <;> omega), Below.heap_setCell _ _ _ _ (by simp <;> omega)])
  have hkp1 : Kept G1 V1 U1 := fun b hb => by
    have h1 := (HFs1.out b hb).1
    rw [hWx, Below.heap_setCell _ _ _ _ (by simp; omega), Below.heap_setCell _ _ _ _ (by simp; omega), Below.heap_setCell _ _ _ _ (by simp; omega), Below.heap_setCell _ _ _ _ (by simp; omega), Below.heap_setCell _ _ _ _ (by simp; omega), Below.heap_setCell _ _ _ _ (by simp; omega)]
  have hv1 := PR.mono _ _ _ hkp1 HV1.out
  have hfr1 := HFr1.out.kept hkp1
  have hfs1 : Fresh W3 U1 G1 := fun b hb => ⟨(HFs1.out b hb).1, by rw [hWx]; simpa [World.setCell] using (HFs1.out b hb).2⟩
  have hWz : V1.heap.size ≤ U1.heap.size := by rw [hWx]; simp [World.setCell]
  rw [← hWx]
  clear hWx B0 B1 B2 hkp1 HV1 HFr1 HFs1
  clear a0 d0 e0 f0 g0 a1 d1 e1 f1 g1 a2 d2 e2 f2 g2 a3 d3 e3 f3 g3 a4 d4 e4 f4 g4 a5 d5 e5 f5 g5 a6 d6 e6 f6 g6 a7 d7 e7 f7 g7 a8 d8 e8 f8 g8
  have hF2 := HF.out.mono hBx1.size
  refine (toGuard_any x.gd U1 _ [] ⟨rfl, rfl⟩ (Under.nil _) (by simp [Gd.size])).mono ?_
  rintro e V2 ⟨cs2, G2, rfl, hb2, hv2, hfr2, hfs2⟩
  obtain ⟨rfl, rfl⟩ := hv2
  have hbz2 := hb2.size
  have m0 := b0.same (hb2.block _ b0.lt)
  have m1 := b1.same (hb2.block _ b1.lt)
  have m2 := b2.same (hb2.block _ b2.lt)
  clear b0 b1 b2
  have b0 := m0
  have b1 := m1
  have b2 := m2
  clear m0 m1 m2
  have hB5 := hBx1.trans (hb2.mono hBx1.size)
  have a0 : V2.cell? ⟨w.heap.size, 0, none⟩ = some (.int .i64 x.pat.op) := (b0.cell 0).trans (by simp)
  have d0 : V2.cell? ⟨w.heap.size + 1, 0, none⟩ = some (.int .i64 0) := (b1.cell 0).trans (by simp)
  have f0 := b1.frozen 0
  have e0 : V2.cell? ⟨w.heap.size + 2, 0, none⟩ = some (.int .i64 x.pat.op) := (b2.cell 0).trans (by simp)
  have g0 := b2.frozen 0
  have a1 : V2.cell? ⟨w.heap.size, 1, none⟩ = some (.int .i64 x.pat.ct) := (b0.cell 1).trans (by simp)
  have d1 : V2.cell? ⟨w.heap.size + 1, 1, none⟩ = some (.int .i64 0) := (b1.cell 1).trans (by simp)
  have f1 := b1.frozen 1
  have e1 : V2.cell? ⟨w.heap.size + 2, 1, none⟩ = some (.int .i64 x.pat.ct) := (b2.cell 1).trans (by simp)
  have g1 := b2.frozen 1
  have a2 : V2.cell? ⟨w.heap.size, 2, none⟩ = some (.int .i64 x.pat.n) := (b0.cell 2).trans (by simp)
  have d2 : V2.cell? ⟨w.heap.size + 1, 2, none⟩ = some (.int .i64 0) := (b1.cell 2).trans (by simp)
  have f2 := b1.frozen 2
  have e2 : V2.cell? ⟨w.heap.size + 2, 2, none⟩ = some (.int .i64 x.pat.n) := (b2.cell 2).trans (by simp)
  have g2 := b2.frozen 2
  have a3 : V2.cell? ⟨w.heap.size, 3, none⟩ = some (.int .i64 x.pat.m) := (b0.cell 3).trans (by simp)
  have d3 : V2.cell? ⟨w.heap.size + 1, 3, none⟩ = some (.int .i64 0) := (b1.cell 3).trans (by simp)
  have f3 := b1.frozen 3
  have e3 : V2.cell? ⟨w.heap.size + 2, 3, none⟩ = some (.int .i64 x.pat.m) := (b2.cell 3).trans (by simp)
  have g3 := b2.frozen 3
  have a4 : V2.cell? ⟨w.heap.size, 4, none⟩ = some (.int .i64 x.pat.va) := (b0.cell 4).trans (by simp)
  have d4 : V2.cell? ⟨w.heap.size + 1, 4, none⟩ = some (.int .i64 0) := (b1.cell 4).trans (by simp)
  have f4 := b1.frozen 4
  have e4 : V2.cell? ⟨w.heap.size + 2, 4, none⟩ = some (.int .i64 x.pat.va) := (b2.cell 4).trans (by simp)
  have g4 := b2.frozen 4
  have a5 : V2.cell? ⟨w.heap.size, 5, none⟩ = some (.slice A x.pat.ks.length cap) := (b0.cell 5).trans (by simp)
  have d5 : V2.cell? ⟨w.heap.size + 1, 5, none⟩ = some (.slice none 0 0) := (b1.cell 5).trans (by simp)
  have f5 := b1.frozen 5
  have e5 : V2.cell? ⟨w.heap.size + 2, 5, none⟩ = some (.slice A1 x.pat.ks.length cap1) := (b2.cell 5).trans (by simp)
  have g5 := b2.frozen 5
  have a6 : V2.cell? ⟨w.heap.size, 6, none⟩ = some (.int .i64 x.gd.op) := (b0.cell 6).trans (by simp)
  have d6 : V2.cell? ⟨w.heap.size + 1, 6, none⟩ = some (.int .i64 0) := (b1.cell 6).trans (by simp)
  have f6 := b1.frozen 6
  have e6 : V2.cell? ⟨w.heap.size + 2, 6, none⟩ = some (.int .i64 0) := (b2.cell 6).trans (by simp)
  have g6 := b2.frozen 6
  have a7 : V2.cell? ⟨w.heap.size, 7, none⟩ = some (.int .i64 x.gd.va) := (b0.cell 7).trans (by simp)
  have d7 : V2.cell? ⟨w.heap.size + 1, 7, none⟩ = some (.int .i64 0) := (b1.cell 7).trans (by simp)
  have f7 := b1.frozen 7
  have e7 : V2.cell? ⟨w.heap.size + 2, 7, none⟩ = some (.int .i64 0) := (b2.cell 7).trans (by simp)
  have g7 := b2.frozen 7
  have a8 : V2.cell? ⟨w.heap.size, 8, none⟩ = some (.int .i64 x.gd.n) := (b0.cell 8).trans (by simp)
  have d8 : V2.cell? ⟨w.heap.size + 1, 8, none⟩ = some (.int .i64 0) := (b1.cell 8).trans (by simp)
  have f8 := b1.frozen 8
  have e8 : V2.cell? ⟨w.heap.size + 2, 8, none⟩ = some (.int .i64 0) := (b2.cell 8).trans (by simp)
  have g8 := b2.frozen 8
  have hkq1 : Kept G1 _ V2 := .of_below hb2 hfs1.under
  have hvq1 := PR.mono _ _ _ hkq1 hv1
  have hfrq1 := hfr1.kept hkq1
  have hfsq1 : Fresh W3 V2 G1 := fun b hb => ⟨(hfs1 b hb).1, Nat.lt_of_lt_of_le (hfs1 b hb).2 hb2.size⟩
  clear hv1 hfr1 hfs1 hkq1
  have hv1 := hvq1
  have hfr1 := hfrq1
  have hfs1 := hfsq1
  clear hvq1 hfrq1 hfsq1
  have HV1 := Lib.hid hv1
  have HFr1 := Lib.hid hfr1
  have HFs1 := Lib.hid hfs1
  clear hv1 hfr1 hfs1
  clear b0 b1 b2
  go_wp2
  refine bodyPost_ret (v := .agg #[.int .i64 x.pat.op, .int .i64 x.pat.ct, .int .i64 x.pat.n, .int .i64 x.pat.m, .int .i64 x.pat.va, .slice A1 x.pat.ks.length cap1, .int .i64 x.gd.op, .int .i64 x.gd.va, .int .i64 x.gd.n]) (by simp [results, Try.results45, go_sem, d0, d1, d2, d3, d4, d5, d6, d7, d8]) rfl ?_
  have hkeep : Kept G1 V2 ((((((((((((V2.setCell ⟨w.heap.size + 1 + 1, 6, none⟩ (.int .i64 x.gd.op)).setCell ⟨w.heap.size + 1 + 1, 7, none⟩ (.int .i64 x.gd.va)).setCell ⟨w.heap.size + 1 + 1, 8, none⟩ (.int .i64 x.gd.n)).setCell ⟨w.heap.size + 1, 0, none⟩ (.int .i64 x.pat.op)).setCell ⟨w.heap.size + 1, 1, none⟩ (.int .i64 x.pat.ct)).setCell ⟨w.heap.size + 1, 2, none⟩ (.int .i64 x.pat.n)).setCell ⟨w.heap.size + 1, 3, none⟩ (.int .i64 x.pat.m)).setCell ⟨w.heap.size + 1, 4, none⟩ (.int .i64 x.pat.va)).setCell ⟨w.heap.size + 1, 5, none⟩ (.slice A1 x.pat.ks.length cap1)).setCell ⟨w.heap.size + 1, 6, none⟩ (.int .i64 x.gd.op)).setCell ⟨w.heap.size + 1, 7, none⟩ (.int .i64 x.gd.va)).setCell ⟨w.heap.size + 1, 8, none⟩ (.int .i64 x.gd.n)) := fun b hb => by
    have h1 := (HFs1.out b hb).1
    rw [Below.heap_setCell _ _ _ _ (by simp; omega), Below.heap_setCell _ _ _ _ (by simp; omega), Below.heap_setCell _ _ _ _ (by simp; omega), Below.heap_setCell _ _ _ _ (by simp; omega), Below.heap_setCell _ _ _ _ (by simp; omega), Below.heap_setCell _ _ _ _ (by simp; omega), Below.heap_setCell _ _ _ _ (by simp; omega), Below.heap_setCell _ _ _ _ (by simp; omega), Below.heap_setCell _ _ _ _ (by simp; omega), Below.heap_setCell _ _ _ _ (by simp; omega), Below.heap_setCell _ _ _ _ (by simp; omega), Below.heap_setCell _ _ _ _ (by simp; omega)]
  exact ⟨[.int .i64 x.pat.op, .int .i64 x.pat.ct, .int .i64 x.pat.n, .int .i64 x.pat.m, .int .i64 x.pat.va, .slice A1 x.pat.ks.length cap1, .int .i64 x.gd.op, .int .i64 x.gd.va, .int .i64 x.gd.n], G1, rfl, ((((((((((((hB5.setCell (by simp; omega) _).setCell (by simp; omega) _).setCell (by simp; omega) _).setCell (by simp) _).setCell (by simp) _).setCell (by simp) _).setCell (by simp) _).setCell (by simp) _).setCell (by simp) _).setCell (by simp) _).setCell (by simp) _).setCell (by simp) _), ⟨_, rfl, PR.mono _ _ _ hkeep HV1.out⟩, HFr1.out.kept hkeep, fun b hb => ⟨by have := (HFs1.out b hb).1; omega, by simpa [World.setCell] using (HFs1.out b hb).2⟩⟩
end Go.Proofs.Ytjejbdbfjiocoaa
