/-
  Lemmas and contracts of functions: Guards as Lean data, and how they lie in memory. Conditions: none. Clauses as Lean data, and how they lie in memory. Conditions: none. Contract of szClause. Conditions: the bound is between 0 and 1048576. Contract of toGuard (a deep copy). Conditions: no more than 1048576 parts. Contract of toClause (a deep copy). Conditions: no more than 1048576 parts. Contract of eqGuard at equal arguments. Conditions: both stand for the same. Contract of eqClause at equal arguments. Conditions: both stand for the same. Types of arguments in plain Lean: they are valid; what they keep of what the world says. Conditions: none. What a clause is, in plain Lean. Conditions: none. The tests of a guard of both. Conditions: none. ClauseValid of both. Conditions: no more than a million nodes. A Guard that comes in as an argument lies in memory as the plain data say. Conditions: none. A Clause that comes in as an argument lies in memory as the plain data say. Conditions: none.
-/
import Derived.Test.YtbffkgfhcmigaaaKAA
import Derived.Test.YtbffkgfhcmigaaaChecked
import Derived.Test.YtbffkgfhcmigaaaKAB
import Derived.Test.YtbffkgfhcmigaaaKAC
import Derived.Test.YtbffkgfhcmigaaaKAF
import Derived.Test.YtbffkgfhcmigaaaKAE
import Derived.Test.YtbffkgfhcmigaaaKAG
import Derived.Deep.RegionHeld3
import Derived.Deep.RegionWith
import Derived.Deep.QuietTactic
import Derived.BigQuiet
import Derived.IntWalk
import Derived.Test.YtbffkgfhcmigaaaKAH

set_option linter.unusedVariables false
set_option linter.unusedSimpArgs false

namespace Go.Proofs.Ytbffkgfhcmigaaa
open Go.RowKit

@[ext] structure Gd where
  op : Int
  va : Int
  n : Int

def Gd.size (x : Gd) : Nat := 0
def Gd.sizes (l : List Gd) : Nat := l.length + sumBy Gd.size l
def GdR (w : World) (x : Gd) (cs : List Value) (F : List Nat) : Prop := cs = [.int .i64 x.op] ++ [.int .i64 x.va] ++ [.int .i64 x.n] ∧ F = []
theorem GdR_form {w : World} {x : Gd} {cs : List Value} {F : List Nat} (h : GdR w x cs F) : cs = [.int .i64 x.op, .int .i64 x.va, .int .i64 x.n] := h.1
theorem GdR_len {w : World} (x : Gd) (cs : List Value) (F : List Nat) (h : GdR w x cs F) : cs.length = 3 := by
  obtain ⟨rfl, -⟩ := h
  rfl
theorem GdR.mono {w w' : World} (x : Gd) (cs : List Value) (F : List Nat) (_hF : Kept F w w') (h : GdR w x cs F) : GdR w' x cs F := h
theorem GdR.mk0 (w : World) (x : Gd) : GdR w x [.int .i64 x.op, .int .i64 x.va, .int .i64 x.n] [] := ⟨rfl, rfl⟩
theorem Gd.size_le (x : Gd) : x.size ≤ 1048576 := Nat.zero_le _
theorem GdR.below {w w' : World} {B : Nat} {v : Gd} {cs : List Value} {F : List Nat} (h : GdR w v cs F) (hb : Below B w w') (hF : Under B F) : GdR w' v cs F := GdR.mono v cs F (.of_below hb hF) h
theorem GdR.drew {w : World} {v : Gd} {cs : List Value} {F : List Nat} (h : GdR w v cs F) : GdR w.drew v cs F := GdR.mono (w := w) v cs F (fun _ _ => rfl) h
theorem ArrGd.mono {w w' : World} {vs : List Gd} {x : Value} {F : List Nat} (h : Arr w (GdR w) vs x F) (hF : Kept F w w') : Arr w' (GdR w') vs x F := h.mono hF fun v _ => GdR.mono v
theorem ArrGd.below {w w' : World} {B : Nat} {vs : List Gd} {x : Value} {F : List Nat} (h : Arr w (GdR w) vs x F) (hb : Below B w w') (hF : Under B F) : Arr w' (GdR w') vs x F := ArrGd.mono h (.of_below hb hF)
theorem ArrGd.drew {w : World} {vs : List Gd} {x : Value} {F : List Nat} (h : Arr w (GdR w) vs x F) : Arr w.drew (GdR w.drew) vs x F := ArrGd.mono (w := w) h (fun _ _ => rfl)
end Go.Proofs.Ytbffkgfhcmigaaa

namespace Go.Proofs.Ytbffkgfhcmigaaa
open Go.RowKit

@[ext] structure Cl where
  pat : P
  gd : Gd

def Cl.size (x : Cl) : Nat := x.pat.size
def Cl.sizes (l : List Cl) : Nat := l.length + sumBy Cl.size l
def ClR (w : World) (x : Cl) (cs : List Value) (F : List Nat) : Prop := ∃ ds : List Value, cs = ds ++ [.int .i64 x.gd.op, .int .i64 x.gd.va, .int .i64 x.gd.n] ∧ PR w x.pat ds F
theorem ClR_form {w : World} {x : Cl} {cs : List Value} {F : List Nat} (h : ClR w x cs F) : ∃ A cap, cs = [.int .i64 x.pat.op, .int .i64 x.pat.ct, .int .i64 x.pat.n, .int .i64 x.pat.m, .int .i64 x.pat.va, .slice A x.pat.ks.length cap, .int .i64 x.gd.op, .int .i64 x.gd.va, .int .i64 x.gd.n] := by
  obtain ⟨ds, rfl, ha⟩ := h
  obtain ⟨kv, rfl, ha2⟩ := (PR_iff _ _ _).1 ha
  obtain ⟨A, cap, rfl, -, -⟩ := ha2.form
  exact ⟨A, cap, rfl⟩
theorem ClR_len {w : World} (x : Cl) (cs : List Value) (F : List Nat) (h : ClR w x cs F) : cs.length = 9 := by
  obtain ⟨A, cap, rfl⟩ := ClR_form h
  rfl
theorem ClR.mono {w w' : World} (x : Cl) (cs : List Value) (F : List Nat) (hF : Kept F w w') (h : ClR w x cs F) : ClR w' x cs F := by
  obtain ⟨ds, e, ha⟩ := h
  exact ⟨_, e, PR.mono _ _ _ hF ha⟩
theorem ClR.below {w w' : World} {B : Nat} {v : Cl} {cs : List Value} {F : List Nat} (h : ClR w v cs F) (hb : Below B w w') (hF : Under B F) : ClR w' v cs F := ClR.mono v cs F (.of_below hb hF) h
theorem ClR.drew {w : World} {v : Cl} {cs : List Value} {F : List Nat} (h : ClR w v cs F) : ClR w.drew v cs F := ClR.mono (w := w) v cs F (fun _ _ => rfl) h
theorem ArrCl.mono {w w' : World} {vs : List Cl} {x : Value} {F : List Nat} (h : Arr w (ClR w) vs x F) (hF : Kept F w w') : Arr w' (ClR w') vs x F := h.mono hF fun v _ => ClR.mono v
theorem ArrCl.below {w w' : World} {B : Nat} {vs : List Cl} {x : Value} {F : List Nat} (h : Arr w (ClR w) vs x F) (hb : Below B w w') (hF : Under B F) : Arr w' (ClR w') vs x F := ArrCl.mono h (.of_below hb hF)
theorem ArrCl.drew {w : World} {vs : List Cl} {x : Value} {F : List Nat} (h : Arr w (ClR w) vs x F) : Arr w.drew (ClR w.drew) vs x F := ArrCl.mono (w := w) h (fun _ _ => rfl)
end Go.Proofs.Ytbffkgfhcmigaaa

namespace Go.Proofs.Ytbffkgfhcmigaaa
open Go.RowKit

set_option maxHeartbeats 400000 in
theorem szClause_any (x : Cl) (w : World) (cs : List Value) (F : List Nat) (left : Int) (hv : ClR w x cs F) (hF : Under w.heap.size F) (h0 : 0 ≤ left) (h1 : left ≤ 1048576) :
    Calls Try.prog 36 #[.agg cs.toArray, .int .i64 left] w fun e w' => e = .returned (.int .i64 (szLeft x.size left)) ∧ Below w.heap.size w w' := by
  obtain ⟨kv, rfl, ha⟩ := hv
  have HA := Lib.hid ha
  obtain ⟨kw, rfl, ha2⟩ := (PR_iff _ _ _).1 ha
  obtain ⟨A, cap, rfl, -, -⟩ := ha2.form
  clear ha ha2
  have HF := Lib.hid hF
  clear hF
  go_enter Try.func36, Try.ntmps36
  go_wp2_with fail
  have hB1 := (Below.refl w.heap.size w).alloc (Nat.le_refl _) (.cells #[.int .i64 x.pat.op, .int .i64 x.pat.ct, .int .i64 x.pat.n, .int .i64 x.pat.m, .int .i64 x.pat.va, .slice A x.pat.ks.length cap, .int .i64 x.gd.op, .int .i64 x.gd.va, .int .i64 x.gd.n] 63)
  refine (szPattern_any x.pat _ _ F left (HA.out.below hB1 HF.out) (HF.out.mono hB1.size) (by omega) (by omega)).mono ?_
  rintro e w' ⟨rfl, hB⟩
  have hB2 := hB1.trans (hB.mono hB1.size)
  have hf : Hid (szLeft x.size left = szLeft (x.pat.size) left) := rfl
  have hneg : szLeft (x.pat.size) left < 0 → szLeft (x.pat.size) left = -1 := by unfold szLeft; split <;> omega
  clear hB
  generalize szLeft (x.pat.size) left = m at *
  by_cases hm : m < 0
  · obtain rfl := hneg hm
    go_wp2
    go_ret
    exact ⟨ret_int hf.out.symm, hB2⟩
  · go_wp2
    go_ret
    exact ⟨ret_int hf.out.symm, hB2⟩
end Go.Proofs.Ytbffkgfhcmigaaa

namespace Go.Proofs.Ytbffkgfhcmigaaa
open Go.RowKit

def MadeGd (w : World) (v : Gd) (e : Ending) (w' : World) : Prop := ∃ (cs : List Value) (F : List Nat), e = .returned (.agg cs.toArray) ∧ Below w.heap.size w w' ∧ GdR w' v cs F ∧ Free w' F ∧ Fresh w w' F

set_option maxHeartbeats 400000 in
theorem toGuard_any (x : Gd) (w : World) (cs : List Value) (F : List Nat) (hv : GdR w x cs F) (hF : Under w.heap.size F) (hz : x.size ≤ 1048576) : Calls Try.prog 98 #[.agg cs.toArray] w (MadeGd w x) := by
  obtain rfl := GdR_form hv
  clear hF hz hv
  go_enter Try.func98, Try.ntmps98
  go_wp2
  refine bodyPost_ret (v := .agg #[.int .i64 x.op, .int .i64 x.va, .int .i64 x.n]) (by simp [results, Try.results98, go_sem]) rfl ?_
  exact ⟨[.int .i64 x.op, .int .i64 x.va, .int .i64 x.n], [], rfl, by repeat (first | exact Below.refl _ _ | refine Below.alloc ?_ (by simp <;> omega) _ | refine Below.setCell ?_ (by simp <;> omega) _), ⟨rfl, rfl⟩, Free.nil _, Fresh.nil _ _⟩
end Go.Proofs.Ytbffkgfhcmigaaa

namespace Go.Proofs.Ytbffkgfhcmigaaa
open Go.RowKit

def MadeCl (w : World) (v : Cl) (e : Ending) (w' : World) : Prop := ∃ (cs : List Value) (F : List Nat), e = .returned (.agg cs.toArray) ∧ Below w.heap.size w w' ∧ ClR w' v cs F ∧ Free w' F ∧ Fresh w w' F

set_option maxHeartbeats 400000 in
theorem toClause_any (x : Cl) (w : World) (cs : List Value) (F : List Nat) (hv : ClR w x cs F) (hF : Under w.heap.size F) (hz : x.size ≤ 1048576) : Calls Try.prog 38 #[.agg cs.toArray] w (MadeCl w x) := by
  obtain ⟨kv, rfl, ha⟩ := hv
  have HA := Lib.hid ha
  obtain ⟨kw, rfl, ha2⟩ := (PR_iff _ _ _).1 ha
  obtain ⟨A, cap, rfl, -, -⟩ := ha2.form
  clear ha ha2
  have HF := Lib.hid hF
  clear hF
  have HZ := Lib.hid hz
  clear hz
  go_enter Try.func38, Try.ntmps38
  go_wp2_with fail
  obtain ⟨W3, hW3⟩ : ∃ W3, W3 = (((w.alloc (.cells #[.int .i64 x.pat.op, .int .i64 x.pat.ct, .int .i64 x.pat.n, .int .i64 x.pat.m, .int .i64 x.pat.va, .slice A x.pat.ks.length cap, .int .i64 x.gd.op, .int .i64 x.gd.va, .int .i64 x.gd.n] 63)).alloc (.cells #[.int .i64 0, .int .i64 0, .int .i64 0, .int .i64 0, .int .i64 0, .slice none 0 0, .int .i64 0, .int .i64 0, .int .i64 0] 68)).alloc (.cells #[.int .i64 0, .int .i64 0, .int .i64 0, .int .i64 0, .int .i64 0, .slice none 0 0, .int .i64 0, .int .i64 0, .int .i64 0] 68)) := ⟨_, rfl⟩
  have hB3 : Below w.heap.size w W3 := by rw [hW3]; exact (((Below.refl _ _).alloc (Nat.le_refl _) _).alloc (by simp) _).alloc (by simp; omega) _
  have hsz : w.heap.size + 3 ≤ W3.heap.size := by rw [hW3]; simp
  have b0 : Blk W3 w.heap.size 63 #[.int .i64 x.pat.op, .int .i64 x.pat.ct, .int .i64 x.pat.n, .int .i64 x.pat.m, .int .i64 x.pat.va, .slice A x.pat.ks.length cap, .int .i64 x.gd.op, .int .i64 x.gd.va, .int .i64 x.gd.n] := by
    rw [hW3]
    exact ((Blk.new w 63 #[.int .i64 x.pat.op, .int .i64 x.pat.ct, .int .i64 x.pat.n, .int .i64 x.pat.m, .int .i64 x.pat.va, .slice A x.pat.ks.length cap, .int .i64 x.gd.op, .int .i64 x.gd.va, .int .i64 x.gd.n]).same (Below.heap_alloc _ _ _ (by simp))).same (Below.heap_alloc _ _ _ (by simp; omega))
  have b1 : Blk W3 (w.heap.size + 1) 68 #[.int .i64 0, .int .i64 0, .int .i64 0, .int .i64 0, .int .i64 0, .slice none 0 0, .int .i64 0, .int .i64 0, .int .i64 0] := by
    rw [hW3]
    have := Blk.new (w.alloc (.cells #[.int .i64 x.pat.op, .int .i64 x.pat.ct, .int .i64 x.pat.n, .int .i64 x.pat.m, .int .i64 x.pat.va, .slice A x.pat.ks.length cap, .int .i64 x.gd.op, .int .i64 x.gd.va, .int .i64 x.gd.n] 63)) 68 #[.int .i64 0, .int .i64 0, .int .i64 0, .int .i64 0, .int .i64 0, .slice none 0 0, .int .i64 0, .int .i64 0, .int .i64 0]
    rw [World.size_alloc] at this
    exact this.same (Below.heap_alloc _ _ _ (by simp))
  have b2 : Blk W3 (w.heap.size + 2) 68 #[.int .i64 0, .int .i64 0, .int .i64 0, .int .i64 0, .int .i64 0, .slice none 0 0, .int .i64 0, .int .i64 0, .int .i64 0] := by
    rw [hW3]
    have := Blk.new ((w.alloc (.cells #[.int .i64 x.pat.op, .int .i64 x.pat.ct, .int .i64 x.pat.n, .int .i64 x.pat.m, .int .i64 x.pat.va, .slice A x.pat.ks.length cap, .int .i64 x.gd.op, .int .i64 x.gd.va, .int .i64 x.gd.n] 63)).alloc (.cells #[.int .i64 0, .int .i64 0, .int .i64 0, .int .i64 0, .int .i64 0, .slice none 0 0, .int .i64 0, .int .i64 0, .int .i64 0] 68)) 68 #[.int .i64 0, .int .i64 0, .int .i64 0, .int .i64 0, .int .i64 0, .slice none 0 0, .int .i64 0, .int .i64 0, .int .i64 0]
    simpa using this
  rw [← hW3]
  clear hW3
  have hF1 := HF.out.mono hB3.size
  refine (toPattern_any x.pat W3 _ F (HA.out.below hB3 HF.out) hF1 (by have := HZ.out; unfold Cl.size at this; omega)).mono ?_
  rintro e V1 ⟨cs1, G1, rfl, hb1, hv1, hfr1, hfs1⟩
  obtain ⟨kw1, rfl, hw1⟩ := (PR_iff _ _ _).1 hv1
  obtain ⟨A1, cap1, rfl, -, -⟩ := hw1.form
  clear hw1
  have hbz1 := hb1.size
  have m0 := b0.same (hb1.block _ b0.lt)
  have m1 := b1.same (hb1.block _ b1.lt)
  have m2 := b2.same (hb1.block _ b2.lt)
  clear b0 b1 b2
  have b0 := m0
  have b1 := m1
  have b2 := m2
  clear m0 m1 m2
  have hB4 := hB3.trans (hb1.mono hB3.size)
  have a0 : V1.cell? ⟨w.heap.size, 0, none⟩ = some (.int .i64 x.pat.op) := (b0.cell 0).trans (by simp)
  have d0 : V1.cell? ⟨w.heap.size + 1, 0, none⟩ = some (.int .i64 0) := (b1.cell 0).trans (by simp)
  have f0 := b1.frozen 0
  have e0 : V1.cell? ⟨w.heap.size + 2, 0, none⟩ = some (.int .i64 0) := (b2.cell 0).trans (by simp)
  have g0 := b2.frozen 0
  have a1 : V1.cell? ⟨w.heap.size, 1, none⟩ = some (.int .i64 x.pat.ct) := (b0.cell 1).trans (by simp)
  have d1 : V1.cell? ⟨w.heap.size + 1, 1, none⟩ = some (.int .i64 0) := (b1.cell 1).trans (by simp)
  have f1 := b1.frozen 1
  have e1 : V1.cell? ⟨w.heap.size + 2, 1, none⟩ = some (.int .i64 0) := (b2.cell 1).trans (by simp)
  have g1 := b2.frozen 1
  have a2 : V1.cell? ⟨w.heap.size, 2, none⟩ = some (.int .i64 x.pat.n) := (b0.cell 2).trans (by simp)
  have d2 : V1.cell? ⟨w.heap.size + 1, 2, none⟩ = some (.int .i64 0) := (b1.cell 2).trans (by simp)
  have f2 := b1.frozen 2
  have e2 : V1.cell? ⟨w.heap.size + 2, 2, none⟩ = some (.int .i64 0) := (b2.cell 2).trans (by simp)
  have g2 := b2.frozen 2
  have a3 : V1.cell? ⟨w.heap.size, 3, none⟩ = some (.int .i64 x.pat.m) := (b0.cell 3).trans (by simp)
  have d3 : V1.cell? ⟨w.heap.size + 1, 3, none⟩ = some (.int .i64 0) := (b1.cell 3).trans (by simp)
  have f3 := b1.frozen 3
  have e3 : V1.cell? ⟨w.heap.size + 2, 3, none⟩ = some (.int .i64 0) := (b2.cell 3).trans (by simp)
  have g3 := b2.frozen 3
  have a4 : V1.cell? ⟨w.heap.size, 4, none⟩ = some (.int .i64 x.pat.va) := (b0.cell 4).trans (by simp)
  have d4 : V1.cell? ⟨w.heap.size + 1, 4, none⟩ = some (.int .i64 0) := (b1.cell 4).trans (by simp)
  have f4 := b1.frozen 4
  have e4 : V1.cell? ⟨w.heap.size + 2, 4, none⟩ = some (.int .i64 0) := (b2.cell 4).trans (by simp)
  have g4 := b2.frozen 4
  have a5 : V1.cell? ⟨w.heap.size, 5, none⟩ = some (.slice A x.pat.ks.length cap) := (b0.cell 5).trans (by simp)
  have d5 : V1.cell? ⟨w.heap.size + 1, 5, none⟩ = some (.slice none 0 0) := (b1.cell 5).trans (by simp)
  have f5 := b1.frozen 5
  have e5 : V1.cell? ⟨w.heap.size + 2, 5, none⟩ = some (.slice none 0 0) := (b2.cell 5).trans (by simp)
  have g5 := b2.frozen 5
  have a6 : V1.cell? ⟨w.heap.size, 6, none⟩ = some (.int .i64 x.gd.op) := (b0.cell 6).trans (by simp)
  have d6 : V1.cell? ⟨w.heap.size + 1, 6, none⟩ = some (.int .i64 0) := (b1.cell 6).trans (by simp)
  have f6 := b1.frozen 6
  have e6 : V1.cell? ⟨w.heap.size + 2, 6, none⟩ = some (.int .i64 0) := (b2.cell 6).trans (by simp)
  have g6 := b2.frozen 6
  have a7 : V1.cell? ⟨w.heap.size, 7, none⟩ = some (.int .i64 x.gd.va) := (b0.cell 7).trans (by simp)
  have d7 : V1.cell? ⟨w.heap.size + 1, 7, none⟩ = some (.int .i64 0) := (b1.cell 7).trans (by simp)
  have f7 := b1.frozen 7
  have e7 : V1.cell? ⟨w.heap.size + 2, 7, none⟩ = some (.int .i64 0) := (b2.cell 7).trans (by simp)
  have g7 := b2.frozen 7
  have a8 : V1.cell? ⟨w.heap.size, 8, none⟩ = some (.int .i64 x.gd.n) := (b0.cell 8).trans (by simp)
  have d8 : V1.cell? ⟨w.heap.size + 1, 8, none⟩ = some (.int .i64 0) := (b1.cell 8).trans (by simp)
  have f8 := b1.frozen 8
  have e8 : V1.cell? ⟨w.heap.size + 2, 8, none⟩ = some (.int .i64 0) := (b2.cell 8).trans (by simp)
  have g8 := b2.frozen 8
  have HV1 := Lib.hid hv1
  have HFr1 := Lib.hid hfr1
  have HFs1 := Lib.hid hfs1
  clear hv1 hfr1 hfs1
  have B0 := Lib.hid b0
  have B1 := Lib.hid b1
  have B2 := Lib.hid b2
  clear b0 b1 b2 hb1
  go_wp2_with fail
  obtain ⟨U1, hWx⟩ : ∃ X, X = ((((((V1.setCell ⟨w.heap.size + 1 + 1, 0, none⟩ (.int .i64 x.pat.op)).setCell ⟨w.heap.size + 1 + 1, 1, none⟩ (.int .i64 x.pat.ct)).setCell ⟨w.heap.size + 1 + 1, 2, none⟩ (.int .i64 x.pat.n)).setCell ⟨w.heap.size + 1 + 1, 3, none⟩ (.int .i64 x.pat.m)).setCell ⟨w.heap.size + 1 + 1, 4, none⟩ (.int .i64 x.pat.va)).setCell ⟨w.heap.size + 1 + 1, 5, none⟩ (.slice A1 x.pat.ks.length cap1)) := ⟨_, rfl⟩
  have hBx1 : Below w.heap.size w U1 := by rw [hWx]; exact ((((((hB4.setCell (by simp; omega) _).setCell (by simp; omega) _).setCell (by simp; omega) _).setCell (by simp; omega) _).setCell (by simp; omega) _).setCell (by simp; omega) _)
  have b2 : Blk U1 (w.heap.size + 2) 68 #[.int .i64 x.pat.op, .int .i64 x.pat.ct, .int .i64 x.pat.n, .int .i64 x.pat.m, .int .i64 x.pat.va, .slice A1 x.pat.ks.length cap1, .int .i64 0, .int .i64 0, .int .i64 0] := by rw [hWx]; exact (Blk.set_ (Blk.set_ (Blk.set_ (Blk.set_ (Blk.set_ (Blk.set_ B2.out 0 _) 1 _) 2 _) 3 _) 4 _) 5 _)
  have b1 : Blk U1 (w.heap.size + 1) 68 #[.int .i64 0, .int .i64 0, .int .i64 0, .int .i64 0, .int .i64 0, .slice none 0 0, .int .i64 0, .int .i64 0, .int .i64 0] := by rw [hWx]; exact B1.out.same (by rw [Below.heap_setCell _ _ _ _ (by simp <;> omega), Below.heap_setCell _ _ _ _ (by simp <;> omega), Below.heap_setCell _ _ _ _ (by simp <;> omega), Below.heap_setCell _ _ _ _ (by simp <;> omega), Below.heap_setCell _ _ _ _ (by simp <;> omega), Below.heap_setCell _ _ _ _ (by simp <;> omega)])
  have b0 : Blk U1 w.heap.size 63 #[.int .i64 x.pat.op, .int .i64 x.pat.ct, .int .i64 x.pat.n, .int .i64 x.pat.m, .int .i64 x.pat.va, .slice A x.pat.ks.length cap, .int .i64 x.gd.op, .int .i64 x.gd.va, .int .i64 x.gd.n] := by rw [hWx]; exact B0.out.same (by rw [Below.heap_setCell _ _ _ _ (by simp <;> omega), Below.heap_setCell _ _ _ _ (by simp <;> omega), Below.heap_setCell _ _ _ _ (by simp <;> omega), Below.heap_setCell _ _ _ _ (by simp <;> omega), Below.heap_setCell _ _ _ _ (by simp <;> omega), Below.heap_setCell _ _ _ _ (by simp <;> omega)])
  have hkp1 : Kept G1 V1 U1 := fun b hb => by
    have h1 := (HFs1.out b hb).1
    rw [hWx, Below.heap_setCell _ _ _ _ (by simp; omega), Below.heap_setCell _ _ _ _ (by simp; omega), Below.heap_setCell _ _ _ _ (by simp; omega), Below.heap_setCell _ _ _ _ (by simp; omega), Below.heap_setCell _ _ _ _ (by simp; omega), Below.heap_setCell _ _ _ _ (by simp; omega)]
  have hv1 := PR.mono _ _ _ hkp1 HV1.out
  have hfr1 := HFr1.out.kept hkp1
  have hfs1 : Fresh W3 U1 G1 := fun b hb => ⟨(HFs1.out b hb).1, by rw [hWx]; simpa [World.setCell] using (HFs1.out b hb).2⟩
  have hWz : V1.heap.size ≤ U1.heap.size := by rw [hWx]; simp [World.setCell]
  rw [← hWx]
  clear hWx B0 B1 B2 hkp1 HV1 HFr1 HFs1
  clear a0 d0 e0 f0 g0 a1 d1 e1 f1 g1 a2 d2 e2 f2 g2 a3 d3 e3 f3 g3 a4 d4 e4 f4 g4 a5 d5 e5 f5 g5 a6 d6 e6 f6 g6 a7 d7 e7 f7 g7 a8 d8 e8 f8 g8
  have hF2 := HF.out.mono hBx1.size
  refine (toGuard_any x.gd U1 _ [] ⟨rfl, rfl⟩ (Under.nil _) (by simp [Gd.size])).mono ?_
  rintro e V2 ⟨cs2, G2, rfl, hb2, hv2, hfr2, hfs2⟩
  obtain ⟨rfl, rfl⟩ := hv2
  have hbz2 := hb2.size
  have m0 := b0.same (hb2.block _ b0.lt)
  have m1 := b1.same (hb2.block _ b1.lt)
  have m2 := b2.same (hb2.block _ b2.lt)
  clear b0 b1 b2
  have b0 := m0
  have b1 := m1
  have b2 := m2
  clear m0 m1 m2
  have hB5 := hBx1.trans (hb2.mono hBx1.size)
  have a0 : V2.cell? ⟨w.heap.size, 0, none⟩ = some (.int .i64 x.pat.op) := (b0.cell 0).trans (by simp)
  have d0 : V2.cell? ⟨w.heap.size + 1, 0, none⟩ = some (.int .i64 0) := (b1.cell 0).trans (by simp)
  have f0 := b1.frozen 0
  have e0 : V2.cell? ⟨w.heap.size + 2, 0, none⟩ = some (.int .i64 x.pat.op) := (b2.cell 0).trans (by simp)
  have g0 := b2.frozen 0
  have a1 : V2.cell? ⟨w.heap.size, 1, none⟩ = some (.int .i64 x.pat.ct) := (b0.cell 1).trans (by simp)
  have d1 : V2.cell? ⟨w.heap.size + 1, 1, none⟩ = some (.int .i64 0) := (b1.cell 1).trans (by simp)
  have f1 := b1.frozen 1
  have e1 : V2.cell? ⟨w.heap.size + 2, 1, none⟩ = some (.int .i64 x.pat.ct) := (b2.cell 1).trans (by simp)
  have g1 := b2.frozen 1
  have a2 : V2.cell? ⟨w.heap.size, 2, none⟩ = some (.int .i64 x.pat.n) := (b0.cell 2).trans (by simp)
  have d2 : V2.cell? ⟨w.heap.size + 1, 2, none⟩ = some (.int .i64 0) := (b1.cell 2).trans (by simp)
  have f2 := b1.frozen 2
  have e2 : V2.cell? ⟨w.heap.size + 2, 2, none⟩ = some (.int .i64 x.pat.n) := (b2.cell 2).trans (by simp)
  have g2 := b2.frozen 2
  have a3 : V2.cell? ⟨w.heap.size, 3, none⟩ = some (.int .i64 x.pat.m) := (b0.cell 3).trans (by simp)
  have d3 : V2.cell? ⟨w.heap.size + 1, 3, none⟩ = some (.int .i64 0) := (b1.cell 3).trans (by simp)
  have f3 := b1.frozen 3
  have e3 : V2.cell? ⟨w.heap.size + 2, 3, none⟩ = some (.int .i64 x.pat.m) := (b2.cell 3).trans (by simp)
  have g3 := b2.frozen 3
  have a4 : V2.cell? ⟨w.heap.size, 4, none⟩ = some (.int .i64 x.pat.va) := (b0.cell 4).trans (by simp)
  have d4 : V2.cell? ⟨w.heap.size + 1, 4, none⟩ = some (.int .i64 0) := (b1.cell 4).trans (by simp)
  have f4 := b1.frozen 4
  have e4 : V2.cell? ⟨w.heap.size + 2, 4, none⟩ = some (.int .i64 x.pat.va) := (b2.cell 4).trans (by simp)
  have g4 := b2.frozen 4
  have a5 : V2.cell? ⟨w.heap.size, 5, none⟩ = some (.slice A x.pat.ks.length cap) := (b0.cell 5).trans (by simp)
  have d5 : V2.cell? ⟨w.heap.size + 1, 5, none⟩ = some (.slice none 0 0) := (b1.cell 5).trans (by simp)
  have f5 := b1.frozen 5
  have e5 : V2.cell? ⟨w.heap.size + 2, 5, none⟩ = some (.slice A1 x.pat.ks.length cap1) := (b2.cell 5).trans (by simp)
  have g5 := b2.frozen 5
  have a6 : V2.cell? ⟨w.heap.size, 6, none⟩ = some (.int .i64 x.gd.op) := (b0.cell 6).trans (by simp)
  have d6 : V2.cell? ⟨w.heap.size + 1, 6, none⟩ = some (.int .i64 0) := (b1.cell 6).trans (by simp)
  have f6 := b1.frozen 6
  have e6 : V2.cell? ⟨w.heap.size + 2, 6, none⟩ = some (.int .i64 0) := (b2.cell 6).trans (by simp)
  have g6 := b2.frozen 6
  have a7 : V2.cell? ⟨w.heap.size, 7, none⟩ = some (.int .i64 x.gd.va) := (b0.cell 7).trans (by simp)
  have d7 : V2.cell? ⟨w.heap.size + 1, 7, none⟩ = some (.int .i64 0) := (b1.cell 7).trans (by simp)
  have f7 := b1.frozen 7
  have e7 : V2.cell? ⟨w.heap.size + 2, 7, none⟩ = some (.int .i64 0) := (b2.cell 7).trans (by simp)
  have g7 := b2.frozen 7
  have a8 : V2.cell? ⟨w.heap.size, 8, none⟩ = some (.int .i64 x.gd.n) := (b0.cell 8).trans (by simp)
  have d8 : V2.cell? ⟨w.heap.size + 1, 8, none⟩ = some (.int .i64 0) := (b1.cell 8).trans (by simp)
  have f8 := b1.frozen 8
  have e8 : V2.cell? ⟨w.heap.size + 2, 8, none⟩ = some (.int .i64 0) := (b2.cell 8).trans (by simp)
  have g8 := b2.frozen 8
  have hkq1 : Kept G1 _ V2 := .of_below hb2 hfs1.under
  have hvq1 := PR.mono _ _ _ hkq1 hv1
  have hfrq1 := hfr1.kept hkq1
  have hfsq1 : Fresh W3 V2 G1 := fun b hb => ⟨(hfs1 b hb).1, Nat.lt_of_lt_of_le (hfs1 b hb).2 hb2.size⟩
  clear hv1 hfr1 hfs1 hkq1
  have hv1 := hvq1
  have hfr1 := hfrq1
  have hfs1 := hfsq1
  clear hvq1 hfrq1 hfsq1
  have HV1 := Lib.hid hv1
  have HFr1 := Lib.hid hfr1
  have HFs1 := Lib.hid hfs1
  clear hv1 hfr1 hfs1
  clear b0 b1 b2
  go_wp2
  refine bodyPost_ret (v := .agg #[.int .i64 x.pat.op, .int .i64 x.pat.ct, .int .i64 x.pat.n, .int .i64 x.pat.m, .int .i64 x.pat.va, .slice A1 x.pat.ks.length cap1, .int .i64 x.gd.op, .int .i64 x.gd.va, .int .i64 x.gd.n]) (by simp [results, Try.results38, go_sem, d0, d1, d2, d3, d4, d5, d6, d7, d8]) rfl ?_
  have hkeep : Kept G1 V2 ((((((((((((V2.setCell ⟨w.heap.size + 1 + 1, 6, none⟩ (.int .i64 x.gd.op)).setCell ⟨w.heap.size + 1 + 1, 7, none⟩ (.int .i64 x.gd.va)).setCell ⟨w.heap.size + 1 + 1, 8, none⟩ (.int .i64 x.gd.n)).setCell ⟨w.heap.size + 1, 0, none⟩ (.int .i64 x.pat.op)).setCell ⟨w.heap.size + 1, 1, none⟩ (.int .i64 x.pat.ct)).setCell ⟨w.heap.size + 1, 2, none⟩ (.int .i64 x.pat.n)).setCell ⟨w.heap.size + 1, 3, none⟩ (.int .i64 x.pat.m)).setCell ⟨w.heap.size + 1, 4, none⟩ (.int .i64 x.pat.va)).setCell ⟨w.heap.size + 1, 5, none⟩ (.slice A1 x.pat.ks.length cap1)).setCell ⟨w.heap.size + 1, 6, none⟩ (.int .i64 x.gd.op)).setCell ⟨w.heap.size + 1, 7, none⟩ (.int .i64 x.gd.va)).setCell ⟨w.heap.size + 1, 8, none⟩ (.int .i64 x.gd.n)) := fun b hb => by
    have h1 := (HFs1.out b hb).1
    rw [Below.heap_setCell _ _ _ _ (by simp; omega), Below.heap_setCell _ _ _ _ (by simp; omega), Below.heap_setCell _ _ _ _ (by simp; omega), Below.heap_setCell _ _ _ _ (by simp; omega), Below.heap_setCell _ _ _ _ (by simp; omega), Below.heap_setCell _ _ _ _ (by simp; omega), Below.heap_setCell _ _ _ _ (by simp; omega), Below.heap_setCell _ _ _ _ (by simp; omega), Below.heap_setCell _ _ _ _ (by simp; omega), Below.heap_setCell _ _ _ _ (by simp; omega), Below.heap_setCell _ _ _ _ (by simp; omega), Below.heap_setCell _ _ _ _ (by simp; omega)]
  exact ⟨[.int .i64 x.pat.op, .int .i64 x.pat.ct, .int .i64 x.pat.n, .int .i64 x.pat.m, .int .i64 x.pat.va, .slice A1 x.pat.ks.length cap1, .int .i64 x.gd.op, .int .i64 x.gd.va, .int .i64 x.gd.n], G1, rfl, ((((((((((((hB5.setCell (by simp; omega) _).setCell (by simp; omega) _).setCell (by simp; omega) _).setCell (by simp) _).setCell (by simp) _).setCell (by simp) _).setCell (by simp) _).setCell (by simp) _).setCell (by simp) _).setCell (by simp) _).setCell (by simp) _).setCell (by simp) _), ⟨_, rfl, PR.mono _ _ _ hkeep HV1.out⟩, HFr1.out.kept hkeep, fun b hb => ⟨by have := (HFs1.out b hb).1; omega, by simpa [World.setCell] using (HFs1.out b hb).2⟩⟩
end Go.Proofs.Ytbffkgfhcmigaaa

namespace Go.Proofs.Ytbffkgfhcmigaaa
open Go.RowKit

set_option maxHeartbeats 400000 in
theorem eqGuard_any (x : Gd) (w : World) (cs ds : List Value) (F F2 : List Nat) (hv : GdR w x cs F) (hv2 : GdR w x ds F2) (hF : Under w.heap.size F) (hF2 : Under w.heap.size F2) :
    Calls Try.prog 100 #[.agg cs.toArray, .agg ds.toArray] w fun e w' => e = .returned (.bool true) ∧ Below w.heap.size w w' := by
  have ne_op : (x.op != x.op) = false := by simp
  have ne_va : (x.va != x.va) = false := by simp
  have ne_n : (x.n != x.n) = false := by simp
  obtain rfl := GdR_form hv
  obtain rfl := GdR_form hv2
  clear hv hv2 hF hF2
  go_enter Try.func100, Try.ntmps100
  go_wp2
  go_ret
  exact ⟨rfl, ((Below.refl _ _).alloc (Nat.le_refl _) _).alloc (by simp) _⟩
end Go.Proofs.Ytbffkgfhcmigaaa

namespace Go.Proofs.Ytbffkgfhcmigaaa
open Go.RowKit

set_option maxHeartbeats 400000 in
theorem eqClause_any (x : Cl) (w : World) (cs ds : List Value) (F F2 : List Nat) (hv : ClR w x cs F) (hv2 : ClR w x ds F2) (hF : Under w.heap.size F) (hF2 : Under w.heap.size F2) :
    Calls Try.prog 40 #[.agg cs.toArray, .agg ds.toArray] w fun e w' => e = .returned (.bool true) ∧ Below w.heap.size w w' := by
  obtain ⟨kv, rfl, ha⟩ := hv
  have HA := Lib.hid ha
  obtain ⟨kw, rfl, ha2⟩ := (PR_iff _ _ _).1 ha
  obtain ⟨A, cap, rfl, -, -⟩ := ha2.form
  clear ha ha2
  obtain ⟨kv', rfl, hb⟩ := hv2
  have HA2 := Lib.hid hb
  obtain ⟨kw', rfl, hb2⟩ := (PR_iff _ _ _).1 hb
  obtain ⟨A', cap', rfl, -, -⟩ := hb2.form
  clear hb hb2
  have HF := Lib.hid hF
  have HF2 := Lib.hid hF2
  clear hF hF2
  go_enter Try.func40, Try.ntmps40
  go_wp2_with fail
  obtain ⟨W2, hW2⟩ : ∃ W2, W2 = (w.alloc (.cells #[.int .i64 x.pat.op, .int .i64 x.pat.ct, .int .i64 x.pat.n, .int .i64 x.pat.m, .int .i64 x.pat.va, .slice A x.pat.ks.length cap, .int .i64 x.gd.op, .int .i64 x.gd.va, .int .i64 x.gd.n] 68)).alloc (.cells #[.int .i64 x.pat.op, .int .i64 x.pat.ct, .int .i64 x.pat.n, .int .i64 x.pat.m, .int .i64 x.pat.va, .slice A' x.pat.ks.length cap', .int .i64 x.gd.op, .int .i64 x.gd.va, .int .i64 x.gd.n] 68) := ⟨_, rfl⟩
  have hB2 : Below w.heap.size w W2 := by rw [hW2]; exact ((Below.refl _ _).alloc (Nat.le_refl _) _).alloc (by simp) _
  have hz2 : w.heap.size + 2 ≤ W2.heap.size := by rw [hW2]; simp
  have b0 : Blk W2 w.heap.size 68 #[.int .i64 x.pat.op, .int .i64 x.pat.ct, .int .i64 x.pat.n, .int .i64 x.pat.m, .int .i64 x.pat.va, .slice A x.pat.ks.length cap, .int .i64 x.gd.op, .int .i64 x.gd.va, .int .i64 x.gd.n] := by rw [hW2]; exact (Blk.new w _ _).same (Below.heap_alloc _ _ _ (by simp))
  have b1 : Blk W2 (w.heap.size + 1) 68 #[.int .i64 x.pat.op, .int .i64 x.pat.ct, .int .i64 x.pat.n, .int .i64 x.pat.m, .int .i64 x.pat.va, .slice A' x.pat.ks.length cap', .int .i64 x.gd.op, .int .i64 x.gd.va, .int .i64 x.gd.n] := by rw [hW2]; have := Blk.new (w.alloc (.cells #[.int .i64 x.pat.op, .int .i64 x.pat.ct, .int .i64 x.pat.n, .int .i64 x.pat.m, .int .i64 x.pat.va, .slice A x.pat.ks.length cap, .int .i64 x.gd.op, .int .i64 x.gd.va, .int .i64 x.gd.n] 68)) 68 #[.int .i64 x.pat.op, .int .i64 x.pat.ct, .int .i64 x.pat.n, .int .i64 x.pat.m, .int .i64 x.pat.va, .slice A' x.pat.ks.length cap', .int .i64 x.gd.op, .int .i64 x.gd.va, .int .i64 x.gd.n]; simpa using this
  rw [← hW2]
  clear hW2
  refine (eqPattern_any x.pat W2 _ _ F F2 (HA.out.below hB2 HF.out) (HA2.out.below hB2 HF2.out) (HF.out.mono hB2.size) (HF2.out.mono hB2.size)).mono ?_
  rintro e V0 ⟨rfl, hb0⟩
  have hB3 := hB2.trans (hb0.mono hB2.size)
  have m0 := b0.same (hb0.block _ b0.lt)
  have m1 := b1.same (hb0.block _ b1.lt)
  clear b0 b1
  have b0 := m0
  have b1 := m1
  clear m0 m1 hb0
  have a0 : V0.cell? ⟨w.heap.size, 0, none⟩ = some (.int .i64 x.pat.op) := (b0.cell 0).trans (by simp)
  have c0 : V0.cell? ⟨w.heap.size + 1, 0, none⟩ = some (.int .i64 x.pat.op) := (b1.cell 0).trans (by simp)
  have a1 : V0.cell? ⟨w.heap.size, 1, none⟩ = some (.int .i64 x.pat.ct) := (b0.cell 1).trans (by simp)
  have c1 : V0.cell? ⟨w.heap.size + 1, 1, none⟩ = some (.int .i64 x.pat.ct) := (b1.cell 1).trans (by simp)
  have a2 : V0.cell? ⟨w.heap.size, 2, none⟩ = some (.int .i64 x.pat.n) := (b0.cell 2).trans (by simp)
  have c2 : V0.cell? ⟨w.heap.size + 1, 2, none⟩ = some (.int .i64 x.pat.n) := (b1.cell 2).trans (by simp)
  have a3 : V0.cell? ⟨w.heap.size, 3, none⟩ = some (.int .i64 x.pat.m) := (b0.cell 3).trans (by simp)
  have c3 : V0.cell? ⟨w.heap.size + 1, 3, none⟩ = some (.int .i64 x.pat.m) := (b1.cell 3).trans (by simp)
  have a4 : V0.cell? ⟨w.heap.size, 4, none⟩ = some (.int .i64 x.pat.va) := (b0.cell 4).trans (by simp)
  have c4 : V0.cell? ⟨w.heap.size + 1, 4, none⟩ = some (.int .i64 x.pat.va) := (b1.cell 4).trans (by simp)
  have a5 : V0.cell? ⟨w.heap.size, 5, none⟩ = some (.slice A x.pat.ks.length cap) := (b0.cell 5).trans (by simp)
  have c5 : V0.cell? ⟨w.heap.size + 1, 5, none⟩ = some (.slice A' x.pat.ks.length cap') := (b1.cell 5).trans (by simp)
  have a6 : V0.cell? ⟨w.heap.size, 6, none⟩ = some (.int .i64 x.gd.op) := (b0.cell 6).trans (by simp)
  have c6 : V0.cell? ⟨w.heap.size + 1, 6, none⟩ = some (.int .i64 x.gd.op) := (b1.cell 6).trans (by simp)
  have a7 : V0.cell? ⟨w.heap.size, 7, none⟩ = some (.int .i64 x.gd.va) := (b0.cell 7).trans (by simp)
  have c7 : V0.cell? ⟨w.heap.size + 1, 7, none⟩ = some (.int .i64 x.gd.va) := (b1.cell 7).trans (by simp)
  have a8 : V0.cell? ⟨w.heap.size, 8, none⟩ = some (.int .i64 x.gd.n) := (b0.cell 8).trans (by simp)
  have c8 : V0.cell? ⟨w.heap.size + 1, 8, none⟩ = some (.int .i64 x.gd.n) := (b1.cell 8).trans (by simp)
  have B0 := Lib.hid b0
  have B1 := Lib.hid b1
  clear b0 b1
  go_wp2_with fail
  have b0 := B0.out
  have b1 := B1.out
  clear B0 B1 a0 c0 a1 c1 a2 c2 a3 c3 a4 c4 a5 c5 a6 c6 a7 c7 a8 c8
  refine (eqGuard_any x.gd V0 _ _ [] [] ⟨rfl, rfl⟩ ⟨rfl, rfl⟩ (Under.nil _) (Under.nil _)).mono ?_
  rintro e V1 ⟨rfl, hb1⟩
  have hB4 := hB3.trans (hb1.mono hB3.size)
  have m0 := b0.same (hb1.block _ b0.lt)
  have m1 := b1.same (hb1.block _ b1.lt)
  clear b0 b1
  have b0 := m0
  have b1 := m1
  clear m0 m1 hb1
  have a0 : V1.cell? ⟨w.heap.size, 0, none⟩ = some (.int .i64 x.pat.op) := (b0.cell 0).trans (by simp)
  have c0 : V1.cell? ⟨w.heap.size + 1, 0, none⟩ = some (.int .i64 x.pat.op) := (b1.cell 0).trans (by simp)
  have a1 : V1.cell? ⟨w.heap.size, 1, none⟩ = some (.int .i64 x.pat.ct) := (b0.cell 1).trans (by simp)
  have c1 : V1.cell? ⟨w.heap.size + 1, 1, none⟩ = some (.int .i64 x.pat.ct) := (b1.cell 1).trans (by simp)
  have a2 : V1.cell? ⟨w.heap.size, 2, none⟩ = some (.int .i64 x.pat.n) := (b0.cell 2).trans (by simp)
  have c2 : V1.cell? ⟨w.heap.size + 1, 2, none⟩ = some (.int .i64 x.pat.n) := (b1.cell 2).trans (by simp)
  have a3 : V1.cell? ⟨w.heap.size, 3, none⟩ = some (.int .i64 x.pat.m) := (b0.cell 3).trans (by simp)
  have c3 : V1.cell? ⟨w.heap.size + 1, 3, none⟩ = some (.int .i64 x.pat.m) := (b1.cell 3).trans (by simp)
  have a4 : V1.cell? ⟨w.heap.size, 4, none⟩ = some (.int .i64 x.pat.va) := (b0.cell 4).trans (by simp)
  have c4 : V1.cell? ⟨w.heap.size + 1, 4, none⟩ = some (.int .i64 x.pat.va) := (b1.cell 4).trans (by simp)
  have a5 : V1.cell? ⟨w.heap.size, 5, none⟩ = some (.slice A x.pat.ks.length cap) := (b0.cell 5).trans (by simp)
  have c5 : V1.cell? ⟨w.heap.size + 1, 5, none⟩ = some (.slice A' x.pat.ks.length cap') := (b1.cell 5).trans (by simp)
  have a6 : V1.cell? ⟨w.heap.size, 6, none⟩ = some (.int .i64 x.gd.op) := (b0.cell 6).trans (by simp)
  have c6 : V1.cell? ⟨w.heap.size + 1, 6, none⟩ = some (.int .i64 x.gd.op) := (b1.cell 6).trans (by simp)
  have a7 : V1.cell? ⟨w.heap.size, 7, none⟩ = some (.int .i64 x.gd.va) := (b0.cell 7).trans (by simp)
  have c7 : V1.cell? ⟨w.heap.size + 1, 7, none⟩ = some (.int .i64 x.gd.va) := (b1.cell 7).trans (by simp)
  have a8 : V1.cell? ⟨w.heap.size, 8, none⟩ = some (.int .i64 x.gd.n) := (b0.cell 8).trans (by simp)
  have c8 : V1.cell? ⟨w.heap.size + 1, 8, none⟩ = some (.int .i64 x.gd.n) := (b1.cell 8).trans (by simp)
  clear b0 b1
  go_wp2
  go_ret
  exact ⟨rfl, hB4⟩
end Go.Proofs.Ytbffkgfhcmigaaa

namespace Go.Proofs.Ytbffkgfhcmigaaa
open Go.RowKit

theorem argTy_ok {n : Int} {a : Ty} {r : Int} (h : argOkB n a = true) (h0 : 0 ≤ r) (h3 : r ≤ 3) : typeOkB n (argTy r a) = true := by
  unfold argOkB at h
  cases hi : (a.i == -1) with
  | true =>
    rw [argTy_yes hi]
    rw [beq_iff_eq] at hi
    split at h
    · rw [beq_iff_eq] at h; omega
    · rename_i hd
      rw [Bool.and_eq_true] at h
      unfold typeOkB
      rw [if_neg hd, h.1, Bool.true_and, withinB_iff]
      exact ⟨h0, h3⟩
  | false =>
    rw [argTy_no hi]
    rw [beq_eq_false_iff_ne] at hi
    unfold typeOkB
    split at h
    · rename_i hd
      rw [if_pos hd]; exact h
    · rename_i hd
      rw [Bool.and_eq_true, withinB_iff a.i] at h
      rw [if_neg hd, h.1, Bool.true_and, withinB_iff]
      omega
theorem resIdx_range {n : Nat} {c : Kt} (hc : KtOk n c) {i : Int} (h0 : 0 ≤ i) (h3 : i ≤ 3) : 0 ≤ resIdx c i ∧ resIdx c i ≤ 3 := by
  unfold resIdx
  split
  · exact ⟨h0, h3⟩
  · exact ⟨hc.lo, hc.hi⟩
theorem typeOkB_data {n : Int} {t : Ty} (h : typeOkB n t = true) (hd : ¬ t.d = -1) : 0 ≤ t.i ∧ t.i ≤ 3 := by
  unfold typeOkB at h
  rw [if_neg hd, Bool.and_eq_true] at h
  exact (withinB_iff _ _ _).1 h.2
/-- what a listed constructor is -/
theorem ctorsOfL_at {xs : List Dt} {t : Ty} {k : Int} (h : hasB (ctorsOfL xs t) k = true) : typeValidB xs t = true ∧ WorldOK xs ∧ ∃ (d m : Nat) (hd : d < xs.length) (hm : m < xs[d].ctors.length), t.d = (d : Int) ∧ k = (m : Int) ∧ argTypesL xs t k = argsL xs[d].ctors[m] t.i ∧ 0 ≤ t.i ∧ t.i ≤ 3 := by
  obtain ⟨e, hw, d, m, hd, h1, h2, hm⟩ := argTypesL_yes h
  have hv : typeValidB xs t = true := by
    rw [hasB_iff] at h
    unfold ctorsOfL at h
    split at h
    · assumption
    · cases h
  obtain ⟨-, hto⟩ := typeValid_split hv
  have hi := typeOkB_data hto (by omega)
  refine ⟨hv, hw, d, m, hd, hm, h1, h2, ?_, hi⟩
  obtain ⟨t1, t2⟩ := t
  simp only at h1
  subst h1 h2
  rw [e, argsOf_get hd hm]
theorem argTypesL_valid {xs : List Dt} {t : Ty} {k : Int} {a : Ty} (ha : a ∈ argTypesL xs t k) : typeValidB xs a = true := by
  cases h : hasB (ctorsOfL xs t) k with
  | false => rw [argTypesL_no h] at ha; cases ha
  | true =>
    obtain ⟨hv, hw, d, m, hd, hm, h1, h2, e, h0, h3⟩ := ctorsOfL_at h
    rw [e] at ha
    obtain ⟨b, hb, rfl⟩ := List.mem_map.1 ha
    have hr := resIdx_range (hw.ctor hd hm) h0 h3
    unfold typeValidB at hv ⊢
    rw [Bool.and_eq_true] at hv ⊢
    exact ⟨hv.1, argTy_ok ((hw.ctor hd hm).all b hb) hr.1 hr.2⟩
theorem argTy_d (r : Int) (a : Ty) : (argTy r a).d = a.d := by unfold argTy; split <;> rfl
theorem argTy_i {r : Int} {a : Ty} (h : 0 < a.i) : (argTy r a).i = a.i := by
  rw [argTy_no (by rw [beq_eq_false_iff_ne]; omega)]
end Go.Proofs.Ytbffkgfhcmigaaa

namespace Go.Proofs.Ytbffkgfhcmigaaa
open Go.RowKit

/-- the program's test of a guard -/
def guardB (g : Gd) (vs : List Vt) : Bool := if g.op = 0 then g.va == 0 && g.n == 0 else withinB g.op 1 2 && (withinB g.n 0 9 && hasV vs ⟨g.va, ⟨-1, 0⟩⟩)
/-- the first variable of that number is one of a number's type -/
def findNum (vs : List Vt) (n : Int) : Bool := match vs.find? (fun u => u.var == n) with | some u => u.ty.d == -1 | none => false
theorem findNum_some {vs : List Vt} {n : Int} {u : Vt} (h : vs.find? (fun u => u.var == n) = some u) : findNum vs n = (u.ty.d == -1) := by unfold findNum; rw [h]
theorem findNum_none {vs : List Vt} {n : Int} (h : vs.find? (fun u => u.var == n) = none) : findNum vs n = false := by unfold findNum; rw [h]
/-- the reference's test of a guard -/
def guardSB (g : Gd) (vs : List Vt) : Bool := if g.op = 0 then g.va == 0 && g.n == 0 else (g.op == 1 || g.op == 2) && (decide (0 ≤ g.n) && (decide (g.n ≤ 9) && findNum vs g.va))
theorem withinB_12 (n : Int) : withinB n 1 2 = (n == 1 || n == 2) := by
  unfold withinB
  rw [Bool.eq_iff_iff]
  simp
  omega
theorem has_find {vs : List Vt} (hd : dupFree vs = true) (ht : ∀ u ∈ vs, u.ty.d = -1 → u.ty.i = 0) (n : Int) : hasV vs ⟨n, ⟨-1, 0⟩⟩ = findNum vs n := by
  have hn : (vs.map Vt.var).Nodup := of_decide_eq_true hd
  unfold hasV findNum
  rw [Bool.eq_iff_iff, List.any_eq_true]
  constructor
  · rintro ⟨u, hm, hu⟩
    obtain rfl := (Vt.same_iff u _).1 hu
    have := find_of_nodup hn hm
    simp only at this
    rw [this]; rfl
  · intro h
    split at h
    · rename_i u hu
      have hm := List.mem_of_find?_eq_some hu
      have hv := List.find?_some hu
      have hd1 : u.ty.d = -1 := by simpa using h
      have hi := ht u hm hd1
      refine ⟨u, hm, (Vt.same_iff _ _).2 ?_⟩
      obtain ⟨v, d, i⟩ := u
      simp only [beq_iff_eq] at hv hd1 hi
      rw [hv, hd1, hi]
    · cases h
theorem guard_eq {g : Gd} {vs : List Vt} (hd : dupFree vs = true) (ht : ∀ u ∈ vs, u.ty.d = -1 → u.ty.i = 0) : guardSB g vs = guardB g vs := by
  unfold guardSB guardB
  rw [has_find hd ht, withinB_12]
  split
  · rfl
  · unfold withinB
    rw [Bool.and_assoc]
theorem typesP_valid {xs : List Dt} {t : Ty} (h : typeValidB xs t = true) {p : P} (ho : ownB xs t p = true) : ∀ a ∈ typesP xs t p, typeValidB xs a = true := fun a ha => by
  by_cases h4 : p.op = 4
  · unfold typesP at ha
    rw [if_pos h4] at ha
    have hc := ownB_ctor h4 ho
    have e1 : ctorsOfL xs t = ctorsL xs t := by unfold ctorsOfL; rw [if_pos h]
    have e2 : hasB (ctorsOfL xs t) p.ct = true := by rw [e1]; exact (hasB_iff _ _).2 hc
    have e3 : argTypesL xs t p.ct = argsOf xs t p.ct := by unfold argTypesL; rw [if_pos e2]
    exact argTypesL_valid (t := t) (k := p.ct) (by rw [e3]; exact ha)
  · rw [typesP_no h4] at ha
    have := List.eq_of_mem_replicate ha
    rw [this]; exact h
/-- the variables of a well-formed pattern have types of the world -/
theorem vars_valid {xs : List Dt} : ∀ (d : Nat) (t : Ty) (p : P), typeValidB xs t = true → shapeB xs d t p = true → ∀ u ∈ varsN xs d t p, typeValidB xs u.ty = true
  | 0, _, _, _, h, _, _ => by simp [shapeB] at h
  | d + 1, t, p, ht, hs, u, hu => by
    have e : varsN xs (d + 1) t p = (if namedB p = true then [⟨p.va, t⟩] else []) ++ (kidsV xs t p).flatMap fun x => varsN xs d x.1 x.2 := rfl
    rw [e, List.mem_append] at hu
    simp only [shapeB, Bool.and_eq_true] at hs
    rcases hu with hu | hu
    · split at hu
      · rw [List.mem_singleton] at hu
        rw [hu]; exact ht
      · cases hu
    · rw [List.mem_flatMap] at hu
      obtain ⟨x, hx, hu⟩ := hu
      have hx2 : x ∈ (typesP xs t p).zip p.ks := List.mem_of_mem_take hx
      have h1 := List.all_eq_true.1 hs.2.2 x hx2
      exact vars_valid d x.1 x.2 (typesP_valid ht hs.1 _ (List.of_mem_zip hx2).1) h1 u hu
theorem typeValid_int {xs : List Dt} {t : Ty} (h : typeValidB xs t = true) (hd : t.d = -1) : t.i = 0 := by
  unfold typeValidB typeOkB at h
  rw [if_pos hd, Bool.and_eq_true, beq_iff_eq] at h
  exact h.2
def clauseB (xs : List Dt) (t : Ty) (c : Cl) : Bool := patOkB xs t c.pat && guardB c.gd (varsN xs 10 t c.pat)
def clauseValidB (xs : List Dt) (t : Ty) (c : Cl) : Bool := typeValidB xs t && clauseB xs t c
def clausesValidB (xs : List Dt) (t : Ty) (l : List Cl) : Bool := typeValidB xs t && (decide (l.length ≤ 8) && l.all (clauseB xs t))
theorem guard_pat {xs : List Dt} {t : Ty} (ht : typeValidB xs t = true) {p : P} (h : patOkB xs t p = true) (g : Gd) : guardSB g (varsN xs 10 t p) = guardB g (varsN xs 10 t p) := by
  unfold patOkB at h
  simp only [Bool.and_eq_true] at h
  exact guard_eq (lin_dup xs 10 t p h.1 h.2.2) (fun u hu hd => typeValid_int (vars_valid 10 t p ht h.1 u hu) hd)
end Go.Proofs.Ytbffkgfhcmigaaa

namespace Go.Proofs.Ytbffkgfhcmigaaa
open Go.RowKit

set_option maxRecDepth 100000 in
set_option maxHeartbeats 1600000 in
theorem spec_l4Guard (g : Gd) (vs : List Vt) (w : World) (y : Value) (F : List Nat) (hy : Arr w (VtR w) vs y F) (hf : Under w.heap.size F) :
    Calls Try.prog 149 #[.agg #[.int .i64 g.op, .int .i64 g.va, .int .i64 g.n], y] w fun e w' => e = .returned (.bool (guardSB g vs)) ∧ Below w.heap.size w w' := by
  obtain ⟨A, cap, rfl, hc1, hc2⟩ := hy.form
  have HY := Lib.hid hy
  have HF := Lib.hid hf
  clear hy hf
  obtain ⟨W2, hW2⟩ : ∃ W2, W2 = (w.alloc (.cells #[.int .i64 g.op, .int .i64 g.va, .int .i64 g.n] 66)) := ⟨_, rfl⟩
  have hB : Below w.heap.size w W2 := by rw [hW2]; exact (Below.refl _ _).alloc (Nat.le_refl _) _
  have KB : Blk W2 w.heap.size 66 #[.int .i64 g.op, .int .i64 g.va, .int .i64 g.n] := by rw [hW2]; exact Blk.new _ _ _
  have y0 : W2.cell? ⟨w.heap.size, 0, none⟩ = some (.int .i64 g.op) := (KB.cell 0).trans (by simp)
  have y1 : W2.cell? ⟨w.heap.size, 1, none⟩ = some (.int .i64 g.va) := (KB.cell 1).trans (by simp)
  have y2 : W2.cell? ⟨w.heap.size, 2, none⟩ = some (.int .i64 g.n) := (KB.cell 2).trans (by simp)
  have ylt := KB.lt
  have HW2 := Lib.hid hW2
  clear KB hW2
  by_cases h0 : g.op = 0
  · have t0 : (g.op == 0) = true := by simp [h0]
    have HZ := Lib.hid h0
    clear h0
    cases q1 : (g.va == 0) with
    | false =>
      have hf : Hid (guardSB g vs = false) := by unfold Hid guardSB; rw [if_pos HZ.out, q1]; rfl
      go_enter Try.func149, Try.ntmps149
      go_wp2_with fail
      rw [← HW2.out]
      go_wp2
      go_ret
      exact ⟨ret_bool hf.out.symm, hB⟩
    | true =>
      have hf : Hid (guardSB g vs = (g.n == 0)) := by unfold Hid guardSB; rw [if_pos HZ.out, q1]; rfl
      go_enter Try.func149, Try.ntmps149
      go_wp2_with fail
      rw [← HW2.out]
      go_wp2
      go_ret
      exact ⟨ret_bool hf.out.symm, hB⟩
  · have t0 : (g.op == 0) = false := by simpa using h0
    have HZ := Lib.hid h0
    clear h0
    cases p1 : (g.op != 1) with
    | false =>
      have HOP : Hid ((g.op == 1 || g.op == 2) = true) := (by have h1 : g.op = 1 := (by simpa using p1); simp [h1, Hid])
      by_cases hn0 : g.n < 0
      · have t3 : decide (g.n < 0) = true := decide_eq_true hn0
        have hf : Hid (guardSB g vs = false) := by unfold Hid guardSB; rw [if_neg HZ.out, decide_eq_false (show ¬ 0 ≤ g.n from by omega), Bool.false_and, Bool.and_false]
        clear hn0
        go_enter Try.func149, Try.ntmps149
        go_wp2_with fail
        rw [← HW2.out]
        go_wp2
        go_ret
        exact ⟨ret_bool hf.out.symm, hB⟩
      · have t3 : decide (g.n < 0) = false := decide_eq_false hn0
        by_cases hn9 : g.n > 9
        · have t4 : decide (g.n > 9) = true := decide_eq_true hn9
          have hf : Hid (guardSB g vs = false) := by unfold Hid guardSB; rw [if_neg HZ.out, decide_eq_false (show ¬ g.n ≤ 9 from by omega), Bool.false_and, Bool.and_false, Bool.and_false]
          clear hn0 hn9
          go_enter Try.func149, Try.ntmps149
          go_wp2_with fail
          rw [← HW2.out]
          go_wp2
          go_ret
          exact ⟨ret_bool hf.out.symm, hB⟩
        · have t4 : decide (g.n > 9) = false := decide_eq_false hn9
          have HQ : Hid (((g.op == 1 || g.op == 2) && (decide (0 ≤ g.n) && (decide (g.n ≤ 9) && findNum vs g.va))) = findNum vs g.va) := by unfold Hid; rw [HOP.out, decide_eq_true (show 0 ≤ g.n from by omega), decide_eq_true (show g.n ≤ 9 from by omega)]; simp only [Bool.true_and]
          clear hn0 hn9
          obtain ⟨r, hr⟩ := FirstAt.ex (fun u : Vt => u.var == g.va) vs
          have hff := find_first hr
          have HR := Lib.hid hr
          clear hr
          go_enter Try.func149, Try.ntmps149
          go_wp2_with fail
          rw [← HW2.out]
          refine (spec_l3Find vs g.va r HR.out W2 _ F (Arr.mono (w := w) HY.out (.of_below hB HF.out) (fun x _ cs G hk h => VtR_mono _ _ x cs G hk h)) (HF.out.mono hB.size)).mono ?_
          rintro e w' ⟨rfl, hB'⟩
          have hB3 := hB.trans (hB'.mono hB.size)
          clear y0 y1 y2 ylt
          rcases hff with ⟨m, hm, rfl, hfd⟩ | ⟨rfl, hfd⟩
          · have t5 : decide ((m : Int) ≥ 0) = true := decide_eq_true (by omega)
            have t6 : decide (0 ≤ (m : Int)) = true := decide_eq_true (by omega)
            have i0 : (0 : Int) ≤ (m : Int) := by omega
            have i1 : (m : Int) < (vs.length : Int) := by omega
            obtain ⟨b, off, rfl⟩ := HY.out.ptr (by omega)
            obtain ⟨hb, c0, c1, c2⟩ := ArrVt.at HY.out HF.out hB3 m hm
            have hf : Hid (guardSB g vs = (vs[m].ty.d == -1)) := by unfold Hid guardSB; rw [if_neg HZ.out, HQ.out, findNum_some hfd]
            clear hfd
            go_wp2
            go_ret
            exact ⟨ret_bool hf.out.symm, hB3⟩
          · have hf : Hid (guardSB g vs = false) := by unfold Hid guardSB; rw [if_neg HZ.out, HQ.out, findNum_none hfd]
            clear hfd
            go_wp2
            go_ret
            exact ⟨ret_bool hf.out.symm, hB3⟩
    | true =>
      cases p2 : (g.op != 2) with
      | false =>
        have HOP : Hid ((g.op == 1 || g.op == 2) = true) := (by have h1 : g.op = 2 := (by simpa using p2); simp [h1, Hid])
        by_cases hn0 : g.n < 0
        · have t3 : decide (g.n < 0) = true := decide_eq_true hn0
          have hf : Hid (guardSB g vs = false) := by unfold Hid guardSB; rw [if_neg HZ.out, decide_eq_false (show ¬ 0 ≤ g.n from by omega), Bool.false_and, Bool.and_false]
          clear hn0
          go_enter Try.func149, Try.ntmps149
          go_wp2_with fail
          rw [← HW2.out]
          go_wp2
          go_ret
          exact ⟨ret_bool hf.out.symm, hB⟩
        · have t3 : decide (g.n < 0) = false := decide_eq_false hn0
          by_cases hn9 : g.n > 9
          · have t4 : decide (g.n > 9) = true := decide_eq_true hn9
            have hf : Hid (guardSB g vs = false) := by unfold Hid guardSB; rw [if_neg HZ.out, decide_eq_false (show ¬ g.n ≤ 9 from by omega), Bool.false_and, Bool.and_false, Bool.and_false]
            clear hn0 hn9
            go_enter Try.func149, Try.ntmps149
            go_wp2_with fail
            rw [← HW2.out]
            go_wp2
            go_ret
            exact ⟨ret_bool hf.out.symm, hB⟩
          · have t4 : decide (g.n > 9) = false := decide_eq_false hn9
            have HQ : Hid (((g.op == 1 || g.op == 2) && (decide (0 ≤ g.n) && (decide (g.n ≤ 9) && findNum vs g.va))) = findNum vs g.va) := by unfold Hid; rw [HOP.out, decide_eq_true (show 0 ≤ g.n from by omega), decide_eq_true (show g.n ≤ 9 from by omega)]; simp only [Bool.true_and]
            clear hn0 hn9
            obtain ⟨r, hr⟩ := FirstAt.ex (fun u : Vt => u.var == g.va) vs
            have hff := find_first hr
            have HR := Lib.hid hr
            clear hr
            go_enter Try.func149, Try.ntmps149
            go_wp2_with fail
            rw [← HW2.out]
            refine (spec_l3Find vs g.va r HR.out W2 _ F (Arr.mono (w := w) HY.out (.of_below hB HF.out) (fun x _ cs G hk h => VtR_mono _ _ x cs G hk h)) (HF.out.mono hB.size)).mono ?_
            rintro e w' ⟨rfl, hB'⟩
            have hB3 := hB.trans (hB'.mono hB.size)
            clear y0 y1 y2 ylt
            rcases hff with ⟨m, hm, rfl, hfd⟩ | ⟨rfl, hfd⟩
            · have t5 : decide ((m : Int) ≥ 0) = true := decide_eq_true (by omega)
              have t6 : decide (0 ≤ (m : Int)) = true := decide_eq_true (by omega)
              have i0 : (0 : Int) ≤ (m : Int) := by omega
              have i1 : (m : Int) < (vs.length : Int) := by omega
              obtain ⟨b, off, rfl⟩ := HY.out.ptr (by omega)
              obtain ⟨hb, c0, c1, c2⟩ := ArrVt.at HY.out HF.out hB3 m hm
              have hf : Hid (guardSB g vs = (vs[m].ty.d == -1)) := by unfold Hid guardSB; rw [if_neg HZ.out, HQ.out, findNum_some hfd]
              clear hfd
              go_wp2
              go_ret
              exact ⟨ret_bool hf.out.symm, hB3⟩
            · have hf : Hid (guardSB g vs = false) := by unfold Hid guardSB; rw [if_neg HZ.out, HQ.out, findNum_none hfd]
              clear hfd
              go_wp2
              go_ret
              exact ⟨ret_bool hf.out.symm, hB3⟩
      | true =>
        have hf : Hid (guardSB g vs = false) := by unfold Hid guardSB; rw [if_neg HZ.out, (show (g.op == 1 || g.op == 2) = false from (by simp only [bne_iff_ne, ne_eq] at p1 p2; simp [p1, p2]))]; rfl
        go_enter Try.func149, Try.ntmps149
        go_wp2_with fail
        rw [← HW2.out]
        go_wp2
        go_ret
        exact ⟨ret_bool hf.out.symm, hB⟩
set_option maxRecDepth 100000 in
set_option maxHeartbeats 1600000 in
theorem impl_guardOk (g : Gd) (vs : List Vt) (w : World) (y : Value) (F : List Nat) (hy : Arr w (VtR w) vs y F) (hf : Under w.heap.size F) :
    Calls Try.prog 150 #[.agg #[.int .i64 g.op, .int .i64 g.va, .int .i64 g.n], y] w fun e w' => e = .returned (.bool (guardB g vs)) ∧ Below w.heap.size w w' := by
  obtain ⟨A, cap, rfl, hc1, hc2⟩ := hy.form
  have HY := Lib.hid hy
  have HF := Lib.hid hf
  clear hy hf
  obtain ⟨W2, hW2⟩ : ∃ W2, W2 = (w.alloc (.cells #[.int .i64 g.op, .int .i64 g.va, .int .i64 g.n] 66)) := ⟨_, rfl⟩
  have hB : Below w.heap.size w W2 := by rw [hW2]; exact (Below.refl _ _).alloc (Nat.le_refl _) _
  have KB : Blk W2 w.heap.size 66 #[.int .i64 g.op, .int .i64 g.va, .int .i64 g.n] := by rw [hW2]; exact Blk.new _ _ _
  have y0 : W2.cell? ⟨w.heap.size, 0, none⟩ = some (.int .i64 g.op) := (KB.cell 0).trans (by simp)
  have y1 : W2.cell? ⟨w.heap.size, 1, none⟩ = some (.int .i64 g.va) := (KB.cell 1).trans (by simp)
  have y2 : W2.cell? ⟨w.heap.size, 2, none⟩ = some (.int .i64 g.n) := (KB.cell 2).trans (by simp)
  have ylt := KB.lt
  have HW2 := Lib.hid hW2
  clear KB hW2
  by_cases h0 : g.op = 0
  · have t0 : (g.op == 0) = true := by simp [h0]
    have HZ := Lib.hid h0
    clear h0
    by_cases h1 : g.va = 0
    · by_cases h2 : g.n = 0
      · have hf : Hid (guardB g vs = true) := by unfold Hid guardB; rw [if_pos HZ.out]; simp [h1, h2]
        clear hB y0 y1 y2 ylt HW2
        go_enter Try.func150, Try.ntmps150
        go_wp2
        go_ret
        exact ⟨ret_bool hf.out.symm, (Below.refl _ _).alloc (Nat.le_refl _) _⟩
      · have hf : Hid (guardB g vs = false) := by unfold Hid guardB; rw [if_pos HZ.out]; simp [h1, h2]
        clear hB y0 y1 y2 ylt HW2
        go_enter Try.func150, Try.ntmps150
        go_wp2
        go_ret
        exact ⟨ret_bool hf.out.symm, (Below.refl _ _).alloc (Nat.le_refl _) _⟩
    · by_cases h2 : g.n = 0
      · have hf : Hid (guardB g vs = false) := by unfold Hid guardB; rw [if_pos HZ.out]; simp [h1, h2]
        clear hB y0 y1 y2 ylt HW2
        go_enter Try.func150, Try.ntmps150
        go_wp2
        go_ret
        exact ⟨ret_bool hf.out.symm, (Below.refl _ _).alloc (Nat.le_refl _) _⟩
      · have hf : Hid (guardB g vs = false) := by unfold Hid guardB; rw [if_pos HZ.out]; simp [h1, h2]
        clear hB y0 y1 y2 ylt HW2
        go_enter Try.func150, Try.ntmps150
        go_wp2
        go_ret
        exact ⟨ret_bool hf.out.symm, (Below.refl _ _).alloc (Nat.le_refl _) _⟩
  · have t0 : (g.op == 0) = false := by simpa using h0
    have HZ := Lib.hid h0
    clear h0
    go_enter Try.func150, Try.ntmps150
    go_wp2_with fail
    rw [← HW2.out]
    refine (impl_within g.op 1 2 W2).mono ?_
    rintro e w3 ⟨rfl, rfl⟩
    cases p1 : withinB g.op 1 2 with
    | false =>
      have hf : Hid (guardB g vs = false) := by unfold Hid guardB; rw [if_neg HZ.out, p1]; rfl
      clear p1
      go_wp2
      go_ret
      exact ⟨ret_bool hf.out.symm, hB⟩
    | true =>
      go_wp2_with fail
      refine (impl_within g.n 0 9 W2).mono ?_
      rintro e w4 ⟨rfl, rfl⟩
      cases p2 : withinB g.n 0 9 with
      | false =>
        have hf : Hid (guardB g vs = false) := by unfold Hid guardB; rw [if_neg HZ.out, p1, p2]; rfl
        clear p1 p2
        go_wp2
        go_ret
        exact ⟨ret_bool hf.out.symm, hB⟩
      | true =>
        have hf : Hid (guardB g vs = hasV vs ⟨g.va, ⟨-1, 0⟩⟩) := by unfold Hid guardB; rw [if_neg HZ.out, p1, p2]; rfl
        clear p1 p2
        go_wp2_with fail
        refine (Contains_Vt vs ⟨g.va, ⟨-1, 0⟩⟩ W2 _ F (Arr.mono (w := w) HY.out (.of_below hB HF.out) (fun x _ cs G hk h => VtR_mono _ _ x cs G hk h)) (HF.out.mono hB.size)).mono ?_
        rintro e w' ⟨rfl, hB'⟩
        have hB3 := hB.trans (hB'.mono hB.size)
        generalize hasV vs ⟨g.va, ⟨-1, 0⟩⟩ = bb at *
        clear y0 y1 y2 ylt
        go_wp2
        go_ret
        exact ⟨ret_bool hf.out.symm, hB3⟩
end Go.Proofs.Ytbffkgfhcmigaaa

namespace Go.Proofs.Ytbffkgfhcmigaaa
open Go.RowKit

set_option maxRecDepth 100000 in
set_option maxHeartbeats 1600000 in
theorem spec_l4Is (xs : List Dt) (t : Ty) (hty : typeValidB xs t = true) (c : Cl) (hz : c.pat.size ≤ 1048576) (w : World) (x : Value) (F : List Nat) (cs : List Value) (G : List Nat) (hx : Arr w (DtR w) xs x F) (hf : Under w.heap.size F) (hv : ClR w c cs G) (hg : Under w.heap.size G) :
    Calls Try.prog 97 #[x, .agg #[.int .i64 t.d, .int .i64 t.i], .agg cs.toArray] w fun e w' => e = .returned (.bool (clauseB xs t c)) ∧ Below w.heap.size w w' := by
  obtain ⟨ds, rfl, hp⟩ := id hv
  obtain ⟨kv, rfl, ha⟩ := (PR_iff _ _ _).1 hp
  obtain ⟨A, cap, rfl, hc1, hc2⟩ := hx.form
  obtain ⟨A4, cap4, rfl, hc3, hc4⟩ := ha.form
  have HV := Lib.hid hv
  have HP := Lib.hid hp
  have HX := Lib.hid hx
  have HF := Lib.hid hf
  have HG := Lib.hid hg
  clear hx hf hg
  clear hv hp ha
  simp only [List.cons_append, List.nil_append] at HV ⊢
  obtain ⟨hw, hto⟩ := typeValid_split hty
  have HW := Lib.hid hw
  have HT := Lib.hid (typeOkB_tyIn hto)
  have HTY := Lib.hid hty
  clear hty hw hto
  go_enter Try.func97, Try.ntmps97
  go_wp2_with fail
  obtain ⟨W2, hW2⟩ : ∃ W2, W2 = ((w.alloc (.cells #[.int .i64 t.d, .int .i64 t.i] 37)).alloc (.cells #[.int .i64 c.pat.op, .int .i64 c.pat.ct, .int .i64 c.pat.n, .int .i64 c.pat.m, .int .i64 c.pat.va, .slice A4 c.pat.ks.length cap4, .int .i64 c.gd.op, .int .i64 c.gd.va, .int .i64 c.gd.n] 68)) := ⟨_, rfl⟩
  have hB0 : Below w.heap.size w W2 := by rw [hW2]; exact ((Below.refl _ _).alloc (Nat.le_refl _) _).alloc (by simp) _
  have KT : Hid (Blk W2 w.heap.size 37 #[.int .i64 t.d, .int .i64 t.i]) := by rw [hW2]; exact (Blk.new w _ _).same (Below.heap_alloc _ _ _ (by simp))
  have KP : Hid (Blk W2 (w.heap.size + 1) 68 #[.int .i64 c.pat.op, .int .i64 c.pat.ct, .int .i64 c.pat.n, .int .i64 c.pat.m, .int .i64 c.pat.va, .slice A4 c.pat.ks.length cap4, .int .i64 c.gd.op, .int .i64 c.gd.va, .int .i64 c.gd.n]) := by rw [hW2]; have h := Blk.new (w.alloc (.cells #[.int .i64 t.d, .int .i64 t.i] 37)) 68 #[.int .i64 c.pat.op, .int .i64 c.pat.ct, .int .i64 c.pat.n, .int .i64 c.pat.m, .int .i64 c.pat.va, .slice A4 c.pat.ks.length cap4, .int .i64 c.gd.op, .int .i64 c.gd.va, .int .i64 c.gd.n]; rw [World.size_alloc] at h; exact h
  rw [← hW2]
  clear hW2
  have y0 : W2.cell? ⟨w.heap.size, 0, none⟩ = some (.int .i64 t.d) := (KT.out.cell 0).trans (by simp)
  have y1 : W2.cell? ⟨w.heap.size, 1, none⟩ = some (.int .i64 t.i) := (KT.out.cell 1).trans (by simp)
  have klt := KT.out.lt
  have z0 : W2.cell? ⟨w.heap.size + 1, 0, none⟩ = some (.int .i64 c.pat.op) := (KP.out.cell 0).trans (by simp)
  have z1 : W2.cell? ⟨w.heap.size + 1, 1, none⟩ = some (.int .i64 c.pat.ct) := (KP.out.cell 1).trans (by simp)
  have z2 : W2.cell? ⟨w.heap.size + 1, 2, none⟩ = some (.int .i64 c.pat.n) := (KP.out.cell 2).trans (by simp)
  have z3 : W2.cell? ⟨w.heap.size + 1, 3, none⟩ = some (.int .i64 c.pat.m) := (KP.out.cell 3).trans (by simp)
  have z4 : W2.cell? ⟨w.heap.size + 1, 4, none⟩ = some (.int .i64 c.pat.va) := (KP.out.cell 4).trans (by simp)
  have z5 : W2.cell? ⟨w.heap.size + 1, 5, none⟩ = some (.slice A4 c.pat.ks.length cap4) := (KP.out.cell 5).trans (by simp)
  have z6 : W2.cell? ⟨w.heap.size + 1, 6, none⟩ = some (.int .i64 c.gd.op) := (KP.out.cell 6).trans (by simp)
  have z7 : W2.cell? ⟨w.heap.size + 1, 7, none⟩ = some (.int .i64 c.gd.va) := (KP.out.cell 7).trans (by simp)
  have z8 : W2.cell? ⟨w.heap.size + 1, 8, none⟩ = some (.int .i64 c.gd.n) := (KP.out.cell 8).trans (by simp)
  have klt2 := KP.out.lt
  have h1 := spec_l3Is xs HW.out t HT.out c.pat hz W2.drew _ F _ G (ArrDt.below HX.out hB0.drew HF.out) (HF.out.mono hB0.drew.size) (HP.out.below hB0.drew HG.out) (HG.out.mono hB0.drew.size)
  cases e1 : patOkB xs t c.pat with
  | false =>
    rw [e1] at h1
    have H1 := Lib.hid h1
    have hf : Hid (clauseB xs t c = false) := by unfold Hid clauseB; rw [e1]; rfl
    clear h1 e1
    have HS : Hid (∀ C : World, Below W2.heap.size W2 C → (C.cell? ⟨w.heap.size, 0, none⟩ = some (.int .i64 t.d) ∧ C.cell? ⟨w.heap.size, 1, none⟩ = some (.int .i64 t.i) ∧ C.cell? ⟨w.heap.size + 1, 0, none⟩ = some (.int .i64 c.pat.op) ∧ C.cell? ⟨w.heap.size + 1, 1, none⟩ = some (.int .i64 c.pat.ct) ∧ C.cell? ⟨w.heap.size + 1, 2, none⟩ = some (.int .i64 c.pat.n) ∧ C.cell? ⟨w.heap.size + 1, 3, none⟩ = some (.int .i64 c.pat.m) ∧ C.cell? ⟨w.heap.size + 1, 4, none⟩ = some (.int .i64 c.pat.va) ∧ C.cell? ⟨w.heap.size + 1, 5, none⟩ = some (.slice A4 c.pat.ks.length cap4) ∧ C.cell? ⟨w.heap.size + 1, 6, none⟩ = some (.int .i64 c.gd.op) ∧ C.cell? ⟨w.heap.size + 1, 7, none⟩ = some (.int .i64 c.gd.va) ∧ C.cell? ⟨w.heap.size + 1, 8, none⟩ = some (.int .i64 c.gd.n))) := fun C hb => ⟨(hb.cell (klt)).trans y0, (hb.cell (klt)).trans y1, (hb.cell (klt2)).trans z0, (hb.cell (klt2)).trans z1, (hb.cell (klt2)).trans z2, (hb.cell (klt2)).trans z3, (hb.cell (klt2)).trans z4, (hb.cell (klt2)).trans z5, (hb.cell (klt2)).trans z6, (hb.cell (klt2)).trans z7, (hb.cell (klt2)).trans z8⟩
    have hC0 : Below W2.heap.size W2 W2.drew := (Below.refl _ _).drew
    refine wp_region_B (S := fun w' => w'.cell? ⟨w.heap.size, 0, none⟩ = some (.int .i64 t.d) ∧ w'.cell? ⟨w.heap.size, 1, none⟩ = some (.int .i64 t.i) ∧ w'.cell? ⟨w.heap.size + 1, 0, none⟩ = some (.int .i64 c.pat.op) ∧ w'.cell? ⟨w.heap.size + 1, 1, none⟩ = some (.int .i64 c.pat.ct) ∧ w'.cell? ⟨w.heap.size + 1, 2, none⟩ = some (.int .i64 c.pat.n) ∧ w'.cell? ⟨w.heap.size + 1, 3, none⟩ = some (.int .i64 c.pat.m) ∧ w'.cell? ⟨w.heap.size + 1, 4, none⟩ = some (.int .i64 c.pat.va) ∧ w'.cell? ⟨w.heap.size + 1, 5, none⟩ = some (.slice A4 c.pat.ks.length cap4) ∧ w'.cell? ⟨w.heap.size + 1, 6, none⟩ = some (.int .i64 c.gd.op) ∧ w'.cell? ⟨w.heap.size + 1, 7, none⟩ = some (.int .i64 c.gd.va) ∧ w'.cell? ⟨w.heap.size + 1, 8, none⟩ = some (.int .i64 c.gd.n)) (T := fun _ => True) (d := 15) (by kernel_rfl) ?_
    obtain ⟨wd, hwd⟩ : ∃ X, X = W2.drew := ⟨_, rfl⟩
    rw [← hwd] at hC0 H1 ⊢
    clear hwd
    have hS0 := HS.out _ hC0
    have hT0 : True := trivial
    refine wpAnyB_take (i := 0) (v := ?_) rfl (by decide) (by kernel_rfl) (by kernel_rfl) (by kernel_rfl) (fun _ _ _ h => h) (Or.inl ⟨by rfl, ?hy0⟩) hS0 (fun _ => hT0) ?_
    case hy0 => (intro W hSw; (try dsimp only at hSw); (try obtain ⟨hSw0, hSw1, hSw2, hSw3, hSw4, hSw5, hSw6, hSw7, hSw8, hSw9, hSw10⟩ := hSw); go_simp; try with_reducible rfl)
    (try simp only [Act.put, List.getElem_toArray, List.getElem_cons_zero, List.getElem_cons_succ, List.setIfInBounds_toArray, List.set_cons_zero, List.set_cons_succ])
    refine wpAnyB_take (i := 1) (v := ?_) rfl (by decide) (by kernel_rfl) (by kernel_rfl) (by kernel_rfl) (fun _ _ _ h => h) (Or.inl ⟨by rfl, ?hy1⟩) hS0 (fun _ => hT0) ?_
    case hy1 => (intro W hSw; (try dsimp only at hSw); (try obtain ⟨hSw0, hSw1, hSw2, hSw3, hSw4, hSw5, hSw6, hSw7, hSw8, hSw9, hSw10⟩ := hSw); go_simp; try with_reducible rfl)
    (try simp only [Act.put, List.getElem_toArray, List.getElem_cons_zero, List.getElem_cons_succ, List.setIfInBounds_toArray, List.set_cons_zero, List.set_cons_succ])
    refine wpAnyB_take (i := 2) (v := ?_) rfl (by decide) (by kernel_rfl) (by kernel_rfl) (by kernel_rfl) (fun _ _ _ h => h) (Or.inl ⟨by rfl, ?hy2⟩) hS0 (fun _ => hT0) ?_
    case hy2 => (intro W hSw; (try dsimp only at hSw); (try obtain ⟨hSw0, hSw1, hSw2, hSw3, hSw4, hSw5, hSw6, hSw7, hSw8, hSw9, hSw10⟩ := hSw); go_simp; try with_reducible rfl)
    (try simp only [Act.put, List.getElem_toArray, List.getElem_cons_zero, List.getElem_cons_succ, List.setIfInBounds_toArray, List.set_cons_zero, List.set_cons_succ])
    refine wpAnyB_take (i := 3) (v := ?_) rfl (by decide) (by kernel_rfl) (by kernel_rfl) (by kernel_rfl) (fun _ _ _ h => h) (Or.inl ⟨by rfl, ?hy3⟩) hS0 (fun _ => hT0) ?_
    case hy3 => (intro W hSw; (try dsimp only at hSw); (try obtain ⟨hSw0, hSw1, hSw2, hSw3, hSw4, hSw5, hSw6, hSw7, hSw8, hSw9, hSw10⟩ := hSw); go_simp; try with_reducible rfl)
    (try simp only [Act.put, List.getElem_toArray, List.getElem_cons_zero, List.getElem_cons_succ, List.setIfInBounds_toArray, List.set_cons_zero, List.set_cons_succ])
    refine wpAnyB_ready (rs := [4]) (by kernel_rfl) (by simp) ?_
    refine AllReadyB.cons rfl (fun K hK => ?_) AllReadyB.nil
    go_simp
    go_at_call 94
    refine (H1.out).mono ?_
    rintro e w3 ⟨rfl, hb3⟩
    have hC1 : Below W2.heap.size W2 w3 := hC0.trans (hb3.mono hC0.size)
    have hS1 := HS.out _ hC1
    (try dsimp only)
    refine hK.out _ _ hS1 (fun _ => trivial) ?_
    clear hK K
    (try simp only [Act.put, List.getElem_toArray, List.getElem_cons_zero, List.getElem_cons_succ, List.setIfInBounds_toArray, List.set_cons_zero, List.set_cons_succ])
    refine wpAnyB_take (i := 5) (v := ?_) rfl (by decide) (by kernel_rfl) (by kernel_rfl) (by kernel_rfl) (fun _ _ _ h => h) (Or.inl ⟨by rfl, ?hy5⟩) hS1 (fun _ => hT0) ?_
    case hy5 => (intro W hSw; (try dsimp only at hSw); (try obtain ⟨hSw0, hSw1, hSw2, hSw3, hSw4, hSw5, hSw6, hSw7, hSw8, hSw9, hSw10⟩ := hSw); go_simp; try with_reducible rfl)
    (try simp only [Act.put, List.getElem_toArray, List.getElem_cons_zero, List.getElem_cons_succ, List.setIfInBounds_toArray, List.set_cons_zero, List.set_cons_succ])
    refine wpAnyB_take (i := 6) (v := undef) rfl (by decide) (by kernel_rfl) (by kernel_rfl) (by kernel_rfl) (fun _ _ _ h => h) (Or.inr ⟨by rfl, rfl⟩) hS1 (fun _ => hT0) ?_
    (try simp only [Act.put, List.getElem_toArray, List.getElem_cons_zero, List.getElem_cons_succ, List.setIfInBounds_toArray, List.set_cons_zero, List.set_cons_succ])
    refine wpAnyB_take (i := 7) (v := undef) rfl (by decide) (by kernel_rfl) (by kernel_rfl) (by kernel_rfl) (fun _ _ _ h => h) (Or.inr ⟨by rfl, rfl⟩) hS1 (fun _ => hT0) ?_
    (try simp only [Act.put, List.getElem_toArray, List.getElem_cons_zero, List.getElem_cons_succ, List.setIfInBounds_toArray, List.set_cons_zero, List.set_cons_succ])
    refine wpAnyB_take (i := 8) (v := undef) rfl (by decide) (by kernel_rfl) (by kernel_rfl) (by kernel_rfl) (fun _ _ _ h => h) (Or.inr ⟨by rfl, rfl⟩) hS1 (fun _ => hT0) ?_
    (try simp only [Act.put, List.getElem_toArray, List.getElem_cons_zero, List.getElem_cons_succ, List.setIfInBounds_toArray, List.set_cons_zero, List.set_cons_succ])
    refine wpAnyB_take (i := 9) (v := undef) rfl (by decide) (by kernel_rfl) (by kernel_rfl) (by kernel_rfl) (fun _ _ _ h => h) (Or.inr ⟨by rfl, rfl⟩) hS1 (fun _ => hT0) ?_
    (try simp only [Act.put, List.getElem_toArray, List.getElem_cons_zero, List.getElem_cons_succ, List.setIfInBounds_toArray, List.set_cons_zero, List.set_cons_succ])
    refine wpAnyB_take (i := 10) (v := undef) rfl (by decide) (by kernel_rfl) (by kernel_rfl) (by kernel_rfl) (fun _ _ _ h => h) (Or.inr ⟨by rfl, rfl⟩) hS1 (fun _ => hT0) ?_
    (try simp only [Act.put, List.getElem_toArray, List.getElem_cons_zero, List.getElem_cons_succ, List.setIfInBounds_toArray, List.set_cons_zero, List.set_cons_succ])
    refine wpAnyB_take (i := 11) (v := undef) rfl (by decide) (by kernel_rfl) (by kernel_rfl) (by kernel_rfl) (fun _ _ _ h => h) (Or.inr ⟨by rfl, rfl⟩) hS1 (fun _ => hT0) ?_
    (try simp only [Act.put, List.getElem_toArray, List.getElem_cons_zero, List.getElem_cons_succ, List.setIfInBounds_toArray, List.set_cons_zero, List.set_cons_succ])
    refine wpAnyB_take (i := 12) (v := undef) rfl (by decide) (by kernel_rfl) (by kernel_rfl) (by kernel_rfl) (fun _ _ _ h => h) (Or.inr ⟨by rfl, rfl⟩) hS1 (fun _ => hT0) ?_
    (try simp only [Act.put, List.getElem_toArray, List.getElem_cons_zero, List.getElem_cons_succ, List.setIfInBounds_toArray, List.set_cons_zero, List.set_cons_succ])
    refine wpAnyB_take (i := 13) (v := undef) rfl (by decide) (by kernel_rfl) (by kernel_rfl) (by kernel_rfl) (fun _ _ _ h => h) (Or.inr ⟨by rfl, rfl⟩) hS1 (fun _ => hT0) ?_
    (try simp only [Act.put, List.getElem_toArray, List.getElem_cons_zero, List.getElem_cons_succ, List.setIfInBounds_toArray, List.set_cons_zero, List.set_cons_succ])
    refine wpAnyB_take (i := 14) (v := ?_) rfl (by decide) (by kernel_rfl) (by kernel_rfl) (by kernel_rfl) (fun _ _ _ h => h) (Or.inl ⟨by rfl, ?hy14⟩) hS1 (fun _ => hT0) ?_
    case hy14 => (intro W hSw; (try dsimp only at hSw); (try obtain ⟨hSw0, hSw1, hSw2, hSw3, hSw4, hSw5, hSw6, hSw7, hSw8, hSw9, hSw10⟩ := hSw); go_simp; try with_reducible rfl)
    (try simp only [Act.put, List.getElem_toArray, List.getElem_cons_zero, List.getElem_cons_succ, List.setIfInBounds_toArray, List.set_cons_zero, List.set_cons_succ])
    refine wpAnyB_ready (rs := [15]) (by kernel_rfl) (by simp) ?_
    refine AllReadyB.cons rfl (fun K hK => ?_) AllReadyB.nil
    go_simp
    refine hK.out _ _ hS1 (fun _ => trivial) ?_
    clear hK K
    (try simp only [Act.put, List.getElem_toArray, List.getElem_cons_zero, List.getElem_cons_succ, List.setIfInBounds_toArray, List.set_cons_zero, List.set_cons_succ])
    refine wpAnyB_end (by kernel_rfl) ?_
    clear hS0 hS1 hT0
    clear y0 y1 z0 z1 z2 z3 z4 z5 z6 z7 z8 klt klt2
    clear hb3
    have hB3 := hB0.trans (hC1.mono hB0.size)
    go_wp2
    go_ret
    exact ⟨ret_bool hf.out.symm, hB3⟩
  | true =>
    rw [e1] at h1
    have H1 := Lib.hid h1
    have hf : Hid (clauseB xs t c = guardSB c.gd (varsN xs 10 t c.pat)) := by unfold Hid clauseB; rw [guard_pat HTY.out e1, e1]; rfl
    have hsh : shapeB xs 10 t c.pat = true ∧ nodesP c.pat ≤ 4000000 := by
      have h := e1
      unfold patOkB at h
      simp only [Bool.and_eq_true, decide_eq_true_eq] at h
      exact ⟨h.1, by omega⟩
    have HSH := Lib.hid hsh
    have HB0 := Lib.hid hB0
    clear h1 e1 hsh hB0
    have hkeep : ∀ U U' : World, (U.cell? ⟨w.heap.size, 0, none⟩ = some (.int .i64 t.d) ∧ U.cell? ⟨w.heap.size, 1, none⟩ = some (.int .i64 t.i) ∧ U.cell? ⟨w.heap.size + 1, 0, none⟩ = some (.int .i64 c.pat.op) ∧ U.cell? ⟨w.heap.size + 1, 1, none⟩ = some (.int .i64 c.pat.ct) ∧ U.cell? ⟨w.heap.size + 1, 2, none⟩ = some (.int .i64 c.pat.n) ∧ U.cell? ⟨w.heap.size + 1, 3, none⟩ = some (.int .i64 c.pat.m) ∧ U.cell? ⟨w.heap.size + 1, 4, none⟩ = some (.int .i64 c.pat.va) ∧ U.cell? ⟨w.heap.size + 1, 5, none⟩ = some (.slice A4 c.pat.ks.length cap4) ∧ U.cell? ⟨w.heap.size + 1, 6, none⟩ = some (.int .i64 c.gd.op) ∧ U.cell? ⟨w.heap.size + 1, 7, none⟩ = some (.int .i64 c.gd.va) ∧ U.cell? ⟨w.heap.size + 1, 8, none⟩ = some (.int .i64 c.gd.n)) → Below U.heap.size U U' → W2.heap.size ≤ U.heap.size → (U'.cell? ⟨w.heap.size, 0, none⟩ = some (.int .i64 t.d) ∧ U'.cell? ⟨w.heap.size, 1, none⟩ = some (.int .i64 t.i) ∧ U'.cell? ⟨w.heap.size + 1, 0, none⟩ = some (.int .i64 c.pat.op) ∧ U'.cell? ⟨w.heap.size + 1, 1, none⟩ = some (.int .i64 c.pat.ct) ∧ U'.cell? ⟨w.heap.size + 1, 2, none⟩ = some (.int .i64 c.pat.n) ∧ U'.cell? ⟨w.heap.size + 1, 3, none⟩ = some (.int .i64 c.pat.m) ∧ U'.cell? ⟨w.heap.size + 1, 4, none⟩ = some (.int .i64 c.pat.va) ∧ U'.cell? ⟨w.heap.size + 1, 5, none⟩ = some (.slice A4 c.pat.ks.length cap4) ∧ U'.cell? ⟨w.heap.size + 1, 6, none⟩ = some (.int .i64 c.gd.op) ∧ U'.cell? ⟨w.heap.size + 1, 7, none⟩ = some (.int .i64 c.gd.va) ∧ U'.cell? ⟨w.heap.size + 1, 8, none⟩ = some (.int .i64 c.gd.n)) := fun U U' h hUU hU => ⟨(hUU.cell (Nat.lt_of_lt_of_le (klt) hU)).trans h.1, (hUU.cell (Nat.lt_of_lt_of_le (klt) hU)).trans h.2.1, (hUU.cell (Nat.lt_of_lt_of_le (klt2) hU)).trans h.2.2.1, (hUU.cell (Nat.lt_of_lt_of_le (klt2) hU)).trans h.2.2.2.1, (hUU.cell (Nat.lt_of_lt_of_le (klt2) hU)).trans h.2.2.2.2.1, (hUU.cell (Nat.lt_of_lt_of_le (klt2) hU)).trans h.2.2.2.2.2.1, (hUU.cell (Nat.lt_of_lt_of_le (klt2) hU)).trans h.2.2.2.2.2.2.1, (hUU.cell (Nat.lt_of_lt_of_le (klt2) hU)).trans h.2.2.2.2.2.2.2.1, (hUU.cell (Nat.lt_of_lt_of_le (klt2) hU)).trans h.2.2.2.2.2.2.2.2.1, (hUU.cell (Nat.lt_of_lt_of_le (klt2) hU)).trans h.2.2.2.2.2.2.2.2.2.1, (hUU.cell (Nat.lt_of_lt_of_le (klt2) hU)).trans h.2.2.2.2.2.2.2.2.2.2⟩
    have HKeep := Lib.hid hkeep
    clear hkeep
    go_region_held3 (fun w' => w'.cell? ⟨w.heap.size, 0, none⟩ = some (.int .i64 t.d) ∧ w'.cell? ⟨w.heap.size, 1, none⟩ = some (.int .i64 t.i) ∧ w'.cell? ⟨w.heap.size + 1, 0, none⟩ = some (.int .i64 c.pat.op) ∧ w'.cell? ⟨w.heap.size + 1, 1, none⟩ = some (.int .i64 c.pat.ct) ∧ w'.cell? ⟨w.heap.size + 1, 2, none⟩ = some (.int .i64 c.pat.n) ∧ w'.cell? ⟨w.heap.size + 1, 3, none⟩ = some (.int .i64 c.pat.m) ∧ w'.cell? ⟨w.heap.size + 1, 4, none⟩ = some (.int .i64 c.pat.va) ∧ w'.cell? ⟨w.heap.size + 1, 5, none⟩ = some (.slice A4 c.pat.ks.length cap4) ∧ w'.cell? ⟨w.heap.size + 1, 6, none⟩ = some (.int .i64 c.gd.op) ∧ w'.cell? ⟨w.heap.size + 1, 7, none⟩ = some (.int .i64 c.gd.va) ∧ w'.cell? ⟨w.heap.size + 1, 8, none⟩ = some (.int .i64 c.gd.n)) (first | assumption | (exact ⟨y0, y1, z0, z1, z2, z3, z4, z5, z6, z7, z8⟩) | (exact HKeep.out W2.drew w3 ⟨y0, y1, z0, z1, z2, z3, z4, z5, z6, z7, z8⟩ hb3 (Nat.le_refl _)) | (exact HKeep.out w3 w4 (by assumption) hb4 hlew3) | (exact HKeep.out w4 w5 (by assumption) hb5 hlew4)) (first | (go_at_call 94; ((with_reducible refine (H1.out).mono ?_); rintro e w3 ⟨rfl, hb3⟩); have hB3 := HB0.out.drew.trans (hb3.mono HB0.out.size); have hlew3 : W2.heap.size ≤ w3.heap.size := hb3.size) | (go_at_call 103; ((with_reducible refine (spec_l3VarsNil HW.out HT.out HSH.out.1 HSH.out.2 (ArrDt.below HX.out hB3 HF.out) (HF.out.mono hB3.size) (HP.out.below hB3 HG.out) (HG.out.mono hB3.size)).mono ?_); rintro e w4 ⟨v4, F4, rfl, hb4, ha4, hfr4, hfs4⟩); have hB4 := hB3.trans (hb4.mono hB3.size); have hlew4 : W2.heap.size ≤ w4.heap.size := Nat.le_trans hlew3 hb4.size) | (go_at_call 149; ((with_reducible refine (spec_l4Guard c.gd _ _ _ F4 ha4 hfs4.under).mono ?_); rintro e w5 ⟨rfl, hb5⟩)))
    have hB5 := hB4.trans (hb5.mono hB4.size)
    generalize guardSB c.gd (varsN xs 10 t c.pat) = bb at *
    clear y0 y1 z0 z1 z2 z3 z4 z5 z6 z7 z8 klt klt2
    clear hb3 hb4 hb5 ha4 hfr4 hfs4 hB3 hB4
    go_wp2
    go_ret
    exact ⟨ret_bool hf.out.symm, hB5⟩

set_option maxRecDepth 100000 in
set_option maxHeartbeats 1600000 in
theorem impl_clauseOk (xs : List Dt) (t : Ty) (hty : typeValidB xs t = true) (c : Cl) (_ : c.pat.size ≤ 1048576) (w : World) (x : Value) (F : List Nat) (cs : List Value) (G : List Nat) (hx : Arr w (DtR w) xs x F) (hf : Under w.heap.size F) (hv : ClR w c cs G) (hg : Under w.heap.size G) :
    Calls Try.prog 99 #[x, .agg #[.int .i64 t.d, .int .i64 t.i], .agg cs.toArray] w fun e w' => e = .returned (.bool (clauseB xs t c)) ∧ Below w.heap.size w w' := by
  obtain ⟨ds, rfl, hp⟩ := id hv
  obtain ⟨kv, rfl, ha⟩ := (PR_iff _ _ _).1 hp
  obtain ⟨A, cap, rfl, hc1, hc2⟩ := hx.form
  obtain ⟨A4, cap4, rfl, hc3, hc4⟩ := ha.form
  have HV := Lib.hid hv
  have HP := Lib.hid hp
  have HX := Lib.hid hx
  have HF := Lib.hid hf
  have HG := Lib.hid hg
  clear hx hf hg
  clear hv hp ha
  simp only [List.cons_append, List.nil_append] at HV ⊢
  obtain ⟨hw, hto⟩ := typeValid_split hty
  have HW := Lib.hid hw
  have HT := Lib.hid (typeOkB_tyIn hto)
  clear hty hw hto
  go_enter Try.func99, Try.ntmps99
  go_wp2_with fail
  obtain ⟨W2, hW2⟩ : ∃ W2, W2 = ((w.alloc (.cells #[.int .i64 t.d, .int .i64 t.i] 37)).alloc (.cells #[.int .i64 c.pat.op, .int .i64 c.pat.ct, .int .i64 c.pat.n, .int .i64 c.pat.m, .int .i64 c.pat.va, .slice A4 c.pat.ks.length cap4, .int .i64 c.gd.op, .int .i64 c.gd.va, .int .i64 c.gd.n] 68)) := ⟨_, rfl⟩
  have hB0 : Below w.heap.size w W2 := by rw [hW2]; exact ((Below.refl _ _).alloc (Nat.le_refl _) _).alloc (by simp) _
  have KT : Hid (Blk W2 w.heap.size 37 #[.int .i64 t.d, .int .i64 t.i]) := by rw [hW2]; exact (Blk.new w _ _).same (Below.heap_alloc _ _ _ (by simp))
  have KP : Hid (Blk W2 (w.heap.size + 1) 68 #[.int .i64 c.pat.op, .int .i64 c.pat.ct, .int .i64 c.pat.n, .int .i64 c.pat.m, .int .i64 c.pat.va, .slice A4 c.pat.ks.length cap4, .int .i64 c.gd.op, .int .i64 c.gd.va, .int .i64 c.gd.n]) := by rw [hW2]; have h := Blk.new (w.alloc (.cells #[.int .i64 t.d, .int .i64 t.i] 37)) 68 #[.int .i64 c.pat.op, .int .i64 c.pat.ct, .int .i64 c.pat.n, .int .i64 c.pat.m, .int .i64 c.pat.va, .slice A4 c.pat.ks.length cap4, .int .i64 c.gd.op, .int .i64 c.gd.va, .int .i64 c.gd.n]; rw [World.size_alloc] at h; exact h
  rw [← hW2]
  clear hW2
  have y0 : W2.cell? ⟨w.heap.size, 0, none⟩ = some (.int .i64 t.d) := (KT.out.cell 0).trans (by simp)
  have y1 : W2.cell? ⟨w.heap.size, 1, none⟩ = some (.int .i64 t.i) := (KT.out.cell 1).trans (by simp)
  have klt := KT.out.lt
  have z0 : W2.cell? ⟨w.heap.size + 1, 0, none⟩ = some (.int .i64 c.pat.op) := (KP.out.cell 0).trans (by simp)
  have z1 : W2.cell? ⟨w.heap.size + 1, 1, none⟩ = some (.int .i64 c.pat.ct) := (KP.out.cell 1).trans (by simp)
  have z2 : W2.cell? ⟨w.heap.size + 1, 2, none⟩ = some (.int .i64 c.pat.n) := (KP.out.cell 2).trans (by simp)
  have z3 : W2.cell? ⟨w.heap.size + 1, 3, none⟩ = some (.int .i64 c.pat.m) := (KP.out.cell 3).trans (by simp)
  have z4 : W2.cell? ⟨w.heap.size + 1, 4, none⟩ = some (.int .i64 c.pat.va) := (KP.out.cell 4).trans (by simp)
  have z5 : W2.cell? ⟨w.heap.size + 1, 5, none⟩ = some (.slice A4 c.pat.ks.length cap4) := (KP.out.cell 5).trans (by simp)
  have z6 : W2.cell? ⟨w.heap.size + 1, 6, none⟩ = some (.int .i64 c.gd.op) := (KP.out.cell 6).trans (by simp)
  have z7 : W2.cell? ⟨w.heap.size + 1, 7, none⟩ = some (.int .i64 c.gd.va) := (KP.out.cell 7).trans (by simp)
  have z8 : W2.cell? ⟨w.heap.size + 1, 8, none⟩ = some (.int .i64 c.gd.n) := (KP.out.cell 8).trans (by simp)
  have klt2 := KP.out.lt
  go_wp2_with fail
  refine (impl_patternVars xs HW.out t HT.out c.pat W2 _ F _ G (ArrDt.below HX.out hB0 HF.out) (HF.out.mono hB0.size) (HP.out.below hB0 HG.out) (HG.out.mono hB0.size)).mono ?_
  rintro e w3 ⟨v3, F3, rfl, hb3, hy, hn⟩
  have hB3 := hB0.trans (hb3.mono hB0.size)
  have KT3 := Lib.hid (KT.out.same (hb3.block _ KT.out.lt))
  have KP3 := Lib.hid (KP.out.same (hb3.block _ KP.out.lt))
  clear y0 y1 z0 z1 z2 z3 z4 z5 z6 z7 z8 klt klt2
  have y0 : w3.cell? ⟨w.heap.size, 0, none⟩ = some (.int .i64 t.d) := (KT3.out.cell 0).trans (by simp)
  have y1 : w3.cell? ⟨w.heap.size, 1, none⟩ = some (.int .i64 t.i) := (KT3.out.cell 1).trans (by simp)
  have klt := KT3.out.lt
  have z0 : w3.cell? ⟨w.heap.size + 1, 0, none⟩ = some (.int .i64 c.pat.op) := (KP3.out.cell 0).trans (by simp)
  have z1 : w3.cell? ⟨w.heap.size + 1, 1, none⟩ = some (.int .i64 c.pat.ct) := (KP3.out.cell 1).trans (by simp)
  have z2 : w3.cell? ⟨w.heap.size + 1, 2, none⟩ = some (.int .i64 c.pat.n) := (KP3.out.cell 2).trans (by simp)
  have z3 : w3.cell? ⟨w.heap.size + 1, 3, none⟩ = some (.int .i64 c.pat.m) := (KP3.out.cell 3).trans (by simp)
  have z4 : w3.cell? ⟨w.heap.size + 1, 4, none⟩ = some (.int .i64 c.pat.va) := (KP3.out.cell 4).trans (by simp)
  have z5 : w3.cell? ⟨w.heap.size + 1, 5, none⟩ = some (.slice A4 c.pat.ks.length cap4) := (KP3.out.cell 5).trans (by simp)
  have z6 : w3.cell? ⟨w.heap.size + 1, 6, none⟩ = some (.int .i64 c.gd.op) := (KP3.out.cell 6).trans (by simp)
  have z7 : w3.cell? ⟨w.heap.size + 1, 7, none⟩ = some (.int .i64 c.gd.va) := (KP3.out.cell 7).trans (by simp)
  have z8 : w3.cell? ⟨w.heap.size + 1, 8, none⟩ = some (.int .i64 c.gd.n) := (KP3.out.cell 8).trans (by simp)
  have klt2 := KP3.out.lt
  clear hb3 KT KP hB0
  cases e1 : patOkB xs t c.pat with
  | false =>
    have hf : Hid (clauseB xs t c = false) := by unfold Hid clauseB; rw [e1]; rfl
    clear e1 hy hn
    go_wp2
    go_ret
    exact ⟨ret_bool hf.out.symm, hB3⟩
  | true =>
    have hf : Hid (clauseB xs t c = guardB c.gd (varsN xs 10 t c.pat)) := by unfold Hid clauseB; rw [e1]; rfl
    have hy3 := hy e1
    have HA3 := Lib.hid hy3.1
    have HU3 := Lib.hid hy3.2.2.under
    clear e1 hy hn hy3
    go_wp2_with fail
    refine (impl_guardOk c.gd _ w3 _ F3 HA3.out HU3.out).mono ?_
    rintro e w4 ⟨rfl, hb4⟩
    have hB4 := hB3.trans (hb4.mono hB3.size)
    generalize guardB c.gd (varsN xs 10 t c.pat) = bb at *
    clear y0 y1 z0 z1 z2 z3 z4 z5 z6 z7 z8 klt klt2
    clear hb4
    go_wp2
    go_ret
    exact ⟨ret_bool hf.out.symm, hB4⟩

set_option maxRecDepth 100000 in
set_option maxHeartbeats 1600000 in
theorem spec_ClauseValid (xs : List Dt) (t : Ty) (c : Cl) (hz0 : c.size ≤ 1048576) (w : World) (x : Value) (F : List Nat) (cs : List Value) (G : List Nat) (hx : Arr w (DtR w) xs x F) (hf : Under w.heap.size F) (hv : ClR w c cs G) (hg : Under w.heap.size G) :
    Calls Try.prog 37 #[x, .agg #[.int .i64 t.d, .int .i64 t.i], .agg cs.toArray] w fun e w' => e = .returned (.bool (clauseValidB xs t c)) ∧ Below w.heap.size w w' := by
  have hz : c.pat.size ≤ 1048576 := hz0
  clear hz0
  obtain ⟨ds, rfl, hp⟩ := id hv
  obtain ⟨kv, rfl, ha⟩ := (PR_iff _ _ _).1 hp
  obtain ⟨A, cap, rfl, hc1, hc2⟩ := hx.form
  obtain ⟨A4, cap4, rfl, hc3, hc4⟩ := ha.form
  have HV := Lib.hid hv
  have HP := Lib.hid hp
  have HX := Lib.hid hx
  have HF := Lib.hid hf
  have HG := Lib.hid hg
  clear hx hf hg
  clear hv hp ha
  simp only [List.cons_append, List.nil_append] at HV ⊢
  go_enter Try.func37, Try.ntmps37
  go_wp2_with fail
  obtain ⟨W2, hW2⟩ : ∃ W2, W2 = ((w.alloc (.cells #[.int .i64 t.d, .int .i64 t.i] 37)).alloc (.cells #[.int .i64 c.pat.op, .int .i64 c.pat.ct, .int .i64 c.pat.n, .int .i64 c.pat.m, .int .i64 c.pat.va, .slice A4 c.pat.ks.length cap4, .int .i64 c.gd.op, .int .i64 c.gd.va, .int .i64 c.gd.n] 68)) := ⟨_, rfl⟩
  have hB0 : Below w.heap.size w W2 := by rw [hW2]; exact ((Below.refl _ _).alloc (Nat.le_refl _) _).alloc (by simp) _
  have KT : Hid (Blk W2 w.heap.size 37 #[.int .i64 t.d, .int .i64 t.i]) := by rw [hW2]; exact (Blk.new w _ _).same (Below.heap_alloc _ _ _ (by simp))
  have KP : Hid (Blk W2 (w.heap.size + 1) 68 #[.int .i64 c.pat.op, .int .i64 c.pat.ct, .int .i64 c.pat.n, .int .i64 c.pat.m, .int .i64 c.pat.va, .slice A4 c.pat.ks.length cap4, .int .i64 c.gd.op, .int .i64 c.gd.va, .int .i64 c.gd.n]) := by rw [hW2]; have h := Blk.new (w.alloc (.cells #[.int .i64 t.d, .int .i64 t.i] 37)) 68 #[.int .i64 c.pat.op, .int .i64 c.pat.ct, .int .i64 c.pat.n, .int .i64 c.pat.m, .int .i64 c.pat.va, .slice A4 c.pat.ks.length cap4, .int .i64 c.gd.op, .int .i64 c.gd.va, .int .i64 c.gd.n]; rw [World.size_alloc] at h; exact h
  rw [← hW2]
  clear hW2
  have y0 : W2.cell? ⟨w.heap.size, 0, none⟩ = some (.int .i64 t.d) := (KT.out.cell 0).trans (by simp)
  have y1 : W2.cell? ⟨w.heap.size, 1, none⟩ = some (.int .i64 t.i) := (KT.out.cell 1).trans (by simp)
  have klt := KT.out.lt
  have z0 : W2.cell? ⟨w.heap.size + 1, 0, none⟩ = some (.int .i64 c.pat.op) := (KP.out.cell 0).trans (by simp)
  have z1 : W2.cell? ⟨w.heap.size + 1, 1, none⟩ = some (.int .i64 c.pat.ct) := (KP.out.cell 1).trans (by simp)
  have z2 : W2.cell? ⟨w.heap.size + 1, 2, none⟩ = some (.int .i64 c.pat.n) := (KP.out.cell 2).trans (by simp)
  have z3 : W2.cell? ⟨w.heap.size + 1, 3, none⟩ = some (.int .i64 c.pat.m) := (KP.out.cell 3).trans (by simp)
  have z4 : W2.cell? ⟨w.heap.size + 1, 4, none⟩ = some (.int .i64 c.pat.va) := (KP.out.cell 4).trans (by simp)
  have z5 : W2.cell? ⟨w.heap.size + 1, 5, none⟩ = some (.slice A4 c.pat.ks.length cap4) := (KP.out.cell 5).trans (by simp)
  have z6 : W2.cell? ⟨w.heap.size + 1, 6, none⟩ = some (.int .i64 c.gd.op) := (KP.out.cell 6).trans (by simp)
  have z7 : W2.cell? ⟨w.heap.size + 1, 7, none⟩ = some (.int .i64 c.gd.va) := (KP.out.cell 7).trans (by simp)
  have z8 : W2.cell? ⟨w.heap.size + 1, 8, none⟩ = some (.int .i64 c.gd.n) := (KP.out.cell 8).trans (by simp)
  have klt2 := KP.out.lt
  go_wp2_with fail
  refine (spec_TypeValid xs t W2 _ F (ArrDt.below HX.out hB0 HF.out) (HF.out.mono hB0.size)).mono ?_
  rintro e w3 ⟨rfl, hb3⟩
  have hB3 := hB0.trans (hb3.mono hB0.size)
  have KT3 := Lib.hid (KT.out.same (hb3.block _ KT.out.lt))
  have KP3 := Lib.hid (KP.out.same (hb3.block _ KP.out.lt))
  clear y0 y1 z0 z1 z2 z3 z4 z5 z6 z7 z8 klt klt2
  have y0 : w3.cell? ⟨w.heap.size, 0, none⟩ = some (.int .i64 t.d) := (KT3.out.cell 0).trans (by simp)
  have y1 : w3.cell? ⟨w.heap.size, 1, none⟩ = some (.int .i64 t.i) := (KT3.out.cell 1).trans (by simp)
  have klt := KT3.out.lt
  have z0 : w3.cell? ⟨w.heap.size + 1, 0, none⟩ = some (.int .i64 c.pat.op) := (KP3.out.cell 0).trans (by simp)
  have z1 : w3.cell? ⟨w.heap.size + 1, 1, none⟩ = some (.int .i64 c.pat.ct) := (KP3.out.cell 1).trans (by simp)
  have z2 : w3.cell? ⟨w.heap.size + 1, 2, none⟩ = some (.int .i64 c.pat.n) := (KP3.out.cell 2).trans (by simp)
  have z3 : w3.cell? ⟨w.heap.size + 1, 3, none⟩ = some (.int .i64 c.pat.m) := (KP3.out.cell 3).trans (by simp)
  have z4 : w3.cell? ⟨w.heap.size + 1, 4, none⟩ = some (.int .i64 c.pat.va) := (KP3.out.cell 4).trans (by simp)
  have z5 : w3.cell? ⟨w.heap.size + 1, 5, none⟩ = some (.slice A4 c.pat.ks.length cap4) := (KP3.out.cell 5).trans (by simp)
  have z6 : w3.cell? ⟨w.heap.size + 1, 6, none⟩ = some (.int .i64 c.gd.op) := (KP3.out.cell 6).trans (by simp)
  have z7 : w3.cell? ⟨w.heap.size + 1, 7, none⟩ = some (.int .i64 c.gd.va) := (KP3.out.cell 7).trans (by simp)
  have z8 : w3.cell? ⟨w.heap.size + 1, 8, none⟩ = some (.int .i64 c.gd.n) := (KP3.out.cell 8).trans (by simp)
  have klt2 := KP3.out.lt
  clear hb3 KT KP
  cases e1 : typeValidB xs t with
  | false =>
    have hf : Hid (clauseValidB xs t c = false) := by unfold Hid clauseValidB; rw [e1]; rfl
    clear e1
    go_wp2
    go_ret
    exact ⟨ret_bool hf.out.symm, hB3⟩
  | true =>
    have hf : Hid (clauseValidB xs t c = clauseB xs t c) := by unfold Hid clauseValidB; rw [e1]; rfl
    have HE := Lib.hid e1
    clear e1
    go_wp2_with fail
    refine (spec_l4Is xs t HE.out c hz w3 _ F _ G (ArrDt.below HX.out hB3 HF.out) (HF.out.mono hB3.size) (HV.out.below hB3 HG.out) (HG.out.mono hB3.size)).mono ?_
    rintro e w4 ⟨rfl, hb4⟩
    have hB4 := hB3.trans (hb4.mono hB3.size)
    generalize clauseB xs t c = bb at *
    clear y0 y1 z0 z1 z2 z3 z4 z5 z6 z7 z8 klt klt2
    clear hb4
    go_wp2
    go_ret
    exact ⟨ret_bool hf.out.symm, hB4⟩

set_option maxRecDepth 100000 in
set_option maxHeartbeats 1600000 in
theorem impl_ClauseValid (xs : List Dt) (t : Ty) (c : Cl) (hz0 : c.size ≤ 1048576) (w : World) (x : Value) (F : List Nat) (cs : List Value) (G : List Nat) (hx : Arr w (DtR w) xs x F) (hf : Under w.heap.size F) (hv : ClR w c cs G) (hg : Under w.heap.size G) :
    Calls Try.prog 39 #[x, .agg #[.int .i64 t.d, .int .i64 t.i], .agg cs.toArray] w fun e w' => e = .returned (.bool (clauseValidB xs t c)) ∧ Below w.heap.size w w' := by
  have hz : c.pat.size ≤ 1048576 := hz0
  clear hz0
  obtain ⟨ds, rfl, hp⟩ := id hv
  obtain ⟨kv, rfl, ha⟩ := (PR_iff _ _ _).1 hp
  obtain ⟨A, cap, rfl, hc1, hc2⟩ := hx.form
  obtain ⟨A4, cap4, rfl, hc3, hc4⟩ := ha.form
  have HV := Lib.hid hv
  have HP := Lib.hid hp
  have HX := Lib.hid hx
  have HF := Lib.hid hf
  have HG := Lib.hid hg
  clear hx hf hg
  clear hv hp ha
  simp only [List.cons_append, List.nil_append] at HV ⊢
  go_enter Try.func39, Try.ntmps39
  go_wp2_with fail
  obtain ⟨W2, hW2⟩ : ∃ W2, W2 = ((w.alloc (.cells #[.int .i64 t.d, .int .i64 t.i] 37)).alloc (.cells #[.int .i64 c.pat.op, .int .i64 c.pat.ct, .int .i64 c.pat.n, .int .i64 c.pat.m, .int .i64 c.pat.va, .slice A4 c.pat.ks.length cap4, .int .i64 c.gd.op, .int .i64 c.gd.va, .int .i64 c.gd.n] 68)) := ⟨_, rfl⟩
  have hB0 : Below w.heap.size w W2 := by rw [hW2]; exact ((Below.refl _ _).alloc (Nat.le_refl _) _).alloc (by simp) _
  have KT : Hid (Blk W2 w.heap.size 37 #[.int .i64 t.d, .int .i64 t.i]) := by rw [hW2]; exact (Blk.new w _ _).same (Below.heap_alloc _ _ _ (by simp))
  have KP : Hid (Blk W2 (w.heap.size + 1) 68 #[.int .i64 c.pat.op, .int .i64 c.pat.ct, .int .i64 c.pat.n, .int .i64 c.pat.m, .int .i64 c.pat.va, .slice A4 c.pat.ks.length cap4, .int .i64 c.gd.op, .int .i64 c.gd.va, .int .i64 c.gd.n]) := by rw [hW2]; have h := Blk.new (w.alloc (.cells #[.int .i64 t.d, .int .i64 t.i] 37)) 68 #[.int .i64 c.pat.op, .int .i64 c.pat.ct, .int .i64 c.pat.n, .int .i64 c.pat.m, .int .i64 c.pat.va, .slice A4 c.pat.ks.length cap4, .int .i64 c.gd.op, .int .i64 c.gd.va, .int .i64 c.gd.n]; rw [World.size_alloc] at h; exact h
  rw [← hW2]
  clear hW2
  have y0 : W2.cell? ⟨w.heap.size, 0, none⟩ = some (.int .i64 t.d) := (KT.out.cell 0).trans (by simp)
  have y1 : W2.cell? ⟨w.heap.size, 1, none⟩ = some (.int .i64 t.i) := (KT.out.cell 1).trans (by simp)
  have klt := KT.out.lt
  have z0 : W2.cell? ⟨w.heap.size + 1, 0, none⟩ = some (.int .i64 c.pat.op) := (KP.out.cell 0).trans (by simp)
  have z1 : W2.cell? ⟨w.heap.size + 1, 1, none⟩ = some (.int .i64 c.pat.ct) := (KP.out.cell 1).trans (by simp)
  have z2 : W2.cell? ⟨w.heap.size + 1, 2, none⟩ = some (.int .i64 c.pat.n) := (KP.out.cell 2).trans (by simp)
  have z3 : W2.cell? ⟨w.heap.size + 1, 3, none⟩ = some (.int .i64 c.pat.m) := (KP.out.cell 3).trans (by simp)
  have z4 : W2.cell? ⟨w.heap.size + 1, 4, none⟩ = some (.int .i64 c.pat.va) := (KP.out.cell 4).trans (by simp)
  have z5 : W2.cell? ⟨w.heap.size + 1, 5, none⟩ = some (.slice A4 c.pat.ks.length cap4) := (KP.out.cell 5).trans (by simp)
  have z6 : W2.cell? ⟨w.heap.size + 1, 6, none⟩ = some (.int .i64 c.gd.op) := (KP.out.cell 6).trans (by simp)
  have z7 : W2.cell? ⟨w.heap.size + 1, 7, none⟩ = some (.int .i64 c.gd.va) := (KP.out.cell 7).trans (by simp)
  have z8 : W2.cell? ⟨w.heap.size + 1, 8, none⟩ = some (.int .i64 c.gd.n) := (KP.out.cell 8).trans (by simp)
  have klt2 := KP.out.lt
  go_wp2_with fail
  refine (impl_TypeValid xs t W2 _ F (ArrDt.below HX.out hB0 HF.out) (HF.out.mono hB0.size)).mono ?_
  rintro e w3 ⟨rfl, hb3⟩
  have hB3 := hB0.trans (hb3.mono hB0.size)
  have KT3 := Lib.hid (KT.out.same (hb3.block _ KT.out.lt))
  have KP3 := Lib.hid (KP.out.same (hb3.block _ KP.out.lt))
  clear y0 y1 z0 z1 z2 z3 z4 z5 z6 z7 z8 klt klt2
  have y0 : w3.cell? ⟨w.heap.size, 0, none⟩ = some (.int .i64 t.d) := (KT3.out.cell 0).trans (by simp)
  have y1 : w3.cell? ⟨w.heap.size, 1, none⟩ = some (.int .i64 t.i) := (KT3.out.cell 1).trans (by simp)
  have klt := KT3.out.lt
  have z0 : w3.cell? ⟨w.heap.size + 1, 0, none⟩ = some (.int .i64 c.pat.op) := (KP3.out.cell 0).trans (by simp)
  have z1 : w3.cell? ⟨w.heap.size + 1, 1, none⟩ = some (.int .i64 c.pat.ct) := (KP3.out.cell 1).trans (by simp)
  have z2 : w3.cell? ⟨w.heap.size + 1, 2, none⟩ = some (.int .i64 c.pat.n) := (KP3.out.cell 2).trans (by simp)
  have z3 : w3.cell? ⟨w.heap.size + 1, 3, none⟩ = some (.int .i64 c.pat.m) := (KP3.out.cell 3).trans (by simp)
  have z4 : w3.cell? ⟨w.heap.size + 1, 4, none⟩ = some (.int .i64 c.pat.va) := (KP3.out.cell 4).trans (by simp)
  have z5 : w3.cell? ⟨w.heap.size + 1, 5, none⟩ = some (.slice A4 c.pat.ks.length cap4) := (KP3.out.cell 5).trans (by simp)
  have z6 : w3.cell? ⟨w.heap.size + 1, 6, none⟩ = some (.int .i64 c.gd.op) := (KP3.out.cell 6).trans (by simp)
  have z7 : w3.cell? ⟨w.heap.size + 1, 7, none⟩ = some (.int .i64 c.gd.va) := (KP3.out.cell 7).trans (by simp)
  have z8 : w3.cell? ⟨w.heap.size + 1, 8, none⟩ = some (.int .i64 c.gd.n) := (KP3.out.cell 8).trans (by simp)
  have klt2 := KP3.out.lt
  clear hb3 KT KP
  cases e1 : typeValidB xs t with
  | false =>
    have hf : Hid (clauseValidB xs t c = false) := by unfold Hid clauseValidB; rw [e1]; rfl
    clear e1
    go_wp2
    go_ret
    exact ⟨ret_bool hf.out.symm, hB3⟩
  | true =>
    have hf : Hid (clauseValidB xs t c = clauseB xs t c) := by unfold Hid clauseValidB; rw [e1]; rfl
    have HE := Lib.hid e1
    clear e1
    go_wp2_with fail
    refine (impl_clauseOk xs t HE.out c hz w3 _ F _ G (ArrDt.below HX.out hB3 HF.out) (HF.out.mono hB3.size) (HV.out.below hB3 HG.out) (HG.out.mono hB3.size)).mono ?_
    rintro e w4 ⟨rfl, hb4⟩
    have hB4 := hB3.trans (hb4.mono hB3.size)
    generalize clauseB xs t c = bb at *
    clear y0 y1 z0 z1 z2 z3 z4 z5 z6 z7 z8 klt klt2
    clear hb4
    go_wp2
    go_ret
    exact ⟨ret_bool hf.out.symm, hB4⟩
end Go.Proofs.Ytbffkgfhcmigaaa

namespace Go.Proofs.Ytbffkgfhcmigaaa
open Go.ChangeShapes Go.WideShapes Go.ChangeAt Go.RowKit
set_option maxRecDepth 100000

theorem cellsOf_lawsGd : Try.prog.cellsOf 61 = 3 := by kernel_rfl

theorem open_Gd_cells {H : Type} {enc : TypeId × Value → H} {w : World} {base : Nat} {spare : Nat → Bool} {held : Bool} (fuel : Nat) (cs : List Value) (x : DataW H × List MemPlace)
    (h : DataW.trod enc Try.prog w base spare held fuel 61 cs = some x) : ∃ v F, GdR w v cs F ∧ Under w.heap.size F := by
  obtain ⟨xs, n, rfl, -, hl, hxl, hf⟩ := DataW.trod_struct Try.underlying61 h
  rw [cellsOf_lawsGd] at hl
  match cs, hl with
  | [c0, c1, c2], _ =>
  obtain ⟨y0, f0⟩ := sub_field hf hxl 0 _ rfl 1 0 (by kernel_rfl) rfl
  obtain ⟨i0, e0, -, -⟩ := DataW.trod_int Try.underlying3 f0
  obtain rfl : c0 = .int .i64 i0 := by simpa using e0
  obtain ⟨y1, f1⟩ := sub_field hf hxl 1 _ rfl 1 1 (by kernel_rfl) rfl
  obtain ⟨i1, e1, -, -⟩ := DataW.trod_int Try.underlying3 f1
  obtain rfl : c1 = .int .i64 i1 := by simpa using e1
  obtain ⟨y2, f2⟩ := sub_field hf hxl 2 _ rfl 1 2 (by kernel_rfl) rfl
  obtain ⟨i2, e2, -, -⟩ := DataW.trod_int Try.underlying3 f2
  obtain rfl : c2 = .int .i64 i2 := by simpa using e2
  exact ⟨⟨i0, i1, i2⟩, [], ⟨rfl, rfl⟩, Under.nil _⟩

theorem open_Gd {H : Type} {enc : TypeId × Value → H} {w : World} {base : Nat} {spare : Nat → Bool} {held : Bool} {r : Reach} {b0 : Nat} {v : Value} {d : DataW H} {ps : List MemPlace} (hval : Value.okWide Try.prog w r b0 61 v)
    (h : DataW.Trod enc Try.prog w base spare held 61 v d ps) : ∃ (x : Gd) (cs : List Value) (F : List Nat), v = .agg cs.toArray ∧ GdR w x cs F ∧ Under w.heap.size F := by
  obtain ⟨cs, rfl, -⟩ := okWide_struct Try.underlying61 hval
  obtain ⟨fuel, hf⟩ := h
  obtain ⟨x, F, h1, h2⟩ := open_Gd_cells fuel _ _ hf
  exact ⟨x, cs.toList, F, by simp, h1, h2⟩
end Go.Proofs.Ytbffkgfhcmigaaa

namespace Go.Proofs.Ytbffkgfhcmigaaa
open Go.ChangeShapes Go.WideShapes Go.ChangeAt Go.RowKit
set_option maxRecDepth 100000

theorem cellsOf_lawsCl : Try.prog.cellsOf 63 = 9 := by kernel_rfl

theorem open_Cl_cells {H : Type} {enc : TypeId × Value → H} {w : World} {base : Nat} {spare : Nat → Bool} {held : Bool} (fuel : Nat) (cs : List Value) (x : DataW H × List MemPlace)
    (h : DataW.trod enc Try.prog w base spare held fuel 63 cs = some x) : ∃ v F, ClR w v cs F ∧ Under w.heap.size F := by
  obtain ⟨xs, n, rfl, -, hl, hxl, hf⟩ := DataW.trod_struct Try.underlying63 h
  rw [cellsOf_lawsCl] at hl
  match cs, hl with
  | [c0, c1, c2, c3, c4, c5, c6, c7, c8], _ =>
  obtain ⟨y0, f0⟩ := sub_field hf hxl 0 _ rfl 6 0 (by kernel_rfl) rfl
  obtain ⟨v0, F0, r0, u0⟩ := open_P_cells n [c0, c1, c2, c3, c4, c5] y0 f0
  obtain ⟨y1, f1⟩ := sub_field hf hxl 1 _ rfl 3 6 (by kernel_rfl) rfl
  obtain ⟨v1, F1, r1, u1⟩ := open_Gd_cells n [c6, c7, c8] y1 f1
  have rr1 := GdR_form r1
  simp only [List.cons.injEq, and_true] at rr1
  obtain ⟨rfl, rfl, rfl⟩ := rr1
  exact ⟨⟨v0, v1⟩, F0, ⟨_, rfl, r0⟩, u0⟩

theorem open_Cl {H : Type} {enc : TypeId × Value → H} {w : World} {base : Nat} {spare : Nat → Bool} {held : Bool} {r : Reach} {b0 : Nat} {v : Value} {d : DataW H} {ps : List MemPlace} (hval : Value.okWide Try.prog w r b0 63 v)
    (h : DataW.Trod enc Try.prog w base spare held 63 v d ps) : ∃ (x : Cl) (cs : List Value) (F : List Nat), v = .agg cs.toArray ∧ ClR w x cs F ∧ Under w.heap.size F := by
  obtain ⟨cs, rfl, -⟩ := okWide_struct Try.underlying63 hval
  obtain ⟨fuel, hf⟩ := h
  obtain ⟨x, F, h1, h2⟩ := open_Cl_cells fuel _ _ hf
  exact ⟨x, cs.toList, F, by simp, h1, h2⟩
theorem open_Cls {H : Type} {enc : TypeId × Value → H} {w : World} {base : Nat} {spare : Nat → Bool} {held : Bool} {r : Reach} {b0 : Nat} {v : Value} {d : DataW H} {ps : List MemPlace} (hval : Value.okWide Try.prog w r b0 72 v)
    (h : DataW.Trod enc Try.prog w base spare held 72 v d ps) : ∃ (x : List Cl) (F : List Nat), Arr w (ClR w) x v F ∧ Under w.heap.size F :=
  open_slice_arg (ClR w) Try.underlying72 cellsOf_lawsCl (by decide) (fun n ds y hd => open_Cl_cells n ds y hd) hval h
end Go.Proofs.Ytbffkgfhcmigaaa
