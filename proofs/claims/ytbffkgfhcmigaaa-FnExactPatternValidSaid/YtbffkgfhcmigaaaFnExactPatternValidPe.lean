/-
  Lemmas and contracts of functions: PatternValid and PatternVars of the program. Conditions: none but the size. What comes in as an argument (slices of structs, trees) lies in memory as the plain data say. Conditions: none. A Type that comes in as an argument lies in memory as the plain data say. Conditions: none. A Ctor that comes in as an argument lies in memory as the plain data say. Conditions: none. A Data that comes in as an argument lies in memory as the plain data say. Conditions: none. A Pattern that comes in as an argument lies in memory as the plain data say. Conditions: none.
-/
import Derived.Test.YtbffkgfhcmigaaaFnExactPatternValidPd
import Derived.Test.YtbffkgfhcmigaaaFnExactPatternValidPb
import Derived.Deep.RegionHeld3
import Derived.Deep.RegionWith
import Derived.Deep.QuietTactic
import Derived.BigQuiet
import Derived.IntWalk
import Derived.Test.YtbffkgfhcmigaaaFnExactPatternValidPa
import Derived.ProofKit
import Derived.ChangeArms
import Derived.Deep.Fields
import Derived.Test.YtbffkgfhcmigaaaChecked

set_option linter.unusedVariables false
set_option linter.unusedSimpArgs false

namespace Go.Proofs.Ytbffkgfhcmigaaa
open Go.RowKit

def VarsIP (xs : List Dt) (t : Ty) (p : P) (w : World) (e : Ending) (w' : World) : Prop :=
  ∃ (v : Value) (F : List Nat), e = .returned (.tuple #[v, .bool (patOkB xs t p)]) ∧ Below w.heap.size w w' ∧ (patOkB xs t p = true → Arr w' (VtR w') (varsN xs 10 t p) v F ∧ Free w' F ∧ Fresh w w' F) ∧ (patOkB xs t p = false → v = .slice none 0 0)
theorem patOk_scan (xs : List Dt) (t : Ty) (p : P) : scanPB xs 10 t p 0 = patOkB xs t p := by unfold scanPB patOkB; rw [Nat.zero_add]
set_option maxRecDepth 100000 in
set_option maxHeartbeats 1600000 in
theorem impl_patternVars (xs : List Dt) (hw : WorldOK xs) (t : Ty) (ht : TyIn xs.length t) (p : P) (w : World) (x : Value) (F : List Nat) (cs : List Value) (G : List Nat) : Arr w (DtR w) xs x F → Under w.heap.size F → PR w p cs G → Under w.heap.size G →
    Calls Try.prog 104 #[x, .agg #[.int .i64 t.d, .int .i64 t.i], .agg cs.toArray] w (VarsIP xs t p w) := by
  intro hx hf hv hg
  obtain ⟨kv, rfl, ha⟩ := (PR_iff _ _ _).1 hv
  obtain ⟨A, cap, rfl, hc1, hc2⟩ := hx.form
  obtain ⟨A4, cap4, rfl, hc3, hc4⟩ := ha.form
  have HV := Lib.hid hv
  have HX := Lib.hid hx
  have HF := Lib.hid hf
  have HA := Lib.hid ha
  have HG := Lib.hid hg
  clear hx hf ha hg
  clear hv
  have HW := Lib.hid hw
  have HT := Lib.hid ht
  clear hw ht
  go_enter Try.func104, Try.ntmps104
  go_wp2_with fail
  obtain ⟨W2, hW2⟩ : ∃ W2, W2 = (((w.alloc (.cells #[.int .i64 t.d, .int .i64 t.i] 37)).alloc (.cells #[.int .i64 p.op, .int .i64 p.ct, .int .i64 p.n, .int .i64 p.m, .int .i64 p.va, .slice A4 p.ks.length cap4] 32)).alloc (.cells #[.int .i64 0] 3)) := ⟨_, rfl⟩
  have hB0 : Below w.heap.size w W2 := by rw [hW2]; exact (((Below.refl _ _).alloc (Nat.le_refl _) _).alloc (by simp) _).alloc (by simp; omega) _
  have KG : Hid (Blk W2 (w.heap.size + 2) 3 #[.int .i64 ((0 : Nat) : Int)]) := by
    rw [hW2]
    have h := Blk.new ((w.alloc (.cells #[.int .i64 t.d, .int .i64 t.i] 37)).alloc (.cells #[.int .i64 p.op, .int .i64 p.ct, .int .i64 p.n, .int .i64 p.m, .int .i64 p.va, .slice A4 p.ks.length cap4] 32)) 3 #[.int .i64 0]
    rw [show (((w.alloc (.cells #[.int .i64 t.d, .int .i64 t.i] 37)).alloc (.cells #[.int .i64 p.op, .int .i64 p.ct, .int .i64 p.n, .int .i64 p.m, .int .i64 p.va, .slice A4 p.ks.length cap4] 32))).heap.size = w.heap.size + 2 from by simp] at h
    exact h
  rw [← hW2]
  clear hW2
  refine (impl_patternScan p xs HW.out 10 1 rfl (Nat.le_refl _) t HT.out W2 _ F _ G (w.heap.size + 2) 0 (ArrDt.below HX.out hB0 HF.out) (HF.out.mono hB0.size) (HV.out.below hB0 HG.out) (HG.out.mono hB0.size) KG.out (fun h => by have := HF.out _ h; omega) (fun h => by have := HG.out _ h; omega) (by omega)).mono ?_
  rintro e w3 ⟨v3, F3, c', rfl, hC, -, hy, hn⟩
  rw [patOk_scan] at hy hn
  have hB3 := hB0.trans (hC.below (B := w.heap.size) (fun b hb => by rw [List.mem_singleton.1 hb]; omega) hB0.size)
  have HFin : Hid (VarsIP xs t p w (.returned (.tuple #[v3, .bool (patOkB xs t p)])) w3) := ⟨v3, F3, rfl, hB3, fun h => ⟨(hy h).2.1, (hy h).2.2.1, fun b hb => ⟨Nat.le_trans hB0.size ((hy h).2.2.2 b hb).1, ((hy h).2.2.2 b hb).2⟩⟩, hn⟩
  rw [patOk_scan]
  generalize patOkB xs t p = bb at *
  clear hC hy hn
  go_wp2
  go_ret2
  exact HFin.out
set_option maxRecDepth 100000 in
set_option maxHeartbeats 1600000 in
theorem impl_patternOk (xs : List Dt) (hw : WorldOK xs) (t : Ty) (ht : TyIn xs.length t) (p : P) (_ : p.size ≤ 1048576) (w : World) (x : Value) (F : List Nat) (cs : List Value) (G : List Nat) : Arr w (DtR w) xs x F → Under w.heap.size F → PR w p cs G → Under w.heap.size G →
    Calls Try.prog 96 #[x, .agg #[.int .i64 t.d, .int .i64 t.i], .agg cs.toArray] w fun e w' => e = .returned (.bool (patOkB xs t p)) ∧ Below w.heap.size w w' := by
  intro hx hf hv hg
  obtain ⟨kv, rfl, ha⟩ := (PR_iff _ _ _).1 hv
  obtain ⟨A, cap, rfl, hc1, hc2⟩ := hx.form
  obtain ⟨A4, cap4, rfl, hc3, hc4⟩ := ha.form
  have HV := Lib.hid hv
  have HX := Lib.hid hx
  have HF := Lib.hid hf
  have HA := Lib.hid ha
  have HG := Lib.hid hg
  clear hx hf ha hg
  clear hv
  have HW := Lib.hid hw
  have HT := Lib.hid ht
  clear hw ht
  go_enter Try.func96, Try.ntmps96
  go_wp2_with fail
  obtain ⟨W2, hW2⟩ : ∃ W2, W2 = ((w.alloc (.cells #[.int .i64 t.d, .int .i64 t.i] 37)).alloc (.cells #[.int .i64 p.op, .int .i64 p.ct, .int .i64 p.n, .int .i64 p.m, .int .i64 p.va, .slice A4 p.ks.length cap4] 32)) := ⟨_, rfl⟩
  have hB0 : Below w.heap.size w W2 := by rw [hW2]; exact ((Below.refl _ _).alloc (Nat.le_refl _) _).alloc (by simp) _
  have KT : Hid (Blk W2 w.heap.size 37 #[.int .i64 t.d, .int .i64 t.i]) := by rw [hW2]; exact (Blk.new w _ _).same (Below.heap_alloc _ _ _ (by simp))
  have KP : Hid (Blk W2 (w.heap.size + 1) 32 #[.int .i64 p.op, .int .i64 p.ct, .int .i64 p.n, .int .i64 p.m, .int .i64 p.va, .slice A4 p.ks.length cap4]) := by rw [hW2]; have h := Blk.new (w.alloc (.cells #[.int .i64 t.d, .int .i64 t.i] 37)) 32 #[.int .i64 p.op, .int .i64 p.ct, .int .i64 p.n, .int .i64 p.m, .int .i64 p.va, .slice A4 p.ks.length cap4]; rw [World.size_alloc] at h; exact h
  have hws : w.heap.size + 2 ≤ W2.heap.size := by rw [hW2]; simp
  have hws2 : W2.heap.size = w.heap.size + 1 + 1 := by rw [hW2]; simp
  rw [← hW2]
  clear hW2
  refine (impl_patternVars xs HW.out t HT.out p W2 _ F _ G (ArrDt.below HX.out hB0 HF.out) (HF.out.mono hB0.size) (HV.out.below hB0 HG.out) (HG.out.mono hB0.size)).mono ?_
  rintro e w3 ⟨v3, F3, rfl, hb3, -, -⟩
  have hB3 := hB0.trans (hb3.mono hB0.size)
  generalize hbb : patOkB xs t p = bb
  have HBB := Lib.hid hbb
  clear hb3 hbb
  go_wp2
  go_ret
  exact ⟨ret_bool HBB.out.symm, hB3⟩

set_option maxRecDepth 100000 in
set_option maxHeartbeats 1600000 in
theorem impl_PatternValid (xs : List Dt) (t : Ty) (p : P) (hz : p.size ≤ 1048576) (w : World) (x : Value) (F : List Nat) (cs : List Value) (G : List Nat) : Arr w (DtR w) xs x F → Under w.heap.size F → PR w p cs G → Under w.heap.size G →
    Calls Try.prog 35 #[x, .agg #[.int .i64 t.d, .int .i64 t.i], .agg cs.toArray] w fun e w' => e = .returned (.bool (patternValidB xs t p)) ∧ Below w.heap.size w w' := by
  intro hx hf hv hg
  obtain ⟨kv, rfl, ha⟩ := (PR_iff _ _ _).1 hv
  obtain ⟨A, cap, rfl, hc1, hc2⟩ := hx.form
  obtain ⟨A4, cap4, rfl, hc3, hc4⟩ := ha.form
  have HV := Lib.hid hv
  have HX := Lib.hid hx
  have HF := Lib.hid hf
  have HA := Lib.hid ha
  have HG := Lib.hid hg
  clear hx hf ha hg
  clear hv
  go_enter Try.func35, Try.ntmps35
  go_wp2_with fail
  obtain ⟨W2, hW2⟩ : ∃ W2, W2 = ((w.alloc (.cells #[.int .i64 t.d, .int .i64 t.i] 37)).alloc (.cells #[.int .i64 p.op, .int .i64 p.ct, .int .i64 p.n, .int .i64 p.m, .int .i64 p.va, .slice A4 p.ks.length cap4] 32)) := ⟨_, rfl⟩
  have hB0 : Below w.heap.size w W2 := by rw [hW2]; exact ((Below.refl _ _).alloc (Nat.le_refl _) _).alloc (by simp) _
  have KT : Hid (Blk W2 w.heap.size 37 #[.int .i64 t.d, .int .i64 t.i]) := by rw [hW2]; exact (Blk.new w _ _).same (Below.heap_alloc _ _ _ (by simp))
  have KP : Hid (Blk W2 (w.heap.size + 1) 32 #[.int .i64 p.op, .int .i64 p.ct, .int .i64 p.n, .int .i64 p.m, .int .i64 p.va, .slice A4 p.ks.length cap4]) := by rw [hW2]; have h := Blk.new (w.alloc (.cells #[.int .i64 t.d, .int .i64 t.i] 37)) 32 #[.int .i64 p.op, .int .i64 p.ct, .int .i64 p.n, .int .i64 p.m, .int .i64 p.va, .slice A4 p.ks.length cap4]; rw [World.size_alloc] at h; exact h
  have hws : w.heap.size + 2 ≤ W2.heap.size := by rw [hW2]; simp
  have hws2 : W2.heap.size = w.heap.size + 1 + 1 := by rw [hW2]; simp
  rw [← hW2]
  clear hW2
  have y0 : W2.cell? ⟨w.heap.size, 0, none⟩ = some (.int .i64 t.d) := (KT.out.cell 0).trans (by simp)
  have y1 : W2.cell? ⟨w.heap.size, 1, none⟩ = some (.int .i64 t.i) := (KT.out.cell 1).trans (by simp)
  have klt := KT.out.lt
  have z0 : W2.cell? ⟨w.heap.size + 1, 0, none⟩ = some (.int .i64 p.op) := (KP.out.cell 0).trans (by simp)
  have z1 : W2.cell? ⟨w.heap.size + 1, 1, none⟩ = some (.int .i64 p.ct) := (KP.out.cell 1).trans (by simp)
  have z2 : W2.cell? ⟨w.heap.size + 1, 2, none⟩ = some (.int .i64 p.n) := (KP.out.cell 2).trans (by simp)
  have z3 : W2.cell? ⟨w.heap.size + 1, 3, none⟩ = some (.int .i64 p.m) := (KP.out.cell 3).trans (by simp)
  have z4 : W2.cell? ⟨w.heap.size + 1, 4, none⟩ = some (.int .i64 p.va) := (KP.out.cell 4).trans (by simp)
  have z5 : W2.cell? ⟨w.heap.size + 1, 5, none⟩ = some (.slice A4 p.ks.length cap4) := (KP.out.cell 5).trans (by simp)
  have klt2 := KP.out.lt
  refine (impl_TypeValid xs t W2 _ F (ArrDt.below HX.out hB0 HF.out) (HF.out.mono hB0.size)).mono ?_
  rintro e w3 ⟨rfl, hb3⟩
  have hB3 := hB0.trans (hb3.mono hB0.size)
  have KT3 := Lib.hid (KT.out.same (hb3.block _ KT.out.lt))
  have KP3 := Lib.hid (KP.out.same (hb3.block _ KP.out.lt))
  clear y0 y1 z0 z1 z2 z3 z4 z5 klt klt2
  have y0 : w3.cell? ⟨w.heap.size, 0, none⟩ = some (.int .i64 t.d) := (KT3.out.cell 0).trans (by simp)
  have y1 : w3.cell? ⟨w.heap.size, 1, none⟩ = some (.int .i64 t.i) := (KT3.out.cell 1).trans (by simp)
  have klt := KT3.out.lt
  have z0 : w3.cell? ⟨w.heap.size + 1, 0, none⟩ = some (.int .i64 p.op) := (KP3.out.cell 0).trans (by simp)
  have z1 : w3.cell? ⟨w.heap.size + 1, 1, none⟩ = some (.int .i64 p.ct) := (KP3.out.cell 1).trans (by simp)
  have z2 : w3.cell? ⟨w.heap.size + 1, 2, none⟩ = some (.int .i64 p.n) := (KP3.out.cell 2).trans (by simp)
  have z3 : w3.cell? ⟨w.heap.size + 1, 3, none⟩ = some (.int .i64 p.m) := (KP3.out.cell 3).trans (by simp)
  have z4 : w3.cell? ⟨w.heap.size + 1, 4, none⟩ = some (.int .i64 p.va) := (KP3.out.cell 4).trans (by simp)
  have z5 : w3.cell? ⟨w.heap.size + 1, 5, none⟩ = some (.slice A4 p.ks.length cap4) := (KP3.out.cell 5).trans (by simp)
  have klt2 := KP3.out.lt
  clear hb3 KT KP
  cases e1 : typeValidB xs t with
  | false =>
    have hf : Hid (patternValidB xs t p = false) := by unfold Hid patternValidB; rw [e1]; rfl
    clear e1
    go_wp2
    go_ret
    exact ⟨ret_bool hf.out.symm, hB3⟩
  | true =>
    have hf : Hid (patternValidB xs t p = patOkB xs t p) := by unfold Hid patternValidB; rw [e1]; rfl
    obtain ⟨hw, hto⟩ := typeValid_split e1
    have HW := Lib.hid hw
    have HT := Lib.hid (typeOkB_tyIn hto)
    clear e1 hw hto
    go_wp2_with fail
    refine (impl_patternOk xs HW.out t HT.out p hz w3 _ F _ G (ArrDt.below HX.out hB3 HF.out) (HF.out.mono hB3.size) (HV.out.below hB3 HG.out) (HG.out.mono hB3.size)).mono ?_
    rintro e w4 ⟨rfl, hb4⟩
    have hB4 := hB3.trans (hb4.mono hB3.size)
    generalize patOkB xs t p = bb at *
    clear hb4
    go_wp2
    go_ret
    exact ⟨ret_bool hf.out.symm, hB4⟩

set_option maxRecDepth 100000 in
set_option maxHeartbeats 1600000 in
theorem impl_PatternVars (xs : List Dt) (t : Ty) (p : P) (w : World) (x : Value) (F : List Nat) (cs : List Value) (G : List Nat) : Arr w (DtR w) xs x F → Under w.heap.size F → PR w p cs G → Under w.heap.size G →
    Calls Try.prog 47 #[x, .agg #[.int .i64 t.d, .int .i64 t.i], .agg cs.toArray] w (MadeArr VtR w (patternVarsL xs t p)) := by
  intro hx hf hv hg
  obtain ⟨kv, rfl, ha⟩ := (PR_iff _ _ _).1 hv
  obtain ⟨A, cap, rfl, hc1, hc2⟩ := hx.form
  obtain ⟨A4, cap4, rfl, hc3, hc4⟩ := ha.form
  have HV := Lib.hid hv
  have HX := Lib.hid hx
  have HF := Lib.hid hf
  have HA := Lib.hid ha
  have HG := Lib.hid hg
  clear hx hf ha hg
  clear hv
  go_enter Try.func47, Try.ntmps47
  go_wp2_with fail
  obtain ⟨W2, hW2⟩ : ∃ W2, W2 = ((w.alloc (.cells #[.int .i64 t.d, .int .i64 t.i] 37)).alloc (.cells #[.int .i64 p.op, .int .i64 p.ct, .int .i64 p.n, .int .i64 p.m, .int .i64 p.va, .slice A4 p.ks.length cap4] 32)) := ⟨_, rfl⟩
  have hB0 : Below w.heap.size w W2 := by rw [hW2]; exact ((Below.refl _ _).alloc (Nat.le_refl _) _).alloc (by simp) _
  have KT : Hid (Blk W2 w.heap.size 37 #[.int .i64 t.d, .int .i64 t.i]) := by rw [hW2]; exact (Blk.new w _ _).same (Below.heap_alloc _ _ _ (by simp))
  have KP : Hid (Blk W2 (w.heap.size + 1) 32 #[.int .i64 p.op, .int .i64 p.ct, .int .i64 p.n, .int .i64 p.m, .int .i64 p.va, .slice A4 p.ks.length cap4]) := by rw [hW2]; have h := Blk.new (w.alloc (.cells #[.int .i64 t.d, .int .i64 t.i] 37)) 32 #[.int .i64 p.op, .int .i64 p.ct, .int .i64 p.n, .int .i64 p.m, .int .i64 p.va, .slice A4 p.ks.length cap4]; rw [World.size_alloc] at h; exact h
  have hws : w.heap.size + 2 ≤ W2.heap.size := by rw [hW2]; simp
  have hws2 : W2.heap.size = w.heap.size + 1 + 1 := by rw [hW2]; simp
  rw [← hW2]
  clear hW2
  have y0 : W2.cell? ⟨w.heap.size, 0, none⟩ = some (.int .i64 t.d) := (KT.out.cell 0).trans (by simp)
  have y1 : W2.cell? ⟨w.heap.size, 1, none⟩ = some (.int .i64 t.i) := (KT.out.cell 1).trans (by simp)
  have klt := KT.out.lt
  have z0 : W2.cell? ⟨w.heap.size + 1, 0, none⟩ = some (.int .i64 p.op) := (KP.out.cell 0).trans (by simp)
  have z1 : W2.cell? ⟨w.heap.size + 1, 1, none⟩ = some (.int .i64 p.ct) := (KP.out.cell 1).trans (by simp)
  have z2 : W2.cell? ⟨w.heap.size + 1, 2, none⟩ = some (.int .i64 p.n) := (KP.out.cell 2).trans (by simp)
  have z3 : W2.cell? ⟨w.heap.size + 1, 3, none⟩ = some (.int .i64 p.m) := (KP.out.cell 3).trans (by simp)
  have z4 : W2.cell? ⟨w.heap.size + 1, 4, none⟩ = some (.int .i64 p.va) := (KP.out.cell 4).trans (by simp)
  have z5 : W2.cell? ⟨w.heap.size + 1, 5, none⟩ = some (.slice A4 p.ks.length cap4) := (KP.out.cell 5).trans (by simp)
  have klt2 := KP.out.lt
  refine (impl_TypeValid xs t W2 _ F (ArrDt.below HX.out hB0 HF.out) (HF.out.mono hB0.size)).mono ?_
  rintro e w3 ⟨rfl, hb3⟩
  have hB3 := hB0.trans (hb3.mono hB0.size)
  have KT3 := Lib.hid (KT.out.same (hb3.block _ KT.out.lt))
  have KP3 := Lib.hid (KP.out.same (hb3.block _ KP.out.lt))
  clear y0 y1 z0 z1 z2 z3 z4 z5 klt klt2
  have y0 : w3.cell? ⟨w.heap.size, 0, none⟩ = some (.int .i64 t.d) := (KT3.out.cell 0).trans (by simp)
  have y1 : w3.cell? ⟨w.heap.size, 1, none⟩ = some (.int .i64 t.i) := (KT3.out.cell 1).trans (by simp)
  have klt := KT3.out.lt
  have z0 : w3.cell? ⟨w.heap.size + 1, 0, none⟩ = some (.int .i64 p.op) := (KP3.out.cell 0).trans (by simp)
  have z1 : w3.cell? ⟨w.heap.size + 1, 1, none⟩ = some (.int .i64 p.ct) := (KP3.out.cell 1).trans (by simp)
  have z2 : w3.cell? ⟨w.heap.size + 1, 2, none⟩ = some (.int .i64 p.n) := (KP3.out.cell 2).trans (by simp)
  have z3 : w3.cell? ⟨w.heap.size + 1, 3, none⟩ = some (.int .i64 p.m) := (KP3.out.cell 3).trans (by simp)
  have z4 : w3.cell? ⟨w.heap.size + 1, 4, none⟩ = some (.int .i64 p.va) := (KP3.out.cell 4).trans (by simp)
  have z5 : w3.cell? ⟨w.heap.size + 1, 5, none⟩ = some (.slice A4 p.ks.length cap4) := (KP3.out.cell 5).trans (by simp)
  have klt2 := KP3.out.lt
  clear hb3 KT KP
  cases e1 : typeValidB xs t with
  | false =>
    have hf : Hid (patternVarsL xs t p = []) := by unfold Hid patternVarsL patternValidB; rw [e1]; rfl
    have HFin : Hid (MadeArr VtR w (patternVarsL xs t p) (.returned (.slice none 0 0)) w3) := by rw [hf.out]; exact ⟨_, [], rfl, hB3, Arr.nil, Free.nil _, Fresh.nil _ _⟩
    clear e1
    go_wp2
    go_ret
    exact HFin.out
  | true =>
    obtain ⟨hw, hto⟩ := typeValid_split e1
    have HW := Lib.hid hw
    have HT := Lib.hid (typeOkB_tyIn hto)
    have HE1 := Lib.hid e1
    clear e1 hw hto
    go_wp2_with fail
    refine (impl_patternVars xs HW.out t HT.out p w3 _ F _ G (ArrDt.below HX.out hB3 HF.out) (HF.out.mono hB3.size) (HV.out.below hB3 HG.out) (HG.out.mono hB3.size)).mono ?_
    rintro e w4 ⟨v4, F4, rfl, hb4, hy, hn⟩
    have hB4 := hB3.trans (hb4.mono hB3.size)
    have HFin : Hid (MadeArr VtR w (patternVarsL xs t p) (.returned v4) w4) := by
      unfold Hid patternVarsL patternValidB
      rw [HE1.out, Bool.true_and]
      cases h : patOkB xs t p with
      | false => rw [hn h]; exact ⟨_, [], rfl, hB4, Arr.nil, Free.nil _, Fresh.nil _ _⟩
      | true => exact ⟨v4, F4, rfl, hB4, (hy h).1, (hy h).2.1, fun b hb => ⟨Nat.le_trans hB3.size ((hy h).2.2 b hb).1, ((hy h).2.2 b hb).2⟩⟩
    generalize patOkB xs t p = bb at *
    clear hb4 hy hn
    go_wp2
    go_ret
    exact HFin.out
end Go.Proofs.Ytbffkgfhcmigaaa

namespace Go.Proofs.Ytbffkgfhcmigaaa
open Go.ChangeShapes Go.WideShapes Go.ChangeAt Go.RowKit

section
variable {H : Type} {enc : TypeId × Value → H} {P : Program} {w : World} {base : Nat} {spare : Nat → Bool} {held : Bool}

theorem cell_lt {w : World} {a : Addr} {v : Value} (h : w.cell? a = some v) : a.block < w.heap.size := by
  rcases Nat.lt_or_ge a.block w.heap.size with hl | hl
  · exact hl
  · unfold World.cell? at h
    rw [Array.getElem?_eq_none hl] at h
    cases h

theorem open_Arr {α : Type} (R : α → List Value → List Nat → Prop) {t e : TypeId} {k n fuel : Nat} {cs : List Value} {x : DataW H × List MemPlace} (ht : P.underlying t = some (.slice e)) (hk : P.cellsOf e = k) (hk0 : 0 < k) (hf : fuel = n + 1)
    (hR : ∀ ds y, DataW.trod enc P w base spare held n e ds = some y → ds.length = k → ∃ a F, R a ds F ∧ Under w.heap.size F)
    (h : DataW.trod enc P w base spare held fuel t cs = some x) : ∃ xs v F, cs = [v] ∧ Arr w R xs v F ∧ Under w.heap.size F := by
  subst hf
  rcases DataW.trod_slice ht h with ⟨rfl, -⟩ | ⟨a, len, cap, elems, rest, m, hm, rfl, -, -, hl, hmax, hlen, hel, -, -⟩
  · exact ⟨[], _, [], rfl, Arr.nil, Under.nil _⟩
  · obtain rfl : n = m := by omega
    by_cases h0 : len = 0
    · subst h0
      exact ⟨[], _, [], rfl, ⟨_, _, rfl, hl, hmax, .inl ⟨rfl, rfl⟩⟩, Under.nil _⟩
    · have get : ∀ i, i < len → ∃ ds y, (∀ j, j < k → w.cell? (a.add (i * k + j)) = ds[j]?) ∧ ds.length = k ∧ DataW.trod enc P w base spare held n e ds = some y := fun i hi => by
        have h1 := hel i hi
        rw [List.getElem?_eq_getElem (by omega), Option.bind_eq_some_iff] at h1
        obtain ⟨ds, h2, h3⟩ := h1
        obtain ⟨-, h4, h5⟩ := World.cells?_some h2
        rw [hk] at h4 h5
        refine ⟨ds, _, fun j hj => ?_, h4, h3⟩
        rw [← h5 j hj]
        congr 1
        unfold Addr.add
        by_cases e1 : i * k = 0 <;> by_cases e2 : j = 0 <;> simp [e1, e2, Nat.add_assoc]
      obtain ⟨b, off, spot⟩ := a
      obtain ⟨ds0, y0, g1, g2, -⟩ := get 0 (by omega)
      have hc0 : w.cell? ⟨b, off, spot⟩ = some (ds0[0]'(by omega)) := by
        have := g1 0 hk0
        simpa [Addr.add, List.getElem?_eq_getElem (show 0 < ds0.length by omega)] using this
      have hspot : spot = none := by simpa using World.cell?_spot hc0
      subst hspot
      have hb : b < w.heap.size := cell_lt hc0
      have key : ∀ m, m ≤ len → ∃ (xs : List α) (cs : List Value) (F : List Nat), xs.length = m ∧ cs.length = m * k ∧ CellsAt w b off cs ∧ Flat R xs cs F ∧ Under w.heap.size F := by
        intro m
        induction m with
        | zero => intro _; exact ⟨[], [], [], rfl, by simp, fun j u hj => by simp at hj, ⟨rfl, rfl⟩, Under.nil _⟩
        | succ m ih =>
          intro hm
          obtain ⟨xs, cs, F, h1, h2, h3, h4, h5⟩ := ih (by omega)
          obtain ⟨ds, y, g1, g2, g3⟩ := get m (by omega)
          obtain ⟨z, G, r1, r2⟩ := hR ds y g3 g2
          refine ⟨xs ++ [z], cs ++ ds, F ++ G, by simp [h1], by simp [h2, g2, Nat.add_mul], h3.append (fun j u hj => ?_), h4.append (Flat.one r1), fun c hc => ?_⟩
          · have hjk : j < k := by rw [← g2]; exact (List.getElem?_eq_some_iff.1 hj).1
            have := g1 j hjk
            rw [hj, Addr.add_lit] at this
            rw [h2, ← this]
            congr 2
            omega
          · rcases List.mem_append.1 hc with hc | hc
            · exact h5 c hc
            · exact r2 c hc
      obtain ⟨xs, cs, F, h1, h2, h3, h4, h5⟩ := key len (Nat.le_refl _)
      refine ⟨xs, _, b :: F, rfl, ⟨_, _, by rw [h1], by omega, hmax, .inr ⟨b, off, cs, F, rfl, h3, h4, rfl⟩⟩, fun c hc => ?_⟩
      rcases List.mem_cons.1 hc with rfl | hc
      · exact hb
      · exact h5 c hc

theorem one_field {fs : Array Field} {n : Nat} {cs : List Value} {xs : List (DataW H × List MemPlace)}
    (hf : ∀ (i : Nat) (f : Field), fs[i]? = some f → DataW.trod enc P w base spare held n f.type ((cs.drop f.offset).take (P.cellsOf f.type)) = xs[i]?)
    (hone : Deep.oneCellFields P fs = true) (hxl : xs.length = fs.size) (i : Nat) (f : Field) (hi : fs[i]? = some f) (c : Value) (hc : cs[i]? = some c) :
    ∃ y, DataW.trod enc P w base spare held n f.type [c] = some y := by
  obtain ⟨h1, h2⟩ := Deep.hone_of hone i f hi
  have h := hf i f hi
  have hlt : i < fs.size := (Array.getElem?_eq_some_iff.1 hi).1
  rw [List.getElem?_eq_getElem (show i < xs.length by omega), h1, h2] at h
  obtain ⟨hlc, hcc⟩ := List.getElem?_eq_some_iff.1 hc
  rw [List.drop_eq_getElem_cons hlc, hcc] at h
  exact ⟨_, h⟩

theorem sub_field {fs : Array Field} {n : Nat} {cs : List Value} {xs : List (DataW H × List MemPlace)}
    (hf : ∀ (i : Nat) (f : Field), fs[i]? = some f → DataW.trod enc P w base spare held n f.type ((cs.drop f.offset).take (P.cellsOf f.type)) = xs[i]?)
    (hxl : xs.length = fs.size) (i : Nat) (f : Field) (hi : fs[i]? = some f) (k off : Nat) (hk : P.cellsOf f.type = k) (ho : f.offset = off) :
    ∃ y, DataW.trod enc P w base spare held n f.type ((cs.drop off).take k) = some y := by
  have h := hf i f hi
  have hlt : i < fs.size := (Array.getElem?_eq_some_iff.1 hi).1
  rw [List.getElem?_eq_getElem (show i < xs.length by omega), hk, ho] at h
  exact ⟨_, h⟩

theorem open_slice_arg {α : Type} (R : α → List Value → List Nat → Prop) {t e : TypeId} {k : Nat} {r : Reach} {b0 : Nat} {v : Value} {d : DataW H} {ps : List MemPlace} (ht : P.underlying t = some (.slice e)) (hk : P.cellsOf e = k) (hk0 : 0 < k)
    (hR : ∀ n ds y, DataW.trod enc P w base spare held n e ds = some y → ∃ a F, R a ds F ∧ Under w.heap.size F)
    (hval : Value.okWide P w r b0 t v) (h : DataW.Trod enc P w base spare held t v d ps) : ∃ xs F, Arr w R xs v F ∧ Under w.heap.size F := by
  obtain ⟨a, len, cap, rfl⟩ := okWide_slice ht hval
  obtain ⟨fuel, hf⟩ := h
  cases fuel with
  | zero => simp [DataW.trod] at hf
  | succ n =>
    obtain ⟨xs, v, F, hv, ha, hF⟩ := open_Arr R ht hk hk0 rfl (fun ds y hd _ => hR n ds y hd) hf
    have : v = .slice a len cap := by simpa [Value.cells] using hv.symm
    subst this
    exact ⟨xs, F, ha, hF⟩
end
end Go.Proofs.Ytbffkgfhcmigaaa

namespace Go.Proofs.Ytbffkgfhcmigaaa
open Go.ChangeShapes Go.WideShapes Go.ChangeAt Go.RowKit
set_option maxRecDepth 100000

theorem cellsOf_lawsTy : Try.prog.cellsOf 24 = 2 := by kernel_rfl

theorem open_Ty_cells {H : Type} {enc : TypeId × Value → H} {w : World} {base : Nat} {spare : Nat → Bool} {held : Bool} (fuel : Nat) (cs : List Value) (x : DataW H × List MemPlace)
    (h : DataW.trod enc Try.prog w base spare held fuel 24 cs = some x) : ∃ v F, TyR w v cs F ∧ Under w.heap.size F := by
  obtain ⟨xs, n, rfl, -, hl, hxl, hf⟩ := DataW.trod_struct Try.underlying24 h
  rw [cellsOf_lawsTy] at hl
  match cs, hl with
  | [c0, c1], _ =>
  obtain ⟨y0, f0⟩ := sub_field hf hxl 0 _ rfl 1 0 (by kernel_rfl) rfl
  obtain ⟨i0, e0, -, -⟩ := DataW.trod_int Try.underlying3 f0
  obtain rfl : c0 = .int .i64 i0 := by simpa using e0
  obtain ⟨y1, f1⟩ := sub_field hf hxl 1 _ rfl 1 1 (by kernel_rfl) rfl
  obtain ⟨i1, e1, -, -⟩ := DataW.trod_int Try.underlying3 f1
  obtain rfl : c1 = .int .i64 i1 := by simpa using e1
  exact ⟨⟨i0, i1⟩, [], ⟨rfl, rfl⟩, Under.nil _⟩

theorem open_Ty {H : Type} {enc : TypeId × Value → H} {w : World} {base : Nat} {spare : Nat → Bool} {held : Bool} {r : Reach} {b0 : Nat} {v : Value} {d : DataW H} {ps : List MemPlace} (hval : Value.okWide Try.prog w r b0 24 v)
    (h : DataW.Trod enc Try.prog w base spare held 24 v d ps) : ∃ (x : Ty) (cs : List Value) (F : List Nat), v = .agg cs.toArray ∧ TyR w x cs F ∧ Under w.heap.size F := by
  obtain ⟨cs, rfl, -⟩ := okWide_struct Try.underlying24 hval
  obtain ⟨fuel, hf⟩ := h
  obtain ⟨x, F, h1, h2⟩ := open_Ty_cells fuel _ _ hf
  exact ⟨x, cs.toList, F, by simp, h1, h2⟩
theorem open_Tys {H : Type} {enc : TypeId × Value → H} {w : World} {base : Nat} {spare : Nat → Bool} {held : Bool} {r : Reach} {b0 : Nat} {v : Value} {d : DataW H} {ps : List MemPlace} (hval : Value.okWide Try.prog w r b0 198 v)
    (h : DataW.Trod enc Try.prog w base spare held 198 v d ps) : ∃ (x : List Ty) (F : List Nat), Arr w (TyR w) x v F ∧ Under w.heap.size F :=
  open_slice_arg (TyR w) Try.underlying198 cellsOf_lawsTy (by decide) (fun n ds y hd => open_Ty_cells n ds y hd) hval h
end Go.Proofs.Ytbffkgfhcmigaaa

namespace Go.Proofs.Ytbffkgfhcmigaaa
open Go.ChangeShapes Go.WideShapes Go.ChangeAt Go.RowKit
set_option maxRecDepth 100000

theorem cellsOf_lawsKt : Try.prog.cellsOf 200 = 3 := by kernel_rfl

theorem open_Kt_cells {H : Type} {enc : TypeId × Value → H} {w : World} {base : Nat} {spare : Nat → Bool} {held : Bool} (fuel : Nat) (cs : List Value) (x : DataW H × List MemPlace)
    (h : DataW.trod enc Try.prog w base spare held fuel 200 cs = some x) : ∃ v F, KtR w v cs F ∧ Under w.heap.size F := by
  obtain ⟨xs, n, rfl, -, hl, hxl, hf⟩ := DataW.trod_struct Try.underlying200 h
  rw [cellsOf_lawsKt] at hl
  match cs, hl with
  | [c0, c1, c2], _ =>
  obtain ⟨y0, f0⟩ := sub_field hf hxl 0 _ rfl 1 0 (by kernel_rfl) rfl
  obtain ⟨s0, e0, -, hs0⟩ := DataW.trod_string Try.underlying9 f0
  obtain rfl : c0 = .string s0 := by simpa using e0
  obtain ⟨y1, f1⟩ := sub_field hf hxl 1 _ rfl 1 1 (by kernel_rfl) rfl
  cases n with
  | zero => simp [DataW.trod] at f1
  | succ n =>
  obtain ⟨l1, kv, F, ek, ha, hF⟩ := open_Arr (TyR w) Try.underlying198 cellsOf_lawsTy (by decide) rfl (fun ds y hd _ => open_Ty_cells n ds y hd) f1
  obtain rfl : c1 = kv := by simpa using ek
  obtain ⟨y2, f2⟩ := sub_field hf hxl 2 _ rfl 1 2 (by kernel_rfl) rfl
  obtain ⟨i2, e2, -, -⟩ := DataW.trod_int Try.underlying3 f2
  obtain rfl : c2 = .int .i64 i2 := by simpa using e2
  exact ⟨⟨s0, l1, i2⟩, F, ⟨_, rfl, ha, (by unfold maxLen at hs0; omega)⟩, hF⟩

theorem open_Kt {H : Type} {enc : TypeId × Value → H} {w : World} {base : Nat} {spare : Nat → Bool} {held : Bool} {r : Reach} {b0 : Nat} {v : Value} {d : DataW H} {ps : List MemPlace} (hval : Value.okWide Try.prog w r b0 200 v)
    (h : DataW.Trod enc Try.prog w base spare held 200 v d ps) : ∃ (x : Kt) (cs : List Value) (F : List Nat), v = .agg cs.toArray ∧ KtR w x cs F ∧ Under w.heap.size F := by
  obtain ⟨cs, rfl, -⟩ := okWide_struct Try.underlying200 hval
  obtain ⟨fuel, hf⟩ := h
  obtain ⟨x, F, h1, h2⟩ := open_Kt_cells fuel _ _ hf
  exact ⟨x, cs.toList, F, by simp, h1, h2⟩
theorem open_Kts {H : Type} {enc : TypeId × Value → H} {w : World} {base : Nat} {spare : Nat → Bool} {held : Bool} {r : Reach} {b0 : Nat} {v : Value} {d : DataW H} {ps : List MemPlace} (hval : Value.okWide Try.prog w r b0 105 v)
    (h : DataW.Trod enc Try.prog w base spare held 105 v d ps) : ∃ (x : List Kt) (F : List Nat), Arr w (KtR w) x v F ∧ Under w.heap.size F :=
  open_slice_arg (KtR w) Try.underlying105 cellsOf_lawsKt (by decide) (fun n ds y hd => open_Kt_cells n ds y hd) hval h
end Go.Proofs.Ytbffkgfhcmigaaa

namespace Go.Proofs.Ytbffkgfhcmigaaa
open Go.ChangeShapes Go.WideShapes Go.ChangeAt Go.RowKit
set_option maxRecDepth 100000

theorem cellsOf_lawsDt : Try.prog.cellsOf 107 = 2 := by kernel_rfl

theorem open_Dt_cells {H : Type} {enc : TypeId × Value → H} {w : World} {base : Nat} {spare : Nat → Bool} {held : Bool} (fuel : Nat) (cs : List Value) (x : DataW H × List MemPlace)
    (h : DataW.trod enc Try.prog w base spare held fuel 107 cs = some x) : ∃ v F, DtR w v cs F ∧ Under w.heap.size F := by
  obtain ⟨xs, n, rfl, -, hl, hxl, hf⟩ := DataW.trod_struct Try.underlying107 h
  rw [cellsOf_lawsDt] at hl
  match cs, hl with
  | [c0, c1], _ =>
  obtain ⟨y0, f0⟩ := sub_field hf hxl 0 _ rfl 1 0 (by kernel_rfl) rfl
  obtain ⟨s0, e0, -, hs0⟩ := DataW.trod_string Try.underlying9 f0
  obtain rfl : c0 = .string s0 := by simpa using e0
  obtain ⟨y1, f1⟩ := sub_field hf hxl 1 _ rfl 1 1 (by kernel_rfl) rfl
  cases n with
  | zero => simp [DataW.trod] at f1
  | succ n =>
  obtain ⟨l1, kv, F, ek, ha, hF⟩ := open_Arr (KtR w) Try.underlying105 cellsOf_lawsKt (by decide) rfl (fun ds y hd _ => open_Kt_cells n ds y hd) f1
  obtain rfl : c1 = kv := by simpa using ek
  exact ⟨⟨s0, l1⟩, F, ⟨_, rfl, ha, (by unfold maxLen at hs0; omega)⟩, hF⟩

theorem open_Dt {H : Type} {enc : TypeId × Value → H} {w : World} {base : Nat} {spare : Nat → Bool} {held : Bool} {r : Reach} {b0 : Nat} {v : Value} {d : DataW H} {ps : List MemPlace} (hval : Value.okWide Try.prog w r b0 107 v)
    (h : DataW.Trod enc Try.prog w base spare held 107 v d ps) : ∃ (x : Dt) (cs : List Value) (F : List Nat), v = .agg cs.toArray ∧ DtR w x cs F ∧ Under w.heap.size F := by
  obtain ⟨cs, rfl, -⟩ := okWide_struct Try.underlying107 hval
  obtain ⟨fuel, hf⟩ := h
  obtain ⟨x, F, h1, h2⟩ := open_Dt_cells fuel _ _ hf
  exact ⟨x, cs.toList, F, by simp, h1, h2⟩
theorem open_Dts {H : Type} {enc : TypeId × Value → H} {w : World} {base : Nat} {spare : Nat → Bool} {held : Bool} {r : Reach} {b0 : Nat} {v : Value} {d : DataW H} {ps : List MemPlace} (hval : Value.okWide Try.prog w r b0 22 v)
    (h : DataW.Trod enc Try.prog w base spare held 22 v d ps) : ∃ (x : List Dt) (F : List Nat), Arr w (DtR w) x v F ∧ Under w.heap.size F :=
  open_slice_arg (DtR w) Try.underlying22 cellsOf_lawsDt (by decide) (fun n ds y hd => open_Dt_cells n ds y hd) hval h
end Go.Proofs.Ytbffkgfhcmigaaa

namespace Go.Proofs.Ytbffkgfhcmigaaa
open Go.ChangeShapes Go.WideShapes Go.ChangeAt Go.RowKit
set_option maxRecDepth 100000

theorem cellsOf_lawsP : Try.prog.cellsOf 55 = 6 := by kernel_rfl

theorem open_P_cells {H : Type} {enc : TypeId × Value → H} {w : World} {base : Nat} {spare : Nat → Bool} {held : Bool} (fuel : Nat) : ∀ (cs : List Value) (x : DataW H × List MemPlace),
    DataW.trod enc Try.prog w base spare held fuel 55 cs = some x → ∃ v F, PR w v cs F ∧ Under w.heap.size F := by
  induction fuel using Nat.strongRecOn with
  | ind fuel ih =>
  intro cs x h
  obtain ⟨xs, n, rfl, -, hl, hxl, hf⟩ := DataW.trod_struct Try.underlying55 h
  rw [cellsOf_lawsP] at hl
  match cs, hl with
  | [c0, c1, c2, c3, c4, c5], _ =>
  obtain ⟨y, hq⟩ := one_field hf (by kernel_rfl) hxl 5 _ rfl c5 rfl
  obtain ⟨y0, f0⟩ := one_field hf (by kernel_rfl) hxl 0 _ rfl c0 rfl
  obtain ⟨i0, e0, -, -⟩ := DataW.trod_int Try.underlying3 f0
  obtain ⟨y1, f1⟩ := one_field hf (by kernel_rfl) hxl 1 _ rfl c1 rfl
  obtain ⟨i1, e1, -, -⟩ := DataW.trod_int Try.underlying3 f1
  obtain ⟨y2, f2⟩ := one_field hf (by kernel_rfl) hxl 2 _ rfl c2 rfl
  obtain ⟨i2, e2, -, -⟩ := DataW.trod_int Try.underlying3 f2
  obtain ⟨y3, f3⟩ := one_field hf (by kernel_rfl) hxl 3 _ rfl c3 rfl
  obtain ⟨i3, e3, -, -⟩ := DataW.trod_int Try.underlying3 f3
  obtain ⟨y4, f4⟩ := one_field hf (by kernel_rfl) hxl 4 _ rfl c4 rfl
  obtain ⟨i4, e4, -, -⟩ := DataW.trod_int Try.underlying3 f4
  simp only [List.cons.injEq, and_true] at e0 e1 e2 e3 e4
  subst e0 e1 e2 e3 e4
  cases n with
  | zero => simp [DataW.trod] at hq
  | succ n =>
    obtain ⟨ks, kv, F, ek, ha, hF⟩ := open_Arr (PR w) Try.underlying53 cellsOf_lawsP (by decide) rfl (fun ds y hd _ => ih n (by omega) ds y hd) hq
    simp only [List.cons.injEq, and_true] at ek
    subst ek
    exact ⟨⟨i0, i1, i2, i3, i4, ks⟩, F, (PR_iff _ _ _).2 ⟨_, rfl, ha⟩, hF⟩

theorem open_P {H : Type} {enc : TypeId × Value → H} {w : World} {base : Nat} {spare : Nat → Bool} {held : Bool} {r : Reach} {b0 : Nat} {v : Value} {d : DataW H} {ps : List MemPlace} (hval : Value.okWide Try.prog w r b0 55 v)
    (h : DataW.Trod enc Try.prog w base spare held 55 v d ps) : ∃ (x : P) (cs : List Value) (F : List Nat), v = .agg cs.toArray ∧ PR w x cs F ∧ Under w.heap.size F := by
  obtain ⟨cs, rfl, -⟩ := okWide_struct Try.underlying55 hval
  obtain ⟨fuel, hf⟩ := h
  obtain ⟨x, F, h1, h2⟩ := open_P_cells fuel _ _ hf
  exact ⟨x, cs.toList, F, by simp, h1, h2⟩
end Go.Proofs.Ytbffkgfhcmigaaa
