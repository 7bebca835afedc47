/-
  Lemmas and contracts of functions: shape of the program: kind 3. Conditions: the world is valid. shape of the program: kind 6, and all. Conditions: the world is valid. Least values, in plain Lean. Conditions: the world is valid. l3Shape of the reference: the shape of a pattern, down to a depth. Conditions: the world is valid. l3Find of the reference. Conditions: none.
-/
import Derived.Test.YtbffkgfhcmigaaaKAD
import Derived.Test.YtbffkgfhcmigaaaKAA
import Derived.Deep.RegionHeld3
import Derived.Deep.RegionWith
import Derived.Deep.QuietTactic
import Derived.BigQuiet
import Derived.IntWalk
import Derived.Test.YtbffkgfhcmigaaaKAC
import Derived.Test.YtbffkgfhcmigaaaKAB

set_option linter.unusedVariables false
set_option linter.unusedSimpArgs false

namespace Go.Proofs.Ytbffkgfhcmigaaa
open Go.RowKit

set_option maxRecDepth 100000 in
set_option maxHeartbeats 1600000 in
theorem shape_3 (xs : List Dt) (hw : WorldOK xs) (t : Ty) (ht : TyIn xs.length t) (p : P) (h3 : p.op = 3) (w : World) (x : Value) (F : List Nat) (cs : List Value) (G : List Nat) : Arr w (DtR w) xs x F → Under w.heap.size F → PR w p cs G → Under w.heap.size G →
    Calls Try.prog 182 #[x, .agg #[.int .i64 t.d, .int .i64 t.i], .agg cs.toArray] w (ShapePost xs t p w) := by
  intro hx hf hv hg
  obtain ⟨kv, rfl, ha⟩ := (PR_iff _ _ _).1 hv
  obtain ⟨A, cap, rfl, hc1, hc2⟩ := hx.form
  obtain ⟨A4, cap4, rfl, hc3, hc4⟩ := ha.form
  have HV := Lib.hid hv
  have HX := Lib.hid hx
  have HF := Lib.hid hf
  have HA := Lib.hid ha
  have HG := Lib.hid hg
  clear hx hf ha hg
  clear hv
  have HW := Lib.hid hw
  have HT := Lib.hid ht
  clear hw ht
  have o1 : (p.op == 1) = false := by simp [h3]
  have o2 : (p.op == 2) = false := by simp [h3]
  have o3 : (p.op == 3) = true := by simp [h3]
  have HNB := Lib.hid (nodeB_3 (xs := xs) (t := t) h3)
  have HTY := Lib.hid (show typesP xs t p = [] from by rw [typesP_no (by omega), h3]; rfl)
  clear h3
  go_enter Try.func182, Try.ntmps182
  go_wp2_with fail
  obtain ⟨W2, hW2⟩ : ∃ W2, W2 = ((w.alloc (.cells #[.int .i64 t.d, .int .i64 t.i] 37)).alloc (.cells #[.int .i64 p.op, .int .i64 p.ct, .int .i64 p.n, .int .i64 p.m, .int .i64 p.va, .slice A4 p.ks.length cap4] 32)) := ⟨_, rfl⟩
  have hB0 : Below w.heap.size w W2 := by rw [hW2]; exact ((Below.refl _ _).alloc (Nat.le_refl _) _).alloc (by simp) _
  have KT : Hid (Blk W2 w.heap.size 37 #[.int .i64 t.d, .int .i64 t.i]) := by rw [hW2]; exact (Blk.new w _ _).same (Below.heap_alloc _ _ _ (by simp))
  have KP : Hid (Blk W2 (w.heap.size + 1) 32 #[.int .i64 p.op, .int .i64 p.ct, .int .i64 p.n, .int .i64 p.m, .int .i64 p.va, .slice A4 p.ks.length cap4]) := by rw [hW2]; have h := Blk.new (w.alloc (.cells #[.int .i64 t.d, .int .i64 t.i] 37)) 32 #[.int .i64 p.op, .int .i64 p.ct, .int .i64 p.n, .int .i64 p.m, .int .i64 p.va, .slice A4 p.ks.length cap4]; rw [World.size_alloc] at h; exact h
  have hws : w.heap.size + 2 ≤ W2.heap.size := by rw [hW2]; simp
  have hws2 : W2.heap.size = w.heap.size + 1 + 1 := by rw [hW2]; simp
  rw [← hW2]
  clear hW2
  have y0 : W2.cell? ⟨w.heap.size, 0, none⟩ = some (.int .i64 t.d) := (KT.out.cell 0).trans (by simp)
  have y1 : W2.cell? ⟨w.heap.size, 1, none⟩ = some (.int .i64 t.i) := (KT.out.cell 1).trans (by simp)
  have klt := KT.out.lt
  have z0 : W2.cell? ⟨w.heap.size + 1, 0, none⟩ = some (.int .i64 p.op) := (KP.out.cell 0).trans (by simp)
  have z1 : W2.cell? ⟨w.heap.size + 1, 1, none⟩ = some (.int .i64 p.ct) := (KP.out.cell 1).trans (by simp)
  have z2 : W2.cell? ⟨w.heap.size + 1, 2, none⟩ = some (.int .i64 p.n) := (KP.out.cell 2).trans (by simp)
  have z3 : W2.cell? ⟨w.heap.size + 1, 3, none⟩ = some (.int .i64 p.m) := (KP.out.cell 3).trans (by simp)
  have z4 : W2.cell? ⟨w.heap.size + 1, 4, none⟩ = some (.int .i64 p.va) := (KP.out.cell 4).trans (by simp)
  have z5 : W2.cell? ⟨w.heap.size + 1, 5, none⟩ = some (.slice A4 p.ks.length cap4) := (KP.out.cell 5).trans (by simp)
  have klt2 := KP.out.lt
  have HBQ := Lib.hid (fun n => below_drewN hB0 n)
  cases e1 : (t.d == -1) with
  | false =>
    have HFinQ : Hid (∀ n, ShapePost xs t p w (.returned (.tuple #[.slice none 0 0, .bool false])) (W2.drewN n)) := fun n => ⟨_, [], by rw [HNB.out, e1]; rfl, HBQ.out n, Fresh.nil _ _, fun _ => by rw [HTY.out]; exact Arr.nil⟩
    clear HBQ
    go_wp2_with fail
    go_quiet (fail)
    go_wp2
    go_ret2
    exact HFinQ.out _
  | true =>
    have hc := impl_only p A4 cap4 false true false 0 W2.drew
    have HE1 := Lib.hid e1
    clear e1 HBQ
    go_wp2_with fail
    refine wp_region_B (S := fun w' => Blk w' w.heap.size 37 #[.int .i64 t.d, .int .i64 t.i] ∧ Blk w' (w.heap.size + 1) 32 #[.int .i64 p.op, .int .i64 p.ct, .int .i64 p.n, .int .i64 p.m, .int .i64 p.va, .slice A4 p.ks.length cap4]) (T := fun _ => True) (d := 99) (by kernel_rfl) ?_
    have hS1 : Blk W2.drew w.heap.size 37 #[.int .i64 t.d, .int .i64 t.i] ∧ Blk W2.drew (w.heap.size + 1) 32 #[.int .i64 p.op, .int .i64 p.ct, .int .i64 p.n, .int .i64 p.m, .int .i64 p.va, .slice A4 p.ks.length cap4] := ⟨KT.out, KP.out⟩
    have hT1 : True := trivial
    refine wpAnyB_take (i := 0) (v := ?_) rfl (by decide) (by kernel_rfl) (by kernel_rfl) (by kernel_rfl) (fun _ _ _ h => h) (Or.inl ⟨by rfl, ?hy0⟩) hS1 (fun _ => trivial) ?_
    case hy0 => (intro W hSw; (try dsimp only at hSw); go_simp; try with_reducible rfl)
    (try simp only [Act.put, List.getElem_toArray, List.getElem_cons_zero, List.getElem_cons_succ, List.setIfInBounds_toArray, List.set_cons_zero, List.set_cons_succ])
    refine wpAnyB_take (i := 1) (v := ?_) rfl (by decide) (by kernel_rfl) (by kernel_rfl) (by kernel_rfl) (fun _ _ _ h => h) (Or.inl ⟨by rfl, ?hy1⟩) hS1 (fun _ => trivial) ?_
    case hy1 => (intro W hSw; (try dsimp only at hSw); obtain ⟨kt, kp⟩ := hSw; have y0 : W.cell? ⟨w.heap.size, 0, none⟩ = some (.int .i64 t.d) := (kt.cell 0).trans (by simp); have y1 : W.cell? ⟨w.heap.size, 1, none⟩ = some (.int .i64 t.i) := (kt.cell 1).trans (by simp); have z0 : W.cell? ⟨w.heap.size + 1, 0, none⟩ = some (.int .i64 p.op) := (kp.cell 0).trans (by simp); have z1 : W.cell? ⟨w.heap.size + 1, 1, none⟩ = some (.int .i64 p.ct) := (kp.cell 1).trans (by simp); have z2 : W.cell? ⟨w.heap.size + 1, 2, none⟩ = some (.int .i64 p.n) := (kp.cell 2).trans (by simp); have z3 : W.cell? ⟨w.heap.size + 1, 3, none⟩ = some (.int .i64 p.m) := (kp.cell 3).trans (by simp); have z4 : W.cell? ⟨w.heap.size + 1, 4, none⟩ = some (.int .i64 p.va) := (kp.cell 4).trans (by simp); have z5 : W.cell? ⟨w.heap.size + 1, 5, none⟩ = some (.slice A4 p.ks.length cap4) := (kp.cell 5).trans (by simp);go_simp; try with_reducible rfl)
    (try simp only [Act.put, List.getElem_toArray, List.getElem_cons_zero, List.getElem_cons_succ, List.setIfInBounds_toArray, List.set_cons_zero, List.set_cons_succ])
    refine wpAnyB_take (i := 2) (v := ?_) rfl (by decide) (by kernel_rfl) (by kernel_rfl) (by kernel_rfl) (fun _ _ _ h => h) (Or.inl ⟨by rfl, ?hy2⟩) hS1 (fun _ => trivial) ?_
    case hy2 => (intro W hSw; (try dsimp only at hSw); go_simp; try with_reducible rfl)
    (try simp only [Act.put, List.getElem_toArray, List.getElem_cons_zero, List.getElem_cons_succ, List.setIfInBounds_toArray, List.set_cons_zero, List.set_cons_succ])
    rw [HE1.out]
    refine wpAnyB_take (i := 3) (v := ?_) rfl (by decide) (by kernel_rfl) (by kernel_rfl) (by kernel_rfl) (fun _ _ _ h => h) (Or.inl ⟨by rfl, ?hy3⟩) hS1 (fun _ => trivial) ?_
    case hy3 => (intro W hSw; (try dsimp only at hSw); go_simp; try with_reducible rfl)
    (try simp only [Act.put, List.getElem_toArray, List.getElem_cons_zero, List.getElem_cons_succ, List.setIfInBounds_toArray, List.set_cons_zero, List.set_cons_succ])
    refine wpAnyB_take (i := 4) (v := ?_) rfl (by decide) (by kernel_rfl) (by kernel_rfl) (by kernel_rfl) (fun _ _ _ h => h) (Or.inl ⟨by rfl, ?hy4⟩) hS1 (fun _ => trivial) ?_
    case hy4 => (intro W hSw; (try dsimp only at hSw); obtain ⟨kt, kp⟩ := hSw; have y0 : W.cell? ⟨w.heap.size, 0, none⟩ = some (.int .i64 t.d) := (kt.cell 0).trans (by simp); have y1 : W.cell? ⟨w.heap.size, 1, none⟩ = some (.int .i64 t.i) := (kt.cell 1).trans (by simp); have z0 : W.cell? ⟨w.heap.size + 1, 0, none⟩ = some (.int .i64 p.op) := (kp.cell 0).trans (by simp); have z1 : W.cell? ⟨w.heap.size + 1, 1, none⟩ = some (.int .i64 p.ct) := (kp.cell 1).trans (by simp); have z2 : W.cell? ⟨w.heap.size + 1, 2, none⟩ = some (.int .i64 p.n) := (kp.cell 2).trans (by simp); have z3 : W.cell? ⟨w.heap.size + 1, 3, none⟩ = some (.int .i64 p.m) := (kp.cell 3).trans (by simp); have z4 : W.cell? ⟨w.heap.size + 1, 4, none⟩ = some (.int .i64 p.va) := (kp.cell 4).trans (by simp); have z5 : W.cell? ⟨w.heap.size + 1, 5, none⟩ = some (.slice A4 p.ks.length cap4) := (kp.cell 5).trans (by simp);go_simp; try with_reducible rfl)
    (try simp only [Act.put, List.getElem_toArray, List.getElem_cons_zero, List.getElem_cons_succ, List.setIfInBounds_toArray, List.set_cons_zero, List.set_cons_succ])
    cases e2 : onlyB p false true false 0 with
    | false =>
      rw [e2] at hc
      have HE2 := Lib.hid e2
      clear e2
      refine wpAnyB_ready (rs := [5]) (by kernel_rfl) (by simp) ?_
      refine AllReadyB.cons rfl (fun K hK => ?_) AllReadyB.nil
      go_simp
      go_at_call 196
      with_reducible refine hc.mono ?_
      rintro e w3 ⟨rfl, hb3⟩
      have hS3 : Blk w3 w.heap.size 37 #[.int .i64 t.d, .int .i64 t.i] ∧ Blk w3 (w.heap.size + 1) 32 #[.int .i64 p.op, .int .i64 p.ct, .int .i64 p.n, .int .i64 p.m, .int .i64 p.va, .slice A4 p.ks.length cap4] := ⟨hS1.1.same (hb3.block _ hS1.1.lt), hS1.2.same (hb3.block _ hS1.2.lt)⟩
      dsimp only
      refine hK.out _ _ hS3 (fun _ => trivial) ?_
      clear hK K
      (try simp only [Act.put, List.getElem_toArray, List.getElem_cons_zero, List.getElem_cons_succ, List.setIfInBounds_toArray, List.set_cons_zero, List.set_cons_succ])
      refine wpAnyB_take (i := 6) (v := ?_) rfl (by decide) (by kernel_rfl) (by kernel_rfl) (by kernel_rfl) (fun _ _ _ h => h) (Or.inl ⟨by rfl, ?hy6⟩) hS3 (fun _ => trivial) ?_
      case hy6 => (intro W hSw; (try dsimp only at hSw); go_simp; try with_reducible rfl)
      (try simp only [Act.put, List.getElem_toArray, List.getElem_cons_zero, List.getElem_cons_succ, List.setIfInBounds_toArray, List.set_cons_zero, List.set_cons_succ])
      refine wpAnyB_take (i := 7) (v := ?_) rfl (by decide) (by kernel_rfl) (by kernel_rfl) (by kernel_rfl) (fun _ _ _ h => h) (Or.inl ⟨by rfl, ?hy7⟩) hS3 (fun _ => trivial) ?_
      case hy7 => (intro W hSw; (try dsimp only at hSw); go_simp; try with_reducible rfl)
      (try simp only [Act.put, List.getElem_toArray, List.getElem_cons_zero, List.getElem_cons_succ, List.setIfInBounds_toArray, List.set_cons_zero, List.set_cons_succ])
      refine wpAnyB_take (i := 8) (v := undef) rfl (by decide) (by kernel_rfl) (by kernel_rfl) (by kernel_rfl) (fun _ _ _ h => h) (Or.inr ⟨by rfl, rfl⟩) hS3 (fun _ => trivial) ?_
      (try simp only [Act.put, List.getElem_toArray, List.getElem_cons_zero, List.getElem_cons_succ, List.setIfInBounds_toArray, List.set_cons_zero, List.set_cons_succ])
      refine wpAnyB_take (i := 9) (v := undef) rfl (by decide) (by kernel_rfl) (by kernel_rfl) (by kernel_rfl) (fun _ _ _ h => h) (Or.inr ⟨by rfl, rfl⟩) hS3 (fun _ => trivial) ?_
      (try simp only [Act.put, List.getElem_toArray, List.getElem_cons_zero, List.getElem_cons_succ, List.setIfInBounds_toArray, List.set_cons_zero, List.set_cons_succ])
      refine wpAnyB_take (i := 10) (v := undef) rfl (by decide) (by kernel_rfl) (by kernel_rfl) (by kernel_rfl) (fun _ _ _ h => h) (Or.inr ⟨by rfl, rfl⟩) hS3 (fun _ => trivial) ?_
      (try simp only [Act.put, List.getElem_toArray, List.getElem_cons_zero, List.getElem_cons_succ, List.setIfInBounds_toArray, List.set_cons_zero, List.set_cons_succ])
      refine wpAnyB_take (i := 11) (v := ?_) rfl (by decide) (by kernel_rfl) (by kernel_rfl) (by kernel_rfl) (fun _ _ _ h => h) (Or.inl ⟨by rfl, ?hy11⟩) hS3 (fun _ => trivial) ?_
      case hy11 => (intro W hSw; (try dsimp only at hSw); go_simp; try with_reducible rfl)
      (try simp only [Act.put, List.getElem_toArray, List.getElem_cons_zero, List.getElem_cons_succ, List.setIfInBounds_toArray, List.set_cons_zero, List.set_cons_succ])
      refine wpAnyB_take (i := 12) (v := ?_) rfl (by decide) (by kernel_rfl) (by kernel_rfl) (by kernel_rfl) (fun _ _ _ h => h) (Or.inl ⟨by rfl, ?hy12⟩) hS3 (fun _ => trivial) ?_
      case hy12 => (intro W hSw; (try dsimp only at hSw); go_simp; try with_reducible rfl)
      (try simp only [Act.put, List.getElem_toArray, List.getElem_cons_zero, List.getElem_cons_succ, List.setIfInBounds_toArray, List.set_cons_zero, List.set_cons_succ])
      refine wpAnyB_take (i := 13) (v := undef) rfl (by decide) (by kernel_rfl) (by kernel_rfl) (by kernel_rfl) (fun _ _ _ h => h) (Or.inr ⟨by rfl, rfl⟩) hS3 (fun _ => trivial) ?_
      (try simp only [Act.put, List.getElem_toArray, List.getElem_cons_zero, List.getElem_cons_succ, List.setIfInBounds_toArray, List.set_cons_zero, List.set_cons_succ])
      refine wpAnyB_take (i := 14) (v := undef) rfl (by decide) (by kernel_rfl) (by kernel_rfl) (by kernel_rfl) (fun _ _ _ h => h) (Or.inr ⟨by rfl, rfl⟩) hS3 (fun _ => trivial) ?_
      (try simp only [Act.put, List.getElem_toArray, List.getElem_cons_zero, List.getElem_cons_succ, List.setIfInBounds_toArray, List.set_cons_zero, List.set_cons_succ])
      refine wpAnyB_take (i := 15) (v := undef) rfl (by decide) (by kernel_rfl) (by kernel_rfl) (by kernel_rfl) (fun _ _ _ h => h) (Or.inr ⟨by rfl, rfl⟩) hS3 (fun _ => trivial) ?_
      (try simp only [Act.put, List.getElem_toArray, List.getElem_cons_zero, List.getElem_cons_succ, List.setIfInBounds_toArray, List.set_cons_zero, List.set_cons_succ])
      refine wpAnyB_take (i := 16) (v := undef) rfl (by decide) (by kernel_rfl) (by kernel_rfl) (by kernel_rfl) (fun _ _ _ h => h) (Or.inr ⟨by rfl, rfl⟩) hS3 (fun _ => trivial) ?_
      (try simp only [Act.put, List.getElem_toArray, List.getElem_cons_zero, List.getElem_cons_succ, List.setIfInBounds_toArray, List.set_cons_zero, List.set_cons_succ])
      refine wpAnyB_take (i := 17) (v := undef) rfl (by decide) (by kernel_rfl) (by kernel_rfl) (by kernel_rfl) (fun _ _ _ h => h) (Or.inr ⟨by rfl, rfl⟩) hS3 (fun _ => trivial) ?_
      (try simp only [Act.put, List.getElem_toArray, List.getElem_cons_zero, List.getElem_cons_succ, List.setIfInBounds_toArray, List.set_cons_zero, List.set_cons_succ])
      refine wpAnyB_take (i := 18) (v := ?_) rfl (by decide) (by kernel_rfl) (by kernel_rfl) (by kernel_rfl) (fun _ _ _ h => h) (Or.inl ⟨by rfl, ?hy18⟩) hS3 (fun _ => trivial) ?_
      case hy18 => (intro W hSw; (try dsimp only at hSw); go_simp; try with_reducible rfl)
      (try simp only [Act.put, List.getElem_toArray, List.getElem_cons_zero, List.getElem_cons_succ, List.setIfInBounds_toArray, List.set_cons_zero, List.set_cons_succ])
      refine wpAnyB_take (i := 19) (v := ?_) rfl (by decide) (by kernel_rfl) (by kernel_rfl) (by kernel_rfl) (fun _ _ _ h => h) (Or.inl ⟨by rfl, ?hy19⟩) hS3 (fun _ => trivial) ?_
      case hy19 => (intro W hSw; (try dsimp only at hSw); go_simp; try with_reducible rfl)
      (try simp only [Act.put, List.getElem_toArray, List.getElem_cons_zero, List.getElem_cons_succ, List.setIfInBounds_toArray, List.set_cons_zero, List.set_cons_succ])
      refine wpAnyB_take (i := 20) (v := undef) rfl (by decide) (by kernel_rfl) (by kernel_rfl) (by kernel_rfl) (fun _ _ _ h => h) (Or.inr ⟨by rfl, rfl⟩) hS3 (fun _ => trivial) ?_
      (try simp only [Act.put, List.getElem_toArray, List.getElem_cons_zero, List.getElem_cons_succ, List.setIfInBounds_toArray, List.set_cons_zero, List.set_cons_succ])
      refine wpAnyB_take (i := 21) (v := undef) rfl (by decide) (by kernel_rfl) (by kernel_rfl) (by kernel_rfl) (fun _ _ _ h => h) (Or.inr ⟨by rfl, rfl⟩) hS3 (fun _ => trivial) ?_
      (try simp only [Act.put, List.getElem_toArray, List.getElem_cons_zero, List.getElem_cons_succ, List.setIfInBounds_toArray, List.set_cons_zero, List.set_cons_succ])
      refine wpAnyB_take (i := 22) (v := undef) rfl (by decide) (by kernel_rfl) (by kernel_rfl) (by kernel_rfl) (fun _ _ _ h => h) (Or.inr ⟨by rfl, rfl⟩) hS3 (fun _ => trivial) ?_
      (try simp only [Act.put, List.getElem_toArray, List.getElem_cons_zero, List.getElem_cons_succ, List.setIfInBounds_toArray, List.set_cons_zero, List.set_cons_succ])
      refine wpAnyB_take (i := 23) (v := ?_) rfl (by decide) (by kernel_rfl) (by kernel_rfl) (by kernel_rfl) (fun _ _ _ h => h) (Or.inl ⟨by rfl, ?hy23⟩) hS3 (fun _ => trivial) ?_
      case hy23 => (intro W hSw; (try dsimp only at hSw); go_simp; try with_reducible rfl)
      (try simp only [Act.put, List.getElem_toArray, List.getElem_cons_zero, List.getElem_cons_succ, List.setIfInBounds_toArray, List.set_cons_zero, List.set_cons_succ])
      refine wpAnyB_take (i := 24) (v := ?_) rfl (by decide) (by kernel_rfl) (by kernel_rfl) (by kernel_rfl) (fun _ _ _ h => h) (Or.inl ⟨by rfl, ?hy24⟩) hS3 (fun _ => trivial) ?_
      case hy24 => (intro W hSw; (try dsimp only at hSw); go_simp; try with_reducible rfl)
      (try simp only [Act.put, List.getElem_toArray, List.getElem_cons_zero, List.getElem_cons_succ, List.setIfInBounds_toArray, List.set_cons_zero, List.set_cons_succ])
      refine wpAnyB_take (i := 25) (v := ?_) rfl (by decide) (by kernel_rfl) (by kernel_rfl) (by kernel_rfl) (fun _ _ _ h => h) (Or.inl ⟨by rfl, ?hy25⟩) hS3 (fun _ => trivial) ?_
      case hy25 => (intro W hSw; (try dsimp only at hSw); go_simp; try with_reducible rfl)
      (try simp only [Act.put, List.getElem_toArray, List.getElem_cons_zero, List.getElem_cons_succ, List.setIfInBounds_toArray, List.set_cons_zero, List.set_cons_succ])
      refine wpAnyB_end (by kernel_rfl) ?_
      have hB3 := hB0.drew.trans (hb3.mono hB0.size)
      have HFin : Hid (ShapePost xs t p w (.returned (.tuple #[.slice none 0 0, .bool false])) w3) := ⟨_, [], by rw [HNB.out, HE1.out, HE2.out] <;> rfl, hB3, Fresh.nil _ _, fun _ => by rw [HTY.out]; exact Arr.nil⟩
      clear y0 y1 z0 z1 z2 z3 z4 z5 klt klt2
      clear hb3 hS1 hS3 hT1
      go_wp2
      go_ret2
      exact HFin.out
    | true =>
      rw [e2] at hc
      have HE2 := Lib.hid e2
      clear e2
      cases a1 : decide (0 ≤ p.n) with
      | false =>
        have HBa1 := Lib.hid a1
        clear a1
        refine wpAnyB_ready (rs := [5]) (by kernel_rfl) (by simp) ?_
        refine AllReadyB.cons rfl (fun K hK => ?_) AllReadyB.nil
        go_simp
        go_at_call 196
        with_reducible refine hc.mono ?_
        rintro e w3 ⟨rfl, hb3⟩
        have hS3 : Blk w3 w.heap.size 37 #[.int .i64 t.d, .int .i64 t.i] ∧ Blk w3 (w.heap.size + 1) 32 #[.int .i64 p.op, .int .i64 p.ct, .int .i64 p.n, .int .i64 p.m, .int .i64 p.va, .slice A4 p.ks.length cap4] := ⟨hS1.1.same (hb3.block _ hS1.1.lt), hS1.2.same (hb3.block _ hS1.2.lt)⟩
        dsimp only
        refine hK.out _ _ hS3 (fun _ => trivial) ?_
        clear hK K
        (try simp only [Act.put, List.getElem_toArray, List.getElem_cons_zero, List.getElem_cons_succ, List.setIfInBounds_toArray, List.set_cons_zero, List.set_cons_succ])
        refine wpAnyB_take (i := 6) (v := ?_) rfl (by decide) (by kernel_rfl) (by kernel_rfl) (by kernel_rfl) (fun _ _ _ h => h) (Or.inl ⟨by rfl, ?hy6⟩) hS3 (fun _ => trivial) ?_
        case hy6 => (intro W hSw; (try dsimp only at hSw); go_simp; try with_reducible rfl)
        (try simp only [Act.put, List.getElem_toArray, List.getElem_cons_zero, List.getElem_cons_succ, List.setIfInBounds_toArray, List.set_cons_zero, List.set_cons_succ])
        refine wpAnyB_take (i := 7) (v := ?_) rfl (by decide) (by kernel_rfl) (by kernel_rfl) (by kernel_rfl) (fun _ _ _ h => h) (Or.inl ⟨by rfl, ?hy7⟩) hS3 (fun _ => trivial) ?_
        case hy7 => (intro W hSw; (try dsimp only at hSw); go_simp; try with_reducible rfl)
        (try simp only [Act.put, List.getElem_toArray, List.getElem_cons_zero, List.getElem_cons_succ, List.setIfInBounds_toArray, List.set_cons_zero, List.set_cons_succ])
        refine wpAnyB_take (i := 8) (v := ?_) rfl (by decide) (by kernel_rfl) (by kernel_rfl) (by kernel_rfl) (fun _ _ _ h => h) (Or.inl ⟨by rfl, ?hy8⟩) hS3 (fun _ => trivial) ?_
        case hy8 => (intro W hSw; (try dsimp only at hSw); go_simp; try with_reducible rfl)
        (try simp only [Act.put, List.getElem_toArray, List.getElem_cons_zero, List.getElem_cons_succ, List.setIfInBounds_toArray, List.set_cons_zero, List.set_cons_succ])
        refine wpAnyB_take (i := 9) (v := ?_) rfl (by decide) (by kernel_rfl) (by kernel_rfl) (by kernel_rfl) (fun _ _ _ h => h) (Or.inl ⟨by rfl, ?hy9⟩) hS3 (fun _ => trivial) ?_
        case hy9 => (intro W hSw; (try dsimp only at hSw); obtain ⟨kt, kp⟩ := hSw; have y0 : W.cell? ⟨w.heap.size, 0, none⟩ = some (.int .i64 t.d) := (kt.cell 0).trans (by simp); have y1 : W.cell? ⟨w.heap.size, 1, none⟩ = some (.int .i64 t.i) := (kt.cell 1).trans (by simp); have z0 : W.cell? ⟨w.heap.size + 1, 0, none⟩ = some (.int .i64 p.op) := (kp.cell 0).trans (by simp); have z1 : W.cell? ⟨w.heap.size + 1, 1, none⟩ = some (.int .i64 p.ct) := (kp.cell 1).trans (by simp); have z2 : W.cell? ⟨w.heap.size + 1, 2, none⟩ = some (.int .i64 p.n) := (kp.cell 2).trans (by simp); have z3 : W.cell? ⟨w.heap.size + 1, 3, none⟩ = some (.int .i64 p.m) := (kp.cell 3).trans (by simp); have z4 : W.cell? ⟨w.heap.size + 1, 4, none⟩ = some (.int .i64 p.va) := (kp.cell 4).trans (by simp); have z5 : W.cell? ⟨w.heap.size + 1, 5, none⟩ = some (.slice A4 p.ks.length cap4) := (kp.cell 5).trans (by simp);go_simp; try with_reducible rfl)
        (try simp only [Act.put, List.getElem_toArray, List.getElem_cons_zero, List.getElem_cons_succ, List.setIfInBounds_toArray, List.set_cons_zero, List.set_cons_succ])
        refine wpAnyB_take (i := 10) (v := ?_) rfl (by decide) (by kernel_rfl) (by kernel_rfl) (by kernel_rfl) (fun _ _ _ h => h) (Or.inl ⟨by rfl, ?hy10⟩) hS3 (fun _ => trivial) ?_
        case hy10 => (intro W hSw; (try dsimp only at hSw); go_simp; try with_reducible rfl)
        (try simp only [Act.put, List.getElem_toArray, List.getElem_cons_zero, List.getElem_cons_succ, List.setIfInBounds_toArray, List.set_cons_zero, List.set_cons_succ])
        rw [HBa1.out]
        refine wpAnyB_take (i := 11) (v := ?_) rfl (by decide) (by kernel_rfl) (by kernel_rfl) (by kernel_rfl) (fun _ _ _ h => h) (Or.inl ⟨by rfl, ?hy11⟩) hS3 (fun _ => trivial) ?_
        case hy11 => (intro W hSw; (try dsimp only at hSw); go_simp; try with_reducible rfl)
        (try simp only [Act.put, List.getElem_toArray, List.getElem_cons_zero, List.getElem_cons_succ, List.setIfInBounds_toArray, List.set_cons_zero, List.set_cons_succ])
        refine wpAnyB_take (i := 12) (v := ?_) rfl (by decide) (by kernel_rfl) (by kernel_rfl) (by kernel_rfl) (fun _ _ _ h => h) (Or.inl ⟨by rfl, ?hy12⟩) hS3 (fun _ => trivial) ?_
        case hy12 => (intro W hSw; (try dsimp only at hSw); go_simp; try with_reducible rfl)
        (try simp only [Act.put, List.getElem_toArray, List.getElem_cons_zero, List.getElem_cons_succ, List.setIfInBounds_toArray, List.set_cons_zero, List.set_cons_succ])
        refine wpAnyB_take (i := 13) (v := undef) rfl (by decide) (by kernel_rfl) (by kernel_rfl) (by kernel_rfl) (fun _ _ _ h => h) (Or.inr ⟨by rfl, rfl⟩) hS3 (fun _ => trivial) ?_
        (try simp only [Act.put, List.getElem_toArray, List.getElem_cons_zero, List.getElem_cons_succ, List.setIfInBounds_toArray, List.set_cons_zero, List.set_cons_succ])
        refine wpAnyB_take (i := 14) (v := undef) rfl (by decide) (by kernel_rfl) (by kernel_rfl) (by kernel_rfl) (fun _ _ _ h => h) (Or.inr ⟨by rfl, rfl⟩) hS3 (fun _ => trivial) ?_
        (try simp only [Act.put, List.getElem_toArray, List.getElem_cons_zero, List.getElem_cons_succ, List.setIfInBounds_toArray, List.set_cons_zero, List.set_cons_succ])
        refine wpAnyB_take (i := 15) (v := undef) rfl (by decide) (by kernel_rfl) (by kernel_rfl) (by kernel_rfl) (fun _ _ _ h => h) (Or.inr ⟨by rfl, rfl⟩) hS3 (fun _ => trivial) ?_
        (try simp only [Act.put, List.getElem_toArray, List.getElem_cons_zero, List.getElem_cons_succ, List.setIfInBounds_toArray, List.set_cons_zero, List.set_cons_succ])
        refine wpAnyB_take (i := 16) (v := undef) rfl (by decide) (by kernel_rfl) (by kernel_rfl) (by kernel_rfl) (fun _ _ _ h => h) (Or.inr ⟨by rfl, rfl⟩) hS3 (fun _ => trivial) ?_
        (try simp only [Act.put, List.getElem_toArray, List.getElem_cons_zero, List.getElem_cons_succ, List.setIfInBounds_toArray, List.set_cons_zero, List.set_cons_succ])
        refine wpAnyB_take (i := 17) (v := undef) rfl (by decide) (by kernel_rfl) (by kernel_rfl) (by kernel_rfl) (fun _ _ _ h => h) (Or.inr ⟨by rfl, rfl⟩) hS3 (fun _ => trivial) ?_
        (try simp only [Act.put, List.getElem_toArray, List.getElem_cons_zero, List.getElem_cons_succ, List.setIfInBounds_toArray, List.set_cons_zero, List.set_cons_succ])
        refine wpAnyB_take (i := 18) (v := ?_) rfl (by decide) (by kernel_rfl) (by kernel_rfl) (by kernel_rfl) (fun _ _ _ h => h) (Or.inl ⟨by rfl, ?hy18⟩) hS3 (fun _ => trivial) ?_
        case hy18 => (intro W hSw; (try dsimp only at hSw); go_simp; try with_reducible rfl)
        (try simp only [Act.put, List.getElem_toArray, List.getElem_cons_zero, List.getElem_cons_succ, List.setIfInBounds_toArray, List.set_cons_zero, List.set_cons_succ])
        refine wpAnyB_take (i := 19) (v := ?_) rfl (by decide) (by kernel_rfl) (by kernel_rfl) (by kernel_rfl) (fun _ _ _ h => h) (Or.inl ⟨by rfl, ?hy19⟩) hS3 (fun _ => trivial) ?_
        case hy19 => (intro W hSw; (try dsimp only at hSw); go_simp; try with_reducible rfl)
        (try simp only [Act.put, List.getElem_toArray, List.getElem_cons_zero, List.getElem_cons_succ, List.setIfInBounds_toArray, List.set_cons_zero, List.set_cons_succ])
        refine wpAnyB_take (i := 20) (v := undef) rfl (by decide) (by kernel_rfl) (by kernel_rfl) (by kernel_rfl) (fun _ _ _ h => h) (Or.inr ⟨by rfl, rfl⟩) hS3 (fun _ => trivial) ?_
        (try simp only [Act.put, List.getElem_toArray, List.getElem_cons_zero, List.getElem_cons_succ, List.setIfInBounds_toArray, List.set_cons_zero, List.set_cons_succ])
        refine wpAnyB_take (i := 21) (v := undef) rfl (by decide) (by kernel_rfl) (by kernel_rfl) (by kernel_rfl) (fun _ _ _ h => h) (Or.inr ⟨by rfl, rfl⟩) hS3 (fun _ => trivial) ?_
        (try simp only [Act.put, List.getElem_toArray, List.getElem_cons_zero, List.getElem_cons_succ, List.setIfInBounds_toArray, List.set_cons_zero, List.set_cons_succ])
        refine wpAnyB_take (i := 22) (v := undef) rfl (by decide) (by kernel_rfl) (by kernel_rfl) (by kernel_rfl) (fun _ _ _ h => h) (Or.inr ⟨by rfl, rfl⟩) hS3 (fun _ => trivial) ?_
        (try simp only [Act.put, List.getElem_toArray, List.getElem_cons_zero, List.getElem_cons_succ, List.setIfInBounds_toArray, List.set_cons_zero, List.set_cons_succ])
        refine wpAnyB_take (i := 23) (v := ?_) rfl (by decide) (by kernel_rfl) (by kernel_rfl) (by kernel_rfl) (fun _ _ _ h => h) (Or.inl ⟨by rfl, ?hy23⟩) hS3 (fun _ => trivial) ?_
        case hy23 => (intro W hSw; (try dsimp only at hSw); go_simp; try with_reducible rfl)
        (try simp only [Act.put, List.getElem_toArray, List.getElem_cons_zero, List.getElem_cons_succ, List.setIfInBounds_toArray, List.set_cons_zero, List.set_cons_succ])
        refine wpAnyB_take (i := 24) (v := ?_) rfl (by decide) (by kernel_rfl) (by kernel_rfl) (by kernel_rfl) (fun _ _ _ h => h) (Or.inl ⟨by rfl, ?hy24⟩) hS3 (fun _ => trivial) ?_
        case hy24 => (intro W hSw; (try dsimp only at hSw); go_simp; try with_reducible rfl)
        (try simp only [Act.put, List.getElem_toArray, List.getElem_cons_zero, List.getElem_cons_succ, List.setIfInBounds_toArray, List.set_cons_zero, List.set_cons_succ])
        refine wpAnyB_take (i := 25) (v := ?_) rfl (by decide) (by kernel_rfl) (by kernel_rfl) (by kernel_rfl) (fun _ _ _ h => h) (Or.inl ⟨by rfl, ?hy25⟩) hS3 (fun _ => trivial) ?_
        case hy25 => (intro W hSw; (try dsimp only at hSw); go_simp; try with_reducible rfl)
        (try simp only [Act.put, List.getElem_toArray, List.getElem_cons_zero, List.getElem_cons_succ, List.setIfInBounds_toArray, List.set_cons_zero, List.set_cons_succ])
        refine wpAnyB_end (by kernel_rfl) ?_
        have hB3 := hB0.drew.trans (hb3.mono hB0.size)
        have HFin : Hid (ShapePost xs t p w (.returned (.tuple #[.slice none 0 0, .bool false])) w3) := ⟨_, [], by rw [HNB.out, HE1.out, HE2.out, HBa1.out] <;> rfl, hB3, Fresh.nil _ _, fun _ => by rw [HTY.out]; exact Arr.nil⟩
        clear y0 y1 z0 z1 z2 z3 z4 z5 klt klt2
        clear hb3 hS1 hS3 hT1
        go_wp2
        go_ret2
        exact HFin.out
      | true =>
        have HBa1 := Lib.hid a1
        clear a1
        cases a2 : decide (p.n ≤ p.m) with
        | false =>
          have HBa2 := Lib.hid a2
          clear a2
          refine wpAnyB_ready (rs := [5]) (by kernel_rfl) (by simp) ?_
          refine AllReadyB.cons rfl (fun K hK => ?_) AllReadyB.nil
          go_simp
          go_at_call 196
          with_reducible refine hc.mono ?_
          rintro e w3 ⟨rfl, hb3⟩
          have hS3 : Blk w3 w.heap.size 37 #[.int .i64 t.d, .int .i64 t.i] ∧ Blk w3 (w.heap.size + 1) 32 #[.int .i64 p.op, .int .i64 p.ct, .int .i64 p.n, .int .i64 p.m, .int .i64 p.va, .slice A4 p.ks.length cap4] := ⟨hS1.1.same (hb3.block _ hS1.1.lt), hS1.2.same (hb3.block _ hS1.2.lt)⟩
          dsimp only
          refine hK.out _ _ hS3 (fun _ => trivial) ?_
          clear hK K
          (try simp only [Act.put, List.getElem_toArray, List.getElem_cons_zero, List.getElem_cons_succ, List.setIfInBounds_toArray, List.set_cons_zero, List.set_cons_succ])
          refine wpAnyB_take (i := 6) (v := ?_) rfl (by decide) (by kernel_rfl) (by kernel_rfl) (by kernel_rfl) (fun _ _ _ h => h) (Or.inl ⟨by rfl, ?hy6⟩) hS3 (fun _ => trivial) ?_
          case hy6 => (intro W hSw; (try dsimp only at hSw); go_simp; try with_reducible rfl)
          (try simp only [Act.put, List.getElem_toArray, List.getElem_cons_zero, List.getElem_cons_succ, List.setIfInBounds_toArray, List.set_cons_zero, List.set_cons_succ])
          refine wpAnyB_take (i := 7) (v := ?_) rfl (by decide) (by kernel_rfl) (by kernel_rfl) (by kernel_rfl) (fun _ _ _ h => h) (Or.inl ⟨by rfl, ?hy7⟩) hS3 (fun _ => trivial) ?_
          case hy7 => (intro W hSw; (try dsimp only at hSw); go_simp; try with_reducible rfl)
          (try simp only [Act.put, List.getElem_toArray, List.getElem_cons_zero, List.getElem_cons_succ, List.setIfInBounds_toArray, List.set_cons_zero, List.set_cons_succ])
          refine wpAnyB_take (i := 8) (v := ?_) rfl (by decide) (by kernel_rfl) (by kernel_rfl) (by kernel_rfl) (fun _ _ _ h => h) (Or.inl ⟨by rfl, ?hy8⟩) hS3 (fun _ => trivial) ?_
          case hy8 => (intro W hSw; (try dsimp only at hSw); go_simp; try with_reducible rfl)
          (try simp only [Act.put, List.getElem_toArray, List.getElem_cons_zero, List.getElem_cons_succ, List.setIfInBounds_toArray, List.set_cons_zero, List.set_cons_succ])
          refine wpAnyB_take (i := 9) (v := ?_) rfl (by decide) (by kernel_rfl) (by kernel_rfl) (by kernel_rfl) (fun _ _ _ h => h) (Or.inl ⟨by rfl, ?hy9⟩) hS3 (fun _ => trivial) ?_
          case hy9 => (intro W hSw; (try dsimp only at hSw); obtain ⟨kt, kp⟩ := hSw; have y0 : W.cell? ⟨w.heap.size, 0, none⟩ = some (.int .i64 t.d) := (kt.cell 0).trans (by simp); have y1 : W.cell? ⟨w.heap.size, 1, none⟩ = some (.int .i64 t.i) := (kt.cell 1).trans (by simp); have z0 : W.cell? ⟨w.heap.size + 1, 0, none⟩ = some (.int .i64 p.op) := (kp.cell 0).trans (by simp); have z1 : W.cell? ⟨w.heap.size + 1, 1, none⟩ = some (.int .i64 p.ct) := (kp.cell 1).trans (by simp); have z2 : W.cell? ⟨w.heap.size + 1, 2, none⟩ = some (.int .i64 p.n) := (kp.cell 2).trans (by simp); have z3 : W.cell? ⟨w.heap.size + 1, 3, none⟩ = some (.int .i64 p.m) := (kp.cell 3).trans (by simp); have z4 : W.cell? ⟨w.heap.size + 1, 4, none⟩ = some (.int .i64 p.va) := (kp.cell 4).trans (by simp); have z5 : W.cell? ⟨w.heap.size + 1, 5, none⟩ = some (.slice A4 p.ks.length cap4) := (kp.cell 5).trans (by simp);go_simp; try with_reducible rfl)
          (try simp only [Act.put, List.getElem_toArray, List.getElem_cons_zero, List.getElem_cons_succ, List.setIfInBounds_toArray, List.set_cons_zero, List.set_cons_succ])
          refine wpAnyB_take (i := 10) (v := ?_) rfl (by decide) (by kernel_rfl) (by kernel_rfl) (by kernel_rfl) (fun _ _ _ h => h) (Or.inl ⟨by rfl, ?hy10⟩) hS3 (fun _ => trivial) ?_
          case hy10 => (intro W hSw; (try dsimp only at hSw); go_simp; try with_reducible rfl)
          (try simp only [Act.put, List.getElem_toArray, List.getElem_cons_zero, List.getElem_cons_succ, List.setIfInBounds_toArray, List.set_cons_zero, List.set_cons_succ])
          rw [HBa1.out]
          refine wpAnyB_take (i := 11) (v := ?_) rfl (by decide) (by kernel_rfl) (by kernel_rfl) (by kernel_rfl) (fun _ _ _ h => h) (Or.inl ⟨by rfl, ?hy11⟩) hS3 (fun _ => trivial) ?_
          case hy11 => (intro W hSw; (try dsimp only at hSw); go_simp; try with_reducible rfl)
          (try simp only [Act.put, List.getElem_toArray, List.getElem_cons_zero, List.getElem_cons_succ, List.setIfInBounds_toArray, List.set_cons_zero, List.set_cons_succ])
          refine wpAnyB_take (i := 12) (v := ?_) rfl (by decide) (by kernel_rfl) (by kernel_rfl) (by kernel_rfl) (fun _ _ _ h => h) (Or.inl ⟨by rfl, ?hy12⟩) hS3 (fun _ => trivial) ?_
          case hy12 => (intro W hSw; (try dsimp only at hSw); go_simp; try with_reducible rfl)
          (try simp only [Act.put, List.getElem_toArray, List.getElem_cons_zero, List.getElem_cons_succ, List.setIfInBounds_toArray, List.set_cons_zero, List.set_cons_succ])
          refine wpAnyB_take (i := 13) (v := ?_) rfl (by decide) (by kernel_rfl) (by kernel_rfl) (by kernel_rfl) (fun _ _ _ h => h) (Or.inl ⟨by rfl, ?hy13⟩) hS3 (fun _ => trivial) ?_
          case hy13 => (intro W hSw; (try dsimp only at hSw); go_simp; try with_reducible rfl)
          (try simp only [Act.put, List.getElem_toArray, List.getElem_cons_zero, List.getElem_cons_succ, List.setIfInBounds_toArray, List.set_cons_zero, List.set_cons_succ])
          refine wpAnyB_take (i := 14) (v := ?_) rfl (by decide) (by kernel_rfl) (by kernel_rfl) (by kernel_rfl) (fun _ _ _ h => h) (Or.inl ⟨by rfl, ?hy14⟩) hS3 (fun _ => trivial) ?_
          case hy14 => (intro W hSw; (try dsimp only at hSw); obtain ⟨kt, kp⟩ := hSw; have y0 : W.cell? ⟨w.heap.size, 0, none⟩ = some (.int .i64 t.d) := (kt.cell 0).trans (by simp); have y1 : W.cell? ⟨w.heap.size, 1, none⟩ = some (.int .i64 t.i) := (kt.cell 1).trans (by simp); have z0 : W.cell? ⟨w.heap.size + 1, 0, none⟩ = some (.int .i64 p.op) := (kp.cell 0).trans (by simp); have z1 : W.cell? ⟨w.heap.size + 1, 1, none⟩ = some (.int .i64 p.ct) := (kp.cell 1).trans (by simp); have z2 : W.cell? ⟨w.heap.size + 1, 2, none⟩ = some (.int .i64 p.n) := (kp.cell 2).trans (by simp); have z3 : W.cell? ⟨w.heap.size + 1, 3, none⟩ = some (.int .i64 p.m) := (kp.cell 3).trans (by simp); have z4 : W.cell? ⟨w.heap.size + 1, 4, none⟩ = some (.int .i64 p.va) := (kp.cell 4).trans (by simp); have z5 : W.cell? ⟨w.heap.size + 1, 5, none⟩ = some (.slice A4 p.ks.length cap4) := (kp.cell 5).trans (by simp);go_simp; try with_reducible rfl)
          (try simp only [Act.put, List.getElem_toArray, List.getElem_cons_zero, List.getElem_cons_succ, List.setIfInBounds_toArray, List.set_cons_zero, List.set_cons_succ])
          refine wpAnyB_take (i := 15) (v := ?_) rfl (by decide) (by kernel_rfl) (by kernel_rfl) (by kernel_rfl) (fun _ _ _ h => h) (Or.inl ⟨by rfl, ?hy15⟩) hS3 (fun _ => trivial) ?_
          case hy15 => (intro W hSw; (try dsimp only at hSw); go_simp; try with_reducible rfl)
          (try simp only [Act.put, List.getElem_toArray, List.getElem_cons_zero, List.getElem_cons_succ, List.setIfInBounds_toArray, List.set_cons_zero, List.set_cons_succ])
          refine wpAnyB_take (i := 16) (v := ?_) rfl (by decide) (by kernel_rfl) (by kernel_rfl) (by kernel_rfl) (fun _ _ _ h => h) (Or.inl ⟨by rfl, ?hy16⟩) hS3 (fun _ => trivial) ?_
          case hy16 => (intro W hSw; (try dsimp only at hSw); obtain ⟨kt, kp⟩ := hSw; have y0 : W.cell? ⟨w.heap.size, 0, none⟩ = some (.int .i64 t.d) := (kt.cell 0).trans (by simp); have y1 : W.cell? ⟨w.heap.size, 1, none⟩ = some (.int .i64 t.i) := (kt.cell 1).trans (by simp); have z0 : W.cell? ⟨w.heap.size + 1, 0, none⟩ = some (.int .i64 p.op) := (kp.cell 0).trans (by simp); have z1 : W.cell? ⟨w.heap.size + 1, 1, none⟩ = some (.int .i64 p.ct) := (kp.cell 1).trans (by simp); have z2 : W.cell? ⟨w.heap.size + 1, 2, none⟩ = some (.int .i64 p.n) := (kp.cell 2).trans (by simp); have z3 : W.cell? ⟨w.heap.size + 1, 3, none⟩ = some (.int .i64 p.m) := (kp.cell 3).trans (by simp); have z4 : W.cell? ⟨w.heap.size + 1, 4, none⟩ = some (.int .i64 p.va) := (kp.cell 4).trans (by simp); have z5 : W.cell? ⟨w.heap.size + 1, 5, none⟩ = some (.slice A4 p.ks.length cap4) := (kp.cell 5).trans (by simp);go_simp; try with_reducible rfl)
          (try simp only [Act.put, List.getElem_toArray, List.getElem_cons_zero, List.getElem_cons_succ, List.setIfInBounds_toArray, List.set_cons_zero, List.set_cons_succ])
          refine wpAnyB_take (i := 17) (v := ?_) rfl (by decide) (by kernel_rfl) (by kernel_rfl) (by kernel_rfl) (fun _ _ _ h => h) (Or.inl ⟨by rfl, ?hy17⟩) hS3 (fun _ => trivial) ?_
          case hy17 => (intro W hSw; (try dsimp only at hSw); go_simp; try with_reducible rfl)
          (try simp only [Act.put, List.getElem_toArray, List.getElem_cons_zero, List.getElem_cons_succ, List.setIfInBounds_toArray, List.set_cons_zero, List.set_cons_succ])
          rw [HBa2.out]
          refine wpAnyB_take (i := 18) (v := ?_) rfl (by decide) (by kernel_rfl) (by kernel_rfl) (by kernel_rfl) (fun _ _ _ h => h) (Or.inl ⟨by rfl, ?hy18⟩) hS3 (fun _ => trivial) ?_
          case hy18 => (intro W hSw; (try dsimp only at hSw); go_simp; try with_reducible rfl)
          (try simp only [Act.put, List.getElem_toArray, List.getElem_cons_zero, List.getElem_cons_succ, List.setIfInBounds_toArray, List.set_cons_zero, List.set_cons_succ])
          refine wpAnyB_take (i := 19) (v := ?_) rfl (by decide) (by kernel_rfl) (by kernel_rfl) (by kernel_rfl) (fun _ _ _ h => h) (Or.inl ⟨by rfl, ?hy19⟩) hS3 (fun _ => trivial) ?_
          case hy19 => (intro W hSw; (try dsimp only at hSw); go_simp; try with_reducible rfl)
          (try simp only [Act.put, List.getElem_toArray, List.getElem_cons_zero, List.getElem_cons_succ, List.setIfInBounds_toArray, List.set_cons_zero, List.set_cons_succ])
          refine wpAnyB_take (i := 20) (v := undef) rfl (by decide) (by kernel_rfl) (by kernel_rfl) (by kernel_rfl) (fun _ _ _ h => h) (Or.inr ⟨by rfl, rfl⟩) hS3 (fun _ => trivial) ?_
          (try simp only [Act.put, List.getElem_toArray, List.getElem_cons_zero, List.getElem_cons_succ, List.setIfInBounds_toArray, List.set_cons_zero, List.set_cons_succ])
          refine wpAnyB_take (i := 21) (v := undef) rfl (by decide) (by kernel_rfl) (by kernel_rfl) (by kernel_rfl) (fun _ _ _ h => h) (Or.inr ⟨by rfl, rfl⟩) hS3 (fun _ => trivial) ?_
          (try simp only [Act.put, List.getElem_toArray, List.getElem_cons_zero, List.getElem_cons_succ, List.setIfInBounds_toArray, List.set_cons_zero, List.set_cons_succ])
          refine wpAnyB_take (i := 22) (v := undef) rfl (by decide) (by kernel_rfl) (by kernel_rfl) (by kernel_rfl) (fun _ _ _ h => h) (Or.inr ⟨by rfl, rfl⟩) hS3 (fun _ => trivial) ?_
          (try simp only [Act.put, List.getElem_toArray, List.getElem_cons_zero, List.getElem_cons_succ, List.setIfInBounds_toArray, List.set_cons_zero, List.set_cons_succ])
          refine wpAnyB_take (i := 23) (v := ?_) rfl (by decide) (by kernel_rfl) (by kernel_rfl) (by kernel_rfl) (fun _ _ _ h => h) (Or.inl ⟨by rfl, ?hy23⟩) hS3 (fun _ => trivial) ?_
          case hy23 => (intro W hSw; (try dsimp only at hSw); go_simp; try with_reducible rfl)
          (try simp only [Act.put, List.getElem_toArray, List.getElem_cons_zero, List.getElem_cons_succ, List.setIfInBounds_toArray, List.set_cons_zero, List.set_cons_succ])
          refine wpAnyB_take (i := 24) (v := ?_) rfl (by decide) (by kernel_rfl) (by kernel_rfl) (by kernel_rfl) (fun _ _ _ h => h) (Or.inl ⟨by rfl, ?hy24⟩) hS3 (fun _ => trivial) ?_
          case hy24 => (intro W hSw; (try dsimp only at hSw); go_simp; try with_reducible rfl)
          (try simp only [Act.put, List.getElem_toArray, List.getElem_cons_zero, List.getElem_cons_succ, List.setIfInBounds_toArray, List.set_cons_zero, List.set_cons_succ])
          refine wpAnyB_take (i := 25) (v := ?_) rfl (by decide) (by kernel_rfl) (by kernel_rfl) (by kernel_rfl) (fun _ _ _ h => h) (Or.inl ⟨by rfl, ?hy25⟩) hS3 (fun _ => trivial) ?_
          case hy25 => (intro W hSw; (try dsimp only at hSw); go_simp; try with_reducible rfl)
          (try simp only [Act.put, List.getElem_toArray, List.getElem_cons_zero, List.getElem_cons_succ, List.setIfInBounds_toArray, List.set_cons_zero, List.set_cons_succ])
          refine wpAnyB_end (by kernel_rfl) ?_
          have hB3 := hB0.drew.trans (hb3.mono hB0.size)
          have HFin : Hid (ShapePost xs t p w (.returned (.tuple #[.slice none 0 0, .bool false])) w3) := ⟨_, [], by rw [HNB.out, HE1.out, HE2.out, HBa1.out, HBa2.out] <;> rfl, hB3, Fresh.nil _ _, fun _ => by rw [HTY.out]; exact Arr.nil⟩
          clear y0 y1 z0 z1 z2 z3 z4 z5 klt klt2
          clear hb3 hS1 hS3 hT1
          go_wp2
          go_ret2
          exact HFin.out
        | true =>
          have HBa2 := Lib.hid a2
          clear a2
          cases a3 : decide (p.m ≤ 9) with
          | false =>
            have HBa3 := Lib.hid a3
            clear a3
            refine wpAnyB_ready (rs := [5]) (by kernel_rfl) (by simp) ?_
            refine AllReadyB.cons rfl (fun K hK => ?_) AllReadyB.nil
            go_simp
            go_at_call 196
            with_reducible refine hc.mono ?_
            rintro e w3 ⟨rfl, hb3⟩
            have hS3 : Blk w3 w.heap.size 37 #[.int .i64 t.d, .int .i64 t.i] ∧ Blk w3 (w.heap.size + 1) 32 #[.int .i64 p.op, .int .i64 p.ct, .int .i64 p.n, .int .i64 p.m, .int .i64 p.va, .slice A4 p.ks.length cap4] := ⟨hS1.1.same (hb3.block _ hS1.1.lt), hS1.2.same (hb3.block _ hS1.2.lt)⟩
            dsimp only
            refine hK.out _ _ hS3 (fun _ => trivial) ?_
            clear hK K
            (try simp only [Act.put, List.getElem_toArray, List.getElem_cons_zero, List.getElem_cons_succ, List.setIfInBounds_toArray, List.set_cons_zero, List.set_cons_succ])
            refine wpAnyB_take (i := 6) (v := ?_) rfl (by decide) (by kernel_rfl) (by kernel_rfl) (by kernel_rfl) (fun _ _ _ h => h) (Or.inl ⟨by rfl, ?hy6⟩) hS3 (fun _ => trivial) ?_
            case hy6 => (intro W hSw; (try dsimp only at hSw); go_simp; try with_reducible rfl)
            (try simp only [Act.put, List.getElem_toArray, List.getElem_cons_zero, List.getElem_cons_succ, List.setIfInBounds_toArray, List.set_cons_zero, List.set_cons_succ])
            refine wpAnyB_take (i := 7) (v := ?_) rfl (by decide) (by kernel_rfl) (by kernel_rfl) (by kernel_rfl) (fun _ _ _ h => h) (Or.inl ⟨by rfl, ?hy7⟩) hS3 (fun _ => trivial) ?_
            case hy7 => (intro W hSw; (try dsimp only at hSw); go_simp; try with_reducible rfl)
            (try simp only [Act.put, List.getElem_toArray, List.getElem_cons_zero, List.getElem_cons_succ, List.setIfInBounds_toArray, List.set_cons_zero, List.set_cons_succ])
            refine wpAnyB_take (i := 8) (v := ?_) rfl (by decide) (by kernel_rfl) (by kernel_rfl) (by kernel_rfl) (fun _ _ _ h => h) (Or.inl ⟨by rfl, ?hy8⟩) hS3 (fun _ => trivial) ?_
            case hy8 => (intro W hSw; (try dsimp only at hSw); go_simp; try with_reducible rfl)
            (try simp only [Act.put, List.getElem_toArray, List.getElem_cons_zero, List.getElem_cons_succ, List.setIfInBounds_toArray, List.set_cons_zero, List.set_cons_succ])
            refine wpAnyB_take (i := 9) (v := ?_) rfl (by decide) (by kernel_rfl) (by kernel_rfl) (by kernel_rfl) (fun _ _ _ h => h) (Or.inl ⟨by rfl, ?hy9⟩) hS3 (fun _ => trivial) ?_
            case hy9 => (intro W hSw; (try dsimp only at hSw); obtain ⟨kt, kp⟩ := hSw; have y0 : W.cell? ⟨w.heap.size, 0, none⟩ = some (.int .i64 t.d) := (kt.cell 0).trans (by simp); have y1 : W.cell? ⟨w.heap.size, 1, none⟩ = some (.int .i64 t.i) := (kt.cell 1).trans (by simp); have z0 : W.cell? ⟨w.heap.size + 1, 0, none⟩ = some (.int .i64 p.op) := (kp.cell 0).trans (by simp); have z1 : W.cell? ⟨w.heap.size + 1, 1, none⟩ = some (.int .i64 p.ct) := (kp.cell 1).trans (by simp); have z2 : W.cell? ⟨w.heap.size + 1, 2, none⟩ = some (.int .i64 p.n) := (kp.cell 2).trans (by simp); have z3 : W.cell? ⟨w.heap.size + 1, 3, none⟩ = some (.int .i64 p.m) := (kp.cell 3).trans (by simp); have z4 : W.cell? ⟨w.heap.size + 1, 4, none⟩ = some (.int .i64 p.va) := (kp.cell 4).trans (by simp); have z5 : W.cell? ⟨w.heap.size + 1, 5, none⟩ = some (.slice A4 p.ks.length cap4) := (kp.cell 5).trans (by simp);go_simp; try with_reducible rfl)
            (try simp only [Act.put, List.getElem_toArray, List.getElem_cons_zero, List.getElem_cons_succ, List.setIfInBounds_toArray, List.set_cons_zero, List.set_cons_succ])
            refine wpAnyB_take (i := 10) (v := ?_) rfl (by decide) (by kernel_rfl) (by kernel_rfl) (by kernel_rfl) (fun _ _ _ h => h) (Or.inl ⟨by rfl, ?hy10⟩) hS3 (fun _ => trivial) ?_
            case hy10 => (intro W hSw; (try dsimp only at hSw); go_simp; try with_reducible rfl)
            (try simp only [Act.put, List.getElem_toArray, List.getElem_cons_zero, List.getElem_cons_succ, List.setIfInBounds_toArray, List.set_cons_zero, List.set_cons_succ])
            rw [HBa1.out]
            refine wpAnyB_take (i := 11) (v := ?_) rfl (by decide) (by kernel_rfl) (by kernel_rfl) (by kernel_rfl) (fun _ _ _ h => h) (Or.inl ⟨by rfl, ?hy11⟩) hS3 (fun _ => trivial) ?_
            case hy11 => (intro W hSw; (try dsimp only at hSw); go_simp; try with_reducible rfl)
            (try simp only [Act.put, List.getElem_toArray, List.getElem_cons_zero, List.getElem_cons_succ, List.setIfInBounds_toArray, List.set_cons_zero, List.set_cons_succ])
            refine wpAnyB_take (i := 12) (v := ?_) rfl (by decide) (by kernel_rfl) (by kernel_rfl) (by kernel_rfl) (fun _ _ _ h => h) (Or.inl ⟨by rfl, ?hy12⟩) hS3 (fun _ => trivial) ?_
            case hy12 => (intro W hSw; (try dsimp only at hSw); go_simp; try with_reducible rfl)
            (try simp only [Act.put, List.getElem_toArray, List.getElem_cons_zero, List.getElem_cons_succ, List.setIfInBounds_toArray, List.set_cons_zero, List.set_cons_succ])
            refine wpAnyB_take (i := 13) (v := ?_) rfl (by decide) (by kernel_rfl) (by kernel_rfl) (by kernel_rfl) (fun _ _ _ h => h) (Or.inl ⟨by rfl, ?hy13⟩) hS3 (fun _ => trivial) ?_
            case hy13 => (intro W hSw; (try dsimp only at hSw); go_simp; try with_reducible rfl)
            (try simp only [Act.put, List.getElem_toArray, List.getElem_cons_zero, List.getElem_cons_succ, List.setIfInBounds_toArray, List.set_cons_zero, List.set_cons_succ])
            refine wpAnyB_take (i := 14) (v := ?_) rfl (by decide) (by kernel_rfl) (by kernel_rfl) (by kernel_rfl) (fun _ _ _ h => h) (Or.inl ⟨by rfl, ?hy14⟩) hS3 (fun _ => trivial) ?_
            case hy14 => (intro W hSw; (try dsimp only at hSw); obtain ⟨kt, kp⟩ := hSw; have y0 : W.cell? ⟨w.heap.size, 0, none⟩ = some (.int .i64 t.d) := (kt.cell 0).trans (by simp); have y1 : W.cell? ⟨w.heap.size, 1, none⟩ = some (.int .i64 t.i) := (kt.cell 1).trans (by simp); have z0 : W.cell? ⟨w.heap.size + 1, 0, none⟩ = some (.int .i64 p.op) := (kp.cell 0).trans (by simp); have z1 : W.cell? ⟨w.heap.size + 1, 1, none⟩ = some (.int .i64 p.ct) := (kp.cell 1).trans (by simp); have z2 : W.cell? ⟨w.heap.size + 1, 2, none⟩ = some (.int .i64 p.n) := (kp.cell 2).trans (by simp); have z3 : W.cell? ⟨w.heap.size + 1, 3, none⟩ = some (.int .i64 p.m) := (kp.cell 3).trans (by simp); have z4 : W.cell? ⟨w.heap.size + 1, 4, none⟩ = some (.int .i64 p.va) := (kp.cell 4).trans (by simp); have z5 : W.cell? ⟨w.heap.size + 1, 5, none⟩ = some (.slice A4 p.ks.length cap4) := (kp.cell 5).trans (by simp);go_simp; try with_reducible rfl)
            (try simp only [Act.put, List.getElem_toArray, List.getElem_cons_zero, List.getElem_cons_succ, List.setIfInBounds_toArray, List.set_cons_zero, List.set_cons_succ])
            refine wpAnyB_take (i := 15) (v := ?_) rfl (by decide) (by kernel_rfl) (by kernel_rfl) (by kernel_rfl) (fun _ _ _ h => h) (Or.inl ⟨by rfl, ?hy15⟩) hS3 (fun _ => trivial) ?_
            case hy15 => (intro W hSw; (try dsimp only at hSw); go_simp; try with_reducible rfl)
            (try simp only [Act.put, List.getElem_toArray, List.getElem_cons_zero, List.getElem_cons_succ, List.setIfInBounds_toArray, List.set_cons_zero, List.set_cons_succ])
            refine wpAnyB_take (i := 16) (v := ?_) rfl (by decide) (by kernel_rfl) (by kernel_rfl) (by kernel_rfl) (fun _ _ _ h => h) (Or.inl ⟨by rfl, ?hy16⟩) hS3 (fun _ => trivial) ?_
            case hy16 => (intro W hSw; (try dsimp only at hSw); obtain ⟨kt, kp⟩ := hSw; have y0 : W.cell? ⟨w.heap.size, 0, none⟩ = some (.int .i64 t.d) := (kt.cell 0).trans (by simp); have y1 : W.cell? ⟨w.heap.size, 1, none⟩ = some (.int .i64 t.i) := (kt.cell 1).trans (by simp); have z0 : W.cell? ⟨w.heap.size + 1, 0, none⟩ = some (.int .i64 p.op) := (kp.cell 0).trans (by simp); have z1 : W.cell? ⟨w.heap.size + 1, 1, none⟩ = some (.int .i64 p.ct) := (kp.cell 1).trans (by simp); have z2 : W.cell? ⟨w.heap.size + 1, 2, none⟩ = some (.int .i64 p.n) := (kp.cell 2).trans (by simp); have z3 : W.cell? ⟨w.heap.size + 1, 3, none⟩ = some (.int .i64 p.m) := (kp.cell 3).trans (by simp); have z4 : W.cell? ⟨w.heap.size + 1, 4, none⟩ = some (.int .i64 p.va) := (kp.cell 4).trans (by simp); have z5 : W.cell? ⟨w.heap.size + 1, 5, none⟩ = some (.slice A4 p.ks.length cap4) := (kp.cell 5).trans (by simp);go_simp; try with_reducible rfl)
            (try simp only [Act.put, List.getElem_toArray, List.getElem_cons_zero, List.getElem_cons_succ, List.setIfInBounds_toArray, List.set_cons_zero, List.set_cons_succ])
            refine wpAnyB_take (i := 17) (v := ?_) rfl (by decide) (by kernel_rfl) (by kernel_rfl) (by kernel_rfl) (fun _ _ _ h => h) (Or.inl ⟨by rfl, ?hy17⟩) hS3 (fun _ => trivial) ?_
            case hy17 => (intro W hSw; (try dsimp only at hSw); go_simp; try with_reducible rfl)
            (try simp only [Act.put, List.getElem_toArray, List.getElem_cons_zero, List.getElem_cons_succ, List.setIfInBounds_toArray, List.set_cons_zero, List.set_cons_succ])
            rw [HBa2.out]
            refine wpAnyB_take (i := 18) (v := ?_) rfl (by decide) (by kernel_rfl) (by kernel_rfl) (by kernel_rfl) (fun _ _ _ h => h) (Or.inl ⟨by rfl, ?hy18⟩) hS3 (fun _ => trivial) ?_
            case hy18 => (intro W hSw; (try dsimp only at hSw); go_simp; try with_reducible rfl)
            (try simp only [Act.put, List.getElem_toArray, List.getElem_cons_zero, List.getElem_cons_succ, List.setIfInBounds_toArray, List.set_cons_zero, List.set_cons_succ])
            refine wpAnyB_take (i := 19) (v := ?_) rfl (by decide) (by kernel_rfl) (by kernel_rfl) (by kernel_rfl) (fun _ _ _ h => h) (Or.inl ⟨by rfl, ?hy19⟩) hS3 (fun _ => trivial) ?_
            case hy19 => (intro W hSw; (try dsimp only at hSw); go_simp; try with_reducible rfl)
            (try simp only [Act.put, List.getElem_toArray, List.getElem_cons_zero, List.getElem_cons_succ, List.setIfInBounds_toArray, List.set_cons_zero, List.set_cons_succ])
            refine wpAnyB_take (i := 20) (v := ?_) rfl (by decide) (by kernel_rfl) (by kernel_rfl) (by kernel_rfl) (fun _ _ _ h => h) (Or.inl ⟨by rfl, ?hy20⟩) hS3 (fun _ => trivial) ?_
            case hy20 => (intro W hSw; (try dsimp only at hSw); go_simp; try with_reducible rfl)
            (try simp only [Act.put, List.getElem_toArray, List.getElem_cons_zero, List.getElem_cons_succ, List.setIfInBounds_toArray, List.set_cons_zero, List.set_cons_succ])
            refine wpAnyB_take (i := 21) (v := ?_) rfl (by decide) (by kernel_rfl) (by kernel_rfl) (by kernel_rfl) (fun _ _ _ h => h) (Or.inl ⟨by rfl, ?hy21⟩) hS3 (fun _ => trivial) ?_
            case hy21 => (intro W hSw; (try dsimp only at hSw); obtain ⟨kt, kp⟩ := hSw; have y0 : W.cell? ⟨w.heap.size, 0, none⟩ = some (.int .i64 t.d) := (kt.cell 0).trans (by simp); have y1 : W.cell? ⟨w.heap.size, 1, none⟩ = some (.int .i64 t.i) := (kt.cell 1).trans (by simp); have z0 : W.cell? ⟨w.heap.size + 1, 0, none⟩ = some (.int .i64 p.op) := (kp.cell 0).trans (by simp); have z1 : W.cell? ⟨w.heap.size + 1, 1, none⟩ = some (.int .i64 p.ct) := (kp.cell 1).trans (by simp); have z2 : W.cell? ⟨w.heap.size + 1, 2, none⟩ = some (.int .i64 p.n) := (kp.cell 2).trans (by simp); have z3 : W.cell? ⟨w.heap.size + 1, 3, none⟩ = some (.int .i64 p.m) := (kp.cell 3).trans (by simp); have z4 : W.cell? ⟨w.heap.size + 1, 4, none⟩ = some (.int .i64 p.va) := (kp.cell 4).trans (by simp); have z5 : W.cell? ⟨w.heap.size + 1, 5, none⟩ = some (.slice A4 p.ks.length cap4) := (kp.cell 5).trans (by simp);go_simp; try with_reducible rfl)
            (try simp only [Act.put, List.getElem_toArray, List.getElem_cons_zero, List.getElem_cons_succ, List.setIfInBounds_toArray, List.set_cons_zero, List.set_cons_succ])
            refine wpAnyB_take (i := 22) (v := ?_) rfl (by decide) (by kernel_rfl) (by kernel_rfl) (by kernel_rfl) (fun _ _ _ h => h) (Or.inl ⟨by rfl, ?hy22⟩) hS3 (fun _ => trivial) ?_
            case hy22 => (intro W hSw; (try dsimp only at hSw); go_simp; try with_reducible rfl)
            (try simp only [Act.put, List.getElem_toArray, List.getElem_cons_zero, List.getElem_cons_succ, List.setIfInBounds_toArray, List.set_cons_zero, List.set_cons_succ])
            rw [HBa3.out]
            refine wpAnyB_take (i := 23) (v := ?_) rfl (by decide) (by kernel_rfl) (by kernel_rfl) (by kernel_rfl) (fun _ _ _ h => h) (Or.inl ⟨by rfl, ?hy23⟩) hS3 (fun _ => trivial) ?_
            case hy23 => (intro W hSw; (try dsimp only at hSw); go_simp; try with_reducible rfl)
            (try simp only [Act.put, List.getElem_toArray, List.getElem_cons_zero, List.getElem_cons_succ, List.setIfInBounds_toArray, List.set_cons_zero, List.set_cons_succ])
            refine wpAnyB_take (i := 24) (v := ?_) rfl (by decide) (by kernel_rfl) (by kernel_rfl) (by kernel_rfl) (fun _ _ _ h => h) (Or.inl ⟨by rfl, ?hy24⟩) hS3 (fun _ => trivial) ?_
            case hy24 => (intro W hSw; (try dsimp only at hSw); go_simp; try with_reducible rfl)
            (try simp only [Act.put, List.getElem_toArray, List.getElem_cons_zero, List.getElem_cons_succ, List.setIfInBounds_toArray, List.set_cons_zero, List.set_cons_succ])
            refine wpAnyB_take (i := 25) (v := ?_) rfl (by decide) (by kernel_rfl) (by kernel_rfl) (by kernel_rfl) (fun _ _ _ h => h) (Or.inl ⟨by rfl, ?hy25⟩) hS3 (fun _ => trivial) ?_
            case hy25 => (intro W hSw; (try dsimp only at hSw); go_simp; try with_reducible rfl)
            (try simp only [Act.put, List.getElem_toArray, List.getElem_cons_zero, List.getElem_cons_succ, List.setIfInBounds_toArray, List.set_cons_zero, List.set_cons_succ])
            refine wpAnyB_end (by kernel_rfl) ?_
            have hB3 := hB0.drew.trans (hb3.mono hB0.size)
            have HFin : Hid (ShapePost xs t p w (.returned (.tuple #[.slice none 0 0, .bool false])) w3) := ⟨_, [], by rw [HNB.out, HE1.out, HE2.out, HBa1.out, HBa2.out, HBa3.out] <;> rfl, hB3, Fresh.nil _ _, fun _ => by rw [HTY.out]; exact Arr.nil⟩
            clear y0 y1 z0 z1 z2 z3 z4 z5 klt klt2
            clear hb3 hS1 hS3 hT1
            go_wp2
            go_ret2
            exact HFin.out
          | true =>
            have HBa3 := Lib.hid a3
            clear a3
            refine wpAnyB_ready (rs := [5]) (by kernel_rfl) (by simp) ?_
            refine AllReadyB.cons rfl (fun K hK => ?_) AllReadyB.nil
            go_simp
            go_at_call 196
            with_reducible refine hc.mono ?_
            rintro e w3 ⟨rfl, hb3⟩
            have hS3 : Blk w3 w.heap.size 37 #[.int .i64 t.d, .int .i64 t.i] ∧ Blk w3 (w.heap.size + 1) 32 #[.int .i64 p.op, .int .i64 p.ct, .int .i64 p.n, .int .i64 p.m, .int .i64 p.va, .slice A4 p.ks.length cap4] := ⟨hS1.1.same (hb3.block _ hS1.1.lt), hS1.2.same (hb3.block _ hS1.2.lt)⟩
            dsimp only
            refine hK.out _ _ hS3 (fun _ => trivial) ?_
            clear hK K
            (try simp only [Act.put, List.getElem_toArray, List.getElem_cons_zero, List.getElem_cons_succ, List.setIfInBounds_toArray, List.set_cons_zero, List.set_cons_succ])
            refine wpAnyB_take (i := 6) (v := ?_) rfl (by decide) (by kernel_rfl) (by kernel_rfl) (by kernel_rfl) (fun _ _ _ h => h) (Or.inl ⟨by rfl, ?hy6⟩) hS3 (fun _ => trivial) ?_
            case hy6 => (intro W hSw; (try dsimp only at hSw); go_simp; try with_reducible rfl)
            (try simp only [Act.put, List.getElem_toArray, List.getElem_cons_zero, List.getElem_cons_succ, List.setIfInBounds_toArray, List.set_cons_zero, List.set_cons_succ])
            refine wpAnyB_take (i := 7) (v := ?_) rfl (by decide) (by kernel_rfl) (by kernel_rfl) (by kernel_rfl) (fun _ _ _ h => h) (Or.inl ⟨by rfl, ?hy7⟩) hS3 (fun _ => trivial) ?_
            case hy7 => (intro W hSw; (try dsimp only at hSw); go_simp; try with_reducible rfl)
            (try simp only [Act.put, List.getElem_toArray, List.getElem_cons_zero, List.getElem_cons_succ, List.setIfInBounds_toArray, List.set_cons_zero, List.set_cons_succ])
            refine wpAnyB_take (i := 8) (v := ?_) rfl (by decide) (by kernel_rfl) (by kernel_rfl) (by kernel_rfl) (fun _ _ _ h => h) (Or.inl ⟨by rfl, ?hy8⟩) hS3 (fun _ => trivial) ?_
            case hy8 => (intro W hSw; (try dsimp only at hSw); go_simp; try with_reducible rfl)
            (try simp only [Act.put, List.getElem_toArray, List.getElem_cons_zero, List.getElem_cons_succ, List.setIfInBounds_toArray, List.set_cons_zero, List.set_cons_succ])
            refine wpAnyB_take (i := 9) (v := ?_) rfl (by decide) (by kernel_rfl) (by kernel_rfl) (by kernel_rfl) (fun _ _ _ h => h) (Or.inl ⟨by rfl, ?hy9⟩) hS3 (fun _ => trivial) ?_
            case hy9 => (intro W hSw; (try dsimp only at hSw); obtain ⟨kt, kp⟩ := hSw; have y0 : W.cell? ⟨w.heap.size, 0, none⟩ = some (.int .i64 t.d) := (kt.cell 0).trans (by simp); have y1 : W.cell? ⟨w.heap.size, 1, none⟩ = some (.int .i64 t.i) := (kt.cell 1).trans (by simp); have z0 : W.cell? ⟨w.heap.size + 1, 0, none⟩ = some (.int .i64 p.op) := (kp.cell 0).trans (by simp); have z1 : W.cell? ⟨w.heap.size + 1, 1, none⟩ = some (.int .i64 p.ct) := (kp.cell 1).trans (by simp); have z2 : W.cell? ⟨w.heap.size + 1, 2, none⟩ = some (.int .i64 p.n) := (kp.cell 2).trans (by simp); have z3 : W.cell? ⟨w.heap.size + 1, 3, none⟩ = some (.int .i64 p.m) := (kp.cell 3).trans (by simp); have z4 : W.cell? ⟨w.heap.size + 1, 4, none⟩ = some (.int .i64 p.va) := (kp.cell 4).trans (by simp); have z5 : W.cell? ⟨w.heap.size + 1, 5, none⟩ = some (.slice A4 p.ks.length cap4) := (kp.cell 5).trans (by simp);go_simp; try with_reducible rfl)
            (try simp only [Act.put, List.getElem_toArray, List.getElem_cons_zero, List.getElem_cons_succ, List.setIfInBounds_toArray, List.set_cons_zero, List.set_cons_succ])
            refine wpAnyB_take (i := 10) (v := ?_) rfl (by decide) (by kernel_rfl) (by kernel_rfl) (by kernel_rfl) (fun _ _ _ h => h) (Or.inl ⟨by rfl, ?hy10⟩) hS3 (fun _ => trivial) ?_
            case hy10 => (intro W hSw; (try dsimp only at hSw); go_simp; try with_reducible rfl)
            (try simp only [Act.put, List.getElem_toArray, List.getElem_cons_zero, List.getElem_cons_succ, List.setIfInBounds_toArray, List.set_cons_zero, List.set_cons_succ])
            rw [HBa1.out]
            refine wpAnyB_take (i := 11) (v := ?_) rfl (by decide) (by kernel_rfl) (by kernel_rfl) (by kernel_rfl) (fun _ _ _ h => h) (Or.inl ⟨by rfl, ?hy11⟩) hS3 (fun _ => trivial) ?_
            case hy11 => (intro W hSw; (try dsimp only at hSw); go_simp; try with_reducible rfl)
            (try simp only [Act.put, List.getElem_toArray, List.getElem_cons_zero, List.getElem_cons_succ, List.setIfInBounds_toArray, List.set_cons_zero, List.set_cons_succ])
            refine wpAnyB_take (i := 12) (v := ?_) rfl (by decide) (by kernel_rfl) (by kernel_rfl) (by kernel_rfl) (fun _ _ _ h => h) (Or.inl ⟨by rfl, ?hy12⟩) hS3 (fun _ => trivial) ?_
            case hy12 => (intro W hSw; (try dsimp only at hSw); go_simp; try with_reducible rfl)
            (try simp only [Act.put, List.getElem_toArray, List.getElem_cons_zero, List.getElem_cons_succ, List.setIfInBounds_toArray, List.set_cons_zero, List.set_cons_succ])
            refine wpAnyB_take (i := 13) (v := ?_) rfl (by decide) (by kernel_rfl) (by kernel_rfl) (by kernel_rfl) (fun _ _ _ h => h) (Or.inl ⟨by rfl, ?hy13⟩) hS3 (fun _ => trivial) ?_
            case hy13 => (intro W hSw; (try dsimp only at hSw); go_simp; try with_reducible rfl)
            (try simp only [Act.put, List.getElem_toArray, List.getElem_cons_zero, List.getElem_cons_succ, List.setIfInBounds_toArray, List.set_cons_zero, List.set_cons_succ])
            refine wpAnyB_take (i := 14) (v := ?_) rfl (by decide) (by kernel_rfl) (by kernel_rfl) (by kernel_rfl) (fun _ _ _ h => h) (Or.inl ⟨by rfl, ?hy14⟩) hS3 (fun _ => trivial) ?_
            case hy14 => (intro W hSw; (try dsimp only at hSw); obtain ⟨kt, kp⟩ := hSw; have y0 : W.cell? ⟨w.heap.size, 0, none⟩ = some (.int .i64 t.d) := (kt.cell 0).trans (by simp); have y1 : W.cell? ⟨w.heap.size, 1, none⟩ = some (.int .i64 t.i) := (kt.cell 1).trans (by simp); have z0 : W.cell? ⟨w.heap.size + 1, 0, none⟩ = some (.int .i64 p.op) := (kp.cell 0).trans (by simp); have z1 : W.cell? ⟨w.heap.size + 1, 1, none⟩ = some (.int .i64 p.ct) := (kp.cell 1).trans (by simp); have z2 : W.cell? ⟨w.heap.size + 1, 2, none⟩ = some (.int .i64 p.n) := (kp.cell 2).trans (by simp); have z3 : W.cell? ⟨w.heap.size + 1, 3, none⟩ = some (.int .i64 p.m) := (kp.cell 3).trans (by simp); have z4 : W.cell? ⟨w.heap.size + 1, 4, none⟩ = some (.int .i64 p.va) := (kp.cell 4).trans (by simp); have z5 : W.cell? ⟨w.heap.size + 1, 5, none⟩ = some (.slice A4 p.ks.length cap4) := (kp.cell 5).trans (by simp);go_simp; try with_reducible rfl)
            (try simp only [Act.put, List.getElem_toArray, List.getElem_cons_zero, List.getElem_cons_succ, List.setIfInBounds_toArray, List.set_cons_zero, List.set_cons_succ])
            refine wpAnyB_take (i := 15) (v := ?_) rfl (by decide) (by kernel_rfl) (by kernel_rfl) (by kernel_rfl) (fun _ _ _ h => h) (Or.inl ⟨by rfl, ?hy15⟩) hS3 (fun _ => trivial) ?_
            case hy15 => (intro W hSw; (try dsimp only at hSw); go_simp; try with_reducible rfl)
            (try simp only [Act.put, List.getElem_toArray, List.getElem_cons_zero, List.getElem_cons_succ, List.setIfInBounds_toArray, List.set_cons_zero, List.set_cons_succ])
            refine wpAnyB_take (i := 16) (v := ?_) rfl (by decide) (by kernel_rfl) (by kernel_rfl) (by kernel_rfl) (fun _ _ _ h => h) (Or.inl ⟨by rfl, ?hy16⟩) hS3 (fun _ => trivial) ?_
            case hy16 => (intro W hSw; (try dsimp only at hSw); obtain ⟨kt, kp⟩ := hSw; have y0 : W.cell? ⟨w.heap.size, 0, none⟩ = some (.int .i64 t.d) := (kt.cell 0).trans (by simp); have y1 : W.cell? ⟨w.heap.size, 1, none⟩ = some (.int .i64 t.i) := (kt.cell 1).trans (by simp); have z0 : W.cell? ⟨w.heap.size + 1, 0, none⟩ = some (.int .i64 p.op) := (kp.cell 0).trans (by simp); have z1 : W.cell? ⟨w.heap.size + 1, 1, none⟩ = some (.int .i64 p.ct) := (kp.cell 1).trans (by simp); have z2 : W.cell? ⟨w.heap.size + 1, 2, none⟩ = some (.int .i64 p.n) := (kp.cell 2).trans (by simp); have z3 : W.cell? ⟨w.heap.size + 1, 3, none⟩ = some (.int .i64 p.m) := (kp.cell 3).trans (by simp); have z4 : W.cell? ⟨w.heap.size + 1, 4, none⟩ = some (.int .i64 p.va) := (kp.cell 4).trans (by simp); have z5 : W.cell? ⟨w.heap.size + 1, 5, none⟩ = some (.slice A4 p.ks.length cap4) := (kp.cell 5).trans (by simp);go_simp; try with_reducible rfl)
            (try simp only [Act.put, List.getElem_toArray, List.getElem_cons_zero, List.getElem_cons_succ, List.setIfInBounds_toArray, List.set_cons_zero, List.set_cons_succ])
            refine wpAnyB_take (i := 17) (v := ?_) rfl (by decide) (by kernel_rfl) (by kernel_rfl) (by kernel_rfl) (fun _ _ _ h => h) (Or.inl ⟨by rfl, ?hy17⟩) hS3 (fun _ => trivial) ?_
            case hy17 => (intro W hSw; (try dsimp only at hSw); go_simp; try with_reducible rfl)
            (try simp only [Act.put, List.getElem_toArray, List.getElem_cons_zero, List.getElem_cons_succ, List.setIfInBounds_toArray, List.set_cons_zero, List.set_cons_succ])
            rw [HBa2.out]
            refine wpAnyB_take (i := 18) (v := ?_) rfl (by decide) (by kernel_rfl) (by kernel_rfl) (by kernel_rfl) (fun _ _ _ h => h) (Or.inl ⟨by rfl, ?hy18⟩) hS3 (fun _ => trivial) ?_
            case hy18 => (intro W hSw; (try dsimp only at hSw); go_simp; try with_reducible rfl)
            (try simp only [Act.put, List.getElem_toArray, List.getElem_cons_zero, List.getElem_cons_succ, List.setIfInBounds_toArray, List.set_cons_zero, List.set_cons_succ])
            refine wpAnyB_take (i := 19) (v := ?_) rfl (by decide) (by kernel_rfl) (by kernel_rfl) (by kernel_rfl) (fun _ _ _ h => h) (Or.inl ⟨by rfl, ?hy19⟩) hS3 (fun _ => trivial) ?_
            case hy19 => (intro W hSw; (try dsimp only at hSw); go_simp; try with_reducible rfl)
            (try simp only [Act.put, List.getElem_toArray, List.getElem_cons_zero, List.getElem_cons_succ, List.setIfInBounds_toArray, List.set_cons_zero, List.set_cons_succ])
            refine wpAnyB_take (i := 20) (v := ?_) rfl (by decide) (by kernel_rfl) (by kernel_rfl) (by kernel_rfl) (fun _ _ _ h => h) (Or.inl ⟨by rfl, ?hy20⟩) hS3 (fun _ => trivial) ?_
            case hy20 => (intro W hSw; (try dsimp only at hSw); go_simp; try with_reducible rfl)
            (try simp only [Act.put, List.getElem_toArray, List.getElem_cons_zero, List.getElem_cons_succ, List.setIfInBounds_toArray, List.set_cons_zero, List.set_cons_succ])
            refine wpAnyB_take (i := 21) (v := ?_) rfl (by decide) (by kernel_rfl) (by kernel_rfl) (by kernel_rfl) (fun _ _ _ h => h) (Or.inl ⟨by rfl, ?hy21⟩) hS3 (fun _ => trivial) ?_
            case hy21 => (intro W hSw; (try dsimp only at hSw); obtain ⟨kt, kp⟩ := hSw; have y0 : W.cell? ⟨w.heap.size, 0, none⟩ = some (.int .i64 t.d) := (kt.cell 0).trans (by simp); have y1 : W.cell? ⟨w.heap.size, 1, none⟩ = some (.int .i64 t.i) := (kt.cell 1).trans (by simp); have z0 : W.cell? ⟨w.heap.size + 1, 0, none⟩ = some (.int .i64 p.op) := (kp.cell 0).trans (by simp); have z1 : W.cell? ⟨w.heap.size + 1, 1, none⟩ = some (.int .i64 p.ct) := (kp.cell 1).trans (by simp); have z2 : W.cell? ⟨w.heap.size + 1, 2, none⟩ = some (.int .i64 p.n) := (kp.cell 2).trans (by simp); have z3 : W.cell? ⟨w.heap.size + 1, 3, none⟩ = some (.int .i64 p.m) := (kp.cell 3).trans (by simp); have z4 : W.cell? ⟨w.heap.size + 1, 4, none⟩ = some (.int .i64 p.va) := (kp.cell 4).trans (by simp); have z5 : W.cell? ⟨w.heap.size + 1, 5, none⟩ = some (.slice A4 p.ks.length cap4) := (kp.cell 5).trans (by simp);go_simp; try with_reducible rfl)
            (try simp only [Act.put, List.getElem_toArray, List.getElem_cons_zero, List.getElem_cons_succ, List.setIfInBounds_toArray, List.set_cons_zero, List.set_cons_succ])
            refine wpAnyB_take (i := 22) (v := ?_) rfl (by decide) (by kernel_rfl) (by kernel_rfl) (by kernel_rfl) (fun _ _ _ h => h) (Or.inl ⟨by rfl, ?hy22⟩) hS3 (fun _ => trivial) ?_
            case hy22 => (intro W hSw; (try dsimp only at hSw); go_simp; try with_reducible rfl)
            (try simp only [Act.put, List.getElem_toArray, List.getElem_cons_zero, List.getElem_cons_succ, List.setIfInBounds_toArray, List.set_cons_zero, List.set_cons_succ])
            rw [HBa3.out]
            refine wpAnyB_take (i := 23) (v := ?_) rfl (by decide) (by kernel_rfl) (by kernel_rfl) (by kernel_rfl) (fun _ _ _ h => h) (Or.inl ⟨by rfl, ?hy23⟩) hS3 (fun _ => trivial) ?_
            case hy23 => (intro W hSw; (try dsimp only at hSw); go_simp; try with_reducible rfl)
            (try simp only [Act.put, List.getElem_toArray, List.getElem_cons_zero, List.getElem_cons_succ, List.setIfInBounds_toArray, List.set_cons_zero, List.set_cons_succ])
            refine wpAnyB_take (i := 24) (v := ?_) rfl (by decide) (by kernel_rfl) (by kernel_rfl) (by kernel_rfl) (fun _ _ _ h => h) (Or.inl ⟨by rfl, ?hy24⟩) hS3 (fun _ => trivial) ?_
            case hy24 => (intro W hSw; (try dsimp only at hSw); go_simp; try with_reducible rfl)
            (try simp only [Act.put, List.getElem_toArray, List.getElem_cons_zero, List.getElem_cons_succ, List.setIfInBounds_toArray, List.set_cons_zero, List.set_cons_succ])
            refine wpAnyB_take (i := 25) (v := ?_) rfl (by decide) (by kernel_rfl) (by kernel_rfl) (by kernel_rfl) (fun _ _ _ h => h) (Or.inl ⟨by rfl, ?hy25⟩) hS3 (fun _ => trivial) ?_
            case hy25 => (intro W hSw; (try dsimp only at hSw); go_simp; try with_reducible rfl)
            (try simp only [Act.put, List.getElem_toArray, List.getElem_cons_zero, List.getElem_cons_succ, List.setIfInBounds_toArray, List.set_cons_zero, List.set_cons_succ])
            refine wpAnyB_end (by kernel_rfl) ?_
            have hB3 := hB0.drew.trans (hb3.mono hB0.size)
            have HFin : Hid (ShapePost xs t p w (.returned (.tuple #[.slice none 0 0, .bool true])) w3) := ⟨_, [], by rw [HNB.out, HE1.out, HE2.out, HBa1.out, HBa2.out, HBa3.out] <;> rfl, hB3, Fresh.nil _ _, fun _ => by rw [HTY.out]; exact Arr.nil⟩
            clear y0 y1 z0 z1 z2 z3 z4 z5 klt klt2
            clear hb3 hS1 hS3 hT1
            go_wp2
            go_ret2
            exact HFin.out
end Go.Proofs.Ytbffkgfhcmigaaa

namespace Go.Proofs.Ytbffkgfhcmigaaa
open Go.RowKit

set_option maxRecDepth 100000 in
set_option maxHeartbeats 1600000 in
theorem shape_6 (xs : List Dt) (hw : WorldOK xs) (t : Ty) (ht : TyIn xs.length t) (p : P) (h6 : p.op = 6) (w : World) (x : Value) (F : List Nat) (cs : List Value) (G : List Nat) : Arr w (DtR w) xs x F → Under w.heap.size F → PR w p cs G → Under w.heap.size G →
    Calls Try.prog 182 #[x, .agg #[.int .i64 t.d, .int .i64 t.i], .agg cs.toArray] w (ShapePost xs t p w) := by
  intro hx hf hv hg
  obtain ⟨kv, rfl, ha⟩ := (PR_iff _ _ _).1 hv
  obtain ⟨A, cap, rfl, hc1, hc2⟩ := hx.form
  obtain ⟨A4, cap4, rfl, hc3, hc4⟩ := ha.form
  have HV := Lib.hid hv
  have HX := Lib.hid hx
  have HF := Lib.hid hf
  have HA := Lib.hid ha
  have HG := Lib.hid hg
  clear hx hf ha hg
  clear hv
  have HW := Lib.hid hw
  have HT := Lib.hid ht
  clear hw ht
  have o1 : (p.op == 1) = false := by simp [h6]
  have o2 : (p.op == 2) = false := by simp [h6]
  have o3 : (p.op == 3) = false := by simp [h6]
  have o4 : (p.op == 4) = false := by simp [h6]
  have o5 : (p.op == 5) = false := by simp [h6]
  have o6 : (p.op == 6) = true := by simp [h6]
  have HNB := Lib.hid (nodeB_6 (xs := xs) (t := t) h6)
  have HTY := Lib.hid (show typesP xs t p = [t] from by rw [typesP_no (by omega), h6]; rfl)
  clear h6
  go_enter Try.func182, Try.ntmps182
  go_wp2_with fail
  obtain ⟨W2, hW2⟩ : ∃ W2, W2 = ((w.alloc (.cells #[.int .i64 t.d, .int .i64 t.i] 37)).alloc (.cells #[.int .i64 p.op, .int .i64 p.ct, .int .i64 p.n, .int .i64 p.m, .int .i64 p.va, .slice A4 p.ks.length cap4] 32)) := ⟨_, rfl⟩
  have hB0 : Below w.heap.size w W2 := by rw [hW2]; exact ((Below.refl _ _).alloc (Nat.le_refl _) _).alloc (by simp) _
  have KT : Hid (Blk W2 w.heap.size 37 #[.int .i64 t.d, .int .i64 t.i]) := by rw [hW2]; exact (Blk.new w _ _).same (Below.heap_alloc _ _ _ (by simp))
  have KP : Hid (Blk W2 (w.heap.size + 1) 32 #[.int .i64 p.op, .int .i64 p.ct, .int .i64 p.n, .int .i64 p.m, .int .i64 p.va, .slice A4 p.ks.length cap4]) := by rw [hW2]; have h := Blk.new (w.alloc (.cells #[.int .i64 t.d, .int .i64 t.i] 37)) 32 #[.int .i64 p.op, .int .i64 p.ct, .int .i64 p.n, .int .i64 p.m, .int .i64 p.va, .slice A4 p.ks.length cap4]; rw [World.size_alloc] at h; exact h
  have hws : w.heap.size + 2 ≤ W2.heap.size := by rw [hW2]; simp
  have hws2 : W2.heap.size = w.heap.size + 1 + 1 := by rw [hW2]; simp
  rw [← hW2]
  clear hW2
  have y0 : W2.cell? ⟨w.heap.size, 0, none⟩ = some (.int .i64 t.d) := (KT.out.cell 0).trans (by simp)
  have y1 : W2.cell? ⟨w.heap.size, 1, none⟩ = some (.int .i64 t.i) := (KT.out.cell 1).trans (by simp)
  have klt := KT.out.lt
  have z0 : W2.cell? ⟨w.heap.size + 1, 0, none⟩ = some (.int .i64 p.op) := (KP.out.cell 0).trans (by simp)
  have z1 : W2.cell? ⟨w.heap.size + 1, 1, none⟩ = some (.int .i64 p.ct) := (KP.out.cell 1).trans (by simp)
  have z2 : W2.cell? ⟨w.heap.size + 1, 2, none⟩ = some (.int .i64 p.n) := (KP.out.cell 2).trans (by simp)
  have z3 : W2.cell? ⟨w.heap.size + 1, 3, none⟩ = some (.int .i64 p.m) := (KP.out.cell 3).trans (by simp)
  have z4 : W2.cell? ⟨w.heap.size + 1, 4, none⟩ = some (.int .i64 p.va) := (KP.out.cell 4).trans (by simp)
  have z5 : W2.cell? ⟨w.heap.size + 1, 5, none⟩ = some (.slice A4 p.ks.length cap4) := (KP.out.cell 5).trans (by simp)
  have klt2 := KP.out.lt
  cases e2 : onlyB p false false true 1 with
  | false =>
    have HC : Hid (∀ w1 : World, Calls Try.prog 196 #[.agg #[.int .i64 p.op, .int .i64 p.ct, .int .i64 p.n, .int .i64 p.m, .int .i64 p.va, .slice A4 p.ks.length cap4], .bool false, .bool false, .bool true, .int .i64 1] w1 fun e w' => e = .returned (.bool false) ∧ Below w1.heap.size w1 w') := fun w1 => by have h := impl_only p A4 cap4 false false true 1 w1; rw [e2] at h; exact h
    have HE2 := Lib.hid e2
    clear e2
    have HNV : Hid (nodeB xs t p = false) := by rw [HNB.out, HE2.out]; rfl
    go_wp2_with fail
    refine wp_region_B (S := fun w' => Blk w' w.heap.size 37 #[.int .i64 t.d, .int .i64 t.i] ∧ Blk w' (w.heap.size + 1) 32 #[.int .i64 p.op, .int .i64 p.ct, .int .i64 p.n, .int .i64 p.m, .int .i64 p.va, .slice A4 p.ks.length cap4]) (T := fun _ => True) (d := 99) (by kernel_rfl) ?_
    have hS1 : Blk W2.drew w.heap.size 37 #[.int .i64 t.d, .int .i64 t.i] ∧ Blk W2.drew (w.heap.size + 1) 32 #[.int .i64 p.op, .int .i64 p.ct, .int .i64 p.n, .int .i64 p.m, .int .i64 p.va, .slice A4 p.ks.length cap4] := ⟨KT.out, KP.out⟩
    have hT1 : True := trivial
    refine wpAnyB_take (i := 0) (v := ?_) rfl (by decide) (by kernel_rfl) (by kernel_rfl) (by kernel_rfl) (fun _ _ _ h => h) (Or.inl ⟨by rfl, ?hy0⟩) hS1 (fun _ => trivial) ?_
    case hy0 => (intro W hSw; (try dsimp only at hSw); obtain ⟨kt, kp⟩ := hSw; have y0 : W.cell? ⟨w.heap.size, 0, none⟩ = some (.int .i64 t.d) := (kt.cell 0).trans (by simp); have y1 : W.cell? ⟨w.heap.size, 1, none⟩ = some (.int .i64 t.i) := (kt.cell 1).trans (by simp); have z0 : W.cell? ⟨w.heap.size + 1, 0, none⟩ = some (.int .i64 p.op) := (kp.cell 0).trans (by simp); have z1 : W.cell? ⟨w.heap.size + 1, 1, none⟩ = some (.int .i64 p.ct) := (kp.cell 1).trans (by simp); have z2 : W.cell? ⟨w.heap.size + 1, 2, none⟩ = some (.int .i64 p.n) := (kp.cell 2).trans (by simp); have z3 : W.cell? ⟨w.heap.size + 1, 3, none⟩ = some (.int .i64 p.m) := (kp.cell 3).trans (by simp); have z4 : W.cell? ⟨w.heap.size + 1, 4, none⟩ = some (.int .i64 p.va) := (kp.cell 4).trans (by simp); have z5 : W.cell? ⟨w.heap.size + 1, 5, none⟩ = some (.slice A4 p.ks.length cap4) := (kp.cell 5).trans (by simp);go_simp; try with_reducible rfl)
    (try simp only [Act.put, List.getElem_toArray, List.getElem_cons_zero, List.getElem_cons_succ, List.setIfInBounds_toArray, List.set_cons_zero, List.set_cons_succ])
    refine wpAnyB_take (i := 2) (v := ?_) rfl (by decide) (by kernel_rfl) (by kernel_rfl) (by kernel_rfl) (fun _ _ _ h => h) (Or.inl ⟨by rfl, ?hy2⟩) hS1 (fun _ => trivial) ?_
    case hy2 => (intro W hSw; (try dsimp only at hSw); obtain ⟨kt, kp⟩ := hSw; have y0 : W.cell? ⟨w.heap.size, 0, none⟩ = some (.int .i64 t.d) := (kt.cell 0).trans (by simp); have y1 : W.cell? ⟨w.heap.size, 1, none⟩ = some (.int .i64 t.i) := (kt.cell 1).trans (by simp); have z0 : W.cell? ⟨w.heap.size + 1, 0, none⟩ = some (.int .i64 p.op) := (kp.cell 0).trans (by simp); have z1 : W.cell? ⟨w.heap.size + 1, 1, none⟩ = some (.int .i64 p.ct) := (kp.cell 1).trans (by simp); have z2 : W.cell? ⟨w.heap.size + 1, 2, none⟩ = some (.int .i64 p.n) := (kp.cell 2).trans (by simp); have z3 : W.cell? ⟨w.heap.size + 1, 3, none⟩ = some (.int .i64 p.m) := (kp.cell 3).trans (by simp); have z4 : W.cell? ⟨w.heap.size + 1, 4, none⟩ = some (.int .i64 p.va) := (kp.cell 4).trans (by simp); have z5 : W.cell? ⟨w.heap.size + 1, 5, none⟩ = some (.slice A4 p.ks.length cap4) := (kp.cell 5).trans (by simp);go_simp; try with_reducible rfl)
    (try simp only [Act.put, List.getElem_toArray, List.getElem_cons_zero, List.getElem_cons_succ, List.setIfInBounds_toArray, List.set_cons_zero, List.set_cons_succ])
    refine wpAnyB_ready (rs := [1, 3]) (by kernel_rfl) (by simp) ?_
    refine AllReadyB.cons rfl (fun K hK => ?_) (AllReadyB.cons rfl (fun K hK => ?_) AllReadyB.nil)
    · go_simp
      have hS2 := And.intro (hS1.1.same (Below.heap_alloc _ (.cells #[.int .i64 t.d, .int .i64 t.i] 37) _ hS1.1.lt)) (hS1.2.same (Below.heap_alloc _ (.cells #[.int .i64 t.d, .int .i64 t.i] 37) _ hS1.2.lt))
      refine hK.out _ _ hS2 (fun _ => trivial) ?_
      clear hK K
      (try simp only [Act.put, List.getElem_toArray, List.getElem_cons_zero, List.getElem_cons_succ, List.setIfInBounds_toArray, List.set_cons_zero, List.set_cons_succ])
      refine wpAnyB_ready (rs := [3]) (by kernel_rfl) (by simp) ?_
      refine AllReadyB.cons rfl (fun K hK => ?_) AllReadyB.nil
      go_simp
      go_at_call 196
      with_reducible refine (HC.out _).mono ?_
      rintro e w3 ⟨rfl, hb3⟩
      have hS3 : Blk w3 w.heap.size 37 #[.int .i64 t.d, .int .i64 t.i] ∧ Blk w3 (w.heap.size + 1) 32 #[.int .i64 p.op, .int .i64 p.ct, .int .i64 p.n, .int .i64 p.m, .int .i64 p.va, .slice A4 p.ks.length cap4] := ⟨hS2.1.same (hb3.block _ hS2.1.lt), hS2.2.same (hb3.block _ hS2.2.lt)⟩
      dsimp only
      refine hK.out _ _ hS3 (fun _ => trivial) ?_
      clear hK K
      (try simp only [Act.put, List.getElem_toArray, List.getElem_cons_zero, List.getElem_cons_succ, List.setIfInBounds_toArray, List.set_cons_zero, List.set_cons_succ])
      refine wpAnyB_take (i := 4) (v := ?_) rfl (by decide) (by kernel_rfl) (by kernel_rfl) (by kernel_rfl) (fun _ _ _ h => h) (Or.inl ⟨by rfl, ?hy4⟩) hS3 (fun _ => trivial) ?_
      case hy4 => (intro W hSw; (try dsimp only at hSw); go_simp; try with_reducible rfl)
      (try simp only [Act.put, List.getElem_toArray, List.getElem_cons_zero, List.getElem_cons_succ, List.setIfInBounds_toArray, List.set_cons_zero, List.set_cons_succ])
      refine wpAnyB_take (i := 5) (v := undef) rfl (by decide) (by kernel_rfl) (by kernel_rfl) (by kernel_rfl) (fun _ _ _ h => h) (Or.inr ⟨by rfl, rfl⟩) hS3 (fun _ => trivial) ?_
      (try simp only [Act.put, List.getElem_toArray, List.getElem_cons_zero, List.getElem_cons_succ, List.setIfInBounds_toArray, List.set_cons_zero, List.set_cons_succ])
      refine wpAnyB_take (i := 6) (v := undef) rfl (by decide) (by kernel_rfl) (by kernel_rfl) (by kernel_rfl) (fun _ _ _ h => h) (Or.inr ⟨by rfl, rfl⟩) hS3 (fun _ => trivial) ?_
      (try simp only [Act.put, List.getElem_toArray, List.getElem_cons_zero, List.getElem_cons_succ, List.setIfInBounds_toArray, List.set_cons_zero, List.set_cons_succ])
      refine wpAnyB_take (i := 7) (v := undef) rfl (by decide) (by kernel_rfl) (by kernel_rfl) (by kernel_rfl) (fun _ _ _ h => h) (Or.inr ⟨by rfl, rfl⟩) hS3 (fun _ => trivial) ?_
      (try simp only [Act.put, List.getElem_toArray, List.getElem_cons_zero, List.getElem_cons_succ, List.setIfInBounds_toArray, List.set_cons_zero, List.set_cons_succ])
      refine wpAnyB_take (i := 8) (v := ?_) rfl (by decide) (by kernel_rfl) (by kernel_rfl) (by kernel_rfl) (fun _ _ _ h => h) (Or.inl ⟨by rfl, ?hy8⟩) hS3 (fun _ => trivial) ?_
      case hy8 => (intro W hSw; (try dsimp only at hSw); go_simp; try with_reducible rfl)
      (try simp only [Act.put, List.getElem_toArray, List.getElem_cons_zero, List.getElem_cons_succ, List.setIfInBounds_toArray, List.set_cons_zero, List.set_cons_succ])
      refine wpAnyB_take (i := 9) (v := ?_) rfl (by decide) (by kernel_rfl) (by kernel_rfl) (by kernel_rfl) (fun _ _ _ h => h) (Or.inl ⟨by rfl, ?hy9⟩) hS3 (fun _ => trivial) ?_
      case hy9 => (intro W hSw; (try dsimp only at hSw); go_simp; try with_reducible rfl)
      (try simp only [Act.put, List.getElem_toArray, List.getElem_cons_zero, List.getElem_cons_succ, List.setIfInBounds_toArray, List.set_cons_zero, List.set_cons_succ])
      refine wpAnyB_take (i := 10) (v := ?_) rfl (by decide) (by kernel_rfl) (by kernel_rfl) (by kernel_rfl) (fun _ _ _ h => h) (Or.inl ⟨by rfl, ?hy10⟩) hS3 (fun _ => trivial) ?_
      case hy10 => (intro W hSw; (try dsimp only at hSw); go_simp; try with_reducible rfl)
      (try simp only [Act.put, List.getElem_toArray, List.getElem_cons_zero, List.getElem_cons_succ, List.setIfInBounds_toArray, List.set_cons_zero, List.set_cons_succ])
      refine wpAnyB_end (by kernel_rfl) ?_
      obtain ⟨q1, q2, q3⟩ := shape_endA hB0 hws2 hb3
      have HFin : Hid (ShapePost xs t p w (.returned (.tuple #[.slice (some ⟨w.heap.size + 1 + 1, 0, none⟩) 1 1, .bool false])) w3) := ⟨_, [w.heap.size + 1 + 1], by rw [HNV.out], q1, q2, fun _ => by rw [HTY.out]; exact arr_tys1 q3⟩
      clear y0 y1 z0 z1 z2 z3 z4 z5 klt klt2
      clear hS1 hS3 hb3 q1 q2 q3
      go_wp2
      go_ret2
      exact HFin.out
    · go_simp
      go_at_call 196
      with_reducible refine (HC.out _).mono ?_
      rintro e w3 ⟨rfl, hb3⟩
      have hS3 : Blk w3 w.heap.size 37 #[.int .i64 t.d, .int .i64 t.i] ∧ Blk w3 (w.heap.size + 1) 32 #[.int .i64 p.op, .int .i64 p.ct, .int .i64 p.n, .int .i64 p.m, .int .i64 p.va, .slice A4 p.ks.length cap4] := ⟨hS1.1.same (hb3.block _ hS1.1.lt), hS1.2.same (hb3.block _ hS1.2.lt)⟩
      dsimp only
      refine hK.out _ _ hS3 (fun _ => trivial) ?_
      clear hK K
      (try simp only [Act.put, List.getElem_toArray, List.getElem_cons_zero, List.getElem_cons_succ, List.setIfInBounds_toArray, List.set_cons_zero, List.set_cons_succ])
      refine wpAnyB_take (i := 4) (v := ?_) rfl (by decide) (by kernel_rfl) (by kernel_rfl) (by kernel_rfl) (fun _ _ _ h => h) (Or.inl ⟨by rfl, ?hy4⟩) hS3 (fun _ => trivial) ?_
      case hy4 => (intro W hSw; (try dsimp only at hSw); go_simp; try with_reducible rfl)
      (try simp only [Act.put, List.getElem_toArray, List.getElem_cons_zero, List.getElem_cons_succ, List.setIfInBounds_toArray, List.set_cons_zero, List.set_cons_succ])
      refine wpAnyB_take (i := 5) (v := undef) rfl (by decide) (by kernel_rfl) (by kernel_rfl) (by kernel_rfl) (fun _ _ _ h => h) (Or.inr ⟨by rfl, rfl⟩) hS3 (fun _ => trivial) ?_
      (try simp only [Act.put, List.getElem_toArray, List.getElem_cons_zero, List.getElem_cons_succ, List.setIfInBounds_toArray, List.set_cons_zero, List.set_cons_succ])
      refine wpAnyB_take (i := 6) (v := undef) rfl (by decide) (by kernel_rfl) (by kernel_rfl) (by kernel_rfl) (fun _ _ _ h => h) (Or.inr ⟨by rfl, rfl⟩) hS3 (fun _ => trivial) ?_
      (try simp only [Act.put, List.getElem_toArray, List.getElem_cons_zero, List.getElem_cons_succ, List.setIfInBounds_toArray, List.set_cons_zero, List.set_cons_succ])
      refine wpAnyB_take (i := 7) (v := undef) rfl (by decide) (by kernel_rfl) (by kernel_rfl) (by kernel_rfl) (fun _ _ _ h => h) (Or.inr ⟨by rfl, rfl⟩) hS3 (fun _ => trivial) ?_
      (try simp only [Act.put, List.getElem_toArray, List.getElem_cons_zero, List.getElem_cons_succ, List.setIfInBounds_toArray, List.set_cons_zero, List.set_cons_succ])
      refine wpAnyB_take (i := 8) (v := ?_) rfl (by decide) (by kernel_rfl) (by kernel_rfl) (by kernel_rfl) (fun _ _ _ h => h) (Or.inl ⟨by rfl, ?hy8⟩) hS3 (fun _ => trivial) ?_
      case hy8 => (intro W hSw; (try dsimp only at hSw); go_simp; try with_reducible rfl)
      (try simp only [Act.put, List.getElem_toArray, List.getElem_cons_zero, List.getElem_cons_succ, List.setIfInBounds_toArray, List.set_cons_zero, List.set_cons_succ])
      refine wpAnyB_ready (rs := [1]) (by kernel_rfl) (by simp) ?_
      refine AllReadyB.cons rfl (fun K hK => ?_) AllReadyB.nil
      go_simp
      have hS4 := And.intro (hS3.1.same (Below.heap_alloc _ (.cells #[.int .i64 t.d, .int .i64 t.i] 37) _ hS3.1.lt)) (hS3.2.same (Below.heap_alloc _ (.cells #[.int .i64 t.d, .int .i64 t.i] 37) _ hS3.2.lt))
      refine hK.out _ _ hS4 (fun _ => trivial) ?_
      clear hK K
      (try simp only [Act.put, List.getElem_toArray, List.getElem_cons_zero, List.getElem_cons_succ, List.setIfInBounds_toArray, List.set_cons_zero, List.set_cons_succ])
      refine wpAnyB_take (i := 9) (v := ?_) rfl (by decide) (by kernel_rfl) (by kernel_rfl) (by kernel_rfl) (fun _ _ _ h => h) (Or.inl ⟨by rfl, ?hy9⟩) hS4 (fun _ => trivial) ?_
      case hy9 => (intro W hSw; (try dsimp only at hSw); go_simp; try with_reducible rfl)
      (try simp only [Act.put, List.getElem_toArray, List.getElem_cons_zero, List.getElem_cons_succ, List.setIfInBounds_toArray, List.set_cons_zero, List.set_cons_succ])
      refine wpAnyB_take (i := 10) (v := ?_) rfl (by decide) (by kernel_rfl) (by kernel_rfl) (by kernel_rfl) (fun _ _ _ h => h) (Or.inl ⟨by rfl, ?hy10⟩) hS4 (fun _ => trivial) ?_
      case hy10 => (intro W hSw; (try dsimp only at hSw); go_simp; try with_reducible rfl)
      (try simp only [Act.put, List.getElem_toArray, List.getElem_cons_zero, List.getElem_cons_succ, List.setIfInBounds_toArray, List.set_cons_zero, List.set_cons_succ])
      refine wpAnyB_end (by kernel_rfl) ?_
      obtain ⟨q1, q2⟩ := shape_endB hB0 hb3 (.cells #[.int .i64 t.d, .int .i64 t.i] 37)
      have HFin : Hid (ShapePost xs t p w (.returned (.tuple #[.slice (some ⟨w3.heap.size, 0, none⟩) 1 1, .bool false])) (w3.alloc (.cells #[.int .i64 t.d, .int .i64 t.i] 37))) := ⟨_, [w3.heap.size], by rw [HNV.out], q1, q2, fun _ => by rw [HTY.out]; exact arr_tys1 (Blk.new w3 _ _)⟩
      clear y0 y1 z0 z1 z2 z3 z4 z5 klt klt2
      clear hS1 hS3 hb3 q1 q2
      go_wp2
      go_ret2
      exact HFin.out
  | true =>
    have HC : Hid (∀ w1 : World, Calls Try.prog 196 #[.agg #[.int .i64 p.op, .int .i64 p.ct, .int .i64 p.n, .int .i64 p.m, .int .i64 p.va, .slice A4 p.ks.length cap4], .bool false, .bool false, .bool true, .int .i64 1] w1 fun e w' => e = .returned (.bool true) ∧ Below w1.heap.size w1 w') := fun w1 => by have h := impl_only p A4 cap4 false false true 1 w1; rw [e2] at h; exact h
    have HE2 := Lib.hid e2
    clear e2
    generalize hbb : withinB p.va 0 5 = bb at *
    have HV2 : Hid (∀ w1 : World, Calls Try.prog 197 #[.int .i64 p.va] w1 fun e w' => e = .returned (.bool bb) ∧ w' = w1) := fun w1 => by rw [← hbb]; exact impl_isVar p.va w1
    clear hbb
    have HNV : Hid (nodeB xs t p = bb) := by rw [HNB.out, HE2.out]; rfl
    go_wp2_with fail
    refine wp_region_B (S := fun w' => Blk w' w.heap.size 37 #[.int .i64 t.d, .int .i64 t.i] ∧ Blk w' (w.heap.size + 1) 32 #[.int .i64 p.op, .int .i64 p.ct, .int .i64 p.n, .int .i64 p.m, .int .i64 p.va, .slice A4 p.ks.length cap4]) (T := fun _ => True) (d := 99) (by kernel_rfl) ?_
    have hS1 : Blk W2.drew w.heap.size 37 #[.int .i64 t.d, .int .i64 t.i] ∧ Blk W2.drew (w.heap.size + 1) 32 #[.int .i64 p.op, .int .i64 p.ct, .int .i64 p.n, .int .i64 p.m, .int .i64 p.va, .slice A4 p.ks.length cap4] := ⟨KT.out, KP.out⟩
    have hT1 : True := trivial
    refine wpAnyB_take (i := 0) (v := ?_) rfl (by decide) (by kernel_rfl) (by kernel_rfl) (by kernel_rfl) (fun _ _ _ h => h) (Or.inl ⟨by rfl, ?hy0⟩) hS1 (fun _ => trivial) ?_
    case hy0 => (intro W hSw; (try dsimp only at hSw); obtain ⟨kt, kp⟩ := hSw; have y0 : W.cell? ⟨w.heap.size, 0, none⟩ = some (.int .i64 t.d) := (kt.cell 0).trans (by simp); have y1 : W.cell? ⟨w.heap.size, 1, none⟩ = some (.int .i64 t.i) := (kt.cell 1).trans (by simp); have z0 : W.cell? ⟨w.heap.size + 1, 0, none⟩ = some (.int .i64 p.op) := (kp.cell 0).trans (by simp); have z1 : W.cell? ⟨w.heap.size + 1, 1, none⟩ = some (.int .i64 p.ct) := (kp.cell 1).trans (by simp); have z2 : W.cell? ⟨w.heap.size + 1, 2, none⟩ = some (.int .i64 p.n) := (kp.cell 2).trans (by simp); have z3 : W.cell? ⟨w.heap.size + 1, 3, none⟩ = some (.int .i64 p.m) := (kp.cell 3).trans (by simp); have z4 : W.cell? ⟨w.heap.size + 1, 4, none⟩ = some (.int .i64 p.va) := (kp.cell 4).trans (by simp); have z5 : W.cell? ⟨w.heap.size + 1, 5, none⟩ = some (.slice A4 p.ks.length cap4) := (kp.cell 5).trans (by simp);go_simp; try with_reducible rfl)
    (try simp only [Act.put, List.getElem_toArray, List.getElem_cons_zero, List.getElem_cons_succ, List.setIfInBounds_toArray, List.set_cons_zero, List.set_cons_succ])
    refine wpAnyB_take (i := 2) (v := ?_) rfl (by decide) (by kernel_rfl) (by kernel_rfl) (by kernel_rfl) (fun _ _ _ h => h) (Or.inl ⟨by rfl, ?hy2⟩) hS1 (fun _ => trivial) ?_
    case hy2 => (intro W hSw; (try dsimp only at hSw); obtain ⟨kt, kp⟩ := hSw; have y0 : W.cell? ⟨w.heap.size, 0, none⟩ = some (.int .i64 t.d) := (kt.cell 0).trans (by simp); have y1 : W.cell? ⟨w.heap.size, 1, none⟩ = some (.int .i64 t.i) := (kt.cell 1).trans (by simp); have z0 : W.cell? ⟨w.heap.size + 1, 0, none⟩ = some (.int .i64 p.op) := (kp.cell 0).trans (by simp); have z1 : W.cell? ⟨w.heap.size + 1, 1, none⟩ = some (.int .i64 p.ct) := (kp.cell 1).trans (by simp); have z2 : W.cell? ⟨w.heap.size + 1, 2, none⟩ = some (.int .i64 p.n) := (kp.cell 2).trans (by simp); have z3 : W.cell? ⟨w.heap.size + 1, 3, none⟩ = some (.int .i64 p.m) := (kp.cell 3).trans (by simp); have z4 : W.cell? ⟨w.heap.size + 1, 4, none⟩ = some (.int .i64 p.va) := (kp.cell 4).trans (by simp); have z5 : W.cell? ⟨w.heap.size + 1, 5, none⟩ = some (.slice A4 p.ks.length cap4) := (kp.cell 5).trans (by simp);go_simp; try with_reducible rfl)
    (try simp only [Act.put, List.getElem_toArray, List.getElem_cons_zero, List.getElem_cons_succ, List.setIfInBounds_toArray, List.set_cons_zero, List.set_cons_succ])
    refine wpAnyB_ready (rs := [1, 3]) (by kernel_rfl) (by simp) ?_
    refine AllReadyB.cons rfl (fun K hK => ?_) (AllReadyB.cons rfl (fun K hK => ?_) AllReadyB.nil)
    · go_simp
      have hS2 := And.intro (hS1.1.same (Below.heap_alloc _ (.cells #[.int .i64 t.d, .int .i64 t.i] 37) _ hS1.1.lt)) (hS1.2.same (Below.heap_alloc _ (.cells #[.int .i64 t.d, .int .i64 t.i] 37) _ hS1.2.lt))
      refine hK.out _ _ hS2 (fun _ => trivial) ?_
      clear hK K
      (try simp only [Act.put, List.getElem_toArray, List.getElem_cons_zero, List.getElem_cons_succ, List.setIfInBounds_toArray, List.set_cons_zero, List.set_cons_succ])
      refine wpAnyB_ready (rs := [3]) (by kernel_rfl) (by simp) ?_
      refine AllReadyB.cons rfl (fun K hK => ?_) AllReadyB.nil
      go_simp
      go_at_call 196
      with_reducible refine (HC.out _).mono ?_
      rintro e w3 ⟨rfl, hb3⟩
      have hS3 : Blk w3 w.heap.size 37 #[.int .i64 t.d, .int .i64 t.i] ∧ Blk w3 (w.heap.size + 1) 32 #[.int .i64 p.op, .int .i64 p.ct, .int .i64 p.n, .int .i64 p.m, .int .i64 p.va, .slice A4 p.ks.length cap4] := ⟨hS2.1.same (hb3.block _ hS2.1.lt), hS2.2.same (hb3.block _ hS2.2.lt)⟩
      dsimp only
      refine hK.out _ _ hS3 (fun _ => trivial) ?_
      clear hK K
      (try simp only [Act.put, List.getElem_toArray, List.getElem_cons_zero, List.getElem_cons_succ, List.setIfInBounds_toArray, List.set_cons_zero, List.set_cons_succ])
      refine wpAnyB_take (i := 4) (v := ?_) rfl (by decide) (by kernel_rfl) (by kernel_rfl) (by kernel_rfl) (fun _ _ _ h => h) (Or.inl ⟨by rfl, ?hy4⟩) hS3 (fun _ => trivial) ?_
      case hy4 => (intro W hSw; (try dsimp only at hSw); go_simp; try with_reducible rfl)
      (try simp only [Act.put, List.getElem_toArray, List.getElem_cons_zero, List.getElem_cons_succ, List.setIfInBounds_toArray, List.set_cons_zero, List.set_cons_succ])
      refine wpAnyB_take (i := 5) (v := ?_) rfl (by decide) (by kernel_rfl) (by kernel_rfl) (by kernel_rfl) (fun _ _ _ h => h) (Or.inl ⟨by rfl, ?hy5⟩) hS3 (fun _ => trivial) ?_
      case hy5 => (intro W hSw; (try dsimp only at hSw); go_simp; try with_reducible rfl)
      (try simp only [Act.put, List.getElem_toArray, List.getElem_cons_zero, List.getElem_cons_succ, List.setIfInBounds_toArray, List.set_cons_zero, List.set_cons_succ])
      refine wpAnyB_take (i := 6) (v := ?_) rfl (by decide) (by kernel_rfl) (by kernel_rfl) (by kernel_rfl) (fun _ _ _ h => h) (Or.inl ⟨by rfl, ?hy6⟩) hS3 (fun _ => trivial) ?_
      case hy6 => (intro W hSw; (try dsimp only at hSw); obtain ⟨kt, kp⟩ := hSw; have y0 : W.cell? ⟨w.heap.size, 0, none⟩ = some (.int .i64 t.d) := (kt.cell 0).trans (by simp); have y1 : W.cell? ⟨w.heap.size, 1, none⟩ = some (.int .i64 t.i) := (kt.cell 1).trans (by simp); have z0 : W.cell? ⟨w.heap.size + 1, 0, none⟩ = some (.int .i64 p.op) := (kp.cell 0).trans (by simp); have z1 : W.cell? ⟨w.heap.size + 1, 1, none⟩ = some (.int .i64 p.ct) := (kp.cell 1).trans (by simp); have z2 : W.cell? ⟨w.heap.size + 1, 2, none⟩ = some (.int .i64 p.n) := (kp.cell 2).trans (by simp); have z3 : W.cell? ⟨w.heap.size + 1, 3, none⟩ = some (.int .i64 p.m) := (kp.cell 3).trans (by simp); have z4 : W.cell? ⟨w.heap.size + 1, 4, none⟩ = some (.int .i64 p.va) := (kp.cell 4).trans (by simp); have z5 : W.cell? ⟨w.heap.size + 1, 5, none⟩ = some (.slice A4 p.ks.length cap4) := (kp.cell 5).trans (by simp);go_simp; try with_reducible rfl)
      (try simp only [Act.put, List.getElem_toArray, List.getElem_cons_zero, List.getElem_cons_succ, List.setIfInBounds_toArray, List.set_cons_zero, List.set_cons_succ])
      refine wpAnyB_ready (rs := [7]) (by kernel_rfl) (by simp) ?_
      refine AllReadyB.cons rfl (fun K hK => ?_) AllReadyB.nil
      go_simp
      go_at_call 197
      with_reducible refine (HV2.out _).mono ?_
      rintro e w4 ⟨rfl, hw4⟩
      rw [hw4]
      clear hw4 w4
      dsimp only
      refine hK.out _ _ hS3 (fun _ => trivial) ?_
      clear hK K
      (try simp only [Act.put, List.getElem_toArray, List.getElem_cons_zero, List.getElem_cons_succ, List.setIfInBounds_toArray, List.set_cons_zero, List.set_cons_succ])
      refine wpAnyB_take (i := 8) (v := ?_) rfl (by decide) (by kernel_rfl) (by kernel_rfl) (by kernel_rfl) (fun _ _ _ h => h) (Or.inl ⟨by rfl, ?hy8⟩) hS3 (fun _ => trivial) ?_
      case hy8 => (intro W hSw; (try dsimp only at hSw); go_simp; try with_reducible rfl)
      (try simp only [Act.put, List.getElem_toArray, List.getElem_cons_zero, List.getElem_cons_succ, List.setIfInBounds_toArray, List.set_cons_zero, List.set_cons_succ])
      refine wpAnyB_take (i := 9) (v := ?_) rfl (by decide) (by kernel_rfl) (by kernel_rfl) (by kernel_rfl) (fun _ _ _ h => h) (Or.inl ⟨by rfl, ?hy9⟩) hS3 (fun _ => trivial) ?_
      case hy9 => (intro W hSw; (try dsimp only at hSw); go_simp; try with_reducible rfl)
      (try simp only [Act.put, List.getElem_toArray, List.getElem_cons_zero, List.getElem_cons_succ, List.setIfInBounds_toArray, List.set_cons_zero, List.set_cons_succ])
      refine wpAnyB_take (i := 10) (v := ?_) rfl (by decide) (by kernel_rfl) (by kernel_rfl) (by kernel_rfl) (fun _ _ _ h => h) (Or.inl ⟨by rfl, ?hy10⟩) hS3 (fun _ => trivial) ?_
      case hy10 => (intro W hSw; (try dsimp only at hSw); go_simp; try with_reducible rfl)
      (try simp only [Act.put, List.getElem_toArray, List.getElem_cons_zero, List.getElem_cons_succ, List.setIfInBounds_toArray, List.set_cons_zero, List.set_cons_succ])
      refine wpAnyB_end (by kernel_rfl) ?_
      obtain ⟨q1, q2, q3⟩ := shape_endA hB0 hws2 hb3
      have HFin : Hid (ShapePost xs t p w (.returned (.tuple #[.slice (some ⟨w.heap.size + 1 + 1, 0, none⟩) 1 1, .bool bb])) w3) := ⟨_, [w.heap.size + 1 + 1], by rw [HNV.out], q1, q2, fun _ => by rw [HTY.out]; exact arr_tys1 q3⟩
      clear y0 y1 z0 z1 z2 z3 z4 z5 klt klt2
      clear hS1 hS3 hb3 q1 q2 q3
      go_wp2
      go_ret2
      exact HFin.out
    · go_simp
      go_at_call 196
      with_reducible refine (HC.out _).mono ?_
      rintro e w3 ⟨rfl, hb3⟩
      have hS3 : Blk w3 w.heap.size 37 #[.int .i64 t.d, .int .i64 t.i] ∧ Blk w3 (w.heap.size + 1) 32 #[.int .i64 p.op, .int .i64 p.ct, .int .i64 p.n, .int .i64 p.m, .int .i64 p.va, .slice A4 p.ks.length cap4] := ⟨hS1.1.same (hb3.block _ hS1.1.lt), hS1.2.same (hb3.block _ hS1.2.lt)⟩
      dsimp only
      refine hK.out _ _ hS3 (fun _ => trivial) ?_
      clear hK K
      (try simp only [Act.put, List.getElem_toArray, List.getElem_cons_zero, List.getElem_cons_succ, List.setIfInBounds_toArray, List.set_cons_zero, List.set_cons_succ])
      refine wpAnyB_take (i := 4) (v := ?_) rfl (by decide) (by kernel_rfl) (by kernel_rfl) (by kernel_rfl) (fun _ _ _ h => h) (Or.inl ⟨by rfl, ?hy4⟩) hS3 (fun _ => trivial) ?_
      case hy4 => (intro W hSw; (try dsimp only at hSw); go_simp; try with_reducible rfl)
      (try simp only [Act.put, List.getElem_toArray, List.getElem_cons_zero, List.getElem_cons_succ, List.setIfInBounds_toArray, List.set_cons_zero, List.set_cons_succ])
      refine wpAnyB_take (i := 5) (v := ?_) rfl (by decide) (by kernel_rfl) (by kernel_rfl) (by kernel_rfl) (fun _ _ _ h => h) (Or.inl ⟨by rfl, ?hy5⟩) hS3 (fun _ => trivial) ?_
      case hy5 => (intro W hSw; (try dsimp only at hSw); go_simp; try with_reducible rfl)
      (try simp only [Act.put, List.getElem_toArray, List.getElem_cons_zero, List.getElem_cons_succ, List.setIfInBounds_toArray, List.set_cons_zero, List.set_cons_succ])
      refine wpAnyB_take (i := 6) (v := ?_) rfl (by decide) (by kernel_rfl) (by kernel_rfl) (by kernel_rfl) (fun _ _ _ h => h) (Or.inl ⟨by rfl, ?hy6⟩) hS3 (fun _ => trivial) ?_
      case hy6 => (intro W hSw; (try dsimp only at hSw); obtain ⟨kt, kp⟩ := hSw; have y0 : W.cell? ⟨w.heap.size, 0, none⟩ = some (.int .i64 t.d) := (kt.cell 0).trans (by simp); have y1 : W.cell? ⟨w.heap.size, 1, none⟩ = some (.int .i64 t.i) := (kt.cell 1).trans (by simp); have z0 : W.cell? ⟨w.heap.size + 1, 0, none⟩ = some (.int .i64 p.op) := (kp.cell 0).trans (by simp); have z1 : W.cell? ⟨w.heap.size + 1, 1, none⟩ = some (.int .i64 p.ct) := (kp.cell 1).trans (by simp); have z2 : W.cell? ⟨w.heap.size + 1, 2, none⟩ = some (.int .i64 p.n) := (kp.cell 2).trans (by simp); have z3 : W.cell? ⟨w.heap.size + 1, 3, none⟩ = some (.int .i64 p.m) := (kp.cell 3).trans (by simp); have z4 : W.cell? ⟨w.heap.size + 1, 4, none⟩ = some (.int .i64 p.va) := (kp.cell 4).trans (by simp); have z5 : W.cell? ⟨w.heap.size + 1, 5, none⟩ = some (.slice A4 p.ks.length cap4) := (kp.cell 5).trans (by simp);go_simp; try with_reducible rfl)
      (try simp only [Act.put, List.getElem_toArray, List.getElem_cons_zero, List.getElem_cons_succ, List.setIfInBounds_toArray, List.set_cons_zero, List.set_cons_succ])
      refine wpAnyB_ready (rs := [1, 7]) (by kernel_rfl) (by simp) ?_
      refine AllReadyB.cons rfl (fun K hK => ?_) (AllReadyB.cons rfl (fun K hK => ?_) AllReadyB.nil)
      · go_simp
        have hS4 := And.intro (hS3.1.same (Below.heap_alloc _ (.cells #[.int .i64 t.d, .int .i64 t.i] 37) _ hS3.1.lt)) (hS3.2.same (Below.heap_alloc _ (.cells #[.int .i64 t.d, .int .i64 t.i] 37) _ hS3.2.lt))
        refine hK.out _ _ hS4 (fun _ => trivial) ?_
        clear hK K
        (try simp only [Act.put, List.getElem_toArray, List.getElem_cons_zero, List.getElem_cons_succ, List.setIfInBounds_toArray, List.set_cons_zero, List.set_cons_succ])
        refine wpAnyB_ready (rs := [7]) (by kernel_rfl) (by simp) ?_
        refine AllReadyB.cons rfl (fun K hK => ?_) AllReadyB.nil
        go_simp
        go_at_call 197
        with_reducible refine (HV2.out _).mono ?_
        rintro e w4 ⟨rfl, hw4⟩
        rw [hw4]
        clear hw4 w4
        dsimp only
        refine hK.out _ _ hS4 (fun _ => trivial) ?_
        clear hK K
        (try simp only [Act.put, List.getElem_toArray, List.getElem_cons_zero, List.getElem_cons_succ, List.setIfInBounds_toArray, List.set_cons_zero, List.set_cons_succ])
        refine wpAnyB_take (i := 8) (v := ?_) rfl (by decide) (by kernel_rfl) (by kernel_rfl) (by kernel_rfl) (fun _ _ _ h => h) (Or.inl ⟨by rfl, ?hy8⟩) hS4 (fun _ => trivial) ?_
        case hy8 => (intro W hSw; (try dsimp only at hSw); go_simp; try with_reducible rfl)
        (try simp only [Act.put, List.getElem_toArray, List.getElem_cons_zero, List.getElem_cons_succ, List.setIfInBounds_toArray, List.set_cons_zero, List.set_cons_succ])
        refine wpAnyB_take (i := 9) (v := ?_) rfl (by decide) (by kernel_rfl) (by kernel_rfl) (by kernel_rfl) (fun _ _ _ h => h) (Or.inl ⟨by rfl, ?hy9⟩) hS4 (fun _ => trivial) ?_
        case hy9 => (intro W hSw; (try dsimp only at hSw); go_simp; try with_reducible rfl)
        (try simp only [Act.put, List.getElem_toArray, List.getElem_cons_zero, List.getElem_cons_succ, List.setIfInBounds_toArray, List.set_cons_zero, List.set_cons_succ])
        refine wpAnyB_take (i := 10) (v := ?_) rfl (by decide) (by kernel_rfl) (by kernel_rfl) (by kernel_rfl) (fun _ _ _ h => h) (Or.inl ⟨by rfl, ?hy10⟩) hS4 (fun _ => trivial) ?_
        case hy10 => (intro W hSw; (try dsimp only at hSw); go_simp; try with_reducible rfl)
        (try simp only [Act.put, List.getElem_toArray, List.getElem_cons_zero, List.getElem_cons_succ, List.setIfInBounds_toArray, List.set_cons_zero, List.set_cons_succ])
        refine wpAnyB_end (by kernel_rfl) ?_
        obtain ⟨q1, q2⟩ := shape_endB hB0 hb3 (.cells #[.int .i64 t.d, .int .i64 t.i] 37)
        have HFin : Hid (ShapePost xs t p w (.returned (.tuple #[.slice (some ⟨w3.heap.size, 0, none⟩) 1 1, .bool bb])) (w3.alloc (.cells #[.int .i64 t.d, .int .i64 t.i] 37))) := ⟨_, [w3.heap.size], by rw [HNV.out], q1, q2, fun _ => by rw [HTY.out]; exact arr_tys1 (Blk.new w3 _ _)⟩
        clear y0 y1 z0 z1 z2 z3 z4 z5 klt klt2
        clear hS1 hS3 hb3 q1 q2
        go_wp2
        go_ret2
        exact HFin.out
      · go_simp
        go_at_call 197
        with_reducible refine (HV2.out _).mono ?_
        rintro e w4 ⟨rfl, hw4⟩
        rw [hw4]
        clear hw4 w4
        dsimp only
        refine hK.out _ _ hS3 (fun _ => trivial) ?_
        clear hK K
        (try simp only [Act.put, List.getElem_toArray, List.getElem_cons_zero, List.getElem_cons_succ, List.setIfInBounds_toArray, List.set_cons_zero, List.set_cons_succ])
        refine wpAnyB_take (i := 8) (v := ?_) rfl (by decide) (by kernel_rfl) (by kernel_rfl) (by kernel_rfl) (fun _ _ _ h => h) (Or.inl ⟨by rfl, ?hy8⟩) hS3 (fun _ => trivial) ?_
        case hy8 => (intro W hSw; (try dsimp only at hSw); go_simp; try with_reducible rfl)
        (try simp only [Act.put, List.getElem_toArray, List.getElem_cons_zero, List.getElem_cons_succ, List.setIfInBounds_toArray, List.set_cons_zero, List.set_cons_succ])
        refine wpAnyB_ready (rs := [1]) (by kernel_rfl) (by simp) ?_
        refine AllReadyB.cons rfl (fun K hK => ?_) AllReadyB.nil
        go_simp
        have hS4 := And.intro (hS3.1.same (Below.heap_alloc _ (.cells #[.int .i64 t.d, .int .i64 t.i] 37) _ hS3.1.lt)) (hS3.2.same (Below.heap_alloc _ (.cells #[.int .i64 t.d, .int .i64 t.i] 37) _ hS3.2.lt))
        refine hK.out _ _ hS4 (fun _ => trivial) ?_
        clear hK K
        (try simp only [Act.put, List.getElem_toArray, List.getElem_cons_zero, List.getElem_cons_succ, List.setIfInBounds_toArray, List.set_cons_zero, List.set_cons_succ])
        refine wpAnyB_take (i := 9) (v := ?_) rfl (by decide) (by kernel_rfl) (by kernel_rfl) (by kernel_rfl) (fun _ _ _ h => h) (Or.inl ⟨by rfl, ?hy9⟩) hS4 (fun _ => trivial) ?_
        case hy9 => (intro W hSw; (try dsimp only at hSw); go_simp; try with_reducible rfl)
        (try simp only [Act.put, List.getElem_toArray, List.getElem_cons_zero, List.getElem_cons_succ, List.setIfInBounds_toArray, List.set_cons_zero, List.set_cons_succ])
        refine wpAnyB_take (i := 10) (v := ?_) rfl (by decide) (by kernel_rfl) (by kernel_rfl) (by kernel_rfl) (fun _ _ _ h => h) (Or.inl ⟨by rfl, ?hy10⟩) hS4 (fun _ => trivial) ?_
        case hy10 => (intro W hSw; (try dsimp only at hSw); go_simp; try with_reducible rfl)
        (try simp only [Act.put, List.getElem_toArray, List.getElem_cons_zero, List.getElem_cons_succ, List.setIfInBounds_toArray, List.set_cons_zero, List.set_cons_succ])
        refine wpAnyB_end (by kernel_rfl) ?_
        obtain ⟨q1, q2⟩ := shape_endB hB0 hb3 (.cells #[.int .i64 t.d, .int .i64 t.i] 37)
        have HFin : Hid (ShapePost xs t p w (.returned (.tuple #[.slice (some ⟨w3.heap.size, 0, none⟩) 1 1, .bool bb])) (w3.alloc (.cells #[.int .i64 t.d, .int .i64 t.i] 37))) := ⟨_, [w3.heap.size], by rw [HNV.out], q1, q2, fun _ => by rw [HTY.out]; exact arr_tys1 (Blk.new w3 _ _)⟩
        clear y0 y1 z0 z1 z2 z3 z4 z5 klt klt2
        clear hS1 hS3 hb3 q1 q2
        go_wp2
        go_ret2
        exact HFin.out

set_option maxRecDepth 100000 in
set_option maxHeartbeats 1600000 in
theorem impl_shape (xs : List Dt) (hw : WorldOK xs) (t : Ty) (ht : TyIn xs.length t) (p : P) (w : World) (x : Value) (F : List Nat) (cs : List Value) (G : List Nat) : Arr w (DtR w) xs x F → Under w.heap.size F → PR w p cs G → Under w.heap.size G →
    Calls Try.prog 182 #[x, .agg #[.int .i64 t.d, .int .i64 t.i], .agg cs.toArray] w (ShapePost xs t p w) := by
  intro hx hf hv hg
  by_cases h1 : p.op = 1
  · exact shape_1 xs hw t ht p h1 w x F cs G hx hf hv hg
  by_cases h2 : p.op = 2
  · exact shape_2 xs hw t ht p h2 w x F cs G hx hf hv hg
  by_cases h3 : p.op = 3
  · exact shape_3 xs hw t ht p h3 w x F cs G hx hf hv hg
  by_cases h4 : p.op = 4
  · exact shape_4 xs hw t ht p h4 w x F cs G hx hf hv hg
  by_cases h5 : p.op = 5
  · exact shape_5 xs hw t ht p h5 w x F cs G hx hf hv hg
  by_cases h6 : p.op = 6
  · exact shape_6 xs hw t ht p h6 w x F cs G hx hf hv hg
  obtain ⟨kv, rfl, ha⟩ := (PR_iff _ _ _).1 hv
  obtain ⟨A, cap, rfl, hc1, hc2⟩ := hx.form
  obtain ⟨A4, cap4, rfl, hc3, hc4⟩ := ha.form
  have HV := Lib.hid hv
  have HX := Lib.hid hx
  have HF := Lib.hid hf
  have HA := Lib.hid ha
  have HG := Lib.hid hg
  clear hx hf ha hg
  clear hv
  have o1 : (p.op == 1) = false := by simpa using h1
  have o2 : (p.op == 2) = false := by simpa using h2
  have o3 : (p.op == 3) = false := by simpa using h3
  have o4 : (p.op == 4) = false := by simpa using h4
  have o5 : (p.op == 5) = false := by simpa using h5
  have o6 : (p.op == 6) = false := by simpa using h6
  have HNO := Lib.hid (nodeB_no (xs := xs) (t := t) h1 h2 h3 h4 h5 h6)
  clear h1 h2 h3 h4 h5 h6
  have HFin : Hid (ShapePost xs t p w (.returned (.tuple #[.slice none 0 0, .bool false])) ((w.alloc (.cells #[.int .i64 t.d, .int .i64 t.i] 37)).alloc (.cells #[.int .i64 p.op, .int .i64 p.ct, .int .i64 p.n, .int .i64 p.m, .int .i64 p.va, .slice A4 p.ks.length cap4] 32))) := ⟨_, [], by rw [HNO.out], ((Below.refl _ _).alloc (Nat.le_refl _) _).alloc (by simp) _, Fresh.nil _ _, fun h => by rw [HNO.out] at h; cases h⟩
  go_enter Try.func182, Try.ntmps182
  go_wp2
  go_ret2
  exact HFin.out
end Go.Proofs.Ytbffkgfhcmigaaa

namespace Go.Proofs.Ytbffkgfhcmigaaa
open Go.RowKit

def isLeast (xs : List Dt) (t : Ty) (k : Int) : Bool := mostIn xs (tableL xs) t k == depthIn (tableL xs) t
def leastV (xs : List Dt) : Nat → Ty → V
  | 0, _ => ⟨0, 0, []⟩
  | n + 1, t => if t.d = -1 then ⟨-1, 0, []⟩ else match (ctorsL xs t).find? (isLeast xs t) with
    | none => ⟨0, 0, []⟩
    | some k => ⟨k, 0, (argsOf xs t k).map (leastV xs n)⟩
theorem leastV_int {xs : List Dt} {n : Nat} {t : Ty} (h : t.d = -1) : leastV xs (n + 1) t = ⟨-1, 0, []⟩ := by rw [leastV, if_pos h]
theorem leastV_none {xs : List Dt} {n : Nat} {t : Ty} (h : ¬ t.d = -1) (h2 : (ctorsL xs t).find? (isLeast xs t) = none) : leastV xs (n + 1) t = ⟨0, 0, []⟩ := by rw [leastV, if_neg h, h2]
theorem leastV_some {xs : List Dt} {n : Nat} {t : Ty} {k : Int} (h : ¬ t.d = -1) (h2 : (ctorsL xs t).find? (isLeast xs t) = some k) : leastV xs (n + 1) t = ⟨k, 0, (argsOf xs t k).map (leastV xs n)⟩ := by rw [leastV, if_neg h, h2]
theorem find_step {p : Int → Bool} {l : List Int} {i : Nat} (h : i < l.length) : (l.drop i).find? p = if p l[i] = true then some l[i] else (l.drop (i + 1)).find? p := by
  rw [List.drop_eq_getElem_cons h, List.find?_cons]
  cases p l[i] <;> simp
theorem find_end {p : Int → Bool} {l : List Int} {i : Nat} (h : l.length ≤ i) : (l.drop i).find? p = none := by
  rw [List.drop_of_length_le h]; rfl
/-- the arguments of a least constructor are less deep -/
theorem least_args {xs : List Dt} (hw : WorldOK xs) {t : Ty} (ht : TyIn xs.length t) {k : Int} (hk : k ∈ ctorsL xs t) (hl : isLeast xs t k = true) (h0 : depthIn (tableL xs) t ≠ 0) {a : Ty} (ha : a ∈ argsOf xs t k) :
    TyIn xs.length a ∧ depthIn (tableL xs) a ≠ 0 ∧ depthIn (tableL xs) a + 1 ≤ depthIn (tableL xs) t := by
  have e : mostIn xs (tableL xs) t k = depthIn (tableL xs) t := by unfold isLeast at hl; exact eq_of_beq hl
  have hs := sound_tableL hw
  have hne := mostGo_ne (tab := tableL xs) (ls := argsOf xs t k) (m := 0) (by show mostIn xs (tableL xs) t k ≠ 0; rw [e]; exact h0)
  have hp := (mostGo_pos hs.dpos (Int.le_refl 0) hne).2 a ha
  have h2 : mostGo (tableL xs) 0 (argsOf xs t k) = mostIn xs (tableL xs) t k := rfl
  exact ⟨argsOf_in hw ht hk ha, hne a ha, by omega⟩
theorem argsOf_len3 {xs : List Dt} (hw : WorldOK xs) {t : Ty} (ht : TyIn xs.length t) {k : Int} (hk : k ∈ ctorsL xs t) : (argsOf xs t k).length ≤ 3 := by
  rcases ht with h | ⟨d, i, rfl, h1, h2⟩
  · rw [ctorsL_int h] at hk; cases hk
  · obtain ⟨d', m, e1, rfl, hd, hm⟩ := mem_ctorsL (.inr ⟨d, rfl, h1⟩) hk
    obtain rfl : d = d' := Int.ofNat.inj e1
    rw [argsOf_get hd hm, argsL_len]
    exact (hw.ctor hd hm).args
theorem sizes_map_le {α : Type} (f : α → V) (b : Nat) : ∀ (l : List α), (∀ a ∈ l, nodes (f a) ≤ b) → V.sizes (l.map f) ≤ l.length * b
  | [], _ => by simp [V.sizes]
  | a :: l, h => by
    have h1 := h a (by simp)
    have h2 := sizes_map_le f b l fun x hx => h x (by simp [hx])
    simp only [List.map_cons, V.sizes, List.length_cons]
    unfold nodes at h1
    rw [Nat.add_mul]
    omega
theorem leastV_nodes {xs : List Dt} (hw : WorldOK xs) : ∀ (n : Nat) (t : Ty), TyIn xs.length t → nodes (leastV xs n t) ≤ 4 ^ n
  | 0, t, _ => by simp [leastV, nodes, V.size, V.sizes]
  | n + 1, t, ht => by
    have hp : 1 ≤ 4 ^ n := Nat.one_le_pow _ _ (by omega)
    have h4 : 4 ^ (n + 1) = 4 ^ n * 4 := Nat.pow_succ ..
    by_cases hd : t.d = -1
    · rw [leastV_int hd]; simp [nodes, V.size, V.sizes]; omega
    · cases hf : (ctorsL xs t).find? (isLeast xs t) with
      | none => rw [leastV_none hd hf]; simp [nodes, V.size, V.sizes]; omega
      | some k =>
        rw [leastV_some hd hf]
        have hk := List.mem_of_find?_eq_some hf
        have h1 := sizes_map_le (leastV xs n) (4 ^ n) (argsOf xs t k) fun a ha => leastV_nodes hw n a (argsOf_in hw ht hk ha)
        have h3 := argsOf_len3 hw ht hk
        have h5 : (argsOf xs t k).length * 4 ^ n ≤ 3 * 4 ^ n := Nat.mul_le_mul_right _ h3
        rw [nodes_ks]
        simp only
        omega
theorem leastV_small {xs : List Dt} (hw : WorldOK xs) {n : Nat} (hn : n ≤ 10) {t : Ty} (ht : TyIn xs.length t) : (leastV xs n t).size ≤ 1048576 := by
  have h1 := leastV_nodes hw n t ht
  have h2 : 4 ^ n ≤ 4 ^ 10 := Nat.pow_le_pow_right (by omega) hn
  have h3 : (4 : Nat) ^ 10 = 1048576 := by decide
  unfold nodes at h1
  omega
/-- the kids made so far -/
def leastTo (xs : List Dt) (n : Nat) (as' : List Ty) (i : Nat) : List V := (as'.take i).map (leastV xs n)
theorem leastTo_succ (xs : List Dt) (n : Nat) (l : List Ty) (i : Nat) (h : i < l.length) : leastTo xs n l (i + 1) = leastTo xs n l i ++ [leastV xs n l[i]] := by
  unfold leastTo
  rw [take_snoc' l i h, List.map_append]; rfl
theorem leastTo_all (xs : List Dt) (n : Nat) (l : List Ty) {i : Nat} (h : l.length ≤ i) : leastTo xs n l i = l.map (leastV xs n) := by unfold leastTo; rw [List.take_of_length_le h]
theorem leastTo_len (xs : List Dt) (n : Nat) (l : List Ty) (i : Nat) : (leastTo xs n l i).length ≤ i := by unfold leastTo; rw [List.length_map, List.length_take]; omega
/-- what LeastValue gives -/
def leastFine (xs : List Dt) (t : Ty) : Bool := typeValidB xs t && (withinB (depthIn (tableL xs) t) 1 10 && valueOkB xs t (leastV xs 10 t))
def leastR (xs : List Dt) (t : Ty) : V := if leastFine xs t = true then leastV xs 10 t else ⟨0, 0, []⟩
theorem leastR_size (xs : List Dt) (t : Ty) : (leastR xs t).size ≤ 60 := by
  unfold leastR
  split
  · rename_i h
    unfold leastFine valueOkB nodes at h
    simp only [Bool.and_eq_true, decide_eq_true_eq] at h
    omega
  · simp [V.size, V.sizes]
end Go.Proofs.Ytbffkgfhcmigaaa

namespace Go.Proofs.Ytbffkgfhcmigaaa
open Go.RowKit

def allP (f : Ty → P → Bool) (ls : List Ty) (ks : List P) : Bool := (ls.zip ks).all fun x => f x.1 x.2
theorem allP_step {f : Ty → P → Bool} {ls : List Ty} {ks : List P} {i : Nat} (h1 : i < ls.length) (h2 : i < ks.length) : allP f (ls.drop i) (ks.drop i) = (f ls[i] ks[i] && allP f (ls.drop (i + 1)) (ks.drop (i + 1))) := by
  rw [List.drop_eq_getElem_cons h1, List.drop_eq_getElem_cons h2]; rfl
theorem allP_end {f : Ty → P → Bool} {ls : List Ty} {ks : List P} {i : Nat} (h1 : ls.length ≤ i) : allP f (ls.drop i) (ks.drop i) = true := by
  rw [List.drop_of_length_le h1]; rfl
theorem shapeB_succ (xs : List Dt) (d : Nat) (t : Ty) (p : P) : shapeB xs (d + 1) t p = (ownB xs t p && (p.ks.length == (typesP xs t p).length && allP (shapeB xs d) (typesP xs t p) p.ks)) := rfl
theorem typesP_in {xs : List Dt} (hw : WorldOK xs) {t : Ty} (ht : TyIn xs.length t) {p : P} (ho : ownB xs t p = true) : ∀ a ∈ typesP xs t p, TyIn xs.length a := fun a ha => by
  by_cases h4 : p.op = 4
  · unfold typesP at ha
    rw [if_pos h4] at ha
    exact argsOf_in hw ht (ownB_ctor h4 ho) ha
  · rw [typesP_no h4] at ha
    have := List.eq_of_mem_replicate ha
    rw [this]; exact ht
theorem typesP_len {xs : List Dt} (hw : WorldOK xs) {t : Ty} (ht : TyIn xs.length t) {p : P} (ho : ownB xs t p = true) : (typesP xs t p).length ≤ 3 := by
  by_cases h4 : p.op = 4
  · unfold typesP
    rw [if_pos h4]
    exact argsOf_len3 hw ht (ownB_ctor h4 ho)
  · rw [typesP_no h4, repTo_len]
    have := kidsN_le p.op
    omega

/-- contract of l3Shape at one pattern -/
def ShapeS (p : P) : Prop := ∀ (xs : List Dt) (_ : WorldOK xs) (d : Nat) (_ : d ≤ 10) (t : Ty) (_ : TyIn xs.length t) (w : World) (x : Value) (F : List Nat) (cs : List Value) (G : List Nat), Arr w (DtR w) xs x F → Under w.heap.size F → PR w p cs G → Under w.heap.size G →
  Calls Try.prog 146 #[x, .agg #[.int .i64 t.d, .int .i64 t.i], .agg cs.toArray, .int .i64 (d : Int)] w fun e w' => e = .returned (.bool (shapeB xs d t p)) ∧ Below w.heap.size w w'

set_option maxRecDepth 100000 in
set_option maxHeartbeats 1600000 in
theorem l3Shape_of (p : P) (ih : ∀ k ∈ p.ks, ShapeS k) : ShapeS p := by
  intro xs hw d hd t ht w x F cs G hx hf hv hg
  have IH := Lib.hid ih
  clear ih
  obtain ⟨kv, rfl, ha⟩ := (PR_iff _ _ _).1 hv
  obtain ⟨A, cap, rfl, hc1, hc2⟩ := hx.form
  obtain ⟨A4, cap4, rfl, hc3, hc4⟩ := ha.form
  have HV := Lib.hid hv
  have HX := Lib.hid hx
  have HF := Lib.hid hf
  have HA := Lib.hid ha
  have HG := Lib.hid hg
  clear hx hf ha hg
  clear hv
  have HW := Lib.hid hw
  have HT := Lib.hid ht
  clear hw ht
  cases d with
  | zero =>
    go_enter Try.func146, Try.ntmps146
    go_wp2
    go_ret
    exact ⟨ret_bool rfl, ((Below.refl _ _).alloc (Nat.le_refl _) _).alloc (by simp) _⟩
  | succ d =>
  have hd1 : decide (((d + 1 : Nat) : Int) < 1) = false := by simp; omega
  have hde : ((d + 1 : Nat) : Int) = (d : Int) + 1 := by omega
  rw [hde] at hd1 ⊢
  clear hde
  have HFD := Lib.hid (shapeB_succ xs d t p)
  go_enter Try.func146, Try.ntmps146
  go_wp2_with fail
  obtain ⟨W2, hW2⟩ : ∃ W2, W2 = ((w.alloc (.cells #[.int .i64 t.d, .int .i64 t.i] 37)).alloc (.cells #[.int .i64 p.op, .int .i64 p.ct, .int .i64 p.n, .int .i64 p.m, .int .i64 p.va, .slice A4 p.ks.length cap4] 32)) := ⟨_, rfl⟩
  have hB0 : Below w.heap.size w W2 := by rw [hW2]; exact ((Below.refl _ _).alloc (Nat.le_refl _) _).alloc (by simp) _
  have KT : Hid (Blk W2 w.heap.size 37 #[.int .i64 t.d, .int .i64 t.i]) := by rw [hW2]; exact (Blk.new w _ _).same (Below.heap_alloc _ _ _ (by simp))
  have KP : Hid (Blk W2 (w.heap.size + 1) 32 #[.int .i64 p.op, .int .i64 p.ct, .int .i64 p.n, .int .i64 p.m, .int .i64 p.va, .slice A4 p.ks.length cap4]) := by rw [hW2]; have h := Blk.new (w.alloc (.cells #[.int .i64 t.d, .int .i64 t.i] 37)) 32 #[.int .i64 p.op, .int .i64 p.ct, .int .i64 p.n, .int .i64 p.m, .int .i64 p.va, .slice A4 p.ks.length cap4]; rw [World.size_alloc] at h; exact h
  have hws : w.heap.size + 2 ≤ W2.heap.size := by rw [hW2]; simp
  rw [← hW2]
  clear hW2
  have y0 : W2.cell? ⟨w.heap.size, 0, none⟩ = some (.int .i64 t.d) := (KT.out.cell 0).trans (by simp)
  have y1 : W2.cell? ⟨w.heap.size, 1, none⟩ = some (.int .i64 t.i) := (KT.out.cell 1).trans (by simp)
  have klt := KT.out.lt
  have z0 : W2.cell? ⟨w.heap.size + 1, 0, none⟩ = some (.int .i64 p.op) := (KP.out.cell 0).trans (by simp)
  have z1 : W2.cell? ⟨w.heap.size + 1, 1, none⟩ = some (.int .i64 p.ct) := (KP.out.cell 1).trans (by simp)
  have z2 : W2.cell? ⟨w.heap.size + 1, 2, none⟩ = some (.int .i64 p.n) := (KP.out.cell 2).trans (by simp)
  have z3 : W2.cell? ⟨w.heap.size + 1, 3, none⟩ = some (.int .i64 p.m) := (KP.out.cell 3).trans (by simp)
  have z4 : W2.cell? ⟨w.heap.size + 1, 4, none⟩ = some (.int .i64 p.va) := (KP.out.cell 4).trans (by simp)
  have z5 : W2.cell? ⟨w.heap.size + 1, 5, none⟩ = some (.slice A4 p.ks.length cap4) := (KP.out.cell 5).trans (by simp)
  have klt2 := KP.out.lt
  go_wp2_with fail
  refine (spec_l3Own xs HW.out t HT.out p W2 _ F _ G (ArrDt.below HX.out hB0 HF.out) (HF.out.mono hB0.size) (HV.out.below hB0 HG.out) (HG.out.mono hB0.size)).mono ?_
  rintro e w3 ⟨rfl, hb3⟩
  have hB3 := hB0.trans (hb3.mono hB0.size)
  have KT3 := Lib.hid (KT.out.same (hb3.block _ KT.out.lt))
  have KP3 := Lib.hid (KP.out.same (hb3.block _ KP.out.lt))
  clear y0 y1 z0 z1 z2 z3 z4 z5 klt klt2
  have y0 : w3.cell? ⟨w.heap.size, 0, none⟩ = some (.int .i64 t.d) := (KT3.out.cell 0).trans (by simp)
  have y1 : w3.cell? ⟨w.heap.size, 1, none⟩ = some (.int .i64 t.i) := (KT3.out.cell 1).trans (by simp)
  have klt := KT3.out.lt
  have z0 : w3.cell? ⟨w.heap.size + 1, 0, none⟩ = some (.int .i64 p.op) := (KP3.out.cell 0).trans (by simp)
  have z1 : w3.cell? ⟨w.heap.size + 1, 1, none⟩ = some (.int .i64 p.ct) := (KP3.out.cell 1).trans (by simp)
  have z2 : w3.cell? ⟨w.heap.size + 1, 2, none⟩ = some (.int .i64 p.n) := (KP3.out.cell 2).trans (by simp)
  have z3 : w3.cell? ⟨w.heap.size + 1, 3, none⟩ = some (.int .i64 p.m) := (KP3.out.cell 3).trans (by simp)
  have z4 : w3.cell? ⟨w.heap.size + 1, 4, none⟩ = some (.int .i64 p.va) := (KP3.out.cell 4).trans (by simp)
  have z5 : w3.cell? ⟨w.heap.size + 1, 5, none⟩ = some (.slice A4 p.ks.length cap4) := (KP3.out.cell 5).trans (by simp)
  have klt2 := KP3.out.lt
  clear hb3 KT KP hB0
  cases e1 : ownB xs t p with
  | false =>
    have hf : Hid (shapeB xs (d + 1) t p = false) := by rw [HFD.out, e1]; rfl
    clear e1
    go_wp2
    go_ret
    exact ⟨ret_bool hf.out.symm, hB3⟩
  | true =>
    have h1 : shapeB xs (d + 1) t p = (p.ks.length == (typesP xs t p).length && allP (shapeB xs d) (typesP xs t p) p.ks) := by rw [HFD.out, e1, Bool.true_and]
    have H1 := Lib.hid h1
    have HO := Lib.hid e1
    have HAI := Lib.hid (typesP_in HW.out HT.out e1)
    have hl3 := typesP_len HW.out HT.out e1
    clear h1 e1
    go_wp2_with fail
    refine (spec_l3Types xs HW.out t HT.out p HO.out w3 _ F _ G (ArrDt.below HX.out hB3 HF.out) (HF.out.mono hB3.size) (HV.out.below hB3 HG.out) (HG.out.mono hB3.size)).mono ?_
    rintro e w6 ⟨v6, F6, rfl, hb6, ha6, -, hfs6⟩
    have hB6 := hB3.trans (hb6.mono hB3.size)
    have KT6 := Lib.hid (KT3.out.same (hb6.block _ KT3.out.lt))
    have KP6 := Lib.hid (KP3.out.same (hb6.block _ KP3.out.lt))
    generalize hass : typesP xs t p = ls at *
    clear hass
    obtain ⟨A6, cap6, rfl, hd3, hd4⟩ := ha6.form
    have HA6 := Lib.hid ha6
    have HU6 := Lib.hid hfs6.under
    clear y0 y1 z0 z1 z2 z3 z4 z5 klt klt2
    clear ha6 hfs6 hb6 KT3 KP3 hB3 KT6
    have z5 : w6.cell? ⟨w.heap.size + 1, 5, none⟩ = some (.slice A4 p.ks.length cap4) := (KP6.out.cell 5).trans (by simp)
    have klt2 := KP6.out.lt
    by_cases hln : p.ks.length = ls.length
    · have t2 : ((p.ks.length : Int) != (ls.length : Int)) = false := by simp [hln]
      have h3 : shapeB xs (d + 1) t p = allP (shapeB xs d) ls p.ks := by rw [H1.out, hln]; simp
      have H3 := Lib.hid h3
      have HLN := Lib.hid hln
      clear h3 hln
      go_wp2
      clear z5 klt2 t2
      go_loopw [10] (fun iv wr => ∃ i : Nat, i ≤ ls.length ∧ iv = .int .i64 i ∧ Hid (shapeB xs (d + 1) t p = allP (shapeB xs d) (ls.drop i) (p.ks.drop i)) ∧ Hid (Blk wr (w.heap.size + 1) 32 #[.int .i64 p.op, .int .i64 p.ct, .int .i64 p.n, .int .i64 p.m, .int .i64 p.va, .slice A4 p.ks.length cap4]) ∧ Below w.heap.size w wr ∧ Hid (Below w6.heap.size w6 wr)) (fun iv _ => ls.length - (intOf iv).toNat)
      case atStart => exact ⟨0, Nat.zero_le _, rfl, H3, KP6, hB6, Below.refl _ _⟩
      case round =>
        clear hB6
        obtain ⟨i, hi, rfl, HR, KP, hB, HB6⟩ := hrel
        by_cases hil : i < ls.length
        · have hik : i < p.ks.length := by rw [HLN.out]; exact hil
          obtain ⟨b6, off6, rfl⟩ := HA6.out.ptr (by omega)
          obtain ⟨hb6, a0, a1⟩ := ArrTy.at HA6.out HU6.out HB6.out i hil
          obtain ⟨b4, off4, rfl⟩ := HA.out.ptr (by omega)
          obtain ⟨A7, cap7, G7, hb7, k0, k1, k2, k3, k4, k5, HV7, HG7, -, -, -⟩ := ArrP.at HA.out HG.out hB i hik
          have z5 : wr.cell? ⟨w.heap.size + 1, 5, none⟩ = some (.slice (some ⟨b4, off4, none⟩) p.ks.length cap4) := (KP.out.cell 5).trans (by simp)
          have klt2 := KP.out.lt
          have g1 : (0 : Int) ≤ (i : Int) := by omega
          have g2 : (i : Int) < (ls.length : Int) := by omega
          have g3 : (i : Int) < (p.ks.length : Int) := by omega
          have hstep := HR.out
          rw [allP_step hil hik] at hstep
          have HST := Lib.hid hstep
          clear hstep
          have hwr : IntKind.i64.wrap (d : Int) = (d : Int) := IntWalk.i64_in _ (by omega)
          have HCALL := Lib.hid (IH.out p.ks[i] (List.getElem_mem hik) xs HW.out d (by omega) ls[i] (HAI.out _ (List.getElem_mem hil)) wr.drew _ F _ G7 (ArrDt.below HX.out hB.drew HF.out) (HF.out.mono hB.drew.size) (HV7.out.below hB.drew HG7.out) (HG7.out.mono hB.drew.size))
          go_wp2_with fail
          have hkeep : ∀ U U' : World, (U.cell? ⟨b6, off6 + i * 2, none⟩ = some (.int .i64 ls[i].d) ∧ U.cell? ⟨b6, off6 + i * 2 + 1, none⟩ = some (.int .i64 ls[i].i) ∧ U.cell? ⟨w.heap.size + 1, 5, none⟩ = some (.slice (some ⟨b4, off4, none⟩) p.ks.length cap4) ∧ U.cell? ⟨b4, off4 + i * 6, none⟩ = some (.int .i64 p.ks[i].op) ∧ U.cell? ⟨b4, off4 + i * 6 + 1, none⟩ = some (.int .i64 p.ks[i].ct) ∧ U.cell? ⟨b4, off4 + i * 6 + 2, none⟩ = some (.int .i64 p.ks[i].n) ∧ U.cell? ⟨b4, off4 + i * 6 + 3, none⟩ = some (.int .i64 p.ks[i].m) ∧ U.cell? ⟨b4, off4 + i * 6 + 4, none⟩ = some (.int .i64 p.ks[i].va) ∧ U.cell? ⟨b4, off4 + i * 6 + 5, none⟩ = some (.slice A7 p.ks[i].ks.length cap7)) → Below U.heap.size U U' → wr.heap.size ≤ U.heap.size → (U'.cell? ⟨b6, off6 + i * 2, none⟩ = some (.int .i64 ls[i].d) ∧ U'.cell? ⟨b6, off6 + i * 2 + 1, none⟩ = some (.int .i64 ls[i].i) ∧ U'.cell? ⟨w.heap.size + 1, 5, none⟩ = some (.slice (some ⟨b4, off4, none⟩) p.ks.length cap4) ∧ U'.cell? ⟨b4, off4 + i * 6, none⟩ = some (.int .i64 p.ks[i].op) ∧ U'.cell? ⟨b4, off4 + i * 6 + 1, none⟩ = some (.int .i64 p.ks[i].ct) ∧ U'.cell? ⟨b4, off4 + i * 6 + 2, none⟩ = some (.int .i64 p.ks[i].n) ∧ U'.cell? ⟨b4, off4 + i * 6 + 3, none⟩ = some (.int .i64 p.ks[i].m) ∧ U'.cell? ⟨b4, off4 + i * 6 + 4, none⟩ = some (.int .i64 p.ks[i].va) ∧ U'.cell? ⟨b4, off4 + i * 6 + 5, none⟩ = some (.slice A7 p.ks[i].ks.length cap7)) := fun U U' h hUU hU => ⟨(hUU.cell (Nat.lt_of_lt_of_le (hb6) hU)).trans h.1, (hUU.cell (Nat.lt_of_lt_of_le (hb6) hU)).trans h.2.1, (hUU.cell (Nat.lt_of_lt_of_le (klt2) hU)).trans h.2.2.1, (hUU.cell (Nat.lt_of_lt_of_le (hb7) hU)).trans h.2.2.2.1, (hUU.cell (Nat.lt_of_lt_of_le (hb7) hU)).trans h.2.2.2.2.1, (hUU.cell (Nat.lt_of_lt_of_le (hb7) hU)).trans h.2.2.2.2.2.1, (hUU.cell (Nat.lt_of_lt_of_le (hb7) hU)).trans h.2.2.2.2.2.2.1, (hUU.cell (Nat.lt_of_lt_of_le (hb7) hU)).trans h.2.2.2.2.2.2.2.1, (hUU.cell (Nat.lt_of_lt_of_le (hb7) hU)).trans h.2.2.2.2.2.2.2.2⟩
          have HKeep := Lib.hid hkeep
          clear hkeep
          go_region_held3 (fun w' => w'.cell? ⟨b6, off6 + i * 2, none⟩ = some (.int .i64 ls[i].d) ∧ w'.cell? ⟨b6, off6 + i * 2 + 1, none⟩ = some (.int .i64 ls[i].i) ∧ w'.cell? ⟨w.heap.size + 1, 5, none⟩ = some (.slice (some ⟨b4, off4, none⟩) p.ks.length cap4) ∧ w'.cell? ⟨b4, off4 + i * 6, none⟩ = some (.int .i64 p.ks[i].op) ∧ w'.cell? ⟨b4, off4 + i * 6 + 1, none⟩ = some (.int .i64 p.ks[i].ct) ∧ w'.cell? ⟨b4, off4 + i * 6 + 2, none⟩ = some (.int .i64 p.ks[i].n) ∧ w'.cell? ⟨b4, off4 + i * 6 + 3, none⟩ = some (.int .i64 p.ks[i].m) ∧ w'.cell? ⟨b4, off4 + i * 6 + 4, none⟩ = some (.int .i64 p.ks[i].va) ∧ w'.cell? ⟨b4, off4 + i * 6 + 5, none⟩ = some (.slice A7 p.ks[i].ks.length cap7)) (first | assumption | (exact ⟨a0, a1, z5, k0, k1, k2, k3, k4, k5⟩) | (exact HKeep.out wr.drew w' ⟨a0, a1, z5, k0, k1, k2, k3, k4, k5⟩ hB' (Nat.le_refl _))) (first | (go_at_call 146; ((with_reducible refine HCALL.out.mono ?_); rintro e w' ⟨rfl, hB'⟩)))
          have hB3 := hB.drew.trans (hB'.mono hB.size)
          have HB3 := Lib.hid (HB6.out.drew.trans (hB'.mono HB6.out.size))
          have KP3 := Lib.hid (KP.out.same (hB'.block _ KP.out.lt))
          clear HKeep hwr
          cases e3 : shapeB xs d ls[i] p.ks[i] with
          | false =>
            have hf : Hid (shapeB xs (d + 1) t p = false) := by rw [HST.out, e3]; rfl
            clear e3
            go_wp2
            go_ret
            exact ⟨ret_bool hf.out.symm, hB3⟩
          | true =>
            have hR2 : Hid (shapeB xs (d + 1) t p = allP (shapeB xs d) (ls.drop (i + 1)) (p.ks.drop (i + 1))) := by rw [HST.out, e3, Bool.true_and]; rfl
            clear e3
            go_wp2
            go_roundw
            case rel => exact ⟨i + 1, by omega, by go_num, hR2, KP3, hB3, HB3⟩
            case measure => (simp [intOf] <;> omega)
        · have hf : Hid (shapeB xs (d + 1) t p = true) := by rw [HR.out]; exact allP_end (by omega)
          go_wp2
          go_ret
          exact ⟨ret_bool hf.out.symm, hB⟩
    · have t2 : ((p.ks.length : Int) != (ls.length : Int)) = true := by rw [bne_iff_ne]; omega
      have hf : Hid (shapeB xs (d + 1) t p = false) := by unfold Hid; rw [H1.out]; simp [hln]
      clear hln
      go_wp2
      go_ret
      exact ⟨ret_bool hf.out.symm, hB6⟩
theorem spec_l3Shape : ∀ p, ShapeS p := P.indv l3Shape_of
end Go.Proofs.Ytbffkgfhcmigaaa

namespace Go.Proofs.Ytbffkgfhcmigaaa
open Go.RowKit

theorem ArrVt.at {w0 w : World} {b off n cap : Nat} {F : List Nat} {xs : List Vt} (h : Arr w0 (VtR w0) xs (.slice (some ⟨b, off, none⟩) n cap) F) (hF : Under w0.heap.size F) (hB : Below w0.heap.size w0 w) (i : Nat) (hi : i < xs.length) :
    b < w.heap.size ∧ w.cell? ⟨b, off + i * 3, none⟩ = some (.int .i64 xs[i].var) ∧ w.cell? ⟨b, off + i * 3 + 1, none⟩ = some (.int .i64 xs[i].ty.d) ∧ w.cell? ⟨b, off + i * 3 + 2, none⟩ = some (.int .i64 xs[i].ty.i) := by
  obtain ⟨b', off', cs, G, e, hb, hcs, hv, hG⟩ := h.get (VtR_len w0) hi
  cases e
  have hbl := hF _ hb
  have hc := hcs.same (hB.block _ hbl)
  obtain ⟨rfl, rfl⟩ := hv
  exact ⟨Nat.lt_of_lt_of_le hbl hB.size, hc 0 _ rfl, hc 1 _ rfl, hc 2 _ rfl⟩
set_option maxRecDepth 100000 in
set_option maxHeartbeats 1600000 in
theorem spec_l3Find (xs : List Vt) (n r : Int) (hr : FirstAt (fun x : Vt => x.var == n) xs r) (w : World) (x : Value) (F : List Nat) (hx : Arr w (VtR w) xs x F) (hf : Under w.heap.size F) :
    Calls Try.prog 179 #[x, .int .i64 n] w fun e w' => e = .returned (.int .i64 r) ∧ Below w.heap.size w w' := by
  obtain ⟨A, cap, rfl, hc1, hc2⟩ := hx.form
  have HX := Lib.hid hx
  have HF := Lib.hid hf
  have HR := Lib.hid hr
  clear hx hf hr
  go_enter Try.func179, Try.ntmps179
  go_wp2
  go_loopw [5] (fun i wr => ∃ k : Nat, k ≤ xs.length ∧ i = .int .i64 k ∧ Hid (∀ j (hj : j < xs.length), j < k → (xs[j].var == n) = false) ∧ Below w.heap.size w wr) (fun i _ => xs.length - (intOf i).toNat)
  case atStart => exact ⟨0, Nat.zero_le _, rfl, fun j hj h => by omega, Below.refl _ _⟩
  case round =>
    obtain ⟨k, hk, rfl, HT, hB⟩ := hrel
    by_cases hlt : k < xs.length
    · have g1 : (0 : Int) ≤ (k : Int) := by omega
      have g2 : (k : Int) < (xs.length : Int) := by omega
      obtain ⟨b, off, rfl⟩ := HX.out.ptr (by omega)
      obtain ⟨hb, c0, c1, c2⟩ := ArrVt.at HX.out HF.out hB k hlt
      cases hq : (xs[k].var == n) with
      | true =>
        have hf := Lib.hid (HR.out.hit hlt hq (fun j hj h => HT.out j hj h))
        go_wp2
        go_ret
        exact ⟨ret_int hf.out.symm, hB⟩
      | false =>
        have hT2 : Hid (∀ j (hj : j < xs.length), j < k + 1 → (xs[j].var == n) = false) := fun j hj h => by
          rcases Nat.lt_or_ge j k with h2 | h2
          · exact HT.out j hj h2
          · obtain rfl : j = k := by omega
            exact hq
        go_wp2
        go_roundw
        case rel => exact ⟨k + 1, by omega, by go_num, hT2, hB⟩
        case measure => (simp [intOf] <;> omega)
    · have hf : Hid (r = -1) := HR.out.miss (fun j hj => HT.out j hj (by omega))
      go_wp2
      go_ret
      exact ⟨ret_int hf.out.symm, hB⟩
end Go.Proofs.Ytbffkgfhcmigaaa
