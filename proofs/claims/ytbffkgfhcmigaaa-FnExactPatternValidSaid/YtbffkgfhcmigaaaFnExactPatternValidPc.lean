/-
  Lemmas and contracts of functions: Small functions of the reference on patterns: l3Kids, l3Own, l3Types. Conditions: the world is valid. What the program's scan of a pattern answers, kid by kid. Conditions: none. only and isVar of the program; what a node of a pattern is, kind by kind. Conditions: none. Regions that draw their order: a load may be taken first whose cell is written in the region, if what writes it waits for the load (operation d, which comes after the load). Conditions: none. shape of the program: kinds 1, 2, 4, 5. Conditions: the world is valid. shape of the program: kind 3. Conditions: the world is valid. shape of the program: kind 6, and all. Conditions: the world is valid. Least values, in plain Lean. Conditions: the world is valid. l3Shape of the reference: the shape of a pattern, down to a depth. Conditions: the world is valid. l3Find of the reference. Conditions: none.
-/
import Derived.Test.YtbffkgfhcmigaaaFnExactPatternValidPb
import Derived.Test.YtbffkgfhcmigaaaFnExactPatternValidPa
import Derived.Deep.RegionWith
import Derived.Deep.RegionHeld3
import Derived.Deep.QuietTactic
import Derived.BigQuiet
import Derived.IntWalk

set_option linter.unusedVariables false
set_option linter.unusedSimpArgs false

namespace Go.Proofs.Ytbffkgfhcmigaaa
open Go.RowKit

set_option maxRecDepth 100000 in
set_option maxHeartbeats 1600000 in
theorem spec_l3Kids (op : Int) (h4 : ¬ op = 4) (w : World) : Calls Try.prog 181 #[.int .i64 op] w fun e w' => e = .returned (.int .i64 ((kidsN op : Nat) : Int)) ∧ w' = w := by
  have t4 : (op == 4) = false := by simpa using h4
  by_cases h5 : op = 5
  · subst h5
    go_enter Try.func181, Try.ntmps181
    go_wp2
    go_ret
    exact ⟨rfl, rfl⟩
  · have t5 : (op == 5) = false := by simpa using h5
    by_cases h6 : op = 6
    · subst h6
      go_enter Try.func181, Try.ntmps181
      go_wp2
      go_ret
      exact ⟨rfl, rfl⟩
    · have t6 : (op == 6) = false := by simpa using h6
      have hk : Hid (kidsN op = 0) := by unfold Hid kidsN; rw [if_neg h5, if_neg h6]
      go_enter Try.func181, Try.ntmps181
      go_wp2
      go_ret
      exact ⟨by rw [hk.out]; rfl, rfl⟩

set_option maxRecDepth 100000 in
set_option maxHeartbeats 1600000 in
theorem spec_l3Own (xs : List Dt) (hw : WorldOK xs) (t : Ty) (ht : TyIn xs.length t) (p : P) (w : World) (x : Value) (F : List Nat) (cs : List Value) (G : List Nat) : Arr w (DtR w) xs x F → Under w.heap.size F → PR w p cs G → Under w.heap.size G →
    Calls Try.prog 177 #[x, .agg #[.int .i64 t.d, .int .i64 t.i], .agg cs.toArray] w fun e w' => e = .returned (.bool (ownB xs t p)) ∧ Below w.heap.size w w' := by
  intro hx hf hv hg
  obtain ⟨kv, rfl, ha⟩ := (PR_iff _ _ _).1 hv
  obtain ⟨A, cap, rfl, hc1, hc2⟩ := hx.form
  obtain ⟨A4, cap4, rfl, hc3, hc4⟩ := ha.form
  have HV := Lib.hid hv
  have HX := Lib.hid hx
  have HF := Lib.hid hf
  have HA := Lib.hid ha
  have HG := Lib.hid hg
  clear hx hf ha hg
  clear hv
  have HW := Lib.hid hw
  have HT := Lib.hid ht.inWorld
  clear hw ht HA HG HV
  obtain ⟨op, ct, n, m, va, ks⟩ := p
  simp only at hc3 hc4 ⊢
  have HB : Hid (Below w.heap.size w ((w.alloc (.cells #[.int .i64 t.d, .int .i64 t.i] 37)).alloc (.cells #[.int .i64 op, .int .i64 ct, .int .i64 n, .int .i64 m, .int .i64 va, .slice A4 ks.length cap4] 32))) := ((Below.refl _ _).alloc (Nat.le_refl _) _).alloc (by simp) _
  by_cases o1 : op = 1
  · subst o1
    by_cases v1 : va = 0
    · have tv1 : (va != 0) = false := by simp [v1]
      by_cases n1 : n = 0
      · have tn1 : (n != 0) = false := by simp [n1]
        by_cases m1 : m = 0
        · have tm1 : (m != 0) = false := by simp [m1]
          by_cases c1 : ct = 0
          · have tc1 : (ct != 0) = false := by simp [c1]
            have hf : Hid (ownB xs t ⟨1, ct, n, m, va, ks⟩ = true) := by unfold Hid ownB namedB kindB; simp [v1, n1, m1, c1]
            go_enter Try.func177, Try.ntmps177
            go_wp2
            go_ret
            exact ⟨by subst_vars; exact ret_bool hf.out.symm, ((Below.refl _ _).alloc (Nat.le_refl _) _).alloc (by simp) _⟩
          · have tc1 : (ct != 0) = true := by simpa using c1
            have hf : Hid (ownB xs t ⟨1, ct, n, m, va, ks⟩ = false) := by unfold Hid ownB namedB kindB; simp [v1, n1, m1, c1]
            go_enter Try.func177, Try.ntmps177
            go_wp2
            go_ret
            exact ⟨by subst_vars; exact ret_bool hf.out.symm, ((Below.refl _ _).alloc (Nat.le_refl _) _).alloc (by simp) _⟩
        · have tm1 : (m != 0) = true := by simpa using m1
          have hf : Hid (ownB xs t ⟨1, ct, n, m, va, ks⟩ = false) := by unfold Hid ownB namedB kindB; simp [v1, m1]
          go_enter Try.func177, Try.ntmps177
          go_wp2
          go_ret
          exact ⟨by subst_vars; exact ret_bool hf.out.symm, ((Below.refl _ _).alloc (Nat.le_refl _) _).alloc (by simp) _⟩
      · have tn1 : (n != 0) = true := by simpa using n1
        have hf : Hid (ownB xs t ⟨1, ct, n, m, va, ks⟩ = false) := by unfold Hid ownB namedB kindB; simp [v1, n1]
        go_enter Try.func177, Try.ntmps177
        go_wp2
        go_ret
        exact ⟨by subst_vars; exact ret_bool hf.out.symm, ((Below.refl _ _).alloc (Nat.le_refl _) _).alloc (by simp) _⟩
    · have tv1 : (va != 0) = true := by simpa using v1
      have hf : Hid (ownB xs t ⟨1, ct, n, m, va, ks⟩ = false) := by unfold Hid ownB namedB kindB; simp [v1]
      go_enter Try.func177, Try.ntmps177
      go_wp2
      go_ret
      exact ⟨by subst_vars; exact ret_bool hf.out.symm, ((Below.refl _ _).alloc (Nat.le_refl _) _).alloc (by simp) _⟩
  have u1 : (op == 1) = false := by simpa using o1
  by_cases o2 : op = 2
  · subst o2
    by_cases v1 : va < 0
    · have tv1 : (decide (va < 0)) = true := by simpa using v1
      have v1x : ¬ 0 ≤ va := by omega
      have hf : Hid (ownB xs t ⟨2, ct, n, m, va, ks⟩ = false) := by unfold Hid ownB namedB kindB; simp [v1x]
      go_enter Try.func177, Try.ntmps177
      go_wp2
      go_ret
      exact ⟨by subst_vars; exact ret_bool hf.out.symm, ((Below.refl _ _).alloc (Nat.le_refl _) _).alloc (by simp) _⟩
    · have tv1 : (decide (va < 0)) = false := by simpa using v1
      by_cases v2 : 5 < va
      · have tv2 : (decide (va > 5)) = true := by simpa using v2
        have v2x : ¬ va ≤ 5 := by omega
        have hf : Hid (ownB xs t ⟨2, ct, n, m, va, ks⟩ = false) := by unfold Hid ownB namedB kindB; simp [v2x]
        go_enter Try.func177, Try.ntmps177
        go_wp2
        go_ret
        exact ⟨by subst_vars; exact ret_bool hf.out.symm, ((Below.refl _ _).alloc (Nat.le_refl _) _).alloc (by simp) _⟩
      · have tv2 : (decide (va > 5)) = false := by simpa using v2
        have v1x : 0 ≤ va := by omega
        have v2x : va ≤ 5 := by omega
        by_cases n1 : n = 0
        · have tn1 : (n != 0) = false := by simp [n1]
          by_cases m1 : m = 0
          · have tm1 : (m != 0) = false := by simp [m1]
            by_cases c1 : ct = 0
            · have tc1 : (ct != 0) = false := by simp [c1]
              have hf : Hid (ownB xs t ⟨2, ct, n, m, va, ks⟩ = true) := by unfold Hid ownB namedB kindB; simp [v1x, v2x, n1, m1, c1]
              go_enter Try.func177, Try.ntmps177
              go_wp2
              go_ret
              exact ⟨by subst_vars; exact ret_bool hf.out.symm, ((Below.refl _ _).alloc (Nat.le_refl _) _).alloc (by simp) _⟩
            · have tc1 : (ct != 0) = true := by simpa using c1
              have hf : Hid (ownB xs t ⟨2, ct, n, m, va, ks⟩ = false) := by unfold Hid ownB namedB kindB; simp [v1x, v2x, n1, m1, c1]
              go_enter Try.func177, Try.ntmps177
              go_wp2
              go_ret
              exact ⟨by subst_vars; exact ret_bool hf.out.symm, ((Below.refl _ _).alloc (Nat.le_refl _) _).alloc (by simp) _⟩
          · have tm1 : (m != 0) = true := by simpa using m1
            have hf : Hid (ownB xs t ⟨2, ct, n, m, va, ks⟩ = false) := by unfold Hid ownB namedB kindB; simp [v1x, v2x, m1]
            go_enter Try.func177, Try.ntmps177
            go_wp2
            go_ret
            exact ⟨by subst_vars; exact ret_bool hf.out.symm, ((Below.refl _ _).alloc (Nat.le_refl _) _).alloc (by simp) _⟩
        · have tn1 : (n != 0) = true := by simpa using n1
          have hf : Hid (ownB xs t ⟨2, ct, n, m, va, ks⟩ = false) := by unfold Hid ownB namedB kindB; simp [v1x, v2x, n1]
          go_enter Try.func177, Try.ntmps177
          go_wp2
          go_ret
          exact ⟨by subst_vars; exact ret_bool hf.out.symm, ((Below.refl _ _).alloc (Nat.le_refl _) _).alloc (by simp) _⟩
  have u2 : (op == 2) = false := by simpa using o2
  by_cases o3 : op = 3
  · subst o3
    by_cases v1 : va = 0
    · have tv1 : (va != 0) = false := by simp [v1]
      by_cases c1 : ct = 0
      · have tc1 : (ct != 0) = false := by simp [c1]
        by_cases a0 : t.d = -1
        · have b0 : (t.d == -1) = true := by simp [a0]
          by_cases a1 : 0 ≤ n
          · have b1 : decide (n ≥ 0) = true := by simpa using a1
            by_cases a2 : n ≤ m
            · have b2 : decide (n ≤ m) = true := by simpa using a2
              by_cases a3 : m ≤ 9
              · have b3 : decide (m ≤ 9) = true := by simpa using a3
                have hf : Hid (ownB xs t ⟨3, ct, n, m, va, ks⟩ = true) := by unfold Hid ownB namedB kindB; simp [v1, c1, a0, a1, a2, a3]
                go_enter Try.func177, Try.ntmps177
                go_wp2
                go_ret
                exact ⟨by subst_vars; exact ret_bool hf.out.symm, ((Below.refl _ _).alloc (Nat.le_refl _) _).alloc (by simp) _⟩
              · have b3 : decide (m ≤ 9) = false := by simpa using a3
                have hf : Hid (ownB xs t ⟨3, ct, n, m, va, ks⟩ = false) := by unfold Hid ownB namedB kindB; simp [v1, c1, a0, a1, a2, a3]
                go_enter Try.func177, Try.ntmps177
                go_wp2
                go_ret
                exact ⟨by subst_vars; exact ret_bool hf.out.symm, ((Below.refl _ _).alloc (Nat.le_refl _) _).alloc (by simp) _⟩
            · have b2 : decide (n ≤ m) = false := by simpa using a2
              have hf : Hid (ownB xs t ⟨3, ct, n, m, va, ks⟩ = false) := by unfold Hid ownB namedB kindB; simp [v1, c1, a2]
              go_enter Try.func177, Try.ntmps177
              go_wp2
              go_ret
              exact ⟨by subst_vars; exact ret_bool hf.out.symm, ((Below.refl _ _).alloc (Nat.le_refl _) _).alloc (by simp) _⟩
          · have b1 : decide (n ≥ 0) = false := by simpa using a1
            have hf : Hid (ownB xs t ⟨3, ct, n, m, va, ks⟩ = false) := by unfold Hid ownB namedB kindB; simp [v1, c1, a1]
            go_enter Try.func177, Try.ntmps177
            go_wp2
            go_ret
            exact ⟨by subst_vars; exact ret_bool hf.out.symm, ((Below.refl _ _).alloc (Nat.le_refl _) _).alloc (by simp) _⟩
        · have b0 : (t.d == -1) = false := by simpa using a0
          have hf : Hid (ownB xs t ⟨3, ct, n, m, va, ks⟩ = false) := by unfold Hid ownB namedB kindB; simp [v1, c1, a0]
          go_enter Try.func177, Try.ntmps177
          go_wp2
          go_ret
          exact ⟨by subst_vars; exact ret_bool hf.out.symm, ((Below.refl _ _).alloc (Nat.le_refl _) _).alloc (by simp) _⟩
      · have tc1 : (ct != 0) = true := by simpa using c1
        have hf : Hid (ownB xs t ⟨3, ct, n, m, va, ks⟩ = false) := by unfold Hid ownB namedB kindB; simp [v1, c1]
        go_enter Try.func177, Try.ntmps177
        go_wp2
        go_ret
        exact ⟨by subst_vars; exact ret_bool hf.out.symm, ((Below.refl _ _).alloc (Nat.le_refl _) _).alloc (by simp) _⟩
    · have tv1 : (va != 0) = true := by simpa using v1
      have hf : Hid (ownB xs t ⟨3, ct, n, m, va, ks⟩ = false) := by unfold Hid ownB namedB kindB; simp [v1]
      go_enter Try.func177, Try.ntmps177
      go_wp2
      go_ret
      exact ⟨by subst_vars; exact ret_bool hf.out.symm, ((Below.refl _ _).alloc (Nat.le_refl _) _).alloc (by simp) _⟩
  have u3 : (op == 3) = false := by simpa using o3
  by_cases o4 : op = 4
  · subst o4
    by_cases v1 : va = 0
    · have tv1 : (va != 0) = false := by simp [v1]
      by_cases n1 : n = 0
      · have tn1 : (n != 0) = false := by simp [n1]
        by_cases m1 : m = 0
        · have tm1 : (m != 0) = false := by simp [m1]
          have hf : Hid (ownB xs t ⟨4, ct, n, m, va, ks⟩ = hasB (ctorsL xs t) ct) := by unfold Hid ownB namedB kindB; simp [v1, n1, m1]
          subst_vars
          go_enter Try.func177, Try.ntmps177
          go_wp2_with fail
          obtain ⟨W2, hW2⟩ : ∃ W2, W2 = ((w.alloc (.cells #[.int .i64 t.d, .int .i64 t.i] 37)).alloc (.cells #[.int .i64 4, .int .i64 ct, .int .i64 0, .int .i64 0, .int .i64 0, .slice A4 ks.length cap4] 32)) := ⟨_, rfl⟩
          rw [← hW2] at HB
          have KT : Hid (Blk W2 w.heap.size 37 #[.int .i64 t.d, .int .i64 t.i]) := by rw [hW2]; exact (Blk.new w _ _).same (Below.heap_alloc _ _ _ (by simp))
          have KP : Hid (Blk W2 (w.heap.size + 1) 32 #[.int .i64 4, .int .i64 ct, .int .i64 0, .int .i64 0, .int .i64 0, .slice A4 ks.length cap4]) := by rw [hW2]; have h := Blk.new (w.alloc (.cells #[.int .i64 t.d, .int .i64 t.i] 37)) 32 #[.int .i64 4, .int .i64 ct, .int .i64 0, .int .i64 0, .int .i64 0, .slice A4 ks.length cap4]; rw [World.size_alloc] at h; exact h
          rw [← hW2]
          clear hW2
          have y0 : W2.cell? ⟨w.heap.size, 0, none⟩ = some (.int .i64 t.d) := (KT.out.cell 0).trans (by simp)
          have y1 : W2.cell? ⟨w.heap.size, 1, none⟩ = some (.int .i64 t.i) := (KT.out.cell 1).trans (by simp)
          have klt := KT.out.lt
          have z1 : W2.cell? ⟨w.heap.size + 1, 1, none⟩ = some (.int .i64 ct) := (KP.out.cell 1).trans (by simp)
          have klt2 := KP.out.lt
          have hB0 := HB.out
          have hkeep : ∀ U U' : World, (U.cell? ⟨w.heap.size, 0, none⟩ = some (.int .i64 t.d) ∧ U.cell? ⟨w.heap.size, 1, none⟩ = some (.int .i64 t.i) ∧ U.cell? ⟨w.heap.size + 1, 1, none⟩ = some (.int .i64 ct)) → Below U.heap.size U U' → W2.heap.size ≤ U.heap.size → (U'.cell? ⟨w.heap.size, 0, none⟩ = some (.int .i64 t.d) ∧ U'.cell? ⟨w.heap.size, 1, none⟩ = some (.int .i64 t.i) ∧ U'.cell? ⟨w.heap.size + 1, 1, none⟩ = some (.int .i64 ct)) := fun U U' h hUU hU => ⟨(hUU.cell (Nat.lt_of_lt_of_le (klt) hU)).trans h.1, (hUU.cell (Nat.lt_of_lt_of_le (klt) hU)).trans h.2.1, (hUU.cell (Nat.lt_of_lt_of_le (klt2) hU)).trans h.2.2⟩
          have HKeep := Lib.hid hkeep
          clear hkeep
          go_region_held3 (fun w' => w'.cell? ⟨w.heap.size, 0, none⟩ = some (.int .i64 t.d) ∧ w'.cell? ⟨w.heap.size, 1, none⟩ = some (.int .i64 t.i) ∧ w'.cell? ⟨w.heap.size + 1, 1, none⟩ = some (.int .i64 ct)) (first | assumption | (exact ⟨y0, y1, z1⟩) | (exact HKeep.out W2.drew w4 ⟨y0, y1, z1⟩ hb4 (Nat.le_refl _)) | (exact HKeep.out w4 w5 (by assumption) hb5 hlew4)) (first | (go_at_call 132; ((with_reducible refine (spec_l1Ctors xs t _ _ F (ArrDt.below HX.out hB0.drew HF.out) (HF.out.mono hB0.drew.size) HW.out HT.out).mono ?_); rintro e w4 ⟨v4, F4, rfl, hb4, ha4, -, hfs4⟩); have hlew4 : W2.heap.size ≤ w4.heap.size := hb4.size) | (go_at_call 170; ((with_reducible refine (spec_l1Has (ctorsL xs t) ct _ _ F4 ha4 hfs4.under).mono ?_); rintro e w5 ⟨rfl, hb5⟩)))
          have hBa := hB0.drew.trans (hb4.mono hB0.drew.size)
          have hB5 := hBa.trans (hb5.mono hBa.size)
          generalize hasB (ctorsL xs t) ct = r at *
          clear HKeep ha4 hfs4 hb4 hb5 hBa hB0 HB KT KP y0 y1 z1 klt klt2
          go_wp2
          go_ret
          exact ⟨ret_bool hf.out.symm, hB5⟩
        · have tm1 : (m != 0) = true := by simpa using m1
          have hf : Hid (ownB xs t ⟨4, ct, n, m, va, ks⟩ = false) := by unfold Hid ownB namedB kindB; simp [v1, m1]
          go_enter Try.func177, Try.ntmps177
          go_wp2
          go_ret
          exact ⟨by subst_vars; exact ret_bool hf.out.symm, ((Below.refl _ _).alloc (Nat.le_refl _) _).alloc (by simp) _⟩
      · have tn1 : (n != 0) = true := by simpa using n1
        have hf : Hid (ownB xs t ⟨4, ct, n, m, va, ks⟩ = false) := by unfold Hid ownB namedB kindB; simp [v1, n1]
        go_enter Try.func177, Try.ntmps177
        go_wp2
        go_ret
        exact ⟨by subst_vars; exact ret_bool hf.out.symm, ((Below.refl _ _).alloc (Nat.le_refl _) _).alloc (by simp) _⟩
    · have tv1 : (va != 0) = true := by simpa using v1
      have hf : Hid (ownB xs t ⟨4, ct, n, m, va, ks⟩ = false) := by unfold Hid ownB namedB kindB; simp [v1]
      go_enter Try.func177, Try.ntmps177
      go_wp2
      go_ret
      exact ⟨by subst_vars; exact ret_bool hf.out.symm, ((Below.refl _ _).alloc (Nat.le_refl _) _).alloc (by simp) _⟩
  have u4 : (op == 4) = false := by simpa using o4
  by_cases o5 : op = 5
  · subst o5
    by_cases v1 : va = 0
    · have tv1 : (va != 0) = false := by simp [v1]
      by_cases n1 : n = 0
      · have tn1 : (n != 0) = false := by simp [n1]
        by_cases m1 : m = 0
        · have tm1 : (m != 0) = false := by simp [m1]
          by_cases c1 : ct = 0
          · have tc1 : (ct != 0) = false := by simp [c1]
            have hf : Hid (ownB xs t ⟨5, ct, n, m, va, ks⟩ = true) := by unfold Hid ownB namedB kindB; simp [v1, n1, m1, c1]
            go_enter Try.func177, Try.ntmps177
            go_wp2
            go_ret
            exact ⟨by subst_vars; exact ret_bool hf.out.symm, ((Below.refl _ _).alloc (Nat.le_refl _) _).alloc (by simp) _⟩
          · have tc1 : (ct != 0) = true := by simpa using c1
            have hf : Hid (ownB xs t ⟨5, ct, n, m, va, ks⟩ = false) := by unfold Hid ownB namedB kindB; simp [v1, n1, m1, c1]
            go_enter Try.func177, Try.ntmps177
            go_wp2
            go_ret
            exact ⟨by subst_vars; exact ret_bool hf.out.symm, ((Below.refl _ _).alloc (Nat.le_refl _) _).alloc (by simp) _⟩
        · have tm1 : (m != 0) = true := by simpa using m1
          have hf : Hid (ownB xs t ⟨5, ct, n, m, va, ks⟩ = false) := by unfold Hid ownB namedB kindB; simp [v1, m1]
          go_enter Try.func177, Try.ntmps177
          go_wp2
          go_ret
          exact ⟨by subst_vars; exact ret_bool hf.out.symm, ((Below.refl _ _).alloc (Nat.le_refl _) _).alloc (by simp) _⟩
      · have tn1 : (n != 0) = true := by simpa using n1
        have hf : Hid (ownB xs t ⟨5, ct, n, m, va, ks⟩ = false) := by unfold Hid ownB namedB kindB; simp [v1, n1]
        go_enter Try.func177, Try.ntmps177
        go_wp2
        go_ret
        exact ⟨by subst_vars; exact ret_bool hf.out.symm, ((Below.refl _ _).alloc (Nat.le_refl _) _).alloc (by simp) _⟩
    · have tv1 : (va != 0) = true := by simpa using v1
      have hf : Hid (ownB xs t ⟨5, ct, n, m, va, ks⟩ = false) := by unfold Hid ownB namedB kindB; simp [v1]
      go_enter Try.func177, Try.ntmps177
      go_wp2
      go_ret
      exact ⟨by subst_vars; exact ret_bool hf.out.symm, ((Below.refl _ _).alloc (Nat.le_refl _) _).alloc (by simp) _⟩
  have u5 : (op == 5) = false := by simpa using o5
  by_cases o6 : op = 6
  · subst o6
    by_cases v1 : va < 0
    · have tv1 : (decide (va < 0)) = true := by simpa using v1
      have v1x : ¬ 0 ≤ va := by omega
      have hf : Hid (ownB xs t ⟨6, ct, n, m, va, ks⟩ = false) := by unfold Hid ownB namedB kindB; simp [v1x]
      go_enter Try.func177, Try.ntmps177
      go_wp2
      go_ret
      exact ⟨by subst_vars; exact ret_bool hf.out.symm, ((Below.refl _ _).alloc (Nat.le_refl _) _).alloc (by simp) _⟩
    · have tv1 : (decide (va < 0)) = false := by simpa using v1
      by_cases v2 : 5 < va
      · have tv2 : (decide (va > 5)) = true := by simpa using v2
        have v2x : ¬ va ≤ 5 := by omega
        have hf : Hid (ownB xs t ⟨6, ct, n, m, va, ks⟩ = false) := by unfold Hid ownB namedB kindB; simp [v2x]
        go_enter Try.func177, Try.ntmps177
        go_wp2
        go_ret
        exact ⟨by subst_vars; exact ret_bool hf.out.symm, ((Below.refl _ _).alloc (Nat.le_refl _) _).alloc (by simp) _⟩
      · have tv2 : (decide (va > 5)) = false := by simpa using v2
        have v1x : 0 ≤ va := by omega
        have v2x : va ≤ 5 := by omega
        by_cases n1 : n = 0
        · have tn1 : (n != 0) = false := by simp [n1]
          by_cases m1 : m = 0
          · have tm1 : (m != 0) = false := by simp [m1]
            by_cases c1 : ct = 0
            · have tc1 : (ct != 0) = false := by simp [c1]
              have hf : Hid (ownB xs t ⟨6, ct, n, m, va, ks⟩ = true) := by unfold Hid ownB namedB kindB; simp [v1x, v2x, n1, m1, c1]
              go_enter Try.func177, Try.ntmps177
              go_wp2
              go_ret
              exact ⟨by subst_vars; exact ret_bool hf.out.symm, ((Below.refl _ _).alloc (Nat.le_refl _) _).alloc (by simp) _⟩
            · have tc1 : (ct != 0) = true := by simpa using c1
              have hf : Hid (ownB xs t ⟨6, ct, n, m, va, ks⟩ = false) := by unfold Hid ownB namedB kindB; simp [v1x, v2x, n1, m1, c1]
              go_enter Try.func177, Try.ntmps177
              go_wp2
              go_ret
              exact ⟨by subst_vars; exact ret_bool hf.out.symm, ((Below.refl _ _).alloc (Nat.le_refl _) _).alloc (by simp) _⟩
          · have tm1 : (m != 0) = true := by simpa using m1
            have hf : Hid (ownB xs t ⟨6, ct, n, m, va, ks⟩ = false) := by unfold Hid ownB namedB kindB; simp [v1x, v2x, m1]
            go_enter Try.func177, Try.ntmps177
            go_wp2
            go_ret
            exact ⟨by subst_vars; exact ret_bool hf.out.symm, ((Below.refl _ _).alloc (Nat.le_refl _) _).alloc (by simp) _⟩
        · have tn1 : (n != 0) = true := by simpa using n1
          have hf : Hid (ownB xs t ⟨6, ct, n, m, va, ks⟩ = false) := by unfold Hid ownB namedB kindB; simp [v1x, v2x, n1]
          go_enter Try.func177, Try.ntmps177
          go_wp2
          go_ret
          exact ⟨by subst_vars; exact ret_bool hf.out.symm, ((Below.refl _ _).alloc (Nat.le_refl _) _).alloc (by simp) _⟩
  have u6 : (op == 6) = false := by simpa using o6
  have un3 : (op != 3) = true := by simpa using o3
  have un4 : (op != 4) = true := by simpa using o4
  by_cases v1 : va = 0
  · have tv1 : (va != 0) = false := by simp [v1]
    by_cases n1 : n = 0
    · have tn1 : (n != 0) = false := by simp [n1]
      by_cases m1 : m = 0
      · have tm1 : (m != 0) = false := by simp [m1]
        by_cases c1 : ct = 0
        · have tc1 : (ct != 0) = false := by simp [c1]
          have hf : Hid (ownB xs t ⟨op, ct, n, m, va, ks⟩ = false) := by unfold Hid ownB namedB kindB; simp [o1, o2, o3, o4, o5, o6, v1, n1, m1, c1]
          go_enter Try.func177, Try.ntmps177
          go_wp2
          go_ret
          exact ⟨by subst_vars; exact ret_bool hf.out.symm, ((Below.refl _ _).alloc (Nat.le_refl _) _).alloc (by simp) _⟩
        · have tc1 : (ct != 0) = true := by simpa using c1
          have hf : Hid (ownB xs t ⟨op, ct, n, m, va, ks⟩ = false) := by unfold Hid ownB namedB kindB; simp [o1, o2, o3, o4, o5, o6, v1, n1, m1, c1]
          go_enter Try.func177, Try.ntmps177
          go_wp2
          go_ret
          exact ⟨by subst_vars; exact ret_bool hf.out.symm, ((Below.refl _ _).alloc (Nat.le_refl _) _).alloc (by simp) _⟩
      · have tm1 : (m != 0) = true := by simpa using m1
        have hf : Hid (ownB xs t ⟨op, ct, n, m, va, ks⟩ = false) := by unfold Hid ownB namedB kindB; simp [o1, o2, o3, o4, o5, o6, v1, m1]
        go_enter Try.func177, Try.ntmps177
        go_wp2
        go_ret
        exact ⟨by subst_vars; exact ret_bool hf.out.symm, ((Below.refl _ _).alloc (Nat.le_refl _) _).alloc (by simp) _⟩
    · have tn1 : (n != 0) = true := by simpa using n1
      have hf : Hid (ownB xs t ⟨op, ct, n, m, va, ks⟩ = false) := by unfold Hid ownB namedB kindB; simp [o1, o2, o3, o4, o5, o6, v1, n1]
      go_enter Try.func177, Try.ntmps177
      go_wp2
      go_ret
      exact ⟨by subst_vars; exact ret_bool hf.out.symm, ((Below.refl _ _).alloc (Nat.le_refl _) _).alloc (by simp) _⟩
  · have tv1 : (va != 0) = true := by simpa using v1
    have hf : Hid (ownB xs t ⟨op, ct, n, m, va, ks⟩ = false) := by unfold Hid ownB namedB kindB; simp [o1, o2, o3, o4, o5, o6, v1]
    go_enter Try.func177, Try.ntmps177
    go_wp2
    go_ret
    exact ⟨by subst_vars; exact ret_bool hf.out.symm, ((Below.refl _ _).alloc (Nat.le_refl _) _).alloc (by simp) _⟩

def repTo (t : Ty) (i : Nat) : List Ty := List.replicate i t
theorem repTo_len (t : Ty) (i : Nat) : (repTo t i).length = i := List.length_replicate
theorem repTo_succ (t : Ty) (i : Nat) : repTo t (i + 1) = repTo t i ++ [t] := List.replicate_succ'
theorem kidsN_le (op : Int) : kidsN op ≤ 2 := by unfold kidsN; split; omega; split <;> omega
theorem typesP_no {xs : List Dt} {t : Ty} {p : P} (h : ¬ p.op = 4) : typesP xs t p = repTo t (kidsN p.op) := by unfold typesP; rw [if_neg h]; rfl
theorem ownB_ctor {xs : List Dt} {t : Ty} {p : P} (h : p.op = 4) (ho : ownB xs t p = true) : p.ct ∈ ctorsL xs t := by
  unfold ownB kindB at ho
  simp only [Bool.and_eq_true] at ho
  have h2 := ho.2.2.2
  rw [if_neg (by omega), if_pos h] at h2
  exact (hasB_iff _ _).1 h2
set_option maxRecDepth 100000 in
set_option maxHeartbeats 1600000 in
theorem spec_l3Types (xs : List Dt) (hw : WorldOK xs) (t : Ty) (ht : TyIn xs.length t) (p : P) (ho : ownB xs t p = true) (w : World) (x : Value) (F : List Nat) (cs : List Value) (G : List Nat) : Arr w (DtR w) xs x F → Under w.heap.size F → PR w p cs G → Under w.heap.size G →
    Calls Try.prog 152 #[x, .agg #[.int .i64 t.d, .int .i64 t.i], .agg cs.toArray] w (MadeArr TyR w (typesP xs t p)) := by
  intro hx hf hv hg
  obtain ⟨kv, rfl, ha⟩ := (PR_iff _ _ _).1 hv
  obtain ⟨A, cap, rfl, hc1, hc2⟩ := hx.form
  obtain ⟨A4, cap4, rfl, hc3, hc4⟩ := ha.form
  have HV := Lib.hid hv
  have HX := Lib.hid hx
  have HF := Lib.hid hf
  have HA := Lib.hid ha
  have HG := Lib.hid hg
  clear hx hf ha hg
  clear hv
  by_cases h4 : p.op = 4
  · have t4 : (p.op == 4) = true := by simp [h4]
    obtain ⟨q, k, e2, hvc, hq', hkl⟩ := mem_ctorsL (xs := xs) (t := t) ht.inWorld (ownB_ctor h4 ho)
    have hty : typesP xs t p = argsL xs[q].ctors[k] t.i := by
      unfold typesP
      rw [if_pos h4, hvc]
      obtain ⟨td, ti⟩ := t
      simp only at e2
      subst e2
      exact argsOf_get hq' hkl
    have HTY := Lib.hid hty
    have HVC := Lib.hid hvc
    have HE2 := Lib.hid e2
    have HLA := Lib.hid (hw.ctor hq' hkl).args
    clear hty hvc e2 h4 ho hw ht
    go_enter Try.func152, Try.ntmps152
    go_wp2_with fail
    obtain ⟨W2, hW2⟩ : ∃ W2, W2 = ((w.alloc (.cells #[.int .i64 t.d, .int .i64 t.i] 37)).alloc (.cells #[.int .i64 p.op, .int .i64 p.ct, .int .i64 p.n, .int .i64 p.m, .int .i64 p.va, .slice A4 p.ks.length cap4] 32)) := ⟨_, rfl⟩
    have hB0 : Below w.heap.size w W2 := by rw [hW2]; exact ((Below.refl _ _).alloc (Nat.le_refl _) _).alloc (by simp) _
    have KT : Hid (Blk W2 w.heap.size 37 #[.int .i64 t.d, .int .i64 t.i]) := by rw [hW2]; exact (Blk.new w _ _).same (Below.heap_alloc _ _ _ (by simp))
    have KP : Hid (Blk W2 (w.heap.size + 1) 32 #[.int .i64 p.op, .int .i64 p.ct, .int .i64 p.n, .int .i64 p.m, .int .i64 p.va, .slice A4 p.ks.length cap4]) := by rw [hW2]; have h := Blk.new (w.alloc (.cells #[.int .i64 t.d, .int .i64 t.i] 37)) 32 #[.int .i64 p.op, .int .i64 p.ct, .int .i64 p.n, .int .i64 p.m, .int .i64 p.va, .slice A4 p.ks.length cap4]; rw [World.size_alloc] at h; exact h
    have hws : w.heap.size + 2 ≤ W2.heap.size := by rw [hW2]; simp
    rw [← hW2]
    clear hW2
    have y0 : W2.cell? ⟨w.heap.size, 0, none⟩ = some (.int .i64 t.d) := (KT.out.cell 0).trans (by simp)
    have y1 : W2.cell? ⟨w.heap.size, 1, none⟩ = some (.int .i64 t.i) := (KT.out.cell 1).trans (by simp)
    have klt := KT.out.lt
    have z0 : W2.cell? ⟨w.heap.size + 1, 0, none⟩ = some (.int .i64 p.op) := (KP.out.cell 0).trans (by simp)
    have z1 : W2.cell? ⟨w.heap.size + 1, 1, none⟩ = some (.int .i64 p.ct) := (KP.out.cell 1).trans (by simp)
    have klt2 := KP.out.lt
    go_wp2_with fail
    rw [HVC.out, HE2.out]
    refine (spec_l1Args xs q k t.i hq' hkl W2 _ F (ArrDt.below HX.out hB0 HF.out) (HF.out.mono hB0.size) HLA.out).mono ?_
    rintro e w6 ⟨v6, F6, rfl, hb6, ha6, hfr6, hfs6⟩
    have hfin : MadeArr TyR w (typesP xs t p) (.returned v6) w6 := ⟨v6, F6, rfl, hB0.trans (hb6.mono hB0.size), by rw [HTY.out]; exact ha6, hfr6, fun b hb => ⟨Nat.le_trans hB0.size (hfs6 b hb).1, (hfs6 b hb).2⟩⟩
    have HFin := Lib.hid hfin
    clear hfin ha6 hfr6 hfs6 hb6 y0 y1 z0 z1 klt klt2 t4
    go_wp2
    go_ret
    exact HFin.out
  · have t4 : (p.op == 4) = false := by simpa using h4
    obtain ⟨i0, hi, hz0, hz1, hz2⟩ := info_parts info_tyE
    have HI := Lib.hid hi
    have HZ0 := Lib.hid hz0
    have HZ1 := Lib.hid hz1
    have HZ2 := Lib.hid hz2
    clear hi hz0 hz1 hz2
    have HTY := Lib.hid (typesP_no (xs := xs) (t := t) h4)
    have H4 := Lib.hid h4
    have hk2 := kidsN_le p.op
    generalize hkn : kidsN p.op = kn at *
    have HKN := Lib.hid hkn
    clear h4 ho hw ht hkn
    have hws9 : (((w.alloc (.cells #[.int .i64 t.d, .int .i64 t.i] 37)).alloc (.cells #[.int .i64 p.op, .int .i64 p.ct, .int .i64 p.n, .int .i64 p.m, .int .i64 p.va, .slice A4 p.ks.length cap4] 32)).alloc (.cells #[] 37)).heap.size = w.heap.size + 3 := by simp
    go_enter Try.func152, Try.ntmps152
    go_wp2
    obtain ⟨w9, hw9⟩ : ∃ w9, w9 = ((w.alloc (.cells #[.int .i64 t.d, .int .i64 t.i] 37)).alloc (.cells #[.int .i64 p.op, .int .i64 p.ct, .int .i64 p.n, .int .i64 p.m, .int .i64 p.va, .slice A4 p.ks.length cap4] 32)).alloc (.cells #[] 37) := ⟨_, rfl⟩
    have hB0 : Below w.heap.size w w9 := by rw [hw9]; exact (((Below.refl _ _).alloc (Nat.le_refl _) _).alloc (by simp) _).alloc (by simp; omega) _
    have KT : Hid (Blk w9 w.heap.size 37 #[.int .i64 t.d, .int .i64 t.i]) := by rw [hw9]; exact ((Blk.new w _ _).same (Below.heap_alloc _ _ _ (by simp))).same (Below.heap_alloc _ _ _ (by simp; omega))
    have KP : Hid (Blk w9 (w.heap.size + 1) 32 #[.int .i64 p.op, .int .i64 p.ct, .int .i64 p.n, .int .i64 p.m, .int .i64 p.va, .slice A4 p.ks.length cap4]) := by rw [hw9]; have h := Blk.new (w.alloc (.cells #[.int .i64 t.d, .int .i64 t.i] 37)) 32 #[.int .i64 p.op, .int .i64 p.ct, .int .i64 p.n, .int .i64 p.m, .int .i64 p.va, .slice A4 p.ks.length cap4]; rw [World.size_alloc] at h; exact h.same (Below.heap_alloc _ _ _ (by simp))
    have HO : Hid (Own w9 (w.heap.size + 2) 37 2 TyR (repTo t 0) (.slice (some ⟨w.heap.size + 2, 0, none⟩) 0 0) []) := by
      rw [hw9]
      have h := Own.made ((w.alloc (.cells #[.int .i64 t.d, .int .i64 t.i] 37)).alloc (.cells #[.int .i64 p.op, .int .i64 p.ct, .int .i64 p.n, .int .i64 p.m, .int .i64 p.va, .slice A4 p.ks.length cap4] 32)) (w.heap.size + 2) 37 2 TyR #[] 0 (by simp) (by simp [maxLen]) rfl
      rw [show ((w.alloc (.cells #[.int .i64 t.d, .int .i64 t.i] 37)).alloc (.cells #[.int .i64 p.op, .int .i64 p.ct, .int .i64 p.n, .int .i64 p.m, .int .i64 p.va, .slice A4 p.ks.length cap4] 32)).heap.size = w.heap.size + 2 from by simp] at h
      exact h
    rw [← hw9] at hws9 ⊢
    clear hw9
    go_loopw [7, 8] (fun ov iv wr => ∃ i : Nat, i ≤ kn ∧ iv = .int .i64 i ∧ Hid (Own wr (w.heap.size + 2) 37 2 TyR (repTo t i) ov []) ∧ Hid (Blk wr w.heap.size 37 #[.int .i64 t.d, .int .i64 t.i]) ∧ Hid (Blk wr (w.heap.size + 1) 32 #[.int .i64 p.op, .int .i64 p.ct, .int .i64 p.n, .int .i64 p.m, .int .i64 p.va, .slice A4 p.ks.length cap4]) ∧ Below w.heap.size w wr ∧ w.heap.size + 2 ≤ wr.heap.size) (fun _ iv _ => kn - (intOf iv).toNat)
    case atStart => exact ⟨0, Nat.zero_le _, rfl, HO, KT, KP, hB0, by omega⟩
    case round =>
      clear hB0 KT KP HO hws9
      obtain ⟨i, hi, rfl, HO, KT, KP, hB, hsz⟩ := hrel
      obtain ⟨kA, kcap, hkv, hkc1, hkc2⟩ := HO.out.form
      subst hkv
      have y0 : wr.cell? ⟨w.heap.size, 0, none⟩ = some (.int .i64 t.d) := (KT.out.cell 0).trans (by simp)
      have y1 : wr.cell? ⟨w.heap.size, 1, none⟩ = some (.int .i64 t.i) := (KT.out.cell 1).trans (by simp)
      have klt := KT.out.lt
      have z0 : wr.cell? ⟨w.heap.size + 1, 0, none⟩ = some (.int .i64 p.op) := (KP.out.cell 0).trans (by simp)
      have klt2 := KP.out.lt
      have HRL := Lib.hid (repTo_len t i)
      go_wp2_with fail
      refine (spec_l3Kids p.op H4.out wr).mono ?_
      rintro e w' ⟨rfl, hw'⟩
      rw [hw', HKN.out]
      clear hw' w'
      by_cases hil : i < kn
      · have t1 : decide ((i : Int) < (kn : Int)) = true := by simp; omega
        have hB1 : Below wr.heap.size wr wr := Below.refl _ _
        have HF2 := Lib.hid (repTo_succ t i)
        go_wp2_with (at_builtin; refine Halt.mk ?_)
        refine Halt.of (wpList_push1 (P := Try.prog) rfl _ _ 94 rfl i0 _ 16 Try.underlying94 HI.out HZ0.out HZ1.out HZ2.out rfl (by decide) TyR_len' TyR_mono' (by rfl) HO.out t 37 [.int .i64 t.d, .int .i64 t.i] [] wr.heap.size (by rfl) rfl (by simp [Value.oneCell']) ⟨rfl, rfl⟩ (Under.nil _) (fun _ _ h => by cases h) (by have := HRL.out; unfold maxLen; omega) (by have := HRL.out; omega) hsz ?_)
        intro g cp w3 hown3 hgr3 hat3
        have hrow := HO.out.row
        have hba : Below wr.heap.size wr (wr.alloc (.cells #[.int .i64 t.d, .int .i64 t.i] 37)) := (Below.refl _ _).alloc (Nat.le_refl _) _
        have hB3 : Below (w.heap.size + 2) wr w3 := (hba.mono hsz).grown hgr3 (by simp; omega) (fun g hg => (hrow g (mem_rowOf.2 hg)).1)
        have HO3 := Lib.hid hown3
        have KT3 := Lib.hid (KT.out.same (hB3.block _ (by omega)))
        have KP3 := Lib.hid (KP.out.same (hB3.block _ (by omega)))
        have hB4 := hB.trans (hB3.mono (by omega))
        have hsz4 := Nat.le_trans hsz hB3.size
        clear hrow hba hB3 hown3 hgr3 hat3 y0 y1 z0 klt klt2
        go_wp2
        go_roundw
        case rel => exact ⟨i + 1, by omega, by go_num, by rw [HF2.out]; exact HO3.out, KT3, KP3, hB4, hsz4⟩
        case measure => (simp [intOf] <;> omega)
      · have t1 : decide ((i : Int) < (kn : Int)) = false := by simp; omega
        obtain rfl : i = kn := by omega
        have HFin : Hid (MadeArr TyR w (typesP xs t p) (.returned (.slice kA (repTo t i).length kcap)) wr) := by rw [HTY.out]; exact Own.gives HO.out hB (by omega) (fun b hb => by cases hb) (Free.nil _)
        go_wp2
        go_ret
        exact HFin.out
end Go.Proofs.Ytbffkgfhcmigaaa

namespace Go.Proofs.Ytbffkgfhcmigaaa
open Go.RowKit

def scanPB (xs : List Dt) (d : Nat) (t : Ty) (p : P) (c : Nat) : Bool := shapeB xs d t p && (decide (c + nodesP p ≤ 60) && linB xs d t p)
/-- a node's fields and the number of its kids are right -/
def nodeB (xs : List Dt) (t : Ty) (p : P) : Bool := ownB xs t p && p.ks.length == (typesP xs t p).length
def kidSum (p : P) (i : Nat) : Nat := (p.ks.take i).foldl (fun n k => n + nodesP k) 0
theorem foldl_nodes (l : List P) (n : Nat) : l.foldl (fun n k => n + nodesP k) n = n + (l.length + P.subs l) := by
  induction l generalizing n with
  | nil => simp [P.subs]
  | cons k l ih => rw [List.foldl_cons, ih]; simp only [P.subs, List.length_cons, nodesP]; omega
theorem kidSum_succ (p : P) (i : Nat) (h : i < p.ks.length) : kidSum p (i + 1) = kidSum p i + nodesP p.ks[i] := by
  unfold kidSum
  rw [take_snoc' p.ks i h, List.foldl_append]; rfl
theorem kidSum_all (p : P) {i : Nat} (h : p.ks.length ≤ i) : nodesP p = 1 + kidSum p i := by
  unfold kidSum
  rw [List.take_of_length_le h, foldl_nodes]
  obtain ⟨op, ct, n, m, va, ks⟩ := p
  unfold nodesP
  rw [P.size, P.sizes_eq]
  simp only; omega
theorem kidSum_le (p : P) (i : Nat) : 1 + kidSum p i ≤ nodesP p := by
  rw [kidSum_all p (Nat.le_refl _)]
  unfold kidSum
  rw [foldl_nodes, foldl_nodes]
  have h1 := P.subs_take_le p.ks i
  have h2 : (p.ks.take i).length ≤ p.ks.length := by rw [List.length_take]; omega
  rw [List.take_of_length_le (Nat.le_refl _)]
  omega
section
variable {xs : List Dt} {d c i : Nat} {t : Ty} {p : P}
theorem scanPB_node (h : nodeB xs t p = false) : scanPB xs (d + 1) t p c = false := by
  have e : shapeB xs (d + 1) t p = (nodeB xs t p && ((typesP xs t p).zip p.ks).all fun x => shapeB xs d x.1 x.2) := by
    unfold nodeB
    rw [Bool.and_assoc]; rfl
  unfold scanPB
  rw [e, h]; rfl
theorem scanPB_many (h : 60 < c + 1) : scanPB xs d t p c = false := by
  have h1 : ¬ c + nodesP p ≤ 60 := by unfold nodesP; omega
  unfold scanPB
  rw [decide_eq_false h1, Bool.false_and, Bool.and_false]
theorem scanPB_deep : scanPB xs 0 t p c = false := rfl
/-- what holds before kid i: the kids before it are right, their nodes fit -/
structure KidsOk (xs : List Dt) (d : Nat) (t : Ty) (p : P) (c i : Nat) : Prop where
  node : nodeB xs t p = true
  le : i ≤ p.ks.length
  fit : c + 1 + kidSum p i ≤ 60
  all : ∀ j (h : j < p.ks.length) (h' : j < (typesP xs t p).length), j < i → shapeB xs d (typesP xs t p)[j] p.ks[j] = true ∧ linB xs d (typesP xs t p)[j] p.ks[j] = true
theorem KidsOk.len (h : KidsOk xs d t p c i) : p.ks.length = (typesP xs t p).length := by
  have := h.node
  unfold nodeB at this
  rw [Bool.and_eq_true, beq_iff_eq] at this
  exact this.2
theorem KidsOk.zero (h : nodeB xs t p = true) (hc : c + 1 ≤ 60) : KidsOk xs d t p c 0 := ⟨h, Nat.zero_le _, by unfold kidSum; simpa using hc, fun j _ _ hj => by omega⟩
theorem zip_at (hi : i < p.ks.length) (hi' : i < (typesP xs t p).length) : ((typesP xs t p)[i], p.ks[i]) ∈ (typesP xs t p).zip p.ks := by
  rw [List.mem_iff_getElem]
  exact ⟨i, by rw [List.length_zip]; omega, by rw [List.getElem_zip]⟩
theorem KidsOk.next (h : KidsOk xs d t p c i) (hi : i < p.ks.length) (hi' : i < (typesP xs t p).length) (hs : scanPB xs d (typesP xs t p)[i] p.ks[i] (c + 1 + kidSum p i) = true) : KidsOk xs d t p c (i + 1) := by
  unfold scanPB at hs
  rw [Bool.and_eq_true, Bool.and_eq_true, decide_eq_true_eq] at hs
  refine ⟨h.node, hi, by rw [kidSum_succ p i hi]; omega, fun j hj hj' hji => ?_⟩
  rcases Nat.lt_or_ge j i with h1 | h1
  · exact h.all j hj hj' h1
  · obtain rfl : j = i := by omega
    exact ⟨hs.1, hs.2.2⟩
theorem KidsOk.fail (h : KidsOk xs d t p c i) (hi : i < p.ks.length) (hi' : i < (typesP xs t p).length) (hs : scanPB xs d (typesP xs t p)[i] p.ks[i] (c + 1 + kidSum p i) = false) : scanPB xs (d + 1) t p c = false := by
  rw [Bool.eq_false_iff]
  intro hk
  unfold scanPB at hk
  rw [Bool.and_eq_true, Bool.and_eq_true, decide_eq_true_eq] at hk
  obtain ⟨h1, h2, h3⟩ := hk
  simp only [shapeB, linB, Bool.and_eq_true] at h1 h3
  have m := zip_at (xs := xs) (t := t) hi hi'
  have s1 := List.all_eq_true.1 h1.2.2 _ m
  have s2 := List.all_eq_true.1 h3.1 _ m
  have s3 : c + 1 + kidSum p i + nodesP p.ks[i] ≤ 60 := by
    have := kidSum_le p (i + 1)
    rw [kidSum_succ p i hi] at this
    omega
  unfold scanPB at hs
  rw [s1, s2, decide_eq_true s3] at hs
  cases hs
theorem KidsOk.shape (h : KidsOk xs d t p c p.ks.length) : shapeB xs (d + 1) t p = true := by
  have hn := h.node
  have hl := h.len
  unfold nodeB at hn
  rw [Bool.and_eq_true] at hn
  unfold shapeB
  rw [hn.1, hn.2, Bool.true_and, Bool.true_and, List.all_eq_true]
  intro x hx
  obtain ⟨i, hi, rfl⟩ := List.mem_iff_getElem.1 hx
  rw [List.length_zip] at hi
  rw [List.getElem_zip]
  exact (h.all i (by omega) (by omega) (by omega)).1
theorem KidsOk.lins (h : KidsOk xs d t p c p.ks.length) : (((typesP xs t p).zip p.ks).all fun x => linB xs d x.1 x.2) = true := by
  rw [List.all_eq_true]
  intro x hx
  have hl := h.len
  obtain ⟨i, hi, rfl⟩ := List.mem_iff_getElem.1 hx
  rw [List.length_zip] at hi
  rw [List.getElem_zip]
  exact (h.all i (by omega) (by omega) (by omega)).2
/-- all kids are right: what is left is the test of the variables -/
theorem KidsOk.done (h : KidsOk xs d t p c p.ks.length) : scanPB xs (d + 1) t p c = (if p.op = 5 then (match p.ks with | [k0, k1] => alikeB (varsN xs d t k0) (varsN xs d t k1) | _ => true) else dupFree (varsN xs (d + 1) t p)) := by
  have hf : c + nodesP p ≤ 60 := by rw [kidSum_all p (Nat.le_refl _)]; have := h.fit; omega
  unfold scanPB
  rw [h.shape, decide_eq_true hf, Bool.true_and, Bool.true_and]
  show ((((typesP xs t p).zip p.ks).all fun x => linB xs d x.1 x.2) && _) = _
  rw [h.lins, Bool.true_and]
  rfl
end
end Go.Proofs.Ytbffkgfhcmigaaa

namespace Go.Proofs.Ytbffkgfhcmigaaa
open Go.RowKit

def onlyB (p : P) (c n v : Bool) (k : Int) : Bool := (c || p.ct == 0) && ((n || (p.n == 0 && p.m == 0)) && ((v || p.va == 0) && ((p.ks.length : Int) == k)))
set_option maxRecDepth 100000 in
set_option maxHeartbeats 1600000 in
theorem impl_only (p : P) (A4 : Option Addr) (cap4 : Nat) (c n v : Bool) (k : Int) (w : World) :
    Calls Try.prog 196 #[.agg #[.int .i64 p.op, .int .i64 p.ct, .int .i64 p.n, .int .i64 p.m, .int .i64 p.va, .slice A4 p.ks.length cap4], .bool c, .bool n, .bool v, .int .i64 k] w fun e w' => e = .returned (.bool (onlyB p c n v k)) ∧ Below w.heap.size w w' := by
  have HB : Hid (Below w.heap.size w (w.alloc (.cells #[.int .i64 p.op, .int .i64 p.ct, .int .i64 p.n, .int .i64 p.m, .int .i64 p.va, .slice A4 p.ks.length cap4] 32))) := (Below.refl _ _).alloc (Nat.le_refl _) _
  cases c with
  | false =>
    cases n with
    | false =>
      cases v with
      | false =>
        cases q1 : (p.ct == 0) with
        | false =>
          have hf : Hid (onlyB p false false false k = false) := by unfold Hid onlyB; rw [q1]; rfl
          go_enter Try.func196, Try.ntmps196
          go_wp2
          go_ret
          exact ⟨ret_bool hf.out.symm, HB.out⟩
        | true =>
          cases q2 : (p.n == 0) with
          | false =>
            have hf : Hid (onlyB p false false false k = false) := by unfold Hid onlyB; rw [q1, q2]; rfl
            go_enter Try.func196, Try.ntmps196
            go_wp2
            go_ret
            exact ⟨ret_bool hf.out.symm, HB.out⟩
          | true =>
            cases q3 : (p.m == 0) with
            | false =>
              have hf : Hid (onlyB p false false false k = false) := by unfold Hid onlyB; rw [q1, q2, q3]; rfl
              go_enter Try.func196, Try.ntmps196
              go_wp2
              go_ret
              exact ⟨ret_bool hf.out.symm, HB.out⟩
            | true =>
              cases q4 : (p.va == 0) with
              | false =>
                have hf : Hid (onlyB p false false false k = false) := by unfold Hid onlyB; rw [q1, q2, q3, q4]; rfl
                go_enter Try.func196, Try.ntmps196
                go_wp2
                go_ret
                exact ⟨ret_bool hf.out.symm, HB.out⟩
              | true =>
                have hf : Hid (onlyB p false false false k = ((p.ks.length : Int) == k)) := by unfold Hid onlyB; rw [q1, q2, q3, q4]; rfl
                go_enter Try.func196, Try.ntmps196
                go_wp2
                go_ret
                exact ⟨ret_bool hf.out.symm, HB.out⟩
      | true =>
        cases q1 : (p.ct == 0) with
        | false =>
          have hf : Hid (onlyB p false false true k = false) := by unfold Hid onlyB; rw [q1]; rfl
          go_enter Try.func196, Try.ntmps196
          go_wp2
          go_ret
          exact ⟨ret_bool hf.out.symm, HB.out⟩
        | true =>
          cases q2 : (p.n == 0) with
          | false =>
            have hf : Hid (onlyB p false false true k = false) := by unfold Hid onlyB; rw [q1, q2]; rfl
            go_enter Try.func196, Try.ntmps196
            go_wp2
            go_ret
            exact ⟨ret_bool hf.out.symm, HB.out⟩
          | true =>
            cases q3 : (p.m == 0) with
            | false =>
              have hf : Hid (onlyB p false false true k = false) := by unfold Hid onlyB; rw [q1, q2, q3]; rfl
              go_enter Try.func196, Try.ntmps196
              go_wp2
              go_ret
              exact ⟨ret_bool hf.out.symm, HB.out⟩
            | true =>
              have hf : Hid (onlyB p false false true k = ((p.ks.length : Int) == k)) := by unfold Hid onlyB; rw [q1, q2, q3]; rfl
              go_enter Try.func196, Try.ntmps196
              go_wp2
              go_ret
              exact ⟨ret_bool hf.out.symm, HB.out⟩
    | true =>
      cases v with
      | false =>
        cases q1 : (p.ct == 0) with
        | false =>
          have hf : Hid (onlyB p false true false k = false) := by unfold Hid onlyB; rw [q1]; rfl
          go_enter Try.func196, Try.ntmps196
          go_wp2
          go_ret
          exact ⟨ret_bool hf.out.symm, HB.out⟩
        | true =>
          cases q4 : (p.va == 0) with
          | false =>
            have hf : Hid (onlyB p false true false k = false) := by unfold Hid onlyB; rw [q1, q4]; rfl
            go_enter Try.func196, Try.ntmps196
            go_wp2
            go_ret
            exact ⟨ret_bool hf.out.symm, HB.out⟩
          | true =>
            have hf : Hid (onlyB p false true false k = ((p.ks.length : Int) == k)) := by unfold Hid onlyB; rw [q1, q4]; rfl
            go_enter Try.func196, Try.ntmps196
            go_wp2
            go_ret
            exact ⟨ret_bool hf.out.symm, HB.out⟩
      | true =>
        cases q1 : (p.ct == 0) with
        | false =>
          have hf : Hid (onlyB p false true true k = false) := by unfold Hid onlyB; rw [q1]; rfl
          go_enter Try.func196, Try.ntmps196
          go_wp2
          go_ret
          exact ⟨ret_bool hf.out.symm, HB.out⟩
        | true =>
          have hf : Hid (onlyB p false true true k = ((p.ks.length : Int) == k)) := by unfold Hid onlyB; rw [q1]; rfl
          go_enter Try.func196, Try.ntmps196
          go_wp2
          go_ret
          exact ⟨ret_bool hf.out.symm, HB.out⟩
  | true =>
    cases n with
    | false =>
      cases v with
      | false =>
        cases q2 : (p.n == 0) with
        | false =>
          have hf : Hid (onlyB p true false false k = false) := by unfold Hid onlyB; rw [q2]; rfl
          go_enter Try.func196, Try.ntmps196
          go_wp2
          go_ret
          exact ⟨ret_bool hf.out.symm, HB.out⟩
        | true =>
          cases q3 : (p.m == 0) with
          | false =>
            have hf : Hid (onlyB p true false false k = false) := by unfold Hid onlyB; rw [q2, q3]; rfl
            go_enter Try.func196, Try.ntmps196
            go_wp2
            go_ret
            exact ⟨ret_bool hf.out.symm, HB.out⟩
          | true =>
            cases q4 : (p.va == 0) with
            | false =>
              have hf : Hid (onlyB p true false false k = false) := by unfold Hid onlyB; rw [q2, q3, q4]; rfl
              go_enter Try.func196, Try.ntmps196
              go_wp2
              go_ret
              exact ⟨ret_bool hf.out.symm, HB.out⟩
            | true =>
              have hf : Hid (onlyB p true false false k = ((p.ks.length : Int) == k)) := by unfold Hid onlyB; rw [q2, q3, q4]; rfl
              go_enter Try.func196, Try.ntmps196
              go_wp2
              go_ret
              exact ⟨ret_bool hf.out.symm, HB.out⟩
      | true =>
        cases q2 : (p.n == 0) with
        | false =>
          have hf : Hid (onlyB p true false true k = false) := by unfold Hid onlyB; rw [q2]; rfl
          go_enter Try.func196, Try.ntmps196
          go_wp2
          go_ret
          exact ⟨ret_bool hf.out.symm, HB.out⟩
        | true =>
          cases q3 : (p.m == 0) with
          | false =>
            have hf : Hid (onlyB p true false true k = false) := by unfold Hid onlyB; rw [q2, q3]; rfl
            go_enter Try.func196, Try.ntmps196
            go_wp2
            go_ret
            exact ⟨ret_bool hf.out.symm, HB.out⟩
          | true =>
            have hf : Hid (onlyB p true false true k = ((p.ks.length : Int) == k)) := by unfold Hid onlyB; rw [q2, q3]; rfl
            go_enter Try.func196, Try.ntmps196
            go_wp2
            go_ret
            exact ⟨ret_bool hf.out.symm, HB.out⟩
    | true =>
      cases v with
      | false =>
        cases q4 : (p.va == 0) with
        | false =>
          have hf : Hid (onlyB p true true false k = false) := by unfold Hid onlyB; rw [q4]; rfl
          go_enter Try.func196, Try.ntmps196
          go_wp2
          go_ret
          exact ⟨ret_bool hf.out.symm, HB.out⟩
        | true =>
          have hf : Hid (onlyB p true true false k = ((p.ks.length : Int) == k)) := by unfold Hid onlyB; rw [q4]; rfl
          go_enter Try.func196, Try.ntmps196
          go_wp2
          go_ret
          exact ⟨ret_bool hf.out.symm, HB.out⟩
      | true =>
        have hf : Hid (onlyB p true true true k = ((p.ks.length : Int) == k)) := by unfold Hid onlyB; rfl
        go_enter Try.func196, Try.ntmps196
        go_wp2
        go_ret
        exact ⟨ret_bool hf.out.symm, HB.out⟩

set_option maxRecDepth 100000 in
set_option maxHeartbeats 1600000 in
theorem impl_isVar (n : Int) (w : World) : Calls Try.prog 197 #[.int .i64 n] w fun e w' => e = .returned (.bool (withinB n 0 5)) ∧ w' = w := by
  go_enter Try.func197, Try.ntmps197
  go_wp2_with fail
  refine (impl_within n 0 5 w).mono ?_
  rintro e w' ⟨rfl, hw'⟩
  generalize hq : withinB n 0 5 = q
  have HQ := Lib.hid hq
  clear hq
  go_wp2
  go_ret
  exact ⟨ret_bool HQ.out.symm, hw'.symm⟩

theorem arr_tys1 {w : World} {g : Nat} {T : TypeId} {t : Ty} (h : Blk w g T #[.int .i64 t.d, .int .i64 t.i]) : Arr w (TyR w) [t] (.slice (some ⟨g, 0, none⟩) 1 1) [g] :=
  ⟨_, 1, rfl, Nat.le_refl _, by simp [maxLen], .inr ⟨g, 0, [.int .i64 t.d, .int .i64 t.i], [], rfl, fun j u hj => by rw [Nat.zero_add, h.cell]; simpa using hj, ⟨[.int .i64 t.d, .int .i64 t.i], [], [], [], rfl, rfl, ⟨rfl, rfl⟩, rfl, rfl⟩, rfl⟩⟩
theorem arr_tys2 {w : World} {g : Nat} {T : TypeId} {t : Ty} (h : Blk w g T #[.int .i64 t.d, .int .i64 t.i, .int .i64 t.d, .int .i64 t.i]) : Arr w (TyR w) [t, t] (.slice (some ⟨g, 0, none⟩) 2 2) [g] :=
  ⟨_, 2, rfl, Nat.le_refl _, by simp [maxLen], .inr ⟨g, 0, [.int .i64 t.d, .int .i64 t.i, .int .i64 t.d, .int .i64 t.i], [], rfl, fun j u hj => by rw [Nat.zero_add, h.cell]; simpa using hj, ⟨[.int .i64 t.d, .int .i64 t.i], [.int .i64 t.d, .int .i64 t.i], [], [], rfl, rfl, ⟨rfl, rfl⟩, ⟨[.int .i64 t.d, .int .i64 t.i], [], [], [], rfl, rfl, ⟨rfl, rfl⟩, rfl, rfl⟩⟩, rfl⟩⟩
theorem node_len {xs : List Dt} {t : Ty} {p : P} (h : ¬ p.op = 4) : (typesP xs t p).length = kidsN p.op := by rw [typesP_no h, repTo_len]
theorem nodeB_1 {xs : List Dt} {t : Ty} {p : P} (h : p.op = 1) : nodeB xs t p = (onlyB p false false false 0) := by
  unfold nodeB ownB namedB kindB onlyB
  rw [node_len (by omega), h]
  unfold kidsN
  rw [Bool.eq_iff_iff]
  simp [withinB_iff] <;> first | omega | (constructor <;> intro h <;> (try simp_all) <;> (try omega))
theorem nodeB_2 {xs : List Dt} {t : Ty} {p : P} (h : p.op = 2) : nodeB xs t p = (onlyB p false false true 0 && withinB p.va 0 5) := by
  unfold nodeB ownB namedB kindB onlyB
  rw [node_len (by omega), h]
  unfold kidsN
  rw [Bool.eq_iff_iff]
  simp [withinB_iff] <;> first | omega | (constructor <;> intro h <;> (try simp_all) <;> (try omega))
theorem nodeB_3 {xs : List Dt} {t : Ty} {p : P} (h : p.op = 3) : nodeB xs t p = (t.d == -1 && (onlyB p false true false 0 && (decide (0 ≤ p.n) && (decide (p.n ≤ p.m) && decide (p.m ≤ 9))))) := by
  unfold nodeB ownB namedB kindB onlyB
  rw [node_len (by omega), h]
  unfold kidsN
  rw [Bool.eq_iff_iff]
  simp [withinB_iff] <;> first | omega | (constructor <;> intro h <;> (try simp_all) <;> (try omega))
theorem nodeB_5 {xs : List Dt} {t : Ty} {p : P} (h : p.op = 5) : nodeB xs t p = (onlyB p false false false 2) := by
  unfold nodeB ownB namedB kindB onlyB
  rw [node_len (by omega), h]
  unfold kidsN
  rw [Bool.eq_iff_iff]
  simp [withinB_iff] <;> first | omega | (constructor <;> intro h <;> (try simp_all) <;> (try omega))
theorem nodeB_6 {xs : List Dt} {t : Ty} {p : P} (h : p.op = 6) : nodeB xs t p = (onlyB p false false true 1 && withinB p.va 0 5) := by
  unfold nodeB ownB namedB kindB onlyB
  rw [node_len (by omega), h]
  unfold kidsN
  rw [Bool.eq_iff_iff]
  simp [withinB_iff] <;> first | omega | (constructor <;> intro h <;> (try simp_all) <;> (try omega))
theorem nodeB_4 {xs : List Dt} {t : Ty} {p : P} (h : p.op = 4) : nodeB xs t p = (hasB (ctorsL xs t) p.ct && onlyB p true false false ((argsOf xs t p.ct).length : Nat)) := by
  unfold nodeB ownB namedB kindB onlyB typesP
  rw [h]
  rw [Bool.eq_iff_iff]
  simp <;> first | omega | (constructor <;> intro h <;> (try simp_all) <;> (try omega))
theorem nodeB_no {xs : List Dt} {t : Ty} {p : P} (h1 : ¬ p.op = 1) (h2 : ¬ p.op = 2) (h3 : ¬ p.op = 3) (h4 : ¬ p.op = 4) (h5 : ¬ p.op = 5) (h6 : ¬ p.op = 6) : nodeB xs t p = false := by
  unfold nodeB ownB kindB
  simp [h1, h2, h3, h4, h5, h6]
end Go.Proofs.Ytbffkgfhcmigaaa

namespace Go.Proofs.Ytbffkgfhcmigaaa
open Go

section
variable {P : Program} {ops : Array Oper} {Q : Exit → Act → World → Prop} {md : Region.Mode} {S T : World → Prop} {d : Nat}

/-- behind every operation S holds, and T as long as operation d has not come up -/
def wpAnyB (P : Program) (md : Region.Mode) (ops : Array Oper) (Q : Exit → Act → World → Prop) (S T : World → Prop) (d : Nat) : Nat → Array Bool → Act → World → Prop
  | 0, listed, a, w => Region.ready md ops listed = [] ∧ Q .normal a w
  | fuel + 1, listed, a, w =>
    (Region.ready md ops listed = [] → Q .normal a w) ∧
    ∀ i ∈ Region.ready md ops listed, wpOp P ops Q i (fun a' w' => (S w' ∧ ((listed.setIfInBounds i true).getD d false = false → T w')) ∧ wpAnyB P md ops Q S T d fuel (listed.setIfInBounds i true) a' w') a w
theorem wpAny_of_B : ∀ (fuel : Nat) (listed : Array Bool) (a : Act) (w : World), wpAnyB P md ops Q S T d fuel listed a w → wpAny P md ops Q fuel listed a w
  | 0, _, _, _, h => h
  | fuel + 1, _, _, _, h => ⟨h.1, fun i hi => wpOp_mono (fun _ _ h' => wpAny_of_B fuel _ _ _ h'.2) (h.2 i hi)⟩
/-- an operation that yields under S alone -/
theorem wpAnyB_first {i : Nat} {oi : Oper} {v : Value} (hi : ops[i]? = some oi) (hid : i ≠ d) (hsel : ∀ (j : Nat) (o : Oper) cs b, ops[j]? = some o → o.op ≠ .select cs b)
    (hQ : ∀ c a w, Q (.panic c) (a.put oi.dst v) w → Q (.panic c) a w) :
    ∀ (fuel : Nat) (listed : Array Bool) (a : Act) (w : World),
      (∀ j oj, ops[j]? = some oj → j ≠ i → listed.getD j true = false → (∀ e ∈ oj.after, Region.binds md e = true → e.on ≠ i) → oi.apart ops oj = true) →
      i ∈ Region.ready md ops listed → YieldsIf P ops S oi v a → S w → (listed.getD d false = false → T w) →
      wpAnyB P md ops Q S T d fuel (listed.setIfInBounds i true) (a.put oi.dst v) w → wpAnyB P md ops Q S T d (fuel + 1) listed a w := by
  intro fuel
  induction fuel with
  | zero =>
    intro listed a w _ hr hy hS hT H
    refine ⟨fun h => (by rw [h] at hr; cases hr), fun j hj => ?_⟩
    by_cases hji : j = i
    · subst hji; exact hy.wpOp hi hS ⟨⟨hS, fun h => hT (by rwa [getD_set_ne false hid] at h)⟩, H⟩
    · have := ready_mono hj hji
      rw [H.1] at this
      cases this
  | succ fuel ih =>
    intro listed a w hfree hr hy hS hT H
    refine ⟨fun h => (by rw [h] at hr; cases hr), fun j hj => ?_⟩
    by_cases hji : j = i
    · subst hji; exact hy.wpOp hi hS ⟨⟨hS, fun h => hT (by rwa [getD_set_ne false hid] at h)⟩, H⟩
    · have h1 := H.2 j (ready_mono hj hji)
      obtain ⟨hjun, oj, hoj, hall⟩ := mem_ready.1 hj
      have hnot : ∀ e ∈ oj.after, Region.binds md e = true → e.on ≠ i := fun e he hb heq => by
        have h1 := hall e he hb
        have h0 := (mem_ready.1 hr).1
        rw [heq] at h1
        rcases Nat.lt_or_ge i listed.size with h' | h'
        · simp [h'] at h0 h1; rw [h0] at h1; cases h1
        · simp [Array.getElem?_eq_none h'] at h1
      have h2 := wpOp_putIf hoj (hfree j oj hoj hji hjun hnot) (fun cs b => hsel i oi cs b hi) (fun cs b => hsel j oj cs b hoj) hQ hy h1
      have hfree' : ∀ k ok, ops[k]? = some ok → k ≠ i → (listed.setIfInBounds j true).getD k true = false →
          (∀ e ∈ ok.after, Region.binds md e = true → e.on ≠ i) → oi.apart ops ok = true := fun k ok hk hki hun hno => by
        refine hfree k ok hk hki ?_ hno
        by_cases hjk : j = k
        · subst hjk; exact hjun
        · rw [getD_set_ne true hjk] at hun; exact hun
      have hbit : ((listed.setIfInBounds i true).setIfInBounds j true).getD d false = (listed.setIfInBounds j true).getD d false := by
        rw [Array.setIfInBounds_comm _ _ (Ne.symm hji), getD_set_ne false hid]
      refine wpOp_mono (fun a' w' h3 => ⟨⟨h3.2.1.1, fun h => h3.2.1.2 (hbit.trans h)⟩, ih (listed.setIfInBounds j true) a' w' hfree' (ready_mono hr (Ne.symm hji)) h3.1 h3.2.1.1 (fun h => h3.2.1.2 (hbit.trans h)) ?_⟩) h2
      rw [Array.setIfInBounds_comm _ _ hji]
      exact h3.2.2
/-- an operation that yields under S and T, for which operation d waits -/
theorem wpAnyB_firstT {i : Nat} {oi od : Oper} {v : Value} (hi : ops[i]? = some oi) (hid : i ≠ d) (hd : ops[d]? = some od) (hdi : ∃ e ∈ od.after, Region.binds md e = true ∧ e.on = i) (hsel : ∀ (j : Nat) (o : Oper) cs b, ops[j]? = some o → o.op ≠ .select cs b)
    (hQ : ∀ c a w, Q (.panic c) (a.put oi.dst v) w → Q (.panic c) a w) :
    ∀ (fuel : Nat) (listed : Array Bool) (a : Act) (w : World),
      (∀ j oj, ops[j]? = some oj → j ≠ i → listed.getD j true = false → (∀ e ∈ oj.after, Region.binds md e = true → e.on ≠ i) → oi.apart ops oj = true) →
      i ∈ Region.ready md ops listed → YieldsIf P ops (fun w => S w ∧ T w) oi v a → listed.getD d false = false → S w → T w →
      wpAnyB P md ops Q S T d fuel (listed.setIfInBounds i true) (a.put oi.dst v) w → wpAnyB P md ops Q S T d (fuel + 1) listed a w := by
  intro fuel
  induction fuel with
  | zero =>
    intro listed a w _ hr hy hdf hS hT H
    refine ⟨fun h => (by rw [h] at hr; cases hr), fun j hj => ?_⟩
    by_cases hji : j = i
    · subst hji; exact hy.wpOp hi ⟨hS, hT⟩ ⟨⟨hS, fun _ => hT⟩, H⟩
    · have := ready_mono hj hji
      rw [H.1] at this
      cases this
  | succ fuel ih =>
    intro listed a w hfree hr hy hdf hS hT H
    refine ⟨fun h => (by rw [h] at hr; cases hr), fun j hj => ?_⟩
    by_cases hji : j = i
    · subst hji; exact hy.wpOp hi ⟨hS, hT⟩ ⟨⟨hS, fun _ => hT⟩, H⟩
    · have h1 := H.2 j (ready_mono hj hji)
      obtain ⟨hjun, oj, hoj, hall⟩ := mem_ready.1 hj
      have hnot : ∀ e ∈ oj.after, Region.binds md e = true → e.on ≠ i := fun e he hb heq => by
        have h1 := hall e he hb
        have h0 := (mem_ready.1 hr).1
        rw [heq] at h1
        rcases Nat.lt_or_ge i listed.size with h' | h'
        · simp [h'] at h0 h1; rw [h0] at h1; cases h1
        · simp [Array.getElem?_eq_none h'] at h1
      have hjd : j ≠ d := fun e => by
        subst e
        rw [hoj] at hd
        cases hd
        obtain ⟨e, he, hb, ho⟩ := hdi
        exact hnot e he hb ho
      have h2 := wpOp_putIf hoj (hfree j oj hoj hji hjun hnot) (fun cs b => hsel i oi cs b hi) (fun cs b => hsel j oj cs b hoj) hQ hy h1
      have hfree' : ∀ k ok, ops[k]? = some ok → k ≠ i → (listed.setIfInBounds j true).getD k true = false →
          (∀ e ∈ ok.after, Region.binds md e = true → e.on ≠ i) → oi.apart ops ok = true := fun k ok hk hki hun hno => by
        refine hfree k ok hk hki ?_ hno
        by_cases hjk : j = k
        · subst hjk; exact hjun
        · rw [getD_set_ne true hjk] at hun; exact hun
      have hdf2 : (listed.setIfInBounds j true).getD d false = false := by rw [getD_set_ne false hjd]; exact hdf
      have hdf3 : ((listed.setIfInBounds i true).setIfInBounds j true).getD d false = false := by rw [getD_set_ne false hjd, getD_set_ne false hid]; exact hdf
      refine wpOp_mono (fun a' w' h3 => ⟨⟨h3.2.1.1, fun _ => h3.2.1.2 hdf3⟩, ih (listed.setIfInBounds j true) a' w' hfree' (ready_mono hr (Ne.symm hji)) h3.1 hdf2 h3.2.1.1 (h3.2.1.2 hdf3) ?_⟩) h2
      rw [Array.setIfInBounds_comm _ _ hji]
      exact h3.2.2
theorem wpAnyB_take {i : Nat} {oi : Oper} {v : Value} {fuel : Nat} {listed : Array Bool} {a : Act} {w : World} (hi : ops[i]? = some oi) (hid : i ≠ d)
    (hs : Region.noSelect ops = true) (hf : Region.free md ops listed i = true) (hr : (Region.ready md ops listed).contains i = true)
    (hQ : ∀ c a w, Q (.panic c) (a.put oi.dst v) w → Q (.panic c) a w) (hy : YieldsIf P ops S oi v a) (hS : S w) (hT : listed.getD d false = false → T w)
    (h : wpAnyB P md ops Q S T d fuel (listed.setIfInBounds i true) (a.put oi.dst v) w) : wpAnyB P md ops Q S T d (fuel + 1) listed a w :=
  wpAnyB_first hi hid (Region.noSelect_spec hs) hQ fuel listed a w (Region.free_spec hi hf) (by simpa using hr) hy hS hT h
theorem wpAnyB_takeT {i : Nat} {oi od : Oper} {v : Value} {fuel : Nat} {listed : Array Bool} {a : Act} {w : World} (hi : ops[i]? = some oi) (hid : i ≠ d) (hd : ops[d]? = some od) (hdi : ∃ e ∈ od.after, Region.binds md e = true ∧ e.on = i)
    (hs : Region.noSelect ops = true) (hf : Region.free md ops listed i = true) (hr : (Region.ready md ops listed).contains i = true)
    (hQ : ∀ c a w, Q (.panic c) (a.put oi.dst v) w → Q (.panic c) a w) (hy : YieldsIf P ops (fun w => S w ∧ T w) oi v a) (hdf : listed.getD d false = false) (hS : S w) (hT : T w)
    (h : wpAnyB P md ops Q S T d fuel (listed.setIfInBounds i true) (a.put oi.dst v) w) : wpAnyB P md ops Q S T d (fuel + 1) listed a w :=
  wpAnyB_firstT hi hid hd hdi (Region.noSelect_spec hs) hQ fuel listed a w (Region.free_spec hi hf) (by simpa using hr) hy hdf hS hT h
theorem wpAnyB_takeB {i : Nat} {oi od : Oper} {v : Value} {fuel : Nat} {listed : Array Bool} {a : Act} {w : World} (hi : ops[i]? = some oi) (hid : i ≠ d) (hd : ops[d]? = some od) (hdi : (od.after.any fun e => Region.binds md e && e.on == i) = true)
    (hs : Region.noSelect ops = true) (hf : Region.free md ops listed i = true) (hr : (Region.ready md ops listed).contains i = true)
    (hQ : ∀ c a w, Q (.panic c) (a.put oi.dst v) w → Q (.panic c) a w) (hy : YieldsIf P ops (fun w => S w ∧ T w) oi v a) (hdf : listed.getD d false = false) (hS : S w) (hT : T w)
    (h : wpAnyB P md ops Q S T d fuel (listed.setIfInBounds i true) (a.put oi.dst v) w) : wpAnyB P md ops Q S T d (fuel + 1) listed a w :=
  wpAnyB_takeT hi hid hd (by
    obtain ⟨k, hk, hb⟩ := Array.any_eq_true.1 hdi
    rw [Bool.and_eq_true, beq_iff_eq] at hb
    exact ⟨_, Array.getElem_mem hk, hb.1, hb.2⟩) hs hf hr hQ hy hdf hS hT h
theorem wpAnyB_all {rs : List Nat} {fuel : Nat} {listed : Array Bool} {a : Act} {w : World} (hr : Region.ready md ops listed = rs) (hne : rs ≠ [])
    (h : ∀ i ∈ rs, wpOp P ops Q i (fun a' w' => (S w' ∧ ((listed.setIfInBounds i true).getD d false = false → T w')) ∧ wpAnyB P md ops Q S T d fuel (listed.setIfInBounds i true) a' w') a w) : wpAnyB P md ops Q S T d (fuel + 1) listed a w :=
  ⟨fun h0 => absurd (hr ▸ h0) hne, hr ▸ h⟩
theorem wpAnyB_done {listed : Array Bool} {a : Act} {w : World} (hr : Region.ready md ops listed = []) (h : Q .normal a w) : ∀ fuel, wpAnyB P md ops Q S T d fuel listed a w
  | 0 => ⟨hr, h⟩
  | _ + 1 => ⟨fun _ => h, by rw [hr]; simp⟩
theorem wp_region_B {id : Nat} {a : Act} {w : World} (hm : P.follows .mixedOrders = true)
    (h : wpAnyB P .any ops Q S T d ops.size (Array.replicate ops.size false) a w.drew) : (Code.region id ops true).wp P Q a w :=
  wp_region_any hm (wpAny_of_B _ _ _ _ h)
/-- each of the operations rs comes up next; what must then be shown: S, T as long as d has not come up, and the rest -/
def AllReadyB (P : Program) (md : Region.Mode) (ops : Array Oper) (Q : Exit → Act → World → Prop) (S T : World → Prop) (d fuel : Nat) (listed : Array Bool) (a : Act) (w : World) (rs : List Nat) : Prop :=
  ∀ i ∈ rs, wpOp P ops Q i (fun a' w' => (S w' ∧ ((listed.setIfInBounds i true).getD d false = false → T w')) ∧ wpAnyB P md ops Q S T d fuel (listed.setIfInBounds i true) a' w') a w
theorem AllReadyB.nil {fuel : Nat} {listed : Array Bool} {a : Act} {w : World} : AllReadyB P md ops Q S T d fuel listed a w [] := fun _ h => by cases h
theorem AllReadyB.cons {fuel : Nat} {listed : Array Bool} {a : Act} {w : World} {i : Nat} {o : Oper} {rs : List Nat} (ho : ops[i]? = some o)
    (h : ∀ K' : Act → World → Prop, Shut (∀ a w, S w → ((listed.setIfInBounds i true).getD d false = false → T w) → wpAnyB P md ops Q S T d fuel (listed.setIfInBounds i true) a w → K' a w) → if Region.wanted o (yielded ops a.tmps) = true then Oper.wp P o a w K' Q else K' (a.put o.dst undef) w)
    (hs : AllReadyB P md ops Q S T d fuel listed a w rs) : AllReadyB P md ops Q S T d fuel listed a w (i :: rs) := fun j hj => by
  rcases List.mem_cons.1 hj with rfl | hj
  · exact wpOp_step ho (fun K' hK => h K' (fun a w h1 h2 h3 => hK a w ⟨⟨h1, h2⟩, h3⟩))
  · exact hs j hj
theorem wpAnyB_ready {rs : List Nat} {fuel : Nat} {listed : Array Bool} {a : Act} {w : World} (hr : Region.ready md ops listed = rs) (hne : rs ≠ [])
    (h : AllReadyB P md ops Q S T d fuel listed a w rs) : wpAnyB P md ops Q S T d (fuel + 1) listed a w := wpAnyB_all hr hne h
theorem wpAnyB_end {fuel : Nat} {listed : Array Bool} {a : Act} {w : World} (hr : (Region.ready md ops listed).isEmpty = true) (h : Q .normal a w) : wpAnyB P md ops Q S T d fuel listed a w :=
  wpAnyB_done (List.isEmpty_iff.1 hr) h fuel
end
end Go.Proofs.Ytbffkgfhcmigaaa

namespace Go.Proofs.Ytbffkgfhcmigaaa
open Go.RowKit

theorem shape_endA {w W2 w3 : World} {T : TypeId} {C : Array Value} (hB0 : Below w.heap.size w W2) (hws2 : W2.heap.size = w.heap.size + 1 + 1) (hb3 : Below (W2.drew.alloc (.cells C T)).heap.size (W2.drew.alloc (.cells C T)) w3) :
    Below w.heap.size w w3 ∧ Fresh w w3 [w.heap.size + 1 + 1] ∧ Blk w3 (w.heap.size + 1 + 1) T C := by
  have hd : W2.drew.heap.size = w.heap.size + 1 + 1 := hws2
  have hsz : (W2.drew.alloc (.cells C T)).heap.size = w.heap.size + 1 + 1 + 1 := by rw [World.size_alloc, hd]
  have h1 := Blk.new W2.drew T C
  rw [hd] at h1
  have h3 := hb3.size
  refine ⟨(hB0.drew.alloc (by omega) _).trans (hb3.mono (by omega)), fun b hb => ?_, h1.same (hb3.block _ (by omega))⟩
  rw [List.mem_singleton] at hb
  omega
theorem shape_endB {w W2 w3 : World} (hB0 : Below w.heap.size w W2) (hb3 : Below W2.drew.heap.size W2.drew w3) (o : Obj) :
    Below w.heap.size w (w3.alloc o) ∧ Fresh w (w3.alloc o) [w3.heap.size] := by
  have h3 : W2.heap.size ≤ w3.heap.size := hb3.size
  have h0 := hB0.size
  refine ⟨(hB0.drew.trans (hb3.mono hB0.size)).alloc (by omega) _, fun b hb => ?_⟩
  rw [List.mem_singleton] at hb
  rw [World.size_alloc]
  omega

def ShapePost (xs : List Dt) (t : Ty) (p : P) (w : World) (e : Ending) (w' : World) : Prop := ∃ v F, e = .returned (.tuple #[v, .bool (nodeB xs t p)]) ∧ Below w.heap.size w w' ∧ Fresh w w' F ∧ (nodeB xs t p = true → Arr w' (TyR w') (typesP xs t p) v F)
set_option maxRecDepth 100000 in
set_option maxHeartbeats 1600000 in
theorem shape_1 (xs : List Dt) (hw : WorldOK xs) (t : Ty) (ht : TyIn xs.length t) (p : P) (h1 : p.op = 1) (w : World) (x : Value) (F : List Nat) (cs : List Value) (G : List Nat) : Arr w (DtR w) xs x F → Under w.heap.size F → PR w p cs G → Under w.heap.size G →
    Calls Try.prog 182 #[x, .agg #[.int .i64 t.d, .int .i64 t.i], .agg cs.toArray] w (ShapePost xs t p w) := by
  intro hx hf hv hg
  obtain ⟨kv, rfl, ha⟩ := (PR_iff _ _ _).1 hv
  obtain ⟨A, cap, rfl, hc1, hc2⟩ := hx.form
  obtain ⟨A4, cap4, rfl, hc3, hc4⟩ := ha.form
  have HV := Lib.hid hv
  have HX := Lib.hid hx
  have HF := Lib.hid hf
  have HA := Lib.hid ha
  have HG := Lib.hid hg
  clear hx hf ha hg
  clear hv
  have HW := Lib.hid hw
  have HT := Lib.hid ht
  clear hw ht
  have o1 : (p.op == 1) = true := by simp [h1]
  have HNB := Lib.hid (nodeB_1 (xs := xs) (t := t) h1)
  have HTY := Lib.hid (show typesP xs t p = [] from by rw [typesP_no (by omega), h1]; rfl)
  clear h1
  go_enter Try.func182, Try.ntmps182
  go_wp2_with fail
  obtain ⟨W2, hW2⟩ : ∃ W2, W2 = ((w.alloc (.cells #[.int .i64 t.d, .int .i64 t.i] 37)).alloc (.cells #[.int .i64 p.op, .int .i64 p.ct, .int .i64 p.n, .int .i64 p.m, .int .i64 p.va, .slice A4 p.ks.length cap4] 32)) := ⟨_, rfl⟩
  have hB0 : Below w.heap.size w W2 := by rw [hW2]; exact ((Below.refl _ _).alloc (Nat.le_refl _) _).alloc (by simp) _
  have KT : Hid (Blk W2 w.heap.size 37 #[.int .i64 t.d, .int .i64 t.i]) := by rw [hW2]; exact (Blk.new w _ _).same (Below.heap_alloc _ _ _ (by simp))
  have KP : Hid (Blk W2 (w.heap.size + 1) 32 #[.int .i64 p.op, .int .i64 p.ct, .int .i64 p.n, .int .i64 p.m, .int .i64 p.va, .slice A4 p.ks.length cap4]) := by rw [hW2]; have h := Blk.new (w.alloc (.cells #[.int .i64 t.d, .int .i64 t.i] 37)) 32 #[.int .i64 p.op, .int .i64 p.ct, .int .i64 p.n, .int .i64 p.m, .int .i64 p.va, .slice A4 p.ks.length cap4]; rw [World.size_alloc] at h; exact h
  have hws : w.heap.size + 2 ≤ W2.heap.size := by rw [hW2]; simp
  have hws2 : W2.heap.size = w.heap.size + 1 + 1 := by rw [hW2]; simp
  rw [← hW2]
  clear hW2
  have y0 : W2.cell? ⟨w.heap.size, 0, none⟩ = some (.int .i64 t.d) := (KT.out.cell 0).trans (by simp)
  have y1 : W2.cell? ⟨w.heap.size, 1, none⟩ = some (.int .i64 t.i) := (KT.out.cell 1).trans (by simp)
  have klt := KT.out.lt
  have z0 : W2.cell? ⟨w.heap.size + 1, 0, none⟩ = some (.int .i64 p.op) := (KP.out.cell 0).trans (by simp)
  have z1 : W2.cell? ⟨w.heap.size + 1, 1, none⟩ = some (.int .i64 p.ct) := (KP.out.cell 1).trans (by simp)
  have z2 : W2.cell? ⟨w.heap.size + 1, 2, none⟩ = some (.int .i64 p.n) := (KP.out.cell 2).trans (by simp)
  have z3 : W2.cell? ⟨w.heap.size + 1, 3, none⟩ = some (.int .i64 p.m) := (KP.out.cell 3).trans (by simp)
  have z4 : W2.cell? ⟨w.heap.size + 1, 4, none⟩ = some (.int .i64 p.va) := (KP.out.cell 4).trans (by simp)
  have z5 : W2.cell? ⟨w.heap.size + 1, 5, none⟩ = some (.slice A4 p.ks.length cap4) := (KP.out.cell 5).trans (by simp)
  have klt2 := KP.out.lt
  refine (impl_only p A4 cap4 false false false 0 _).mono ?_
  rintro e w3 ⟨rfl, hb3⟩
  have hB3 := hB0.trans (hb3.mono hB0.size)
  generalize hbb : onlyB p false false false 0 = bb at *
  clear hbb
  have HFin : Hid (ShapePost xs t p w (.returned (.tuple #[.slice none 0 0, .bool bb])) w3) := ⟨_, [], by rw [HNB.out] <;> rfl, hB3, Fresh.nil _ _, fun _ => by rw [HTY.out]; exact Arr.nil⟩
  clear y0 y1 z0 z1 z2 z3 z4 z5 klt klt2
  clear hb3 KT KP hB0
  go_wp2
  go_ret2
  exact HFin.out
set_option maxRecDepth 100000 in
set_option maxHeartbeats 1600000 in
theorem shape_2 (xs : List Dt) (hw : WorldOK xs) (t : Ty) (ht : TyIn xs.length t) (p : P) (h2 : p.op = 2) (w : World) (x : Value) (F : List Nat) (cs : List Value) (G : List Nat) : Arr w (DtR w) xs x F → Under w.heap.size F → PR w p cs G → Under w.heap.size G →
    Calls Try.prog 182 #[x, .agg #[.int .i64 t.d, .int .i64 t.i], .agg cs.toArray] w (ShapePost xs t p w) := by
  intro hx hf hv hg
  obtain ⟨kv, rfl, ha⟩ := (PR_iff _ _ _).1 hv
  obtain ⟨A, cap, rfl, hc1, hc2⟩ := hx.form
  obtain ⟨A4, cap4, rfl, hc3, hc4⟩ := ha.form
  have HV := Lib.hid hv
  have HX := Lib.hid hx
  have HF := Lib.hid hf
  have HA := Lib.hid ha
  have HG := Lib.hid hg
  clear hx hf ha hg
  clear hv
  have HW := Lib.hid hw
  have HT := Lib.hid ht
  clear hw ht
  have o1 : (p.op == 1) = false := by simp [h2]
  have o2 : (p.op == 2) = true := by simp [h2]
  have HNB := Lib.hid (nodeB_2 (xs := xs) (t := t) h2)
  have HTY := Lib.hid (show typesP xs t p = [] from by rw [typesP_no (by omega), h2]; rfl)
  clear h2
  go_enter Try.func182, Try.ntmps182
  go_wp2_with fail
  obtain ⟨W2, hW2⟩ : ∃ W2, W2 = ((w.alloc (.cells #[.int .i64 t.d, .int .i64 t.i] 37)).alloc (.cells #[.int .i64 p.op, .int .i64 p.ct, .int .i64 p.n, .int .i64 p.m, .int .i64 p.va, .slice A4 p.ks.length cap4] 32)) := ⟨_, rfl⟩
  have hB0 : Below w.heap.size w W2 := by rw [hW2]; exact ((Below.refl _ _).alloc (Nat.le_refl _) _).alloc (by simp) _
  have KT : Hid (Blk W2 w.heap.size 37 #[.int .i64 t.d, .int .i64 t.i]) := by rw [hW2]; exact (Blk.new w _ _).same (Below.heap_alloc _ _ _ (by simp))
  have KP : Hid (Blk W2 (w.heap.size + 1) 32 #[.int .i64 p.op, .int .i64 p.ct, .int .i64 p.n, .int .i64 p.m, .int .i64 p.va, .slice A4 p.ks.length cap4]) := by rw [hW2]; have h := Blk.new (w.alloc (.cells #[.int .i64 t.d, .int .i64 t.i] 37)) 32 #[.int .i64 p.op, .int .i64 p.ct, .int .i64 p.n, .int .i64 p.m, .int .i64 p.va, .slice A4 p.ks.length cap4]; rw [World.size_alloc] at h; exact h
  have hws : w.heap.size + 2 ≤ W2.heap.size := by rw [hW2]; simp
  have hws2 : W2.heap.size = w.heap.size + 1 + 1 := by rw [hW2]; simp
  rw [← hW2]
  clear hW2
  have y0 : W2.cell? ⟨w.heap.size, 0, none⟩ = some (.int .i64 t.d) := (KT.out.cell 0).trans (by simp)
  have y1 : W2.cell? ⟨w.heap.size, 1, none⟩ = some (.int .i64 t.i) := (KT.out.cell 1).trans (by simp)
  have klt := KT.out.lt
  have z0 : W2.cell? ⟨w.heap.size + 1, 0, none⟩ = some (.int .i64 p.op) := (KP.out.cell 0).trans (by simp)
  have z1 : W2.cell? ⟨w.heap.size + 1, 1, none⟩ = some (.int .i64 p.ct) := (KP.out.cell 1).trans (by simp)
  have z2 : W2.cell? ⟨w.heap.size + 1, 2, none⟩ = some (.int .i64 p.n) := (KP.out.cell 2).trans (by simp)
  have z3 : W2.cell? ⟨w.heap.size + 1, 3, none⟩ = some (.int .i64 p.m) := (KP.out.cell 3).trans (by simp)
  have z4 : W2.cell? ⟨w.heap.size + 1, 4, none⟩ = some (.int .i64 p.va) := (KP.out.cell 4).trans (by simp)
  have z5 : W2.cell? ⟨w.heap.size + 1, 5, none⟩ = some (.slice A4 p.ks.length cap4) := (KP.out.cell 5).trans (by simp)
  have klt2 := KP.out.lt
  refine (impl_only p A4 cap4 false false true 0 _).mono ?_
  rintro e w3 ⟨rfl, hb3⟩
  have hB3 := hB0.trans (hb3.mono hB0.size)
  have KT3 := Lib.hid (KT.out.same (hb3.block _ KT.out.lt))
  have KP3 := Lib.hid (KP.out.same (hb3.block _ KP.out.lt))
  clear y0 y1 z0 z1 z2 z3 z4 z5 klt klt2
  clear hb3 KT KP hB0
  have z4 : w3.cell? ⟨w.heap.size + 1, 4, none⟩ = some (.int .i64 p.va) := (KP3.out.cell 4).trans (by simp)
  have klt2 := KP3.out.lt
  cases e2 : onlyB p false false true 0 with
  | false =>
    have HFin : Hid (ShapePost xs t p w (.returned (.tuple #[.slice none 0 0, .bool false])) w3) := ⟨_, [], by rw [HNB.out, e2] <;> rfl, hB3, Fresh.nil _ _, fun _ => by rw [HTY.out]; exact Arr.nil⟩
    clear e2
    go_wp2
    go_ret2
    exact HFin.out
  | true =>
    have HE2 := Lib.hid e2
    clear e2
    go_wp2_with fail
    refine (impl_isVar p.va w3).mono ?_
    rintro e w4 ⟨rfl, hw4⟩
    rw [hw4]
    clear hw4 w4
    generalize hbb : withinB p.va 0 5 = bb at *
    clear hbb
    have HFin : Hid (ShapePost xs t p w (.returned (.tuple #[.slice none 0 0, .bool bb])) w3) := ⟨_, [], by rw [HNB.out, HE2.out, Bool.true_and] <;> rfl, hB3, Fresh.nil _ _, fun _ => by rw [HTY.out]; exact Arr.nil⟩
    clear z4 klt2
    go_wp2
    go_ret2
    exact HFin.out
set_option maxRecDepth 100000 in
set_option maxHeartbeats 1600000 in
theorem shape_4 (xs : List Dt) (hw : WorldOK xs) (t : Ty) (ht : TyIn xs.length t) (p : P) (h4 : p.op = 4) (w : World) (x : Value) (F : List Nat) (cs : List Value) (G : List Nat) : Arr w (DtR w) xs x F → Under w.heap.size F → PR w p cs G → Under w.heap.size G →
    Calls Try.prog 182 #[x, .agg #[.int .i64 t.d, .int .i64 t.i], .agg cs.toArray] w (ShapePost xs t p w) := by
  intro hx hf hv hg
  obtain ⟨kv, rfl, ha⟩ := (PR_iff _ _ _).1 hv
  obtain ⟨A, cap, rfl, hc1, hc2⟩ := hx.form
  obtain ⟨A4, cap4, rfl, hc3, hc4⟩ := ha.form
  have HV := Lib.hid hv
  have HX := Lib.hid hx
  have HF := Lib.hid hf
  have HA := Lib.hid ha
  have HG := Lib.hid hg
  clear hx hf ha hg
  clear hv
  have HW := Lib.hid hw
  have HT := Lib.hid ht
  clear hw ht
  have o1 : (p.op == 1) = false := by simp [h4]
  have o2 : (p.op == 2) = false := by simp [h4]
  have o3 : (p.op == 3) = false := by simp [h4]
  have o4 : (p.op == 4) = true := by simp [h4]
  have HNB := Lib.hid (nodeB_4 (xs := xs) (t := t) h4)
  clear h4
  have H4 := Lib.hid (show p.op = 4 from by simpa using o4)
  go_enter Try.func182, Try.ntmps182
  go_wp2_with fail
  obtain ⟨W2, hW2⟩ : ∃ W2, W2 = ((w.alloc (.cells #[.int .i64 t.d, .int .i64 t.i] 37)).alloc (.cells #[.int .i64 p.op, .int .i64 p.ct, .int .i64 p.n, .int .i64 p.m, .int .i64 p.va, .slice A4 p.ks.length cap4] 32)) := ⟨_, rfl⟩
  have hB0 : Below w.heap.size w W2 := by rw [hW2]; exact ((Below.refl _ _).alloc (Nat.le_refl _) _).alloc (by simp) _
  have KT : Hid (Blk W2 w.heap.size 37 #[.int .i64 t.d, .int .i64 t.i]) := by rw [hW2]; exact (Blk.new w _ _).same (Below.heap_alloc _ _ _ (by simp))
  have KP : Hid (Blk W2 (w.heap.size + 1) 32 #[.int .i64 p.op, .int .i64 p.ct, .int .i64 p.n, .int .i64 p.m, .int .i64 p.va, .slice A4 p.ks.length cap4]) := by rw [hW2]; have h := Blk.new (w.alloc (.cells #[.int .i64 t.d, .int .i64 t.i] 37)) 32 #[.int .i64 p.op, .int .i64 p.ct, .int .i64 p.n, .int .i64 p.m, .int .i64 p.va, .slice A4 p.ks.length cap4]; rw [World.size_alloc] at h; exact h
  have hws : w.heap.size + 2 ≤ W2.heap.size := by rw [hW2]; simp
  have hws2 : W2.heap.size = w.heap.size + 1 + 1 := by rw [hW2]; simp
  rw [← hW2]
  clear hW2
  have y0 : W2.cell? ⟨w.heap.size, 0, none⟩ = some (.int .i64 t.d) := (KT.out.cell 0).trans (by simp)
  have y1 : W2.cell? ⟨w.heap.size, 1, none⟩ = some (.int .i64 t.i) := (KT.out.cell 1).trans (by simp)
  have klt := KT.out.lt
  have z0 : W2.cell? ⟨w.heap.size + 1, 0, none⟩ = some (.int .i64 p.op) := (KP.out.cell 0).trans (by simp)
  have z1 : W2.cell? ⟨w.heap.size + 1, 1, none⟩ = some (.int .i64 p.ct) := (KP.out.cell 1).trans (by simp)
  have z2 : W2.cell? ⟨w.heap.size + 1, 2, none⟩ = some (.int .i64 p.n) := (KP.out.cell 2).trans (by simp)
  have z3 : W2.cell? ⟨w.heap.size + 1, 3, none⟩ = some (.int .i64 p.m) := (KP.out.cell 3).trans (by simp)
  have z4 : W2.cell? ⟨w.heap.size + 1, 4, none⟩ = some (.int .i64 p.va) := (KP.out.cell 4).trans (by simp)
  have z5 : W2.cell? ⟨w.heap.size + 1, 5, none⟩ = some (.slice A4 p.ks.length cap4) := (KP.out.cell 5).trans (by simp)
  have klt2 := KP.out.lt
  have hkeep : ∀ U U' : World, (U.cell? ⟨w.heap.size, 0, none⟩ = some (.int .i64 t.d) ∧ U.cell? ⟨w.heap.size, 1, none⟩ = some (.int .i64 t.i) ∧ U.cell? ⟨w.heap.size + 1, 1, none⟩ = some (.int .i64 p.ct)) → Below U.heap.size U U' → W2.heap.size ≤ U.heap.size → (U'.cell? ⟨w.heap.size, 0, none⟩ = some (.int .i64 t.d) ∧ U'.cell? ⟨w.heap.size, 1, none⟩ = some (.int .i64 t.i) ∧ U'.cell? ⟨w.heap.size + 1, 1, none⟩ = some (.int .i64 p.ct)) := fun U U' h hUU hU => ⟨(hUU.cell (Nat.lt_of_lt_of_le (klt) hU)).trans h.1, (hUU.cell (Nat.lt_of_lt_of_le (klt) hU)).trans h.2.1, (hUU.cell (Nat.lt_of_lt_of_le (klt2) hU)).trans h.2.2⟩
  have HKeep := Lib.hid hkeep
  clear hkeep
  go_region_held3 (fun w' => w'.cell? ⟨w.heap.size, 0, none⟩ = some (.int .i64 t.d) ∧ w'.cell? ⟨w.heap.size, 1, none⟩ = some (.int .i64 t.i) ∧ w'.cell? ⟨w.heap.size + 1, 1, none⟩ = some (.int .i64 p.ct)) (first | assumption | (exact ⟨y0, y1, z1⟩) | (exact HKeep.out W2.drew w4 ⟨y0, y1, z1⟩ hb4 (Nat.le_refl _)) | (exact HKeep.out w4 w5 (by assumption) hb5 hlew4)) (first | (go_at_call 141; ((with_reducible refine (impl_ctorsOf xs t _ _ F (ArrDt.below HX.out hB0.drew HF.out) (HF.out.mono hB0.drew.size) HW.out HT.out.inWorld).mono ?_); rintro e w4 ⟨v4, F4, rfl, hb4, ha4, -, hfs4⟩); have hlew4 : W2.heap.size ≤ w4.heap.size := hb4.size) | (go_at_call 118; ((with_reducible refine (impl_has (ctorsL xs t) p.ct _ _ F4 ha4 hfs4.under).mono ?_); rintro e w5 ⟨rfl, hb5⟩)))
  have hBa := hB0.drew.trans (hb4.mono hB0.drew.size)
  have hB5 := hBa.trans (hb5.mono hBa.size)
  have KT5 := Lib.hid ((KT.out.same (hb4.block _ KT.out.lt)).same (hb5.block _ (KT.out.same (hb4.block _ KT.out.lt)).lt))
  have KP5 := Lib.hid ((KP.out.same (hb4.block _ KP.out.lt)).same (hb5.block _ (KP.out.same (hb4.block _ KP.out.lt)).lt))
  clear y0 y1 z0 z1 z2 z3 z4 z5 klt klt2
  clear HKeep ha4 hfs4 hb4 hb5 hBa hB0 KT KP
  cases e1 : hasB (ctorsL xs t) p.ct with
  | false =>
    have HFin : Hid (ShapePost xs t p w (.returned (.tuple #[.slice none 0 0, .bool false])) w5) := ⟨_, [], by rw [HNB.out, e1]; rfl, hB5, Fresh.nil _ _, fun h => by rw [HNB.out, e1] at h; cases h⟩
    clear e1
    go_wp2
    go_ret2
    exact HFin.out
  | true =>
    obtain ⟨q, k, e2, hvc, hq', hkl⟩ := mem_ctorsL (xs := xs) (t := t) HT.out.inWorld ((hasB_iff _ _).1 e1)
    have hty : argsOf xs t p.ct = argsL xs[q].ctors[k] t.i := by
      rw [hvc]
      obtain ⟨td, ti⟩ := t
      simp only at e2
      subst e2
      exact argsOf_get hq' hkl
    have hnb := HNB.out
    rw [e1, Bool.true_and, hty] at hnb
    have HNB2 := Lib.hid hnb
    have HTY : Hid (typesP xs t p = argsL xs[q].ctors[k] t.i) := by unfold Hid typesP; rw [if_pos H4.out, hty]
    have HVC := Lib.hid hvc
    have HE2 := Lib.hid e2
    have HLA := Lib.hid (HW.out.ctor hq' hkl).args
    clear hnb hty hvc e2 e1 HNB
    have y0 : w5.cell? ⟨w.heap.size, 0, none⟩ = some (.int .i64 t.d) := (KT5.out.cell 0).trans (by simp)
    have y1 : w5.cell? ⟨w.heap.size, 1, none⟩ = some (.int .i64 t.i) := (KT5.out.cell 1).trans (by simp)
    have klt := KT5.out.lt
    have z1 : w5.cell? ⟨w.heap.size + 1, 1, none⟩ = some (.int .i64 p.ct) := (KP5.out.cell 1).trans (by simp)
    have klt2 := KP5.out.lt
    go_wp2_with fail
    rw [HVC.out, HE2.out]
    refine (impl_argTypes xs q k t.i hq' hkl w5 _ F (ArrDt.below HX.out hB5 HF.out) (HF.out.mono hB5.size) HLA.out).mono ?_
    rintro e w6 ⟨v6, F6, rfl, hb6, ha6, hfr6, hfs6⟩
    have hB6 := hB5.trans (hb6.mono hB5.size)
    have KT6 := Lib.hid (KT5.out.same (hb6.block _ KT5.out.lt))
    have KP6 := Lib.hid (KP5.out.same (hb6.block _ KP5.out.lt))
    generalize argsL xs[q].ctors[k] t.i = ls at *
    obtain ⟨A6, cap6, rfl, hd3, hd4⟩ := ha6.form
    have HA6 := Lib.hid ha6
    have HFS6 := Lib.hid hfs6
    clear ha6 hfr6 hfs6 hb6 y0 y1 z1 klt klt2
    have z0 : w6.cell? ⟨w.heap.size + 1, 0, none⟩ = some (.int .i64 p.op) := (KP6.out.cell 0).trans (by simp)
    have z1 : w6.cell? ⟨w.heap.size + 1, 1, none⟩ = some (.int .i64 p.ct) := (KP6.out.cell 1).trans (by simp)
    have z2 : w6.cell? ⟨w.heap.size + 1, 2, none⟩ = some (.int .i64 p.n) := (KP6.out.cell 2).trans (by simp)
    have z3 : w6.cell? ⟨w.heap.size + 1, 3, none⟩ = some (.int .i64 p.m) := (KP6.out.cell 3).trans (by simp)
    have z4 : w6.cell? ⟨w.heap.size + 1, 4, none⟩ = some (.int .i64 p.va) := (KP6.out.cell 4).trans (by simp)
    have z5 : w6.cell? ⟨w.heap.size + 1, 5, none⟩ = some (.slice A4 p.ks.length cap4) := (KP6.out.cell 5).trans (by simp)
    have klt2 := KP6.out.lt
    go_wp2_with fail
    refine (impl_only p A4 cap4 true false false (ls.length : Nat) _).mono ?_
    rintro e w7 ⟨rfl, hb7⟩
    have HB7 := Lib.hid (hB6.trans (hb7.mono hB6.size))
    have HA7 := Lib.hid (ArrTy.below HA6.out hb7 HFS6.out.under)
    have HFS7 : Hid (Fresh w w7 F6) := fun b hb => ⟨Nat.le_trans hB5.size (HFS6.out b hb).1, Nat.lt_of_lt_of_le (HFS6.out b hb).2 hb7.size⟩
    generalize hbb : onlyB p true false false ((ls.length : Nat) : Int) = bb at *
    clear hbb
    have HFin : Hid (ShapePost xs t p w (.returned (.tuple #[.slice A6 ls.length cap6, .bool bb])) w7) := ⟨_, F6, by rw [HNB2.out], HB7.out, HFS7.out, fun _ => by rw [HTY.out]; exact HA7.out⟩
    clear z0 z1 z2 z3 z4 z5 klt2 hb7
    go_wp2
    go_ret2
    exact HFin.out
set_option maxRecDepth 100000 in
set_option maxHeartbeats 1600000 in
theorem shape_5 (xs : List Dt) (hw : WorldOK xs) (t : Ty) (ht : TyIn xs.length t) (p : P) (h5 : p.op = 5) (w : World) (x : Value) (F : List Nat) (cs : List Value) (G : List Nat) : Arr w (DtR w) xs x F → Under w.heap.size F → PR w p cs G → Under w.heap.size G →
    Calls Try.prog 182 #[x, .agg #[.int .i64 t.d, .int .i64 t.i], .agg cs.toArray] w (ShapePost xs t p w) := by
  intro hx hf hv hg
  obtain ⟨kv, rfl, ha⟩ := (PR_iff _ _ _).1 hv
  obtain ⟨A, cap, rfl, hc1, hc2⟩ := hx.form
  obtain ⟨A4, cap4, rfl, hc3, hc4⟩ := ha.form
  have HV := Lib.hid hv
  have HX := Lib.hid hx
  have HF := Lib.hid hf
  have HA := Lib.hid ha
  have HG := Lib.hid hg
  clear hx hf ha hg
  clear hv
  have HW := Lib.hid hw
  have HT := Lib.hid ht
  clear hw ht
  have o1 : (p.op == 1) = false := by simp [h5]
  have o2 : (p.op == 2) = false := by simp [h5]
  have o3 : (p.op == 3) = false := by simp [h5]
  have o4 : (p.op == 4) = false := by simp [h5]
  have o5 : (p.op == 5) = true := by simp [h5]
  have HNB := Lib.hid (nodeB_5 (xs := xs) (t := t) h5)
  have HTY := Lib.hid (show typesP xs t p = [t, t] from by rw [typesP_no (by omega), h5]; rfl)
  clear h5
  go_enter Try.func182, Try.ntmps182
  go_wp2_with fail
  obtain ⟨W2, hW2⟩ : ∃ W2, W2 = ((w.alloc (.cells #[.int .i64 t.d, .int .i64 t.i] 37)).alloc (.cells #[.int .i64 p.op, .int .i64 p.ct, .int .i64 p.n, .int .i64 p.m, .int .i64 p.va, .slice A4 p.ks.length cap4] 32)) := ⟨_, rfl⟩
  have hB0 : Below w.heap.size w W2 := by rw [hW2]; exact ((Below.refl _ _).alloc (Nat.le_refl _) _).alloc (by simp) _
  have KT : Hid (Blk W2 w.heap.size 37 #[.int .i64 t.d, .int .i64 t.i]) := by rw [hW2]; exact (Blk.new w _ _).same (Below.heap_alloc _ _ _ (by simp))
  have KP : Hid (Blk W2 (w.heap.size + 1) 32 #[.int .i64 p.op, .int .i64 p.ct, .int .i64 p.n, .int .i64 p.m, .int .i64 p.va, .slice A4 p.ks.length cap4]) := by rw [hW2]; have h := Blk.new (w.alloc (.cells #[.int .i64 t.d, .int .i64 t.i] 37)) 32 #[.int .i64 p.op, .int .i64 p.ct, .int .i64 p.n, .int .i64 p.m, .int .i64 p.va, .slice A4 p.ks.length cap4]; rw [World.size_alloc] at h; exact h
  have hws : w.heap.size + 2 ≤ W2.heap.size := by rw [hW2]; simp
  have hws2 : W2.heap.size = w.heap.size + 1 + 1 := by rw [hW2]; simp
  rw [← hW2]
  clear hW2
  have y0 : W2.cell? ⟨w.heap.size, 0, none⟩ = some (.int .i64 t.d) := (KT.out.cell 0).trans (by simp)
  have y1 : W2.cell? ⟨w.heap.size, 1, none⟩ = some (.int .i64 t.i) := (KT.out.cell 1).trans (by simp)
  have klt := KT.out.lt
  have z0 : W2.cell? ⟨w.heap.size + 1, 0, none⟩ = some (.int .i64 p.op) := (KP.out.cell 0).trans (by simp)
  have z1 : W2.cell? ⟨w.heap.size + 1, 1, none⟩ = some (.int .i64 p.ct) := (KP.out.cell 1).trans (by simp)
  have z2 : W2.cell? ⟨w.heap.size + 1, 2, none⟩ = some (.int .i64 p.n) := (KP.out.cell 2).trans (by simp)
  have z3 : W2.cell? ⟨w.heap.size + 1, 3, none⟩ = some (.int .i64 p.m) := (KP.out.cell 3).trans (by simp)
  have z4 : W2.cell? ⟨w.heap.size + 1, 4, none⟩ = some (.int .i64 p.va) := (KP.out.cell 4).trans (by simp)
  have z5 : W2.cell? ⟨w.heap.size + 1, 5, none⟩ = some (.slice A4 p.ks.length cap4) := (KP.out.cell 5).trans (by simp)
  have klt2 := KP.out.lt
  generalize hbb : onlyB p false false false 2 = bb at *
  have HC : Hid (∀ w1 : World, Calls Try.prog 196 #[.agg #[.int .i64 p.op, .int .i64 p.ct, .int .i64 p.n, .int .i64 p.m, .int .i64 p.va, .slice A4 p.ks.length cap4], .bool false, .bool false, .bool false, .int .i64 2] w1 fun e w' => e = .returned (.bool bb) ∧ Below w1.heap.size w1 w') := fun w1 => by rw [← hbb]; exact impl_only p A4 cap4 false false false 2 w1
  clear hbb
  have HNV : Hid (nodeB xs t p = bb) := HNB.out
  go_wp2_with fail
  refine wp_region_B (S := fun w' => Blk w' w.heap.size 37 #[.int .i64 t.d, .int .i64 t.i] ∧ Blk w' (w.heap.size + 1) 32 #[.int .i64 p.op, .int .i64 p.ct, .int .i64 p.n, .int .i64 p.m, .int .i64 p.va, .slice A4 p.ks.length cap4]) (T := fun _ => True) (d := 99) (by kernel_rfl) ?_
  have hS1 : Blk W2.drew w.heap.size 37 #[.int .i64 t.d, .int .i64 t.i] ∧ Blk W2.drew (w.heap.size + 1) 32 #[.int .i64 p.op, .int .i64 p.ct, .int .i64 p.n, .int .i64 p.m, .int .i64 p.va, .slice A4 p.ks.length cap4] := ⟨KT.out, KP.out⟩
  have hT1 : True := trivial
  refine wpAnyB_take (i := 0) (v := ?_) rfl (by decide) (by kernel_rfl) (by kernel_rfl) (by kernel_rfl) (fun _ _ _ h => h) (Or.inl ⟨by rfl, ?hy0⟩) hS1 (fun _ => trivial) ?_
  case hy0 => (intro W hSw; (try dsimp only at hSw); obtain ⟨kt, kp⟩ := hSw; have y0 : W.cell? ⟨w.heap.size, 0, none⟩ = some (.int .i64 t.d) := (kt.cell 0).trans (by simp); have y1 : W.cell? ⟨w.heap.size, 1, none⟩ = some (.int .i64 t.i) := (kt.cell 1).trans (by simp); have z0 : W.cell? ⟨w.heap.size + 1, 0, none⟩ = some (.int .i64 p.op) := (kp.cell 0).trans (by simp); have z1 : W.cell? ⟨w.heap.size + 1, 1, none⟩ = some (.int .i64 p.ct) := (kp.cell 1).trans (by simp); have z2 : W.cell? ⟨w.heap.size + 1, 2, none⟩ = some (.int .i64 p.n) := (kp.cell 2).trans (by simp); have z3 : W.cell? ⟨w.heap.size + 1, 3, none⟩ = some (.int .i64 p.m) := (kp.cell 3).trans (by simp); have z4 : W.cell? ⟨w.heap.size + 1, 4, none⟩ = some (.int .i64 p.va) := (kp.cell 4).trans (by simp); have z5 : W.cell? ⟨w.heap.size + 1, 5, none⟩ = some (.slice A4 p.ks.length cap4) := (kp.cell 5).trans (by simp);go_simp; try with_reducible rfl)
  (try simp only [Act.put, List.getElem_toArray, List.getElem_cons_zero, List.getElem_cons_succ, List.setIfInBounds_toArray, List.set_cons_zero, List.set_cons_succ])
  refine wpAnyB_take (i := 1) (v := ?_) rfl (by decide) (by kernel_rfl) (by kernel_rfl) (by kernel_rfl) (fun _ _ _ h => h) (Or.inl ⟨by rfl, ?hy1⟩) hS1 (fun _ => trivial) ?_
  case hy1 => (intro W hSw; (try dsimp only at hSw); obtain ⟨kt, kp⟩ := hSw; have y0 : W.cell? ⟨w.heap.size, 0, none⟩ = some (.int .i64 t.d) := (kt.cell 0).trans (by simp); have y1 : W.cell? ⟨w.heap.size, 1, none⟩ = some (.int .i64 t.i) := (kt.cell 1).trans (by simp); have z0 : W.cell? ⟨w.heap.size + 1, 0, none⟩ = some (.int .i64 p.op) := (kp.cell 0).trans (by simp); have z1 : W.cell? ⟨w.heap.size + 1, 1, none⟩ = some (.int .i64 p.ct) := (kp.cell 1).trans (by simp); have z2 : W.cell? ⟨w.heap.size + 1, 2, none⟩ = some (.int .i64 p.n) := (kp.cell 2).trans (by simp); have z3 : W.cell? ⟨w.heap.size + 1, 3, none⟩ = some (.int .i64 p.m) := (kp.cell 3).trans (by simp); have z4 : W.cell? ⟨w.heap.size + 1, 4, none⟩ = some (.int .i64 p.va) := (kp.cell 4).trans (by simp); have z5 : W.cell? ⟨w.heap.size + 1, 5, none⟩ = some (.slice A4 p.ks.length cap4) := (kp.cell 5).trans (by simp);go_simp; try with_reducible rfl)
  (try simp only [Act.put, List.getElem_toArray, List.getElem_cons_zero, List.getElem_cons_succ, List.setIfInBounds_toArray, List.set_cons_zero, List.set_cons_succ])
  refine wpAnyB_take (i := 3) (v := ?_) rfl (by decide) (by kernel_rfl) (by kernel_rfl) (by kernel_rfl) (fun _ _ _ h => h) (Or.inl ⟨by rfl, ?hy3⟩) hS1 (fun _ => trivial) ?_
  case hy3 => (intro W hSw; (try dsimp only at hSw); obtain ⟨kt, kp⟩ := hSw; have y0 : W.cell? ⟨w.heap.size, 0, none⟩ = some (.int .i64 t.d) := (kt.cell 0).trans (by simp); have y1 : W.cell? ⟨w.heap.size, 1, none⟩ = some (.int .i64 t.i) := (kt.cell 1).trans (by simp); have z0 : W.cell? ⟨w.heap.size + 1, 0, none⟩ = some (.int .i64 p.op) := (kp.cell 0).trans (by simp); have z1 : W.cell? ⟨w.heap.size + 1, 1, none⟩ = some (.int .i64 p.ct) := (kp.cell 1).trans (by simp); have z2 : W.cell? ⟨w.heap.size + 1, 2, none⟩ = some (.int .i64 p.n) := (kp.cell 2).trans (by simp); have z3 : W.cell? ⟨w.heap.size + 1, 3, none⟩ = some (.int .i64 p.m) := (kp.cell 3).trans (by simp); have z4 : W.cell? ⟨w.heap.size + 1, 4, none⟩ = some (.int .i64 p.va) := (kp.cell 4).trans (by simp); have z5 : W.cell? ⟨w.heap.size + 1, 5, none⟩ = some (.slice A4 p.ks.length cap4) := (kp.cell 5).trans (by simp);go_simp; try with_reducible rfl)
  (try simp only [Act.put, List.getElem_toArray, List.getElem_cons_zero, List.getElem_cons_succ, List.setIfInBounds_toArray, List.set_cons_zero, List.set_cons_succ])
  refine wpAnyB_ready (rs := [2, 4]) (by kernel_rfl) (by simp) ?_
  refine AllReadyB.cons rfl (fun K hK => ?_) (AllReadyB.cons rfl (fun K hK => ?_) AllReadyB.nil)
  · go_simp
    have hS2 := And.intro (hS1.1.same (Below.heap_alloc _ (.cells #[.int .i64 t.d, .int .i64 t.i, .int .i64 t.d, .int .i64 t.i] 37) _ hS1.1.lt)) (hS1.2.same (Below.heap_alloc _ (.cells #[.int .i64 t.d, .int .i64 t.i, .int .i64 t.d, .int .i64 t.i] 37) _ hS1.2.lt))
    refine hK.out _ _ hS2 (fun _ => trivial) ?_
    clear hK K
    (try simp only [Act.put, List.getElem_toArray, List.getElem_cons_zero, List.getElem_cons_succ, List.setIfInBounds_toArray, List.set_cons_zero, List.set_cons_succ])
    refine wpAnyB_ready (rs := [4]) (by kernel_rfl) (by simp) ?_
    refine AllReadyB.cons rfl (fun K hK => ?_) AllReadyB.nil
    go_simp
    go_at_call 196
    with_reducible refine (HC.out _).mono ?_
    rintro e w3 ⟨rfl, hb3⟩
    have hS3 : Blk w3 w.heap.size 37 #[.int .i64 t.d, .int .i64 t.i] ∧ Blk w3 (w.heap.size + 1) 32 #[.int .i64 p.op, .int .i64 p.ct, .int .i64 p.n, .int .i64 p.m, .int .i64 p.va, .slice A4 p.ks.length cap4] := ⟨hS2.1.same (hb3.block _ hS2.1.lt), hS2.2.same (hb3.block _ hS2.2.lt)⟩
    dsimp only
    refine hK.out _ _ hS3 (fun _ => trivial) ?_
    clear hK K
    (try simp only [Act.put, List.getElem_toArray, List.getElem_cons_zero, List.getElem_cons_succ, List.setIfInBounds_toArray, List.set_cons_zero, List.set_cons_succ])
    refine wpAnyB_take (i := 5) (v := ?_) rfl (by decide) (by kernel_rfl) (by kernel_rfl) (by kernel_rfl) (fun _ _ _ h => h) (Or.inl ⟨by rfl, ?hy5⟩) hS3 (fun _ => trivial) ?_
    case hy5 => (intro W hSw; (try dsimp only at hSw); go_simp; try with_reducible rfl)
    (try simp only [Act.put, List.getElem_toArray, List.getElem_cons_zero, List.getElem_cons_succ, List.setIfInBounds_toArray, List.set_cons_zero, List.set_cons_succ])
    refine wpAnyB_take (i := 6) (v := ?_) rfl (by decide) (by kernel_rfl) (by kernel_rfl) (by kernel_rfl) (fun _ _ _ h => h) (Or.inl ⟨by rfl, ?hy6⟩) hS3 (fun _ => trivial) ?_
    case hy6 => (intro W hSw; (try dsimp only at hSw); go_simp; try with_reducible rfl)
    (try simp only [Act.put, List.getElem_toArray, List.getElem_cons_zero, List.getElem_cons_succ, List.setIfInBounds_toArray, List.set_cons_zero, List.set_cons_succ])
    refine wpAnyB_end (by kernel_rfl) ?_
    obtain ⟨q1, q2, q3⟩ := shape_endA hB0 hws2 hb3
    have HFin : Hid (ShapePost xs t p w (.returned (.tuple #[.slice (some ⟨w.heap.size + 1 + 1, 0, none⟩) 2 2, .bool bb])) w3) := ⟨_, [w.heap.size + 1 + 1], by rw [HNV.out], q1, q2, fun _ => by rw [HTY.out]; exact arr_tys2 q3⟩
    clear y0 y1 z0 z1 z2 z3 z4 z5 klt klt2
    clear hS1 hS3 hb3 q1 q2 q3
    go_wp2
    go_ret2
    exact HFin.out
  · go_simp
    go_at_call 196
    with_reducible refine (HC.out _).mono ?_
    rintro e w3 ⟨rfl, hb3⟩
    have hS3 : Blk w3 w.heap.size 37 #[.int .i64 t.d, .int .i64 t.i] ∧ Blk w3 (w.heap.size + 1) 32 #[.int .i64 p.op, .int .i64 p.ct, .int .i64 p.n, .int .i64 p.m, .int .i64 p.va, .slice A4 p.ks.length cap4] := ⟨hS1.1.same (hb3.block _ hS1.1.lt), hS1.2.same (hb3.block _ hS1.2.lt)⟩
    dsimp only
    refine hK.out _ _ hS3 (fun _ => trivial) ?_
    clear hK K
    (try simp only [Act.put, List.getElem_toArray, List.getElem_cons_zero, List.getElem_cons_succ, List.setIfInBounds_toArray, List.set_cons_zero, List.set_cons_succ])
    refine wpAnyB_ready (rs := [2]) (by kernel_rfl) (by simp) ?_
    refine AllReadyB.cons rfl (fun K hK => ?_) AllReadyB.nil
    go_simp
    have hS4 := And.intro (hS3.1.same (Below.heap_alloc _ (.cells #[.int .i64 t.d, .int .i64 t.i, .int .i64 t.d, .int .i64 t.i] 37) _ hS3.1.lt)) (hS3.2.same (Below.heap_alloc _ (.cells #[.int .i64 t.d, .int .i64 t.i, .int .i64 t.d, .int .i64 t.i] 37) _ hS3.2.lt))
    refine hK.out _ _ hS4 (fun _ => trivial) ?_
    clear hK K
    (try simp only [Act.put, List.getElem_toArray, List.getElem_cons_zero, List.getElem_cons_succ, List.setIfInBounds_toArray, List.set_cons_zero, List.set_cons_succ])
    refine wpAnyB_take (i := 5) (v := ?_) rfl (by decide) (by kernel_rfl) (by kernel_rfl) (by kernel_rfl) (fun _ _ _ h => h) (Or.inl ⟨by rfl, ?hy5⟩) hS4 (fun _ => trivial) ?_
    case hy5 => (intro W hSw; (try dsimp only at hSw); go_simp; try with_reducible rfl)
    (try simp only [Act.put, List.getElem_toArray, List.getElem_cons_zero, List.getElem_cons_succ, List.setIfInBounds_toArray, List.set_cons_zero, List.set_cons_succ])
    refine wpAnyB_take (i := 6) (v := ?_) rfl (by decide) (by kernel_rfl) (by kernel_rfl) (by kernel_rfl) (fun _ _ _ h => h) (Or.inl ⟨by rfl, ?hy6⟩) hS4 (fun _ => trivial) ?_
    case hy6 => (intro W hSw; (try dsimp only at hSw); go_simp; try with_reducible rfl)
    (try simp only [Act.put, List.getElem_toArray, List.getElem_cons_zero, List.getElem_cons_succ, List.setIfInBounds_toArray, List.set_cons_zero, List.set_cons_succ])
    refine wpAnyB_end (by kernel_rfl) ?_
    obtain ⟨q1, q2⟩ := shape_endB hB0 hb3 (.cells #[.int .i64 t.d, .int .i64 t.i, .int .i64 t.d, .int .i64 t.i] 37)
    have HFin : Hid (ShapePost xs t p w (.returned (.tuple #[.slice (some ⟨w3.heap.size, 0, none⟩) 2 2, .bool bb])) (w3.alloc (.cells #[.int .i64 t.d, .int .i64 t.i, .int .i64 t.d, .int .i64 t.i] 37))) := ⟨_, [w3.heap.size], by rw [HNV.out], q1, q2, fun _ => by rw [HTY.out]; exact arr_tys2 (Blk.new w3 _ _)⟩
    clear y0 y1 z0 z1 z2 z3 z4 z5 klt klt2
    clear hS1 hS3 hb3 q1 q2
    go_wp2
    go_ret2
    exact HFin.out
end Go.Proofs.Ytbffkgfhcmigaaa

namespace Go.Proofs.Ytbffkgfhcmigaaa
open Go.RowKit

set_option maxRecDepth 100000 in
set_option maxHeartbeats 1600000 in
theorem shape_3 (xs : List Dt) (hw : WorldOK xs) (t : Ty) (ht : TyIn xs.length t) (p : P) (h3 : p.op = 3) (w : World) (x : Value) (F : List Nat) (cs : List Value) (G : List Nat) : Arr w (DtR w) xs x F → Under w.heap.size F → PR w p cs G → Under w.heap.size G →
    Calls Try.prog 182 #[x, .agg #[.int .i64 t.d, .int .i64 t.i], .agg cs.toArray] w (ShapePost xs t p w) := by
  intro hx hf hv hg
  obtain ⟨kv, rfl, ha⟩ := (PR_iff _ _ _).1 hv
  obtain ⟨A, cap, rfl, hc1, hc2⟩ := hx.form
  obtain ⟨A4, cap4, rfl, hc3, hc4⟩ := ha.form
  have HV := Lib.hid hv
  have HX := Lib.hid hx
  have HF := Lib.hid hf
  have HA := Lib.hid ha
  have HG := Lib.hid hg
  clear hx hf ha hg
  clear hv
  have HW := Lib.hid hw
  have HT := Lib.hid ht
  clear hw ht
  have o1 : (p.op == 1) = false := by simp [h3]
  have o2 : (p.op == 2) = false := by simp [h3]
  have o3 : (p.op == 3) = true := by simp [h3]
  have HNB := Lib.hid (nodeB_3 (xs := xs) (t := t) h3)
  have HTY := Lib.hid (show typesP xs t p = [] from by rw [typesP_no (by omega), h3]; rfl)
  clear h3
  go_enter Try.func182, Try.ntmps182
  go_wp2_with fail
  obtain ⟨W2, hW2⟩ : ∃ W2, W2 = ((w.alloc (.cells #[.int .i64 t.d, .int .i64 t.i] 37)).alloc (.cells #[.int .i64 p.op, .int .i64 p.ct, .int .i64 p.n, .int .i64 p.m, .int .i64 p.va, .slice A4 p.ks.length cap4] 32)) := ⟨_, rfl⟩
  have hB0 : Below w.heap.size w W2 := by rw [hW2]; exact ((Below.refl _ _).alloc (Nat.le_refl _) _).alloc (by simp) _
  have KT : Hid (Blk W2 w.heap.size 37 #[.int .i64 t.d, .int .i64 t.i]) := by rw [hW2]; exact (Blk.new w _ _).same (Below.heap_alloc _ _ _ (by simp))
  have KP : Hid (Blk W2 (w.heap.size + 1) 32 #[.int .i64 p.op, .int .i64 p.ct, .int .i64 p.n, .int .i64 p.m, .int .i64 p.va, .slice A4 p.ks.length cap4]) := by rw [hW2]; have h := Blk.new (w.alloc (.cells #[.int .i64 t.d, .int .i64 t.i] 37)) 32 #[.int .i64 p.op, .int .i64 p.ct, .int .i64 p.n, .int .i64 p.m, .int .i64 p.va, .slice A4 p.ks.length cap4]; rw [World.size_alloc] at h; exact h
  have hws : w.heap.size + 2 ≤ W2.heap.size := by rw [hW2]; simp
  have hws2 : W2.heap.size = w.heap.size + 1 + 1 := by rw [hW2]; simp
  rw [← hW2]
  clear hW2
  have y0 : W2.cell? ⟨w.heap.size, 0, none⟩ = some (.int .i64 t.d) := (KT.out.cell 0).trans (by simp)
  have y1 : W2.cell? ⟨w.heap.size, 1, none⟩ = some (.int .i64 t.i) := (KT.out.cell 1).trans (by simp)
  have klt := KT.out.lt
  have z0 : W2.cell? ⟨w.heap.size + 1, 0, none⟩ = some (.int .i64 p.op) := (KP.out.cell 0).trans (by simp)
  have z1 : W2.cell? ⟨w.heap.size + 1, 1, none⟩ = some (.int .i64 p.ct) := (KP.out.cell 1).trans (by simp)
  have z2 : W2.cell? ⟨w.heap.size + 1, 2, none⟩ = some (.int .i64 p.n) := (KP.out.cell 2).trans (by simp)
  have z3 : W2.cell? ⟨w.heap.size + 1, 3, none⟩ = some (.int .i64 p.m) := (KP.out.cell 3).trans (by simp)
  have z4 : W2.cell? ⟨w.heap.size + 1, 4, none⟩ = some (.int .i64 p.va) := (KP.out.cell 4).trans (by simp)
  have z5 : W2.cell? ⟨w.heap.size + 1, 5, none⟩ = some (.slice A4 p.ks.length cap4) := (KP.out.cell 5).trans (by simp)
  have klt2 := KP.out.lt
  have HBQ := Lib.hid (fun n => below_drewN hB0 n)
  cases e1 : (t.d == -1) with
  | false =>
    have HFinQ : Hid (∀ n, ShapePost xs t p w (.returned (.tuple #[.slice none 0 0, .bool false])) (W2.drewN n)) := fun n => ⟨_, [], by rw [HNB.out, e1]; rfl, HBQ.out n, Fresh.nil _ _, fun _ => by rw [HTY.out]; exact Arr.nil⟩
    clear HBQ
    go_wp2_with fail
    go_quiet (fail)
    go_wp2
    go_ret2
    exact HFinQ.out _
  | true =>
    have hc := impl_only p A4 cap4 false true false 0 W2.drew
    have HE1 := Lib.hid e1
    clear e1 HBQ
    go_wp2_with fail
    refine wp_region_B (S := fun w' => Blk w' w.heap.size 37 #[.int .i64 t.d, .int .i64 t.i] ∧ Blk w' (w.heap.size + 1) 32 #[.int .i64 p.op, .int .i64 p.ct, .int .i64 p.n, .int .i64 p.m, .int .i64 p.va, .slice A4 p.ks.length cap4]) (T := fun _ => True) (d := 99) (by kernel_rfl) ?_
    have hS1 : Blk W2.drew w.heap.size 37 #[.int .i64 t.d, .int .i64 t.i] ∧ Blk W2.drew (w.heap.size + 1) 32 #[.int .i64 p.op, .int .i64 p.ct, .int .i64 p.n, .int .i64 p.m, .int .i64 p.va, .slice A4 p.ks.length cap4] := ⟨KT.out, KP.out⟩
    have hT1 : True := trivial
    refine wpAnyB_take (i := 0) (v := ?_) rfl (by decide) (by kernel_rfl) (by kernel_rfl) (by kernel_rfl) (fun _ _ _ h => h) (Or.inl ⟨by rfl, ?hy0⟩) hS1 (fun _ => trivial) ?_
    case hy0 => (intro W hSw; (try dsimp only at hSw); go_simp; try with_reducible rfl)
    (try simp only [Act.put, List.getElem_toArray, List.getElem_cons_zero, List.getElem_cons_succ, List.setIfInBounds_toArray, List.set_cons_zero, List.set_cons_succ])
    refine wpAnyB_take (i := 1) (v := ?_) rfl (by decide) (by kernel_rfl) (by kernel_rfl) (by kernel_rfl) (fun _ _ _ h => h) (Or.inl ⟨by rfl, ?hy1⟩) hS1 (fun _ => trivial) ?_
    case hy1 => (intro W hSw; (try dsimp only at hSw); obtain ⟨kt, kp⟩ := hSw; have y0 : W.cell? ⟨w.heap.size, 0, none⟩ = some (.int .i64 t.d) := (kt.cell 0).trans (by simp); have y1 : W.cell? ⟨w.heap.size, 1, none⟩ = some (.int .i64 t.i) := (kt.cell 1).trans (by simp); have z0 : W.cell? ⟨w.heap.size + 1, 0, none⟩ = some (.int .i64 p.op) := (kp.cell 0).trans (by simp); have z1 : W.cell? ⟨w.heap.size + 1, 1, none⟩ = some (.int .i64 p.ct) := (kp.cell 1).trans (by simp); have z2 : W.cell? ⟨w.heap.size + 1, 2, none⟩ = some (.int .i64 p.n) := (kp.cell 2).trans (by simp); have z3 : W.cell? ⟨w.heap.size + 1, 3, none⟩ = some (.int .i64 p.m) := (kp.cell 3).trans (by simp); have z4 : W.cell? ⟨w.heap.size + 1, 4, none⟩ = some (.int .i64 p.va) := (kp.cell 4).trans (by simp); have z5 : W.cell? ⟨w.heap.size + 1, 5, none⟩ = some (.slice A4 p.ks.length cap4) := (kp.cell 5).trans (by simp);go_simp; try with_reducible rfl)
    (try simp only [Act.put, List.getElem_toArray, List.getElem_cons_zero, List.getElem_cons_succ, List.setIfInBounds_toArray, List.set_cons_zero, List.set_cons_succ])
    refine wpAnyB_take (i := 2) (v := ?_) rfl (by decide) (by kernel_rfl) (by kernel_rfl) (by kernel_rfl) (fun _ _ _ h => h) (Or.inl ⟨by rfl, ?hy2⟩) hS1 (fun _ => trivial) ?_
    case hy2 => (intro W hSw; (try dsimp only at hSw); go_simp; try with_reducible rfl)
    (try simp only [Act.put, List.getElem_toArray, List.getElem_cons_zero, List.getElem_cons_succ, List.setIfInBounds_toArray, List.set_cons_zero, List.set_cons_succ])
    rw [HE1.out]
    refine wpAnyB_take (i := 3) (v := ?_) rfl (by decide) (by kernel_rfl) (by kernel_rfl) (by kernel_rfl) (fun _ _ _ h => h) (Or.inl ⟨by rfl, ?hy3⟩) hS1 (fun _ => trivial) ?_
    case hy3 => (intro W hSw; (try dsimp only at hSw); go_simp; try with_reducible rfl)
    (try simp only [Act.put, List.getElem_toArray, List.getElem_cons_zero, List.getElem_cons_succ, List.setIfInBounds_toArray, List.set_cons_zero, List.set_cons_succ])
    refine wpAnyB_take (i := 4) (v := ?_) rfl (by decide) (by kernel_rfl) (by kernel_rfl) (by kernel_rfl) (fun _ _ _ h => h) (Or.inl ⟨by rfl, ?hy4⟩) hS1 (fun _ => trivial) ?_
    case hy4 => (intro W hSw; (try dsimp only at hSw); obtain ⟨kt, kp⟩ := hSw; have y0 : W.cell? ⟨w.heap.size, 0, none⟩ = some (.int .i64 t.d) := (kt.cell 0).trans (by simp); have y1 : W.cell? ⟨w.heap.size, 1, none⟩ = some (.int .i64 t.i) := (kt.cell 1).trans (by simp); have z0 : W.cell? ⟨w.heap.size + 1, 0, none⟩ = some (.int .i64 p.op) := (kp.cell 0).trans (by simp); have z1 : W.cell? ⟨w.heap.size + 1, 1, none⟩ = some (.int .i64 p.ct) := (kp.cell 1).trans (by simp); have z2 : W.cell? ⟨w.heap.size + 1, 2, none⟩ = some (.int .i64 p.n) := (kp.cell 2).trans (by simp); have z3 : W.cell? ⟨w.heap.size + 1, 3, none⟩ = some (.int .i64 p.m) := (kp.cell 3).trans (by simp); have z4 : W.cell? ⟨w.heap.size + 1, 4, none⟩ = some (.int .i64 p.va) := (kp.cell 4).trans (by simp); have z5 : W.cell? ⟨w.heap.size + 1, 5, none⟩ = some (.slice A4 p.ks.length cap4) := (kp.cell 5).trans (by simp);go_simp; try with_reducible rfl)
    (try simp only [Act.put, List.getElem_toArray, List.getElem_cons_zero, List.getElem_cons_succ, List.setIfInBounds_toArray, List.set_cons_zero, List.set_cons_succ])
    cases e2 : onlyB p false true false 0 with
    | false =>
      rw [e2] at hc
      have HE2 := Lib.hid e2
      clear e2
      refine wpAnyB_ready (rs := [5]) (by kernel_rfl) (by simp) ?_
      refine AllReadyB.cons rfl (fun K hK => ?_) AllReadyB.nil
      go_simp
      go_at_call 196
      with_reducible refine hc.mono ?_
      rintro e w3 ⟨rfl, hb3⟩
      have hS3 : Blk w3 w.heap.size 37 #[.int .i64 t.d, .int .i64 t.i] ∧ Blk w3 (w.heap.size + 1) 32 #[.int .i64 p.op, .int .i64 p.ct, .int .i64 p.n, .int .i64 p.m, .int .i64 p.va, .slice A4 p.ks.length cap4] := ⟨hS1.1.same (hb3.block _ hS1.1.lt), hS1.2.same (hb3.block _ hS1.2.lt)⟩
      dsimp only
      refine hK.out _ _ hS3 (fun _ => trivial) ?_
      clear hK K
      (try simp only [Act.put, List.getElem_toArray, List.getElem_cons_zero, List.getElem_cons_succ, List.setIfInBounds_toArray, List.set_cons_zero, List.set_cons_succ])
      refine wpAnyB_take (i := 6) (v := ?_) rfl (by decide) (by kernel_rfl) (by kernel_rfl) (by kernel_rfl) (fun _ _ _ h => h) (Or.inl ⟨by rfl, ?hy6⟩) hS3 (fun _ => trivial) ?_
      case hy6 => (intro W hSw; (try dsimp only at hSw); go_simp; try with_reducible rfl)
      (try simp only [Act.put, List.getElem_toArray, List.getElem_cons_zero, List.getElem_cons_succ, List.setIfInBounds_toArray, List.set_cons_zero, List.set_cons_succ])
      refine wpAnyB_take (i := 7) (v := ?_) rfl (by decide) (by kernel_rfl) (by kernel_rfl) (by kernel_rfl) (fun _ _ _ h => h) (Or.inl ⟨by rfl, ?hy7⟩) hS3 (fun _ => trivial) ?_
      case hy7 => (intro W hSw; (try dsimp only at hSw); go_simp; try with_reducible rfl)
      (try simp only [Act.put, List.getElem_toArray, List.getElem_cons_zero, List.getElem_cons_succ, List.setIfInBounds_toArray, List.set_cons_zero, List.set_cons_succ])
      refine wpAnyB_take (i := 8) (v := undef) rfl (by decide) (by kernel_rfl) (by kernel_rfl) (by kernel_rfl) (fun _ _ _ h => h) (Or.inr ⟨by rfl, rfl⟩) hS3 (fun _ => trivial) ?_
      (try simp only [Act.put, List.getElem_toArray, List.getElem_cons_zero, List.getElem_cons_succ, List.setIfInBounds_toArray, List.set_cons_zero, List.set_cons_succ])
      refine wpAnyB_take (i := 9) (v := undef) rfl (by decide) (by kernel_rfl) (by kernel_rfl) (by kernel_rfl) (fun _ _ _ h => h) (Or.inr ⟨by rfl, rfl⟩) hS3 (fun _ => trivial) ?_
      (try simp only [Act.put, List.getElem_toArray, List.getElem_cons_zero, List.getElem_cons_succ, List.setIfInBounds_toArray, List.set_cons_zero, List.set_cons_succ])
      refine wpAnyB_take (i := 10) (v := undef) rfl (by decide) (by kernel_rfl) (by kernel_rfl) (by kernel_rfl) (fun _ _ _ h => h) (Or.inr ⟨by rfl, rfl⟩) hS3 (fun _ => trivial) ?_
      (try simp only [Act.put, List.getElem_toArray, List.getElem_cons_zero, List.getElem_cons_succ, List.setIfInBounds_toArray, List.set_cons_zero, List.set_cons_succ])
      refine wpAnyB_take (i := 11) (v := ?_) rfl (by decide) (by kernel_rfl) (by kernel_rfl) (by kernel_rfl) (fun _ _ _ h => h) (Or.inl ⟨by rfl, ?hy11⟩) hS3 (fun _ => trivial) ?_
      case hy11 => (intro W hSw; (try dsimp only at hSw); go_simp; try with_reducible rfl)
      (try simp only [Act.put, List.getElem_toArray, List.getElem_cons_zero, List.getElem_cons_succ, List.setIfInBounds_toArray, List.set_cons_zero, List.set_cons_succ])
      refine wpAnyB_take (i := 12) (v := ?_) rfl (by decide) (by kernel_rfl) (by kernel_rfl) (by kernel_rfl) (fun _ _ _ h => h) (Or.inl ⟨by rfl, ?hy12⟩) hS3 (fun _ => trivial) ?_
      case hy12 => (intro W hSw; (try dsimp only at hSw); go_simp; try with_reducible rfl)
      (try simp only [Act.put, List.getElem_toArray, List.getElem_cons_zero, List.getElem_cons_succ, List.setIfInBounds_toArray, List.set_cons_zero, List.set_cons_succ])
      refine wpAnyB_take (i := 13) (v := undef) rfl (by decide) (by kernel_rfl) (by kernel_rfl) (by kernel_rfl) (fun _ _ _ h => h) (Or.inr ⟨by rfl, rfl⟩) hS3 (fun _ => trivial) ?_
      (try simp only [Act.put, List.getElem_toArray, List.getElem_cons_zero, List.getElem_cons_succ, List.setIfInBounds_toArray, List.set_cons_zero, List.set_cons_succ])
      refine wpAnyB_take (i := 14) (v := undef) rfl (by decide) (by kernel_rfl) (by kernel_rfl) (by kernel_rfl) (fun _ _ _ h => h) (Or.inr ⟨by rfl, rfl⟩) hS3 (fun _ => trivial) ?_
      (try simp only [Act.put, List.getElem_toArray, List.getElem_cons_zero, List.getElem_cons_succ, List.setIfInBounds_toArray, List.set_cons_zero, List.set_cons_succ])
      refine wpAnyB_take (i := 15) (v := undef) rfl (by decide) (by kernel_rfl) (by kernel_rfl) (by kernel_rfl) (fun _ _ _ h => h) (Or.inr ⟨by rfl, rfl⟩) hS3 (fun _ => trivial) ?_
      (try simp only [Act.put, List.getElem_toArray, List.getElem_cons_zero, List.getElem_cons_succ, List.setIfInBounds_toArray, List.set_cons_zero, List.set_cons_succ])
      refine wpAnyB_take (i := 16) (v := undef) rfl (by decide) (by kernel_rfl) (by kernel_rfl) (by kernel_rfl) (fun _ _ _ h => h) (Or.inr ⟨by rfl, rfl⟩) hS3 (fun _ => trivial) ?_
      (try simp only [Act.put, List.getElem_toArray, List.getElem_cons_zero, List.getElem_cons_succ, List.setIfInBounds_toArray, List.set_cons_zero, List.set_cons_succ])
      refine wpAnyB_take (i := 17) (v := undef) rfl (by decide) (by kernel_rfl) (by kernel_rfl) (by kernel_rfl) (fun _ _ _ h => h) (Or.inr ⟨by rfl, rfl⟩) hS3 (fun _ => trivial) ?_
      (try simp only [Act.put, List.getElem_toArray, List.getElem_cons_zero, List.getElem_cons_succ, List.setIfInBounds_toArray, List.set_cons_zero, List.set_cons_succ])
      refine wpAnyB_take (i := 18) (v := ?_) rfl (by decide) (by kernel_rfl) (by kernel_rfl) (by kernel_rfl) (fun _ _ _ h => h) (Or.inl ⟨by rfl, ?hy18⟩) hS3 (fun _ => trivial) ?_
      case hy18 => (intro W hSw; (try dsimp only at hSw); go_simp; try with_reducible rfl)
      (try simp only [Act.put, List.getElem_toArray, List.getElem_cons_zero, List.getElem_cons_succ, List.setIfInBounds_toArray, List.set_cons_zero, List.set_cons_succ])
      refine wpAnyB_take (i := 19) (v := ?_) rfl (by decide) (by kernel_rfl) (by kernel_rfl) (by kernel_rfl) (fun _ _ _ h => h) (Or.inl ⟨by rfl, ?hy19⟩) hS3 (fun _ => trivial) ?_
      case hy19 => (intro W hSw; (try dsimp only at hSw); go_simp; try with_reducible rfl)
      (try simp only [Act.put, List.getElem_toArray, List.getElem_cons_zero, List.getElem_cons_succ, List.setIfInBounds_toArray, List.set_cons_zero, List.set_cons_succ])
      refine wpAnyB_take (i := 20) (v := undef) rfl (by decide) (by kernel_rfl) (by kernel_rfl) (by kernel_rfl) (fun _ _ _ h => h) (Or.inr ⟨by rfl, rfl⟩) hS3 (fun _ => trivial) ?_
      (try simp only [Act.put, List.getElem_toArray, List.getElem_cons_zero, List.getElem_cons_succ, List.setIfInBounds_toArray, List.set_cons_zero, List.set_cons_succ])
      refine wpAnyB_take (i := 21) (v := undef) rfl (by decide) (by kernel_rfl) (by kernel_rfl) (by kernel_rfl) (fun _ _ _ h => h) (Or.inr ⟨by rfl, rfl⟩) hS3 (fun _ => trivial) ?_
      (try simp only [Act.put, List.getElem_toArray, List.getElem_cons_zero, List.getElem_cons_succ, List.setIfInBounds_toArray, List.set_cons_zero, List.set_cons_succ])
      refine wpAnyB_take (i := 22) (v := undef) rfl (by decide) (by kernel_rfl) (by kernel_rfl) (by kernel_rfl) (fun _ _ _ h => h) (Or.inr ⟨by rfl, rfl⟩) hS3 (fun _ => trivial) ?_
      (try simp only [Act.put, List.getElem_toArray, List.getElem_cons_zero, List.getElem_cons_succ, List.setIfInBounds_toArray, List.set_cons_zero, List.set_cons_succ])
      refine wpAnyB_take (i := 23) (v := ?_) rfl (by decide) (by kernel_rfl) (by kernel_rfl) (by kernel_rfl) (fun _ _ _ h => h) (Or.inl ⟨by rfl, ?hy23⟩) hS3 (fun _ => trivial) ?_
      case hy23 => (intro W hSw; (try dsimp only at hSw); go_simp; try with_reducible rfl)
      (try simp only [Act.put, List.getElem_toArray, List.getElem_cons_zero, List.getElem_cons_succ, List.setIfInBounds_toArray, List.set_cons_zero, List.set_cons_succ])
      refine wpAnyB_take (i := 24) (v := ?_) rfl (by decide) (by kernel_rfl) (by kernel_rfl) (by kernel_rfl) (fun _ _ _ h => h) (Or.inl ⟨by rfl, ?hy24⟩) hS3 (fun _ => trivial) ?_
      case hy24 => (intro W hSw; (try dsimp only at hSw); go_simp; try with_reducible rfl)
      (try simp only [Act.put, List.getElem_toArray, List.getElem_cons_zero, List.getElem_cons_succ, List.setIfInBounds_toArray, List.set_cons_zero, List.set_cons_succ])
      refine wpAnyB_take (i := 25) (v := ?_) rfl (by decide) (by kernel_rfl) (by kernel_rfl) (by kernel_rfl) (fun _ _ _ h => h) (Or.inl ⟨by rfl, ?hy25⟩) hS3 (fun _ => trivial) ?_
      case hy25 => (intro W hSw; (try dsimp only at hSw); go_simp; try with_reducible rfl)
      (try simp only [Act.put, List.getElem_toArray, List.getElem_cons_zero, List.getElem_cons_succ, List.setIfInBounds_toArray, List.set_cons_zero, List.set_cons_succ])
      refine wpAnyB_end (by kernel_rfl) ?_
      have hB3 := hB0.drew.trans (hb3.mono hB0.size)
      have HFin : Hid (ShapePost xs t p w (.returned (.tuple #[.slice none 0 0, .bool false])) w3) := ⟨_, [], by rw [HNB.out, HE1.out, HE2.out] <;> rfl, hB3, Fresh.nil _ _, fun _ => by rw [HTY.out]; exact Arr.nil⟩
      clear y0 y1 z0 z1 z2 z3 z4 z5 klt klt2
      clear hb3 hS1 hS3 hT1
      go_wp2
      go_ret2
      exact HFin.out
    | true =>
      rw [e2] at hc
      have HE2 := Lib.hid e2
      clear e2
      cases a1 : decide (0 ≤ p.n) with
      | false =>
        have HBa1 := Lib.hid a1
        clear a1
        refine wpAnyB_ready (rs := [5]) (by kernel_rfl) (by simp) ?_
        refine AllReadyB.cons rfl (fun K hK => ?_) AllReadyB.nil
        go_simp
        go_at_call 196
        with_reducible refine hc.mono ?_
        rintro e w3 ⟨rfl, hb3⟩
        have hS3 : Blk w3 w.heap.size 37 #[.int .i64 t.d, .int .i64 t.i] ∧ Blk w3 (w.heap.size + 1) 32 #[.int .i64 p.op, .int .i64 p.ct, .int .i64 p.n, .int .i64 p.m, .int .i64 p.va, .slice A4 p.ks.length cap4] := ⟨hS1.1.same (hb3.block _ hS1.1.lt), hS1.2.same (hb3.block _ hS1.2.lt)⟩
        dsimp only
        refine hK.out _ _ hS3 (fun _ => trivial) ?_
        clear hK K
        (try simp only [Act.put, List.getElem_toArray, List.getElem_cons_zero, List.getElem_cons_succ, List.setIfInBounds_toArray, List.set_cons_zero, List.set_cons_succ])
        refine wpAnyB_take (i := 6) (v := ?_) rfl (by decide) (by kernel_rfl) (by kernel_rfl) (by kernel_rfl) (fun _ _ _ h => h) (Or.inl ⟨by rfl, ?hy6⟩) hS3 (fun _ => trivial) ?_
        case hy6 => (intro W hSw; (try dsimp only at hSw); go_simp; try with_reducible rfl)
        (try simp only [Act.put, List.getElem_toArray, List.getElem_cons_zero, List.getElem_cons_succ, List.setIfInBounds_toArray, List.set_cons_zero, List.set_cons_succ])
        refine wpAnyB_take (i := 7) (v := ?_) rfl (by decide) (by kernel_rfl) (by kernel_rfl) (by kernel_rfl) (fun _ _ _ h => h) (Or.inl ⟨by rfl, ?hy7⟩) hS3 (fun _ => trivial) ?_
        case hy7 => (intro W hSw; (try dsimp only at hSw); go_simp; try with_reducible rfl)
        (try simp only [Act.put, List.getElem_toArray, List.getElem_cons_zero, List.getElem_cons_succ, List.setIfInBounds_toArray, List.set_cons_zero, List.set_cons_succ])
        refine wpAnyB_take (i := 8) (v := ?_) rfl (by decide) (by kernel_rfl) (by kernel_rfl) (by kernel_rfl) (fun _ _ _ h => h) (Or.inl ⟨by rfl, ?hy8⟩) hS3 (fun _ => trivial) ?_
        case hy8 => (intro W hSw; (try dsimp only at hSw); go_simp; try with_reducible rfl)
        (try simp only [Act.put, List.getElem_toArray, List.getElem_cons_zero, List.getElem_cons_succ, List.setIfInBounds_toArray, List.set_cons_zero, List.set_cons_succ])
        refine wpAnyB_take (i := 9) (v := ?_) rfl (by decide) (by kernel_rfl) (by kernel_rfl) (by kernel_rfl) (fun _ _ _ h => h) (Or.inl ⟨by rfl, ?hy9⟩) hS3 (fun _ => trivial) ?_
        case hy9 => (intro W hSw; (try dsimp only at hSw); obtain ⟨kt, kp⟩ := hSw; have y0 : W.cell? ⟨w.heap.size, 0, none⟩ = some (.int .i64 t.d) := (kt.cell 0).trans (by simp); have y1 : W.cell? ⟨w.heap.size, 1, none⟩ = some (.int .i64 t.i) := (kt.cell 1).trans (by simp); have z0 : W.cell? ⟨w.heap.size + 1, 0, none⟩ = some (.int .i64 p.op) := (kp.cell 0).trans (by simp); have z1 : W.cell? ⟨w.heap.size + 1, 1, none⟩ = some (.int .i64 p.ct) := (kp.cell 1).trans (by simp); have z2 : W.cell? ⟨w.heap.size + 1, 2, none⟩ = some (.int .i64 p.n) := (kp.cell 2).trans (by simp); have z3 : W.cell? ⟨w.heap.size + 1, 3, none⟩ = some (.int .i64 p.m) := (kp.cell 3).trans (by simp); have z4 : W.cell? ⟨w.heap.size + 1, 4, none⟩ = some (.int .i64 p.va) := (kp.cell 4).trans (by simp); have z5 : W.cell? ⟨w.heap.size + 1, 5, none⟩ = some (.slice A4 p.ks.length cap4) := (kp.cell 5).trans (by simp);go_simp; try with_reducible rfl)
        (try simp only [Act.put, List.getElem_toArray, List.getElem_cons_zero, List.getElem_cons_succ, List.setIfInBounds_toArray, List.set_cons_zero, List.set_cons_succ])
        refine wpAnyB_take (i := 10) (v := ?_) rfl (by decide) (by kernel_rfl) (by kernel_rfl) (by kernel_rfl) (fun _ _ _ h => h) (Or.inl ⟨by rfl, ?hy10⟩) hS3 (fun _ => trivial) ?_
        case hy10 => (intro W hSw; (try dsimp only at hSw); go_simp; try with_reducible rfl)
        (try simp only [Act.put, List.getElem_toArray, List.getElem_cons_zero, List.getElem_cons_succ, List.setIfInBounds_toArray, List.set_cons_zero, List.set_cons_succ])
        rw [HBa1.out]
        refine wpAnyB_take (i := 11) (v := ?_) rfl (by decide) (by kernel_rfl) (by kernel_rfl) (by kernel_rfl) (fun _ _ _ h => h) (Or.inl ⟨by rfl, ?hy11⟩) hS3 (fun _ => trivial) ?_
        case hy11 => (intro W hSw; (try dsimp only at hSw); go_simp; try with_reducible rfl)
        (try simp only [Act.put, List.getElem_toArray, List.getElem_cons_zero, List.getElem_cons_succ, List.setIfInBounds_toArray, List.set_cons_zero, List.set_cons_succ])
        refine wpAnyB_take (i := 12) (v := ?_) rfl (by decide) (by kernel_rfl) (by kernel_rfl) (by kernel_rfl) (fun _ _ _ h => h) (Or.inl ⟨by rfl, ?hy12⟩) hS3 (fun _ => trivial) ?_
        case hy12 => (intro W hSw; (try dsimp only at hSw); go_simp; try with_reducible rfl)
        (try simp only [Act.put, List.getElem_toArray, List.getElem_cons_zero, List.getElem_cons_succ, List.setIfInBounds_toArray, List.set_cons_zero, List.set_cons_succ])
        refine wpAnyB_take (i := 13) (v := undef) rfl (by decide) (by kernel_rfl) (by kernel_rfl) (by kernel_rfl) (fun _ _ _ h => h) (Or.inr ⟨by rfl, rfl⟩) hS3 (fun _ => trivial) ?_
        (try simp only [Act.put, List.getElem_toArray, List.getElem_cons_zero, List.getElem_cons_succ, List.setIfInBounds_toArray, List.set_cons_zero, List.set_cons_succ])
        refine wpAnyB_take (i := 14) (v := undef) rfl (by decide) (by kernel_rfl) (by kernel_rfl) (by kernel_rfl) (fun _ _ _ h => h) (Or.inr ⟨by rfl, rfl⟩) hS3 (fun _ => trivial) ?_
        (try simp only [Act.put, List.getElem_toArray, List.getElem_cons_zero, List.getElem_cons_succ, List.setIfInBounds_toArray, List.set_cons_zero, List.set_cons_succ])
        refine wpAnyB_take (i := 15) (v := undef) rfl (by decide) (by kernel_rfl) (by kernel_rfl) (by kernel_rfl) (fun _ _ _ h => h) (Or.inr ⟨by rfl, rfl⟩) hS3 (fun _ => trivial) ?_
        (try simp only [Act.put, List.getElem_toArray, List.getElem_cons_zero, List.getElem_cons_succ, List.setIfInBounds_toArray, List.set_cons_zero, List.set_cons_succ])
        refine wpAnyB_take (i := 16) (v := undef) rfl (by decide) (by kernel_rfl) (by kernel_rfl) (by kernel_rfl) (fun _ _ _ h => h) (Or.inr ⟨by rfl, rfl⟩) hS3 (fun _ => trivial) ?_
        (try simp only [Act.put, List.getElem_toArray, List.getElem_cons_zero, List.getElem_cons_succ, List.setIfInBounds_toArray, List.set_cons_zero, List.set_cons_succ])
        refine wpAnyB_take (i := 17) (v := undef) rfl (by decide) (by kernel_rfl) (by kernel_rfl) (by kernel_rfl) (fun _ _ _ h => h) (Or.inr ⟨by rfl, rfl⟩) hS3 (fun _ => trivial) ?_
        (try simp only [Act.put, List.getElem_toArray, List.getElem_cons_zero, List.getElem_cons_succ, List.setIfInBounds_toArray, List.set_cons_zero, List.set_cons_succ])
        refine wpAnyB_take (i := 18) (v := ?_) rfl (by decide) (by kernel_rfl) (by kernel_rfl) (by kernel_rfl) (fun _ _ _ h => h) (Or.inl ⟨by rfl, ?hy18⟩) hS3 (fun _ => trivial) ?_
        case hy18 => (intro W hSw; (try dsimp only at hSw); go_simp; try with_reducible rfl)
        (try simp only [Act.put, List.getElem_toArray, List.getElem_cons_zero, List.getElem_cons_succ, List.setIfInBounds_toArray, List.set_cons_zero, List.set_cons_succ])
        refine wpAnyB_take (i := 19) (v := ?_) rfl (by decide) (by kernel_rfl) (by kernel_rfl) (by kernel_rfl) (fun _ _ _ h => h) (Or.inl ⟨by rfl, ?hy19⟩) hS3 (fun _ => trivial) ?_
        case hy19 => (intro W hSw; (try dsimp only at hSw); go_simp; try with_reducible rfl)
        (try simp only [Act.put, List.getElem_toArray, List.getElem_cons_zero, List.getElem_cons_succ, List.setIfInBounds_toArray, List.set_cons_zero, List.set_cons_succ])
        refine wpAnyB_take (i := 20) (v := undef) rfl (by decide) (by kernel_rfl) (by kernel_rfl) (by kernel_rfl) (fun _ _ _ h => h) (Or.inr ⟨by rfl, rfl⟩) hS3 (fun _ => trivial) ?_
        (try simp only [Act.put, List.getElem_toArray, List.getElem_cons_zero, List.getElem_cons_succ, List.setIfInBounds_toArray, List.set_cons_zero, List.set_cons_succ])
        refine wpAnyB_take (i := 21) (v := undef) rfl (by decide) (by kernel_rfl) (by kernel_rfl) (by kernel_rfl) (fun _ _ _ h => h) (Or.inr ⟨by rfl, rfl⟩) hS3 (fun _ => trivial) ?_
        (try simp only [Act.put, List.getElem_toArray, List.getElem_cons_zero, List.getElem_cons_succ, List.setIfInBounds_toArray, List.set_cons_zero, List.set_cons_succ])
        refine wpAnyB_take (i := 22) (v := undef) rfl (by decide) (by kernel_rfl) (by kernel_rfl) (by kernel_rfl) (fun _ _ _ h => h) (Or.inr ⟨by rfl, rfl⟩) hS3 (fun _ => trivial) ?_
        (try simp only [Act.put, List.getElem_toArray, List.getElem_cons_zero, List.getElem_cons_succ, List.setIfInBounds_toArray, List.set_cons_zero, List.set_cons_succ])
        refine wpAnyB_take (i := 23) (v := ?_) rfl (by decide) (by kernel_rfl) (by kernel_rfl) (by kernel_rfl) (fun _ _ _ h => h) (Or.inl ⟨by rfl, ?hy23⟩) hS3 (fun _ => trivial) ?_
        case hy23 => (intro W hSw; (try dsimp only at hSw); go_simp; try with_reducible rfl)
        (try simp only [Act.put, List.getElem_toArray, List.getElem_cons_zero, List.getElem_cons_succ, List.setIfInBounds_toArray, List.set_cons_zero, List.set_cons_succ])
        refine wpAnyB_take (i := 24) (v := ?_) rfl (by decide) (by kernel_rfl) (by kernel_rfl) (by kernel_rfl) (fun _ _ _ h => h) (Or.inl ⟨by rfl, ?hy24⟩) hS3 (fun _ => trivial) ?_
        case hy24 => (intro W hSw; (try dsimp only at hSw); go_simp; try with_reducible rfl)
        (try simp only [Act.put, List.getElem_toArray, List.getElem_cons_zero, List.getElem_cons_succ, List.setIfInBounds_toArray, List.set_cons_zero, List.set_cons_succ])
        refine wpAnyB_take (i := 25) (v := ?_) rfl (by decide) (by kernel_rfl) (by kernel_rfl) (by kernel_rfl) (fun _ _ _ h => h) (Or.inl ⟨by rfl, ?hy25⟩) hS3 (fun _ => trivial) ?_
        case hy25 => (intro W hSw; (try dsimp only at hSw); go_simp; try with_reducible rfl)
        (try simp only [Act.put, List.getElem_toArray, List.getElem_cons_zero, List.getElem_cons_succ, List.setIfInBounds_toArray, List.set_cons_zero, List.set_cons_succ])
        refine wpAnyB_end (by kernel_rfl) ?_
        have hB3 := hB0.drew.trans (hb3.mono hB0.size)
        have HFin : Hid (ShapePost xs t p w (.returned (.tuple #[.slice none 0 0, .bool false])) w3) := ⟨_, [], by rw [HNB.out, HE1.out, HE2.out, HBa1.out] <;> rfl, hB3, Fresh.nil _ _, fun _ => by rw [HTY.out]; exact Arr.nil⟩
        clear y0 y1 z0 z1 z2 z3 z4 z5 klt klt2
        clear hb3 hS1 hS3 hT1
        go_wp2
        go_ret2
        exact HFin.out
      | true =>
        have HBa1 := Lib.hid a1
        clear a1
        cases a2 : decide (p.n ≤ p.m) with
        | false =>
          have HBa2 := Lib.hid a2
          clear a2
          refine wpAnyB_ready (rs := [5]) (by kernel_rfl) (by simp) ?_
          refine AllReadyB.cons rfl (fun K hK => ?_) AllReadyB.nil
          go_simp
          go_at_call 196
          with_reducible refine hc.mono ?_
          rintro e w3 ⟨rfl, hb3⟩
          have hS3 : Blk w3 w.heap.size 37 #[.int .i64 t.d, .int .i64 t.i] ∧ Blk w3 (w.heap.size + 1) 32 #[.int .i64 p.op, .int .i64 p.ct, .int .i64 p.n, .int .i64 p.m, .int .i64 p.va, .slice A4 p.ks.length cap4] := ⟨hS1.1.same (hb3.block _ hS1.1.lt), hS1.2.same (hb3.block _ hS1.2.lt)⟩
          dsimp only
          refine hK.out _ _ hS3 (fun _ => trivial) ?_
          clear hK K
          (try simp only [Act.put, List.getElem_toArray, List.getElem_cons_zero, List.getElem_cons_succ, List.setIfInBounds_toArray, List.set_cons_zero, List.set_cons_succ])
          refine wpAnyB_take (i := 6) (v := ?_) rfl (by decide) (by kernel_rfl) (by kernel_rfl) (by kernel_rfl) (fun _ _ _ h => h) (Or.inl ⟨by rfl, ?hy6⟩) hS3 (fun _ => trivial) ?_
          case hy6 => (intro W hSw; (try dsimp only at hSw); go_simp; try with_reducible rfl)
          (try simp only [Act.put, List.getElem_toArray, List.getElem_cons_zero, List.getElem_cons_succ, List.setIfInBounds_toArray, List.set_cons_zero, List.set_cons_succ])
          refine wpAnyB_take (i := 7) (v := ?_) rfl (by decide) (by kernel_rfl) (by kernel_rfl) (by kernel_rfl) (fun _ _ _ h => h) (Or.inl ⟨by rfl, ?hy7⟩) hS3 (fun _ => trivial) ?_
          case hy7 => (intro W hSw; (try dsimp only at hSw); go_simp; try with_reducible rfl)
          (try simp only [Act.put, List.getElem_toArray, List.getElem_cons_zero, List.getElem_cons_succ, List.setIfInBounds_toArray, List.set_cons_zero, List.set_cons_succ])
          refine wpAnyB_take (i := 8) (v := ?_) rfl (by decide) (by kernel_rfl) (by kernel_rfl) (by kernel_rfl) (fun _ _ _ h => h) (Or.inl ⟨by rfl, ?hy8⟩) hS3 (fun _ => trivial) ?_
          case hy8 => (intro W hSw; (try dsimp only at hSw); go_simp; try with_reducible rfl)
          (try simp only [Act.put, List.getElem_toArray, List.getElem_cons_zero, List.getElem_cons_succ, List.setIfInBounds_toArray, List.set_cons_zero, List.set_cons_succ])
          refine wpAnyB_take (i := 9) (v := ?_) rfl (by decide) (by kernel_rfl) (by kernel_rfl) (by kernel_rfl) (fun _ _ _ h => h) (Or.inl ⟨by rfl, ?hy9⟩) hS3 (fun _ => trivial) ?_
          case hy9 => (intro W hSw; (try dsimp only at hSw); obtain ⟨kt, kp⟩ := hSw; have y0 : W.cell? ⟨w.heap.size, 0, none⟩ = some (.int .i64 t.d) := (kt.cell 0).trans (by simp); have y1 : W.cell? ⟨w.heap.size, 1, none⟩ = some (.int .i64 t.i) := (kt.cell 1).trans (by simp); have z0 : W.cell? ⟨w.heap.size + 1, 0, none⟩ = some (.int .i64 p.op) := (kp.cell 0).trans (by simp); have z1 : W.cell? ⟨w.heap.size + 1, 1, none⟩ = some (.int .i64 p.ct) := (kp.cell 1).trans (by simp); have z2 : W.cell? ⟨w.heap.size + 1, 2, none⟩ = some (.int .i64 p.n) := (kp.cell 2).trans (by simp); have z3 : W.cell? ⟨w.heap.size + 1, 3, none⟩ = some (.int .i64 p.m) := (kp.cell 3).trans (by simp); have z4 : W.cell? ⟨w.heap.size + 1, 4, none⟩ = some (.int .i64 p.va) := (kp.cell 4).trans (by simp); have z5 : W.cell? ⟨w.heap.size + 1, 5, none⟩ = some (.slice A4 p.ks.length cap4) := (kp.cell 5).trans (by simp);go_simp; try with_reducible rfl)
          (try simp only [Act.put, List.getElem_toArray, List.getElem_cons_zero, List.getElem_cons_succ, List.setIfInBounds_toArray, List.set_cons_zero, List.set_cons_succ])
          refine wpAnyB_take (i := 10) (v := ?_) rfl (by decide) (by kernel_rfl) (by kernel_rfl) (by kernel_rfl) (fun _ _ _ h => h) (Or.inl ⟨by rfl, ?hy10⟩) hS3 (fun _ => trivial) ?_
          case hy10 => (intro W hSw; (try dsimp only at hSw); go_simp; try with_reducible rfl)
          (try simp only [Act.put, List.getElem_toArray, List.getElem_cons_zero, List.getElem_cons_succ, List.setIfInBounds_toArray, List.set_cons_zero, List.set_cons_succ])
          rw [HBa1.out]
          refine wpAnyB_take (i := 11) (v := ?_) rfl (by decide) (by kernel_rfl) (by kernel_rfl) (by kernel_rfl) (fun _ _ _ h => h) (Or.inl ⟨by rfl, ?hy11⟩) hS3 (fun _ => trivial) ?_
          case hy11 => (intro W hSw; (try dsimp only at hSw); go_simp; try with_reducible rfl)
          (try simp only [Act.put, List.getElem_toArray, List.getElem_cons_zero, List.getElem_cons_succ, List.setIfInBounds_toArray, List.set_cons_zero, List.set_cons_succ])
          refine wpAnyB_take (i := 12) (v := ?_) rfl (by decide) (by kernel_rfl) (by kernel_rfl) (by kernel_rfl) (fun _ _ _ h => h) (Or.inl ⟨by rfl, ?hy12⟩) hS3 (fun _ => trivial) ?_
          case hy12 => (intro W hSw; (try dsimp only at hSw); go_simp; try with_reducible rfl)
          (try simp only [Act.put, List.getElem_toArray, List.getElem_cons_zero, List.getElem_cons_succ, List.setIfInBounds_toArray, List.set_cons_zero, List.set_cons_succ])
          refine wpAnyB_take (i := 13) (v := ?_) rfl (by decide) (by kernel_rfl) (by kernel_rfl) (by kernel_rfl) (fun _ _ _ h => h) (Or.inl ⟨by rfl, ?hy13⟩) hS3 (fun _ => trivial) ?_
          case hy13 => (intro W hSw; (try dsimp only at hSw); go_simp; try with_reducible rfl)
          (try simp only [Act.put, List.getElem_toArray, List.getElem_cons_zero, List.getElem_cons_succ, List.setIfInBounds_toArray, List.set_cons_zero, List.set_cons_succ])
          refine wpAnyB_take (i := 14) (v := ?_) rfl (by decide) (by kernel_rfl) (by kernel_rfl) (by kernel_rfl) (fun _ _ _ h => h) (Or.inl ⟨by rfl, ?hy14⟩) hS3 (fun _ => trivial) ?_
          case hy14 => (intro W hSw; (try dsimp only at hSw); obtain ⟨kt, kp⟩ := hSw; have y0 : W.cell? ⟨w.heap.size, 0, none⟩ = some (.int .i64 t.d) := (kt.cell 0).trans (by simp); have y1 : W.cell? ⟨w.heap.size, 1, none⟩ = some (.int .i64 t.i) := (kt.cell 1).trans (by simp); have z0 : W.cell? ⟨w.heap.size + 1, 0, none⟩ = some (.int .i64 p.op) := (kp.cell 0).trans (by simp); have z1 : W.cell? ⟨w.heap.size + 1, 1, none⟩ = some (.int .i64 p.ct) := (kp.cell 1).trans (by simp); have z2 : W.cell? ⟨w.heap.size + 1, 2, none⟩ = some (.int .i64 p.n) := (kp.cell 2).trans (by simp); have z3 : W.cell? ⟨w.heap.size + 1, 3, none⟩ = some (.int .i64 p.m) := (kp.cell 3).trans (by simp); have z4 : W.cell? ⟨w.heap.size + 1, 4, none⟩ = some (.int .i64 p.va) := (kp.cell 4).trans (by simp); have z5 : W.cell? ⟨w.heap.size + 1, 5, none⟩ = some (.slice A4 p.ks.length cap4) := (kp.cell 5).trans (by simp);go_simp; try with_reducible rfl)
          (try simp only [Act.put, List.getElem_toArray, List.getElem_cons_zero, List.getElem_cons_succ, List.setIfInBounds_toArray, List.set_cons_zero, List.set_cons_succ])
          refine wpAnyB_take (i := 15) (v := ?_) rfl (by decide) (by kernel_rfl) (by kernel_rfl) (by kernel_rfl) (fun _ _ _ h => h) (Or.inl ⟨by rfl, ?hy15⟩) hS3 (fun _ => trivial) ?_
          case hy15 => (intro W hSw; (try dsimp only at hSw); go_simp; try with_reducible rfl)
          (try simp only [Act.put, List.getElem_toArray, List.getElem_cons_zero, List.getElem_cons_succ, List.setIfInBounds_toArray, List.set_cons_zero, List.set_cons_succ])
          refine wpAnyB_take (i := 16) (v := ?_) rfl (by decide) (by kernel_rfl) (by kernel_rfl) (by kernel_rfl) (fun _ _ _ h => h) (Or.inl ⟨by rfl, ?hy16⟩) hS3 (fun _ => trivial) ?_
          case hy16 => (intro W hSw; (try dsimp only at hSw); obtain ⟨kt, kp⟩ := hSw; have y0 : W.cell? ⟨w.heap.size, 0, none⟩ = some (.int .i64 t.d) := (kt.cell 0).trans (by simp); have y1 : W.cell? ⟨w.heap.size, 1, none⟩ = some (.int .i64 t.i) := (kt.cell 1).trans (by simp); have z0 : W.cell? ⟨w.heap.size + 1, 0, none⟩ = some (.int .i64 p.op) := (kp.cell 0).trans (by simp); have z1 : W.cell? ⟨w.heap.size + 1, 1, none⟩ = some (.int .i64 p.ct) := (kp.cell 1).trans (by simp); have z2 : W.cell? ⟨w.heap.size + 1, 2, none⟩ = some (.int .i64 p.n) := (kp.cell 2).trans (by simp); have z3 : W.cell? ⟨w.heap.size + 1, 3, none⟩ = some (.int .i64 p.m) := (kp.cell 3).trans (by simp); have z4 : W.cell? ⟨w.heap.size + 1, 4, none⟩ = some (.int .i64 p.va) := (kp.cell 4).trans (by simp); have z5 : W.cell? ⟨w.heap.size + 1, 5, none⟩ = some (.slice A4 p.ks.length cap4) := (kp.cell 5).trans (by simp);go_simp; try with_reducible rfl)
          (try simp only [Act.put, List.getElem_toArray, List.getElem_cons_zero, List.getElem_cons_succ, List.setIfInBounds_toArray, List.set_cons_zero, List.set_cons_succ])
          refine wpAnyB_take (i := 17) (v := ?_) rfl (by decide) (by kernel_rfl) (by kernel_rfl) (by kernel_rfl) (fun _ _ _ h => h) (Or.inl ⟨by rfl, ?hy17⟩) hS3 (fun _ => trivial) ?_
          case hy17 => (intro W hSw; (try dsimp only at hSw); go_simp; try with_reducible rfl)
          (try simp only [Act.put, List.getElem_toArray, List.getElem_cons_zero, List.getElem_cons_succ, List.setIfInBounds_toArray, List.set_cons_zero, List.set_cons_succ])
          rw [HBa2.out]
          refine wpAnyB_take (i := 18) (v := ?_) rfl (by decide) (by kernel_rfl) (by kernel_rfl) (by kernel_rfl) (fun _ _ _ h => h) (Or.inl ⟨by rfl, ?hy18⟩) hS3 (fun _ => trivial) ?_
          case hy18 => (intro W hSw; (try dsimp only at hSw); go_simp; try with_reducible rfl)
          (try simp only [Act.put, List.getElem_toArray, List.getElem_cons_zero, List.getElem_cons_succ, List.setIfInBounds_toArray, List.set_cons_zero, List.set_cons_succ])
          refine wpAnyB_take (i := 19) (v := ?_) rfl (by decide) (by kernel_rfl) (by kernel_rfl) (by kernel_rfl) (fun _ _ _ h => h) (Or.inl ⟨by rfl, ?hy19⟩) hS3 (fun _ => trivial) ?_
          case hy19 => (intro W hSw; (try dsimp only at hSw); go_simp; try with_reducible rfl)
          (try simp only [Act.put, List.getElem_toArray, List.getElem_cons_zero, List.getElem_cons_succ, List.setIfInBounds_toArray, List.set_cons_zero, List.set_cons_succ])
          refine wpAnyB_take (i := 20) (v := undef) rfl (by decide) (by kernel_rfl) (by kernel_rfl) (by kernel_rfl) (fun _ _ _ h => h) (Or.inr ⟨by rfl, rfl⟩) hS3 (fun _ => trivial) ?_
          (try simp only [Act.put, List.getElem_toArray, List.getElem_cons_zero, List.getElem_cons_succ, List.setIfInBounds_toArray, List.set_cons_zero, List.set_cons_succ])
          refine wpAnyB_take (i := 21) (v := undef) rfl (by decide) (by kernel_rfl) (by kernel_rfl) (by kernel_rfl) (fun _ _ _ h => h) (Or.inr ⟨by rfl, rfl⟩) hS3 (fun _ => trivial) ?_
          (try simp only [Act.put, List.getElem_toArray, List.getElem_cons_zero, List.getElem_cons_succ, List.setIfInBounds_toArray, List.set_cons_zero, List.set_cons_succ])
          refine wpAnyB_take (i := 22) (v := undef) rfl (by decide) (by kernel_rfl) (by kernel_rfl) (by kernel_rfl) (fun _ _ _ h => h) (Or.inr ⟨by rfl, rfl⟩) hS3 (fun _ => trivial) ?_
          (try simp only [Act.put, List.getElem_toArray, List.getElem_cons_zero, List.getElem_cons_succ, List.setIfInBounds_toArray, List.set_cons_zero, List.set_cons_succ])
          refine wpAnyB_take (i := 23) (v := ?_) rfl (by decide) (by kernel_rfl) (by kernel_rfl) (by kernel_rfl) (fun _ _ _ h => h) (Or.inl ⟨by rfl, ?hy23⟩) hS3 (fun _ => trivial) ?_
          case hy23 => (intro W hSw; (try dsimp only at hSw); go_simp; try with_reducible rfl)
          (try simp only [Act.put, List.getElem_toArray, List.getElem_cons_zero, List.getElem_cons_succ, List.setIfInBounds_toArray, List.set_cons_zero, List.set_cons_succ])
          refine wpAnyB_take (i := 24) (v := ?_) rfl (by decide) (by kernel_rfl) (by kernel_rfl) (by kernel_rfl) (fun _ _ _ h => h) (Or.inl ⟨by rfl, ?hy24⟩) hS3 (fun _ => trivial) ?_
          case hy24 => (intro W hSw; (try dsimp only at hSw); go_simp; try with_reducible rfl)
          (try simp only [Act.put, List.getElem_toArray, List.getElem_cons_zero, List.getElem_cons_succ, List.setIfInBounds_toArray, List.set_cons_zero, List.set_cons_succ])
          refine wpAnyB_take (i := 25) (v := ?_) rfl (by decide) (by kernel_rfl) (by kernel_rfl) (by kernel_rfl) (fun _ _ _ h => h) (Or.inl ⟨by rfl, ?hy25⟩) hS3 (fun _ => trivial) ?_
          case hy25 => (intro W hSw; (try dsimp only at hSw); go_simp; try with_reducible rfl)
          (try simp only [Act.put, List.getElem_toArray, List.getElem_cons_zero, List.getElem_cons_succ, List.setIfInBounds_toArray, List.set_cons_zero, List.set_cons_succ])
          refine wpAnyB_end (by kernel_rfl) ?_
          have hB3 := hB0.drew.trans (hb3.mono hB0.size)
          have HFin : Hid (ShapePost xs t p w (.returned (.tuple #[.slice none 0 0, .bool false])) w3) := ⟨_, [], by rw [HNB.out, HE1.out, HE2.out, HBa1.out, HBa2.out] <;> rfl, hB3, Fresh.nil _ _, fun _ => by rw [HTY.out]; exact Arr.nil⟩
          clear y0 y1 z0 z1 z2 z3 z4 z5 klt klt2
          clear hb3 hS1 hS3 hT1
          go_wp2
          go_ret2
          exact HFin.out
        | true =>
          have HBa2 := Lib.hid a2
          clear a2
          cases a3 : decide (p.m ≤ 9) with
          | false =>
            have HBa3 := Lib.hid a3
            clear a3
            refine wpAnyB_ready (rs := [5]) (by kernel_rfl) (by simp) ?_
            refine AllReadyB.cons rfl (fun K hK => ?_) AllReadyB.nil
            go_simp
            go_at_call 196
            with_reducible refine hc.mono ?_
            rintro e w3 ⟨rfl, hb3⟩
            have hS3 : Blk w3 w.heap.size 37 #[.int .i64 t.d, .int .i64 t.i] ∧ Blk w3 (w.heap.size + 1) 32 #[.int .i64 p.op, .int .i64 p.ct, .int .i64 p.n, .int .i64 p.m, .int .i64 p.va, .slice A4 p.ks.length cap4] := ⟨hS1.1.same (hb3.block _ hS1.1.lt), hS1.2.same (hb3.block _ hS1.2.lt)⟩
            dsimp only
            refine hK.out _ _ hS3 (fun _ => trivial) ?_
            clear hK K
            (try simp only [Act.put, List.getElem_toArray, List.getElem_cons_zero, List.getElem_cons_succ, List.setIfInBounds_toArray, List.set_cons_zero, List.set_cons_succ])
            refine wpAnyB_take (i := 6) (v := ?_) rfl (by decide) (by kernel_rfl) (by kernel_rfl) (by kernel_rfl) (fun _ _ _ h => h) (Or.inl ⟨by rfl, ?hy6⟩) hS3 (fun _ => trivial) ?_
            case hy6 => (intro W hSw; (try dsimp only at hSw); go_simp; try with_reducible rfl)
            (try simp only [Act.put, List.getElem_toArray, List.getElem_cons_zero, List.getElem_cons_succ, List.setIfInBounds_toArray, List.set_cons_zero, List.set_cons_succ])
            refine wpAnyB_take (i := 7) (v := ?_) rfl (by decide) (by kernel_rfl) (by kernel_rfl) (by kernel_rfl) (fun _ _ _ h => h) (Or.inl ⟨by rfl, ?hy7⟩) hS3 (fun _ => trivial) ?_
            case hy7 => (intro W hSw; (try dsimp only at hSw); go_simp; try with_reducible rfl)
            (try simp only [Act.put, List.getElem_toArray, List.getElem_cons_zero, List.getElem_cons_succ, List.setIfInBounds_toArray, List.set_cons_zero, List.set_cons_succ])
            refine wpAnyB_take (i := 8) (v := ?_) rfl (by decide) (by kernel_rfl) (by kernel_rfl) (by kernel_rfl) (fun _ _ _ h => h) (Or.inl ⟨by rfl, ?hy8⟩) hS3 (fun _ => trivial) ?_
            case hy8 => (intro W hSw; (try dsimp only at hSw); go_simp; try with_reducible rfl)
            (try simp only [Act.put, List.getElem_toArray, List.getElem_cons_zero, List.getElem_cons_succ, List.setIfInBounds_toArray, List.set_cons_zero, List.set_cons_succ])
            refine wpAnyB_take (i := 9) (v := ?_) rfl (by decide) (by kernel_rfl) (by kernel_rfl) (by kernel_rfl) (fun _ _ _ h => h) (Or.inl ⟨by rfl, ?hy9⟩) hS3 (fun _ => trivial) ?_
            case hy9 => (intro W hSw; (try dsimp only at hSw); obtain ⟨kt, kp⟩ := hSw; have y0 : W.cell? ⟨w.heap.size, 0, none⟩ = some (.int .i64 t.d) := (kt.cell 0).trans (by simp); have y1 : W.cell? ⟨w.heap.size, 1, none⟩ = some (.int .i64 t.i) := (kt.cell 1).trans (by simp); have z0 : W.cell? ⟨w.heap.size + 1, 0, none⟩ = some (.int .i64 p.op) := (kp.cell 0).trans (by simp); have z1 : W.cell? ⟨w.heap.size + 1, 1, none⟩ = some (.int .i64 p.ct) := (kp.cell 1).trans (by simp); have z2 : W.cell? ⟨w.heap.size + 1, 2, none⟩ = some (.int .i64 p.n) := (kp.cell 2).trans (by simp); have z3 : W.cell? ⟨w.heap.size + 1, 3, none⟩ = some (.int .i64 p.m) := (kp.cell 3).trans (by simp); have z4 : W.cell? ⟨w.heap.size + 1, 4, none⟩ = some (.int .i64 p.va) := (kp.cell 4).trans (by simp); have z5 : W.cell? ⟨w.heap.size + 1, 5, none⟩ = some (.slice A4 p.ks.length cap4) := (kp.cell 5).trans (by simp);go_simp; try with_reducible rfl)
            (try simp only [Act.put, List.getElem_toArray, List.getElem_cons_zero, List.getElem_cons_succ, List.setIfInBounds_toArray, List.set_cons_zero, List.set_cons_succ])
            refine wpAnyB_take (i := 10) (v := ?_) rfl (by decide) (by kernel_rfl) (by kernel_rfl) (by kernel_rfl) (fun _ _ _ h => h) (Or.inl ⟨by rfl, ?hy10⟩) hS3 (fun _ => trivial) ?_
            case hy10 => (intro W hSw; (try dsimp only at hSw); go_simp; try with_reducible rfl)
            (try simp only [Act.put, List.getElem_toArray, List.getElem_cons_zero, List.getElem_cons_succ, List.setIfInBounds_toArray, List.set_cons_zero, List.set_cons_succ])
            rw [HBa1.out]
            refine wpAnyB_take (i := 11) (v := ?_) rfl (by decide) (by kernel_rfl) (by kernel_rfl) (by kernel_rfl) (fun _ _ _ h => h) (Or.inl ⟨by rfl, ?hy11⟩) hS3 (fun _ => trivial) ?_
            case hy11 => (intro W hSw; (try dsimp only at hSw); go_simp; try with_reducible rfl)
            (try simp only [Act.put, List.getElem_toArray, List.getElem_cons_zero, List.getElem_cons_succ, List.setIfInBounds_toArray, List.set_cons_zero, List.set_cons_succ])
            refine wpAnyB_take (i := 12) (v := ?_) rfl (by decide) (by kernel_rfl) (by kernel_rfl) (by kernel_rfl) (fun _ _ _ h => h) (Or.inl ⟨by rfl, ?hy12⟩) hS3 (fun _ => trivial) ?_
            case hy12 => (intro W hSw; (try dsimp only at hSw); go_simp; try with_reducible rfl)
            (try simp only [Act.put, List.getElem_toArray, List.getElem_cons_zero, List.getElem_cons_succ, List.setIfInBounds_toArray, List.set_cons_zero, List.set_cons_succ])
            refine wpAnyB_take (i := 13) (v := ?_) rfl (by decide) (by kernel_rfl) (by kernel_rfl) (by kernel_rfl) (fun _ _ _ h => h) (Or.inl ⟨by rfl, ?hy13⟩) hS3 (fun _ => trivial) ?_
            case hy13 => (intro W hSw; (try dsimp only at hSw); go_simp; try with_reducible rfl)
            (try simp only [Act.put, List.getElem_toArray, List.getElem_cons_zero, List.getElem_cons_succ, List.setIfInBounds_toArray, List.set_cons_zero, List.set_cons_succ])
            refine wpAnyB_take (i := 14) (v := ?_) rfl (by decide) (by kernel_rfl) (by kernel_rfl) (by kernel_rfl) (fun _ _ _ h => h) (Or.inl ⟨by rfl, ?hy14⟩) hS3 (fun _ => trivial) ?_
            case hy14 => (intro W hSw; (try dsimp only at hSw); obtain ⟨kt, kp⟩ := hSw; have y0 : W.cell? ⟨w.heap.size, 0, none⟩ = some (.int .i64 t.d) := (kt.cell 0).trans (by simp); have y1 : W.cell? ⟨w.heap.size, 1, none⟩ = some (.int .i64 t.i) := (kt.cell 1).trans (by simp); have z0 : W.cell? ⟨w.heap.size + 1, 0, none⟩ = some (.int .i64 p.op) := (kp.cell 0).trans (by simp); have z1 : W.cell? ⟨w.heap.size + 1, 1, none⟩ = some (.int .i64 p.ct) := (kp.cell 1).trans (by simp); have z2 : W.cell? ⟨w.heap.size + 1, 2, none⟩ = some (.int .i64 p.n) := (kp.cell 2).trans (by simp); have z3 : W.cell? ⟨w.heap.size + 1, 3, none⟩ = some (.int .i64 p.m) := (kp.cell 3).trans (by simp); have z4 : W.cell? ⟨w.heap.size + 1, 4, none⟩ = some (.int .i64 p.va) := (kp.cell 4).trans (by simp); have z5 : W.cell? ⟨w.heap.size + 1, 5, none⟩ = some (.slice A4 p.ks.length cap4) := (kp.cell 5).trans (by simp);go_simp; try with_reducible rfl)
            (try simp only [Act.put, List.getElem_toArray, List.getElem_cons_zero, List.getElem_cons_succ, List.setIfInBounds_toArray, List.set_cons_zero, List.set_cons_succ])
            refine wpAnyB_take (i := 15) (v := ?_) rfl (by decide) (by kernel_rfl) (by kernel_rfl) (by kernel_rfl) (fun _ _ _ h => h) (Or.inl ⟨by rfl, ?hy15⟩) hS3 (fun _ => trivial) ?_
            case hy15 => (intro W hSw; (try dsimp only at hSw); go_simp; try with_reducible rfl)
            (try simp only [Act.put, List.getElem_toArray, List.getElem_cons_zero, List.getElem_cons_succ, List.setIfInBounds_toArray, List.set_cons_zero, List.set_cons_succ])
            refine wpAnyB_take (i := 16) (v := ?_) rfl (by decide) (by kernel_rfl) (by kernel_rfl) (by kernel_rfl) (fun _ _ _ h => h) (Or.inl ⟨by rfl, ?hy16⟩) hS3 (fun _ => trivial) ?_
            case hy16 => (intro W hSw; (try dsimp only at hSw); obtain ⟨kt, kp⟩ := hSw; have y0 : W.cell? ⟨w.heap.size, 0, none⟩ = some (.int .i64 t.d) := (kt.cell 0).trans (by simp); have y1 : W.cell? ⟨w.heap.size, 1, none⟩ = some (.int .i64 t.i) := (kt.cell 1).trans (by simp); have z0 : W.cell? ⟨w.heap.size + 1, 0, none⟩ = some (.int .i64 p.op) := (kp.cell 0).trans (by simp); have z1 : W.cell? ⟨w.heap.size + 1, 1, none⟩ = some (.int .i64 p.ct) := (kp.cell 1).trans (by simp); have z2 : W.cell? ⟨w.heap.size + 1, 2, none⟩ = some (.int .i64 p.n) := (kp.cell 2).trans (by simp); have z3 : W.cell? ⟨w.heap.size + 1, 3, none⟩ = some (.int .i64 p.m) := (kp.cell 3).trans (by simp); have z4 : W.cell? ⟨w.heap.size + 1, 4, none⟩ = some (.int .i64 p.va) := (kp.cell 4).trans (by simp); have z5 : W.cell? ⟨w.heap.size + 1, 5, none⟩ = some (.slice A4 p.ks.length cap4) := (kp.cell 5).trans (by simp);go_simp; try with_reducible rfl)
            (try simp only [Act.put, List.getElem_toArray, List.getElem_cons_zero, List.getElem_cons_succ, List.setIfInBounds_toArray, List.set_cons_zero, List.set_cons_succ])
            refine wpAnyB_take (i := 17) (v := ?_) rfl (by decide) (by kernel_rfl) (by kernel_rfl) (by kernel_rfl) (fun _ _ _ h => h) (Or.inl ⟨by rfl, ?hy17⟩) hS3 (fun _ => trivial) ?_
            case hy17 => (intro W hSw; (try dsimp only at hSw); go_simp; try with_reducible rfl)
            (try simp only [Act.put, List.getElem_toArray, List.getElem_cons_zero, List.getElem_cons_succ, List.setIfInBounds_toArray, List.set_cons_zero, List.set_cons_succ])
            rw [HBa2.out]
            refine wpAnyB_take (i := 18) (v := ?_) rfl (by decide) (by kernel_rfl) (by kernel_rfl) (by kernel_rfl) (fun _ _ _ h => h) (Or.inl ⟨by rfl, ?hy18⟩) hS3 (fun _ => trivial) ?_
            case hy18 => (intro W hSw; (try dsimp only at hSw); go_simp; try with_reducible rfl)
            (try simp only [Act.put, List.getElem_toArray, List.getElem_cons_zero, List.getElem_cons_succ, List.setIfInBounds_toArray, List.set_cons_zero, List.set_cons_succ])
            refine wpAnyB_take (i := 19) (v := ?_) rfl (by decide) (by kernel_rfl) (by kernel_rfl) (by kernel_rfl) (fun _ _ _ h => h) (Or.inl ⟨by rfl, ?hy19⟩) hS3 (fun _ => trivial) ?_
            case hy19 => (intro W hSw; (try dsimp only at hSw); go_simp; try with_reducible rfl)
            (try simp only [Act.put, List.getElem_toArray, List.getElem_cons_zero, List.getElem_cons_succ, List.setIfInBounds_toArray, List.set_cons_zero, List.set_cons_succ])
            refine wpAnyB_take (i := 20) (v := ?_) rfl (by decide) (by kernel_rfl) (by kernel_rfl) (by kernel_rfl) (fun _ _ _ h => h) (Or.inl ⟨by rfl, ?hy20⟩) hS3 (fun _ => trivial) ?_
            case hy20 => (intro W hSw; (try dsimp only at hSw); go_simp; try with_reducible rfl)
            (try simp only [Act.put, List.getElem_toArray, List.getElem_cons_zero, List.getElem_cons_succ, List.setIfInBounds_toArray, List.set_cons_zero, List.set_cons_succ])
            refine wpAnyB_take (i := 21) (v := ?_) rfl (by decide) (by kernel_rfl) (by kernel_rfl) (by kernel_rfl) (fun _ _ _ h => h) (Or.inl ⟨by rfl, ?hy21⟩) hS3 (fun _ => trivial) ?_
            case hy21 => (intro W hSw; (try dsimp only at hSw); obtain ⟨kt, kp⟩ := hSw; have y0 : W.cell? ⟨w.heap.size, 0, none⟩ = some (.int .i64 t.d) := (kt.cell 0).trans (by simp); have y1 : W.cell? ⟨w.heap.size, 1, none⟩ = some (.int .i64 t.i) := (kt.cell 1).trans (by simp); have z0 : W.cell? ⟨w.heap.size + 1, 0, none⟩ = some (.int .i64 p.op) := (kp.cell 0).trans (by simp); have z1 : W.cell? ⟨w.heap.size + 1, 1, none⟩ = some (.int .i64 p.ct) := (kp.cell 1).trans (by simp); have z2 : W.cell? ⟨w.heap.size + 1, 2, none⟩ = some (.int .i64 p.n) := (kp.cell 2).trans (by simp); have z3 : W.cell? ⟨w.heap.size + 1, 3, none⟩ = some (.int .i64 p.m) := (kp.cell 3).trans (by simp); have z4 : W.cell? ⟨w.heap.size + 1, 4, none⟩ = some (.int .i64 p.va) := (kp.cell 4).trans (by simp); have z5 : W.cell? ⟨w.heap.size + 1, 5, none⟩ = some (.slice A4 p.ks.length cap4) := (kp.cell 5).trans (by simp);go_simp; try with_reducible rfl)
            (try simp only [Act.put, List.getElem_toArray, List.getElem_cons_zero, List.getElem_cons_succ, List.setIfInBounds_toArray, List.set_cons_zero, List.set_cons_succ])
            refine wpAnyB_take (i := 22) (v := ?_) rfl (by decide) (by kernel_rfl) (by kernel_rfl) (by kernel_rfl) (fun _ _ _ h => h) (Or.inl ⟨by rfl, ?hy22⟩) hS3 (fun _ => trivial) ?_
            case hy22 => (intro W hSw; (try dsimp only at hSw); go_simp; try with_reducible rfl)
            (try simp only [Act.put, List.getElem_toArray, List.getElem_cons_zero, List.getElem_cons_succ, List.setIfInBounds_toArray, List.set_cons_zero, List.set_cons_succ])
            rw [HBa3.out]
            refine wpAnyB_take (i := 23) (v := ?_) rfl (by decide) (by kernel_rfl) (by kernel_rfl) (by kernel_rfl) (fun _ _ _ h => h) (Or.inl ⟨by rfl, ?hy23⟩) hS3 (fun _ => trivial) ?_
            case hy23 => (intro W hSw; (try dsimp only at hSw); go_simp; try with_reducible rfl)
            (try simp only [Act.put, List.getElem_toArray, List.getElem_cons_zero, List.getElem_cons_succ, List.setIfInBounds_toArray, List.set_cons_zero, List.set_cons_succ])
            refine wpAnyB_take (i := 24) (v := ?_) rfl (by decide) (by kernel_rfl) (by kernel_rfl) (by kernel_rfl) (fun _ _ _ h => h) (Or.inl ⟨by rfl, ?hy24⟩) hS3 (fun _ => trivial) ?_
            case hy24 => (intro W hSw; (try dsimp only at hSw); go_simp; try with_reducible rfl)
            (try simp only [Act.put, List.getElem_toArray, List.getElem_cons_zero, List.getElem_cons_succ, List.setIfInBounds_toArray, List.set_cons_zero, List.set_cons_succ])
            refine wpAnyB_take (i := 25) (v := ?_) rfl (by decide) (by kernel_rfl) (by kernel_rfl) (by kernel_rfl) (fun _ _ _ h => h) (Or.inl ⟨by rfl, ?hy25⟩) hS3 (fun _ => trivial) ?_
            case hy25 => (intro W hSw; (try dsimp only at hSw); go_simp; try with_reducible rfl)
            (try simp only [Act.put, List.getElem_toArray, List.getElem_cons_zero, List.getElem_cons_succ, List.setIfInBounds_toArray, List.set_cons_zero, List.set_cons_succ])
            refine wpAnyB_end (by kernel_rfl) ?_
            have hB3 := hB0.drew.trans (hb3.mono hB0.size)
            have HFin : Hid (ShapePost xs t p w (.returned (.tuple #[.slice none 0 0, .bool false])) w3) := ⟨_, [], by rw [HNB.out, HE1.out, HE2.out, HBa1.out, HBa2.out, HBa3.out] <;> rfl, hB3, Fresh.nil _ _, fun _ => by rw [HTY.out]; exact Arr.nil⟩
            clear y0 y1 z0 z1 z2 z3 z4 z5 klt klt2
            clear hb3 hS1 hS3 hT1
            go_wp2
            go_ret2
            exact HFin.out
          | true =>
            have HBa3 := Lib.hid a3
            clear a3
            refine wpAnyB_ready (rs := [5]) (by kernel_rfl) (by simp) ?_
            refine AllReadyB.cons rfl (fun K hK => ?_) AllReadyB.nil
            go_simp
            go_at_call 196
            with_reducible refine hc.mono ?_
            rintro e w3 ⟨rfl, hb3⟩
            have hS3 : Blk w3 w.heap.size 37 #[.int .i64 t.d, .int .i64 t.i] ∧ Blk w3 (w.heap.size + 1) 32 #[.int .i64 p.op, .int .i64 p.ct, .int .i64 p.n, .int .i64 p.m, .int .i64 p.va, .slice A4 p.ks.length cap4] := ⟨hS1.1.same (hb3.block _ hS1.1.lt), hS1.2.same (hb3.block _ hS1.2.lt)⟩
            dsimp only
            refine hK.out _ _ hS3 (fun _ => trivial) ?_
            clear hK K
            (try simp only [Act.put, List.getElem_toArray, List.getElem_cons_zero, List.getElem_cons_succ, List.setIfInBounds_toArray, List.set_cons_zero, List.set_cons_succ])
            refine wpAnyB_take (i := 6) (v := ?_) rfl (by decide) (by kernel_rfl) (by kernel_rfl) (by kernel_rfl) (fun _ _ _ h => h) (Or.inl ⟨by rfl, ?hy6⟩) hS3 (fun _ => trivial) ?_
            case hy6 => (intro W hSw; (try dsimp only at hSw); go_simp; try with_reducible rfl)
            (try simp only [Act.put, List.getElem_toArray, List.getElem_cons_zero, List.getElem_cons_succ, List.setIfInBounds_toArray, List.set_cons_zero, List.set_cons_succ])
            refine wpAnyB_take (i := 7) (v := ?_) rfl (by decide) (by kernel_rfl) (by kernel_rfl) (by kernel_rfl) (fun _ _ _ h => h) (Or.inl ⟨by rfl, ?hy7⟩) hS3 (fun _ => trivial) ?_
            case hy7 => (intro W hSw; (try dsimp only at hSw); go_simp; try with_reducible rfl)
            (try simp only [Act.put, List.getElem_toArray, List.getElem_cons_zero, List.getElem_cons_succ, List.setIfInBounds_toArray, List.set_cons_zero, List.set_cons_succ])
            refine wpAnyB_take (i := 8) (v := ?_) rfl (by decide) (by kernel_rfl) (by kernel_rfl) (by kernel_rfl) (fun _ _ _ h => h) (Or.inl ⟨by rfl, ?hy8⟩) hS3 (fun _ => trivial) ?_
            case hy8 => (intro W hSw; (try dsimp only at hSw); go_simp; try with_reducible rfl)
            (try simp only [Act.put, List.getElem_toArray, List.getElem_cons_zero, List.getElem_cons_succ, List.setIfInBounds_toArray, List.set_cons_zero, List.set_cons_succ])
            refine wpAnyB_take (i := 9) (v := ?_) rfl (by decide) (by kernel_rfl) (by kernel_rfl) (by kernel_rfl) (fun _ _ _ h => h) (Or.inl ⟨by rfl, ?hy9⟩) hS3 (fun _ => trivial) ?_
            case hy9 => (intro W hSw; (try dsimp only at hSw); obtain ⟨kt, kp⟩ := hSw; have y0 : W.cell? ⟨w.heap.size, 0, none⟩ = some (.int .i64 t.d) := (kt.cell 0).trans (by simp); have y1 : W.cell? ⟨w.heap.size, 1, none⟩ = some (.int .i64 t.i) := (kt.cell 1).trans (by simp); have z0 : W.cell? ⟨w.heap.size + 1, 0, none⟩ = some (.int .i64 p.op) := (kp.cell 0).trans (by simp); have z1 : W.cell? ⟨w.heap.size + 1, 1, none⟩ = some (.int .i64 p.ct) := (kp.cell 1).trans (by simp); have z2 : W.cell? ⟨w.heap.size + 1, 2, none⟩ = some (.int .i64 p.n) := (kp.cell 2).trans (by simp); have z3 : W.cell? ⟨w.heap.size + 1, 3, none⟩ = some (.int .i64 p.m) := (kp.cell 3).trans (by simp); have z4 : W.cell? ⟨w.heap.size + 1, 4, none⟩ = some (.int .i64 p.va) := (kp.cell 4).trans (by simp); have z5 : W.cell? ⟨w.heap.size + 1, 5, none⟩ = some (.slice A4 p.ks.length cap4) := (kp.cell 5).trans (by simp);go_simp; try with_reducible rfl)
            (try simp only [Act.put, List.getElem_toArray, List.getElem_cons_zero, List.getElem_cons_succ, List.setIfInBounds_toArray, List.set_cons_zero, List.set_cons_succ])
            refine wpAnyB_take (i := 10) (v := ?_) rfl (by decide) (by kernel_rfl) (by kernel_rfl) (by kernel_rfl) (fun _ _ _ h => h) (Or.inl ⟨by rfl, ?hy10⟩) hS3 (fun _ => trivial) ?_
            case hy10 => (intro W hSw; (try dsimp only at hSw); go_simp; try with_reducible rfl)
            (try simp only [Act.put, List.getElem_toArray, List.getElem_cons_zero, List.getElem_cons_succ, List.setIfInBounds_toArray, List.set_cons_zero, List.set_cons_succ])
            rw [HBa1.out]
            refine wpAnyB_take (i := 11) (v := ?_) rfl (by decide) (by kernel_rfl) (by kernel_rfl) (by kernel_rfl) (fun _ _ _ h => h) (Or.inl ⟨by rfl, ?hy11⟩) hS3 (fun _ => trivial) ?_
            case hy11 => (intro W hSw; (try dsimp only at hSw); go_simp; try with_reducible rfl)
            (try simp only [Act.put, List.getElem_toArray, List.getElem_cons_zero, List.getElem_cons_succ, List.setIfInBounds_toArray, List.set_cons_zero, List.set_cons_succ])
            refine wpAnyB_take (i := 12) (v := ?_) rfl (by decide) (by kernel_rfl) (by kernel_rfl) (by kernel_rfl) (fun _ _ _ h => h) (Or.inl ⟨by rfl, ?hy12⟩) hS3 (fun _ => trivial) ?_
            case hy12 => (intro W hSw; (try dsimp only at hSw); go_simp; try with_reducible rfl)
            (try simp only [Act.put, List.getElem_toArray, List.getElem_cons_zero, List.getElem_cons_succ, List.setIfInBounds_toArray, List.set_cons_zero, List.set_cons_succ])
            refine wpAnyB_take (i := 13) (v := ?_) rfl (by decide) (by kernel_rfl) (by kernel_rfl) (by kernel_rfl) (fun _ _ _ h => h) (Or.inl ⟨by rfl, ?hy13⟩) hS3 (fun _ => trivial) ?_
            case hy13 => (intro W hSw; (try dsimp only at hSw); go_simp; try with_reducible rfl)
            (try simp only [Act.put, List.getElem_toArray, List.getElem_cons_zero, List.getElem_cons_succ, List.setIfInBounds_toArray, List.set_cons_zero, List.set_cons_succ])
            refine wpAnyB_take (i := 14) (v := ?_) rfl (by decide) (by kernel_rfl) (by kernel_rfl) (by kernel_rfl) (fun _ _ _ h => h) (Or.inl ⟨by rfl, ?hy14⟩) hS3 (fun _ => trivial) ?_
            case hy14 => (intro W hSw; (try dsimp only at hSw); obtain ⟨kt, kp⟩ := hSw; have y0 : W.cell? ⟨w.heap.size, 0, none⟩ = some (.int .i64 t.d) := (kt.cell 0).trans (by simp); have y1 : W.cell? ⟨w.heap.size, 1, none⟩ = some (.int .i64 t.i) := (kt.cell 1).trans (by simp); have z0 : W.cell? ⟨w.heap.size + 1, 0, none⟩ = some (.int .i64 p.op) := (kp.cell 0).trans (by simp); have z1 : W.cell? ⟨w.heap.size + 1, 1, none⟩ = some (.int .i64 p.ct) := (kp.cell 1).trans (by simp); have z2 : W.cell? ⟨w.heap.size + 1, 2, none⟩ = some (.int .i64 p.n) := (kp.cell 2).trans (by simp); have z3 : W.cell? ⟨w.heap.size + 1, 3, none⟩ = some (.int .i64 p.m) := (kp.cell 3).trans (by simp); have z4 : W.cell? ⟨w.heap.size + 1, 4, none⟩ = some (.int .i64 p.va) := (kp.cell 4).trans (by simp); have z5 : W.cell? ⟨w.heap.size + 1, 5, none⟩ = some (.slice A4 p.ks.length cap4) := (kp.cell 5).trans (by simp);go_simp; try with_reducible rfl)
            (try simp only [Act.put, List.getElem_toArray, List.getElem_cons_zero, List.getElem_cons_succ, List.setIfInBounds_toArray, List.set_cons_zero, List.set_cons_succ])
            refine wpAnyB_take (i := 15) (v := ?_) rfl (by decide) (by kernel_rfl) (by kernel_rfl) (by kernel_rfl) (fun _ _ _ h => h) (Or.inl ⟨by rfl, ?hy15⟩) hS3 (fun _ => trivial) ?_
            case hy15 => (intro W hSw; (try dsimp only at hSw); go_simp; try with_reducible rfl)
            (try simp only [Act.put, List.getElem_toArray, List.getElem_cons_zero, List.getElem_cons_succ, List.setIfInBounds_toArray, List.set_cons_zero, List.set_cons_succ])
            refine wpAnyB_take (i := 16) (v := ?_) rfl (by decide) (by kernel_rfl) (by kernel_rfl) (by kernel_rfl) (fun _ _ _ h => h) (Or.inl ⟨by rfl, ?hy16⟩) hS3 (fun _ => trivial) ?_
            case hy16 => (intro W hSw; (try dsimp only at hSw); obtain ⟨kt, kp⟩ := hSw; have y0 : W.cell? ⟨w.heap.size, 0, none⟩ = some (.int .i64 t.d) := (kt.cell 0).trans (by simp); have y1 : W.cell? ⟨w.heap.size, 1, none⟩ = some (.int .i64 t.i) := (kt.cell 1).trans (by simp); have z0 : W.cell? ⟨w.heap.size + 1, 0, none⟩ = some (.int .i64 p.op) := (kp.cell 0).trans (by simp); have z1 : W.cell? ⟨w.heap.size + 1, 1, none⟩ = some (.int .i64 p.ct) := (kp.cell 1).trans (by simp); have z2 : W.cell? ⟨w.heap.size + 1, 2, none⟩ = some (.int .i64 p.n) := (kp.cell 2).trans (by simp); have z3 : W.cell? ⟨w.heap.size + 1, 3, none⟩ = some (.int .i64 p.m) := (kp.cell 3).trans (by simp); have z4 : W.cell? ⟨w.heap.size + 1, 4, none⟩ = some (.int .i64 p.va) := (kp.cell 4).trans (by simp); have z5 : W.cell? ⟨w.heap.size + 1, 5, none⟩ = some (.slice A4 p.ks.length cap4) := (kp.cell 5).trans (by simp);go_simp; try with_reducible rfl)
            (try simp only [Act.put, List.getElem_toArray, List.getElem_cons_zero, List.getElem_cons_succ, List.setIfInBounds_toArray, List.set_cons_zero, List.set_cons_succ])
            refine wpAnyB_take (i := 17) (v := ?_) rfl (by decide) (by kernel_rfl) (by kernel_rfl) (by kernel_rfl) (fun _ _ _ h => h) (Or.inl ⟨by rfl, ?hy17⟩) hS3 (fun _ => trivial) ?_
            case hy17 => (intro W hSw; (try dsimp only at hSw); go_simp; try with_reducible rfl)
            (try simp only [Act.put, List.getElem_toArray, List.getElem_cons_zero, List.getElem_cons_succ, List.setIfInBounds_toArray, List.set_cons_zero, List.set_cons_succ])
            rw [HBa2.out]
            refine wpAnyB_take (i := 18) (v := ?_) rfl (by decide) (by kernel_rfl) (by kernel_rfl) (by kernel_rfl) (fun _ _ _ h => h) (Or.inl ⟨by rfl, ?hy18⟩) hS3 (fun _ => trivial) ?_
            case hy18 => (intro W hSw; (try dsimp only at hSw); go_simp; try with_reducible rfl)
            (try simp only [Act.put, List.getElem_toArray, List.getElem_cons_zero, List.getElem_cons_succ, List.setIfInBounds_toArray, List.set_cons_zero, List.set_cons_succ])
            refine wpAnyB_take (i := 19) (v := ?_) rfl (by decide) (by kernel_rfl) (by kernel_rfl) (by kernel_rfl) (fun _ _ _ h => h) (Or.inl ⟨by rfl, ?hy19⟩) hS3 (fun _ => trivial) ?_
            case hy19 => (intro W hSw; (try dsimp only at hSw); go_simp; try with_reducible rfl)
            (try simp only [Act.put, List.getElem_toArray, List.getElem_cons_zero, List.getElem_cons_succ, List.setIfInBounds_toArray, List.set_cons_zero, List.set_cons_succ])
            refine wpAnyB_take (i := 20) (v := ?_) rfl (by decide) (by kernel_rfl) (by kernel_rfl) (by kernel_rfl) (fun _ _ _ h => h) (Or.inl ⟨by rfl, ?hy20⟩) hS3 (fun _ => trivial) ?_
            case hy20 => (intro W hSw; (try dsimp only at hSw); go_simp; try with_reducible rfl)
            (try simp only [Act.put, List.getElem_toArray, List.getElem_cons_zero, List.getElem_cons_succ, List.setIfInBounds_toArray, List.set_cons_zero, List.set_cons_succ])
            refine wpAnyB_take (i := 21) (v := ?_) rfl (by decide) (by kernel_rfl) (by kernel_rfl) (by kernel_rfl) (fun _ _ _ h => h) (Or.inl ⟨by rfl, ?hy21⟩) hS3 (fun _ => trivial) ?_
            case hy21 => (intro W hSw; (try dsimp only at hSw); obtain ⟨kt, kp⟩ := hSw; have y0 : W.cell? ⟨w.heap.size, 0, none⟩ = some (.int .i64 t.d) := (kt.cell 0).trans (by simp); have y1 : W.cell? ⟨w.heap.size, 1, none⟩ = some (.int .i64 t.i) := (kt.cell 1).trans (by simp); have z0 : W.cell? ⟨w.heap.size + 1, 0, none⟩ = some (.int .i64 p.op) := (kp.cell 0).trans (by simp); have z1 : W.cell? ⟨w.heap.size + 1, 1, none⟩ = some (.int .i64 p.ct) := (kp.cell 1).trans (by simp); have z2 : W.cell? ⟨w.heap.size + 1, 2, none⟩ = some (.int .i64 p.n) := (kp.cell 2).trans (by simp); have z3 : W.cell? ⟨w.heap.size + 1, 3, none⟩ = some (.int .i64 p.m) := (kp.cell 3).trans (by simp); have z4 : W.cell? ⟨w.heap.size + 1, 4, none⟩ = some (.int .i64 p.va) := (kp.cell 4).trans (by simp); have z5 : W.cell? ⟨w.heap.size + 1, 5, none⟩ = some (.slice A4 p.ks.length cap4) := (kp.cell 5).trans (by simp);go_simp; try with_reducible rfl)
            (try simp only [Act.put, List.getElem_toArray, List.getElem_cons_zero, List.getElem_cons_succ, List.setIfInBounds_toArray, List.set_cons_zero, List.set_cons_succ])
            refine wpAnyB_take (i := 22) (v := ?_) rfl (by decide) (by kernel_rfl) (by kernel_rfl) (by kernel_rfl) (fun _ _ _ h => h) (Or.inl ⟨by rfl, ?hy22⟩) hS3 (fun _ => trivial) ?_
            case hy22 => (intro W hSw; (try dsimp only at hSw); go_simp; try with_reducible rfl)
            (try simp only [Act.put, List.getElem_toArray, List.getElem_cons_zero, List.getElem_cons_succ, List.setIfInBounds_toArray, List.set_cons_zero, List.set_cons_succ])
            rw [HBa3.out]
            refine wpAnyB_take (i := 23) (v := ?_) rfl (by decide) (by kernel_rfl) (by kernel_rfl) (by kernel_rfl) (fun _ _ _ h => h) (Or.inl ⟨by rfl, ?hy23⟩) hS3 (fun _ => trivial) ?_
            case hy23 => (intro W hSw; (try dsimp only at hSw); go_simp; try with_reducible rfl)
            (try simp only [Act.put, List.getElem_toArray, List.getElem_cons_zero, List.getElem_cons_succ, List.setIfInBounds_toArray, List.set_cons_zero, List.set_cons_succ])
            refine wpAnyB_take (i := 24) (v := ?_) rfl (by decide) (by kernel_rfl) (by kernel_rfl) (by kernel_rfl) (fun _ _ _ h => h) (Or.inl ⟨by rfl, ?hy24⟩) hS3 (fun _ => trivial) ?_
            case hy24 => (intro W hSw; (try dsimp only at hSw); go_simp; try with_reducible rfl)
            (try simp only [Act.put, List.getElem_toArray, List.getElem_cons_zero, List.getElem_cons_succ, List.setIfInBounds_toArray, List.set_cons_zero, List.set_cons_succ])
            refine wpAnyB_take (i := 25) (v := ?_) rfl (by decide) (by kernel_rfl) (by kernel_rfl) (by kernel_rfl) (fun _ _ _ h => h) (Or.inl ⟨by rfl, ?hy25⟩) hS3 (fun _ => trivial) ?_
            case hy25 => (intro W hSw; (try dsimp only at hSw); go_simp; try with_reducible rfl)
            (try simp only [Act.put, List.getElem_toArray, List.getElem_cons_zero, List.getElem_cons_succ, List.setIfInBounds_toArray, List.set_cons_zero, List.set_cons_succ])
            refine wpAnyB_end (by kernel_rfl) ?_
            have hB3 := hB0.drew.trans (hb3.mono hB0.size)
            have HFin : Hid (ShapePost xs t p w (.returned (.tuple #[.slice none 0 0, .bool true])) w3) := ⟨_, [], by rw [HNB.out, HE1.out, HE2.out, HBa1.out, HBa2.out, HBa3.out] <;> rfl, hB3, Fresh.nil _ _, fun _ => by rw [HTY.out]; exact Arr.nil⟩
            clear y0 y1 z0 z1 z2 z3 z4 z5 klt klt2
            clear hb3 hS1 hS3 hT1
            go_wp2
            go_ret2
            exact HFin.out
end Go.Proofs.Ytbffkgfhcmigaaa

namespace Go.Proofs.Ytbffkgfhcmigaaa
open Go.RowKit

set_option maxRecDepth 100000 in
set_option maxHeartbeats 1600000 in
theorem shape_6 (xs : List Dt) (hw : WorldOK xs) (t : Ty) (ht : TyIn xs.length t) (p : P) (h6 : p.op = 6) (w : World) (x : Value) (F : List Nat) (cs : List Value) (G : List Nat) : Arr w (DtR w) xs x F → Under w.heap.size F → PR w p cs G → Under w.heap.size G →
    Calls Try.prog 182 #[x, .agg #[.int .i64 t.d, .int .i64 t.i], .agg cs.toArray] w (ShapePost xs t p w) := by
  intro hx hf hv hg
  obtain ⟨kv, rfl, ha⟩ := (PR_iff _ _ _).1 hv
  obtain ⟨A, cap, rfl, hc1, hc2⟩ := hx.form
  obtain ⟨A4, cap4, rfl, hc3, hc4⟩ := ha.form
  have HV := Lib.hid hv
  have HX := Lib.hid hx
  have HF := Lib.hid hf
  have HA := Lib.hid ha
  have HG := Lib.hid hg
  clear hx hf ha hg
  clear hv
  have HW := Lib.hid hw
  have HT := Lib.hid ht
  clear hw ht
  have o1 : (p.op == 1) = false := by simp [h6]
  have o2 : (p.op == 2) = false := by simp [h6]
  have o3 : (p.op == 3) = false := by simp [h6]
  have o4 : (p.op == 4) = false := by simp [h6]
  have o5 : (p.op == 5) = false := by simp [h6]
  have o6 : (p.op == 6) = true := by simp [h6]
  have HNB := Lib.hid (nodeB_6 (xs := xs) (t := t) h6)
  have HTY := Lib.hid (show typesP xs t p = [t] from by rw [typesP_no (by omega), h6]; rfl)
  clear h6
  go_enter Try.func182, Try.ntmps182
  go_wp2_with fail
  obtain ⟨W2, hW2⟩ : ∃ W2, W2 = ((w.alloc (.cells #[.int .i64 t.d, .int .i64 t.i] 37)).alloc (.cells #[.int .i64 p.op, .int .i64 p.ct, .int .i64 p.n, .int .i64 p.m, .int .i64 p.va, .slice A4 p.ks.length cap4] 32)) := ⟨_, rfl⟩
  have hB0 : Below w.heap.size w W2 := by rw [hW2]; exact ((Below.refl _ _).alloc (Nat.le_refl _) _).alloc (by simp) _
  have KT : Hid (Blk W2 w.heap.size 37 #[.int .i64 t.d, .int .i64 t.i]) := by rw [hW2]; exact (Blk.new w _ _).same (Below.heap_alloc _ _ _ (by simp))
  have KP : Hid (Blk W2 (w.heap.size + 1) 32 #[.int .i64 p.op, .int .i64 p.ct, .int .i64 p.n, .int .i64 p.m, .int .i64 p.va, .slice A4 p.ks.length cap4]) := by rw [hW2]; have h := Blk.new (w.alloc (.cells #[.int .i64 t.d, .int .i64 t.i] 37)) 32 #[.int .i64 p.op, .int .i64 p.ct, .int .i64 p.n, .int .i64 p.m, .int .i64 p.va, .slice A4 p.ks.length cap4]; rw [World.size_alloc] at h; exact h
  have hws : w.heap.size + 2 ≤ W2.heap.size := by rw [hW2]; simp
  have hws2 : W2.heap.size = w.heap.size + 1 + 1 := by rw [hW2]; simp
  rw [← hW2]
  clear hW2
  have y0 : W2.cell? ⟨w.heap.size, 0, none⟩ = some (.int .i64 t.d) := (KT.out.cell 0).trans (by simp)
  have y1 : W2.cell? ⟨w.heap.size, 1, none⟩ = some (.int .i64 t.i) := (KT.out.cell 1).trans (by simp)
  have klt := KT.out.lt
  have z0 : W2.cell? ⟨w.heap.size + 1, 0, none⟩ = some (.int .i64 p.op) := (KP.out.cell 0).trans (by simp)
  have z1 : W2.cell? ⟨w.heap.size + 1, 1, none⟩ = some (.int .i64 p.ct) := (KP.out.cell 1).trans (by simp)
  have z2 : W2.cell? ⟨w.heap.size + 1, 2, none⟩ = some (.int .i64 p.n) := (KP.out.cell 2).trans (by simp)
  have z3 : W2.cell? ⟨w.heap.size + 1, 3, none⟩ = some (.int .i64 p.m) := (KP.out.cell 3).trans (by simp)
  have z4 : W2.cell? ⟨w.heap.size + 1, 4, none⟩ = some (.int .i64 p.va) := (KP.out.cell 4).trans (by simp)
  have z5 : W2.cell? ⟨w.heap.size + 1, 5, none⟩ = some (.slice A4 p.ks.length cap4) := (KP.out.cell 5).trans (by simp)
  have klt2 := KP.out.lt
  cases e2 : onlyB p false false true 1 with
  | false =>
    have HC : Hid (∀ w1 : World, Calls Try.prog 196 #[.agg #[.int .i64 p.op, .int .i64 p.ct, .int .i64 p.n, .int .i64 p.m, .int .i64 p.va, .slice A4 p.ks.length cap4], .bool false, .bool false, .bool true, .int .i64 1] w1 fun e w' => e = .returned (.bool false) ∧ Below w1.heap.size w1 w') := fun w1 => by have h := impl_only p A4 cap4 false false true 1 w1; rw [e2] at h; exact h
    have HE2 := Lib.hid e2
    clear e2
    have HNV : Hid (nodeB xs t p = false) := by rw [HNB.out, HE2.out]; rfl
    go_wp2_with fail
    refine wp_region_B (S := fun w' => Blk w' w.heap.size 37 #[.int .i64 t.d, .int .i64 t.i] ∧ Blk w' (w.heap.size + 1) 32 #[.int .i64 p.op, .int .i64 p.ct, .int .i64 p.n, .int .i64 p.m, .int .i64 p.va, .slice A4 p.ks.length cap4]) (T := fun _ => True) (d := 99) (by kernel_rfl) ?_
    have hS1 : Blk W2.drew w.heap.size 37 #[.int .i64 t.d, .int .i64 t.i] ∧ Blk W2.drew (w.heap.size + 1) 32 #[.int .i64 p.op, .int .i64 p.ct, .int .i64 p.n, .int .i64 p.m, .int .i64 p.va, .slice A4 p.ks.length cap4] := ⟨KT.out, KP.out⟩
    have hT1 : True := trivial
    refine wpAnyB_take (i := 0) (v := ?_) rfl (by decide) (by kernel_rfl) (by kernel_rfl) (by kernel_rfl) (fun _ _ _ h => h) (Or.inl ⟨by rfl, ?hy0⟩) hS1 (fun _ => trivial) ?_
    case hy0 => (intro W hSw; (try dsimp only at hSw); obtain ⟨kt, kp⟩ := hSw; have y0 : W.cell? ⟨w.heap.size, 0, none⟩ = some (.int .i64 t.d) := (kt.cell 0).trans (by simp); have y1 : W.cell? ⟨w.heap.size, 1, none⟩ = some (.int .i64 t.i) := (kt.cell 1).trans (by simp); have z0 : W.cell? ⟨w.heap.size + 1, 0, none⟩ = some (.int .i64 p.op) := (kp.cell 0).trans (by simp); have z1 : W.cell? ⟨w.heap.size + 1, 1, none⟩ = some (.int .i64 p.ct) := (kp.cell 1).trans (by simp); have z2 : W.cell? ⟨w.heap.size + 1, 2, none⟩ = some (.int .i64 p.n) := (kp.cell 2).trans (by simp); have z3 : W.cell? ⟨w.heap.size + 1, 3, none⟩ = some (.int .i64 p.m) := (kp.cell 3).trans (by simp); have z4 : W.cell? ⟨w.heap.size + 1, 4, none⟩ = some (.int .i64 p.va) := (kp.cell 4).trans (by simp); have z5 : W.cell? ⟨w.heap.size + 1, 5, none⟩ = some (.slice A4 p.ks.length cap4) := (kp.cell 5).trans (by simp);go_simp; try with_reducible rfl)
    (try simp only [Act.put, List.getElem_toArray, List.getElem_cons_zero, List.getElem_cons_succ, List.setIfInBounds_toArray, List.set_cons_zero, List.set_cons_succ])
    refine wpAnyB_take (i := 2) (v := ?_) rfl (by decide) (by kernel_rfl) (by kernel_rfl) (by kernel_rfl) (fun _ _ _ h => h) (Or.inl ⟨by rfl, ?hy2⟩) hS1 (fun _ => trivial) ?_
    case hy2 => (intro W hSw; (try dsimp only at hSw); obtain ⟨kt, kp⟩ := hSw; have y0 : W.cell? ⟨w.heap.size, 0, none⟩ = some (.int .i64 t.d) := (kt.cell 0).trans (by simp); have y1 : W.cell? ⟨w.heap.size, 1, none⟩ = some (.int .i64 t.i) := (kt.cell 1).trans (by simp); have z0 : W.cell? ⟨w.heap.size + 1, 0, none⟩ = some (.int .i64 p.op) := (kp.cell 0).trans (by simp); have z1 : W.cell? ⟨w.heap.size + 1, 1, none⟩ = some (.int .i64 p.ct) := (kp.cell 1).trans (by simp); have z2 : W.cell? ⟨w.heap.size + 1, 2, none⟩ = some (.int .i64 p.n) := (kp.cell 2).trans (by simp); have z3 : W.cell? ⟨w.heap.size + 1, 3, none⟩ = some (.int .i64 p.m) := (kp.cell 3).trans (by simp); have z4 : W.cell? ⟨w.heap.size + 1, 4, none⟩ = some (.int .i64 p.va) := (kp.cell 4).trans (by simp); have z5 : W.cell? ⟨w.heap.size + 1, 5, none⟩ = some (.slice A4 p.ks.length cap4) := (kp.cell 5).trans (by simp);go_simp; try with_reducible rfl)
    (try simp only [Act.put, List.getElem_toArray, List.getElem_cons_zero, List.getElem_cons_succ, List.setIfInBounds_toArray, List.set_cons_zero, List.set_cons_succ])
    refine wpAnyB_ready (rs := [1, 3]) (by kernel_rfl) (by simp) ?_
    refine AllReadyB.cons rfl (fun K hK => ?_) (AllReadyB.cons rfl (fun K hK => ?_) AllReadyB.nil)
    · go_simp
      have hS2 := And.intro (hS1.1.same (Below.heap_alloc _ (.cells #[.int .i64 t.d, .int .i64 t.i] 37) _ hS1.1.lt)) (hS1.2.same (Below.heap_alloc _ (.cells #[.int .i64 t.d, .int .i64 t.i] 37) _ hS1.2.lt))
      refine hK.out _ _ hS2 (fun _ => trivial) ?_
      clear hK K
      (try simp only [Act.put, List.getElem_toArray, List.getElem_cons_zero, List.getElem_cons_succ, List.setIfInBounds_toArray, List.set_cons_zero, List.set_cons_succ])
      refine wpAnyB_ready (rs := [3]) (by kernel_rfl) (by simp) ?_
      refine AllReadyB.cons rfl (fun K hK => ?_) AllReadyB.nil
      go_simp
      go_at_call 196
      with_reducible refine (HC.out _).mono ?_
      rintro e w3 ⟨rfl, hb3⟩
      have hS3 : Blk w3 w.heap.size 37 #[.int .i64 t.d, .int .i64 t.i] ∧ Blk w3 (w.heap.size + 1) 32 #[.int .i64 p.op, .int .i64 p.ct, .int .i64 p.n, .int .i64 p.m, .int .i64 p.va, .slice A4 p.ks.length cap4] := ⟨hS2.1.same (hb3.block _ hS2.1.lt), hS2.2.same (hb3.block _ hS2.2.lt)⟩
      dsimp only
      refine hK.out _ _ hS3 (fun _ => trivial) ?_
      clear hK K
      (try simp only [Act.put, List.getElem_toArray, List.getElem_cons_zero, List.getElem_cons_succ, List.setIfInBounds_toArray, List.set_cons_zero, List.set_cons_succ])
      refine wpAnyB_take (i := 4) (v := ?_) rfl (by decide) (by kernel_rfl) (by kernel_rfl) (by kernel_rfl) (fun _ _ _ h => h) (Or.inl ⟨by rfl, ?hy4⟩) hS3 (fun _ => trivial) ?_
      case hy4 => (intro W hSw; (try dsimp only at hSw); go_simp; try with_reducible rfl)
      (try simp only [Act.put, List.getElem_toArray, List.getElem_cons_zero, List.getElem_cons_succ, List.setIfInBounds_toArray, List.set_cons_zero, List.set_cons_succ])
      refine wpAnyB_take (i := 5) (v := undef) rfl (by decide) (by kernel_rfl) (by kernel_rfl) (by kernel_rfl) (fun _ _ _ h => h) (Or.inr ⟨by rfl, rfl⟩) hS3 (fun _ => trivial) ?_
      (try simp only [Act.put, List.getElem_toArray, List.getElem_cons_zero, List.getElem_cons_succ, List.setIfInBounds_toArray, List.set_cons_zero, List.set_cons_succ])
      refine wpAnyB_take (i := 6) (v := undef) rfl (by decide) (by kernel_rfl) (by kernel_rfl) (by kernel_rfl) (fun _ _ _ h => h) (Or.inr ⟨by rfl, rfl⟩) hS3 (fun _ => trivial) ?_
      (try simp only [Act.put, List.getElem_toArray, List.getElem_cons_zero, List.getElem_cons_succ, List.setIfInBounds_toArray, List.set_cons_zero, List.set_cons_succ])
      refine wpAnyB_take (i := 7) (v := undef) rfl (by decide) (by kernel_rfl) (by kernel_rfl) (by kernel_rfl) (fun _ _ _ h => h) (Or.inr ⟨by rfl, rfl⟩) hS3 (fun _ => trivial) ?_
      (try simp only [Act.put, List.getElem_toArray, List.getElem_cons_zero, List.getElem_cons_succ, List.setIfInBounds_toArray, List.set_cons_zero, List.set_cons_succ])
      refine wpAnyB_take (i := 8) (v := ?_) rfl (by decide) (by kernel_rfl) (by kernel_rfl) (by kernel_rfl) (fun _ _ _ h => h) (Or.inl ⟨by rfl, ?hy8⟩) hS3 (fun _ => trivial) ?_
      case hy8 => (intro W hSw; (try dsimp only at hSw); go_simp; try with_reducible rfl)
      (try simp only [Act.put, List.getElem_toArray, List.getElem_cons_zero, List.getElem_cons_succ, List.setIfInBounds_toArray, List.set_cons_zero, List.set_cons_succ])
      refine wpAnyB_take (i := 9) (v := ?_) rfl (by decide) (by kernel_rfl) (by kernel_rfl) (by kernel_rfl) (fun _ _ _ h => h) (Or.inl ⟨by rfl, ?hy9⟩) hS3 (fun _ => trivial) ?_
      case hy9 => (intro W hSw; (try dsimp only at hSw); go_simp; try with_reducible rfl)
      (try simp only [Act.put, List.getElem_toArray, List.getElem_cons_zero, List.getElem_cons_succ, List.setIfInBounds_toArray, List.set_cons_zero, List.set_cons_succ])
      refine wpAnyB_take (i := 10) (v := ?_) rfl (by decide) (by kernel_rfl) (by kernel_rfl) (by kernel_rfl) (fun _ _ _ h => h) (Or.inl ⟨by rfl, ?hy10⟩) hS3 (fun _ => trivial) ?_
      case hy10 => (intro W hSw; (try dsimp only at hSw); go_simp; try with_reducible rfl)
      (try simp only [Act.put, List.getElem_toArray, List.getElem_cons_zero, List.getElem_cons_succ, List.setIfInBounds_toArray, List.set_cons_zero, List.set_cons_succ])
      refine wpAnyB_end (by kernel_rfl) ?_
      obtain ⟨q1, q2, q3⟩ := shape_endA hB0 hws2 hb3
      have HFin : Hid (ShapePost xs t p w (.returned (.tuple #[.slice (some ⟨w.heap.size + 1 + 1, 0, none⟩) 1 1, .bool false])) w3) := ⟨_, [w.heap.size + 1 + 1], by rw [HNV.out], q1, q2, fun _ => by rw [HTY.out]; exact arr_tys1 q3⟩
      clear y0 y1 z0 z1 z2 z3 z4 z5 klt klt2
      clear hS1 hS3 hb3 q1 q2 q3
      go_wp2
      go_ret2
      exact HFin.out
    · go_simp
      go_at_call 196
      with_reducible refine (HC.out _).mono ?_
      rintro e w3 ⟨rfl, hb3⟩
      have hS3 : Blk w3 w.heap.size 37 #[.int .i64 t.d, .int .i64 t.i] ∧ Blk w3 (w.heap.size + 1) 32 #[.int .i64 p.op, .int .i64 p.ct, .int .i64 p.n, .int .i64 p.m, .int .i64 p.va, .slice A4 p.ks.length cap4] := ⟨hS1.1.same (hb3.block _ hS1.1.lt), hS1.2.same (hb3.block _ hS1.2.lt)⟩
      dsimp only
      refine hK.out _ _ hS3 (fun _ => trivial) ?_
      clear hK K
      (try simp only [Act.put, List.getElem_toArray, List.getElem_cons_zero, List.getElem_cons_succ, List.setIfInBounds_toArray, List.set_cons_zero, List.set_cons_succ])
      refine wpAnyB_take (i := 4) (v := ?_) rfl (by decide) (by kernel_rfl) (by kernel_rfl) (by kernel_rfl) (fun _ _ _ h => h) (Or.inl ⟨by rfl, ?hy4⟩) hS3 (fun _ => trivial) ?_
      case hy4 => (intro W hSw; (try dsimp only at hSw); go_simp; try with_reducible rfl)
      (try simp only [Act.put, List.getElem_toArray, List.getElem_cons_zero, List.getElem_cons_succ, List.setIfInBounds_toArray, List.set_cons_zero, List.set_cons_succ])
      refine wpAnyB_take (i := 5) (v := undef) rfl (by decide) (by kernel_rfl) (by kernel_rfl) (by kernel_rfl) (fun _ _ _ h => h) (Or.inr ⟨by rfl, rfl⟩) hS3 (fun _ => trivial) ?_
      (try simp only [Act.put, List.getElem_toArray, List.getElem_cons_zero, List.getElem_cons_succ, List.setIfInBounds_toArray, List.set_cons_zero, List.set_cons_succ])
      refine wpAnyB_take (i := 6) (v := undef) rfl (by decide) (by kernel_rfl) (by kernel_rfl) (by kernel_rfl) (fun _ _ _ h => h) (Or.inr ⟨by rfl, rfl⟩) hS3 (fun _ => trivial) ?_
      (try simp only [Act.put, List.getElem_toArray, List.getElem_cons_zero, List.getElem_cons_succ, List.setIfInBounds_toArray, List.set_cons_zero, List.set_cons_succ])
      refine wpAnyB_take (i := 7) (v := undef) rfl (by decide) (by kernel_rfl) (by kernel_rfl) (by kernel_rfl) (fun _ _ _ h => h) (Or.inr ⟨by rfl, rfl⟩) hS3 (fun _ => trivial) ?_
      (try simp only [Act.put, List.getElem_toArray, List.getElem_cons_zero, List.getElem_cons_succ, List.setIfInBounds_toArray, List.set_cons_zero, List.set_cons_succ])
      refine wpAnyB_take (i := 8) (v := ?_) rfl (by decide) (by kernel_rfl) (by kernel_rfl) (by kernel_rfl) (fun _ _ _ h => h) (Or.inl ⟨by rfl, ?hy8⟩) hS3 (fun _ => trivial) ?_
      case hy8 => (intro W hSw; (try dsimp only at hSw); go_simp; try with_reducible rfl)
      (try simp only [Act.put, List.getElem_toArray, List.getElem_cons_zero, List.getElem_cons_succ, List.setIfInBounds_toArray, List.set_cons_zero, List.set_cons_succ])
      refine wpAnyB_ready (rs := [1]) (by kernel_rfl) (by simp) ?_
      refine AllReadyB.cons rfl (fun K hK => ?_) AllReadyB.nil
      go_simp
      have hS4 := And.intro (hS3.1.same (Below.heap_alloc _ (.cells #[.int .i64 t.d, .int .i64 t.i] 37) _ hS3.1.lt)) (hS3.2.same (Below.heap_alloc _ (.cells #[.int .i64 t.d, .int .i64 t.i] 37) _ hS3.2.lt))
      refine hK.out _ _ hS4 (fun _ => trivial) ?_
      clear hK K
      (try simp only [Act.put, List.getElem_toArray, List.getElem_cons_zero, List.getElem_cons_succ, List.setIfInBounds_toArray, List.set_cons_zero, List.set_cons_succ])
      refine wpAnyB_take (i := 9) (v := ?_) rfl (by decide) (by kernel_rfl) (by kernel_rfl) (by kernel_rfl) (fun _ _ _ h => h) (Or.inl ⟨by rfl, ?hy9⟩) hS4 (fun _ => trivial) ?_
      case hy9 => (intro W hSw; (try dsimp only at hSw); go_simp; try with_reducible rfl)
      (try simp only [Act.put, List.getElem_toArray, List.getElem_cons_zero, List.getElem_cons_succ, List.setIfInBounds_toArray, List.set_cons_zero, List.set_cons_succ])
      refine wpAnyB_take (i := 10) (v := ?_) rfl (by decide) (by kernel_rfl) (by kernel_rfl) (by kernel_rfl) (fun _ _ _ h => h) (Or.inl ⟨by rfl, ?hy10⟩) hS4 (fun _ => trivial) ?_
      case hy10 => (intro W hSw; (try dsimp only at hSw); go_simp; try with_reducible rfl)
      (try simp only [Act.put, List.getElem_toArray, List.getElem_cons_zero, List.getElem_cons_succ, List.setIfInBounds_toArray, List.set_cons_zero, List.set_cons_succ])
      refine wpAnyB_end (by kernel_rfl) ?_
      obtain ⟨q1, q2⟩ := shape_endB hB0 hb3 (.cells #[.int .i64 t.d, .int .i64 t.i] 37)
      have HFin : Hid (ShapePost xs t p w (.returned (.tuple #[.slice (some ⟨w3.heap.size, 0, none⟩) 1 1, .bool false])) (w3.alloc (.cells #[.int .i64 t.d, .int .i64 t.i] 37))) := ⟨_, [w3.heap.size], by rw [HNV.out], q1, q2, fun _ => by rw [HTY.out]; exact arr_tys1 (Blk.new w3 _ _)⟩
      clear y0 y1 z0 z1 z2 z3 z4 z5 klt klt2
      clear hS1 hS3 hb3 q1 q2
      go_wp2
      go_ret2
      exact HFin.out
  | true =>
    have HC : Hid (∀ w1 : World, Calls Try.prog 196 #[.agg #[.int .i64 p.op, .int .i64 p.ct, .int .i64 p.n, .int .i64 p.m, .int .i64 p.va, .slice A4 p.ks.length cap4], .bool false, .bool false, .bool true, .int .i64 1] w1 fun e w' => e = .returned (.bool true) ∧ Below w1.heap.size w1 w') := fun w1 => by have h := impl_only p A4 cap4 false false true 1 w1; rw [e2] at h; exact h
    have HE2 := Lib.hid e2
    clear e2
    generalize hbb : withinB p.va 0 5 = bb at *
    have HV2 : Hid (∀ w1 : World, Calls Try.prog 197 #[.int .i64 p.va] w1 fun e w' => e = .returned (.bool bb) ∧ w' = w1) := fun w1 => by rw [← hbb]; exact impl_isVar p.va w1
    clear hbb
    have HNV : Hid (nodeB xs t p = bb) := by rw [HNB.out, HE2.out]; rfl
    go_wp2_with fail
    refine wp_region_B (S := fun w' => Blk w' w.heap.size 37 #[.int .i64 t.d, .int .i64 t.i] ∧ Blk w' (w.heap.size + 1) 32 #[.int .i64 p.op, .int .i64 p.ct, .int .i64 p.n, .int .i64 p.m, .int .i64 p.va, .slice A4 p.ks.length cap4]) (T := fun _ => True) (d := 99) (by kernel_rfl) ?_
    have hS1 : Blk W2.drew w.heap.size 37 #[.int .i64 t.d, .int .i64 t.i] ∧ Blk W2.drew (w.heap.size + 1) 32 #[.int .i64 p.op, .int .i64 p.ct, .int .i64 p.n, .int .i64 p.m, .int .i64 p.va, .slice A4 p.ks.length cap4] := ⟨KT.out, KP.out⟩
    have hT1 : True := trivial
    refine wpAnyB_take (i := 0) (v := ?_) rfl (by decide) (by kernel_rfl) (by kernel_rfl) (by kernel_rfl) (fun _ _ _ h => h) (Or.inl ⟨by rfl, ?hy0⟩) hS1 (fun _ => trivial) ?_
    case hy0 => (intro W hSw; (try dsimp only at hSw); obtain ⟨kt, kp⟩ := hSw; have y0 : W.cell? ⟨w.heap.size, 0, none⟩ = some (.int .i64 t.d) := (kt.cell 0).trans (by simp); have y1 : W.cell? ⟨w.heap.size, 1, none⟩ = some (.int .i64 t.i) := (kt.cell 1).trans (by simp); have z0 : W.cell? ⟨w.heap.size + 1, 0, none⟩ = some (.int .i64 p.op) := (kp.cell 0).trans (by simp); have z1 : W.cell? ⟨w.heap.size + 1, 1, none⟩ = some (.int .i64 p.ct) := (kp.cell 1).trans (by simp); have z2 : W.cell? ⟨w.heap.size + 1, 2, none⟩ = some (.int .i64 p.n) := (kp.cell 2).trans (by simp); have z3 : W.cell? ⟨w.heap.size + 1, 3, none⟩ = some (.int .i64 p.m) := (kp.cell 3).trans (by simp); have z4 : W.cell? ⟨w.heap.size + 1, 4, none⟩ = some (.int .i64 p.va) := (kp.cell 4).trans (by simp); have z5 : W.cell? ⟨w.heap.size + 1, 5, none⟩ = some (.slice A4 p.ks.length cap4) := (kp.cell 5).trans (by simp);go_simp; try with_reducible rfl)
    (try simp only [Act.put, List.getElem_toArray, List.getElem_cons_zero, List.getElem_cons_succ, List.setIfInBounds_toArray, List.set_cons_zero, List.set_cons_succ])
    refine wpAnyB_take (i := 2) (v := ?_) rfl (by decide) (by kernel_rfl) (by kernel_rfl) (by kernel_rfl) (fun _ _ _ h => h) (Or.inl ⟨by rfl, ?hy2⟩) hS1 (fun _ => trivial) ?_
    case hy2 => (intro W hSw; (try dsimp only at hSw); obtain ⟨kt, kp⟩ := hSw; have y0 : W.cell? ⟨w.heap.size, 0, none⟩ = some (.int .i64 t.d) := (kt.cell 0).trans (by simp); have y1 : W.cell? ⟨w.heap.size, 1, none⟩ = some (.int .i64 t.i) := (kt.cell 1).trans (by simp); have z0 : W.cell? ⟨w.heap.size + 1, 0, none⟩ = some (.int .i64 p.op) := (kp.cell 0).trans (by simp); have z1 : W.cell? ⟨w.heap.size + 1, 1, none⟩ = some (.int .i64 p.ct) := (kp.cell 1).trans (by simp); have z2 : W.cell? ⟨w.heap.size + 1, 2, none⟩ = some (.int .i64 p.n) := (kp.cell 2).trans (by simp); have z3 : W.cell? ⟨w.heap.size + 1, 3, none⟩ = some (.int .i64 p.m) := (kp.cell 3).trans (by simp); have z4 : W.cell? ⟨w.heap.size + 1, 4, none⟩ = some (.int .i64 p.va) := (kp.cell 4).trans (by simp); have z5 : W.cell? ⟨w.heap.size + 1, 5, none⟩ = some (.slice A4 p.ks.length cap4) := (kp.cell 5).trans (by simp);go_simp; try with_reducible rfl)
    (try simp only [Act.put, List.getElem_toArray, List.getElem_cons_zero, List.getElem_cons_succ, List.setIfInBounds_toArray, List.set_cons_zero, List.set_cons_succ])
    refine wpAnyB_ready (rs := [1, 3]) (by kernel_rfl) (by simp) ?_
    refine AllReadyB.cons rfl (fun K hK => ?_) (AllReadyB.cons rfl (fun K hK => ?_) AllReadyB.nil)
    · go_simp
      have hS2 := And.intro (hS1.1.same (Below.heap_alloc _ (.cells #[.int .i64 t.d, .int .i64 t.i] 37) _ hS1.1.lt)) (hS1.2.same (Below.heap_alloc _ (.cells #[.int .i64 t.d, .int .i64 t.i] 37) _ hS1.2.lt))
      refine hK.out _ _ hS2 (fun _ => trivial) ?_
      clear hK K
      (try simp only [Act.put, List.getElem_toArray, List.getElem_cons_zero, List.getElem_cons_succ, List.setIfInBounds_toArray, List.set_cons_zero, List.set_cons_succ])
      refine wpAnyB_ready (rs := [3]) (by kernel_rfl) (by simp) ?_
      refine AllReadyB.cons rfl (fun K hK => ?_) AllReadyB.nil
      go_simp
      go_at_call 196
      with_reducible refine (HC.out _).mono ?_
      rintro e w3 ⟨rfl, hb3⟩
      have hS3 : Blk w3 w.heap.size 37 #[.int .i64 t.d, .int .i64 t.i] ∧ Blk w3 (w.heap.size + 1) 32 #[.int .i64 p.op, .int .i64 p.ct, .int .i64 p.n, .int .i64 p.m, .int .i64 p.va, .slice A4 p.ks.length cap4] := ⟨hS2.1.same (hb3.block _ hS2.1.lt), hS2.2.same (hb3.block _ hS2.2.lt)⟩
      dsimp only
      refine hK.out _ _ hS3 (fun _ => trivial) ?_
      clear hK K
      (try simp only [Act.put, List.getElem_toArray, List.getElem_cons_zero, List.getElem_cons_succ, List.setIfInBounds_toArray, List.set_cons_zero, List.set_cons_succ])
      refine wpAnyB_take (i := 4) (v := ?_) rfl (by decide) (by kernel_rfl) (by kernel_rfl) (by kernel_rfl) (fun _ _ _ h => h) (Or.inl ⟨by rfl, ?hy4⟩) hS3 (fun _ => trivial) ?_
      case hy4 => (intro W hSw; (try dsimp only at hSw); go_simp; try with_reducible rfl)
      (try simp only [Act.put, List.getElem_toArray, List.getElem_cons_zero, List.getElem_cons_succ, List.setIfInBounds_toArray, List.set_cons_zero, List.set_cons_succ])
      refine wpAnyB_take (i := 5) (v := ?_) rfl (by decide) (by kernel_rfl) (by kernel_rfl) (by kernel_rfl) (fun _ _ _ h => h) (Or.inl ⟨by rfl, ?hy5⟩) hS3 (fun _ => trivial) ?_
      case hy5 => (intro W hSw; (try dsimp only at hSw); go_simp; try with_reducible rfl)
      (try simp only [Act.put, List.getElem_toArray, List.getElem_cons_zero, List.getElem_cons_succ, List.setIfInBounds_toArray, List.set_cons_zero, List.set_cons_succ])
      refine wpAnyB_take (i := 6) (v := ?_) rfl (by decide) (by kernel_rfl) (by kernel_rfl) (by kernel_rfl) (fun _ _ _ h => h) (Or.inl ⟨by rfl, ?hy6⟩) hS3 (fun _ => trivial) ?_
      case hy6 => (intro W hSw; (try dsimp only at hSw); obtain ⟨kt, kp⟩ := hSw; have y0 : W.cell? ⟨w.heap.size, 0, none⟩ = some (.int .i64 t.d) := (kt.cell 0).trans (by simp); have y1 : W.cell? ⟨w.heap.size, 1, none⟩ = some (.int .i64 t.i) := (kt.cell 1).trans (by simp); have z0 : W.cell? ⟨w.heap.size + 1, 0, none⟩ = some (.int .i64 p.op) := (kp.cell 0).trans (by simp); have z1 : W.cell? ⟨w.heap.size + 1, 1, none⟩ = some (.int .i64 p.ct) := (kp.cell 1).trans (by simp); have z2 : W.cell? ⟨w.heap.size + 1, 2, none⟩ = some (.int .i64 p.n) := (kp.cell 2).trans (by simp); have z3 : W.cell? ⟨w.heap.size + 1, 3, none⟩ = some (.int .i64 p.m) := (kp.cell 3).trans (by simp); have z4 : W.cell? ⟨w.heap.size + 1, 4, none⟩ = some (.int .i64 p.va) := (kp.cell 4).trans (by simp); have z5 : W.cell? ⟨w.heap.size + 1, 5, none⟩ = some (.slice A4 p.ks.length cap4) := (kp.cell 5).trans (by simp);go_simp; try with_reducible rfl)
      (try simp only [Act.put, List.getElem_toArray, List.getElem_cons_zero, List.getElem_cons_succ, List.setIfInBounds_toArray, List.set_cons_zero, List.set_cons_succ])
      refine wpAnyB_ready (rs := [7]) (by kernel_rfl) (by simp) ?_
      refine AllReadyB.cons rfl (fun K hK => ?_) AllReadyB.nil
      go_simp
      go_at_call 197
      with_reducible refine (HV2.out _).mono ?_
      rintro e w4 ⟨rfl, hw4⟩
      rw [hw4]
      clear hw4 w4
      dsimp only
      refine hK.out _ _ hS3 (fun _ => trivial) ?_
      clear hK K
      (try simp only [Act.put, List.getElem_toArray, List.getElem_cons_zero, List.getElem_cons_succ, List.setIfInBounds_toArray, List.set_cons_zero, List.set_cons_succ])
      refine wpAnyB_take (i := 8) (v := ?_) rfl (by decide) (by kernel_rfl) (by kernel_rfl) (by kernel_rfl) (fun _ _ _ h => h) (Or.inl ⟨by rfl, ?hy8⟩) hS3 (fun _ => trivial) ?_
      case hy8 => (intro W hSw; (try dsimp only at hSw); go_simp; try with_reducible rfl)
      (try simp only [Act.put, List.getElem_toArray, List.getElem_cons_zero, List.getElem_cons_succ, List.setIfInBounds_toArray, List.set_cons_zero, List.set_cons_succ])
      refine wpAnyB_take (i := 9) (v := ?_) rfl (by decide) (by kernel_rfl) (by kernel_rfl) (by kernel_rfl) (fun _ _ _ h => h) (Or.inl ⟨by rfl, ?hy9⟩) hS3 (fun _ => trivial) ?_
      case hy9 => (intro W hSw; (try dsimp only at hSw); go_simp; try with_reducible rfl)
      (try simp only [Act.put, List.getElem_toArray, List.getElem_cons_zero, List.getElem_cons_succ, List.setIfInBounds_toArray, List.set_cons_zero, List.set_cons_succ])
      refine wpAnyB_take (i := 10) (v := ?_) rfl (by decide) (by kernel_rfl) (by kernel_rfl) (by kernel_rfl) (fun _ _ _ h => h) (Or.inl ⟨by rfl, ?hy10⟩) hS3 (fun _ => trivial) ?_
      case hy10 => (intro W hSw; (try dsimp only at hSw); go_simp; try with_reducible rfl)
      (try simp only [Act.put, List.getElem_toArray, List.getElem_cons_zero, List.getElem_cons_succ, List.setIfInBounds_toArray, List.set_cons_zero, List.set_cons_succ])
      refine wpAnyB_end (by kernel_rfl) ?_
      obtain ⟨q1, q2, q3⟩ := shape_endA hB0 hws2 hb3
      have HFin : Hid (ShapePost xs t p w (.returned (.tuple #[.slice (some ⟨w.heap.size + 1 + 1, 0, none⟩) 1 1, .bool bb])) w3) := ⟨_, [w.heap.size + 1 + 1], by rw [HNV.out], q1, q2, fun _ => by rw [HTY.out]; exact arr_tys1 q3⟩
      clear y0 y1 z0 z1 z2 z3 z4 z5 klt klt2
      clear hS1 hS3 hb3 q1 q2 q3
      go_wp2
      go_ret2
      exact HFin.out
    · go_simp
      go_at_call 196
      with_reducible refine (HC.out _).mono ?_
      rintro e w3 ⟨rfl, hb3⟩
      have hS3 : Blk w3 w.heap.size 37 #[.int .i64 t.d, .int .i64 t.i] ∧ Blk w3 (w.heap.size + 1) 32 #[.int .i64 p.op, .int .i64 p.ct, .int .i64 p.n, .int .i64 p.m, .int .i64 p.va, .slice A4 p.ks.length cap4] := ⟨hS1.1.same (hb3.block _ hS1.1.lt), hS1.2.same (hb3.block _ hS1.2.lt)⟩
      dsimp only
      refine hK.out _ _ hS3 (fun _ => trivial) ?_
      clear hK K
      (try simp only [Act.put, List.getElem_toArray, List.getElem_cons_zero, List.getElem_cons_succ, List.setIfInBounds_toArray, List.set_cons_zero, List.set_cons_succ])
      refine wpAnyB_take (i := 4) (v := ?_) rfl (by decide) (by kernel_rfl) (by kernel_rfl) (by kernel_rfl) (fun _ _ _ h => h) (Or.inl ⟨by rfl, ?hy4⟩) hS3 (fun _ => trivial) ?_
      case hy4 => (intro W hSw; (try dsimp only at hSw); go_simp; try with_reducible rfl)
      (try simp only [Act.put, List.getElem_toArray, List.getElem_cons_zero, List.getElem_cons_succ, List.setIfInBounds_toArray, List.set_cons_zero, List.set_cons_succ])
      refine wpAnyB_take (i := 5) (v := ?_) rfl (by decide) (by kernel_rfl) (by kernel_rfl) (by kernel_rfl) (fun _ _ _ h => h) (Or.inl ⟨by rfl, ?hy5⟩) hS3 (fun _ => trivial) ?_
      case hy5 => (intro W hSw; (try dsimp only at hSw); go_simp; try with_reducible rfl)
      (try simp only [Act.put, List.getElem_toArray, List.getElem_cons_zero, List.getElem_cons_succ, List.setIfInBounds_toArray, List.set_cons_zero, List.set_cons_succ])
      refine wpAnyB_take (i := 6) (v := ?_) rfl (by decide) (by kernel_rfl) (by kernel_rfl) (by kernel_rfl) (fun _ _ _ h => h) (Or.inl ⟨by rfl, ?hy6⟩) hS3 (fun _ => trivial) ?_
      case hy6 => (intro W hSw; (try dsimp only at hSw); obtain ⟨kt, kp⟩ := hSw; have y0 : W.cell? ⟨w.heap.size, 0, none⟩ = some (.int .i64 t.d) := (kt.cell 0).trans (by simp); have y1 : W.cell? ⟨w.heap.size, 1, none⟩ = some (.int .i64 t.i) := (kt.cell 1).trans (by simp); have z0 : W.cell? ⟨w.heap.size + 1, 0, none⟩ = some (.int .i64 p.op) := (kp.cell 0).trans (by simp); have z1 : W.cell? ⟨w.heap.size + 1, 1, none⟩ = some (.int .i64 p.ct) := (kp.cell 1).trans (by simp); have z2 : W.cell? ⟨w.heap.size + 1, 2, none⟩ = some (.int .i64 p.n) := (kp.cell 2).trans (by simp); have z3 : W.cell? ⟨w.heap.size + 1, 3, none⟩ = some (.int .i64 p.m) := (kp.cell 3).trans (by simp); have z4 : W.cell? ⟨w.heap.size + 1, 4, none⟩ = some (.int .i64 p.va) := (kp.cell 4).trans (by simp); have z5 : W.cell? ⟨w.heap.size + 1, 5, none⟩ = some (.slice A4 p.ks.length cap4) := (kp.cell 5).trans (by simp);go_simp; try with_reducible rfl)
      (try simp only [Act.put, List.getElem_toArray, List.getElem_cons_zero, List.getElem_cons_succ, List.setIfInBounds_toArray, List.set_cons_zero, List.set_cons_succ])
      refine wpAnyB_ready (rs := [1, 7]) (by kernel_rfl) (by simp) ?_
      refine AllReadyB.cons rfl (fun K hK => ?_) (AllReadyB.cons rfl (fun K hK => ?_) AllReadyB.nil)
      · go_simp
        have hS4 := And.intro (hS3.1.same (Below.heap_alloc _ (.cells #[.int .i64 t.d, .int .i64 t.i] 37) _ hS3.1.lt)) (hS3.2.same (Below.heap_alloc _ (.cells #[.int .i64 t.d, .int .i64 t.i] 37) _ hS3.2.lt))
        refine hK.out _ _ hS4 (fun _ => trivial) ?_
        clear hK K
        (try simp only [Act.put, List.getElem_toArray, List.getElem_cons_zero, List.getElem_cons_succ, List.setIfInBounds_toArray, List.set_cons_zero, List.set_cons_succ])
        refine wpAnyB_ready (rs := [7]) (by kernel_rfl) (by simp) ?_
        refine AllReadyB.cons rfl (fun K hK => ?_) AllReadyB.nil
        go_simp
        go_at_call 197
        with_reducible refine (HV2.out _).mono ?_
        rintro e w4 ⟨rfl, hw4⟩
        rw [hw4]
        clear hw4 w4
        dsimp only
        refine hK.out _ _ hS4 (fun _ => trivial) ?_
        clear hK K
        (try simp only [Act.put, List.getElem_toArray, List.getElem_cons_zero, List.getElem_cons_succ, List.setIfInBounds_toArray, List.set_cons_zero, List.set_cons_succ])
        refine wpAnyB_take (i := 8) (v := ?_) rfl (by decide) (by kernel_rfl) (by kernel_rfl) (by kernel_rfl) (fun _ _ _ h => h) (Or.inl ⟨by rfl, ?hy8⟩) hS4 (fun _ => trivial) ?_
        case hy8 => (intro W hSw; (try dsimp only at hSw); go_simp; try with_reducible rfl)
        (try simp only [Act.put, List.getElem_toArray, List.getElem_cons_zero, List.getElem_cons_succ, List.setIfInBounds_toArray, List.set_cons_zero, List.set_cons_succ])
        refine wpAnyB_take (i := 9) (v := ?_) rfl (by decide) (by kernel_rfl) (by kernel_rfl) (by kernel_rfl) (fun _ _ _ h => h) (Or.inl ⟨by rfl, ?hy9⟩) hS4 (fun _ => trivial) ?_
        case hy9 => (intro W hSw; (try dsimp only at hSw); go_simp; try with_reducible rfl)
        (try simp only [Act.put, List.getElem_toArray, List.getElem_cons_zero, List.getElem_cons_succ, List.setIfInBounds_toArray, List.set_cons_zero, List.set_cons_succ])
        refine wpAnyB_take (i := 10) (v := ?_) rfl (by decide) (by kernel_rfl) (by kernel_rfl) (by kernel_rfl) (fun _ _ _ h => h) (Or.inl ⟨by rfl, ?hy10⟩) hS4 (fun _ => trivial) ?_
        case hy10 => (intro W hSw; (try dsimp only at hSw); go_simp; try with_reducible rfl)
        (try simp only [Act.put, List.getElem_toArray, List.getElem_cons_zero, List.getElem_cons_succ, List.setIfInBounds_toArray, List.set_cons_zero, List.set_cons_succ])
        refine wpAnyB_end (by kernel_rfl) ?_
        obtain ⟨q1, q2⟩ := shape_endB hB0 hb3 (.cells #[.int .i64 t.d, .int .i64 t.i] 37)
        have HFin : Hid (ShapePost xs t p w (.returned (.tuple #[.slice (some ⟨w3.heap.size, 0, none⟩) 1 1, .bool bb])) (w3.alloc (.cells #[.int .i64 t.d, .int .i64 t.i] 37))) := ⟨_, [w3.heap.size], by rw [HNV.out], q1, q2, fun _ => by rw [HTY.out]; exact arr_tys1 (Blk.new w3 _ _)⟩
        clear y0 y1 z0 z1 z2 z3 z4 z5 klt klt2
        clear hS1 hS3 hb3 q1 q2
        go_wp2
        go_ret2
        exact HFin.out
      · go_simp
        go_at_call 197
        with_reducible refine (HV2.out _).mono ?_
        rintro e w4 ⟨rfl, hw4⟩
        rw [hw4]
        clear hw4 w4
        dsimp only
        refine hK.out _ _ hS3 (fun _ => trivial) ?_
        clear hK K
        (try simp only [Act.put, List.getElem_toArray, List.getElem_cons_zero, List.getElem_cons_succ, List.setIfInBounds_toArray, List.set_cons_zero, List.set_cons_succ])
        refine wpAnyB_take (i := 8) (v := ?_) rfl (by decide) (by kernel_rfl) (by kernel_rfl) (by kernel_rfl) (fun _ _ _ h => h) (Or.inl ⟨by rfl, ?hy8⟩) hS3 (fun _ => trivial) ?_
        case hy8 => (intro W hSw; (try dsimp only at hSw); go_simp; try with_reducible rfl)
        (try simp only [Act.put, List.getElem_toArray, List.getElem_cons_zero, List.getElem_cons_succ, List.setIfInBounds_toArray, List.set_cons_zero, List.set_cons_succ])
        refine wpAnyB_ready (rs := [1]) (by kernel_rfl) (by simp) ?_
        refine AllReadyB.cons rfl (fun K hK => ?_) AllReadyB.nil
        go_simp
        have hS4 := And.intro (hS3.1.same (Below.heap_alloc _ (.cells #[.int .i64 t.d, .int .i64 t.i] 37) _ hS3.1.lt)) (hS3.2.same (Below.heap_alloc _ (.cells #[.int .i64 t.d, .int .i64 t.i] 37) _ hS3.2.lt))
        refine hK.out _ _ hS4 (fun _ => trivial) ?_
        clear hK K
        (try simp only [Act.put, List.getElem_toArray, List.getElem_cons_zero, List.getElem_cons_succ, List.setIfInBounds_toArray, List.set_cons_zero, List.set_cons_succ])
        refine wpAnyB_take (i := 9) (v := ?_) rfl (by decide) (by kernel_rfl) (by kernel_rfl) (by kernel_rfl) (fun _ _ _ h => h) (Or.inl ⟨by rfl, ?hy9⟩) hS4 (fun _ => trivial) ?_
        case hy9 => (intro W hSw; (try dsimp only at hSw); go_simp; try with_reducible rfl)
        (try simp only [Act.put, List.getElem_toArray, List.getElem_cons_zero, List.getElem_cons_succ, List.setIfInBounds_toArray, List.set_cons_zero, List.set_cons_succ])
        refine wpAnyB_take (i := 10) (v := ?_) rfl (by decide) (by kernel_rfl) (by kernel_rfl) (by kernel_rfl) (fun _ _ _ h => h) (Or.inl ⟨by rfl, ?hy10⟩) hS4 (fun _ => trivial) ?_
        case hy10 => (intro W hSw; (try dsimp only at hSw); go_simp; try with_reducible rfl)
        (try simp only [Act.put, List.getElem_toArray, List.getElem_cons_zero, List.getElem_cons_succ, List.setIfInBounds_toArray, List.set_cons_zero, List.set_cons_succ])
        refine wpAnyB_end (by kernel_rfl) ?_
        obtain ⟨q1, q2⟩ := shape_endB hB0 hb3 (.cells #[.int .i64 t.d, .int .i64 t.i] 37)
        have HFin : Hid (ShapePost xs t p w (.returned (.tuple #[.slice (some ⟨w3.heap.size, 0, none⟩) 1 1, .bool bb])) (w3.alloc (.cells #[.int .i64 t.d, .int .i64 t.i] 37))) := ⟨_, [w3.heap.size], by rw [HNV.out], q1, q2, fun _ => by rw [HTY.out]; exact arr_tys1 (Blk.new w3 _ _)⟩
        clear y0 y1 z0 z1 z2 z3 z4 z5 klt klt2
        clear hS1 hS3 hb3 q1 q2
        go_wp2
        go_ret2
        exact HFin.out

set_option maxRecDepth 100000 in
set_option maxHeartbeats 1600000 in
theorem impl_shape (xs : List Dt) (hw : WorldOK xs) (t : Ty) (ht : TyIn xs.length t) (p : P) (w : World) (x : Value) (F : List Nat) (cs : List Value) (G : List Nat) : Arr w (DtR w) xs x F → Under w.heap.size F → PR w p cs G → Under w.heap.size G →
    Calls Try.prog 182 #[x, .agg #[.int .i64 t.d, .int .i64 t.i], .agg cs.toArray] w (ShapePost xs t p w) := by
  intro hx hf hv hg
  by_cases h1 : p.op = 1
  · exact shape_1 xs hw t ht p h1 w x F cs G hx hf hv hg
  by_cases h2 : p.op = 2
  · exact shape_2 xs hw t ht p h2 w x F cs G hx hf hv hg
  by_cases h3 : p.op = 3
  · exact shape_3 xs hw t ht p h3 w x F cs G hx hf hv hg
  by_cases h4 : p.op = 4
  · exact shape_4 xs hw t ht p h4 w x F cs G hx hf hv hg
  by_cases h5 : p.op = 5
  · exact shape_5 xs hw t ht p h5 w x F cs G hx hf hv hg
  by_cases h6 : p.op = 6
  · exact shape_6 xs hw t ht p h6 w x F cs G hx hf hv hg
  obtain ⟨kv, rfl, ha⟩ := (PR_iff _ _ _).1 hv
  obtain ⟨A, cap, rfl, hc1, hc2⟩ := hx.form
  obtain ⟨A4, cap4, rfl, hc3, hc4⟩ := ha.form
  have HV := Lib.hid hv
  have HX := Lib.hid hx
  have HF := Lib.hid hf
  have HA := Lib.hid ha
  have HG := Lib.hid hg
  clear hx hf ha hg
  clear hv
  have o1 : (p.op == 1) = false := by simpa using h1
  have o2 : (p.op == 2) = false := by simpa using h2
  have o3 : (p.op == 3) = false := by simpa using h3
  have o4 : (p.op == 4) = false := by simpa using h4
  have o5 : (p.op == 5) = false := by simpa using h5
  have o6 : (p.op == 6) = false := by simpa using h6
  have HNO := Lib.hid (nodeB_no (xs := xs) (t := t) h1 h2 h3 h4 h5 h6)
  clear h1 h2 h3 h4 h5 h6
  have HFin : Hid (ShapePost xs t p w (.returned (.tuple #[.slice none 0 0, .bool false])) ((w.alloc (.cells #[.int .i64 t.d, .int .i64 t.i] 37)).alloc (.cells #[.int .i64 p.op, .int .i64 p.ct, .int .i64 p.n, .int .i64 p.m, .int .i64 p.va, .slice A4 p.ks.length cap4] 32))) := ⟨_, [], by rw [HNO.out], ((Below.refl _ _).alloc (Nat.le_refl _) _).alloc (by simp) _, Fresh.nil _ _, fun h => by rw [HNO.out] at h; cases h⟩
  go_enter Try.func182, Try.ntmps182
  go_wp2
  go_ret2
  exact HFin.out
end Go.Proofs.Ytbffkgfhcmigaaa

namespace Go.Proofs.Ytbffkgfhcmigaaa
open Go.RowKit

def isLeast (xs : List Dt) (t : Ty) (k : Int) : Bool := mostIn xs (tableL xs) t k == depthIn (tableL xs) t
def leastV (xs : List Dt) : Nat → Ty → V
  | 0, _ => ⟨0, 0, []⟩
  | n + 1, t => if t.d = -1 then ⟨-1, 0, []⟩ else match (ctorsL xs t).find? (isLeast xs t) with
    | none => ⟨0, 0, []⟩
    | some k => ⟨k, 0, (argsOf xs t k).map (leastV xs n)⟩
theorem leastV_int {xs : List Dt} {n : Nat} {t : Ty} (h : t.d = -1) : leastV xs (n + 1) t = ⟨-1, 0, []⟩ := by rw [leastV, if_pos h]
theorem leastV_none {xs : List Dt} {n : Nat} {t : Ty} (h : ¬ t.d = -1) (h2 : (ctorsL xs t).find? (isLeast xs t) = none) : leastV xs (n + 1) t = ⟨0, 0, []⟩ := by rw [leastV, if_neg h, h2]
theorem leastV_some {xs : List Dt} {n : Nat} {t : Ty} {k : Int} (h : ¬ t.d = -1) (h2 : (ctorsL xs t).find? (isLeast xs t) = some k) : leastV xs (n + 1) t = ⟨k, 0, (argsOf xs t k).map (leastV xs n)⟩ := by rw [leastV, if_neg h, h2]
theorem find_step {p : Int → Bool} {l : List Int} {i : Nat} (h : i < l.length) : (l.drop i).find? p = if p l[i] = true then some l[i] else (l.drop (i + 1)).find? p := by
  rw [List.drop_eq_getElem_cons h, List.find?_cons]
  cases p l[i] <;> simp
theorem find_end {p : Int → Bool} {l : List Int} {i : Nat} (h : l.length ≤ i) : (l.drop i).find? p = none := by
  rw [List.drop_of_length_le h]; rfl
/-- the arguments of a least constructor are less deep -/
theorem least_args {xs : List Dt} (hw : WorldOK xs) {t : Ty} (ht : TyIn xs.length t) {k : Int} (hk : k ∈ ctorsL xs t) (hl : isLeast xs t k = true) (h0 : depthIn (tableL xs) t ≠ 0) {a : Ty} (ha : a ∈ argsOf xs t k) :
    TyIn xs.length a ∧ depthIn (tableL xs) a ≠ 0 ∧ depthIn (tableL xs) a + 1 ≤ depthIn (tableL xs) t := by
  have e : mostIn xs (tableL xs) t k = depthIn (tableL xs) t := by unfold isLeast at hl; exact eq_of_beq hl
  have hs := sound_tableL hw
  have hne := mostGo_ne (tab := tableL xs) (ls := argsOf xs t k) (m := 0) (by show mostIn xs (tableL xs) t k ≠ 0; rw [e]; exact h0)
  have hp := (mostGo_pos hs.dpos (Int.le_refl 0) hne).2 a ha
  have h2 : mostGo (tableL xs) 0 (argsOf xs t k) = mostIn xs (tableL xs) t k := rfl
  exact ⟨argsOf_in hw ht hk ha, hne a ha, by omega⟩
theorem argsOf_len3 {xs : List Dt} (hw : WorldOK xs) {t : Ty} (ht : TyIn xs.length t) {k : Int} (hk : k ∈ ctorsL xs t) : (argsOf xs t k).length ≤ 3 := by
  rcases ht with h | ⟨d, i, rfl, h1, h2⟩
  · rw [ctorsL_int h] at hk; cases hk
  · obtain ⟨d', m, e1, rfl, hd, hm⟩ := mem_ctorsL (.inr ⟨d, rfl, h1⟩) hk
    obtain rfl : d = d' := Int.ofNat.inj e1
    rw [argsOf_get hd hm, argsL_len]
    exact (hw.ctor hd hm).args
theorem sizes_map_le {α : Type} (f : α → V) (b : Nat) : ∀ (l : List α), (∀ a ∈ l, nodes (f a) ≤ b) → V.sizes (l.map f) ≤ l.length * b
  | [], _ => by simp [V.sizes]
  | a :: l, h => by
    have h1 := h a (by simp)
    have h2 := sizes_map_le f b l fun x hx => h x (by simp [hx])
    simp only [List.map_cons, V.sizes, List.length_cons]
    unfold nodes at h1
    rw [Nat.add_mul]
    omega
theorem leastV_nodes {xs : List Dt} (hw : WorldOK xs) : ∀ (n : Nat) (t : Ty), TyIn xs.length t → nodes (leastV xs n t) ≤ 4 ^ n
  | 0, t, _ => by simp [leastV, nodes, V.size, V.sizes]
  | n + 1, t, ht => by
    have hp : 1 ≤ 4 ^ n := Nat.one_le_pow _ _ (by omega)
    have h4 : 4 ^ (n + 1) = 4 ^ n * 4 := Nat.pow_succ ..
    by_cases hd : t.d = -1
    · rw [leastV_int hd]; simp [nodes, V.size, V.sizes]; omega
    · cases hf : (ctorsL xs t).find? (isLeast xs t) with
      | none => rw [leastV_none hd hf]; simp [nodes, V.size, V.sizes]; omega
      | some k =>
        rw [leastV_some hd hf]
        have hk := List.mem_of_find?_eq_some hf
        have h1 := sizes_map_le (leastV xs n) (4 ^ n) (argsOf xs t k) fun a ha => leastV_nodes hw n a (argsOf_in hw ht hk ha)
        have h3 := argsOf_len3 hw ht hk
        have h5 : (argsOf xs t k).length * 4 ^ n ≤ 3 * 4 ^ n := Nat.mul_le_mul_right _ h3
        rw [nodes_ks]
        simp only
        omega
theorem leastV_small {xs : List Dt} (hw : WorldOK xs) {n : Nat} (hn : n ≤ 10) {t : Ty} (ht : TyIn xs.length t) : (leastV xs n t).size ≤ 1048576 := by
  have h1 := leastV_nodes hw n t ht
  have h2 : 4 ^ n ≤ 4 ^ 10 := Nat.pow_le_pow_right (by omega) hn
  have h3 : (4 : Nat) ^ 10 = 1048576 := by decide
  unfold nodes at h1
  omega
/-- the kids made so far -/
def leastTo (xs : List Dt) (n : Nat) (as' : List Ty) (i : Nat) : List V := (as'.take i).map (leastV xs n)
theorem leastTo_succ (xs : List Dt) (n : Nat) (l : List Ty) (i : Nat) (h : i < l.length) : leastTo xs n l (i + 1) = leastTo xs n l i ++ [leastV xs n l[i]] := by
  unfold leastTo
  rw [take_snoc' l i h, List.map_append]; rfl
theorem leastTo_all (xs : List Dt) (n : Nat) (l : List Ty) {i : Nat} (h : l.length ≤ i) : leastTo xs n l i = l.map (leastV xs n) := by unfold leastTo; rw [List.take_of_length_le h]
theorem leastTo_len (xs : List Dt) (n : Nat) (l : List Ty) (i : Nat) : (leastTo xs n l i).length ≤ i := by unfold leastTo; rw [List.length_map, List.length_take]; omega
/-- what LeastValue gives -/
def leastFine (xs : List Dt) (t : Ty) : Bool := typeValidB xs t && (withinB (depthIn (tableL xs) t) 1 10 && valueOkB xs t (leastV xs 10 t))
def leastR (xs : List Dt) (t : Ty) : V := if leastFine xs t = true then leastV xs 10 t else ⟨0, 0, []⟩
theorem leastR_size (xs : List Dt) (t : Ty) : (leastR xs t).size ≤ 60 := by
  unfold leastR
  split
  · rename_i h
    unfold leastFine valueOkB nodes at h
    simp only [Bool.and_eq_true, decide_eq_true_eq] at h
    omega
  · simp [V.size, V.sizes]
end Go.Proofs.Ytbffkgfhcmigaaa

namespace Go.Proofs.Ytbffkgfhcmigaaa
open Go.RowKit

def allP (f : Ty → P → Bool) (ls : List Ty) (ks : List P) : Bool := (ls.zip ks).all fun x => f x.1 x.2
theorem allP_step {f : Ty → P → Bool} {ls : List Ty} {ks : List P} {i : Nat} (h1 : i < ls.length) (h2 : i < ks.length) : allP f (ls.drop i) (ks.drop i) = (f ls[i] ks[i] && allP f (ls.drop (i + 1)) (ks.drop (i + 1))) := by
  rw [List.drop_eq_getElem_cons h1, List.drop_eq_getElem_cons h2]; rfl
theorem allP_end {f : Ty → P → Bool} {ls : List Ty} {ks : List P} {i : Nat} (h1 : ls.length ≤ i) : allP f (ls.drop i) (ks.drop i) = true := by
  rw [List.drop_of_length_le h1]; rfl
theorem shapeB_succ (xs : List Dt) (d : Nat) (t : Ty) (p : P) : shapeB xs (d + 1) t p = (ownB xs t p && (p.ks.length == (typesP xs t p).length && allP (shapeB xs d) (typesP xs t p) p.ks)) := rfl
theorem typesP_in {xs : List Dt} (hw : WorldOK xs) {t : Ty} (ht : TyIn xs.length t) {p : P} (ho : ownB xs t p = true) : ∀ a ∈ typesP xs t p, TyIn xs.length a := fun a ha => by
  by_cases h4 : p.op = 4
  · unfold typesP at ha
    rw [if_pos h4] at ha
    exact argsOf_in hw ht (ownB_ctor h4 ho) ha
  · rw [typesP_no h4] at ha
    have := List.eq_of_mem_replicate ha
    rw [this]; exact ht
theorem typesP_len {xs : List Dt} (hw : WorldOK xs) {t : Ty} (ht : TyIn xs.length t) {p : P} (ho : ownB xs t p = true) : (typesP xs t p).length ≤ 3 := by
  by_cases h4 : p.op = 4
  · unfold typesP
    rw [if_pos h4]
    exact argsOf_len3 hw ht (ownB_ctor h4 ho)
  · rw [typesP_no h4, repTo_len]
    have := kidsN_le p.op
    omega

/-- contract of l3Shape at one pattern -/
def ShapeS (p : P) : Prop := ∀ (xs : List Dt) (_ : WorldOK xs) (d : Nat) (_ : d ≤ 10) (t : Ty) (_ : TyIn xs.length t) (w : World) (x : Value) (F : List Nat) (cs : List Value) (G : List Nat), Arr w (DtR w) xs x F → Under w.heap.size F → PR w p cs G → Under w.heap.size G →
  Calls Try.prog 146 #[x, .agg #[.int .i64 t.d, .int .i64 t.i], .agg cs.toArray, .int .i64 (d : Int)] w fun e w' => e = .returned (.bool (shapeB xs d t p)) ∧ Below w.heap.size w w'

set_option maxRecDepth 100000 in
set_option maxHeartbeats 1600000 in
theorem l3Shape_of (p : P) (ih : ∀ k ∈ p.ks, ShapeS k) : ShapeS p := by
  intro xs hw d hd t ht w x F cs G hx hf hv hg
  have IH := Lib.hid ih
  clear ih
  obtain ⟨kv, rfl, ha⟩ := (PR_iff _ _ _).1 hv
  obtain ⟨A, cap, rfl, hc1, hc2⟩ := hx.form
  obtain ⟨A4, cap4, rfl, hc3, hc4⟩ := ha.form
  have HV := Lib.hid hv
  have HX := Lib.hid hx
  have HF := Lib.hid hf
  have HA := Lib.hid ha
  have HG := Lib.hid hg
  clear hx hf ha hg
  clear hv
  have HW := Lib.hid hw
  have HT := Lib.hid ht
  clear hw ht
  cases d with
  | zero =>
    go_enter Try.func146, Try.ntmps146
    go_wp2
    go_ret
    exact ⟨ret_bool rfl, ((Below.refl _ _).alloc (Nat.le_refl _) _).alloc (by simp) _⟩
  | succ d =>
  have hd1 : decide (((d + 1 : Nat) : Int) < 1) = false := by simp; omega
  have hde : ((d + 1 : Nat) : Int) = (d : Int) + 1 := by omega
  rw [hde] at hd1 ⊢
  clear hde
  have HFD := Lib.hid (shapeB_succ xs d t p)
  go_enter Try.func146, Try.ntmps146
  go_wp2_with fail
  obtain ⟨W2, hW2⟩ : ∃ W2, W2 = ((w.alloc (.cells #[.int .i64 t.d, .int .i64 t.i] 37)).alloc (.cells #[.int .i64 p.op, .int .i64 p.ct, .int .i64 p.n, .int .i64 p.m, .int .i64 p.va, .slice A4 p.ks.length cap4] 32)) := ⟨_, rfl⟩
  have hB0 : Below w.heap.size w W2 := by rw [hW2]; exact ((Below.refl _ _).alloc (Nat.le_refl _) _).alloc (by simp) _
  have KT : Hid (Blk W2 w.heap.size 37 #[.int .i64 t.d, .int .i64 t.i]) := by rw [hW2]; exact (Blk.new w _ _).same (Below.heap_alloc _ _ _ (by simp))
  have KP : Hid (Blk W2 (w.heap.size + 1) 32 #[.int .i64 p.op, .int .i64 p.ct, .int .i64 p.n, .int .i64 p.m, .int .i64 p.va, .slice A4 p.ks.length cap4]) := by rw [hW2]; have h := Blk.new (w.alloc (.cells #[.int .i64 t.d, .int .i64 t.i] 37)) 32 #[.int .i64 p.op, .int .i64 p.ct, .int .i64 p.n, .int .i64 p.m, .int .i64 p.va, .slice A4 p.ks.length cap4]; rw [World.size_alloc] at h; exact h
  have hws : w.heap.size + 2 ≤ W2.heap.size := by rw [hW2]; simp
  rw [← hW2]
  clear hW2
  have y0 : W2.cell? ⟨w.heap.size, 0, none⟩ = some (.int .i64 t.d) := (KT.out.cell 0).trans (by simp)
  have y1 : W2.cell? ⟨w.heap.size, 1, none⟩ = some (.int .i64 t.i) := (KT.out.cell 1).trans (by simp)
  have klt := KT.out.lt
  have z0 : W2.cell? ⟨w.heap.size + 1, 0, none⟩ = some (.int .i64 p.op) := (KP.out.cell 0).trans (by simp)
  have z1 : W2.cell? ⟨w.heap.size + 1, 1, none⟩ = some (.int .i64 p.ct) := (KP.out.cell 1).trans (by simp)
  have z2 : W2.cell? ⟨w.heap.size + 1, 2, none⟩ = some (.int .i64 p.n) := (KP.out.cell 2).trans (by simp)
  have z3 : W2.cell? ⟨w.heap.size + 1, 3, none⟩ = some (.int .i64 p.m) := (KP.out.cell 3).trans (by simp)
  have z4 : W2.cell? ⟨w.heap.size + 1, 4, none⟩ = some (.int .i64 p.va) := (KP.out.cell 4).trans (by simp)
  have z5 : W2.cell? ⟨w.heap.size + 1, 5, none⟩ = some (.slice A4 p.ks.length cap4) := (KP.out.cell 5).trans (by simp)
  have klt2 := KP.out.lt
  go_wp2_with fail
  refine (spec_l3Own xs HW.out t HT.out p W2 _ F _ G (ArrDt.below HX.out hB0 HF.out) (HF.out.mono hB0.size) (HV.out.below hB0 HG.out) (HG.out.mono hB0.size)).mono ?_
  rintro e w3 ⟨rfl, hb3⟩
  have hB3 := hB0.trans (hb3.mono hB0.size)
  have KT3 := Lib.hid (KT.out.same (hb3.block _ KT.out.lt))
  have KP3 := Lib.hid (KP.out.same (hb3.block _ KP.out.lt))
  clear y0 y1 z0 z1 z2 z3 z4 z5 klt klt2
  have y0 : w3.cell? ⟨w.heap.size, 0, none⟩ = some (.int .i64 t.d) := (KT3.out.cell 0).trans (by simp)
  have y1 : w3.cell? ⟨w.heap.size, 1, none⟩ = some (.int .i64 t.i) := (KT3.out.cell 1).trans (by simp)
  have klt := KT3.out.lt
  have z0 : w3.cell? ⟨w.heap.size + 1, 0, none⟩ = some (.int .i64 p.op) := (KP3.out.cell 0).trans (by simp)
  have z1 : w3.cell? ⟨w.heap.size + 1, 1, none⟩ = some (.int .i64 p.ct) := (KP3.out.cell 1).trans (by simp)
  have z2 : w3.cell? ⟨w.heap.size + 1, 2, none⟩ = some (.int .i64 p.n) := (KP3.out.cell 2).trans (by simp)
  have z3 : w3.cell? ⟨w.heap.size + 1, 3, none⟩ = some (.int .i64 p.m) := (KP3.out.cell 3).trans (by simp)
  have z4 : w3.cell? ⟨w.heap.size + 1, 4, none⟩ = some (.int .i64 p.va) := (KP3.out.cell 4).trans (by simp)
  have z5 : w3.cell? ⟨w.heap.size + 1, 5, none⟩ = some (.slice A4 p.ks.length cap4) := (KP3.out.cell 5).trans (by simp)
  have klt2 := KP3.out.lt
  clear hb3 KT KP hB0
  cases e1 : ownB xs t p with
  | false =>
    have hf : Hid (shapeB xs (d + 1) t p = false) := by rw [HFD.out, e1]; rfl
    clear e1
    go_wp2
    go_ret
    exact ⟨ret_bool hf.out.symm, hB3⟩
  | true =>
    have h1 : shapeB xs (d + 1) t p = (p.ks.length == (typesP xs t p).length && allP (shapeB xs d) (typesP xs t p) p.ks) := by rw [HFD.out, e1, Bool.true_and]
    have H1 := Lib.hid h1
    have HO := Lib.hid e1
    have HAI := Lib.hid (typesP_in HW.out HT.out e1)
    have hl3 := typesP_len HW.out HT.out e1
    clear h1 e1
    go_wp2_with fail
    refine (spec_l3Types xs HW.out t HT.out p HO.out w3 _ F _ G (ArrDt.below HX.out hB3 HF.out) (HF.out.mono hB3.size) (HV.out.below hB3 HG.out) (HG.out.mono hB3.size)).mono ?_
    rintro e w6 ⟨v6, F6, rfl, hb6, ha6, -, hfs6⟩
    have hB6 := hB3.trans (hb6.mono hB3.size)
    have KT6 := Lib.hid (KT3.out.same (hb6.block _ KT3.out.lt))
    have KP6 := Lib.hid (KP3.out.same (hb6.block _ KP3.out.lt))
    generalize hass : typesP xs t p = ls at *
    clear hass
    obtain ⟨A6, cap6, rfl, hd3, hd4⟩ := ha6.form
    have HA6 := Lib.hid ha6
    have HU6 := Lib.hid hfs6.under
    clear y0 y1 z0 z1 z2 z3 z4 z5 klt klt2
    clear ha6 hfs6 hb6 KT3 KP3 hB3 KT6
    have z5 : w6.cell? ⟨w.heap.size + 1, 5, none⟩ = some (.slice A4 p.ks.length cap4) := (KP6.out.cell 5).trans (by simp)
    have klt2 := KP6.out.lt
    by_cases hln : p.ks.length = ls.length
    · have t2 : ((p.ks.length : Int) != (ls.length : Int)) = false := by simp [hln]
      have h3 : shapeB xs (d + 1) t p = allP (shapeB xs d) ls p.ks := by rw [H1.out, hln]; simp
      have H3 := Lib.hid h3
      have HLN := Lib.hid hln
      clear h3 hln
      go_wp2
      clear z5 klt2 t2
      go_loopw [10] (fun iv wr => ∃ i : Nat, i ≤ ls.length ∧ iv = .int .i64 i ∧ Hid (shapeB xs (d + 1) t p = allP (shapeB xs d) (ls.drop i) (p.ks.drop i)) ∧ Hid (Blk wr (w.heap.size + 1) 32 #[.int .i64 p.op, .int .i64 p.ct, .int .i64 p.n, .int .i64 p.m, .int .i64 p.va, .slice A4 p.ks.length cap4]) ∧ Below w.heap.size w wr ∧ Hid (Below w6.heap.size w6 wr)) (fun iv _ => ls.length - (intOf iv).toNat)
      case atStart => exact ⟨0, Nat.zero_le _, rfl, H3, KP6, hB6, Below.refl _ _⟩
      case round =>
        clear hB6
        obtain ⟨i, hi, rfl, HR, KP, hB, HB6⟩ := hrel
        by_cases hil : i < ls.length
        · have hik : i < p.ks.length := by rw [HLN.out]; exact hil
          obtain ⟨b6, off6, rfl⟩ := HA6.out.ptr (by omega)
          obtain ⟨hb6, a0, a1⟩ := ArrTy.at HA6.out HU6.out HB6.out i hil
          obtain ⟨b4, off4, rfl⟩ := HA.out.ptr (by omega)
          obtain ⟨A7, cap7, G7, hb7, k0, k1, k2, k3, k4, k5, HV7, HG7, -, -, -⟩ := ArrP.at HA.out HG.out hB i hik
          have z5 : wr.cell? ⟨w.heap.size + 1, 5, none⟩ = some (.slice (some ⟨b4, off4, none⟩) p.ks.length cap4) := (KP.out.cell 5).trans (by simp)
          have klt2 := KP.out.lt
          have g1 : (0 : Int) ≤ (i : Int) := by omega
          have g2 : (i : Int) < (ls.length : Int) := by omega
          have g3 : (i : Int) < (p.ks.length : Int) := by omega
          have hstep := HR.out
          rw [allP_step hil hik] at hstep
          have HST := Lib.hid hstep
          clear hstep
          have hwr : IntKind.i64.wrap (d : Int) = (d : Int) := IntWalk.i64_in _ (by omega)
          have HCALL := Lib.hid (IH.out p.ks[i] (List.getElem_mem hik) xs HW.out d (by omega) ls[i] (HAI.out _ (List.getElem_mem hil)) wr.drew _ F _ G7 (ArrDt.below HX.out hB.drew HF.out) (HF.out.mono hB.drew.size) (HV7.out.below hB.drew HG7.out) (HG7.out.mono hB.drew.size))
          go_wp2_with fail
          have hkeep : ∀ U U' : World, (U.cell? ⟨b6, off6 + i * 2, none⟩ = some (.int .i64 ls[i].d) ∧ U.cell? ⟨b6, off6 + i * 2 + 1, none⟩ = some (.int .i64 ls[i].i) ∧ U.cell? ⟨w.heap.size + 1, 5, none⟩ = some (.slice (some ⟨b4, off4, none⟩) p.ks.length cap4) ∧ U.cell? ⟨b4, off4 + i * 6, none⟩ = some (.int .i64 p.ks[i].op) ∧ U.cell? ⟨b4, off4 + i * 6 + 1, none⟩ = some (.int .i64 p.ks[i].ct) ∧ U.cell? ⟨b4, off4 + i * 6 + 2, none⟩ = some (.int .i64 p.ks[i].n) ∧ U.cell? ⟨b4, off4 + i * 6 + 3, none⟩ = some (.int .i64 p.ks[i].m) ∧ U.cell? ⟨b4, off4 + i * 6 + 4, none⟩ = some (.int .i64 p.ks[i].va) ∧ U.cell? ⟨b4, off4 + i * 6 + 5, none⟩ = some (.slice A7 p.ks[i].ks.length cap7)) → Below U.heap.size U U' → wr.heap.size ≤ U.heap.size → (U'.cell? ⟨b6, off6 + i * 2, none⟩ = some (.int .i64 ls[i].d) ∧ U'.cell? ⟨b6, off6 + i * 2 + 1, none⟩ = some (.int .i64 ls[i].i) ∧ U'.cell? ⟨w.heap.size + 1, 5, none⟩ = some (.slice (some ⟨b4, off4, none⟩) p.ks.length cap4) ∧ U'.cell? ⟨b4, off4 + i * 6, none⟩ = some (.int .i64 p.ks[i].op) ∧ U'.cell? ⟨b4, off4 + i * 6 + 1, none⟩ = some (.int .i64 p.ks[i].ct) ∧ U'.cell? ⟨b4, off4 + i * 6 + 2, none⟩ = some (.int .i64 p.ks[i].n) ∧ U'.cell? ⟨b4, off4 + i * 6 + 3, none⟩ = some (.int .i64 p.ks[i].m) ∧ U'.cell? ⟨b4, off4 + i * 6 + 4, none⟩ = some (.int .i64 p.ks[i].va) ∧ U'.cell? ⟨b4, off4 + i * 6 + 5, none⟩ = some (.slice A7 p.ks[i].ks.length cap7)) := fun U U' h hUU hU => ⟨(hUU.cell (Nat.lt_of_lt_of_le (hb6) hU)).trans h.1, (hUU.cell (Nat.lt_of_lt_of_le (hb6) hU)).trans h.2.1, (hUU.cell (Nat.lt_of_lt_of_le (klt2) hU)).trans h.2.2.1, (hUU.cell (Nat.lt_of_lt_of_le (hb7) hU)).trans h.2.2.2.1, (hUU.cell (Nat.lt_of_lt_of_le (hb7) hU)).trans h.2.2.2.2.1, (hUU.cell (Nat.lt_of_lt_of_le (hb7) hU)).trans h.2.2.2.2.2.1, (hUU.cell (Nat.lt_of_lt_of_le (hb7) hU)).trans h.2.2.2.2.2.2.1, (hUU.cell (Nat.lt_of_lt_of_le (hb7) hU)).trans h.2.2.2.2.2.2.2.1, (hUU.cell (Nat.lt_of_lt_of_le (hb7) hU)).trans h.2.2.2.2.2.2.2.2⟩
          have HKeep := Lib.hid hkeep
          clear hkeep
          go_region_held3 (fun w' => w'.cell? ⟨b6, off6 + i * 2, none⟩ = some (.int .i64 ls[i].d) ∧ w'.cell? ⟨b6, off6 + i * 2 + 1, none⟩ = some (.int .i64 ls[i].i) ∧ w'.cell? ⟨w.heap.size + 1, 5, none⟩ = some (.slice (some ⟨b4, off4, none⟩) p.ks.length cap4) ∧ w'.cell? ⟨b4, off4 + i * 6, none⟩ = some (.int .i64 p.ks[i].op) ∧ w'.cell? ⟨b4, off4 + i * 6 + 1, none⟩ = some (.int .i64 p.ks[i].ct) ∧ w'.cell? ⟨b4, off4 + i * 6 + 2, none⟩ = some (.int .i64 p.ks[i].n) ∧ w'.cell? ⟨b4, off4 + i * 6 + 3, none⟩ = some (.int .i64 p.ks[i].m) ∧ w'.cell? ⟨b4, off4 + i * 6 + 4, none⟩ = some (.int .i64 p.ks[i].va) ∧ w'.cell? ⟨b4, off4 + i * 6 + 5, none⟩ = some (.slice A7 p.ks[i].ks.length cap7)) (first | assumption | (exact ⟨a0, a1, z5, k0, k1, k2, k3, k4, k5⟩) | (exact HKeep.out wr.drew w' ⟨a0, a1, z5, k0, k1, k2, k3, k4, k5⟩ hB' (Nat.le_refl _))) (first | (go_at_call 146; ((with_reducible refine HCALL.out.mono ?_); rintro e w' ⟨rfl, hB'⟩)))
          have hB3 := hB.drew.trans (hB'.mono hB.size)
          have HB3 := Lib.hid (HB6.out.drew.trans (hB'.mono HB6.out.size))
          have KP3 := Lib.hid (KP.out.same (hB'.block _ KP.out.lt))
          clear HKeep hwr
          cases e3 : shapeB xs d ls[i] p.ks[i] with
          | false =>
            have hf : Hid (shapeB xs (d + 1) t p = false) := by rw [HST.out, e3]; rfl
            clear e3
            go_wp2
            go_ret
            exact ⟨ret_bool hf.out.symm, hB3⟩
          | true =>
            have hR2 : Hid (shapeB xs (d + 1) t p = allP (shapeB xs d) (ls.drop (i + 1)) (p.ks.drop (i + 1))) := by rw [HST.out, e3, Bool.true_and]; rfl
            clear e3
            go_wp2
            go_roundw
            case rel => exact ⟨i + 1, by omega, by go_num, hR2, KP3, hB3, HB3⟩
            case measure => (simp [intOf] <;> omega)
        · have hf : Hid (shapeB xs (d + 1) t p = true) := by rw [HR.out]; exact allP_end (by omega)
          go_wp2
          go_ret
          exact ⟨ret_bool hf.out.symm, hB⟩
    · have t2 : ((p.ks.length : Int) != (ls.length : Int)) = true := by rw [bne_iff_ne]; omega
      have hf : Hid (shapeB xs (d + 1) t p = false) := by unfold Hid; rw [H1.out]; simp [hln]
      clear hln
      go_wp2
      go_ret
      exact ⟨ret_bool hf.out.symm, hB6⟩
theorem spec_l3Shape : ∀ p, ShapeS p := P.indv l3Shape_of
end Go.Proofs.Ytbffkgfhcmigaaa

namespace Go.Proofs.Ytbffkgfhcmigaaa
open Go.RowKit

theorem ArrVt.at {w0 w : World} {b off n cap : Nat} {F : List Nat} {xs : List Vt} (h : Arr w0 (VtR w0) xs (.slice (some ⟨b, off, none⟩) n cap) F) (hF : Under w0.heap.size F) (hB : Below w0.heap.size w0 w) (i : Nat) (hi : i < xs.length) :
    b < w.heap.size ∧ w.cell? ⟨b, off + i * 3, none⟩ = some (.int .i64 xs[i].var) ∧ w.cell? ⟨b, off + i * 3 + 1, none⟩ = some (.int .i64 xs[i].ty.d) ∧ w.cell? ⟨b, off + i * 3 + 2, none⟩ = some (.int .i64 xs[i].ty.i) := by
  obtain ⟨b', off', cs, G, e, hb, hcs, hv, hG⟩ := h.get (VtR_len w0) hi
  cases e
  have hbl := hF _ hb
  have hc := hcs.same (hB.block _ hbl)
  obtain ⟨rfl, rfl⟩ := hv
  exact ⟨Nat.lt_of_lt_of_le hbl hB.size, hc 0 _ rfl, hc 1 _ rfl, hc 2 _ rfl⟩
set_option maxRecDepth 100000 in
set_option maxHeartbeats 1600000 in
theorem spec_l3Find (xs : List Vt) (n r : Int) (hr : FirstAt (fun x : Vt => x.var == n) xs r) (w : World) (x : Value) (F : List Nat) (hx : Arr w (VtR w) xs x F) (hf : Under w.heap.size F) :
    Calls Try.prog 179 #[x, .int .i64 n] w fun e w' => e = .returned (.int .i64 r) ∧ Below w.heap.size w w' := by
  obtain ⟨A, cap, rfl, hc1, hc2⟩ := hx.form
  have HX := Lib.hid hx
  have HF := Lib.hid hf
  have HR := Lib.hid hr
  clear hx hf hr
  go_enter Try.func179, Try.ntmps179
  go_wp2
  go_loopw [5] (fun i wr => ∃ k : Nat, k ≤ xs.length ∧ i = .int .i64 k ∧ Hid (∀ j (hj : j < xs.length), j < k → (xs[j].var == n) = false) ∧ Below w.heap.size w wr) (fun i _ => xs.length - (intOf i).toNat)
  case atStart => exact ⟨0, Nat.zero_le _, rfl, fun j hj h => by omega, Below.refl _ _⟩
  case round =>
    obtain ⟨k, hk, rfl, HT, hB⟩ := hrel
    by_cases hlt : k < xs.length
    · have g1 : (0 : Int) ≤ (k : Int) := by omega
      have g2 : (k : Int) < (xs.length : Int) := by omega
      obtain ⟨b, off, rfl⟩ := HX.out.ptr (by omega)
      obtain ⟨hb, c0, c1, c2⟩ := ArrVt.at HX.out HF.out hB k hlt
      cases hq : (xs[k].var == n) with
      | true =>
        have hf := Lib.hid (HR.out.hit hlt hq (fun j hj h => HT.out j hj h))
        go_wp2
        go_ret
        exact ⟨ret_int hf.out.symm, hB⟩
      | false =>
        have hT2 : Hid (∀ j (hj : j < xs.length), j < k + 1 → (xs[j].var == n) = false) := fun j hj h => by
          rcases Nat.lt_or_ge j k with h2 | h2
          · exact HT.out j hj h2
          · obtain rfl : j = k := by omega
            exact hq
        go_wp2
        go_roundw
        case rel => exact ⟨k + 1, by omega, by go_num, hT2, hB⟩
        case measure => (simp [intOf] <;> omega)
    · have hf : Hid (r = -1) := HR.out.miss (fun j hj => HT.out j hj (by omega))
      go_wp2
      go_ret
      exact ⟨ret_int hf.out.symm, hB⟩
end Go.Proofs.Ytbffkgfhcmigaaa
