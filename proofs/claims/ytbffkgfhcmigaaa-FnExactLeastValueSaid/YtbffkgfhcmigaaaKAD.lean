/-
  Lemmas and contracts of functions: Small functions of the reference on patterns: l3Kids, l3Own, l3Types. Conditions: the world is valid. What the program's scan of a pattern answers, kid by kid. Conditions: none. only and isVar of the program; what a node of a pattern is, kind by kind. Conditions: none. shape of the program: kinds 1, 2, 4, 5. Conditions: the world is valid.
-/
import Derived.Test.YtbffkgfhcmigaaaKAC
import Derived.Test.YtbffkgfhcmigaaaKAB
import Derived.Deep.RegionWith
import Derived.Deep.RegionHeld3
import Derived.Deep.QuietTactic
import Derived.BigQuiet
import Derived.Test.YtbffkgfhcmigaaaKAA
import Derived.IntWalk

set_option linter.unusedVariables false
set_option linter.unusedSimpArgs false

namespace Go.Proofs.Ytbffkgfhcmigaaa
open Go.RowKit

set_option maxRecDepth 100000 in
set_option maxHeartbeats 1600000 in
theorem spec_l3Kids (op : Int) (h4 : ¬ op = 4) (w : World) : Calls Try.prog 181 #[.int .i64 op] w fun e w' => e = .returned (.int .i64 ((kidsN op : Nat) : Int)) ∧ w' = w := by
  have t4 : (op == 4) = false := by simpa using h4
  by_cases h5 : op = 5
  · subst h5
    go_enter Try.func181, Try.ntmps181
    go_wp2
    go_ret
    exact ⟨rfl, rfl⟩
  · have t5 : (op == 5) = false := by simpa using h5
    by_cases h6 : op = 6
    · subst h6
      go_enter Try.func181, Try.ntmps181
      go_wp2
      go_ret
      exact ⟨rfl, rfl⟩
    · have t6 : (op == 6) = false := by simpa using h6
      have hk : Hid (kidsN op = 0) := by unfold Hid kidsN; rw [if_neg h5, if_neg h6]
      go_enter Try.func181, Try.ntmps181
      go_wp2
      go_ret
      exact ⟨by rw [hk.out]; rfl, rfl⟩

set_option maxRecDepth 100000 in
set_option maxHeartbeats 1600000 in
theorem spec_l3Own (xs : List Dt) (hw : WorldOK xs) (t : Ty) (ht : TyIn xs.length t) (p : P) (w : World) (x : Value) (F : List Nat) (cs : List Value) (G : List Nat) : Arr w (DtR w) xs x F → Under w.heap.size F → PR w p cs G → Under w.heap.size G →
    Calls Try.prog 177 #[x, .agg #[.int .i64 t.d, .int .i64 t.i], .agg cs.toArray] w fun e w' => e = .returned (.bool (ownB xs t p)) ∧ Below w.heap.size w w' := by
  intro hx hf hv hg
  obtain ⟨kv, rfl, ha⟩ := (PR_iff _ _ _).1 hv
  obtain ⟨A, cap, rfl, hc1, hc2⟩ := hx.form
  obtain ⟨A4, cap4, rfl, hc3, hc4⟩ := ha.form
  have HV := Lib.hid hv
  have HX := Lib.hid hx
  have HF := Lib.hid hf
  have HA := Lib.hid ha
  have HG := Lib.hid hg
  clear hx hf ha hg
  clear hv
  have HW := Lib.hid hw
  have HT := Lib.hid ht.inWorld
  clear hw ht HA HG HV
  obtain ⟨op, ct, n, m, va, ks⟩ := p
  simp only at hc3 hc4 ⊢
  have HB : Hid (Below w.heap.size w ((w.alloc (.cells #[.int .i64 t.d, .int .i64 t.i] 37)).alloc (.cells #[.int .i64 op, .int .i64 ct, .int .i64 n, .int .i64 m, .int .i64 va, .slice A4 ks.length cap4] 32))) := ((Below.refl _ _).alloc (Nat.le_refl _) _).alloc (by simp) _
  by_cases o1 : op = 1
  · subst o1
    by_cases v1 : va = 0
    · have tv1 : (va != 0) = false := by simp [v1]
      by_cases n1 : n = 0
      · have tn1 : (n != 0) = false := by simp [n1]
        by_cases m1 : m = 0
        · have tm1 : (m != 0) = false := by simp [m1]
          by_cases c1 : ct = 0
          · have tc1 : (ct != 0) = false := by simp [c1]
            have hf : Hid (ownB xs t ⟨1, ct, n, m, va, ks⟩ = true) := by unfold Hid ownB namedB kindB; simp [v1, n1, m1, c1]
            go_enter Try.func177, Try.ntmps177
            go_wp2
            go_ret
            exact ⟨by subst_vars; exact ret_bool hf.out.symm, ((Below.refl _ _).alloc (Nat.le_refl _) _).alloc (by simp) _⟩
          · have tc1 : (ct != 0) = true := by simpa using c1
            have hf : Hid (ownB xs t ⟨1, ct, n, m, va, ks⟩ = false) := by unfold Hid ownB namedB kindB; simp [v1, n1, m1, c1]
            go_enter Try.func177, Try.ntmps177
            go_wp2
            go_ret
            exact ⟨by subst_vars; exact ret_bool hf.out.symm, ((Below.refl _ _).alloc (Nat.le_refl _) _).alloc (by simp) _⟩
        · have tm1 : (m != 0) = true := by simpa using m1
          have hf : Hid (ownB xs t ⟨1, ct, n, m, va, ks⟩ = false) := by unfold Hid ownB namedB kindB; simp [v1, m1]
          go_enter Try.func177, Try.ntmps177
          go_wp2
          go_ret
          exact ⟨by subst_vars; exact ret_bool hf.out.symm, ((Below.refl _ _).alloc (Nat.le_refl _) _).alloc (by simp) _⟩
      · have tn1 : (n != 0) = true := by simpa using n1
        have hf : Hid (ownB xs t ⟨1, ct, n, m, va, ks⟩ = false) := by unfold Hid ownB namedB kindB; simp [v1, n1]
        go_enter Try.func177, Try.ntmps177
        go_wp2
        go_ret
        exact ⟨by subst_vars; exact ret_bool hf.out.symm, ((Below.refl _ _).alloc (Nat.le_refl _) _).alloc (by simp) _⟩
    · have tv1 : (va != 0) = true := by simpa using v1
      have hf : Hid (ownB xs t ⟨1, ct, n, m, va, ks⟩ = false) := by unfold Hid ownB namedB kindB; simp [v1]
      go_enter Try.func177, Try.ntmps177
      go_wp2
      go_ret
      exact ⟨by subst_vars; exact ret_bool hf.out.symm, ((Below.refl _ _).alloc (Nat.le_refl _) _).alloc (by simp) _⟩
  have u1 : (op == 1) = false := by simpa using o1
  by_cases o2 : op = 2
  · subst o2
    by_cases v1 : va < 0
    · have tv1 : (decide (va < 0)) = true := by simpa using v1
      have v1x : ¬ 0 ≤ va := by omega
      have hf : Hid (ownB xs t ⟨2, ct, n, m, va, ks⟩ = false) := by unfold Hid ownB namedB kindB; simp [v1x]
      go_enter Try.func177, Try.ntmps177
      go_wp2
      go_ret
      exact ⟨by subst_vars; exact ret_bool hf.out.symm, ((Below.refl _ _).alloc (Nat.le_refl _) _).alloc (by simp) _⟩
    · have tv1 : (decide (va < 0)) = false := by simpa using v1
      by_cases v2 : 5 < va
      · have tv2 : (decide (va > 5)) = true := by simpa using v2
        have v2x : ¬ va ≤ 5 := by omega
        have hf : Hid (ownB xs t ⟨2, ct, n, m, va, ks⟩ = false) := by unfold Hid ownB namedB kindB; simp [v2x]
        go_enter Try.func177, Try.ntmps177
        go_wp2
        go_ret
        exact ⟨by subst_vars; exact ret_bool hf.out.symm, ((Below.refl _ _).alloc (Nat.le_refl _) _).alloc (by simp) _⟩
      · have tv2 : (decide (va > 5)) = false := by simpa using v2
        have v1x : 0 ≤ va := by omega
        have v2x : va ≤ 5 := by omega
        by_cases n1 : n = 0
        · have tn1 : (n != 0) = false := by simp [n1]
          by_cases m1 : m = 0
          · have tm1 : (m != 0) = false := by simp [m1]
            by_cases c1 : ct = 0
            · have tc1 : (ct != 0) = false := by simp [c1]
              have hf : Hid (ownB xs t ⟨2, ct, n, m, va, ks⟩ = true) := by unfold Hid ownB namedB kindB; simp [v1x, v2x, n1, m1, c1]
              go_enter Try.func177, Try.ntmps177
              go_wp2
              go_ret
              exact ⟨by subst_vars; exact ret_bool hf.out.symm, ((Below.refl _ _).alloc (Nat.le_refl _) _).alloc (by simp) _⟩
            · have tc1 : (ct != 0) = true := by simpa using c1
              have hf : Hid (ownB xs t ⟨2, ct, n, m, va, ks⟩ = false) := by unfold Hid ownB namedB kindB; simp [v1x, v2x, n1, m1, c1]
              go_enter Try.func177, Try.ntmps177
              go_wp2
              go_ret
              exact ⟨by subst_vars; exact ret_bool hf.out.symm, ((Below.refl _ _).alloc (Nat.le_refl _) _).alloc (by simp) _⟩
          · have tm1 : (m != 0) = true := by simpa using m1
            have hf : Hid (ownB xs t ⟨2, ct, n, m, va, ks⟩ = false) := by unfold Hid ownB namedB kindB; simp [v1x, v2x, m1]
            go_enter Try.func177, Try.ntmps177
            go_wp2
            go_ret
            exact ⟨by subst_vars; exact ret_bool hf.out.symm, ((Below.refl _ _).alloc (Nat.le_refl _) _).alloc (by simp) _⟩
        · have tn1 : (n != 0) = true := by simpa using n1
          have hf : Hid (ownB xs t ⟨2, ct, n, m, va, ks⟩ = false) := by unfold Hid ownB namedB kindB; simp [v1x, v2x, n1]
          go_enter Try.func177, Try.ntmps177
          go_wp2
          go_ret
          exact ⟨by subst_vars; exact ret_bool hf.out.symm, ((Below.refl _ _).alloc (Nat.le_refl _) _).alloc (by simp) _⟩
  have u2 : (op == 2) = false := by simpa using o2
  by_cases o3 : op = 3
  · subst o3
    by_cases v1 : va = 0
    · have tv1 : (va != 0) = false := by simp [v1]
      by_cases c1 : ct = 0
      · have tc1 : (ct != 0) = false := by simp [c1]
        by_cases a0 : t.d = -1
        · have b0 : (t.d == -1) = true := by simp [a0]
          by_cases a1 : 0 ≤ n
          · have b1 : decide (n ≥ 0) = true := by simpa using a1
            by_cases a2 : n ≤ m
            · have b2 : decide (n ≤ m) = true := by simpa using a2
              by_cases a3 : m ≤ 9
              · have b3 : decide (m ≤ 9) = true := by simpa using a3
                have hf : Hid (ownB xs t ⟨3, ct, n, m, va, ks⟩ = true) := by unfold Hid ownB namedB kindB; simp [v1, c1, a0, a1, a2, a3]
                go_enter Try.func177, Try.ntmps177
                go_wp2
                go_ret
                exact ⟨by subst_vars; exact ret_bool hf.out.symm, ((Below.refl _ _).alloc (Nat.le_refl _) _).alloc (by simp) _⟩
              · have b3 : decide (m ≤ 9) = false := by simpa using a3
                have hf : Hid (ownB xs t ⟨3, ct, n, m, va, ks⟩ = false) := by unfold Hid ownB namedB kindB; simp [v1, c1, a0, a1, a2, a3]
                go_enter Try.func177, Try.ntmps177
                go_wp2
                go_ret
                exact ⟨by subst_vars; exact ret_bool hf.out.symm, ((Below.refl _ _).alloc (Nat.le_refl _) _).alloc (by simp) _⟩
            · have b2 : decide (n ≤ m) = false := by simpa using a2
              have hf : Hid (ownB xs t ⟨3, ct, n, m, va, ks⟩ = false) := by unfold Hid ownB namedB kindB; simp [v1, c1, a2]
              go_enter Try.func177, Try.ntmps177
              go_wp2
              go_ret
              exact ⟨by subst_vars; exact ret_bool hf.out.symm, ((Below.refl _ _).alloc (Nat.le_refl _) _).alloc (by simp) _⟩
          · have b1 : decide (n ≥ 0) = false := by simpa using a1
            have hf : Hid (ownB xs t ⟨3, ct, n, m, va, ks⟩ = false) := by unfold Hid ownB namedB kindB; simp [v1, c1, a1]
            go_enter Try.func177, Try.ntmps177
            go_wp2
            go_ret
            exact ⟨by subst_vars; exact ret_bool hf.out.symm, ((Below.refl _ _).alloc (Nat.le_refl _) _).alloc (by simp) _⟩
        · have b0 : (t.d == -1) = false := by simpa using a0
          have hf : Hid (ownB xs t ⟨3, ct, n, m, va, ks⟩ = false) := by unfold Hid ownB namedB kindB; simp [v1, c1, a0]
          go_enter Try.func177, Try.ntmps177
          go_wp2
          go_ret
          exact ⟨by subst_vars; exact ret_bool hf.out.symm, ((Below.refl _ _).alloc (Nat.le_refl _) _).alloc (by simp) _⟩
      · have tc1 : (ct != 0) = true := by simpa using c1
        have hf : Hid (ownB xs t ⟨3, ct, n, m, va, ks⟩ = false) := by unfold Hid ownB namedB kindB; simp [v1, c1]
        go_enter Try.func177, Try.ntmps177
        go_wp2
        go_ret
        exact ⟨by subst_vars; exact ret_bool hf.out.symm, ((Below.refl _ _).alloc (Nat.le_refl _) _).alloc (by simp) _⟩
    · have tv1 : (va != 0) = true := by simpa using v1
      have hf : Hid (ownB xs t ⟨3, ct, n, m, va, ks⟩ = false) := by unfold Hid ownB namedB kindB; simp [v1]
      go_enter Try.func177, Try.ntmps177
      go_wp2
      go_ret
      exact ⟨by subst_vars; exact ret_bool hf.out.symm, ((Below.refl _ _).alloc (Nat.le_refl _) _).alloc (by simp) _⟩
  have u3 : (op == 3) = false := by simpa using o3
  by_cases o4 : op = 4
  · subst o4
    by_cases v1 : va = 0
    · have tv1 : (va != 0) = false := by simp [v1]
      by_cases n1 : n = 0
      · have tn1 : (n != 0) = false := by simp [n1]
        by_cases m1 : m = 0
        · have tm1 : (m != 0) = false := by simp [m1]
          have hf : Hid (ownB xs t ⟨4, ct, n, m, va, ks⟩ = hasB (ctorsL xs t) ct) := by unfold Hid ownB namedB kindB; simp [v1, n1, m1]
          subst_vars
          go_enter Try.func177, Try.ntmps177
          go_wp2_with fail
          obtain ⟨W2, hW2⟩ : ∃ W2, W2 = ((w.alloc (.cells #[.int .i64 t.d, .int .i64 t.i] 37)).alloc (.cells #[.int .i64 4, .int .i64 ct, .int .i64 0, .int .i64 0, .int .i64 0, .slice A4 ks.length cap4] 32)) := ⟨_, rfl⟩
          rw [← hW2] at HB
          have KT : Hid (Blk W2 w.heap.size 37 #[.int .i64 t.d, .int .i64 t.i]) := by rw [hW2]; exact (Blk.new w _ _).same (Below.heap_alloc _ _ _ (by simp))
          have KP : Hid (Blk W2 (w.heap.size + 1) 32 #[.int .i64 4, .int .i64 ct, .int .i64 0, .int .i64 0, .int .i64 0, .slice A4 ks.length cap4]) := by rw [hW2]; have h := Blk.new (w.alloc (.cells #[.int .i64 t.d, .int .i64 t.i] 37)) 32 #[.int .i64 4, .int .i64 ct, .int .i64 0, .int .i64 0, .int .i64 0, .slice A4 ks.length cap4]; rw [World.size_alloc] at h; exact h
          rw [← hW2]
          clear hW2
          have y0 : W2.cell? ⟨w.heap.size, 0, none⟩ = some (.int .i64 t.d) := (KT.out.cell 0).trans (by simp)
          have y1 : W2.cell? ⟨w.heap.size, 1, none⟩ = some (.int .i64 t.i) := (KT.out.cell 1).trans (by simp)
          have klt := KT.out.lt
          have z1 : W2.cell? ⟨w.heap.size + 1, 1, none⟩ = some (.int .i64 ct) := (KP.out.cell 1).trans (by simp)
          have klt2 := KP.out.lt
          have hB0 := HB.out
          have hkeep : ∀ U U' : World, (U.cell? ⟨w.heap.size, 0, none⟩ = some (.int .i64 t.d) ∧ U.cell? ⟨w.heap.size, 1, none⟩ = some (.int .i64 t.i) ∧ U.cell? ⟨w.heap.size + 1, 1, none⟩ = some (.int .i64 ct)) → Below U.heap.size U U' → W2.heap.size ≤ U.heap.size → (U'.cell? ⟨w.heap.size, 0, none⟩ = some (.int .i64 t.d) ∧ U'.cell? ⟨w.heap.size, 1, none⟩ = some (.int .i64 t.i) ∧ U'.cell? ⟨w.heap.size + 1, 1, none⟩ = some (.int .i64 ct)) := fun U U' h hUU hU => ⟨(hUU.cell (Nat.lt_of_lt_of_le (klt) hU)).trans h.1, (hUU.cell (Nat.lt_of_lt_of_le (klt) hU)).trans h.2.1, (hUU.cell (Nat.lt_of_lt_of_le (klt2) hU)).trans h.2.2⟩
          have HKeep := Lib.hid hkeep
          clear hkeep
          go_region_held3 (fun w' => w'.cell? ⟨w.heap.size, 0, none⟩ = some (.int .i64 t.d) ∧ w'.cell? ⟨w.heap.size, 1, none⟩ = some (.int .i64 t.i) ∧ w'.cell? ⟨w.heap.size + 1, 1, none⟩ = some (.int .i64 ct)) (first | assumption | (exact ⟨y0, y1, z1⟩) | (exact HKeep.out W2.drew w4 ⟨y0, y1, z1⟩ hb4 (Nat.le_refl _)) | (exact HKeep.out w4 w5 (by assumption) hb5 hlew4)) (first | (go_at_call 132; ((with_reducible refine (spec_l1Ctors xs t _ _ F (ArrDt.below HX.out hB0.drew HF.out) (HF.out.mono hB0.drew.size) HW.out HT.out).mono ?_); rintro e w4 ⟨v4, F4, rfl, hb4, ha4, -, hfs4⟩); have hlew4 : W2.heap.size ≤ w4.heap.size := hb4.size) | (go_at_call 170; ((with_reducible refine (spec_l1Has (ctorsL xs t) ct _ _ F4 ha4 hfs4.under).mono ?_); rintro e w5 ⟨rfl, hb5⟩)))
          have hBa := hB0.drew.trans (hb4.mono hB0.drew.size)
          have hB5 := hBa.trans (hb5.mono hBa.size)
          generalize hasB (ctorsL xs t) ct = r at *
          clear HKeep ha4 hfs4 hb4 hb5 hBa hB0 HB KT KP y0 y1 z1 klt klt2
          go_wp2
          go_ret
          exact ⟨ret_bool hf.out.symm, hB5⟩
        · have tm1 : (m != 0) = true := by simpa using m1
          have hf : Hid (ownB xs t ⟨4, ct, n, m, va, ks⟩ = false) := by unfold Hid ownB namedB kindB; simp [v1, m1]
          go_enter Try.func177, Try.ntmps177
          go_wp2
          go_ret
          exact ⟨by subst_vars; exact ret_bool hf.out.symm, ((Below.refl _ _).alloc (Nat.le_refl _) _).alloc (by simp) _⟩
      · have tn1 : (n != 0) = true := by simpa using n1
        have hf : Hid (ownB xs t ⟨4, ct, n, m, va, ks⟩ = false) := by unfold Hid ownB namedB kindB; simp [v1, n1]
        go_enter Try.func177, Try.ntmps177
        go_wp2
        go_ret
        exact ⟨by subst_vars; exact ret_bool hf.out.symm, ((Below.refl _ _).alloc (Nat.le_refl _) _).alloc (by simp) _⟩
    · have tv1 : (va != 0) = true := by simpa using v1
      have hf : Hid (ownB xs t ⟨4, ct, n, m, va, ks⟩ = false) := by unfold Hid ownB namedB kindB; simp [v1]
      go_enter Try.func177, Try.ntmps177
      go_wp2
      go_ret
      exact ⟨by subst_vars; exact ret_bool hf.out.symm, ((Below.refl _ _).alloc (Nat.le_refl _) _).alloc (by simp) _⟩
  have u4 : (op == 4) = false := by simpa using o4
  by_cases o5 : op = 5
  · subst o5
    by_cases v1 : va = 0
    · have tv1 : (va != 0) = false := by simp [v1]
      by_cases n1 : n = 0
      · have tn1 : (n != 0) = false := by simp [n1]
        by_cases m1 : m = 0
        · have tm1 : (m != 0) = false := by simp [m1]
          by_cases c1 : ct = 0
          · have tc1 : (ct != 0) = false := by simp [c1]
            have hf : Hid (ownB xs t ⟨5, ct, n, m, va, ks⟩ = true) := by unfold Hid ownB namedB kindB; simp [v1, n1, m1, c1]
            go_enter Try.func177, Try.ntmps177
            go_wp2
            go_ret
            exact ⟨by subst_vars; exact ret_bool hf.out.symm, ((Below.refl _ _).alloc (Nat.le_refl _) _).alloc (by simp) _⟩
          · have tc1 : (ct != 0) = true := by simpa using c1
            have hf : Hid (ownB xs t ⟨5, ct, n, m, va, ks⟩ = false) := by unfold Hid ownB namedB kindB; simp [v1, n1, m1, c1]
            go_enter Try.func177, Try.ntmps177
            go_wp2
            go_ret
            exact ⟨by subst_vars; exact ret_bool hf.out.symm, ((Below.refl _ _).alloc (Nat.le_refl _) _).alloc (by simp) _⟩
        · have tm1 : (m != 0) = true := by simpa using m1
          have hf : Hid (ownB xs t ⟨5, ct, n, m, va, ks⟩ = false) := by unfold Hid ownB namedB kindB; simp [v1, m1]
          go_enter Try.func177, Try.ntmps177
          go_wp2
          go_ret
          exact ⟨by subst_vars; exact ret_bool hf.out.symm, ((Below.refl _ _).alloc (Nat.le_refl _) _).alloc (by simp) _⟩
      · have tn1 : (n != 0) = true := by simpa using n1
        have hf : Hid (ownB xs t ⟨5, ct, n, m, va, ks⟩ = false) := by unfold Hid ownB namedB kindB; simp [v1, n1]
        go_enter Try.func177, Try.ntmps177
        go_wp2
        go_ret
        exact ⟨by subst_vars; exact ret_bool hf.out.symm, ((Below.refl _ _).alloc (Nat.le_refl _) _).alloc (by simp) _⟩
    · have tv1 : (va != 0) = true := by simpa using v1
      have hf : Hid (ownB xs t ⟨5, ct, n, m, va, ks⟩ = false) := by unfold Hid ownB namedB kindB; simp [v1]
      go_enter Try.func177, Try.ntmps177
      go_wp2
      go_ret
      exact ⟨by subst_vars; exact ret_bool hf.out.symm, ((Below.refl _ _).alloc (Nat.le_refl _) _).alloc (by simp) _⟩
  have u5 : (op == 5) = false := by simpa using o5
  by_cases o6 : op = 6
  · subst o6
    by_cases v1 : va < 0
    · have tv1 : (decide (va < 0)) = true := by simpa using v1
      have v1x : ¬ 0 ≤ va := by omega
      have hf : Hid (ownB xs t ⟨6, ct, n, m, va, ks⟩ = false) := by unfold Hid ownB namedB kindB; simp [v1x]
      go_enter Try.func177, Try.ntmps177
      go_wp2
      go_ret
      exact ⟨by subst_vars; exact ret_bool hf.out.symm, ((Below.refl _ _).alloc (Nat.le_refl _) _).alloc (by simp) _⟩
    · have tv1 : (decide (va < 0)) = false := by simpa using v1
      by_cases v2 : 5 < va
      · have tv2 : (decide (va > 5)) = true := by simpa using v2
        have v2x : ¬ va ≤ 5 := by omega
        have hf : Hid (ownB xs t ⟨6, ct, n, m, va, ks⟩ = false) := by unfold Hid ownB namedB kindB; simp [v2x]
        go_enter Try.func177, Try.ntmps177
        go_wp2
        go_ret
        exact ⟨by subst_vars; exact ret_bool hf.out.symm, ((Below.refl _ _).alloc (Nat.le_refl _) _).alloc (by simp) _⟩
      · have tv2 : (decide (va > 5)) = false := by simpa using v2
        have v1x : 0 ≤ va := by omega
        have v2x : va ≤ 5 := by omega
        by_cases n1 : n = 0
        · have tn1 : (n != 0) = false := by simp [n1]
          by_cases m1 : m = 0
          · have tm1 : (m != 0) = false := by simp [m1]
            by_cases c1 : ct = 0
            · have tc1 : (ct != 0) = false := by simp [c1]
              have hf : Hid (ownB xs t ⟨6, ct, n, m, va, ks⟩ = true) := by unfold Hid ownB namedB kindB; simp [v1x, v2x, n1, m1, c1]
              go_enter Try.func177, Try.ntmps177
              go_wp2
              go_ret
              exact ⟨by subst_vars; exact ret_bool hf.out.symm, ((Below.refl _ _).alloc (Nat.le_refl _) _).alloc (by simp) _⟩
            · have tc1 : (ct != 0) = true := by simpa using c1
              have hf : Hid (ownB xs t ⟨6, ct, n, m, va, ks⟩ = false) := by unfold Hid ownB namedB kindB; simp [v1x, v2x, n1, m1, c1]
              go_enter Try.func177, Try.ntmps177
              go_wp2
              go_ret
              exact ⟨by subst_vars; exact ret_bool hf.out.symm, ((Below.refl _ _).alloc (Nat.le_refl _) _).alloc (by simp) _⟩
          · have tm1 : (m != 0) = true := by simpa using m1
            have hf : Hid (ownB xs t ⟨6, ct, n, m, va, ks⟩ = false) := by unfold Hid ownB namedB kindB; simp [v1x, v2x, m1]
            go_enter Try.func177, Try.ntmps177
            go_wp2
            go_ret
            exact ⟨by subst_vars; exact ret_bool hf.out.symm, ((Below.refl _ _).alloc (Nat.le_refl _) _).alloc (by simp) _⟩
        · have tn1 : (n != 0) = true := by simpa using n1
          have hf : Hid (ownB xs t ⟨6, ct, n, m, va, ks⟩ = false) := by unfold Hid ownB namedB kindB; simp [v1x, v2x, n1]
          go_enter Try.func177, Try.ntmps177
          go_wp2
          go_ret
          exact ⟨by subst_vars; exact ret_bool hf.out.symm, ((Below.refl _ _).alloc (Nat.le_refl _) _).alloc (by simp) _⟩
  have u6 : (op == 6) = false := by simpa using o6
  have un3 : (op != 3) = true := by simpa using o3
  have un4 : (op != 4) = true := by simpa using o4
  by_cases v1 : va = 0
  · have tv1 : (va != 0) = false := by simp [v1]
    by_cases n1 : n = 0
    · have tn1 : (n != 0) = false := by simp [n1]
      by_cases m1 : m = 0
      · have tm1 : (m != 0) = false := by simp [m1]
        by_cases c1 : ct = 0
        · have tc1 : (ct != 0) = false := by simp [c1]
          have hf : Hid (ownB xs t ⟨op, ct, n, m, va, ks⟩ = false) := by unfold Hid ownB namedB kindB; simp [o1, o2, o3, o4, o5, o6, v1, n1, m1, c1]
          go_enter Try.func177, Try.ntmps177
          go_wp2
          go_ret
          exact ⟨by subst_vars; exact ret_bool hf.out.symm, ((Below.refl _ _).alloc (Nat.le_refl _) _).alloc (by simp) _⟩
        · have tc1 : (ct != 0) = true := by simpa using c1
          have hf : Hid (ownB xs t ⟨op, ct, n, m, va, ks⟩ = false) := by unfold Hid ownB namedB kindB; simp [o1, o2, o3, o4, o5, o6, v1, n1, m1, c1]
          go_enter Try.func177, Try.ntmps177
          go_wp2
          go_ret
          exact ⟨by subst_vars; exact ret_bool hf.out.symm, ((Below.refl _ _).alloc (Nat.le_refl _) _).alloc (by simp) _⟩
      · have tm1 : (m != 0) = true := by simpa using m1
        have hf : Hid (ownB xs t ⟨op, ct, n, m, va, ks⟩ = false) := by unfold Hid ownB namedB kindB; simp [o1, o2, o3, o4, o5, o6, v1, m1]
        go_enter Try.func177, Try.ntmps177
        go_wp2
        go_ret
        exact ⟨by subst_vars; exact ret_bool hf.out.symm, ((Below.refl _ _).alloc (Nat.le_refl _) _).alloc (by simp) _⟩
    · have tn1 : (n != 0) = true := by simpa using n1
      have hf : Hid (ownB xs t ⟨op, ct, n, m, va, ks⟩ = false) := by unfold Hid ownB namedB kindB; simp [o1, o2, o3, o4, o5, o6, v1, n1]
      go_enter Try.func177, Try.ntmps177
      go_wp2
      go_ret
      exact ⟨by subst_vars; exact ret_bool hf.out.symm, ((Below.refl _ _).alloc (Nat.le_refl _) _).alloc (by simp) _⟩
  · have tv1 : (va != 0) = true := by simpa using v1
    have hf : Hid (ownB xs t ⟨op, ct, n, m, va, ks⟩ = false) := by unfold Hid ownB namedB kindB; simp [o1, o2, o3, o4, o5, o6, v1]
    go_enter Try.func177, Try.ntmps177
    go_wp2
    go_ret
    exact ⟨by subst_vars; exact ret_bool hf.out.symm, ((Below.refl _ _).alloc (Nat.le_refl _) _).alloc (by simp) _⟩

def repTo (t : Ty) (i : Nat) : List Ty := List.replicate i t
theorem repTo_len (t : Ty) (i : Nat) : (repTo t i).length = i := List.length_replicate
theorem repTo_succ (t : Ty) (i : Nat) : repTo t (i + 1) = repTo t i ++ [t] := List.replicate_succ'
theorem kidsN_le (op : Int) : kidsN op ≤ 2 := by unfold kidsN; split; omega; split <;> omega
theorem typesP_no {xs : List Dt} {t : Ty} {p : P} (h : ¬ p.op = 4) : typesP xs t p = repTo t (kidsN p.op) := by unfold typesP; rw [if_neg h]; rfl
theorem ownB_ctor {xs : List Dt} {t : Ty} {p : P} (h : p.op = 4) (ho : ownB xs t p = true) : p.ct ∈ ctorsL xs t := by
  unfold ownB kindB at ho
  simp only [Bool.and_eq_true] at ho
  have h2 := ho.2.2.2
  rw [if_neg (by omega), if_pos h] at h2
  exact (hasB_iff _ _).1 h2
set_option maxRecDepth 100000 in
set_option maxHeartbeats 1600000 in
theorem spec_l3Types (xs : List Dt) (hw : WorldOK xs) (t : Ty) (ht : TyIn xs.length t) (p : P) (ho : ownB xs t p = true) (w : World) (x : Value) (F : List Nat) (cs : List Value) (G : List Nat) : Arr w (DtR w) xs x F → Under w.heap.size F → PR w p cs G → Under w.heap.size G →
    Calls Try.prog 152 #[x, .agg #[.int .i64 t.d, .int .i64 t.i], .agg cs.toArray] w (MadeArr TyR w (typesP xs t p)) := by
  intro hx hf hv hg
  obtain ⟨kv, rfl, ha⟩ := (PR_iff _ _ _).1 hv
  obtain ⟨A, cap, rfl, hc1, hc2⟩ := hx.form
  obtain ⟨A4, cap4, rfl, hc3, hc4⟩ := ha.form
  have HV := Lib.hid hv
  have HX := Lib.hid hx
  have HF := Lib.hid hf
  have HA := Lib.hid ha
  have HG := Lib.hid hg
  clear hx hf ha hg
  clear hv
  by_cases h4 : p.op = 4
  · have t4 : (p.op == 4) = true := by simp [h4]
    obtain ⟨q, k, e2, hvc, hq', hkl⟩ := mem_ctorsL (xs := xs) (t := t) ht.inWorld (ownB_ctor h4 ho)
    have hty : typesP xs t p = argsL xs[q].ctors[k] t.i := by
      unfold typesP
      rw [if_pos h4, hvc]
      obtain ⟨td, ti⟩ := t
      simp only at e2
      subst e2
      exact argsOf_get hq' hkl
    have HTY := Lib.hid hty
    have HVC := Lib.hid hvc
    have HE2 := Lib.hid e2
    have HLA := Lib.hid (hw.ctor hq' hkl).args
    clear hty hvc e2 h4 ho hw ht
    go_enter Try.func152, Try.ntmps152
    go_wp2_with fail
    obtain ⟨W2, hW2⟩ : ∃ W2, W2 = ((w.alloc (.cells #[.int .i64 t.d, .int .i64 t.i] 37)).alloc (.cells #[.int .i64 p.op, .int .i64 p.ct, .int .i64 p.n, .int .i64 p.m, .int .i64 p.va, .slice A4 p.ks.length cap4] 32)) := ⟨_, rfl⟩
    have hB0 : Below w.heap.size w W2 := by rw [hW2]; exact ((Below.refl _ _).alloc (Nat.le_refl _) _).alloc (by simp) _
    have KT : Hid (Blk W2 w.heap.size 37 #[.int .i64 t.d, .int .i64 t.i]) := by rw [hW2]; exact (Blk.new w _ _).same (Below.heap_alloc _ _ _ (by simp))
    have KP : Hid (Blk W2 (w.heap.size + 1) 32 #[.int .i64 p.op, .int .i64 p.ct, .int .i64 p.n, .int .i64 p.m, .int .i64 p.va, .slice A4 p.ks.length cap4]) := by rw [hW2]; have h := Blk.new (w.alloc (.cells #[.int .i64 t.d, .int .i64 t.i] 37)) 32 #[.int .i64 p.op, .int .i64 p.ct, .int .i64 p.n, .int .i64 p.m, .int .i64 p.va, .slice A4 p.ks.length cap4]; rw [World.size_alloc] at h; exact h
    have hws : w.heap.size + 2 ≤ W2.heap.size := by rw [hW2]; simp
    rw [← hW2]
    clear hW2
    have y0 : W2.cell? ⟨w.heap.size, 0, none⟩ = some (.int .i64 t.d) := (KT.out.cell 0).trans (by simp)
    have y1 : W2.cell? ⟨w.heap.size, 1, none⟩ = some (.int .i64 t.i) := (KT.out.cell 1).trans (by simp)
    have klt := KT.out.lt
    have z0 : W2.cell? ⟨w.heap.size + 1, 0, none⟩ = some (.int .i64 p.op) := (KP.out.cell 0).trans (by simp)
    have z1 : W2.cell? ⟨w.heap.size + 1, 1, none⟩ = some (.int .i64 p.ct) := (KP.out.cell 1).trans (by simp)
    have klt2 := KP.out.lt
    go_wp2_with fail
    rw [HVC.out, HE2.out]
    refine (spec_l1Args xs q k t.i hq' hkl W2 _ F (ArrDt.below HX.out hB0 HF.out) (HF.out.mono hB0.size) HLA.out).mono ?_
    rintro e w6 ⟨v6, F6, rfl, hb6, ha6, hfr6, hfs6⟩
    have hfin : MadeArr TyR w (typesP xs t p) (.returned v6) w6 := ⟨v6, F6, rfl, hB0.trans (hb6.mono hB0.size), by rw [HTY.out]; exact ha6, hfr6, fun b hb => ⟨Nat.le_trans hB0.size (hfs6 b hb).1, (hfs6 b hb).2⟩⟩
    have HFin := Lib.hid hfin
    clear hfin ha6 hfr6 hfs6 hb6 y0 y1 z0 z1 klt klt2 t4
    go_wp2
    go_ret
    exact HFin.out
  · have t4 : (p.op == 4) = false := by simpa using h4
    obtain ⟨i0, hi, hz0, hz1, hz2⟩ := info_parts info_tyE
    have HI := Lib.hid hi
    have HZ0 := Lib.hid hz0
    have HZ1 := Lib.hid hz1
    have HZ2 := Lib.hid hz2
    clear hi hz0 hz1 hz2
    have HTY := Lib.hid (typesP_no (xs := xs) (t := t) h4)
    have H4 := Lib.hid h4
    have hk2 := kidsN_le p.op
    generalize hkn : kidsN p.op = kn at *
    have HKN := Lib.hid hkn
    clear h4 ho hw ht hkn
    have hws9 : (((w.alloc (.cells #[.int .i64 t.d, .int .i64 t.i] 37)).alloc (.cells #[.int .i64 p.op, .int .i64 p.ct, .int .i64 p.n, .int .i64 p.m, .int .i64 p.va, .slice A4 p.ks.length cap4] 32)).alloc (.cells #[] 37)).heap.size = w.heap.size + 3 := by simp
    go_enter Try.func152, Try.ntmps152
    go_wp2
    obtain ⟨w9, hw9⟩ : ∃ w9, w9 = ((w.alloc (.cells #[.int .i64 t.d, .int .i64 t.i] 37)).alloc (.cells #[.int .i64 p.op, .int .i64 p.ct, .int .i64 p.n, .int .i64 p.m, .int .i64 p.va, .slice A4 p.ks.length cap4] 32)).alloc (.cells #[] 37) := ⟨_, rfl⟩
    have hB0 : Below w.heap.size w w9 := by rw [hw9]; exact (((Below.refl _ _).alloc (Nat.le_refl _) _).alloc (by simp) _).alloc (by simp; omega) _
    have KT : Hid (Blk w9 w.heap.size 37 #[.int .i64 t.d, .int .i64 t.i]) := by rw [hw9]; exact ((Blk.new w _ _).same (Below.heap_alloc _ _ _ (by simp))).same (Below.heap_alloc _ _ _ (by simp; omega))
    have KP : Hid (Blk w9 (w.heap.size + 1) 32 #[.int .i64 p.op, .int .i64 p.ct, .int .i64 p.n, .int .i64 p.m, .int .i64 p.va, .slice A4 p.ks.length cap4]) := by rw [hw9]; have h := Blk.new (w.alloc (.cells #[.int .i64 t.d, .int .i64 t.i] 37)) 32 #[.int .i64 p.op, .int .i64 p.ct, .int .i64 p.n, .int .i64 p.m, .int .i64 p.va, .slice A4 p.ks.length cap4]; rw [World.size_alloc] at h; exact h.same (Below.heap_alloc _ _ _ (by simp))
    have HO : Hid (Own w9 (w.heap.size + 2) 37 2 TyR (repTo t 0) (.slice (some ⟨w.heap.size + 2, 0, none⟩) 0 0) []) := by
      rw [hw9]
      have h := Own.made ((w.alloc (.cells #[.int .i64 t.d, .int .i64 t.i] 37)).alloc (.cells #[.int .i64 p.op, .int .i64 p.ct, .int .i64 p.n, .int .i64 p.m, .int .i64 p.va, .slice A4 p.ks.length cap4] 32)) (w.heap.size + 2) 37 2 TyR #[] 0 (by simp) (by simp [maxLen]) rfl
      rw [show ((w.alloc (.cells #[.int .i64 t.d, .int .i64 t.i] 37)).alloc (.cells #[.int .i64 p.op, .int .i64 p.ct, .int .i64 p.n, .int .i64 p.m, .int .i64 p.va, .slice A4 p.ks.length cap4] 32)).heap.size = w.heap.size + 2 from by simp] at h
      exact h
    rw [← hw9] at hws9 ⊢
    clear hw9
    go_loopw [7, 8] (fun ov iv wr => ∃ i : Nat, i ≤ kn ∧ iv = .int .i64 i ∧ Hid (Own wr (w.heap.size + 2) 37 2 TyR (repTo t i) ov []) ∧ Hid (Blk wr w.heap.size 37 #[.int .i64 t.d, .int .i64 t.i]) ∧ Hid (Blk wr (w.heap.size + 1) 32 #[.int .i64 p.op, .int .i64 p.ct, .int .i64 p.n, .int .i64 p.m, .int .i64 p.va, .slice A4 p.ks.length cap4]) ∧ Below w.heap.size w wr ∧ w.heap.size + 2 ≤ wr.heap.size) (fun _ iv _ => kn - (intOf iv).toNat)
    case atStart => exact ⟨0, Nat.zero_le _, rfl, HO, KT, KP, hB0, by omega⟩
    case round =>
      clear hB0 KT KP HO hws9
      obtain ⟨i, hi, rfl, HO, KT, KP, hB, hsz⟩ := hrel
      obtain ⟨kA, kcap, hkv, hkc1, hkc2⟩ := HO.out.form
      subst hkv
      have y0 : wr.cell? ⟨w.heap.size, 0, none⟩ = some (.int .i64 t.d) := (KT.out.cell 0).trans (by simp)
      have y1 : wr.cell? ⟨w.heap.size, 1, none⟩ = some (.int .i64 t.i) := (KT.out.cell 1).trans (by simp)
      have klt := KT.out.lt
      have z0 : wr.cell? ⟨w.heap.size + 1, 0, none⟩ = some (.int .i64 p.op) := (KP.out.cell 0).trans (by simp)
      have klt2 := KP.out.lt
      have HRL := Lib.hid (repTo_len t i)
      go_wp2_with fail
      refine (spec_l3Kids p.op H4.out wr).mono ?_
      rintro e w' ⟨rfl, hw'⟩
      rw [hw', HKN.out]
      clear hw' w'
      by_cases hil : i < kn
      · have t1 : decide ((i : Int) < (kn : Int)) = true := by simp; omega
        have hB1 : Below wr.heap.size wr wr := Below.refl _ _
        have HF2 := Lib.hid (repTo_succ t i)
        go_wp2_with (at_builtin; refine Halt.mk ?_)
        refine Halt.of (wpList_push1 (P := Try.prog) rfl _ _ 94 rfl i0 _ 16 Try.underlying94 HI.out HZ0.out HZ1.out HZ2.out rfl (by decide) TyR_len' TyR_mono' (by rfl) HO.out t 37 [.int .i64 t.d, .int .i64 t.i] [] wr.heap.size (by rfl) rfl (by simp [Value.oneCell']) ⟨rfl, rfl⟩ (Under.nil _) (fun _ _ h => by cases h) (by have := HRL.out; unfold maxLen; omega) (by have := HRL.out; omega) hsz ?_)
        intro g cp w3 hown3 hgr3 hat3
        have hrow := HO.out.row
        have hba : Below wr.heap.size wr (wr.alloc (.cells #[.int .i64 t.d, .int .i64 t.i] 37)) := (Below.refl _ _).alloc (Nat.le_refl _) _
        have hB3 : Below (w.heap.size + 2) wr w3 := (hba.mono hsz).grown hgr3 (by simp; omega) (fun g hg => (hrow g (mem_rowOf.2 hg)).1)
        have HO3 := Lib.hid hown3
        have KT3 := Lib.hid (KT.out.same (hB3.block _ (by omega)))
        have KP3 := Lib.hid (KP.out.same (hB3.block _ (by omega)))
        have hB4 := hB.trans (hB3.mono (by omega))
        have hsz4 := Nat.le_trans hsz hB3.size
        clear hrow hba hB3 hown3 hgr3 hat3 y0 y1 z0 klt klt2
        go_wp2
        go_roundw
        case rel => exact ⟨i + 1, by omega, by go_num, by rw [HF2.out]; exact HO3.out, KT3, KP3, hB4, hsz4⟩
        case measure => (simp [intOf] <;> omega)
      · have t1 : decide ((i : Int) < (kn : Int)) = false := by simp; omega
        obtain rfl : i = kn := by omega
        have HFin : Hid (MadeArr TyR w (typesP xs t p) (.returned (.slice kA (repTo t i).length kcap)) wr) := by rw [HTY.out]; exact Own.gives HO.out hB (by omega) (fun b hb => by cases hb) (Free.nil _)
        go_wp2
        go_ret
        exact HFin.out
end Go.Proofs.Ytbffkgfhcmigaaa

namespace Go.Proofs.Ytbffkgfhcmigaaa
open Go.RowKit

def scanPB (xs : List Dt) (d : Nat) (t : Ty) (p : P) (c : Nat) : Bool := shapeB xs d t p && (decide (c + nodesP p ≤ 60) && linB xs d t p)
/-- a node's fields and the number of its kids are right -/
def nodeB (xs : List Dt) (t : Ty) (p : P) : Bool := ownB xs t p && p.ks.length == (typesP xs t p).length
def kidSum (p : P) (i : Nat) : Nat := (p.ks.take i).foldl (fun n k => n + nodesP k) 0
theorem foldl_nodes (l : List P) (n : Nat) : l.foldl (fun n k => n + nodesP k) n = n + (l.length + P.subs l) := by
  induction l generalizing n with
  | nil => simp [P.subs]
  | cons k l ih => rw [List.foldl_cons, ih]; simp only [P.subs, List.length_cons, nodesP]; omega
theorem kidSum_succ (p : P) (i : Nat) (h : i < p.ks.length) : kidSum p (i + 1) = kidSum p i + nodesP p.ks[i] := by
  unfold kidSum
  rw [take_snoc' p.ks i h, List.foldl_append]; rfl
theorem kidSum_all (p : P) {i : Nat} (h : p.ks.length ≤ i) : nodesP p = 1 + kidSum p i := by
  unfold kidSum
  rw [List.take_of_length_le h, foldl_nodes]
  obtain ⟨op, ct, n, m, va, ks⟩ := p
  unfold nodesP
  rw [P.size, P.sizes_eq]
  simp only; omega
theorem kidSum_le (p : P) (i : Nat) : 1 + kidSum p i ≤ nodesP p := by
  rw [kidSum_all p (Nat.le_refl _)]
  unfold kidSum
  rw [foldl_nodes, foldl_nodes]
  have h1 := P.subs_take_le p.ks i
  have h2 : (p.ks.take i).length ≤ p.ks.length := by rw [List.length_take]; omega
  rw [List.take_of_length_le (Nat.le_refl _)]
  omega
section
variable {xs : List Dt} {d c i : Nat} {t : Ty} {p : P}
theorem scanPB_node (h : nodeB xs t p = false) : scanPB xs (d + 1) t p c = false := by
  have e : shapeB xs (d + 1) t p = (nodeB xs t p && ((typesP xs t p).zip p.ks).all fun x => shapeB xs d x.1 x.2) := by
    unfold nodeB
    rw [Bool.and_assoc]; rfl
  unfold scanPB
  rw [e, h]; rfl
theorem scanPB_many (h : 60 < c + 1) : scanPB xs d t p c = false := by
  have h1 : ¬ c + nodesP p ≤ 60 := by unfold nodesP; omega
  unfold scanPB
  rw [decide_eq_false h1, Bool.false_and, Bool.and_false]
theorem scanPB_deep : scanPB xs 0 t p c = false := rfl
/-- what holds before kid i: the kids before it are right, their nodes fit -/
structure KidsOk (xs : List Dt) (d : Nat) (t : Ty) (p : P) (c i : Nat) : Prop where
  node : nodeB xs t p = true
  le : i ≤ p.ks.length
  fit : c + 1 + kidSum p i ≤ 60
  all : ∀ j (h : j < p.ks.length) (h' : j < (typesP xs t p).length), j < i → shapeB xs d (typesP xs t p)[j] p.ks[j] = true ∧ linB xs d (typesP xs t p)[j] p.ks[j] = true
theorem KidsOk.len (h : KidsOk xs d t p c i) : p.ks.length = (typesP xs t p).length := by
  have := h.node
  unfold nodeB at this
  rw [Bool.and_eq_true, beq_iff_eq] at this
  exact this.2
theorem KidsOk.zero (h : nodeB xs t p = true) (hc : c + 1 ≤ 60) : KidsOk xs d t p c 0 := ⟨h, Nat.zero_le _, by unfold kidSum; simpa using hc, fun j _ _ hj => by omega⟩
theorem zip_at (hi : i < p.ks.length) (hi' : i < (typesP xs t p).length) : ((typesP xs t p)[i], p.ks[i]) ∈ (typesP xs t p).zip p.ks := by
  rw [List.mem_iff_getElem]
  exact ⟨i, by rw [List.length_zip]; omega, by rw [List.getElem_zip]⟩
theorem KidsOk.next (h : KidsOk xs d t p c i) (hi : i < p.ks.length) (hi' : i < (typesP xs t p).length) (hs : scanPB xs d (typesP xs t p)[i] p.ks[i] (c + 1 + kidSum p i) = true) : KidsOk xs d t p c (i + 1) := by
  unfold scanPB at hs
  rw [Bool.and_eq_true, Bool.and_eq_true, decide_eq_true_eq] at hs
  refine ⟨h.node, hi, by rw [kidSum_succ p i hi]; omega, fun j hj hj' hji => ?_⟩
  rcases Nat.lt_or_ge j i with h1 | h1
  · exact h.all j hj hj' h1
  · obtain rfl : j = i := by omega
    exact ⟨hs.1, hs.2.2⟩
theorem KidsOk.fail (h : KidsOk xs d t p c i) (hi : i < p.ks.length) (hi' : i < (typesP xs t p).length) (hs : scanPB xs d (typesP xs t p)[i] p.ks[i] (c + 1 + kidSum p i) = false) : scanPB xs (d + 1) t p c = false := by
  rw [Bool.eq_false_iff]
  intro hk
  unfold scanPB at hk
  rw [Bool.and_eq_true, Bool.and_eq_true, decide_eq_true_eq] at hk
  obtain ⟨h1, h2, h3⟩ := hk
  simp only [shapeB, linB, Bool.and_eq_true] at h1 h3
  have m := zip_at (xs := xs) (t := t) hi hi'
  have s1 := List.all_eq_true.1 h1.2.2 _ m
  have s2 := List.all_eq_true.1 h3.1 _ m
  have s3 : c + 1 + kidSum p i + nodesP p.ks[i] ≤ 60 := by
    have := kidSum_le p (i + 1)
    rw [kidSum_succ p i hi] at this
    omega
  unfold scanPB at hs
  rw [s1, s2, decide_eq_true s3] at hs
  cases hs
theorem KidsOk.shape (h : KidsOk xs d t p c p.ks.length) : shapeB xs (d + 1) t p = true := by
  have hn := h.node
  have hl := h.len
  unfold nodeB at hn
  rw [Bool.and_eq_true] at hn
  unfold shapeB
  rw [hn.1, hn.2, Bool.true_and, Bool.true_and, List.all_eq_true]
  intro x hx
  obtain ⟨i, hi, rfl⟩ := List.mem_iff_getElem.1 hx
  rw [List.length_zip] at hi
  rw [List.getElem_zip]
  exact (h.all i (by omega) (by omega) (by omega)).1
theorem KidsOk.lins (h : KidsOk xs d t p c p.ks.length) : (((typesP xs t p).zip p.ks).all fun x => linB xs d x.1 x.2) = true := by
  rw [List.all_eq_true]
  intro x hx
  have hl := h.len
  obtain ⟨i, hi, rfl⟩ := List.mem_iff_getElem.1 hx
  rw [List.length_zip] at hi
  rw [List.getElem_zip]
  exact (h.all i (by omega) (by omega) (by omega)).2
/-- all kids are right: what is left is the test of the variables -/
theorem KidsOk.done (h : KidsOk xs d t p c p.ks.length) : scanPB xs (d + 1) t p c = (if p.op = 5 then (match p.ks with | [k0, k1] => alikeB (varsN xs d t k0) (varsN xs d t k1) | _ => true) else dupFree (varsN xs (d + 1) t p)) := by
  have hf : c + nodesP p ≤ 60 := by rw [kidSum_all p (Nat.le_refl _)]; have := h.fit; omega
  unfold scanPB
  rw [h.shape, decide_eq_true hf, Bool.true_and, Bool.true_and]
  show ((((typesP xs t p).zip p.ks).all fun x => linB xs d x.1 x.2) && _) = _
  rw [h.lins, Bool.true_and]
  rfl
end
end Go.Proofs.Ytbffkgfhcmigaaa

namespace Go.Proofs.Ytbffkgfhcmigaaa
open Go.RowKit

def onlyB (p : P) (c n v : Bool) (k : Int) : Bool := (c || p.ct == 0) && ((n || (p.n == 0 && p.m == 0)) && ((v || p.va == 0) && ((p.ks.length : Int) == k)))
set_option maxRecDepth 100000 in
set_option maxHeartbeats 1600000 in
theorem impl_only (p : P) (A4 : Option Addr) (cap4 : Nat) (c n v : Bool) (k : Int) (w : World) :
    Calls Try.prog 196 #[.agg #[.int .i64 p.op, .int .i64 p.ct, .int .i64 p.n, .int .i64 p.m, .int .i64 p.va, .slice A4 p.ks.length cap4], .bool c, .bool n, .bool v, .int .i64 k] w fun e w' => e = .returned (.bool (onlyB p c n v k)) ∧ Below w.heap.size w w' := by
  have HB : Hid (Below w.heap.size w (w.alloc (.cells #[.int .i64 p.op, .int .i64 p.ct, .int .i64 p.n, .int .i64 p.m, .int .i64 p.va, .slice A4 p.ks.length cap4] 32))) := (Below.refl _ _).alloc (Nat.le_refl _) _
  cases c with
  | false =>
    cases n with
    | false =>
      cases v with
      | false =>
        cases q1 : (p.ct == 0) with
        | false =>
          have hf : Hid (onlyB p false false false k = false) := by unfold Hid onlyB; rw [q1]; rfl
          go_enter Try.func196, Try.ntmps196
          go_wp2
          go_ret
          exact ⟨ret_bool hf.out.symm, HB.out⟩
        | true =>
          cases q2 : (p.n == 0) with
          | false =>
            have hf : Hid (onlyB p false false false k = false) := by unfold Hid onlyB; rw [q1, q2]; rfl
            go_enter Try.func196, Try.ntmps196
            go_wp2
            go_ret
            exact ⟨ret_bool hf.out.symm, HB.out⟩
          | true =>
            cases q3 : (p.m == 0) with
            | false =>
              have hf : Hid (onlyB p false false false k = false) := by unfold Hid onlyB; rw [q1, q2, q3]; rfl
              go_enter Try.func196, Try.ntmps196
              go_wp2
              go_ret
              exact ⟨ret_bool hf.out.symm, HB.out⟩
            | true =>
              cases q4 : (p.va == 0) with
              | false =>
                have hf : Hid (onlyB p false false false k = false) := by unfold Hid onlyB; rw [q1, q2, q3, q4]; rfl
                go_enter Try.func196, Try.ntmps196
                go_wp2
                go_ret
                exact ⟨ret_bool hf.out.symm, HB.out⟩
              | true =>
                have hf : Hid (onlyB p false false false k = ((p.ks.length : Int) == k)) := by unfold Hid onlyB; rw [q1, q2, q3, q4]; rfl
                go_enter Try.func196, Try.ntmps196
                go_wp2
                go_ret
                exact ⟨ret_bool hf.out.symm, HB.out⟩
      | true =>
        cases q1 : (p.ct == 0) with
        | false =>
          have hf : Hid (onlyB p false false true k = false) := by unfold Hid onlyB; rw [q1]; rfl
          go_enter Try.func196, Try.ntmps196
          go_wp2
          go_ret
          exact ⟨ret_bool hf.out.symm, HB.out⟩
        | true =>
          cases q2 : (p.n == 0) with
          | false =>
            have hf : Hid (onlyB p false false true k = false) := by unfold Hid onlyB; rw [q1, q2]; rfl
            go_enter Try.func196, Try.ntmps196
            go_wp2
            go_ret
            exact ⟨ret_bool hf.out.symm, HB.out⟩
          | true =>
            cases q3 : (p.m == 0) with
            | false =>
              have hf : Hid (onlyB p false false true k = false) := by unfold Hid onlyB; rw [q1, q2, q3]; rfl
              go_enter Try.func196, Try.ntmps196
              go_wp2
              go_ret
              exact ⟨ret_bool hf.out.symm, HB.out⟩
            | true =>
              have hf : Hid (onlyB p false false true k = ((p.ks.length : Int) == k)) := by unfold Hid onlyB; rw [q1, q2, q3]; rfl
              go_enter Try.func196, Try.ntmps196
              go_wp2
              go_ret
              exact ⟨ret_bool hf.out.symm, HB.out⟩
    | true =>
      cases v with
      | false =>
        cases q1 : (p.ct == 0) with
        | false =>
          have hf : Hid (onlyB p false true false k = false) := by unfold Hid onlyB; rw [q1]; rfl
          go_enter Try.func196, Try.ntmps196
          go_wp2
          go_ret
          exact ⟨ret_bool hf.out.symm, HB.out⟩
        | true =>
          cases q4 : (p.va == 0) with
          | false =>
            have hf : Hid (onlyB p false true false k = false) := by unfold Hid onlyB; rw [q1, q4]; rfl
            go_enter Try.func196, Try.ntmps196
            go_wp2
            go_ret
            exact ⟨ret_bool hf.out.symm, HB.out⟩
          | true =>
            have hf : Hid (onlyB p false true false k = ((p.ks.length : Int) == k)) := by unfold Hid onlyB; rw [q1, q4]; rfl
            go_enter Try.func196, Try.ntmps196
            go_wp2
            go_ret
            exact ⟨ret_bool hf.out.symm, HB.out⟩
      | true =>
        cases q1 : (p.ct == 0) with
        | false =>
          have hf : Hid (onlyB p false true true k = false) := by unfold Hid onlyB; rw [q1]; rfl
          go_enter Try.func196, Try.ntmps196
          go_wp2
          go_ret
          exact ⟨ret_bool hf.out.symm, HB.out⟩
        | true =>
          have hf : Hid (onlyB p false true true k = ((p.ks.length : Int) == k)) := by unfold Hid onlyB; rw [q1]; rfl
          go_enter Try.func196, Try.ntmps196
          go_wp2
          go_ret
          exact ⟨ret_bool hf.out.symm, HB.out⟩
  | true =>
    cases n with
    | false =>
      cases v with
      | false =>
        cases q2 : (p.n == 0) with
        | false =>
          have hf : Hid (onlyB p true false false k = false) := by unfold Hid onlyB; rw [q2]; rfl
          go_enter Try.func196, Try.ntmps196
          go_wp2
          go_ret
          exact ⟨ret_bool hf.out.symm, HB.out⟩
        | true =>
          cases q3 : (p.m == 0) with
          | false =>
            have hf : Hid (onlyB p true false false k = false) := by unfold Hid onlyB; rw [q2, q3]; rfl
            go_enter Try.func196, Try.ntmps196
            go_wp2
            go_ret
            exact ⟨ret_bool hf.out.symm, HB.out⟩
          | true =>
            cases q4 : (p.va == 0) with
            | false =>
              have hf : Hid (onlyB p true false false k = false) := by unfold Hid onlyB; rw [q2, q3, q4]; rfl
              go_enter Try.func196, Try.ntmps196
              go_wp2
              go_ret
              exact ⟨ret_bool hf.out.symm, HB.out⟩
            | true =>
              have hf : Hid (onlyB p true false false k = ((p.ks.length : Int) == k)) := by unfold Hid onlyB; rw [q2, q3, q4]; rfl
              go_enter Try.func196, Try.ntmps196
              go_wp2
              go_ret
              exact ⟨ret_bool hf.out.symm, HB.out⟩
      | true =>
        cases q2 : (p.n == 0) with
        | false =>
          have hf : Hid (onlyB p true false true k = false) := by unfold Hid onlyB; rw [q2]; rfl
          go_enter Try.func196, Try.ntmps196
          go_wp2
          go_ret
          exact ⟨ret_bool hf.out.symm, HB.out⟩
        | true =>
          cases q3 : (p.m == 0) with
          | false =>
            have hf : Hid (onlyB p true false true k = false) := by unfold Hid onlyB; rw [q2, q3]; rfl
            go_enter Try.func196, Try.ntmps196
            go_wp2
            go_ret
            exact ⟨ret_bool hf.out.symm, HB.out⟩
          | true =>
            have hf : Hid (onlyB p true false true k = ((p.ks.length : Int) == k)) := by unfold Hid onlyB; rw [q2, q3]; rfl
            go_enter Try.func196, Try.ntmps196
            go_wp2
            go_ret
            exact ⟨ret_bool hf.out.symm, HB.out⟩
    | true =>
      cases v with
      | false =>
        cases q4 : (p.va == 0) with
        | false =>
          have hf : Hid (onlyB p true true false k = false) := by unfold Hid onlyB; rw [q4]; rfl
          go_enter Try.func196, Try.ntmps196
          go_wp2
          go_ret
          exact ⟨ret_bool hf.out.symm, HB.out⟩
        | true =>
          have hf : Hid (onlyB p true true false k = ((p.ks.length : Int) == k)) := by unfold Hid onlyB; rw [q4]; rfl
          go_enter Try.func196, Try.ntmps196
          go_wp2
          go_ret
          exact ⟨ret_bool hf.out.symm, HB.out⟩
      | true =>
        have hf : Hid (onlyB p true true true k = ((p.ks.length : Int) == k)) := by unfold Hid onlyB; rfl
        go_enter Try.func196, Try.ntmps196
        go_wp2
        go_ret
        exact ⟨ret_bool hf.out.symm, HB.out⟩

set_option maxRecDepth 100000 in
set_option maxHeartbeats 1600000 in
theorem impl_isVar (n : Int) (w : World) : Calls Try.prog 197 #[.int .i64 n] w fun e w' => e = .returned (.bool (withinB n 0 5)) ∧ w' = w := by
  go_enter Try.func197, Try.ntmps197
  go_wp2_with fail
  refine (impl_within n 0 5 w).mono ?_
  rintro e w' ⟨rfl, hw'⟩
  generalize hq : withinB n 0 5 = q
  have HQ := Lib.hid hq
  clear hq
  go_wp2
  go_ret
  exact ⟨ret_bool HQ.out.symm, hw'.symm⟩

theorem arr_tys1 {w : World} {g : Nat} {T : TypeId} {t : Ty} (h : Blk w g T #[.int .i64 t.d, .int .i64 t.i]) : Arr w (TyR w) [t] (.slice (some ⟨g, 0, none⟩) 1 1) [g] :=
  ⟨_, 1, rfl, Nat.le_refl _, by simp [maxLen], .inr ⟨g, 0, [.int .i64 t.d, .int .i64 t.i], [], rfl, fun j u hj => by rw [Nat.zero_add, h.cell]; simpa using hj, ⟨[.int .i64 t.d, .int .i64 t.i], [], [], [], rfl, rfl, ⟨rfl, rfl⟩, rfl, rfl⟩, rfl⟩⟩
theorem arr_tys2 {w : World} {g : Nat} {T : TypeId} {t : Ty} (h : Blk w g T #[.int .i64 t.d, .int .i64 t.i, .int .i64 t.d, .int .i64 t.i]) : Arr w (TyR w) [t, t] (.slice (some ⟨g, 0, none⟩) 2 2) [g] :=
  ⟨_, 2, rfl, Nat.le_refl _, by simp [maxLen], .inr ⟨g, 0, [.int .i64 t.d, .int .i64 t.i, .int .i64 t.d, .int .i64 t.i], [], rfl, fun j u hj => by rw [Nat.zero_add, h.cell]; simpa using hj, ⟨[.int .i64 t.d, .int .i64 t.i], [.int .i64 t.d, .int .i64 t.i], [], [], rfl, rfl, ⟨rfl, rfl⟩, ⟨[.int .i64 t.d, .int .i64 t.i], [], [], [], rfl, rfl, ⟨rfl, rfl⟩, rfl, rfl⟩⟩, rfl⟩⟩
theorem node_len {xs : List Dt} {t : Ty} {p : P} (h : ¬ p.op = 4) : (typesP xs t p).length = kidsN p.op := by rw [typesP_no h, repTo_len]
theorem nodeB_1 {xs : List Dt} {t : Ty} {p : P} (h : p.op = 1) : nodeB xs t p = (onlyB p false false false 0) := by
  unfold nodeB ownB namedB kindB onlyB
  rw [node_len (by omega), h]
  unfold kidsN
  rw [Bool.eq_iff_iff]
  simp [withinB_iff] <;> first | omega | (constructor <;> intro h <;> (try simp_all) <;> (try omega))
theorem nodeB_2 {xs : List Dt} {t : Ty} {p : P} (h : p.op = 2) : nodeB xs t p = (onlyB p false false true 0 && withinB p.va 0 5) := by
  unfold nodeB ownB namedB kindB onlyB
  rw [node_len (by omega), h]
  unfold kidsN
  rw [Bool.eq_iff_iff]
  simp [withinB_iff] <;> first | omega | (constructor <;> intro h <;> (try simp_all) <;> (try omega))
theorem nodeB_3 {xs : List Dt} {t : Ty} {p : P} (h : p.op = 3) : nodeB xs t p = (t.d == -1 && (onlyB p false true false 0 && (decide (0 ≤ p.n) && (decide (p.n ≤ p.m) && decide (p.m ≤ 9))))) := by
  unfold nodeB ownB namedB kindB onlyB
  rw [node_len (by omega), h]
  unfold kidsN
  rw [Bool.eq_iff_iff]
  simp [withinB_iff] <;> first | omega | (constructor <;> intro h <;> (try simp_all) <;> (try omega))
theorem nodeB_5 {xs : List Dt} {t : Ty} {p : P} (h : p.op = 5) : nodeB xs t p = (onlyB p false false false 2) := by
  unfold nodeB ownB namedB kindB onlyB
  rw [node_len (by omega), h]
  unfold kidsN
  rw [Bool.eq_iff_iff]
  simp [withinB_iff] <;> first | omega | (constructor <;> intro h <;> (try simp_all) <;> (try omega))
theorem nodeB_6 {xs : List Dt} {t : Ty} {p : P} (h : p.op = 6) : nodeB xs t p = (onlyB p false false true 1 && withinB p.va 0 5) := by
  unfold nodeB ownB namedB kindB onlyB
  rw [node_len (by omega), h]
  unfold kidsN
  rw [Bool.eq_iff_iff]
  simp [withinB_iff] <;> first | omega | (constructor <;> intro h <;> (try simp_all) <;> (try omega))
theorem nodeB_4 {xs : List Dt} {t : Ty} {p : P} (h : p.op = 4) : nodeB xs t p = (hasB (ctorsL xs t) p.ct && onlyB p true false false ((argsOf xs t p.ct).length : Nat)) := by
  unfold nodeB ownB namedB kindB onlyB typesP
  rw [h]
  rw [Bool.eq_iff_iff]
  simp <;> first | omega | (constructor <;> intro h <;> (try simp_all) <;> (try omega))
theorem nodeB_no {xs : List Dt} {t : Ty} {p : P} (h1 : ¬ p.op = 1) (h2 : ¬ p.op = 2) (h3 : ¬ p.op = 3) (h4 : ¬ p.op = 4) (h5 : ¬ p.op = 5) (h6 : ¬ p.op = 6) : nodeB xs t p = false := by
  unfold nodeB ownB kindB
  simp [h1, h2, h3, h4, h5, h6]
end Go.Proofs.Ytbffkgfhcmigaaa

namespace Go.Proofs.Ytbffkgfhcmigaaa
open Go.RowKit

theorem shape_endA {w W2 w3 : World} {T : TypeId} {C : Array Value} (hB0 : Below w.heap.size w W2) (hws2 : W2.heap.size = w.heap.size + 1 + 1) (hb3 : Below (W2.drew.alloc (.cells C T)).heap.size (W2.drew.alloc (.cells C T)) w3) :
    Below w.heap.size w w3 ∧ Fresh w w3 [w.heap.size + 1 + 1] ∧ Blk w3 (w.heap.size + 1 + 1) T C := by
  have hd : W2.drew.heap.size = w.heap.size + 1 + 1 := hws2
  have hsz : (W2.drew.alloc (.cells C T)).heap.size = w.heap.size + 1 + 1 + 1 := by rw [World.size_alloc, hd]
  have h1 := Blk.new W2.drew T C
  rw [hd] at h1
  have h3 := hb3.size
  refine ⟨(hB0.drew.alloc (by omega) _).trans (hb3.mono (by omega)), fun b hb => ?_, h1.same (hb3.block _ (by omega))⟩
  rw [List.mem_singleton] at hb
  omega
theorem shape_endB {w W2 w3 : World} (hB0 : Below w.heap.size w W2) (hb3 : Below W2.drew.heap.size W2.drew w3) (o : Obj) :
    Below w.heap.size w (w3.alloc o) ∧ Fresh w (w3.alloc o) [w3.heap.size] := by
  have h3 : W2.heap.size ≤ w3.heap.size := hb3.size
  have h0 := hB0.size
  refine ⟨(hB0.drew.trans (hb3.mono hB0.size)).alloc (by omega) _, fun b hb => ?_⟩
  rw [List.mem_singleton] at hb
  rw [World.size_alloc]
  omega

def ShapePost (xs : List Dt) (t : Ty) (p : P) (w : World) (e : Ending) (w' : World) : Prop := ∃ v F, e = .returned (.tuple #[v, .bool (nodeB xs t p)]) ∧ Below w.heap.size w w' ∧ Fresh w w' F ∧ (nodeB xs t p = true → Arr w' (TyR w') (typesP xs t p) v F)
set_option maxRecDepth 100000 in
set_option maxHeartbeats 1600000 in
theorem shape_1 (xs : List Dt) (hw : WorldOK xs) (t : Ty) (ht : TyIn xs.length t) (p : P) (h1 : p.op = 1) (w : World) (x : Value) (F : List Nat) (cs : List Value) (G : List Nat) : Arr w (DtR w) xs x F → Under w.heap.size F → PR w p cs G → Under w.heap.size G →
    Calls Try.prog 182 #[x, .agg #[.int .i64 t.d, .int .i64 t.i], .agg cs.toArray] w (ShapePost xs t p w) := by
  intro hx hf hv hg
  obtain ⟨kv, rfl, ha⟩ := (PR_iff _ _ _).1 hv
  obtain ⟨A, cap, rfl, hc1, hc2⟩ := hx.form
  obtain ⟨A4, cap4, rfl, hc3, hc4⟩ := ha.form
  have HV := Lib.hid hv
  have HX := Lib.hid hx
  have HF := Lib.hid hf
  have HA := Lib.hid ha
  have HG := Lib.hid hg
  clear hx hf ha hg
  clear hv
  have HW := Lib.hid hw
  have HT := Lib.hid ht
  clear hw ht
  have o1 : (p.op == 1) = true := by simp [h1]
  have HNB := Lib.hid (nodeB_1 (xs := xs) (t := t) h1)
  have HTY := Lib.hid (show typesP xs t p = [] from by rw [typesP_no (by omega), h1]; rfl)
  clear h1
  go_enter Try.func182, Try.ntmps182
  go_wp2_with fail
  obtain ⟨W2, hW2⟩ : ∃ W2, W2 = ((w.alloc (.cells #[.int .i64 t.d, .int .i64 t.i] 37)).alloc (.cells #[.int .i64 p.op, .int .i64 p.ct, .int .i64 p.n, .int .i64 p.m, .int .i64 p.va, .slice A4 p.ks.length cap4] 32)) := ⟨_, rfl⟩
  have hB0 : Below w.heap.size w W2 := by rw [hW2]; exact ((Below.refl _ _).alloc (Nat.le_refl _) _).alloc (by simp) _
  have KT : Hid (Blk W2 w.heap.size 37 #[.int .i64 t.d, .int .i64 t.i]) := by rw [hW2]; exact (Blk.new w _ _).same (Below.heap_alloc _ _ _ (by simp))
  have KP : Hid (Blk W2 (w.heap.size + 1) 32 #[.int .i64 p.op, .int .i64 p.ct, .int .i64 p.n, .int .i64 p.m, .int .i64 p.va, .slice A4 p.ks.length cap4]) := by rw [hW2]; have h := Blk.new (w.alloc (.cells #[.int .i64 t.d, .int .i64 t.i] 37)) 32 #[.int .i64 p.op, .int .i64 p.ct, .int .i64 p.n, .int .i64 p.m, .int .i64 p.va, .slice A4 p.ks.length cap4]; rw [World.size_alloc] at h; exact h
  have hws : w.heap.size + 2 ≤ W2.heap.size := by rw [hW2]; simp
  have hws2 : W2.heap.size = w.heap.size + 1 + 1 := by rw [hW2]; simp
  rw [← hW2]
  clear hW2
  have y0 : W2.cell? ⟨w.heap.size, 0, none⟩ = some (.int .i64 t.d) := (KT.out.cell 0).trans (by simp)
  have y1 : W2.cell? ⟨w.heap.size, 1, none⟩ = some (.int .i64 t.i) := (KT.out.cell 1).trans (by simp)
  have klt := KT.out.lt
  have z0 : W2.cell? ⟨w.heap.size + 1, 0, none⟩ = some (.int .i64 p.op) := (KP.out.cell 0).trans (by simp)
  have z1 : W2.cell? ⟨w.heap.size + 1, 1, none⟩ = some (.int .i64 p.ct) := (KP.out.cell 1).trans (by simp)
  have z2 : W2.cell? ⟨w.heap.size + 1, 2, none⟩ = some (.int .i64 p.n) := (KP.out.cell 2).trans (by simp)
  have z3 : W2.cell? ⟨w.heap.size + 1, 3, none⟩ = some (.int .i64 p.m) := (KP.out.cell 3).trans (by simp)
  have z4 : W2.cell? ⟨w.heap.size + 1, 4, none⟩ = some (.int .i64 p.va) := (KP.out.cell 4).trans (by simp)
  have z5 : W2.cell? ⟨w.heap.size + 1, 5, none⟩ = some (.slice A4 p.ks.length cap4) := (KP.out.cell 5).trans (by simp)
  have klt2 := KP.out.lt
  refine (impl_only p A4 cap4 false false false 0 _).mono ?_
  rintro e w3 ⟨rfl, hb3⟩
  have hB3 := hB0.trans (hb3.mono hB0.size)
  generalize hbb : onlyB p false false false 0 = bb at *
  clear hbb
  have HFin : Hid (ShapePost xs t p w (.returned (.tuple #[.slice none 0 0, .bool bb])) w3) := ⟨_, [], by rw [HNB.out] <;> rfl, hB3, Fresh.nil _ _, fun _ => by rw [HTY.out]; exact Arr.nil⟩
  clear y0 y1 z0 z1 z2 z3 z4 z5 klt klt2
  clear hb3 KT KP hB0
  go_wp2
  go_ret2
  exact HFin.out
set_option maxRecDepth 100000 in
set_option maxHeartbeats 1600000 in
theorem shape_2 (xs : List Dt) (hw : WorldOK xs) (t : Ty) (ht : TyIn xs.length t) (p : P) (h2 : p.op = 2) (w : World) (x : Value) (F : List Nat) (cs : List Value) (G : List Nat) : Arr w (DtR w) xs x F → Under w.heap.size F → PR w p cs G → Under w.heap.size G →
    Calls Try.prog 182 #[x, .agg #[.int .i64 t.d, .int .i64 t.i], .agg cs.toArray] w (ShapePost xs t p w) := by
  intro hx hf hv hg
  obtain ⟨kv, rfl, ha⟩ := (PR_iff _ _ _).1 hv
  obtain ⟨A, cap, rfl, hc1, hc2⟩ := hx.form
  obtain ⟨A4, cap4, rfl, hc3, hc4⟩ := ha.form
  have HV := Lib.hid hv
  have HX := Lib.hid hx
  have HF := Lib.hid hf
  have HA := Lib.hid ha
  have HG := Lib.hid hg
  clear hx hf ha hg
  clear hv
  have HW := Lib.hid hw
  have HT := Lib.hid ht
  clear hw ht
  have o1 : (p.op == 1) = false := by simp [h2]
  have o2 : (p.op == 2) = true := by simp [h2]
  have HNB := Lib.hid (nodeB_2 (xs := xs) (t := t) h2)
  have HTY := Lib.hid (show typesP xs t p = [] from by rw [typesP_no (by omega), h2]; rfl)
  clear h2
  go_enter Try.func182, Try.ntmps182
  go_wp2_with fail
  obtain ⟨W2, hW2⟩ : ∃ W2, W2 = ((w.alloc (.cells #[.int .i64 t.d, .int .i64 t.i] 37)).alloc (.cells #[.int .i64 p.op, .int .i64 p.ct, .int .i64 p.n, .int .i64 p.m, .int .i64 p.va, .slice A4 p.ks.length cap4] 32)) := ⟨_, rfl⟩
  have hB0 : Below w.heap.size w W2 := by rw [hW2]; exact ((Below.refl _ _).alloc (Nat.le_refl _) _).alloc (by simp) _
  have KT : Hid (Blk W2 w.heap.size 37 #[.int .i64 t.d, .int .i64 t.i]) := by rw [hW2]; exact (Blk.new w _ _).same (Below.heap_alloc _ _ _ (by simp))
  have KP : Hid (Blk W2 (w.heap.size + 1) 32 #[.int .i64 p.op, .int .i64 p.ct, .int .i64 p.n, .int .i64 p.m, .int .i64 p.va, .slice A4 p.ks.length cap4]) := by rw [hW2]; have h := Blk.new (w.alloc (.cells #[.int .i64 t.d, .int .i64 t.i] 37)) 32 #[.int .i64 p.op, .int .i64 p.ct, .int .i64 p.n, .int .i64 p.m, .int .i64 p.va, .slice A4 p.ks.length cap4]; rw [World.size_alloc] at h; exact h
  have hws : w.heap.size + 2 ≤ W2.heap.size := by rw [hW2]; simp
  have hws2 : W2.heap.size = w.heap.size + 1 + 1 := by rw [hW2]; simp
  rw [← hW2]
  clear hW2
  have y0 : W2.cell? ⟨w.heap.size, 0, none⟩ = some (.int .i64 t.d) := (KT.out.cell 0).trans (by simp)
  have y1 : W2.cell? ⟨w.heap.size, 1, none⟩ = some (.int .i64 t.i) := (KT.out.cell 1).trans (by simp)
  have klt := KT.out.lt
  have z0 : W2.cell? ⟨w.heap.size + 1, 0, none⟩ = some (.int .i64 p.op) := (KP.out.cell 0).trans (by simp)
  have z1 : W2.cell? ⟨w.heap.size + 1, 1, none⟩ = some (.int .i64 p.ct) := (KP.out.cell 1).trans (by simp)
  have z2 : W2.cell? ⟨w.heap.size + 1, 2, none⟩ = some (.int .i64 p.n) := (KP.out.cell 2).trans (by simp)
  have z3 : W2.cell? ⟨w.heap.size + 1, 3, none⟩ = some (.int .i64 p.m) := (KP.out.cell 3).trans (by simp)
  have z4 : W2.cell? ⟨w.heap.size + 1, 4, none⟩ = some (.int .i64 p.va) := (KP.out.cell 4).trans (by simp)
  have z5 : W2.cell? ⟨w.heap.size + 1, 5, none⟩ = some (.slice A4 p.ks.length cap4) := (KP.out.cell 5).trans (by simp)
  have klt2 := KP.out.lt
  refine (impl_only p A4 cap4 false false true 0 _).mono ?_
  rintro e w3 ⟨rfl, hb3⟩
  have hB3 := hB0.trans (hb3.mono hB0.size)
  have KT3 := Lib.hid (KT.out.same (hb3.block _ KT.out.lt))
  have KP3 := Lib.hid (KP.out.same (hb3.block _ KP.out.lt))
  clear y0 y1 z0 z1 z2 z3 z4 z5 klt klt2
  clear hb3 KT KP hB0
  have z4 : w3.cell? ⟨w.heap.size + 1, 4, none⟩ = some (.int .i64 p.va) := (KP3.out.cell 4).trans (by simp)
  have klt2 := KP3.out.lt
  cases e2 : onlyB p false false true 0 with
  | false =>
    have HFin : Hid (ShapePost xs t p w (.returned (.tuple #[.slice none 0 0, .bool false])) w3) := ⟨_, [], by rw [HNB.out, e2] <;> rfl, hB3, Fresh.nil _ _, fun _ => by rw [HTY.out]; exact Arr.nil⟩
    clear e2
    go_wp2
    go_ret2
    exact HFin.out
  | true =>
    have HE2 := Lib.hid e2
    clear e2
    go_wp2_with fail
    refine (impl_isVar p.va w3).mono ?_
    rintro e w4 ⟨rfl, hw4⟩
    rw [hw4]
    clear hw4 w4
    generalize hbb : withinB p.va 0 5 = bb at *
    clear hbb
    have HFin : Hid (ShapePost xs t p w (.returned (.tuple #[.slice none 0 0, .bool bb])) w3) := ⟨_, [], by rw [HNB.out, HE2.out, Bool.true_and] <;> rfl, hB3, Fresh.nil _ _, fun _ => by rw [HTY.out]; exact Arr.nil⟩
    clear z4 klt2
    go_wp2
    go_ret2
    exact HFin.out
set_option maxRecDepth 100000 in
set_option maxHeartbeats 1600000 in
theorem shape_4 (xs : List Dt) (hw : WorldOK xs) (t : Ty) (ht : TyIn xs.length t) (p : P) (h4 : p.op = 4) (w : World) (x : Value) (F : List Nat) (cs : List Value) (G : List Nat) : Arr w (DtR w) xs x F → Under w.heap.size F → PR w p cs G → Under w.heap.size G →
    Calls Try.prog 182 #[x, .agg #[.int .i64 t.d, .int .i64 t.i], .agg cs.toArray] w (ShapePost xs t p w) := by
  intro hx hf hv hg
  obtain ⟨kv, rfl, ha⟩ := (PR_iff _ _ _).1 hv
  obtain ⟨A, cap, rfl, hc1, hc2⟩ := hx.form
  obtain ⟨A4, cap4, rfl, hc3, hc4⟩ := ha.form
  have HV := Lib.hid hv
  have HX := Lib.hid hx
  have HF := Lib.hid hf
  have HA := Lib.hid ha
  have HG := Lib.hid hg
  clear hx hf ha hg
  clear hv
  have HW := Lib.hid hw
  have HT := Lib.hid ht
  clear hw ht
  have o1 : (p.op == 1) = false := by simp [h4]
  have o2 : (p.op == 2) = false := by simp [h4]
  have o3 : (p.op == 3) = false := by simp [h4]
  have o4 : (p.op == 4) = true := by simp [h4]
  have HNB := Lib.hid (nodeB_4 (xs := xs) (t := t) h4)
  clear h4
  have H4 := Lib.hid (show p.op = 4 from by simpa using o4)
  go_enter Try.func182, Try.ntmps182
  go_wp2_with fail
  obtain ⟨W2, hW2⟩ : ∃ W2, W2 = ((w.alloc (.cells #[.int .i64 t.d, .int .i64 t.i] 37)).alloc (.cells #[.int .i64 p.op, .int .i64 p.ct, .int .i64 p.n, .int .i64 p.m, .int .i64 p.va, .slice A4 p.ks.length cap4] 32)) := ⟨_, rfl⟩
  have hB0 : Below w.heap.size w W2 := by rw [hW2]; exact ((Below.refl _ _).alloc (Nat.le_refl _) _).alloc (by simp) _
  have KT : Hid (Blk W2 w.heap.size 37 #[.int .i64 t.d, .int .i64 t.i]) := by rw [hW2]; exact (Blk.new w _ _).same (Below.heap_alloc _ _ _ (by simp))
  have KP : Hid (Blk W2 (w.heap.size + 1) 32 #[.int .i64 p.op, .int .i64 p.ct, .int .i64 p.n, .int .i64 p.m, .int .i64 p.va, .slice A4 p.ks.length cap4]) := by rw [hW2]; have h := Blk.new (w.alloc (.cells #[.int .i64 t.d, .int .i64 t.i] 37)) 32 #[.int .i64 p.op, .int .i64 p.ct, .int .i64 p.n, .int .i64 p.m, .int .i64 p.va, .slice A4 p.ks.length cap4]; rw [World.size_alloc] at h; exact h
  have hws : w.heap.size + 2 ≤ W2.heap.size := by rw [hW2]; simp
  have hws2 : W2.heap.size = w.heap.size + 1 + 1 := by rw [hW2]; simp
  rw [← hW2]
  clear hW2
  have y0 : W2.cell? ⟨w.heap.size, 0, none⟩ = some (.int .i64 t.d) := (KT.out.cell 0).trans (by simp)
  have y1 : W2.cell? ⟨w.heap.size, 1, none⟩ = some (.int .i64 t.i) := (KT.out.cell 1).trans (by simp)
  have klt := KT.out.lt
  have z0 : W2.cell? ⟨w.heap.size + 1, 0, none⟩ = some (.int .i64 p.op) := (KP.out.cell 0).trans (by simp)
  have z1 : W2.cell? ⟨w.heap.size + 1, 1, none⟩ = some (.int .i64 p.ct) := (KP.out.cell 1).trans (by simp)
  have z2 : W2.cell? ⟨w.heap.size + 1, 2, none⟩ = some (.int .i64 p.n) := (KP.out.cell 2).trans (by simp)
  have z3 : W2.cell? ⟨w.heap.size + 1, 3, none⟩ = some (.int .i64 p.m) := (KP.out.cell 3).trans (by simp)
  have z4 : W2.cell? ⟨w.heap.size + 1, 4, none⟩ = some (.int .i64 p.va) := (KP.out.cell 4).trans (by simp)
  have z5 : W2.cell? ⟨w.heap.size + 1, 5, none⟩ = some (.slice A4 p.ks.length cap4) := (KP.out.cell 5).trans (by simp)
  have klt2 := KP.out.lt
  have hkeep : ∀ U U' : World, (U.cell? ⟨w.heap.size, 0, none⟩ = some (.int .i64 t.d) ∧ U.cell? ⟨w.heap.size, 1, none⟩ = some (.int .i64 t.i) ∧ U.cell? ⟨w.heap.size + 1, 1, none⟩ = some (.int .i64 p.ct)) → Below U.heap.size U U' → W2.heap.size ≤ U.heap.size → (U'.cell? ⟨w.heap.size, 0, none⟩ = some (.int .i64 t.d) ∧ U'.cell? ⟨w.heap.size, 1, none⟩ = some (.int .i64 t.i) ∧ U'.cell? ⟨w.heap.size + 1, 1, none⟩ = some (.int .i64 p.ct)) := fun U U' h hUU hU => ⟨(hUU.cell (Nat.lt_of_lt_of_le (klt) hU)).trans h.1, (hUU.cell (Nat.lt_of_lt_of_le (klt) hU)).trans h.2.1, (hUU.cell (Nat.lt_of_lt_of_le (klt2) hU)).trans h.2.2⟩
  have HKeep := Lib.hid hkeep
  clear hkeep
  go_region_held3 (fun w' => w'.cell? ⟨w.heap.size, 0, none⟩ = some (.int .i64 t.d) ∧ w'.cell? ⟨w.heap.size, 1, none⟩ = some (.int .i64 t.i) ∧ w'.cell? ⟨w.heap.size + 1, 1, none⟩ = some (.int .i64 p.ct)) (first | assumption | (exact ⟨y0, y1, z1⟩) | (exact HKeep.out W2.drew w4 ⟨y0, y1, z1⟩ hb4 (Nat.le_refl _)) | (exact HKeep.out w4 w5 (by assumption) hb5 hlew4)) (first | (go_at_call 141; ((with_reducible refine (impl_ctorsOf xs t _ _ F (ArrDt.below HX.out hB0.drew HF.out) (HF.out.mono hB0.drew.size) HW.out HT.out.inWorld).mono ?_); rintro e w4 ⟨v4, F4, rfl, hb4, ha4, -, hfs4⟩); have hlew4 : W2.heap.size ≤ w4.heap.size := hb4.size) | (go_at_call 118; ((with_reducible refine (impl_has (ctorsL xs t) p.ct _ _ F4 ha4 hfs4.under).mono ?_); rintro e w5 ⟨rfl, hb5⟩)))
  have hBa := hB0.drew.trans (hb4.mono hB0.drew.size)
  have hB5 := hBa.trans (hb5.mono hBa.size)
  have KT5 := Lib.hid ((KT.out.same (hb4.block _ KT.out.lt)).same (hb5.block _ (KT.out.same (hb4.block _ KT.out.lt)).lt))
  have KP5 := Lib.hid ((KP.out.same (hb4.block _ KP.out.lt)).same (hb5.block _ (KP.out.same (hb4.block _ KP.out.lt)).lt))
  clear y0 y1 z0 z1 z2 z3 z4 z5 klt klt2
  clear HKeep ha4 hfs4 hb4 hb5 hBa hB0 KT KP
  cases e1 : hasB (ctorsL xs t) p.ct with
  | false =>
    have HFin : Hid (ShapePost xs t p w (.returned (.tuple #[.slice none 0 0, .bool false])) w5) := ⟨_, [], by rw [HNB.out, e1]; rfl, hB5, Fresh.nil _ _, fun h => by rw [HNB.out, e1] at h; cases h⟩
    clear e1
    go_wp2
    go_ret2
    exact HFin.out
  | true =>
    obtain ⟨q, k, e2, hvc, hq', hkl⟩ := mem_ctorsL (xs := xs) (t := t) HT.out.inWorld ((hasB_iff _ _).1 e1)
    have hty : argsOf xs t p.ct = argsL xs[q].ctors[k] t.i := by
      rw [hvc]
      obtain ⟨td, ti⟩ := t
      simp only at e2
      subst e2
      exact argsOf_get hq' hkl
    have hnb := HNB.out
    rw [e1, Bool.true_and, hty] at hnb
    have HNB2 := Lib.hid hnb
    have HTY : Hid (typesP xs t p = argsL xs[q].ctors[k] t.i) := by unfold Hid typesP; rw [if_pos H4.out, hty]
    have HVC := Lib.hid hvc
    have HE2 := Lib.hid e2
    have HLA := Lib.hid (HW.out.ctor hq' hkl).args
    clear hnb hty hvc e2 e1 HNB
    have y0 : w5.cell? ⟨w.heap.size, 0, none⟩ = some (.int .i64 t.d) := (KT5.out.cell 0).trans (by simp)
    have y1 : w5.cell? ⟨w.heap.size, 1, none⟩ = some (.int .i64 t.i) := (KT5.out.cell 1).trans (by simp)
    have klt := KT5.out.lt
    have z1 : w5.cell? ⟨w.heap.size + 1, 1, none⟩ = some (.int .i64 p.ct) := (KP5.out.cell 1).trans (by simp)
    have klt2 := KP5.out.lt
    go_wp2_with fail
    rw [HVC.out, HE2.out]
    refine (impl_argTypes xs q k t.i hq' hkl w5 _ F (ArrDt.below HX.out hB5 HF.out) (HF.out.mono hB5.size) HLA.out).mono ?_
    rintro e w6 ⟨v6, F6, rfl, hb6, ha6, hfr6, hfs6⟩
    have hB6 := hB5.trans (hb6.mono hB5.size)
    have KT6 := Lib.hid (KT5.out.same (hb6.block _ KT5.out.lt))
    have KP6 := Lib.hid (KP5.out.same (hb6.block _ KP5.out.lt))
    generalize argsL xs[q].ctors[k] t.i = ls at *
    obtain ⟨A6, cap6, rfl, hd3, hd4⟩ := ha6.form
    have HA6 := Lib.hid ha6
    have HFS6 := Lib.hid hfs6
    clear ha6 hfr6 hfs6 hb6 y0 y1 z1 klt klt2
    have z0 : w6.cell? ⟨w.heap.size + 1, 0, none⟩ = some (.int .i64 p.op) := (KP6.out.cell 0).trans (by simp)
    have z1 : w6.cell? ⟨w.heap.size + 1, 1, none⟩ = some (.int .i64 p.ct) := (KP6.out.cell 1).trans (by simp)
    have z2 : w6.cell? ⟨w.heap.size + 1, 2, none⟩ = some (.int .i64 p.n) := (KP6.out.cell 2).trans (by simp)
    have z3 : w6.cell? ⟨w.heap.size + 1, 3, none⟩ = some (.int .i64 p.m) := (KP6.out.cell 3).trans (by simp)
    have z4 : w6.cell? ⟨w.heap.size + 1, 4, none⟩ = some (.int .i64 p.va) := (KP6.out.cell 4).trans (by simp)
    have z5 : w6.cell? ⟨w.heap.size + 1, 5, none⟩ = some (.slice A4 p.ks.length cap4) := (KP6.out.cell 5).trans (by simp)
    have klt2 := KP6.out.lt
    go_wp2_with fail
    refine (impl_only p A4 cap4 true false false (ls.length : Nat) _).mono ?_
    rintro e w7 ⟨rfl, hb7⟩
    have HB7 := Lib.hid (hB6.trans (hb7.mono hB6.size))
    have HA7 := Lib.hid (ArrTy.below HA6.out hb7 HFS6.out.under)
    have HFS7 : Hid (Fresh w w7 F6) := fun b hb => ⟨Nat.le_trans hB5.size (HFS6.out b hb).1, Nat.lt_of_lt_of_le (HFS6.out b hb).2 hb7.size⟩
    generalize hbb : onlyB p true false false ((ls.length : Nat) : Int) = bb at *
    clear hbb
    have HFin : Hid (ShapePost xs t p w (.returned (.tuple #[.slice A6 ls.length cap6, .bool bb])) w7) := ⟨_, F6, by rw [HNB2.out], HB7.out, HFS7.out, fun _ => by rw [HTY.out]; exact HA7.out⟩
    clear z0 z1 z2 z3 z4 z5 klt2 hb7
    go_wp2
    go_ret2
    exact HFin.out
set_option maxRecDepth 100000 in
set_option maxHeartbeats 1600000 in
theorem shape_5 (xs : List Dt) (hw : WorldOK xs) (t : Ty) (ht : TyIn xs.length t) (p : P) (h5 : p.op = 5) (w : World) (x : Value) (F : List Nat) (cs : List Value) (G : List Nat) : Arr w (DtR w) xs x F → Under w.heap.size F → PR w p cs G → Under w.heap.size G →
    Calls Try.prog 182 #[x, .agg #[.int .i64 t.d, .int .i64 t.i], .agg cs.toArray] w (ShapePost xs t p w) := by
  intro hx hf hv hg
  obtain ⟨kv, rfl, ha⟩ := (PR_iff _ _ _).1 hv
  obtain ⟨A, cap, rfl, hc1, hc2⟩ := hx.form
  obtain ⟨A4, cap4, rfl, hc3, hc4⟩ := ha.form
  have HV := Lib.hid hv
  have HX := Lib.hid hx
  have HF := Lib.hid hf
  have HA := Lib.hid ha
  have HG := Lib.hid hg
  clear hx hf ha hg
  clear hv
  have HW := Lib.hid hw
  have HT := Lib.hid ht
  clear hw ht
  have o1 : (p.op == 1) = false := by simp [h5]
  have o2 : (p.op == 2) = false := by simp [h5]
  have o3 : (p.op == 3) = false := by simp [h5]
  have o4 : (p.op == 4) = false := by simp [h5]
  have o5 : (p.op == 5) = true := by simp [h5]
  have HNB := Lib.hid (nodeB_5 (xs := xs) (t := t) h5)
  have HTY := Lib.hid (show typesP xs t p = [t, t] from by rw [typesP_no (by omega), h5]; rfl)
  clear h5
  go_enter Try.func182, Try.ntmps182
  go_wp2_with fail
  obtain ⟨W2, hW2⟩ : ∃ W2, W2 = ((w.alloc (.cells #[.int .i64 t.d, .int .i64 t.i] 37)).alloc (.cells #[.int .i64 p.op, .int .i64 p.ct, .int .i64 p.n, .int .i64 p.m, .int .i64 p.va, .slice A4 p.ks.length cap4] 32)) := ⟨_, rfl⟩
  have hB0 : Below w.heap.size w W2 := by rw [hW2]; exact ((Below.refl _ _).alloc (Nat.le_refl _) _).alloc (by simp) _
  have KT : Hid (Blk W2 w.heap.size 37 #[.int .i64 t.d, .int .i64 t.i]) := by rw [hW2]; exact (Blk.new w _ _).same (Below.heap_alloc _ _ _ (by simp))
  have KP : Hid (Blk W2 (w.heap.size + 1) 32 #[.int .i64 p.op, .int .i64 p.ct, .int .i64 p.n, .int .i64 p.m, .int .i64 p.va, .slice A4 p.ks.length cap4]) := by rw [hW2]; have h := Blk.new (w.alloc (.cells #[.int .i64 t.d, .int .i64 t.i] 37)) 32 #[.int .i64 p.op, .int .i64 p.ct, .int .i64 p.n, .int .i64 p.m, .int .i64 p.va, .slice A4 p.ks.length cap4]; rw [World.size_alloc] at h; exact h
  have hws : w.heap.size + 2 ≤ W2.heap.size := by rw [hW2]; simp
  have hws2 : W2.heap.size = w.heap.size + 1 + 1 := by rw [hW2]; simp
  rw [← hW2]
  clear hW2
  have y0 : W2.cell? ⟨w.heap.size, 0, none⟩ = some (.int .i64 t.d) := (KT.out.cell 0).trans (by simp)
  have y1 : W2.cell? ⟨w.heap.size, 1, none⟩ = some (.int .i64 t.i) := (KT.out.cell 1).trans (by simp)
  have klt := KT.out.lt
  have z0 : W2.cell? ⟨w.heap.size + 1, 0, none⟩ = some (.int .i64 p.op) := (KP.out.cell 0).trans (by simp)
  have z1 : W2.cell? ⟨w.heap.size + 1, 1, none⟩ = some (.int .i64 p.ct) := (KP.out.cell 1).trans (by simp)
  have z2 : W2.cell? ⟨w.heap.size + 1, 2, none⟩ = some (.int .i64 p.n) := (KP.out.cell 2).trans (by simp)
  have z3 : W2.cell? ⟨w.heap.size + 1, 3, none⟩ = some (.int .i64 p.m) := (KP.out.cell 3).trans (by simp)
  have z4 : W2.cell? ⟨w.heap.size + 1, 4, none⟩ = some (.int .i64 p.va) := (KP.out.cell 4).trans (by simp)
  have z5 : W2.cell? ⟨w.heap.size + 1, 5, none⟩ = some (.slice A4 p.ks.length cap4) := (KP.out.cell 5).trans (by simp)
  have klt2 := KP.out.lt
  generalize hbb : onlyB p false false false 2 = bb at *
  have HC : Hid (∀ w1 : World, Calls Try.prog 196 #[.agg #[.int .i64 p.op, .int .i64 p.ct, .int .i64 p.n, .int .i64 p.m, .int .i64 p.va, .slice A4 p.ks.length cap4], .bool false, .bool false, .bool false, .int .i64 2] w1 fun e w' => e = .returned (.bool bb) ∧ Below w1.heap.size w1 w') := fun w1 => by rw [← hbb]; exact impl_only p A4 cap4 false false false 2 w1
  clear hbb
  have HNV : Hid (nodeB xs t p = bb) := HNB.out
  go_wp2_with fail
  refine wp_region_B (S := fun w' => Blk w' w.heap.size 37 #[.int .i64 t.d, .int .i64 t.i] ∧ Blk w' (w.heap.size + 1) 32 #[.int .i64 p.op, .int .i64 p.ct, .int .i64 p.n, .int .i64 p.m, .int .i64 p.va, .slice A4 p.ks.length cap4]) (T := fun _ => True) (d := 99) (by kernel_rfl) ?_
  have hS1 : Blk W2.drew w.heap.size 37 #[.int .i64 t.d, .int .i64 t.i] ∧ Blk W2.drew (w.heap.size + 1) 32 #[.int .i64 p.op, .int .i64 p.ct, .int .i64 p.n, .int .i64 p.m, .int .i64 p.va, .slice A4 p.ks.length cap4] := ⟨KT.out, KP.out⟩
  have hT1 : True := trivial
  refine wpAnyB_take (i := 0) (v := ?_) rfl (by decide) (by kernel_rfl) (by kernel_rfl) (by kernel_rfl) (fun _ _ _ h => h) (Or.inl ⟨by rfl, ?hy0⟩) hS1 (fun _ => trivial) ?_
  case hy0 => (intro W hSw; (try dsimp only at hSw); obtain ⟨kt, kp⟩ := hSw; have y0 : W.cell? ⟨w.heap.size, 0, none⟩ = some (.int .i64 t.d) := (kt.cell 0).trans (by simp); have y1 : W.cell? ⟨w.heap.size, 1, none⟩ = some (.int .i64 t.i) := (kt.cell 1).trans (by simp); have z0 : W.cell? ⟨w.heap.size + 1, 0, none⟩ = some (.int .i64 p.op) := (kp.cell 0).trans (by simp); have z1 : W.cell? ⟨w.heap.size + 1, 1, none⟩ = some (.int .i64 p.ct) := (kp.cell 1).trans (by simp); have z2 : W.cell? ⟨w.heap.size + 1, 2, none⟩ = some (.int .i64 p.n) := (kp.cell 2).trans (by simp); have z3 : W.cell? ⟨w.heap.size + 1, 3, none⟩ = some (.int .i64 p.m) := (kp.cell 3).trans (by simp); have z4 : W.cell? ⟨w.heap.size + 1, 4, none⟩ = some (.int .i64 p.va) := (kp.cell 4).trans (by simp); have z5 : W.cell? ⟨w.heap.size + 1, 5, none⟩ = some (.slice A4 p.ks.length cap4) := (kp.cell 5).trans (by simp);go_simp; try with_reducible rfl)
  (try simp only [Act.put, List.getElem_toArray, List.getElem_cons_zero, List.getElem_cons_succ, List.setIfInBounds_toArray, List.set_cons_zero, List.set_cons_succ])
  refine wpAnyB_take (i := 1) (v := ?_) rfl (by decide) (by kernel_rfl) (by kernel_rfl) (by kernel_rfl) (fun _ _ _ h => h) (Or.inl ⟨by rfl, ?hy1⟩) hS1 (fun _ => trivial) ?_
  case hy1 => (intro W hSw; (try dsimp only at hSw); obtain ⟨kt, kp⟩ := hSw; have y0 : W.cell? ⟨w.heap.size, 0, none⟩ = some (.int .i64 t.d) := (kt.cell 0).trans (by simp); have y1 : W.cell? ⟨w.heap.size, 1, none⟩ = some (.int .i64 t.i) := (kt.cell 1).trans (by simp); have z0 : W.cell? ⟨w.heap.size + 1, 0, none⟩ = some (.int .i64 p.op) := (kp.cell 0).trans (by simp); have z1 : W.cell? ⟨w.heap.size + 1, 1, none⟩ = some (.int .i64 p.ct) := (kp.cell 1).trans (by simp); have z2 : W.cell? ⟨w.heap.size + 1, 2, none⟩ = some (.int .i64 p.n) := (kp.cell 2).trans (by simp); have z3 : W.cell? ⟨w.heap.size + 1, 3, none⟩ = some (.int .i64 p.m) := (kp.cell 3).trans (by simp); have z4 : W.cell? ⟨w.heap.size + 1, 4, none⟩ = some (.int .i64 p.va) := (kp.cell 4).trans (by simp); have z5 : W.cell? ⟨w.heap.size + 1, 5, none⟩ = some (.slice A4 p.ks.length cap4) := (kp.cell 5).trans (by simp);go_simp; try with_reducible rfl)
  (try simp only [Act.put, List.getElem_toArray, List.getElem_cons_zero, List.getElem_cons_succ, List.setIfInBounds_toArray, List.set_cons_zero, List.set_cons_succ])
  refine wpAnyB_take (i := 3) (v := ?_) rfl (by decide) (by kernel_rfl) (by kernel_rfl) (by kernel_rfl) (fun _ _ _ h => h) (Or.inl ⟨by rfl, ?hy3⟩) hS1 (fun _ => trivial) ?_
  case hy3 => (intro W hSw; (try dsimp only at hSw); obtain ⟨kt, kp⟩ := hSw; have y0 : W.cell? ⟨w.heap.size, 0, none⟩ = some (.int .i64 t.d) := (kt.cell 0).trans (by simp); have y1 : W.cell? ⟨w.heap.size, 1, none⟩ = some (.int .i64 t.i) := (kt.cell 1).trans (by simp); have z0 : W.cell? ⟨w.heap.size + 1, 0, none⟩ = some (.int .i64 p.op) := (kp.cell 0).trans (by simp); have z1 : W.cell? ⟨w.heap.size + 1, 1, none⟩ = some (.int .i64 p.ct) := (kp.cell 1).trans (by simp); have z2 : W.cell? ⟨w.heap.size + 1, 2, none⟩ = some (.int .i64 p.n) := (kp.cell 2).trans (by simp); have z3 : W.cell? ⟨w.heap.size + 1, 3, none⟩ = some (.int .i64 p.m) := (kp.cell 3).trans (by simp); have z4 : W.cell? ⟨w.heap.size + 1, 4, none⟩ = some (.int .i64 p.va) := (kp.cell 4).trans (by simp); have z5 : W.cell? ⟨w.heap.size + 1, 5, none⟩ = some (.slice A4 p.ks.length cap4) := (kp.cell 5).trans (by simp);go_simp; try with_reducible rfl)
  (try simp only [Act.put, List.getElem_toArray, List.getElem_cons_zero, List.getElem_cons_succ, List.setIfInBounds_toArray, List.set_cons_zero, List.set_cons_succ])
  refine wpAnyB_ready (rs := [2, 4]) (by kernel_rfl) (by simp) ?_
  refine AllReadyB.cons rfl (fun K hK => ?_) (AllReadyB.cons rfl (fun K hK => ?_) AllReadyB.nil)
  · go_simp
    have hS2 := And.intro (hS1.1.same (Below.heap_alloc _ (.cells #[.int .i64 t.d, .int .i64 t.i, .int .i64 t.d, .int .i64 t.i] 37) _ hS1.1.lt)) (hS1.2.same (Below.heap_alloc _ (.cells #[.int .i64 t.d, .int .i64 t.i, .int .i64 t.d, .int .i64 t.i] 37) _ hS1.2.lt))
    refine hK.out _ _ hS2 (fun _ => trivial) ?_
    clear hK K
    (try simp only [Act.put, List.getElem_toArray, List.getElem_cons_zero, List.getElem_cons_succ, List.setIfInBounds_toArray, List.set_cons_zero, List.set_cons_succ])
    refine wpAnyB_ready (rs := [4]) (by kernel_rfl) (by simp) ?_
    refine AllReadyB.cons rfl (fun K hK => ?_) AllReadyB.nil
    go_simp
    go_at_call 196
    with_reducible refine (HC.out _).mono ?_
    rintro e w3 ⟨rfl, hb3⟩
    have hS3 : Blk w3 w.heap.size 37 #[.int .i64 t.d, .int .i64 t.i] ∧ Blk w3 (w.heap.size + 1) 32 #[.int .i64 p.op, .int .i64 p.ct, .int .i64 p.n, .int .i64 p.m, .int .i64 p.va, .slice A4 p.ks.length cap4] := ⟨hS2.1.same (hb3.block _ hS2.1.lt), hS2.2.same (hb3.block _ hS2.2.lt)⟩
    dsimp only
    refine hK.out _ _ hS3 (fun _ => trivial) ?_
    clear hK K
    (try simp only [Act.put, List.getElem_toArray, List.getElem_cons_zero, List.getElem_cons_succ, List.setIfInBounds_toArray, List.set_cons_zero, List.set_cons_succ])
    refine wpAnyB_take (i := 5) (v := ?_) rfl (by decide) (by kernel_rfl) (by kernel_rfl) (by kernel_rfl) (fun _ _ _ h => h) (Or.inl ⟨by rfl, ?hy5⟩) hS3 (fun _ => trivial) ?_
    case hy5 => (intro W hSw; (try dsimp only at hSw); go_simp; try with_reducible rfl)
    (try simp only [Act.put, List.getElem_toArray, List.getElem_cons_zero, List.getElem_cons_succ, List.setIfInBounds_toArray, List.set_cons_zero, List.set_cons_succ])
    refine wpAnyB_take (i := 6) (v := ?_) rfl (by decide) (by kernel_rfl) (by kernel_rfl) (by kernel_rfl) (fun _ _ _ h => h) (Or.inl ⟨by rfl, ?hy6⟩) hS3 (fun _ => trivial) ?_
    case hy6 => (intro W hSw; (try dsimp only at hSw); go_simp; try with_reducible rfl)
    (try simp only [Act.put, List.getElem_toArray, List.getElem_cons_zero, List.getElem_cons_succ, List.setIfInBounds_toArray, List.set_cons_zero, List.set_cons_succ])
    refine wpAnyB_end (by kernel_rfl) ?_
    obtain ⟨q1, q2, q3⟩ := shape_endA hB0 hws2 hb3
    have HFin : Hid (ShapePost xs t p w (.returned (.tuple #[.slice (some ⟨w.heap.size + 1 + 1, 0, none⟩) 2 2, .bool bb])) w3) := ⟨_, [w.heap.size + 1 + 1], by rw [HNV.out], q1, q2, fun _ => by rw [HTY.out]; exact arr_tys2 q3⟩
    clear y0 y1 z0 z1 z2 z3 z4 z5 klt klt2
    clear hS1 hS3 hb3 q1 q2 q3
    go_wp2
    go_ret2
    exact HFin.out
  · go_simp
    go_at_call 196
    with_reducible refine (HC.out _).mono ?_
    rintro e w3 ⟨rfl, hb3⟩
    have hS3 : Blk w3 w.heap.size 37 #[.int .i64 t.d, .int .i64 t.i] ∧ Blk w3 (w.heap.size + 1) 32 #[.int .i64 p.op, .int .i64 p.ct, .int .i64 p.n, .int .i64 p.m, .int .i64 p.va, .slice A4 p.ks.length cap4] := ⟨hS1.1.same (hb3.block _ hS1.1.lt), hS1.2.same (hb3.block _ hS1.2.lt)⟩
    dsimp only
    refine hK.out _ _ hS3 (fun _ => trivial) ?_
    clear hK K
    (try simp only [Act.put, List.getElem_toArray, List.getElem_cons_zero, List.getElem_cons_succ, List.setIfInBounds_toArray, List.set_cons_zero, List.set_cons_succ])
    refine wpAnyB_ready (rs := [2]) (by kernel_rfl) (by simp) ?_
    refine AllReadyB.cons rfl (fun K hK => ?_) AllReadyB.nil
    go_simp
    have hS4 := And.intro (hS3.1.same (Below.heap_alloc _ (.cells #[.int .i64 t.d, .int .i64 t.i, .int .i64 t.d, .int .i64 t.i] 37) _ hS3.1.lt)) (hS3.2.same (Below.heap_alloc _ (.cells #[.int .i64 t.d, .int .i64 t.i, .int .i64 t.d, .int .i64 t.i] 37) _ hS3.2.lt))
    refine hK.out _ _ hS4 (fun _ => trivial) ?_
    clear hK K
    (try simp only [Act.put, List.getElem_toArray, List.getElem_cons_zero, List.getElem_cons_succ, List.setIfInBounds_toArray, List.set_cons_zero, List.set_cons_succ])
    refine wpAnyB_take (i := 5) (v := ?_) rfl (by decide) (by kernel_rfl) (by kernel_rfl) (by kernel_rfl) (fun _ _ _ h => h) (Or.inl ⟨by rfl, ?hy5⟩) hS4 (fun _ => trivial) ?_
    case hy5 => (intro W hSw; (try dsimp only at hSw); go_simp; try with_reducible rfl)
    (try simp only [Act.put, List.getElem_toArray, List.getElem_cons_zero, List.getElem_cons_succ, List.setIfInBounds_toArray, List.set_cons_zero, List.set_cons_succ])
    refine wpAnyB_take (i := 6) (v := ?_) rfl (by decide) (by kernel_rfl) (by kernel_rfl) (by kernel_rfl) (fun _ _ _ h => h) (Or.inl ⟨by rfl, ?hy6⟩) hS4 (fun _ => trivial) ?_
    case hy6 => (intro W hSw; (try dsimp only at hSw); go_simp; try with_reducible rfl)
    (try simp only [Act.put, List.getElem_toArray, List.getElem_cons_zero, List.getElem_cons_succ, List.setIfInBounds_toArray, List.set_cons_zero, List.set_cons_succ])
    refine wpAnyB_end (by kernel_rfl) ?_
    obtain ⟨q1, q2⟩ := shape_endB hB0 hb3 (.cells #[.int .i64 t.d, .int .i64 t.i, .int .i64 t.d, .int .i64 t.i] 37)
    have HFin : Hid (ShapePost xs t p w (.returned (.tuple #[.slice (some ⟨w3.heap.size, 0, none⟩) 2 2, .bool bb])) (w3.alloc (.cells #[.int .i64 t.d, .int .i64 t.i, .int .i64 t.d, .int .i64 t.i] 37))) := ⟨_, [w3.heap.size], by rw [HNV.out], q1, q2, fun _ => by rw [HTY.out]; exact arr_tys2 (Blk.new w3 _ _)⟩
    clear y0 y1 z0 z1 z2 z3 z4 z5 klt klt2
    clear hS1 hS3 hb3 q1 q2
    go_wp2
    go_ret2
    exact HFin.out
end Go.Proofs.Ytbffkgfhcmigaaa
