/-
  Small contracts on types: within, l1Arg, argOk, l1Big, l1Data. Conditions: none.
-/
import Derived.Test.YtddjhneoacnkgaaTy
import Derived.Test.YtddjhneoacnkgaaChecked
namespace Go.Proofs.Ytddjhneoacnkgaa
open Go.RowKit

def withinB (n lo hi : Int) : Bool := decide (lo ≤ n) && decide (n ≤ hi)
theorem withinB_lo {n lo hi : Int} (h : decide (lo ≤ n) = false) : withinB n lo hi = false := by unfold withinB; rw [h]; rfl
theorem withinB_hi {n lo hi : Int} (h : decide (lo ≤ n) = true) : withinB n lo hi = decide (n ≤ hi) := by unfold withinB; rw [h]; rfl
theorem withinB_iff (n lo hi : Int) : withinB n lo hi = true ↔ lo ≤ n ∧ n ≤ hi := by unfold withinB; simp

set_option maxHeartbeats 400000 in
theorem impl_within (n lo hi : Int) (w : World) : Calls Try.prog 53 #[.int .i64 n, .int .i64 lo, .int .i64 hi] w fun e w' => e = .returned (.bool (withinB n lo hi)) ∧ w = w' := by
  cases h : decide (lo ≤ n) with
  | false =>
    have hf := Lib.hid (withinB_lo (hi := hi) h)
    go_enter Try.func53, Try.ntmps53
    go_wp2
    go_ret
    exact ⟨ret_bool hf.out.symm, rfl⟩
  | true =>
    have hf := Lib.hid (withinB_hi (hi := hi) h)
    go_enter Try.func53, Try.ntmps53
    go_wp2
    go_ret
    exact ⟨ret_bool hf.out.symm, rfl⟩

/-- a type of an argument in a world of n data types -/
def argOkB (n : Int) (t : Ty) : Bool := if t.d = -1 then t.i == 0 else withinB t.d 0 (n - 1) && withinB t.i (-1) 3

set_option maxRecDepth 100000 in
set_option maxHeartbeats 800000 in
theorem spec_l1Arg (n : Int) (t : Ty) (w : World) : Calls Try.prog 80 #[.int .i64 n, .agg #[.int .i64 t.d, .int .i64 t.i]] w fun e w' => e = .returned (.bool (argOkB n t)) ∧ Below w.heap.size w w' := by
  by_cases h : t.d = -1
  · have h0 : (t.d == -1) = true := by simpa using h
    have hf : Hid (argOkB n t = (t.i == 0)) := by unfold Hid argOkB; rw [if_pos h]
    clear h
    go_enter Try.func80, Try.ntmps80
    go_wp2
    go_ret
    exact ⟨ret_bool hf.out.symm, (Below.refl _ _).alloc (Nat.le_refl _) _⟩
  · have h0 : (t.d == -1) = false := by simpa using h
    have hf0 : argOkB n t = (withinB t.d 0 (n - 1) && withinB t.i (-1) 3) := by unfold argOkB; rw [if_neg h]
    clear h
    have d1 : decide (0 ≤ t.d) = decide (t.d ≥ 0) := rfl
    cases h1 : decide (0 ≤ t.d) with
    | false =>
      have hf : Hid (argOkB n t = false) := by rw [hf0, withinB_lo h1]; rfl
      clear hf0 d1
      go_enter Try.func80, Try.ntmps80
      go_wp2
      go_ret
      exact ⟨ret_bool hf.out.symm, (Below.refl _ _).alloc (Nat.le_refl _) _⟩
    | true =>
      cases h2 : decide (t.d < n) with
      | false =>
        have hf : Hid (argOkB n t = false) := by
          rw [hf0, withinB_hi h1]
          have : decide (t.d ≤ n - 1) = false := by simp at h2 ⊢; omega
          rw [this]; rfl
        clear hf0 d1
        go_enter Try.func80, Try.ntmps80
        go_wp2
        go_ret
        exact ⟨ret_bool hf.out.symm, (Below.refl _ _).alloc (Nat.le_refl _) _⟩
      | true =>
        have hf1 : argOkB n t = withinB t.i (-1) 3 := by
          rw [hf0, withinB_hi h1]
          have : decide (t.d ≤ n - 1) = true := by simp at h2 ⊢; omega
          rw [this]; rfl
        clear hf0 d1
        cases h3 : decide (-1 ≤ t.i) with
        | false =>
          have hf : Hid (argOkB n t = false) := by rw [hf1, withinB_lo h3]; rfl
          clear hf1
          go_enter Try.func80, Try.ntmps80
          go_wp2
          go_ret
          exact ⟨ret_bool hf.out.symm, (Below.refl _ _).alloc (Nat.le_refl _) _⟩
        | true =>
          have hf : Hid (argOkB n t = decide (t.i ≤ 3)) := by rw [hf1, withinB_hi h3]; rfl
          clear hf1
          go_enter Try.func80, Try.ntmps80
          go_wp2
          go_ret
          exact ⟨ret_bool hf.out.symm, (Below.refl _ _).alloc (Nat.le_refl _) _⟩

set_option maxRecDepth 100000 in
set_option maxHeartbeats 800000 in
theorem impl_argOk (A : Option Addr) (n cap : Nat) (t : Ty) (w : World) (hn : n ≤ 9223372036854775807) : Calls Try.prog 84 #[.slice A n cap, .agg #[.int .i64 t.d, .int .i64 t.i]] w fun e w' => e = .returned (.bool (argOkB n t)) ∧ Below w.heap.size w w' := by
  cases h0 : (t.d == -1) with
  | true =>
    cases h1 : (t.i == 0) with
    | true =>
      have hf : Hid (argOkB n t = true) := by unfold Hid argOkB; rw [if_pos (by simpa using h0), h1]
      go_enter Try.func84, Try.ntmps84
      go_wp2
      go_ret
      exact ⟨ret_bool hf.out.symm, (Below.refl _ _).alloc (Nat.le_refl _) _⟩
    | false =>
      have hf : Hid (argOkB n t = false) := by unfold Hid argOkB; rw [if_pos (by simpa using h0), h1]
      have hw : Hid (withinB t.d 0 ((n : Int) - 1) = false) := by
        have : t.d = -1 := by simpa using h0
        exact withinB_lo (by rw [this]; rfl)
      go_enter Try.func84, Try.ntmps84
      go_wp2_with fail
      refine (impl_within t.d 0 ((n : Int) - 1) _).mono ?_
      rintro e w' ⟨rfl, rfl⟩
      rw [hw.out]
      go_wp2
      go_ret
      exact ⟨ret_bool hf.out.symm, (Below.refl _ _).alloc (Nat.le_refl _) _⟩
  | false =>
    have hf0 : argOkB n t = (withinB t.d 0 ((n : Int) - 1) && withinB t.i (-1) 3) := by unfold argOkB; rw [if_neg (by simpa using h0)]
    cases hw : withinB t.d 0 ((n : Int) - 1) with
    | false =>
      have hf : Hid (argOkB n t = false) := by rw [hf0, hw]; rfl
      have HW := Lib.hid hw
      clear hf0 hw
      go_enter Try.func84, Try.ntmps84
      go_wp2_with fail
      refine (impl_within t.d 0 ((n : Int) - 1) _).mono ?_
      rintro e w' ⟨rfl, rfl⟩
      rw [HW.out]
      go_wp2
      go_ret
      exact ⟨ret_bool hf.out.symm, (Below.refl _ _).alloc (Nat.le_refl _) _⟩
    | true =>
      have hf : Hid (argOkB n t = withinB t.i (-1) 3) := by rw [hf0, hw]; rfl
      have HW := Lib.hid hw
      clear hf0 hw
      go_enter Try.func84, Try.ntmps84
      go_wp2_with fail
      refine (impl_within t.d 0 ((n : Int) - 1) _).mono ?_
      rintro e w' ⟨rfl, rfl⟩
      rw [HW.out]
      go_wp2_with fail
      refine (impl_within t.i (-1) 3 _).mono ?_
      rintro e w' ⟨rfl, rfl⟩
      generalize hbb : withinB t.i (-1) 3 = bb
      have HBB := Lib.hid hbb
      clear hbb
      go_wp2
      go_ret
      exact ⟨ret_bool (hf.out.trans HBB.out).symm, (Below.refl _ _).alloc (Nat.le_refl _) _⟩
end Go.Proofs.Ytddjhneoacnkgaa
