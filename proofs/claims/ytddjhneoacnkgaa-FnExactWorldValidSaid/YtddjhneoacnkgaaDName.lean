/-
  l1Big, l1Data: names of data types. Conditions: none.
-/
import Derived.Test.YtddjhneoacnkgaaName
import Derived.Test.YtddjhneoacnkgaaChecked
namespace Go.Proofs.Ytddjhneoacnkgaa
open Go.RowKit

def bigB (c : UInt8) : Bool := decide (65 ≤ (c.toNat : Int)) && decide ((c.toNat : Int) ≤ 90)
def dnameOk : List UInt8 → Bool
  | [c] => bigB c && !(c == 73)
  | _ => false

set_option maxHeartbeats 400000 in
theorem spec_l1Big (c : UInt8) (w : World) : Calls Try.prog 78 #[.int .u8 (c.toNat : Int)] w fun e w' => e = .returned (.bool (bigB c)) ∧ w = w' := by
  cases h : decide (65 ≤ (c.toNat : Int)) with
  | false =>
    have hf : Hid (bigB c = false) := by unfold Hid bigB; rw [h]; rfl
    go_enter Try.func78, Try.ntmps78
    go_wp2
    go_ret
    exact ⟨ret_bool hf.out.symm, rfl⟩
  | true =>
    have hf : Hid (bigB c = decide ((c.toNat : Int) ≤ 90)) := by unfold Hid bigB; rw [h]; rfl
    go_enter Try.func78, Try.ntmps78
    go_wp2
    go_ret
    exact ⟨ret_bool hf.out.symm, rfl⟩

theorem one_byte (s : ByteArray) (h : s.size = 1) : s.data.toList = [s[0]] := by
  rw [bytes_cons s (by omega)]
  congr 1
  exact List.eq_nil_of_length_eq_zero (by simp; omega)

set_option maxHeartbeats 400000 in
theorem spec_l1Data (s : ByteArray) (w : World) (hs : s.size ≤ maxLen) : Calls Try.prog 50 #[.string s] w fun e w' => e = .returned (.bool (dnameOk s.data.toList)) ∧ w = w' := by
  unfold maxLen at hs
  by_cases h : s.size = 1
  · have h1 := one_byte s h
    have h0 : ((s.size : Int) == 1) = true := beq_iff_eq.2 (by omega)
    have p0 : 0 < s.size := by omega
    have p0' : (0 : Int) < (s.size : Int) := by omega
    cases hb : bigB s[0] with
    | false =>
      have hf : Hid (dnameOk s.data.toList = false) := by
        rw [h1]; show (bigB s[0] && !(s[0] == 73)) = false; rw [hb]; rfl
      clear h1 h
      have HB := Lib.hid hb
      clear hb
      go_enter Try.func50, Try.ntmps50
      go_wp2_with fail
      refine (spec_l1Big s[0] _).mono ?_
      rintro e w' ⟨rfl, rfl⟩
      rw [HB.out]
      go_wp2
      go_ret
      exact ⟨ret_bool hf.out.symm, rfl⟩
    | true =>
      have hI : (s.toList == [73]) = (s[0] == 73) := by rw [ByteArray.toList_eq, h1]; simp
      have hf : Hid (dnameOk s.data.toList = !(s.toList == [73])) := by
        rw [hI, h1]; show (bigB s[0] && !(s[0] == 73)) = _; rw [hb]; rfl
      clear h1 h hI
      have HB := Lib.hid hb
      clear hb
      go_enter Try.func50, Try.ntmps50
      go_wp2_with fail
      refine (spec_l1Big s[0] _).mono ?_
      rintro e w' ⟨rfl, rfl⟩
      rw [HB.out]
      go_wp2
      go_ret
      exact ⟨ret_bool hf.out.symm, rfl⟩
  · have h0 : ((s.size : Int) == 1) = false := beq_eq_false_iff_ne.2 (by omega)
    have hf : Hid (dnameOk s.data.toList = false) := by
      have hl : s.data.toList.length ≠ 1 := by simpa using h
      unfold Hid
      generalize s.data.toList = l at *
      match l, hl with
      | [], _ => rfl
      | [c], hl => simp at hl
      | _ :: _ :: _, _ => rfl
    clear h
    go_enter Try.func50, Try.ntmps50
    go_wp2
    go_ret
    exact ⟨ret_bool hf.out.symm, rfl⟩
end Go.Proofs.Ytddjhneoacnkgaa
