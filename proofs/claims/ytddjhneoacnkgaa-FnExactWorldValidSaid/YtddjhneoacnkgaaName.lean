/-
  Contracts of the two functions NameValid (the program's and the reference's). Conditions: none.
-/
import Derived.Test.YtddjhneoacnkgaaBase
import Derived.Test.YtddjhneoacnkgaaChecked
namespace Go.Proofs.Ytddjhneoacnkgaa
open Go.RowKit

/-- what the walk meets of a name -/
theorem bytes_cons (s : ByteArray) (h : 0 < s.size) : s.data.toList = s[0] :: s.data.toList.drop 1 := by
  rw [show s[0] = s.data.toList[0]'(by simpa using h) from rfl, List.getElem_cons_drop]; rfl
theorem take_snoc (s : ByteArray) (k : Nat) (h : k < s.size) : s.data.toList.take (k + 1) = s.data.toList.take k ++ [s[k]] := by
  rw [List.take_succ_eq_append_getElem (by simpa using h)]; rfl
theorem nameOk_false_len (s : ByteArray) (h : s.size = 0 ∨ 5 < s.size) : nameOk s.data.toList = false := by
  rcases h with h | h
  · rw [show s.data.toList = [] from List.eq_nil_of_length_eq_zero (by simpa using h)]; rfl
  · rw [bytes_cons s (by omega), nameOk_cons]
    have : decide ((s.data.toList.drop 1).length ≤ 4) = false := decide_eq_false (by simp; omega)
    rw [this]; rfl
theorem nameOk_false_head (s : ByteArray) (h0 : 0 < s.size) (h : (s[0].toNat : Int) < 65 ∨ (90 : Int) < (s[0].toNat : Int)) : nameOk s.data.toList = false := by
  rw [bytes_cons s h0, nameOk_cons]
  have h2 : (decide (65 ≤ s[0].toNat) && decide (s[0].toNat ≤ 90)) = false := by simp; omega
  rw [h2]; simp
theorem lower_false_at (l : List UInt8) (k : Nat) (hk : k < l.length) (h : (l[k].toNat : Int) < 97 ∨ (122 : Int) < (l[k].toNat : Int)) : lowerAll l = false := by
  have : l[k] ∈ l := List.getElem_mem hk
  unfold lowerAll
  rw [List.all_eq_false]
  refine ⟨_, this, ?_⟩
  simp [UInt8.le_iff_toNat_le]
  omega
theorem nameOk_false_at (s : ByteArray) (k : Nat) (h1 : 1 ≤ k) (hk : k < s.size) (h : (s[k].toNat : Int) < 97 ∨ (122 : Int) < (s[k].toNat : Int)) : nameOk s.data.toList = false := by
  rw [bytes_cons s (by omega), nameOk_cons]
  have : lowerAll (s.data.toList.drop 1) = false := lower_false_at _ (k - 1) (by simp; omega) (by
    have e : (s.data.toList.drop 1)[k - 1]'(by simp; omega) = s[k] := by
      rw [List.getElem_drop]
      show s.data.toList[1 + (k - 1)]'_ = s.data.toList[k]'_
      congr 1; omega
    rw [e]; exact h)
  rw [this]; simp
theorem nameOk_true (s : ByteArray) (h0 : 0 < s.size) (h5 : s.size ≤ 5) (ha : 65 ≤ (s[0].toNat : Int)) (hz : (s[0].toNat : Int) ≤ 90) (h : ∀ k (hk : k < s.size), 1 ≤ k → 97 ≤ (s[k].toNat : Int) ∧ (s[k].toNat : Int) ≤ 122) : nameOk s.data.toList = true := by
  rw [bytes_cons s h0, nameOk_cons]
  have hl : lowerAll (s.data.toList.drop 1) = true := by
    unfold lowerAll
    rw [List.all_eq_true]
    intro c hc
    obtain ⟨k, hk, rfl⟩ := List.getElem_of_mem hc
    have hk' : 1 + k < s.size := by simp at hk; omega
    have := h (1 + k) hk' (by omega)
    have e : (s.data.toList.drop 1)[k] = s[1 + k] := by rw [List.getElem_drop]; rfl
    rw [e]
    simp [UInt8.le_iff_toNat_le]
    omega
  rw [hl, decide_eq_true (show (s.data.toList.drop 1).length ≤ 4 by simp; omega), decide_eq_true (show 65 ≤ s[0].toNat by omega), decide_eq_true (show s[0].toNat ≤ 90 by omega)]; rfl

set_option maxHeartbeats 1000000 in
theorem spec_NameValid (s : ByteArray) (w : World) (hs : s.size ≤ maxLen) :
    Calls Try.prog 79 #[.string s] w fun e w' => e = .returned (.bool (nameOk s.data.toList)) ∧ w = w' := by
  unfold maxLen at hs
  by_cases h0 : s.size = 0
  · have hf := Lib.hid (nameOk_false_len s (.inl h0))
    have e0 : ((s.size : Int) == 0) = true := beq_iff_eq.2 (by omega)
    have e1 : (s.size : Int) < 1 := by omega
    clear h0
    go_enter Try.func79, Try.ntmps79
    go_wp2
    go_ret
    exact ⟨ret_bool hf.out.symm, rfl⟩
  · have e0 : ((s.size : Int) == 0) = false := beq_eq_false_iff_ne.2 (by omega)
    have e1 : 1 ≤ (s.size : Int) := by omega
    by_cases h5 : 5 < s.size
    · have hf := Lib.hid (nameOk_false_len s (.inr h5))
      have e5 : (5 : Int) < (s.size : Int) := by omega
      go_enter Try.func79, Try.ntmps79
      go_wp2
      go_ret
      exact ⟨ret_bool hf.out.symm, rfl⟩
    · have p0 : 0 < s.size := by omega
      have p0' : (0 : Int) < (s.size : Int) := by omega
      have e5 : (s.size : Int) ≤ 5 := by omega
      by_cases ha : (s[0].toNat : Int) < 65
      · have hf := Lib.hid (nameOk_false_head s p0 (.inl ha))
        go_enter Try.func79, Try.ntmps79
        go_wp2
        go_ret
        exact ⟨ret_bool hf.out.symm, rfl⟩
      · have ha1 : 65 ≤ (s[0].toNat : Int) := by omega
        clear ha
        by_cases ha : (90 : Int) < (s[0].toNat : Int)
        · have hf := Lib.hid (nameOk_false_head s p0 (.inr ha))
          have hd : decide ((s[0].toNat : Int) ≤ 90) = false := decide_eq_false (by omega)
          go_enter Try.func79, Try.ntmps79
          go_wp2
          go_ret
          exact ⟨ret_bool hf.out.symm, rfl⟩
        · have ha2 : (s[0].toNat : Int) ≤ 90 := by omega
          clear ha
          go_enter Try.func79, Try.ntmps79
          go_wp2
          go_loop [3] (fun i => ∃ k : Nat, 1 ≤ k ∧ k ≤ s.size ∧ i = .int .i64 k ∧ Hid (∀ j (hj : j < s.size), 1 ≤ j → j < k → 97 ≤ (s[j].toNat : Int) ∧ (s[j].toNat : Int) ≤ 122)) (fun i => s.size - (intOf i).toNat)
          case atStart => exact ⟨1, Nat.le_refl _, by omega, rfl, fun j _ _ _ => by omega⟩
          case round =>
            obtain ⟨k, hk1, hk, rfl, HA⟩ := hrel
            by_cases hlt : k < s.size
            · by_cases hc : (s[k].toNat : Int) < 97
              · have hf := Lib.hid (nameOk_false_at s k hk1 hlt (.inl hc))
                go_wp2
                go_ret
                exact ⟨ret_bool hf.out.symm, rfl⟩
              · have hc1 : 97 ≤ (s[k].toNat : Int) := by omega
                clear hc
                by_cases hc : (122 : Int) < (s[k].toNat : Int)
                · have hf := Lib.hid (nameOk_false_at s k hk1 hlt (.inr hc))
                  go_wp2
                  go_ret
                  exact ⟨ret_bool hf.out.symm, rfl⟩
                · have hc2 : (s[k].toNat : Int) ≤ 122 := by omega
                  clear hc
                  go_wp2
                  go_round
                  case rel => exact ⟨k + 1, by omega, by omega, by go_num, fun j hj h1 h2 => by
                    rcases Nat.lt_or_ge j k with h | h
                    · exact HA.out j hj h1 h
                    · obtain rfl : j = k := by omega
                      exact ⟨hc1, hc2⟩⟩
                  case measure => simp [intOf]; omega
            · have hf := Lib.hid (nameOk_true s p0 (by omega) ha1 ha2 (fun j hj h1 => HA.out j hj h1 (by omega)))
              go_wp2
              go_ret
              exact ⟨ret_bool hf.out.symm, rfl⟩

set_option maxHeartbeats 1000000 in
theorem impl_NameValid (s : ByteArray) (w : World) (hs : s.size ≤ maxLen) :
    Calls Try.prog 81 #[.string s] w fun e w' => e = .returned (.bool (nameOk s.data.toList)) ∧ w = w' := by
  unfold maxLen at hs
  by_cases h0 : s.size = 0
  · have hf := Lib.hid (nameOk_false_len s (.inl h0))
    have e0 : ((s.size : Int) == 0) = true := beq_iff_eq.2 (by omega)
    have e1 : (s.size : Int) < 1 := by omega
    clear h0
    go_enter Try.func81, Try.ntmps81
    go_wp2
    go_ret
    exact ⟨ret_bool hf.out.symm, rfl⟩
  · have e0 : ((s.size : Int) == 0) = false := beq_eq_false_iff_ne.2 (by omega)
    have e1 : 1 ≤ (s.size : Int) := by omega
    by_cases h5 : 5 < s.size
    · have hf := Lib.hid (nameOk_false_len s (.inr h5))
      have e5 : (5 : Int) < (s.size : Int) := by omega
      go_enter Try.func81, Try.ntmps81
      go_wp2
      go_ret
      exact ⟨ret_bool hf.out.symm, rfl⟩
    · have p0 : 0 < s.size := by omega
      have p0' : (0 : Int) < (s.size : Int) := by omega
      have e5 : (s.size : Int) ≤ 5 := by omega
      by_cases ha : (s[0].toNat : Int) < 65
      · have hf := Lib.hid (nameOk_false_head s p0 (.inl ha))
        go_enter Try.func81, Try.ntmps81
        go_wp2
        go_ret
        exact ⟨ret_bool hf.out.symm, rfl⟩
      · have ha1 : 65 ≤ (s[0].toNat : Int) := by omega
        clear ha
        by_cases ha : (90 : Int) < (s[0].toNat : Int)
        · have hf := Lib.hid (nameOk_false_head s p0 (.inr ha))
          have hd : decide ((s[0].toNat : Int) ≤ 90) = false := decide_eq_false (by omega)
          go_enter Try.func81, Try.ntmps81
          go_wp2
          go_ret
          exact ⟨ret_bool hf.out.symm, rfl⟩
        · have ha2 : (s[0].toNat : Int) ≤ 90 := by omega
          clear ha
          go_enter Try.func81, Try.ntmps81
          go_wp2
          go_loop [3] (fun i => ∃ k : Nat, 1 ≤ k ∧ k ≤ s.size ∧ i = .int .i64 k ∧ Hid (∀ j (hj : j < s.size), 1 ≤ j → j < k → 97 ≤ (s[j].toNat : Int) ∧ (s[j].toNat : Int) ≤ 122)) (fun i => s.size - (intOf i).toNat)
          case atStart => exact ⟨1, Nat.le_refl _, by omega, rfl, fun j _ _ _ => by omega⟩
          case round =>
            obtain ⟨k, hk1, hk, rfl, HA⟩ := hrel
            by_cases hlt : k < s.size
            · by_cases hc : (s[k].toNat : Int) < 97
              · have hf := Lib.hid (nameOk_false_at s k hk1 hlt (.inl hc))
                go_wp2
                go_ret
                exact ⟨ret_bool hf.out.symm, rfl⟩
              · have hc1 : 97 ≤ (s[k].toNat : Int) := by omega
                clear hc
                by_cases hc : (122 : Int) < (s[k].toNat : Int)
                · have hf := Lib.hid (nameOk_false_at s k hk1 hlt (.inr hc))
                  go_wp2
                  go_ret
                  exact ⟨ret_bool hf.out.symm, rfl⟩
                · have hc2 : (s[k].toNat : Int) ≤ 122 := by omega
                  clear hc
                  go_wp2
                  go_round
                  case rel => exact ⟨k + 1, by omega, by omega, by go_num, fun j hj h1 h2 => by
                    rcases Nat.lt_or_ge j k with h | h
                    · exact HA.out j hj h1 h
                    · obtain rfl : j = k := by omega
                      exact ⟨hc1, hc2⟩⟩
                  case measure => simp [intOf]; omega
            · have hf := Lib.hid (nameOk_true s p0 (by omega) ha1 ha2 (fun j hj h1 => HA.out j hj h1 (by omega)))
              go_wp2
              go_ret
              exact ⟨ret_bool hf.out.symm, rfl⟩

end Go.Proofs.Ytddjhneoacnkgaa
